/- What is held between the calls of FlowFresh. Conditions: none. -/
import Derived.Test.YtfnhnniecclleaaFreshE
namespace Go.Proofs.Ytfnhnniecclleaa.Fresh
open Go.RowKit Go.Proofs.YtfnhnniecclleaaW.PrintWords Go.Proofs.YtfnhnniecclleaaW.PrintLast Go.Proofs.YtfnhnniecclleaaW.PrintMore Go.Proofs.Ytfnhnniecclleaa.PA
section
variable {W V W1 : World} {M n sz nI nN nO g10 : Nat} {t : TypeId} {v a b c : Value}
theorem RR.below (h : RR W M t v n sz) (hb : Below W.heap.size W V) : RR V M t v n sz := h.move (fun k _ hk => hb.block k (blk_lt hk))
theorem RR.set3 (h : RR W M t v n sz) (g : Nat) (x y z : Value) : RR (((W.setCell ⟨g, 0, none⟩ x).setCell ⟨g, 1, none⟩ y).setCell ⟨g, 2, none⟩ z) M t v n sz := ((h.set g 0 x).set g 1 y).set g 2 z
theorem TN.below (h : TN W M v n) (hb : Below W.heap.size W V) : TN V M v n := by
  rcases h with h | ⟨b, c, cs', h1, h2, h3, h4⟩
  · exact .inl h
  · refine .inr ⟨b, c, cs', h1, h2, blk_below h3 hb, fun i hi => ?_⟩
    obtain ⟨x, m, hx, hr⟩ := h4 i hi
    exact ⟨x, m, hx, hr.below hb⟩
theorem TN.set3 (h : TN W M v n) {g : Nat} {p q r : Value} (hg : W.heap[g]? = some (.cells #[p, q, r] 25 (0, 0))) (x y z : Value) : TN (((W.setCell ⟨g, 0, none⟩ x).setCell ⟨g, 1, none⟩ y).setCell ⟨g, 2, none⟩ z) M v n :=
  ((h.set hg (by decide) 0 x).set (blk_put hg 0 x rfl) (by decide) 1 y).set (blk_put (blk_put hg 0 x rfl) 1 y rfl) (by decide) 2 z
theorem TN.at2 (h : TN W M v n) {i : Nat} (hi : i < n) : ∃ (b c : Nat) (cs : Array Value) (u : Value) (m : Nat), v = .slice (some ⟨b, 0, none⟩) n c ∧ W.heap[b]? = some (.cells cs 62 (0, 0)) ∧ cs[i]? = some u ∧ RR W M 64 u m 2 := by
  rcases h with ⟨_, h⟩ | ⟨b, c, cs, h1, h2, h3, h4⟩
  · omega
  · obtain ⟨u, m, hu, hr⟩ := h4 i hi
    exact ⟨b, c, cs, u, m, h1, h3, hu, hr⟩
/-- What Trim answered. -/
structure P1 (M : Nat) (W1 : World) (a b c : Value) (nI nN nO : Nat) (W : World) : Prop where
  bb : Below M W1 W
  ti : RR W M 3 a nI 1
  tn : TN W M b nN
  t2 : RR W M 3 c nO 1
theorem P1.below (h : P1 M W1 a b c nI nN nO W) (hM : M ≤ W.heap.size) (hb : Below W.heap.size W V) : P1 M W1 a b c nI nN nO V := ⟨h.bb.trans (hb.mono hM), h.ti.below hb, h.tn.below hb, h.t2.below hb⟩
theorem P1.set3 (h : P1 M W1 a b c nI nN nO W) {g : Nat} {p q r : Value} (hM : M ≤ g) (hg : W.heap[g]? = some (.cells #[p, q, r] 25 (0, 0))) (x y z : Value) : P1 M W1 a b c nI nN nO (((W.setCell ⟨g, 0, none⟩ x).setCell ⟨g, 1, none⟩ y).setCell ⟨g, 2, none⟩ z) :=
  ⟨below_three h.bb hM, h.ti.set3 g x y z, h.tn.set3 hg x y z, h.t2.set3 g x y z⟩
/-- The block g of a variable. -/
def PB (M : Nat) (g : Nat) (t : TypeId) (a b c : Value) (W : World) : Prop := M ≤ g ∧ W.heap[g]? = some (.cells #[a, b, c] t (0, 0))
theorem PB.below {g : Nat} (h : PB M g t a b c W) (hb : Below W.heap.size W V) : PB M g t a b c V := ⟨h.1, blk_below h.2 hb⟩
theorem PB.lt {g : Nat} (h : PB M g t a b c W) : g < W.heap.size := blk_lt h.2
theorem PB.other {g k : Nat} (h : PB M g t a b c W) (hk : g ≠ k) (x y z : Value) : PB M g t a b c (((W.setCell ⟨k, 0, none⟩ x).setCell ⟨k, 1, none⟩ y).setCell ⟨k, 2, none⟩ z) := ⟨h.1, (other_three hk).trans h.2⟩
theorem PB.cells {g : Nat} (h : PB M g t a b c W) : (W.cell? ⟨g, 0, none⟩ = some a ∧ W.cell? ⟨g, 1, none⟩ = some b ∧ W.cell? ⟨g, 2, none⟩ = some c) ∧ W.frozen? ⟨g, 0, none⟩ = false ∧ W.frozen? ⟨g, 1, none⟩ = false ∧ W.frozen? ⟨g, 2, none⟩ = false :=
  ⟨⟨(blk_cell h.2 0).trans rfl, (blk_cell h.2 1).trans rfl, (blk_cell h.2 2).trans rfl⟩, blk_frozen h.2 0, blk_frozen h.2 1, blk_frozen h.2 2⟩
end
end Go.Proofs.Ytfnhnniecclleaa.Fresh
