/- FlowFresh: what is held while the answered blocks are spoilt, one behind the other. Conditions: none. -/
import Derived.Test.YtfnhnniecclleaaFreshF
namespace Go.Proofs.Ytfnhnniecclleaa.Fresh
open Go.RowKit Go.Proofs.YtfnhnniecclleaaW.PrintWords Go.Proofs.YtfnhnniecclleaaW.PrintLast Go.Proofs.YtfnhnniecclleaaW.PrintMore Go.Proofs.Ytfnhnniecclleaa.PA
section
variable {W V W1 : World} {M g12 nP : Nat} {d e f vo : Value} {X : List (List Int)}
structure SO (M : Nat) (W1 : World) (g12 : Nat) (d e f vo : Value) (nP : Nat) (X : List (List Int)) (W : World) : Prop where
  bb : Below M W1 W
  b12 : W.heap[g12]? = some (.cells #[d, e, f] 25 (0, 0))
  oi : RR W M 3 d nP 1
  ou : OU W M vo X
theorem SO.below (h : SO M W1 g12 d e f vo nP X W) (hM : M ≤ W.heap.size) (hb : Below W.heap.size W V) : SO M W1 g12 d e f vo nP X V := ⟨h.bb.trans (hb.mono hM), blk_below h.b12 hb, h.oi.below hb, h.ou.move hb⟩
theorem SO.drewN (h : SO M W1 g12 d e f vo nP X W) (m : Nat) : SO M W1 g12 d e f vo nP X (W.drewN m) := ⟨pw_below_drewN h.bb m, h.b12, h.oi, h.ou⟩
theorem SO.size (h : SO M W1 g12 d e f vo nP X W) : W1.heap.size ≤ W.heap.size := h.bb.size
/-- Spoil on one of the blocks. -/
theorem spoil_any (hM : M = W1.heap.size) (h : SO M W1 g12 d e f vo nP X W) {i : Nat} {x : List Int} (hi : X[i]? = some x) {ob oc : Nat} {u : Value} (hv : vo = .slice (some ⟨ob, 0, none⟩) X.length oc) (hu : W.cell? ⟨ob, i, none⟩ = some u) (hU : UR W M u x) (hx : x.length + 3 < 140737488355328) (a1 : Int) (N0 : Nat) (hN : ∀ b, u.ownBlock = some b → b < N0) :
    Calls Try.prog 33 #[u, .int .u8 a1] W fun e' W' => e' = .returned (.tuple #[]) ∧ ∃ x' : List Int, x'.length = x.length ∧ SO M W1 g12 d e f vo nP (X.set i x') W' ∧ W.heap.size ≤ W'.heap.size ∧ ∀ k, N0 ≤ k → k < W.heap.size → W'.heap[k]? = W.heap[k]? := by
  rcases hU with ⟨rfl, rfl⟩ | ⟨b, c, cs, rfl, hMb, hb, hs, hxc, hy⟩
  · refine (spoil_nil a1 W).mono fun e' W' ⟨h1, h2⟩ => ⟨h1, [], rfl, ?_, h2.size, fun k _ hk => h2.block k hk⟩
    have hX : X.set i [] = X := by
      apply List.ext_getElem?
      intro j
      by_cases hj : i = j
      · subst hj
        rw [List.getElem?_set_self (List.getElem?_eq_some_iff.1 hi).1, hi]
      · rw [List.getElem?_set_ne hj]
    rw [hX]
    exact h.below (by rw [hM]; exact h.size) h2
  · subst hM
    have hrb : RB W b x.length c := ⟨cs, hb, hs, hxc, fun j hj => ⟨x[j], hy j x[j] (List.getElem?_eq_getElem hj)⟩⟩
    refine (spoil_calls b x.length c a1 W1 W h.bb hMb hrb hx).mono fun e' W' ⟨h1, ⟨cs', hb', hs', hxc', hy'⟩, h3, h4⟩ => ?_
    have hk : ∀ k, k < W.heap.size → k ≠ b → W'.heap[k]? = W.heap[k]? := fun k h5 h6 => h4.2 k h5 h6
    obtain ⟨x', hl, hO⟩ := h.ou.spoilt hi hv hu hMb hk hb' hs' hxc' hy'
    have h12 : g12 ≠ b := blk_ne h.b12 hb (by decide)
    exact ⟨h1, x', hl, ⟨h3, (hk g12 (blk_lt h.b12) h12).trans h.b12, h.oi.move (fun k _ hk' => hk k (blk_lt hk') (blk_ne hk' hb (by decide))), hO⟩, h4.1, fun k h5 h6 => hk k h6 (by have := hN b rfl; omega)⟩
theorem map_set {i : Nat} {x x' : List Int} (hi : X[i]? = some x) (hl : x'.length = x.length) : (X.set i x').map List.length = X.map List.length := by
  apply List.ext_getElem?
  intro j
  by_cases hj : i = j
  · subst hj
    rw [List.getElem?_map, List.getElem?_map, List.getElem?_set_self (List.getElem?_eq_some_iff.1 hi).1, hi]
    simp [hl]
  · rw [List.getElem?_map, List.getElem?_map, List.getElem?_set_ne hj]
theorem rd_set {i q : Nat} {x' : List Int} (hne : i ≠ q) : rd_L9 (X.set i x') (q : Int) = rd_L9 X (q : Int) := by
  simp only [rd_L9, Int.toNat_natCast, List.getD_eq_getElem?_getD]
  rw [List.getElem?_set_ne hne]
end
end Go.Proofs.Ytfnhnniecclleaa.Fresh
