/- What the walks of this seat ask over and over (a fact carried over new blocks, draws and stores), each proved once, as lemmas whose premise has a default proof. Conditions: none. -/
import Derived.Test.YtfnhnniecclleaaWWords
import Derived.Test.YtfnhnniecclleaaWLast
import Derived.Test.YtfnhnniecclleaaWMore
namespace Go.Proofs.Ytfnhnniecclleaa.Sh
open Go.RowKit Go.Proofs.YtfnhnniecclleaaW.PrintWords Go.Proofs.YtfnhnniecclleaaW.PrintLast Go.Proofs.YtfnhnniecclleaaW.PrintMore
theorem bl {n : Nat} {w W : World} (h : Below n w W := by repeat (first | (with_reducible first | exact Aside0.out (by assumption) | apply below_alloc | apply pw_below_drewN | apply below_drew1 | refine below_set ?_ (Aside0.out (by assumption))) | exact Aside0.out (by assumption))) : Below n w W := h
theorem bk {W : World} {g : Nat} {o : Obj} (h : W.heap[g]? = some o := by (with_reducible repeat (first | refine blk_drewN ?_ _ | refine blk_drew ?_ | refine blk_alloc ?_ _)); exact Aside0.out (by assumption)) : W.heap[g]? = some o := h
theorem dt {p : Prop} [Decidable p] (h : decide p = true := by first | (with_reducible assumption) | assumption) : p := of_decide_eq_true h
theorem sz {w W : World} {g : Nat} (hg : g = W.heap.size) (h : Below w.heap.size w W := by repeat (first | (with_reducible first | exact Aside0.out (by assumption) | apply below_alloc | apply pw_below_drewN | apply below_drew1 | refine below_set ?_ (Aside0.out (by assumption))) | exact Aside0.out (by assumption))) : w.heap.size ≤ g := hg ▸ below_size h
theorem nl {W : World} {g g' : Nat} {o : Obj} (hg : g' = W.heap.size) (h : W.heap[g]? = some o := by (with_reducible repeat (first | refine blk_drewN ?_ _ | refine blk_drew ?_ | refine blk_alloc ?_ _)); exact Aside0.out (by assumption)) : g ≠ g' := hg ▸ Nat.ne_of_lt (blk_lt h)
theorem nr {W : World} {g g' : Nat} {o : Obj} (hg : g' = W.heap.size) (h : W.heap[g]? = some o := by (with_reducible repeat (first | refine blk_drewN ?_ _ | refine blk_drew ?_ | refine blk_alloc ?_ _)); exact Aside0.out (by assumption)) : g' ≠ g := hg ▸ Nat.ne_of_gt (blk_lt h)
inductive Mv : World → World → Prop
  | rfl {W : World} : Mv W W
  | al {W V : World} (h : Mv W V) (o : Obj) : Mv W (V.alloc o)
  | dn {W V : World} (h : Mv W V) (n : Nat) : Mv W (V.drewN n)
  | dr {W V : World} (h : Mv W V) : Mv W V.drew
theorem kR {α : Type} {d : Kd α} {e : Nat} {V W : World} {b : Nat} {ok : Nat → Prop} {v : Value} {xs : List α} (f : Aside0 (Kd.R d e V b ok v xs)) (m : Mv V W := by with_reducible repeat (first | exact Mv.rfl | apply Mv.al | apply Mv.dn | apply Mv.dr)) : Kd.R d e W b ok v xs := by
  induction m with
  | rfl => exact f.out
  | al _ o ih => exact Kd.R_alloc ih o
  | dn _ n ih => exact Kd.R_drewN ih n
  | dr _ ih => exact Kd.R_drew ih
theorem kS {α : Type} {d : Kd α} {e : Nat} {V W : World} {b : Nat} {ok : Nat → Prop} {v : Value} {xs : List α} (f : Aside0 (Kd.S d e V b ok v xs)) (m : Mv V W := by with_reducible repeat (first | exact Mv.rfl | apply Mv.al | apply Mv.dn | apply Mv.dr)) : Kd.S d e W b ok v xs := by
  induction m with
  | rfl => exact f.out
  | al _ o ih => exact Kd.S_alloc ih o
  | dn _ n ih => exact Kd.S_drewN ih n
  | dr _ ih => exact Kd.S_drew ih
theorem kN {α : Type} {d : Kd α} {e : Nat} {V W : World} {b : Nat} {ok : Nat → Prop} {v : Value} {xs : List α} (f : Aside0 (Kd.N d e V b ok v xs)) (m : Mv V W := by with_reducible repeat (first | exact Mv.rfl | apply Mv.al | apply Mv.dn | apply Mv.dr)) : Kd.N d e W b ok v xs := by
  induction m with
  | rfl => exact f.out
  | al _ o ih => exact Kd.N_alloc ih o
  | dn _ n ih => exact Kd.N_drewN ih n
  | dr _ ih => exact Kd.N_drew ih
theorem kV {α : Type} {d : Kd α} {e : Nat} {V W : World} {b : Nat} {ok : Nat → Prop} {v : Value} {xs : List α} (f : Aside0 (Kd.V d e V b ok v xs)) (m : Mv V W := by with_reducible repeat (first | exact Mv.rfl | apply Mv.al | apply Mv.dn | apply Mv.dr)) : Kd.V d e W b ok v xs := by
  induction m with
  | rfl => exact f.out
  | al _ o ih => exact Kd.V_alloc ih o
  | dn _ n ih => exact Kd.V_drewN ih n
  | dr _ ih => exact Kd.V_drew ih
theorem cx {n : Nat} {w W : World} {a : Addr} {v : Value} (hb : Aside0 (Below n w W)) (h : w.cell? a = some v) (hn : n = w.heap.size := by rfl) : W.cell? a = some v := by
  subst hn
  exact (hb.out.cell (World.block_lt_of_cell? w _ h)).trans h
theorem cn {w : World} {a b : Addr} {v : Value} {g : Nat} (h : w.cell? b = some v) (hg : Aside0 (w.heap.size ≤ g)) (e : b.block = a.block := by first | rfl | exact add_block _ _) : a.block ≠ g := Nat.ne_of_lt (Nat.lt_of_lt_of_le (e ▸ World.block_lt_of_cell? _ _ h) hg.out)
theorem ab {a b c : Nat} (hn : a ≠ c) (e : b = a := by first | exact add_block _ _ | rfl) : b ≠ c := e ▸ hn
theorem b2 {W : World} {g : Nat} {t : TypeId} {a b : Value} (h : W.heap[g]? = some (.cells #[a, b] t (0, 0))) : (W.cell? ⟨g, 0, none⟩ = some a ∧ W.cell? ⟨g, 1, none⟩ = some b) ∧ W.frozen? ⟨g, 0, none⟩ = false ∧ W.frozen? ⟨g, 1, none⟩ = false := ⟨⟨(blk_cell h 0).trans rfl, (blk_cell h 1).trans rfl⟩, blk_frozen h 0, blk_frozen h 1⟩
theorem b3 {W : World} {g : Nat} {t : TypeId} {a b c : Value} (h : W.heap[g]? = some (.cells #[a, b, c] t (0, 0))) : (W.cell? ⟨g, 0, none⟩ = some a ∧ W.cell? ⟨g, 1, none⟩ = some b ∧ W.cell? ⟨g, 2, none⟩ = some c) ∧ W.frozen? ⟨g, 0, none⟩ = false ∧ W.frozen? ⟨g, 1, none⟩ = false ∧ W.frozen? ⟨g, 2, none⟩ = false := ⟨⟨(blk_cell h 0).trans rfl, (blk_cell h 1).trans rfl, (blk_cell h 2).trans rfl⟩, blk_frozen h 0, blk_frozen h 1, blk_frozen h 2⟩
end Go.Proofs.Ytfnhnniecclleaa.Sh
