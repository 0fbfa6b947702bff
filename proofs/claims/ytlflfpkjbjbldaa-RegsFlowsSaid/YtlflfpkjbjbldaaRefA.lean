import Derived.Test.YtlflfpkjbjbldaaRunC
namespace Go.Proofs.Ytlflfpkjbjbldaa.PA
open Go.RowKit Go.Proofs.YtlflfpkjbjbldaaW.PrintWords Go.Proofs.YtlflfpkjbjbldaaW.PrintLast Go.Proofs.YtlflfpkjbjbldaaW.PrintMore
attribute [local go_sem] max2_int min2_int max_two min_two max_three min_three max_four min_four
set_option linter.unusedVariables false
set_option linter.unusedSimpArgs false
/-! the reference's Run -/
def OkT (g8 g9 g10 g11 : Nat) (k : Nat) : Prop := k ≠ g8 ∧ k ≠ g9 ∧ k ≠ g10 ∧ k ≠ g11
def RowV (w : World) (ok : Nat → Prop) (R : Cells) (V : List Value) : Prop := V.length = R.length ∧ ∀ (j : Nat) (o : Option (List Int)), R[j]? = some o → ∃ A n c, V[j]? = some (.slice A n c) ∧ ∀ l, o = some l → n = l.length ∧ n ≤ c ∧ Kd.F (Kd.int .u8) w ok A n l
def setsV (R : Cells) : List Value := R.map fun o => .bool o.isSome
/-- The reference's four rows in memory. -/
structure RH (base : Nat) (w : World) (g8 g9 g10 g11 : Nat) (R O : Cells) (V U : List Value) : Prop where
  b8 : w.heap[g8]? = some (.cells V.toArray 68 (0, 0))
  b9 : w.heap[g9]? = some (.cells (setsV R).toArray 4 (0, 0))
  b10 : w.heap[g10]? = some (.cells U.toArray 68 (0, 0))
  b11 : w.heap[g11]? = some (.cells (setsV O).toArray 4 (0, 0))
  v8 : RowV w (OkT g8 g9 g10 g11) R V
  v10 : RowV w (OkT g8 g9 g10 g11) O U
  n8 : g8 ≠ g10
  n9 : g9 ≠ g11
  h8 : base ≤ g8
  h9 : base ≤ g9
  h10 : base ≤ g10
  h11 : base ≤ g11
  hw : base ≤ w.heap.size
  rl : R.length ≤ 256
  ol : O.length ≤ 64
theorem RowV.step {w w' : World} {ok : Nat → Prop} {R : Cells} {V : List Value} (h : RowV w ok R V) (hb : ∀ k, ok k → k < w.heap.size → w'.heap[k]? = w.heap[k]?) : RowV w' ok R V :=
  ⟨h.1, fun j o ho => by
    obtain ⟨A, n, c, h1, h2⟩ := h.2 j o ho
    exact ⟨A, n, c, h1, fun l hl => ⟨(h2 l hl).1, (h2 l hl).2.1, Kd.F_step (h2 l hl).2.2 hb⟩⟩⟩
theorem RowV.set {w : World} {ok : Nat → Prop} {R : Cells} {V : List Value} (h : RowV w ok R V) (D : Nat) (l : List Int) (A : Option Addr) (c : Nat) (hc : l.length ≤ c) (hF : Kd.F (Kd.int .u8) w ok A l.length l) : RowV w ok (R.set D (some l)) (V.set D (.slice A l.length c)) := by
  refine ⟨by rw [List.length_set, List.length_set]; exact h.1, fun j o ho => ?_⟩
  by_cases hj : D = j
  · subst hj
    rw [List.getElem?_set, if_pos rfl] at ho
    have hD : D < R.length := by
      rcases Nat.lt_or_ge D R.length with h1 | h1
      · exact h1
      · rw [if_neg (by omega)] at ho; cases ho
    rw [if_pos hD] at ho
    obtain rfl := Option.some.inj ho
    refine ⟨A, l.length, c, by rw [List.getElem?_set, if_pos rfl, if_pos (by rw [h.1]; exact hD)], fun l' hl => ?_⟩
    obtain rfl := Option.some.inj hl
    exact ⟨rfl, hc, hF⟩
  · rw [List.getElem?_set, if_neg hj] at ho
    obtain ⟨A', n, c', h1, h2⟩ := h.2 j o ho
    exact ⟨A', n, c', by rw [List.getElem?_set, if_neg hj]; exact h1, h2⟩
section
variable {base : Nat} {w : World} {g8 g9 g10 g11 : Nat} {R O : Cells} {V U : List Value} (h : RH base w g8 g9 g10 g11 R O V U)
include h
theorem RH.step {w' : World} (hb : ∀ k, k < w.heap.size → w'.heap[k]? = w.heap[k]?) (hs : w.heap.size ≤ w'.heap.size) : RH base w' g8 g9 g10 g11 R O V U :=
  ⟨(hb g8 (blk_lt h.b8)).trans h.b8, (hb g9 (blk_lt h.b9)).trans h.b9, (hb g10 (blk_lt h.b10)).trans h.b10, (hb g11 (blk_lt h.b11)).trans h.b11, h.v8.step (fun k _ hk => hb k hk), h.v10.step (fun k _ hk => hb k hk), h.n8, h.n9, h.h8, h.h9, h.h10, h.h11, Nat.le_trans h.hw hs, h.rl, h.ol⟩
theorem RH.below {w' : World} (hb : Below w.heap.size w w') : RH base w' g8 g9 g10 g11 R O V U := h.step (fun k hk => hb.block k hk) hb.size
theorem RH.alloc (o : Obj) : RH base (w.alloc o) g8 g9 g10 g11 R O V U := h.below (below_alloc (Below.refl _ _) o)
theorem RH.drew : RH base w.drew g8 g9 g10 g11 R O V U := h.step (fun _ _ => rfl) (Nat.le_refl _)
theorem RH.c8 (j : Nat) (hj : j < R.length) : ∃ A n c, w.cell? ⟨g8, j, none⟩ = some (.slice A n c) ∧ ∀ l, R[j] = some l → n = l.length ∧ n ≤ c ∧ Kd.F (Kd.int .u8) w (OkT g8 g9 g10 g11) A n l := by
  obtain ⟨A, n, c, h1, h2⟩ := h.v8.2 j R[j] (List.getElem?_eq_getElem hj)
  exact ⟨A, n, c, (blk_cell h.b8 j).trans (by rw [List.getElem?_toArray]; exact h1), h2⟩
theorem RH.c10 (j : Nat) (hj : j < O.length) : ∃ A n c, w.cell? ⟨g10, j, none⟩ = some (.slice A n c) ∧ ∀ l, O[j] = some l → n = l.length ∧ n ≤ c ∧ Kd.F (Kd.int .u8) w (OkT g8 g9 g10 g11) A n l := by
  obtain ⟨A, n, c, h1, h2⟩ := h.v10.2 j O[j] (List.getElem?_eq_getElem hj)
  exact ⟨A, n, c, (blk_cell h.b10 j).trans (by rw [List.getElem?_toArray]; exact h1), h2⟩
theorem RH.c9 (j : Nat) (hj : j < R.length) : w.cell? ⟨g9, j, none⟩ = some (.bool R[j].isSome) := (blk_cell h.b9 j).trans (by simp [setsV, hj])
theorem RH.c11 (j : Nat) (hj : j < O.length) : w.cell? ⟨g11, j, none⟩ = some (.bool O[j].isSome) := (blk_cell h.b11 j).trans (by simp [setsV, hj])
end
/-- What a step comes to, by the reference. -/
def rdoV (k size : Nat) (bl : List (List Int)) (R O : Cells) (s : S38) : Option (Option (Cells × Cells)) :=
  if s.f0 = 1 then some (if inR s.f1 R.length then some (R.set s.f1.toNat (some (List.replicate size 0)), O) else none)
  else if s.f0 = 2 then (if inR s.f1 R.length then (if inR s.f2 bl.length then (recoupref01_Copy.f (rd_L13 bl s.f2)).bind fun y => some (some (R.set s.f1.toNat (some y), O)) else some none) else some none)
  else if s.f0 = 3 then (if inR s.f1 R.length then (if inR s.f2 R.length then (match getC R s.f1, getC R s.f2 with
    | some a, some b => (recoupref01_Mac.f k a s.f3 b).bind fun y => some (some (R.set s.f1.toNat (some y.1), O))
    | _, _ => some none) else some none) else some none)
  else if s.f0 = 4 then (if inR s.f2 R.length then (match getC R s.f2 with
    | some a => if inR s.f1 O.length then (match getC O s.f1 with
      | none => (recoupref01_Copy.f a).bind fun y => some (some (R, O.set s.f1.toNat (some y)))
      | some _ => some none) else some none
    | none => some none) else some none)
  else some none
def rrunS (k size : Nat) (bl : List (List Int)) : List S38 → Cells → Cells → Option (Option (Cells × Cells))
  | [], R, O => some (some (R, O))
  | s :: r, R, O => (rdoV k size bl R O s).bind fun X => match X with
    | none => some none
    | some (R', O') => rrunS k size bl r R' O'
end Go.Proofs.Ytlflfpkjbjbldaa.PA
