import Derived.Test.YtlflfpkjbjbldaaRefA
import Derived.Deep.CutRange
namespace Go.Proofs.Ytlflfpkjbjbldaa.PA
open Go.RowKit Go.Proofs.YtlflfpkjbjbldaaW.PrintWords Go.Proofs.YtlflfpkjbjbldaaW.PrintLast Go.Proofs.YtlflfpkjbjbldaaW.PrintMore
attribute [local go_sem] max2_int min2_int max_two min_two max_three min_three max_four min_four
set_option linter.unusedVariables false
set_option linter.unusedSimpArgs false
theorem sets_none (n : Nat) : (madeCells #[Value.bool false] n) = (setsV (List.replicate n none)).toArray := by
  apply Array.ext
  · simp [size_madeCells, setsV]
  · intro i h1 h2
    simp [madeCells, setsV, Nat.mod_one]
theorem rows_none (n : Nat) : (madeCells #[Value.slice none 0 0] n) = (List.replicate n (Value.slice none 0 0)).toArray := by
  apply Array.ext
  · simp [size_madeCells]
  · intro i h1 h2
    simp [madeCells, Nat.mod_one]
theorem RowV_none (w : World) (ok : Nat → Prop) (n : Nat) : RowV w ok (List.replicate n none) (List.replicate n (.slice none 0 0)) := by
  refine ⟨by simp, fun j o ho => ?_⟩
  rw [List.getElem?_replicate] at ho
  split at ho
  · rename_i hj
    obtain rfl := Option.some.inj ho
    exact ⟨none, 0, 0, by rw [List.getElem?_replicate, if_pos hj], fun l hl => by cases hl⟩
  · cases ho
/-- The four rows as they are made. -/
theorem RH.start {base nr no : Nat} (w : World) (hb : base ≤ w.heap.size) (h1 : nr ≤ 256) (h2 : no ≤ 64) :
    RH base ((((w.alloc (.cells (madeCells #[.slice none 0 0] nr) 68)).alloc (.cells (madeCells #[.bool false] nr) 4)).alloc (.cells (madeCells #[.slice none 0 0] no) 68)).alloc (.cells (madeCells #[.bool false] no) 4)) w.heap.size (w.heap.size + 1) (w.heap.size + 1 + 1) (w.heap.size + 1 + 1 + 1) (List.replicate nr none) (List.replicate no none) (List.replicate nr (.slice none 0 0)) (List.replicate no (.slice none 0 0)) := by
  have n1 : ∀ (x : World) (o : Obj), (x.alloc o).heap.size = x.heap.size + 1 := fun x o => by simp
  refine ⟨?_, ?_, ?_, ?_, RowV_none _ _ _, RowV_none _ _ _, by omega, by omega, by omega, by omega, by omega, by omega, by simp; omega, by simpa using h1, by simpa using h2⟩
  · rw [← rows_none]; exact blk_alloc (blk_alloc (blk_alloc (heap_alloc_new w _) _) _) _
  · rw [← sets_none]
    have h_ := blk_alloc (blk_alloc (heap_alloc_new (w.alloc (.cells (madeCells #[.slice none 0 0] nr) 68)) (.cells (madeCells #[.bool false] nr) 4)) (.cells (madeCells #[.slice none 0 0] no) 68)) (.cells (madeCells #[.bool false] no) 4)
    rwa [n1] at h_
  · rw [← rows_none]
    have h_ := blk_alloc (heap_alloc_new ((w.alloc (.cells (madeCells #[.slice none 0 0] nr) 68)).alloc (.cells (madeCells #[.bool false] nr) 4)) (.cells (madeCells #[.slice none 0 0] no) 68)) (.cells (madeCells #[.bool false] no) 4)
    rwa [n1, n1] at h_
  · rw [← sets_none]
    have h_ := heap_alloc_new (((w.alloc (.cells (madeCells #[.slice none 0 0] nr) 68)).alloc (.cells (madeCells #[.bool false] nr) 4)).alloc (.cells (madeCells #[.slice none 0 0] no) 68)) (.cells (madeCells #[.bool false] no) 4)
    rwa [n1, n1, n1] at h_
theorem getC_nat (R : Cells) (D : Nat) (hD : D < R.length) : getC R (D : Int) = R[D] := by simp [getC, hD, List.getD_eq_getElem?_getD]
/-- What came out, read. -/
theorem RH.outC {base : Nat} {w : World} {g8 g9 g10 g11 : Nat} {R O : Cells} {V U : List Value} (h : RH base w g8 g9 g10 g11 R O V U) (ha : O.all (fun o => o.isSome) = true) : Kd.C (Kd.slice 5 (Kd.int .u8)) w (some ⟨g10, 0, none⟩) (O.map (fun o => o.getD [])).length (O.map (fun o => o.getD [])) := by
  have hol := h.ol
  refine ⟨rfl, by rw [List.length_map]; omega, fun _ => ⟨_, rfl, fun j p hj => ?_⟩⟩
  have hjl : j < O.length := by
    have := (List.getElem?_eq_some_iff.1 hj).1
    simpa using this
  obtain ⟨A, n, c, hc, hl⟩ := h.c10 j hjl
  have h1 := List.all_eq_true.1 ha O[j] (List.getElem_mem _)
  cases hO : O[j] with
  | none => rw [hO] at h1; cases h1
  | some l =>
    obtain ⟨rfl, hn, hF⟩ := hl l hO
    have hp : p = l := by
      simp [hjl, hO] at hj
      exact hj.symm
    subst hp
    refine ⟨[.slice A p.length c], rfl, ⟨A, c, rfl, hn, Kd.F_now hF⟩, fun i u hu => ?_⟩
    have hi : i = 0 := by
      have := (List.getElem?_eq_some_iff.1 hu).1
      simp at this; exact this
    subst hi
    obtain rfl : .slice A p.length c = u := by simpa using hu
    show w.cell? ((⟨g10, 0, none⟩ : Addr).add (j * 1 + 0)) = _
    rw [add_plain, Nat.mul_one, Nat.add_zero]
    exact hc
end Go.Proofs.Ytlflfpkjbjbldaa.PA
