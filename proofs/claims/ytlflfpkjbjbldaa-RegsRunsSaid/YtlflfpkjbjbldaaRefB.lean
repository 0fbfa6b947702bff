import Derived.Test.YtlflfpkjbjbldaaRefA
import Derived.Deep.CutRange
namespace Go.Proofs.Ytlflfpkjbjbldaa.PA
open Go.RowKit Go.Proofs.YtlflfpkjbjbldaaW.PrintWords Go.Proofs.YtlflfpkjbjbldaaW.PrintLast Go.Proofs.YtlflfpkjbjbldaaW.PrintMore
attribute [local go_sem] max2_int min2_int max_two min_two max_three min_three max_four min_four
set_option linter.unusedVariables false
set_option linter.unusedSimpArgs false
theorem sets_none (n : Nat) : (madeCells #[Value.bool false] n) = (setsV (List.replicate n none)).toArray := by
  apply Array.ext
  · simp [size_madeCells, setsV]
  · intro i h1 h2
    simp [madeCells, setsV, Nat.mod_one]
theorem rows_none (n : Nat) : (madeCells #[Value.slice none 0 0] n) = (List.replicate n (Value.slice none 0 0)).toArray := by
  apply Array.ext
  · simp [size_madeCells]
  · intro i h1 h2
    simp [madeCells, Nat.mod_one]
theorem RowV_none (w : World) (ok : Nat → Prop) (n : Nat) : RowV w ok (List.replicate n none) (List.replicate n (.slice none 0 0)) := by
  refine ⟨by simp, fun j o ho => ?_⟩
  rw [List.getElem?_replicate] at ho
  split at ho
  · rename_i hj
    obtain rfl := Option.some.inj ho
    exact ⟨none, 0, 0, by rw [List.getElem?_replicate, if_pos hj], fun l hl => by cases hl⟩
  · cases ho
/-- The four rows as they are made. -/
theorem RH.start {base nr no : Nat} (w : World) (hb : base ≤ w.heap.size) (h1 : nr ≤ 256) (h2 : no ≤ 64) :
    RH base ((((w.alloc (.cells (madeCells #[.slice none 0 0] nr) 68)).alloc (.cells (madeCells #[.bool false] nr) 4)).alloc (.cells (madeCells #[.slice none 0 0] no) 68)).alloc (.cells (madeCells #[.bool false] no) 4)) w.heap.size (w.heap.size + 1) (w.heap.size + 1 + 1) (w.heap.size + 1 + 1 + 1) (List.replicate nr none) (List.replicate no none) (List.replicate nr (.slice none 0 0)) (List.replicate no (.slice none 0 0)) := by
  have n1 : ∀ (x : World) (o : Obj), (x.alloc o).heap.size = x.heap.size + 1 := fun x o => by simp
  refine ⟨?_, ?_, ?_, ?_, RowV_none _ _ _, RowV_none _ _ _, by omega, by omega, by omega, by omega, by omega, by omega, by simp; omega, by simpa using h1, by simpa using h2⟩
  · rw [← rows_none]; exact blk_alloc (blk_alloc (blk_alloc (heap_alloc_new w _) _) _) _
  · rw [← sets_none]
    have h_ := blk_alloc (blk_alloc (heap_alloc_new (w.alloc (.cells (madeCells #[.slice none 0 0] nr) 68)) (.cells (madeCells #[.bool false] nr) 4)) (.cells (madeCells #[.slice none 0 0] no) 68)) (.cells (madeCells #[.bool false] no) 4)
    rwa [n1] at h_
  · rw [← rows_none]
    have h_ := blk_alloc (heap_alloc_new ((w.alloc (.cells (madeCells #[.slice none 0 0] nr) 68)).alloc (.cells (madeCells #[.bool false] nr) 4)) (.cells (madeCells #[.slice none 0 0] no) 68)) (.cells (madeCells #[.bool false] no) 4)
    rwa [n1, n1] at h_
  · rw [← sets_none]
    have h_ := heap_alloc_new (((w.alloc (.cells (madeCells #[.slice none 0 0] nr) 68)).alloc (.cells (madeCells #[.bool false] nr) 4)).alloc (.cells (madeCells #[.slice none 0 0] no) 68)) (.cells (madeCells #[.bool false] no) 4)
    rwa [n1, n1, n1] at h_
theorem fin89 {base : Nat} {w0 w : World} {g8 g9 g10 g11 : Nat} {R O : Cells} {V U : List Value} (h : RH base w g8 g9 g10 g11 R O V U) (hB : Below base w0 w) {bp : Nat} {cs : Array Value} (hF : w.heap[bp]? = some (.cells cs 30 (0, 0))) (D : Nat) (l : List Int) (A : Option Addr) (c : Nat) (hc : l.length ≤ c) (hl : Kd.F (Kd.int .u8) w (OkT g8 g9 g10 g11) A l.length l) :
    RH base ((w.setCell ⟨g8, D, none⟩ (.slice A l.length c)).setCell ⟨g9, D, none⟩ (.bool true)) g8 g9 g10 g11 (R.set D (some l)) O (V.set D (.slice A l.length c)) U ∧ Below base w0 ((w.setCell ⟨g8, D, none⟩ (.slice A l.length c)).setCell ⟨g9, D, none⟩ (.bool true)) ∧ ((w.setCell ⟨g8, D, none⟩ (.slice A l.length c)).setCell ⟨g9, D, none⟩ (.bool true)).heap[bp]? = some (.cells cs 30 (0, 0)) :=
  ⟨h.set89 D l A c hc hl, (hB.setCell (p := ⟨g8, D, none⟩) h.h8 _).setCell (p := ⟨g9, D, none⟩) h.h9 _, (Below.heap_setCell _ ⟨g9, D, none⟩ _ bp (blk_ty_ne hF h.b9 (by decide))).trans ((Below.heap_setCell _ ⟨g8, D, none⟩ _ bp (blk_ty_ne hF h.b8 (by decide))).trans hF)⟩
theorem finOut {base : Nat} {w0 w : World} {g8 g9 g10 g11 : Nat} {R O : Cells} {V U : List Value} (h : RH base w g8 g9 g10 g11 R O V U) (hB : Below base w0 w) {bp : Nat} {cs : Array Value} (hF : w.heap[bp]? = some (.cells cs 30 (0, 0))) (D : Nat) (l : List Int) (A : Option Addr) (c : Nat) (hc : l.length ≤ c) (hl : Kd.F (Kd.int .u8) w (OkT g8 g9 g10 g11) A l.length l) :
    RH base ((w.setCell ⟨g10, D, none⟩ (.slice A l.length c)).setCell ⟨g11, D, none⟩ (.bool true)) g8 g9 g10 g11 R (O.set D (some l)) V (U.set D (.slice A l.length c)) ∧ Below base w0 ((w.setCell ⟨g10, D, none⟩ (.slice A l.length c)).setCell ⟨g11, D, none⟩ (.bool true)) ∧ ((w.setCell ⟨g10, D, none⟩ (.slice A l.length c)).setCell ⟨g11, D, none⟩ (.bool true)).heap[bp]? = some (.cells cs 30 (0, 0)) :=
  ⟨h.setOut D l A c hc hl, (hB.setCell (p := ⟨g10, D, none⟩) h.h10 _).setCell (p := ⟨g11, D, none⟩) h.h11 _, (Below.heap_setCell _ ⟨g11, D, none⟩ _ bp (blk_ty_ne hF h.b11 (by decide))).trans ((Below.heap_setCell _ ⟨g10, D, none⟩ _ bp (blk_ty_ne hF h.b10 (by decide))).trans hF)⟩
theorem fin8 {base : Nat} {w0 w : World} {g8 g9 g10 g11 : Nat} {R O : Cells} {V U : List Value} (h : RH base w g8 g9 g10 g11 R O V U) (hB : Below base w0 w) {bp : Nat} {cs : Array Value} (hF : w.heap[bp]? = some (.cells cs 30 (0, 0))) (D : Nat) (l : List Int) (A : Option Addr) (c : Nat) (hc : l.length ≤ c) (hl : Kd.F (Kd.int .u8) w (OkT g8 g9 g10 g11) A l.length l) (hset : (setsV R).set D (.bool true) = setsV R) :
    RH base (w.setCell ⟨g8, D, none⟩ (.slice A l.length c)) g8 g9 g10 g11 (R.set D (some l)) O (V.set D (.slice A l.length c)) U ∧ Below base w0 (w.setCell ⟨g8, D, none⟩ (.slice A l.length c)) ∧ (w.setCell ⟨g8, D, none⟩ (.slice A l.length c)).heap[bp]? = some (.cells cs 30 (0, 0)) :=
  ⟨h.set8 D l A c hc hl hset, hB.setCell (p := ⟨g8, D, none⟩) h.h8 _, (Below.heap_setCell _ ⟨g8, D, none⟩ _ bp (blk_ty_ne hF h.b8 (by decide))).trans hF⟩
theorem set_same (R : Cells) (D : Nat) (a : List Int) (h : R[D]? = some (some a)) : (setsV R).set D (.bool true) = setsV R := by
  refine List.ext_getElem? fun j => ?_
  rw [List.getElem?_set]
  split
  · rename_i hj; subst hj
    have hD := (List.getElem?_eq_some_iff.1 h).1
    rw [if_pos (by rw [sets_len]; exact hD)]
    simp [setsV, h]
  · rfl
theorem getC_nat (R : Cells) (D : Nat) (hD : D < R.length) : getC R (D : Int) = R[D] := by simp [getC, hD, List.getD_eq_getElem?_getD]
/-- What came out, read. -/
theorem RH.outC {base : Nat} {w : World} {g8 g9 g10 g11 : Nat} {R O : Cells} {V U : List Value} (h : RH base w g8 g9 g10 g11 R O V U) (ha : O.all (fun o => o.isSome) = true) : Kd.C (Kd.slice 5 (Kd.int .u8)) w (some ⟨g10, 0, none⟩) (O.map (fun o => o.getD [])).length (O.map (fun o => o.getD [])) := by
  have hol := h.ol
  refine ⟨rfl, by rw [List.length_map]; omega, fun _ => ⟨_, rfl, fun j p hj => ?_⟩⟩
  have hjl : j < O.length := by
    have := (List.getElem?_eq_some_iff.1 hj).1
    simpa using this
  obtain ⟨A, n, c, hc, hl⟩ := h.c10 j hjl
  have h1 := List.all_eq_true.1 ha O[j] (List.getElem_mem _)
  cases hO : O[j] with
  | none => rw [hO] at h1; cases h1
  | some l =>
    obtain ⟨rfl, hn, hF⟩ := hl l hO
    have hp : p = l := by
      simp [hjl, hO] at hj
      exact hj.symm
    subst hp
    refine ⟨[.slice A p.length c], rfl, ⟨A, c, rfl, hn, Kd.F_now hF⟩, fun i u hu => ?_⟩
    have hi : i = 0 := by
      have := (List.getElem?_eq_some_iff.1 hu).1
      simp at this; exact this
    subst hi
    obtain rfl : .slice A p.length c = u := by simpa using hu
    show w.cell? ((⟨g10, 0, none⟩ : Addr).add (j * 1 + 0)) = _
    rw [add_plain, Nat.mul_one, Nat.add_zero]
    exact hc
set_option maxRecDepth 1000000 in
set_option maxHeartbeats 4000000 in
theorem recoupref23_Run.calls (k : Nat) (A0_0 : Option Addr) (c0_0 : Nat) (l0_0 : List (S38)) (a0_1 : Int) (a0_2 : Int) (a0_3 : Int) (A1 : Option Addr) (c1 : Nat) (l1 : List (List Int)) (r1 : List (List Int)) (r2 : Int) (w : World) (hr0_0 : Kd.C k38 w A0_0 l0_0.length l0_0) (hc0_0 : l0_0.length ≤ c0_0) (hr1 : Kd.C (Kd.slice 5 (Kd.int .u8)) w A1 l1.length l1) (hc1 : l1.length ≤ c1) (h : recoupref23_Run.f k l0_0 a0_1 a0_2 a0_3 l1 = some (r1, r2)) :
    Calls Try.prog 13 #[.agg #[.slice A0_0 l0_0.length c0_0, .int .i64 a0_1, .int .i64 a0_2, .int .u64 a0_3], .slice A1 l1.length c1] w fun e w' => ∃ A c, e = .returned (.tuple #[.slice A r1.length c, .int .i64 r2]) ∧ r1.length ≤ c ∧ Kd.C (Kd.slice 5 (Kd.int .u8)) w' A r1.length r1 ∧ Below w.heap.size w w' := by
  have hu30 := Try.underlying30
  have hu38 := Try.underlying38
  obtain ⟨bp, hbp⟩ : ∃ bp, w.heap.size = bp := ⟨_, rfl⟩
  obtain ⟨W0, hW0⟩ : ∃ W0, w.alloc (.cells #[.slice A0_0 l0_0.length c0_0, .int .i64 a0_1, .int .i64 a0_2, .int .u64 a0_3] 30) = W0 := ⟨_, rfl⟩
  have hb0 : Below w.heap.size w W0 := hW0 ▸ below_alloc (Below.refl _ _) _
  have hbf : W0.heap[w.heap.size]? = some (.cells #[.slice A0_0 l0_0.length c0_0, .int .i64 a0_1, .int .i64 a0_2, .int .u64 a0_3] 30 (0, 0)) := hW0 ▸ heap_alloc_new w _
  have hmx : l1.length ≤ 9223372036854775807 := hr1.2.1
  have HR0 := Aside0.mk hr0_0
  have HR1 := Aside0.mk hr1
  have H := Aside0.mk h
  rw [hbp] at hb0 hbf
  have HB0 := Aside0.mk hb0
  have HBF := Aside0.mk hbf
  have HW0 := Aside0.mk hW0
  have HBPE := Aside0.mk hbp
  clear hr0_0 hr1 h hb0 hbf hW0 hc0_0 hbp
  go_enter Try.func13, Try.ntmps13
  go_wp2_with fail
  rw [HW0.out, HBPE.out]
  go_loopw [6, 7] (fun v6 v7 w' => ∃ i : Nat, i ≤ l1.length ∧ v7 = .int .i64 i ∧ v6 = .int .i64 ((if i = 0 then 0 else sizeB l1 : Nat) : Int) ∧ Aside0 ((l1.take i).all (fun b => decide (b.length = sizeB l1)) = true) ∧ w' = W0) (fun _ v _ => l1.length - (intOf v).toNat)
  case atStart => exact ⟨0, Nat.zero_le _, rfl, rfl, ⟨rfl⟩, rfl⟩
  case round =>
    obtain ⟨i, hi, rfl, rfl, HAi, rfl⟩ := hrel
    have HBW : Aside0 (Below w.heap.size w wr) := ⟨by rw [HBPE.out]; exact HB0.out⟩
    by_cases hlt : i < l1.length
    · as_aux_lemma =>
        have hlt0 : 0 < l1.length := by omega
        obtain ⟨adb, Ab, cb, rfl, hb0, hcb, hbC⟩ := at_L13 (Kd.C_below HR1.out HBW.out) (i : Int) (by omega) (by omega)
        obtain ⟨adz, Az, cz, ez, hz0, hcz, hzC⟩ := at_L13 (Kd.C_below HR1.out HBW.out) (0 : Int) (by omega) (by omega)
        cases ez
        simp only [Int.toNat_natCast] at hb0
        rw [show ((0 : Int).toNat) = 0 from rfl, Addr.add_zero'] at hz0
        have hzl : (rd_L13 l1 0).length = sizeB l1 := rfl
        rw [hzl] at hz0 hcz hzC
        have hlz := hzC.2.1
        have htk : (l1.take (i + 1)).all (fun b => decide (b.length = sizeB l1)) = ((l1.take i).all (fun b => decide (b.length = sizeB l1)) && decide ((rd_L13 l1 (i : Int)).length = sizeB l1)) := by
          rw [List.take_succ_eq_append_getElem hlt, List.all_append]; simp [rd_L13, hlt]
        have hlm := hbC.2.1
        have HTK := Aside0.mk htk
        have hii : (i : Int) < (l1.length : Int) := by omega
        have hi0 : (0 : Int) < (l1.length : Int) := by omega
        obtain ⟨lb, hlb⟩ : ∃ lb, (rd_L13 l1 (i : Int)).length = lb := ⟨_, rfl⟩
        rw [hlb] at hb0 hlm HTK
        have HLB := Aside0.mk hlb
        clear htk hcb hbC hlb hzl hcz hzC
        by_cases hs : lb = sizeB l1
        · subst hs
          have hbne : (((sizeB l1 : Nat) : Int) != ((sizeB l1 : Nat) : Int)) = false := by simp
          go_wp2_with fail
          go_roundw
          case rel =>
            refine ⟨i + 1, by omega, by go_num, by rw [if_neg (by omega)], ⟨?_⟩, trivial⟩
            have h_ := HTK.out
            rw [HAi.out] at h_
            rw [h_]; simp
          case measure => simp [intOf]; omega
        · have hsb : ((lb : Int) != (sizeB l1 : Int)) = true := bne_iff_ne.2 (by omega)
          have h_ := H.out
          unfold recoupref23_Run.f at h_
          have hall : l1.all (fun b => decide (b.length = sizeB l1)) ≠ true := by
            intro ha
            have h1 := List.all_eq_true.1 ha l1[i] (List.getElem_mem _)
            have h2 := of_decide_eq_true h1
            apply hs
            rw [← HLB.out, ← h2]; simp [rd_L13, hlt]
          rw [if_neg hall] at h_
          simp only [Option.some.injEq, Prod.mk.injEq] at h_
          obtain ⟨rfl, rfl⟩ := h_
          clear hs hall
          go_wp2_with fail
          go_ret2
          exact ⟨none, 0, rfl, Nat.le_refl _, Kd.C_nil _ _, HBW.out⟩
    · obtain rfl : i = l1.length := by omega
      rw [List.take_length] at HAi
      have hsb : (if l1.length = 0 then 0 else sizeB l1) = sizeB l1 := by
        split
        · rename_i h0; rw [List.length_eq_zero_iff.1 h0]; rfl
        · rfl
      rw [hsb]
      clear hsb
      have hp0 : wr.cell? ⟨bp, 0, none⟩ = some (.slice A0_0 l0_0.length c0_0) := (blk_cell HBF.out 0).trans rfl
      have hp1 : wr.cell? ⟨bp, 1, none⟩ = some (.int .i64 a0_1) := (blk_cell HBF.out 1).trans rfl
      have hp2 : wr.cell? ⟨bp, 2, none⟩ = some (.int .i64 a0_2) := (blk_cell HBF.out 2).trans rfl
      have h_ := H.out
      unfold recoupref23_Run.f at h_
      rw [if_pos HAi.out] at h_
      by_cases hsz : sizeB l1 ≤ 140737488351232
      · rw [if_pos hsz] at h_
        by_cases hm : mayP l0_0 a0_1 a0_2
        · rw [if_pos hm] at h_
          obtain ⟨X, hX, hE⟩ := Option.bind_eq_some_iff.1 h_
          have HX := Aside0.mk hX
          have HE := Aside0.mk hE
          have HMP := Aside0.mk hm
          obtain ⟨m1, m2, m3, m4, m5⟩ := hm
          have b1 : decide (a0_1 < 0) = false := decide_eq_false (by omega)
          have b2 : decide (a0_1 > 256) = false := decide_eq_false (by omega)
          have b3 : decide (a0_2 < 0) = false := decide_eq_false (by omega)
          have b4 : decide (a0_2 > 64) = false := decide_eq_false (by omega)
          have b5 : decide ((l0_0.length : Int) > 65536) = false := decide_eq_false (by omega)
          obtain ⟨nr, hnr⟩ : ∃ nr : Nat, a0_1 = (nr : Int) := ⟨a0_1.toNat, by omega⟩
          obtain ⟨no, hno⟩ : ∃ no : Nat, a0_2 = (no : Int) := ⟨a0_2.toNat, by omega⟩
          subst hnr hno
          have mk1 := run_make_row' (P := Try.prog) 41 68 (.slice none 0 0) 24 Try.underlying41 info68 rfl .i64 .i64 nr (by omega) (by omega)
          have mk2 := run_make_row' (P := Try.prog) 41 68 (.slice none 0 0) 24 Try.underlying41 info68 rfl .i64 .i64 no (by omega) (by omega)
          have mk3 := run_make_row' (P := Try.prog) 73 4 (.bool false) 1 Try.underlying73 info4 rfl .i64 .i64 nr (by omega) (by omega)
          have mk4 := run_make_row' (P := Try.prog) 73 4 (.bool false) 1 Try.underlying73 info4 rfl .i64 .i64 no (by omega) (by omega)
          have hlp := blk_lt HBF.out
          have hbf3 := blk_alloc (blk_alloc (blk_alloc HBF.out (.cells (madeCells #[.slice none 0 0] nr) 68)) (.cells (madeCells #[.bool false] nr) 4)) (.cells (madeCells #[.slice none 0 0] no) 68)
          have hp23 : (((wr.alloc (.cells (madeCells #[.slice none 0 0] nr) 68)).alloc (.cells (madeCells #[.bool false] nr) 4)).alloc (.cells (madeCells #[.slice none 0 0] no) 68)).cell? ⟨bp, 2, none⟩ = some (.int .i64 (no : Int)) := (blk_cell hbf3 2).trans rfl
          clear hbf3
          have HMM := Aside0.mk (And.intro m2 m4)
          clear h_ hX hE m1 m2 m3 m4 m5 hlt hi
          go_wp2_with fail
          obtain ⟨w1, hw1⟩ : ∃ w1, ((((wr.alloc (.cells (madeCells #[.slice none 0 0] nr) 68)).alloc (.cells (madeCells #[.bool false] nr) 4)).alloc (.cells (madeCells #[.slice none 0 0] no) 68)).alloc (.cells (madeCells #[.bool false] no) 4)) = w1 := ⟨_, rfl⟩
          have hrh := RH.start (base := bp) wr (Nat.le_of_lt hlp) (nr := nr) (no := no) (by have := HMM.out.1; omega) (by have := HMM.out.2; omega)
          have hbf4 := blk_alloc (blk_alloc (blk_alloc (blk_alloc HBF.out (.cells (madeCells #[.slice none 0 0] nr) 68)) (.cells (madeCells #[.bool false] nr) 4)) (.cells (madeCells #[.slice none 0 0] no) 68)) (.cells (madeCells #[.bool false] no) 4)
          have hb4 := below_alloc (below_alloc (below_alloc (below_alloc HBW.out (.cells (madeCells #[.slice none 0 0] nr) 68)) (.cells (madeCells #[.bool false] nr) 4)) (.cells (madeCells #[.slice none 0 0] no) 68)) (.cells (madeCells #[.bool false] no) 4)
          rw [hw1] at hrh hbf4 hb4 ⊢
          generalize wr.heap.size + 1 + 1 + 1 = g11 at hrh ⊢
          generalize wr.heap.size + 1 + 1 = g10 at hrh ⊢
          generalize wr.heap.size + 1 = g9 at hrh ⊢
          generalize wr.heap.size = g8 at hrh ⊢
          have HRH := Aside0.mk hrh
          have HBF4 := Aside0.mk hbf4
          have HB4 := Aside0.mk hb4
          have hx0 : Aside0 (rrunS k (sizeB l1) l1 (l0_0.drop 0) (List.replicate nr none) (List.replicate no none) = some X) := ⟨HX.out⟩
          have hmx0 : l0_0.length ≤ 9223372036854775807 := HR0.out.2.1
          clear hrh hbf4 hb4 hw1 hp23 hp0 hp1 hp2 mk1 mk2 mk3 mk4 b1 b2 b3 b4 b5 hlp
          go_loopw [12] (fun v12 w' => ∃ (j : Nat) (R O : Cells) (V U : List Value), j ≤ l0_0.length ∧ v12 = .int .i64 j ∧ Aside0 (rrunS k (sizeB l1) l1 (l0_0.drop j) R O = some X) ∧ Aside0 (RH bp w' g8 g9 g10 g11 R O V U) ∧ Aside0 (R.length = nr ∧ O.length = no) ∧ Aside0 (w'.heap[bp]? = some (.cells #[.slice A0_0 l0_0.length c0_0, .int .i64 (nr : Int), .int .i64 (no : Int), .int .u64 a0_3] 30 (0, 0))) ∧ Aside0 (Below w.heap.size w w')) (fun v _ => l0_0.length - (intOf v).toNat)
          case atStart => exact ⟨0, _, _, _, _, Nat.zero_le _, rfl, hx0, HRH, ⟨by simp⟩, HBF4, HB4⟩
          case round =>
            obtain ⟨j, R, O, V, U, hj, rfl, HXj, HRj, HLj, HFj, HBj⟩ := hrel
            have p0 : wr.cell? ⟨bp, 0, none⟩ = some (.slice A0_0 l0_0.length c0_0) := (blk_cell HFj.out 0).trans rfl
            have p1 : wr.cell? ⟨bp, 1, none⟩ = some (.int .i64 (nr : Int)) := (blk_cell HFj.out 1).trans rfl
            have p2 : wr.cell? ⟨bp, 2, none⟩ = some (.int .i64 (no : Int)) := (blk_cell HFj.out 2).trans rfl
            by_cases hlt : j < l0_0.length
            · obtain ⟨ads, rfl, hs0, hs1, hs2, hs3⟩ := at_T38 (Kd.C_below HR0.out HBj.out) (j : Int) (by omega) (by omega)
              simp only [Int.toNat_natCast] at hs0 hs1 hs2 hs3
              have hd : l0_0.drop j = rd_T38 l0_0 j :: l0_0.drop (j + 1) := by
                rw [List.drop_eq_getElem_cons hlt]; simp [rd_T38, hlt]
              have hx := HXj.out
              rw [hd, rrunS] at hx
              obtain ⟨X1, hx1, hx2⟩ := Option.bind_eq_some_iff.1 hx
              obtain ⟨s, hs⟩ : ∃ s, rd_T38 l0_0 (j : Int) = s := ⟨_, rfl⟩
              rw [hs] at hs0 hs1 hs2 hs3 hx1
              have HX1 := Aside0.mk hx1
              have HX2 := Aside0.mk hx2
              have hji : (j : Int) < (l0_0.length : Int) := by omega
              clear hd hx hx1 hx2 hs HXj
              go_upto_region 18 with fail
              obtain ⟨w2, hw2⟩ : ∃ w2, wr.alloc (.cells #[Value.int .u8 s.f0, .int .i64 s.f1, .int .i64 s.f2, .int .u8 s.f3] 38) = w2 := ⟨_, rfl⟩
              have hR2 := HRj.out.alloc (.cells #[Value.int .u8 s.f0, .int .i64 s.f1, .int .i64 s.f2, .int .u8 s.f3] 38)
              have hF2 := blk_alloc HFj.out (.cells #[Value.int .u8 s.f0, .int .i64 s.f1, .int .i64 s.f2, .int .u8 s.f3] 38)
              have hB2 := below_alloc HBj.out (.cells #[Value.int .u8 s.f0, .int .i64 s.f1, .int .i64 s.f2, .int .u8 s.f3] 38)
              have hS2 := heap_alloc_new wr (.cells #[Value.int .u8 s.f0, .int .i64 s.f1, .int .i64 s.f2, .int .u8 s.f3] 38)
              rw [hw2] at hR2 hF2 hB2 hS2 ⊢
              obtain ⟨bs, hbs⟩ : ∃ bs, wr.heap.size = bs := ⟨_, rfl⟩
              rw [hbs] at hS2 ⊢
              have HR2 := Aside0.mk hR2
              have HF2 := Aside0.mk hF2
              have HB2 := Aside0.mk hB2
              have HS2 := Aside0.mk hS2
              clear p0 p1 p2 hs0 hs1 hs2 hs3 hR2 hF2 hB2 hS2 hw2 hbs HRj HFj HBj
              clear wr
              have p1 : w2.cell? ⟨bp, 1, none⟩ = some (.int .i64 (nr : Int)) := (blk_cell HF2.out 1).trans rfl
              have p2 : w2.cell? ⟨bp, 2, none⟩ = some (.int .i64 (no : Int)) := (blk_cell HF2.out 2).trans rfl
              have q0 : w2.cell? ⟨bs, 0, none⟩ = some (.int .u8 s.f0) := (blk_cell HS2.out 0).trans rfl
              have q1 : w2.cell? ⟨bs, 1, none⟩ = some (.int .i64 s.f1) := (blk_cell HS2.out 1).trans rfl
              have q2 : w2.cell? ⟨bs, 2, none⟩ = some (.int .i64 s.f2) := (blk_cell HS2.out 2).trans rfl
              have q3 : w2.cell? ⟨bs, 3, none⟩ = some (.int .u8 s.f3) := (blk_cell HS2.out 3).trans rfl
              have hnr2 : nr ≤ 256 := by have := HMM.out.1; omega
              obtain ⟨fb, hfb⟩ : ∃ fb, decide (inR s.f2 R.length ∧ (getC R s.f2).isSome = true) = fb := ⟨_, rfl⟩
              have HFB := Aside0.mk hfb
              obtain ⟨tb, htb⟩ : ∃ tb, decide (inR s.f1 R.length) = tb := ⟨_, rfl⟩
              have HTB := Aside0.mk htb
              clear hfb htb
              go_cut [14] from 70 to 236 (fun s14 wx => s14 = .bool fb ∧ wx = w2)
              case first =>
                as_aux_lemma =>
                  by_cases d1 : s.f2 ≥ 0
                  · have b1 : decide (s.f2 ≥ 0) = true := decide_eq_true d1
                    by_cases d2 : s.f2 < (nr : Int)
                    · have b2 : decide (s.f2 < (nr : Int)) = true := decide_eq_true d2
                      have hl := HLj.out.1
                      obtain ⟨S, hS⟩ : ∃ S : Nat, s.f2 = (S : Int) := ⟨s.f2.toNat, by omega⟩
                      have hSl : S < R.length := by omega
                      have c9 := HR2.out.c9 S hSl
                      have e : fb = R[S].isSome := by
                        rw [← HFB.out, hS]
                        simp [inR, getC, hSl, List.getD_eq_getElem?_getD]
                      rw [← e] at c9
                      have hS0 : (0 : Int) ≤ (S : Int) := by omega
                      have hS1 : (S : Int) < (nr : Int) := by omega
                      rw [hS] at q2 b1 b2
                      clear d1 d2 hS e hl
                      go_wp2_with fail
                      go_meet
                      exact ⟨rfl, rfl⟩
                    · have b2 : decide (s.f2 < (nr : Int)) = false := decide_eq_false d2
                      have e : fb = false := by
                        rw [← HFB.out, decide_eq_false_iff_not]
                        intro h1
                        have := h1.1.2
                        have := HLj.out.1
                        omega
                      subst e
                      clear d1 d2
                      go_wp2_with fail
                      go_meet
                      exact ⟨rfl, rfl⟩
                  · have b1 : decide (s.f2 ≥ 0) = false := decide_eq_false d1
                    have e : fb = false := by
                      rw [← HFB.out, decide_eq_false_iff_not]
                      intro h1
                      have := h1.1.1
                      omega
                    subst e
                    clear d1
                    go_wp2_with fail
                    go_meet
                    exact ⟨rfl, rfl⟩
              case rest =>
                obtain ⟨rfl, rfl⟩ := hcut
                go_upto_region 19 with fail
                go_cut [15] from 70 to 236 (fun s15 wx => s15 = .bool tb ∧ wx = wc)
                case first =>
                  as_aux_lemma =>
                    by_cases d1 : s.f1 ≥ 0
                    · have b1 : decide (s.f1 ≥ 0) = true := decide_eq_true d1
                      have e : decide (s.f1 < (nr : Int)) = tb := by
                        rw [← HTB.out, decide_eq_decide]
                        have := HLj.out.1
                        exact ⟨fun h => ⟨d1, by omega⟩, fun h => by have := h.2; omega⟩
                      clear d1
                      go_wp2_with fail
                      go_meet
                      exact ⟨by first | rfl | exact congrArg Value.bool e, rfl⟩
                    · have b1 : decide (s.f1 ≥ 0) = false := decide_eq_false d1
                      have e : tb = false := by
                        rw [← HTB.out, decide_eq_false_iff_not]
                        intro h1
                        have := h1.1
                        omega
                      subst e
                      clear d1
                      go_wp2_with fail
                      go_meet
                      exact ⟨rfl, rfl⟩
                case rest =>
                  obtain ⟨rfl, rfl⟩ := hcut
                  have hnone : Aside0 (X1 = none → r1 = [] ∧ r2 = 2) := ⟨fun e => by
                    have h1 := HX2.out
                    rw [e] at h1
                    obtain rfl : none = X := Option.some.inj h1
                    obtain ⟨e1, e2⟩ := Prod.mk.inj (Option.some.inj HE.out)
                    exact ⟨e1.symm, e2.symm⟩⟩
                  have HBb : Aside0 (Below bp w wc) := ⟨by rw [← HBPE.out]; exact HB2.out⟩
                  have hbple : bp ≤ wc.heap.size := Nat.le_of_lt (blk_lt HF2.out)
                  have hx1 := HX1.out
                  unfold rdoV at hx1
                  have e1 : ¬ bs = g8 := blk_ty_ne HS2.out HR2.out.b8 (by decide)
                  have e2 : ¬ g8 = bs := fun e => e1 e.symm
                  have e3 : ¬ bs = g9 := blk_ty_ne HS2.out HR2.out.b9 (by decide)
                  have e4 : ¬ g9 = bs := fun e => e3 e.symm
                  have e5 : ¬ g8 = g9 := HR2.out.nes.1
                  have e6 : ¬ g9 = g8 := fun e => e5 e.symm
                  have hszl := hsz
                  by_cases k1 : s.f0 = 1
                  · as_aux_lemma =>
                      rw [if_pos k1] at hx1
                      rw [k1] at q0
                      by_cases t : inR s.f1 R.length
                      · rw [if_pos t] at hx1
                        obtain rfl : some (R.set s.f1.toNat (some (List.replicate (sizeB l1) 0)), O) = X1 := Option.some.inj hx1
                        obtain rfl : true = tb := by rw [← HTB.out]; exact (decide_eq_true t).symm
                        obtain ⟨D, hD, hDl⟩ := inR_nat t
                        rw [hD, Int.toNat_natCast] at HX2
                        rw [hD] at q1
                        have hDn : D < nr := by have := HLj.out.1; omega
                        have hmk := run_make_row' (P := Try.prog) 68 5 (.int .u8 0) 1 Try.underlying68 info5 rfl .i64 .i64 (sizeB l1) (by omega) (by omega)
                        have hRA := HR2.out.alloc (.cells (madeCells #[.int .u8 0] (sizeB l1)) 5)
                        have hfin := fin89 hRA (HBb.out.alloc hbple (.cells (madeCells #[.int .u8 0] (sizeB l1)) 5)) (blk_alloc HF2.out _) D (List.replicate (sizeB l1) 0) (some ⟨wc.heap.size, 0, none⟩) (sizeB l1) (by simp) (F_newT (N := wc.heap.size) HR2.out.lts (Kd.R_of_own (enc := Value.int .u8) (by rw [List.length_replicate]; exact mk_row wc wc.heap.size (sizeB l1) (Nat.le_refl _) hszl) (fun _ _ => trivial)))
                        rw [List.length_replicate] at hfin
                        obtain ⟨A8', n8', k8', hcA8, _⟩ := hRA.c8 D hDl
                        have hcA9 := hRA.c9 D hDl
                        have hfA8 := blk_frozen hRA.b8 D
                        have hfA9 := blk_frozen hRA.b9 D
                        obtain ⟨A8d, n8d, k8d, hcD8, _⟩ := hRA.drew.c8 D hDl
                        have hcD9 := hRA.drew.c9 D hDl
                        have hfD8 := blk_frozen hRA.drew.b8 D
                        have hfD9 := blk_frozen hRA.drew.b9 D
                        have hD0 : (0 : Int) ≤ (D : Int) := by omega
                        have hD1 : (D : Int) < (nr : Int) := by omega
                        have nq1 := World.new_ne wc _ q1
                        have HFIN := Aside0.mk hfin
                        have HLR := Aside0.mk HLj.out
                        clear hfin hRA t hD hx1 k1
                        go_upto_region 22 with fail
                        go_region_held3 (fun w' => w'.cell? ⟨bs, 1, none⟩ = some (.int .i64 (D : Int))) (go_keep) (fail)
                        go_wp2_with fail
                        go_roundw
                        case rel => exact ⟨j + 1, _, _, _, _, by omega, by go_num, ⟨HX2.out⟩, ⟨HFIN.out.1.drew⟩, ⟨by simpa using HLR.out⟩, ⟨HFIN.out.2.2⟩, ⟨below_drew1 (by rw [HBPE.out]; exact HFIN.out.2.1)⟩⟩
                        case measure => simp [intOf]; omega
                      · rw [if_neg t] at hx1
                        obtain rfl : none = X1 := Option.some.inj hx1
                        obtain rfl : false = tb := by rw [← HTB.out]; exact (decide_eq_false t).symm
                        clear t hx1 k1
                        obtain ⟨rfl, rfl⟩ := hnone.out rfl
                        go_wp2_with fail
                        go_ret2
                        exact ⟨none, ⟨0, rfl⟩, Kd.C_nil _ _, HB2.out⟩
                  · rw [if_neg k1] at hx1
                    by_cases k2 : s.f0 = 2
                    · as_aux_lemma =>
                        rw [if_pos k2] at hx1
                        rw [k2] at q0
                        by_cases t : inR s.f1 R.length
                        · rw [if_pos t] at hx1
                          obtain rfl : true = tb := by rw [← HTB.out]; exact (decide_eq_true t).symm
                          by_cases t2 : inR s.f2 l1.length
                          · rw [if_pos t2] at hx1
                            obtain ⟨y, hcp, hx1⟩ := Option.bind_eq_some_iff.1 hx1
                            obtain rfl : some (R.set s.f1.toNat (some y), O) = X1 := Option.some.inj hx1
                            obtain ⟨D, hD, hDl⟩ := inR_nat t
                            obtain ⟨S, hS, hSl⟩ := inR_nat t2
                            rw [hD, Int.toNat_natCast] at HX2
                            rw [hD] at q1
                            rw [hS] at q2 hcp
                            have hDn : D < nr := by have := HLj.out.1; omega
                            have hD0 : (0 : Int) ≤ (D : Int) := by omega
                            have hD1 : (D : Int) < (nr : Int) := by omega
                            have hS0 : (0 : Int) ≤ (S : Int) := by omega
                            have hS1 : (S : Int) < (l1.length : Int) := by omega
                            have bS0 : decide ((S : Int) ≥ 0) = true := decide_eq_true hS0
                            have bS1 : decide ((S : Int) < (l1.length : Int)) = true := decide_eq_true hS1
                            obtain ⟨adb, Ab, cb, rfl, hb0, hcb, hbC⟩ := at_L13 (Kd.C_below HR1.out HB2.out) (S : Int) hS0 hS1
                            simp only [Int.toNat_natCast] at hb0
                            have hcpy := recoupref01_Copy.calls Ab cb (rd_L13 l1 (S : Int)) y wc.drew (Kd.C_below hbC (below_drew1 (Below.refl _ _))) hcb hcp
                            have HCPY := Aside0.mk hcpy
                            have hbz : (adb.add S).block < w.heap.size := by
                              obtain ⟨adb', _, _, e', hb', _⟩ := at_L13 HR1.out (S : Int) hS0 hS1
                              cases e'
                              simp only [Int.toNat_natCast] at hb'
                              exact World.block_lt_of_cell? w _ hb'
                            have hbz2 : (adb.add S).block < bp := by rw [← HBPE.out]; exact hbz
                            have e7 : ¬ (adb.add S).block = g8 := by have := HR2.out.h8; omega
                            have e8 : ¬ g8 = (adb.add S).block := fun e => e7 e.symm
                            have e9 : ¬ (adb.add S).block = g9 := by have := HR2.out.h9; omega
                            have e10 : ¬ g9 = (adb.add S).block := fun e => e9 e.symm
                            have e11 : ¬ adb.block = g8 := by rw [add_block] at e7; exact e7
                            have e12 : ¬ g8 = adb.block := fun e => e11 e.symm
                            have e13 : ¬ adb.block = g9 := by rw [add_block] at e9; exact e9
                            have e14 : ¬ g9 = adb.block := fun e => e13 e.symm
                            have HLR := Aside0.mk HLj.out
                            clear t t2 hD hS hx1 k1 k2 hcpy hcp hbC hcb hbz hbz2
                            go_upto_region 24 with fail
                            go_region_held3 (fun w' => w'.cell? ⟨bs, 1, none⟩ = some (.int .i64 (D : Int)) ∧ w'.cell? ⟨bs, 2, none⟩ = some (.int .i64 (S : Int)) ∧ w'.cell? (adb.add S) = some (.slice Ab (rd_L13 l1 (S : Int)).length cb)) (go_keep) ((go_at_call 27; refine HCPY.out.mono ?_; rintro e w3 ⟨v0, rfl, hr3, hb3⟩; have hb3' := below_then (below_drew1 (Below.refl wc.heap.size wc)) (Nat.le_refl _) hb3; have hk3 : ∀ k, k < wc.heap.size → w3.heap[k]? = wc.heap[k]? := (fun k hk => hb3'.block k hk); have j1 := Kd.cell_heap hk3 q1; have j2 := Kd.cell_heap hk3 q2; have j3 := Kd.cell_heap hk3 hb0; obtain ⟨Ay, cy, rfl, hcy, _⟩ := Kd.R_reads hr3; have hRA := HR2.out.below hb3'; have hfin := fin89 hRA (below_then HBb.out hbple hb3') ((hk3 bp (blk_lt HF2.out)).trans HF2.out) D y Ay cy hcy (F_newT (N := wc.heap.size) HR2.out.lts hr3); obtain ⟨A8', n8', k8', hcA8, _⟩ := hRA.c8 D hDl; have hcA9 := hRA.c9 D hDl; have hfA8 := blk_frozen hRA.b8 D; have hfA9 := blk_frozen hRA.b9 D; have HFIN := Aside0.mk hfin; clear hr3 hb3 hb3' hk3 hcy hRA hfin))
                            go_wp2_with fail
                            go_roundw
                            case rel => exact ⟨j + 1, _, _, _, _, by omega, by go_num, ⟨HX2.out⟩, ⟨HFIN.out.1⟩, ⟨by simpa using HLR.out⟩, ⟨HFIN.out.2.2⟩, ⟨by rw [HBPE.out]; exact HFIN.out.2.1⟩⟩
                            case measure => simp [intOf]; omega
                          · rw [if_neg t2] at hx1
                            obtain rfl : none = X1 := Option.some.inj hx1
                            by_cases t3 : s.f2 ≥ 0
                            · have bS0 : decide (s.f2 ≥ 0) = true := decide_eq_true t3
                              have bS1 : decide (s.f2 < (l1.length : Int)) = false := decide_eq_false (fun h => t2 ⟨t3, h⟩)
                              clear t t2 t3 hx1 k1 k2
                              obtain ⟨rfl, rfl⟩ := hnone.out rfl
                              go_wp2_with fail
                              go_ret2
                              exact ⟨none, ⟨0, rfl⟩, Kd.C_nil _ _, HB2.out⟩
                            · have bS0 : decide (s.f2 ≥ 0) = false := decide_eq_false t3
                              clear t t2 t3 hx1 k1 k2
                              obtain ⟨rfl, rfl⟩ := hnone.out rfl
                              go_wp2_with fail
                              go_ret2
                              exact ⟨none, ⟨0, rfl⟩, Kd.C_nil _ _, HB2.out⟩
                        · rw [if_neg t] at hx1
                          obtain rfl : none = X1 := Option.some.inj hx1
                          obtain rfl : false = tb := by rw [← HTB.out]; exact (decide_eq_false t).symm
                          clear t hx1 k1 k2
                          obtain ⟨rfl, rfl⟩ := hnone.out rfl
                          go_wp2_with fail
                          go_ret2
                          exact ⟨none, ⟨0, rfl⟩, Kd.C_nil _ _, HB2.out⟩
                    · rw [if_neg k2] at hx1
                      by_cases k3 : s.f0 = 3
                      · as_aux_lemma =>
                          rw [if_pos k3] at hx1
                          rw [k3] at q0
                          by_cases t : inR s.f1 R.length
                          · rw [if_pos t] at hx1
                            obtain rfl : true = tb := by rw [← HTB.out]; exact (decide_eq_true t).symm
                            obtain ⟨D, hD, hDl⟩ := inR_nat t
                            have hDn : D < nr := by have := HLj.out.1; omega
                            have hD0 : (0 : Int) ≤ (D : Int) := by omega
                            have hD1 : (D : Int) < (nr : Int) := by omega
                            have c9 := HR2.out.c9 D hDl
                            by_cases t2 : inR s.f2 R.length
                            · rw [if_pos t2] at hx1
                              obtain ⟨S, hS, hSl⟩ := inR_nat t2
                              have hSn : S < nr := by have := HLj.out.1; omega
                              have hS0 : (0 : Int) ≤ (S : Int) := by omega
                              have hS1 : (S : Int) < (nr : Int) := by omega
                              rw [hD, hS, getC_nat R D hDl, getC_nat R S hSl] at hx1
                              have hfb : (R[S].isSome) = fb := by
                                rw [← HFB.out, hS, getC_nat R S hSl]
                                rw [hS] at t2
                                cases hR : R[S] <;> simp [t2]
                              rw [hD] at q1
                              rw [hS] at q2
                              cases ha : R[D] with
                              | none =>
                                rw [ha] at hx1 c9
                                obtain rfl : none = X1 := by simpa using hx1
                                simp only [Option.isSome_none] at c9
                                clear t t2 hD hS hfb ha hx1 k1 k2 k3
                                obtain ⟨rfl, rfl⟩ := hnone.out rfl
                                go_wp2_with fail
                                go_ret2
                                exact ⟨none, ⟨0, rfl⟩, Kd.C_nil _ _, HB2.out⟩
                              | some a =>
                                rw [ha] at hx1 c9
                                simp only [Option.isSome_some] at c9
                                cases hb : R[S] with
                                | none =>
                                  rw [hb] at hx1 hfb
                                  obtain rfl : none = X1 := by simpa using hx1
                                  obtain rfl : false = fb := by simpa using hfb
                                  clear t t2 hD hS ha hb hx1 k1 k2 k3
                                  obtain ⟨rfl, rfl⟩ := hnone.out rfl
                                  go_wp2_with fail
                                  go_ret2
                                  exact ⟨none, ⟨0, rfl⟩, Kd.C_nil _ _, HB2.out⟩
                                | some b =>
                                  rw [hb] at hx1 hfb
                                  obtain rfl : true = fb := by simpa using hfb
                                  simp only at hx1
                                  obtain ⟨y, hmac, hx1⟩ := Option.bind_eq_some_iff.1 hx1
                                  obtain rfl := Option.some.inj hx1
                                  obtain ⟨y1, y2⟩ := y
                                  rw [Int.toNat_natCast] at HX2
                                  obtain ⟨AD, nD, cD, hcD, hlD⟩ := HR2.out.c8 D hDl
                                  obtain ⟨rfl, hnD, hFD⟩ := hlD a ha
                                  obtain ⟨AS, nS, cS, hcS, hlS⟩ := HR2.out.c8 S hSl
                                  obtain ⟨rfl, hnS, hFS⟩ := hlS b hb
                                  have hmc := recoupref01_Mac.calls k AD cD a s.f3 AS cS b y1 y2 wc.drew (Kd.F_now (Kd.F_drew hFD)) hnD (Kd.F_now (Kd.F_drew hFS)) hnS hmac
                                  have HMC := Aside0.mk hmc
                                  have HSET := Aside0.mk (set_same R D a (by rw [List.getElem?_eq_getElem hDl, ha]))
                                  have HLR := Aside0.mk HLj.out
                                  have hcDd : wc.drew.cell? ⟨g8, D, none⟩ = some (.slice AD a.length cD) := hcD
                                  have hcSd : wc.drew.cell? ⟨g8, S, none⟩ = some (.slice AS b.length cS) := hcS
                                  clear t t2 hD hS ha hb hlD hlS hFD hFS hnD hnS hmc hmac hx1 k1 k2 k3
                                  go_upto_region 26 with fail
                                  refine start_ (n := 21) (S := fun w' => w'.cell? ⟨bs, 1, none⟩ = some (.int .i64 (D : Int)) ∧ w'.cell? ⟨bs, 2, none⟩ = some (.int .i64 (S : Int)) ∧ w'.cell? ⟨bs, 3, none⟩ = some (.int .u8 s.f3) ∧ w'.cell? ⟨g8, D, none⟩ = some (.slice AD a.length cD) ∧ w'.cell? ⟨g8, S, none⟩ = some (.slice AS b.length cS)) (ds := [20]) #[false, false, false, false, false, false, false, false, false, false, false, false, false, false, false, false, false, false, false, false, false] (by kernel_rfl) rfl rfl ⟨q1, q2, q3, hcD, hcS⟩ (fun hHeld => ?_)
                                  refine pure_ (i := 0) (N := some 177) (v := ?_) (a' := ?_) #[true, false, false, false, false, false, false, false, false, false, false, false, false, false, false, false, false, false, false, false, false] rfl rfl (by kernel_rfl) (fun _ _ _ h => h) (Or.inl ⟨by rfl, ?_⟩) ?_ ?_
                                  rotate_left
                                  · intro w'
                                    go_simp
                                    with_reducible rfl
                                  rotate_left
                                  · simp only [Act.put, List.setIfInBounds_toArray, List.set_cons_zero, List.set_cons_succ, i64_w, i32_w]
                                    rfl
                                  refine pure_ (i := 1) (N := some 178) (v := ?_) (a' := ?_) #[true, true, false, false, false, false, false, false, false, false, false, false, false, false, false, false, false, false, false, false, false] rfl rfl (by kernel_rfl) (fun _ _ _ h => h) (Or.inl ⟨by rfl, ?_⟩) ?_ ?_
                                  rotate_left
                                  · intro w'
                                    go_simp
                                    with_reducible rfl
                                  rotate_left
                                  · simp only [Act.put, List.setIfInBounds_toArray, List.set_cons_zero, List.set_cons_succ, i64_w, i32_w]
                                    rfl
                                  refine take_ (i := 2) (N := some 179) (v := ?_) (a' := ?_) #[true, true, true, false, false, false, false, false, false, false, false, false, false, false, false, false, false, false, false, false, false] rfl rfl (by kernel_rfl) (fun _ _ _ h => h) (Or.inl ⟨by rfl, ?_⟩) hHeld ?_ ?_
                                  rotate_left
                                  · rintro w' ⟨s0, s1, s2, s3, s4⟩
                                    go_simp
                                    with_reducible rfl
                                  rotate_left
                                  · simp only [Act.put, List.setIfInBounds_toArray, List.set_cons_zero, List.set_cons_succ, i64_w, i32_w]
                                    rfl
                                  refine pure_ (i := 3) (N := some 180) (v := ?_) (a' := ?_) #[true, true, true, true, false, false, false, false, false, false, false, false, false, false, false, false, false, false, false, false, false] rfl rfl (by kernel_rfl) (fun _ _ _ h => h) (Or.inl ⟨by rfl, ?_⟩) ?_ ?_
                                  rotate_left
                                  · intro w'
                                    go_simp
                                    with_reducible rfl
                                  rotate_left
                                  · simp only [Act.put, List.setIfInBounds_toArray, List.set_cons_zero, List.set_cons_succ, i64_w, i32_w]
                                    rfl
                                  refine pure_ (i := 4) (N := some 181) (v := ?_) (a' := ?_) #[true, true, true, true, true, false, false, false, false, false, false, false, false, false, false, false, false, false, false, false, false] rfl rfl (by kernel_rfl) (fun _ _ _ h => h) (Or.inl ⟨by rfl, ?_⟩) ?_ ?_
                                  rotate_left
                                  · intro w'
                                    go_simp
                                    with_reducible rfl
                                  rotate_left
                                  · simp only [Act.put, List.setIfInBounds_toArray, List.set_cons_zero, List.set_cons_succ, i64_w, i32_w]
                                    rfl
                                  refine take_ (i := 5) (N := some 182) (v := ?_) (a' := ?_) #[true, true, true, true, true, true, false, false, false, false, false, false, false, false, false, false, false, false, false, false, false] rfl rfl (by kernel_rfl) (fun _ _ _ h => h) (Or.inl ⟨by rfl, ?_⟩) hHeld ?_ ?_
                                  rotate_left
                                  · rintro w' ⟨s0, s1, s2, s3, s4⟩
                                    go_simp
                                    with_reducible rfl
                                  rotate_left
                                  · simp only [Act.put, List.setIfInBounds_toArray, List.set_cons_zero, List.set_cons_succ, i64_w, i32_w]
                                    rfl
                                  refine pure_ (i := 6) (N := some 183) (v := ?_) (a' := ?_) #[true, true, true, true, true, true, true, false, false, false, false, false, false, false, false, false, false, false, false, false, false] rfl rfl (by kernel_rfl) (fun _ _ _ h => h) (Or.inl ⟨by rfl, ?_⟩) ?_ ?_
                                  rotate_left
                                  · intro w'
                                    go_simp
                                    with_reducible rfl
                                  rotate_left
                                  · simp only [Act.put, List.setIfInBounds_toArray, List.set_cons_zero, List.set_cons_succ, i64_w, i32_w]
                                    rfl
                                  refine take_ (i := 7) (N := some 184) (v := ?_) (a' := ?_) #[true, true, true, true, true, true, true, true, false, false, false, false, false, false, false, false, false, false, false, false, false] rfl rfl (by kernel_rfl) (fun _ _ _ h => h) (Or.inl ⟨by rfl, ?_⟩) hHeld ?_ ?_
                                  rotate_left
                                  · rintro w' ⟨s0, s1, s2, s3, s4⟩
                                    go_simp
                                    with_reducible rfl
                                  rotate_left
                                  · simp only [Act.put, List.setIfInBounds_toArray, List.set_cons_zero, List.set_cons_succ, i64_w, i32_w]
                                    rfl
                                  refine pure_ (i := 8) (N := some 185) (v := ?_) (a' := ?_) #[true, true, true, true, true, true, true, true, true, false, false, false, false, false, false, false, false, false, false, false, false] rfl rfl (by kernel_rfl) (fun _ _ _ h => h) (Or.inl ⟨by rfl, ?_⟩) ?_ ?_
                                  rotate_left
                                  · intro w'
                                    go_simp
                                    with_reducible rfl
                                  rotate_left
                                  · simp only [Act.put, List.setIfInBounds_toArray, List.set_cons_zero, List.set_cons_succ, i64_w, i32_w]
                                    rfl
                                  refine take_ (i := 9) (N := some 186) (v := ?_) (a' := ?_) #[true, true, true, true, true, true, true, true, true, true, false, false, false, false, false, false, false, false, false, false, false] rfl rfl (by kernel_rfl) (fun _ _ _ h => h) (Or.inl ⟨by rfl, ?_⟩) hHeld ?_ ?_
                                  rotate_left
                                  · rintro w' ⟨s0, s1, s2, s3, s4⟩
                                    go_simp
                                    with_reducible rfl
                                  rotate_left
                                  · simp only [Act.put, List.setIfInBounds_toArray, List.set_cons_zero, List.set_cons_succ, i64_w, i32_w]
                                    rfl
                                  refine pure_ (i := 10) (N := some 187) (v := ?_) (a' := ?_) #[true, true, true, true, true, true, true, true, true, true, true, false, false, false, false, false, false, false, false, false, false] rfl rfl (by kernel_rfl) (fun _ _ _ h => h) (Or.inl ⟨by rfl, ?_⟩) ?_ ?_
                                  rotate_left
                                  · intro w'
                                    go_simp
                                    with_reducible rfl
                                  rotate_left
                                  · simp only [Act.put, List.setIfInBounds_toArray, List.set_cons_zero, List.set_cons_succ, i64_w, i32_w]
                                    rfl
                                  refine pure_ (i := 11) (N := some 188) (v := ?_) (a' := ?_) #[true, true, true, true, true, true, true, true, true, true, true, true, false, false, false, false, false, false, false, false, false] rfl rfl (by kernel_rfl) (fun _ _ _ h => h) (Or.inl ⟨by rfl, ?_⟩) ?_ ?_
                                  rotate_left
                                  · intro w'
                                    go_simp
                                    with_reducible rfl
                                  rotate_left
                                  · simp only [Act.put, List.setIfInBounds_toArray, List.set_cons_zero, List.set_cons_succ, i64_w, i32_w]
                                    rfl
                                  refine take_ (i := 12) (N := some 189) (v := ?_) (a' := ?_) #[true, true, true, true, true, true, true, true, true, true, true, true, true, false, false, false, false, false, false, false, false] rfl rfl (by kernel_rfl) (fun _ _ _ h => h) (Or.inl ⟨by rfl, ?_⟩) hHeld ?_ ?_
                                  rotate_left
                                  · rintro w' ⟨s0, s1, s2, s3, s4⟩
                                    go_simp
                                    with_reducible rfl
                                  rotate_left
                                  · simp only [Act.put, List.setIfInBounds_toArray, List.set_cons_zero, List.set_cons_succ, i64_w, i32_w]
                                    rfl
                                  refine pure_ (i := 13) (N := some 190) (v := ?_) (a' := ?_) #[true, true, true, true, true, true, true, true, true, true, true, true, true, true, false, false, false, false, false, false, false] rfl rfl (by kernel_rfl) (fun _ _ _ h => h) (Or.inl ⟨by rfl, ?_⟩) ?_ ?_
                                  rotate_left
                                  · intro w'
                                    go_simp
                                    with_reducible rfl
                                  rotate_left
                                  · simp only [Act.put, List.setIfInBounds_toArray, List.set_cons_zero, List.set_cons_succ, i64_w, i32_w]
                                    rfl
                                  refine take_ (i := 14) (N := some 191) (v := ?_) (a' := ?_) #[true, true, true, true, true, true, true, true, true, true, true, true, true, true, true, false, false, false, false, false, false] rfl rfl (by kernel_rfl) (fun _ _ _ h => h) (Or.inl ⟨by rfl, ?_⟩) hHeld ?_ ?_
                                  rotate_left
                                  · rintro w' ⟨s0, s1, s2, s3, s4⟩
                                    go_simp
                                    with_reducible rfl
                                  rotate_left
                                  · simp only [Act.put, List.setIfInBounds_toArray, List.set_cons_zero, List.set_cons_succ, i64_w, i32_w]
                                    rfl
                                  refine one_ (i := 15) (N := some 192) #[true, true, true, true, true, true, true, true, true, true, true, true, true, true, true, true, false, false, false, false, false] rfl rfl (by kernel_rfl) (by decide) (fun K hK => ?_)
                                  refine goes_ Try.func28 (by kernel_rfl) rfl #[.slice AD a.length cD, .int .u8 s.f3, .slice AS b.length cS] (by rfl) rfl rfl (by (try simp only [List.map_toArray, List.map_cons, List.map_nil]); first | done | rfl) ?_
                                  refine HMC.out.mono ?_
                                  rintro e w3 ⟨v0, rfl, hr3, hb3⟩
                                  refine ⟨_, rfl, ?_⟩
                                  have hb3' := below_then (below_drew1 (Below.refl wc.heap.size wc)) (Nat.le_refl _) hb3
                                  have hk3 : ∀ k, k < wc.heap.size → w3.heap[k]? = wc.heap[k]? := fun k hk => hb3'.block k hk
                                  have j1 := Kd.cell_heap hk3 q1
                                  have j2 := Kd.cell_heap hk3 q2
                                  have j3 := Kd.cell_heap hk3 q3
                                  have j4 := Kd.cell_heap hk3 hcD
                                  have j5 := Kd.cell_heap hk3 hcS
                                  obtain ⟨Ay, cy, rfl, hcy, _⟩ := Kd.R_reads hr3
                                  have hRA := HR2.out.below hb3'
                                  have hfA8 := blk_frozen hRA.b8 D
                                  have hfin := fin8 hRA (below_then HBb.out hbple hb3') ((hk3 bp (blk_lt HF2.out)).trans HF2.out) D y1 Ay cy hcy (F_newT (N := wc.heap.size) HR2.out.lts hr3) HSET.out
                                  have HFIN := Aside0.mk hfin
                                  clear hr3 hb3 hb3' hk3 hcy hRA hfin
                                  refine hK.out _ _ ⟨j1, j2, j3, j4, j5⟩ (fun hHeld => ?_)
                                  clear hK K
                                  refine norm_ (a' := ?_) ?_ ?_
                                  rotate_left
                                  · show Act.put _ (some 192) _ = _
                                    simp only [Act.put, List.setIfInBounds_toArray, List.set_cons_zero, List.set_cons_succ, i64_w, i32_w]
                                    rfl
                                  refine pure_ (i := 16) (N := some 176) (v := ?_) (a' := ?_) #[true, true, true, true, true, true, true, true, true, true, true, true, true, true, true, true, true, false, false, false, false] rfl rfl (by kernel_rfl) (fun _ _ _ h => h) (Or.inl ⟨by rfl, ?_⟩) ?_ ?_
                                  rotate_left
                                  · intro w'
                                    go_simp
                                    with_reducible rfl
                                  rotate_left
                                  · simp only [Act.put, List.setIfInBounds_toArray, List.set_cons_zero, List.set_cons_succ, i64_w, i32_w]
                                    rfl
                                  refine pure_ (i := 17) (N := some 193) (v := ?_) (a' := ?_) #[true, true, true, true, true, true, true, true, true, true, true, true, true, true, true, true, true, true, false, false, false] rfl rfl (by kernel_rfl) (fun _ _ _ h => h) (Or.inl ⟨by rfl, ?_⟩) ?_ ?_
                                  rotate_left
                                  · intro w'
                                    go_simp
                                    with_reducible rfl
                                  rotate_left
                                  · simp only [Act.put, List.setIfInBounds_toArray, List.set_cons_zero, List.set_cons_succ, i64_w, i32_w]
                                    rfl
                                  refine pure_ (i := 18) (N := some 194) (v := ?_) (a' := ?_) #[true, true, true, true, true, true, true, true, true, true, true, true, true, true, true, true, true, true, true, false, false] rfl rfl (by kernel_rfl) (fun _ _ _ h => h) (Or.inl ⟨by rfl, ?_⟩) ?_ ?_
                                  rotate_left
                                  · intro w'
                                    go_simp
                                    with_reducible rfl
                                  rotate_left
                                  · simp only [Act.put, List.setIfInBounds_toArray, List.set_cons_zero, List.set_cons_succ, i64_w, i32_w]
                                    rfl
                                  refine pure_ (i := 19) (N := some 195) (v := ?_) (a' := ?_) #[true, true, true, true, true, true, true, true, true, true, true, true, true, true, true, true, true, true, true, true, false] rfl rfl (by kernel_rfl) (fun _ _ _ h => h) (Or.inl ⟨by rfl, ?_⟩) ?_ ?_
                                  rotate_left
                                  · intro w'
                                    go_simp
                                    with_reducible rfl
                                  rotate_left
                                  · simp only [Act.put, List.setIfInBounds_toArray, List.set_cons_zero, List.set_cons_succ, i64_w, i32_w]
                                    rfl
                                  refine last_ (i := 20) (N := none) #[true, true, true, true, true, true, true, true, true, true, true, true, true, true, true, true, true, true, true, true, true] rfl rfl (by kernel_rfl) (by decide) (fun K hK => ?_)
                                  refine skip_ (w1 := ?_) (by rfl) rfl ?_ ?_
                                  rotate_left
                                  · go_simp
                                    rfl
                                  refine hK.out _ _ ?_
                                  clear hK K
                                  refine done_ (by kernel_rfl) ?_
                                  go_wp2_with fail
                                  go_roundw
                                  case rel => exact ⟨j + 1, _, _, _, _, by omega, by go_num, ⟨HX2.out⟩, ⟨HFIN.out.1⟩, ⟨by simpa using HLR.out⟩, ⟨HFIN.out.2.2⟩, ⟨by rw [HBPE.out]; exact HFIN.out.2.1⟩⟩
                                  case measure => simp [intOf]; omega
                            · rw [if_neg t2] at hx1
                              obtain rfl : none = X1 := Option.some.inj hx1
                              obtain rfl : false = fb := by rw [← HFB.out]; exact (decide_eq_false (fun h => t2 h.1)).symm
                              cases ha : R[D] with
                              | none =>
                                rw [ha] at c9
                                simp only [Option.isSome_none] at c9
                                rw [hD] at q1
                                clear t t2 hD ha hx1 k1 k2 k3
                                obtain ⟨rfl, rfl⟩ := hnone.out rfl
                                go_wp2_with fail
                                go_ret2
                                exact ⟨none, ⟨0, rfl⟩, Kd.C_nil _ _, HB2.out⟩
                              | some a =>
                                rw [ha] at c9
                                simp only [Option.isSome_some] at c9
                                rw [hD] at q1
                                clear t t2 hD ha hx1 k1 k2 k3
                                obtain ⟨rfl, rfl⟩ := hnone.out rfl
                                go_wp2_with fail
                                go_ret2
                                exact ⟨none, ⟨0, rfl⟩, Kd.C_nil _ _, HB2.out⟩
                          · rw [if_neg t] at hx1
                            obtain rfl : none = X1 := Option.some.inj hx1
                            obtain rfl : false = tb := by rw [← HTB.out]; exact (decide_eq_false t).symm
                            clear t hx1 k1 k2 k3
                            obtain ⟨rfl, rfl⟩ := hnone.out rfl
                            go_wp2_with fail
                            go_ret2
                            exact ⟨none, ⟨0, rfl⟩, Kd.C_nil _ _, HB2.out⟩
                      · rw [if_neg k3] at hx1
                        by_cases k4 : s.f0 = 4
                        · as_aux_lemma =>
                            rw [if_pos k4] at hx1
                            rw [k4] at q0
                            by_cases t2 : inR s.f2 R.length
                            · rw [if_pos t2] at hx1
                              obtain ⟨S, hS, hSl⟩ := inR_nat t2
                              have hSn : S < nr := by have := HLj.out.1; omega
                              have hS0 : (0 : Int) ≤ (S : Int) := by omega
                              have hS1 : (S : Int) < (nr : Int) := by omega
                              rw [hS, getC_nat R S hSl] at hx1
                              have hfb : (R[S].isSome) = fb := by
                                rw [← HFB.out, hS, getC_nat R S hSl]
                                rw [hS] at t2
                                cases hR : R[S] <;> simp [t2]
                              rw [hS] at q2
                              cases hb : R[S] with
                              | none =>
                                rw [hb] at hx1 hfb
                                obtain rfl : none = X1 := by simpa using hx1
                                obtain rfl : false = fb := by simpa using hfb
                                clear t2 hS hb hx1 k1 k2 k3 k4
                                obtain ⟨rfl, rfl⟩ := hnone.out rfl
                                go_wp2_with fail
                                go_ret2
                                exact ⟨none, ⟨0, rfl⟩, Kd.C_nil _ _, HB2.out⟩
                              | some b =>
                                rw [hb] at hx1 hfb
                                obtain rfl : true = fb := by simpa using hfb
                                simp only at hx1
                                have hol := HLj.out.2
                                by_cases t : inR s.f1 O.length
                                · rw [if_pos t] at hx1
                                  obtain ⟨D, hD, hDl⟩ := inR_nat t
                                  have hDn : D < no := by omega
                                  have hD0 : (0 : Int) ≤ (D : Int) := by omega
                                  have hD1 : (D : Int) < (no : Int) := by omega
                                  have bD0 : decide ((D : Int) ≥ 0) = true := decide_eq_true hD0
                                  have bD1 : decide ((D : Int) < (no : Int)) = true := decide_eq_true hD1
                                  rw [hD, getC_nat O D hDl] at hx1
                                  have c11 := HR2.out.c11 D hDl
                                  cases ha : O[D] with
                                  | some a =>
                                    rw [ha] at hx1 c11
                                    obtain rfl : none = X1 := by simpa using hx1
                                    simp only [Option.isSome_some] at c11
                                    rw [hD] at q1
                                    clear t t2 hD hS ha hb hol hx1 k1 k2 k3 k4
                                    obtain ⟨rfl, rfl⟩ := hnone.out rfl
                                    go_wp2_with fail
                                    go_ret2
                                    exact ⟨none, ⟨0, rfl⟩, Kd.C_nil _ _, HB2.out⟩
                                  | none =>
                                    rw [ha] at hx1 c11
                                    simp only [Option.isSome_none] at c11
                                    obtain ⟨y, hcp, hx1⟩ := Option.bind_eq_some_iff.1 hx1
                                    obtain rfl := Option.some.inj hx1
                                    rw [Int.toNat_natCast] at HX2
                                    rw [hD] at q1
                                    obtain ⟨AS, nS, cS, hcS, hlS⟩ := HR2.out.c8 S hSl
                                    obtain ⟨rfl, hnS, hFS⟩ := hlS b hb
                                    have hcpy := recoupref01_Copy.calls AS cS b y wc.drew (Kd.F_now (Kd.F_drew hFS)) hnS hcp
                                    have HCPY := Aside0.mk hcpy
                                    have HLR := Aside0.mk HLj.out
                                    have e21 : ¬ bs = g10 := blk_ty_ne HS2.out HR2.out.b10 (by decide)
                                    have e22 : ¬ g10 = bs := fun e => e21 e.symm
                                    have e23 : ¬ bs = g11 := blk_ty_ne HS2.out HR2.out.b11 (by decide)
                                    have e24 : ¬ g11 = bs := fun e => e23 e.symm
                                    have e25 : ¬ g8 = g10 := HR2.out.n8
                                    have e26 : ¬ g10 = g8 := fun e => e25 e.symm
                                    have e27 : ¬ g8 = g11 := HR2.out.nes.2.1
                                    have e28 : ¬ g11 = g8 := fun e => e27 e.symm
                                    have e29 : ¬ g10 = g11 := HR2.out.nes.2.2.2
                                    have e30 : ¬ g11 = g10 := fun e => e29 e.symm
                                    clear t t2 hD hS ha hb hlS hFS hnS hcpy hcp hol hx1 k1 k2 k3 k4
                                    go_upto_region 28 with fail
                                    go_region_held3 (fun w' => w'.cell? ⟨bs, 1, none⟩ = some (.int .i64 (D : Int)) ∧ w'.cell? ⟨bs, 2, none⟩ = some (.int .i64 (S : Int)) ∧ w'.cell? ⟨g8, S, none⟩ = some (.slice AS b.length cS)) (go_keep) ((go_at_call 27; refine HCPY.out.mono ?_; rintro e w3 ⟨v0, rfl, hr3, hb3⟩; have hb3' := below_then (below_drew1 (Below.refl wc.heap.size wc)) (Nat.le_refl _) hb3; have hk3 : ∀ k, k < wc.heap.size → w3.heap[k]? = wc.heap[k]? := (fun k hk => hb3'.block k hk); have j1 := Kd.cell_heap hk3 q1; have j2 := Kd.cell_heap hk3 q2; have j3 := Kd.cell_heap hk3 hcS; obtain ⟨Ay, cy, rfl, hcy, _⟩ := Kd.R_reads hr3; have hRA := HR2.out.below hb3'; have hfin := finOut hRA (below_then HBb.out hbple hb3') ((hk3 bp (blk_lt HF2.out)).trans HF2.out) D y Ay cy hcy (F_newT (N := wc.heap.size) HR2.out.lts hr3); obtain ⟨A8', n8', k8', hcA8, _⟩ := hRA.c10 D hDl; have hcA9 := hRA.c11 D hDl; have hfA8 := blk_frozen hRA.b10 D; have hfA9 := blk_frozen hRA.b11 D; have HFIN := Aside0.mk hfin; clear hr3 hb3 hb3' hk3 hcy hRA hfin))
                                    go_wp2_with fail
                                    go_roundw
                                    case rel => exact ⟨j + 1, _, _, _, _, by omega, by go_num, ⟨HX2.out⟩, ⟨HFIN.out.1⟩, ⟨by simpa using HLR.out⟩, ⟨HFIN.out.2.2⟩, ⟨by rw [HBPE.out]; exact HFIN.out.2.1⟩⟩
                                    case measure => simp [intOf]; omega
                                · rw [if_neg t] at hx1
                                  obtain rfl : none = X1 := Option.some.inj hx1
                                  by_cases t3 : s.f1 ≥ 0
                                  · have bD0 : decide (s.f1 ≥ 0) = true := decide_eq_true t3
                                    have bD1 : decide (s.f1 < (no : Int)) = false := decide_eq_false (fun h => t ⟨t3, by omega⟩)
                                    clear t t2 t3 hS hb hol hx1 k1 k2 k3 k4
                                    obtain ⟨rfl, rfl⟩ := hnone.out rfl
                                    go_wp2_with fail
                                    go_ret2
                                    exact ⟨none, ⟨0, rfl⟩, Kd.C_nil _ _, HB2.out⟩
                                  · have bD0 : decide (s.f1 ≥ 0) = false := decide_eq_false t3
                                    clear t t2 t3 hS hb hol hx1 k1 k2 k3 k4
                                    obtain ⟨rfl, rfl⟩ := hnone.out rfl
                                    go_wp2_with fail
                                    go_ret2
                                    exact ⟨none, ⟨0, rfl⟩, Kd.C_nil _ _, HB2.out⟩
                            · rw [if_neg t2] at hx1
                              obtain rfl : none = X1 := Option.some.inj hx1
                              obtain rfl : false = fb := by rw [← HFB.out]; exact (decide_eq_false (fun h => t2 h.1)).symm
                              clear t2 hx1 k1 k2 k3 k4
                              obtain ⟨rfl, rfl⟩ := hnone.out rfl
                              go_wp2_with fail
                              go_ret2
                              exact ⟨none, ⟨0, rfl⟩, Kd.C_nil _ _, HB2.out⟩
                        · as_aux_lemma =>
                            rw [if_neg k4] at hx1
                            obtain rfl : none = X1 := Option.some.inj hx1
                            have z1 : (s.f0 == 1) = false := beq_eq_false_iff_ne.2 k1
                            have z2 : (s.f0 == 2) = false := beq_eq_false_iff_ne.2 k2
                            have z3 : (s.f0 == 3) = false := beq_eq_false_iff_ne.2 k3
                            have z4 : (s.f0 == 4) = false := beq_eq_false_iff_ne.2 k4
                            clear hx1 k1 k2 k3 k4
                            obtain ⟨rfl, rfl⟩ := hnone.out rfl
                            go_wp2_with fail
                            go_ret2
                            exact ⟨none, ⟨0, rfl⟩, Kd.C_nil _ _, HB2.out⟩
            · obtain rfl : j = l0_0.length := by omega
              have hx := HXj.out
              rw [List.drop_eq_nil_of_le (by omega), rrunS] at hx
              obtain rfl := Option.some.inj hx
              have hE := Option.some.inj HE.out
              have HEE := Aside0.mk hE
              have hno := HLj.out.2
              have hno2 : no ≤ 64 := by have := HMM.out.2; omega
              clear hx hE hlt HXj p1
              go_wp2_with fail
              go_loop [16] (fun v16 => ∃ i : Nat, i ≤ no ∧ v16 = .int .i64 i ∧ Aside0 ((O.take i).all (fun o => o.isSome) = true)) (fun v => no - (intOf v).toNat)
              case atStart => exact ⟨0, Nat.zero_le _, rfl, ⟨rfl⟩⟩
              case round =>
                obtain ⟨i, hi, rfl, HAll⟩ := hrel
                by_cases hlt : i < no
                · have hil : i < O.length := by omega
                  have c11 := HRj.out.c11 i hil
                  have htk : (O.take (i + 1)).all (fun o => o.isSome) = ((O.take i).all (fun o => o.isSome) && O[i].isSome) := by
                    rw [List.take_succ_eq_append_getElem hil, List.all_append]; simp
                  rw [HAll.out] at htk
                  have HTK := Aside0.mk htk
                  have hi0 : (0 : Int) ≤ (i : Int) := by omega
                  have hi1 : (i : Int) < (no : Int) := by omega
                  clear htk
                  cases ho : O[i] with
                  | some l =>
                    rw [ho] at c11 HTK
                    simp only [Option.isSome_some] at c11
                    clear ho
                    go_wp2_with fail
                    go_round
                    case rel => exact ⟨i + 1, by omega, by go_num, ⟨by rw [HTK.out]; rfl⟩⟩
                    case measure => simp [intOf]; omega
                  | none =>
                    have hna : ¬ O.all (fun o => o.isSome) = true := fun ha => by
                      have := List.all_eq_true.1 ha O[i] (List.getElem_mem _)
                      rw [ho] at this; cases this
                    rw [ho] at c11
                    simp only [Option.isSome_none] at c11
                    have hE := HEE.out
                    unfold endR at hE
                    simp only [if_neg hna] at hE
                    obtain ⟨rfl, rfl⟩ := Prod.mk.inj hE
                    clear ho hna hE
                    go_wp2_with fail
                    go_ret2
                    exact ⟨none, ⟨0, rfl⟩, Kd.C_nil _ _, HBj.out⟩
                · obtain rfl : i = no := by omega
                  have hall : O.all (fun o => o.isSome) = true := by
                    have h1 := HAll.out
                    rwa [List.take_of_length_le (by omega)] at h1
                  have hE := HEE.out
                  unfold endR at hE
                  simp only [if_pos hall] at hE
                  obtain ⟨rfl, rfl⟩ := Prod.mk.inj hE
                  have HALL := Aside0.mk hall
                  have hlen : (O.map (fun o => o.getD [])).length = i := by rw [List.length_map]; exact hno
                  have HLEN := Aside0.mk hlen
                  clear hall hE hlt hlen
                  go_wp2_with fail
                  go_ret2
                  have hC := HRj.out.outC HALL.out
                  refine ⟨some ⟨g10, 0, none⟩, i, ?_⟩
                  simp only [List.length_map] at hC ⊢
                  rw [hno] at hC
                  try rw [hno]
                  exact ⟨rfl, Nat.le_refl _, hC, HBj.out⟩
        · as_aux_lemma =>
            rw [if_neg hm] at h_
            simp only [Option.some.injEq, Prod.mk.injEq] at h_
            obtain ⟨rfl, rfl⟩ := h_
            have hn : ¬ (0 ≤ a0_1 ∧ a0_1 ≤ 256 ∧ 0 ≤ a0_2 ∧ a0_2 ≤ 64 ∧ l0_0.length ≤ 65536) := hm
            by_cases q1 : a0_1 < 0
            · have b1 : decide (a0_1 < 0) = true := decide_eq_true q1
              clear q1 hn hm hlt hi
              go_wp2_with fail
              go_ret2
              exact ⟨none, 0, rfl, Nat.le_refl _, Kd.C_nil _ _, HBW.out⟩
            have b1 : decide (a0_1 < 0) = false := decide_eq_false q1
            by_cases q2 : a0_1 > 256
            · have b2 : decide (a0_1 > 256) = true := decide_eq_true q2
              clear q1 q2 hn hm hlt hi
              go_wp2_with fail
              go_ret2
              exact ⟨none, 0, rfl, Nat.le_refl _, Kd.C_nil _ _, HBW.out⟩
            have b2 : decide (a0_1 > 256) = false := decide_eq_false q2
            by_cases q3 : a0_2 < 0
            · have b3 : decide (a0_2 < 0) = true := decide_eq_true q3
              clear q1 q2 q3 hn hm hlt hi
              go_wp2_with fail
              go_ret2
              exact ⟨none, 0, rfl, Nat.le_refl _, Kd.C_nil _ _, HBW.out⟩
            have b3 : decide (a0_2 < 0) = false := decide_eq_false q3
            by_cases q4 : a0_2 > 64
            · have b4 : decide (a0_2 > 64) = true := decide_eq_true q4
              clear q1 q2 q3 q4 hn hm hlt hi
              go_wp2_with fail
              go_ret2
              exact ⟨none, 0, rfl, Nat.le_refl _, Kd.C_nil _ _, HBW.out⟩
            have b4 : decide (a0_2 > 64) = false := decide_eq_false q4
            have b5 : decide ((l0_0.length : Int) > 65536) = true := decide_eq_true (by omega)
            clear q1 q2 q3 q4 hn hm hlt hi
            go_wp2_with fail
            go_ret2
            exact ⟨none, 0, rfl, Nat.le_refl _, Kd.C_nil _ _, HBW.out⟩
      · rw [if_neg hsz] at h_; cases h_
end Go.Proofs.Ytlflfpkjbjbldaa.PA
