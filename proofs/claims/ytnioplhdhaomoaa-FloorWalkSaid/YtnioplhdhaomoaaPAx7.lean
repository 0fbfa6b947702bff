-- Written by wip/tools/mp.py (the kit's print, run over several laws with some functions given by hand).
import Derived.Test.YtnioplhdhaomoaaPAx0
import Derived.Test.YtnioplhdhaomoaaPAx3
import Derived.Test.YtnioplhdhaomoaaPAx5
namespace Go.Proofs.Ytnioplhdhaomoaa.PA
open Go.RowKit Go.Proofs.YtnioplhdhaomoaaW.PrintWords Go.Proofs.YtnioplhdhaomoaaW.PrintLast Go.Proofs.YtnioplhdhaomoaaW.PrintMore
attribute [local go_sem] max2_int min2_int max_two min_two max_three min_three max_four min_four   -- for this text's walks alone
set_option linter.unusedVariables false
set_option linter.unusedSimpArgs false

/-! ### floor_Apart: function 24 (by hand) -/
def chkT (a : Nat) : Bool := match FloatKind.f64.decode a with | .nan _ _ => false | d => FloatKind.f64.encode (d.integral .zero) == a
theorem toInt_run {P : Program} (n : String) (a : Nat) (h : chkT a = true) (w : World) : (Extern.MathFloor.toIntegral n .zero #[.float .f64 a]).run P w = .ok (.float .f64 a) w := by
  unfold chkT at h
  have e : Extern.MathFloor.toIntegral n .zero #[.float .f64 a] = (match FloatKind.f64.decode a with
    | .nan s t => if FloatKind.f64.format.quiet t = t then pure (.float .f64 a) else do
      let kept ← choose (.extern "math.Floor,Ceil,Trunc,RoundToEven.signallingNaN kept" 2)
      pure (.float .f64 (if kept == 1 then a else FloatKind.f64.encode (.nan s (FloatKind.f64.format.quiet t))))
    | d => pure (.float .f64 (FloatKind.f64.encode (d.integral .zero)))) := rfl
  rw [e]
  clear e
  generalize FloatKind.f64.decode a = d at h
  cases d with
  | nan s t => cases h
  | _ => dsimp only at h ⊢; rw [beq_iff_eq.1 h]; rfl
theorem run43 (a : Nat) (h : chkT a = true) (w : World) : (callFunc 43 #[.float .f64 a]).run Try.prog w = .ok (.value (.float .f64 a)) w := by
  rw [run_callFunc_extern (e := Extern.MathFloor.toIntegral "math.archTrunc" .zero) Try.func43 (by kernel_rfl) (by kernel_rfl) (by kernel_rfl) (by kernel_rfl), toInt_run _ a h]; rfl
theorem tr_tab : ∀ x ∈ R4, chkT (fb x) = true := by decide +kernel
theorem ce_tab : ∀ x ∈ R4, (FloatKind.f64.format.order (fb x) (fb x) == some .eq) = true ∧ (FloatKind.f64.format.order (absF (fb x)) 4697254411347427328 == some .lt) = true := by decide +kernel
set_option maxHeartbeats 400000 in
theorem Trunc_fb (x : Int) (hx : x ∈ R4) (w : World) : Calls Try.prog 39 #[.float .f64 (fb x)] w fun e w' => e = .returned (.float .f64 (fb x)) ∧ w' = w := by
  have h43 := run43 (fb x) (tr_tab x hx)
  clear hx
  generalize fb x = a at h43 ⊢
  go_enter Try.func39, Try.ntmps39
  go_wp2
  go_ret
  exact ⟨rfl, rfl⟩
set_option maxHeartbeats 400000 in
theorem cell1_fb (x : Int) (hx : x ∈ R4) (w : World) : Calls Try.prog 38 #[.float .f64 (fb x)] w fun e w' => e = .returned (.bool true) ∧ w' = w := by
  have HT := Aside0.mk (fun W => Trunc_fb x hx W)
  have hc := ce_tab x hx
  have hc1 := hc.1
  have hc2 := hc.2
  clear hc hx
  generalize fb x = a at HT hc1 hc2 ⊢
  go_enter Try.func38, Try.ntmps38
  go_wp2_with (first | (go_at_call 39; refine (HT.out _).mono ?_; rintro e w' ⟨rfl, rfl⟩) | (go_at_call 36; refine (abs_calls _ _).mono ?_; rintro e w' ⟨rfl, rfl⟩))
  go_ret
  exact ⟨by simp, rfl⟩
set_option maxHeartbeats 400000 in
theorem cell_fb (x y : Int) (hx : x ∈ R4) (hy : y ∈ R4) (w : World) : Calls Try.prog 35 #[.complex .f64 (fb x) (fb y)] w fun e w' => e = .returned (.bool true) ∧ w' = w := by
  have HX := Aside0.mk (fun W => cell1_fb x hx W)
  have HY := Aside0.mk (fun W => cell1_fb y hy W)
  clear hx hy
  generalize fb x = a at HX ⊢
  generalize fb y = b at HY ⊢
  go_enter Try.func35, Try.ntmps35
  go_wp2_with fail
  refine (HX.out _).mono ?_
  rintro e w' ⟨rfl, rfl⟩
  go_wp2_with fail
  refine (HY.out _).mono ?_
  rintro e w' ⟨rfl, rfl⟩
  go_wp2_with fail
  go_ret
  exact ⟨by simp, rfl⟩
set_option maxHeartbeats 400000 in
theorem Apart_fb (x y u v : Int) (hx : x ∈ R4) (hy : y ∈ R4) (hu : u ∈ R4) (hv : v ∈ R4) (w : World) : Calls Try.prog 24 #[.complex .f64 (fb x) (fb y), .complex .f64 (fb u) (fb v)] w fun e w' => e = .returned (.tuple #[.int .i64 (sz (x - u) + sz (y - v)), .int .i64 0]) ∧ w' = w := by
  have H1 := Aside0.mk (fun W => cell_fb x y hx hy W)
  have H2 := Aside0.mk (fun W => cell_fb u v hu hv W)
  have H3 := Aside0.mk (fun W => apart_calls (fb x, fb y) (fb u, fb v) _ (apart_fb x y u v hx hy hu hv) W)
  clear hx hy hu hv
  dsimp only at H3
  generalize sz (x - u) + sz (y - v) = n at H3 ⊢
  generalize fb x = a at H1 H3 ⊢
  generalize fb y = b at H1 H3 ⊢
  generalize fb u = c at H2 H3 ⊢
  generalize fb v = d at H2 H3 ⊢
  go_enter Try.func24, Try.ntmps24
  go_wp2_with fail
  refine (H1.out _).mono ?_
  rintro e w' ⟨rfl, rfl⟩
  go_wp2_with fail
  refine (H2.out _).mono ?_
  rintro e w' ⟨rfl, rfl⟩
  go_wp2_with fail
  refine (H3.out _).mono ?_
  rintro e w' ⟨rfl, rfl⟩
  go_wp2_with fail
  go_ret2
  exact ⟨rfl, rfl⟩
set_option maxHeartbeats 400000 in
theorem Spiral_calls (n : Nat) (hn : n ≤ 64) (w : World) : Calls Try.prog 22 #[.int .i64 (n : Int)] w fun e w' => ∃ g, e = .returned (.tuple #[.slice (some ⟨g, 0, none⟩) n n, .int .i64 0]) ∧ w.heap.size ≤ g ∧ w'.heap[g]? = some (.cells (cxs (zsl n)) 55 (0, 0)) ∧ Below w.heap.size w w' := by
  have HS := Aside0.mk (spiral_calls n hn w)
  have c1 : decide ((n : Int) < 0) = false := decide_eq_false (by omega)
  have c2 : decide ((n : Int) > 64) = false := decide_eq_false (by omega)
  go_enter Try.func22, Try.ntmps22
  go_wp2_with (go_at_call 34; refine HS.out.mono ?_; rintro e w1 ⟨g, rfl, hg0, hg1, hb1⟩; have HG0 := Aside0.mk hg0; have HG1 := Aside0.mk hg1; have HB := Aside0.mk hb1; clear hg0 hg1 hb1)
  go_ret2
  exact ⟨g, rfl, HG0.out, HG1.out, HB.out⟩

/-! ### recouplaw15_FloorWalk: function 7 (by hand) -/
theorem cl_inj : ∀ i, i < 64 → ∀ j, j < 64 → cl i = cl j → i = j := by decide +kernel
theorem cl_adj : ∀ i, i < 63 → sz ((cl i).1 - (cl (i + 1)).1) + sz ((cl i).2 - (cl (i + 1)).2) = 1 := by decide +kernel
theorem eqc_st (i j : Nat) (hi : i < 64) (hj : j < 64) : eqc ((st i).zr, (st i).zi) (st j).zr (st j).zi = decide (i = j) := by
  have e1 := st_cl i hi
  have e2 := st_cl j hj
  have h1 := cl_in _ (cl_mem i hi)
  have h2 := cl_in _ (cl_mem j hj)
  rw [e1, (Prod.mk.inj e2).1, (Prod.mk.inj e2).2]
  unfold eqc
  dsimp only
  rw [eq_tab _ h1.1 _ h2.1, eq_tab _ h1.2 _ h2.2, ← Bool.decide_and]
  exact decide_eq_decide.2 ⟨fun h => cl_inj i hi j hj (Prod.ext h.1 h.2), fun h => by subst h; exact ⟨rfl, rfl⟩⟩
theorem atL_st (i : Nat) (hi : i < 64) (d : Nat) : ∀ j, j + d = i → atL (st i).zr (st i).zi ((zsl 64).drop j) j = ((i : Int), true) := by
  induction d with
  | zero =>
    intro j h
    obtain rfl : j = i := by omega
    rw [zsl_drop 64 j hi, atL, eqc_st j j hi hi, if_pos (by simp)]
  | succ d ih =>
    intro j h
    rw [zsl_drop 64 j (by omega), atL, eqc_st j i (by omega) hi, if_neg (by simp; omega)]
    exact ih (j + 1) (by omega)
theorem at_st (i : Nat) (hi : i < 64) (w : World) : Calls Try.prog 23 #[.complex .f64 (st i).zr (st i).zi] w fun e w' => e = .returned (.tuple #[.int .i64 (i : Int), .bool true]) ∧ Below w.heap.size w w' := by
  have h := at_calls (st i).zr (st i).zi w
  have h1 := atL_st i hi i 0 (by omega)
  rw [List.drop_zero] at h1
  rw [h1] at h
  exact h
theorem apart_next (i : Nat) (hi : i < 63) (w : World) : Calls Try.prog 24 #[.complex .f64 (st i).zr (st i).zi, .complex .f64 (st (i + 1)).zr (st (i + 1)).zi] w fun e w' => e = .returned (.tuple #[.int .i64 1, .int .i64 0]) ∧ w' = w := by
  have h1 := cl_in _ (cl_mem i (by omega))
  have h2 := cl_in _ (cl_mem (i + 1) (by omega))
  have h := Apart_fb _ _ _ _ h1.1 h1.2 h2.1 h2.2 w
  rw [cl_adj i hi] at h
  have e1 := st_cl i (by omega)
  have e2 := st_cl (i + 1) (by omega)
  rw [(Prod.mk.inj e1).1, (Prod.mk.inj e1).2, (Prod.mk.inj e2).1, (Prod.mk.inj e2).2]
  exact h
theorem zero_eq : (FloatKind.f64.format.order 0 0 == some .eq) = true := by decide +kernel
def recouplaw15_FloorWalk.f (k : Nat) (a0 : Int) : Option Bool := if 0 ≤ a0 ∧ a0 < 256 then some true else none
set_option maxHeartbeats 1000000 in
theorem recouplaw15_FloorWalk.calls (k : Nat) (a0 : Int) (r : Bool) (w : World) (h : recouplaw15_FloorWalk.f k a0 = some r) : Calls Try.prog 7 #[.int .u8 a0] w fun e w' => e = .returned (.bool r) ∧ Below w.heap.size w w' := by
  unfold recouplaw15_FloorWalk.f at h
  by_cases ha : 0 ≤ a0 ∧ a0 < 256
  · rw [if_pos ha] at h
    obtain rfl := Option.some.inj h
    obtain ⟨x, rfl⟩ : ∃ x : Nat, (x : Int) = a0 := ⟨a0.toNat, by omega⟩
    have hx : x < 256 := by omega
    have hu55 := Try.underlying55
    have hu3 := Try.underlying3
    have hu50 := Try.underlying50
    have hM : x % 65 ≤ 64 := by omega
    have e1 : (x : Int) % 65 = ((x % 65 : Nat) : Int) := by omega
    have HS := Aside0.mk (Spiral_calls (x % 65) hM w)
    have HE := Aside0.mk e1
    clear h ha e1
    go_enter Try.func7, Try.ntmps7
    go_wp2_with fail
    rw [HE.out]
    clear HE
    generalize x % 65 = M at HS hM ⊢
    refine HS.out.mono ?_
    rintro e w1 ⟨g, rfl, hg0, hg1, hb1⟩
    have HG0 := Aside0.mk hg0
    have HG := Aside0.mk hg1
    have HB := Aside0.mk hb1
    clear hg0 hg1 hb1 HS
    go_wp2_with fail
    go_loopw [6, 7, 8, 9, 10] (fun v6 v7 v8 v9 v10 w' => ∃ i : Nat, i ≤ M ∧ v6 = .int .i64 i ∧ Aside0 (w'.heap[g]? = some (.cells (cxs (zsl M)) 55 (0, 0))) ∧ Aside0 (Below w.heap.size w w')) (fun v _ _ _ _ _ => M - (intOf v).toNat)
    case atStart => exact ⟨0, Nat.zero_le _, rfl, HG, HB⟩
    case round =>
      obtain ⟨i, hi, rfl, HGi, HBi⟩ := hrel
      by_cases hlt : i < M
      · have hc := (blk_cell HGi.out i).trans (cxs_get M i hlt)
        have HA := Aside0.mk (at_st i (by omega) wr)
        go_wp2_with fail
        refine HA.out.mono ?_
        rintro e w2 ⟨rfl, hb2⟩
        have HG2 := Aside0.mk (blk_below HGi.out hb2)
        have HB2 := Aside0.mk (HBi.out.trans (hb2.mono HBi.out.size))
        clear hb2 hc
        by_cases hz : i = 0
        · subst hz
          go_wp2_with fail
          go_roundw
          case rel => exact ⟨1, by omega, by go_num, HG2, HB2⟩
          case measure => simp [intOf]; omega
        · obtain ⟨j, rfl⟩ : ∃ j, i = j + 1 := ⟨i - 1, by omega⟩
          have hcp : decide (((j + 1 : Nat) : Int) > 0) = true := decide_eq_true (by omega)
          have hj : ((j + 1 : Nat) : Int) - 1 = (j : Int) := by omega
          have hc1 := (blk_cell HG2.out j).trans (cxs_get M j (by omega))
          have hc2 := (blk_cell HG2.out (j + 1)).trans (cxs_get M (j + 1) hlt)
          have HP := Aside0.mk (fun W => apart_next j (by omega) W)
          go_wp2_with fail
          go_quiet ((go_at_call 24; exact Calls.quiet_of_same (HP.out _)))
          go_wp2_with fail
          go_roundw
          case rel => exact ⟨j + 1 + 1, by omega, by go_num, ⟨by (with_reducible repeat (first | refine blk_drewN ?_ _ | refine blk_drew ?_)); exact HG2.out⟩, ⟨pw_below_drewN HB2.out _⟩⟩
          case measure => simp [intOf]; omega
      · obtain rfl : i = M := by omega
        have HAN := Aside0.mk (fun W => recouplaw15_anchored.calls true W rfl)
        by_cases hz : i = 0
        · subst hz
          go_wp2_with fail
          refine (HAN.out _).mono ?_
          rintro e w3 ⟨rfl, hb3⟩
          have HB3 := Aside0.mk (HBi.out.trans (hb3.mono HBi.out.size))
          clear hb3
          go_wp2_with fail
          go_ret
          exact ⟨by simp, HB3.out⟩
        · have hz' : ((i : Int) == 0) = false := by simp; omega
          go_wp2_with fail
          refine (HAN.out _).mono ?_
          rintro e w3 ⟨rfl, hb3⟩
          have HB3 := Aside0.mk (HBi.out.trans (hb3.mono HBi.out.size))
          have HG3 := blk_below HGi.out hb3
          have hc0 : w3.cell? ⟨g, 0, none⟩ = some (.complex .f64 0 0) := (blk_cell HG3 0).trans (cxs_get i 0 (by omega))
          have hi0 : 0 < i := by omega
          have he : ∀ t W, (binOp .eql t (.complex .f64 0 0) (.complex .f64 0 0)).run Try.prog W = .ok (.bool true) W := fun t W => by rw [run_eql_complex W t .f64 0 0 0 0, zero_eq]; rfl
          clear hb3 HG3 hz
          go_wp2_with (simp only [he])
          go_ret
          exact ⟨by simp, HB3.out⟩
  · rw [if_neg ha] at h; cases h

end Go.Proofs.Ytnioplhdhaomoaa.PA
