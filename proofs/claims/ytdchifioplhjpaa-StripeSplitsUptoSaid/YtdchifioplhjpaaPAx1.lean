-- Written by wip/tools/mp.py (the kit's print, run over several laws with some functions given by hand).
import Derived.Test.YtdchifioplhjpaaPAx0
namespace Go.Proofs.Ytdchifioplhjpaa.PA
open Go.RowKit Go.Proofs.YtdchifioplhjpaaW.PrintWords Go.Proofs.YtdchifioplhjpaaW.PrintLast Go.Proofs.YtdchifioplhjpaaW.PrintMore
attribute [local go_sem] max2_int min2_int max_two min_two max_three min_three max_four min_four   -- for this text's walks alone
set_option linter.unusedVariables false
set_option linter.unusedSimpArgs false

/-! ### bytes_Clone: function 15 -/
def bytes_Clone.f (l0 : List Int) : Option (List Int) := (some (([] : List Int) : List Int)).bind fun y101 => (if y101.length + l0.length < 140737488355328 then (some (y101 ++ l0)) else (none))
set_option maxHeartbeats 8000000 in
set_option maxRecDepth 100000 in
theorem bytes_Clone.calls (A0 : Option Addr) (c0 : Nat) (l0 : List Int) (r : List Int) (w : World) (hr0 : Kd.C (Kd.int .u8) w A0 l0.length l0) (hc0 : l0.length ≤ c0) (h : bytes_Clone.f l0 = some r) :
  Calls Try.prog 15 #[.slice A0 l0.length c0] w fun e w' => ∃ v0_ : Value, e = .returned (v0_) ∧ Kd.R (Kd.int .u8) 5 w' w.heap.size (fun _ => True) v0_ r ∧ Below w.heap.size w w' := by
 have hq_ : ∀ (w : World) (a : Option Addr) (n c n' c' : Nat), (binOp .eql 22 (.slice a n c) (.slice none n' c')).run Try.prog w = .ok (.bool a.isNone) w := fun w a n c n' c' => Lib.run_eql_slice_nil w _ _ a n c n' c' Try.underlying22
 rcases A0 with _ | a0_
 ·have hl_ : l0 = [] := by
   cases l0 with
   | nil => rfl
   | cons x r_ => exact absurd (hr0.2.2 (by simp)) (by rintro ⟨ad, h, _⟩; cases h)
  subst hl_
  have hr_ : [] = r := by simpa [bytes_Clone.f] using h
  subst hr_
  go_enter Try.func15, Try.ntmps15
  go_wp2
  go_ret
  exact ⟨_, rfl, Kd.R_nil _ _ _ _ _, Below.refl _ _⟩
 have HR0 := Aside0.mk hr0
 have HC0 := Aside0.mk hc0
 clear hr0 hc0
 have HB := Aside0.mk (Below.refl w.heap.size w)
 have H : ((some (([] : List Int) : List Int)).bind fun y101 => (if y101.length + l0.length < 140737488355328 then (some (y101 ++ l0)) else (none))) = some r := h
 clear h
 obtain ⟨y101, hy101⟩ : ∃ y_ : List Int, y_ = (([] : List Int)) := ⟨_, rfl⟩
 replace H : (if y101.length + l0.length < 140737488355328 then (some (y101 ++ l0)) else (none)) = some r := by first | (rw [hy101]; with_reducible exact H) | (have H2_ := (Option.bind_some _ _).symm.trans H; rw [hy101]; with_reducible exact H2_) | (have H2_ := (Option.bind_some _ _).symm.trans H; with_reducible exact H2_) | with_reducible exact H | (rw [hy101]; exact H) | exact H
 have Ny101 := Aside0.mk hy101
 clear hy101
 by_cases c2 : y101.length + l0.length < 140737488355328
 ·rw [if_pos c2] at H
  have LMc2 := Aside0.mk c2
  clear c2
  obtain ⟨y104, hy104⟩ : ∃ y_ : List Int, y_ = (y101 ++ l0) := ⟨_, rfl⟩
  replace H : (some y104) = some r := by first | (rw [hy104]; with_reducible exact H) | (have H2_ := (Option.bind_some _ _).symm.trans H; rw [hy104]; with_reducible exact H2_) | (have H2_ := (Option.bind_some _ _).symm.trans H; with_reducible exact H2_) | with_reducible exact H | (rw [hy104]; exact H) | exact H
  have Ny104 := Aside0.mk hy104
  clear hy104
  obtain rfl := Option.some.inj H
  go_enter Try.func15, Try.ntmps15
  go_wp2_with (first | ((with_reducible refine gate_dst (N := 5) rfl ?_); refine Kd.R_lit (Kd.int .u8) _ 5 ?hg (N := 5) ?hd (xs := ([] : List Int)) (inner := []) (ok := fun _ => True) (okp := fun _ => True) ?hr ?hp (fun _ hk => hk) trivial (Below.refl _ _) (Nat.le_refl _) (by simp) ?_; (case hd => rfl); (case hg => rfl); (case hr => first | (go_simp; done) | (go_simp; rfl)); (case hp => exact (Reps.none _ _)); intro v102 w3 ho4 hb hg_ hnew_; clear hg_ hnew_; (first | rw [← Ny101.out] at ho4 | (simp only [Int.reduceToNat] at ho4; rw [← Ny101.out] at ho4)); have n0_ := Aside0.mk (Kd.R_lower ho4 (below_size (by repeat (first | (with_reducible first | exact HB.out | apply below_alloc | apply pw_below_drewN | apply below_drew1) | exact HB.out)))); have n1_ := Aside0.mk (below_step (by repeat (first | (with_reducible first | exact HB.out | apply below_alloc | apply pw_below_drewN | apply below_drew1) | exact HB.out)) hb); clear HB; have HO103 := n0_; have HB := n1_; clear n0_ n1_; clear hb ho4) | ((with_reducible refine gate_builtin (b := .append) (xs := #[.tmp 5, .tmp 6]) rfl ?_); at_builtin; refine Kd.R_append_rows (Kd.int .u8) (w0 := w) w.heap.size rfl (.tmp 5) (.tmp 6) 22 5 (.int .u8 0) 1 rfl Try.underlying22 info5 rfl (by decide) (by omega) v102 y101 l0 _ _ _ (fun _ => True) (fun _ => False) rfl rfl ?aO ?aR (fun _ _ h => h) (fun _ h => h.elim) ?aF ?aB ?aS ?aL ?_; (case aR => repeat (first | exact (Kd.C_below HR0.out HB.out) | (with_reducible refine Kd.C_alloc ?_ _) | (with_reducible refine Kd.C_drewN ?_ _) | (with_reducible refine Kd.C_drew ?_))); (case aB => exact (by repeat (first | (with_reducible first | exact HB.out | apply below_alloc | apply pw_below_drewN | apply below_drew1) | exact HB.out))); (case aF => exact (fun _ _ => trivial)); (case aO => exact (by (with_reducible repeat (first | apply Kd.R_alloc | apply Kd.R_drewN | apply Kd.R_drew)); exact HO103.out)); (case aS => exact (below_size (by repeat (first | (with_reducible first | exact HB.out | apply below_alloc | apply pw_below_drewN | apply below_drew1) | exact HB.out)))); (case aL => have := LMc2.out; omega); intro v105 w5 ho hb hg hat; rw [← Ny104.out] at ho; have n0_ := Aside0.mk (hb); have n1_ := Aside0.mk (ho); clear HB; clear HO103; have HB := n0_; have HO106 := n1_; clear n0_ n1_; clear ho hb hg hat))
  go_ret
  exact ⟨_, by first | rfl | (simp [errW_none, errW_some] <;> rfl) | (simp [*, errW_none, errW_some] <;> rfl), by (with_reducible repeat (first | apply Kd.R_alloc | apply Kd.R_drewN | apply Kd.R_drew)); exact HO106.out, by repeat (first | (with_reducible first | exact HB.out | apply below_alloc | apply pw_below_drewN | apply below_drew1) | exact HB.out)⟩
 ·rw [if_neg c2] at H
  exact absurd H (by simp)

/-! ### stripe_split: function 12 -/
theorem cut_mid3 {P : Program} (t e : TypeId) (kl kh : IntKind) {i : TypeInfo} (ht : P.underlying t = some (.slice e)) (hi : P.info? e = some i) (size : Nat) (hsz : i.size = size) (A : Option Addr) (n c : Nat) (lo hi' : Int) (h0 : 0 ≤ lo) (h1 : lo ≤ hi') (h2 : hi' ≤ n) (hc : n ≤ c) :
  ∀ W : World, (Instr.slice t (.slice A n c) (some (.int kl lo)) (some (.int kh hi')) (some (.int kh hi'))).run P W = .ok (.slice (if hi'.toNat = lo.toNat then A else A.map (·.add (lo.toNat * size))) (hi'.toNat - lo.toNat) (hi' - lo).toNat) W := by
 intro W
 have hel : P.elem t = e := by simp [Program.elem, ht]
 have hu : P.underlying t = some (.slice (P.elem t)) := by rw [hel]; exact ht
 rw [run_slice_lhm W t A n c hu kl kh kh lo hi' hi' h0 h1 (Int.le_refl _) (by omega), hel]
 have he : (hi' - lo).toNat = hi'.toNat - lo.toNat := by omega
 rw [he]
 simp [sizeOf, typeInfo, hi, hsz, sliced, Result.andThen]
theorem C_mid3 {α : Type} {k : Kd α} {w : World} {A : Option Addr} {xs : List α} {lo hi c : Nat} (h : k.C w A xs.length xs) (h1 : lo ≤ hi) (h2 : hi ≤ xs.length) (hc : xs.length ≤ c) : k.C w (if hi = lo then A else A.map (·.add (lo * k.sz))) ((xs.take hi).drop lo).length ((xs.take hi).drop lo) :=
 Kd.C_drop (Kd.C_take h h2) (by rw [List.length_take]; omega) (by rw [List.length_take]; omega)
def stripe_split.l0 : Nat → Int → List Int → List (List Int) → Int → Int → Option ((List (List Int)))
 | 0, _, _, _, _, _ => none
 | k + 1, x5, x6, x7, x30, x31 => if x31 < x30 then (if 0 ≤ (wrap64 (x31 * x5)) then (if (wrap64 (x31 * x5)) ≤ (wrap64 ((wrap64 (x31 + 1)) * x5)) then (if (wrap64 ((wrap64 (x31 + 1)) * x5)) ≤ (x6.length : Int) then ((bytes_Clone.f ((x6.take ((wrap64 ((wrap64 (x31 + 1)) * x5)) : Int).toNat).drop ((wrap64 (x31 * x5)) : Int).toNat)).bind fun t120 => (if 0 ≤ x31 then (if x31 < (x7.length : Int) then (stripe_split.l0 k x5 x6 (x7.set (x31 : Int).toNat t120) x30 (wrap64 (x31 + 1))) else (none)) else (none))) else (none)) else (none)) else (none)) else (some x7)
def stripe_split.f (k : Nat) (l0 : List Int) (a1 : Int) : Option ((List (List Int))) := if a1 = 0 then (none) else ((bytes_Clone.f l0).bind fun t107 => (if 0 ≤ (wrap64 ((wrap64 ((wrap64 (Int.tdiv (wrap64 ((wrap64 ((l0.length : Int) + a1)) - 1)) a1)) * a1)) - (l0.length : Int))) then (if t107.length + (wrap64 ((wrap64 ((wrap64 (Int.tdiv (wrap64 ((wrap64 ((l0.length : Int) + a1)) - 1)) a1)) * a1)) - (l0.length : Int)) : Int).toNat < 140737488355328 then (if 0 ≤ a1 then (if (a1 : Int).toNat ≤ 11728124029610 then ((some (List.replicate (a1 : Int).toNat [] : List (List Int))).bind fun y113 => (stripe_split.l0 k (wrap64 (Int.tdiv (wrap64 ((wrap64 ((l0.length : Int) + a1)) - 1)) a1)) (t107 ++ List.replicate (wrap64 ((wrap64 ((wrap64 (Int.tdiv (wrap64 ((wrap64 ((l0.length : Int) + a1)) - 1)) a1)) * a1)) - (l0.length : Int)) : Int).toNat 0) y113 (y113.length : Int) 0)) else (none)) else (none)) else (none)) else (none)))
set_option maxHeartbeats 8000000 in
set_option maxRecDepth 100000 in
theorem stripe_split.calls (k : Nat) (A0 : Option Addr) (c0 : Nat) (l0 : List Int) (a1 : Int) (r : List (List Int)) (w : World) (hr0 : Kd.C (Kd.int .u8) w A0 l0.length l0) (hc0 : l0.length ≤ c0) (h : stripe_split.f k l0 a1 = some r) :
  Calls Try.prog 12 #[.slice A0 l0.length c0, .int .i64 a1] w fun e w' => ∃ v0_ : Value, e = .returned (v0_) ∧ Kd.S (Kd.slice 5 (Kd.int .u8)) 22 w' w.heap.size (fun _ => True) v0_ r ∧ Below w.heap.size w w' := by
 have HR0 := Aside0.mk hr0
 have HC0 := Aside0.mk hc0
 clear hr0 hc0
 have HB := Aside0.mk (Below.refl w.heap.size w)
 have H : (if a1 = 0 then (none) else ((bytes_Clone.f l0).bind fun t107 => (if 0 ≤ (wrap64 ((wrap64 ((wrap64 (Int.tdiv (wrap64 ((wrap64 ((l0.length : Int) + a1)) - 1)) a1)) * a1)) - (l0.length : Int))) then (if t107.length + (wrap64 ((wrap64 ((wrap64 (Int.tdiv (wrap64 ((wrap64 ((l0.length : Int) + a1)) - 1)) a1)) * a1)) - (l0.length : Int)) : Int).toNat < 140737488355328 then (if 0 ≤ a1 then (if (a1 : Int).toNat ≤ 11728124029610 then ((some (List.replicate (a1 : Int).toNat [] : List (List Int))).bind fun y113 => (stripe_split.l0 k (wrap64 (Int.tdiv (wrap64 ((wrap64 ((l0.length : Int) + a1)) - 1)) a1)) (t107 ++ List.replicate (wrap64 ((wrap64 ((wrap64 (Int.tdiv (wrap64 ((wrap64 ((l0.length : Int) + a1)) - 1)) a1)) * a1)) - (l0.length : Int)) : Int).toNat 0) y113 (y113.length : Int) 0)) else (none)) else (none)) else (none)) else (none)))) = some r := h
 clear h
 by_cases c3 : a1 = 0
 ·rw [if_pos c3] at H
  exact absurd H (by simp)
 ·rw [if_neg c3] at H
  have c3b0 : (a1 == 0) = false := beq_eq_false_iff_ne.mpr c3
  have c3b1 : (a1 != 0) = true := bne_iff_ne.mpr c3
  replace H := Option.bind_eq_some_iff.mp H
  obtain ⟨t107, A40, H⟩ := H
  replace H : (if 0 ≤ (wrap64 ((wrap64 ((wrap64 (Int.tdiv (wrap64 ((wrap64 ((l0.length : Int) + a1)) - 1)) a1)) * a1)) - (l0.length : Int))) then (if t107.length + (wrap64 ((wrap64 ((wrap64 (Int.tdiv (wrap64 ((wrap64 ((l0.length : Int) + a1)) - 1)) a1)) * a1)) - (l0.length : Int)) : Int).toNat < 140737488355328 then (if 0 ≤ a1 then (if (a1 : Int).toNat ≤ 11728124029610 then ((some (List.replicate (a1 : Int).toNat [] : List (List Int))).bind fun y113 => (stripe_split.l0 k (wrap64 (Int.tdiv (wrap64 ((wrap64 ((l0.length : Int) + a1)) - 1)) a1)) (t107 ++ List.replicate (wrap64 ((wrap64 ((wrap64 (Int.tdiv (wrap64 ((wrap64 ((l0.length : Int) + a1)) - 1)) a1)) * a1)) - (l0.length : Int)) : Int).toNat 0) y113 (y113.length : Int) 0)) else (none)) else (none)) else (none)) else (none)) = some r := H
  have A4 := Aside0.mk A40
  clear A40
  obtain ⟨ji5, hji5⟩ : ∃ j_ : Int, (wrap64 ((wrap64 ((wrap64 (Int.tdiv (wrap64 ((wrap64 ((l0.length : Int) + a1)) - 1)) a1)) * a1)) - (l0.length : Int))) = j_ := ⟨_, rfl⟩
  replace H : (if 0 ≤ (ji5) then (if t107.length + (ji5 : Int).toNat < 140737488355328 then (if 0 ≤ a1 then (if (a1 : Int).toNat ≤ 11728124029610 then ((some (List.replicate (a1 : Int).toNat [] : List (List Int))).bind fun y113 => (stripe_split.l0 k (wrap64 (Int.tdiv (wrap64 ((wrap64 ((l0.length : Int) + a1)) - 1)) a1)) (t107 ++ List.replicate (ji5 : Int).toNat 0) y113 (y113.length : Int) 0)) else (none)) else (none)) else (none)) else (none)) = some r := by first | (rw [hji5] at H; exact H) | (simp only [hji5] at H ⊢; exact H)
  (try rw [hji5] at A4)
  have hji5w : (IntKind.i64.wrap ((wrap64 ((wrap64 (Int.tdiv (wrap64 ((wrap64 ((l0.length : Int) + a1)) - 1)) a1)) * a1)) - (l0.length : Int))) = ji5 := (i64_w _).trans hji5
  by_cases c6 : 0 ≤ (ji5)
  ·rw [if_pos c6] at H
   have c6b0 := eq_true c6
   have c6b1 : decide (0 ≤ (ji5)) = true := decide_eq_true c6
   clear c6
   by_cases c7 : t107.length + (ji5 : Int).toNat < 140737488355328
   ·rw [if_pos c7] at H
    have LMc7 := Aside0.mk c7
    clear c7
    obtain ⟨y110, hy110⟩ : ∃ y_ : List Int, y_ = (t107 ++ List.replicate (ji5 : Int).toNat 0) := ⟨_, rfl⟩
    replace H : (if 0 ≤ a1 then (if (a1 : Int).toNat ≤ 11728124029610 then ((some (List.replicate (a1 : Int).toNat [] : List (List Int))).bind fun y113 => (stripe_split.l0 k (wrap64 (Int.tdiv (wrap64 ((wrap64 ((l0.length : Int) + a1)) - 1)) a1)) y110 y113 (y113.length : Int) 0)) else (none)) else (none)) = some r := by first | (rw [hy110]; with_reducible exact H) | (have H2_ := (Option.bind_some _ _).symm.trans H; rw [hy110]; with_reducible exact H2_) | (have H2_ := (Option.bind_some _ _).symm.trans H; with_reducible exact H2_) | with_reducible exact H | (rw [hy110]; exact H) | exact H
    have Ny110 := Aside0.mk hy110
    clear hy110
    by_cases c8 : 0 ≤ a1
    ·rw [if_pos c8] at H
     have c8b0 := eq_true c8
     have c8b1 : decide (0 ≤ a1) = true := decide_eq_true c8
     clear c8
     by_cases c9 : (a1 : Int).toNat ≤ 11728124029610
     ·rw [if_pos c9] at H
      have c9b0 := eq_true c9
      have c9b1 : decide ((a1 : Int).toNat ≤ 11728124029610) = true := decide_eq_true c9
      clear c9
      obtain ⟨y113, hy113⟩ : ∃ y_ : List (List Int), y_ = (List.replicate (a1 : Int).toNat []) := ⟨_, rfl⟩
      replace H : (stripe_split.l0 k (wrap64 (Int.tdiv (wrap64 ((wrap64 ((l0.length : Int) + a1)) - 1)) a1)) y110 y113 (y113.length : Int) 0) = some r := by first | (rw [hy113]; with_reducible exact H) | (have H2_ := (Option.bind_some _ _).symm.trans H; rw [hy113]; with_reducible exact H2_) | (have H2_ := (Option.bind_some _ _).symm.trans H; with_reducible exact H2_) | with_reducible exact H | (rw [hy113]; exact H) | exact H
      have Ny113 := Aside0.mk hy113
      clear hy113
      have H' := Aside0.mk H
      clear H
      go_enter Try.func12, Try.ntmps12
      go_wp2_with (first | ((with_reducible refine gate_callee (f := 15) rfl ?_); refine goesL_ (some 19) rfl rfl Try.func15 (by kernel_rfl) rfl #[.slice A0 l0.length c0] rfl (by (try simp only [List.map_toArray, List.map_cons, List.map_nil]); first | done | rfl | (simp only [List.length_drop, List.length_take]; rfl)) ?_; (with_reducible refine (bytes_Clone.calls _ _ l0 t107 _ ?side1 ?side2 A4.out).mono ?_); (case side1 => repeat (first | exact HR0.out | (with_reducible refine Kd.C_alloc ?_ _) | (with_reducible refine Kd.C_drewN ?_ _) | (with_reducible refine Kd.C_drew ?_))); (case side2 => exact HC0.out); rintro e w10 ⟨v108, rfl, ho0, hb⟩; refine ⟨_, rfl, ?_⟩; have n0_ := Aside0.mk (Kd.R_lower ho0 (below_size (by repeat (first | (with_reducible first | exact HB.out | apply below_alloc | apply pw_below_drewN | apply below_drew1) | exact HB.out)))); have n1_ := Aside0.mk (below_step (by repeat (first | (with_reducible first | exact HB.out | apply below_alloc | apply pw_below_drewN | apply below_drew1) | exact HB.out)) hb); clear HB; have HO109 := n0_; have HB := n1_; clear n0_ n1_; (try clear hb); (try clear hb2); (try clear hk); (try clear hi); (try clear ho0)) | (at_builtin; refine Kd.R_append_zeros (Kd.int .u8) (w0 := w) w.heap.size rfl (.tmp 19) (.tmp 25) 22 3 5 (.int .u8 0) 1 rfl Try.underlying22 Try.underlying3 info5 rfl (by decide) (by omega) v108 t107 0 (ji5 : Int) (fun _ => True) rfl rfl rfl ?aF ?aO (of_decide_eq_true (by first | (with_reducible assumption) | assumption)) ?aB ?aS ?aL ?_; (case aB => exact (by repeat (first | (with_reducible first | exact HB.out | apply below_alloc | apply pw_below_drewN | apply below_drew1) | exact HB.out))); (case aF => exact (fun _ _ => trivial)); (case aO => exact (by (with_reducible repeat (first | apply Kd.R_alloc | apply Kd.R_drewN | apply Kd.R_drew)); exact HO109.out)); (case aS => exact (below_size (by repeat (first | (with_reducible first | exact HB.out | apply below_alloc | apply pw_below_drewN | apply below_drew1) | exact HB.out)))); (case aL => have := LMc7.out; omega); intro v111 w11 ho hb hg hat; rw [← Ny110.out] at ho; have n0_ := Aside0.mk (hb); have n1_ := Aside0.mk (ho); clear HB; clear HO109; have HB := n0_; have HO112 := n1_; clear n0_ n1_; clear ho hb hg hat) | ((with_reducible refine gate_dst (N := 28) rfl ?_); refine Kd.S_make (Kd.slice 5 (Kd.int .u8)) _ 22 rfl (N := 28) rfl 24 _ _ rfl a1 rfl rfl Try.underlying24 (.slice none 0 0) 24 info22 rfl (by decide) (by omega) [] (ok := fun _ => True) (okp := fun _ => True) ⟨_, rfl, Kd.R_nil _ _ _ _ _⟩ (fun _ hk => hk) trivial (of_decide_eq_true (by first | (with_reducible assumption) | assumption)) (Nat.le_trans (Nat.mul_le_mul_right _ (of_decide_eq_true (by first | (with_reducible assumption) | assumption) : a1.toNat ≤ 11728124029610)) (by omega)) (Below.refl _ _) (Nat.le_refl _) ?_; intro v114 w12 ho13 hb hg_ hnew_; clear hg_ hnew_; (first | rw [← Ny113.out] at ho13 | (simp only [Int.reduceToNat] at ho13; rw [← Ny113.out] at ho13)); have n0_ := Aside0.mk (Kd.R_below (by (with_reducible repeat (first | apply Kd.R_alloc | apply Kd.R_drewN | apply Kd.R_drew)); exact HO112.out) hb); have n1_ := Aside0.mk (Kd.S_lower (Kd.S_new' ho13 (Kd.R_lt (by (with_reducible repeat (first | apply Kd.R_alloc | apply Kd.R_drewN | apply Kd.R_drew)); exact HO112.out))) (below_size (by repeat (first | (with_reducible first | exact HB.out | apply below_alloc | apply pw_below_drewN | apply below_drew1) | exact HB.out)))); have n2_ := Aside0.mk (below_step (by repeat (first | (with_reducible first | exact HB.out | apply below_alloc | apply pw_below_drewN | apply below_drew1) | exact HB.out)) hb); clear HO112; clear HB; have HO112 := n0_; have HO115 := n1_; have HB := n2_; clear n0_ n1_ n2_; clear hb ho13; obtain ⟨Ao14, co14, eo14⟩ := Kd.S_slice HO115.out; subst eo14))
      go_loopg [31] k (fun kq v31 w' => ∃ (x7_1 : List (List Int)) (x31_1 : Int), v31 = .int .i64 x31_1 ∧ Aside0 (stripe_split.l0 kq (wrap64 (Int.tdiv (wrap64 ((wrap64 ((l0.length : Int) + a1)) - 1)) a1)) y110 x7_1 (y113.length : Int) x31_1 = some r) ∧ Aside0 (kq ≤ k) ∧ Aside0 (Kd.R (Kd.int .u8) 5 w' w.heap.size (fun _ => True) v111 y110) ∧ Aside0 (Kd.S (Kd.slice 5 (Kd.int .u8)) 22 w' w.heap.size (fun k_ => some k_ ≠ (v111 : Value).ownBlock) (.slice Ao14 y113.length co14) x7_1) ∧ Aside0 (Below w.heap.size w w'))
      case atStart => exact ⟨(y113), (0), (by first | rfl | (simp; done) | (simp [*]; done)), H', ⟨Nat.le_refl _⟩, ⟨by (with_reducible repeat (first | apply Kd.R_alloc | apply Kd.R_drewN | apply Kd.R_drew)); exact HO112.out⟩, ⟨by (with_reducible repeat (first | apply Kd.S_alloc | apply Kd.S_drewN | apply Kd.S_drew)); exact Kd.S_mono HO115.out (fun _ hk => hk.2)⟩, ⟨by repeat (first | (with_reducible first | exact HB.out | apply below_alloc | apply pw_below_drewN | apply below_drew1) | exact HB.out)⟩⟩
      case round =>
       clear H'
       try clear c1
       try clear p2
       try clear c3
       try clear c3b0
       try clear c3b1
       try clear c6
       try clear c6b0
       try clear c6b1
       try clear p6
       try clear c7
       try clear c8
       try clear c8b0
       try clear c8b1
       try clear c9
       try clear c9b0
       try clear c9b1
       try clear c12
       obtain ⟨x7_1, x31_1, rfl, HA, HK1, HO_6, HO_7, HB⟩ := hrel
       have hl7_1 := (Kd.S_reads' HO_7.out).1
       rw [hl7_1] at HO_7
       (try simp only [hl7_1])
       (try simp only [hl7_1] at HO_6)
       cases gk with
       | zero => exact absurd HA.out (by simp [stripe_split.l0])
       | succ k1 =>
        have H := HA.out
        clear HA
        simp only [stripe_split.l0] at H
        by_cases c15 : x31_1 < (y113.length : Int)
        ·rw [if_pos c15] at H
         have c15b0 : decide (x31_1 < (y113.length : Int)) = true := decide_eq_true c15
         clear c15
         obtain ⟨ji16, hji16⟩ : ∃ j_ : Int, (wrap64 (x31_1 * (wrap64 (Int.tdiv (wrap64 ((wrap64 ((l0.length : Int) + a1)) - 1)) a1)))) = j_ := ⟨_, rfl⟩
         replace H : (if 0 ≤ (ji16) then (if (ji16) ≤ (wrap64 ((wrap64 (x31_1 + 1)) * (wrap64 (Int.tdiv (wrap64 ((wrap64 ((l0.length : Int) + a1)) - 1)) a1)))) then (if (wrap64 ((wrap64 (x31_1 + 1)) * (wrap64 (Int.tdiv (wrap64 ((wrap64 ((l0.length : Int) + a1)) - 1)) a1)))) ≤ (y110.length : Int) then ((bytes_Clone.f ((y110.take ((wrap64 ((wrap64 (x31_1 + 1)) * (wrap64 (Int.tdiv (wrap64 ((wrap64 ((l0.length : Int) + a1)) - 1)) a1)))) : Int).toNat).drop ((ji16) : Int).toNat)).bind fun t120 => (if 0 ≤ x31_1 then (if x31_1 < (x7_1.length : Int) then (stripe_split.l0 k1 (wrap64 (Int.tdiv (wrap64 ((wrap64 ((l0.length : Int) + a1)) - 1)) a1)) y110 (x7_1.set (x31_1 : Int).toNat t120) (y113.length : Int) (wrap64 (x31_1 + 1))) else (none)) else (none))) else (none)) else (none)) else (none)) = some r := by first | (rw [hji16] at H; exact H) | (simp only [hji16] at H ⊢; exact H)
         have hji16w : (IntKind.i64.wrap (x31_1 * (wrap64 (Int.tdiv (wrap64 ((wrap64 ((l0.length : Int) + a1)) - 1)) a1)))) = ji16 := (i64_w _).trans hji16
         by_cases c17 : 0 ≤ (ji16)
         ·rw [if_pos c17] at H
          have c17b0 := eq_true c17
          have c17b1 : decide (0 ≤ (ji16)) = true := decide_eq_true c17
          clear c17
          by_cases c18 : (ji16) ≤ (wrap64 ((wrap64 (x31_1 + 1)) * (wrap64 (Int.tdiv (wrap64 ((wrap64 ((l0.length : Int) + a1)) - 1)) a1))))
          ·rw [if_pos c18] at H
           have c18b0 := eq_true c18
           have c18b1 : decide ((ji16) ≤ (wrap64 ((wrap64 (x31_1 + 1)) * (wrap64 (Int.tdiv (wrap64 ((wrap64 ((l0.length : Int) + a1)) - 1)) a1))))) = true := decide_eq_true c18
           by_cases c19 : (wrap64 ((wrap64 (x31_1 + 1)) * (wrap64 (Int.tdiv (wrap64 ((wrap64 ((l0.length : Int) + a1)) - 1)) a1)))) ≤ (y110.length : Int)
           ·rw [if_pos c19] at H
            have c19b0 := eq_true c19
            have c19b1 : decide ((wrap64 ((wrap64 (x31_1 + 1)) * (wrap64 (Int.tdiv (wrap64 ((wrap64 ((l0.length : Int) + a1)) - 1)) a1)))) ≤ (y110.length : Int)) = true := decide_eq_true c19
            obtain ⟨y116, hy116⟩ : ∃ y_ : List Int, y_ = ((y110.take ((wrap64 ((wrap64 (x31_1 + 1)) * (wrap64 (Int.tdiv (wrap64 ((wrap64 ((l0.length : Int) + a1)) - 1)) a1)))) : Int).toNat).drop ((ji16) : Int).toNat) := ⟨_, rfl⟩
            replace H : ((bytes_Clone.f y116).bind fun t120 => (if 0 ≤ x31_1 then (if x31_1 < (x7_1.length : Int) then (stripe_split.l0 k1 (wrap64 (Int.tdiv (wrap64 ((wrap64 ((l0.length : Int) + a1)) - 1)) a1)) y110 (x7_1.set (x31_1 : Int).toNat t120) (y113.length : Int) (wrap64 (x31_1 + 1))) else (none)) else (none))) = some r := by first | (rw [hy116]; with_reducible exact H) | (have H2_ := (Option.bind_some _ _).symm.trans H; rw [hy116]; with_reducible exact H2_) | (have H2_ := (Option.bind_some _ _).symm.trans H; with_reducible exact H2_) | with_reducible exact H | (rw [hy116]; exact H) | exact H
            have Ny116 := Aside0.mk hy116
            clear hy116
            replace H := Option.bind_eq_some_iff.mp H
            obtain ⟨t120, A200, H⟩ := H
            replace H : (if 0 ≤ x31_1 then (if x31_1 < (x7_1.length : Int) then (stripe_split.l0 k1 (wrap64 (Int.tdiv (wrap64 ((wrap64 ((l0.length : Int) + a1)) - 1)) a1)) y110 (x7_1.set (x31_1 : Int).toNat t120) (y113.length : Int) (wrap64 (x31_1 + 1))) else (none)) else (none)) = some r := H
            have A20 := Aside0.mk A200
            clear A200
            by_cases c21 : 0 ≤ x31_1
            ·rw [if_pos c21] at H
             have c21b0 : decide (0 ≤ x31_1) = true := decide_eq_true c21
             clear c21
             by_cases c22 : x31_1 < (x7_1.length : Int)
             ·rw [if_pos c22] at H
              have c22b0 : decide (x31_1 < (x7_1.length : Int)) = true := decide_eq_true c22
              clear c22
              obtain ⟨y123, hy123⟩ : ∃ y_ : List (List Int), y_ = (x7_1.set (x31_1 : Int).toNat t120) := ⟨_, rfl⟩
              replace H : (stripe_split.l0 k1 (wrap64 (Int.tdiv (wrap64 ((wrap64 ((l0.length : Int) + a1)) - 1)) a1)) y110 y123 (y113.length : Int) (wrap64 (x31_1 + 1))) = some r := by first | (rw [hy123]; with_reducible exact H) | (have H2_ := (Option.bind_some _ _).symm.trans H; rw [hy123]; with_reducible exact H2_) | (have H2_ := (Option.bind_some _ _).symm.trans H; with_reducible exact H2_) | with_reducible exact H | (rw [hy123]; exact H) | exact H
              have Ny123 := Aside0.mk hy123
              clear hy123
              have H' := Aside0.mk H
              clear H
              obtain ⟨Ao25, co25, eo25⟩ := Kd.R_slice HO_6.out
              subst eo25
              have q24 : ((wrap64 ((wrap64 (x31_1 + 1)) * (wrap64 (Int.tdiv (wrap64 ((wrap64 ((l0.length : Int) + a1)) - 1)) a1)))) : Int) ≤ ((y110.length : Int) : Int) := of_decide_eq_true (by first | (with_reducible assumption) | assumption)
              obtain ⟨i024, hi024, _, hsz24, _⟩ := info_parts info5
              have hroom24 : y110.length ≤ co25 := (Kd.R_reads' HO_6.out).2.1
              have hC24 : Kd.C (Kd.int .u8) _ Ao25 y110.length y110 := (Kd.R_reads' HO_6.out).2.2
              have ql24 : ((ji16) : Int) ≤ ((wrap64 ((wrap64 (x31_1 + 1)) * (wrap64 (Int.tdiv (wrap64 ((wrap64 ((l0.length : Int) + a1)) - 1)) a1)))) : Int) := of_decide_eq_true (by first | (with_reducible assumption) | assumption)
              have q024 : (0 : Int) ≤ ((ji16) : Int) := of_decide_eq_true (by first | (with_reducible assumption) | assumption)
              have hcut24 := cut_mid3 (P := Try.prog) 22 5 .i64 .i64 Try.underlying22 hi024 1 hsz24 Ao25 y110.length co25 (ji16) (wrap64 ((wrap64 (x31_1 + 1)) * (wrap64 (Int.tdiv (wrap64 ((wrap64 ((l0.length : Int) + a1)) - 1)) a1)))) q024 ql24 q24 hroom24
              have hr24 := C_mid3 (lo := ((ji16) : Int).toNat) (hi := ((wrap64 ((wrap64 (x31_1 + 1)) * (wrap64 (Int.tdiv (wrap64 ((wrap64 ((l0.length : Int) + a1)) - 1)) a1)))) : Int).toNat) (c := co25) hC24 (by omega) (by omega) hroom24
              obtain ⟨A24, hA24⟩ : ∃ A1, A1 = (if ((wrap64 ((wrap64 (x31_1 + 1)) * (wrap64 (Int.tdiv (wrap64 ((wrap64 ((l0.length : Int) + a1)) - 1)) a1)))) : Int).toNat = ((ji16) : Int).toNat then Ao25 else (Ao25 : Option Addr).map (·.add (((ji16) : Int).toNat * 1))) := ⟨_, rfl⟩
              obtain ⟨c24, hc24⟩ : ∃ c1, c1 = (((wrap64 ((wrap64 (x31_1 + 1)) * (wrap64 (Int.tdiv (wrap64 ((wrap64 ((l0.length : Int) + a1)) - 1)) a1)))) : Int) - ((ji16) : Int)).toNat := ⟨_, rfl⟩
              have hy24 : y116.length = ((wrap64 ((wrap64 (x31_1 + 1)) * (wrap64 (Int.tdiv (wrap64 ((wrap64 ((l0.length : Int) + a1)) - 1)) a1)))) : Int).toNat - ((ji16) : Int).toNat := (by rw [Ny116.out, List.length_drop, List.length_take] <;> omega)
              rw [show ((y110).take ((wrap64 ((wrap64 (x31_1 + 1)) * (wrap64 (Int.tdiv (wrap64 ((wrap64 ((l0.length : Int) + a1)) - 1)) a1)))) : Int).toNat).drop ((ji16) : Int).toNat = y116 from Ny116.out.symm] at hr24
              replace hr24 : Kd.C (Kd.int .u8) _ A24 y116.length y116 := (by rw [hA24]; exact hr24)
              rw [← hy24, ← hA24, ← hc24] at hcut24
              have HR119 := Aside0.mk hr24
              have HC119 := Aside0.mk (show y116.length ≤ c24 from by rw [hy24, hc24]; omega)
              clear hr24 hC24 hroom24 hi024 hsz24 hc24
              have KY24 := Aside0.mk hy24
              have KA24 := Aside0.mk hA24
              clear hy24 hA24
              have KL24 := Aside0.mk (show ((wrap64 ((wrap64 (x31_1 + 1)) * (wrap64 (Int.tdiv (wrap64 ((wrap64 ((l0.length : Int) + a1)) - 1)) a1)))) : Int).toNat ≤ y110.length from by omega)
              have KM24 := Aside0.mk (show ((ji16) : Int).toNat ≤ ((wrap64 ((wrap64 (x31_1 + 1)) * (wrap64 (Int.tdiv (wrap64 ((wrap64 ((l0.length : Int) + a1)) - 1)) a1)))) : Int).toNat from by omega)
              replace q24 := eq_true q24
              go_wp2_with (first | ((with_reducible refine gate_callee (f := 15) rfl ?_); refine goesL_ (some 48) rfl rfl Try.func15 (by kernel_rfl) rfl #[.slice A24 y116.length c24] rfl (by (try simp only [List.map_toArray, List.map_cons, List.map_nil]); first | done | rfl | (simp only [List.length_drop, List.length_take]; rfl)) ?_; (with_reducible refine (bytes_Clone.calls _ _ y116 t120 _ ?side1 ?side2 A20.out).mono ?_); (case side1 => repeat (first | exact (by repeat (first | (with_reducible exact HR119.out) | (with_reducible refine Kd.C_alloc ?_ _) | (with_reducible refine Kd.C_drewN ?_ _) | (with_reducible refine Kd.C_drew ?_) | exact HR119.out)) | (with_reducible refine Kd.C_alloc ?_ _) | (with_reducible refine Kd.C_drewN ?_ _) | (with_reducible refine Kd.C_drew ?_))); (case side2 => exact HC119.out); rintro e w26 ⟨v121, rfl, ho0, hb⟩; refine ⟨_, rfl, ?_⟩; have n0_ := Aside0.mk (Kd.R_elder' (by (with_reducible repeat (first | apply Kd.R_alloc | apply Kd.R_drewN | apply Kd.R_drew)); exact HO_6.out) (Kd.R_base ho0) hb); have n1_ := Aside0.mk (Kd.S_elder' (by (with_reducible repeat (first | apply Kd.S_alloc | apply Kd.S_drewN | apply Kd.S_drew)); exact HO_7.out) (Kd.R_base ho0) hb); have n2_ := Aside0.mk (Kd.R_lower (Kd.R_new' ho0 (Kd.R_lt (by (with_reducible repeat (first | apply Kd.R_alloc | apply Kd.R_drewN | apply Kd.R_drew)); exact HO_6.out))) (below_size (by repeat (first | (with_reducible first | exact HB.out | apply below_alloc | apply pw_below_drewN | apply below_drew1) | exact HB.out)))); have n3_ := Aside0.mk (Kd.C_below (by repeat (first | (with_reducible exact HR119.out) | (with_reducible refine Kd.C_alloc ?_ _) | (with_reducible refine Kd.C_drewN ?_ _) | (with_reducible refine Kd.C_drew ?_) | exact HR119.out)) hb); have n4_ := Aside0.mk (below_step (by repeat (first | (with_reducible first | exact HB.out | apply below_alloc | apply pw_below_drewN | apply below_drew1) | exact HB.out)) hb); clear HO_6; clear HO_7; clear HR119; clear HB; have HO_6 := n0_; have HO_7 := n1_; have HO122 := n2_; have HR119 := n3_; have HB := n4_; clear n0_ n1_ n2_ n3_ n4_; (try clear hb); (try clear hb2); (try clear hk); (try clear hi); (try clear ho0); have p23 : 0 ≤ (x31_1 : Int) := of_decide_eq_true (by first | (with_reducible assumption) | assumption); have q23 : (x31_1 : Int) < ((x7_1.length : Int) : Int) := of_decide_eq_true (by first | (with_reducible assumption) | assumption); obtain ⟨go23, co23, eo23, gb23, gl23, cl23, HG23⟩ := Kd.S_form HO_7.out (by omega); (first | cases eo23 | (injection eo23 with ea_ en_ ec_; (first | subst ea_ | (injection ea_ with ea_; subst ea_)); subst ec_; clear en_)); have GB23 := Aside0.mk gb23; have GG23 := Aside0.mk HG23; clear gb23 gl23 HG23; obtain ⟨_, ce23, hcl23, hM23, hcc23, hfr23, _, _⟩ := Kd.S_elem HO_7.out [] (x31_1 : Int) p23 q23; obtain ⟨ve23_0, rfl, ge23_0⟩ := hM23; have hx23_0 := hcc23 0 _ rfl; have hf23_0 := hfr23 0; (try simp only [show ((Kd.slice 5 (Kd.int .u8))).sz = 1 from rfl, Nat.mul_one, Nat.add_zero] at hx23_0); (try simp only [show ((Kd.slice 5 (Kd.int .u8))).sz = 1 from rfl, Nat.mul_one, Nat.add_zero] at hf23_0); clear hcl23 hcc23 hfr23; replace p23 := eq_true p23; replace q23 := eq_true q23; have HX27 := Aside0.mk (show Kd.S (Kd.slice 5 (Kd.int .u8)) 22 w26 w.heap.size (fun k_ => ((fun k_ => some k_ ≠ (.slice Ao25 y110.length co25 : Value).ownBlock)) k_ ∧ ¬ ((fun k_ => some k_ = (v121 : Value).ownBlock)) k_) (.slice (some ⟨go23, 0, none⟩) x7_1.length co14) x7_1 from (by (with_reducible repeat (first | apply Kd.S_alloc | apply Kd.S_drewN | apply Kd.S_drew)); exact Kd.S_mono HO_7.out (fun k_ hk => ⟨hk.1, fun e_ => hk.2 e_⟩))); obtain ⟨oki27, ce27, hcl27, hM27, hcc27, hfr27, hoki27, hH27⟩ := Kd.S_elem HX27.out [] (x31_1 : Int) (of_decide_eq_true (by first | (with_reducible assumption) | assumption)) (by have h_ : (x31_1 : Int) < ((x7_1.length : Int) : Int) := of_decide_eq_true (by first | (with_reducible assumption) | assumption); first | exact h_ | (have e_ := (Kd.S_reads' HO_7.out).1; omega) | simpa using h_); obtain ⟨ve27_0, rfl, ge27_0⟩ := hM27; have HP27 := Kd.S_seg hH27 (of_decide_eq_true (by first | (with_reducible assumption) | assumption)) (by have h_ : (x31_1 : Int) < ((x7_1.length : Int) : Int) := of_decide_eq_true (by first | (with_reducible assumption) | assumption); first | exact h_ | (have e_ := (Kd.S_reads' HO_7.out).1; omega) | simpa using h_) (seg := [v121]) (j := 0) (show 1 ≤ 1 from by decide) (x' := t120) (Kd.M_row (Kd.R_mono (Kd.R_tight rfl (Kd.R_mono (ok' := fun k_ => ((fun k_ => some k_ ≠ (.slice Ao25 y110.length co25 : Value).ownBlock)) k_ ∧ k_ ≠ go23) (Kd.R_apart' (HO122.out) (Kd.S_typed HO_7.out) (by decide)) (fun k_ hk => ⟨hk.1.2, fun e_ => (hk.2) (by rw [e_]; rfl)⟩))) (fun _ h_ => Or.inr (h_)))) (fun _ hk => hk) (fun k_ hk_ => ((Kd.R_mono (ok' := fun k_ => ((fun k_ => some k_ ≠ (.slice Ao25 y110.length co25 : Value).ownBlock)) k_ ∧ k_ ≠ go23) (Kd.R_apart' (HO122.out) (Kd.S_typed HO_7.out) (by decide)) (fun k_ hk => ⟨hk.1.2, fun e_ => (hk.2) (by rw [e_]; rfl)⟩))).1 k_ hk_.symm); have hx27_0 := hcc27 0 _ rfl; (try simp only [show ((Kd.slice 5 (Kd.int .u8))).sz = 1 from rfl, Nat.mul_one, Nat.add_zero] at hx27_0); have hf27_0 := hfr27 0; (try simp only [show ((Kd.slice 5 (Kd.int .u8))).sz = 1 from rfl, Nat.mul_one, Nat.add_zero] at hf27_0); clear hcl27 hcc27 hfr27 hoki27 hH27; (try simp only [show ((Kd.slice 5 (Kd.int .u8))).sz = 1 from rfl, Nat.mul_one, Nat.add_zero] at HP27)) | ((with_reducible refine gate_store (t := 22) (p := 49) rfl ?_); refine store_event (t := 22) (p := 49) (v := ?vo_w28) (w1 := (w26.setCell ⟨go23, (x31_1 : Int).toNat, none⟩ (v121))) ?hg ?ho ?hn ?hr ?_; (case ho => rfl); (case hg => rfl); (case hn => rfl); (case hr => first | (go_simp; done) | (go_simp; rfl) | (obtain ⟨A_, c_, e_⟩ := Kd.R_slice HO122.out; subst e_; first | (go_simp; done) | (go_simp; rfl))); intro w28 hw; have hg : w26.grownBy w28 (some go23) := (by rw [hw]; exact HP27.2); have hp_ : Kd.S (Kd.slice 5 (Kd.int .u8)) 22 w28 w.heap.size (fun k_ => some k_ ≠ (.slice Ao25 y110.length co25 : Value).ownBlock) (.slice (some ⟨go23, 0, none⟩) x7_1.length co14) y123 := (by rw [hw, Ny123.out]; exact HP27.1); clear HP27; have n0_ := Aside0.mk (Kd.R_over' (v := (.slice (some ⟨go23, 0, none⟩) x7_1.length co14)) (by (with_reducible repeat (first | apply Kd.R_alloc | apply Kd.R_drewN | apply Kd.R_drew)); exact HO_6.out) (Kd.S_typed HO_7.out) (by decide) hg); have n1_ := Aside0.mk (hp_); have n2_ := Aside0.mk ((by rw [hw]; exact below_set (HB.out) GB23.out : Below w.heap.size w w28)); have n3_ := Aside0.mk ((show Kd.C (Kd.int .u8) w28 A24 y116.length y116 from by rw [Ny116.out, KA24.out]; exact C_mid3 (lo := ((ji16) : Int).toNat) (hi := ((wrap64 ((wrap64 (x31_1 + 1)) * (wrap64 (Int.tdiv (wrap64 ((wrap64 ((l0.length : Int) + a1)) - 1)) a1)))) : Int).toNat) (c := co25) ((Kd.R_reads' (Kd.R_over' (v := (.slice (some ⟨go23, 0, none⟩) x7_1.length co14)) (by (with_reducible repeat (first | apply Kd.R_alloc | apply Kd.R_drewN | apply Kd.R_drew)); exact HO_6.out) (Kd.S_typed HO_7.out) (by decide) hg)).2.2) KM24.out KL24.out ((Kd.R_reads' (Kd.R_over' (v := (.slice (some ⟨go23, 0, none⟩) x7_1.length co14)) (by (with_reducible repeat (first | apply Kd.R_alloc | apply Kd.R_drewN | apply Kd.R_drew)); exact HO_6.out) (Kd.S_typed HO_7.out) (by decide) hg)).2.1))); clear HO_6; clear HO_7; clear HB; clear HR119; clear HO122; have HO_6 := n0_; have HO_7 := n1_; have HB := n2_; have HR119 := n3_; clear n0_ n1_ n2_ n3_; clear hg hw hp_))
              (try simp only [← hl7_1])
              go_roundg k1
              case measure => have := HK1.out; omega
              case rel => exact ⟨(y123), (wrap64 (x31_1 + 1)), (by first | rfl | (simp; done) | (simp [*]; done)), H', ⟨by have := HK1.out; omega⟩, ⟨by (try simp only [hl7_1]); (with_reducible repeat (first | apply Kd.R_alloc | apply Kd.R_drewN | apply Kd.R_drew)); exact Kd.R_mono HO_6.out (fun _ hk => trivial)⟩, ⟨by (try simp only [hl7_1]); (with_reducible repeat (first | apply Kd.S_alloc | apply Kd.S_drewN | apply Kd.S_drew)); exact HO_7.out⟩, ⟨by repeat (first | (with_reducible first | exact HB.out | apply below_alloc | apply pw_below_drewN | apply below_drew1) | exact HB.out)⟩⟩
             ·rw [if_neg c22] at H
              exact absurd H (by simp)
            ·rw [if_neg c21] at H
             exact absurd H (by simp)
           ·rw [if_neg c19] at H
            exact absurd H (by simp)
          ·rw [if_neg c18] at H
           exact absurd H (by simp)
         ·rw [if_neg c17] at H
          exact absurd H (by simp)
        ·rw [if_neg c15] at H
         have c15b0 : decide (x31_1 < (y113.length : Int)) = false := decide_eq_false c15
         try rw [hl7_1] at c15b0
         clear c15
         obtain rfl := Option.some.inj H
         go_wp2
         go_ret
         exact ⟨_, by first | rfl | (simp [errW_none, errW_some] <;> rfl) | (simp only [← hji5]; first | rfl | (simp [errW_none, errW_some] <;> rfl)) | (simp [*, errW_none, errW_some] <;> rfl), by (with_reducible repeat (first | apply Kd.S_alloc | apply Kd.S_drewN | apply Kd.S_drew)); exact Kd.S_mono HO_7.out (fun _ hk => trivial), by repeat (first | (with_reducible first | exact HB.out | apply below_alloc | apply pw_below_drewN | apply below_drew1) | exact HB.out)⟩
     ·rw [if_neg c9] at H
      exact absurd H (by simp)
    ·rw [if_neg c8] at H
     exact absurd H (by simp)
   ·rw [if_neg c7] at H
    exact absurd H (by simp)
  ·rw [if_neg c6] at H
   exact absurd H (by simp)

/-! ### stripe_Split: function 5 -/
def stripe_Split.j0 : Nat → List Int → Int → Bool → Option ((List (List Int)) × Int)
 | 0, _, _, _ => none
 | k + 1, x0, x1, x6 => if x6 = true then (some (([] : List (List Int)), 2)) else (if (x0.length : Int) > (wrap64 (x1 * 65536)) then (some (([] : List (List Int)), 4)) else ((stripe_split.f k x0 x1).bind fun t124 => (some (t124, 0))))
def stripe_Split.f (k : Nat) (l0 : List Int) (a1 : Int) : Option ((List (List Int)) × Int) := if a1 < 1 then (stripe_Split.j0 k l0 a1 true) else (stripe_Split.j0 k l0 a1 (decide (a1 > 64)))
set_option maxHeartbeats 8000000 in
set_option maxRecDepth 100000 in
theorem stripe_Split.calls (k : Nat) (A0 : Option Addr) (c0 : Nat) (l0 : List Int) (a1 : Int) (r1 : List (List Int)) (r2 : Int) (w : World) (hr0 : Kd.C (Kd.int .u8) w A0 l0.length l0) (hc0 : l0.length ≤ c0) (h : stripe_Split.f k l0 a1 = some (r1, r2)) :
  Calls Try.prog 5 #[.slice A0 l0.length c0, .int .i64 a1] w fun e w' => ∃ v0_ : Value, e = .returned (.tuple #[v0_, .int .i64 r2]) ∧ Kd.S (Kd.slice 5 (Kd.int .u8)) 22 w' w.heap.size (fun _ => True) v0_ r1 ∧ Below w.heap.size w w' := by
 have HR0 := Aside0.mk hr0
 have HC0 := Aside0.mk hc0
 clear hr0 hc0
 have HB := Aside0.mk (Below.refl w.heap.size w)
 have H : (if a1 < 1 then (stripe_Split.j0 k l0 a1 true) else (stripe_Split.j0 k l0 a1 (decide (a1 > 64)))) = some (r1, r2) := h
 clear h
 have HC3 := Aside0.mk H
 clear H
 go_enter Try.func5, Try.ntmps5
 go_upto_region 1 with (fail)
 go_cut [6] (fun v6 wc => ∃ (kq : Nat) (x6_2 : Bool), v6 = .bool x6_2 ∧ Aside0 (stripe_Split.j0 kq l0 a1 x6_2 = some (r1, r2)) ∧ Aside0 (kq ≤ k) ∧ Aside0 (Below w.heap.size w wc))
 case first =>
  have H := HC3.out
  clear HC3
  by_cases c4 : a1 < 1
  ·rw [if_pos c4] at H
   have c4b0 : decide (a1 < 1) = true := decide_eq_true c4
   clear c4
   (first | rw [c4b0] | rw [c4b1] | (simp only [i64_w, i32_w]; rw [c4b0]) | skip)
   have H' := Aside0.mk H
   clear H
   go_wp2
   go_meet
   case rel => exact ⟨_, (true), (by first | rfl | (simp; done) | (simp [*]; done)), H', ⟨by first | omega | exact Nat.le_refl _⟩, ⟨by repeat (first | (with_reducible first | exact HB.out | apply below_alloc | apply pw_below_drewN | apply below_drew1) | exact HB.out)⟩⟩
  ·rw [if_neg c4] at H
   have c4b0 : decide (a1 < 1) = false := decide_eq_false c4
   clear c4
   (first | rw [c4b0] | rw [c4b1] | (simp only [i64_w, i32_w]; rw [c4b0]) | skip)
   have H' := Aside0.mk H
   clear H
   go_wp2
   go_meet
   case rel => exact ⟨_, (decide (a1 > 64)), (by first | rfl | (simp; done) | (simp [*]; done)), H', ⟨by first | omega | exact Nat.le_refl _⟩, ⟨by repeat (first | (with_reducible first | exact HB.out | apply below_alloc | apply pw_below_drewN | apply below_drew1) | exact HB.out)⟩⟩
 case rest =>
  clear HC3
  try clear p2
  try clear c4
  try clear c4b0
  obtain ⟨kq, x6_2, rfl, HA, HJ2, HB⟩ := hcut
  cases kq with
  | zero => exact absurd HA.out (by simp [stripe_Split.j0])
  | succ kj2 =>
   have H := HA.out
   clear HA
   simp only [stripe_Split.j0] at H
   by_cases c5 : x6_2 = true
   ·subst c5
    have H1 : (some (([] : List (List Int)), 2)) = some (r1, r2) := by rw [if_pos rfl] at H; exact H
    clear H
    have H := H1
    clear H1
    simp only [Option.some.injEq, Prod.mk.injEq] at H
    obtain ⟨rfl, rfl⟩ := H
    go_wp2
    go_ret2
    exact ⟨_, by first | rfl | (simp [errW_none, errW_some] <;> rfl) | (simp [*, errW_none, errW_some] <;> rfl), by first | exact Kd.S_nil _ _ _ _ _ | exact Kd.N_nil _ _ _ _ _ | exact Kd.V_nil _ _ _ _ _ | exact Kd.Q_nil _ _ _ _ _ | exact Kd.R_nil _ _ _ _ _, by repeat (first | (with_reducible first | exact HB.out | apply below_alloc | apply pw_below_drewN | apply below_drew1) | exact HB.out)⟩
   ·replace c5 := Bool.eq_false_iff.mpr c5
    subst c5
    have H1 : (if (l0.length : Int) > (wrap64 (a1 * 65536)) then (some (([] : List (List Int)), 4)) else ((stripe_split.f kj2 l0 a1).bind fun t124 => (some (t124, 0)))) = some (r1, r2) := by rw [if_neg (show ¬ (false = true) by decide)] at H; exact H
    clear H
    have H := H1
    clear H1
    by_cases c6 : (l0.length : Int) > (wrap64 (a1 * 65536))
    ·rw [if_pos c6] at H
     have c6b0 : decide ((wrap64 (a1 * 65536)) < (l0.length : Int)) = true := decide_eq_true c6
     clear c6
     simp only [Option.some.injEq, Prod.mk.injEq] at H
     obtain ⟨rfl, rfl⟩ := H
     go_wp2
     go_ret2
     exact ⟨_, by first | rfl | (simp [errW_none, errW_some] <;> rfl) | (simp [*, errW_none, errW_some] <;> rfl), by first | exact Kd.S_nil _ _ _ _ _ | exact Kd.N_nil _ _ _ _ _ | exact Kd.V_nil _ _ _ _ _ | exact Kd.Q_nil _ _ _ _ _ | exact Kd.R_nil _ _ _ _ _, by repeat (first | (with_reducible first | exact HB.out | apply below_alloc | apply pw_below_drewN | apply below_drew1) | exact HB.out)⟩
    ·rw [if_neg c6] at H
     have c6b0 : decide ((wrap64 (a1 * 65536)) < (l0.length : Int)) = false := decide_eq_false c6
     clear c6
     replace H := Option.bind_eq_some_iff.mp H
     obtain ⟨t124, A70, H⟩ := H
     replace H : (some (t124, 0)) = some (r1, r2) := H
     have A7 := Aside0.mk A70
     clear A70
     simp only [Option.some.injEq, Prod.mk.injEq] at H
     obtain ⟨rfl, rfl⟩ := H
     go_wp2_with (first | ((with_reducible refine gate_callee (f := 12) rfl ?_); refine goesL_ (some 21) rfl rfl Try.func12 (by kernel_rfl) rfl #[.slice A0 l0.length c0, .int .i64 a1] rfl (by (try simp only [List.map_toArray, List.map_cons, List.map_nil]); first | done | rfl | (simp only [List.length_drop, List.length_take]; rfl)) ?_; (with_reducible refine (stripe_split.calls kj2 _ _ l0 a1 t124 _ ?side1 ?side2 A7.out).mono ?_); (case side1 => repeat (first | exact (Kd.C_below HR0.out HB.out) | (with_reducible refine Kd.C_alloc ?_ _) | (with_reducible refine Kd.C_drewN ?_ _) | (with_reducible refine Kd.C_drew ?_))); (case side2 => exact HC0.out); rintro e w8 ⟨v125, rfl, ho0, hb⟩; refine ⟨_, rfl, ?_⟩; have n0_ := Aside0.mk (Kd.S_lower ho0 (below_size (by repeat (first | (with_reducible first | exact HB.out | apply below_alloc | apply pw_below_drewN | apply below_drew1) | exact HB.out)))); have n1_ := Aside0.mk (below_step (by repeat (first | (with_reducible first | exact HB.out | apply below_alloc | apply pw_below_drewN | apply below_drew1) | exact HB.out)) hb); clear HB; have HO126 := n0_; have HB := n1_; clear n0_ n1_; (try clear hb); (try clear hb2); (try clear hk); (try clear hi); (try clear ho0)))
     go_ret2
     exact ⟨_, by first | rfl | (simp [errW_none, errW_some] <;> rfl) | (simp [*, errW_none, errW_some] <;> rfl), by (with_reducible repeat (first | apply Kd.S_alloc | apply Kd.S_drewN | apply Kd.S_drew)); exact HO126.out, by repeat (first | (with_reducible first | exact HB.out | apply below_alloc | apply pw_below_drewN | apply below_drew1) | exact HB.out)⟩

/-! ### bytes_Join: function 13 (by hand) -/


/-! ### slices_IndexFunc_byte_byte: function 19 (by hand) -/


/-! ### slices_ContainsFunc_byte_byte: function 17 (by hand) -/


/-! ### stripe_same: function 14 (by hand) -/


/-! ### stripe_Join: function 7 (by hand) -/
/-- A buffer of the call's own at the block h, N cells wide; its first cells are acc. -/
structure Bf (w0 wr : World) (h N : Nat) (acc : List Int) : Prop where
  below : Below h w0 wr
  there : ∀ j, j < N → (wr.cell? ⟨h, j, none⟩).isSome = true
  free : ∀ j, j < N → wr.frozen? ⟨h, j, none⟩ = false
  holds : ∀ j, j < acc.length → wr.cell? ⟨h, j, none⟩ = some (.int .u8 (acc.getD j 0))
  fits : acc.length ≤ N
  room : h < wr.heap.size
def tl (h N bp : Nat) : Value := .slice (some (if N = bp then ⟨h, 0, none⟩ else ⟨h, bp, none⟩)) (N - bp) (N - bp)
theorem tl_zero (h N : Nat) : tl h N 0 = .slice (some ⟨h, 0, none⟩) N N := by
  unfold tl
  split <;> simp_all
theorem size_u8 (w : World) : (Go.sizeOf 5).run Try.prog w = .ok 1 w := by
  obtain ⟨i, hi, _, hs, _⟩ := info_parts info5
  simp [sizeOf, typeInfo, hi, hs]
theorem size_u8' : (Try.prog.info? 5).map (·.size) = some 1 := by
  obtain ⟨i, hi, _, hs, _⟩ := info_parts info5
  simp [hi, hs]
theorem run_tl (W : World) (h N bp : Nat) (hb : bp ≤ N) : (Instr.slice 22 (.slice (some ⟨h, 0, none⟩) N N) (some (.int .i64 (bp : Int))) none none).run Try.prog W = .ok (tl h N bp) W := by
  have ht' : Try.prog.underlying 22 = some (.slice (Try.prog.elem 22)) := by simp [Program.elem, Try.underlying22]
  have he : Try.prog.elem 22 = 5 := by simp [Program.elem, Try.underlying22]
  rw [run_slice_l W 22 _ _ _ ht' .i64 _ (by omega) (by omega), he, size_u8]
  unfold tl
  by_cases h0 : N = bp
  · simp [Result.andThen, sliced, h0]
  · by_cases h1 : bp = 0
    · subst h1; simp [Result.andThen, sliced, Addr.add, h0]
    · simp [Result.andThen, sliced, Addr.add, h0, h1]
theorem bf_sets {B : Nat} {a : World} (b : Nat) (hb : B ≤ b) : ∀ (vs : List Value) (o : Nat) {w : World}, Below B a w → Below B a (w.setCells b o vs)
  | [], _, _, h => h
  | v :: r, o, _, h => bf_sets b hb r (o + 1) (h.setCell (p := ⟨b, o, none⟩) hb v)
/-- copy(b[bp:], v), bp = how much is filled. -/
theorem bf_copy (w0 wr : World) (h N : Nat) (acc l : List Int) (A : Option Addr) (c : Nat) (hh : w0.heap.size ≤ h) (hb : Bf w0 wr h N acc) (hv : Kd.C (Kd.int .u8) w0 A l.length l) (hfit : acc.length + l.length ≤ N) :
    ∃ wr', (Builtin.copy_ #[22, 22] 3 #[tl h N acc.length, .slice A l.length c]).run Try.prog wr = .ok (.int .i64 (l.length : Int)) wr' ∧ Bf w0 wr' h N (acc ++ l) := by
  by_cases hl : l = []
  · subst hl
    refine ⟨wr, ?_, by simpa using hb⟩
    exact run_copy_none (P := Try.prog) wr 22 22 3 5 _ A _ _ 0 c Try.underlying22 size_u8' (by simp)
  · have hpos : 0 < l.length := List.length_pos_iff.2 hl
    obtain ⟨a, rfl, hcells⟩ := (Kd.reads_of_C (enc := Value.int .u8) (d := (0 : Int)) (h1 := fun _ => rfl) hv).2.2 hpos
    have hne : ¬ N = acc.length := by omega
    have hkl : (l.map fun x => Value.int .u8 x).length = l.length := List.length_map ..
    have hr := run_copy_cells (P := Try.prog) wr 22 22 3 5 h acc.length (N - acc.length) (N - acc.length) a l.length c (l.map fun x => Value.int .u8 x) Try.underlying22 size_u8' (by rw [hkl]; exact (Nat.min_eq_left (by omega)).symm)
      (fun j u hj => by
        rw [List.getElem?_map] at hj
        obtain ⟨x, hx, rfl⟩ := Option.map_eq_some_iff.1 hj
        have hjl : j < l.length := (List.getElem?_eq_some_iff.1 hx).1
        have hcj := hcells j hjl
        rw [List.getD_eq_getElem?_getD, hx, Option.getD_some] at hcj
        rw [hb.below.cell (Nat.lt_of_lt_of_le (World.block_lt_of_cell? w0 _ hcj) hh)]
        exact hcj)
      (fun j hj => by rw [hkl] at hj; exact hb.there _ (by omega)) (fun j hj => by rw [hkl] at hj; exact hb.free _ (by omega))
      (fun u hu' => by obtain ⟨x, _, rfl⟩ := List.mem_map.1 hu'; rfl)
    rw [hkl] at hr
    refine ⟨_, by unfold tl; rw [if_neg hne]; exact hr, ?_⟩
    have hin := World.cell?_setCells_in h (l.map fun x => Value.int .u8 x) acc.length wr (fun j hj => by rw [hkl] at hj; exact hb.there _ (by omega))
    have hout := World.cell?_setCells_out h (l.map fun x => Value.int .u8 x) acc.length wr
    refine ⟨bf_sets h (Nat.le_refl _) _ _ hb.below, ?_, ?_, ?_, by rw [List.length_append]; exact hfit, by have := (setCells_same h (l.map fun x => Value.int .u8 x) acc.length wr).2.2.2; rw [this]; exact hb.room⟩
    · intro j hj
      by_cases h1 : acc.length ≤ j ∧ j < acc.length + l.length
      · obtain ⟨d, rfl⟩ : ∃ d, j = acc.length + d := ⟨j - acc.length, by omega⟩
        rw [hin d (by rw [hkl]; omega)]
        rfl
      · rw [hout ⟨h, j, none⟩ (fun _ _ => by rw [hkl]; show j < _ ∨ _ ≤ j; omega)]
        exact hb.there j hj
    · intro j hj
      rw [World.frozen?_setCells]
      exact hb.free j hj
    · intro j hj
      rw [List.length_append] at hj
      by_cases h1 : j < acc.length
      · rw [hout ⟨h, j, none⟩ (fun _ _ => Or.inl h1), hb.holds j h1]
        simp [List.getD_eq_getElem?_getD, List.getElem?_append_left h1]
      · obtain ⟨d, rfl⟩ : ∃ d, j = acc.length + d := ⟨j - acc.length, by omega⟩
        have hd : d < l.length := by omega
        rw [hin d (by rw [hkl]; exact hd)]
        simp [List.getD_eq_getElem?_getD, List.getElem?_append_right, hd]
theorem Bf.start (w : World) (cs : Array Value) (N q : Nat) (hN : N ≤ cs.size) : Bf w ((w.alloc (.cells cs 5)).drewN q) w.heap.size N [] where
  below := ⟨rfl, rfl, rfl, by simp, fun k hk => heap_alloc_old w _ hk⟩
  there := fun j hj => by
    rw [World.cell?_drewN, World.cell?_alloc_mark, Array.getElem?_eq_getElem (by omega)]
    rfl
  free := fun j _ => by
    rw [World.frozen?_drewN]
    have := World.frozen?_alloc_mark w cs 5 0 0 j
    rw [this]
    simp
  holds := fun j hj => by simp at hj
  fits := Nat.zero_le _
  room := by simp
theorem Bf.full {w0 wr : World} {N h : Nat} {acc : List Int} (hb : Bf w0 wr h N acc) (hm : acc.length ≤ 9223372036854775807) : Kd.C (Kd.int .u8) wr (some ⟨h, 0, none⟩) acc.length acc :=
  Kd.C_of_reads (enc := Value.int .u8) (d := (0 : Int)) (h1 := fun _ => rfl) ⟨rfl, hm, fun _ => ⟨_, rfl, fun j hj => by rw [add_plain]; exact hb.holds j hj⟩⟩
theorem wp_copy_is (w : World) {ops : Array Oper} {rest : List Oper} {o : Oper} {a : Act} {Q : Exit → Act → World → Prop} (hgd : o.guard = none) (d s : Operand) (t t' : TypeId)
    (ho : o.op = .call { callee := .builtin .copy, args := #[d, s], argTypes := #[t, t'] }) (v u : Value) (hd : a.eval d = v) (hs : a.eval s = u) {v' : Value} {w' : World}
    (hr : (Builtin.copy_ #[t, t'] o.type #[v, u]).run Try.prog w = .ok v' w') (h : wpList Try.prog ops Q rest (a.put o.dst v') w') : wpList Try.prog ops Q (o :: rest) a w :=
  wpList_plain hgd fun _ hK => by
    unfold Oper.wp execOp
    simp only [ho, resolve, invoke, builtin, Sem.run_bind, Sem.run_pure, Result.andThen_ok, List.map_toArray, List.map_cons, List.map_nil, hd, hs, hr]
    exact hK _ _ h
theorem flat_succ (ls : List (List Int)) (i : Nat) (h : i < ls.length) : (ls.take (i + 1)).flatten = (ls.take i).flatten ++ rd_L1 ls (i : Int) := by
  rw [List.take_succ_eq_append_getElem h, List.flatten_append]
  simp [rd_L1, h]
theorem flat_le (ls : List (List Int)) (i : Nat) : (ls.take i).flatten.length ≤ ls.flatten.length := by
  conv => rhs; rw [← List.take_append_drop i ls, List.flatten_append, List.length_append]
  omega
/-- A row of bytes that the call has made, its room other than its block's. -/
def JR (w : World) (base : Nat) (ok : Nat → Prop) (v : Value) (xs : List Int) : Prop :=
  (∀ k, v.ownBlock = some k → ok k ∧ base ≤ k ∧ k < w.heap.size) ∧ ∃ A c, v = .slice A xs.length c ∧ xs.length ≤ c ∧ Kd.C (Kd.int .u8) w A xs.length xs
section
variable {w W w1 : World} {base base' : Nat} {ok : Nat → Prop} {u v : Value} {xs : List Int}
theorem JR_slice (h : JR w base ok v xs) : ∃ A c, v = .slice A xs.length c := by
  obtain ⟨_, A, c, e, _⟩ := h
  exact ⟨A, c, e⟩
theorem JR_reads' {A : Option Addr} {n c : Nat} (h : JR w base ok (.slice A n c) xs) : n = xs.length ∧ n ≤ c ∧ Kd.C (Kd.int .u8) w A xs.length xs := by
  obtain ⟨_, A', c', e, hc, hC⟩ := h
  injection e with e1 e2 e3
  subst e1 e3
  exact ⟨e2, by omega, hC⟩
end
def bytes_Join.f (ls : List (List Int)) (sep : List Int) : Option (List Int) := if sep = [] then (if ls.flatten.length ≤ 140737488355327 then some ls.flatten else none) else none

set_option maxHeartbeats 4000000 in
set_option maxRecDepth 100000 in
theorem bytes_Join.calls (A0 : Option Addr) (c0 : Nat) (ls : List (List Int)) (A1 : Option Addr) (c1 : Nat) (sep : List Int) (r : List Int) (w : World) (hr0 : Kd.C (Kd.slice 5 (Kd.int .u8)) w A0 ls.length ls) (hc0 : ls.length ≤ c0) (h : bytes_Join.f ls sep = some r) :
    Calls Try.prog 13 #[.slice A0 ls.length c0, .slice A1 sep.length c1] w fun e w' => ∃ A c, e = .returned (.slice A r.length c) ∧ r.length ≤ c ∧ Kd.C (Kd.int .u8) w' A r.length r ∧ (∀ a, A = some a → w.heap.size ≤ a.block ∧ a.block < w'.heap.size) ∧ Below w.heap.size w w' := by
  have hsep : sep = [] := by
    by_cases hs : sep = []
    · exact hs
    · rw [bytes_Join.f, if_neg hs] at h; cases h
  subst hsep
  rw [bytes_Join.f, if_pos rfl] at h
  have hT : ls.flatten.length ≤ 140737488355327 := by
    by_cases hs : ls.flatten.length ≤ 140737488355327
    · exact hs
    · rw [if_neg hs] at h; cases h
  rw [if_pos hT] at h
  obtain rfl := Option.some.inj h
  clear h
  have hmax := hr0.2.1
  have HR := Aside0.mk hr0
  rw [List.length_nil]
  by_cases e0 : ls.length = 0
  · have hl : ls = [] := List.eq_nil_of_length_eq_zero e0
    subst hl
    clear hr0 HR
    go_enter Try.func13, Try.ntmps13
    go_wp2
    go_ret
    exact ⟨_, _, rfl, by simp, Kd.C_of_reads (enc := Value.int .u8) (d := (0 : Int)) (h1 := fun _ => rfl) ⟨by simp, by simp, fun hn => absurd hn (by simp)⟩, (fun a e => by cases e; exact ⟨Nat.le_refl _, by simp⟩), (Below.refl w.heap.size w).alloc (Nat.le_refl _) _⟩
  by_cases e1 : ls.length = 1
  · obtain ⟨x, hl⟩ : ∃ x, ls = [x] := List.length_eq_one_iff.1 e1
    subst hl
    obtain ⟨ad, Ax, cx, e2, hx, hcx, hC⟩ := at_L1 hr0 0 (by omega) (by simp)
    subst e2
    have hrx : rd_L1 [x] 0 = x := rfl
    rw [hrx] at hx hcx hC
    have hx0 : w.cell? ad = some (.slice Ax x.length cx) := by have := hx; simp only [Int.toNat_zero] at this; rwa [show ad.add 0 = ad by simp [Addr.add]] at this
    have HC := Aside0.mk hC
    have hfx : [x].flatten = x := by simp
    rw [hfx] at hT ⊢
    clear hr0 HR hC hx
    go_enter Try.func13, Try.ntmps13
    go_wp2_with ((with_reducible refine gate_builtin (b := .append) (xs := #[.const (.slice none 0 0), .tmp 21]) rfl ?_); at_builtin; refine Kd.R_append_rows (Kd.int .u8) (w0 := w) w.heap.size rfl (.const (.slice none 0 0)) (.tmp 21) 22 5 (.int .u8 0) 1 rfl Try.underlying22 info5 rfl (by decide) (by omega) (.slice none 0 0) [] x _ _ _ (fun _ => True) (fun _ => False) rfl rfl ?aO ?aR (fun _ _ h => h) (fun _ h => h.elim) ?aF ?aB ?aS ?aL ?_; (case aR => exact HC.out); (case aB => exact Below.refl _ _); (case aF => exact (fun _ _ => trivial)); (case aO => exact Kd.R_nil _ _ _ _ _); (case aS => exact Nat.le_refl _); (case aL => simp; omega); intro v105 w5 ho hb hg hat; rw [List.nil_append] at ho; have HO := Aside0.mk ho; have HB := Aside0.mk hb; clear ho hb hg hat)
    go_ret
    obtain ⟨Ao, co, eo⟩ := Kd.R_slice HO.out
    subst eo
    have hq := Kd.R_reads' HO.out
    exact ⟨_, _, rfl, hq.2.1, hq.2.2, (fun a e => by subst e; exact ⟨Kd.R_base HO.out a.block rfl, Kd.R_lt HO.out a.block rfl⟩), HB.out⟩
  have hn2 : 2 ≤ ls.length := by omega
  have f0 : ((ls.length : Int) == 0) = false := beq_eq_false_iff_ne.2 (by omega)
  have f1 : ((ls.length : Int) == 1) = false := beq_eq_false_iff_ne.2 (by omega)
  clear hr0 e0 e1
  go_enter Try.func13, Try.ntmps13
  go_wp2
  go_loopg [5, 44] ls.length (fun g s5 s44 wr => w = wr ∧ ∃ i : Nat, i ≤ ls.length ∧ g = ls.length - i ∧ s44 = .int .i64 i ∧ s5 = .int .i64 ((ls.take i).flatten.length : Nat))
  case atStart => exact ⟨rfl, 0, Nat.zero_le _, rfl, rfl, by simp⟩
  case round =>
    obtain ⟨rfl, i, hi, rfl, rfl, rfl⟩ := hrel
    by_cases hlt : i < ls.length
    · obtain ⟨ad, Ax, cx, e2, hx, hcx, hC⟩ := at_L1 HR.out (i : Int) (by omega) (by omega)
      subst e2
      simp only [Int.toNat_natCast] at hx
      have hs1 : (ls.take (i + 1)).flatten.length = (ls.take i).flatten.length + (rd_L1 ls (i : Int)).length := by rw [flat_succ ls i hlt, List.length_append]
      have hs2 := flat_le ls (i + 1)
      generalize (ls.take i).flatten.length = acc at hs1 ⊢
      generalize rd_L1 ls (i : Int) = x at hs1 hx hcx hC
      have hb : ¬ (9223372036854775807 - (acc : Int) < (x.length : Int)) := by omega
      clear hC
      go_wp2
      go_roundg (ls.length - (i + 1))
      case measure => omega
      case rel => exact ⟨rfl, i + 1, by omega, rfl, by go_num, by rw [hs1]; first | rfl | (congr 1; push_cast; omega)⟩
    · obtain rfl : ls.length = i := by omega
      rw [List.take_length]
      obtain ⟨T, hTT⟩ : ∃ T, ls.flatten.length = T := ⟨_, rfl⟩
      rw [hTT] at hT ⊢
      obtain ⟨cs, hrunM, hle, _⟩ := Lib.run_makeNoZero (P := Try.prog) w #[3] 22 5 Try.underlying22 T (by omega)
      have hcall : (callFunc 16 #[.int .i64 (T : Int)]).run Try.prog w = .ok (.value (.slice (some ⟨w.heap.size, 0, none⟩) T cs.size)) ((w.alloc (.cells cs 5)).drewN 2) := by
        rw [run_callFunc_extern Try.func16 (by kernel_rfl) (by kernel_rfl) (by kernel_rfl) (e := Extern.BytealgMakeNoZero.makeNoZero #[3] #[22]) (by kernel_rfl), hrunM]
        rfl
      clear hrunM
      have i0 : (0 : Int) ≤ (T : Int) := by omega
      have i1 : (T : Int) ≤ (cs.size : Int) := by omega
      have B0 := Bf.start w cs T 2 hle
      obtain ⟨ad, Ax, cx, e2, hx, hcx, hC⟩ := at_L1 HR.out 0 (by omega) (by omega)
      subst e2
      simp only [Int.toNat_zero] at hx
      have had : ad.add 0 = ad := by simp [Addr.add]
      rw [had] at hx
      have hx0 : ((w.alloc (.cells cs 5)).drewN 2).cell? ad = some (.slice Ax (rd_L1 ls 0).length cx) := (B0.below.cell (World.block_lt_of_cell? w _ hx)).trans hx
      have hs1 : (ls.take 1).flatten = rd_L1 ls 0 := by have := flat_succ ls 0 (by omega); simpa using this
      have hs2 := flat_le ls 1
      obtain ⟨w1, hr1, B1⟩ := bf_copy w _ w.heap.size T [] (rd_L1 ls 0) Ax cx (Nat.le_refl _) B0 hC (by rw [← hs1, List.length_nil]; omega)
      rw [List.length_nil, tl_zero] at hr1
      rw [List.nil_append, ← hs1] at B1
      have hl1 : (rd_L1 ls 0).length = (ls.take 1).flatten.length := by rw [hs1]
      rw [hl1] at hr1 hx0
      obtain ⟨x0, hx0e⟩ : ∃ x0, x0 = (ls.take 1).flatten := ⟨_, rfl⟩
      rw [← hx0e] at hr1 hx0 B1
      have HX0 := Aside0.mk hx0e
      have hn1 : ¬ c0 = 1 := by omega
      have HD0 : Kd.C (Kd.slice 5 (Kd.int .u8)) w (some (ad.add 1)) (ls.drop 1).length (ls.drop 1) := by
        have := Kd.C_drop (m := 1) (c := c0) HR.out (by omega) hc0
        rwa [if_neg hn1] at this
      obtain ⟨ad1, had1⟩ : ∃ ad1, ad1 = ad.add 1 := ⟨_, rfl⟩
      rw [← had1] at HD0
      have HD := Aside0.mk HD0
      clear HD0
      have hel : Try.prog.elem 24 = 22 := by simp [Program.elem, Try.underlying24]
      have hu24 : Try.prog.underlying 24 = some (.slice (Try.prog.elem 24)) := by rw [hel]; exact Try.underlying24
      have hcut : ∀ W : World, (Instr.slice 24 (.slice (some ad) ls.length c0) (some (.int .i64 1)) none none).run Try.prog W = .ok (.slice (some ad1) (ls.length - 1) (c0 - 1)) W := by
        intro W
        rw [run_slice_l W 24 _ _ _ hu24 .i64 1 (by omega) (by omega), hel]
        obtain ⟨i, hi, _, hs, _⟩ := info_parts info22
        simp [sizeOf, typeInfo, hi, hs, sliced, Result.andThen, hn1, had1]
      have hC0 : Kd.C (Kd.int .u8) w A1 ([] : List Int).length [] := Kd.C_of_reads (enc := Value.int .u8) (d := (0 : Int)) (h1 := fun _ => rfl) ⟨rfl, by simp, fun hn => absurd hn (by simp)⟩
      have HC0 := Aside0.mk hC0
      clear hC hcx hx hC0 hs2 hl1 had had1 hs1 hu24 hel hx0e
      go_wp2_with (at_builtin; refine wp_copy_is _ rfl _ _ 22 22 rfl _ _ rfl rfl hr1 ?_)
      have HB1 := Aside0.mk B1
      clear B1 B0 hr1 hcall hx0
      go_loopg [9, 72] (ls.length - 1) (fun g2 s9 s72 wr => ∃ (j : Nat) (acc : List Int), j ≤ ls.length - 1 ∧ ls.length - 1 - j ≤ g2 ∧ s72 = .int .i64 j ∧ s9 = .int .i64 acc.length ∧ Aside0 (Bf w wr w.heap.size T acc) ∧ Aside0 (acc = (ls.take (j + 1)).flatten))
      case atStart => exact ⟨0, _, Nat.zero_le _, by omega, rfl, rfl, HB1, HX0⟩
      case round =>
        obtain ⟨j, acc, hj, hg2, rfl, rfl, HB, HA⟩ := hrel
        by_cases hjn : j < ls.length - 1
        · have hjz : (j : Int) < ((ls.length - 1 : Nat) : Int) := by omega
          obtain ⟨ad2, Ay, cy, e2, hx, hcx, hC⟩ := at_L1 HD.out (j : Int) (by omega) (by rw [List.length_drop]; omega)
          obtain rfl := Option.some.inj e2
          simp only [Int.toNat_natCast] at hx
          have hrd : rd_L1 (ls.drop 1) (j : Int) = rd_L1 ls ((j + 1 : Nat) : Int) := by
            simp only [rd_L1, Int.toNat_natCast, List.getD_eq_getElem?_getD, List.getElem?_drop]
            rw [Nat.add_comm]
          have hfs := flat_succ ls (j + 1) (by omega)
          have hfl := flat_le ls (j + 1 + 1)
          rw [hrd] at hx hcx hC
          rw [← HA.out] at hfs
          rw [hfs, List.length_append, hTT] at hfl
          have HF := Aside0.mk hfs
          generalize rd_L1 ls ((j + 1 : Nat) : Int) = x at hx hcx hC hfl HF
          have hcw : wr.cell? (ad1.add j) = some (.slice Ay x.length cy) := (HB.out.below.cell (World.block_lt_of_cell? w _ hx)).trans hx
          have hsl : ∀ W, (Instr.slice 22 (.slice (some ⟨w.heap.size, 0, none⟩) T T) (some (.int .i64 (acc.length : Int))) none none).run Try.prog W = .ok (tl w.heap.size T acc.length) W := fun W => run_tl W _ T acc.length (by omega)
          obtain ⟨w2, hr2, B2⟩ := bf_copy w wr w.heap.size T acc [] A1 c1 (Nat.le_refl _) HB.out HC0.out (by simp; omega)
          rw [List.append_nil] at B2
          obtain ⟨w3, hr3, B3⟩ := bf_copy w w2 w.heap.size T acc x Ay cy (Nat.le_refl _) B2 hC (by omega)
          have HB3 := Aside0.mk B3
          rw [List.length_nil] at hr2
          clear B2 B3 hC hx hcx hrd hfs
          go_wp2_with (at_builtin; first | refine wp_copy_is _ rfl _ _ 22 22 rfl _ _ rfl rfl hr2 ?_ | refine wp_copy_is _ rfl _ _ 22 22 rfl _ _ rfl rfl hr3 ?_)
          go_roundg (ls.length - 1 - (j + 1))
          case measure => omega
          case rel => exact ⟨j + 1, acc ++ x, by omega, Nat.le_refl _, by go_num, by rw [List.length_append]; first | rfl | (congr 1; push_cast; omega), HB3, ⟨HF.out.symm⟩⟩
        · obtain rfl : j = ls.length - 1 := by omega
          have hjz : ¬ (((ls.length - 1 : Nat) : Int) < ((ls.length - 1 : Nat) : Int)) := by omega
          go_wp2
          go_ret
          have hacc : acc = ls.flatten := by rw [HA.out, show ls.length - 1 + 1 = ls.length by omega, List.take_length]
          have HB := HB.out
          rw [hacc] at HB
          exact ⟨some ⟨w.heap.size, 0, none⟩, T, by first | rfl | (rw [← hTT]; rfl), by omega, by have h_ := HB.full (by omega); rwa [hTT] at h_, (fun a e => by cases e; exact ⟨Nat.le_refl _, HB.room⟩), HB.below⟩

def idxOf {α : Type} (p : α → Bool) : List α → Int → Int
  | [], _ => -1
  | x :: r, i => if p x then i else idxOf p r (i + 1)
theorem idxOf_any {α : Type} (p : α → Bool) : ∀ (l : List α) (i : Int), 0 ≤ i → decide (0 ≤ idxOf p l i) = l.any p ∧ (idxOf p l i < 0 ∨ 0 ≤ idxOf p l i)
  | [], i, _ => ⟨rfl, by omega⟩
  | x :: r, i, hi => by
    unfold idxOf
    cases h : p x
    · have := idxOf_any p r (i + 1) (by omega)
      simpa [h] using this
    · simp [h]; omega

def lenNe (k0 : Nat) (l : List Int) : Bool := (l.length : Int) != (k0 : Int)
set_option maxHeartbeats 400000 in
theorem same1 (B : Nat) (ad : Addr) (n cap : Nat) (A0 : Option Addr) (k0 c0 : Nat) (A : Option Addr) (m c : Nat) (w : World) (hB : w.cell? ⟨B, 0, none⟩ = some (.slice (some ad) n cap)) (h0 : w.cell? ad = some (.slice A0 k0 c0)) (hn : 0 < n) :
    Calls Try.prog 18 #[.slice A m c, .pointer (some ⟨B, 0, none⟩)] w fun e w' => e = .returned (.bool ((m : Int) != (k0 : Int))) ∧ Drawn0 w w' := by
  have hlt : (0 : Int) < (n : Int) := by omega
  go_enter Try.func18, Try.ntmps18
  go_wp2
  repeat (go_quiet (fail); try go_wp2)
  go_ret
  exact ⟨by first | rfl | simp, by repeat (first | exact Drawn0.refl _ | apply Drawn0.step)⟩

set_option maxHeartbeats 400000 in
theorem IndexFunc (B : Nat) (A : Option Addr) (c : Nat) (p : List Int → Bool) (ls : List (List Int)) (w : World) (hr : Kd.C (Kd.slice 5 (Kd.int .u8)) w A ls.length ls) (hc : ls.length ≤ c)
   (hf : 0 < ls.length → ∀ A' (l : List Int) c' q, Calls Try.prog 18 #[.slice A' l.length c', .pointer (some ⟨B, 0, none⟩)] (w.drewN q) fun e w' => e = .returned (.bool (p l)) ∧ Drawn0 (w.drewN q) w') :
   Calls Try.prog 19 #[.slice A ls.length c, .func (.func 18) #[] #[.pointer (some ⟨B, 0, none⟩)]] w fun e w' => e = .returned (.int .i64 (idxOf p ls 0)) ∧ Drawn0 w w' := by
  have HR := Aside0.mk hr
  have HF := Aside0.mk hf
  have hmax := hr.2.1
  clear hr hf
  go_enter Try.func19, Try.ntmps19
  go_wp2
  go_loopw [5, 8] (fun v5 v8 w' => ∃ k : Nat, k ≤ ls.length ∧ v8 = .int .i64 k ∧ Aside0 (idxOf p ls 0 = idxOf p (ls.drop k) k) ∧ Drawn0 w w') (fun _ v _ => ls.length - (intOf v).toNat)
  case atStart => exact ⟨0, Nat.zero_le _, rfl, ⟨rfl⟩, Drawn0.refl _⟩
  case round =>
    obtain ⟨k, hk, rfl, HE, ⟨m, rfl⟩⟩ := hrel
    by_cases hlt : k < ls.length
    · obtain ⟨ad, Ax, cx, e1, hx, hcx, hC⟩ := at_L1 HR.out (k : Int) (by omega) (by omega)
      cases e1
      simp only [Int.toNat_natCast] at hx
      have hF := Aside0.mk (HF.out (by omega) Ax (rd_L1 ls k) cx)
      have hd : ls.drop k = rd_L1 ls k :: ls.drop (k + 1) := by
        rw [List.drop_eq_getElem_cons hlt]; simp [rd_L1, hlt]
      have HD := Aside0.mk hd
      clear hd hC
      generalize rd_L1 ls (k : Int) = x at HD hF hx hcx
      have hb : (k : Int) < (ls.length : Int) := by omega
      cases hp : p x
      · go_wp2_with (go_at_call 18; refine (hF.out _).mono ?_; rintro e w1 ⟨rfl, ⟨m1, rfl⟩⟩)
        go_roundw
        case rel => exact ⟨k + 1, by omega, by go_num, ⟨by rw [HE.out, HD.out, idxOf, hp]; simp⟩, by repeat (first | exact Drawn0.refl _ | apply Drawn0.step)⟩
        case measure => simp [intOf]; omega
      · go_wp2_with (go_at_call 18; refine (hF.out _).mono ?_; rintro e w1 ⟨rfl, ⟨m1, rfl⟩⟩)
        go_ret
        exact ⟨by rw [HE.out, HD.out, idxOf, hp]; simp, by repeat (first | exact Drawn0.refl _ | apply Drawn0.step)⟩
    · go_wp2
      go_ret
      have : ls.drop k = [] := List.drop_eq_nil_of_le (by omega)
      exact ⟨by rw [HE.out, this, idxOf]; rfl, by repeat (first | exact Drawn0.refl _ | apply Drawn0.step)⟩

set_option maxHeartbeats 400000 in
theorem ContainsFunc (B : Nat) (A : Option Addr) (c : Nat) (p : List Int → Bool) (ls : List (List Int)) (w : World) (hr : Kd.C (Kd.slice 5 (Kd.int .u8)) w A ls.length ls) (hc : ls.length ≤ c)
   (hf : 0 < ls.length → ∀ A' (l : List Int) c' q, Calls Try.prog 18 #[.slice A' l.length c', .pointer (some ⟨B, 0, none⟩)] (w.drewN q) fun e w' => e = .returned (.bool (p l)) ∧ Drawn0 (w.drewN q) w') :
   Calls Try.prog 17 #[.slice A ls.length c, .func (.func 18) #[] #[.pointer (some ⟨B, 0, none⟩)]] w fun e w' => e = .returned (.bool (ls.any p)) ∧ Drawn0 w w' := by
  have HI := Aside0.mk (IndexFunc B A c p ls w hr hc hf)
  have HA := Aside0.mk (idxOf_any p ls 0 (by omega))
  clear hr hf
  go_enter Try.func17, Try.ntmps17
  go_wp2_with (go_at_call 19; refine (HI.out).mono ?_; rintro e w1 ⟨rfl, ⟨m1, rfl⟩⟩)
  repeat (go_quiet (fail); try go_wp2)
  go_ret
  exact ⟨by rw [← HA.out.1]; simp, by repeat (first | exact Drawn0.refl _ | apply Drawn0.step)⟩

def sameB (ls : List (List Int)) : Bool := !(ls.any (lenNe (rd_L1 ls 0).length))
set_option maxHeartbeats 400000 in
theorem stripe_same.calls (A0 : Option Addr) (c0 : Nat) (ls : List (List Int)) (w : World) (hr0 : Kd.C (Kd.slice 5 (Kd.int .u8)) w A0 ls.length ls) (hc0 : ls.length ≤ c0) :
    Calls Try.prog 14 #[.slice A0 ls.length c0] w fun e w' => e = .returned (.bool (sameB ls)) ∧ Below w.heap.size w w' := by
  have hb := (Below.refl w.heap.size w).alloc (Nat.le_refl _) (.cells #[Value.slice A0 ls.length c0] 24)
  have hf0 : (w.alloc (.cells #[Value.slice A0 ls.length c0] 24)).cell? ⟨w.heap.size, 0, none⟩ = some (Value.slice A0 ls.length c0) := by simp [go_sem]
  have HC := ContainsFunc w.heap.size A0 c0 (lenNe (rd_L1 ls 0).length) ls (w.alloc (.cells #[Value.slice A0 ls.length c0] 24)) (Kd.C_below hr0 hb) hc0 (fun e0 A' l c' q => by
      obtain ⟨ad, Ax, cx, e1, hx, hcx, hC⟩ := at_L1 (Kd.C_below hr0 hb) 0 (by omega) (by omega)
      subst e1
      have had : ad.add (0 : Int).toNat = ad := by simp [Addr.add]
      rw [had] at hx
      exact same1 w.heap.size ad ls.length c0 Ax (rd_L1 ls 0).length cx A' l.length c' _ (by simp [hf0]) (by simpa using hx) (by omega))
  have HC := Aside0.mk HC
  have HB := Aside0.mk hb
  clear hb hf0 hr0
  have hu24 := Try.underlying24
  go_enter Try.func14, Try.ntmps14
  go_wp2_with (go_at_call 17; refine (HC.out).mono ?_; rintro e w1 ⟨rfl, ⟨m1, rfl⟩⟩)
  repeat (go_quiet (fail); try go_wp2)
  go_ret
  exact ⟨rfl, by repeat (first | exact HB.out | apply pw_below_drewN | apply below_drew1)⟩

theorem cut_to3 {P : Program} (t e : TypeId) (kh : IntKind) {i : TypeInfo} (ht : P.underlying t = some (.slice e)) (hi : P.info? e = some i) (A : Option Addr) (n c : Nat) (j : Int) (h0 : 0 ≤ j) (hm : j ≤ n) (hc : n ≤ c) :
    ∀ W : World, (Instr.slice t (.slice A n c) none (some (.int kh j)) (some (.int kh j))).run P W = .ok (.slice A j.toNat j.toNat) W := by
  intro W
  have hel : P.elem t = e := by simp [Program.elem, ht]
  have hu : P.underlying t = some (.slice (P.elem t)) := by rw [hel]; exact ht
  have ha : (A.map fun x => x.add 0) = A := by cases A <;> simp [Addr.add]
  rw [run_slice_hm W t A n c hu kh kh j j h0 (Int.le_refl _) (by omega), hel]
  simp [sizeOf, typeInfo, hi, sliced, Result.andThen, ha]
def stripe_Join.f (l0 : List (List Int)) (a1 : Int) : Option (List Int × Int) :=
  (bytes_Join.f l0 []).bind fun all => if a1 < 0 then some ([], 2) else if (all.length : Int) < a1 then some ([], 2) else if sameB l0 = true then some (all.take a1.toNat, 0) else some ([], 3)
set_option maxHeartbeats 1000000 in
theorem stripe_Join.calls (A0 : Option Addr) (c0 : Nat) (l0 : List (List Int)) (a1 : Int) (r1 : List Int) (r2 : Int) (w : World) (hr0 : Kd.C (Kd.slice 5 (Kd.int .u8)) w A0 l0.length l0) (hc0 : l0.length ≤ c0) (h : stripe_Join.f l0 a1 = some (r1, r2)) :
    Calls Try.prog 7 #[.slice A0 l0.length c0, .int .i64 a1] w fun e w' => ∃ v0_ : Value, e = .returned (.tuple #[v0_, .int .i64 r2]) ∧ JR w' w.heap.size (fun _ => True) v0_ r1 ∧ Below w.heap.size w w' := by
  have HR := Aside0.mk hr0
  have HH := Aside0.mk hc0
  unfold stripe_Join.f at h
  obtain ⟨all, hall, h⟩ := Option.bind_eq_some_iff.mp h
  have HJ := bytes_Join.calls A0 c0 l0 none 0 [] all w hr0 hc0 hall
  have HJ := Aside0.mk HJ
  rw [List.length_nil] at HJ
  clear hr0 hc0 hall
  have nil_ : ∀ W : World, Kd.C (Kd.int .u8) W none ([] : List Int).length [] := fun W => Kd.C_of_reads (enc := Value.int .u8) (d := (0 : Int)) (h1 := fun _ => rfl) ⟨rfl, by simp, fun hn => absurd hn (by simp)⟩
  have NIL := Aside0.mk nil_
  clear nil_
  by_cases c1 : a1 < 0
  · rw [if_pos c1] at h
    cases h
    have c1b : decide (a1 < 0) = true := decide_eq_true c1
    clear c1
    go_enter Try.func7, Try.ntmps7
    go_wp2_with (go_at_call 13; refine (HJ.out).mono ?_; rintro e w1 ⟨A, c, rfl, hc, hC, hlt, hb⟩; have HB := Aside0.mk hb; clear hb hC hc hlt)
    repeat (go_quiet (fail); try go_wp2)
    go_ret2
    exact ⟨_, rfl, ⟨fun k hk => (by cases hk), none, 0, rfl, by simp, NIL.out _⟩, by repeat (first | exact HB.out | apply pw_below_drewN | apply below_drew1)⟩
  rw [if_neg c1] at h
  have c1b : decide (a1 < 0) = false := decide_eq_false c1
  by_cases c2 : (all.length : Int) < a1
  · rw [if_pos c2] at h
    cases h
    have c2b : decide ((all.length : Int) < a1) = true := decide_eq_true c2
    clear c1 c2
    go_enter Try.func7, Try.ntmps7
    go_wp2_with (go_at_call 13; refine (HJ.out).mono ?_; rintro e w1 ⟨A, c, rfl, hc, hC, hlt, hb⟩; have HB := Aside0.mk hb; clear hb hC hc hlt)
    repeat (go_quiet (fail); try go_wp2)
    go_ret2
    exact ⟨_, rfl, ⟨fun k hk => (by cases hk), none, 0, rfl, by simp, NIL.out _⟩, by repeat (first | exact HB.out | apply pw_below_drewN | apply below_drew1)⟩
  rw [if_neg c2] at h
  have c2b : decide ((all.length : Int) < a1) = false := decide_eq_false c2
  cases hs : sameB l0
  · rw [if_neg (by rw [hs]; decide)] at h
    cases h
    clear c1 c2
    go_enter Try.func7, Try.ntmps7
    go_wp2_with (first | (go_at_call 13; refine (HJ.out).mono ?_; rintro e w1 ⟨A, c, rfl, hc, hC, hlt, hb⟩; have HB := Aside0.mk hb; clear hb hC hc hlt) | (go_at_call 14; refine (stripe_same.calls A0 c0 l0 _ ?r HH.out).mono ?_; (case r => exact Kd.C_below HR.out (by repeat (first | exact HB.out | apply pw_below_drewN | apply below_drew1))); rintro e w2 ⟨rfl, hb⟩; have HB2 := Aside0.mk (below_step (by repeat (first | exact HB.out | apply pw_below_drewN | apply below_drew1)) hb); clear hb))
    repeat (go_quiet (fail); try go_wp2)
    go_ret2
    exact ⟨_, rfl, ⟨fun k hk => (by cases hk), none, 0, rfl, by simp, NIL.out _⟩, by repeat (first | exact HB2.out | apply pw_below_drewN | apply below_drew1)⟩
  · rw [if_pos hs] at h
    cases h
    have h0 : 0 ≤ a1 := by omega
    have h1 : a1 ≤ (all.length : Int) := by omega
    have hl : (all.take a1.toNat).length = a1.toNat := by rw [List.length_take]; omega
    have HL := Aside0.mk hl
    clear hl
    obtain ⟨i5_, hi5, _⟩ := info_parts info5
    go_enter Try.func7, Try.ntmps7
    go_wp2_with (first | (go_at_call 13; refine (HJ.out).mono ?_; rintro e w1 ⟨A, c, rfl, hc, hC, hlt, hb⟩; have HB := Aside0.mk hb; have HA := Aside0.mk hC; have HL1 := Aside0.mk hlt; have hcut := cut_to3 (P := Try.prog) 22 5 .i64 Try.underlying22 hi5 A all.length c a1 h0 h1 hc; clear hb hC hlt) | (go_at_call 14; refine (stripe_same.calls A0 c0 l0 _ ?r HH.out).mono ?_; (case r => exact Kd.C_below HR.out (by repeat (first | exact HB.out | apply pw_below_drewN | apply below_drew1))); rintro e w2 ⟨rfl, hb⟩; have HL1 := Aside0.mk (fun a e => (⟨(HL1.out a e).1, Nat.lt_of_lt_of_le (HL1.out a e).2 hb.size⟩ : w.heap.size ≤ a.block ∧ a.block < w2.heap.size)); have HB2 := Aside0.mk (below_step (by repeat (first | exact HB.out | apply pw_below_drewN | apply below_drew1)) hb); have HA := Aside0.mk (Kd.C_below (by repeat (first | exact HA.out | (with_reducible refine Kd.C_drewN ?_ _) | (with_reducible refine Kd.C_drew ?_))) hb); clear hb))
    repeat (go_quiet (fail); try go_wp2)
    go_ret2
    exact ⟨_, rfl, ⟨fun k hk => ⟨trivial, by cases A with | none => cases hk | some a => (cases hk; exact HL1.out a rfl)⟩, A, a1.toNat, by rw [HL.out]; rfl, by rw [HL.out]; exact Nat.le_refl _, by have h_ := Kd.C_take (m := a1.toNat) (by repeat (first | exact HA.out | (with_reducible refine Kd.C_drewN ?_ _) | (with_reducible refine Kd.C_drew ?_))) (by omega); exact h_⟩, by repeat (first | exact HB2.out | apply pw_below_drewN | apply below_drew1)⟩

/-! ### recoupref01_Same: function 10 -/
def recoupref01_Same.f (l0 : List Int) (l1 : List Int) : Option (Bool) := some ((strOfNums l0).toList == (strOfNums l1).toList)
set_option maxHeartbeats 8000000 in
set_option maxRecDepth 100000 in
theorem recoupref01_Same.calls (A0 : Option Addr) (c0 : Nat) (l0 : List Int) (A1 : Option Addr) (c1 : Nat) (l1 : List Int) (r : Bool) (w : World) (hr0 : Kd.C (Kd.int .u8) w A0 l0.length l0) (hc0 : l0.length ≤ c0) (hr1 : Kd.C (Kd.int .u8) w A1 l1.length l1) (hc1 : l1.length ≤ c1) (h : recoupref01_Same.f l0 l1 = some r) :
  Calls Try.prog 10 #[.slice A0 l0.length c0, .slice A1 l1.length c1] w fun e w' => e = .returned (.bool r) ∧ Drawn0 w w' := by
 have HR0 := Aside0.mk hr0
 have HC0 := Aside0.mk hc0
 clear hr0 hc0
 have HR1 := Aside0.mk hr1
 have HC1 := Aside0.mk hc1
 clear hr1 hc1
 have H : (some ((strOfNums l0).toList == (strOfNums l1).toList)) = some r := h
 clear h
 obtain rfl := Option.some.inj H
 have hcv3 := Kd.C_string (P := Try.prog) (A := A0) (c := c0) Try.underlying22 Try.underlying5 Try.underlying9 HR0.out
 have hcv4 := Kd.C_string (P := Try.prog) (A := A1) (c := c1) Try.underlying22 Try.underlying5 Try.underlying9 HR1.out
 go_enter Try.func10, Try.ntmps10
 go_wp2
 go_ret
 exact ⟨by first | rfl | (simp; done) | (simp [*]; done), by repeat (first | exact Drawn0.refl _ | apply Drawn0.step)⟩

end Go.Proofs.Ytdchifioplhjpaa.PA
