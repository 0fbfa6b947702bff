-- Written by wip/tools/mp.py (the kit's print, run over several laws with some functions given by hand).
import Derived.Test.YtfnhnniecclleaaPAx0
import Derived.Test.YtfnhnniecclleaaShort
namespace Go.Proofs.Ytfnhnniecclleaa.PA
open Go.RowKit Go.Proofs.Ytfnhnniecclleaa.Sh Go.Proofs.YtfnhnniecclleaaW.PrintWords Go.Proofs.YtfnhnniecclleaaW.PrintLast Go.Proofs.YtfnhnniecclleaaW.PrintMore
attribute [local go_sem] max2_int min2_int max_two min_two max_three min_three max_four min_four   -- for this text's walks alone
set_option linter.unusedVariables false
set_option linter.unusedSimpArgs false

/-! ### flow_terms: function 35 -/
def flow_terms.l0 : Nat → Int → Int → List (S64) → Int → Int → Option (Bool)
 | 0, _, _, _, _, _ => none
 | k + 1, x1, x5, x8, x9, x10 => if x10 < x9 then (if 0 ≤ x10 then (if x10 < (x8.length : Int) then (if ((rd_T64 x8 x10).f0) ≤ x5 then (some false) else (if ((rd_T64 x8 x10).f0) ≥ x1 then (some false) else (if ((rd_T64 x8 x10).f1) = 0 then (some false) else (flow_terms.l0 k x1 ((rd_T64 x8 x10).f0) x8 x9 (wrap64 (x10 + 1)))))) else (none)) else (none)) else (some true)
def flow_terms.f (k : Nat) (l0 : List (S64)) (a1 : Int) : Option (Bool) := flow_terms.l0 k a1 (-1) l0 (l0.length : Int) 0
theorem flow_terms.mono_l : ∀ k, (∀ y0 y1 y2 y3 y4, LeO (flow_terms.l0 k y0 y1 y2 y3 y4) (flow_terms.l0 (k + 1) y0 y1 y2 y3 y4))
 | 0 => fun _ _ _ _ _ r h => by simp [flow_terms.l0] at h
 | k + 1 => by
  have ih0 := flow_terms.mono_l k
  ·intro y0 y1 y2 y3 y4
   unfold flow_terms.l0
   repeat' first | (with_reducible exact ih0 _ _ _ _ _) | (with_reducible exact LeO.refl _) | (with_reducible exact LeO.none _) | (with_reducible refine LeO.ite ?_ ?_) | (with_reducible refine LeO.bind ?_ (fun _ => ?_)) | exact ih0 _ _ _ _ _ | exact LeO.none _ | refine LeO.ite ?_ ?_ | refine LeO.bind ?_ (fun _ => ?_)
theorem flow_terms.mono : ∀ a0 a1 k, LeO (flow_terms.f k a0 a1) (flow_terms.f (k + 1) a0 a1) := by
 intro a0 a1 k
 have ih0 := flow_terms.mono_l k
 unfold flow_terms.f
 repeat' first | (with_reducible exact ih0 _ _ _ _ _) | (with_reducible exact LeO.refl _) | (with_reducible exact LeO.none _) | (with_reducible refine LeO.ite ?_ ?_) | (with_reducible refine LeO.bind ?_ (fun _ => ?_)) | exact ih0 _ _ _ _ _ | exact LeO.none _ | refine LeO.ite ?_ ?_ | refine LeO.bind ?_ (fun _ => ?_)
set_option maxHeartbeats 8000000 in
set_option maxRecDepth 100000 in
theorem flow_terms.calls (k : Nat) (A0 : Option Addr) (c0 : Nat) (l0 : List (S64)) (a1 : Int) (r : Bool) (w : World) (hr0 : Kd.C k64 w A0 l0.length l0) (hc0 : l0.length ≤ c0) (h : flow_terms.f k l0 a1 = some r) :
  Calls Try.prog 35 #[.slice A0 l0.length c0, .int .i64 a1] w fun e w' => e = .returned (.bool r) ∧ Below w.heap.size w w' := by
 have hu64 := Try.underlying64
 have HR0 := Aside0.mk hr0
 have HC0 := Aside0.mk hc0
 clear hr0 hc0
 have HB := Aside0.mk (Below.refl w.heap.size w)
 have H : (flow_terms.l0 k a1 (-1) l0 (l0.length : Int) 0) = some r := h
 clear h
 have H' := Aside0.mk H
 clear H
 go_enter Try.func35, Try.ntmps35
 go_wp2
 go_loopg [5, 10] k (fun kq v5 v10 w' => ∃ (x5_1 : Int) (x10_1 : Int), v5 = .int .i64 x5_1 ∧ v10 = .int .i64 x10_1 ∧ Aside0 (flow_terms.l0 kq a1 x5_1 l0 (l0.length : Int) x10_1 = some r) ∧ Aside0 (kq ≤ k) ∧ Aside0 (Below w.heap.size w w'))
 case atStart => exact ⟨((-1)), (0), (by first | rfl | (simp; done) | (simp [*]; done)), (by first | rfl | (simp; done) | (simp [*]; done)), H', ⟨Nat.le_refl _⟩, ⟨bl⟩⟩
 case round =>
  clear H'
  (try clear p2)
  obtain ⟨x5_1, x10_1, rfl, rfl, HA, HK1, HB⟩ := hrel
  cases gk with
  | zero => exact absurd HA.out (by simp [flow_terms.l0])
  | succ k1 =>
   have H := HA.out
   clear HA
   simp only [flow_terms.l0] at H
   by_cases c3 : x10_1 < (l0.length : Int)
   ·rw [if_pos c3] at H
    have c3b0 : decide (x10_1 < (l0.length : Int)) = true := decide_eq_true c3
    clear c3
    by_cases c4 : 0 ≤ x10_1
    ·rw [if_pos c4] at H
     have c4b0 : decide (0 ≤ x10_1) = true := decide_eq_true c4
     clear c4
     by_cases c5 : x10_1 < (l0.length : Int)
     ·rw [if_pos c5] at H
      have c5b0 : decide (x10_1 < (l0.length : Int)) = true := decide_eq_true c5
      clear c5
      by_cases c6 : ((rd_T64 l0 x10_1).f0) ≤ x5_1
      ·rw [if_pos c6] at H
       have c6b0 : decide (((rd_T64 l0 x10_1).f0) ≤ x5_1) = true := decide_eq_true c6
       clear c6
       obtain rfl := Option.some.inj H
       have p101 : 0 ≤ (x10_1 : Int) := dt
       have q101 : x10_1 < (l0.length : Int) := dt
       obtain ⟨ad101, e101, hx101_0, hx101_1⟩ := at_T64 HR0.out x10_1 p101 q101
       cases e101
       replace hx101_0 := cx HB hx101_0
       replace hx101_1 := cx HB hx101_1
       replace p101 := eq_true p101
       replace q101 := eq_true q101
       go_wp2_with (first | ((with_reducible refine gate_dst (N := 7) rfl ?_); refine box_event ?hg (N := 7) ?hd (cs := #[.int .i64 0, .int .u8 0]) (t := 64) ?hr ?_; (case hd => rfl); (case hg => rfl); (case hr => first | (go_simp; done) | (go_simp; rfl)); intro gb102 hg w7 hbox hb; have n0_ := Aside0.mk (below_step bl hb); have n1_ := Aside0.mk (hbox); have n2_ := Aside0.mk ((sz hg)); have n3_ := Aside0.mk ((sz hg)); clear HB; have HB := n0_; have BK102 := n1_; have GW102 := n2_; have GE102 := n3_; clear n0_ n1_ n2_ n3_; clear hb hbox hg; obtain ⟨⟨hcz8_0, hcz8_1⟩, hfz8_0, hfz8_1⟩ := b2 BK102.out))
       go_ret
       exact ⟨by first | rfl | (simp [errW_none, errW_some] <;> rfl) | (simp [*, errW_none, errW_some] <;> rfl), bl⟩
      ·rw [if_neg c6] at H
       have c6b0 : decide (((rd_T64 l0 x10_1).f0) ≤ x5_1) = false := decide_eq_false c6
       clear c6
       by_cases c9 : ((rd_T64 l0 x10_1).f0) ≥ a1
       ·rw [if_pos c9] at H
        have c9b0 : decide (a1 ≤ ((rd_T64 l0 x10_1).f0)) = true := decide_eq_true c9
        clear c9
        obtain rfl := Option.some.inj H
        have p101 : 0 ≤ (x10_1 : Int) := dt
        have q101 : x10_1 < (l0.length : Int) := dt
        obtain ⟨ad101, e101, hx101_0, hx101_1⟩ := at_T64 HR0.out x10_1 p101 q101
        cases e101
        replace hx101_0 := cx HB hx101_0
        replace hx101_1 := cx HB hx101_1
        replace p101 := eq_true p101
        replace q101 := eq_true q101
        go_wp2_with (first | ((with_reducible refine gate_dst (N := 7) rfl ?_); refine box_event ?hg (N := 7) ?hd (cs := #[.int .i64 0, .int .u8 0]) (t := 64) ?hr ?_; (case hd => rfl); (case hg => rfl); (case hr => first | (go_simp; done) | (go_simp; rfl)); intro gb102 hg w10 hbox hb; have n0_ := Aside0.mk (below_step bl hb); have n1_ := Aside0.mk (hbox); have n2_ := Aside0.mk ((sz hg)); have n3_ := Aside0.mk ((sz hg)); clear HB; have HB := n0_; have BK102 := n1_; have GW102 := n2_; have GE102 := n3_; clear n0_ n1_ n2_ n3_; clear hb hbox hg; obtain ⟨⟨hcz11_0, hcz11_1⟩, hfz11_0, hfz11_1⟩ := b2 BK102.out))
        go_ret
        exact ⟨by first | rfl | (simp [errW_none, errW_some] <;> rfl) | (simp [*, errW_none, errW_some] <;> rfl), bl⟩
       ·rw [if_neg c9] at H
        have c9b0 : decide (a1 ≤ ((rd_T64 l0 x10_1).f0)) = false := decide_eq_false c9
        clear c9
        by_cases c12 : ((rd_T64 l0 x10_1).f1) = 0
        ·rw [if_pos c12] at H
         have c12b0 : (((rd_T64 l0 x10_1).f1) == 0) = true := beq_iff_eq.mpr c12
         have c12b1 : (((rd_T64 l0 x10_1).f1) != 0) = false := bne_eq_false_iff_eq.mpr c12
         clear c12
         obtain rfl := Option.some.inj H
         have p101 : 0 ≤ (x10_1 : Int) := dt
         have q101 : x10_1 < (l0.length : Int) := dt
         obtain ⟨ad101, e101, hx101_0, hx101_1⟩ := at_T64 HR0.out x10_1 p101 q101
         cases e101
         replace hx101_0 := cx HB hx101_0
         replace hx101_1 := cx HB hx101_1
         replace p101 := eq_true p101
         replace q101 := eq_true q101
         go_wp2_with (first | ((with_reducible refine gate_dst (N := 7) rfl ?_); refine box_event ?hg (N := 7) ?hd (cs := #[.int .i64 0, .int .u8 0]) (t := 64) ?hr ?_; (case hd => rfl); (case hg => rfl); (case hr => first | (go_simp; done) | (go_simp; rfl)); intro gb102 hg w13 hbox hb; have n0_ := Aside0.mk (below_step bl hb); have n1_ := Aside0.mk (hbox); have n2_ := Aside0.mk ((sz hg)); have n3_ := Aside0.mk ((sz hg)); clear HB; have HB := n0_; have BK102 := n1_; have GW102 := n2_; have GE102 := n3_; clear n0_ n1_ n2_ n3_; clear hb hbox hg; obtain ⟨⟨hcz14_0, hcz14_1⟩, hfz14_0, hfz14_1⟩ := b2 BK102.out))
         go_ret
         exact ⟨by first | rfl | (simp [errW_none, errW_some] <;> rfl) | (simp [*, errW_none, errW_some] <;> rfl), bl⟩
        ·rw [if_neg c12] at H
         have c12b0 : (((rd_T64 l0 x10_1).f1) == 0) = false := beq_eq_false_iff_ne.mpr c12
         have c12b1 : (((rd_T64 l0 x10_1).f1) != 0) = true := bne_iff_ne.mpr c12
         have H' := Aside0.mk H
         clear H
         have p101 : 0 ≤ (x10_1 : Int) := dt
         have q101 : x10_1 < (l0.length : Int) := dt
         obtain ⟨ad101, e101, hx101_0, hx101_1⟩ := at_T64 HR0.out x10_1 p101 q101
         cases e101
         replace hx101_0 := cx HB hx101_0
         replace hx101_1 := cx HB hx101_1
         replace p101 := eq_true p101
         replace q101 := eq_true q101
         go_wp2_with (first | ((with_reducible refine gate_dst (N := 7) rfl ?_); refine box_event ?hg (N := 7) ?hd (cs := #[.int .i64 0, .int .u8 0]) (t := 64) ?hr ?_; (case hd => rfl); (case hg => rfl); (case hr => first | (go_simp; done) | (go_simp; rfl)); intro gb102 hg w15 hbox hb; have n0_ := Aside0.mk (below_step bl hb); have n1_ := Aside0.mk (hbox); have n2_ := Aside0.mk ((sz hg)); have n3_ := Aside0.mk ((sz hg)); clear HB; have HB := n0_; have BK102 := n1_; have GW102 := n2_; have GE102 := n3_; clear n0_ n1_ n2_ n3_; clear hb hbox hg; obtain ⟨⟨hcz16_0, hcz16_1⟩, hfz16_0, hfz16_1⟩ := b2 BK102.out))
         go_roundg k1
         case measure => have := HK1.out; omega
         case rel => exact ⟨((rd_T64 l0 x10_1).f0), (wrap64 (x10_1 + 1)), (by first | rfl | (simp; done) | (simp [*]; done)), (by first | rfl | (simp; done) | (simp [*]; done)), H', ⟨by have := HK1.out; omega⟩, ⟨bl⟩⟩
     ·rw [if_neg c5] at H
      exact absurd H (by simp)
    ·rw [if_neg c4] at H
     exact absurd H (by simp)
   ·rw [if_neg c3] at H
    have c3b0 : decide (x10_1 < (l0.length : Int)) = false := decide_eq_false c3
    clear c3
    obtain rfl := Option.some.inj H
    go_wp2
    go_ret
    exact ⟨by first | rfl | (simp [errW_none, errW_some] <;> rfl) | (simp [*, errW_none, errW_some] <;> rfl), bl⟩

/-! ### flow_May: function 11 (by hand) -/
def idxOf {α : Type} (p : α → Bool) : List α → Int → Int
  | [], _ => -1
  | x :: r, i => if p x then i else idxOf p r (i + 1)

set_option maxHeartbeats 400000 in
theorem May1 (B : Nat) (v : Int) (A0 A1 : Option Addr) (n0 c0 n1 c1 : Nat) (w : World)
   (h0 : w.cell? ⟨B, 0, none⟩ = some (.slice A0 n0 c0)) (h1 : w.cell? ⟨B, 1, none⟩ = some (.slice A1 n1 c1)) (hn0 : n0 ≤ 2 ^ 47) (hn1 : n1 ≤ 2 ^ 47) :
  Calls Try.prog 37 #[.int .i64 v, .pointer (some ⟨B, 0, none⟩)] w fun e w' => e = .returned (.bool (decide (v < 0) || decide ((n0 : Int) + n1 ≤ v))) ∧ Drawn0 w w' := by
  by_cases c : v < 0
  · have c' : decide (v < 0) = true := by simpa using c
    go_enter Try.func37, Try.ntmps37
    go_wp2
    repeat (go_quiet (fail); try go_wp2)
    go_ret
    exact ⟨by simp [c], by repeat (first | exact Drawn0.refl _ | apply Drawn0.step)⟩
  · have c' : decide (v < 0) = false := by simpa using c
    go_enter Try.func37, Try.ntmps37
    go_wp2
    repeat (go_quiet (fail); try go_wp2)
    go_ret
    exact ⟨by simp [c], by repeat (first | exact Drawn0.refl _ | apply Drawn0.step)⟩

set_option maxHeartbeats 400000 in
theorem IndexFunc48 (p : Int → Bool) (B : Nat) (A : Option Addr) (c : Nat) (l : List Int) (w : World) (hr : Kd.C (Kd.int .i64) w A l.length l) (hc : l.length ≤ c) (hl : l.length ≤ 2 ^ 47)
   (hf : ∀ v m, Calls Try.prog 37 #[.int .i64 v, .pointer (some ⟨B, 0, none⟩)] (w.drewN m) fun e w' => e = .returned (.bool (p v)) ∧ Drawn0 (w.drewN m) w') :
   Calls Try.prog 48 #[.slice A l.length c, .func (.func 37) #[] #[.pointer (some ⟨B, 0, none⟩)]] w fun e w' => e = .returned (.int .i64 (idxOf p l 0)) ∧ Drawn0 w w' := by
  have HR := Aside0.mk hr
  have HF := Aside0.mk hf
  clear hr hf
  go_enter Try.func48, Try.ntmps48
  go_wp2
  go_loopw [5, 8] (fun v5 v8 w' => ∃ k : Nat, k ≤ l.length ∧ v8 = .int .i64 k ∧ Aside0 (idxOf p l 0 = idxOf p (l.drop k) k) ∧ Drawn0 w w') (fun _ v _ => l.length - (intOf v).toNat)
  case atStart => exact ⟨0, Nat.zero_le _, rfl, ⟨rfl⟩, Drawn0.refl _⟩
  case round =>
    obtain ⟨k, hk, rfl, HE, ⟨m, rfl⟩⟩ := hrel
    by_cases hlt : k < l.length
    · obtain ⟨ad, e1, hx⟩ := Kd.at_int HR.out (k : Int) (by omega) (by omega)
      cases e1
      simp only [Int.toNat_natCast] at hx
      have hF := Aside0.mk (HF.out (rd l k))
      have hd : l.drop k = rd l k :: l.drop (k + 1) := by
        rw [List.drop_eq_getElem_cons hlt]; simp [rd, hlt]
      have HD := Aside0.mk hd
      clear hd
      cases hp : p (rd l k)
      · go_wp2_with (go_at_call 37; refine (hF.out _).mono ?_; rintro e w1 ⟨rfl, ⟨m1, rfl⟩⟩)
        go_roundw
        case rel => exact ⟨k + 1, by omega, by go_num, ⟨by rw [HE.out, HD.out, idxOf, hp]; simp⟩, by repeat (first | exact Drawn0.refl _ | apply Drawn0.step)⟩
        case measure => simp [intOf]; omega
      · go_wp2_with (go_at_call 37; refine (hF.out _).mono ?_; rintro e w1 ⟨rfl, ⟨m1, rfl⟩⟩)
        go_ret
        exact ⟨by rw [HE.out, HD.out, idxOf, hp]; simp, by repeat (first | exact Drawn0.refl _ | apply Drawn0.step)⟩
    · go_wp2
      go_ret
      have : l.drop k = [] := List.drop_eq_nil_of_le (by omega)
      exact ⟨by rw [HE.out, this, idxOf]; rfl, by repeat (first | exact Drawn0.refl _ | apply Drawn0.step)⟩

theorem idxOf_any {α : Type} (p : α → Bool) : ∀ (l : List α) (i : Int), 0 ≤ i → decide (0 ≤ idxOf p l i) = l.any p ∧ (idxOf p l i < 0 ∨ 0 ≤ idxOf p l i)
  | [], i, _ => ⟨rfl, by omega⟩
  | x :: r, i, hi => by
    unfold idxOf
    cases h : p x
    · have := idxOf_any p r (i + 1) (by omega)
      simpa [h] using this
    · simp [h]; omega

set_option maxHeartbeats 400000 in
theorem ContainsFunc36 (p : Int → Bool) (B : Nat) (A : Option Addr) (c : Nat) (l : List Int) (w : World) (hr : Kd.C (Kd.int .i64) w A l.length l) (hc : l.length ≤ c) (hl : l.length ≤ 2 ^ 47)
   (hf : ∀ v m, Calls Try.prog 37 #[.int .i64 v, .pointer (some ⟨B, 0, none⟩)] (w.drewN m) fun e w' => e = .returned (.bool (p v)) ∧ Drawn0 (w.drewN m) w') :
   Calls Try.prog 36 #[.slice A l.length c, .func (.func 37) #[] #[.pointer (some ⟨B, 0, none⟩)]] w fun e w' => e = .returned (.bool (l.any p)) ∧ Drawn0 w w' := by
  have HI := Aside0.mk (IndexFunc48 p B A c l w hr hc hl hf)
  have HA := Aside0.mk (idxOf_any p l 0 (by omega))
  clear hr hf
  go_enter Try.func36, Try.ntmps36
  go_wp2_with (go_at_call 48; refine (HI.out).mono ?_; rintro e w1 ⟨rfl, ⟨m1, rfl⟩⟩)
  repeat (go_quiet (fail); try go_wp2)
  go_ret
  exact ⟨by rw [← HA.out.1]; simp, by repeat (first | exact Drawn0.refl _ | apply Drawn0.step)⟩

def mayIns : Int → List Int → Bool
  | _, [] => true
  | last, b :: r => if b ≤ last then false else if b ≥ 64 then false else mayIns b r
def mayNodes (k : Nat) (n0 : Nat) : Nat → List (List S64) → Option Bool
  | _, [] => some true
  | i, l :: r => (flow_terms.f k l ((n0 : Int) + (i : Int))).bind fun t => if t = true then mayNodes k n0 (i + 1) r else some false
def flow_May.f (k : Nat) (l0 : List Int) (l1 : List (List S64)) (l2 : List Int) : Option Bool :=
  if mayIns (-1) l0 = true then (if 4096 < l1.length then some false else if 64 < l2.length then some false else (mayNodes k l0.length 0 l1).bind fun t => if t = true then some (!(l2.any fun v => decide (v < 0) || decide ((l0.length : Int) + l1.length ≤ v))) else some false) else some false


theorem mayNodes_mono (k n0 : Nat) : ∀ (l : List (List S64)) (i : Nat), LeO (mayNodes k n0 i l) (mayNodes (k + 1) n0 i l)
  | [], _ => LeO.refl _
  | x :: r, i => LeO.bind (flow_terms.mono _ _ k) (fun t => LeO.ite (mayNodes_mono k n0 r (i + 1)) (LeO.refl _))
theorem flow_May.mono : ∀ a0 a1 a2 k, LeO (flow_May.f k a0 a1 a2) (flow_May.f (k + 1) a0 a1 a2) := by
  intro a0 a1 a2 k
  unfold flow_May.f
  exact LeO.ite (LeO.ite (LeO.refl _) (LeO.ite (LeO.refl _) (LeO.bind (mayNodes_mono k _ _ _) (fun t => LeO.ite (LeO.refl _) (LeO.refl _))))) (LeO.refl _)
theorem mayIns_len : ∀ (l : List Int) (last : Int), -1 ≤ last → last ≤ 63 → mayIns last l = true → (l.length : Int) ≤ 63 - last
  | [], last, _, _, _ => by simp; omega
  | b :: r, last, h0, h1, h => by
    unfold mayIns at h
    split at h
    · cases h
    · split at h
      · cases h
      · have := mayIns_len r b (by omega) (by omega) h
        simp only [List.length_cons]
        omega

set_option maxHeartbeats 1000000 in
theorem flow_May.calls (k : Nat) (A0_0 : Option Addr) (c0_0 : Nat) (l0_0 : List Int) (A0_1 : Option Addr) (c0_1 : Nat) (l0_1 : List (List (S64))) (A0_2 : Option Addr) (c0_2 : Nat) (l0_2 : List Int) (r : Bool) (w : World) (hr0_0 : Kd.C (Kd.int .i64) w A0_0 l0_0.length l0_0) (hc0_0 : l0_0.length ≤ c0_0) (hr0_1 : Kd.C (Kd.slice 64 k64) w A0_1 l0_1.length l0_1) (hc0_1 : l0_1.length ≤ c0_1) (hr0_2 : Kd.C (Kd.int .i64) w A0_2 l0_2.length l0_2) (hc0_2 : l0_2.length ≤ c0_2) (h : flow_May.f k l0_0 l0_1 l0_2 = some r) :
    Calls Try.prog 11 #[.agg #[.slice A0_0 l0_0.length c0_0, .slice A0_1 l0_1.length c0_1, .slice A0_2 l0_2.length c0_2]] w fun e w' => e = .returned (.bool r) ∧ Below w.heap.size w w' := by
  have HR0 := Aside0.mk hr0_0
  have HR1 := Aside0.mk hr0_1
  have HR2 := Aside0.mk hr0_2
  have H := Aside0.mk h
  have hn0 := hr0_0.2.1
  have hn1 := hr0_1.2.1
  have hn2 := hr0_2.2.1
  clear hr0_0 hr0_1 hr0_2 h
  have hu25 := Try.underlying25
  have hb := (Below.refl w.heap.size w).alloc (Nat.le_refl _) (.cells #[Value.slice A0_0 l0_0.length c0_0, Value.slice A0_1 l0_1.length c0_1, Value.slice A0_2 l0_2.length c0_2] 25)
  have hf0 : (w.alloc (.cells #[Value.slice A0_0 l0_0.length c0_0, Value.slice A0_1 l0_1.length c0_1, Value.slice A0_2 l0_2.length c0_2] 25)).cell? ⟨w.heap.size, 0, none⟩ = some (Value.slice A0_0 l0_0.length c0_0) := by simp [go_sem]
  have hf1 : (w.alloc (.cells #[Value.slice A0_0 l0_0.length c0_0, Value.slice A0_1 l0_1.length c0_1, Value.slice A0_2 l0_2.length c0_2] 25)).cell? ⟨w.heap.size, 1, none⟩ = some (Value.slice A0_1 l0_1.length c0_1) := by simp [go_sem]
  have hf2 : (w.alloc (.cells #[Value.slice A0_0 l0_0.length c0_0, Value.slice A0_1 l0_1.length c0_1, Value.slice A0_2 l0_2.length c0_2] 25)).cell? ⟨w.heap.size, 2, none⟩ = some (Value.slice A0_2 l0_2.length c0_2) := by simp [go_sem]
  have HF0 := Aside0.mk hf0
  have HF1 := Aside0.mk hf1
  have HF2 := Aside0.mk hf2
  have HB := Aside0.mk hb
  clear hb hf0 hf1 hf2
  go_enter Try.func11, Try.ntmps11
  go_wp2
  generalize w.alloc (.cells #[Value.slice A0_0 l0_0.length c0_0, Value.slice A0_1 l0_1.length c0_1, Value.slice A0_2 l0_2.length c0_2] 25) = W1 at HB HF0 HF1 HF2 ⊢
  have HR0 := Aside0.mk (Kd.C_below HR0.out HB.out)
  have HR1 := Aside0.mk (Kd.C_below HR1.out HB.out)
  have HR2 := Aside0.mk (Kd.C_below HR2.out HB.out)
  go_loopw [3, 11] (fun v3 v11 w' => ∃ (k : Nat) (last : Int), k ≤ l0_0.length ∧ v11 = .int .i64 k ∧ v3 = .int .i64 last ∧ -1 ≤ last ∧ last ≤ 63 ∧ Aside0 (mayIns (-1) l0_0 = mayIns last (l0_0.drop k)) ∧ Drawn0 W1 w') (fun _ v _ => l0_0.length - (intOf v).toNat)
  case atStart => exact ⟨0, -1, Nat.zero_le _, rfl, rfl, by omega, by omega, ⟨rfl⟩, Drawn0.refl _⟩
  case round =>
    obtain ⟨j, last, hj, rfl, rfl, hl0, hl1, HE, ⟨m, rfl⟩⟩ := hrel
    by_cases hlt : j < l0_0.length
    · obtain ⟨ad, e1, hx⟩ := Kd.at_int HR0.out (j : Int) (by omega) (by omega)
      cases e1
      simp only [Int.toNat_natCast] at hx
      have hd : l0_0.drop j = rd l0_0 j :: l0_0.drop (j + 1) := by
        rw [List.drop_eq_getElem_cons hlt]; simp [rd, hlt]
      have HD := Aside0.mk hd
      clear hd
      generalize rd l0_0 (j : Int) = b at HD hx
      by_cases c1 : b ≤ last
      · have hins : mayIns (-1) l0_0 = false := by rw [HE.out, HD.out, mayIns, if_pos c1]
        have HR := H.out
        rw [flow_May.f, if_neg (by simp [hins])] at HR
        obtain rfl := Option.some.inj HR
        clear hins
        go_wp2
        repeat (go_quiet (fail); try go_wp2)
        go_ret
        exact ⟨rfl, by repeat (first | exact HB.out | apply below_alloc | apply pw_below_drewN | apply below_drew1)⟩
      · by_cases c2 : 64 ≤ b
        · have hins : mayIns (-1) l0_0 = false := by rw [HE.out, HD.out, mayIns, if_neg c1, if_pos c2]
          have HR := H.out
          rw [flow_May.f, if_neg (by simp [hins])] at HR
          obtain rfl := Option.some.inj HR
          clear hins
          go_wp2
          repeat (go_quiet (fail); try go_wp2)
          go_ret
          exact ⟨rfl, by repeat (first | exact HB.out | apply below_alloc | apply pw_below_drewN | apply below_drew1)⟩
        · go_wp2
          repeat (go_quiet (fail); try go_wp2)
          go_roundw
          case rel => exact ⟨j + 1, b, by omega, by go_num, rfl, by omega, by omega, ⟨by rw [HE.out, HD.out, mayIns, if_neg c1, if_neg c2]⟩, by repeat (first | exact Drawn0.refl _ | apply Drawn0.step)⟩
          case measure => simp [intOf]; omega
    · have hins : mayIns (-1) l0_0 = true := by rw [HE.out, List.drop_eq_nil_of_le (by omega), mayIns]
      have hlen := mayIns_len _ _ (by omega) (by omega) hins
      have HR := H.out
      rw [flow_May.f, if_pos hins] at HR
      clear hins HE
      have hf1 := HF1.out
      have hf2 := HF2.out
      by_cases c3 : 4096 < l0_1.length
      · have c3' : decide ((4096 : Int) < (l0_1.length : Int)) = true := by simp; omega
        rw [if_pos c3] at HR
        obtain rfl := Option.some.inj HR
        go_wp2
        repeat (go_quiet (fail); try go_wp2)
        go_ret
        exact ⟨rfl, by repeat (first | exact HB.out | apply below_alloc | apply pw_below_drewN | apply below_drew1)⟩
      · have c3' : decide ((4096 : Int) < (l0_1.length : Int)) = false := by simp; omega
        rw [if_neg c3] at HR
        by_cases c4 : 64 < l0_2.length
        · have c4' : decide ((64 : Int) < (l0_2.length : Int)) = true := by simp; omega
          rw [if_pos c4] at HR
          obtain rfl := Option.some.inj HR
          go_wp2
          repeat (go_quiet (fail); try go_wp2)
          go_ret
          exact ⟨rfl, by repeat (first | exact HB.out | apply below_alloc | apply pw_below_drewN | apply below_drew1)⟩
        · have c4' : decide ((64 : Int) < (l0_2.length : Int)) = false := by simp; omega
          rw [if_neg c4] at HR
          have HR := Aside0.mk HR
          go_wp2
          repeat (go_quiet (fail); try go_wp2)
          go_loopw [6, 7, 37] (fun v6 v7 v37 w' => ∃ (i : Nat), i ≤ l0_1.length ∧ v37 = .int .i64 i ∧ Aside0 (mayNodes k l0_0.length 0 l0_1 = mayNodes k l0_0.length i (l0_1.drop i)) ∧ Aside0 (Below W1.heap.size W1 w')) (fun _ _ v _ => l0_1.length - (intOf v).toNat)
          case atStart => exact ⟨0, Nat.zero_le _, rfl, ⟨rfl⟩, ⟨pw_below_drewN (Below.refl _ _) _⟩⟩
          case round =>
            obtain ⟨i, hi, rfl, HE, HBW⟩ := hrel
            have hf0 := pw_cell_below HBW.out HF0.out
            have hf2 := pw_cell_below HBW.out HF2.out
            have HB2 := Aside0.mk (HB.out.trans (HBW.out.mono HB.out.size))
            by_cases hlt : i < l0_1.length
            · obtain ⟨ad, Ai, ci, e1, hx, hci, hC⟩ := at_L4 (Kd.C_below HR1.out HBW.out) (i : Int) (by omega) (by omega)
              cases e1
              have HCI := Aside0.mk hC
              clear hC
              simp only [Int.toNat_natCast] at hx
              have hd : l0_1.drop i = rd_L4 l0_1 i :: l0_1.drop (i + 1) := by
                rw [List.drop_eq_getElem_cons hlt]; simp [rd_L4, hlt]
              have HE := Aside0.mk (show mayNodes k l0_0.length 0 l0_1 = ((flow_terms.f k (rd_L4 l0_1 i) ((l0_0.length : Int) + (i : Int))).bind fun t => if t = true then mayNodes k l0_0.length (i + 1) (l0_1.drop (i + 1)) else some false) by rw [HE.out, hd, mayNodes])
              clear hd
              generalize rd_L4 l0_1 (i : Int) = li at hx hci HCI HE
              cases ht : flow_terms.f k li ((l0_0.length : Int) + (i : Int)) with
              | none => 
                have h2 := HE.out
                rw [ht] at h2
                have h3 := HR.out
                rw [h2] at h3
                cases h3
              | some t =>
                have HT := Aside0.mk ht
                have h2 := HE.out
                rw [ht] at h2
                have HE := Aside0.mk h2
                clear h2 ht
                cases t
                · have h3 := HR.out
                  rw [HE.out] at h3
                  obtain rfl := Option.some.inj h3
                  clear h3
                  go_wp2_with (go_at_call 35; refine (flow_terms.calls k Ai ci li _ _ _ HCI.out hci HT.out).mono ?_; rintro e w2 ⟨rfl, hb2⟩)
                  go_ret
                  exact ⟨rfl, HB2.out.trans (hb2.mono HB2.out.size)⟩
                · go_wp2_with (go_at_call 35; refine (flow_terms.calls k Ai ci li _ _ _ HCI.out hci HT.out).mono ?_; rintro e w2 ⟨rfl, hb2⟩)
                  go_roundw
                  case rel => exact ⟨i + 1, by omega, by go_num, ⟨HE.out⟩, ⟨HBW.out.trans (hb2.mono HBW.out.size)⟩⟩
                  case measure => simp [intOf]; omega
            · have h3 := HR.out
              rw [HE.out, List.drop_eq_nil_of_le (by omega), mayNodes] at h3
              obtain rfl := Option.some.inj h3
              clear h3
              have HRW := Aside0.mk (Kd.C_below HR2.out HBW.out)
              have HBOX0 := Aside0.mk hf0
              have HCON := Aside0.mk (ContainsFunc36 (fun v => decide (v < 0) || decide ((l0_0.length : Int) + l0_1.length ≤ v)) w.heap.size A0_2 c0_2 l0_2 wr HRW.out hc0_2 (by omega) (fun v m => May1 w.heap.size v _ _ _ _ _ _ (wr.drewN m) (by simpa [go_sem] using pw_cell_below HBW.out HF0.out) (by simpa [go_sem] using pw_cell_below HBW.out HF1.out) (by omega) (by omega)))
              go_wp2_with (go_at_call 36; refine (HCON.out).mono ?_; rintro e w2 ⟨rfl, ⟨m2, rfl⟩⟩)
              go_ret
              exact ⟨rfl, pw_below_drewN HB2.out _⟩

end Go.Proofs.Ytfnhnniecclleaa.PA
