-- Written by wip/tools/mp.py (the kit's print, run over several laws with some functions given by hand).
import Derived.Test.YtfnhnniecclleaaPAx0
import Derived.Test.YtfnhnniecclleaaPAx2
import Derived.Test.YtfnhnniecclleaaPAx3
namespace Go.Proofs.Ytfnhnniecclleaa.PA
open Go.RowKit Go.Proofs.YtfnhnniecclleaaW.PrintWords Go.Proofs.YtfnhnniecclleaaW.PrintLast Go.Proofs.YtfnhnniecclleaaW.PrintMore
attribute [local go_sem] max2_int min2_int max_two min_two max_three min_three max_four min_four   -- for this text's walks alone
set_option linter.unusedVariables false
set_option linter.unusedSimpArgs false

/-! ### flow_mark: function 42 (by hand) -/
def markL (g : List Bool → Int → Option (List Bool)) : List S64 → List Bool → Option (List Bool)
  | [], h => some h
  | t :: r, h => (g h t.f0).bind fun h' => markL g r h'
def flow_mark.f : Nat → List Int → List (List S64) → List Int → List Bool → Int → Option (List Bool)
  | 0, _, _, _, _, _ => none
  | k + 1, l0, l1, l2, h, v => if 0 ≤ v then (if v < (h.length : Int) then (if rdOf false h v = true then some h else if v < (l0.length : Int) then some (h.set v.toNat true) else if v - (l0.length : Int) < (l1.length : Int) then markL (fun h v => flow_mark.f k l0 l1 l2 h v) (rd_L4 l1 (v - (l0.length : Int))) (h.set v.toNat true) else none) else none) else none
theorem R_okOf {e base : Nat} {w : World} {ok ok' : Nat → Prop} {v : Value} {xs : List Bool} (h : Kd.R Kd.bool e w base ok v xs) (hk : ∀ k, v.ownBlock = some k → ok' k) : Kd.R Kd.bool e w base ok' v xs := ⟨hk, h.2.imp_ (fun _ _ hp => hp)⟩
set_option maxHeartbeats 1000000 in
set_option maxRecDepth 100000 in
theorem flow_mark.calls (k : Nat) : ∀ (A0_0 : Option Addr) (c0_0 : Nat) (l0_0 : List Int) (A0_1 : Option Addr) (c0_1 : Nat) (l0_1 : List (List (S64))) (A0_2 : Option Addr) (c0_2 : Nat) (l0_2 : List Int) (P1_ : Nat → Prop) (u9000_ : Value) (l1 : List Bool) (a2 : Int) (r : List Bool) (w0 w : World) (hB : Below w0.heap.size w0 w)
    (hr0_0 : ∀ W_, Kept w W_ (fun k_ => P1_ k_) → Kd.C (Kd.int .i64) W_ A0_0 l0_0.length l0_0) (hc0_0 : l0_0.length ≤ c0_0) (hr0_1 : ∀ W_, Kept w W_ (fun k_ => P1_ k_) → Kd.C (Kd.slice 64 k64) W_ A0_1 l0_1.length l0_1) (hc0_1 : l0_1.length ≤ c0_1) (hr0_2 : ∀ W_, Kept w W_ (fun k_ => P1_ k_) → Kd.C (Kd.int .i64) W_ A0_2 l0_2.length l0_2) (hc0_2 : l0_2.length ≤ c0_2)
    (ho1 : Kd.R Kd.bool 4 w w0.heap.size P1_ u9000_ l1) (h : flow_mark.f k l0_0 l0_1 l0_2 l1 a2 = some r),
    Calls Try.prog 42 #[.agg #[.slice A0_0 l0_0.length c0_0, .slice A0_1 l0_1.length c0_1, .slice A0_2 l0_2.length c0_2], u9000_, .int .i64 a2] w fun e w' => e = .returned (.tuple #[]) ∧ Kd.R Kd.bool 4 w' w0.heap.size (fun k_ => (P1_ k_ ∨ w.heap.size ≤ k_)) u9000_ r ∧ Below w0.heap.size w0 w' ∧ Kept w w' (fun k_ => P1_ k_) := by
  induction k with
  | zero => intro A0_0 c0_0 l0_0 A0_1 c0_1 l0_1 A0_2 c0_2 l0_2 P1_ u9000_ l1 a2 r w0 w hB hr0_0 hc0_0 hr0_1 hc0_1 hr0_2 hc0_2 ho1 h; simp [flow_mark.f] at h
  | succ k ih =>
    intro A0_0 c0_0 l0_0 A0_1 c0_1 l0_1 A0_2 c0_2 l0_2 P1_ u9000_ l1 a2 r w0 w hB hr0_0 hc0_0 hr0_1 hc0_1 hr0_2 hc0_2 ho1 h
    have hn0 := (hr0_0 w (Kept.refl _ _)).2.1
    have hn1 := (hr0_1 w (Kept.refl _ _)).2.1
    have IH := Aside0.mk ih
    have HR0 := Aside0.mk hr0_0
    have HR1 := Aside0.mk hr0_1
    have HR2 := Aside0.mk hr0_2
    clear ih hr0_0 hr0_1 hr0_2
    have hu25 := Try.underlying25
    have hu64 := Try.underlying64
    rw [flow_mark.f] at h
    by_cases c0 : 0 ≤ a2
    · rw [if_pos c0] at h
      by_cases c1 : a2 < (l1.length : Int)
      · rw [if_pos c1] at h
        obtain ⟨Ao, co, eo⟩ := Kd.R_slice ho1
        subst eo
        obtain ⟨g, cg, eg, gb, gl, cl, HG⟩ := Kd.R_form ho1 (by omega)
        cases eg
        obtain ⟨hx, hf⟩ := Kd.R_celln false ho1 a2 c0 c1
        have hG := ho1.1 g rfl
        have HG' := Aside0.mk hG
        have HO := Aside0.mk ho1
        have HB := Aside0.mk hB
        have HGL := Aside0.mk gl
        have C0 := Aside0.mk c0
        have C1 := Aside0.mk c1
        have hi := eq_true c0
        have hi' := eq_true c1
        clear ho1 hB HG gl
        by_cases c2 : rdOf false l1 a2 = true
        · rw [if_pos c2] at h
          obtain rfl := Option.some.inj h
          have C2 := Aside0.mk c2
          clear c2
          go_enter Try.func42, Try.ntmps42
          go_wp2_with ((with_reducible refine gate_dst (N := 3) rfl ?_); refine box_event ?hg (N := 3) ?hd (cs := #[.slice A0_0 l0_0.length c0_0, .slice A0_1 l0_1.length c0_1, .slice A0_2 l0_2.length c0_2]) (t := 25) ?hr ?_; (case hd => rfl); (case hg => rfl); (case hr => first | (go_simp; done) | (go_simp; rfl)); intro gx hgx w1 hbx hbw; have HBX := Aside0.mk hbx; have HGX := Aside0.mk (show w.heap.size ≤ gx by rw [hgx]; exact Nat.le_refl _); have HNE := Aside0.mk (show g ≠ gx by rw [hgx]; have := HGL.out; omega); have HB1 := Aside0.mk (HB.out.trans (hbw.mono HB.out.size)); have HK1 := Aside0.mk (Kept.of_below hbw (fun k_ => P1_ k_)); have HO1 := Aside0.mk (Kd.R_below HO.out hbw); obtain ⟨hx, hf⟩ := Kd.R_celln false HO1.out a2 C0.out C1.out; rw [C2.out] at hx; clear hgx hbx hbw)
          refine bodyPost_ret (results_none rfl _ _ _) rfl ?_
          exact ⟨rfl, Kd.R_mono HO1.out (fun k_ hk => .inl hk), HB1.out, HK1.out⟩
        · rw [if_neg c2] at h
          have C2 := Aside0.mk (show rdOf false l1 a2 = false by simpa using c2)
          clear c2
          by_cases c3 : a2 < (l0_0.length : Int)
          · rw [if_pos c3] at h
            obtain rfl := Option.some.inj h
            go_enter Try.func42, Try.ntmps42
            go_wp2_with (first | ((with_reducible refine gate_dst (N := 3) rfl ?_); refine box_event ?hg (N := 3) ?hd (cs := #[.slice A0_0 l0_0.length c0_0, .slice A0_1 l0_1.length c0_1, .slice A0_2 l0_2.length c0_2]) (t := 25) ?hr ?_; (case hd => rfl); (case hg => rfl); (case hr => first | (go_simp; done) | (go_simp; rfl)); intro gx hgx w1 hbx hbw; have HBX := Aside0.mk hbx; have HGX := Aside0.mk (show w.heap.size ≤ gx by rw [hgx]; exact Nat.le_refl _); have HNE := Aside0.mk (show g ≠ gx by rw [hgx]; have := HGL.out; omega); have HB1 := Aside0.mk (HB.out.trans (hbw.mono HB.out.size)); have HK1 := Aside0.mk (Kept.of_below hbw (fun k_ => P1_ k_)); have HO1 := Aside0.mk (Kd.R_below HO.out hbw); obtain ⟨hx, hf⟩ := Kd.R_celln false HO1.out a2 C0.out C1.out; rw [C2.out] at hx; clear hgx hbx hbw) | ((with_reducible refine gate_store (t := 4) (p := 14) rfl ?_); refine store_event (t := 4) (p := 14) (v := ?vo_) (w1 := (w1.setCell ⟨g, a2.toNat, none⟩ (.bool true))) ?hg ?ho ?hn ?hr ?_; (case ho => rfl); (case hg => rfl); (case hn => rfl); (case hr => first | (go_simp; done) | (go_simp; rfl)); intro w8 hw; have HP8 := Aside0.mk (show Kd.R Kd.bool 4 w8 w0.heap.size P1_ (.slice (some ⟨g, 0, none⟩) l1.length co) (l1.set a2.toNat true) by rw [hw]; exact (Kd.R_putg (enc := Value.bool) (h1 := fun _ => rfl) HO1.out a2 true).1); have HB8 := Aside0.mk (show Below w0.heap.size w0 w8 by rw [hw]; exact below_set HB1.out gb); have HK8 := Aside0.mk (show Kept w w8 (fun k_ => P1_ k_) by rw [hw]; exact HK1.out.setCell (.inl hG) _); have HX8 := Aside0.mk (show w8.heap[gx]? = some (.cells #[.slice A0_0 l0_0.length c0_0, .slice A0_1 l0_1.length c0_1, .slice A0_2 l0_2.length c0_2] 25 (0, 0)) by rw [hw]; exact (Below.heap_setCell _ ⟨g, a2.toNat, none⟩ _ gx (fun e => HNE.out e.symm)).trans HBX.out); clear hw hx hf; have hz0 : w8.cell? ⟨gx, 0, none⟩ = some (.slice A0_0 l0_0.length c0_0) := (blk_cell HX8.out 0).trans rfl))
            refine bodyPost_ret (results_none rfl _ _ _) rfl ?_
            exact ⟨rfl, Kd.R_mono HP8.out (fun k_ hk => .inl hk), HB8.out, HK8.out⟩
          · rw [if_neg c3] at h
            by_cases c4 : a2 - (l0_0.length : Int) < (l0_1.length : Int)
            · rw [if_pos c4] at h
              have hj0 : 0 ≤ a2 - (l0_0.length : Int) := by omega
              obtain ⟨ji, hji⟩ : ∃ j : Int, a2 - (l0_0.length : Int) = j := ⟨_, rfl⟩
              rw [hji] at h hj0 c4
              have H := Aside0.mk h
              have hj0' := eq_true hj0
              have hj1' := eq_true c4
              clear h
              go_enter Try.func42, Try.ntmps42
              go_wp2_with (first | ((with_reducible refine gate_dst (N := 3) rfl ?_); refine box_event ?hg (N := 3) ?hd (cs := #[.slice A0_0 l0_0.length c0_0, .slice A0_1 l0_1.length c0_1, .slice A0_2 l0_2.length c0_2]) (t := 25) ?hr ?_; (case hd => rfl); (case hg => rfl); (case hr => first | (go_simp; done) | (go_simp; rfl)); intro gx hgx w1 hbx hbw; have HBX := Aside0.mk hbx; have HGX := Aside0.mk (show w.heap.size ≤ gx by rw [hgx]; exact Nat.le_refl _); have HNE := Aside0.mk (show g ≠ gx by rw [hgx]; have := HGL.out; omega); have HB1 := Aside0.mk (HB.out.trans (hbw.mono HB.out.size)); have HK1 := Aside0.mk (Kept.of_below hbw (fun k_ => P1_ k_)); have HO1 := Aside0.mk (Kd.R_below HO.out hbw); obtain ⟨hx, hf⟩ := Kd.R_celln false HO1.out a2 C0.out C1.out; rw [C2.out] at hx; clear hgx hbx hbw) | ((with_reducible refine gate_store (t := 4) (p := 14) rfl ?_); refine store_event (t := 4) (p := 14) (v := ?vo_) (w1 := (w1.setCell ⟨g, a2.toNat, none⟩ (.bool true))) ?hg ?ho ?hn ?hr ?_; (case ho => rfl); (case hg => rfl); (case hn => rfl); (case hr => first | (go_simp; done) | (go_simp; rfl)); intro w8 hw; have HP8 := Aside0.mk (show Kd.R Kd.bool 4 w8 w0.heap.size P1_ (.slice (some ⟨g, 0, none⟩) l1.length co) (l1.set a2.toNat true) by rw [hw]; exact (Kd.R_putg (enc := Value.bool) (h1 := fun _ => rfl) HO1.out a2 true).1); have HB8 := Aside0.mk (show Below w0.heap.size w0 w8 by rw [hw]; exact below_set HB1.out gb); have HK8 := Aside0.mk (show Kept w w8 (fun k_ => P1_ k_) by rw [hw]; exact HK1.out.setCell (.inl hG) _); have HX8 := Aside0.mk (show w8.heap[gx]? = some (.cells #[.slice A0_0 l0_0.length c0_0, .slice A0_1 l0_1.length c0_1, .slice A0_2 l0_2.length c0_2] 25 (0, 0)) by rw [hw]; exact (Below.heap_setCell _ ⟨g, a2.toNat, none⟩ _ gx (fun e => HNE.out e.symm)).trans HBX.out); clear hw hx hf; have hz0 : w8.cell? ⟨gx, 0, none⟩ = some (.slice A0_0 l0_0.length c0_0) := (blk_cell HX8.out 0).trans rfl; have hz1 : w8.cell? ⟨gx, 1, none⟩ = some (.slice A0_1 l0_1.length c0_1) := (blk_cell HX8.out 1).trans rfl; have hF8 : Kd.F (Kd.slice 64 k64) w8 (fun k => k ≠ g) A0_1 l0_1.length l0_1 := (fun W' hW => HR1.out W' (HK8.out.then_ (S2 := fun k => k = g) ⟨by have h1 := blk_lt HX8.out; have h2 := HGL.out; have h3 := HGX.out; have h4 := heap_lt (hW (w8.heap.size - 1) (by omega) (by omega)) (by omega); omega, fun i hi hn => hW i hn hi⟩ (fun k hk => .inl (by rw [hk]; exact hG)))); obtain ⟨ad, cs, eA, hcl, hFK, hcc, _⟩ := Kd.F_get hF8 ([] : List S64) ji hj0 c4; cases eA; obtain ⟨Ai, ci, rfl, hci, hT⟩ := Kd.FK_slice_open hFK; have hxx : w8.cell? (ad.add ji.toNat) = some (.slice Ai (rd_L4 l0_1 ji).length ci) := (by have h5 := hcc 0 _ rfl; simpa [Kd.slice, rd_L4] using h5); have HT := Aside0.mk (show Kd.F k64 w8 (fun k => k ≠ g) Ai (rd_L4 l0_1 ji).length (rd_L4 l0_1 ji) from hT); clear hT hF8 hcc hFK hcl))
              clear hxx hj1' hj0'
              generalize rd_L4 l0_1 ji = T at H HT hci ⊢
              have hTn := (Kd.F_now HT.out).2.1
              go_loopw [7, 30] (fun v7 v30 w' => ∃ (i : Nat) (hs : List Bool), i ≤ T.length ∧ v30 = .int .i64 i ∧ Aside0 (markL (fun h v => flow_mark.f k l0_0 l0_1 l0_2 h v) (T.drop i) hs = some r) ∧ Aside0 (Kd.R Kd.bool 4 w' w0.heap.size (fun k_ => k_ = g) (.slice (some ⟨g, 0, none⟩) l1.length co) hs) ∧ Aside0 (Below w0.heap.size w0 w') ∧ Aside0 (Kept w8 w' (fun k_ => k_ = g))) (fun _ v _ => T.length - (intOf v).toNat)
              case atStart => exact ⟨0, l1.set a2.toNat true, Nat.zero_le _, rfl, ⟨H.out⟩, ⟨R_okOf HP8.out (fun k_ e => by simpa [Value.ownBlock] using e.symm)⟩, HB8, ⟨Kept.refl _ _⟩⟩
              case round =>
                obtain ⟨i, hs, hi1, rfl, HM, HOi, HBi, HKi⟩ := hrel
                have HXi := Aside0.mk (blk_kept HX8.out HKi.out (fun e => HNE.out e.symm))
                have HKw := Aside0.mk (HK8.out.then_ HKi.out (fun k hk => .inl (by rw [hk]; exact hG)))
                by_cases hlt : i < T.length
                · have hCT := Kd.F_now (Kd.F_kept HT.out HKi.out (fun k hk => hk))
                  obtain ⟨adt, et, ht0, ht1⟩ := at_T64 hCT (i : Int) (by omega) (by omega)
                  cases et
                  simp only [Int.toNat_natCast] at ht0 ht1
                  have hd : T.drop i = rd_T64 T i :: T.drop (i + 1) := by
                    rw [List.drop_eq_getElem_cons hlt]; simp [rd_T64, hlt]
                  have hM := HM.out
                  rw [hd, markL] at hM
                  obtain ⟨hs', hm1, hm2⟩ := Option.bind_eq_some_iff.1 hM
                  have HM1 := Aside0.mk hm1
                  have HM2 := Aside0.mk hm2
                  clear hd hM hm1 hm2 hCT HM
                  generalize rd_T64 T (i : Int) = t at ht0 ht1 HM1
                  have hzi0 : wr.cell? ⟨gx, 0, none⟩ = some (.slice A0_0 l0_0.length c0_0) := (blk_cell HXi.out 0).trans rfl
                  have hzi1 : wr.cell? ⟨gx, 1, none⟩ = some (.slice (some ad) l0_1.length c0_1) := (blk_cell HXi.out 1).trans rfl
                  have hzi2 : wr.cell? ⟨gx, 2, none⟩ = some (.slice A0_2 l0_2.length c0_2) := (blk_cell HXi.out 2).trans rfl
                  go_wp2_with (first | (go_at_call 42; refine (IH.out A0_0 c0_0 l0_0 (some ad) c0_1 l0_1 A0_2 c0_2 l0_2 (fun k_ => k_ = g) _ hs t.f0 hs' w0 _ ?q1 ?q2 hc0_0 ?q3 hc0_1 ?q4 hc0_2 ?q5 HM1.out).mono ?_; (case q1 => exact below_set (below_set HB7.out (Nat.le_trans HB.out.size hs7)) (Nat.le_trans HB.out.size hs7)); (case q2 => exact fun W_ hk => HR0.out W_ (((HKW7.out.setCell (.inr hs7) _).setCell (.inr hs7) _).then_ hk (fun k hk => .inl (by rw [hk]; exact hG)))); (case q3 => exact fun W_ hk => HR1.out W_ (((HKW7.out.setCell (.inr hs7) _).setCell (.inr hs7) _).then_ hk (fun k hk => .inl (by rw [hk]; exact hG)))); (case q4 => exact fun W_ hk => HR2.out W_ (((HKW7.out.setCell (.inr hs7) _).setCell (.inr hs7) _).then_ hk (fun k hk => .inl (by rw [hk]; exact hG)))); (case q5 => exact Kd.R_far (Kd.R_far HO7.out (p := ⟨gt, 0, none⟩) (fun k hk => by rw [hk]; exact hne3) _) (p := ⟨gt, 1, none⟩) (fun k hk => by rw [hk]; exact hne3) _); rintro e w9 ⟨rfl, hr9, hb9, hk9⟩; have HR9 := Aside0.mk (R_okOf (ok' := fun k_ => k_ = g) hr9 (fun k_ e => by simpa [Value.ownBlock] using e.symm)); have HB9 := Aside0.mk hb9; have HK9 := Aside0.mk (((HK7.out.setCell (.inr hs8) _).setCell (.inr hs8) _).then_ hk9 (fun k hk => .inl hk)); clear hr9 hb9 hk9) | ((with_reducible refine gate_dst (N := 7) rfl ?_); refine box_event ?hg (N := 7) ?hd (cs := #[.int .i64 0, .int .u8 0]) (t := 64) ?hr ?_; (case hd => rfl); (case hg => rfl); (case hr => first | (go_simp; done) | (go_simp; rfl)); intro gt hgt w7 hbox hb; have hlg := blk_lt HXi.out; have hne1 : gx ≠ gt := (by omega); have hne2 : gt ≠ gx := (by omega); have hne3 : g ≠ gt := (by have h2 := HGL.out; have h3 := HGX.out; omega); have hs7 : w.heap.size ≤ gt := (by have h3 := HGX.out; omega); have hs8 : w8.heap.size ≤ gt := (by have h3 := HKi.out.1; omega); have HZ7 := Aside0.mk hbox; have HO7 := Aside0.mk (Kd.R_below HOi.out hb); have HB7 := Aside0.mk (HBi.out.trans (hb.mono HBi.out.size)); have HK7 := Aside0.mk (HKi.out.below hb); have HX7 := Aside0.mk ((hb.block _ hlg).trans HXi.out); have hz70 : w7.cell? ⟨gx, 0, none⟩ = some (.slice A0_0 l0_0.length c0_0) := (blk_cell HX7.out 0).trans rfl; have hz71 : w7.cell? ⟨gx, 1, none⟩ = some (.slice (some ad) l0_1.length c0_1) := (blk_cell HX7.out 1).trans rfl; have hz72 : w7.cell? ⟨gx, 2, none⟩ = some (.slice A0_2 l0_2.length c0_2) := (blk_cell HX7.out 2).trans rfl; have hcz0 : w7.cell? ⟨gt, 0, none⟩ = some (.int .i64 0) := (blk_cell HZ7.out 0).trans rfl; have hcz1 : w7.cell? ⟨gt, 1, none⟩ = some (.int .u8 0) := (blk_cell HZ7.out 1).trans rfl; have hfz0 := blk_frozen HZ7.out 0; have hfz1 := blk_frozen HZ7.out 1; have HNG := Aside0.mk hgt; have HKW7 := Aside0.mk (HK8.out.then_ HK7.out (fun k hk => .inl (by rw [hk]; exact hG))); clear hgt hbox hb hlg ht0 ht1))
                  go_roundw
                  case rel => exact ⟨i + 1, hs', by omega, by go_num, HM2, HR9, HB9, HK9⟩
                  case measure => simp [intOf]; omega
                · have hM := HM.out
                  rw [List.drop_eq_nil_of_le (by omega), markL] at hM
                  obtain rfl := Option.some.inj hM
                  clear hM HM
                  go_wp2
                  go_end0
                  exact ⟨rfl, R_okOf HOi.out (fun k_ e => .inl (by have h1 : g = k_ := (by simpa [Value.ownBlock] using e); rw [← h1]; exact hG)), HBi.out, HKw.out⟩
            · rw [if_neg c4] at h; cases h
      · rw [if_neg c1] at h; cases h
    · rw [if_neg c0] at h; cases h

end Go.Proofs.Ytfnhnniecclleaa.PA
