/- The walk of FlowFresh. Conditions: none. -/
import Derived.Test.YtfnhnniecclleaaFreshG
import Derived.Test.YtfnhnniecclleaaPAx7
import Derived.Test.YtfnhnniecclleaaPAx10
import Derived.Test.YtfnhnniecclleaaPAx16
import Derived.Test.YtfnhnniecclleaaPAx17
import Derived.Test.YtfnhnniecclleaaPAx21
namespace Go.Proofs.Ytfnhnniecclleaa.Fresh
open Go.RowKit Go.Proofs.YtfnhnniecclleaaW.PrintWords Go.Proofs.YtfnhnniecclleaaW.PrintLast Go.Proofs.YtfnhnniecclleaaW.PrintMore Go.Proofs.Ytfnhnniecclleaa.PA
set_option linter.unusedVariables false
set_option maxHeartbeats 2400000 in
set_option maxRecDepth 100000 in
theorem fresh_calls (k : Nat) (A0 : Option Addr) (c0 : Nat) (I : List Int) (A1 : Option Addr) (c1 : Nat) (NN : List (List S64)) (A2 : Option Addr) (c2 : Nat) (O : List Int) (Ab : Option Addr) (cb : Nat) (bl : List (List Int)) (mr mc : Int) (Am : Option Addr) (cm : Nat) (md : List Int) (w : World)
    (h0 : Kd.C (Kd.int .i64) w A0 I.length I) (hc0 : I.length ≤ c0) (h1 : Kd.C (Kd.slice 64 k64) w A1 NN.length NN) (hc1 : NN.length ≤ c1) (h2 : Kd.C (Kd.int .i64) w A2 O.length O) (hc2 : O.length ≤ c2)
    (hb : Kd.C (Kd.slice 5 (Kd.int .u8)) w Ab bl.length bl) (hcb : bl.length ≤ cb) (hm : Kd.C (Kd.int .u8) w Am md.length md) (hcm : md.length ≤ cm)
    (hf1 : recoupref21_Copy.f k I NN O = some (I, NN, O)) (hf3 : recoupref21_CopyBlocks.f k bl = some bl) (hf5 : recoupref03_Copy.f mr mc md = some (mr, mc, md))
    {tI : List Int} {tN : List (List S64)} {tO : List Int} {te : Int} (hf18 : flow_Trim.f k I NN O = some (tI, tN, tO, te)) {oI : List Int} {oN : List (List S64)} {oO : List Int} {oe : Int} (hf23 : flow_Of.f k mr mc md = some (oI, oN, oO, oe)) {out : List (List Int)} {ee : Int} (htN : tN.length < 4611686018427387904) (hout : out.length < 4611686018427387904) (hrow : ∀ x ∈ out, x.length + 3 < 140737488355328) (hCX : ∀ X : List (List Int), X.map List.length = out.map List.length → recoupref21_CopyBlocks.f k X = some X) (hf20 : flow_Run.f k I NN O bl = some (out, ee))
    {rb : List (List Int)} (hf21 : recoupref21_Run.f k I NN O bl = some (rb, ee)) (hfA : recouplaw21_anchored.f k = some true) (hfS : recoupref21_Same.f k I NN O I NN O = some true) (hfB : recoupref21_Blocks.f k bl bl = some true) (hfL : recoupref03_Like.f mr mc md mr mc md = some true) (hfB2 : recoupref21_Blocks.f k out rb = some true) :
    Calls Try.prog 9 #[.agg #[.slice A0 I.length c0, .slice A1 NN.length c1, .slice A2 O.length c2], .slice Ab bl.length cb, .agg #[.int .i64 mr, .int .i64 mc, .slice Am md.length cm]] w fun e w' => e = .returned (.bool true) ∧ Below w.heap.size w w' := by
  have HFA := Aside0.mk hfA
  have HFS := Aside0.mk hfS
  have HFB := Aside0.mk hfB
  have HFL := Aside0.mk hfL
  have HFB2 := Aside0.mk hfB2
  have HF21 := Aside0.mk hf21
  have HF20 := Aside0.mk hf20
  have HF18 := Aside0.mk hf18
  have HF23 := Aside0.mk hf23
  clear hfA hfS hfB hfL hfB2 hf21 hf20 hf18 hf23
  have hu25 := Try.underlying25
  have hu47 := Try.underlying47
  have HB := Aside0.mk (Below.refl w.heap.size w)
  go_enter Try.func9, Try.ntmps9
  go_wp2_with (first
    | ((with_reducible refine gate_dst (N := 3) rfl ?_); refine box_event ?hg (N := 3) ?hd (cs := #[.slice A0 I.length c0, .slice A1 NN.length c1, .slice A2 O.length c2]) (t := 25) ?hr ?_; (case hd => rfl); (case hg => rfl); (case hr => first | (go_simp; done) | (go_simp; rfl)); intro g3 hg3 w1 hbox3 hb3; have HB1 := Aside0.mk (below_step HB.out hb3); have HX3 := Aside0.mk hbox3; clear hb3 hbox3 hg3 HB)
    | ((with_reducible refine gate_dst (N := 5) rfl ?_); refine box_event ?hg (N := 5) ?hd (cs := #[.int .i64 mr, .int .i64 mc, .slice Am md.length cm]) (t := 47) ?hr ?_; (case hd => rfl); (case hg => rfl); (case hr => first | (go_simp; done) | (go_simp; rfl)); intro g5 hg5 w2 hbox5 hb5; have HB2 := Aside0.mk (below_step HB1.out hb5); have HX5 := Aside0.mk hbox5; have HX32 := Aside0.mk (blk_below HX3.out hb5); clear hb5 hbox5 hg5 HB1 HX3))
  have hb2 := HB2.out
  refine region1 k A0 c0 I A1 c1 NN A2 c2 O Ab cb bl mr mc Am cm md g3 g5 w2.drew (Kd.C_drew (Kd.C_below h0 hb2)) hc0 (Kd.C_drew (Kd.C_below h1 hb2)) hc1 (Kd.C_drew (Kd.C_below h2 hb2)) hc2 (Kd.C_drew (Kd.C_below hb hb2)) hcb (Kd.C_drew (Kd.C_below hm hb2)) hcm (blk_drew HX32.out) (blk_drew HX5.out) hf1 hf3 hf5 ?_ _ rfl
  intro x28 x29 x30 x31 x32 x33 x8 g7 g9 v0 v1 v2 v3 W1 hB1 hg7 hg9 hc7 hc9 hG1 hG3 hG5
  obtain ⟨u0, u1, u2, e1, ra, rb, rc⟩ := hG1
  simp only [Value.agg.injEq, Array.mk.injEq, List.cons.injEq, and_true] at e1
  obtain ⟨rfl, rfl, rfl⟩ := e1
  obtain ⟨B0, d0, rfl, hd0, C0⟩ := Kd.R_reads ra
  obtain ⟨B1, d1, rfl, hd1, C1⟩ := Kd.S_reads rb
  obtain ⟨B2, d2, rfl, hd2, C2⟩ := Kd.R_reads rc
  have rl : Kd.S (Kd.slice 5 (Kd.int .u8)) 45 W1 w2.drew.heap.size (fun _ => True) x8 bl := hG3
  obtain ⟨Bl, dl, rfl, hdl, Cl⟩ := Kd.S_reads rl
  obtain ⟨u3, e5, rm⟩ := hG5
  simp only [Value.agg.injEq, Array.mk.injEq, List.cons.injEq, and_true, true_and] at e5
  obtain rfl := e5
  obtain ⟨Bm, dm, rfl, hdm, Cm⟩ := Kd.R_reads rm
  clear ra rb rc rm hG3
  have Q0 := Aside0.mk C0
  have Q1 := Aside0.mk C1
  have Q2 := Aside0.mk C2
  have QL := Aside0.mk rl
  have QM := Aside0.mk Cm
  have Q7 := Aside0.mk (show PB 0 g7 25 _ _ _ W1 from ⟨Nat.zero_le _, hc7⟩)
  have Q9 := Aside0.mk (show PB 0 g9 47 _ _ _ W1 from ⟨Nat.zero_le _, hc9⟩)
  have QB := Aside0.mk ((hb2.drew).trans (hB1.mono hb2.size))
  have Q3 := Aside0.mk (show PB 0 g3 25 _ _ _ W1 from ⟨Nat.zero_le _, (hB1.block g3 (blk_lt (blk_drew HX32.out))).trans (blk_drew HX32.out)⟩)
  have Q5 := Aside0.mk (show PB 0 g5 47 _ _ _ W1 from ⟨Nat.zero_le _, (hB1.block g5 (blk_lt (blk_drew HX5.out))).trans (blk_drew HX5.out)⟩)
  have K0 := Aside0.mk (And.intro h0 (And.intro h1 (And.intro h2 (And.intro hb hm))))
  have K1 := Aside0.mk (And.intro hc0 (And.intro hc1 (And.intro hc2 (And.intro hcb hcm))))
  have KX := Aside0.mk hCX
  have KR := Aside0.mk hrow
  clear hCX hrow C0 C1 C2 rl Cl Cm hc7 hc9 hB1 hg7 hg9 HX32 HX5 HB2 hb2 h0 h1 h2 hb hm hf1 hf3 hf5 hc0 hc1 hc2 hcb hcm
  obtain ⟨M, hM⟩ : ∃ M, M = W1.heap.size := ⟨_, rfl⟩
  unfold ac
  obtain ⟨⟨z70, z71, z72⟩, _⟩ := Q7.out.cells
  go_wp2_with (first
    | (go_at_call 18; refine (flow_Trim.calls k B0 d0 I B1 d1 NN B2 d2 O tI tN tO te W1 Q0.out hd0 Q1.out hd1 Q2.out hd2 HF18.out).mono ?_; rintro e w4 ⟨vt0, vt1, vt2, rfl, hT0, hT1, hT2, hb4⟩; have HP4 := Aside0.mk (show P1 W1.heap.size W1 vt0 vt1 vt2 tI.length tN.length tO.length w4 from ⟨hb4, RR.of_own (Kd.R_own hT0).choose_spec, TN.of_R (Kd.S_R hT1), RR.of_own (Kd.R_own hT2).choose_spec⟩); obtain ⟨E0, f0, rfl⟩ := Kd.R_slice hT0; obtain ⟨E1, f1, rfl⟩ := Kd.S_slice hT1; obtain ⟨E2, f2, rfl⟩ := Kd.R_slice hT2; have H74 := Aside0.mk (Q7.out.below hb4); have H94 := Aside0.mk (Q9.out.below hb4); clear hT0 hT1 hT2 hb4)
    | ((with_reducible refine gate_dst (N := 10) rfl ?_); refine alloc_row_event ?hg (N := 10) ?hd (z := #[.slice none 0 0, .slice none 0 0, .slice none 0 0]) (t := 25) ?ho info25 ?_; (case hd => rfl); (case hg => rfl); (case ho => rfl); intro g10 hg10 w5 hz10 hb10; have HP5 := Aside0.mk (HP4.out.below HP4.out.bb.size hb10); have H75 := Aside0.mk (H74.out.below hb10); have H95 := Aside0.mk (H94.out.below hb10); have n75 := Aside0.mk (show g7 ≠ g10 from hg10 ▸ Nat.ne_of_lt H74.out.lt); have n95 := Aside0.mk (show g9 ≠ g10 from hg10 ▸ Nat.ne_of_lt H94.out.lt); have H10 := Aside0.mk (show PB W1.heap.size g10 25 _ _ _ w5 from ⟨hg10 ▸ HP4.out.bb.size, hz10⟩); obtain ⟨⟨q0, q1, q2⟩, qf0, qf1, qf2⟩ := H10.out.cells; clear hg10 hz10 hb10 HP4 H74 H94)
    | ((with_reducible refine gate_store (t := 25) (p := 10) rfl ?_); refine store_event (t := 25) (p := 10) (v := ?vo) (w1 := ((w5.setCell ⟨g10, 0, none⟩ (.slice E0 tI.length f0)).setCell ⟨g10, 1, none⟩ (.slice E1 tN.length f1)).setCell ⟨g10, 2, none⟩ (.slice E2 tO.length f2)) ?hg ?ho ?hn ?hr ?_; (case ho => rfl); (case hg => rfl); (case hn => rfl); (case hr => first | (go_simp; done) | (go_simp; rfl)); intro w6 hw6; subst hw6; have HP6 := Aside0.mk (HP5.out.set3 H10.out.1 H10.out.2 (.slice E0 tI.length f0) (.slice E1 tN.length f1) (.slice E2 tO.length f2)); have H76 := Aside0.mk (H75.out.other n75.out (.slice E0 tI.length f0) (.slice E1 tN.length f1) (.slice E2 tO.length f2)); have H96 := Aside0.mk (H95.out.other n95.out (.slice E0 tI.length f0) (.slice E1 tN.length f1) (.slice E2 tO.length f2)); have H106 := Aside0.mk (show PB W1.heap.size g10 25 _ _ _ _ from ⟨H10.out.1, blk_three (u := .slice E0 tI.length f0) (v := .slice E1 tN.length f1) (x := .slice E2 tO.length f2) H10.out.2⟩); clear q0 q1 q2 qf0 qf1 qf2 HP5 H75 H95 H10; generalize ((w5.setCell ⟨g10, 0, none⟩ (.slice E0 tI.length f0)).setCell ⟨g10, 1, none⟩ (.slice E1 tN.length f1)).setCell ⟨g10, 2, none⟩ (.slice E2 tO.length f2) = w6 at HP6 H76 H96 H106 ⊢; obtain ⟨⟨z90, z91, z92⟩, _⟩ := H96.out.cells)
    | (go_at_call 23; refine (flow_Of.calls k mr mc Bm dm md oI oN oO oe w6 (Kd.C_below QM.out HP6.out.bb) hdm HF23.out).mono ?_; rintro e w7 ⟨vo0, vo1, vo2, rfl, hO0, hO1, hO2, hb7⟩; have HP7 := Aside0.mk (HP6.out.below HP6.out.bb.size hb7); have HO7 := Aside0.mk (show RR w7 W1.heap.size 3 vo0 oI.length 1 from RR.of_own (Kd.R_own (Kd.R_lower hO0 HP6.out.bb.size)).choose_spec); have H77 := Aside0.mk (H76.out.below hb7); have H97 := Aside0.mk (H96.out.below hb7); have H107 := Aside0.mk (H106.out.below hb7); obtain ⟨E3, f3, rfl⟩ := Kd.R_slice hO0; obtain ⟨E4, f4, rfl⟩ := Kd.S_slice hO1; obtain ⟨E5, f5, rfl⟩ := Kd.R_slice hO2; clear hO0 hO1 hO2 hb7 z90 z91 z92 HP6 H76 H96 H106)
    | ((with_reducible refine gate_dst (N := 12) rfl ?_); refine alloc_row_event ?hg (N := 12) ?hd (z := #[.slice none 0 0, .slice none 0 0, .slice none 0 0]) (t := 25) ?ho info25 ?_; (case hd => rfl); (case hg => rfl); (case ho => rfl); intro g12 hg12 w8 hz12 hb12; have HP8 := Aside0.mk (HP7.out.below HP7.out.bb.size hb12); have HO8 := Aside0.mk (HO7.out.below hb12); have H78 := Aside0.mk (H77.out.below hb12); have H98 := Aside0.mk (H97.out.below hb12); have H108 := Aside0.mk (H107.out.below hb12); have n78 := Aside0.mk (show g7 ≠ g12 from hg12 ▸ Nat.ne_of_lt H77.out.lt); have n98 := Aside0.mk (show g9 ≠ g12 from hg12 ▸ Nat.ne_of_lt H97.out.lt); have n108 := Aside0.mk (show g10 ≠ g12 from hg12 ▸ Nat.ne_of_lt H107.out.lt); have H12 := Aside0.mk (show PB W1.heap.size g12 25 _ _ _ w8 from ⟨hg12 ▸ HP7.out.bb.size, hz12⟩); obtain ⟨⟨q0, q1, q2⟩, qf0, qf1, qf2⟩ := H12.out.cells; clear hg12 hz12 hb12 HP7 HO7 H77 H97 H107)
    | ((with_reducible refine gate_store (t := 25) (p := 12) rfl ?_); refine store_event (t := 25) (p := 12) (v := ?vo12) (w1 := ((w8.setCell ⟨g12, 0, none⟩ (.slice E3 oI.length f3)).setCell ⟨g12, 1, none⟩ (.slice E4 oN.length f4)).setCell ⟨g12, 2, none⟩ (.slice E5 oO.length f5)) ?hg ?ho ?hn ?hr ?_; (case ho => rfl); (case hg => rfl); (case hn => rfl); (case hr => first | (go_simp; done) | (go_simp; rfl)); intro w9 hw9; subst hw9; have HP9 := Aside0.mk (HP8.out.set3 H12.out.1 H12.out.2 (.slice E3 oI.length f3) (.slice E4 oN.length f4) (.slice E5 oO.length f5)); have HO9 := Aside0.mk (HO8.out.set3 g12 (.slice E3 oI.length f3) (.slice E4 oN.length f4) (.slice E5 oO.length f5)); have H79 := Aside0.mk (H78.out.other n78.out (.slice E3 oI.length f3) (.slice E4 oN.length f4) (.slice E5 oO.length f5)); have H99 := Aside0.mk (H98.out.other n98.out (.slice E3 oI.length f3) (.slice E4 oN.length f4) (.slice E5 oO.length f5)); have H109 := Aside0.mk (H108.out.other n108.out (.slice E3 oI.length f3) (.slice E4 oN.length f4) (.slice E5 oO.length f5)); have H129 := Aside0.mk (show PB W1.heap.size g12 25 _ _ _ _ from ⟨H12.out.1, blk_three (u := .slice E3 oI.length f3) (v := .slice E4 oN.length f4) (x := .slice E5 oO.length f5) H12.out.2⟩); clear q0 q1 q2 qf0 qf1 qf2 HP8 HO8 H78 H98 H108 H12; generalize ((w8.setCell ⟨g12, 0, none⟩ (.slice E3 oI.length f3)).setCell ⟨g12, 1, none⟩ (.slice E4 oN.length f4)).setCell ⟨g12, 2, none⟩ (.slice E5 oO.length f5) = w9 at HP9 HO9 H79 H99 H109 H129 ⊢; obtain ⟨⟨z70, z71, z72⟩, _⟩ := H79.out.cells)
    | (go_at_call 20; refine (flow_Run_S k B0 d0 I B1 d1 NN B2 d2 O (fun _ => True) Bl dl bl out ee w9 (Kd.C_below Q0.out HP9.out.bb) hd0 (Kd.C_below Q1.out HP9.out.bb) hd1 (Kd.C_below Q2.out HP9.out.bb) hd2 (Kd.S_V (Kd.S_below QL.out HP9.out.bb)) HF20.out).mono ?_; rintro e w10 ⟨vr, rfl, hR, hb10⟩; have HST := Aside0.mk (show ST W1.heap.size W1 g10 g12 (.slice E0 tI.length f0) (.slice E1 tN.length f1) (.slice E2 tO.length f2) (.slice E3 oI.length f3) (.slice E4 oN.length f4) (.slice E5 oO.length f5) vr tI.length tN.length tO.length oI.length out w10 from ⟨HP9.out.bb.trans (hb10.mono HP9.out.bb.size), (H109.out.below hb10).2, (H129.out.below hb10).2, HP9.out.ti.below hb10, HP9.out.tn.below hb10, HP9.out.t2.below hb10, HO9.out.below hb10, Kd.S_lower hR HP9.out.bb.size⟩); have M10 := Aside0.mk H109.out.1; have M12 := Aside0.mk H129.out.1; obtain ⟨R0, s0, rfl⟩ := Kd.S_slice hR; clear hR hb10 z70 z71 z72 HP9 HO9 H79 H99 H109 H129)
    )
  go_loopw [16] (fun v16 w' => ∃ i : Nat, i ≤ tN.length ∧ v16 = .int .i64 i ∧ Aside0 (ST W1.heap.size W1 g10 g12 (.slice E0 tI.length f0) (.slice E1 tN.length f1) (.slice E2 tO.length f2) (.slice E3 oI.length f3) (.slice E4 oN.length f4) (.slice E5 oO.length f5) (.slice R0 out.length s0) tI.length tN.length tO.length oI.length out w')) (fun v _ => tN.length - (intOf v).toNat)
  case atStart => exact ⟨0, by omega, rfl, HST⟩
  case round =>
    obtain ⟨i, hi, rfl, HST⟩ := hrel
    obtain ⟨⟨z0, z1, z2⟩, _⟩ := PB.cells (M := 0) ⟨Nat.zero_le _, HST.out.b10⟩
    by_cases hlt : i < tN.length
    · have hc : decide ((i : Int) < (tN.length : Int)) = true := decide_eq_true (by omega)
      obtain ⟨b, c, cs, u, m, e, hbk, hu, hr⟩ := HST.out.tn.at2 hlt
      cases e
      obtain ⟨A, c', rfl⟩ := hr.form
      have hx := (blk_cell hbk i).trans hu
      go_wp2_with fail
      clear hx z0 z1 z2
      have HBK := Aside0.mk hbk
      have HRR := Aside0.mk hr
      clear hbk hr
      go_loopw [17] (fun v17 w' => ∃ q : Nat, q ≤ m ∧ v17 = .int .i64 q ∧ Aside0 (w'.heap[b]? = some (.cells cs 62 (0, 0))) ∧ Aside0 (RR w' W1.heap.size 64 (.slice A m c') m 2) ∧ Aside0 (ST W1.heap.size W1 g10 g12 (.slice E0 tI.length f0) (.slice (some ⟨b, 0, none⟩) tN.length f1) (.slice E2 tO.length f2) (.slice E3 oI.length f3) (.slice E4 oN.length f4) (.slice E5 oO.length f5) (.slice R0 out.length s0) tI.length tN.length tO.length oI.length out w')) (fun v _ => m - (intOf v).toNat)
      case atStart => exact ⟨0, by omega, rfl, HBK, HRR, HST⟩
      case round =>
        obtain ⟨q, hq, rfl, HBK, HRR, HST⟩ := hrel
        have hx := (blk_cell HBK.out i).trans hu
        obtain ⟨⟨z0, z1, z2⟩, _⟩ := PB.cells (M := 0) ⟨Nat.zero_le _, HST.out.b10⟩
        by_cases hql : q < m
        · have hcq : decide ((q : Int) < (m : Int)) = true := decide_eq_true (by omega)
          obtain ⟨b', c'', e, hMb, ⟨cs', hb'⟩, hbnd, hcell⟩ := HRR.out.at_ hql
          cases e
          obtain ⟨⟨y0, hy0⟩, hf0⟩ := hcell (q * 2) (by omega)
          obtain ⟨⟨y1, hy1⟩, hf1⟩ := hcell (q * 2 + 1) (by omega)
          have hne := blk_ne hb' HBK.out (by decide)
          have hu64 := Try.underlying64
          clear hcell
          go_wp2_with fail
          go_roundw
          case rel => exact ⟨q + 1, by omega, by go_num, ⟨(Below.heap_setCell _ ⟨b', q * 2 + 1, none⟩ _ b hne.symm).trans ((Below.heap_setCell _ ⟨b', q * 2, none⟩ _ b hne.symm).trans HBK.out)⟩, ⟨(HRR.out.set _ _ _).set _ _ _⟩, ⟨(HST.out.set hMb hb' (.inr rfl) _ _).set hMb (blk_set hb' _ _) (.inr rfl) _ _⟩⟩
          case measure => simp [intOf]; omega
        · have hcq : decide ((q : Int) < (m : Int)) = false := decide_eq_false (by omega)
          go_wp2_with fail
          go_roundw
          case rel => exact ⟨i + 1, by omega, by go_num, HST⟩
          case measure => simp [intOf]; omega
    · have hc : decide ((i : Int) < (tN.length : Int)) = false := decide_eq_false (by omega)
      go_wp2_with fail
      clear z0 z1 z2 hc hlt hi
      go_loopw [18] (fun v18 w' => ∃ i : Nat, i ≤ tO.length ∧ v18 = .int .i64 i ∧ Aside0 (ST W1.heap.size W1 g10 g12 (.slice E0 tI.length f0) (.slice E1 tN.length f1) (.slice E2 tO.length f2) (.slice E3 oI.length f3) (.slice E4 oN.length f4) (.slice E5 oO.length f5) (.slice R0 out.length s0) tI.length tN.length tO.length oI.length out w')) (fun v _ => tO.length - (intOf v).toNat)
      case atStart => exact ⟨0, by omega, rfl, HST⟩
      case round =>
        obtain ⟨i, hi, rfl, HST⟩ := hrel
        obtain ⟨⟨z0, z1, z2⟩, _⟩ := PB.cells (M := 0) ⟨Nat.zero_le _, HST.out.b10⟩
        by_cases hlt : i < tO.length
        · have hc : decide ((i : Int) < (tO.length : Int)) = true := decide_eq_true (by omega)
          obtain ⟨b', c'', e, hMb, ⟨cs', hb'⟩, hbnd, hcell⟩ := HST.out.t2.at_ hlt
          cases e
          obtain ⟨⟨y0, hy0⟩, hf0⟩ := hcell i (by omega)
          clear hcell
          go_wp2_with fail
          go_roundw
          case rel => exact ⟨i + 1, by omega, by go_num, ⟨HST.out.set hMb hb' (.inl rfl) _ _⟩⟩
          case measure => simp [intOf]; omega
        · have hc : decide ((i : Int) < (tO.length : Int)) = false := decide_eq_false (by omega)
          go_wp2_with fail
          clear z0 z1 z2 hc hlt hi
          go_loopw [19] (fun v19 w' => ∃ i : Nat, i ≤ tI.length ∧ v19 = .int .i64 i ∧ Aside0 (ST W1.heap.size W1 g10 g12 (.slice E0 tI.length f0) (.slice E1 tN.length f1) (.slice E2 tO.length f2) (.slice E3 oI.length f3) (.slice E4 oN.length f4) (.slice E5 oO.length f5) (.slice R0 out.length s0) tI.length tN.length tO.length oI.length out w')) (fun v _ => tI.length - (intOf v).toNat)
          case atStart => exact ⟨0, by omega, rfl, HST⟩
          case round =>
            obtain ⟨i, hi, rfl, HST⟩ := hrel
            obtain ⟨⟨z0, z1, z2⟩, _⟩ := PB.cells (M := 0) ⟨Nat.zero_le _, HST.out.b10⟩
            by_cases hlt : i < tI.length
            · have hc : decide ((i : Int) < (tI.length : Int)) = true := decide_eq_true (by omega)
              obtain ⟨b', c'', e, hMb, ⟨cs', hb'⟩, hbnd, hcell⟩ := HST.out.ti.at_ hlt
              cases e
              obtain ⟨⟨y0, hy0⟩, hf0⟩ := hcell i (by omega)
              clear hcell
              go_wp2_with fail
              go_roundw
              case rel => exact ⟨i + 1, by omega, by go_num, ⟨HST.out.set hMb hb' (.inl rfl) _ _⟩⟩
              case measure => simp [intOf]; omega
            · have hc : decide ((i : Int) < (tI.length : Int)) = false := decide_eq_false (by omega)
              go_wp2_with fail
              clear z0 z1 z2 hc hlt hi
              have HSO := Aside0.mk (show SO W1.heap.size W1 g12 (.slice E3 oI.length f3) (.slice E4 oN.length f4) (.slice E5 oO.length f5) (.slice R0 out.length s0) oI.length out _ from ⟨HST.out.bb, HST.out.b12, HST.out.oi, OU.of_S HST.out.ou⟩)
              clear HST
              go_loopw [20] (fun v20 w' => ∃ (i : Nat) (X : List (List Int)), i ≤ out.length ∧ v20 = .int .i64 i ∧ Aside0 (X.map List.length = out.map List.length) ∧ Aside0 (SO W1.heap.size W1 g12 (.slice E3 oI.length f3) (.slice E4 oN.length f4) (.slice E5 oO.length f5) (.slice R0 out.length s0) oI.length X w')) (fun v _ => out.length - (intOf v).toNat)
              case atStart => exact ⟨0, out, by omega, rfl, ⟨rfl⟩, HSO⟩
              case round =>
                obtain ⟨i, X, hi, rfl, HX, HSO⟩ := hrel
                have hXl : X.length = out.length := by simpa using congrArg List.length HX.out
                by_cases hlt : i < out.length
                · have hc : decide ((i : Int) < (out.length : Int)) = true := decide_eq_true (by omega)
                  have hbx : ∀ x ∈ X, x.length + 3 < 140737488355328 := fun x hx => by
                    have : x.length ∈ out.map List.length := HX.out ▸ List.mem_map_of_mem hx
                    obtain ⟨y, hy, e⟩ := List.mem_map.1 this
                    have := KR.out y hy
                    omega
                  have HBX := Aside0.mk hbx
                  obtain ⟨A, c', e, hcap, HC⟩ := HSO.out.ou.reads (by omega) (fun x hx => by have := hbx x hx; omega)
                  rw [← hXl] at e
                  injection e with e1 e2 e3
                  subst e1
                  subst e3
                  have hxi : X[i]? = some (X[i]'(by omega)) := List.getElem?_eq_getElem (by omega)
                  have hmem : X[i]'(by omega) ∈ X := List.getElem_mem _
                  obtain ⟨x, hx⟩ : ∃ x, X[i]'(by omega) = x := ⟨_, rfl⟩
                  rw [hx] at hxi hmem
                  have HXI := Aside0.mk hxi
                  have HMX := Aside0.mk (hbx x hmem)
                  have HRD := Aside0.mk HC
                  have hcall := recoupref21_CopyBlocks.calls k R0 s0 X X wr HC hcap (KX.out X HX.out)
                  rw [hXl] at hcall
                  have HCALL := Aside0.mk hcall
                  clear hcall HC hbx hx hxi hmem e2
                  obtain ⟨ob, oc, u, e, hu0, hU0⟩ := HSO.out.ou.at_ HXI.out
                  rw [← hXl] at e
                  injection e with e1 e2 e3
                  subst e1
                  subst e3
                  have HU0 := Aside0.mk hU0
                  have HC0 := Aside0.mk hu0
                  clear hU0 hu0 e2
                  go_wp2_with (first
                    | (go_at_call 31; refine HCALL.out.mono ?_; rintro e w2 ⟨v21, rfl, hS, hb⟩; have HS2 := Aside0.mk hS; have HSO2 := Aside0.mk (HSO.out.below HSO.out.size hb); have hu := pw_cell_below hb HC0.out; have HU := Aside0.mk (HU0.out.move (fun k hk => hb.block k (HU0.out.lt k hk).1)); obtain ⟨Ak, ck, rfl⟩ := Kd.S_slice hS; clear hS hb)
                    | (go_at_call 33; refine (spoil_any rfl HSO2.out HXI.out (by rw [hXl]) hu HU.out HMX.out _ wr.heap.size (fun b hb => (HU0.out.lt b hb).1)).mono ?_; rintro e w3 ⟨rfl, x', hl, hSO3, hsz, hkeep⟩; have HL := Aside0.mk hl; have HSO3 := Aside0.mk hSO3; have HS3 := Aside0.mk (Kd.S_step (Kd.S_bound HS2.out) (fun k ho hlt => hkeep k ho.2.1 hlt)); clear hl hSO3 hsz hkeep hu HS2 HSO2 HU))
                  go_loopw [22] (fun v22 w' => ∃ q : Nat, i < q ∧ v22 = .int .i64 q ∧ ∃ m, w' = w3.drewN m) (fun v _ => out.length - (intOf v).toNat)
                  case atStart => exact ⟨i + 1, by omega, by first | rfl | go_num, 0, rfl⟩
                  case round =>
                    obtain ⟨q, hq, rfl, m, rfl⟩ := hrel
                    by_cases hql : q < out.length
                    · have hcq : decide ((q : Int) < (out.length : Int)) = true := decide_eq_true (by omega)
                      obtain ⟨A, c, e, _, HC⟩ := HSO3.out.ou.reads (by rw [List.length_set]; omega) (fun x hx => by
                        have h9 : x.length ∈ out.map List.length := (map_set HXI.out HL.out).trans HX.out ▸ List.mem_map_of_mem hx
                        obtain ⟨y, hy, e⟩ := List.mem_map.1 h9
                        have := KR.out y hy
                        omega)
                      rw [List.length_set, hXl] at e
                      injection e with e1 e2 e3
                      subst e1
                      subst e3
                      clear e2
                      obtain ⟨ad1, A1', c1', e1, hx1, hl1, hi1⟩ := at_L9 HC (q : Int) (by omega) (by rw [List.length_set]; omega)
                      cases e1
                      rw [add_at, Nat.zero_add, Int.toNat_natCast] at hx1
                      obtain ⟨_, hck, HCK⟩ := Kd.S_reads' HS3.out
                      obtain ⟨ad2, A2', c2', e2, hx2, hl2, hi2⟩ := at_L9 HCK (q : Int) (by omega) (by omega)
                      cases e2
                      obtain ⟨gk, rfl⟩ := Kd.R_head (Kd.S_R HS3.out)
                      rw [add_at, Nat.zero_add, Int.toNat_natCast] at hx2
                      have hsame : recoupref01_Same.f (rd_L9 (X.set i x') (q : Int)) (rd_L9 X (q : Int)) = some true := by
                        rw [rd_set (by omega)]
                        simp [recoupref01_Same.f]
                      have hqX : (q : Int) < (X.length : Int) := by omega
                      have HSM := Aside0.mk hsame
                      have HI1 := Aside0.mk hi1
                      have HI2 := Aside0.mk hi2
                      have HL1 := Aside0.mk hl1
                      have HL2 := Aside0.mk hl2
                      clear HC HCK hck hi1 hi2 hsame hl1 hl2
                      generalize rd_L9 (X.set i x') (q : Int) = y1 at hx1 HI1 HL1 HSM
                      generalize rd_L9 X (q : Int) = y2 at hx2 HI2 HL2 HSM
                      have SIDE := Aside0.mk hXl
                      go_wp2_with (first | (go_at_call 34; (with_reducible refine (recoupref01_Same.calls _ _ y1 _ _ y2 true _ ?side1 ?side2 ?side3 ?side4 HSM.out).mono ?_); (case side1 => repeat (first | exact HI1.out | (with_reducible refine Kd.C_alloc ?_ _) | (with_reducible refine Kd.C_drewN ?_ _) | (with_reducible refine Kd.C_drew ?_))); (case side2 => exact HL1.out); (case side3 => repeat (first | exact HI2.out | (with_reducible refine Kd.C_alloc ?_ _) | (with_reducible refine Kd.C_drewN ?_ _) | (with_reducible refine Kd.C_drew ?_))); (case side4 => exact HL2.out); rintro e w' ⟨rfl, ⟨nd, rfl⟩⟩; (try first | exact ⟨rfl, _, World.drewN_drewN _ _ _⟩ | exact ⟨rfl, _, Eq.trans (World.drewN_drewN _ _ _) (congrArg (World.drewN _) (Nat.add_assoc _ _ _))⟩)))
                      repeat (go_quiet (first | (go_at_call 34; (with_reducible refine (recoupref01_Same.calls _ _ y1 _ _ y2 true _ ?side1 ?side2 ?side3 ?side4 HSM.out).mono ?_); (case side1 => repeat (first | exact HI1.out | (with_reducible refine Kd.C_alloc ?_ _) | (with_reducible refine Kd.C_drewN ?_ _) | (with_reducible refine Kd.C_drew ?_))); (case side2 => exact HL1.out); (case side3 => repeat (first | exact HI2.out | (with_reducible refine Kd.C_alloc ?_ _) | (with_reducible refine Kd.C_drewN ?_ _) | (with_reducible refine Kd.C_drew ?_))); (case side4 => exact HL2.out); rintro e w' ⟨rfl, ⟨nd, rfl⟩⟩; (try first | exact ⟨rfl, _, World.drewN_drewN _ _ _⟩ | exact ⟨rfl, _, Eq.trans (World.drewN_drewN _ _ _) (congrArg (World.drewN _) (Nat.add_assoc _ _ _))⟩))); try go_wp2)
                      go_roundw
                      case rel => exact ⟨q + 1, by omega, by first | go_num | (congr 1; omega) | rfl, _, rfl⟩
                      case measure => simp [intOf]; omega
                    · have hcq : decide ((q : Int) < (out.length : Int)) = false := decide_eq_false (by omega)
                      go_wp2_with fail
                      go_roundw
                      case rel => exact ⟨i + 1, _, by omega, by first | go_num | (congr 1; omega) | rfl, ⟨(map_set HXI.out HL.out).trans HX.out⟩, ⟨HSO3.out.drewN _⟩⟩
                      case measure => simp [intOf]; omega
                · have hc : decide ((i : Int) < (out.length : Int)) = false := decide_eq_false (by omega)
                  go_wp2_with fail
                  have HBE := Aside0.mk HSO.out.bb
                  have H12 := Aside0.mk HSO.out.b12
                  have HOI := Aside0.mk HSO.out.oi
                  clear hc hlt hi hXl HSO HX
                  go_loopw [23] (fun v23 w' => ∃ i : Nat, i ≤ oI.length ∧ v23 = .int .i64 i ∧ Aside0 (Below W1.heap.size W1 w') ∧ Aside0 (w'.heap[g12]? = some (.cells #[.slice E3 oI.length f3, .slice E4 oN.length f4, .slice E5 oO.length f5] 25 (0, 0))) ∧ Aside0 (RR w' W1.heap.size 3 (.slice E3 oI.length f3) oI.length 1)) (fun v _ => oI.length - (intOf v).toNat)
                  case atStart => exact ⟨0, by omega, rfl, HBE, H12, HOI⟩
                  case round =>
                    obtain ⟨i, hi, rfl, HBE, H12, HOI⟩ := hrel
                    obtain ⟨⟨z0, z1, z2⟩, _⟩ := PB.cells (M := 0) ⟨Nat.zero_le _, H12.out⟩
                    by_cases hlt : i < oI.length
                    · have hc : decide ((i : Int) < (oI.length : Int)) = true := decide_eq_true (by omega)
                      obtain ⟨b', c'', e, hMb, ⟨cs', hb'⟩, hbnd, hcell⟩ := HOI.out.at_ hlt
                      cases e
                      obtain ⟨⟨y0, hy0⟩, hf0⟩ := hcell i (by omega)
                      clear hcell
                      go_wp2_with fail
                      go_roundw
                      case rel => exact ⟨i + 1, by omega, by go_num, ⟨HBE.out.setCell hMb _⟩, ⟨(Below.heap_setCell _ ⟨b', i, none⟩ _ g12 (blk_ne H12.out hb' (by decide))).trans H12.out⟩, ⟨HOI.out.set _ _ _⟩⟩
                      case measure => simp [intOf]; omega
                    · have hc : decide ((i : Int) < (oI.length : Int)) = false := decide_eq_false (by omega)
                      obtain ⟨⟨z70, z71, z72⟩, _⟩ := (Q7.out.below HBE.out).cells
                      go_wp2_with (first
                        | (go_at_call 20; refine (flow_Run_S k B0 d0 I B1 d1 NN B2 d2 O (fun _ => True) Bl dl bl out ee wr (Kd.C_below Q0.out HBE.out) hd0 (Kd.C_below Q1.out HBE.out) hd1 (Kd.C_below Q2.out HBE.out) hd2 (Kd.S_V (Kd.S_below QL.out HBE.out)) HF20.out).mono ?_; rintro e w11 ⟨va, rfl, hR, hb11⟩; have HB11 := Aside0.mk (HBE.out.trans (hb11.mono HBE.out.size)); have HW11 := Aside0.mk (QB.out.trans (HB11.out.mono QB.out.size)); have HSA := Aside0.mk hR; obtain ⟨Aa, ca, rfl⟩ := Kd.S_slice hR; obtain ⟨⟨z30, z31, z32⟩, _⟩ := (Q3.out.below HB11.out).cells; clear hR hb11 z70 z71 z72 z0 z1 z2)
                        | (go_at_call 21; refine (recoupref21_Run.calls k A0 c0 I A1 c1 NN A2 c2 O Ab cb bl rb ee w11 (Kd.C_below K0.out.1 HW11.out) K1.out.1 (Kd.C_below K0.out.2.1 HW11.out) K1.out.2.1 (Kd.C_below K0.out.2.2.1 HW11.out) K1.out.2.2.1 (Kd.C_below K0.out.2.2.2.1 HW11.out) K1.out.2.2.2.1 HF21.out).mono ?_; rintro e w12 ⟨vb, rfl, hR, hb12⟩; have HB12 := Aside0.mk (HB11.out.trans (hb12.mono HB11.out.size)); have HW12 := Aside0.mk (HW11.out.trans (hb12.mono HW11.out.size)); have HSA2 := Aside0.mk (Kd.S_below HSA.out hb12); have HSB := Aside0.mk hR; obtain ⟨Ab2, cb2, rfl⟩ := Kd.S_slice hR; clear hR hb12 z30 z31 z32 HSA)
                        )
                      refine (recouplaw21_anchored.calls k true w12 HFA.out).mono ?_
                      rintro e w13 ⟨rfl, hb13⟩
                      have HB13 := Aside0.mk (HB12.out.trans (hb13.mono HB12.out.size))
                      have HW13 := Aside0.mk (HW12.out.trans (hb13.mono HW12.out.size))
                      have HSA3 := Aside0.mk (Kd.S_below HSA2.out hb13)
                      have HSB3 := Aside0.mk (Kd.S_below HSB.out hb13)
                      obtain ⟨⟨z70, z71, z72⟩, _⟩ := (Q7.out.below HB13.out).cells
                      obtain ⟨⟨z30, z31, z32⟩, _⟩ := (Q3.out.below HB13.out).cells
                      clear hb13 HSA2 HSB
                      go_wp2_with (go_at_call 14; refine (recoupref21_Same.calls k B0 d0 I B1 d1 NN B2 d2 O A0 c0 I A1 c1 NN A2 c2 O true w13 (Kd.C_below Q0.out HB13.out) hd0 (Kd.C_below Q1.out HB13.out) hd1 (Kd.C_below Q2.out HB13.out) hd2 (Kd.C_below K0.out.1 HW13.out) K1.out.1 (Kd.C_below K0.out.2.1 HW13.out) K1.out.2.1 (Kd.C_below K0.out.2.2.1 HW13.out) K1.out.2.2.1 HFS.out).mono ?_; rintro e w14 ⟨rfl, hb14⟩; have HB14 := Aside0.mk (HB13.out.trans (hb14.mono HB13.out.size)); have HW14 := Aside0.mk (HW13.out.trans (hb14.mono HW13.out.size)); have HSA4 := Aside0.mk (Kd.S_below HSA3.out hb14); have HSB4 := Aside0.mk (Kd.S_below HSB3.out hb14); clear hb14 HSA3 HSB3 z70 z71 z72 z30 z31 z32)
                      go_wp2_with (go_at_call 22; refine (recoupref21_Blocks.calls k Bl dl bl Ab cb bl true w14 (Kd.S_reads' (Kd.S_below QL.out HB14.out)).2.2 hdl (Kd.C_below K0.out.2.2.2.1 HW14.out) K1.out.2.2.2.1 HFB.out).mono ?_; rintro e w15 ⟨rfl, ⟨nd, hnd⟩⟩; have hb15 : Below w14.heap.size w14 w15 := (by rw [hnd]; exact pw_below_drewN (Below.refl _ _) nd); have HB15 := Aside0.mk (HB14.out.trans (hb15.mono HB14.out.size)); have HW15 := Aside0.mk (HW14.out.trans (hb15.mono HW14.out.size)); have HSA5 := Aside0.mk (Kd.S_below HSA4.out hb15); have HSB5 := Aside0.mk (Kd.S_below HSB4.out hb15); obtain ⟨⟨z90, z91, z92⟩, _⟩ := (Q9.out.below HB15.out).cells; obtain ⟨⟨z50, z51, z52⟩, _⟩ := (Q5.out.below HB15.out).cells; clear hb15 hnd HSA4 HSB4)
                      go_wp2_with (go_at_call 27; refine (recoupref03_Like.calls mr mc Bm dm md mr mc Am cm md true w15 (Kd.C_below QM.out HB15.out) hdm (Kd.C_below K0.out.2.2.2.2 HW15.out) K1.out.2.2.2.2 HFL.out).mono ?_; rintro e w16 ⟨rfl, hb16⟩; have HW16 := Aside0.mk (HW15.out.trans (hb16.mono HW15.out.size)); have HSA6 := Aside0.mk (Kd.S_below HSA5.out hb16); have HSB6 := Aside0.mk (Kd.S_below HSB5.out hb16); clear hb16 HSA5 HSB5 z90 z91 z92 z50 z51 z52)
                      go_wp2_with (go_at_call 22; refine (recoupref21_Blocks.calls k Aa ca out Ab2 cb2 rb true w16 (Kd.S_reads' HSA6.out).2.2 (Kd.S_reads' HSA6.out).2.1 (Kd.S_reads' HSB6.out).2.2 (Kd.S_reads' HSB6.out).2.1 HFB2.out).mono ?_; rintro e w17 ⟨rfl, ⟨nd, hnd⟩⟩; have HW17 := Aside0.mk (HW16.out.trans (((by rw [hnd]; exact pw_below_drewN (Below.refl _ _) nd) : Below w16.heap.size w16 w17).mono HW16.out.size)); clear hnd)
                      go_ret
                      exact ⟨rfl, HW17.out⟩
end Go.Proofs.Ytfnhnniecclleaa.Fresh
