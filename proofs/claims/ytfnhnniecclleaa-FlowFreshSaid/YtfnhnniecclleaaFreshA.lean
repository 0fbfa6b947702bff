/- What a Spoil leaves: the row that it was handed has as many bytes as before, and all else stays. Conditions: none. -/
import Derived.Test.YtfnhnniecclleaaPAx25
import Derived.Deep.AppendLies
namespace Go.Proofs.Ytfnhnniecclleaa.Fresh
open Go.RowKit Go.Proofs.YtfnhnniecclleaaW.PrintWords Go.Proofs.YtfnhnniecclleaaW.PrintLast Go.Proofs.YtfnhnniecclleaaW.PrintMore
/-- A row of at least n bytes in the block b. -/
def RB (W : World) (b n cap : Nat) : Prop :=
  ∃ cs : Array Value, W.heap[b]? = some (.cells cs 5 (0, 0)) ∧ cs.size = cap ∧ n ≤ cap ∧ ∀ j, j < n → ∃ x : Int, cs[j]? = some (.int .u8 x)
theorem RB.cell {W : World} {b n cap : Nat} (h : RB W b n cap) (j : Nat) (hj : j < n) : ∃ x : Int, W.cell? ⟨b, j, none⟩ = some (.int .u8 x) := by
  obtain ⟨cs, h1, _, _, h4⟩ := h
  obtain ⟨x, hx⟩ := h4 j hj
  exact ⟨x, (blk_cell h1 j).trans hx⟩
theorem RB.fz {W : World} {b n cap : Nat} (h : RB W b n cap) (j : Nat) : W.frozen? ⟨b, j, none⟩ = false := by
  obtain ⟨cs, h1, _⟩ := h
  exact blk_frozen h1 j
theorem RB.lt {W : World} {b n cap : Nat} (h : RB W b n cap) : b < W.heap.size := by
  obtain ⟨cs, h1, _⟩ := h
  exact blk_lt h1
theorem RB.set {W : World} {b n cap : Nat} (h : RB W b n cap) (c j : Nat) (x : Int) : RB (W.setCell ⟨c, j, none⟩ (.int .u8 x)) b n cap := by
  obtain ⟨cs, hb, hs, hn, hc⟩ := h
  by_cases hcb : b = c
  · subst hcb
    refine ⟨_, blk_set hb j _, by simpa using hs, hn, fun i hi => ?_⟩
    by_cases hij : j = i
    · subst hij
      exact ⟨x, by rw [Array.getElem?_setIfInBounds]; simp; omega⟩
    · obtain ⟨y, hy⟩ := hc i hi
      exact ⟨y, by rw [Array.getElem?_setIfInBounds]; simp [hij, hy]⟩
  · exact ⟨cs, (Below.heap_setCell W ⟨c, j, none⟩ _ b hcb).trans hb, hs, hn, hc⟩
theorem RB.move {W V : World} {b n cap : Nat} (h : RB W b n cap) (hm : V.heap[b]? = W.heap[b]?) : RB V b n cap := by
  obtain ⟨cs, hb, r⟩ := h
  exact ⟨cs, hm.trans hb, r⟩
theorem RB.below {W V : World} {b n cap : Nat} (h : RB W b n cap) (hb : Below W.heap.size W V) : RB V b n cap := h.move (hb.block b h.lt)
theorem info5 : (Try.prog.info? 5).map (fun i => (i.zero, i.size, i.bytes)) = some (some (Value.int .u8 0), 1, 1) := by kernel_rfl
theorem wp_append_is (w : World) {ops : Array Oper} {rest : List Oper} {o : Oper} {a : Act} {Q : Exit → Act → World → Prop} (hgd : o.guard = none) (d s : Operand) (t t' : TypeId)
    (ho : o.op = .call { callee := .builtin .append, args := #[d, s], argTypes := #[t, t'] }) (v u : Value) (hd : a.eval d = v) (hs : a.eval s = u) {v' : Value} {w' : World}
    (hr : (Builtin.append_ #[t, t'] o.type #[v, u]).run Try.prog w = .ok v' w') (h : wpList Try.prog ops Q rest (a.put o.dst v') w') : wpList Try.prog ops Q (o :: rest) a w :=
  wpList_plain hgd fun _ hK => by
    unfold Oper.wp execOp
    simp only [ho, resolve, invoke, builtin, Sem.run_bind, Sem.run_pure, Result.andThen_ok, List.map_toArray, List.map_cons, List.map_nil, hd, hs, hr]
    exact hK _ _ h
theorem app_three {w0 W : World} {b n cap g : Nat} {a1 : Int} (hr : RB W b n cap) (hg : W.heap[g]? = some (.cells #[.int .u8 a1, .int .u8 a1, .int .u8 a1] 5 (0, 0))) (hB : Below w0.heap.size w0 W) (hb : w0.heap.size ≤ b) (hn : n + 3 < 140737488355328) (ty : TypeId) :
    ∃ W' c cap', (Builtin.append_ #[45, 45] ty #[.slice (some ⟨b, 0, none⟩) n cap, .slice (some ⟨g, 0, none⟩) 3 3]).run Try.prog W = .ok (.slice (some ⟨c, 0, none⟩) (n + 3) cap') W' ∧
      RB W' c (n + 3) cap' ∧ RB W' b n cap ∧ (c = b ∨ W.heap.size ≤ c) ∧ Kept W W' (fun k => k = b) ∧ Below w0.heap.size w0 W' := by
  obtain ⟨cs, hbk, hs, hnc, hcs⟩ := hr
  obtain ⟨i, hi, hii⟩ := Option.map_eq_some_iff.1 info5
  simp only [Prod.mk.injEq] at hii
  obtain ⟨hz, hsz, hby⟩ := hii
  have hnews : ∀ j u, [Value.int .u8 a1, .int .u8 a1, .int .u8 a1][j]? = some u → W.cell? ((⟨g, 0, none⟩ : Addr).add j) = some u := fun j u hj => by
    rw [add_at, Nat.zero_add, blk_cell hg]; simpa using hj
  by_cases hroom : n + 3 ≤ cap
  · have h := run_append_room (P := Try.prog) W 45 ty 5 i Try.underlying45 hi b n cap cs hbk ⟨g, 0, none⟩ 3 3 [.int .u8 a1, .int .u8 a1, .int .u8 a1] (by rw [hsz]; rfl) hnews (by simp [Value.oneCell']) hroom (by rw [hsz]; simp; omega)
    rw [hsz, Nat.mul_one] at h
    obtain ⟨cs', hcs'⟩ : ∃ cs', (cs.toList.take n ++ [Value.int .u8 a1, .int .u8 a1, .int .u8 a1] ++ cs.toList.drop (n + [Value.int .u8 a1, .int .u8 a1, .int .u8 a1].length)).toArray = cs' := ⟨_, rfl⟩
    rw [hcs'] at h
    have hrow : (W.setRow b cs').heap[b]? = some (.cells cs' 5 (0, 0)) := setRow_heap W b cs cs' 5 (0, 0) hbk
    have hsz' : cs'.size = cap := by rw [← hcs']; simp; omega
    have hget : ∀ j, j < n + 3 → ∃ x : Int, cs'[j]? = some (.int .u8 x) := fun j hj => by
      rw [← hcs']
      by_cases hjn : j < n
      · obtain ⟨x, hx⟩ := hcs j hjn
        refine ⟨x, ?_⟩
        simp only [List.getElem?_toArray]
        rw [List.getElem?_append_left (by simp; omega), List.getElem?_append_left (by simp; omega), List.getElem?_take, if_pos hjn]
        simpa using hx
      · refine ⟨a1, ?_⟩
        simp only [List.getElem?_toArray]
        rw [List.getElem?_append_left (by simp; omega), List.getElem?_append_right (by simp; omega)]
        obtain ⟨d, hd⟩ : ∃ d, j - (cs.toList.take n).length = d := ⟨_, rfl⟩
        have hd3 : d < 3 := by rw [← hd]; simp; omega
        rw [hd]
        rcases d with _ | _ | _ | d <;> first | rfl | omega
    refine ⟨_, b, cap, h, ⟨cs', hrow, hsz', hroom, hget⟩, ⟨cs', hrow, hsz', hnc, fun j hj => hget j (by omega)⟩, .inl rfl, ⟨by simp, fun k hk hne => setRow_other W b k cs' hne⟩, ?_⟩
    refine hB.trans ⟨rfl, rfl, rfl, by simp, fun k hk => setRow_other W b k cs' (by omega)⟩
  · have holds : ∀ j u, (cs.toList.take n)[j]? = some u → W.cell? ((⟨b, 0, none⟩ : Addr).add j) = some u := fun j u hj => by
      rw [add_at, Nat.zero_add, blk_cell hbk]
      have hjn : j < n := by have := (List.getElem?_eq_some_iff.1 hj).1; simp at this; omega
      rw [List.getElem?_take, if_pos hjn] at hj
      simpa using hj
    have hfit : Builtin.nextslicecap (n + 3) cap * i.bytes ≤ 281474976710656 := by rw [hby]; exact growslice_fits (by omega) (by omega)
    have h := run_append_grow (P := Try.prog) W 45 ty 5 i (.int .u8 0) Try.underlying45 hi hz ⟨b, 0, none⟩ n cap (cs.toList.take n) (by rw [hsz]; simp; omega) holds ⟨g, 0, none⟩ 3 3 [.int .u8 a1, .int .u8 a1, .int .u8 a1] (by rw [hsz]; rfl) hnews (by omega) (by omega) hfit
    have hge := grownCap_ge W (n + 3) cap 5
    obtain ⟨cp, hcp⟩ : ∃ cp, grownCap W (n + 3) cap 5 = cp := ⟨_, rfl⟩
    rw [hcp] at h hge
    refine ⟨_, W.heap.size, cp, h, ⟨_, heap_alloc_new W.drew _, ?_, hge, fun j hj => ?_⟩, ⟨cs, (heap_alloc_old W.drew _ (blk_lt hbk)).trans hbk, hs, hnc, hcs⟩, .inr (Nat.le_refl _), ⟨by simp, fun k hk _ => heap_alloc_old W.drew _ hk⟩, ?_⟩
    · simp only [Array.size_append, List.size_toArray, size_zeroCells, List.length_take, Array.length_toList, List.length_cons, List.length_nil]; simp [Value.cells]; omega
    · by_cases hjn : j < n
      · obtain ⟨x, hx⟩ := hcs j hjn
        refine ⟨x, ?_⟩
        rw [Array.getElem?_append_left (by simp; omega), Array.getElem?_append_left (by simp; omega)]
        simp only [List.getElem?_toArray]
        rw [List.getElem?_take, if_pos hjn]
        simpa using hx
      · refine ⟨a1, ?_⟩
        rw [Array.getElem?_append_left (by simp; omega), Array.getElem?_append_right (by simp; omega)]
        obtain ⟨d, hd⟩ : ∃ d, j - (cs.toList.take n).toArray.size = d := ⟨_, rfl⟩
        have hd3 : d < 3 := by rw [← hd]; simp; omega
        rw [hd]
        rcases d with _ | _ | _ | d <;> first | rfl | omega
    · exact (hB.drew).alloc (by have := hB.size; simpa using this) _
set_option maxHeartbeats 2000000 in
set_option maxRecDepth 100000 in
theorem spoil_calls (b n cap : Nat) (a1 : Int) (w0 w : World) (hB : Below w0.heap.size w0 w) (hb : w0.heap.size ≤ b) (hr : RB w b n cap) (hn : n + 3 < 140737488355328) :
    Calls Try.prog 33 #[.slice (some ⟨b, 0, none⟩) n cap, .int .u8 a1] w fun e w' => e = .returned (.tuple #[]) ∧ RB w' b n cap ∧ Below w0.heap.size w0 w' ∧ Kept w w' (fun k => k = b) := by
  have HR := Aside0.mk hr
  have HB := Aside0.mk hB
  have HK := Aside0.mk (Kept.refl w (fun k => k = b))
  have hB0 := hB
  clear hr hB
  go_enter Try.func33, Try.ntmps33
  go_wp2
  go_loopw [4] (fun v4 w' => ∃ i : Nat, i ≤ n ∧ v4 = .int .i64 i ∧ Aside0 (RB w' b n cap) ∧ Aside0 (Below w0.heap.size w0 w') ∧ Aside0 (Kept w w' (fun k => k = b))) (fun v _ => n - (intOf v).toNat)
  case atStart => exact ⟨0, by omega, rfl, HR, HB, HK⟩
  case round =>
    obtain ⟨i, hi, rfl, HR, HB, HK⟩ := hrel
    by_cases hlt : i < n
    · obtain ⟨x, hx⟩ := HR.out.cell i hlt
      have hf := HR.out.fz i
      have hc : decide ((i : Int) < (n : Int)) = true := decide_eq_true (by omega)
      go_wp2_with fail
      go_roundw
      case rel => exact ⟨i + 1, by omega, by go_num, ⟨(HR.out.set b i _)⟩, ⟨below_set HB.out hb⟩, ⟨HK.out.setCell (.inl rfl) _⟩⟩
      case measure => simp [intOf]; omega
    · have hc : decide ((i : Int) < (n : Int)) = false := decide_eq_false (by omega)
      obtain ⟨W', c, cap', happ, hrc, hrb, hcb, hkw, hbw⟩ := app_three (w0 := w0) (g := wr.heap.size) (HR.out.move (heap_alloc_old wr (.cells #[.int .u8 a1, .int .u8 a1, .int .u8 a1] 5 (0, 0)) HR.out.lt)) (heap_alloc_new wr _) (HB.out.alloc HB.out.size _) hb hn 45
      have hkc := (Kept.alloc HK.out (.cells #[.int .u8 a1, .int .u8 a1, .int .u8 a1] 5 (0, 0))).then_ hkw (fun k hk => .inl hk)
      have hcw : c = b ∨ w.heap.size ≤ c := hcb.imp id (fun h => Nat.le_trans HK.out.1 (Nat.le_trans (by simp) h))
      have hcb0 : w0.heap.size ≤ c := by
        have := hB0.size
        rcases hcw with h | h <;> omega
      have HRC := Aside0.mk hrc
      have HRB := Aside0.mk hrb
      have HKC := Aside0.mk hkc
      have HBW := Aside0.mk hbw
      clear hrc hrb hkc hbw hkw hcb
      go_wp2_with ((with_reducible refine gate_dst (N := 24) rfl ?_); refine wp_append_is _ rfl (.tmp 19) (.tmp 23) 45 45 rfl _ _ rfl rfl happ ?_)
      clear happ hc hlt hi
      go_loopw [5] (fun v5 w' => ∃ i : Nat, i ≤ n + 3 ∧ v5 = .int .i64 i ∧ Aside0 (RB w' c (n + 3) cap') ∧ Aside0 (RB w' b n cap) ∧ Aside0 (Below w0.heap.size w0 w') ∧ Aside0 (Kept w w' (fun k => k = b))) (fun v _ => n + 3 - (intOf v).toNat)
      case atStart => exact ⟨0, by omega, rfl, HRC, HRB, HBW, HKC⟩
      case round =>
        obtain ⟨i, hi, rfl, HRC, HRB, HBW, HKC⟩ := hrel
        by_cases hlt : i < n + 3
        · obtain ⟨x, hx⟩ := HRC.out.cell i hlt
          have hf := HRC.out.fz i
          have hc : decide ((i : Int) < ((n + 3 : Nat) : Int)) = true := decide_eq_true (by omega)
          go_wp2_with fail
          go_roundw
          case rel => exact ⟨i + 1, by omega, by go_num, ⟨HRC.out.set c i _⟩, ⟨HRB.out.set c i _⟩, ⟨below_set HBW.out hcb0⟩, ⟨HKC.out.setCell (p := ⟨c, i, none⟩) hcw _⟩⟩
          case measure => simp [intOf]; omega
        · have hc : decide ((i : Int) < ((n + 3 : Nat) : Int)) = false := decide_eq_false (by omega)
          go_wp2_with fail
          exact bodyPost_end (results_none rfl _ _ _) rfl ⟨rfl, HRB.out, HBW.out, HKC.out⟩
set_option maxHeartbeats 2000000 in
set_option maxRecDepth 100000 in
/-- An empty row: nothing is written that was there. -/
theorem spoil_nil (a1 : Int) (w : World) : Calls Try.prog 33 #[.slice none 0 0, .int .u8 a1] w fun e w' => e = .returned (.tuple #[]) ∧ Below w.heap.size w w' := by
  have h : PA.recoupref01_Spoil.f 6 [] a1 = some () := by simp [PA.recoupref01_Spoil.f, PA.recoupref01_Spoil.l0, PA.recoupref01_Spoil.l1, wrap64]
  exact (PA.recoupref01_Spoil.calls 6 (fun _ => True) _ [] a1 w w (Below.refl _ _) (Kd.R_nil _ _ _ _ _) h).mono fun e w' ⟨h1, h2, _⟩ => ⟨h1, h2⟩
end Go.Proofs.Ytfnhnniecclleaa.Fresh
