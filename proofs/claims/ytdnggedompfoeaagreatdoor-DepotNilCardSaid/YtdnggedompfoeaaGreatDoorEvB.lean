/- Each operation of the evaluator does what the model's does, in every world that its memory stands for. -/
import Derived.Test.YtdnggedompfoeaaGreatDoorEvA
import Derived.IntWalk
import Derived.Laws.IdiomStrings
import Derived.Laws.BytesArg
import Derived.Deep.AppendSrc
import Derived.Lib.AppendZerosOnto
import Derived.RangeFuncCalls
set_option linter.unusedVariables false
set_option linter.unusedSimpArgs false
namespace Go.AE
variable {K : Kon} {X : Cx}

theorem picks_places {q : List (Nat × Nat)} : ∀ {l : List (Nat × Operand)} {r : List (Nat × Nat)}, picks q l = some r → l.map (fun p => q.toArray[p.1]?) = r.map some
  | [], _, h => by simp [picks] at h; subst h; rfl
  | (i, x) :: l, r, h => by
    unfold picks at h
    split at h
    · rename_i y ys h1 h2; cases h
      simpa [h1] using picks_places h2
    · cases h

theorem zero_list {P : Program} {g : G} {t : TypeId} {z : List V} (h : zeroT P t = some z) : ∃ i x v, P.info? t = some i ∧ i.zero = some x ∧ VR g v x ∧ cellsV v = z ∧ z.length = i.size := by
  unfold zeroT at h
  split at h
  · rename_i i hi
    split at h
    · rename_i x hx
      split at h
      · rename_i v hv
        cases hb : Nat.beq (len' (cellsV v)) i.size with
        | false => rw [hb] at h; cases h
        | true =>
          rw [hb] at h; cases h
          exact ⟨i, x, v, hi, hx, VR.ofV hv, rfl, by rw [← len'_eq]; exact Nat.eq_of_beq_eq_true hb⟩
      · cases h
    · cases h
  · cases h

theorem parts_map {M gn : Nat} (ps : Array (Nat × Operand)) : (ps.toList.map fun p => opdOf M gn p.2) = (ps.toList.map (·.2)).map (opdOf M gn) := by simp

theorem ov_build_struct {o : Oper} {t : TypeId} {ps : Array (Nat × Operand)} {fs : Array Field} {z : List V} {q : List (Nat × Nat)} (hX : Ok K X) (ho : o.op = .build t ps) (hu : X.P.underlying t = some (.struct fs)) (hz : zeroT X.P t = some z)
    (hq : placesS X.P fs ps.toList = some q) : OpP K X o (iBld z q (ps.toList.map fun p => opdOf X.M X.g p.2)) := fun cal fr s k h => by
  unfold iBld at h ⊢
  rw [parts_map] at h ⊢
  obtain ⟨vs, h1, h2⟩ := opds_spec h
  rw [h1] at h ⊢
  obtain ⟨l, h3, h4⟩ := may_ne h
  refine ⟨.agg l, h4, fun g a w hS => ?_⟩
  rw [hX.P] at hu hz hq
  unfold placesS at hq
  split at hq
  · rename_i r hr
    obtain ⟨it, x, v, z1, z2, z3, z4, _⟩ := zero_list (g := g) hz
    have hv := h2 K _ g a w hX.g.symm hS
    have e1 : ((ps.map fun (i, x) => (i, a.eval x)).toList.map (·.2)) = (ps.toList.map (·.2)).map a.eval := by simp
    obtain ⟨cells, f1, f2⟩ := fillV_spec (place := fun x => r.toArray[x]?) (parts := (ps.map fun (i, x) => (i, a.eval x)).toList) h3 (by
      have := picks_places hq
      simpa [List.map_map, Function.comp_def] using this) (e1 ▸ hv) (z4 ▸ z3.cells_all)
    have hb : K.P.built t (ps.map fun (i, x) => (i, a.eval x)).toList = some cells := by
      unfold Program.built places at *
      simp only [z1, hu, z2, hr]
      exact f1
    refine ⟨.agg cells, ?_, ⟨cells.toList, by simp, f2⟩⟩
    unfold execOp; rw [ho]
    exact map_val (run_build w t _ cells hb)
  · cases hq

theorem places_arr {i : TypeInfo} (ps : List (Nat × Operand)) : ps.map (fun p => (fun i' => some (i' * i.size, i.size)) p.1) = (placesA i.size ps).map some := by
  simp [placesA]

theorem ov_build_array {o : Oper} {t el : TypeId} {ps : Array (Nat × Operand)} {len n : Nat} {z : List V} (hX : Ok K X) (ho : o.op = .build t ps) (hu : X.P.underlying t = some (.array len el)) (hz : zeroT X.P t = some z)
    (hn : sizeT X.P el = some n) : OpP K X o (iBld z (placesA n ps.toList) (ps.toList.map fun p => opdOf X.M X.g p.2)) := fun cal fr s k h => by
  unfold iBld at h ⊢
  rw [parts_map] at h ⊢
  obtain ⟨vs, h1, h2⟩ := opds_spec h
  rw [h1] at h ⊢
  obtain ⟨l, h3, h4⟩ := may_ne h
  refine ⟨.agg l, h4, fun g a w hS => ?_⟩
  rw [hX.P] at hu hz hn
  obtain ⟨ie, hie, rfl⟩ := sizeT_some hn
  obtain ⟨it, x, v, z1, z2, z3, z4, _⟩ := zero_list (g := g) hz
  have hv := h2 K _ g a w hX.g.symm hS
  have e1 : ((ps.map fun (i, x) => (i, a.eval x)).toList.map (·.2)) = (ps.toList.map (·.2)).map a.eval := by simp
  obtain ⟨cells, f1, f2⟩ := fillV_spec (place := fun i => some (i * ie.size, ie.size)) (parts := (ps.map fun (i, x) => (i, a.eval x)).toList) h3 (by
    have := places_arr (i := ie) ps.toList
    simpa [List.map_map, Function.comp_def] using this) (e1 ▸ hv) (z4 ▸ z3.cells_all)
  have hb : K.P.built t (ps.map fun (i, x) => (i, a.eval x)).toList = some cells := by
    unfold Program.built
    simp only [z1, hu, z2, hie]
    exact f1
  refine ⟨.agg cells, ?_, ⟨cells.toList, by simp, f2⟩⟩
  unfold execOp; rw [ho]
  exact map_val (run_build w t _ cells hb)

/-- a value's cells over and over -/
theorem rep_cells {g : G} {z : List V} {zs : List Value} (h : VRs g z zs) (n : Nat) : VRs g (rep z n) ((List.range (n * zs.length)).map fun i => zs.toArray[i % zs.length]!) := by
  induction n with
  | zero => simp [rep, VRs]
  | succ n ih =>
    have e : (List.range ((n + 1) * zs.length)).map (fun i => zs.toArray[i % zs.length]!) = zs ++ (List.range (n * zs.length)).map fun i => zs.toArray[i % zs.length]! := by
      rw [Nat.add_mul, Nat.one_mul, Nat.add_comm, List.range_add, List.map_append, List.map_map]
      congr 1
      · apply List.ext_getElem (by simp)
        intro i h1 h2
        simp at h1
        simp [Nat.mod_eq_of_lt h1, h1]
      · apply List.map_congr_left
        intro i _
        simp
    rw [e]
    exact h.append ih

theorem rep_len (z : List V) (n : Nat) : (rep z n).length = n * z.length := by
  induction n with
  | zero => simp [rep]
  | succ n ih => simp [rep, ih, Nat.add_mul]; omega

theorem range_map_arr {zs : Array Value} (n m : Nat) (hm : m = zs.size) : ((Array.range (n * m)).map (zs[· % zs.size]!)).toList = (List.range (n * zs.toList.length)).map fun i => zs.toList.toArray[i % zs.toList.length]! := by
  subst hm
  simp

theorem ov_bsl {o : Oper} {t el : TypeId} {len : Nat} {ps : Array (Nat × Operand)} {n : Nat} {z : List V} (hX : Ok K X) (ho : o.op = .buildSlice t len ps) (hu : X.P.underlying t = some (.slice el)) (hn : sizeT X.P el = some n) (hz : zeroT X.P el = some z)
    (hl : Nat.ble (len * n) 65536 = true) : OpV K X o (iBsl el n len (rep z len) (placesA n ps.toList) (ps.toList.map fun p => opdOf X.M X.g p.2)) := fun cal fr s k h => by
  unfold iBsl at h ⊢
  rw [parts_map] at h ⊢
  obtain ⟨vs, e1, e2⟩ := opds_spec h
  rw [e1] at h ⊢
  obtain ⟨l, e3, e4⟩ := may_ne h
  rw [e4] at h ⊢
  obtain ⟨i, s', c, h1, h2, h3, h4, h5, h6, h7⟩ := rowNew_ne h
  refine ⟨.sl i 0 len (some len), s', h1, h2, fun g a w hS hf => ?_⟩
  rw [hX.P] at hu hz hn
  obtain ⟨ie, hie, rfl⟩ := sizeT_some hn
  obtain ⟨it, x, v, z1, z2, z3, z4, z5⟩ := zero_list (g := g) hz
  rw [hie] at z1; cases z1
  have hv := e2 K _ g a w hX.g.symm hS
  have e5 : ((ps.map fun (i, x) => (i, a.eval x)).toList.map (·.2)) = (ps.toList.map (·.2)).map a.eval := by simp
  have hzc := z3.cells_all
  rw [z4] at hzc
  have hzs : x.cells.size = ie.size := by rw [z3.len, z4, z5]
  have hrep := rep_cells hzc len
  rw [← range_map_arr (zs := x.cells) len ie.size hzs.symm] at hrep
  obtain ⟨cells, f1, f2⟩ := fillV_spec (place := fun i => some (i * ie.size, ie.size)) (parts := (ps.map fun (i, x) => (i, a.eval x)).toList) e3 (by
    have := places_arr (i := ie) ps.toList
    simpa [List.map_map, Function.comp_def] using this) (e5 ▸ hv) hrep
  obtain ⟨d1, d2⟩ := rowNew_did (ext := l.length) (arr := cells) (ty := el) hS hf h4 h5 h6 h7 f2 (fun j y hj => by simpa using hj) (Nat.le_refl _) (by rw [← f2.length]; simp)
  refine ⟨_, _, _, .slice (some ⟨w.heap.size, 0, none⟩) len len, ?_, .inl rfl, ⟨_, len, d2, rfl, rfl⟩, d1⟩
  unfold execOp; rw [ho]
  refine map_val ?_
  have hb : len * ie.size ≤ 65536 := Nat.le_of_ble_eq_true hl
  unfold Instr.buildSlice
  rw [bind_ok (r_under hu)]
  simp only []
  rw [bind_ok (r_size hn)]
  rw [if_neg (by omega)]
  by_cases h0 : len * ie.size = 0
  · have hemp : (Array.range (len * ie.size)).map (x.cells[· % x.cells.size]!) = (Array.range (len * ie.size)).map ((#[] : Array Value)[· % (#[] : Array Value).size]!) := by simp [h0]
    rw [hemp] at f1
    simp only [h0, if_true]
    rw [bind_ok (w' := w) (a := #[]) rfl]
    rw [h0] at f1
    simp only [f1]
    rw [bind_ok r_newRow]
    rfl
  · simp only [h0, if_false]
    rw [bind_ok (a := x) (w' := w) (by simp [zeroValue, typeInfo, hie, z2]), bind_ok (a := x.cells) (w' := w) rfl]
    simp only [f1]
    rw [bind_ok r_newRow]
    rfl

theorem ov_mkS {o : Oper} {t el : TypeId} {x y : Operand} {n : Nat} {z : List V} {i : TypeInfo} (hX : Ok K X) (ho : o.op = .makeSlice t x y) (hu : X.P.underlying t = some (.slice el)) (hn : sizeT X.P el = some n) (hz : zeroT X.P el = some z)
    (hi : X.P.info? el = some i) (hb : Nat.ble i.bytes 65536 = true) : OpV K X o (iMkS el n z (opdOf X.M X.g x) (opdOf X.M X.g y)) := fun cal fr s k h => by
  unfold iMkS at h ⊢
  obtain ⟨v, e1, e2⟩ := opd_spec h
  rw [e1] at h ⊢
  obtain ⟨u, e3, e4⟩ := opd_spec h
  rw [e3] at h ⊢
  obtain ⟨q, l, rfl, e5⟩ := vNat_ne h
  rw [e5] at h ⊢
  obtain ⟨q', c, rfl, e6⟩ := vNat_ne h
  rw [e6] at h ⊢
  obtain ⟨e7, e8⟩ := test_ne h
  rw [e8] at h ⊢
  obtain ⟨e9, e10⟩ := test_ne h
  rw [e10] at h ⊢
  have hlc : l ≤ c := Nat.le_of_ble_eq_true e7
  have hc6 : c ≤ 65536 := Nat.le_of_ble_eq_true e9
  have hb6 : i.bytes ≤ 65536 := Nat.le_of_ble_eq_true hb
  obtain ⟨j, s', cc, h1, h2, h3, h4, h5, h6, h7⟩ := rowNew_ne h
  refine ⟨.sl j 0 l (some c), s', h1, h2, fun g a w hS hf => ?_⟩
  rw [hX.P] at hu hz hn hi
  obtain ⟨it, x', v', z1, z2, z3, z4, z5⟩ := zero_list (g := g) hz
  obtain ⟨ie, hie, rfl⟩ := sizeT_some hn
  rw [hi] at z1 hie; cases z1; cases hie
  have g1 : a.eval x = .int q (.ofNat l) := e2 K _ g a w hX.g.symm hS
  have g2 : a.eval y = .int q' (.ofNat c) := e4 K _ g a w hX.g.symm hS
  have hzc := z3.cells_all
  rw [z4] at hzc
  have hzs : x'.cells.size = i.size := by rw [z3.len, z4, z5]
  have hrep := rep_cells hzc c
  rw [← range_map_arr (zs := x'.cells) c i.size hzs.symm] at hrep
  obtain ⟨d1, d2⟩ := rowNew_did (ext := c * i.size) (arr := (Array.range (c * i.size)).map (x'.cells[· % x'.cells.size]!)) (ty := el) hS hf h4 h5 h6 h7 hrep (fun j y hj => by rw [← Array.getElem?_toList]; exact hj) (by rw [rep_len, z5]; exact Nat.le_refl _) (by simp)
  refine ⟨_, _, _, .slice (some ⟨w.heap.size, 0, none⟩) l c, ?_, .inl rfl, ⟨_, c, d2, rfl, rfl⟩, d1⟩
  unfold execOp; rw [ho]
  refine map_val ?_
  rw [g1, g2]
  have w1 : IntKind.i64.wrap (Int.ofNat l) = (l : Int) := IntWalk.i64_in (l : Int) (by omega)
  have w2 : IntKind.i64.wrap (Int.ofNat c) = (c : Int) := IntWalk.i64_in (c : Int) (by omega)
  have hprod : (i.bytes : Int) * (c : Int) ≤ 4294967296 := by
    have h0 : i.bytes * c ≤ 4294967296 := Nat.le_trans (Nat.mul_le_mul hb6 hc6) (by decide)
    have h2 : ((i.bytes * c : Nat) : Int) ≤ 4294967296 := by omega
    rwa [Int.natCast_mul] at h2
  have hmul : ¬ ((i.bytes : Int) * (c : Int) > 2 ^ 48) := by
    have : (2 : Int) ^ 48 = 281474976710656 := by decide
    omega
  unfold Instr.makeSlice
  rw [bind_ok (r_under hu)]
  simp only []
  rw [bind_ok (a := Int.ofNat l) (w' := w) rfl, bind_ok (a := Int.ofNat c) (w' := w) rfl, bind_ok (r_info hi)]
  simp only [w1, w2]
  have hc1 : ¬ ((c : Int) < 0) := by omega
  have hc2 : ¬ ((l : Int) < 0) := by omega
  have hc3 : ¬ ((l : Int) > (c : Int)) := by omega
  simp only [hc1, hc2, hc3, hmul, decide_false, Bool.or_self, Bool.false_eq_true, if_false]
  simp only [Int.toNat_natCast]
  rw [bind_ok (a := ()) (w' := w) (by unfold askRoom; split <;> rfl), bind_ok (r_size hn)]
  by_cases h0 : c * i.size = 0
  · simp only [h0, if_true]
    rw [bind_ok (w' := w) (a := #[]) rfl, bind_ok r_newRow]
    have e : ∀ f g : Nat → Value, (Array.range 0).map f = (Array.range 0).map g := fun f g => by simp
    rw [e _ fun x => x'.cells[x % x'.cells.size]!]
    rfl
  · simp only [h0, if_false]
    rw [bind_ok (a := x') (w' := w) (by simp [zeroValue, typeInfo, hi, z2]), bind_ok (a := x'.cells) (w' := w) rfl, bind_ok r_newRow]
    simp

end Go.AE

namespace Go.AE
variable {K : Kon} {X : Cx}

theorem setOb_ne {i : Nat} {ob : Option Ob} {s : St} {k : St → Res} (h : setOb i ob s k ≠ .fail) :
    ∃ s', setOb i ob s k = k s' ∧ (s'.σ = s.σ ∧ s'.loc = s.loc ∧ s'.d = s.d ∧ s'.n = s.n) ∧ ∀ j, s'.t.get j = if j = i then ob else s.t.get j := by
  have e : setOb i ob s k = T.set .fail ob s.t i fun t => k ⟨s.loc, s.σ, s.d, t, s.n⟩ := rfl
  rw [e] at h ⊢
  obtain ⟨t', h1, h2⟩ := set_spec h
  exact ⟨⟨s.loc, s.σ, s.d, t', s.n⟩, h1, ⟨rfl, rfl, rfl, rfl⟩, h2⟩

theorem SameF.of {fr : Option Nat} {s s' : St} (h : s'.σ = s.σ ∧ s'.loc = s.loc ∧ s'.d = s.d ∧ s'.n = s.n) : SameF fr s s' :=
  ⟨h.1, h.2.1, h.2.2.1, by cases fr <;> simp [h.2.2.2]⟩

theorem wr_ne {g i o : Nat} {l : List V} {s : St} {k : St → Res} (h : wr g i o l s k ≠ .fail) :
    ∃ c n t sz c' s', wr g i o l s k = k s' ∧ (s'.σ = s.σ ∧ s'.loc = s.loc ∧ s'.d = s.d ∧ s'.n = s.n) ∧ g ≤ i ∧ s.t.get i = some (.cells c n t sz) ∧ o + l.length ≤ n ∧
      (∀ j, s'.t.get j = if j = i then some (.cells c' n t sz) else s.t.get j) ∧ ∀ j, c'.get j = if o ≤ j ∧ j < o + l.length then l[j - o]? else c.get j := by
  unfold wr at h ⊢
  obtain ⟨h1, h2⟩ := test_ne h
  rw [h2] at h ⊢
  obtain ⟨c, n, t, sz, h3, h4⟩ := rowK_ne h
  rw [h4] at h ⊢
  obtain ⟨h5, h6⟩ := test_ne h
  rw [h6] at h ⊢
  obtain ⟨c', h7, h8⟩ := setK_ne h
  rw [h7] at h ⊢
  obtain ⟨s', h9, h10, h11⟩ := setOb_ne h
  refine ⟨c, n, t, sz, c', s', h9, h10, Nat.le_of_ble_eq_true h1, h3, ?_, h11, h8⟩
  have := Nat.le_of_ble_eq_true h5
  rwa [len'_eq] at this

theorem setRow_size (w : World) (b : Nat) (cs : Array Value) : (w.setRow b cs).heap.size = w.heap.size := by simp [World.setRow]

theorem wr_did {fr : Option Nat} {g : G} {s s' : St} {w : World} {i o n t sz : Nat} {c c' : T V} {l : List V} {xs : List Value} {e : Gh} (hr : Rep K g s.t w) (hK : K.g ≤ i) (hi : s.t.get i = some (.cells c n t sz)) (ho : o + l.length ≤ n)
    (ht : ∀ j, s'.t.get j = if j = i then some (.cells c' n t sz) else s.t.get j) (hc : ∀ j, c'.get j = if o ≤ j ∧ j < o + l.length then l[j - o]? else c.get j)
    (hx : VRs g l xs) (h1 : allCells l = true) (hg : g i = some e) :
    ∃ w', (storeCells ⟨e.b, e.o + o, none⟩ xs).run K.P w = .ok () w' ∧ Did K fr g s w g s' w' := by
  obtain ⟨e', g1, g2⟩ := hr.ob _ _ hi
  rw [hg] at g1; cases g1
  obtain ⟨cs, ty, q1, q2, q3, q4, q5⟩ := g2
  have hlen := hx.length
  have hst := run_storeCells_at (P := K.P) e.b (e.o + o) ty xs 0 cs w q1 (by omega) (fun v hv => hx.oneCell h1 v hv)
  generalize harr : (List.take (e.o + o + 0) cs.toList ++ xs ++ List.drop (e.o + o + 0 + xs.length) cs.toList).toArray = arr at hst
  refine ⟨_, hst, ?_⟩
  obtain ⟨r1, r2⟩ := hr.turn (ob' := .cells c' n t sz) hi hg hK ht (setRow_size w e.b _) (fun b hb => setRow_other w e.b b _ hb) ⟨rfl, rfl, rfl⟩ (by
    refine ⟨arr, ty, setRow_heap w e.b cs _ ty (0, 0) q1, q2, q3, ?_, fun j v hj => ?_⟩
    · subst harr; simp; omega
    · rw [hc] at hj
      split at hj
      · rename_i hjo
        obtain ⟨x, hx1, hx2⟩ := hx.get hj
        refine ⟨x, ?_, hx2⟩
        subst harr
        simp only [List.getElem?_toArray, Nat.add_zero]
        have hlt : j - o < xs.length := (List.getElem?_eq_some_iff.1 hx1).1
        rw [List.append_assoc, List.getElem?_append_right (by simp; omega), List.getElem?_append_left (by simp; omega)]
        rw [← hx1]; congr 1; simp; omega
      · rename_i hjo
        obtain ⟨x, hx1, hx2⟩ := q5 j v hj
        refine ⟨x, ?_, hx2⟩
        subst harr
        simp only [List.getElem?_toArray, Nat.add_zero]
        have hlt : e.o + j < cs.size := (Array.getElem?_eq_some_iff.1 hx1).1
        by_cases hjl : j < o
        · rw [List.append_assoc, List.getElem?_append_left (by simp; omega), List.getElem?_take, if_pos (by omega)]
          simpa using hx1
        · rw [List.getElem?_append_right (by simp; omega), List.getElem?_drop]
          rw [← hx1, ← Array.getElem?_toList]; congr 1; simp; omega)
  exact ⟨r2, r1, fun _ _ h => .inl h⟩

theorem ov_store {o : Oper} {t : TypeId} {x y : Operand} {n : Nat} (hX : Ok K X) (ho : o.op = .store t x y) (hn : sizeT X.P t = some n) : OpV K X o (iSt X.g n (opdOf X.M X.g x) (opdOf X.M X.g y)) := fun cal fr s k h => by
  unfold iSt at h ⊢
  obtain ⟨v, e1, e2⟩ := opd_spec h
  rw [e1] at h ⊢
  obtain ⟨u, e3, e4⟩ := opd_spec h
  rw [e3] at h ⊢
  obtain ⟨i, of, rfl, e5⟩ := vPtr_ne h
  rw [e5] at h ⊢
  obtain ⟨e6, e7⟩ := test_ne h
  rw [e7] at h ⊢
  obtain ⟨e8, e9⟩ := test_ne h
  rw [e9] at h ⊢
  obtain ⟨c, m, ty, sz, c', s', f1, f2, f3, f4, f5, f6, f7⟩ := wr_ne h
  refine ⟨und, s', f1, SameF.of f2, fun g a w hS hf => ?_⟩
  obtain ⟨e, g1, g2⟩ := e2 K _ g a w hX.g.symm hS
  have g3 := e4 K _ g a w hX.g.symm hS
  obtain ⟨w', r1, r2⟩ := wr_did (fr := fr) hS.rep (hX.g ▸ f3) f4 f5 f6 f7 g3.cells_all e8 g1
  refine ⟨g, w', .skip, undef, ?_, .inr ⟨rfl, rfl⟩, ⟨[], rfl, rfl⟩, r2⟩
  rw [hX.P] at hn
  unfold execOp; rw [ho]
  refine map_skip ?_
  show (Instr.storeAt t (a.eval x) (a.eval y)).run K.P w = _
  rw [g2]
  unfold Instr.storeAt Instr.sureAddr storeVar
  rw [bind_ok (w' := w) (a := ⟨e.b, e.o + of, none⟩) rfl, bind_ok (r_size hn)]
  have : (a.eval y).cells.size = n := by rw [g3.len, ← len'_eq]; exact Nat.eq_of_beq_eq_true e6
  simp only [this, ne_eq, not_true_eq_false, if_false]
  exact r1

/-! ### numbers -/

theorem wrapU_eq {q : IntKind} {m : Nat} (hm : 0 < m) (h : ∀ n, q.wrap n = n % (m : Int)) (n : Int) (c : KV) : wrapU m q n c = c (.int q (q.wrap n)) := by
  rw [h]
  cases n with
  | ofNat p =>
    unfold wrapU
    show natK (Nat.mod p m) _ = _
    rw [natK_eq]
    rfl
  | negSucc p =>
    unfold wrapU
    show natK _ _ = _
    rw [natK_eq]
    congr 2
    have h1 : p % m < m := Nat.mod_lt _ hm
    have h2 : Nat.mod p m = p % m := rfl
    have h3 : (Int.negSucc p) % (m : Int) = ((m - 1 - p % m : Nat) : Int) := by
      rw [Int.negSucc_emod _ (by omega)]
      omega
    rw [h3]
    rfl

theorem wrapS_eq {q : IntKind} {m : Nat} (h : ∀ n : Int, -(m : Int) ≤ n → n < (m : Int) → q.wrap n = n) (n : Int) (c : KV) : wrapS m q n c = c (.int q (q.wrap n)) := by
  cases n with
  | ofNat p =>
    have e : wrapS m q (.ofNat p) c = Bool.rec (intK q (q.wrap (.ofNat p)) c) (natK p fun m => c (.int q (.ofNat m))) (Nat.blt p m) := rfl
    rw [e]
    cases hb : Nat.blt p m with
    | false => exact intK_eq _ _ _
    | true =>
      have hlt : p < m := by simpa [Nat.blt_eq] using hb
      show natK _ _ = _
      rw [natK_eq, h (Int.ofNat p) (by simp only [Int.ofNat_eq_natCast]; omega) (by simp only [Int.ofNat_eq_natCast]; omega)]
  | negSucc p =>
    have e : wrapS m q (.negSucc p) c = Bool.rec (intK q (q.wrap (.negSucc p)) c) (natK p fun m => c (.int q (.negSucc m))) (Nat.blt p m) := rfl
    rw [e]
    cases hb : Nat.blt p m with
    | false => exact intK_eq _ _ _
    | true =>
      have hlt : p < m := by simpa [Nat.blt_eq] using hb
      show natK _ _ = _
      rw [natK_eq, h (Int.negSucc p) (by omega) (by omega)]

theorem wrapK_eq (q : IntKind) (n : Int) (c : KV) : wrapK q n c = c (.int q (q.wrap n)) := by
  cases q with
  | i8 => rw [show wrapK .i8 = wrapS 128 .i8 from rfl]; exact wrapS_eq (fun n h1 h2 => by simp [IntKind.wrap, IntKind.bits, IntKind.signed]; omega) n c
  | i16 => rw [show wrapK .i16 = wrapS 32768 .i16 from rfl]; exact wrapS_eq (fun n h1 h2 => by simp [IntKind.wrap, IntKind.bits, IntKind.signed]; omega) n c
  | i32 => rw [show wrapK .i32 = wrapS 2147483648 .i32 from rfl]; exact wrapS_eq (fun n h1 h2 => by simp [IntKind.wrap, IntKind.bits, IntKind.signed]; omega) n c
  | i64 => rw [show wrapK .i64 = wrapS 9223372036854775808 .i64 from rfl]; exact wrapS_eq (fun n h1 h2 => IntWalk.i64_in n (by omega)) n c
  | u8 => rw [show wrapK .u8 = wrapU 256 .u8 from rfl]; exact wrapU_eq (by decide) (fun n => by simp [IntKind.wrap, IntKind.bits, IntKind.signed]) n c
  | u16 => rw [show wrapK .u16 = wrapU 65536 .u16 from rfl]; exact wrapU_eq (by omega) (fun n => by simp [IntKind.wrap, IntKind.bits, IntKind.signed]) n c
  | u32 => rw [show wrapK .u32 = wrapU 4294967296 .u32 from rfl]; exact wrapU_eq (by omega) (fun n => by simp [IntKind.wrap, IntKind.bits, IntKind.signed]) n c
  | u64 => rw [show wrapK .u64 = wrapU 18446744073709551616 .u64 from rfl]; exact wrapU_eq (by omega) (fun n => by simp [IntKind.wrap, IntKind.bits, IntKind.signed]) n c

/-- what a piece of the model's text comes to -/
theorem pureOf_run {α : Type} {P : Program} : ∀ {m : Sem α} {a : α}, pureOf P m = some a → ∀ w, m.run P w = .ok a w
  | .pure _, _, h, w => by simp [pureOf] at h; subst h; rfl
  | .program k, _, h, w => by
    unfold pureOf at h
    show (k P).run P w = _
    exact pureOf_run h w
  | .load .., _, h, _ | .store .., _, h, _ | .new .., _, h, _ | .shape .., _, h, _ | .freeze .., _, h, _ | .frozen .., _, h, _ | .getObj .., _, h, _ | .setObj .., _, h, _ | .choose .., _, h, _ | .sys .., _, h, _ | .mark .., _, h, _ | .halt _, _, h, _ => by simp [pureOf] at h

theorem outK_ne {x : Value} {c : KV} (h : outK x c ≠ .fail) : ∃ v, outK x c = c v ∧ ∀ g, VR g v x := by
  unfold outK at h ⊢
  split at h
  · rename_i q n
    exact ⟨.int q n, intK_eq _ _ _, fun g => rfl⟩
  · rename_i b
    exact ⟨.bool b, boolK_eq _ _, fun g => rfl⟩
  · obtain ⟨v, h1, h2⟩ := may_ne h
    exact ⟨v, h2, fun g => VR.ofV h1⟩

/-- a function of two values that does what the model's text does -/
def Fn2 (K : Kon) (f : V → V → KV → Res) (m : Value → Value → Sem Value) : Prop := ∀ a b k, f a b k ≠ .fail → ∃ v, f a b k = k v ∧ ∀ g x y w, VR g a x → VR g b y → ∃ z, (m x y).run K.P w = .ok z w ∧ VR g v z

theorem ov_bin {o : Oper} {op : BinOp} {t ty : TypeId} {x y : Operand} {f : V → V → KV → Res} (hX : Ok K X) (ho : o.op = .binOp op t x y ty) (hf : Fn2 K f (slowB op t x y)) :
    OpP K X o (iBin f (opdOf X.M X.g x) (opdOf X.M X.g y)) := fun cal fr s k h => by
  unfold iBin at h ⊢
  obtain ⟨v, e1, e2⟩ := opd_spec h
  rw [e1] at h ⊢
  obtain ⟨u, e3, e4⟩ := opd_spec h
  rw [e3] at h ⊢
  obtain ⟨z, f1, f2⟩ := hf _ _ _ h
  refine ⟨z, f1, fun g a w hS => ?_⟩
  obtain ⟨r, r1, r2⟩ := f2 g _ _ w (e2 K _ g a w hX.g.symm hS) (e4 K _ g a w hX.g.symm hS)
  refine ⟨r, ?_, r2⟩
  unfold execOp; rw [ho]
  exact map_val r1

theorem guard_no {P : Program} {w : World} {op : BinOp} {t : TypeId} {x y : Operand} {a b : Value} (h : op ≠ .eql ∧ op ≠ .neq) : (eqGuard op t x y a b).run P w = .ok () w := by
  cases op <;> first | rfl | exact absurd rfl h.1 | exact absurd rfl h.2

theorem guard_int {P : Program} {w : World} {op : BinOp} {t : TypeId} {x y : Operand} {p q : IntKind} {a b : Int} : (eqGuard op t x y (.int p a) (.int q b)).run P w = .ok () w := by
  cases op <;> rfl

theorem fn_arith {op : BinOp} {F : Int → Int → Int} {t : TypeId} {x y : Operand} (hop : op = .add ∧ F = Int.add ∨ op = .sub ∧ F = Int.sub ∨ op = .mul ∧ F = Int.mul) :
    Fn2 K (fun a b k => vInt a fun p x => vInt b fun q y => test (decide (p = q)) (wrapK p (F x y) k)) (slowB op t x y) := fun a b k h => by
  simp only at h ⊢
  obtain ⟨p, m, rfl, h1⟩ := vInt_ne h
  rw [h1] at h ⊢
  obtain ⟨q, n, rfl, h2⟩ := vInt_ne h
  rw [h2] at h ⊢
  obtain ⟨h3, h4⟩ := test_ne h
  have hpq : p = q := of_decide_eq_true h3
  subst hpq
  rw [h4, wrapK_eq]
  refine ⟨_, rfl, fun g x' y' w hx hy => ?_⟩
  simp only [VR] at hx hy
  subst hx hy
  rcases hop with ⟨rfl, rfl⟩ | ⟨rfl, rfl⟩ | ⟨rfl, rfl⟩
  all_goals
    refine ⟨_, ?_, rfl⟩
    unfold slowB
    rw [bind_ok (guard_no ⟨by simp, by simp⟩)]
    simp [binOp, Op.intArith] <;> rfl

theorem fn_slow {P' : Program} {op : BinOp} {t : TypeId} {x y : Operand} (hP : P' = K.P) : Fn2 K (slowF P' (slowB op t x y)) (slowB op t x y) := fun a b k h => by
  unfold slowF at h ⊢
  obtain ⟨u, h1, h2⟩ := may_ne h
  rw [h2] at h ⊢
  obtain ⟨v, h3, h4⟩ := may_ne h
  rw [h4] at h ⊢
  obtain ⟨r, h5, h6⟩ := may_ne h
  rw [h6] at h ⊢
  obtain ⟨z, h7, h8⟩ := outK_ne h
  refine ⟨z, h7, fun g x' y' w hx hy => ⟨r, ?_, h8 g⟩⟩
  rw [hx.toV h1, hy.toV h3]
  subst hP
  exact pureOf_run h5 w

theorem fn_cmp {P' : Program} {op : BinOp} {f : Nat → Nat → Bool} {t : TypeId} {x y : Operand} (hP : P' = K.P)
    (hf : ∀ m n : Nat, Op.intCmp op (Int.ofNat m) (Int.ofNat n) = pure (.bool (f m n))) (hop : op = .eql ∨ op = .neq ∨ op = .lss ∨ op = .leq ∨ op = .gtr ∨ op = .geq) : Fn2 K (cmpF f (slowB op t x y) P') (slowB op t x y) := fun a b k h => by
  unfold cmpF at h ⊢
  split at h
  · rename_i p m q n
    obtain ⟨h3, h4⟩ := test_ne h
    have hpq : p = q := of_decide_eq_true h3
    subst hpq
    show ∃ v, test (decide (p = p)) (boolK (f m n) k) = k v ∧ _
    rw [h4, boolK_eq]
    refine ⟨_, rfl, fun g x' y' w hx hy => ?_⟩
    simp only [VR] at hx hy
    subst hx hy
    refine ⟨_, ?_, rfl⟩
    unfold slowB
    rw [bind_ok guard_int]
    have : binOp op t (.int p (Int.ofNat m)) (.int p (Int.ofNat n)) = Op.intCmp op (Int.ofNat m) (Int.ofNat n) := by
      rcases hop with rfl | rfl | rfl | rfl | rfl | rfl <;> simp [binOp]
    rw [this, hf]
    rfl
  · exact fn_slow hP a b k h

theorem lim_wrap {p : IntKind} {r : Nat} (h : r < lim p) : p.wrap (r : Int) = (r : Int) := by
  cases p
  · have : r < 128 := h; simp [IntKind.wrap, IntKind.bits, IntKind.signed]; omega
  · have : r < 32768 := h; simp [IntKind.wrap, IntKind.bits, IntKind.signed]; omega
  · have : r < 2147483648 := h; simp [IntKind.wrap, IntKind.bits, IntKind.signed]; omega
  · have : r < 9223372036854775808 := h; exact IntWalk.i64_in _ (by omega)
  · have : r < 256 := h; simp [IntKind.wrap, IntKind.bits, IntKind.signed]; omega
  · have : r < 65536 := h; simp [IntKind.wrap, IntKind.bits, IntKind.signed]; omega
  · have : r < 4294967296 := h; simp [IntKind.wrap, IntKind.bits, IntKind.signed]; omega
  · have : r < 18446744073709551616 := h; simp [IntKind.wrap, IntKind.bits, IntKind.signed]; omega

theorem lim_pow (p : IntKind) : ∃ e, lim p = 2 ^ e ∧ e ≤ p.bits := by
  cases p
  · exact ⟨7, rfl, by decide⟩
  · exact ⟨15, rfl, by decide⟩
  · exact ⟨31, rfl, by decide⟩
  · exact ⟨63, rfl, by decide⟩
  · exact ⟨8, rfl, by decide⟩
  · exact ⟨16, rfl, by decide⟩
  · exact ⟨32, rfl, by decide⟩
  · exact ⟨64, rfl, by decide⟩

theorem ofInt_lim {p : IntKind} {m : Nat} (h : m < lim p) : (BitVec.ofInt p.bits (m : Int)).toNat = m := by
  obtain ⟨e, h1, h2⟩ := lim_pow p
  have h3 : m < 2 ^ p.bits := Nat.lt_of_lt_of_le (h1 ▸ h) (Nat.pow_le_pow_right (by decide) h2)
  rw [BitVec.toNat_ofInt]
  have : ((m : Int) % ((2 ^ p.bits : Nat) : Int)) = (m : Int) := by
    rw [← Int.natCast_emod, Nat.mod_eq_of_lt h3]
  rw [this]
  rfl

theorem fn_bit {op : BinOp} {f : Nat → Nat → Nat} {t : TypeId} {x y : Operand} (hop : op = .and ∧ f = Nat.land ∨ op = .or ∧ f = Nat.lor ∨ op = .xor ∧ f = Nat.xor) : Fn2 K (bitF op f) (slowB op t x y) := fun a b k h => by
  unfold bitF at h ⊢
  obtain ⟨p, m, rfl, h1⟩ := vInt_ne h
  rw [h1] at h ⊢
  obtain ⟨q, n, rfl, h2⟩ := vInt_ne h
  rw [h2] at h ⊢
  obtain ⟨h3, h4⟩ := test_ne h
  have hpq : p = q := of_decide_eq_true h3
  subst hpq
  rw [h4] at h ⊢
  have hb : ∀ m n, binOp op t (.int p m) (.int p n) = Op.intBits op p m n := fun m n => by
    rcases hop with ⟨rfl, _⟩ | ⟨rfl, _⟩ | ⟨rfl, _⟩ <;> simp [binOp]
  have hg : op ≠ .eql ∧ op ≠ .neq := by rcases hop with ⟨rfl, _⟩ | ⟨rfl, _⟩ | ⟨rfl, _⟩ <;> exact ⟨by simp, by simp⟩
  have slow : ∀ (m n : Int), (may (pureOf default (Op.intBits op p m n)) fun v => outK v k) ≠ .fail → ∃ v, (may (pureOf default (Op.intBits op p m n)) fun v => outK v k) = k v ∧
      ∀ g x' y' w, VR g (.int p m) x' → VR g (.int p n) y' → ∃ z, (slowB op t x y x' y').run K.P w = .ok z w ∧ VR g v z := fun m n hs => by
    obtain ⟨r, s1, s2⟩ := may_ne hs
    rw [s2] at hs ⊢
    obtain ⟨z, s3, s4⟩ := outK_ne hs
    refine ⟨z, s3, fun g x' y' w hx hy => ⟨r, ?_, s4 g⟩⟩
    simp only [VR] at hx hy
    subst hx hy
    unfold slowB
    rw [bind_ok (guard_no hg), hb]
    have : ∀ (P : Program) (r : Value), pureOf default (Op.intBits op p m n) = some r → pureOf P (Op.intBits op p m n) = some r := fun P r => by
      rcases hop with ⟨rfl, _⟩ | ⟨rfl, _⟩ | ⟨rfl, _⟩ <;> exact fun h => h
    exact pureOf_run (this _ _ s1) w
  cases m with
  | negSucc m => exact slow _ _ h
  | ofNat m =>
    cases n with
    | negSucc n => exact slow _ _ h
    | ofNat n =>
      cases hl : and (Nat.blt m (lim p)) (Nat.blt n (lim p)) with
      | false =>
        simp only [hl] at h ⊢
        exact slow _ _ h
      | true =>
        simp only [hl] at h ⊢
        rw [natK_eq]
        refine ⟨_, rfl, fun g x' y' w hx hy => ?_⟩
        simp only [VR] at hx hy
        subst hx hy
        refine ⟨_, ?_, rfl⟩
        unfold slowB
        rw [bind_ok (guard_no hg), hb]
        have hm : m < lim p := by have := (Bool.and_eq_true _ _ ▸ hl).1; simpa [Nat.blt_eq] using this
        have hn : n < lim p := by have := (Bool.and_eq_true _ _ ▸ hl).2; simpa [Nat.blt_eq] using this
        obtain ⟨e, p1, p2⟩ := lim_pow p
        rcases hop with ⟨rfl, rfl⟩ | ⟨rfl, rfl⟩ | ⟨rfl, rfl⟩
        · have e1 : (BitVec.ofInt p.bits (Int.ofNat m) &&& BitVec.ofInt p.bits (Int.ofNat n)).toNat = m &&& n := by
            rw [BitVec.toNat_and, show (BitVec.ofInt p.bits (Int.ofNat m)).toNat = m from ofInt_lim hm, show (BitVec.ofInt p.bits (Int.ofNat n)).toNat = n from ofInt_lim hn]
          have e2 : m &&& n < lim p := by rw [p1] at hm hn ⊢; exact Nat.and_lt_two_pow m hn
          simp only [Op.intBits, e1, lim_wrap e2]; rfl
        · have e1 : (BitVec.ofInt p.bits (Int.ofNat m) ||| BitVec.ofInt p.bits (Int.ofNat n)).toNat = m ||| n := by
            rw [BitVec.toNat_or, show (BitVec.ofInt p.bits (Int.ofNat m)).toNat = m from ofInt_lim hm, show (BitVec.ofInt p.bits (Int.ofNat n)).toNat = n from ofInt_lim hn]
          have e2 : m ||| n < lim p := by rw [p1] at hm hn ⊢; exact Nat.or_lt_two_pow hm hn
          simp only [Op.intBits, e1, lim_wrap e2]; rfl
        · have e1 : (BitVec.ofInt p.bits (Int.ofNat m) ^^^ BitVec.ofInt p.bits (Int.ofNat n)).toNat = m ^^^ n := by
            rw [BitVec.toNat_xor, show (BitVec.ofInt p.bits (Int.ofNat m)).toNat = m from ofInt_lim hm, show (BitVec.ofInt p.bits (Int.ofNat n)).toNat = n from ofInt_lim hn]
          have e2 : m ^^^ n < lim p := by rw [p1] at hm hn ⊢; exact Nat.xor_lt_two_pow hm hn
          simp only [Op.intBits, e1, lim_wrap e2]; rfl

end Go.AE

namespace Go.AE
variable {K : Kon} {X : Cx}

theorem fn_sh {op : BinOp} {left : Bool} {t : TypeId} {x y : Operand} (hop : op = .shl ∧ left = true ∨ op = .shr ∧ left = false) : Fn2 K (shF left) (slowB op t x y) := fun a b k h => by
  unfold shF at h ⊢
  obtain ⟨p, m, rfl, h1⟩ := vInt_ne h
  rw [h1] at h ⊢
  obtain ⟨q, n, rfl, h2⟩ := vNat_ne h
  rw [h2] at h ⊢
  have hg : op ≠ .eql ∧ op ≠ .neq := by rcases hop with ⟨rfl, _⟩ | ⟨rfl, _⟩ <;> exact ⟨by simp, by simp⟩
  have hmin : Nat.min n p.bits = min n p.bits := rfl
  have key : ∀ r : Int, binOp op t (.int p m) (.int q (.ofNat n)) = pure (.int p r) → ∀ g x' y' w, VR g (.int p m) x' → VR g (.int q (.ofNat n)) y' → ∃ z, (slowB op t x y x' y').run K.P w = .ok z w ∧ VR g (.int p r) z := fun r hz g x' y' w hx hy => by
    simp only [VR] at hx hy
    subst hx hy
    refine ⟨.int p r, ?_, rfl⟩
    unfold slowB
    rw [bind_ok (guard_no hg), hz]
    rfl
  have nn : ¬ ((Int.ofNat n) < 0) := by simp
  rcases hop with ⟨rfl, rfl⟩ | ⟨rfl, rfl⟩
  · cases m with
    | ofNat m =>
      refine ⟨.int p (p.wrap (.ofNat (Nat.shiftLeft m (Nat.min n p.bits)))), wrapK_eq _ _ _, key _ ?_⟩
      simp only [binOp, Op.shift, if_neg nn]
      congr 3
      show (m : Int) * 2 ^ (min n p.bits) = ((m <<< min n p.bits : Nat) : Int)
      rw [Nat.shiftLeft_eq]
      simp
    | negSucc m =>
      refine ⟨.int p (p.wrap (.negSucc m * 2 ^ (Nat.min n p.bits))), wrapK_eq _ _ _, key _ ?_⟩
      simp only [binOp, Op.shift, if_neg nn]
      rfl
  · cases m with
    | ofNat m =>
      refine ⟨.int p (.ofNat (Nat.shiftRight m (Nat.min n p.bits))), natK_eq _ _, key _ ?_⟩
      simp only [binOp, Op.shift, if_neg nn]
      congr 2
      show (m : Int).fdiv (2 ^ (min n p.bits)) = ((m >>> min n p.bits : Nat) : Int)
      have e : (2 : Int) ^ (min n p.bits) = ((2 ^ min n p.bits : Nat) : Int) := by simp
      rw [Nat.shiftRight_eq_div_pow, e, Int.fdiv_eq_ediv_of_nonneg _ (Int.natCast_nonneg _)]
      simp
    | negSucc m =>
      refine ⟨.int p ((Int.negSucc m).fdiv (2 ^ (Nat.min n p.bits))), intK_eq _ _ _, key _ ?_⟩
      simp only [binOp, Op.shift, if_neg nn]
      rfl

/-- which type is told apart from nil by what -/
def NilKind (d : TypeDesc) (f : V → Option Bool) : Prop := (∃ e, d = .slice e ∧ f = nilS) ∨ (∃ e, d = .pointer e ∧ f = nilP) ∨ (∃ a b, d = .map a b ∧ f = nilM) ∨ (∃ a b c, d = .func a b c ∧ f = nilFn)

theorem fn_nil {op : BinOp} {n : Bool} {f : V → Option Bool} {d : TypeDesc} {t : TypeId} {x y : Operand} (hop : op = .eql ∧ n = false ∨ op = .neq ∧ n = true) (hd : K.P.underlying t = some d) (hk : NilKind d f) : Fn2 K (nilF f n) (slowB op t x y) := fun a b k h => by
  unfold nilF at h ⊢
  obtain ⟨p, h1, h2⟩ := may_ne h
  rw [h2] at h ⊢
  obtain ⟨q, h3, h4⟩ := may_ne h
  rw [h4] at h ⊢
  obtain ⟨h5, h6⟩ := test_ne h
  rw [h6, boolK_eq]
  refine ⟨_, rfl, fun g x' y' w hx hy => ?_⟩
  have key : ∀ r : Bool, (Op.equal t x' y').run K.P w = .ok r w → r = (p && q) → (∀ (t : TypeId) (x y : Operand) (op : BinOp), (eqGuard op t x y x' y').run K.P w = .ok () w) → (∀ op : BinOp, op = .eql → binOp op t x' y' = (do pure (.bool (← Op.equal t x' y')))) → (∀ op : BinOp, op = .neq → binOp op t x' y' = (do pure (.bool (!(← Op.equal t x' y'))))) →
      ∃ z, (slowB op t x y x' y').run K.P w = .ok z w ∧ VR g (.bool (xor n (and p q))) z := fun r hr hrr hgu he hn => by
    subst hrr
    rcases hop with ⟨rfl, rfl⟩ | ⟨rfl, rfl⟩
    · refine ⟨.bool (p && q), ?_, by simp [VR]⟩
      unfold slowB
      rw [bind_ok (hgu _ _ _ _), he _ rfl, bind_ok hr]
      rfl
    · refine ⟨.bool (!(p && q)), ?_, by simp [VR]⟩
      unfold slowB
      rw [bind_ok (hgu _ _ _ _), hn _ rfl, bind_ok hr]
      rfl
  rcases hk with ⟨e, rfl, rfl⟩ | ⟨e, rfl, rfl⟩ | ⟨e, e', rfl, rfl⟩ | ⟨e, e', e'', rfl, rfl⟩
  · cases a <;> simp [nilS] at h1 <;> subst h1 <;> cases b <;> simp [nilS] at h3 <;> subst h3 <;> simp at h5 <;> simp only [VR] at hx hy
    all_goals
      (try obtain ⟨_, _, _, rfl, _⟩ := hx); (try obtain ⟨_, _, rfl⟩ := hx); (try subst hx); (try obtain ⟨_, _, _, rfl, _⟩ := hy); (try obtain ⟨_, _, rfl⟩ := hy); (try subst hy)
      exact key _ (by show (Op.equalIn (9999 + 1) t _ _).run K.P w = _; unfold Op.equalIn; rw [bind_ok (r_under hd)]; rfl) rfl (fun _ _ _ op => by cases op <;> rfl) (fun op h => by subst h; rfl) (fun op h => by subst h; rfl)
  · cases a <;> simp [nilP] at h1 <;> subst h1 <;> cases b <;> simp [nilP] at h3 <;> subst h3 <;> simp at h5 <;> simp only [VR] at hx hy
    all_goals
      (try obtain ⟨_, _, rfl⟩ := hx); (try subst hx); (try obtain ⟨_, _, rfl⟩ := hy); (try subst hy)
      exact key _ (by show (Op.equalIn (9999 + 1) t _ _).run K.P w = _; unfold Op.equalIn; rw [bind_ok (r_under hd)]; rfl) rfl (fun _ _ _ op => by cases op <;> rfl) (fun op h => by subst h; rfl) (fun op h => by subst h; rfl)
  · cases a <;> simp [nilM] at h1 <;> subst h1 <;> cases b <;> simp [nilM] at h3 <;> subst h3 <;> simp at h5 <;> simp only [VR] at hx hy
    all_goals
      (try obtain ⟨_, _, rfl⟩ := hx); (try subst hx); (try obtain ⟨_, _, rfl⟩ := hy); (try subst hy)
      exact key _ (by show (Op.equalIn (9999 + 1) t _ _).run K.P w = _; unfold Op.equalIn; rw [bind_ok (r_under hd)]; rfl) rfl (fun _ _ _ op => by cases op <;> rfl) (fun op h => by subst h; rfl) (fun op h => by subst h; rfl)
  · cases a <;> simp [nilFn] at h1 <;> subst h1 <;> cases b <;> simp [nilFn] at h3 <;> subst h3 <;> simp at h5 <;> simp only [VR] at hx hy
    all_goals
      (try obtain ⟨_, _, rfl, _⟩ := hx); (try obtain ⟨_, _, rfl⟩ := hx); (try subst hx); (try obtain ⟨_, _, rfl, _⟩ := hy); (try obtain ⟨_, _, rfl⟩ := hy); (try subst hy)
      exact key _ (by show (Op.equalIn (9999 + 1) t _ _).run K.P w = _; unfold Op.equalIn; rw [bind_ok (r_under hd)]; rfl) rfl (fun _ _ _ op => by cases op <;> rfl) (fun op h => by subst h; rfl) (fun op h => by subst h; rfl)

/-- an operation on one value -/
theorem ov_un {o : Oper} {x : Operand} {f : V → KV → Res} {m : Value → Sem Value} (hX : Ok K X) (ho : ∀ ρ, execOp ρ o = (do pure (.value (← m (ρ x))))) (hf : ∀ a k, f a k ≠ .fail → ∃ v, f a k = k v ∧ ∀ g x w, VR g a x → ∃ z, (m x).run K.P w = .ok z w ∧ VR g v z) :
    OpP K X o (iUn f (opdOf X.M X.g x)) := fun cal fr s k h => by
  unfold iUn at h ⊢
  obtain ⟨v, e1, e2⟩ := opd_spec h
  rw [e1] at h ⊢
  obtain ⟨z, f1, f2⟩ := hf _ _ h
  refine ⟨z, f1, fun g a w hS => ?_⟩
  obtain ⟨r, r1, r2⟩ := f2 g _ w (e2 K _ g a w hX.g.symm hS)
  refine ⟨r, ?_, r2⟩
  rw [ho]
  exact map_val r1

theorem fn_un {P' : Program} {m : Value → Sem Value} (hP : P' = K.P) : ∀ a k, unF P' m a k ≠ .fail → ∃ v, unF P' m a k = k v ∧ ∀ g x w, VR g a x → ∃ z, (m x).run K.P w = .ok z w ∧ VR g v z := fun a k h => by
  unfold unF at h ⊢
  obtain ⟨u, h1, h2⟩ := may_ne h
  rw [h2] at h ⊢
  obtain ⟨r, h5, h6⟩ := may_ne h
  rw [h6] at h ⊢
  obtain ⟨z, h7, h8⟩ := outK_ne h
  refine ⟨z, h7, fun g x' w hx => ⟨r, ?_, h8 g⟩⟩
  rw [hx.toV h1]
  subst hP
  exact pureOf_run h5 w

theorem fn_cvI {src dst : TypeId} {d : TypeDesc} {q : IntKind} (hs : K.P.underlying src = some d) (hd : K.P.underlying dst = some (.int q)) : ∀ a k, cvI q a k ≠ .fail → ∃ v, cvI q a k = k v ∧ ∀ g x w, VR g a x → ∃ z, (convert src dst x).run K.P w = .ok z w ∧ VR g v z := fun a k h => by
  unfold cvI at h ⊢
  obtain ⟨p, m, rfl, h1⟩ := vInt_ne h
  rw [h1, wrapK_eq]
  refine ⟨_, rfl, fun g x w hx => ?_⟩
  simp only [VR] at hx
  subst hx
  refine ⟨_, ?_, rfl⟩
  unfold convert
  rw [bind_ok (r_under hs), bind_ok (r_under hd)]
  simp [Conv.intToInt]

theorem fn_cvS {src dst : TypeId} {d : TypeDesc} (hs : K.P.underlying src = some d) (hd : K.P.underlying dst = some .string) : ∀ a k, cvS a k ≠ .fail → ∃ v, cvS a k = k v ∧ ∀ g x w, VR g a x → ∃ z, (convert src dst x).run K.P w = .ok z w ∧ VR g v z := fun a k h => by
  unfold cvS at h ⊢
  split at h
  · rename_i s
    refine ⟨.str s, rfl, fun g x w hx => ?_⟩
    simp only [VR] at hx
    subst hx
    refine ⟨_, ?_, rfl⟩
    unfold convert
    rw [bind_ok (r_under hs), bind_ok (r_under hd)]
    cases d <;> rfl
  · exact absurd rfl h

theorem bytesOf_spec {g : G} : ∀ {l : List V} {bs : List UInt8} {xs : List Value}, bytesOf l = some bs → VRs g l xs → bs.length = l.length ∧ ∀ (j : Nat) (hj : j < bs.length), xs[j]? = some (.int .u8 (bs[j].toNat : Int))
  | [], bs, xs, h, hv => by simp [bytesOf] at h; subst h; exact ⟨rfl, fun j hj => by simp at hj⟩
  | v :: l, bs, xs, h, ⟨x, ys, e, a, b⟩ => by
    unfold bytesOf at h
    split at h
    · rename_i heq; cases heq
    · rename_i n l' heq
      cases heq
      split at h
      · rename_i r hr
        cases hb : Nat.blt n 256 with
        | false => rw [hb] at h; cases h
        | true =>
          rw [hb] at h; cases h
          have hlt : n < 256 := by simpa [Nat.blt_eq] using hb
          obtain ⟨h1, h2⟩ := bytesOf_spec hr b
          refine ⟨by simp [h1], fun j hj => ?_⟩
          subst e
          simp only [VR] at a
          subst a
          cases j with
          | zero => simp; omega
          | succ j => simpa using h2 j (by simpa using hj)
      · cases h
    · cases h

theorem ov_str {o : Oper} {src dst b : TypeId} {x : Operand} (hX : Ok K X) (ho : o.op = .convert src dst x) (hs : X.P.underlying src = some (.slice b)) (hd : X.P.underlying dst = some .string) (hb : X.P.underlying b = some (.int .u8)) : OpP K X o (iStr (opdOf X.M X.g x)) := fun cal fr s k h => by
  rw [hX.P] at hs hd hb
  unfold iStr at h ⊢
  obtain ⟨v, e1, e2⟩ := opd_spec h
  rw [e1] at h ⊢
  cases v with
  | sl i of len cap =>
    simp only [vStrOf] at h ⊢
    obtain ⟨c, m, ty, sz, h4, h5⟩ := rowK_ne h
    rw [h5] at h ⊢
    obtain ⟨l, h6, h7, h8⟩ := getK_ne h
    rw [h6] at h ⊢
    obtain ⟨bs, h9, h10⟩ := may_ne h
    refine ⟨.str ⟨⟨bs⟩⟩, h10, fun g a w hS => ?_⟩
    obtain ⟨e, cc, g1, g2, _⟩ := e2 K _ g a w hX.g.symm hS
    obtain ⟨e', g3, g4⟩ := hS.rep.ob _ _ h4
    rw [g1] at g3; cases g3
    obtain ⟨xs, r1, r2⟩ := read_cells g4 h8
    obtain ⟨b1, b2⟩ := bytesOf_spec h9 r1
    refine ⟨.string ⟨⟨bs⟩⟩, ?_, rfl⟩
    unfold execOp; rw [ho]
    refine map_val ?_
    show (convert src dst (a.eval x)).run K.P w = _
    have hl : len = bs.length := by rw [b1, h7]
    rw [g2, hl]
    exact run_convert_bytes_back w src dst b _ cc bs hs hb hd fun j hj => by rw [addr_add]; exact r2 j _ (b2 j hj)
  | nilsl =>
    refine ⟨.str ⟨#[]⟩, rfl, fun g a w hS => ⟨.string ⟨#[]⟩, ?_, rfl⟩⟩
    have g2 : a.eval x = .slice none 0 0 := e2 K _ g a w hX.g.symm hS
    unfold execOp; rw [ho]
    refine map_val ?_
    show (convert src dst (a.eval x)).run K.P w = _
    rw [g2]
    exact run_convert_bytes_nil w src b hs hb 0 0 dst hd
  | _ => exact absurd rfl h

end Go.AE

namespace Go.AE
variable {K : Kon} {X : Cx}

theorem part_ne {agg : Bool} {n o : Nat} {cs : List V} {k : KV} (h : part agg n cs o k ≠ .fail) : ∃ v, part agg n cs o k = k v ∧
    ∀ (P : Program) g t xs w, isAggT P t = some agg → sizeT P t = some n → VRs g cs xs → ∃ x, (AE.part agg n cs o k = k v) ∧ (Go.part t ⟨xs⟩ o).run P w = .ok x w ∧ VR g v x := by
  cases agg with
  | true =>
    have e : AE.part true n cs o k = test (Nat.ble (Nat.add o n) (len' cs)) (k (.agg ((cs.drop o).take n))) := rfl
    rw [e] at h ⊢
    obtain ⟨h1, h2⟩ := test_ne h
    refine ⟨_, h2, fun P g t xs w ha hs hv => ⟨.agg ⟨(xs.drop o).take n⟩, h2, ?_, ⟨_, rfl, (hv.drop o).take n⟩⟩⟩
    unfold Go.part
    rw [bind_ok (r_isAgg ha)]
    simp only [if_true]
    rw [bind_ok (r_size hs)]
    have : ((⟨xs⟩ : Array Value).extract o (o + n)) = ⟨(xs.drop o).take n⟩ := by
      apply Array.ext'
      simp [List.extract_eq_take_drop]
    rw [this]; rfl
  | false =>
    have e : AE.part false n cs o k = may cs[o]? k := rfl
    rw [e] at h ⊢
    obtain ⟨v, h1, h2⟩ := may_ne h
    refine ⟨v, h2, fun P g t xs w ha hs hv => ?_⟩
    obtain ⟨x, h3, h4⟩ := hv.get h1
    refine ⟨x, h2, ?_, h4⟩
    unfold Go.part
    rw [bind_ok (r_isAgg ha)]
    simp only [Bool.false_eq_true, if_false]
    have : (⟨xs⟩ : Array Value)[o]? = some x := by simpa using h3
    simp [this]

theorem ov_fld {o : Oper} {t : TypeId} {x : Operand} {i n : Nat} {b : Bool} {fs : Array Field} {f : Field} (hX : Ok K X) (ho : o.op = .field t x i) (hu : X.P.underlying t = some (.struct fs)) (hf : fs[i]? = some f) (ha : isAggT X.P f.type = some b) (hs : sizeT X.P f.type = some n) :
    OpP K X o (iFld b n f.offset (opdOf X.M X.g x)) := fun cal fr s k h => by
  rw [hX.P] at hu ha hs
  unfold iFld at h ⊢
  obtain ⟨v, h1, h2⟩ := opd_spec h
  rw [h1] at h ⊢
  obtain ⟨l, rfl, h3⟩ := vAgg_ne h
  rw [h3] at h ⊢
  obtain ⟨v, h4, h5⟩ := part_ne h
  refine ⟨v, h4, fun g a w hS => ?_⟩
  obtain ⟨xs, g1, g2⟩ := h2 K _ g a w hX.g.symm hS
  obtain ⟨y, _, r1, r2⟩ := h5 K.P g f.type xs w ha hs g2
  refine ⟨y, ?_, r2⟩
  unfold execOp; rw [ho]
  refine map_val ?_
  show (Instr.field t (a.eval x) i).run K.P w = _
  rw [g1]
  unfold Instr.field
  rw [bind_ok (r_under hu)]
  simp only [hf]
  rw [bind_ok (a := (⟨xs⟩ : Array Value)) (w' := w) rfl]
  exact r1

theorem ov_ixA {o : Oper} {t el : TypeId} {x ix : Operand} {len n : Nat} {b : Bool} (hX : Ok K X) (ho : o.op = .index t x ix) (hu : X.P.underlying t = some (.array len el)) (ha : isAggT X.P el = some b) (hs : sizeT X.P el = some n) :
    OpP K X o (iIxA b n len (opdOf X.M X.g x) (opdOf X.M X.g ix)) := fun cal fr s k h => by
  rw [hX.P] at hu ha hs
  unfold iIxA at h ⊢
  obtain ⟨v, h1, h2⟩ := opd_spec h
  rw [h1] at h ⊢
  obtain ⟨u, h3, h4⟩ := opd_spec h
  rw [h3] at h ⊢
  obtain ⟨l, rfl, h5⟩ := vAgg_ne h
  rw [h5] at h ⊢
  obtain ⟨q, m, rfl, h6⟩ := vNat_ne h
  rw [h6] at h ⊢
  obtain ⟨h7, h8⟩ := test_ne h
  rw [h8, natK_eq] at h ⊢
  have hlt : m < len := by simpa [Nat.blt_eq] using h7
  obtain ⟨v, h9, h10⟩ := part_ne h
  refine ⟨v, h9, fun g a w hS => ?_⟩
  obtain ⟨xs, g1, g2⟩ := h2 K _ g a w hX.g.symm hS
  have g3 : a.eval ix = .int q (.ofNat m) := h4 K _ g a w hX.g.symm hS
  obtain ⟨y, _, r1, r2⟩ := h10 K.P g el xs w ha hs g2
  refine ⟨y, ?_, r2⟩
  unfold execOp; rw [ho]
  refine map_val ?_
  show (Instr.index t (a.eval x) (a.eval ix)).run K.P w = _
  rw [g1, g3]
  unfold Instr.index
  rw [bind_ok (a := (q, (Int.ofNat m))) (w' := w) rfl]
  simp only []
  rw [bind_ok (r_under hu)]
  have : (0 : Int) ≤ Int.ofNat m ∧ Int.ofNat m < (len : Int) := ⟨Int.natCast_nonneg m, Int.ofNat_lt.2 hlt⟩
  simp only [this, and_self, if_true]
  rw [bind_ok (r_size hs)]
  exact r1

theorem bytes_get (b : ByteArray) (j : Nat) : b[j]? = b.data.toList[j]? := by
  by_cases h : j < b.size
  · have h' : j < b.data.toList.length := by simpa using h
    rw [List.getElem?_eq_getElem h', getElem?_pos b j h]
    simp [ByteArray.getElem_eq_getElem_data]
  · rw [getElem?_neg b j h, List.getElem?_eq_none (by simpa using h)]

theorem ov_ixS {o : Oper} {t : TypeId} {x ix : Operand} (hX : Ok K X) (ho : o.op = .index t x ix) (hu : X.P.underlying t = some .string) : OpP K X o (iIxS (opdOf X.M X.g x) (opdOf X.M X.g ix)) := fun cal fr s k h => by
  rw [hX.P] at hu
  unfold iIxS at h ⊢
  obtain ⟨v, h1, h2⟩ := opd_spec h
  rw [h1] at h ⊢
  obtain ⟨u, h3, h4⟩ := opd_spec h
  rw [h3] at h ⊢
  obtain ⟨b, rfl, h5⟩ := vStr_ne h
  rw [h5] at h ⊢
  obtain ⟨q, m, rfl, h6⟩ := vNat_ne h
  rw [h6] at h ⊢
  obtain ⟨c, h7, h8⟩ := may_ne h
  rw [h8, natK_eq]
  refine ⟨.int .u8 (.ofNat c.toNat), rfl, fun g a w hS => ⟨.int .u8 (.ofNat c.toNat), ?_, rfl⟩⟩
  have g1 : a.eval x = .string b := h2 K _ g a w hX.g.symm hS
  have g3 : a.eval ix = .int q (.ofNat m) := h4 K _ g a w hX.g.symm hS
  unfold execOp; rw [ho]
  refine map_val ?_
  show (Instr.index t (a.eval x) (a.eval ix)).run K.P w = _
  rw [g1, g3]
  unfold Instr.index
  rw [bind_ok (a := (q, (Int.ofNat m))) (w' := w) rfl]
  simp only []
  rw [bind_ok (r_under hu)]
  have h0 : (0 : Int) ≤ Int.ofNat m := Int.natCast_nonneg m
  have hb : b[(Int.ofNat m).toNat]? = some c := by rw [bytes_get]; exact h7
  simp only [h0, if_true, hb]
  rfl

/-! ### pieces of slices -/

theorem bnd_ne {v : V} {y : Nat} {k : Nat → Res} (h : bnd v y k ≠ .fail) : ∃ q n, v = .int q (.ofNat n) ∧ n ≤ y ∧ bnd v y k = k n := by
  unfold bnd at h ⊢
  obtain ⟨q, n, rfl, h1⟩ := vNat_ne h
  rw [h1] at h ⊢
  obtain ⟨h2, h3⟩ := test_ne h
  exact ⟨q, n, rfl, Nat.le_of_ble_eq_true h2, h3⟩

/-- a bound, written or not -/
def Bd (x : Option Value) (y z n : Nat) : Prop := match x with | none => n = z | some v => ∃ q, v = .int q (.ofNat n) ∧ n ≤ y

theorem bndO_ne {x : Option Operand} {s : St} {y z : Nat} {k : Nat → Res} (h : bndO (optOf X.M X.g x) s y z k ≠ .fail) : ∃ n, bndO (optOf X.M X.g x) s y z k = k n ∧
    ∀ (K : Kon) N g a w, K.g = X.g → SR K X.M N g s a w → Bd (x.map a.eval) y z n := by
  cases x with
  | none => exact ⟨z, rfl, fun _ _ _ _ _ _ _ => rfl⟩
  | some x =>
    have e : bndO (optOf X.M X.g (some x)) s y z k = opd (opdOf X.M X.g x) s fun v => bnd v y k := rfl
    rw [e] at h ⊢
    obtain ⟨v, h1, h2⟩ := opd_spec h
    rw [h1] at h ⊢
    obtain ⟨q, n, rfl, h3, h4⟩ := bnd_ne h
    exact ⟨n, h4, fun K N g a w hK hS => ⟨q, h2 K N g a w hK hS, h3⟩⟩

theorem r_bound {P : Program} {w : World} {q : IntKind} {n y : Nat} {code : BoundsCode} (h : n ≤ y) : (Instr.sliceBound (.int q (.ofNat n)) y code).run P w = .ok n w := by
  unfold Instr.sliceBound
  rw [bind_ok (a := (q, Int.ofNat n)) (w' := w) rfl]
  have : (0 : Int) ≤ Int.ofNat n ∧ Int.ofNat n ≤ (y : Int) := ⟨Int.natCast_nonneg n, Int.ofNat_le.2 h⟩
  simp only [this, and_self, if_true]
  rfl

theorem r_bounds {P : Program} {w : World} {b : Bool} {len cap : Nat} {lo hi mx : Option Value} {l h m : Nat} (hm : Bd mx cap cap m) (hh : match hi with | none => mx = none ∧ h = len | some v => ∃ q, v = .int q (.ofNat h) ∧ h ≤ m) (hl : Bd lo h 0 l) :
    (Instr.sliceBounds b len cap lo hi mx).run P w = .ok (l, h, m) w := by
  unfold Instr.sliceBounds
  cases mx with
  | none =>
    simp only [Bd] at hm
    subst hm
    rw [bind_ok (a := m) (w' := w) rfl]
    cases hi with
    | none =>
      obtain ⟨_, rfl⟩ := hh
      simp only []
      rw [bind_ok (a := h) (w' := w) rfl]
      cases lo with
      | none => simp only [Bd] at hl; subst hl; simp only []; rw [bind_ok (a := 0) (w' := w) rfl]; rfl
      | some v => obtain ⟨q, rfl, h3⟩ := hl; simp only []; rw [bind_ok (r_bound h3)]; rfl
    | some u =>
      obtain ⟨q, rfl, h2⟩ := hh
      simp only []
      rw [bind_ok (r_bound h2)]
      cases lo with
      | none => simp only [Bd] at hl; subst hl; simp only []; rw [bind_ok (a := 0) (w' := w) rfl]; rfl
      | some v => obtain ⟨q, rfl, h3⟩ := hl; simp only []; rw [bind_ok (r_bound h3)]; rfl
  | some v =>
    obtain ⟨q, rfl, h1⟩ := hm
    simp only []
    rw [bind_ok (r_bound h1)]
    cases hi with
    | none => cases hh.1
    | some u =>
      obtain ⟨q, rfl, h2⟩ := hh
      simp only []
      rw [bind_ok (r_bound h2)]
      cases lo with
      | none => simp only [Bd] at hl; subst hl; simp only []; rw [bind_ok (a := 0) (w' := w) rfl]; rfl
      | some v => obtain ⟨q, rfl, h3⟩ := hl; simp only []; rw [bind_ok (r_bound h3)]; rfl

theorem cut_eq {sz i o l h m : Nat} {k : KV} : cut sz i o l h m k = k (.sl i (if m = l then o else o + l * sz) (h - l) (some (m - l))) := by
  unfold cut adv
  cases hb : Nat.beq m l with
  | true =>
    have : m = l := Nat.eq_of_beq_eq_true hb
    simp only [natK_eq, this, if_true]
    rfl
  | false =>
    have : m ≠ l := fun e => by subst e; simp at hb
    simp only [natK_eq, this, if_false]
    rfl

theorem vr_cut {g : G} {e : Gh} {i o l h m sz : Nat} (hg : g i = some e) : VR g (.sl i (if m = l then o else o + l * sz) (h - l) (some (m - l)))
    (.slice (if m = l then (some ⟨e.b, e.o + o, none⟩ : Option Addr) else (some ⟨e.b, e.o + o, none⟩ : Option Addr).map (·.add (l * sz))) (h - l) (m - l)) := by
  refine ⟨e, m - l, hg, ?_, rfl⟩
  split
  · rfl
  · simp [addr_add, Nat.add_assoc]

theorem bd_len {x : Option Value} {len m h : Nat} (hb : Bd x m len h) (_ : x = none → True) : match x with | none => (none : Option Value) = none ∧ h = len | some v => ∃ q, v = .int q (.ofNat h) ∧ h ≤ m := by
  cases x with
  | none => exact ⟨rfl, hb⟩
  | some v => exact hb

theorem Bd.le {x : Option Value} {y z n : Nat} (h : Bd x y z n) (hz : z ≤ y) : n ≤ y := by
  cases x with
  | none => simp only [Bd] at h; omega
  | some v => obtain ⟨_, _, h⟩ := h; exact h
theorem Bd.wide {x : Option Value} {y y' z n : Nat} (h : Bd x y z n) (hz : y ≤ y') : Bd x y' z n := by
  cases x with
  | none => exact h
  | some v => obtain ⟨q, e, h⟩ := h; exact ⟨q, e, Nat.le_trans h hz⟩

theorem r_sliceAt {P : Program} {w : World} {t el : TypeId} {a : Option Addr} {len cap l h m n : Nat} {lo hi mx : Option Value} (hu : P.underlying t = some (.slice el)) (hs : sizeT P el = some n)
    (hb : ∀ w, (Instr.sliceBounds true len cap lo hi mx).run P w = .ok (l, h, m) w) : (Instr.sliceAt t (.slice a len cap) lo hi mx).run P w = .ok (.slice (if m = l then a else a.map (·.add (l * n))) (h - l) (m - l)) w := by
  unfold Instr.sliceAt
  rw [bind_ok (r_under hu)]
  simp only []
  unfold Instr.slice
  rw [bind_ok (r_under hu)]
  simp only []
  rw [bind_ok (hb w)]
  simp only []
  rw [bind_ok (r_size hs)]
  rfl

theorem ov_sli {o : Oper} {t el : TypeId} {x : Operand} {lo hi mx : Option Operand} {n : Nat} (hX : Ok K X) (ho : o.op = .slice t x lo hi mx) (hu : X.P.underlying t = some (.slice el)) (hs : sizeT X.P el = some n) (hmh : mx = none ∨ hi ≠ none) :
    OpP K X o (iSli n (opdOf X.M X.g x) (optOf X.M X.g lo) (optOf X.M X.g hi) (optOf X.M X.g mx)) := fun cal fr s k h => by
  rw [hX.P] at hu hs
  unfold iSli at h ⊢
  obtain ⟨v, h1, h2⟩ := opd_spec h
  rw [h1] at h ⊢
  have fin : ∀ {g : G} {a : Act} {w : World} {av : Value} {y : Value}, a.eval x = av → (Instr.sliceAt t av (lo.map a.eval) (hi.map a.eval) (mx.map a.eval)).run K.P w = .ok y w → (execOp a.eval o).run K.P w = .ok (.value y) w := fun he hr => by
    unfold execOp; rw [ho]
    refine map_val ?_
    rw [he]
    exact hr
  cases v with
  | sl i of len cap =>
    simp only [sliF] at h ⊢
    cases mx with
    | some mo =>
      have e : sliSl n (optOf X.M X.g lo) (optOf X.M X.g hi) (optOf X.M X.g (some mo)) s i of len cap (fun v => k v s) = opd (opdOf X.M X.g mo) s fun v => bnd v (Option.rec len (fun c => c) cap) fun m => Option.rec .fail (fun y => opd y s fun v => bnd v m fun h => bndO (optOf X.M X.g lo) s h 0 fun l => cut n i of l h m fun v => k v s) (optOf X.M X.g hi) := rfl
      rw [e] at h ⊢
      obtain ⟨mv, m1, m2⟩ := opd_spec h
      rw [m1] at h ⊢
      obtain ⟨q, m, rfl, m3, m4⟩ := bnd_ne h
      rw [m4] at h ⊢
      cases hi with
      | none => exact absurd rfl h
      | some ho' =>
        have e : (Option.rec Res.fail (fun y => opd y s fun v => bnd v m fun h => bndO (optOf X.M X.g lo) s h 0 fun l => cut n i of l h m fun v => k v s) (optOf X.M X.g (some ho')) : Res) = opd (opdOf X.M X.g ho') s fun v => bnd v m fun h => bndO (optOf X.M X.g lo) s h 0 fun l => cut n i of l h m fun v => k v s := rfl
        rw [e] at h ⊢
        obtain ⟨hv, p1, p2⟩ := opd_spec h
        rw [p1] at h ⊢
        obtain ⟨q', hh, rfl, p3, p4⟩ := bnd_ne h
        rw [p4] at h ⊢
        obtain ⟨l, l1, l2⟩ := bndO_ne h
        rw [l1, cut_eq]
        refine ⟨_, rfl, fun g a w hS => ?_⟩
        obtain ⟨e, c, g1, g2, g3⟩ := h2 K _ g a w hX.g.symm hS
        have g4 : a.eval mo = .int q (.ofNat m) := m2 K _ g a w hX.g.symm hS
        have g5 : a.eval ho' = .int q' (.ofNat hh) := p2 K _ g a w hX.g.symm hS
        have hmc : m ≤ c := by
          cases cap with
          | none => exact Nat.le_trans m3 g3.1
          | some c' => simp only at g3; subst g3; exact m3
        exact ⟨_, fin (g := g) g2 (r_sliceAt hu hs fun _ => r_bounds ⟨q, g4, hmc⟩ ⟨q', g5, p3⟩ (l2 K _ g a w hX.g.symm hS)), vr_cut g1⟩
    | none =>
      cases cap with
      | some c =>
        have e : sliSl n (optOf X.M X.g lo) (optOf X.M X.g hi) (optOf X.M X.g none) s i of len (some c) (fun v => k v s) = bndO (optOf X.M X.g hi) s c len fun h => bndO (optOf X.M X.g lo) s h 0 fun l => cut n i of l h c fun v => k v s := rfl
        rw [e] at h ⊢
        obtain ⟨hh, p1, p2⟩ := bndO_ne h
        rw [p1] at h ⊢
        obtain ⟨l, l1, l2⟩ := bndO_ne h
        rw [l1, cut_eq]
        refine ⟨_, rfl, fun g a w hS => ?_⟩
        obtain ⟨e, c', g1, g2, g3⟩ := h2 K _ g a w hX.g.symm hS
        simp only at g3
        subst g3
        have hb := p2 K _ g a w hX.g.symm hS
        refine ⟨_, fin (g := g) g2 (r_sliceAt hu hs fun _ => r_bounds (m := c') rfl ?_ (l2 K _ g a w hX.g.symm hS)), vr_cut g1⟩
        cases hi with
        | none => exact ⟨rfl, hb⟩
        | some _ => exact hb
      | none =>
        have e : sliSl n (optOf X.M X.g lo) (optOf X.M X.g hi) (optOf X.M X.g none) s i of len none (fun v => k v s) = rowK i s fun _ _ _ z => test (Nat.beq z n) (bndO (optOf X.M X.g hi) s len len fun h => bndO (optOf X.M X.g lo) s h 0 fun l => Bool.rec (k .emp s) (natK (Nat.add of (Nat.mul l n)) fun o => natK (Nat.sub h l) fun n => k (.sl i o n none) s) (or (Nat.beq l 0) (Nat.blt l len))) := rfl
        rw [e] at h ⊢
        obtain ⟨rc, rn, rt, rz, r1, r2⟩ := rowK_ne h
        rw [r2] at h ⊢
        obtain ⟨r3, r4⟩ := test_ne h
        rw [r4] at h ⊢
        have hz : rz = n := Nat.eq_of_beq_eq_true r3
        obtain ⟨hh, p1, p2⟩ := bndO_ne h
        rw [p1] at h ⊢
        obtain ⟨l, l1, l2⟩ := bndO_ne h
        rw [l1] at h ⊢
        have run : ∀ {g : G} {a : Act} {w : World} {c' : Nat} {ad : Addr}, SR K X.M X.N g s a w → a.eval x = .slice (some ad) len c' → len ≤ c' → (execOp a.eval o).run K.P w = .ok (.value (.slice (if c' = l then some ad else some (ad.add (l * n))) (hh - l) (c' - l))) w ∧ l ≤ hh ∧ hh ≤ len := fun {g a w c' ad} hS g2 hlc => by
          have hb := p2 K _ g a w hX.g.symm hS
          have hl := l2 K _ g a w hX.g.symm hS
          refine ⟨fin (g := g) g2 (r_sliceAt hu hs fun _ => r_bounds (m := c') rfl ?_ hl), hl.le (Nat.zero_le _), hb.le (Nat.le_refl _)⟩
          cases hi with
          | none => exact ⟨rfl, hb⟩
          | some _ => exact hb.wide hlc
        cases hbl : or (Nat.beq l 0) (Nat.blt l len) with
        | false =>
          refine ⟨.emp, rfl, fun g a w hS => ?_⟩
          obtain ⟨e, c', g1, g2, g3, g4⟩ := h2 K _ g a w hX.g.symm hS
          obtain ⟨q1, q2, q3⟩ := run hS g2 g3
          refine ⟨_, q1, ?_⟩
          have hl0 : ¬ l < len := by
            intro hlt
            have : Nat.blt l len = true := by simpa [Nat.blt_eq] using hlt
            simp [this] at hbl
          have : hh - l = 0 := by omega
          rw [this]
          by_cases hc : c' = l
          · exact ⟨_, _, by rw [if_pos hc]⟩
          · exact ⟨_, _, by rw [if_neg hc]⟩
        | true =>
          refine ⟨.sl i (of + l * n) (hh - l) none, ?_, fun g a w hS => ?_⟩
          · show natK _ _ = _
            rw [natK_eq, natK_eq]
            rfl
          · obtain ⟨e, c', g1, g2, g3, g4⟩ := h2 K _ g a w hX.g.symm hS
            obtain ⟨q1, q2, q3⟩ := run hS g2 g3
            obtain ⟨e', r5, r6⟩ := hS.rep.ob _ _ r1
            rw [g1] at r5; cases r5
            have hez : e.sz = n := by
              obtain ⟨_, _, _, h9, _⟩ := r6
              rw [h9, hz]
            refine ⟨_, q1, e, c' - l, g1, ?_, by omega, ?_⟩
            · by_cases hc : c' = l
              · have hl0 : l = 0 := by
                  rcases Nat.lt_or_ge l len with h' | h'
                  · omega
                  · have : Nat.blt l len = false := by
                      cases hb' : Nat.blt l len with
                      | false => rfl
                      | true => have : l < len := by simpa [Nat.blt_eq] using hb'
                                omega
                    simp only [this, Bool.or_false] at hbl
                    exact Nat.eq_of_beq_eq_true hbl
                rw [if_pos hc, hl0]; simp
              · rw [if_neg hc, addr_add, Nat.add_assoc]
            · rw [hez] at g4 ⊢
              have : l * n + (c' - l) * n = c' * n := by rw [← Nat.add_mul]; congr 1; omega
              omega
  | nilsl =>
    simp only [sliF] at h ⊢
    obtain ⟨m, m1, m2⟩ := bndO_ne h
    rw [m1] at h ⊢
    obtain ⟨hh, p1, p2⟩ := bndO_ne h
    rw [p1] at h ⊢
    obtain ⟨l, l1, l2⟩ := bndO_ne h
    rw [l1]
    refine ⟨.nilsl, rfl, fun g a w hS => ?_⟩
    have g2 : a.eval x = .slice none 0 0 := h2 K _ g a w hX.g.symm hS
    have b1 := m2 K _ g a w hX.g.symm hS
    have b2 := p2 K _ g a w hX.g.symm hS
    have b3 := l2 K _ g a w hX.g.symm hS
    have z1 : m = 0 := Nat.le_zero.1 (b1.le (Nat.le_refl _))
    have z2 : hh = 0 := Nat.le_zero.1 (b2.le (Nat.le_refl _))
    have z3 : l = 0 := Nat.le_zero.1 (b3.le (Nat.le_refl _))
    subst z1 z2 z3
    refine ⟨_, fin (g := g) g2 (r_sliceAt hu hs fun _ => r_bounds (l := 0) (h := 0) (m := 0) b1 ?_ b3), rfl⟩
    cases hi with
    | none =>
      rcases hmh with hmh | hmh
      · subst hmh; exact ⟨rfl, rfl⟩
      · exact absurd rfl hmh
    | some _ => exact b2
  | _ => exact absurd rfl h

theorem ov_sliA {o : Oper} {t el : TypeId} {x : Operand} {lo hi : Option Operand} {n sz : Nat} (hX : Ok K X) (ho : o.op = .slice t x lo hi none) (hu : X.P.underlying t = some (.array n el)) (hs : sizeT X.P el = some sz) :
    OpP K X o (iSliA n sz (opdOf X.M X.g x) (optOf X.M X.g lo) (optOf X.M X.g hi)) := fun cal fr s k h => by
  rw [hX.P] at hu hs
  unfold iSliA at h ⊢
  obtain ⟨v, h1, h2⟩ := opd_spec h
  rw [h1] at h ⊢
  obtain ⟨i, of, rfl, h3⟩ := vPtr_ne h
  rw [h3] at h ⊢
  obtain ⟨hh, p1, p2⟩ := bndO_ne h
  rw [p1] at h ⊢
  obtain ⟨l, l1, l2⟩ := bndO_ne h
  rw [l1, cut_eq]
  refine ⟨_, rfl, fun g a w hS => ?_⟩
  obtain ⟨e, g1, g2⟩ := h2 K _ g a w hX.g.symm hS
  have hb := p2 K _ g a w hX.g.symm hS
  refine ⟨_, ?_, vr_cut g1⟩
  unfold execOp; rw [ho]
  refine map_val ?_
  show (Instr.sliceAt t (a.eval x) (lo.map a.eval) (hi.map a.eval) none).run K.P w = _
  rw [g2]
  unfold Instr.sliceAt
  rw [bind_ok (r_under hu)]
  simp only []
  rw [bind_ok (a := (⟨e.b, e.o + of, none⟩ : Addr)) (w' := w) rfl]
  have hr : (Instr.sliceBounds false n n (lo.map a.eval) (hi.map a.eval) none).run K.P w = .ok (l, hh, n) w := r_bounds (m := n) rfl (by
    cases hi with
    | none => exact ⟨rfl, hb⟩
    | some _ => exact hb) (l2 K _ g a w hX.g.symm hS)
  rw [bind_ok hr]
  simp only []
  rw [bind_ok (r_size hs)]
  split <;> rfl

theorem ov_sliS {o : Oper} {t : TypeId} {x : Operand} {lo hi : Option Operand} (hX : Ok K X) (ho : o.op = .slice t x lo hi none) (hu : X.P.underlying t = some .string) :
    OpP K X o (iSliS (opdOf X.M X.g x) (optOf X.M X.g lo) (optOf X.M X.g hi)) := fun cal fr s k h => by
  rw [hX.P] at hu
  unfold iSliS at h ⊢
  obtain ⟨v, h1, h2⟩ := opd_spec h
  rw [h1] at h ⊢
  obtain ⟨b, rfl, h3⟩ := vStr_ne h
  rw [h3] at h ⊢
  obtain ⟨hh, p1, p2⟩ := bndO_ne h
  rw [p1] at h ⊢
  obtain ⟨l, l1, l2⟩ := bndO_ne h
  rw [l1]
  refine ⟨_, rfl, fun g a w hS => ?_⟩
  have g2 : a.eval x = .string b := h2 K _ g a w hX.g.symm hS
  have hb := p2 K _ g a w hX.g.symm hS
  refine ⟨.string (b.extract l hh), ?_, rfl⟩
  unfold execOp; rw [ho]
  refine map_val ?_
  show (Instr.sliceAt t (a.eval x) (lo.map a.eval) (hi.map a.eval) none).run K.P w = _
  rw [g2]
  unfold Instr.sliceAt
  rw [bind_ok (r_under hu)]
  simp only []
  unfold Instr.slice
  rw [bind_ok (r_under hu)]
  simp only [Option.isSome_none, Bool.false_eq_true, if_false]
  have hr : (Instr.sliceBounds false b.size b.size (lo.map a.eval) (hi.map a.eval) none).run K.P w = .ok (l, hh, b.size) w := r_bounds (m := b.size) rfl (by
    cases hi with
    | none => exact ⟨rfl, hb⟩
    | some _ => exact hb) (l2 K _ g a w hX.g.symm hS)
  rw [bind_ok hr]
  rfl

/-! ### lengths -/

theorem lenV_ne {v : V} {k : Nat → Res} (h : lenV v k ≠ .fail) : ∃ n, lenV v k = k n ∧ ((∃ i o c, v = .sl i o n c) ∨ (v = .nilsl ∨ v = .emp) ∧ n = 0 ∨ ∃ b, v = .str b ∧ n = b.size) := by
  cases v with
  | sl i o n c => exact ⟨n, rfl, .inl ⟨i, o, c, rfl⟩⟩
  | nilsl => exact ⟨0, rfl, .inr (.inl ⟨.inl rfl, rfl⟩)⟩
  | emp => exact ⟨0, rfl, .inr (.inl ⟨.inr rfl, rfl⟩)⟩
  | str b => exact ⟨b.size, natK_eq _ _, .inr (.inr ⟨b, rfl, rfl⟩)⟩
  | _ => exact absurd rfl h

theorem vr_len {g : G} {v : V} {x : Value} {n : Nat} (h : VR g v x) (hn : (∃ i o c, v = .sl i o n c) ∨ (v = .nilsl ∨ v = .emp) ∧ n = 0 ∨ ∃ b, v = .str b ∧ n = b.size) : (∃ a c, x = .slice a n c) ∨ ∃ b, x = .string b ∧ n = b.size := by
  rcases hn with ⟨i, o, c, rfl⟩ | ⟨rfl | rfl, rfl⟩ | ⟨b, rfl, rfl⟩
  · obtain ⟨e, c', _, rfl, _⟩ := h; exact .inl ⟨_, _, rfl⟩
  · simp only [VR] at h; subst h; exact .inl ⟨_, _, rfl⟩
  · obtain ⟨a, c, rfl⟩ := h; exact .inl ⟨_, _, rfl⟩
  · simp only [VR] at h; exact .inr ⟨b, h, rfl⟩

/-- a call of a builtin that answers a value -/
theorem run_builtin {P : Program} {w w' : World} {a : Act} {o : Oper} {c : Call} {b : Builtin} {nx : Next} (ho : o.op = .call c) (hc : c.callee = .builtin b)
    (h : (builtin b c.argTypes o.type (c.args.map fun | .const _ => true | _ => false) (c.args.map a.eval)).run P w = .ok nx w') : (execOp a.eval o).run P w = .ok nx w' := by
  unfold execOp; rw [ho]
  simp only [resolve, hc]
  rw [bind_ok (a := ({ target := .builtin b c.argTypes o.type (c.args.map fun | .const _ => true | _ => false), args := c.args.map a.eval } : Deferred)) (w' := w) rfl]
  exact h

theorem args_list {a : Act} {c : Call} : c.args.map a.eval = ⟨c.args.toList.map a.eval⟩ := by
  cases c.args; simp

theorem run_len {P : Program} {w w' : World} {a : Act} {o : Oper} {c : Call} {x : Operand} {z : Value} (ho : o.op = .call c) (hc : c.callee = .builtin .len) (ha : c.args.toList = [x])
    (h : (Builtin.len_ c.argTypes o.type #[a.eval x]).run P w = .ok z w') : (execOp a.eval o).run P w = .ok (.value z) w' := by
  refine run_builtin ho hc ?_
  rw [args_list, ha]
  exact map_val h

theorem ov_len {o : Oper} {c : Call} {t e : TypeId} {x : Operand} (hX : Ok K X) (ho : o.op = .call c) (hc : c.callee = .builtin .len) (ha : c.args.toList = [x]) (ht : c.argTypes[0]? = some t) (hu : X.P.underlying t = some (.slice e)) :
    OpP K X o (iLen (opdOf X.M X.g x)) := fun cal fr s k h => by
  rw [hX.P] at hu
  unfold iLen at h ⊢
  obtain ⟨v, h1, h2⟩ := opd_spec h
  rw [h1] at h ⊢
  have fin : ∀ (n : Nat) (g : G) (a : Act) (w : World) (ad : Option Addr) (cc : Nat), a.eval x = .slice ad n cc → ∃ z, (execOp a.eval o).run K.P w = .ok (.value z) w ∧ VR g (.int .i64 (.ofNat n)) z := fun n g a w ad cc hv => by
    refine ⟨.int .i64 n, run_len ho hc ha ?_, rfl⟩
    rw [hv]
    unfold Builtin.len_
    simp only [ht]
    show (underlying t >>= _).run K.P w = _
    rw [bind_ok (r_under hu)]
    rfl
  cases v with
  | sl i of n cap => exact ⟨_, rfl, fun g a w hS => by obtain ⟨e, c', _, g2, _⟩ := h2 K _ g a w hX.g.symm hS; exact fin n g a w _ _ g2⟩
  | nilsl => exact ⟨.int .i64 (.ofNat 0), rfl, fun g a w hS => fin 0 g a w _ _ (h2 K _ g a w hX.g.symm hS)⟩
  | emp => exact ⟨.int .i64 (.ofNat 0), rfl, fun g a w hS => by obtain ⟨ad, c', g2⟩ := h2 K _ g a w hX.g.symm hS; exact fin 0 g a w _ _ g2⟩
  | _ => exact absurd rfl h

theorem ov_lenS {o : Oper} {c : Call} {t : TypeId} {x : Operand} (hX : Ok K X) (ho : o.op = .call c) (hc : c.callee = .builtin .len) (ha : c.args.toList = [x]) (ht : c.argTypes[0]? = some t) (hu : X.P.underlying t = some .string) :
    OpP K X o (iLenS (opdOf X.M X.g x)) := fun cal fr s k h => by
  rw [hX.P] at hu
  unfold iLenS at h ⊢
  obtain ⟨v, h1, h2⟩ := opd_spec h
  rw [h1] at h ⊢
  obtain ⟨b, rfl, h3⟩ := vStr_ne h
  rw [h3, natK_eq]
  refine ⟨_, rfl, fun g a w hS => ⟨.int .i64 b.size, run_len ho hc ha ?_, rfl⟩⟩
  have hv : a.eval x = .string b := h2 K _ g a w hX.g.symm hS
  rw [hv]
  unfold Builtin.len_
  simp only [ht]
  show (underlying t >>= _).run K.P w = _
  rw [bind_ok (r_under hu)]
  rfl

theorem ov_lenA {o : Oper} {c : Call} {t e : TypeId} {x : Operand} {n : Nat} (hX : Ok K X) (ho : o.op = .call c) (hc : c.callee = .builtin .len) (ha : c.args.toList = [x]) (ht : c.argTypes[0]? = some t) (hu : X.P.underlying t = some (.array n e)) :
    OpP K X o (iLenA n (opdOf X.M X.g x)) := fun cal fr s k h => by
  rw [hX.P] at hu
  unfold iLenA at h ⊢
  obtain ⟨v, h1, h2⟩ := opd_spec h
  rw [h1]
  refine ⟨_, rfl, fun g a w hS => ⟨.int .i64 n, run_len ho hc ha ?_, rfl⟩⟩
  unfold Builtin.len_
  simp only [ht]
  show (underlying t >>= _).run K.P w = _
  rw [bind_ok (r_under hu)]
  cases a.eval x <;> rfl

theorem mapV_ne {v : V} {s : St} {k : List (V × V) → Res} (h : mapV v s k ≠ .fail) : (v = .nilmap ∧ mapV v s k = k []) ∨ ∃ i es, v = .map i ∧ s.t.get i = some (.map es) ∧ mapV v s k = k es := by
  cases v with
  | nilmap => exact .inl ⟨rfl, rfl⟩
  | map i =>
    have e : mapV (.map i) s k = may (s.t.get i) fun o => mapOb o k := rfl
    rw [e] at h ⊢
    obtain ⟨ob, h1, h2⟩ := may_ne h
    rw [h2] at h ⊢
    cases ob with
    | map es => exact .inr ⟨i, es, rfl, h1, rfl⟩
    | _ => exact absurd rfl h
  | _ => exact absurd rfl h

theorem ov_lenM {o : Oper} {c : Call} {t a' b' : TypeId} {x : Operand} (hX : Ok K X) (ho : o.op = .call c) (hc : c.callee = .builtin .len) (ha : c.args.toList = [x]) (ht : c.argTypes[0]? = some t) (hu : X.P.underlying t = some (.map a' b')) :
    OpP K X o (iLenM (opdOf X.M X.g x)) := fun cal fr s k h => by
  rw [hX.P] at hu
  unfold iLenM at h ⊢
  obtain ⟨v, h1, h2⟩ := opd_spec h
  rw [h1] at h ⊢
  rcases mapV_ne h with ⟨rfl, h3⟩ | ⟨i, es, rfl, h3, h4⟩
  · rw [h3, natK_eq]
    refine ⟨_, rfl, fun g a w hS => ⟨.int .i64 0, run_len ho hc ha ?_, rfl⟩⟩
    have hv : a.eval x = .map none := h2 K _ g a w hX.g.symm hS
    rw [hv]
    unfold Builtin.len_
    simp only [ht]
    show (underlying t >>= _).run K.P w = _
    rw [bind_ok (r_under hu)]
    rfl
  · rw [h4, natK_eq]
    refine ⟨_, rfl, fun g a w hS => ⟨.int .i64 es.length, run_len ho hc ha ?_, rfl⟩⟩
    obtain ⟨e, g1, g2⟩ := h2 K _ g a w hX.g.symm hS
    obtain ⟨e', g3, g4⟩ := hS.rep.ob _ _ h3
    rw [g1] at g3; cases g3
    obtain ⟨en, q1, q2⟩ := g4
    rw [g2]
    unfold Builtin.len_
    simp only [ht]
    show (underlying t >>= _).run K.P w = _
    rw [bind_ok (r_under hu)]
    have hg : (getObj e.b).run K.P w = .ok (.map en es.length) w := by simp [getObj, Sem.run, q1]
    show (getObj e.b >>= _).run K.P w = _
    rw [bind_ok hg]
    have : en.size = es.length := by rw [← q2.length]; simp
    simp [this]
    rfl

end Go.AE

namespace Go.AE
variable {K : Kon} {X : Cx}

theorem VR.drop_draw {K : Kon} {M N : Nat} {g : G} {s : St} {a : Act} {w : World} (h : SR K M N g s a w) : SR K M N g s a w.drew where
  size := h.size
  tm := h.tm
  loc := h.loc
  dfs := h.dfs
  rep := ⟨fun i ob hi => let ⟨e, h1, h2⟩ := h.rep.ob i ob hi; ⟨e, h1, h2.same (.refl g) rfl⟩, h.rep.inj, h.rep.glob⟩
  nb := h.nb

theorem Did.of_draw {fr : Option Nat} {g : G} {s : St} {w : World} {g' : G} {s' : St} {w' : World} (h : Did K fr g s w.drew g' s' w') : Did K fr g s w g' s' w' :=
  ⟨⟨h.stp.le, h.stp.size, h.stp.keep, h.stp.own, h.stp.os, h.stp.out, h.stp.tape⟩, h.rep, h.new⟩

/-- A ROW THAT GOES ON UNDER ANOTHER NUMBER. -/
theorem Rep.move {g : G} {t t' : T Ob} {w w' : World} {i j : Nat} {e e' : Gh} {ob ob' : Ob} (h : Rep K g t w) (hi : t.get i = some ob) (hg : g i = some e) (hK : K.g ≤ i) (hj : g j = none) (hKj : K.g ≤ j) (he : e'.b = e.b)
    (ht : ∀ q, t'.get q = if q = j then some ob' else if q = i then none else t.get q) (hs : w'.heap.size = w.heap.size) (hw : ∀ b, b ≠ e.b → w'.heap[b]? = w.heap[b]?)
    (hr : w'.os = w.os ∧ w'.output = w.output ∧ w'.tape = w.tape) (ho : ObR K (g.put j e') w' e' ob') : Rep K (g.put j e') t' w' ∧ Stp K g t w (g.put j e') t' w' := by
  have hle := G.le_put (e := e') hj
  have own : Own K g t e.b := ⟨i, ob, e, hK, hi, hg, rfl⟩
  have hij : i ≠ j := fun q => by subst q; rw [hj] at hg; cases hg
  have put : ∀ q f, q ≠ j → (g.put j e') q = some f → g q = some f := fun q f hq hf => by simpa [G.put, hq] using hf
  refine ⟨⟨fun q o hq => ?_, fun p q a b e1 e2 hp hq g1 g2 hne => ?_, fun q hq => ?_⟩, ⟨hle, by omega, fun b _ hb => hw b fun he => hb (he ▸ own), fun b hb => ?_, hr.1, hr.2.1, hr.2.2⟩⟩
  · rw [ht] at hq
    by_cases hqj : q = j
    · subst hqj; rw [if_pos rfl] at hq; cases hq; exact ⟨e', by simp [G.put], ho⟩
    · rw [if_neg hqj] at hq
      by_cases hqi : q = i
      · rw [if_pos hqi] at hq; cases hq
      · rw [if_neg hqi] at hq
        obtain ⟨f, h1, h2⟩ := h.ob q o hq
        exact ⟨f, hle _ _ h1, h2.same hle (hw _ (h.inj q i o ob f e hq hi h1 hg hqi))⟩
  · rw [ht] at hp hq
    by_cases hpj : p = j
    · by_cases hqj : q = j
      · omega
      · rw [if_neg hqj] at hq
        by_cases hqi : q = i
        · rw [if_pos hqi] at hq; cases hq
        · rw [if_neg hqi] at hq
          subst hpj
          simp [G.put] at g1
          subst g1
          have := h.inj q i b ob e2 e hq hi (put q e2 hqj g2) hg hqi
          rw [he]; exact fun e => this e.symm
    · rw [if_neg hpj] at hp
      by_cases hpi : p = i
      · rw [if_pos hpi] at hp; cases hp
      · rw [if_neg hpi] at hp
        by_cases hqj : q = j
        · subst hqj
          simp [G.put] at g2
          subst g2
          have := h.inj p i a ob e1 e hp hi (put p e1 hpj g1) hg hpi
          rw [he]; exact this
        · rw [if_neg hqj] at hq
          by_cases hqi : q = i
          · rw [if_pos hqi] at hq; cases hq
          · rw [if_neg hqi] at hq
            exact h.inj p q a b e1 e2 hp hq (put p e1 hpj g1) (put q e2 hqj g2) hne
  · obtain ⟨f, h1, h2⟩ := h.glob q hq
    exact ⟨f, hle _ _ h1, h2.1, h2.2.1, hs ▸ h2.2.2⟩
  · obtain ⟨q, o, f, h0, h1, h2, h3⟩ := hb
    rw [ht] at h1
    by_cases hqj : q = j
    · subst hqj
      simp [G.put] at h2
      subst h2
      exact .inl (h3 ▸ he ▸ own)
    · rw [if_neg hqj] at h1
      by_cases hqi : q = i
      · rw [if_pos hqi] at h1; cases h1
      · rw [if_neg hqi] at h1
        exact .inl ⟨q, o, f, h0, h1, put q f hqj h2, h3⟩

/-- the first cells of what is appended or copied -/
theorem firstV_ne {s : St} {sz n : Nat} {v : V} {k : List V → Res} (h : firstV s sz n v k ≠ .fail) : ∃ l, firstV s sz n v k = k l ∧
    ∀ (K : Kon) M N g a w x, SR K M N g s a w → VR g v x → (∀ b, v = .str b → n ≤ b.size) → (v = .nilsl ∨ v = .emp → n = 0) → ∃ xs, VRs g l xs ∧ (∀ w', w'.heap = w.heap → (Builtin.firstCells sz n x).run K.P w' = .ok xs.toArray w') ∧ xs.length = n * sz ∧
      ∀ i o len cap e, v = .sl i o len cap → g i = some e → ∀ (q : Nat) (y : Value), xs[q]? = some y → w.cell? ⟨e.b, e.o + o + q, none⟩ = some y := by
  cases v with
  | sl i o len cap =>
    simp only [firstV] at h ⊢
    obtain ⟨c, m, t, z, h1, h2⟩ := rowK_ne h
    rw [h2] at h ⊢
    obtain ⟨l, h3, h4, h5⟩ := getK_ne h
    refine ⟨l, h3, fun K M N g a w x hS hv _ _ => ?_⟩
    obtain ⟨e, cc, g1, rfl, _⟩ := hv
    obtain ⟨e', g3, g4⟩ := hS.rep.ob _ _ h1
    rw [g1] at g3; cases g3
    obtain ⟨xs, r1, r2⟩ := read_cells g4 h5
    have hl : xs.length = n * sz := by rw [r1.length, h4]; rfl
    refine ⟨xs, r1, ?_, hl, fun i' o' l' c' e'' q1 q2 => by cases q1; rw [g1] at q2; cases q2; exact r2⟩
    intro w' hw
    exact run_firstCells_some w' sz n _ len cc xs hl (fun j u hj => by rw [addr_add]; have := r2 j u hj; simpa [World.cell?, hw] using this)
  | nilsl =>
    refine ⟨[], rfl, fun K M N g a w x hS hv _ hn => ⟨[], rfl, ?_, by simp [hn (.inl rfl)], fun _ _ _ _ _ q => by cases q⟩⟩
    simp only [VR] at hv
    subst hv
    intro w' _
    exact run_firstCells_none w' sz n 0 0
  | emp =>
    refine ⟨[], rfl, fun K M N g a w x hS hv _ hn => ⟨[], rfl, ?_, by simp [hn (.inr rfl)], fun _ _ _ _ _ q => by cases q⟩⟩
    obtain ⟨ad, c, rfl⟩ := hv
    intro w' _
    rw [hn (.inr rfl)]
    simp [Builtin.firstCells, loadCells, loadCellsFrom]
  | str b =>
    simp only [firstV] at h ⊢
    obtain ⟨h1, h2⟩ := test_ne h
    have hsz : sz = 1 := Nat.eq_of_beq_eq_true h1
    refine ⟨_, h2, fun K M N g a w x hS hv hb _ => ?_⟩
    simp only [VR] at hv
    subst hv
    have hn := hb b rfl
    refine ⟨(b.data.toList.take n).map fun u => .int .u8 (u.toNat : Int), ?_, ?_, by simp [hsz]; omega, fun _ _ _ _ _ q => by cases q⟩
    · unfold bytesV
      generalize b.data.toList.take n = l
      induction l with
      | nil => rfl
      | cons u l ih => exact ⟨_, _, rfl, rfl, ih⟩
    · intro w' _
      simp only [Builtin.firstCells]
      show Result.ok _ w' = _
      congr 1
      apply Array.ext'
      simp [ByteArray.data_extract, List.extract_eq_take_drop]
  | _ => exact absurd rfl h

theorem nextcap_le {n c : Nat} (h : c < n) : Builtin.nextslicecap n c ≤ 2 * n + 768 := by
  unfold Builtin.nextslicecap
  split
  · omega
  · split
    · omega
    · have : ∀ (r c : Nat), c ≤ 2 * n + 768 → Builtin.growBy n r c ≤ 2 * n + 768 := by
        intro r
        induction r with
        | zero => intro c hc; exact hc
        | succ r ih =>
          intro c hc
          unfold Builtin.growBy
          split
          · exact hc
          · exact ih _ (by omega)
      exact this 4 c (by omega)

theorem zeroCells_size (z : Array Value) (n : Nat) : (Builtin.zeroCells z n).size = n * z.size := by simp [Builtin.zeroCells]

/-- WHAT AN append DOES WITH ITS SECOND ARGUMENT: n elements, so many cells. -/
structure App (P : Program) (st tx ty el : TypeId) (sz : Nat) (zx : Value) (y : Value) (n : Nat) (news : List Value) (w : World) : Prop where
  len : news.length = n * sz
  one : ∀ u ∈ news, u.oneCell' = true
  zero : n = 0 → (Builtin.append_ #[st, tx] ty #[.slice none 0 0, y]).run P w = .ok (.slice none 0 0) w
  fits : ∀ (b off sLen sCap : Nat) (w' : World), sLen + n ≤ sCap → (storeCells ⟨b, off + sLen * sz, none⟩ news).run P w = .ok () w' →
    (Builtin.append_ #[st, tx] ty #[.slice (some ⟨b, off, none⟩) sLen sCap, y]).run P w = .ok (.slice (some ⟨b, off, none⟩) (sLen + n) sCap) w'
  grow : ∀ (base : Option Addr) (sLen sCap : Nat) (olds : List Value), 0 < n → (Builtin.firstCells sz sLen (.slice base sLen sCap)).run P w.drew = .ok olds.toArray w.drew → sCap < sLen + n → sLen + n ≤ 65536 →
    (Builtin.append_ #[st, tx] ty #[.slice base sLen sCap, y]).run P w = .ok (.slice (some ⟨w.heap.size, 0, none⟩) (sLen + n) (grownCap w (sLen + n) sCap el))
      (w.drew.alloc (.cells ((olds ++ news).toArray ++ Builtin.zeroCells zx.cells (grownCap w (sLen + n) sCap el - (sLen + n))) el))

theorem App.of_src {P : Program} {st tx ty el : TypeId} {zx y : Value} {n : Nat} {news : List Value} {w : World} {i : TypeInfo} (hu : P.underlying st = some (.slice el)) (hi : P.info? el = some i) (hz : i.zero = some zx) (hb6 : i.bytes ≤ 65536)
    (h : Src P i.size tx y n news w) : App P st tx ty el i.size zx y n news w where
  len := h.newsLen
  one := h.one
  zero hn := by
    subst hn
    have hc := h.cells
    rcases h.kind with ⟨e', hk⟩ | hk <;> simp [Builtin.append_, run_underlying hu, run_underlying hk, sizeOf, typeInfo, hi, h.len, hc]
  fits b off sLen sCap w' hle hst := by
    have hc := h.cells
    rcases h.kind with ⟨e', hk⟩ | hk <;> simp [Builtin.append_, run_underlying hu, run_underlying hk, sizeOf, typeInfo, hi, h.len, hle, hc, addr_add, hst]
  grow base sLen sCap olds _ hold hlt h6 := by
    refine run_append_grow_src w st tx ty el i zx hu hi hz base sLen sCap olds hold _ n news h hlt (by omega) ?_
    have h1 := nextcap_le hlt
    have h2 : Builtin.nextslicecap (sLen + n) sCap * i.bytes ≤ 131840 * 65536 := Nat.mul_le_mul (by omega) hb6
    omega

theorem App.of_zeros {P : Program} {st tx ty el : TypeId} {zx : Value} {n : Nat} {w : World} {i : TypeInfo} {kq kn : IntKind} (hu : P.underlying st = some (.slice el)) (hk : P.underlying tx = some (.int kn)) (hi : P.info? el = some i) (hz : i.zero = some zx) (hb6 : i.bytes ≤ 65536)
    (hs : 0 < i.size) (hzs : zx.cells.size = i.size) (h1 : ∀ u ∈ (Builtin.zeroCells zx.cells n).toList, u.oneCell' = true) (hn6 : n ≤ 65536) : App P st tx ty el i.size zx (.int kq n) n (Builtin.zeroCells zx.cells n).toList w := by
  have hw : IntKind.i64.wrap (n : Int) = n := IntWalk.i64_in _ (by omega)
  have hneg : ¬ ((n : Int) < 0) := by omega
  have hnb : n * i.bytes ≤ 4294967296 := Nat.le_trans (Nat.mul_le_mul hn6 hb6) (by decide)
  have h48i : ¬ (281474976710656 < (n : Int) * (i.bytes : Int)) := by rw [← Int.natCast_mul]; omega
  refine ⟨by simp [zeroCells_size, hzs], h1, fun hn => ?_, fun b off sLen sCap w' hle hst => ?_, fun base sLen sCap olds h0 hold hlt h6 => ?_⟩
  · subst hn
    have hw0 : IntKind.i64.wrap 0 = 0 := IntWalk.i64_in 0 (by omega)
    simp [Builtin.append_, run_underlying hu, run_underlying hk, sizeOf, typeInfo, hi, asInt, asIntOf, hw0]
  · by_cases h0 : n = 0
    · subst h0
      have hw' : w' = w := by
        have : (Builtin.zeroCells zx.cells 0).toList = [] := by simp [Builtin.zeroCells]
        rw [this] at hst
        simp [storeCells] at hst
        exact hst.symm
      subst hw'
      have hw0 : IntKind.i64.wrap 0 = 0 := IntWalk.i64_in 0 (by omega)
      have hle' : sLen ≤ sCap := hle
      simp [Builtin.append_, run_underlying hu, run_underlying hk, sizeOf, typeInfo, hi, asInt, asIntOf, addr_add, storeCells, hw0, hle']
    · have hns : ¬ (n * i.size = 0) := Nat.mul_ne_zero h0 (by omega)
      simp [Builtin.append_, run_underlying hu, run_underlying hk, sizeOf, typeInfo, zeroValue, hi, hz, asInt, asIntOf, hw, hneg, h48i, hle, h0, hns, addr_add, hst]
  · have h2 := nextcap_le hlt
    have h3 : Builtin.nextslicecap (sLen + n) sCap * i.bytes ≤ 131840 * 65536 := Nat.mul_le_mul (by omega) hb6
    have := Lib.run_append_grow_zeros w st tx ty el i zx kq kn hu hk hi hz base sLen sCap olds hold n h0 hs hlt (by omega) (by omega) (by omega)
    rw [this]
    congr 3
    apply Array.ext'
    simp

/-- what is appended -/
def NewOk (K : Kon) (X : Cx) (new : St → (Nat → List V → Res) → Res) (y : Operand) (st tx ty el : TypeId) (sz : Nat) (zx : Value) : Prop := ∀ s k, new s k ≠ .fail → ∃ n l, new s k = k n l ∧
  ∀ g a w, SR K X.M X.N g s a w → allCells l = true → ∃ xs, VRs g l xs ∧ App K.P st tx ty el sz zx (a.eval y) n xs w

theorem newL_ok {y : Operand} {st tx ty el : TypeId} {zx : Value} {i : TypeInfo} (hX : Ok K X) (hk : (∃ e', K.P.underlying tx = some (.slice e')) ∨ K.P.underlying tx = some .string) (hu : K.P.underlying st = some (.slice el)) (hi : K.P.info? el = some i) (hz : i.zero = some zx) (hb6 : i.bytes ≤ 65536) :
    NewOk K X (newL i.size (opdOf X.M X.g y)) y st tx ty el i.size zx := fun s k h => by
  unfold newL at h ⊢
  obtain ⟨v, h1, h2⟩ := opd_spec h
  rw [h1] at h ⊢
  obtain ⟨n, h3, h4⟩ := lenV_ne h
  rw [h3] at h ⊢
  obtain ⟨l, h5, h6⟩ := firstV_ne h
  refine ⟨n, l, h5, fun g a w hS hc => ?_⟩
  have hv := h2 K _ g a w hX.g.symm hS
  obtain ⟨xs, r1, r2, r3, _⟩ := h6 K _ _ g a w _ hS hv (fun b hb => by
    subst hb
    rcases h4 with ⟨i, o, c, q⟩ | ⟨q | q, _⟩ | ⟨b', q, rfl⟩ <;> cases q
    exact Nat.le_refl _) (fun hb => by
    rcases h4 with ⟨i, o, c, rfl⟩ | ⟨_, q⟩ | ⟨b', rfl, _⟩
    · rcases hb with q | q <;> cases q
    · exact q
    · rcases hb with q | q <;> cases q)
  refine ⟨xs, r1, App.of_src hu hi hz hb6 ⟨hk, fun w' => ?_, r2 w rfl, r2 w.drew rfl, r3, r1.oneCell hc⟩⟩
  rcases vr_len hv h4 with ⟨ad, c, q⟩ | ⟨b, q, rfl⟩ <;> rw [q] <;> rfl

theorem zero_cells (z : Array Value) (n : Nat) : (Builtin.zeroCells z n).toList = (List.range (n * z.toList.length)).map fun i => z.toList.toArray[i % z.toList.length]! := by
  simp [Builtin.zeroCells]

theorem newZ_ok {y : Operand} {st tx ty el : TypeId} {zx : Value} {i : TypeInfo} {z : List V} {kn : IntKind} (hX : Ok K X) (hk : K.P.underlying tx = some (.int kn)) (hu : K.P.underlying st = some (.slice el)) (hi : K.P.info? el = some i) (hz : i.zero = some zx) (hb6 : i.bytes ≤ 65536)
    (hzz : ∃ v, (∀ g, VR g v zx) ∧ cellsV v = z) (hzs : zx.cells.size = i.size) (hs : 0 < i.size) : NewOk K X (newZ z (opdOf X.M X.g y)) y st tx ty el i.size zx := fun s k h => by
  unfold newZ at h ⊢
  obtain ⟨v, h1, h2⟩ := opd_spec h
  rw [h1] at h ⊢
  obtain ⟨q, n, rfl, h3⟩ := vNat_ne h
  rw [h3] at h ⊢
  obtain ⟨h4, h5⟩ := test_ne h
  refine ⟨n, rep z n, h5, fun g a w hS hc => ?_⟩
  have hv : a.eval y = .int q (n : Int) := h2 K _ g a w hX.g.symm hS
  obtain ⟨v, hv1, hv2⟩ := hzz
  have hr := rep_cells (hv2 ▸ (hv1 g).cells_all) n
  rw [← zero_cells] at hr
  exact ⟨_, hr, hv ▸ App.of_zeros hu hk hi hz hb6 hs hzs (hr.oneCell hc) (Nat.le_of_ble_eq_true h4)⟩

theorem new_id {M N : Nat} {fr : Option Nat} {g : G} {s : St} {a : Act} {w : World} {i : Nat} (hS : SR K M N g s a w) (hf : Free K fr g s.n) (hi : i = fr.getD s.n) : g i = none ∧ K.g ≤ i := by
  cases fr with
  | none =>
    subst hi
    refine ⟨?_, hS.low⟩
    cases hh : g s.n with
    | none => exact hh
    | some e => exact absurd (hS.nb _ _ hh) (Nat.lt_irrefl _)
  | some j => subst hi; exact ⟨hf.1, hf.2.1⟩

/-- the row that grew -/
theorem grow_did {M N : Nat} {fr : Option Nat} {g : G} {s s' : St} {a : Act} {w : World} {j el sz n need : Nat} {c : T V} {l : List V} {xs : List Value} {z : Value} (hS : SR K M N g s a w) (hf : Free K fr g s.n)
    (ht : ∀ q, s'.t.get q = if q = j then some (.cells c l.length el sz) else s.t.get q) (hj : j = fr.getD s.n) (hn : fr = none → s'.n = s.n + 1) (hc : ∀ q v, c.get q = some v → l[q]? = some v)
    (hx : VRs g l xs) (hl : l.length = need * sz) (hz : z.cells.size = sz) (hcap : need ≤ n) :
    Did K fr g s w (g.put j ⟨w.heap.size, 0, n * sz, sz⟩) s' (w.drew.alloc (.cells (xs.toArray ++ Builtin.zeroCells z.cells (n - need)) el)) ∧
      VR (g.put j ⟨w.heap.size, 0, n * sz, sz⟩) (.sl j 0 need none) (.slice (some ⟨w.heap.size, 0, none⟩) need n) := by
  have hxl := hx.length
  obtain ⟨d1, d2⟩ := rowNew_did (ext := n * sz) (arr := xs.toArray ++ Builtin.zeroCells z.cells (n - need)) (ty := el) (VR.drop_draw hS) hf ht hj hn hc hx (fun q y hq => by
    have : q < xs.length := (List.getElem?_eq_some_iff.1 hq).1
    rw [Array.getElem?_append_left (by simpa using this)]; simpa using hq) (by rw [hl]; exact Nat.mul_le_mul_right _ hcap) (by
    simp [zeroCells_size, hz, hxl, hl, ← Nat.add_mul]
    exact Nat.mul_le_mul_right _ (by omega))
  refine ⟨Did.of_draw d1, ⟨_, n, d2, rfl, hcap, ?_⟩⟩
  simp

theorem ov_app {o : Oper} {c : Call} {st tx el : TypeId} {x y : Operand} {sz : Nat} {z : List V} {i : TypeInfo} {new : St → (Nat → List V → Res) → Res} (hX : Ok K X) (ho : o.op = .call c) (hc : c.callee = .builtin .append) (ha : c.args.toList = [x, y]) (ht : c.argTypes.toList = [st, tx])
    (hu : X.P.underlying st = some (.slice el)) (hs : sizeT X.P el = some sz) (hi : X.P.info? el = some i) (hb : Nat.ble i.bytes 65536 = true) (hz : zeroT X.P el = some z) (zx : Value) (hzx : i.zero = some zx) (hnew : NewOk K X new y st tx o.type el sz zx) :
    OpV K X o (iApp X.g el sz new (opdOf X.M X.g x)) := fun cal fr s k h => by
  rw [hX.P] at hu hs hi hz
  unfold iApp at h ⊢
  obtain ⟨v, e1, e2⟩ := opd_spec h
  rw [e1] at h ⊢
  obtain ⟨n, new', e3, e4⟩ := hnew _ _ h
  rw [e3] at h ⊢
  obtain ⟨e5, e6⟩ := test_ne h
  rw [e6] at h ⊢
  have hat : c.argTypes = #[st, tx] := by cases hq : c.argTypes; rw [hq] at ht; simp at ht; simp [ht]
  have hb6 : i.bytes ≤ 65536 := Nat.le_of_ble_eq_true hb
  obtain ⟨ie, hie, hisz⟩ := sizeT_some hs
  rw [hi] at hie; cases hie
  obtain ⟨it, zx', zv, z1, z2, z3, z4, z5⟩ := zero_list (g := fun _ => none) hz
  rw [hi] at z1; cases z1
  rw [hzx] at z2; cases z2
  have hzsz : zx.cells.size = sz := by rw [z3.len, z4, z5, hisz]
  have run : ∀ {a : Act} {w w' : World} {r : Value} {sv : Value}, a.eval x = sv → (Builtin.append_ #[st, tx] o.type #[sv, a.eval y]).run K.P w = .ok r w' → (execOp a.eval o).run K.P w = .ok (.value r) w' := fun {a w w' r sv} hsv hr => by
    refine run_builtin ho hc ?_
    rw [args_list, ha, hat]
    subst hsv
    exact map_val hr
  -- the branch that lays a new row
  have grow : ∀ (m : Nat) (old : List V) (s0 : St) (_ : s0.n = s.n) (k' : KVS), appGrow el sz fr m (old ++ new') s0 k' ≠ .fail → ∃ j s' cc, appGrow el sz fr m (old ++ new') s0 k' = k' (.sl j 0 m none) s' ∧ SameF fr s0 s' ∧ m ≤ 65536 ∧
      (∀ q, s'.t.get q = if q = j then some (.cells cc (old ++ new').length el sz) else s0.t.get q) ∧ j = fr.getD s0.n ∧ (fr = none → s'.n = s0.n + 1) ∧ (∀ q v, cc.get q = some v → (old ++ new')[q]? = some v) := fun m old s0 _ k' hg => by
    unfold appGrow at hg ⊢
    obtain ⟨q1, q2⟩ := test_ne hg
    rw [q2] at hg ⊢
    obtain ⟨j, s', cc, h1, h2, h3, h4, h5, h6, h7⟩ := rowNew_ne hg
    exact ⟨j, s', cc, h1, h2, Nat.le_of_ble_eq_true q1, h4, h5, h6, h7⟩
  have mach : ∀ {g : G} {a : Act} {w : World} {base : Option Addr} {sLen sCap m : Nat} {olds news : List Value}, a.eval x = .slice base sLen sCap → (∀ w', w'.heap = w.heap → (Builtin.firstCells sz sLen (.slice base sLen sCap)).run K.P w' = .ok olds.toArray w') →
      App K.P st tx o.type el sz zx (a.eval y) n news w → 0 < n → m = sLen + n → m ≤ 65536 → sCap < m →
      ∃ cap, m ≤ cap ∧ (execOp a.eval o).run K.P w = .ok (.value (.slice (some ⟨w.heap.size, 0, none⟩) m cap)) (w.drew.alloc (.cells ((olds ++ news).toArray ++ Builtin.zeroCells zx.cells (cap - m)) el)) := fun {g a w base sLen sCap m olds news} hv hold hsrc h0 hm hm6 hlt => by
    subst hm
    exact ⟨grownCap w (sLen + n) sCap el, grownCap_ge _ _ _ _, run hv (hsrc.grow base sLen sCap olds h0 (hold w.drew rfl) hlt hm6)⟩
  cases v with
  | nilsl =>
    have e : appV X.g el sz fr s n new' .nilsl k = Bool.rec (appGrow el sz fr n new' s k) (k .nilsl s) (Nat.beq n 0) := rfl
    rw [e] at h ⊢
    cases hn0 : Nat.beq n 0 with
    | true =>
      have hn : n = 0 := Nat.eq_of_beq_eq_true hn0
      subst hn
      refine ⟨.nilsl, s, rfl, SameF.refl _ _, fun g a w hS hf => ?_⟩
      have hv : a.eval x = .slice none 0 0 := e2 K _ g a w hX.g.symm hS
      obtain ⟨xs, x1, x2⟩ := e4 g a w hS e5
      exact ⟨g, w, _, .slice none 0 0, run hv (x2.zero rfl), .inl rfl, rfl, Did.same hS.rep⟩
    | false =>
      rw [hn0] at h
      obtain ⟨j, s', cc, h1, h2, h3, h4, h5, h6, h7⟩ := grow n [] s rfl k h
      simp only [List.nil_append] at h1 h4 h7
      have hn : 0 < n := by
        rcases Nat.eq_zero_or_pos n with h0 | h0
        · subst h0; simp at hn0
        · exact h0
      refine ⟨_, s', h1, h2, fun g a w hS hf => ?_⟩
      have hv : a.eval x = .slice none 0 0 := e2 K _ g a w hX.g.symm hS
      obtain ⟨xs, x1, x2⟩ := e4 g a w hS e5
      obtain ⟨cap, c1, c2⟩ := mach (g := g) (olds := []) (news := xs) (m := n) hv (fun w' _ => run_firstCells_none w' sz 0 0 0) x2 hn (by omega) h3 hn
      obtain ⟨d1, d2⟩ := grow_did (z := zx) (n := cap) (need := n) hS hf h4 h5 h6 h7 x1 (by rw [← x1.length]; exact x2.len) hzsz c1
      exact ⟨_, _, _, _, c2, .inl rfl, d2, by simpa using d1⟩
  | sl id of len cap =>
    have e : appV X.g el sz fr s n new' (.sl id of len cap) k = appSl X.g el sz fr s (.sl id of len cap) id of len cap n new' k := rfl
    rw [e] at h ⊢
    cases cap with
    | some cp =>
      have e : appSl X.g el sz fr s (.sl id of len (some cp)) id of len (some cp) n new' k = natK (Nat.add len n) fun m => Bool.rec (test (Nat.ble len cp) (firstV s sz len (.sl id of len (some cp)) fun old => appGrow el sz fr m (old ++ new') s k)) (wr X.g id (Nat.add of (Nat.mul len sz)) new' s fun s => k (.sl id of m (some cp)) s) (Nat.ble m cp) := rfl
      rw [e, natK_eq] at h ⊢
      cases hfit : Nat.ble (Nat.add len n) cp with
      | true =>
        rw [hfit] at h
        have hle : len + n ≤ cp := Nat.le_of_ble_eq_true hfit
        obtain ⟨rc, rn, rt, rz, c', s', f1, f2, f3, f4, f5, f6, f7⟩ := wr_ne (k := fun s => k (.sl id of (Nat.add len n) (some cp)) s) h
        refine ⟨_, s', f1, SameF.of f2, fun g a w hS hf => ?_⟩
        obtain ⟨gh, cc, g1, hv, g3⟩ := e2 K _ g a w hX.g.symm hS
        simp only at g3
        subst g3
        obtain ⟨xs, x1, x2⟩ := e4 g a w hS e5
        obtain ⟨w', r1, r2⟩ := wr_did (fr := fr) hS.rep (hX.g ▸ f3) f4 f5 f6 f7 x1 e5 g1
        refine ⟨g, w', _, .slice (some ⟨gh.b, gh.o + of, none⟩) (len + n) cc, run hv (x2.fits _ _ _ _ _ hle ?_), .inl rfl, ⟨gh, cc, g1, rfl, rfl⟩, r2⟩
        have : gh.o + of + len * sz = gh.o + (Nat.add of (Nat.mul len sz)) := by show _ = gh.o + (of + len * sz); omega
        rw [this]; exact r1
      | false =>
        rw [hfit] at h
        have hlt : cp < len + n := by
          rcases Nat.lt_or_ge cp (len + n) with h' | h'
          · exact h'
          · have : Nat.ble (Nat.add len n) cp = true := Nat.ble_eq_true_of_le h'
            rw [this] at hfit; cases hfit
        have h' : test (Nat.ble len cp) (firstV s sz len (.sl id of len (some cp)) fun old => appGrow el sz fr (Nat.add len n) (old ++ new') s k) ≠ .fail := h
        obtain ⟨t1, t2⟩ := test_ne h'
        have t3 : len ≤ cp := Nat.le_of_ble_eq_true t1
        show ∃ v s', test (Nat.ble len cp) (firstV s sz len (.sl id of len (some cp)) fun old => appGrow el sz fr (Nat.add len n) (old ++ new') s k) = k v s' ∧ _
        rw [t2] at h' ⊢
        replace h := h'
        obtain ⟨old, o1, o2⟩ := firstV_ne h
        rw [o1] at h ⊢
        obtain ⟨j, s', cc, h1, h2, h3, h4, h5, h6, h7⟩ := grow _ old s rfl k h
        refine ⟨_, s', h1, h2, fun g a w hS hf => ?_⟩
        have hvr := e2 K _ g a w hX.g.symm hS
        obtain ⟨olds, q1, q2, q3, q4⟩ := o2 K _ _ g a w _ hS hvr (fun b hb => by cases hb) (fun hb => by rcases hb with hb | hb <;> cases hb)
        obtain ⟨e, cc', g1, hv, g3⟩ := hvr
        simp only at g3
        subst g3
        obtain ⟨xs, x1, x2⟩ := e4 g a w hS e5
        obtain ⟨cap, c1, c2⟩ := mach (g := g) (olds := olds) (news := xs) (m := len + n) hv (fun w' hw => hv ▸ q2 w' hw) x2 (by omega) rfl h3 hlt
        obtain ⟨d1, d2⟩ := grow_did (z := zx) (n := cap) (need := len + n) hS hf h4 h5 h6 h7 (q1.append x1) (by
          rw [← (q1.append x1).length, List.length_append, q3, x2.len, Nat.add_mul]) hzsz c1
        exact ⟨_, _, _, _, c2, .inl rfl, d2, d1⟩
    | none =>
      have e : appSl X.g el sz fr s (.sl id of len none) id of len none n new' k = firstV s sz len (.sl id of len none) fun old => test (Nat.ble X.g id) (rowK id s fun _ _ _ z => test (Nat.beq z sz) (setOb id none s fun s => natK (Nat.add len n) fun m => appGrow el sz fr m (old ++ new') s k)) := rfl
      rw [e] at h ⊢
      obtain ⟨old, o1, o2⟩ := firstV_ne h
      rw [o1] at h ⊢
      obtain ⟨k1, k2⟩ := test_ne h
      rw [k2] at h ⊢
      have hKid : X.g ≤ id := Nat.le_of_ble_eq_true k1
      obtain ⟨rc, rn, rt, rz, r1, r2⟩ := rowK_ne h
      rw [r2] at h ⊢
      obtain ⟨r3, r4⟩ := test_ne h
      rw [r4] at h ⊢
      have hrz : rz = sz := Nat.eq_of_beq_eq_true r3
      obtain ⟨s1, b1, b2, b3⟩ := setOb_ne h
      rw [b1, natK_eq] at h ⊢
      obtain ⟨j, s', cc, h1, h2, h3, h4, h5, h6, h7⟩ := grow _ old s1 b2.2.2.2 k h
      have hsf : SameF fr s s' := by
        obtain ⟨c1, c2, c3, c4⟩ := h2
        refine ⟨c1.trans b2.1, c2.trans b2.2.1, c3.trans b2.2.2.1, ?_⟩
        cases fr with
        | none => simpa [b2.2.2.2] using c4
        | some q => simpa [b2.2.2.2] using c4
      refine ⟨_, s', h1, hsf, fun g a w hS hf => ?_⟩
      have hvr := e2 K _ g a w hX.g.symm hS
      obtain ⟨olds, q1, q2, q3, q4⟩ := o2 K _ _ g a w _ hS hvr (fun b hb => by cases hb) (fun hb => by rcases hb with hb | hb <;> cases hb)
      obtain ⟨gh, cp, g1, hv, g3, g4⟩ := hvr
      obtain ⟨xs, x1, x2⟩ := e4 g a w hS e5
      have hxall := q1.append x1
      have hlen : (old ++ new').length = (len + n) * sz := by rw [← hxall.length, List.length_append, q3, x2.len, Nat.add_mul]
      have hsub : ∀ (j : Nat) (ob : Ob), s1.t.get j = some ob → s.t.get j = some ob := fun j ob hj => by
        rw [b3] at hj
        split at hj
        · cases hj
        · exact hj
      obtain ⟨rs1, rs2⟩ := hS.rep.sub hsub
      have hS1 : SR K X.M X.N g s1 a w := hS.step rs2 rs1 (b2.2.2.2 ▸ hS.nb) b2.1 b2.2.1 b2.2.2.1
      have hf1 : Free K fr g s1.n := b2.2.2.2 ▸ hf
      by_cases hfit : len + n ≤ cp
      · -- in its place
        obtain ⟨gh', u1, u2⟩ := hS.rep.ob _ _ r1
        rw [g1] at u1; cases u1
        obtain ⟨cs, ty, v1, v2, v3, v4, v5⟩ := u2
        have hgsz : gh.sz = sz := v2.trans hrz
        rw [hgsz] at g4
        have hcap : of + (len + n) * sz ≤ gh.ext := Nat.le_trans (Nat.add_le_add_left (Nat.mul_le_mul_right _ hfit) _) g4
        have hcl : of + len * sz + xs.length ≤ gh.ext := by rw [x2.len, Nat.add_assoc, ← Nat.add_mul]; exact hcap
        have hst := run_storeCells_at (P := K.P) gh.b (gh.o + of + len * sz) ty xs 0 cs w v1 (by omega) x2.one
        generalize harr : (List.take (gh.o + of + len * sz + 0) cs.toList ++ xs ++ List.drop (gh.o + of + len * sz + 0 + xs.length) cs.toList).toArray = arr at hst
        have harrs : arr.size = cs.size := by subst harr; simp; omega
        obtain ⟨hj0, hjK⟩ := new_id hS1 hf1 h5
        have hcells : ∀ q x, (olds ++ xs)[q]? = some x → arr[gh.o + of + q]? = some x := fun q x hq => by
          subst harr
          simp only [List.getElem?_toArray, Nat.add_zero]
          have ho : olds.length = len * sz := q3
          by_cases hql : q < olds.length
          · rw [List.getElem?_append_left hql] at hq
            rw [List.append_assoc, List.getElem?_append_left (by simp; omega), List.getElem?_take, if_pos (by omega)]
            have := q4 _ _ _ _ gh rfl g1 q x hq
            rw [cell_of v1] at this
            simpa using this
          · rw [List.getElem?_append_right (by omega)] at hq
            rw [List.append_assoc, List.getElem?_append_right (by simp; omega), List.getElem?_append_left (by
              have := (List.getElem?_eq_some_iff.1 hq).1
              simp; omega)]
            rw [← hq]; congr 1; simp; omega
        obtain ⟨m1, m2⟩ := hS.rep.move (e' := ⟨gh.b, gh.o + of, gh.ext - of, sz⟩) (w' := w.setRow gh.b arr) (ob' := .cells cc (old ++ new').length el sz) r1 g1 (hX.g ▸ hKid) hj0 hjK rfl
          (fun q => by rw [h4, b3]) (setRow_size w gh.b arr) (fun b hb => setRow_other w gh.b b arr hb) ⟨rfl, rfl, rfl⟩ (by
            refine ⟨arr, ty, setRow_heap w gh.b cs arr ty (0, 0) v1, rfl, by simp only; omega, by simp only; omega, fun q v hq => ?_⟩
            obtain ⟨y, y1, y2⟩ := hxall.get (h7 q v hq)
            exact ⟨y, hcells q y y1, y2.mono (G.le_put hj0)⟩)
        refine ⟨_, w.setRow gh.b arr, _, .slice (some ⟨gh.b, gh.o + of, none⟩) (len + n) cp, run hv ?_, .inl rfl, ?_, ⟨m2, m1, fun q f hq => ?_⟩⟩
        · exact x2.fits _ _ _ _ _ hfit hst
        · exact ⟨⟨gh.b, gh.o + of, gh.ext - of, sz⟩, cp, by simp [G.put], rfl, hfit, by simp only; omega⟩
        · unfold G.put at hq
          split at hq
          · rename_i hqj
            refine .inr ?_
            cases fr with
            | none => have := h6 rfl; simp only [NewId]; simp at h5; have := b2.2.2.2; omega
            | some q' => simpa [NewId] using hqj.trans h5
          · exact .inl hq
      · obtain ⟨cap, c1, c2⟩ := mach (g := g) (olds := olds) (news := xs) (m := len + n) hv (fun w' hw => hv ▸ q2 w' hw) x2 (by omega) rfl h3 (by omega)
        obtain ⟨d1, d2⟩ := grow_did (z := zx) (n := cap) (need := len + n) hS1 hf1 h4 h5 h6 h7 hxall hlen hzsz c1
        refine ⟨_, _, _, _, c2, .inl rfl, d2, ⟨rs2.trans d1.stp, d1.rep, fun q f hq => ?_⟩⟩
        rcases d1.new q f hq with h' | h'
        · exact .inl h'
        · refine .inr ?_
          cases fr with
          | none => simpa [NewId, b2.2.2.2] using h'
          | some q' => exact h'
  | _ => exact absurd rfl h

end Go.AE

namespace Go.AE
variable {K : Kon} {X : Cx}

theorem ov_cpy {o : Oper} {c : Call} {t el : TypeId} {x y : Operand} {sz : Nat} (hX : Ok K X) (ho : o.op = .call c) (hc : c.callee = .builtin .copy) (ha : c.args.toList = [x, y]) (ht : c.argTypes[0]? = some t)
    (hu : X.P.underlying t = some (.slice el)) (hs : sizeT X.P el = some sz) : OpV K X o (iCpy X.g sz (opdOf X.M X.g x) (opdOf X.M X.g y)) := fun cal fr s k h => by
  rw [hX.P] at hu hs
  unfold iCpy at h ⊢
  obtain ⟨d, e1, e2⟩ := opd_spec h
  rw [e1] at h ⊢
  obtain ⟨v, e3, e4⟩ := opd_spec h
  rw [e3] at h ⊢
  obtain ⟨n, n1, n2⟩ := lenV_ne h
  rw [n1] at h ⊢
  obtain ⟨m, m1, m2⟩ := lenV_ne h
  rw [m1, natK_eq] at h ⊢
  obtain ⟨l, f1, f2⟩ := firstV_ne h
  rw [f1] at h ⊢
  obtain ⟨c1, c2⟩ := test_ne h
  rw [c2] at h ⊢
  have src : ∀ {g a w}, SR K X.M X.N g s a w → ∃ xs, VRs g l xs ∧ (Builtin.firstCells sz (Nat.min n m) (a.eval y)).run K.P w = .ok xs.toArray w ∧ xs.length = Nat.min n m * sz ∧ (Builtin.lenOf (a.eval y)).run K.P w = .ok n w := fun {g a w} hS => by
    have hv := e4 K _ g a w hX.g.symm hS
    obtain ⟨xs, r1, r2, r3, _⟩ := f2 K _ _ g a w _ hS hv (fun b hb => by
      subst hb
      rcases n2 with ⟨i, o, c, q⟩ | ⟨q | q, _⟩ | ⟨b', q, rfl⟩ <;> cases q
      exact Nat.min_le_left _ _) (fun hb => by
      rcases n2 with ⟨i, o, c, rfl⟩ | ⟨_, q⟩ | ⟨b', rfl, _⟩
      · rcases hb with q | q <;> cases q
      · subst q; exact Nat.zero_min _
      · rcases hb with q | q <;> cases q)
    refine ⟨xs, r1, r2 w rfl, r3, ?_⟩
    rcases vr_len hv n2 with ⟨ad, c, q⟩ | ⟨b, q, rfl⟩ <;> rw [q] <;> rfl
  have run : ∀ {a : Act} {w w' : World} {base : Option Addr} {cp : Nat} {xs : List Value}, a.eval x = .slice base m cp → (Builtin.firstCells sz (Nat.min n m) (a.eval y)).run K.P w = .ok xs.toArray w → (Builtin.lenOf (a.eval y)).run K.P w = .ok n w →
      (match base with | some ad => (storeCells ad xs).run K.P w = .ok () w' | none => w' = w) → (execOp a.eval o).run K.P w = .ok (.value (.int .i64 (Nat.min n m : Nat))) w' := fun {a w w' base cp xs} hv h1 h2 h3 => by
    refine run_builtin ho hc ?_
    rw [args_list, ha]
    refine map_val ?_
    simp only [List.map_cons, List.map_nil]
    rw [hv]
    unfold Builtin.copy_
    simp only [ht]
    show (underlying t >>= _).run K.P w = _
    rw [bind_ok (r_under hu)]
    simp only []
    show (Builtin.lenOf (a.eval y) >>= _).run K.P w = _
    rw [bind_ok h2, bind_ok (r_size hs)]
    show (Builtin.firstCells sz (Nat.min n m) (a.eval y) >>= _).run K.P w = _
    rw [bind_ok h1]
    cases base with
    | none => subst h3; rfl
    | some ad =>
      simp only at h3
      show (storeCells ad xs >>= _).run K.P w = _
      rw [bind_ok h3]
      rfl
  cases d with
  | sl i of dl dc =>
    have hml : m = dl := by rcases m2 with ⟨_, _, _, q⟩ | ⟨q | q, _⟩ | ⟨_, q, _⟩ <;> cases q; rfl
    subst hml
    obtain ⟨rc, rn, rt, rz, c', s', w1, w2, w3, w4, w5, w6, w7⟩ := wr_ne (k := fun s => k (.int .i64 (.ofNat (Nat.min n m))) s) h
    refine ⟨_, s', w1, SameF.of w2, fun g a w hS hf => ?_⟩
    obtain ⟨e, cc, g1, hv, g3⟩ := e2 K _ g a w hX.g.symm hS
    obtain ⟨xs, r1, r2, r3, r4⟩ := src hS
    obtain ⟨w', q1, q2⟩ := wr_did (fr := fr) hS.rep (hX.g ▸ w3) w4 w5 w6 w7 r1 c1 g1
    exact ⟨g, w', _, _, run hv r2 r4 q1, .inl rfl, rfl, q2⟩
  | nilsl =>
    have hm0 : m = 0 := by rcases m2 with ⟨_, _, _, q⟩ | ⟨_, q⟩ | ⟨_, q, _⟩ <;> first | exact q | cases q
    subst hm0
    refine ⟨_, s, rfl, SameF.refl _ _, fun g a w hS hf => ?_⟩
    have hv : a.eval x = .slice none 0 0 := e2 K _ g a w hX.g.symm hS
    obtain ⟨xs, r1, r2, r3, r4⟩ := src hS
    exact ⟨g, w, _, _, run hv r2 r4 rfl, .inl rfl, rfl, Did.same hS.rep⟩
  | emp =>
    have hm0 : m = 0 := by rcases m2 with ⟨_, _, _, q⟩ | ⟨_, q⟩ | ⟨_, q, _⟩ <;> first | exact q | cases q
    subst hm0
    refine ⟨_, s, rfl, SameF.refl _ _, fun g a w hS hf => ?_⟩
    obtain ⟨ad, cp, hv⟩ := e2 K _ g a w hX.g.symm hS
    obtain ⟨xs, r1, r2, r3, r4⟩ := src hS
    have hxs : xs = [] := by
      have : xs.length = 0 := by rw [r3]; show Nat.min n 0 * sz = 0; simp
      exact List.length_eq_zero_iff.1 this
    subst hxs
    exact ⟨g, w, _, _, run hv r2 r4 rfl, .inl rfl, rfl, Did.same hS.rep⟩
  | _ => exact absurd rfl h

theorem ov_fn1 {o : Oper} {c : Call} {b : Builtin} {f : List Value → Sem Value} (hX : Ok K X) (ho : o.op = .call c) (hc : c.callee = .builtin b) (hb : ∀ cs l, builtin b c.argTypes o.type cs ⟨l⟩ = (do pure (.value (← f l)))) :
    OpP K X o (iFn1 X.P f (c.args.toList.map (opdOf X.M X.g))) := fun cal fr s k h => by
  unfold iFn1 at h ⊢
  obtain ⟨vs, h1, h2⟩ := opds_spec h
  rw [h1] at h ⊢
  obtain ⟨l, h3, h4⟩ := may_ne h
  rw [h4] at h ⊢
  obtain ⟨r, h5, h6⟩ := may_ne h
  rw [h6] at h ⊢
  obtain ⟨z, h7, h8⟩ := outK_ne h
  refine ⟨z, h7, fun g a w hS => ⟨r, ?_, h8 g⟩⟩
  refine run_builtin ho hc ?_
  have hv := h2 K _ g a w hX.g.symm hS
  rw [args_list, hv.toVs h3, hb]
  rw [hX.P] at h5
  exact map_val (pureOf_run h5 w)

/-- the library's maker of bytes -/
def MzOk (K : Kon) : Prop := ∀ (n : Nat) (w : World), n ≤ 65536 → ∃ (w1 : World) (arr : Array Value) (el : TypeId) (c : Nat), (callFunc K.mz #[.int .i64 (n : Int)]).run K.P w = .ok (.value (.slice (some ⟨w.heap.size, 0, none⟩) n c)) (w1.alloc (.cells arr el)) ∧
  w1.heap = w.heap ∧ w1.os = w.os ∧ w1.output = w.output ∧ w1.tape = w.tape ∧ n ≤ c ∧ arr.size = c ∧ ∀ (j : Nat), j < n → ∃ k m, arr[j]? = some (.int k m)

theorem rep_unk {g : G} {arr : Array Value} : ∀ (n : Nat) (o : Nat), (∀ j, j < n → ∃ k m, arr[o + j]? = some (.int k m)) → ∃ xs, VRs g (rep [.unk] n) xs ∧ ∀ (j : Nat) (x : Value), xs[j]? = some x → arr[o + j]? = some x
  | 0, _, _ => ⟨[], rfl, fun j x h => by simp at h⟩
  | n + 1, o, h => by
    obtain ⟨k, m, h0⟩ := h 0 (by omega)
    obtain ⟨xs, h1, h2⟩ := rep_unk n (o + 1) (fun j hj => by
      obtain ⟨k, m, h3⟩ := h (j + 1) (by omega)
      exact ⟨k, m, by rw [show o + 1 + j = o + (j + 1) by omega]; exact h3⟩)
    refine ⟨.int k m :: xs, ⟨_, xs, rfl, ⟨k, m, rfl⟩, h1⟩, fun j x hj => ?_⟩
    cases j with
    | zero => simp at hj; subst hj; exact h0
    | succ j =>
      simp at hj
      rw [show o + (j + 1) = o + 1 + j by omega]
      exact h2 j x hj

/-- the call of a function's value, made ready -/
theorem run_call {P : Program} {w w' : World} {a : Act} {o : Oper} {c : Call} {f : Operand} {fn : Go.Fn} {xs ys : Array Value} {nx : Next} (ho : o.op = .call c) (hc : c.callee = .value f) (hf : a.eval f = .func fn xs ys)
    (h : (invoke (.fn fn ys) (xs ++ c.args.map a.eval)).run P w = .ok nx w') : (execOp a.eval o).run P w = .ok nx w' := by
  unfold execOp; rw [ho]
  simp only [resolve, hc, hf, Deferred.ofValue]
  rw [bind_ok (a := ({ target := .fn fn ys, args := xs ++ c.args.map a.eval } : Deferred)) (w' := w) rfl]
  exact h

theorem ov_mz {o : Oper} {c : Call} {el : Nat} (hX : Ok K X) (hmz : MzOk K) (ho : o.op = .call c) (hc : c.callee = .value (.func K.mz)) : OpV K X o (iMz el (c.args.toList.map (opdOf X.M X.g))) := fun cal fr s k h => by
  unfold iMz at h ⊢
  obtain ⟨vs, h1, h2⟩ := opds_spec h
  rw [h1] at h ⊢
  split at h
  · rename_i n
    obtain ⟨h3, h4⟩ := test_ne h
    rw [h4] at h ⊢
    have hn6 : n ≤ 65536 := Nat.le_of_ble_eq_true h3
    obtain ⟨i, s', cc, q1, q2, q3, q4, q5, q6, q7⟩ := rowNew_ne h
    refine ⟨_, s', q1, q2, fun g a w hS hf => ?_⟩
    obtain ⟨x, xs, e, v1, v2⟩ := h2 K _ g a w hX.g.symm hS
    simp only [VR] at v1
    cases v2
    subst v1
    obtain ⟨w1, arr, ty, c', r1, r2, r3, r4, r5, r6, r7, r8⟩ := hmz n w hn6
    obtain ⟨xs, x1, x2⟩ := rep_unk (g := g) (arr := arr) n 0 (fun j hj => by simpa using r8 j hj)
    have hS1 : SR K X.M X.N g s a w1 := ⟨hS.size, hS.tm, hS.loc, hS.dfs, ⟨fun i ob hi => let ⟨e, a1, a2⟩ := hS.rep.ob i ob hi; ⟨e, a1, a2.same (.refl g) (by rw [r2])⟩, hS.rep.inj, fun j hj => let ⟨e, q1, q2, q3, q4⟩ := hS.rep.glob j hj; ⟨e, q1, q2, q3, r2 ▸ q4⟩⟩, hS.nb⟩
    have hlen : (rep [V.unk] n).length = n := by rw [rep_len]; simp
    obtain ⟨d1, d2⟩ := rowNew_did (ext := c') (arr := arr) (ty := ty) hS1 hf q4 q5 q6 q7 x1 (fun j x hj => by simpa using x2 j x hj) (by rw [hlen]; exact r6) (by rw [r7]; exact Nat.le_refl _)
    rw [r2] at d1 d2
    refine ⟨_, _, _, .slice (some ⟨w.heap.size, 0, none⟩) n c', ?_, .inl rfl, ⟨_, c', d2, rfl, r6, by simp⟩, ⟨⟨d1.stp.le, ?_, ?_, ?_, d1.stp.os.trans r3, d1.stp.out.trans r4, d1.stp.tape.trans r5⟩, d1.rep, d1.new⟩⟩
    · refine run_call ho hc rfl ?_
      rw [args_list, e]
      simp only [invoke]
      exact r1
    · have := d1.stp.size; rwa [r2] at this
    · have := d1.stp.keep; rwa [r2] at this
    · have := d1.stp.own; rwa [r2] at this
  · exact absurd rfl h

end Go.AE

namespace Go.AE
variable {K : Kon} {X : Cx}

theorem eqB_iff {a b : ByteArray} : eqB a b = true ↔ a = b := by
  unfold eqB
  constructor
  · intro h
    have : a.data.toList = b.data.toList := by simpa using h
    cases a; cases b
    simp at this
    simp [this]
  · intro h; subst h; simp

theorem beq_eqB (a b : ByteArray) : (a == b) = eqB a b := by
  have e : (a == b) = (a.data == b.data) := rfl
  rw [e, Bool.eq_iff_iff, eqB_iff, beq_iff_eq]
  constructor
  · intro h; cases a; cases b; simp at h; simp [h]
  · intro h; rw [h]

/-- a key looked for -/
theorem find_now {g : G} {q : ByteArray} : ∀ {es : List (V × V)} {j : Nat} {l : List MapEntry} {r : Option V}, MR g j es l → findV q es = some r → ∀ i, ∃ r', Instr.findNow .string (.string q) l i = some r' ∧
    (match r with | none => r' = none | some v => ∃ n x, r' = some (n, x) ∧ VR g v x)
  | [], _, _, r, h, hr, i => by
    cases h
    simp [findV] at hr
    subst hr
    exact ⟨none, rfl, rfl⟩
  | (k, v) :: es, j, _, r, ⟨e, l, rfl, hk, hv, hb, hm⟩, hr, i => by
    cases k with
    | str b =>
      simp only [VR] at hk
      unfold findV at hr
      cases hq : eqB q b with
      | true =>
        simp only [hq, cond] at hr
        cases hr
        refine ⟨some (i, e.val), ?_, i, e.val, rfl, hv⟩
        simp [Instr.findNow, hk, Instr.sameNow, beq_eqB, hq]
      | false =>
        simp only [hq, cond] at hr
        obtain ⟨r', h1, h2⟩ := find_now hm hr (i + 1)
        refine ⟨r', ?_, h2⟩
        simp [Instr.findNow, hk, Instr.sameNow, beq_eqB, hq, h1]
    | _ => simp [findV] at hr

theorem run_key {P : Program} {w : World} {kt : TypeId} {q : ByteArray} (hk : P.underlying kt = some .string) (e : Bool) : (Instr.checkKey e 10000 kt (.string q)).run P w = .ok () w := by
  show (Instr.checkKey e (9999 + 1) kt (.string q)).run P w = _
  unfold Instr.checkKey
  rw [bind_ok (r_under hk)]
  rfl

theorem run_find {P : Program} {w : World} {kt : TypeId} {q : ByteArray} {l : List MapEntry} {r : Option (Nat × Value)} (hk : P.underlying kt = some .string) (h : Instr.findNow .string (.string q) l 0 = some r) : (Instr.findKey kt (.string q) l).run P w = .ok r w := by
  unfold Instr.findKey
  rw [bind_ok (r_under hk)]
  simp only [h]
  rfl

theorem run_getMap {P : Program} {w : World} {b : Nat} {es : Array MapEntry} {c : Nat} (h : w.heap[b]? = some (.map es c)) : (getObj b).run P w = .ok (.map es c) w := by simp [getObj, Sem.run, h]

theorem r_zeroV {P : Program} {t : TypeId} {z : V} (h : zeroV P t = some z) (w : World) (g : G) : ∃ x, (zeroValue t).run P w = .ok x w ∧ VR g z x := by
  unfold zeroV at h
  split at h
  · rename_i i hi
    split at h
    · rename_i x hx
      exact ⟨x, by simp [zeroValue, typeInfo, hi, hx], VR.ofV h⟩
    · cases h
  · cases h

theorem ov_mkM {o : Oper} {t : TypeId} (ho : o.op = .makeMap t none) : OpV K X o iMkM := fun cal fr s k h => by
  unfold iMkM at h ⊢
  obtain ⟨i, s', h1, h2, h3, h4, h5⟩ := newOb_spec h
  refine ⟨.map i, s', h1, h2, fun g a w hS hf => ?_⟩
  obtain ⟨d1, d2⟩ := newOb_did (o := .map #[] 0) (e := ⟨w.heap.size, 0, 0, 0⟩) hS hf h3 h4 h5 rfl ⟨#[], World.alloc_heap_new _ _, rfl⟩
  refine ⟨_, _, _, .map (some w.heap.size), ?_, .inl rfl, ⟨_, d2, rfl⟩, d1⟩
  unfold execOp; rw [ho]
  refine map_val ?_
  simp [Instr.makeMap]

theorem vMap_ne {v : V} {k : Nat → Res} (h : vMap v k ≠ .fail) : ∃ i, v = .map i ∧ vMap v k = k i := by
  cases v <;> first | exact absurd rfl h | exact ⟨_, rfl, rfl⟩
theorem mapOb_ne {o : Ob} {k : List (V × V) → Res} (h : mapOb o k ≠ .fail) : ∃ es, o = .map es ∧ mapOb o k = k es := by
  cases o <;> first | exact absurd rfl h | exact ⟨_, rfl, rfl⟩
theorem itOb_ne {o : Ob} {k : Nat → Nat → Nat → Res} (h : itOb o k ≠ .fail) : ∃ a b c, o = .miter a b c ∧ itOb o k = k a b c := by
  cases o <;> first | exact absurd rfl h | exact ⟨_, _, _, rfl, rfl⟩

theorem run_lookup {P : Program} {w : World} {t kt el : TypeId} {ok : Bool} {q : ByteArray} {m y : Value} {es : Array MapEntry} {r : Option (Nat × Value)} {b : Bool} (hu : P.underlying t = some (.map kt el)) (hk : P.underlying kt = some .string)
    (hm : m = .map none ∧ es = #[] ∨ ∃ b c, m = .map (some b) ∧ w.heap[b]? = some (.map es c)) (hf : Instr.findNow .string (.string q) es.toList 0 = some r)
    (hr : (∃ n, r = some (n, y) ∧ b = true) ∨ (r = none ∧ (zeroValue el).run P w = .ok y w ∧ b = false)) : (Instr.lookup t m (.string q) ok).run P w = .ok (if ok then .tuple #[y, .bool b] else y) w := by
  unfold Instr.lookup
  rw [bind_ok (r_under hu)]
  simp only []
  have tail : (do Instr.checkKey es.isEmpty 10000 kt (.string q)
                  let (v, ok') ← match ← Instr.findKey kt (.string q) es.toList with
                    | some (_, v) => pure (v, true)
                    | none => pure (← zeroValue el, false)
                  pure (if ok then Value.tuple #[v, .bool ok'] else v) : Sem Value).run P w = .ok (if ok then .tuple #[y, .bool b] else y) w := by
    rw [bind_ok (run_key hk _), bind_ok (run_find hk hf)]
    rcases hr with ⟨n, rfl, rfl⟩ | ⟨rfl, hz, rfl⟩
    · rfl
    · simp only []
      rw [bind_ok hz, bind_ok (a := (y, false)) (w' := w) rfl]
      rfl
  rcases hm with ⟨rfl, rfl⟩ | ⟨bb, c, rfl, hb⟩
  · exact tail
  · simp only []
    rw [bind_ok (run_getMap hb)]
    simp only []
    rw [bind_ok (a := es) (w' := w) rfl]
    exact tail

theorem ov_look {o : Oper} {t kt el : TypeId} {x y : Operand} {ok : Bool} {z : V} (hX : Ok K X) (ho : o.op = .lookup t x y ok) (hu : X.P.underlying t = some (.map kt el)) (hk : X.P.underlying kt = some .string) (hz : zeroV X.P el = some z) :
    OpP K X o (iLook z ok (opdOf X.M X.g x) (opdOf X.M X.g y)) := fun cal fr s k h => by
  rw [hX.P] at hu hk hz
  unfold iLook at h ⊢
  obtain ⟨v, h1, h2⟩ := opd_spec h
  rw [h1] at h ⊢
  obtain ⟨u, h3, h4⟩ := opd_spec h
  rw [h3] at h ⊢
  have mm : ∃ es, mapV v s (fun es => vStr u fun q => may (findV q es) fun r => Option.rec (k (cond ok (.tup [z, .bool false]) z) s) (fun v => k (cond ok (.tup [v, .bool true]) v) s) r) = (fun es => vStr u fun q => may (findV q es) fun r => Option.rec (k (cond ok (.tup [z, .bool false]) z) s) (fun v => k (cond ok (.tup [v, .bool true]) v) s) r) es ∧
      ∀ g a w, SR K X.M X.N g s a w → ∃ en : Array MapEntry, (a.eval x = .map none ∧ en = #[] ∨ ∃ b c, a.eval x = .map (some b) ∧ w.heap[b]? = some (.map en c)) ∧ MR g 0 es en.toList := by
    rcases mapV_ne h with ⟨rfl, e⟩ | ⟨i, es, rfl, e1, e2⟩
    · exact ⟨[], e, fun g a w hS => ⟨#[], .inl ⟨h2 K _ g a w hX.g.symm hS, rfl⟩, rfl⟩⟩
    · refine ⟨es, e2, fun g a w hS => ?_⟩
      obtain ⟨e, g1, g2⟩ := h2 K _ g a w hX.g.symm hS
      obtain ⟨e', g3, g4⟩ := hS.rep.ob _ _ e1
      rw [g1] at g3; cases g3
      obtain ⟨en, q1, q2⟩ := g4
      exact ⟨en, .inr ⟨_, _, g2, q1⟩, q2⟩
  obtain ⟨es, e1, e2⟩ := mm
  rw [e1] at h ⊢
  obtain ⟨q, rfl, h5⟩ := vStr_ne h
  simp only at h ⊢
  rw [h5] at h ⊢
  obtain ⟨r, h6, h7⟩ := may_ne h
  rw [h7] at h ⊢
  have fin : ∀ {g : G} {a : Act} {w : World} {yv : Value} {b : Bool} {en : Array MapEntry} {r' : Option (Nat × Value)}, SR K X.M X.N g s a w → (a.eval x = .map none ∧ en = #[] ∨ ∃ b c, a.eval x = .map (some b) ∧ w.heap[b]? = some (.map en c)) → Instr.findNow .string (.string q) en.toList 0 = some r' →
      ((∃ n, r' = some (n, yv) ∧ b = true) ∨ (r' = none ∧ (zeroValue el).run K.P w = .ok yv w ∧ b = false)) → (execOp a.eval o).run K.P w = .ok (.value (if ok then .tuple #[yv, .bool b] else yv)) w := fun {g a w yv b en r'} hS hm hf hr => by
    have hq : a.eval y = .string q := h4 K _ g a w hX.g.symm hS
    unfold execOp; rw [ho]
    refine map_val ?_
    show (Instr.lookup t (a.eval x) (a.eval y) ok).run K.P w = _
    rw [hq]
    exact run_lookup hu hk hm hf hr
  have tupR : ∀ {g : G} {v : V} {x : Value} {b : Bool}, VR g v x → VR g (cond ok (.tup [v, .bool b]) v) (if ok then .tuple #[x, .bool b] else x) := fun {g v x b} hv => by
    cases ok with
    | true => exact ⟨[x, .bool b], rfl, x, _, rfl, hv, _, _, rfl, rfl, rfl⟩
    | false => exact hv
  cases r with
  | some v =>
    refine ⟨_, rfl, fun g a w hS => ?_⟩
    obtain ⟨en, m1, m2⟩ := e2 g a w hS
    obtain ⟨r', f1, n, xv, rfl, f3⟩ := find_now m2 h6 0
    exact ⟨_, fin hS m1 f1 (yv := xv) (b := true) (.inl ⟨_, rfl, rfl⟩), tupR f3⟩
  | none =>
    refine ⟨_, rfl, fun g a w hS => ?_⟩
    obtain ⟨en, m1, m2⟩ := e2 g a w hS
    obtain ⟨r', f1, f2⟩ := find_now m2 h6 0
    simp only at f2
    subst f2
    obtain ⟨xz, q1, q2⟩ := r_zeroV hz w g
    exact ⟨_, fin hS m1 f1 (yv := xz) (b := false) (.inr ⟨rfl, q1, rfl⟩), tupR q2⟩

theorem put_map {g : G} {q : ByteArray} {v : V} {x : Value} (hx : VR g v x) : ∀ {es es' : List (V × V)} {j : Nat} {l : List MapEntry}, MR g j es l → putV q v es = some es' →
    (∃ n y, (∀ i, Instr.findNow .string (.string q) l i = some (some (i + n, y))) ∧ (∃ e0, l[n]? = some e0 ∧ e0.key = .string q) ∧ es'.length = es.length ∧ MR g j es' (l.modify n fun e => { e with key := .string q, val := x })) ∨
    ((∀ i, Instr.findNow .string (.string q) l i = some none) ∧ es'.length = es.length + 1 ∧ MR g j es' (l ++ [{ key := .string q, val := x, born := j + es.length }]))
  | [], es', j, l, h, hp => by
    cases h
    simp [putV] at hp
    subst hp
    exact .inr ⟨fun i => rfl, rfl, _, _, rfl, rfl, hx, rfl, rfl⟩
  | (k, u) :: es, es', j, _, ⟨e, l, rfl, hk, hv, hb, hm⟩, hp => by
    cases k with
    | str b =>
      simp only [VR] at hk
      unfold putV at hp
      cases hq : eqB q b with
      | true =>
        simp only [hq, cond] at hp
        cases hp
        have := eqB_iff.1 hq
        subst this
        refine .inl ⟨0, e.val, fun i => by simp [Instr.findNow, hk, Instr.sameNow, beq_eqB, hq], ⟨e, rfl, hk⟩, rfl, ?_⟩
        exact ⟨_, l, rfl, rfl, hx, hb, hm⟩
      | false =>
        simp only [hq, cond] at hp
        split at hp
        · rename_i r hr
          cases hp
          rcases put_map hx hm hr with ⟨n, y, h1, ⟨e0, h2, h3⟩, h4, h5⟩ | ⟨h1, h2, h3⟩
          · refine .inl ⟨n + 1, y, fun i => ?_, ⟨e0, by simpa using h2, h3⟩, by simp [h4], ?_⟩
            · simp [Instr.findNow, hk, Instr.sameNow, beq_eqB, hq, h1]; omega
            · exact ⟨e, _, rfl, hk, hv, hb, h5⟩
          · refine .inr ⟨fun i => by simp [Instr.findNow, hk, Instr.sameNow, beq_eqB, hq, h1], by simp [h2], ?_⟩
            refine ⟨e, _, rfl, hk, hv, hb, ?_⟩
            have : j + 1 + es.length = j + ((AE.V.str b, u) :: es).length := by simp; omega
            rw [← this]; exact h3
        · cases hp
    | _ => simp [putV] at hp

theorem run_setObj {P : Program} {w : World} {b : Nat} {es : Array MapEntry} {c : Nat} (o : Obj) (h : w.heap[b]? = some (.map es c)) : (setObj b o).run P w = .ok () (w.putObj b o) := by simp [setObj, Sem.run, h, World.putObj]

/-- no map lies among the package-level variables -/
theorem ov_upd {o : Oper} {t kt el : TypeId} {x y z : Operand} (hX : Ok K X) (ho : o.op = .mapUpdate t x y z) (hu : X.P.underlying t = some (.map kt el)) (hk : X.P.underlying kt = some .string) :
    OpV K X o (iUpd X.g (opdOf X.M X.g x) (opdOf X.M X.g y) (opdOf X.M X.g z)) := fun cal fr s k h => by
  rw [hX.P] at hu hk
  unfold iUpd at h ⊢
  obtain ⟨v, h1, h2⟩ := opd_spec h
  rw [h1] at h ⊢
  obtain ⟨u, h3, h4⟩ := opd_spec h
  rw [h3] at h ⊢
  obtain ⟨zv, h5, h6⟩ := opd_spec h
  rw [h5] at h ⊢
  obtain ⟨i, rfl, h7⟩ := vMap_ne h
  rw [h7] at h ⊢
  obtain ⟨hgi, hgi'⟩ := test_ne h
  rw [hgi'] at h ⊢
  have hKi : X.g ≤ i := Nat.le_of_ble_eq_true hgi
  obtain ⟨q, rfl, h8⟩ := vStr_ne h
  rw [h8] at h ⊢
  obtain ⟨ob, h9, h10⟩ := may_ne h
  rw [h10] at h ⊢
  obtain ⟨es, rfl, h11⟩ := mapOb_ne h
  rw [h11] at h ⊢
  obtain ⟨es', h12, h13⟩ := may_ne h
  rw [h13] at h ⊢
  obtain ⟨s', h14, h15, h16⟩ := setOb_ne (k := fun s => k und s) h
  refine ⟨und, s', h14, SameF.of h15, fun g a w hS hf => ?_⟩
  obtain ⟨e, g1, g2⟩ := h2 K _ g a w hX.g.symm hS
  have g3 : a.eval y = .string q := h4 K _ g a w hX.g.symm hS
  have g4 := h6 K _ g a w hX.g.symm hS
  obtain ⟨e', g5, g6⟩ := hS.rep.ob _ _ h9
  rw [g1] at g5; cases g5
  obtain ⟨en, q1, q2⟩ := g6
  have fin : ∀ (ne : Array MapEntry), (∀ f : Option (Nat × Value), True) → MR g 0 es' ne.toList → (Instr.mapUpdate t (.map (some e.b)) (.string q) (a.eval z)).run K.P w = .ok () (w.putObj e.b (.map ne es'.length)) →
      ∃ g' w' nx x', (execOp a.eval o).run K.P w = .ok nx w' ∧ (nx = .value x' ∨ nx = .skip ∧ x' = undef) ∧ VR g' und x' ∧ Did K fr g s w g' s' w' := fun ne _ hm hr => by
    obtain ⟨r1, r2⟩ := hS.rep.turn (ob' := .map es') (w' := w.putObj e.b (.map ne es'.length)) h9 g1 (hX.g ▸ hKi) h16 World.putObj_size (fun b hb => World.putObj_heap_other hb) ⟨rfl, rfl, rfl⟩ ⟨ne, World.putObj_heap_same (Array.getElem?_eq_some_iff.1 q1).1, hm⟩
    refine ⟨g, _, .skip, undef, ?_, .inr ⟨rfl, rfl⟩, ⟨[], rfl, rfl⟩, ⟨r2, r1, fun _ _ h => .inl h⟩⟩
    unfold execOp; rw [ho]
    refine map_skip ?_
    show (Instr.mapUpdate t (a.eval x) (a.eval y) (a.eval z)).run K.P w = _
    rw [g2, g3]
    exact hr
  have mu : ∀ r, Instr.findNow .string (.string q) en.toList 0 = some r → (Instr.mapUpdate t (.map (some e.b)) (.string q) (a.eval z)).run K.P w = ((match r with
      | some (i, _) => do
        let key ← Instr.keyThatStays (((en[i]?).map (·.key)).getD (.string q)) (.string q)
        setObj e.b (.map (en.modify i fun e => { e with key, val := a.eval z }) es.length)
      | none => setObj e.b (.map (en.push { key := .string q, val := a.eval z, born := es.length }) (es.length + 1))) : Sem Unit).run K.P w := fun r hr => by
    unfold Instr.mapUpdate
    rw [bind_ok (r_under hu)]
    simp only []
    rw [bind_ok (run_getMap q1)]
    simp only []
    rw [bind_ok (run_key hk _), bind_ok (run_find hk hr)]
    cases r <;> rfl
  rcases put_map g4 q2 h12 with ⟨n, y', m1, ⟨e0, m2, m3⟩, m4, m5⟩ | ⟨m1, m2, m3⟩
  · have m1' := m1 0
    simp only [Nat.zero_add] at m1'
    refine fin (en.modify n fun e => { e with key := .string q, val := a.eval z }) (fun _ => trivial) (by simpa using m5) ?_
    rw [mu _ m1']
    have : (en[n]?).map (·.key) = some (.string q) := by
      have : en[n]? = some e0 := by simpa using m2
      simp [this, m3]
    simp only [this, Option.getD_some]
    have hk' : (Instr.keyThatStays (.string q) (.string q)).run K.P w = .ok (.string q) w := by
      unfold Instr.keyThatStays
      have : Instr.sameBits 10000 (.string q) (.string q) = true := by
        show (q == q) = true
        rw [beq_eqB]; exact eqB_iff.2 rfl
      rw [if_pos this]; rfl
    rw [bind_ok hk', m4]
    exact run_setObj _ q1
  · refine fin (en.push { key := .string q, val := a.eval z, born := es.length }) (fun _ => trivial) (by simpa using m3) ?_
    rw [mu _ (m1 0), m2]
    exact run_setObj _ q1

theorem ov_rng {o : Oper} {t kt el : TypeId} {x : Operand} (hX : Ok K X) (ho : o.op = .range t x) (hu : X.P.underlying t = some (.map kt el)) : OpV K X o (iRng (opdOf X.M X.g x)) := fun cal fr s k h => by
  rw [hX.P] at hu
  unfold iRng at h ⊢
  obtain ⟨v, h1, h2⟩ := opd_spec h
  rw [h1] at h ⊢
  obtain ⟨i, rfl, h7⟩ := vMap_ne h
  rw [h7] at h ⊢
  obtain ⟨ob, h9, h10⟩ := may_ne h
  rw [h10] at h ⊢
  obtain ⟨es, rfl, h11⟩ := mapOb_ne h
  rw [h11, natK_eq] at h ⊢
  obtain ⟨j, s', n1, n2, n3, n4, n5⟩ := newOb_spec h
  refine ⟨.ptr j 0, s', n1, n2, fun g a w hS hf => ?_⟩
  obtain ⟨e, g1, g2⟩ := h2 K _ g a w hX.g.symm hS
  obtain ⟨e', g5, g6⟩ := hS.rep.ob _ _ h9
  rw [g1] at g5; cases g5
  obtain ⟨en, q1, q2⟩ := g6
  have hj := (new_id hS hf n4).1
  obtain ⟨d1, d2⟩ := newOb_did (o := .mapIter (some e.b) es.length #[] es.length) (e := ⟨w.heap.size, 0, 0, 0⟩) hS hf n3 n4 n5 rfl ⟨e, G.le_put hj _ _ g1, World.alloc_heap_new _ _, rfl⟩
  refine ⟨_, _, _, .pointer (some ⟨w.heap.size, 0, none⟩), ?_, .inl rfl, ⟨_, d2, rfl⟩, d1⟩
  unfold execOp; rw [ho]
  refine map_val ?_
  show (Instr.range t (a.eval x)).run K.P w = _
  rw [g2]
  unfold Instr.range
  rw [bind_ok (r_under hu)]
  simp only []
  rw [bind_ok (run_getMap q1)]
  simp only []
  rw [bind_ok (a := (.mapIter (some e.b) es.length #[] es.length : Obj)) (w' := w) rfl, bind_ok (run_newObj_alloc K.P w _)]
  rfl

theorem run_getIt {P : Program} {w : World} {b : Nat} {m : Option Nat} {si : Nat} {seen : Array Nat} {st : Nat} (h : w.heap[b]? = some (.mapIter m si seen st)) : (getObj b).run P w = .ok (.mapIter m si seen st) w := by simp [getObj, Sem.run, h]
theorem run_setIt {P : Program} {w : World} {b : Nat} {m : Option Nat} {si : Nat} {seen : Array Nat} {st : Nat} (o : Obj) (h : w.heap[b]? = some (.mapIter m si seen st)) : (setObj b o).run P w = .ok () (w.putObj b o) := by simp [setObj, Sem.run, h, World.putObj]

theorem ov_ent {o : Oper} {x : Operand} (hX : Ok K X) (ho : o.op = .entry x) : OpP K X o (iEnt (opdOf X.M X.g x)) := fun cal fr s k h => by
  unfold iEnt at h ⊢
  obtain ⟨v, h1, h2⟩ := opd_spec h
  rw [h1] at h ⊢
  obtain ⟨i, of, rfl, h3⟩ := vPtr_ne h
  rw [h3] at h ⊢
  obtain ⟨h4, h5⟩ := test_ne h
  have hof : of = 0 := Nat.eq_of_beq_eq_true h4
  subst hof
  rw [h5] at h ⊢
  obtain ⟨ob, h6, h7⟩ := may_ne h
  rw [h7] at h ⊢
  obtain ⟨m, si, se, rfl, h8⟩ := itOb_ne h
  rw [h8] at h ⊢
  obtain ⟨ob', h9, h10⟩ := may_ne h
  rw [h10] at h ⊢
  obtain ⟨es, rfl, h11⟩ := mapOb_ne h
  rw [h11] at h ⊢
  split at h
  · rename_i q v
    refine ⟨.tup [q, v], rfl, fun g a w hS => ?_⟩
    obtain ⟨e, g1, g2⟩ := h2 K _ g a w hX.g.symm hS
    obtain ⟨e1, g3, em, g4, g5, g9⟩ := hS.rep.ob _ _ h6
    rw [g1] at g3; cases g3
    obtain ⟨e2, g6, en, g7, g8⟩ := hS.rep.ob _ _ h9
    rw [g4] at g6; cases g6
    obtain ⟨me, l, hl, hq, hv, hb, hm⟩ := g8
    simp only [MR] at hm
    subst hm
    have hen : en = #[me] := by cases en; simp at hl; simp [hl]
    subst hen
    refine ⟨.tuple #[me.key, me.val], ?_, ⟨_, rfl, _, _, rfl, hq, _, _, rfl, hv, rfl⟩⟩
    unfold execOp; rw [ho]
    refine map_val ?_
    show (Instr.entry (a.eval x)).run K.P w = _
    rw [g2, g9]
    simp only [Nat.one_ne_zero, if_false] at g5
    unfold Instr.entry
    show (getObj e.b >>= _).run K.P w = _
    rw [bind_ok (run_getIt g5)]
    show (getObj em.b >>= _).run K.P w = _
    rw [bind_ok (run_getMap g7)]
    simp [hb]
  · exact absurd rfl h

theorem ov_nxt {o : Oper} {x : Operand} (hX : Ok K X) (ho : o.op = .next x false) : OpV K X o (iNxt X.g (opdOf X.M X.g x)) := fun cal fr s k h => by
  unfold iNxt at h ⊢
  obtain ⟨v, h1, h2⟩ := opd_spec h
  rw [h1] at h ⊢
  obtain ⟨i, of, rfl, h3⟩ := vPtr_ne h
  rw [h3] at h ⊢
  obtain ⟨hgi, hgi'⟩ := test_ne h
  rw [hgi'] at h ⊢
  have hKi : X.g ≤ i := Nat.le_of_ble_eq_true hgi
  obtain ⟨h4, h5⟩ := test_ne h
  have hof : of = 0 := Nat.eq_of_beq_eq_true h4
  subst hof
  rw [h5] at h ⊢
  obtain ⟨ob, h6, h7⟩ := may_ne h
  rw [h7] at h ⊢
  obtain ⟨m, si, se, rfl, h8⟩ := itOb_ne h
  rw [h8] at h ⊢
  obtain ⟨ob', h9, h10⟩ := may_ne h
  rw [h10] at h ⊢
  obtain ⟨es, rfl, h11⟩ := mapOb_ne h
  rw [h11] at h ⊢
  have fin : ∀ {g : G} {a : Act} {w w' : World} {z : Value}, SR K X.M X.N g s a w → (∀ (e em : Gh), g i = some e → g m = some em → a.eval x = .pointer (some ⟨e.b, 0, none⟩) → (Instr.next (.pointer (some ⟨e.b, 0, none⟩)) false o.type).run K.P w = .ok z w') →
      (execOp a.eval o).run K.P w = .ok (.value z) w' := fun {g a w w' z} hS hr => by
    obtain ⟨e, g1, g2⟩ := h2 K _ g a w hX.g.symm hS
    obtain ⟨e1, g3, em, g4, g5, g9⟩ := hS.rep.ob _ _ h6
    rw [g1] at g3; cases g3
    rw [g9] at g2
    unfold execOp; rw [ho]
    refine map_val ?_
    show (Instr.next (a.eval x) false o.type).run K.P w = _
    rw [g2]
    exact hr e em g1 g4 g2
  split at h
  · -- the one entry
    rename_i q v
    obtain ⟨s', k1, k2, k3⟩ := setOb_ne (k := fun s => k (.tup [.bool true, q, v]) s) h
    refine ⟨_, s', k1, SameF.of k2, fun g a w hS hf => ?_⟩
    obtain ⟨e, g3, em, g4, g5, g9⟩ := hS.rep.ob _ _ h6
    obtain ⟨e2, g6, en, g7, g8⟩ := hS.rep.ob _ _ h9
    rw [g4] at g6; cases g6
    obtain ⟨me, l, hl, hq, hv, hb, hm⟩ := g8
    simp only [MR] at hm
    subst hm
    have hen : en = #[me] := by cases en; simp at hl; simp [hl]
    subst hen
    simp only [if_true] at g5
    have hle : e.b < w.heap.size := (Array.getElem?_eq_some_iff.1 g5).1
    obtain ⟨r1, r2⟩ := hS.rep.turn (ob' := .miter m 1 1) (w' := w.putObj e.b (.mapIter (some em.b) 1 #[0] 1)) h6 g3 (hX.g ▸ hKi) k3 World.putObj_size (fun b hb => World.putObj_heap_other hb) ⟨rfl, rfl, rfl⟩
      ⟨em, g4, by rw [World.putObj_heap_same hle]; rfl, g9⟩
    refine ⟨g, _, _, .tuple #[.bool true, me.key, me.val], fin hS (fun e' em' he hem _ => ?_), .inl rfl, ⟨_, rfl, _, _, rfl, rfl, _, _, rfl, hq, _, _, rfl, hv, rfl⟩, ⟨r2, r1, fun _ _ h => .inl h⟩⟩
    rw [g3] at he; cases he
    rw [g4] at hem; cases hem
    unfold Instr.next
    show (getObj e.b >>= _).run K.P w = _
    rw [bind_ok (run_getIt g5)]
    show (getObj em.b >>= _).run K.P w = _
    rw [bind_ok (run_getMap g7)]
    simp [hb, Sem.run_bind, choose, Sem.run, Question.forced, run_setIt _ g5]
  · -- it has been told
    rename_i q
    refine ⟨_, s, rfl, SameF.refl _ _, fun g a w hS hf => ?_⟩
    obtain ⟨e, g3, em, g4, g5, g9⟩ := hS.rep.ob _ _ h6
    obtain ⟨e2, g6, en, g7, g8⟩ := hS.rep.ob _ _ h9
    rw [g4] at g6; cases g6
    obtain ⟨me, l, hl, hq, hv, hb, hm⟩ := g8
    simp only [MR] at hm
    subst hm
    have hen : en = #[me] := by cases en; simp at hl; simp [hl]
    subst hen
    simp only [Nat.one_ne_zero, if_false] at g5
    refine ⟨g, w, _, .tuple #[.bool false], fin hS (fun e' em' he hem _ => ?_), .inl rfl, ⟨_, rfl, _, _, rfl, rfl, rfl⟩, Did.same hS.rep⟩
    rw [g3] at he; cases he
    rw [g4] at hem; cases hem
    unfold Instr.next
    show (getObj e.b >>= _).run K.P w = _
    rw [bind_ok (run_getIt g5)]
    show (getObj em.b >>= _).run K.P w = _
    rw [bind_ok (run_getMap g7)]
    simp [hb, Sem.run_bind, choose, Sem.run, Question.forced]
  · exact absurd rfl h

end Go.AE

namespace Go.AE
variable {K : Kon} {X : Cx}

/-- the fence: none; within a loop's body or not -/
def Fn' (rd : Option Nat) : Fence := { Fence.wide with round := rd }
theorem fn'_fn (rd : Option Nat) (f : FuncId) : (Fn' rd).fn f := trivial
theorem fn'_depth (rd : Option Nat) : (Fn' rd).depth.isSome = true → False := fun h => by simp [Fn', Fence.wide] at h

/-- what is new -/
def New (g g' : G) (n n' : Nat) : Prop := ∀ i e, g' i = some e → g i = some e ∨ n ≤ i ∧ i < n'

theorem New.refl (g : G) (n n' : Nat) : New g g n n' := fun _ _ h => .inl h
theorem New.trans {g g' g'' : G} {n n' n'' : Nat} (h : New g g' n n') (k : New g' g'' n' n'') (h1 : n ≤ n') (h2 : n' ≤ n'') : New g g'' n n'' := fun i e hi => by
  rcases k i e hi with h' | h'
  · rcases h i e h' with h' | h'
    · exact .inl h'
    · exact .inr (by omega)
  · exact .inr (by omega)
theorem New.nb {g g' : G} {n n' : Nat} (h : New g g' n n') (hn : NB g n) (h1 : n ≤ n') : NB g' n' := fun i e hi => by
  rcases h i e hi with h' | h'
  · exact Nat.lt_of_lt_of_le (hn i e h') h1
  · exact h'.2

/-- A CALL: what the evaluator says of it is so. -/
def CallOk (K : Kon) (t : T Ob) (n : Nat) (f : FuncId) (vs : List V) (v : V) (t' : T Ob) (n' : Nat) : Prop := (∀ args w, (callFunc f args).run K.P w = .ok (.enter f args) w) ∧ ∀ (g : G) (w : World) (xs : List Value), Rep K g t w → NB g n → VRs g vs xs →
  Calls K.P f ⟨xs⟩ w fun e w' => ∃ x g', e = .returned x ∧ VR g' v x ∧ Stp K g t w g' t' w' ∧ Rep K g' t' w' ∧ New g g' n n' ∧ n ≤ n'

/-- .. and of a round of a loop -/
def RoundOk (K : Kon) (t : T Ob) (n : Nat) (l : Nat) (vs : List V) (v : V) (t' : T Ob) (n' : Nat) : Prop := ∀ (g : G) (w : World) (xs : List Value) (el : Gh), Rep K g t w → NB g n → VRs g vs xs → g l = some el →
  ∃ f tmps asg body, (Instr.yield el.b ⟨xs⟩).run K.P w = .ok (.round el.b f tmps asg body) w ∧
    ∀ m, RoundIn Fence.wide m K.P el.b f tmps asg body w fun e w' => ∃ x g', e = .returned x ∧ VR g' v x ∧ Stp K g t w g' t' w' ∧ Rep K g' t' w' ∧ New g g' n n' ∧ n ≤ n'

def CalOk (K : Kon) (cal : Cal) : Prop := ∀ x vs t n k, cal x vs t n k ≠ .fail → ∃ v t' n', cal x vs t n k = k v t' n' ∧ (match x with | .inl f => CallOk K t n f vs v t' n' | .inr l => RoundOk K t n l vs v t' n')

theorem calOk_no : CalOk K noCal := fun _ _ _ _ _ h => absurd rfl h

/-- what becomes of the frame and the memory -/
structure Went (K : Kon) (M N : Nat) (fr : Option Nat) (g : G) (s : St) (w : World) (g' : G) (s' : St) (a' : Act) (w' : World) : Prop where
  sr : SR K M N g' s' a' w'
  stp : Stp K g s.t w g' s'.t w'
  new : ∀ i e, g' i = some e → g i = some e ∨ NewId fr s.n s'.n i ∨ s.n ≤ i ∧ i < s'.n
  n : s.n ≤ s'.n

/-- ONE OPERATION: the walk's form. -/
def OpW (K : Kon) (X : Cx) (o : Oper) (cal : Cal) (f : IOp) : Prop := ∀ fr s k, f cal fr s k ≠ .fail →
  ∃ v s', f cal fr s k = k v s' ∧ s'.σ = s.σ ∧ s'.loc = s.loc ∧ ∀ g a w m rd' (K' : Act → World → Prop) Q, (X.rd = none → rd' = none) → SR K X.M X.N g s a w → Free K fr g s.n →
    (∀ g' a' w' x, SR K X.M X.N g' s' a' w' → VR g' v x → Stp K g s.t w g' s'.t w' → (∀ i e, g' i = some e → g i = some e ∨ NewId fr s.n s'.n i ∨ s.n ≤ i ∧ i < s'.n) → s.n ≤ s'.n → a'.tmps = a.tmps → K' (a'.put o.dst x) w') →
    o.wpIn (Fn' rd') m K.P a w K' Q

theorem Act.put_undef (a : Act) (dst : Option Tmp) : a.put dst undef = a.put dst undef := rfl

theorem OpW.of_v {o : Oper} {cal : Cal} {f : IOp} (hd : ∀ c, o.op ≠ .defer c) (h : OpV K X o f) : OpW K X o cal f := fun fr s k hf => by
  obtain ⟨v, s', h1, h2, h3⟩ := h cal fr s k hf
  refine ⟨v, s', h1, h2.1, h2.2.1, fun g a w m rd' K' Q hrd' hS hfr hK => ?_⟩
  obtain ⟨g', w', nx, x, r1, r2, r3, r4⟩ := h3 g a w hS hfr
  have hS' := r4.sr hS hfr h2
  have hnn : s.n ≤ s'.n := by
    obtain ⟨_, _, _, h4⟩ := h2
    cases fr with
    | none => exact h4
    | some j => exact Nat.le_of_eq h4.symm
  have key := hK g' a w' x hS' r3 r4.stp (fun i e hi => (r4.new i e hi).imp id .inl) hnn rfl
  refine ⟨fun f _ => trivial, ?_⟩
  rw [Oper.semAt_eq _ _ _ hd, r1]
  rcases r2 with rfl | ⟨rfl, rfl⟩
  · exact key
  · exact key

theorem VRs.args {g : G} {a b : List V} {xs ys zs : List Value} {vs : List V} (h1 : VRs g a xs) (h2 : VRs g vs zs) (h3 : VRs g b ys) : VRs g (a ++ (vs ++ b)) (xs ++ (zs ++ ys)) := h1.append (h2.append h3)

/-- a function with a body is entered -/
theorem run_enter {P : Program} {w : World} {f : FuncId} {fn : Func} {c : Code} {args : Array Value} (hf : P.funcs[f]? = some fn) (hb : fn.body = some c) (hn : (fn.name == "runtime.NumGoroutine") = false) : (callFunc f args).run P w = .ok (.enter f args) w := by
  unfold callFunc
  rw [bind_ok (a := P) (w' := w) rfl]
  simp [hf, hn, hb]

theorem wpIn_enter {rd : Option Nat} {m : Nat} {P : Program} {o : Oper} {a : Act} {w : World} {K' : Act → World → Prop} {Q : Exit → Act → World → Prop} {f : FuncId} {args : Array Value} (hd : ∀ c, o.op ≠ .defer c) (hr : (execOp a.eval o).run P w = .ok (.enter f args) w)
    (h : Calls P f args w fun e w' => ∃ x, e = .returned x ∧ K' (a.put o.dst x) w') : o.wpIn (Fn' rd) m P a w K' Q := by
  refine ⟨fun f _ => trivial, ?_⟩
  rw [Oper.semAt_eq _ _ _ hd, hr]
  refine ⟨fun h => (fn'_depth rd h).elim, ?_⟩
  have : CallsIn Fence.wide (m - 1) P f args w (fun e w' => ∃ x, e = .returned x ∧ K' (a.put o.dst x) w') := callsIn_wide.2 h
  refine CallsIn.mono (F := Fn' rd) this ?_
  rintro e w' ⟨x, rfl, hk⟩
  exact hk

theorem wpIn_round {rd : Option Nat} {m : Nat} {P : Program} {o : Oper} {a : Act} {w : World} {K' : Act → World → Prop} {Q : Exit → Act → World → Prop} {l : Nat} {f : FuncId} {tmps : Array Value} {asg body : Code} (hd : ∀ c, o.op ≠ .defer c) (hr : (execOp a.eval o).run P w = .ok (.round l f tmps asg body) w)
    (h : ∀ m, RoundIn Fence.wide m P l f tmps asg body w fun e w' => ∃ x, e = .returned x ∧ K' (a.put o.dst x) w') : o.wpIn (Fn' rd) m P a w K' Q := by
  refine ⟨fun f _ => trivial, ?_⟩
  rw [Oper.semAt_eq _ _ _ hd, hr]
  refine ⟨fun h => (fn'_depth rd h).elim, ?_⟩
  refine RoundIn.mono (F := Fn' rd) (h (m - 1)) ?_
  rintro e w' ⟨x, rfl, hk⟩
  exact hk

/-- behind a call -/
theorem call_went {M N : Nat} {g : G} {s : St} {a : Act} {w : World} {g' : G} {t' : T Ob} {n' : Nat} {w' : World} (hS : SR K M N g s a w) (hst : Stp K g s.t w g' t' w') (hr : Rep K g' t' w') (hnew : New g g' s.n n') (hn : s.n ≤ n') :
    SR K M N g' ⟨s.loc, s.σ, s.d, t', n'⟩ a w' := hS.step (s' := ⟨s.loc, s.σ, s.d, t', n'⟩) hst hr (hnew.nb hS.nb hn) rfl rfl rfl

theorem ow_cal {o : Oper} {c : Call} {cal : Cal} {f : FuncId} (hX : Ok K X) (hcal : CalOk K cal) (ho : o.op = .call c) (hc : c.callee = .value (.func f)) : OpW K X o cal (iCal f (c.args.toList.map (opdOf X.M X.g))) := fun fr s k h => by
  unfold iCal at h ⊢
  obtain ⟨vs, h1, h2⟩ := opds_spec h
  rw [h1] at h ⊢
  obtain ⟨v, t', n', h3, h5, h6⟩ := hcal (.inl f) vs s.t s.n _ h
  rw [h3]
  refine ⟨v, ⟨s.loc, s.σ, s.d, t', n'⟩, rfl, rfl, rfl, fun g a w m rd' K' Q hrd' hS hf hK => ?_⟩
  have hv := h2 K _ g a w hX.g.symm hS
  refine wpIn_enter (by rw [ho]; simp) (f := f) (args := ⟨c.args.toList.map a.eval⟩) ?_ ((h6 g w _ hS.rep hS.nb hv).mono ?_)
  · refine run_call ho hc (fn := .func f) (xs := #[]) (ys := #[]) rfl ?_
    rw [args_list]
    simp only [invoke]
    have : (#[] : Array Value) ++ (⟨c.args.toList.map a.eval⟩ : Array Value) ++ #[] = ⟨c.args.toList.map a.eval⟩ := by simp
    rw [this]
    exact h5 _ _
  · rintro e w' ⟨x, g', rfl, r1, r2, r3, r4, h4⟩
    exact ⟨x, rfl, hK g' a w' x (call_went hS r2 r3 r4 h4) r1 r2 (fun i e hi => (r4 i e hi).imp id .inr) h4 rfl⟩

theorem clV_ne {v : V} {k : Sum FuncId Nat → List V → List V → Res} (h : clV v k ≠ .fail) : (∃ f a b, v = .fn f a b ∧ clV v k = k (.inl f) a b) ∨ ∃ l, v = .yld l ∧ clV v k = k (.inr l) [] [] := by
  cases v with
  | fn f a b => exact .inl ⟨f, a, b, rfl, rfl⟩
  | yld l => exact .inr ⟨l, rfl, rfl⟩
  | _ => exact absurd rfl h

theorem ow_cls {o : Oper} {c : Call} {cal : Cal} {fo : Operand} (hX : Ok K X) (hcal : CalOk K cal) (ho : o.op = .call c) (hc : c.callee = .value fo) : OpW K X o cal (iCls X.mz (opdOf X.M X.g fo) (c.args.toList.map (opdOf X.M X.g))) := fun fr s k h => by
  unfold iCls at h ⊢
  obtain ⟨fv, f1, f2⟩ := opd_spec h
  rw [f1] at h ⊢
  rcases clV_ne h with ⟨f, av, bv, rfl, e⟩ | ⟨l, rfl, e⟩
  · rw [e] at h ⊢
    obtain ⟨vs, h1, h2⟩ := opds_spec h
    rw [h1] at h ⊢
    obtain ⟨_, t2⟩ := test_ne h
    rw [t2] at h ⊢
    obtain ⟨v, t', n', h3, h5, h6⟩ := hcal (.inl f) _ s.t s.n _ h
    rw [h3]
    refine ⟨v, ⟨s.loc, s.σ, s.d, t', n'⟩, rfl, rfl, rfl, fun g a w m rd' K' Q hrd' hS hf hK => ?_⟩
    have hv := h2 K _ g a w hX.g.symm hS
    obtain ⟨xs, ys, q1, q2, q3⟩ := f2 K _ g a w hX.g.symm hS
    refine wpIn_enter (by rw [ho]; simp) (f := f) (args := ⟨xs ++ (c.args.toList.map a.eval ++ ys)⟩) ?_ ((h6 g w _ hS.rep hS.nb (VRs.args q2 hv q3)).mono ?_)
    · refine run_call ho hc q1 ?_
      rw [args_list]
      simp only [invoke]
      have : (⟨xs⟩ : Array Value) ++ (⟨c.args.toList.map a.eval⟩ : Array Value) ++ ⟨ys⟩ = ⟨xs ++ (c.args.toList.map a.eval ++ ys)⟩ := by simp
      rw [this]
      exact h5 _ _
    · rintro e w' ⟨x, g', rfl, r1, r2, r3, r4, h4⟩
      exact ⟨x, rfl, hK g' a w' x (call_went hS r2 r3 r4 h4) r1 r2 (fun i e hi => (r4 i e hi).imp id .inr) h4 rfl⟩
  · rw [e] at h ⊢
    obtain ⟨vs, h1, h2⟩ := opds_spec h
    rw [h1] at h ⊢
    obtain ⟨_, t2⟩ := test_ne h
    rw [t2] at h ⊢
    obtain ⟨v, t', n', h3, h5⟩ := hcal (.inr l) _ s.t s.n _ h
    rw [h3]
    simp only [List.nil_append, List.append_nil] at h5
    refine ⟨v, ⟨s.loc, s.σ, s.d, t', n'⟩, rfl, rfl, rfl, fun g a w m rd' K' Q hrd' hS hf hK => ?_⟩
    have hv := h2 K _ g a w hX.g.symm hS
    obtain ⟨el, q1, q2⟩ := f2 K _ g a w hX.g.symm hS
    obtain ⟨lf, lt, la, lb, y1, y2⟩ := h5 g w _ el hS.rep hS.nb hv q1
    refine wpIn_round (by rw [ho]; simp) (l := el.b) (f := lf) (tmps := lt) (asg := la) (body := lb) ?_ (fun m => (y2 m).mono ?_)
    · refine run_call ho hc q2 ?_
      rw [args_list]
      simp only [invoke]
      have : (#[] : Array Value) ++ (⟨c.args.toList.map a.eval⟩ : Array Value) = ⟨c.args.toList.map a.eval⟩ := by simp
      rw [this]
      exact y1
    · rintro e w' ⟨x, g', rfl, r1, r2, r3, r4, h4⟩
      exact ⟨x, rfl, hK g' a w' x (call_went hS r2 r3 r4 h4) r1 r2 (fun i e hi => (r4 i e hi).imp id .inr) h4 rfl⟩

theorem ow_dfr {o : Oper} {c : Call} {cal : Cal} {fo : Operand} (hX : Ok K X) (ho : o.op = .defer c) (hc : c.callee = .value fo) (hrd : X.rd = none) : OpW K X o cal (iDfr (opdOf X.M X.g fo) (c.args.toList.map (opdOf X.M X.g))) := fun fr s k h => by
  unfold iDfr at h ⊢
  obtain ⟨fv, f1, f2⟩ := opd_spec h
  rw [f1] at h ⊢
  rcases clV_ne h with ⟨f, av, bv, rfl, e⟩ | ⟨l, rfl, e⟩
  · rw [e] at h ⊢
    obtain ⟨vs, h1, h2⟩ := opds_spec h
    rw [h1]
    refine ⟨und, ⟨s.loc, s.σ, .call f (av ++ (vs ++ bv)) :: s.d, s.t, s.n⟩, rfl, rfl, rfl, fun g a w m rd' K' Q hrd' hS hf hK => ?_⟩
    have hv := h2 K _ g a w hX.g.symm hS
    obtain ⟨xs, ys, q1, q2, q3⟩ := f2 K _ g a w hX.g.symm hS
    let d : Deferred := { target := .fn (.func f) ⟨ys⟩, args := ⟨xs ++ c.args.toList.map a.eval⟩ }
    have hS' : SR K X.M X.N g ⟨s.loc, s.σ, .call f (av ++ (vs ++ bv)) :: s.d, s.t, s.n⟩ { a with defers := d :: a.defers } w :=
      ⟨hS.size, hS.tm, hS.loc, ⟨_, _, _, rfl, by have := VRs.args q2 hv q3; simpa using this, hS.dfs⟩, hS.rep, hS.nb⟩
    have key := hK g { a with defers := d :: a.defers } w undef hS' ⟨[], rfl, rfl⟩ (Stp.refl _ _ _) (fun i e hi => .inl hi) (Nat.le_refl _) rfl
    refine ⟨fun f _ => trivial, ?_⟩
    have hr : (execOp a.eval o).run K.P w = .ok (.defer d) w := by
      unfold execOp; rw [ho]
      simp only [resolve, hc, q1, Deferred.ofValue]
      rw [args_list]
      rw [bind_ok (a := d) (w' := w) (by simp [d])]
      rfl
    have hro : (Fn' rd').round = none := hrd' hrd
    rw [hro, Oper.semAt_none, hr]
    exact key
  · rw [e] at h
    obtain ⟨vs, h1, h2⟩ := opds_spec h
    rw [h1] at h
    exact absurd rfl h

end Go.AE

namespace Go.AE

variable {K : Kon} {X : Cx}

theorem OpW.none {o : Oper} {cal : Cal} : OpW K X o cal jno.run := fun _ _ _ h => absurd rfl h

theorem zero_all {P : Program} {t : TypeId} {z : List V} (h : zeroT P t = some z) : ∃ i x v, P.info? t = some i ∧ i.zero = some x ∧ (∀ g, VR g v x) ∧ cellsV v = z ∧ z.length = i.size := by
  unfold zeroT at h
  split at h
  · rename_i i hi
    split at h
    · rename_i x hx
      split at h
      · rename_i v hv
        cases hb : Nat.beq (len' (cellsV v)) i.size with
        | false => rw [hb] at h; cases h
        | true =>
          rw [hb] at h; cases h
          exact ⟨i, x, v, hi, hx, fun g => VR.ofV hv, rfl, by rw [← len'_eq]; exact Nat.eq_of_beq_eq_true hb⟩
      · cases h
    · cases h
  · cases h

theorem zero_size {g : G} {v : V} {x : Value} (h : VR g v x) : x.cells.size = (cellsV v).length := by
  have := (h.cells_all).length
  simpa using this

theorem beq_int (m n : Nat) : ((m : Int) == (n : Int)) = Nat.beq m n := by
  rw [Bool.eq_iff_iff]
  constructor
  · intro h
    have : (m : Int) = n := by simpa using h
    exact Nat.beq_eq.mpr (by omega)
  · intro h
    have : m = n := Nat.eq_of_beq_eq_true h
    simp [this]

theorem cmp_eq (m n : Nat) : Op.intCmp .eql (Int.ofNat m) (Int.ofNat n) = pure (.bool (Nat.beq m n)) := by
  simp only [Op.intCmp]
  exact congrArg (fun b => pure (Value.bool b)) (beq_int m n)

theorem cmp_ne (m n : Nat) : Op.intCmp .neq (Int.ofNat m) (Int.ofNat n) = pure (.bool (!Nat.beq m n)) := by
  simp only [Op.intCmp]
  exact congrArg (fun b => pure (Value.bool (!b))) (beq_int m n)

theorem bin_ok {o : Oper} {op : BinOp} {t ty : TypeId} {x y : Operand} (cal : Cal) (hX : Ok K X) (ho : o.op = .binOp op t x y ty) : OpW K X o cal (binOf X op t x y).run := by
  have hd : ∀ c, o.op ≠ .defer c := by rw [ho]; simp
  have J : ∀ {f : V → V → KV → Res}, Fn2 K f (slowB op t x y) → OpW K X o cal (jBin f (opdOf X.M X.g x) (opdOf X.M X.g y)).run := fun hf => OpW.of_v hd (ov_bin hX ho hf).v
  have hP := hX.P
  unfold binOf
  dsimp only
  cases op with
  | add => dsimp only; split <;> exact J (by first | exact fn_arith (.inl ⟨rfl, rfl⟩) | exact fn_slow hP)
  | sub => dsimp only; split <;> first | exact J (fn_arith (.inr (.inl ⟨rfl, rfl⟩))) | exact OpW.none
  | mul => dsimp only; split <;> first | exact J (fn_arith (.inr (.inr ⟨rfl, rfl⟩))) | exact OpW.none
  | and => exact J (fn_bit (.inl ⟨rfl, rfl⟩))
  | or => exact J (fn_bit (.inr (.inl ⟨rfl, rfl⟩)))
  | xor => exact J (fn_bit (.inr (.inr ⟨rfl, rfl⟩)))
  | shl => exact J (fn_sh (.inl ⟨rfl, rfl⟩))
  | shr => exact J (fn_sh (.inr ⟨rfl, rfl⟩))
  | eql =>
    dsimp only
    split
    · exact J (fn_cmp hP (fun m n => by first | rfl | exact cmp_eq m n) (by simp))
    · rename_i h; exact J (fn_nil (.inl ⟨rfl, rfl⟩) (hP ▸ h) (.inl ⟨_, rfl, rfl⟩))
    · rename_i h; exact J (fn_nil (.inl ⟨rfl, rfl⟩) (hP ▸ h) (.inr (.inl ⟨_, rfl, rfl⟩)))
    · rename_i h; exact J (fn_nil (.inl ⟨rfl, rfl⟩) (hP ▸ h) (.inr (.inr (.inl ⟨_, _, rfl, rfl⟩))))
    · rename_i h; exact J (fn_nil (.inl ⟨rfl, rfl⟩) (hP ▸ h) (.inr (.inr (.inr ⟨_, _, _, rfl, rfl⟩))))
    · exact J (fn_slow hP)
  | neq =>
    dsimp only
    split
    · exact J (fn_cmp hP (fun m n => by first | rfl | exact cmp_ne m n) (by simp))
    · rename_i h; exact J (fn_nil (.inr ⟨rfl, rfl⟩) (hP ▸ h) (.inl ⟨_, rfl, rfl⟩))
    · rename_i h; exact J (fn_nil (.inr ⟨rfl, rfl⟩) (hP ▸ h) (.inr (.inl ⟨_, rfl, rfl⟩)))
    · rename_i h; exact J (fn_nil (.inr ⟨rfl, rfl⟩) (hP ▸ h) (.inr (.inr (.inl ⟨_, _, rfl, rfl⟩))))
    · rename_i h; exact J (fn_nil (.inr ⟨rfl, rfl⟩) (hP ▸ h) (.inr (.inr (.inr ⟨_, _, _, rfl, rfl⟩))))
    · exact J (fn_slow hP)
  | lss => exact J (fn_cmp hP (fun m n => by first | rfl | (simp only [Op.intCmp]; congr 2; rw [Bool.eq_iff_iff]; simp [Nat.blt_eq])) (by simp))
  | leq => exact J (fn_cmp hP (fun m n => by first | rfl | (simp only [Op.intCmp]; congr 2; rw [Bool.eq_iff_iff]; simp [Nat.blt_eq])) (by simp))
  | gtr => exact J (fn_cmp hP (fun m n => by first | rfl | (simp only [Op.intCmp]; congr 2; rw [Bool.eq_iff_iff]; simp [Nat.blt_eq, Nat.beq_eq])) (by simp))
  | geq => exact J (fn_cmp hP (fun m n => by first | rfl | (simp only [Op.intCmp]; congr 2; rw [Bool.eq_iff_iff]; simp [Nat.blt_eq, Nat.beq_eq])) (by simp))
  | _ => exact J (fn_slow hP)

theorem call_ok {o : Oper} {c : Call} {cal : Cal} (hX : Ok K X) (hm : X.mz = K.mz) (hmz : MzOk K) (hcal : CalOk K cal) (ho : o.op = .call c) : OpW K X o cal (callOf X c o.type).run := by
  have hd : ∀ c, o.op ≠ .defer c := by rw [ho]; simp
  have J : ∀ {f : IOp}, OpV K X o f → OpW K X o cal f := fun hf => OpW.of_v hd hf
  have hP := hX.P
  unfold callOf
  dsimp only
  split
  · rename_i f hc
    split
    · rename_i hf
      have hf : f = K.mz := hm ▸ Nat.eq_of_beq_eq_true hf
      subst hf
      split
      · split
        · exact J (ov_mz hX hmz ho hc)
        · exact OpW.none
      · exact OpW.none
    · exact ow_cal hX hcal ho hc
  · rename_i f hf hc
    exact ow_cls hX hcal ho hc
  · rename_i hc
    split
    · rename_i t x ht hx
      obtain ⟨y, hy, rfl⟩ : ∃ y, c.args.toList = [y] ∧ opdOf X.M X.g y = x := by
        cases hh : c.args.toList with
        | nil => rw [hh] at hx; simp at hx
        | cons y l =>
          rw [hh] at hx
          cases l with
          | nil => simp at hx; exact ⟨y, rfl, hx⟩
          | cons _ _ => simp at hx
      split
      · rename_i hu; exact J (ov_lenS hX ho hc hy ht hu).v
      · rename_i hu; exact J (ov_len hX ho hc hy ht hu).v
      · rename_i hu; exact J (ov_lenA hX ho hc hy ht hu).v
      · rename_i hu; exact J (ov_lenM hX ho hc hy ht hu).v
      · exact OpW.none
    · exact OpW.none
  · rename_i hc
    split
    · rename_i st xt s x ht hx
      obtain ⟨y, z, hy, rfl, rfl⟩ : ∃ y z, c.args.toList = [y, z] ∧ opdOf X.M X.g y = s ∧ opdOf X.M X.g z = x := by
        cases hh : c.args.toList with
        | nil => rw [hh] at hx; simp at hx
        | cons y l =>
          rw [hh] at hx
          cases l with
          | nil => simp at hx
          | cons z l =>
            cases l with
            | nil => simp at hx; exact ⟨y, z, rfl, hx.1, hx.2⟩
            | cons _ _ => simp at hx
      split
      · rename_i el hu
        split
        · rename_i sz i hs hi
          have hsz : i.size = sz := by
            obtain ⟨i', h1, h2⟩ := sizeT_some hs
            rw [hi] at h1; cases h1; exact h2
          subst hsz
          split
          · rename_i kn hb hx'
            split
            · rename_i zz hpos hz
              obtain ⟨i', zx, v, q1, q2, q3, q4, q5⟩ := zero_all hz
              rw [hi] at q1; cases q1
              exact J (ov_app hX ho hc hy ht hu hs hi hb hz zx q2 (newZ_ok hX (hP ▸ hx') (hP ▸ hu) (hP ▸ hi) q2 (Nat.le_of_ble_eq_true hb) ⟨v, q3, q4⟩ (by rw [zero_size (q3 fun _ => .none), q4, q5]) (by simpa [Nat.blt_eq] using hpos)))
            · exact OpW.none
          · rename_i e' hb hx'
            split
            · rename_i zz hz
              obtain ⟨i', zx, v, q1, q2, q3, q4, q5⟩ := zero_all hz
              rw [hi] at q1; cases q1
              exact J (ov_app hX ho hc hy ht hu hs hi hb hz zx q2 (newL_ok hX (.inl ⟨_, hP ▸ hx'⟩) (hP ▸ hu) (hP ▸ hi) q2 (Nat.le_of_ble_eq_true hb)))
            · exact OpW.none
          · rename_i hb hx'
            split
            · rename_i zz hz
              obtain ⟨i', zx, v, q1, q2, q3, q4, q5⟩ := zero_all hz
              rw [hi] at q1; cases q1
              exact J (ov_app hX ho hc hy ht hu hs hi hb hz zx q2 (newL_ok hX (.inr (hP ▸ hx')) (hP ▸ hu) (hP ▸ hi) q2 (Nat.le_of_ble_eq_true hb)))
            · exact OpW.none
          · exact OpW.none
        · exact OpW.none
      · exact OpW.none
    · exact OpW.none
  · rename_i hc
    split
    · rename_i t s x ht hx
      obtain ⟨y, z, hy, rfl, rfl⟩ : ∃ y z, c.args.toList = [y, z] ∧ opdOf X.M X.g y = s ∧ opdOf X.M X.g z = x := by
        cases hh : c.args.toList with
        | nil => rw [hh] at hx; simp at hx
        | cons y l =>
          rw [hh] at hx
          cases l with
          | nil => simp at hx
          | cons z l =>
            cases l with
            | nil => simp at hx; exact ⟨y, z, rfl, hx.1, hx.2⟩
            | cons _ _ => simp at hx
      split
      · rename_i el hu
        split
        · rename_i sz hs; exact J (ov_cpy hX ho hc hy ht hu hs)
        · exact OpW.none
      · exact OpW.none
    · exact OpW.none
  · rename_i hc
    exact J (ov_fn1 hX ho hc fun _ _ => rfl).v
  · rename_i hc
    exact J (ov_fn1 hX ho hc fun _ _ => rfl).v
  · exact OpW.none

theorem mh {mx hi : Option Operand} (h : ∀ v, mx = some v → hi = none → False) : mx = none ∨ hi ≠ none := by
  cases mx with
  | none => exact .inl rfl
  | some v => exact .inr (h v rfl)

theorem op_ok {o : Oper} {cal : Cal} (hX : Ok K X) (hm : X.mz = K.mz) (hmz : MzOk K) (hcal : CalOk K cal) : OpW K X o cal (opOf X o).run := by
  have J : ∀ {f : IOp}, (∀ c, o.op ≠ .defer c) → OpV K X o f → OpW K X o cal f := fun hd hf => OpW.of_v hd hf
  have hP := hX.P
  unfold opOf
  dsimp only
  split
  case h_1 x ho => exact J (by rw [ho]; simp) (ov_move hX (.inl ho)).v
  case h_2 x ho => exact J (by rw [ho]; simp) (ov_move hX (.inr ho)).v
  case h_3 c x y ho => exact J (by rw [ho]; simp) (ov_pick hX ho).v
  case h_4 t ho =>
    split
    · rename_i n z hn hz; exact J (by rw [ho]; simp) (ov_new hX ho hz)
    · exact OpW.none
  case h_5 t x ho =>
    split
    · exact J (by rw [ho]; simp) (ov_box hX ho)
    · exact OpW.none
  case h_6 t ps ho =>
    split
    · rename_i fs z hu hz
      split
      · rename_i q hq; exact J (by rw [ho]; simp) (ov_build_struct hX ho hu hz hq).v
      · exact OpW.none
    · rename_i n' el z hu hz
      split
      · rename_i n hn; exact J (by rw [ho]; simp) (ov_build_array hX ho hu hz hn).v
      · exact OpW.none
    · exact OpW.none
  case h_7 t len ps ho =>
    split
    · rename_i el hu
      split
      · rename_i n z hn hz
        split
        · rename_i hb; exact J (by rw [ho]; simp) (ov_bsl hX ho hu hn hz hb)
        · exact OpW.none
      · exact OpW.none
    · exact OpW.none
  case h_8 t x ho =>
    split
    · rename_i n ha hn; exact J (by rw [ho]; simp) (ov_load_agg hX ho ha hn).v
    · rename_i n ha hn; exact J (by rw [ho]; simp) (ov_load_cell hX ho ha).v
    · exact OpW.none
  case h_9 t x y ho =>
    split
    · rename_i n hn; exact J (by rw [ho]; simp) (ov_store hX ho hn)
    · exact OpW.none
  case h_10 x ho => exact J (by rw [ho]; simp) (ov_nil hX ho).v
  case h_11 op t x y ty ho => exact bin_ok cal hX ho
  case h_12 op t x ho => exact J (by rw [ho]; simp) (ov_un hX (m := Op.unary op) (fun ρ => by unfold execOp; rw [ho]) (fn_un hP)).v
  case h_13 s d x ho =>
    split
    · rename_i e k hs hd; exact J (by rw [ho]; simp) (ov_un hX (m := convert s d) (fun ρ => by unfold execOp; rw [ho]) (fn_cvI (hP ▸ hs) (hP ▸ hd))).v
    · rename_i hs hd; exact J (by rw [ho]; simp) (ov_un hX (m := convert s d) (fun ρ => by unfold execOp; rw [ho]) (fn_cvS (hP ▸ hs) (hP ▸ hd))).v
    · rename_i b hs hd
      split
      · rename_i hb; exact J (by rw [ho]; simp) (ov_str hX ho hs hd hb).v
      · exact OpW.none
    · exact OpW.none
  case h_14 t x ho =>
    split
    · exact OpW.none
    · rename_i d hi hu; exact J (by rw [ho]; simp) (ov_face hX ho hu (fun ms e => hi ms e)).v
    · exact OpW.none
  case h_15 f a b ho => exact J (by rw [ho]; simp) (ov_mkF hX ho).v
  case h_16 t ho => exact J (by rw [ho]; simp) (ov_mkM ho)
  case h_17 t l c ho =>
    split
    · rename_i el hu
      split
      · rename_i n z i hn hz hi
        split
        · rename_i hb; exact J (by rw [ho]; simp) (ov_mkS hX ho hu hn hz hi hb)
        · exact OpW.none
      · exact OpW.none
    · exact OpW.none
  case h_18 t x lo hi mx ho =>
    split
    · rename_i hu
      split
      · exact J (by rw [ho]; simp) (ov_sliS hX ho hu).v
      · exact OpW.none
    · rename_i el hu
      split
      · exact OpW.none
      · rename_i n mx' hi' hs hno; exact J (by rw [ho]; simp) (ov_sli hX ho hu hs (mh hno)).v
      · exact OpW.none
    · rename_i n el hu
      split
      · rename_i m hs; exact J (by rw [ho]; simp) (ov_sliA hX ho hu hs).v
      · exact OpW.none
    · exact OpW.none
  case h_19 t x f ho =>
    split
    · rename_i fs hu
      split
      · rename_i f hf
        split
        · rename_i n hs; exact J (by rw [ho]; simp) (ov_fad hX ho hu hf hs).v
        · exact OpW.none
      · exact OpW.none
    · exact OpW.none
  case h_20 t x f ho =>
    split
    · rename_i fs hu
      split
      · rename_i f hf
        split
        · rename_i b n ha hs; exact J (by rw [ho]; simp) (ov_fld hX ho hu hf ha hs).v
        · exact OpW.none
      · exact OpW.none
    · exact OpW.none
  case h_21 t x ix ho =>
    split
    · rename_i len el hu
      split
      · rename_i n hs; exact J (by rw [ho]; simp) (ov_iaA hX ho hu hs).v
      · exact OpW.none
    · rename_i el hu
      split
      · rename_i n hs; exact J (by rw [ho]; simp) (ov_iaS hX ho hu hs).v
      · exact OpW.none
    · exact OpW.none
  case h_22 t x ix ho =>
    split
    · rename_i len el hu
      split
      · rename_i b n ha hs; exact J (by rw [ho]; simp) (ov_ixA hX ho hu ha hs).v
      · exact OpW.none
    · rename_i hu; exact J (by rw [ho]; simp) (ov_ixS hX ho hu).v
    · exact OpW.none
  case h_23 t x k ok ho =>
    split
    · rename_i kt el hu
      split
      · rename_i z hk hz; exact J (by rw [ho]; simp) (ov_look hX ho hu hk hz).v
      · exact OpW.none
    · exact OpW.none
  case h_24 t m k x ho =>
    split
    · rename_i kt el hu
      split
      · rename_i hk; exact J (by rw [ho]; simp) (ov_upd hX ho hu hk)
      · exact OpW.none
    · exact OpW.none
  case h_25 t x ho =>
    split
    · rename_i a b hu; exact J (by rw [ho]; simp) (ov_rng hX ho hu)
    · exact OpW.none
  case h_26 it ho => exact J (by rw [ho]; simp) (ov_nxt hX ho)
  case h_27 it ho => exact J (by rw [ho]; simp) (ov_ent hX ho).v
  case h_28 t i ho => exact J (by rw [ho]; simp) (ov_ext hX ho).v
  case h_29 c ho => exact call_ok hX hm hmz hcal ho
  case h_30 c ho =>
    split
    · rename_i f hc hr; exact ow_dfr hX ho hc hr
    · exact OpW.none
  case h_31 => exact OpW.none

end Go.AE
