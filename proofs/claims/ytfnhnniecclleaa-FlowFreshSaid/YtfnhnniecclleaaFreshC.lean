/- The first region of FlowFresh: three copies and two new variables, made in any order; what holds when all is done. Conditions: none. -/
import Derived.Test.YtfnhnniecclleaaPAx24
import Derived.Test.YtfnhnniecclleaaFreshB
namespace Go.Proofs.Ytfnhnniecclleaa.Fresh
open Go.RowKit Go.Proofs.YtfnhnniecclleaaW.PrintWords Go.Proofs.YtfnhnniecclleaaW.PrintLast Go.Proofs.YtfnhnniecclleaaW.PrintMore Go.Proofs.Ytfnhnniecclleaa.PA
section
variable {P : Program} {md : Region.Mode} {ops : Array Oper} {Q : Exit → Act → World → Prop}
def unl (l : List Bool) : Nat := l.countP (fun b => !b)
theorem unl_set : ∀ (l : List Bool) (i : Nat), l.getD i true = false → unl (l.set i true) + 1 = unl l
  | [], i, h => by simp at h
  | b :: l, 0, h => by
    have : b = false := by simpa using h
    subst this; simp [unl]
  | b :: l, i + 1, h => by
    have := unl_set l i (by simpa using h)
    cases b <;> simp only [unl, List.set_cons_succ, List.countP_cons] at this ⊢ <;> simp at this ⊢ <;> omega
theorem unl_zero : ∀ (l : List Bool), unl l = 0 → ∀ i, l.getD i true = true
  | [], _, i => by simp
  | b :: l, h, i => by
    cases b
    · simp [unl] at h
    · cases i with
      | zero => rfl
      | succ i => simpa using unl_zero l (by simpa [unl] using h) i
theorem wpAny_inv (Inv : Array Bool → Act → World → Prop) (done : ∀ l a w, Inv l a w → Region.ready md ops l = [] → Q .normal a w)
    (step : ∀ l a w, Inv l a w → ∀ i ∈ Region.ready md ops l, wpOp P ops Q i (Inv (l.setIfInBounds i true)) a w) :
    ∀ (fuel : Nat) (l : Array Bool) (a : Act) (w : World), unl l.toList ≤ fuel → Inv l a w → wpAny P md ops Q fuel l a w := by
  have hr : ∀ l i, i ∈ Region.ready md ops l → l.toList.getD i true = false := fun l i hi => by
    simp only [Region.ready, List.mem_filter, Bool.and_eq_true, Bool.not_eq_true'] at hi
    have := hi.2.1
    simpa [Array.getD_eq_getD_getElem?, List.getD_eq_getElem?_getD] using this
  intro fuel
  induction fuel with
  | zero =>
    intro l a w hl hI
    have h0 : Region.ready md ops l = [] := by
      rcases h : Region.ready md ops l with _ | ⟨i, r⟩
      · rfl
      · have := hr l i (by rw [h]; exact List.mem_cons_self)
        rw [unl_zero _ (by omega)] at this
        cases this
    exact ⟨h0, done l a w hI h0⟩
  | succ fuel ih =>
    intro l a w hl hI
    refine ⟨done l a w hI, fun i hi => wpOp_mono (fun a' w' h => ih _ a' w' ?_ h) (step l a w hI i hi)⟩
    have := unl_set l.toList i (hr l i hi)
    rw [Array.toList_setIfInBounds]
    omega
theorem op_run {i : Nat} {o : Oper} {a : Act} {W W' : World} {v : Value} {K : Act → World → Prop} (ho : ops[i]? = some o) (hg : o.guard = none) (hrun : (execOp a.eval o).run P W = .ok (.value v) W') (h : K (a.put o.dst v) W') : wpOp P ops Q i K a W := by
  unfold wpOp
  simp only [ho, Region.wanted, hg, if_true]
  left
  unfold Oper.wp
  rw [hrun]
  exact h
theorem op_skip {i : Nat} {o : Oper} {a : Act} {W W' : World} {K : Act → World → Prop} (ho : ops[i]? = some o) (hg : o.guard = none) (hrun : (execOp a.eval o).run P W = .ok .skip W') (h : K (a.put o.dst undef) W') : wpOp P ops Q i K a W := by
  unfold wpOp
  simp only [ho, Region.wanted, hg, if_true]
  left
  unfold Oper.wp
  rw [hrun]
  exact h
theorem op_call {i : Nat} {o : Oper} {a : Act} {W : World} {f : FuncId} {args : Array Value} {R : Ending → World → Prop} {K : Act → World → Prop} (ho : ops[i]? = some o) (hg : o.guard = none) (hrun : (execOp a.eval o).run P W = .ok (.enter f args) W) (hc : Calls P f args W R)
    (h : ∀ e w', R e w' → ∃ v, e = .returned v ∧ K (a.put o.dst v) w') : wpOp P ops Q i K a W := by
  unfold wpOp
  simp only [ho, Region.wanted, hg, if_true]
  left
  unfold Oper.wp
  rw [hrun]
  refine hc.mono fun e w' hr => ?_
  obtain ⟨v, rfl, hk⟩ := h e w' hr
  exact hk
end
theorem rdy_mem {ops : Array Oper} {l : Array Bool} {i : Nat} {o : Oper} (ho : ops[i]? = some o) : i ∈ Region.ready .any ops l ↔ (l.getD i true = false ∧ ∀ e ∈ o.after, Region.binds .any e = true → l.getD e.on false = true) := by
  have hi : i < ops.size := (Array.getElem?_eq_some_iff.1 ho).1
  simp only [Region.ready, List.mem_filter, List.mem_range, hi, true_and, ho, Option.map_some, Option.getD_some, Bool.and_eq_true, Bool.not_eq_true', Array.all_eq_true', Bool.or_eq_true]
  refine and_congr_right fun _ => ⟨fun h e he hb => (h e he).resolve_left (by simp [hb]), fun h e he => ?_⟩
  by_cases hb : Region.binds .any e = true
  · exact .inr (h e he hb)
  · exact .inl (by simpa using hb)
def o0 : Oper := { dst := some 28, op := Op.load 25 (Operand.tmp 3), type := 25, pos := "law.go:97", after := #[], guard := none }
theorem ho0 : (opsOf Try.f9 1)[0]? = some o0 := by kernel_rfl
def o1 : Oper := { dst := some 29, op := Op.call { callee := Callee.value (Operand.func 30), args := #[Operand.tmp 28], argTypes := #[25] }, type := 25, pos := "law.go:97", after := #[{ on := 0, ground := Ground.data }], guard := none }
theorem ho1 : (opsOf Try.f9 1)[1]? = some o1 := by kernel_rfl
def o2 : Oper := { dst := some 30, op := Op.move (Operand.tmp 1), type := 38, pos := "law.go:97", after := #[], guard := none }
theorem ho2 : (opsOf Try.f9 1)[2]? = some o2 := by kernel_rfl
def o3 : Oper := { dst := some 31, op := Op.call { callee := Callee.value (Operand.func 31), args := #[Operand.tmp 30], argTypes := #[38] }, type := 38, pos := "law.go:97", after := #[{ on := 2, ground := Ground.data }, { on := 1, ground := Ground.chain }], guard := none }
theorem ho3 : (opsOf Try.f9 1)[3]? = some o3 := by kernel_rfl
def o4 : Oper := { dst := some 32, op := Op.load 47 (Operand.tmp 5), type := 47, pos := "law.go:97", after := #[], guard := none }
theorem ho4 : (opsOf Try.f9 1)[4]? = some o4 := by kernel_rfl
def o5 : Oper := { dst := some 33, op := Op.call { callee := Callee.value (Operand.func 32), args := #[Operand.tmp 32], argTypes := #[47] }, type := 47, pos := "law.go:97", after := #[{ on := 4, ground := Ground.data }, { on := 3, ground := Ground.chain }], guard := none }
theorem ho5 : (opsOf Try.f9 1)[5]? = some o5 := by kernel_rfl
def o6 : Oper := { dst := some 7, op := Op.alloc 25, type := 0, pos := "law.go:97", after := #[], guard := none }
theorem ho6 : (opsOf Try.f9 1)[6]? = some o6 := by kernel_rfl
def o7 : Oper := { dst := some 9, op := Op.alloc 47, type := 0, pos := "law.go:97", after := #[], guard := none }
theorem ho7 : (opsOf Try.f9 1)[7]? = some o7 := by kernel_rfl
def o8 : Oper := { dst := none, op := Op.store 25 (Operand.tmp 7) (Operand.tmp 29), type := 0, pos := "law.go:97", after := #[{ on := 6, ground := Ground.data }, { on := 1, ground := Ground.data }, { on := 5, ground := Ground.chain }, { on := 0, ground := Ground.phase }, { on := 1, ground := Ground.phase }, { on := 2, ground := Ground.textOnly Departure.lateStores }, { on := 3, ground := Ground.textOnly Departure.lateStoresUnsure }, { on := 4, ground := Ground.textOnly Departure.lateStores }, { on := 5, ground := Ground.textOnly Departure.lateStoresUnsure }, { on := 6, ground := Ground.phase }, { on := 7, ground := Ground.phase }], guard := none }
theorem ho8 : (opsOf Try.f9 1)[8]? = some o8 := by kernel_rfl
def o9 : Oper := { dst := some 8, op := Op.assign (Operand.tmp 31), type := 38, pos := "law.go:97", after := #[{ on := 3, ground := Ground.data }, { on := 8, ground := Ground.chain }, { on := 0, ground := Ground.phase }, { on := 1, ground := Ground.phase }, { on := 2, ground := Ground.phase }, { on := 3, ground := Ground.phase }, { on := 4, ground := Ground.textOnly Departure.lateStores }, { on := 5, ground := Ground.textOnly Departure.lateStoresUnsure }, { on := 6, ground := Ground.phase }, { on := 7, ground := Ground.phase }, { on := 8, ground := Ground.phase }], guard := none }
theorem ho9 : (opsOf Try.f9 1)[9]? = some o9 := by kernel_rfl
def o10 : Oper := { dst := none, op := Op.store 47 (Operand.tmp 9) (Operand.tmp 33), type := 0, pos := "law.go:97", after := #[{ on := 7, ground := Ground.data }, { on := 5, ground := Ground.data }, { on := 9, ground := Ground.chain }, { on := 0, ground := Ground.phase }, { on := 1, ground := Ground.phase }, { on := 2, ground := Ground.phase }, { on := 3, ground := Ground.phase }, { on := 4, ground := Ground.phase }, { on := 5, ground := Ground.phase }, { on := 6, ground := Ground.phase }, { on := 7, ground := Ground.phase }, { on := 8, ground := Ground.phase }, { on := 9, ground := Ground.phase }], guard := none }
theorem ho10 : (opsOf Try.f9 1)[10]? = some o10 := by kernel_rfl
theorem size1 : (opsOf Try.f9 1).size = 11 := by kernel_rfl
theorem rd1 {l : Array Bool} (h : 1 ∈ Region.ready .any (opsOf Try.f9 1) l) : l.getD 1 true = false ∧ l.getD 0 false = true :=
  let h := (rdy_mem ho1).1 h
  ⟨h.1, h.2 ⟨0, .data⟩ (by simp [o1]) rfl⟩
theorem rd3 {l : Array Bool} (h : 3 ∈ Region.ready .any (opsOf Try.f9 1) l) : l.getD 3 true = false ∧ l.getD 2 false = true ∧ l.getD 1 false = true :=
  let h := (rdy_mem ho3).1 h
  ⟨h.1, h.2 ⟨2, .data⟩ (by simp [o3]) rfl, h.2 ⟨1, .chain⟩ (by simp [o3]) rfl⟩
theorem rd5 {l : Array Bool} (h : 5 ∈ Region.ready .any (opsOf Try.f9 1) l) : l.getD 5 true = false ∧ l.getD 4 false = true ∧ l.getD 3 false = true :=
  let h := (rdy_mem ho5).1 h
  ⟨h.1, h.2 ⟨4, .data⟩ (by simp [o5]) rfl, h.2 ⟨3, .chain⟩ (by simp [o5]) rfl⟩
theorem rd6 {l : Array Bool} (h : 6 ∈ Region.ready .any (opsOf Try.f9 1) l) : l.getD 6 true = false := ((rdy_mem ho6).1 h).1
theorem rd7 {l : Array Bool} (h : 7 ∈ Region.ready .any (opsOf Try.f9 1) l) : l.getD 7 true = false := ((rdy_mem ho7).1 h).1
theorem rd8 {l : Array Bool} (h : 8 ∈ Region.ready .any (opsOf Try.f9 1) l) : l.getD 8 true = false ∧ l.getD 6 false = true ∧ l.getD 1 false = true ∧ l.getD 5 false = true ∧ l.getD 0 false = true :=
  let h := (rdy_mem ho8).1 h
  ⟨h.1, h.2 ⟨6, .data⟩ (by simp [o8]) rfl, h.2 ⟨1, .data⟩ (by simp [o8]) rfl, h.2 ⟨5, .chain⟩ (by simp [o8]) rfl, h.2 ⟨0, .phase⟩ (by simp [o8]) rfl⟩
theorem rd9 {l : Array Bool} (h : 9 ∈ Region.ready .any (opsOf Try.f9 1) l) : l.getD 9 true = false ∧ l.getD 3 false = true ∧ l.getD 8 false = true :=
  let h := (rdy_mem ho9).1 h
  ⟨h.1, h.2 ⟨3, .data⟩ (by simp [o9]) rfl, h.2 ⟨8, .chain⟩ (by simp [o9]) rfl⟩
theorem rd10 {l : Array Bool} (h : 10 ∈ Region.ready .any (opsOf Try.f9 1) l) : l.getD 10 true = false ∧ l.getD 7 false = true ∧ l.getD 5 false = true ∧ l.getD 9 false = true :=
  let h := (rdy_mem ho10).1 h
  ⟨h.1, h.2 ⟨7, .data⟩ (by simp [o10]) rfl, h.2 ⟨5, .data⟩ (by simp [o10]) rfl, h.2 ⟨9, .chain⟩ (by simp [o10]) rfl⟩
theorem cases1 {l : Array Bool} {i : Nat} (h : i ∈ Region.ready .any (opsOf Try.f9 1) l) : i = 0 ∨ i = 1 ∨ i = 2 ∨ i = 3 ∨ i = 4 ∨ i = 5 ∨ i = 6 ∨ i = 7 ∨ i = 8 ∨ i = 9 ∨ i = 10 := by
  have : i < (opsOf Try.f9 1).size := List.mem_range.1 (List.mem_filter.1 h).1
  rw [size1] at this
  omega
theorem tf {l : Array Bool} {i : Nat} (h : ¬ l.getD i true = false) (hi : i < l.size) : l.getD i false = true := by
  simp only [Array.getD_eq_getD_getElem?, Array.getElem?_eq_getElem hi, Option.getD_some] at h ⊢
  simpa using h
theorem done1 {l : Array Bool} (hs : l.size = 11) (h : Region.ready .any (opsOf Try.f9 1) l = []) : l.getD 6 false = true ∧ l.getD 7 false = true ∧ l.getD 8 false = true ∧ l.getD 9 false = true ∧ l.getD 10 false = true := by
  have h0 : l.getD 0 false = true := tf (fun h_ => by
    have : 0 ∈ Region.ready .any (opsOf Try.f9 1) l := (rdy_mem ho0).2 ⟨h_, by clear h h_; simp_all [o0, Region.binds]⟩
    rw [h] at this
    cases this) (by omega)
  have h2 : l.getD 2 false = true := tf (fun h_ => by
    have : 2 ∈ Region.ready .any (opsOf Try.f9 1) l := (rdy_mem ho2).2 ⟨h_, by clear h h_; simp_all [o2, Region.binds]⟩
    rw [h] at this
    cases this) (by omega)
  have h4 : l.getD 4 false = true := tf (fun h_ => by
    have : 4 ∈ Region.ready .any (opsOf Try.f9 1) l := (rdy_mem ho4).2 ⟨h_, by clear h h_; simp_all [o4, Region.binds]⟩
    rw [h] at this
    cases this) (by omega)
  have h6 : l.getD 6 false = true := tf (fun h_ => by
    have : 6 ∈ Region.ready .any (opsOf Try.f9 1) l := (rdy_mem ho6).2 ⟨h_, by clear h h_; simp_all [o6, Region.binds]⟩
    rw [h] at this
    cases this) (by omega)
  have h7 : l.getD 7 false = true := tf (fun h_ => by
    have : 7 ∈ Region.ready .any (opsOf Try.f9 1) l := (rdy_mem ho7).2 ⟨h_, by clear h h_; simp_all [o7, Region.binds]⟩
    rw [h] at this
    cases this) (by omega)
  have h1 : l.getD 1 false = true := tf (fun h_ => by
    have : 1 ∈ Region.ready .any (opsOf Try.f9 1) l := (rdy_mem ho1).2 ⟨h_, by clear h h_; simp_all [o1, Region.binds]⟩
    rw [h] at this
    cases this) (by omega)
  have h3 : l.getD 3 false = true := tf (fun h_ => by
    have : 3 ∈ Region.ready .any (opsOf Try.f9 1) l := (rdy_mem ho3).2 ⟨h_, by clear h h_; simp_all [o3, Region.binds]⟩
    rw [h] at this
    cases this) (by omega)
  have h5 : l.getD 5 false = true := tf (fun h_ => by
    have : 5 ∈ Region.ready .any (opsOf Try.f9 1) l := (rdy_mem ho5).2 ⟨h_, by clear h h_; simp_all [o5, Region.binds]⟩
    rw [h] at this
    cases this) (by omega)
  have h8 : l.getD 8 false = true := tf (fun h_ => by
    have : 8 ∈ Region.ready .any (opsOf Try.f9 1) l := (rdy_mem ho8).2 ⟨h_, by clear h h_; simp_all [o8, Region.binds]⟩
    rw [h] at this
    cases this) (by omega)
  have h9 : l.getD 9 false = true := tf (fun h_ => by
    have : 9 ∈ Region.ready .any (opsOf Try.f9 1) l := (rdy_mem ho9).2 ⟨h_, by clear h h_; simp_all [o9, Region.binds]⟩
    rw [h] at this
    cases this) (by omega)
  have h10 : l.getD 10 false = true := tf (fun h_ => by
    have : 10 ∈ Region.ready .any (opsOf Try.f9 1) l := (rdy_mem ho10).2 ⟨h_, by clear h h_; simp_all [o10, Region.binds]⟩
    rw [h] at this
    cases this) (by omega)
  exact ⟨h6, h7, h8, h9, h10⟩
def L (l : Array Bool) (j : Nat) : Prop := l.getD j false = true
theorem L_ne {l : Array Bool} {i j : Nat} (hne : i ≠ j) (h : L (l.setIfInBounds i true) j) : L l j := by
  unfold L at *
  rw [Array.getD_eq_getD_getElem?, Array.getElem?_setIfInBounds, if_neg hne, ← Array.getD_eq_getD_getElem?] at h
  exact h
theorem L_no {l : Array Bool} {i : Nat} (h : l.getD i true = false) (hL : L l i) : False := by
  unfold L at hL
  simp only [Array.getD_eq_getD_getElem?] at h hL
  cases hl : l[i]? with
  | none => rw [hl] at h; simp at h
  | some b => rw [hl] at h hL; simp at h hL; rw [h] at hL; cases hL
def G1 (n0 : Nat) (I : List Int) (NN : List (List S64)) (O : List Int) (W : World) (x : Value) : Prop := ∃ v0 v1 v2 : Value, x = .agg #[v0, v1, v2] ∧ Kd.R (Kd.int .i64) 3 W n0 (fun k_ => some k_ ≠ (v2 : Value).ownBlock) v0 I ∧ Kd.S (Kd.slice 64 k64) 62 W n0 (fun _ => True) v1 NN ∧ Kd.R (Kd.int .i64) 3 W n0 (fun k_ => some k_ ≠ (v0 : Value).ownBlock) v2 O
def G3 (n0 : Nat) (bl : List (List Int)) (W : World) (x : Value) : Prop := Kd.S (Kd.slice 5 (Kd.int .u8)) 45 W n0 (fun _ => True) x bl
def G5 (n0 : Nat) (mr mc : Int) (md : List Int) (W : World) (x : Value) : Prop := ∃ v : Value, x = .agg #[.int .i64 mr, .int .i64 mc, v] ∧ Kd.R (Kd.int .u8) 5 W n0 (fun _ => True) v md
section
variable {n0 : Nat} {I : List Int} {NN : List (List S64)} {O : List Int} {bl : List (List Int)} {mr mc : Int} {md : List Int} {W V : World} {x : Value}
theorem G1.below (h : G1 n0 I NN O W x) (hb : Below W.heap.size W V) : G1 n0 I NN O V x := by
  obtain ⟨v0, v1, v2, e, a, b, c⟩ := h
  exact ⟨v0, v1, v2, e, Kd.R_below a hb, Kd.S_below b hb, Kd.R_below c hb⟩
theorem G3.below (h : G3 n0 bl W x) (hb : Below W.heap.size W V) : G3 n0 bl V x := Kd.S_below h hb
theorem G5.below (h : G5 n0 mr mc md W x) (hb : Below W.heap.size W V) : G5 n0 mr mc md V x := by
  obtain ⟨v, e, a⟩ := h
  exact ⟨v, e, Kd.R_below a hb⟩
/-- A store into a block of another type. -/
theorem G1.set (h : G1 n0 I NN O W x) {g t : Nat} {cs : Array Value} (hg : W.heap[g]? = some (.cells cs t (0, 0))) (ht : t ≠ 3 ∧ t ≠ 62 ∧ t ≠ 64) (j : Nat) (u : Value) : G1 n0 I NN O (W.setCell ⟨g, j, none⟩ u) x := by
  obtain ⟨v0, v1, v2, e, a, b, c⟩ := h
  have h3 : ∀ q, q ∈ 3 :: (Kd.int .i64).E → q ≠ t := fun q hq => by
    have : q = 3 := by simpa [Kd.int, Kd.scalar] using hq
    omega
  refine ⟨v0, v1, v2, e, Kd.R_set a hg h3 j u, Kd.S_set b hg (fun q hq => ?_) j u, Kd.R_set c hg h3 j u⟩
  have : q = 62 ∨ q = 64 := by simpa [Kd.slice, k64, Kd.iso, Kd.pair, Kd.int, Kd.scalar] using hq
  omega
theorem G3.set (h : G3 n0 bl W x) {g t : Nat} {cs : Array Value} (hg : W.heap[g]? = some (.cells cs t (0, 0))) (ht : t ≠ 45 ∧ t ≠ 5) (j : Nat) (u : Value) : G3 n0 bl (W.setCell ⟨g, j, none⟩ u) x := by
  refine Kd.S_set h hg (fun q hq => ?_) j u
  have : q = 45 ∨ q = 5 := by simpa [Kd.slice, Kd.int, Kd.scalar] using hq
  omega
theorem G5.set (h : G5 n0 mr mc md W x) {g t : Nat} {cs : Array Value} (hg : W.heap[g]? = some (.cells cs t (0, 0))) (ht : t ≠ 5) (j : Nat) (u : Value) : G5 n0 mr mc md (W.setCell ⟨g, j, none⟩ u) x := by
  obtain ⟨v, e, a⟩ := h
  refine ⟨v, e, Kd.R_set a hg (fun q hq => ?_) j u⟩
  have : q = 5 := by simpa [Kd.int, Kd.scalar] using hq
  omega
end
structure FI (n0 : Nat) (w0 : World) (FV BV MV : Value) (I : List Int) (NN : List (List S64)) (O : List Int) (bl : List (List Int)) (mr mc : Int) (md : List Int) (l : Array Bool) (x7 x8 x9 x28 x29 x30 x31 x32 x33 : Value) (W : World) : Prop where
  sz : l.size = 11
  b : Below n0 w0 W
  f0 : L l 0 → x28 = FV
  f1 : L l 1 → G1 n0 I NN O W x29
  f2 : L l 2 → x30 = BV
  f3 : L l 3 → G3 n0 bl W x31
  f4 : L l 4 → x32 = MV
  f5 : L l 5 → G5 n0 mr mc md W x33
  f6 : L l 6 → ∃ (g : Nat) (cs : Array Value), x7 = .pointer (some ⟨g, 0, none⟩) ∧ n0 ≤ g ∧ W.heap[g]? = some (.cells cs 25 (0, 0)) ∧ cs.size = 3 ∧ (L l 8 → G1 n0 I NN O W (.agg cs))
  f7 : L l 7 → ∃ (g : Nat) (cs : Array Value), x9 = .pointer (some ⟨g, 0, none⟩) ∧ n0 ≤ g ∧ W.heap[g]? = some (.cells cs 47 (0, 0)) ∧ cs.size = 3 ∧ (L l 10 → G5 n0 mr mc md W (.agg cs))
  f9 : L l 9 → G3 n0 bl W x8
  o8 : L l 8 → L l 6
  o10 : L l 10 → L l 7
section
variable {n0 : Nat} {w0 : World} {FV BV MV : Value} {I : List Int} {NN : List (List S64)} {O : List Int} {bl : List (List Int)} {mr mc : Int} {md : List Int} {l : Array Bool} {x7 x8 x9 x28 x29 x30 x31 x32 x33 : Value} {W V : World}
theorem FI.move (h : FI n0 w0 FV BV MV I NN O bl mr mc md l x7 x8 x9 x28 x29 x30 x31 x32 x33 W) (hn : n0 ≤ W.heap.size) (hb : Below W.heap.size W V) : FI n0 w0 FV BV MV I NN O bl mr mc md l x7 x8 x9 x28 x29 x30 x31 x32 x33 V where
  sz := h.sz
  b := h.b.trans (hb.mono hn)
  f0 := h.f0
  f1 := fun hj => (h.f1 hj).below hb
  f2 := h.f2
  f3 := fun hj => (h.f3 hj).below hb
  f4 := h.f4
  f5 := fun hj => (h.f5 hj).below hb
  f6 := fun hj => by
    obtain ⟨g, cs, e, hg, hc, hs, h8⟩ := h.f6 hj
    exact ⟨g, cs, e, hg, blk_below hc hb, hs, fun q => (h8 q).below hb⟩
  f7 := fun hj => by
    obtain ⟨g, cs, e, hg, hc, hs, h8⟩ := h.f7 hj
    exact ⟨g, cs, e, hg, blk_below hc hb, hs, fun q => (h8 q).below hb⟩
  f9 := fun hj => (h.f9 hj).below hb
  o8 := h.o8
  o10 := h.o10
theorem L_mono {l : Array Bool} {i j : Nat} (h : L l j) : L (l.setIfInBounds i true) j := by
  unfold L at *
  rw [Array.getD_eq_getD_getElem?, Array.getElem?_setIfInBounds]
  split
  · split
    · rfl
    · rename_i h1 h2
      subst h1
      rw [Array.getD_eq_getD_getElem?, Array.getElem?_eq_none (by omega)] at h
      cases h
  · rw [← Array.getD_eq_getD_getElem?]; exact h
theorem FI.s0 (h : FI n0 w0 FV BV MV I NN O bl mr mc md l x7 x8 x9 x28 x29 x30 x31 x32 x33 W) {y : Value} (hy : y = FV) : FI n0 w0 FV BV MV I NN O bl mr mc md (l.setIfInBounds 0 true) x7 x8 x9 y x29 x30 x31 x32 x33 W where
  sz := by simpa using h.sz
  b := h.b
  f0 := fun hj => hy
  f1 := fun hj => h.f1 (L_ne (by decide) hj)
  f2 := fun hj => h.f2 (L_ne (by decide) hj)
  f3 := fun hj => h.f3 (L_ne (by decide) hj)
  f4 := fun hj => h.f4 (L_ne (by decide) hj)
  f5 := fun hj => h.f5 (L_ne (by decide) hj)
  f9 := fun hj => h.f9 (L_ne (by decide) hj)
  f6 := fun hj => by
    obtain ⟨g, cs, e, hg, hc, hs, h8⟩ := h.f6 (L_ne (by decide) hj)
    exact ⟨g, cs, e, hg, hc, hs, fun q => h8 (L_ne (by decide) q)⟩
  f7 := fun hj => by
    obtain ⟨g, cs, e, hg, hc, hs, h8⟩ := h.f7 (L_ne (by decide) hj)
    exact ⟨g, cs, e, hg, hc, hs, fun q => h8 (L_ne (by decide) q)⟩
  o8 := fun hj => L_mono (h.o8 (L_ne (by decide) hj))
  o10 := fun hj => L_mono (h.o10 (L_ne (by decide) hj))
theorem FI.s1 (h : FI n0 w0 FV BV MV I NN O bl mr mc md l x7 x8 x9 x28 x29 x30 x31 x32 x33 W) {y : Value} (hy : G1 n0 I NN O W y) : FI n0 w0 FV BV MV I NN O bl mr mc md (l.setIfInBounds 1 true) x7 x8 x9 x28 y x30 x31 x32 x33 W where
  sz := by simpa using h.sz
  b := h.b
  f0 := fun hj => h.f0 (L_ne (by decide) hj)
  f1 := fun hj => hy
  f2 := fun hj => h.f2 (L_ne (by decide) hj)
  f3 := fun hj => h.f3 (L_ne (by decide) hj)
  f4 := fun hj => h.f4 (L_ne (by decide) hj)
  f5 := fun hj => h.f5 (L_ne (by decide) hj)
  f9 := fun hj => h.f9 (L_ne (by decide) hj)
  f6 := fun hj => by
    obtain ⟨g, cs, e, hg, hc, hs, h8⟩ := h.f6 (L_ne (by decide) hj)
    exact ⟨g, cs, e, hg, hc, hs, fun q => h8 (L_ne (by decide) q)⟩
  f7 := fun hj => by
    obtain ⟨g, cs, e, hg, hc, hs, h8⟩ := h.f7 (L_ne (by decide) hj)
    exact ⟨g, cs, e, hg, hc, hs, fun q => h8 (L_ne (by decide) q)⟩
  o8 := fun hj => L_mono (h.o8 (L_ne (by decide) hj))
  o10 := fun hj => L_mono (h.o10 (L_ne (by decide) hj))
theorem FI.s2 (h : FI n0 w0 FV BV MV I NN O bl mr mc md l x7 x8 x9 x28 x29 x30 x31 x32 x33 W) {y : Value} (hy : y = BV) : FI n0 w0 FV BV MV I NN O bl mr mc md (l.setIfInBounds 2 true) x7 x8 x9 x28 x29 y x31 x32 x33 W where
  sz := by simpa using h.sz
  b := h.b
  f0 := fun hj => h.f0 (L_ne (by decide) hj)
  f1 := fun hj => h.f1 (L_ne (by decide) hj)
  f2 := fun hj => hy
  f3 := fun hj => h.f3 (L_ne (by decide) hj)
  f4 := fun hj => h.f4 (L_ne (by decide) hj)
  f5 := fun hj => h.f5 (L_ne (by decide) hj)
  f9 := fun hj => h.f9 (L_ne (by decide) hj)
  f6 := fun hj => by
    obtain ⟨g, cs, e, hg, hc, hs, h8⟩ := h.f6 (L_ne (by decide) hj)
    exact ⟨g, cs, e, hg, hc, hs, fun q => h8 (L_ne (by decide) q)⟩
  f7 := fun hj => by
    obtain ⟨g, cs, e, hg, hc, hs, h8⟩ := h.f7 (L_ne (by decide) hj)
    exact ⟨g, cs, e, hg, hc, hs, fun q => h8 (L_ne (by decide) q)⟩
  o8 := fun hj => L_mono (h.o8 (L_ne (by decide) hj))
  o10 := fun hj => L_mono (h.o10 (L_ne (by decide) hj))
theorem FI.s3 (h : FI n0 w0 FV BV MV I NN O bl mr mc md l x7 x8 x9 x28 x29 x30 x31 x32 x33 W) {y : Value} (hy : G3 n0 bl W y) : FI n0 w0 FV BV MV I NN O bl mr mc md (l.setIfInBounds 3 true) x7 x8 x9 x28 x29 x30 y x32 x33 W where
  sz := by simpa using h.sz
  b := h.b
  f0 := fun hj => h.f0 (L_ne (by decide) hj)
  f1 := fun hj => h.f1 (L_ne (by decide) hj)
  f2 := fun hj => h.f2 (L_ne (by decide) hj)
  f3 := fun hj => hy
  f4 := fun hj => h.f4 (L_ne (by decide) hj)
  f5 := fun hj => h.f5 (L_ne (by decide) hj)
  f9 := fun hj => h.f9 (L_ne (by decide) hj)
  f6 := fun hj => by
    obtain ⟨g, cs, e, hg, hc, hs, h8⟩ := h.f6 (L_ne (by decide) hj)
    exact ⟨g, cs, e, hg, hc, hs, fun q => h8 (L_ne (by decide) q)⟩
  f7 := fun hj => by
    obtain ⟨g, cs, e, hg, hc, hs, h8⟩ := h.f7 (L_ne (by decide) hj)
    exact ⟨g, cs, e, hg, hc, hs, fun q => h8 (L_ne (by decide) q)⟩
  o8 := fun hj => L_mono (h.o8 (L_ne (by decide) hj))
  o10 := fun hj => L_mono (h.o10 (L_ne (by decide) hj))
theorem FI.s4 (h : FI n0 w0 FV BV MV I NN O bl mr mc md l x7 x8 x9 x28 x29 x30 x31 x32 x33 W) {y : Value} (hy : y = MV) : FI n0 w0 FV BV MV I NN O bl mr mc md (l.setIfInBounds 4 true) x7 x8 x9 x28 x29 x30 x31 y x33 W where
  sz := by simpa using h.sz
  b := h.b
  f0 := fun hj => h.f0 (L_ne (by decide) hj)
  f1 := fun hj => h.f1 (L_ne (by decide) hj)
  f2 := fun hj => h.f2 (L_ne (by decide) hj)
  f3 := fun hj => h.f3 (L_ne (by decide) hj)
  f4 := fun hj => hy
  f5 := fun hj => h.f5 (L_ne (by decide) hj)
  f9 := fun hj => h.f9 (L_ne (by decide) hj)
  f6 := fun hj => by
    obtain ⟨g, cs, e, hg, hc, hs, h8⟩ := h.f6 (L_ne (by decide) hj)
    exact ⟨g, cs, e, hg, hc, hs, fun q => h8 (L_ne (by decide) q)⟩
  f7 := fun hj => by
    obtain ⟨g, cs, e, hg, hc, hs, h8⟩ := h.f7 (L_ne (by decide) hj)
    exact ⟨g, cs, e, hg, hc, hs, fun q => h8 (L_ne (by decide) q)⟩
  o8 := fun hj => L_mono (h.o8 (L_ne (by decide) hj))
  o10 := fun hj => L_mono (h.o10 (L_ne (by decide) hj))
theorem FI.s5 (h : FI n0 w0 FV BV MV I NN O bl mr mc md l x7 x8 x9 x28 x29 x30 x31 x32 x33 W) {y : Value} (hy : G5 n0 mr mc md W y) : FI n0 w0 FV BV MV I NN O bl mr mc md (l.setIfInBounds 5 true) x7 x8 x9 x28 x29 x30 x31 x32 y W where
  sz := by simpa using h.sz
  b := h.b
  f0 := fun hj => h.f0 (L_ne (by decide) hj)
  f1 := fun hj => h.f1 (L_ne (by decide) hj)
  f2 := fun hj => h.f2 (L_ne (by decide) hj)
  f3 := fun hj => h.f3 (L_ne (by decide) hj)
  f4 := fun hj => h.f4 (L_ne (by decide) hj)
  f5 := fun hj => hy
  f9 := fun hj => h.f9 (L_ne (by decide) hj)
  f6 := fun hj => by
    obtain ⟨g, cs, e, hg, hc, hs, h8⟩ := h.f6 (L_ne (by decide) hj)
    exact ⟨g, cs, e, hg, hc, hs, fun q => h8 (L_ne (by decide) q)⟩
  f7 := fun hj => by
    obtain ⟨g, cs, e, hg, hc, hs, h8⟩ := h.f7 (L_ne (by decide) hj)
    exact ⟨g, cs, e, hg, hc, hs, fun q => h8 (L_ne (by decide) q)⟩
  o8 := fun hj => L_mono (h.o8 (L_ne (by decide) hj))
  o10 := fun hj => L_mono (h.o10 (L_ne (by decide) hj))
theorem FI.s9 (h : FI n0 w0 FV BV MV I NN O bl mr mc md l x7 x8 x9 x28 x29 x30 x31 x32 x33 W) {y : Value} (hy : G3 n0 bl W y) : FI n0 w0 FV BV MV I NN O bl mr mc md (l.setIfInBounds 9 true) x7 y x9 x28 x29 x30 x31 x32 x33 W where
  sz := by simpa using h.sz
  b := h.b
  f0 := fun hj => h.f0 (L_ne (by decide) hj)
  f1 := fun hj => h.f1 (L_ne (by decide) hj)
  f2 := fun hj => h.f2 (L_ne (by decide) hj)
  f3 := fun hj => h.f3 (L_ne (by decide) hj)
  f4 := fun hj => h.f4 (L_ne (by decide) hj)
  f5 := fun hj => h.f5 (L_ne (by decide) hj)
  f9 := fun hj => hy
  f6 := fun hj => by
    obtain ⟨g, cs, e, hg, hc, hs, h8⟩ := h.f6 (L_ne (by decide) hj)
    exact ⟨g, cs, e, hg, hc, hs, fun q => h8 (L_ne (by decide) q)⟩
  f7 := fun hj => by
    obtain ⟨g, cs, e, hg, hc, hs, h8⟩ := h.f7 (L_ne (by decide) hj)
    exact ⟨g, cs, e, hg, hc, hs, fun q => h8 (L_ne (by decide) q)⟩
  o8 := fun hj => L_mono (h.o8 (L_ne (by decide) hj))
  o10 := fun hj => L_mono (h.o10 (L_ne (by decide) hj))
theorem FI.s6 (h : FI n0 w0 FV BV MV I NN O bl mr mc md l x7 x8 x9 x28 x29 x30 x31 x32 x33 W) (hno : l.getD 6 true = false) (hn : n0 ≤ W.heap.size) {z : Array Value} (hz : z.size = 3) : FI n0 w0 FV BV MV I NN O bl mr mc md (l.setIfInBounds 6 true) (.pointer (some ⟨W.heap.size, 0, none⟩)) x8 x9 x28 x29 x30 x31 x32 x33 (W.alloc (.cells z 25 (0, 0))) := by
  have h := h.move hn (below_alloc (Below.refl _ _) (.cells z 25 (0, 0)))
  exact {
    sz := by simpa using h.sz
    b := h.b
    f0 := fun hj => h.f0 (L_ne (by decide) hj)
    f1 := fun hj => h.f1 (L_ne (by decide) hj)
    f2 := fun hj => h.f2 (L_ne (by decide) hj)
    f3 := fun hj => h.f3 (L_ne (by decide) hj)
    f4 := fun hj => h.f4 (L_ne (by decide) hj)
    f5 := fun hj => h.f5 (L_ne (by decide) hj)
    f9 := fun hj => h.f9 (L_ne (by decide) hj)
    f6 := fun _ => ⟨_, z, rfl, hn, heap_alloc_new W _, hz, fun q => (L_no hno (h.o8 (L_ne (by decide) q))).elim⟩
    f7 := fun hj => by
      obtain ⟨g, cs, e, hg, hc, hs, h8⟩ := h.f7 (L_ne (by decide) hj)
      exact ⟨g, cs, e, hg, hc, hs, fun q => h8 (L_ne (by decide) q)⟩
    o8 := fun hj => L_mono (h.o8 (L_ne (by decide) hj))
    o10 := fun hj => L_mono (h.o10 (L_ne (by decide) hj)) }
theorem FI.s7 (h : FI n0 w0 FV BV MV I NN O bl mr mc md l x7 x8 x9 x28 x29 x30 x31 x32 x33 W) (hno : l.getD 7 true = false) (hn : n0 ≤ W.heap.size) {z : Array Value} (hz : z.size = 3) : FI n0 w0 FV BV MV I NN O bl mr mc md (l.setIfInBounds 7 true) x7 x8 (.pointer (some ⟨W.heap.size, 0, none⟩)) x28 x29 x30 x31 x32 x33 (W.alloc (.cells z 47 (0, 0))) := by
  have h := h.move hn (below_alloc (Below.refl _ _) (.cells z 47 (0, 0)))
  exact {
    sz := by simpa using h.sz
    b := h.b
    f0 := fun hj => h.f0 (L_ne (by decide) hj)
    f1 := fun hj => h.f1 (L_ne (by decide) hj)
    f2 := fun hj => h.f2 (L_ne (by decide) hj)
    f3 := fun hj => h.f3 (L_ne (by decide) hj)
    f4 := fun hj => h.f4 (L_ne (by decide) hj)
    f5 := fun hj => h.f5 (L_ne (by decide) hj)
    f9 := fun hj => h.f9 (L_ne (by decide) hj)
    f7 := fun _ => ⟨_, z, rfl, hn, heap_alloc_new W _, hz, fun q => (L_no hno (h.o10 (L_ne (by decide) q))).elim⟩
    f6 := fun hj => by
      obtain ⟨g, cs, e, hg, hc, hs, h8⟩ := h.f6 (L_ne (by decide) hj)
      exact ⟨g, cs, e, hg, hc, hs, fun q => h8 (L_ne (by decide) q)⟩
    o8 := fun hj => L_mono (h.o8 (L_ne (by decide) hj))
    o10 := fun hj => L_mono (h.o10 (L_ne (by decide) hj)) }
theorem three {cs : Array Value} (h : cs.size = 3) : ∃ a b c, cs = #[a, b, c] := by
  obtain ⟨l⟩ := cs
  rcases l with _ | ⟨a, _ | ⟨b, _ | ⟨c, _ | ⟨d, l⟩⟩⟩⟩ <;> simp at h
  exact ⟨a, b, c, rfl⟩
theorem blk_three {g t : Nat} {a b c u v x : Value} (h : W.heap[g]? = some (.cells #[a, b, c] t (0, 0))) : (((W.setCell ⟨g, 0, none⟩ u).setCell ⟨g, 1, none⟩ v).setCell ⟨g, 2, none⟩ x).heap[g]? = some (.cells #[u, v, x] t (0, 0)) :=
  blk_put (blk_put (blk_put h 0 u rfl) 1 v rfl) 2 x rfl
theorem below_three {g : Nat} {u v x : Value} (h : Below n0 w0 W) (hg : n0 ≤ g) : Below n0 w0 (((W.setCell ⟨g, 0, none⟩ u).setCell ⟨g, 1, none⟩ v).setCell ⟨g, 2, none⟩ x) := ((h.setCell hg _).setCell hg _).setCell hg _
theorem other_three {g k : Nat} {u v x : Value} (hk : k ≠ g) : (((W.setCell ⟨g, 0, none⟩ u).setCell ⟨g, 1, none⟩ v).setCell ⟨g, 2, none⟩ x).heap[k]? = W.heap[k]? :=
  (Below.heap_setCell _ ⟨g, 2, none⟩ x k hk).trans ((Below.heap_setCell _ ⟨g, 1, none⟩ v k hk).trans (Below.heap_setCell W ⟨g, 0, none⟩ u k hk))
theorem G1.set3 {x : Value} (h : G1 n0 I NN O W x) {g t : Nat} {a b c u v y : Value} (hg : W.heap[g]? = some (.cells #[a, b, c] t (0, 0))) (ht : t ≠ 3 ∧ t ≠ 62 ∧ t ≠ 64) : G1 n0 I NN O (((W.setCell ⟨g, 0, none⟩ u).setCell ⟨g, 1, none⟩ v).setCell ⟨g, 2, none⟩ y) x :=
  ((h.set hg ht 0 u).set (blk_put hg 0 u rfl) ht 1 v).set (blk_put (blk_put hg 0 u rfl) 1 v rfl) ht 2 y
theorem G3.set3 {x : Value} (h : G3 n0 bl W x) {g t : Nat} {a b c u v y : Value} (hg : W.heap[g]? = some (.cells #[a, b, c] t (0, 0))) (ht : t ≠ 45 ∧ t ≠ 5) : G3 n0 bl (((W.setCell ⟨g, 0, none⟩ u).setCell ⟨g, 1, none⟩ v).setCell ⟨g, 2, none⟩ y) x :=
  ((h.set hg ht 0 u).set (blk_put hg 0 u rfl) ht 1 v).set (blk_put (blk_put hg 0 u rfl) 1 v rfl) ht 2 y
theorem G5.set3 {x : Value} (h : G5 n0 mr mc md W x) {g t : Nat} {a b c u v y : Value} (hg : W.heap[g]? = some (.cells #[a, b, c] t (0, 0))) (ht : t ≠ 5) : G5 n0 mr mc md (((W.setCell ⟨g, 0, none⟩ u).setCell ⟨g, 1, none⟩ v).setCell ⟨g, 2, none⟩ y) x :=
  ((h.set hg ht 0 u).set (blk_put hg 0 u rfl) ht 1 v).set (blk_put (blk_put hg 0 u rfl) 1 v rfl) ht 2 y
theorem tys {g k t t' : Nat} {cs cs' : Array Value} (h : W.heap[g]? = some (.cells cs t (0, 0))) (h' : W.heap[k]? = some (.cells cs' t' (0, 0))) (ht : t ≠ t') : k ≠ g := (blk_ne h h' ht).symm
theorem FI.s8 (h : FI n0 w0 FV BV MV I NN O bl mr mc md l x7 x8 x9 x28 x29 x30 x31 x32 x33 W) {g : Nat} {a b c : Value} {v0 v1 v2 : Value} (hg0 : n0 ≤ g) (hg : W.heap[g]? = some (.cells #[a, b, c] 25 (0, 0))) (hx : x7 = .pointer (some ⟨g, 0, none⟩)) (hL : L l 6) (hG : G1 n0 I NN O W (.agg #[v0, v1, v2])) : FI n0 w0 FV BV MV I NN O bl mr mc md (l.setIfInBounds 8 true) x7 x8 x9 x28 x29 x30 x31 x32 x33 (((W.setCell ⟨g, 0, none⟩ v0).setCell ⟨g, 1, none⟩ v1).setCell ⟨g, 2, none⟩ v2) where
  sz := by simpa using h.sz
  b := below_three h.b hg0
  f0 := fun hj => h.f0 (L_ne (by decide) hj)
  f1 := fun hj => (h.f1 (L_ne (by decide) hj)).set3 hg (by decide)
  f2 := fun hj => h.f2 (L_ne (by decide) hj)
  f3 := fun hj => (h.f3 (L_ne (by decide) hj)).set3 hg (by decide)
  f4 := fun hj => h.f4 (L_ne (by decide) hj)
  f5 := fun hj => (h.f5 (L_ne (by decide) hj)).set3 hg (by decide)
  f9 := fun hj => (h.f9 (L_ne (by decide) hj)).set3 hg (by decide)
  f6 := fun _ => ⟨g, _, hx, hg0, blk_three hg, rfl, fun _ => hG.set3 hg (by decide)⟩
  f7 := fun hj => by
    obtain ⟨k, cs, e, hk, hc, hs, h8⟩ := h.f7 (L_ne (by decide) hj)
    exact ⟨k, cs, e, hk, (other_three (tys hg hc (by decide))).trans hc, hs, fun q => (h8 (L_ne (by decide) q)).set3 hg (by decide)⟩
  o8 := fun _ => L_mono hL
  o10 := fun hj => L_mono (h.o10 (L_ne (by decide) hj))
theorem FI.s10 (h : FI n0 w0 FV BV MV I NN O bl mr mc md l x7 x8 x9 x28 x29 x30 x31 x32 x33 W) {g : Nat} {a b c : Value} {v0 v1 v2 : Value} (hg0 : n0 ≤ g) (hg : W.heap[g]? = some (.cells #[a, b, c] 47 (0, 0))) (hx : x9 = .pointer (some ⟨g, 0, none⟩)) (hL : L l 7) (hG : G5 n0 mr mc md W (.agg #[v0, v1, v2])) : FI n0 w0 FV BV MV I NN O bl mr mc md (l.setIfInBounds 10 true) x7 x8 x9 x28 x29 x30 x31 x32 x33 (((W.setCell ⟨g, 0, none⟩ v0).setCell ⟨g, 1, none⟩ v1).setCell ⟨g, 2, none⟩ v2) where
  sz := by simpa using h.sz
  b := below_three h.b hg0
  f0 := fun hj => h.f0 (L_ne (by decide) hj)
  f1 := fun hj => (h.f1 (L_ne (by decide) hj)).set3 hg (by decide)
  f2 := fun hj => h.f2 (L_ne (by decide) hj)
  f3 := fun hj => (h.f3 (L_ne (by decide) hj)).set3 hg (by decide)
  f4 := fun hj => h.f4 (L_ne (by decide) hj)
  f5 := fun hj => (h.f5 (L_ne (by decide) hj)).set3 hg (by decide)
  f9 := fun hj => (h.f9 (L_ne (by decide) hj)).set3 hg (by decide)
  f7 := fun _ => ⟨g, _, hx, hg0, blk_three hg, rfl, fun _ => hG.set3 hg (by decide)⟩
  f6 := fun hj => by
    obtain ⟨k, cs, e, hk, hc, hs, h8⟩ := h.f6 (L_ne (by decide) hj)
    exact ⟨k, cs, e, hk, (other_three (tys hg hc (by decide))).trans hc, hs, fun q => (h8 (L_ne (by decide) q)).set3 hg (by decide)⟩
  o8 := fun hj => L_mono (h.o8 (L_ne (by decide) hj))
  o10 := fun _ => L_mono hL
end
def ac (FV BV MV : Value) (g3 g5 : Nat) (x7 x8 x9 x28 x29 x30 x31 x32 x33 : Value) : Act := ⟨#[FV, BV, MV, .pointer (some ⟨g3, 0, none⟩), undef, .pointer (some ⟨g5, 0, none⟩), .bool false, x7, x8, x9, undef, undef, undef, undef, undef, undef, undef, undef, undef, undef, undef, undef, undef, undef, undef, undef, undef, undef, x28, x29, x30, x31, x32, x33, undef, undef, undef, undef, undef, undef, undef, undef, undef, undef, undef, undef, undef, undef, undef, undef, undef, undef, undef, undef, undef, undef, undef, undef, undef, undef, undef, undef, undef, undef, undef, undef, undef, undef, undef, undef, undef, undef, undef, undef, undef, undef, undef, undef, undef, undef, undef, undef, undef, undef, undef, undef, undef, undef, undef, undef, undef, undef, undef, undef, undef, undef, undef, undef, undef, undef, undef, undef, undef, undef, undef, undef, undef, undef, undef, undef, undef, undef, undef, undef, undef, undef, undef, undef, undef, undef, undef, undef, undef, undef, undef, undef, undef, undef, undef, undef, undef, undef, undef, undef, undef, undef, undef, undef, undef, undef, undef, undef, undef, undef, undef, undef, undef, undef, undef, undef, undef, undef, undef, undef, undef, undef, undef, undef, undef, undef, undef, undef, undef, undef, undef, undef, undef, undef, undef, undef, undef, undef, undef, undef, undef, undef, undef, undef, undef, undef], []⟩
theorem info25 : (Try.prog.info? 25).map (fun i => (i.zero, i.size)) = some (some (.agg #[.slice none 0 0, .slice none 0 0, .slice none 0 0]), 3) := by kernel_rfl
theorem info47 : (Try.prog.info? 47).map (fun i => (i.zero, i.size)) = some (some (.agg #[.int .i64 0, .int .i64 0, .slice none 0 0]), 3) := by kernel_rfl
theorem run_alloc {a : Act} {W : World} {o : Oper} {z : Array Value} {t : TypeId} (ho : o.op = .alloc t) {n : Nat} (hi : (Try.prog.info? t).map (fun i => (i.zero, i.size)) = some (some (.agg z), n)) :
    (execOp a.eval o).run Try.prog W = .ok (.value (.pointer (some ⟨W.heap.size, 0, none⟩))) (W.alloc (.cells z t (0, 0))) := by
  obtain ⟨i, hi0, hi1⟩ := Option.map_eq_some_iff.1 hi
  simp only [Prod.mk.injEq] at hi1
  simp [execOp, ho, Instr.alloc, zeroValue, typeInfo, hi0, hi1.1, newVar, newRow, Value.cells]
set_option maxHeartbeats 4000000 in
set_option maxRecDepth 100000 in
theorem region1 (k : Nat) (A0 : Option Addr) (c0 : Nat) (I : List Int) (A1 : Option Addr) (c1 : Nat) (NN : List (List S64)) (A2 : Option Addr) (c2 : Nat) (O : List Int) (Ab : Option Addr) (cb : Nat) (bl : List (List Int)) (mr mc : Int) (Am : Option Addr) (cm : Nat) (md : List Int) (g3 g5 : Nat) (w0 : World)
    (h0 : Kd.C (Kd.int .i64) w0 A0 I.length I) (hc0 : I.length ≤ c0) (h1 : Kd.C (Kd.slice 64 k64) w0 A1 NN.length NN) (hc1 : NN.length ≤ c1) (h2 : Kd.C (Kd.int .i64) w0 A2 O.length O) (hc2 : O.length ≤ c2)
    (hb : Kd.C (Kd.slice 5 (Kd.int .u8)) w0 Ab bl.length bl) (hcb : bl.length ≤ cb) (hm : Kd.C (Kd.int .u8) w0 Am md.length md) (hcm : md.length ≤ cm)
    (hg3 : w0.heap[g3]? = some (.cells #[.slice A0 I.length c0, .slice A1 NN.length c1, .slice A2 O.length c2] 25 (0, 0))) (hg5 : w0.heap[g5]? = some (.cells #[.int .i64 mr, .int .i64 mc, .slice Am md.length cm] 47 (0, 0)))
    (hf1 : recoupref21_Copy.f k I NN O = some (I, NN, O)) (hf3 : recoupref21_CopyBlocks.f k bl = some bl) (hf5 : recoupref03_Copy.f mr mc md = some (mr, mc, md))
    {Q : Exit → Act → World → Prop}
    (hQ : ∀ x28 x29 x30 x31 x32 x33 x8 g7 g9 v0 v1 v2 v3 W, Below w0.heap.size w0 W → w0.heap.size ≤ g7 → w0.heap.size ≤ g9 → W.heap[g7]? = some (.cells #[v0, v1, v2] 25 (0, 0)) → W.heap[g9]? = some (.cells #[.int .i64 mr, .int .i64 mc, v3] 47 (0, 0)) →
      G1 w0.heap.size I NN O W (.agg #[v0, v1, v2]) → G3 w0.heap.size bl W x8 → G5 w0.heap.size mr mc md W (.agg #[.int .i64 mr, .int .i64 mc, v3]) →
      Q .normal (ac (.agg #[.slice A0 I.length c0, .slice A1 NN.length c1, .slice A2 O.length c2]) (.slice Ab bl.length cb) (.agg #[.int .i64 mr, .int .i64 mc, .slice Am md.length cm]) g3 g5 (.pointer (some ⟨g7, 0, none⟩)) x8 (.pointer (some ⟨g9, 0, none⟩)) x28 x29 x30 x31 x32 x33) W) (w : World) (hw : w0 = { w with drawn := w.drawn + 1 }) :
    (Code.region 1 (opsOf Try.f9 1) true).wp Try.prog Q (ac (.agg #[.slice A0 I.length c0, .slice A1 NN.length c1, .slice A2 O.length c2]) (.slice Ab bl.length cb) (.agg #[.int .i64 mr, .int .i64 mc, .slice Am md.length cm]) g3 g5 undef undef undef undef undef undef undef undef undef) w := by
  obtain ⟨FV, hFV⟩ : ∃ FV, Value.agg #[.slice A0 I.length c0, .slice A1 NN.length c1, .slice A2 O.length c2] = FV := ⟨_, rfl⟩
  obtain ⟨MV, hMV⟩ : ∃ MV, Value.agg #[.int .i64 mr, .int .i64 mc, .slice Am md.length cm] = MV := ⟨_, rfl⟩
  obtain ⟨BV, hBV⟩ : ∃ BV, Value.slice Ab bl.length cb = BV := ⟨_, rfl⟩
  rw [hFV, hMV, hBV] at hQ ⊢
  refine wp_region_any (by kernel_rfl) ?_
  rw [← hw]
  refine wpAny_inv (fun l a W => ∃ x7 x8 x9 x28 x29 x30 x31 x32 x33, a = ac FV BV MV g3 g5 x7 x8 x9 x28 x29 x30 x31 x32 x33 ∧ FI w0.heap.size w0 FV BV MV I NN O bl mr mc md l x7 x8 x9 x28 x29 x30 x31 x32 x33 W) ?_ ?_ _ _ _ _ ?_ ?_
  · rintro l a W ⟨x7, x8, x9, x28, x29, x30, x31, x32, x33, rfl, h⟩ hr
    obtain ⟨d6, d7, d8, d9, d10⟩ := done1 h.sz hr
    obtain ⟨g7, cs7, rfl, h7, hc7, hs7, hG7⟩ := h.f6 d6
    obtain ⟨g9, cs9, rfl, h9, hc9, hs9, hG9⟩ := h.f7 d7
    obtain ⟨a0, a1, a2, rfl⟩ := three hs7
    have hG := hG9 d10
    obtain ⟨v, hv, hR⟩ := hG9 d10
    obtain rfl := Value.agg.inj hv
    exact hQ _ _ _ _ _ _ _ _ _ _ _ _ _ _ h.b h7 h9 hc7 hc9 (hG7 d8) (h.f9 d9) hG
  · rintro l a W ⟨x7, x8, x9, x28, x29, x30, x31, x32, x33, rfl, h⟩ i hi
    have hn := h.b.size
    rcases cases1 hi with rfl | rfl | rfl | rfl | rfl | rfl | rfl | rfl | rfl | rfl | rfl
    · have hb3 := (h.b.block g3 (blk_lt hg3)).trans hg3
      obtain ⟨⟨e0, e1, e2⟩, _⟩ : (W.cell? ⟨g3, 0, none⟩ = some (.slice A0 I.length c0) ∧ W.cell? ⟨g3, 1, none⟩ = some (.slice A1 NN.length c1) ∧ W.cell? ⟨g3, 2, none⟩ = some (.slice A2 O.length c2)) ∧ True := ⟨⟨(blk_cell hb3 0).trans rfl, (blk_cell hb3 1).trans rfl, (blk_cell hb3 2).trans rfl⟩, trivial⟩
      have hu25 := Try.underlying25
      refine op_run (o := o0) ho0 rfl (v := FV) (W' := W) ?_ ⟨x7, x8, x9, FV, x29, x30, x31, x32, x33, rfl, h.s0 rfl⟩
      rw [← hFV]
      unfold o0 ac
      first | (go_simp; done) | (go_simp; rfl)
    · obtain ⟨r1, r0⟩ := rd1 hi
      have e28 := h.f0 r0
      subst x28
      have hB := h.b
      have hcall := recoupref21_Copy.calls k A0 c0 I A1 c1 NN A2 c2 O I NN O W (Kd.C_below h0 hB) hc0 (Kd.C_below h1 hB) hc1 (Kd.C_below h2 hB) hc2 hf1
      refine op_call (o := o1) ho1 rfl (f := 30) (args := #[FV]) ?_ (by rw [← hFV]; exact hcall) ?_
      · unfold o1 ac
        first | (go_simp; done) | (go_simp; rfl)
      · rintro e w' ⟨v0, v1, v2, rfl, a, b, c, hb'⟩
        have h' := h.move hn hb'
        exact ⟨_, rfl, x7, x8, x9, FV, .agg #[v0, v1, v2], x30, x31, x32, x33, rfl, h'.s1 ⟨v0, v1, v2, rfl, Kd.R_lower a hn, Kd.S_lower b hn, Kd.R_lower c hn⟩⟩
    · refine op_run (o := o2) ho2 rfl (v := BV) (W' := W) ?_ ⟨x7, x8, x9, x28, x29, BV, x31, x32, x33, rfl, h.s2 rfl⟩
      unfold o2 ac
      first | (go_simp; done) | (go_simp; rfl)
    · obtain ⟨r3, r2, _⟩ := rd3 hi
      have e30 := h.f2 r2
      subst x30
      have hcall := recoupref21_CopyBlocks.calls k Ab cb bl bl W (Kd.C_below hb h.b) hcb hf3
      refine op_call (o := o3) ho3 rfl (f := 31) (args := #[BV]) ?_ (by rw [← hBV]; exact hcall) ?_
      · unfold o3 ac
        first | (go_simp; done) | (go_simp; rfl)
      · rintro e w' ⟨v0, rfl, a, hb'⟩
        have h' := h.move hn hb'
        exact ⟨_, rfl, x7, x8, x9, x28, x29, BV, v0, x32, x33, rfl, h'.s3 (Kd.S_lower a hn)⟩
    · have hb5 := (h.b.block g5 (blk_lt hg5)).trans hg5
      obtain ⟨⟨e0, e1, e2⟩, _⟩ : (W.cell? ⟨g5, 0, none⟩ = some (.int .i64 mr) ∧ W.cell? ⟨g5, 1, none⟩ = some (.int .i64 mc) ∧ W.cell? ⟨g5, 2, none⟩ = some (.slice Am md.length cm)) ∧ True := ⟨⟨(blk_cell hb5 0).trans rfl, (blk_cell hb5 1).trans rfl, (blk_cell hb5 2).trans rfl⟩, trivial⟩
      have hu47 := Try.underlying47
      refine op_run (o := o4) ho4 rfl (v := MV) (W' := W) ?_ ⟨x7, x8, x9, x28, x29, x30, x31, MV, x33, rfl, h.s4 rfl⟩
      rw [← hMV]
      unfold o4 ac
      first | (go_simp; done) | (go_simp; rfl)
    · obtain ⟨r5, r4, _⟩ := rd5 hi
      have e32 := h.f4 r4
      subst x32
      have hcall := recoupref03_Copy.calls mr mc Am cm md mr mc md W (Kd.C_below hm h.b) hcm hf5
      refine op_call (o := o5) ho5 rfl (f := 32) (args := #[MV]) ?_ (by rw [← hMV]; exact hcall) ?_
      · unfold o5 ac
        first | (go_simp; done) | (go_simp; rfl)
      · rintro e w' ⟨v2, rfl, a, hb'⟩
        have h' := h.move hn hb'
        exact ⟨_, rfl, x7, x8, x9, x28, x29, x30, x31, MV, .agg #[.int .i64 mr, .int .i64 mc, v2], rfl, h'.s5 ⟨v2, rfl, Kd.R_lower a hn⟩⟩
    · exact op_run (o := o6) ho6 rfl (run_alloc rfl info25) ⟨.pointer (some ⟨W.heap.size, 0, none⟩), x8, x9, x28, x29, x30, x31, x32, x33, rfl, h.s6 (rd6 hi) hn rfl⟩
    · exact op_run (o := o7) ho7 rfl (run_alloc rfl info47) ⟨x7, x8, .pointer (some ⟨W.heap.size, 0, none⟩), x28, x29, x30, x31, x32, x33, rfl, h.s7 (rd7 hi) hn rfl⟩
    · obtain ⟨_, r6, r1, _⟩ := rd8 hi
      obtain ⟨g, cs, rfl, hg, hc, hs, _⟩ := h.f6 r6
      obtain ⟨a0, a1, a2, rfl⟩ := three hs
      have hG := h.f1 r1
      obtain ⟨v0, v1, v2, rfl, a, b, c⟩ := h.f1 r1
      obtain ⟨B0, d0, rfl⟩ := Kd.R_slice a
      obtain ⟨B1, d1, rfl⟩ := Kd.R_slice (Kd.S_R b)
      obtain ⟨B2, d2, rfl⟩ := Kd.R_slice c
      have hu25 := Try.underlying25
      obtain ⟨⟨z0, z1, z2⟩, y0, y1, y2⟩ : (W.cell? ⟨g, 0, none⟩ = some a0 ∧ W.cell? ⟨g, 1, none⟩ = some a1 ∧ W.cell? ⟨g, 2, none⟩ = some a2) ∧ W.frozen? ⟨g, 0, none⟩ = false ∧ W.frozen? ⟨g, 1, none⟩ = false ∧ W.frozen? ⟨g, 2, none⟩ = false := ⟨⟨(blk_cell hc 0).trans rfl, (blk_cell hc 1).trans rfl, (blk_cell hc 2).trans rfl⟩, blk_frozen hc 0, blk_frozen hc 1, blk_frozen hc 2⟩
      refine op_skip (o := o8) ho8 rfl ?_ ⟨.pointer (some ⟨g, 0, none⟩), x8, x9, x28, _, x30, x31, x32, x33, rfl, h.s8 hg hc rfl r6 hG⟩
      unfold o8 ac
      first | (go_simp; done) | (go_simp; rfl)
    · obtain ⟨_, r3, _⟩ := rd9 hi
      have hG := h.f3 r3
      refine op_run (o := o9) ho9 rfl (v := x31) (W' := W) ?_ ⟨x7, x31, x9, x28, x29, x30, x31, x32, x33, rfl, h.s9 hG⟩
      unfold o9 ac
      first | (go_simp; done) | (go_simp; rfl)
    · obtain ⟨_, r7, r5, _⟩ := rd10 hi
      obtain ⟨g, cs, rfl, hg, hc, hs, _⟩ := h.f7 r7
      obtain ⟨a0, a1, a2, rfl⟩ := three hs
      have hG := h.f5 r5
      obtain ⟨v2, rfl, a⟩ := h.f5 r5
      obtain ⟨B2, d2, rfl⟩ := Kd.R_slice a
      have hu47 := Try.underlying47
      obtain ⟨⟨z0, z1, z2⟩, y0, y1, y2⟩ : (W.cell? ⟨g, 0, none⟩ = some a0 ∧ W.cell? ⟨g, 1, none⟩ = some a1 ∧ W.cell? ⟨g, 2, none⟩ = some a2) ∧ W.frozen? ⟨g, 0, none⟩ = false ∧ W.frozen? ⟨g, 1, none⟩ = false ∧ W.frozen? ⟨g, 2, none⟩ = false := ⟨⟨(blk_cell hc 0).trans rfl, (blk_cell hc 1).trans rfl, (blk_cell hc 2).trans rfl⟩, blk_frozen hc 0, blk_frozen hc 1, blk_frozen hc 2⟩
      refine op_skip (o := o10) ho10 rfl ?_ ⟨x7, x8, .pointer (some ⟨g, 0, none⟩), x28, x29, x30, x31, x32, _, rfl, h.s10 hg hc rfl r7 hG⟩
      unfold o10 ac
      first | (go_simp; done) | (go_simp; rfl)
  · rw [size1]; simp [unl]
  · exact ⟨undef, undef, undef, undef, undef, undef, undef, undef, undef, rfl, { sz := by rw [size1]; rfl, b := Below.refl _ _, f0 := fun q => by simp [L, size1] at q, f1 := fun q => by simp [L, size1] at q, f2 := fun q => by simp [L, size1] at q, f3 := fun q => by simp [L, size1] at q, f4 := fun q => by simp [L, size1] at q, f5 := fun q => by simp [L, size1] at q, f6 := fun q => by simp [L, size1] at q, f7 := fun q => by simp [L, size1] at q, f9 := fun q => by simp [L, size1] at q, o8 := fun q => by simp [L, size1] at q, o10 := fun q => by simp [L, size1] at q }⟩
end Go.Proofs.Ytfnhnniecclleaa.Fresh
