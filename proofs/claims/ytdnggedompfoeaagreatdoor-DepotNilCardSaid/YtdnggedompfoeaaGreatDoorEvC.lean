/- Regions, code, calls, rounds: what the evaluator answers, the model answers. -/
import Derived.Test.YtdnggedompfoeaaGreatDoorEvB
import Derived.Test.YtdnggedompfoeaaGreatDoorEvA
import Derived.TacticsIn
import Derived.OrdersIn
import Derived.LoopNIn
import Derived.RangeFuncIn
import Derived.RangeFuncRecord
set_option linter.unusedVariables false
set_option linter.unusedSimpArgs false
namespace Go.AE
variable {K : Kon} {X : Cx}

theorem Went.refl {M N : Nat} {g : G} {s : St} {a : Act} {w : World} (fr : Option Nat) (h : SR K M N g s a w) : Went K M N fr g s w g s a w := ⟨h, .refl _ _ _, fun _ _ h => .inl h, Nat.le_refl _⟩

theorem Went.trans {M N : Nat} {g g' g'' : G} {s s' s'' : St} {a' a'' : Act} {w w' w'' : World} (h : Went K M N none g s w g' s' a' w') (k : Went K M N none g' s' w' g'' s'' a'' w'') : Went K M N none g s w g'' s'' a'' w'' where
  sr := k.sr
  stp := h.stp.trans k.stp
  n := Nat.le_trans h.n k.n
  new i e hi := by
    have hn := h.n
    have kn := k.n
    rcases k.new i e hi with h' | h' | h'
    · rcases h.new i e h' with h'' | h'' | h''
      · exact .inl h''
      · exact .inr (.inr ⟨h''.1, Nat.lt_of_lt_of_le h''.2 kn⟩)
      · exact .inr (.inr ⟨h''.1, Nat.lt_of_lt_of_le h''.2 kn⟩)
    · exact .inr (.inr ⟨Nat.le_trans hn h'.1, h'.2⟩)
    · exact .inr (.inr ⟨Nat.le_trans hn h'.1, h'.2⟩)

theorem yielded_of {ops : Array Oper} {tmps : Array Value} {j t : Nat} (hd : (ops[j]?).bind (·.dst) = some t) {b : Bool} (h : tmps.getD t undef = .bool b) : yielded ops tmps j = some b := by
  unfold yielded
  rw [hd]
  rw [Array.getD_eq_getD_getElem?] at h
  cases ht : tmps[t]? with
  | none => rw [ht] at h; simp [undef] at h
  | some x => rw [ht] at h; simp at h; subst h; simp [ht]

theorem yielded_no {ops : Array Oper} {tmps : Array Value} {j t : Nat} (hd : (ops[j]?).bind (·.dst) = some t) {l : Array Value} (h : tmps.getD t undef = .tuple l) : yielded ops tmps j = none := by
  unfold yielded
  rw [hd]
  rw [Array.getD_eq_getD_getElem?] at h
  cases ht : tmps[t]? with
  | none => simp [ht]
  | some x => rw [ht] at h; simp at h; subst h; simp [ht]

/-- is it carried out? -/
theorem wants_spec {ops : Array Oper} {o : Oper} {s : St} {y n : Res} (h : wants X ops o s y n ≠ .fail) : ∃ b : Bool, wants X ops o s y n = cond b y n ∧
    (∀ (K : Kon) N g a w, K.g = X.g → SR K X.M N g s a w → Region.wanted o (yielded ops a.tmps) = b) := by
  unfold wants at h ⊢
  cases hg : o.guard with
  | none => exact ⟨true, rfl, fun _ _ _ _ _ _ _ => by simp [Region.wanted, hg]⟩
  | some q =>
    obtain ⟨j, b⟩ := q
    simp only [hg] at h ⊢
    cases hd : (ops[j]?).bind (·.dst) with
    | none => simp only [hd] at h; exact absurd rfl h
    | some t =>
      simp only [hd] at h ⊢
      obtain ⟨v, h1, h2⟩ := opd_spec h
      rw [h1] at h ⊢
      cases v with
      | bool c =>
        refine ⟨c == b, by cases c <;> cases b <;> rfl, fun K N g a w hK hS => ?_⟩
        have hv : a.tmps.getD t undef = .bool c := h2 K N g a w hK hS
        simp [Region.wanted, hg, yielded_of hd hv]
      | tup l =>
        refine ⟨false, rfl, fun K N g a w hK hS => ?_⟩
        obtain ⟨xs, hv, _⟩ : VR g (.tup l) (a.tmps.getD t undef) := h2 K N g a w hK hS
        simp [Region.wanted, hg, yielded_no hd hv]
      | _ => exact absurd rfl h

theorem vr_und {g : G} : VR g und undef := ⟨[], rfl, rfl⟩

/-- what an operation in its place does -/
def OneW (K : Kon) (X : Cx) (ops : Array Oper) (o : Oper) (fr : Option Nat) (s s' : St) : Prop := ∀ g a w m rd' (K' : Act → World → Prop) Q, (X.rd = none → rd' = none) → SR K X.M X.N g s a w → Free K fr g s.n →
  (∀ g' a' w', Went K X.M X.N fr g s w g' s' a' w' → K' a' w') →
  if Region.wanted o (yielded ops a.tmps) = true then o.wpIn (Fn' rd') m K.P a w K' Q else (∀ f, o.about K.P w a.eval = some f → (Fn' rd').fn f) ∧ K' (a.put o.dst undef) w

structure All (K : Kon) (X : Cx) : Prop where
  ok : Ok K X
  mz : X.mz = K.mz
  mzok : MzOk K

theorem one_spec {ops : Array Oper} {o : Oper} {cal : Cal} {fr : Option Nat} {s : St} {k : KS} (hA : All K X) (hcal : CalOk K cal) (h : one X ops o cal fr s k ≠ .fail) :
    ∃ s', one X ops o cal fr s k = k s' ∧ OneW K X ops o fr s s' := by
  unfold one at h ⊢
  obtain ⟨b, h1, h2⟩ := wants_spec h
  rw [h1] at h ⊢
  cases b with
  | true =>
    simp only [cond] at h ⊢
    obtain ⟨v, s1, h3, h4, h5, h6⟩ := op_ok (o := o) hA.ok hA.mz hA.mzok hcal fr s _ h
    have e3 : runB (opOf X o) cal fr s (fun v s => put (dstOf X.M X.N o.dst) v s k) = put (dstOf X.M X.N o.dst) v s1 k := h3
    rw [e3] at h ⊢
    obtain ⟨s', q1, q2, q3, q4, q5⟩ := put_spec h
    refine ⟨s', q1, fun g a w m rd' K' Q hrd hS hf hK => ?_⟩
    rw [h2 K _ g a w hA.ok.g.symm hS, if_pos rfl]
    refine h6 g a w m rd' K' Q hrd hS hf fun g' a' w' x r1 r2 r3 r4 r5 _ => ?_
    refine hK g' _ w' ⟨q5 K g' a' w' x r1 r2, q2 ▸ r3, ?_, q3 ▸ r5⟩
    intro i e hi
    rw [q3]
    exact r4 i e hi
  | false =>
    simp only [cond] at h ⊢
    obtain ⟨s', q1, q2, q3, q4, q5⟩ := put_spec h
    refine ⟨s', q1, fun g a w m rd' K' Q hrd hS hf hK => ?_⟩
    rw [h2 K _ g a w hA.ok.g.symm hS, if_neg (by simp)]
    refine ⟨fun f _ => trivial, hK g _ w ⟨q5 K g a w _ hS vr_und, ?_, fun i e hi => .inl hi, by omega⟩⟩
    rw [q2]; exact .refl _ _ _

/-- operations in their order -/
theorem seq_spec {ops : Array Oper} {cal : Cal} (hA : All K X) (hcal : CalOk K cal) : ∀ {l : List Oper} {s : St} {k : KS}, seqOps X ops cal l s k ≠ .fail →
    ∃ s', seqOps X ops cal l s k = k s' ∧ ∀ g a w m rd' Q, (X.rd = none → rd' = none) → SR K X.M X.N g s a w → (∀ g' a' w', Went K X.M X.N none g s w g' s' a' w' → Q .normal a' w') → wpListIn (Fn' rd') m K.P ops Q l a w
  | [], s, k, _ => ⟨s, rfl, fun g a w m rd' Q _ hS hQ => hQ g a w (.refl _ hS)⟩
  | o :: l, s, k, h => by
    have e : seqOps X ops cal (o :: l) s k = one X ops o cal none s fun s => seqOps X ops cal l s k := rfl
    rw [e] at h ⊢
    obtain ⟨s1, h1, h2⟩ := one_spec hA hcal h
    rw [h1] at h ⊢
    obtain ⟨s2, h3, h4⟩ := seq_spec hA hcal h
    refine ⟨s2, h3, fun g a w m rd' Q hrd hS hQ => ?_⟩
    exact h2 g a w m rd' _ Q hrd hS trivial fun g' a' w' hw => h4 g' a' w' m rd' Q hrd hw.sr fun g'' a'' w'' hw' => hQ g'' a'' w'' (hw.trans hw')

end Go.AE

namespace Go.AE
variable {K : Kon}

/-- the loop in whose body the frame is -/
def RdR (g : G) : Option Nat → Option Nat → Prop
  | none, none => True
  | some l, some b => ∃ e, g l = some e ∧ e.b = b
  | _, _ => False

theorem RdR.none {g : G} {r r' : Option Nat} (h : RdR g r r') : r = none → r' = none := fun e => by
  subst e
  cases r' with
  | none => rfl
  | some _ => exact h.elim

theorem RdR.mono {g g' : G} (hl : g.le g') : ∀ {r r' : Option Nat}, RdR g r r' → RdR g' r r'
  | .none, .none, _ => trivial
  | .some _, .some _, ⟨e, h1, h2⟩ => ⟨e, hl _ _ h1, h2⟩
  | .none, .some _, h => h.elim
  | .some _, .none, h => h.elim

/-- how a piece of code ends -/
def outR : Res → Option (Exit × St)
  | .fail => none
  | .nrm s => some (.normal, s)
  | .ret s => some (.ret, s)
  | .ex i s => some (.exit i, s)
  | .go l s => some (.goto l, s)

def CodeW (K : Kon) (X : Fx) (c : Code) (s : St) (r : Res) : Prop := ∀ g a w m rd' Q, RdR g X.rd rd' → SR K X.M X.N g s a w →
  (∀ e s', outR r = some (e, s') → ∀ g' a' w', Went K X.M X.N none g s w g' s' a' w' → Q e a' w') → c.wpIn (Fn' rd') m K.P Q a w

structure FxOk (K : Kon) (X : Fx) : Prop where
  all : All K X.toCx
  M : X.M = K.M X.f
  N : ∀ fn, K.P.funcs[X.f]? = some fn → fn.ntmps ≤ X.N

theorem SR.drop {M N : Nat} {g : G} {s : St} {a : Act} {w : World} (h : SR K M N g s a w) : SR K M N g ⟨[], s.σ, s.d, s.t, s.n⟩ a w :=
  ⟨h.size, h.tm, fun t v _ e => by simp [findL] at e, h.dfs, h.rep, h.nb⟩

theorem Went.drop {M N : Nat} {g : G} {s : St} {a : Act} {w : World} (h : SR K M N g s a w) : Went K M N none g s w g ⟨[], s.σ, s.d, s.t, s.n⟩ a w :=
  ⟨h.drop, .refl _ _ _, fun _ _ h => .inl h, Nat.le_refl _⟩

theorem SR.bump {M N : Nat} {g : G} {s : St} {a : Act} {w : World} (h : SR K M N g s a w) {n : Nat} (hn : s.n ≤ n) : SR K M N g ⟨s.loc, s.σ, s.d, s.t, n⟩ a w :=
  ⟨h.size, h.tm, h.loc, h.dfs, h.rep, h.nb.mono hn⟩

/-- a region that draws its order -/
def DrawOk (K : Kon) : Prop := ∀ (X : Fx) (cal : Cal) (id : Nat) (ops : Array Oper) (s : St), FxOk K X → CalOk K cal → K.P.follows .mixedOrders = true →
  (may (plan ops) fun pl => bumpN ops.size s fun s' => drawOps X.toCx ops cal s.n pl 0 [s.t] s' .nrm) ≠ .fail →
  CodeW K X (.region id ops true) s (may (plan ops) fun pl => bumpN ops.size s fun s' => drawOps X.toCx ops cal s.n pl 0 [s.t] s' .nrm)

section scope
variable {F : Fence} {n : Nat} {P : Program} {Q : Exit → Act → World → Prop} {a : Act} {w : World}

theorem stepR_scope {b : Frame} {k : List Item} {cs : List Frame} {c : Code} : step P (lone (b.atR a (.code (.scope c) :: k)) cs w) = .next (lone (b.atR a (.code c :: .inScope c :: k)) cs w) :=
  step_lone_go (by simp [stepG, stepG.exec, Frame.atR])

theorem stepR_inScope {b : Frame} {k : List Item} {cs : List Frame} {c : Code} : step P (lone (b.atR a (.inScope c :: k)) cs w) = .next (lone (b.atR a k) cs w) :=
  step_lone_go (by simp [stepG, stepG.exec, Frame.atR])

/-- within a scope -/
def Sc (F : Fence) (n : Nat) (P : Program) (c : Code) (Q : Exit → Act → World → Prop) (d : Code) (a : Act) (w : World) : Prop := ∀ (b : Frame) (k : List Item) (cs : List Frame), b.roundOf = F.round → F.fn b.fn → F.room (cs.length + 1 + n) →
  ∃ e a' w', Q e a' w' ∧ ArrivesIn (Machine.fenced P F) P (lone (b.atR a (.code d :: .inScope c :: k)) cs w) b k cs e a' w'

def scPost (F : Fence) (n : Nat) (P : Program) (c : Code) (Q : Exit → Act → World → Prop) : Exit → Act → World → Prop
  | .goto l, a, w => (match findLabel c l with | some d => Sc F n P c Q d a w | none => Q (.goto l) a w)
  | e, a, w => Q e a w

theorem sc_step {c d : Code} (h : d.wpIn F n P (scPost F n P c Q) a w) : Sc F n P c Q d a w := by
  intro b k cs hro hb hr
  obtain ⟨e, a₁, w₁, hq, harr⟩ := h b (.inScope c :: k) cs hro hb hr
  cases e with
  | normal => exact ⟨.normal, a₁, w₁, hq, StepsIn.trans harr (.one (fenced_calm hb hr rfl) stepR_inScope)⟩
  | exit id => exact ⟨.exit id, a₁, w₁, hq, fun k' hk => harr.1 k' (by simp [exitTo, hk]), fun hr' hk => harr.2 hr' (by simp [exitTo, hk])⟩
  | goto l =>
    simp only [scPost] at hq
    cases hf : findLabel c l with
    | some d' =>
      simp only [hf] at hq
      obtain ⟨e₂, a₂, w₂, hq₂, harr₂⟩ := hq b k cs hro hb hr
      exact ⟨e₂, a₂, w₂, hq₂, .of_steps (harr.1 _ (by simp [gotoIn, hf])) harr₂⟩
    | none =>
      simp only [hf] at hq
      exact ⟨.goto l, a₁, w₁, hq, fun k' hk => harr.1 k' (by simp [gotoIn, hf, hk]), fun hr' hk => harr.2 hr' (by simp [gotoIn, hf, hk])⟩
  | ret => exact ⟨_, a₁, w₁, hq, harr⟩
  | panic ch => exact ⟨_, a₁, w₁, hq, harr⟩
  | outgrown => exact ⟨_, a₁, w₁, hq, harr⟩

theorem wpIn_scope {c : Code} (h : Sc F n P c Q c a w) : (Code.scope c).wpIn F n P Q a w := fun b k cs hro hb hr =>
  let ⟨e, a', w', q, r⟩ := h b k cs hro hb hr; ⟨e, a', w', q, .of_steps (.one (fenced_calm hb hr rfl) stepR_scope) r⟩
end scope

theorem thenN_ne {r : Res} {k : St → Res} (h : thenN r k ≠ .fail) : (∃ s, r = .nrm s ∧ thenN r k = k s) ∨ ((∀ s, r ≠ .nrm s) ∧ r ≠ .fail ∧ thenN r k = r) := by
  cases r with
  | fail => exact absurd rfl h
  | nrm s => exact .inl ⟨s, rfl, rfl⟩
  | _ => exact .inr ⟨by simp, by simp, rfl⟩

theorem outR_some {r : Res} (h : r ≠ .fail) : ∃ e s, outR r = some (e, s) := by
  cases r <;> first | exact absurd rfl h | exact ⟨_, _, rfl⟩

theorem outR_nrm {r : Res} {s : St} (h : outR r = some (.normal, s)) : r = .nrm s := by
  cases r <;> simp [outR] at h; subst h; rfl

/-- one piece of code behind another -/
theorem CodeW.then {X : Fx} {c : Code} {s : St} {r : Res} {k : St → Res} (hr : CodeW K X c s r) (h : thenN r k ≠ .fail) {g : G} {a : Act} {w : World} {m : Nat} {rd' : Option Nat} {N Q : _}
    (hrd : RdR g X.rd rd') (hS : SR K X.M X.N g s a w) (hQ : ∀ e s', outR (thenN r k) = some (e, s') → ∀ g' a' w', Went K X.M X.N none g s w g' s' a' w' → Q e a' w')
    (hN : ∀ s1, r = .nrm s1 → ∀ g' a' w', Went K X.M X.N none g s w g' s1 a' w' → N a' w') : c.wpIn (Fn' rd') m K.P (Exit.then N Q) a w := by
  refine hr g a w m rd' _ hrd hS fun e s' ho g' a' w' hw => ?_
  rcases thenN_ne h with ⟨s1, h1, h2⟩ | ⟨h1, h2, h3⟩
  · subst h1
    simp [outR] at ho
    obtain ⟨rfl, rfl⟩ := ho
    exact hN _ rfl g' a' w' hw
  · rw [h3] at hQ
    have := hQ e s' ho g' a' w' hw
    cases e with
    | normal => exact absurd (outR_nrm ho) (h1 s')
    | _ => exact this

end Go.AE

namespace Go.AE
variable {K : Kon}

theorem loopOb_ne {o : Ob} {k : LoopState → Option Code → FuncId → T V → List Tmp → Code → Code → Nat → Res} (h : loopOb o k ≠ .fail) : ∃ a b c d e f g n, o = .loop a b c d e f g n ∧ loopOb o k = k a b c d e f g n := by
  cases o with
  | loop a b c d e f g n => exact ⟨a, b, c, d, e, f, g, n, rfl, rfl⟩
  | _ => exact absurd rfl h

/-- the block of the deferred calls -/
theorem mkLoop_spec {X : Fx} {s : St} {k : Nat → St → Res} (hX : FxOk K X) (h : mkLoop X s k ≠ .fail) : ∃ d s', mkLoop X s k = k d s' ∧ s'.σ = s.σ ∧ s'.loc = s.loc ∧
    ∀ g a w rd', RdR g X.rd rd' → SR K X.M X.N g s a w → ∃ g' mark w1 ed, Went K X.M X.N none g s w g' s' { a with defers := mark ++ a.defers } w1 ∧ g' d = some ed ∧
      ∀ fn ps asg body, (Instr.enterLoop fn a.tmps ps asg body rd').run K.P w = .ok (w1.heap.size, mark) (w1.alloc (.loop { state := .ready, pending := none, fn, tmps := a.tmps, params := ps, assign := asg, body, defers := ed.b })) := by
  unfold mkLoop at h ⊢
  cases hrd : X.rd with
  | none =>
    simp only [hrd] at h ⊢
    obtain ⟨r, s1, h1, h2, h3, h4, h5⟩ := newOb_spec h
    rw [h1]
    obtain ⟨l1, σ1, d1, t1, n1⟩ := s1
    refine ⟨r, ⟨l1, σ1, .coll r :: d1, t1, n1⟩, rfl, h2.1, h2.2.1, fun g a w rd' hr hS => ?_⟩
    have hr' : rd' = none := hr.none rfl
    subst hr'
    obtain ⟨q1, q2⟩ := newOb_did (e := ⟨w.heap.size, 0, 0, 0⟩) (o := .deferred (some [])) hS (fr := none) trivial h3 h4 h5 rfl (World.alloc_heap_new w _)
    have hS1 := q1.sr hS (fr := none) trivial h2
    refine ⟨_, [{ target := .collected w.heap.size, args := #[] }], w.alloc (.deferred (some [])), ⟨w.heap.size, 0, 0, 0⟩, ⟨⟨hS1.size, hS1.tm, hS1.loc, ⟨_, a.defers, rfl, q2, hS1.dfs⟩, hS1.rep, hS1.nb⟩, q1.stp, fun i e hi => (q1.new i e hi).imp id .inl, h2.2.2.2⟩, q2, fun fn ps asg body => ?_⟩
    rw [run_enterLoop_outer]
    simp
  | some l =>
    simp only [hrd] at h ⊢
    obtain ⟨o, h1, h2⟩ := may_ne h
    rw [h2] at h ⊢
    obtain ⟨a1, a2, a3, a4, a5, a6, a7, dd, rfl, h3⟩ := loopOb_ne h
    rw [h3]
    refine ⟨dd, s, rfl, rfl, rfl, fun g a w rd' hr hS => ?_⟩
    cases rd' with
    | none => exact hr.elim
    | some b =>
      obtain ⟨e, e1, rfl⟩ := hr
      obtain ⟨e', e2, r, ed, q1, q2, q3, q4, q5, q6, q7, q8, q9⟩ := hS.rep.ob l _ h1
      rw [e1] at e2; cases e2
      refine ⟨g, [], w, ed, .refl _ hS, q7, fun fn ps asg body => ?_⟩
      unfold Instr.enterLoop
      simp only [Sem.run_bind, run_getLoop q1, run_newObj_alloc, Result.andThen, Sem.run_pure, q8]

theorem rf_ok (X : Fx) (ih : IH) (cal : Cal) (f : Operand) (ps : Array Tmp) (x y : Code) (s : St) (hX : FxOk K X) (hcal : CalOk K cal) (u v : Fx → IH → Cal → St → Res) (h : cRf f ps x y u v X ih cal s ≠ .fail) :
    CodeW K X (.rangeFunc f ps x y) s (cRf f ps x y u v X ih cal s) := by
  unfold cRf at h ⊢
  obtain ⟨fv, f1, f2⟩ := opd_spec h
  rw [f1] at h ⊢
  obtain ⟨l', σ, d, t, nn⟩ := s
  generalize hs0 : (⟨[], σ, d, t, nn⟩ : St) = s0
  have hd : ∀ k, dropL ⟨l', σ, d, t, nn⟩ k = k s0 := fun k => hs0 ▸ rfl
  rcases clV_ne h with ⟨f, av, bv, rfl, e⟩ | ⟨l, rfl, e⟩
  case inr =>
    rw [e, hd] at h
    obtain ⟨d', s1, h1, _⟩ := mkLoop_spec hX h
    rw [h1] at h
    obtain ⟨lid, s2, h2, _⟩ := newOb_spec h
    rw [h2] at h
    exact absurd rfl h
  rw [e, hd] at h ⊢
  obtain ⟨d1, s1, h1, h2, h2', h3⟩ := mkLoop_spec hX h
  rw [h1] at h ⊢
  obtain ⟨lid, s2, k1, k2, k3, k4, k5⟩ := newOb_spec h
  rw [k1] at h ⊢
  have ht : ∀ r : Res, test (Sum.rec (motive := fun _ => Bool) (fun _ => true) (fun _ => false) (Sum.inl f : Sum FuncId Nat)) r = r := fun _ => rfl
  rw [ht] at h ⊢
  obtain ⟨v', t', n', c1, c3, c4⟩ := hcal (.inl f) _ s2.t s2.n _ h
  rw [c1] at h ⊢
  obtain ⟨ob, o1, o2⟩ := may_ne h
  rw [o2] at h ⊢
  obtain ⟨st, pend, a3, a4, a5, a6, a7, a8, rfl, o3⟩ := loopOb_ne h
  rw [o3] at h ⊢
  have hbusy : st ≠ .busy := fun e => by subst e; exact h rfl
  have hst : ∀ r : Res, (match st with | .busy => Res.fail | _ => r) = r := fun r => by cases st <;> first | rfl | exact absurd rfl hbusy
  simp only [hst] at h ⊢
  obtain ⟨s3, p1, p2, p3⟩ := setOb_ne h
  rw [p1] at h ⊢
  intro g a w m rd' Q hrd hS hQ
  have hS0 : SR K X.M X.N g s0 a w := by subst hs0; exact hS.drop
  have hW0 : Went K X.M X.N none g ⟨l', σ, d, t, nn⟩ w g s0 a w := by subst hs0; exact .drop hS
  obtain ⟨g1, mark, w1, ed, w1w, e1, e2⟩ := h3 g a w rd' hrd hS0
  have hfv := f2 K _ g a w hX.all.ok.g.symm hS
  obtain ⟨xs, ys, q1, q2, q3⟩ := hfv
  refine wpIn_rangeFunc fun fn _ => ?_
  obtain ⟨rec, hrec⟩ : ∃ r : Loop, r = { state := .ready, pending := none, fn, tmps := a.tmps, params := ps, assign := x, body := y, defers := ed.b } := ⟨_, rfl⟩
  have hw2 : (w1.alloc (.loop rec)).heap[w1.heap.size]? = some (.loop rec) := World.alloc_heap_new w1 _
  have hle1 : g1.le (g1.put lid ⟨w1.heap.size, 0, 0, 0⟩) := by
    refine G.le_put ?_
    cases hh : g1 lid with
    | none => rfl
    | some e => have := w1w.sr.nb _ _ hh; rw [k4] at this; simp at this
  obtain ⟨r1, r2⟩ := newOb_did (e := ⟨w1.heap.size, 0, 0, 0⟩) (o := .loop rec) w1w.sr (fr := none) trivial k3 k4 k5 rfl (by
    refine ⟨rec, ed, hw2, by rw [hrec], by rw [hrec], by rw [hrec], by rw [hrec], by rw [hrec], hle1 _ _ e1, by rw [hrec], fun fn' hf' => ?_, ?_⟩
    · rw [hrec]; exact Nat.le_trans (hX.N fn' hf') hS.size
    · rw [hrec, ← hX.M]; exact w1w.sr.tm.mono hle1)
  have hS2 := r1.sr w1w.sr (fr := none) trivial k2
  have hn2 : s1.n ≤ s2.n := k2.2.2.2
  have w2w : Went K X.M X.N none g1 s1 w1 (g1.put lid ⟨w1.heap.size, 0, 0, 0⟩) s2 { a with defers := mark ++ a.defers } (w1.alloc (.loop rec)) :=
    ⟨hS2, r1.stp, fun i e hi => (r1.new i e hi).imp id .inl, hn2⟩
  refine ⟨w1.heap.size, mark, w1.alloc (.loop rec), { target := .fn (.func f) ⟨ys⟩, args := ⟨xs⟩ ++ #[.func (.yield w1.heap.size) #[] #[]] }, w1.alloc (.loop rec), f, ⟨xs ++ (.func (.yield w1.heap.size) #[] #[] :: ys)⟩, w1.alloc (.loop rec), ?_, ?_, fun _ _ => trivial, ?_, fun h => (fn'_depth rd' h).elim, ?_⟩
  · rw [hrec]; exact e2 fn ps x y
  · simp only [resolve, q1, Deferred.ofValue]
    simp [go_sem, Act.eval]
  · simp only [invoke]
    have : (⟨xs⟩ : Array Value) ++ #[.func (.yield w1.heap.size) #[] #[]] ++ (⟨ys⟩ : Array Value) = ⟨xs ++ (.func (.yield w1.heap.size) #[] #[] :: ys)⟩ := by simp
    rw [this]
    exact c3 _ _
  · have hle02 : g.le (g1.put lid ⟨w1.heap.size, 0, 0, 0⟩) := w1w.stp.le.trans hle1
    have hvs : VRs (g1.put lid ⟨w1.heap.size, 0, 0, 0⟩) (av ++ (.yld lid :: bv)) (xs ++ (.func (.yield w1.heap.size) #[] #[] :: ys)) :=
      (q2.mono hle02).append ⟨_, _, rfl, ⟨_, r2, rfl⟩, q3.mono hle02⟩
    have hc := c4 _ _ _ hS2.rep hS2.nb hvs
    have hc' : CallsIn Fence.wide (m - 1) K.P f ⟨xs ++ (.func (.yield w1.heap.size) #[] #[] :: ys)⟩ (w1.alloc (.loop rec)) _ := callsIn_wide.2 hc
    refine CallsIn.mono (F := Fn' rd') hc' ?_
    rintro e w' ⟨xv, g3, rfl, u1, u2, u3, u4, c2⟩
    have hg3 : g3 lid = some ⟨w1.heap.size, 0, 0, 0⟩ := u2.le _ _ r2
    obtain ⟨e', y1, r, ed', z1, z2, z3, z4, z5, z6, z7, z8, z9, z10⟩ := u3.ob lid _ o1
    rw [hg3] at y1; cases y1
    have hS3 := call_went hS2 u2 u3 u4 c2
    have hlow : K.g ≤ lid := by rw [k4]; exact w1w.sr.low
    have hlt : w1.heap.size < w'.heap.size := (Array.getElem?_eq_some_iff.1 z1).1
    obtain ⟨v1, v2⟩ := u3.turn (w' := w'.putObj w1.heap.size (.loop { r with state := .exhausted })) (ob' := .loop .exhausted pend a3 a4 a5 a6 a7 a8) o1 hg3 hlow p3 World.putObj_size
      (fun b hb => World.putObj_heap_other hb) ⟨rfl, rfl, rfl⟩ ⟨_, ed', World.putObj_heap_same hlt, rfl, z3, z4, z5, z6, z7, z8, z9, z10⟩
    have hS4 : SR K X.M X.N g3 s3 { a with defers := mark ++ a.defers } (w'.putObj w1.heap.size (.loop { r with state := .exhausted })) := by
      obtain ⟨l3, σ3, d3, t3, n3⟩ := s3
      simp only at p2
      obtain ⟨y1, y2, y3, y4⟩ := p2
      subst y1 y2 y3 y4
      refine ⟨hS3.size, ?_, fun t v _ e => by simp [findL] at e, hS3.dfs, v1, hS3.nb⟩
      exact hS3.tm
    have w3w : Went K X.M X.N none (g1.put lid ⟨w1.heap.size, 0, 0, 0⟩) s2 (w1.alloc (.loop rec)) g3 s3 { a with defers := mark ++ a.defers } (w'.putObj w1.heap.size (.loop { r with state := .exhausted })) := by
      have e6 : s3.n = n' := p2.2.2.2
      exact ⟨hS4, u2.trans v2, fun i e hi => by rw [e6]; exact (u4 i e hi).imp id .inl, by rw [e6]; exact c2⟩
    have wall := ((hW0.trans w1w).trans w2w).trans w3w
    obtain ⟨w4, hw4⟩ : ∃ w4, w'.putObj w1.heap.size (.loop { r with state := .exhausted }) = w4 := ⟨_, rfl⟩
    rw [hw4] at wall
    have hend : (Instr.endLoop w1.heap.size).run K.P w' = .ok pend w4 := by
      have := run_endLoop (P := K.P) z1 (by rw [z2]; exact hbusy)
      rw [hw4, z3] at this
      exact this
    refine ⟨pend, w4, hend, ?_⟩
    cases pend with
    | none => exact hQ _ _ rfl _ _ _ wall
    | some c =>
      cases c with
      | ret => exact wpIn_ret (hQ _ _ rfl _ _ _ wall)
      | exit i => exact wpIn_exit (hQ _ _ rfl _ _ _ wall)
      | goto i => exact wpIn_goto (hQ _ _ rfl _ _ _ wall)
      | _ => exact absurd rfl h

end Go.AE

namespace Go.AE
variable {K : Kon}

theorem code_ok (hD : DrawOk K) (hm : K.P.follows .mixedOrders = true) {X : Fx} (hX : FxOk K X) {cal : Cal} (hcal : CalOk K cal) : ∀ (n : Nat) (c : Code) (s : St), code X n c cal s ≠ .fail → CodeW K X c s (code X n c cal s) := by
  intro n
  induction n using Nat.strongRecOn with
  | _ n IH =>
  cases n with
  | zero => exact fun c s h => absurd rfl h
  | succ n =>
    have ih := IH n (Nat.lt_succ_self n)
    intro c s h
    cases c with
    | skip => exact fun g a w m rd' Q hrd hS hQ => wpIn_skip (hQ _ _ rfl g a w (.refl _ hS))
    | label l => exact fun g a w m rd' Q hrd hS hQ => wpIn_label (hQ _ _ rfl g a w (.refl _ hS))
    | exit id => exact fun g a w m rd' Q hrd hS hQ => wpIn_exit (hQ _ _ rfl g a w (.refl _ hS))
    | goto l => exact fun g a w m rd' Q hrd hS hQ => wpIn_goto (hQ _ _ rfl g a w (.refl _ hS))
    | ret => exact fun g a w m rd' Q hrd hS hQ => wpIn_ret (hQ _ _ rfl g a w (.refl _ hS))
    | refuse r => exact absurd rfl h
    | region id ops draw =>
      obtain ⟨l, σ, d, t, nn⟩ := s
      cases draw with
      | false =>
        have e : code X (n + 1) (.region id ops false) cal ⟨l, σ, d, t, nn⟩ = seqOps X.toCx ops cal ops.toList ⟨[], σ, d, t, nn⟩ .nrm := rfl
        rw [e] at h ⊢
        obtain ⟨s', h1, h2⟩ := seq_spec hX.all hcal h
        rw [h1]
        intro g a w m rd' Q hrd hS hQ
        exact wpIn_region_list (h2 g a w m rd' Q hrd.none hS.drop fun g' a' w' hw => hQ _ _ rfl g' a' w' ((Went.drop hS).trans hw))
      | true =>
        have e : code X (n + 1) (.region id ops true) cal ⟨l, σ, d, t, nn⟩ = (may (plan ops) fun pl => bumpN ops.size ⟨[], σ, d, t, nn⟩ fun s' => drawOps X.toCx ops cal nn pl 0 [t] s' .nrm) := rfl
        rw [e] at h ⊢
        intro g a w m rd' Q hrd hS hQ
        exact hD X cal id ops ⟨[], σ, d, t, nn⟩ hX hcal hm h g a w m rd' Q hrd hS.drop fun e s' ho g' a' w' hw => hQ e s' ho g' a' w' ((Went.drop hS).trans hw)
    | seq x y =>
      have e : code X (n + 1) (.seq x y) cal s = thenN (code X n x cal s) fun s => code X n y cal s := rfl
      rw [e] at h ⊢
      intro g a w m rd' Q hrd hS hQ
      have hx : code X n x cal s ≠ .fail := fun e => by rw [e] at h; exact h rfl
      refine wpIn_seq ((ih x s hx).then h hrd hS hQ fun s1 h1 g' a' w' hw => ?_)
      have hy : code X n y cal s1 ≠ .fail := fun e => by rw [h1] at h; exact h e
      refine ih y s1 hy g' a' w' m rd' Q (hrd.mono hw.stp.le) hw.sr fun e s' ho g'' a'' w'' hw' => ?_
      exact hQ e s' (by rw [h1]; exact ho) g'' a'' w'' (hw.trans hw')
    | cond c x y =>
      have e : code X (n + 1) (.cond c x y) cal s = opd (opdOf X.M X.g c) s fun v => vIf v (code X n x cal s) (code X n y cal s) := rfl
      rw [e] at h ⊢
      obtain ⟨v, h1, h2⟩ := opd_spec h
      rw [h1] at h ⊢
      obtain ⟨b, rfl, h3⟩ := vIf_ne h
      rw [h3] at h ⊢
      intro g a w m rd' Q hrd hS hQ
      refine wpIn_cond (t := b) (h2 K _ g a w hX.all.ok.g.symm hS) ?_
      cases b with
      | true => exact ih x s h g a w m rd' Q hrd hS hQ
      | false => exact ih y s h g a w m rd' Q hrd hS hQ
    | block id c =>
      have e : code X (n + 1) (.block id c) cal s = Res.rec .fail .nrm .ret (fun j s => Bool.rec (.ex j s) (.nrm s) (Nat.beq j id)) .go (code X n c cal s) := rfl
      rw [e] at h ⊢
      have hc : code X n c cal s ≠ .fail := fun e => by rw [e] at h; exact h rfl
      intro g a w m rd' Q hrd hS hQ
      refine wpIn_block (ih c s hc g a w m rd' _ hrd hS fun e s' ho g' a' w' hw => ?_)
      generalize code X n c cal s = r at *
      cases r with
      | fail => exact absurd rfl hc
      | nrm s1 => simp [outR] at ho; obtain ⟨rfl, rfl⟩ := ho; exact hQ _ _ rfl g' a' w' hw
      | ret s1 => simp [outR] at ho; obtain ⟨rfl, rfl⟩ := ho; exact hQ _ _ rfl g' a' w' hw
      | go l s1 => simp [outR] at ho; obtain ⟨rfl, rfl⟩ := ho; exact hQ _ _ rfl g' a' w' hw
      | ex j s1 =>
        simp [outR] at ho
        obtain ⟨rfl, rfl⟩ := ho
        simp only [Exit.inBlock]
        cases hb : Nat.beq j id with
        | true =>
          have : j = id := Nat.eq_of_beq_eq_true hb
          rw [if_pos this]
          exact hQ _ _ (by simp only [hb, outR]) g' a' w' hw
        | false =>
          have : j ≠ id := fun e => by subst e; simp at hb
          rw [if_neg this]
          exact hQ _ _ (by simp only [hb, outR]) g' a' w' hw
    | loop c =>
      intro g a w m rd' Q hrd hS hQ
      have key : ∀ (k : Nat), k ≤ n + 1 → ∀ s, code X k (.loop c) cal s ≠ .fail → ∀ g a w, RdR g X.rd rd' → SR K X.M X.N g s a w → (∀ e s', outR (code X k (.loop c) cal s) = some (e, s') → ∀ g' a' w', Went K X.M X.N none g s w g' s' a' w' → Q e a' w') →
          Code.roundsIn (Fn' rd') m K.P c Q k a w := by
        intro k
        induction k with
        | zero => exact fun _ s h => absurd rfl h
        | succ k ihk =>
          intro hk s h g a w hrd hS hQ
          have e : code X (k + 1) (.loop c) cal s = thenN (code X k c cal s) fun s => code X k (.loop c) cal s := rfl
          rw [e] at h hQ
          have hx : code X k c cal s ≠ .fail := fun e => by rw [e] at h; exact h rfl
          have hcw : CodeW K X c s (code X k c cal s) := by
            exact IH k (by omega) c s hx
          rw [roundsIn_succ]
          refine hcw.then h hrd hS hQ fun s1 h1 g' a' w' hw => ?_
          refine ihk (by omega) s1 (fun e => by rw [h1] at h; exact h e) g' a' w' (hrd.mono hw.stp.le) hw.sr fun e s' ho g'' a'' w'' hw' => ?_
          exact hQ e s' (by rw [h1]; exact ho) g'' a'' w'' (hw.trans hw')
      exact wpIn_loop_rounds (n + 1) (key (n + 1) (Nat.le_refl _) s h g a w hrd hS hQ)
    | rangeFunc f ps x y => exact rf_ok X (code X n) cal f ps x y s hX hcal (code1 x) (code1 y) h
    | scope c =>
      have e : code X (n + 1) (.scope c) cal s = scp c (code X n) cal 100000 (code X n c cal s) := rfl
      rw [e] at h ⊢
      generalize 100000 = k at h ⊢
      intro g a w m rd' Q hrd hS hQ
      refine wpIn_scope ?_
      have key : ∀ (k : Nat) (d : Code) (s : St), scp c (code X n) cal k (code X n d cal s) ≠ .fail → ∀ g a w, RdR g X.rd rd' → SR K X.M X.N g s a w →
          (∀ e s', outR (scp c (code X n) cal k (code X n d cal s)) = some (e, s') → ∀ g' a' w', Went K X.M X.N none g s w g' s' a' w' → Q e a' w') → Sc (Fn' rd') m K.P c Q d a w := by
        intro k
        induction k with
        | zero => exact fun d s h => absurd rfl h
        | succ k ihk =>
          intro d s h g a w hrd hS hQ
          have e : scp c (code X n) cal (k + 1) (code X n d cal s) = Res.rec .fail .nrm .ret .ex (fun l s => match findLabel c l with | some d => scp c (code X n) cal k (code X n d cal s) | none => .go l s) (code X n d cal s) := rfl
          rw [e] at h hQ
          have hx : code X n d cal s ≠ .fail := fun e => by rw [e] at h; exact h rfl
          refine sc_step (ih d s hx g a w m rd' _ hrd hS fun e s' ho g' a' w' hw => ?_)
          generalize code X n d cal s = r at *
          cases r with
          | fail => exact absurd rfl hx
          | nrm s1 => simp [outR] at ho; obtain ⟨rfl, rfl⟩ := ho; exact hQ _ _ rfl g' a' w' hw
          | ret s1 => simp [outR] at ho; obtain ⟨rfl, rfl⟩ := ho; exact hQ _ _ rfl g' a' w' hw
          | ex j s1 => simp [outR] at ho; obtain ⟨rfl, rfl⟩ := ho; exact hQ _ _ rfl g' a' w' hw
          | go l s1 =>
            simp [outR] at ho
            obtain ⟨rfl, rfl⟩ := ho
            simp only [scPost]
            cases hf : findLabel c l with
            | none =>
              simp only
              exact hQ _ _ (by simp only [hf, outR]) g' a' w' hw
            | some d' =>
              simp only
              simp only [hf] at h hQ
              exact ihk d' s1 h g' a' w' (hrd.mono hw.stp.le) hw.sr fun e s' ho g'' a'' w'' hw' => hQ e s' ho g'' a'' w'' (hw.trans hw')
      exact key k c s h g a w hrd hS hQ

end Go.AE

namespace Go.AE
variable {K : Kon}

/-- what is known of functions -/
def SumOk (K : Kon) (f : FuncId) (k : List V → T Ob → Nat → (V → T Ob → Nat → Res) → Res) : Prop := ∀ vs t n k', k vs t n k' ≠ .fail → ∃ v t' n', k vs t n k' = k' v t' n' ∧ CallOk K t n f vs v t' n'

/-- deferred calls that do nothing where nothing panics -/
def DefOk (K : Kon) : Prop := ∀ f, K.DS f = true → (∀ args w, (callFunc f args).run K.P w = .ok (.enter f args) w) ∧ ∀ m args w, CallsDIn Fence.wide m K.P f args .returning w fun e u' w' => (∃ v, e = .returned v) ∧ settle u' = .returning ∧ w'.heap = w.heap ∧ w'.os = w.os ∧ w'.output = w.output ∧ w'.tape = w.tape

structure KonOk (K : Kon) : Prop where
  mzok : MzOk K
  mixed : K.P.follows .mixedOrders = true
  draw : DrawOk K
  name : ∀ (f : FuncId) (fn : Func), K.P.funcs[f]? = some fn → fn.body.isSome = true → (fn.name == "runtime.NumGoroutine") = false
  defs : DefOk K
  sums : ∀ f k, K.S f = some k → SumOk K f k

theorem fxOf_ok (hK : KonOk K) {f : FuncId} {fn : Func} (hf : K.P.funcs[f]? = some fn) (rd : Option Nat) : FxOk K (fxOf K f fn rd) :=
  ⟨⟨⟨rfl, rfl⟩, rfl, hK.mzok⟩, rfl, fun fn' h => by
    have h : K.P.funcs[f]? = some fn' := h
    rw [hf] at h; cases h; exact Nat.le_refl _⟩

/-- the arguments -/
theorem argsT_spec : ∀ {vs : List V} {i : Nat} {σ : T V} {k : T V → Res}, argsT vs i σ k ≠ .fail → ∃ σ', argsT vs i σ k = k σ' ∧ ∀ j, σ'.get j = if i ≤ j ∧ j < i + vs.length then vs[j - i]? else σ.get j
  | [], i, σ, k, _ => ⟨σ, rfl, fun j => by rw [if_neg (by simp; try omega)]⟩
  | v :: vs, i, σ, k, h => by
    have e : argsT (v :: vs) i σ k = T.set .fail (some v) σ i fun σ => natK (Nat.succ i) fun i => argsT vs i σ k := rfl
    rw [e] at h ⊢
    obtain ⟨σ1, h1, h2⟩ := set_spec h
    rw [h1, natK_eq] at h ⊢
    obtain ⟨σ2, h3, h4⟩ := argsT_spec h
    refine ⟨σ2, h3, fun j => ?_⟩
    rw [h4, h2]
    by_cases hj : j = i
    · subst hj
      rw [if_neg (by omega), if_pos rfl, if_pos (by simp)]
      simp
    · by_cases hj2 : Nat.succ i ≤ j ∧ j < Nat.succ i + vs.length
      · rw [if_pos hj2, if_pos (by simp; omega)]
        obtain ⟨q, rfl⟩ : ∃ q, j = i + 1 + q := ⟨j - (i + 1), by omega⟩
        have e1 : i + 1 + q - Nat.succ i = q := by omega
        have e2 : i + 1 + q - i = q + 1 := by omega
        rw [e1, e2]; rfl
      · rw [if_neg hj2, if_neg hj, if_neg (by simp; omega)]

theorem args_tm {M : Nat} {g : G} {vs : List V} {xs : List Value} {σ : T V} {rest : Array Value} (h : VRs g vs xs) (hs : ∀ j, σ.get j = if 0 ≤ j ∧ j < 0 + vs.length then vs[j - 0]? else (T.e : T V).get j) : TM M g σ ((⟨xs⟩ : Array Value) ++ rest) := by
  intro t v _ hv
  rw [hs] at hv
  split at hv
  · rename_i hlt
    simp at hv
    obtain ⟨x, h1, h2⟩ := h.get hv
    refine ⟨x, ?_, h2⟩
    have : t < xs.length := (List.getElem?_eq_some_iff.1 h1).1
    rw [Array.getElem?_append_left (by simpa using this)]
    simpa using h1
  · cases hv

/-- the deferred calls -/
theorem defs_spec (hK : KonOk K) {fn : Func} {F : Fence} (hF : F = Fence.wide) : ∀ {l : List D} {t : T Ob} {n : Nat} {k : T Ob → Nat → Res}, defs K.g K.DS l t n k ≠ .fail →
    ∃ t', defs K.g K.DS l t n k = k t' n ∧ ∀ m (tmps : Array Value) (R : Ending → World → Prop) g w ds, DR g l ds → Rep K g t w → (∀ w', Rep K g t' w' → Stp K g t w g t' w' → LeavesInM F m K.P fn tmps R [] .returning w') → LeavesInM F m K.P fn tmps R ds .returning w
  | [], t, n, k, _ => ⟨t, rfl, fun m tmps R g w ds hd hr hl => by cases hd; exact hl w hr (.refl _ _ _)⟩
  | .call f vs :: l, t, n, k, h => by
    have e : defs K.g K.DS (.call f vs :: l) t n k = test (K.DS f) (defs K.g K.DS l t n k) := rfl
    rw [e] at h ⊢
    obtain ⟨h1, h2⟩ := test_ne h
    rw [h2] at h ⊢
    obtain ⟨t', h3, h4⟩ := defs_spec hK (fn := fn) hF h
    refine ⟨t', h3, fun m tmps R g w ds hd hr hl => ?_⟩
    obtain ⟨args, cap, r, rfl, hv, hd'⟩ := hd
    obtain ⟨d1, d2⟩ := hK.defs f h1
    refine ⟨by simp, .inr ⟨fun h => by subst hF; simp [Fence.wide] at h, .func f, ⟨cap⟩, f, _, rfl, d1 _ _, fun _ _ => by subst hF; trivial, ?_⟩⟩
    subst hF
    refine (d2 (m - 1) _ w).mono ?_
    rintro e u' w' ⟨⟨v, rfl⟩, hu, q1, q2, q3, q4⟩
    simp only [hu]
    have hr' : Rep K g t w' := ⟨fun i ob hi => let ⟨e, a1, a2⟩ := hr.ob i ob hi; ⟨e, a1, a2.same (.refl g) (by rw [q1])⟩, hr.inj, fun j hj => let ⟨e, y1, y2, y3, y4⟩ := hr.glob j hj; ⟨e, y1, y2, y3, q1 ▸ y4⟩⟩
    have hst : Stp K g t w g t w' := ⟨.refl g, by rw [q1]; exact Nat.le_refl _, fun b _ _ => by rw [q1], fun _ h => .inl h, q2, q3, q4⟩
    exact h4 m tmps R g w' r hd' hr' fun w'' h1 h2 => hl w'' h1 (hst.trans h2)
  | .coll i :: l, t, n, k, h => by
    have e : defs K.g K.DS (.coll i :: l) t n k = test (Nat.ble K.g i) (may (t.get i) fun o => match o with | .dfr false => T.set .fail (some (.dfr true)) t i fun t => defs K.g K.DS l t n k | _ => .fail) := rfl
    rw [e] at h ⊢
    obtain ⟨h1, h2⟩ := test_ne h
    rw [h2] at h ⊢
    obtain ⟨o, h3, h4⟩ := may_ne h
    rw [h4] at h ⊢
    cases o with
    | dfr b =>
      cases b with
      | true => exact absurd rfl h
      | false =>
        simp only at h ⊢
        obtain ⟨t1, h5, h6⟩ := set_spec h
        rw [h5] at h ⊢
        obtain ⟨t', h7, h8⟩ := defs_spec hK (fn := fn) hF h
        refine ⟨t', h7, fun m tmps R g w ds hd hr hl => ?_⟩
        obtain ⟨e, r, rfl, hg, hd'⟩ := hd
        obtain ⟨e', g1, g2⟩ := hr.ob i _ h3
        rw [hg] at g1; cases g1
        have g2 : w.heap[e.b]? = some (.deferred (some [])) := g2
        have hlt : e.b < w.heap.size := (Array.getElem?_eq_some_iff.1 g2).1
        obtain ⟨v1, v2⟩ := hr.turn (w' := w.putObj e.b (.deferred none)) (ob' := .dfr true) h3 hg (Nat.le_of_ble_eq_true h1) h6 World.putObj_size (fun b hb => World.putObj_heap_other hb) ⟨rfl, rfl, rfl⟩ (World.putObj_heap_same hlt)
        refine ⟨by simp, .inl ⟨e.b, _, rfl, run_takeDeferred g2, ?_⟩⟩
        exact h8 m tmps R g _ r hd' v1 fun w'' q1 q2 => hl w'' q1 (v2.trans q2)
    | _ => exact absurd rfl h

end Go.AE

namespace Go.AE
variable {K : Kon} {X : Cx}

theorem ld_agg {cal : Cal} {fr : Option Nat} {s : St} {k : KVS} {t : TypeId} {x : Operand} {n : Nat} (hX : Ok K X) (ha : isAggT X.P t = some true) (hn : sizeT X.P t = some n) (h : iLda n (opdOf X.M X.g x) cal fr s k ≠ .fail) :
    ∃ v, iLda n (opdOf X.M X.g x) cal fr s k = k v s ∧ ∀ g a w, SR K X.M X.N g s a w → ∃ b y, a.eval x = .pointer (some b) ∧ (loadVar t b).run K.P w = .ok y w ∧ VR g v y := by
  unfold iLda at h ⊢
  obtain ⟨v, h1, h2⟩ := opd_spec h
  rw [h1] at h ⊢
  obtain ⟨i, of, rfl, h3⟩ := vPtr_ne h
  rw [h3] at h ⊢
  obtain ⟨c, m, ty, sz, h4, h5⟩ := rowK_ne h
  rw [h5] at h ⊢
  obtain ⟨l, h6, h7, h8⟩ := getK_ne (c := c) (k := fun l => k (.agg l) s) h
  refine ⟨.agg l, h6, fun g a w hS => ?_⟩
  obtain ⟨e, g1, g2⟩ := h2 K _ g a w hX.g.symm hS
  obtain ⟨e', g3, g4⟩ := hS.rep.ob _ _ h4
  rw [g1] at g3; cases g3
  obtain ⟨xs, r1, r2⟩ := load_cells g4 h8
  refine ⟨⟨e.b, e.o + of, none⟩, .agg xs.toArray, g2, ?_, ⟨xs, rfl, r1⟩⟩
  rw [h7] at r2
  rw [hX.P] at ha hn
  unfold loadVar
  rw [bind_ok (r_isAgg ha)]
  simp only [if_true]
  rw [bind_ok (r_size hn), bind_ok r2]
  rfl

theorem ld_cell {cal : Cal} {fr : Option Nat} {s : St} {k : KVS} {t : TypeId} {x : Operand} (hX : Ok K X) (ha : isAggT X.P t = some false) (h : iLdc (opdOf X.M X.g x) cal fr s k ≠ .fail) :
    ∃ v, iLdc (opdOf X.M X.g x) cal fr s k = k v s ∧ ∀ g a w, SR K X.M X.N g s a w → ∃ b y, a.eval x = .pointer (some b) ∧ (loadVar t b).run K.P w = .ok y w ∧ VR g v y := by
  unfold iLdc at h ⊢
  obtain ⟨v, h1, h2⟩ := opd_spec h
  rw [h1] at h ⊢
  obtain ⟨i, of, rfl, h3⟩ := vPtr_ne h
  rw [h3] at h ⊢
  obtain ⟨c, m, ty, sz, h4, h5⟩ := rowK_ne h
  rw [h5] at h ⊢
  obtain ⟨v, h6, h7⟩ := may_ne h
  refine ⟨v, h7, fun g a w hS => ?_⟩
  obtain ⟨e, g1, g2⟩ := h2 K _ g a w hX.g.symm hS
  obtain ⟨e', g3, g4⟩ := hS.rep.ob _ _ h4
  rw [g1] at g3; cases g3
  obtain ⟨cs, ty', q1, q2, q3, q4, q5⟩ := g4
  obtain ⟨y, hy, hv⟩ := q5 of v h6
  refine ⟨⟨e.b, e.o + of, none⟩, y, g2, ?_, hv⟩
  rw [hX.P] at ha
  unfold loadVar
  rw [bind_ok (r_isAgg ha)]
  simp only [Bool.false_eq_true, if_false]
  rw [run_load, cell_of q1, hy]

/-- one result -/
def rdR (tmps : Array Value) : ResultVar → Sem Value
  | .tmp t => pure (tmps.getD t undef)
  | .cell a t => do loadVar t (← asAddr (tmps.getD a undef))

theorem results_eq (fn : Func) (tmps : Array Value) : results fn tmps = (do let vs ← fn.results.mapM (rdR tmps); pure (if h : vs.size = 1 then vs[0] else .tuple vs)) := by
  unfold results
  rfl

theorem resT_spec (hX : Ok K X) : ∀ {l : List ResultVar} {s : St} {k : List V → Res}, resT X l s k ≠ .fail → ∃ vs, resT X l s k = k vs ∧ ∀ g a w, SR K X.M X.N g s a w → ∃ xs, VRs g vs xs ∧ (l.mapM (rdR a.tmps)).run K.P w = .ok xs w
  | [], s, k, _ => ⟨[], rfl, fun g a w _ => ⟨[], rfl, rfl⟩⟩
  | .tmp t :: l, s, k, h => by
    have e : resT X (.tmp t :: l) s k = opd (opdOf X.M X.g (.tmp t)) s fun v => resT X l s fun vs => k (v :: vs) := rfl
    rw [e] at h ⊢
    obtain ⟨v, h1, h2⟩ := opd_spec h
    rw [h1] at h ⊢
    obtain ⟨vs, h3, h4⟩ := resT_spec hX h
    refine ⟨v :: vs, h3, fun g a w hS => ?_⟩
    obtain ⟨xs, q1, q2⟩ := h4 g a w hS
    refine ⟨_ :: xs, ⟨_, _, rfl, h2 K _ g a w hX.g.symm hS, q1⟩, ?_⟩
    rw [List.mapM_cons, bind_ok (a := a.tmps.getD t undef) (w' := w) rfl, bind_ok q2]
    rfl
  | .cell b t :: l, s, k, h => by
    have e : resT X (.cell b t :: l) s k = (match isAggT X.P t, sizeT X.P t with
      | .some .true, .some n => iLda n (opdOf X.M X.g (.tmp b)) noCal .none s fun v _ => resT X l s fun vs => k (v :: vs)
      | .some .false, .some _ => iLdc (opdOf X.M X.g (.tmp b)) noCal .none s fun v _ => resT X l s fun vs => k (v :: vs)
      | _, _ => .fail) := rfl
    rw [e] at h ⊢
    have key : ∀ v, (resT X l s fun vs => k (v :: vs)) ≠ .fail → (∀ g a w, SR K X.M X.N g s a w → ∃ b' y, a.eval (.tmp b) = .pointer (some b') ∧ (loadVar t b').run K.P w = .ok y w ∧ VR g v y) →
        ∃ vs, (resT X l s fun vs => k (v :: vs)) = k vs ∧ ∀ g a w, SR K X.M X.N g s a w → ∃ xs, VRs g vs xs ∧ ((ResultVar.cell b t :: l).mapM (rdR a.tmps)).run K.P w = .ok xs w := fun v h hv => by
      obtain ⟨vs, h3, h4⟩ := resT_spec hX h
      refine ⟨v :: vs, h3, fun g a w hS => ?_⟩
      obtain ⟨xs, q1, q2⟩ := h4 g a w hS
      obtain ⟨b', y, e1, e2, e3⟩ := hv g a w hS
      refine ⟨y :: xs, ⟨_, _, rfl, e3, q1⟩, ?_⟩
      have e4 : (rdR a.tmps (.cell b t)).run K.P w = .ok y w := by
        have e1 : a.tmps.getD b undef = .pointer (some b') := e1
        show (do loadVar t (← asAddr (a.tmps.getD b undef)) : Sem Value).run K.P w = _
        rw [e1, bind_ok (a := b') (w' := w) rfl]
        exact e2
      rw [List.mapM_cons, bind_ok e4, bind_ok q2]
      rfl
    split at h
    · rename_i n ha hn
      obtain ⟨v, h1, h2⟩ := ld_agg hX ha hn h
      rw [h1] at h
      have := key v h h2
      simp only [h1]
      exact this
    · rename_i n ha hn
      obtain ⟨v, h1, h2⟩ := ld_cell hX ha h
      rw [h1] at h
      have := key v h h2
      simp only [h1]
      exact this
    · exact absurd rfl h

theorem tupV_vr {g : G} {vs : List V} {xs : List Value} (h : VRs g vs xs) : VR g (tupV vs) (if h : (⟨xs⟩ : Array Value).size = 1 then (⟨xs⟩ : Array Value)[0] else .tuple ⟨xs⟩) := by
  have hl := h.length
  cases vs with
  | nil => cases h; exact ⟨[], rfl, rfl⟩
  | cons v vs =>
    obtain ⟨x, ys, rfl, h1, h2⟩ := h
    cases vs with
    | nil => cases h2; exact h1
    | cons v' vs =>
      obtain ⟨x', zs, rfl, h3, h4⟩ := h2
      rw [dif_neg (by simp)]
      exact ⟨_, rfl, _, _, rfl, h1, _, _, rfl, h3, h4⟩

/-- THE END OF A CALL. -/
theorem endF_spec {X : Fx} (hK : KonOk K) (hX : FxOk K X) {fn : Func} {s : St} {k : V → T Ob → Nat → Res} (h : endF X.toCx K.DS fn.results.toList k s ≠ .fail) : ∃ v t', endF X.toCx K.DS fn.results.toList k s = k v t' s.n ∧
    ∀ g a w m (R : Ending → World → Prop), SR K X.M X.N g s a w → (∀ x w', VR g v x → Rep K g t' w' → Stp K g s.t w g t' w' → R (.returned x) w') → LeavesInM Fence.wide m K.P fn a.tmps R a.defers .returning w := by
  obtain ⟨l, σ, d, t, n⟩ := s
  have e : endF X.toCx K.DS fn.results.toList k ⟨l, σ, d, t, n⟩ = defs X.g K.DS d t n fun t n => resT X.toCx fn.results.toList ⟨[], σ, [], t, n⟩ fun vs => k (tupV vs) t n := rfl
  rw [e, hX.all.ok.g] at h ⊢
  obtain ⟨t', h1, h2⟩ := defs_spec (fn := fn) hK rfl h
  rw [h1] at h ⊢
  obtain ⟨vs, h3, h4⟩ := resT_spec hX.all.ok h
  rw [h3]
  refine ⟨_, t', rfl, fun g a w m R hS hR => ?_⟩
  refine h2 m a.tmps R g w a.defers hS.dfs hS.rep fun w' hr hst => ?_
  obtain ⟨xs, q1, q2⟩ := h4 g { a with defers := [] } w' ⟨hS.size, hS.tm, fun t v _ e => by simp [findL] at e, rfl, hr, hS.nb⟩
  refine ⟨_, ?_, hR _ w' (tupV_vr q1) hr hst⟩
  rw [results_eq, Array.mapM_eq_mapM_toList]
  have e2 : (List.toArray <$> fn.results.toList.mapM (rdR a.tmps)).run K.P w' = .ok ⟨xs⟩ w' := by
    rw [Sem.run_map, q2]; rfl
  rw [bind_ok e2]
  rfl

/-- A CALL: from its text. -/
theorem callF_ok (hK : KonOk K) {cal : Cal} (hcal : CalOk K cal) {f : FuncId} {vs : List V} {t : T Ob} {n : Nat} {k : V → T Ob → Nat → Res} (h : callF K.DS cal (fnOf K f) vs t n k ≠ .fail) :
    ∃ v t' n', callF K.DS cal (fnOf K f) vs t n k = k v t' n' ∧ CallOk K t n f vs v t' n' := by
  unfold fnOf at h ⊢
  cases hs : K.S f with
  | some kk =>
    simp only [hs] at h ⊢
    exact hK.sums f kk hs vs t n k h
  | none =>
    simp only [hs] at h ⊢
    cases hf : K.P.funcs[f]? with
    | none => simp only [hf] at h; exact absurd rfl h
    | some fn =>
      simp only [hf] at h ⊢
      cases hb : fn.body with
      | none => simp only [hb] at h; exact absurd rfl h
      | some c =>
        simp only [hb] at h ⊢
        have hX := fxOf_ok hK hf none
        generalize hx : fxOf K f fn none = X at *
        have e : callF K.DS cal (.some X c fn.results.toList) vs t n k = test (Nat.ble (len' vs) X.N) (argsT vs 0 .e fun σ => Res.rec .fail (endF X.toCx K.DS fn.results.toList k) (endF X.toCx K.DS fn.results.toList k) (fun _ _ => .fail) (fun _ _ => .fail) (code X 100000 c cal ⟨[], σ, [], t, n⟩)) := rfl
        rw [e] at h ⊢
        generalize 100000 = fuel at h ⊢
        obtain ⟨_, t2⟩ := test_ne h
        rw [t2] at h ⊢
        obtain ⟨σ, a1, a2⟩ := argsT_spec h
        rw [a1] at h ⊢
        have hc : code X fuel c cal ⟨[], σ, [], t, n⟩ ≠ .fail := fun e => by rw [e] at h; exact h rfl
        have hW := code_ok hK.draw hK.mixed hX hcal fuel c _ hc
        have fin : ∀ s', (code X fuel c cal ⟨[], σ, [], t, n⟩ = .nrm s' ∨ code X fuel c cal ⟨[], σ, [], t, n⟩ = .ret s') → endF X.toCx K.DS fn.results.toList k s' ≠ .fail →
            ∃ v t' n', endF X.toCx K.DS fn.results.toList k s' = k v t' n' ∧ CallOk K t n f vs v t' n' := fun s' hcs he => by
          obtain ⟨v, t', e1, e2⟩ := endF_spec hK hX he
          rw [e1]
          have hout : ∃ e0, outR (code X fuel c cal ⟨[], σ, [], t, n⟩) = some (e0, s') ∧ (e0 = .normal ∨ e0 = .ret) := by
            rcases hcs with h | h <;> rw [h] <;> exact ⟨_, rfl, by simp⟩
          obtain ⟨e0, ho, he0⟩ := hout
          have hfb : fn.body.isSome = true := by rw [hb]; rfl
          refine ⟨v, t', s'.n, rfl, fun args w => run_enter hf hb (hK.name f fn hf hfb), fun g w xs hr hn hv => (callsIn_wide (n := 0)).1 ?_⟩
          refine callsIn_of_wp_marks hf hb trivial ?_
          have hN : X.N = fn.ntmps := by rw [← hx]; rfl
          have hrd : X.rd = none := by rw [← hx]; rfl
          have hS : SR K X.M X.N g ⟨[], σ, [], t, n⟩ { tmps := (⟨xs⟩ : Array Value) ++ Array.replicate (fn.ntmps - (⟨xs⟩ : Array Value).size) undef, defers := [] } w :=
            ⟨by rw [hN]; simp; omega, args_tm hv a2, fun t v _ e => by simp [findL] at e, rfl, hr, hn⟩
          refine hW g _ w 0 none _ (by rw [hrd]; trivial) hS fun e1 s1 ho1 g' a' w' hw => ?_
          rw [ho] at ho1
          cases ho1
          have := e2 g' a' w' 0 (fun e w' => ∃ x g', e = .returned x ∧ VR g' v x ∧ Stp K g t w g' t' w' ∧ Rep K g' t' w' ∧ New g g' n s'.n ∧ n ≤ s'.n) hw.sr fun x w'' v1 v2 v3 =>
            ⟨x, g', rfl, v1, hw.stp.trans v3, v2, fun i e hi => (hw.new i e hi).imp id fun h => h.elim id id, hw.n⟩
          rcases he0 with rfl | rfl <;> exact this
        generalize code X fuel c cal ⟨[], σ, [], t, n⟩ = r at *
        cases r with
        | fail => exact absurd rfl hc
        | nrm s' => exact fin s' (.inl rfl) h
        | ret s' => exact fin s' (.inr rfl) h
        | ex _ _ => exact absurd rfl h
        | go _ _ => exact absurd rfl h

end Go.AE

namespace Go.AE
variable {K : Kon}

/-- a round's parameters -/
theorem setPs_spec {N : Nat} : ∀ {ps : List Tmp} {σ : T V} {vs : List V} {k : T V → Res}, setPs N ps σ vs k ≠ .fail → ∃ σ', setPs N ps σ vs k = k σ' ∧ ps.length = vs.length ∧
    ∀ (M : Nat) (g : G) (tmps : Array Value) (xs : List Value), N ≤ tmps.size → TM M g σ tmps → VRs g vs xs → (N ≤ ((ps.zip xs).foldl (fun t (p : Tmp × Value) => t.setIfInBounds p.1 p.2) tmps).size ∧ TM M g σ' ((ps.zip xs).foldl (fun t (p : Tmp × Value) => t.setIfInBounds p.1 p.2) tmps))
  | [], σ, vs, k, h => by
    cases vs with
    | nil => exact ⟨σ, rfl, rfl, fun M g tmps xs hN ht hv => ⟨hN, ht⟩⟩
    | cons v vs => exact absurd rfl h
  | p :: ps, σ, vs, k, h => by
    cases vs with
    | nil => exact absurd rfl h
    | cons v vs =>
      have e : setPs N (p :: ps) σ (v :: vs) k = test (Nat.blt p N) (T.set .fail (some v) σ p fun σ => setPs N ps σ vs k) := rfl
      rw [e] at h ⊢
      obtain ⟨h1, h2⟩ := test_ne h
      rw [h2] at h ⊢
      obtain ⟨σ1, h3, h4⟩ := set_spec h
      rw [h3] at h ⊢
      obtain ⟨σ2, h5, h6, h7⟩ := setPs_spec h
      refine ⟨σ2, h5, by simp [h6], fun M g tmps xs hN ht hv => ?_⟩
      obtain ⟨x, ys, rfl, hx, hys⟩ := hv
      have hp : p < N := by simpa [Nat.blt_eq] using h1
      refine h7 M g (tmps.setIfInBounds p x) ys (by simpa using hN) (fun t u hm hu => ?_) hys
      rw [h4] at hu
      rw [Array.getElem?_setIfInBounds]
      by_cases hj : t = p
      · subst hj
        rw [if_pos rfl] at hu; cases hu
        rw [if_pos rfl, if_pos (Nat.lt_of_lt_of_le hp hN)]
        exact ⟨x, rfl, hx⟩
      · rw [if_neg hj] at hu
        rw [if_neg (fun h => hj h.symm)]
        exact ht t u hm hu

theorem endR_spec {l : Nat} {k : V → T Ob → Nat → Res} {j : Option Code} {s : St} (hl : K.g ≤ l) (h : endR l k j s ≠ .fail) : ∃ v t', endR l k j s = k v t' s.n ∧
    ∀ g w el, Rep K g s.t w → g l = some el → ∃ x w', (Instr.endRound el.b j).run K.P w = .ok x w' ∧ VR g v x ∧ Rep K g t' w' ∧ Stp K g s.t w g t' w' := by
  unfold endR at h ⊢
  obtain ⟨o, h1, h2⟩ := may_ne h
  rw [h2] at h ⊢
  obtain ⟨a1, a2, a3, a4, a5, a6, a7, a8, rfl, h3⟩ := loopOb_ne h
  rw [h3] at h ⊢
  obtain ⟨s', q1, q2, q3⟩ := setOb_ne h
  rw [q1, q2.2.2.2]
  refine ⟨_, s'.t, rfl, fun g w el hr hg => ?_⟩
  obtain ⟨e, g1, r, ed, z1, z2, z3, z4, z5, z6, z7, z8, z9, z10⟩ := hr.ob l _ h1
  rw [hg] at g1; cases g1
  have hlt : el.b < w.heap.size := (Array.getElem?_eq_some_iff.1 z1).1
  have hrun := run_endRound (P := K.P) j z1
  obtain ⟨v1, v2⟩ := hr.turn (w' := w.putObj el.b (.loop { r with state := if j.isNone then .ready else .done, pending := j })) h1 hg hl q3 World.putObj_size
    (fun b hb => World.putObj_heap_other hb) ⟨rfl, rfl, rfl⟩ ⟨_, ed, World.putObj_heap_same hlt, by cases j <;> rfl, rfl, z4, z5, z6, z7, z8, z9, z10⟩
  exact ⟨_, _, hrun, by cases j <;> rfl, v1, v2⟩

theorem busyR_spec {l : Nat} {k : St → Res} {s : St} (hl : K.g ≤ l) (h : busyR l s k ≠ .fail) : ∃ s', busyR l s k = k s' ∧
    ∀ M N g a w el, SR K M N g s a w → g l = some el → ∃ w', (Instr.beginRound el.b).run K.P w = .ok () w' ∧ Went K M N none g s w g s' a w' := by
  unfold busyR at h ⊢
  obtain ⟨o, h1, h2⟩ := may_ne h
  rw [h2] at h ⊢
  obtain ⟨a1, a2, a3, a4, a5, a6, a7, a8, rfl, h3⟩ := loopOb_ne h
  rw [h3] at h ⊢
  cases a1 with
  | ready =>
    simp only at h ⊢
    obtain ⟨s', q1, q2, q3⟩ := setOb_ne h
    rw [q1]
    refine ⟨s', rfl, fun M N g a w el hS hg => ?_⟩
    obtain ⟨e, g1, r, ed, z1, z2, z3, z4, z5, z6, z7, z8, z9, z10⟩ := hS.rep.ob l _ h1
    rw [hg] at g1; cases g1
    have hlt : el.b < w.heap.size := (Array.getElem?_eq_some_iff.1 z1).1
    obtain ⟨v1, v2⟩ := hS.rep.turn (w' := w.putObj el.b (.loop { r with state := .busy })) h1 hg hl q3 World.putObj_size
      (fun b hb => World.putObj_heap_other hb) ⟨rfl, rfl, rfl⟩ ⟨_, ed, World.putObj_heap_same hlt, rfl, z3, z4, z5, z6, z7, z8, z9, z10⟩
    refine ⟨_, run_beginRound z1 z2, ?_⟩
    have hn : s'.n = s.n := q2.2.2.2
    exact ⟨hS.step v2 v1 (hn ▸ hS.nb) q2.1 q2.2.1 q2.2.2.1, v2, fun i e hi => .inl hi, Nat.le_of_eq hn.symm⟩
  | _ => exact absurd rfl h

theorem onlyN_ne {r : Res} {k : St → Res} (h : onlyN r k ≠ .fail) : ∃ s, r = .nrm s ∧ onlyN r k = k s := by
  cases r with
  | nrm s => exact ⟨s, rfl, rfl⟩
  | _ => exact absurd rfl h

theorem zip_fold (ps : Array Tmp) (args : List Value) (tmps : Array Value) : (ps.zip ⟨args⟩).foldl (fun tmps (t, a) => tmps.setIfInBounds t a) tmps = (ps.toList.zip args).foldl (fun t (p : Tmp × Value) => t.setIfInBounds p.1 p.2) tmps := by
  rw [← Array.foldl_toList, Array.toList_zip]

/-- A ROUND. -/
theorem roundF_ok (hK : KonOk K) {cal : Cal} (hcal : CalOk K cal) {l : Nat} {vs : List V} {t : T Ob} {n : Nat} {k : V → T Ob → Nat → Res} (h : roundF K cal l vs t n k ≠ .fail) :
    ∃ v t' n', roundF K cal l vs t n k = k v t' n' ∧ RoundOk K t n l vs v t' n' := by
  unfold roundF at h ⊢
  obtain ⟨hl, h2⟩ := test_ne h
  have hl := Nat.le_of_ble_eq_true hl
  rw [h2] at h ⊢
  obtain ⟨o, h3, h4⟩ := may_ne h
  rw [h4] at h ⊢
  obtain ⟨st, pend, f, σ, ps, x, y, dd, rfl, h5⟩ := loopOb_ne h
  rw [h5] at h ⊢
  obtain ⟨fn, hf, h6⟩ := may_ne h
  rw [h6] at h ⊢
  have hX := fxOf_ok hK hf (some l)
  have hM : (fxOf K f fn (some l)).M = K.M f := rfl
  have hN : (fxOf K f fn (some l)).N = fn.ntmps := rfl
  have hrd : (fxOf K f fn (some l)).rd = some l := rfl
  generalize fxOf K f fn (some l) = X at *
  obtain ⟨σ', p1, p2, p3⟩ := setPs_spec h
  rw [p1] at h ⊢
  generalize 100000 = fuel at h ⊢
  obtain ⟨s1, c1, c2⟩ := onlyN_ne h
  rw [c2] at h ⊢
  obtain ⟨s2, b1, b2⟩ := busyR_spec hl h
  rw [b1] at h ⊢
  have hca : code X fuel x cal ⟨[], σ', [], t, n⟩ ≠ .fail := by rw [c1]; simp
  have hWa := code_ok hK.draw hK.mixed hX hcal fuel x _ hca
  have hcb : code X fuel y cal s2 ≠ .fail := fun e => by rw [e] at h; exact h rfl
  have hWb := code_ok hK.draw hK.mixed hX hcal fuel y _ hcb
  have fin : ∀ e0 s3 j, outR (code X fuel y cal s2) = some (e0, s3) → (e0 = .normal ∧ j = none ∨ e0 = .ret ∧ j = some .ret ∨ (∃ i, e0 = .exit i ∧ j = some (.exit i)) ∨ ∃ i, e0 = .goto i ∧ j = some (.goto i)) → endR l k j s3 ≠ .fail →
      ∃ v t' n', endR l k j s3 = k v t' n' ∧ RoundOk K t n l vs v t' n' := fun e0 s3 j ho hj he => by
    obtain ⟨v, t', e1, e2⟩ := endR_spec hl he
    rw [e1]
    refine ⟨v, t', s3.n, rfl, fun g w xs el hr hn hv hg => ?_⟩
    obtain ⟨e, g1, r, ed, z1, z2, z3, z4, z5, z6, z7, z8, z9, z10⟩ := hr.ob l _ h3
    rw [hg] at g1; cases g1
    have hlen : (⟨xs⟩ : Array Value).size = r.params.size := by
      have := hv.length
      rw [← Array.length_toList (xs := r.params), z4, p2, ← this]; rfl
    refine ⟨r.fn, _, r.assign, r.body, run_yield z1 hlen, fun m => ?_⟩
    rw [zip_fold, z4, z5, z6]
    obtain ⟨q1, q2⟩ := p3 (K.M f) g r.tmps xs (z9 fn hf) z10 hv
    have hS : SR K X.M X.N g ⟨[], σ', [], t, n⟩ { tmps := (ps.zip xs).foldl (fun t (p : Tmp × Value) => t.setIfInBounds p.1 p.2) r.tmps, defers := [] } w :=
      ⟨by rw [hN]; exact q1, by rw [hM]; exact q2, fun t v _ e => by simp [findL] at e, rfl, hr, hn⟩
    refine roundIn_of_wpIn (F := Fence.wide) trivial ?_
    refine hWa g _ w m (some el.b) _ (by rw [hrd]; exact ⟨el, hg, rfl⟩) hS fun e1 s1' ho1 g1 a1 w1 hw1 => ?_
    rw [c1] at ho1
    simp [outR] at ho1
    obtain ⟨rfl, rfl⟩ := ho1
    have hg1 : g1 l = some el := hw1.stp.le _ _ hg
    obtain ⟨w2, r1, r2⟩ := b2 X.M X.N g1 a1 w1 el hw1.sr hg1
    refine ⟨w2, r1, ?_⟩
    refine hWb g1 a1 w2 m (some el.b) _ (by rw [hrd]; exact ⟨el, hg1, rfl⟩) r2.sr fun e3 s3' ho3 g3 a3 w3 hw3 => ?_
    rw [ho] at ho3
    cases ho3
    have hall := (hw1.trans r2).trans hw3
    have hg3 : g3 l = some el := hw3.stp.le _ _ hg1
    obtain ⟨x', w4, u1, u2, u3, u4⟩ := e2 g3 w3 el hw3.sr.rep hg3
    have hR : ∃ v' w', (Instr.endRound el.b j).run K.P w3 = .ok v' w' ∧ (∃ x g', Ending.returned v' = .returned x ∧ VR g' v x ∧ Stp K g t w g' t' w' ∧ Rep K g' t' w' ∧ New g g' n s3.n ∧ n ≤ s3.n) :=
      ⟨x', w4, u1, x', g3, rfl, u2, hall.stp.trans u4, u3, fun i e hi => (hall.new i e hi).imp id fun h => h.elim id id, hall.n⟩
    rcases hj with ⟨rfl, rfl⟩ | ⟨rfl, rfl⟩ | ⟨i, rfl, rfl⟩ | ⟨i, rfl, rfl⟩ <;> exact hR
  generalize code X fuel y cal s2 = rr at *
  cases rr with
  | fail => exact absurd rfl hcb
  | nrm s3 => exact fin _ s3 none rfl (.inl ⟨rfl, rfl⟩) h
  | ret s3 => exact fin _ s3 (some .ret) rfl (.inr (.inl ⟨rfl, rfl⟩)) h
  | ex i s3 => exact fin _ s3 (some (.exit i)) rfl (.inr (.inr (.inl ⟨i, rfl, rfl⟩))) h
  | go i s3 => exact fin _ s3 (some (.goto i)) rfl (.inr (.inr (.inr ⟨i, rfl, rfl⟩))) h

/-- THE EVALUATOR IS RIGHT, at every depth. -/
theorem lvl_ok (hK : KonOk K) : ∀ n, CalOk K (lvl K n)
  | 0 => fun _ _ _ _ _ h => absurd rfl h
  | n + 1 => fun x vs t m k h => by
    cases x with
    | inl f =>
      have e : lvl K (n + 1) (.inl f) vs t m k = callF K.DS (lvl K n) (fnOf K f) vs t m k := rfl
      rw [e] at h ⊢
      exact callF_ok hK (lvl_ok hK n) h
    | inr l =>
      have e : lvl K (n + 1) (.inr l) vs t m k = roundF K (lvl K n) l vs t m k := rfl
      rw [e] at h ⊢
      exact roundF_ok hK (lvl_ok hK n) h

end Go.AE

namespace Go.AE
variable {K : Kon} {X : Cx}

theorem OpP.none {o : Oper} : OpP K X o jno.run := fun _ _ _ _ h => absurd rfl h

theorem bin_p {o : Oper} {op : BinOp} {t ty : TypeId} {x y : Operand} (hX : Ok K X) (ho : o.op = .binOp op t x y ty) : OpP K X o (binOf X op t x y).run := by
  have J : ∀ {f : V → V → KV → Res}, Fn2 K f (slowB op t x y) → OpP K X o (jBin f (opdOf X.M X.g x) (opdOf X.M X.g y)).run := fun hf => ov_bin hX ho hf
  have hP := hX.P
  unfold binOf
  dsimp only
  cases op with
  | add => dsimp only; split <;> exact J (by first | exact fn_arith (.inl ⟨rfl, rfl⟩) | exact fn_slow hP)
  | sub => dsimp only; split <;> first | exact J (fn_arith (.inr (.inl ⟨rfl, rfl⟩))) | exact OpP.none
  | mul => dsimp only; split <;> first | exact J (fn_arith (.inr (.inr ⟨rfl, rfl⟩))) | exact OpP.none
  | and => exact J (fn_bit (.inl ⟨rfl, rfl⟩))
  | or => exact J (fn_bit (.inr (.inl ⟨rfl, rfl⟩)))
  | xor => exact J (fn_bit (.inr (.inr ⟨rfl, rfl⟩)))
  | shl => exact J (fn_sh (.inl ⟨rfl, rfl⟩))
  | shr => exact J (fn_sh (.inr ⟨rfl, rfl⟩))
  | eql =>
    dsimp only
    split
    · exact J (fn_cmp hP (fun m n => by first | rfl | exact cmp_eq m n) (by simp))
    · rename_i h; exact J (fn_nil (.inl ⟨rfl, rfl⟩) (hP ▸ h) (.inl ⟨_, rfl, rfl⟩))
    · rename_i h; exact J (fn_nil (.inl ⟨rfl, rfl⟩) (hP ▸ h) (.inr (.inl ⟨_, rfl, rfl⟩)))
    · rename_i h; exact J (fn_nil (.inl ⟨rfl, rfl⟩) (hP ▸ h) (.inr (.inr (.inl ⟨_, _, rfl, rfl⟩))))
    · rename_i h; exact J (fn_nil (.inl ⟨rfl, rfl⟩) (hP ▸ h) (.inr (.inr (.inr ⟨_, _, _, rfl, rfl⟩))))
    · exact J (fn_slow hP)
  | neq =>
    dsimp only
    split
    · exact J (fn_cmp hP (fun m n => by first | rfl | exact cmp_ne m n) (by simp))
    · rename_i h; exact J (fn_nil (.inr ⟨rfl, rfl⟩) (hP ▸ h) (.inl ⟨_, rfl, rfl⟩))
    · rename_i h; exact J (fn_nil (.inr ⟨rfl, rfl⟩) (hP ▸ h) (.inr (.inl ⟨_, rfl, rfl⟩)))
    · rename_i h; exact J (fn_nil (.inr ⟨rfl, rfl⟩) (hP ▸ h) (.inr (.inr (.inl ⟨_, _, rfl, rfl⟩))))
    · rename_i h; exact J (fn_nil (.inr ⟨rfl, rfl⟩) (hP ▸ h) (.inr (.inr (.inr ⟨_, _, _, rfl, rfl⟩))))
    · exact J (fn_slow hP)
  | lss => exact J (fn_cmp hP (fun m n => by first | rfl | (simp only [Op.intCmp]; congr 2; rw [Bool.eq_iff_iff]; simp [Nat.blt_eq])) (by simp))
  | leq => exact J (fn_cmp hP (fun m n => by first | rfl | (simp only [Op.intCmp]; congr 2; rw [Bool.eq_iff_iff]; simp [Nat.blt_eq])) (by simp))
  | gtr => exact J (fn_cmp hP (fun m n => by first | rfl | (simp only [Op.intCmp]; congr 2; rw [Bool.eq_iff_iff]; simp [Nat.blt_eq, Nat.beq_eq])) (by simp))
  | geq => exact J (fn_cmp hP (fun m n => by first | rfl | (simp only [Op.intCmp]; congr 2; rw [Bool.eq_iff_iff]; simp [Nat.blt_eq, Nat.beq_eq])) (by simp))
  | _ => exact J (fn_slow hP)

theorem call_p {o : Oper} {c : Call} (hX : Ok K X) (ho : o.op = .call c) (hl : litC c.callee = true) : OpP K X o (callOf X c o.type).run := by
  have hP := hX.P
  unfold callOf
  dsimp only
  split
  · rename_i f hc; simp [litC, hc] at hl
  · rename_i f hf hc; simp [litC, hc] at hl
  · rename_i hc
    split
    · rename_i t x ht hx
      obtain ⟨y, hy, rfl⟩ : ∃ y, c.args.toList = [y] ∧ opdOf X.M X.g y = x := by
        cases hh : c.args.toList with
        | nil => rw [hh] at hx; simp at hx
        | cons y l =>
          rw [hh] at hx
          cases l with
          | nil => simp at hx; exact ⟨y, rfl, hx⟩
          | cons _ _ => simp at hx
      split
      · rename_i hu; exact (ov_lenS hX ho hc hy ht hu)
      · rename_i hu; exact (ov_len hX ho hc hy ht hu)
      · rename_i hu; exact (ov_lenA hX ho hc hy ht hu)
      · rename_i hu; exact (ov_lenM hX ho hc hy ht hu)
      · exact OpP.none
    · exact OpP.none
  · rename_i hc; simp [litC, hc] at hl
  · rename_i hc; simp [litC, hc] at hl
  · rename_i hc
    exact (ov_fn1 hX ho hc fun _ _ => rfl)
  · rename_i hc
    exact (ov_fn1 hX ho hc fun _ _ => rfl)
  · exact OpP.none

theorem light_ok {o : Oper} (hX : Ok K X) (hl : isLight o = true) : OpP K X o (opOf X o).run := by
  have hP := hX.P
  unfold opOf
  dsimp only
  split
  case h_1 x ho => exact (ov_move hX (.inl ho))
  case h_2 x ho => exact (ov_move hX (.inr ho))
  case h_3 c x y ho => exact (ov_pick hX ho)
  case h_4 t ho => simp [isLight, ho] at hl
  case h_5 t x ho => simp [isLight, ho] at hl
  case h_6 t ps ho =>
    split
    · rename_i fs z hu hz
      split
      · rename_i q hq; exact (ov_build_struct hX ho hu hz hq)
      · exact OpP.none
    · rename_i n' el z hu hz
      split
      · rename_i n hn; exact (ov_build_array hX ho hu hz hn)
      · exact OpP.none
    · exact OpP.none
  case h_7 t len ps ho => simp [isLight, ho] at hl
  case h_8 t x ho =>
    split
    · rename_i n ha hn; exact (ov_load_agg hX ho ha hn)
    · rename_i n ha hn; exact (ov_load_cell hX ho ha)
    · exact OpP.none
  case h_9 t x y ho => simp [isLight, ho] at hl
  case h_10 x ho => exact (ov_nil hX ho)
  case h_11 op t x y ty ho => exact bin_p hX ho
  case h_12 op t x ho => exact (ov_un hX (m := Op.unary op) (fun ρ => by unfold execOp; rw [ho]) (fn_un hP))
  case h_13 s d x ho =>
    split
    · rename_i e k hs hd; exact (ov_un hX (m := convert s d) (fun ρ => by unfold execOp; rw [ho]) (fn_cvI (hP ▸ hs) (hP ▸ hd)))
    · rename_i hs hd; exact (ov_un hX (m := convert s d) (fun ρ => by unfold execOp; rw [ho]) (fn_cvS (hP ▸ hs) (hP ▸ hd)))
    · rename_i b hs hd
      split
      · rename_i hb; exact (ov_str hX ho hs hd hb)
      · exact OpP.none
    · exact OpP.none
  case h_14 t x ho =>
    split
    · exact OpP.none
    · rename_i d hi hu; exact (ov_face hX ho hu (fun ms e => hi ms e))
    · exact OpP.none
  case h_15 f a b ho => exact (ov_mkF hX ho)
  case h_16 t ho => simp [isLight, ho] at hl
  case h_17 t l c ho => simp [isLight, ho] at hl
  case h_18 t x lo hi mx ho =>
    split
    · rename_i hu
      split
      · exact (ov_sliS hX ho hu)
      · exact OpP.none
    · rename_i el hu
      split
      · exact OpP.none
      · rename_i n mx' hi' hs hno; exact (ov_sli hX ho hu hs (mh hno))
      · exact OpP.none
    · rename_i n el hu
      split
      · rename_i m hs; exact (ov_sliA hX ho hu hs)
      · exact OpP.none
    · exact OpP.none
  case h_19 t x f ho =>
    split
    · rename_i fs hu
      split
      · rename_i f hf
        split
        · rename_i n hs; exact (ov_fad hX ho hu hf hs)
        · exact OpP.none
      · exact OpP.none
    · exact OpP.none
  case h_20 t x f ho =>
    split
    · rename_i fs hu
      split
      · rename_i f hf
        split
        · rename_i b n ha hs; exact (ov_fld hX ho hu hf ha hs)
        · exact OpP.none
      · exact OpP.none
    · exact OpP.none
  case h_21 t x ix ho =>
    split
    · rename_i len el hu
      split
      · rename_i n hs; exact (ov_iaA hX ho hu hs)
      · exact OpP.none
    · rename_i el hu
      split
      · rename_i n hs; exact (ov_iaS hX ho hu hs)
      · exact OpP.none
    · exact OpP.none
  case h_22 t x ix ho =>
    split
    · rename_i len el hu
      split
      · rename_i b n ha hs; exact (ov_ixA hX ho hu ha hs)
      · exact OpP.none
    · rename_i hu; exact (ov_ixS hX ho hu)
    · exact OpP.none
  case h_23 t x k ok ho =>
    split
    · rename_i kt el hu
      split
      · rename_i z hk hz; exact (ov_look hX ho hu hk hz)
      · exact OpP.none
    · exact OpP.none
  case h_24 t m k x ho => simp [isLight, ho] at hl
  case h_25 t x ho => simp [isLight, ho] at hl
  case h_26 it ho => simp [isLight, ho] at hl
  case h_27 it ho => exact (ov_ent hX ho)
  case h_28 t i ho => exact (ov_ext hX ho)
  case h_29 c ho => exact call_p hX ho (by simpa [isLight, ho] using hl)
  case h_30 c ho => simp [isLight, ho] at hl
  case h_31 => exact OpP.none

theorem alloc_ok {o : Oper} (hX : Ok K X) (hl : isAlloc o = true) : OpV K X o (opOf X o).run := by
  have hP := hX.P
  unfold opOf
  dsimp only
  split
  case h_1 x ho => simp [isAlloc, ho] at hl
  case h_2 x ho => simp [isAlloc, ho] at hl
  case h_3 c x y ho => simp [isAlloc, ho] at hl
  case h_4 t ho =>
    split
    · rename_i n z hn hz; exact (ov_new hX ho hz)
    · exact OpV.no
  case h_5 t x ho =>
    split
    · exact (ov_box hX ho)
    · exact OpV.no
  case h_6 t ps ho => simp [isAlloc, ho] at hl
  case h_7 t len ps ho =>
    split
    · rename_i el hu
      split
      · rename_i n z hn hz
        split
        · rename_i hb; exact (ov_bsl hX ho hu hn hz hb)
        · exact OpV.no
      · exact OpV.no
    · exact OpV.no
  case h_8 t x ho => simp [isAlloc, ho] at hl
  case h_9 t x y ho => simp [isAlloc, ho] at hl
  case h_10 x ho => simp [isAlloc, ho] at hl
  case h_11 op t x y ty ho => simp [isAlloc, ho] at hl
  case h_12 op t x ho => simp [isAlloc, ho] at hl
  case h_13 s d x ho => simp [isAlloc, ho] at hl
  case h_14 t x ho => simp [isAlloc, ho] at hl
  case h_15 f a b ho => simp [isAlloc, ho] at hl
  case h_16 t ho => exact (ov_mkM ho)
  case h_17 t l c ho =>
    split
    · rename_i el hu
      split
      · rename_i n z i hn hz hi
        split
        · rename_i hb; exact (ov_mkS hX ho hu hn hz hi hb)
        · exact OpV.no
      · exact OpV.no
    · exact OpV.no
  case h_18 t x lo hi mx ho => simp [isAlloc, ho] at hl
  case h_19 t x f ho => simp [isAlloc, ho] at hl
  case h_20 t x f ho => simp [isAlloc, ho] at hl
  case h_21 t x ix ho => simp [isAlloc, ho] at hl
  case h_22 t x ix ho => simp [isAlloc, ho] at hl
  case h_23 t x k ok ho => simp [isAlloc, ho] at hl
  case h_24 t m k x ho => simp [isAlloc, ho] at hl
  case h_25 t x ho => simp [isAlloc, ho] at hl
  case h_26 it ho => simp [isAlloc, ho] at hl
  case h_27 it ho => simp [isAlloc, ho] at hl
  case h_28 t i ho => simp [isAlloc, ho] at hl
  case h_29 c ho => simp [isAlloc, ho] at hl
  case h_30 c ho => simp [isAlloc, ho] at hl
  case h_31 => exact OpV.no

end Go.AE

namespace Go.AE
variable {K : Kon} {X : Cx}

/-- what a frame holds in a temporary -/
noncomputable def env (M : Nat) (s : St) (t : Nat) : Option V := cond (Nat.testBit M t) (findL t s.loc) (s.σ.get t)

theorem opd_env {M g : Nat} {t : Tmp} {s : St} {k : KV} (h : opd (opdOf M g (.tmp t)) s k ≠ .fail) : ∃ v, env M s t = some v ∧ opd (opdOf M g (.tmp t)) s k = k v := by
  unfold env
  cases hm : Nat.testBit M t with
  | true =>
    have e0 : opdOf M g (.tmp t) = .l t := by simp [opdOf, hm]
    rw [e0] at h ⊢
    exact find_spec (t := t) (k := k) (l := s.loc) h
  | false =>
    have e0 : opdOf M g (.tmp t) = .t t := by simp [opdOf, hm]
    rw [e0] at h ⊢
    obtain ⟨v, h1, h2⟩ := may_ne (o := s.σ.get t) (k := k) h
    exact ⟨v, h1, h2⟩

theorem gather_spec {M g : Nat} {s : St} : ∀ {l : List Tmp} {k : List (Nat × V) → Res}, gather M g l s k ≠ .fail → ∃ loc, gather M g l s k = k loc ∧ ∀ t v, findL t loc = some v → t ∈ l ∧ env M s t = some v
  | [], k, _ => ⟨[], rfl, fun t v h => by simp [findL] at h⟩
  | u :: l, k, h => by
    have e : gather M g (u :: l) s k = opd (opdOf M g (.tmp u)) s fun v => gather M g l s fun r => k ((u, v) :: r) := rfl
    rw [e] at h ⊢
    obtain ⟨v, h1, h2⟩ := opd_env h
    rw [h2] at h ⊢
    obtain ⟨loc, h3, h4⟩ := gather_spec h
    refine ⟨(u, v) :: loc, h3, fun t v' hf => ?_⟩
    unfold findL at hf
    by_cases hu : u = t
    · subst hu
      simp only [show Nat.beq u u = true from Nat.beq_refl u, cond] at hf
      cases hf
      exact ⟨by simp, h1⟩
    · have : Nat.beq u t = false := by
        cases hb : Nat.beq u t with
        | false => rfl
        | true => exact absurd (Nat.eq_of_beq_eq_true hb) hu
      simp only [this, cond] at hf
      obtain ⟨q1, q2⟩ := h4 t v' hf
      exact ⟨by simp [q1], q2⟩

theorem put_env {M N : Nat} {dst : Option Tmp} {v : V} {s : St} {k : KS} (h : put (dstOf M N dst) v s k ≠ .fail) :
    ∃ s', put (dstOf M N dst) v s k = k s' ∧ s'.t = s.t ∧ s'.n = s.n ∧ s'.d = s.d ∧ (∀ t, dst = some t → t < N) ∧ ∀ t, env M s' t = if dst = some t then some v else env M s t := by
  cases dst with
  | none => exact ⟨s, rfl, rfl, rfl, rfl, ⟨(fun t h => nomatch h), fun t => by rw [if_neg (by simp)]⟩⟩
  | some t =>
    cases hb : Nat.blt t N with
    | false =>
      have e0 : dstOf M N (some t) = .bad := by simp [dstOf, hb]
      rw [e0] at h; exact absurd rfl h
    | true =>
      have hlt : t < N := by simpa [Nat.blt_eq] using hb
      cases hm : Nat.testBit M t with
      | true =>
        have e0 : dstOf M N (some t) = .l t := by simp [dstOf, hb, hm]
        rw [e0]
        refine ⟨⟨(t, v) :: s.loc, s.σ, s.d, s.t, s.n⟩, rfl, rfl, rfl, rfl, fun u e => by cases e; exact hlt, fun u => ?_⟩
        unfold env
        by_cases e : t = u
        · subst e
          rw [if_pos rfl, hm]
          simp [findL]
        · rw [if_neg (by simpa using e)]
          have : Nat.beq t u = false := by
            cases hb' : Nat.beq t u with
            | false => rfl
            | true => exact absurd (Nat.eq_of_beq_eq_true hb') e
          simp [findL, this]
      | false =>
        have e0 : dstOf M N (some t) = .t t := by simp [dstOf, hb, hm]
        have e : put (Dst.t t) v s k = T.set .fail (some v) s.σ t fun σ => k ⟨s.loc, σ, s.d, s.t, s.n⟩ := rfl
        rw [e0, e] at h ⊢
        obtain ⟨σ', h1, h2⟩ := set_spec h
        refine ⟨⟨s.loc, σ', s.d, s.t, s.n⟩, h1, rfl, rfl, rfl, fun u e => by cases e; exact hlt, fun u => ?_⟩
        unfold env
        by_cases e : t = u
        · subst e
          rw [if_pos rfl, hm]
          simp [h2]
        · rw [if_neg (by simpa using e)]
          simp only [h2]
          rw [if_neg (fun h => e h.symm)]

/-- what `wants` found -/
def WantOk (ops : Array Oper) (M : Nat) (o : Oper) (s : St) (b : Bool) : Prop := match o.guard with
  | none => b = true
  | some (j, w) => ∃ t v, (ops[j]?).bind (·.dst) = some t ∧ env M s t = some v ∧ ∀ (g : G) (tmps : Array Value) x, tmps[t]? = some x → VR g v x → Region.wanted o (yielded ops tmps) = b

theorem wants_env {ops : Array Oper} {o : Oper} {s : St} {y n : Res} (h : wants X ops o s y n ≠ .fail) : ∃ b : Bool, wants X ops o s y n = cond b y n ∧ WantOk ops X.M o s b := by
  unfold wants at h ⊢
  unfold WantOk
  cases hg : o.guard with
  | none => exact ⟨true, rfl, rfl⟩
  | some q =>
    obtain ⟨j, b⟩ := q
    simp only [hg] at h ⊢
    cases hd : (ops[j]?).bind (·.dst) with
    | none => simp only [hd] at h; exact absurd rfl h
    | some t =>
      simp only [hd] at h ⊢
      obtain ⟨v, h1, h2⟩ := opd_env h
      rw [h2] at h ⊢
      have gd : ∀ (tmps : Array Value) x, tmps[t]? = some x → tmps.getD t undef = x := fun tmps x hx => getD_of_getElem? hx
      cases v with
      | bool c =>
        refine ⟨c == b, by cases c <;> cases b <;> rfl, t, _, rfl, h1, fun g tmps x hx hv => ?_⟩
        have hv : tmps.getD t undef = .bool c := by rw [gd tmps x hx]; exact hv
        simp [Region.wanted, hg, yielded_of hd hv]
      | tup l =>
        refine ⟨false, rfl, t, _, rfl, h1, fun g tmps x hx hv => ?_⟩
        obtain ⟨xs, hv, _⟩ := hv
        have hv : tmps.getD t undef = .tuple ⟨xs⟩ := by rw [gd tmps x hx]; exact hv
        simp [Region.wanted, hg, yielded_no hd hv]
      | _ => exact absurd rfl h

mutual
theorem eqV_eq : ∀ {a b : V}, eqV a b = true → a = b
  | .bool a, .bool b, h => by cases a <;> cases b <;> first | rfl | cases h
  | .int j a, .int k b, h => by simp [eqV] at h; rw [h.1, h.2]
  | .str a, .str b, h => by
    simp [eqV] at h
    obtain ⟨⟨a⟩⟩ := a; obtain ⟨⟨b⟩⟩ := b
    simp at h; rw [h]
  | .nilp, .nilp, _ => rfl
  | .ptr i o, .ptr j p, h => by simp [eqV] at h; rw [h.1, h.2]
  | .nilsl, .nilsl, _ => rfl
  | .sl i o l c, .sl j p m d, h => by
    simp [eqV] at h
    obtain ⟨⟨⟨rfl, rfl⟩, rfl⟩, h⟩ := h
    cases c <;> cases d <;> simp at h <;> first | rfl | (subst h; rfl)
  | .fn f a b, .fn g c d, h => by
    simp [eqV] at h
    obtain ⟨⟨rfl, h1⟩, h2⟩ := h
    rw [eqVs_eq h1, eqVs_eq h2]
  | .nilfn, .nilfn, _ => rfl
  | .iface t a, .iface u b, h => by
    simp [eqV] at h
    obtain ⟨rfl, h1⟩ := h
    rw [eqV_eq h1]
  | .nilif, .nilif, _ => rfl
  | .agg a, .agg b, h => by simp [eqV] at h; rw [eqVs_eq h]
  | .tup a, .tup b, h => by simp [eqV] at h; rw [eqVs_eq h]
  | .nilmap, .nilmap, _ => rfl
  | .map a, .map b, h => by simp [eqV] at h; rw [h]
  | .int .., .bool _, h => by simp [eqV] at h
theorem eqVs_eq : ∀ {a b : List V}, eqVs a b = true → a = b
  | [], [], _ => rfl
  | a :: l, b :: m, h => by
    simp [eqVs] at h
    rw [eqV_eq h.1, eqVs_eq h.2]
  | [], _ :: _, h => by simp [eqVs] at h
  | _ :: _, [], h => by simp [eqVs] at h
end

end Go.AE

namespace Go.AE
variable {K : Kon} {X : Cx}

structure Rec where
  x : Pl
  o : Oper
  p : Nat
  s : St
  s' : St
  val : V
  want : Bool
  loc : List (Nat × V)
  ob : Ob

/-- a frame that holds what an operation looks at, over some memory -/
def mst (r : Rec) (d : List D) (m : T Ob) : St := ⟨r.loc, .e, d, m, r.s.n⟩

def LightAt (K : Kon) (X : Cx) (r : Rec) (m : T Ob) : Prop := ∀ g a w, SR K (mini X).M X.N g (mst r [] m) a w → ∃ x, (execOp a.eval r.o).run K.P w = .ok (.value x) w ∧ VR g r.val x

def AllocAt (K : Kon) (X : Cx) (id : Nat) (r : Rec) : Prop := ∃ s1 : St, s1.t.get id = some r.ob ∧ ∀ g a w, SR K (mini X).M X.N g (mst r [] .e) a w → Free K (some id) g r.s.n →
  ∃ g' w' nx x, (execOp a.eval r.o).run K.P w = .ok nx w' ∧ (nx = .value x ∨ (nx = .skip ∧ x = undef)) ∧ VR g' r.val x ∧ Did K (some id) g (mst r [] .e) w g' s1 w'

def HeavyAt (K : Kon) (X : Cx) (id : Nat) (r : Rec) : Prop := r.s.n ≤ r.s'.n ∧ ∀ g a w m rd' (K' : Act → World → Prop) Q, (X.rd = none → rd' = none) → SR K (mini X).M X.N g (mst r r.s.d r.s.t) a w → Free K (some id) g r.s.n →
  (∀ g' a' w' x, SR K (mini X).M X.N g' ⟨r.loc, .e, r.s'.d, r.s'.t, r.s'.n⟩ a' w' → VR g' r.val x → Stp K g r.s.t w g' r.s'.t w' → (∀ i e, g' i = some e → g i = some e ∨ i = id ∨ r.s.n ≤ i ∧ i < r.s'.n) → a'.tmps = a.tmps → K' (a'.put r.o.dst x) w') →
  r.o.wpIn (Fn' rd') m K.P a w K' Q

structure RecOk (K : Kon) (X : Cx) (ops : Array Oper) (base : Nat) (mems : Nat → T Ob) (r : Rec) : Prop where
  op : ops[r.x.i]? = some r.o
  dst : ∀ t, r.o.dst = some t → t < X.N
  want : WantOk ops X.M r.o r.s r.want
  env : ∀ t, env X.M r.s' t = if r.o.dst = some t then some r.val else env X.M r.s t
  no : r.want = false → r.val = und ∧ r.s'.t = r.s.t ∧ r.s'.n = r.s.n ∧ r.s'.d = r.s.d
  loc : r.want = true → ∀ t v, findL t r.loc = some v → t ∈ tmpsOf r.o ∧ AE.env X.M r.s t = some v
  light : r.want = true → kindOf r.o = 0 → r.s'.t = r.s.t ∧ r.s'.n = r.s.n ∧ r.s'.d = r.s.d ∧ ∀ q, r.x.lo ≤ q → q ≤ r.p → LightAt K X r (mems q)
  alloc : r.want = true → kindOf r.o = 1 → r.s'.n = r.s.n ∧ r.s'.d = r.s.d ∧ (∀ j, r.s'.t.get j = if j = base + r.x.i then some r.ob else r.s.t.get j) ∧ AllocAt K X (base + r.x.i) r
  heavy : r.want = true → kindOf r.o = 2 → HeavyAt K X (base + r.x.i) r
  mem : kindOf r.o = 2 → mems (r.p + 1) = r.s'.t

/-- records one behind another -/
def Chain : List Rec → Nat → St → Nat → St → Prop
  | [], p, s, pf, sf => pf = p ∧ sf = s
  | r :: tr, p, s, pf, sf => r.p = p ∧ r.s = s ∧ Chain tr (if kindOf r.o = 2 then p + 1 else p) r.s' pf sf

theorem mini_ok (hX : Ok K X) : Ok K (mini X) := ⟨hX.P, hX.g⟩

theorem kind_light {o : Oper} (h : kindOf o = 0) : isLight o = true := by
  unfold kindOf at h
  cases hl : isLight o with
  | true => rfl
  | false => rw [hl] at h; cases ha : isAlloc o <;> rw [ha] at h <;> cases h

theorem kind_alloc {o : Oper} (h : kindOf o = 1) : isAlloc o = true := by
  unfold kindOf at h
  cases hl : isLight o with
  | true => rw [hl] at h; cases h
  | false =>
    rw [hl] at h
    cases ha : isAlloc o with
    | true => rfl
    | false => rw [ha] at h; cases h

theorem kind_lt (o : Oper) : kindOf o = 0 ∨ kindOf o = 1 ∨ kindOf o = 2 := by
  unfold kindOf
  cases isLight o <;> cases isAlloc o <;> simp

/-- the same at earlier places -/
theorem sameAt_spec (hX : Ok K X) {o : Oper} (hl : isLight o = true) {v : V} {loc : List (Nat × V)} {s : St} {k : Res} : ∀ {n : Nat} {l : List (T Ob)}, sameAt X o v loc s k n l ≠ .fail →
    sameAt X o v loc s k n l = k ∧ ∀ j, j < n → ∃ t, l[j]? = some t ∧ ∀ g a w, SR K (mini X).M X.N g ⟨loc, .e, [], t, s.n⟩ a w → ∃ x, (execOp a.eval o).run K.P w = .ok (.value x) w ∧ VR g v x
  | 0, l, _ => ⟨rfl, fun j hj => by omega⟩
  | n + 1, [], h => absurd rfl h
  | n + 1, t :: l, h => by
    have e : sameAt X o v loc s k (n + 1) (t :: l) = (opOf (mini X) o).run noCal none ⟨loc, .e, [], t, s.n⟩ fun u _ => test (eqV u v) (sameAt X o v loc s k n l) := rfl
    rw [e] at h ⊢
    obtain ⟨u, h1, h2⟩ := light_ok (K := K) (mini_ok hX) hl _ _ _ _ h
    rw [h1] at h ⊢
    obtain ⟨h3, h4⟩ := test_ne h
    rw [h4] at h ⊢
    have := eqV_eq h3
    subst this
    obtain ⟨h5, h6⟩ := sameAt_spec hX hl h
    refine ⟨h5, fun j hj => ?_⟩
    cases j with
    | zero => exact ⟨t, rfl, h2⟩
    | succ j =>
      obtain ⟨t', q1, q2⟩ := h6 j (by omega)
      exact ⟨t', by simpa using q1, q2⟩

theorem lightOp_spec (hX : Ok K X) {o : Oper} (hl : isLight o = true) {p lo : Nat} {snaps : List (T Ob)} {s : St} {k : V → Res} (h : lightOp X o p lo snaps s k ≠ .fail) : ∃ loc v, lightOp X o p lo snaps s k = k v ∧
    (∀ t v, findL t loc = some v → t ∈ tmpsOf o ∧ AE.env X.M s t = some v) ∧ ∀ j, j ≤ p - lo → ∃ t, snaps[j]? = some t ∧ ∀ g a w, SR K (mini X).M X.N g ⟨loc, .e, [], t, s.n⟩ a w → ∃ x, (execOp a.eval o).run K.P w = .ok (.value x) w ∧ VR g v x := by
  unfold lightOp at h ⊢
  obtain ⟨loc, h1, h2⟩ := gather_spec h
  rw [h1] at h ⊢
  cases snaps with
  | nil => exact absurd rfl h
  | cons t ts =>
    have e : runB (opOf (mini X) o) noCal none ⟨loc, .e, [], t, s.n⟩ (fun v _ => sameAt X o v loc s (k v) (Nat.sub p lo) ts) = (opOf (mini X) o).run noCal none ⟨loc, .e, [], t, s.n⟩ (fun v _ => sameAt X o v loc s (k v) (Nat.sub p lo) ts) := rfl
    simp only [e] at h ⊢
    obtain ⟨v, h3, h4⟩ := light_ok (K := K) (mini_ok hX) hl _ _ _ _ h
    rw [h3] at h ⊢
    obtain ⟨h5, h6⟩ := sameAt_spec hX hl h
    refine ⟨loc, v, h5, h2, fun j hj => ?_⟩
    cases j with
    | zero => exact ⟨t, rfl, h4⟩
    | succ j =>
      obtain ⟨t', q1, q2⟩ := h6 j (by show j < p - lo; omega)
      exact ⟨t', by simpa using q1, q2⟩

theorem allocOp_spec (hX : Ok K X) {o : Oper} (ha : isAlloc o = true) {id : Nat} {s : St} {k : V → T Ob → Res} (h : allocOp X o id s k ≠ .fail) : ∃ loc v t ob, allocOp X o id s k = k v t ∧
    (∀ t v, findL t loc = some v → t ∈ tmpsOf o ∧ AE.env X.M s t = some v) ∧ (∀ j, t.get j = if j = id then some ob else s.t.get j) ∧
    ∃ s1 : St, s1.t.get id = some ob ∧ ∀ g a w, SR K (mini X).M X.N g ⟨loc, .e, [], .e, s.n⟩ a w → Free K (some id) g s.n →
      ∃ g' w' nx x, (execOp a.eval o).run K.P w = .ok nx w' ∧ (nx = .value x ∨ (nx = .skip ∧ x = undef)) ∧ VR g' v x ∧ Did K (some id) g ⟨loc, .e, [], .e, s.n⟩ w g' s1 w' := by
  unfold allocOp at h ⊢
  obtain ⟨loc, h1, h2⟩ := gather_spec h
  rw [h1] at h ⊢
  have e : ∀ k, runB (opOf (mini X) o) noCal (some id) ⟨loc, .e, [], .e, s.n⟩ k = (opOf (mini X) o).run noCal (some id) ⟨loc, .e, [], .e, s.n⟩ k := fun _ => rfl
  simp only [e] at h ⊢
  obtain ⟨v, s1, h3, h4, h5⟩ := alloc_ok (K := K) (mini_ok hX) ha _ _ _ _ h
  rw [h3] at h ⊢
  obtain ⟨ob, h6, h7⟩ := may_ne h
  rw [h7] at h ⊢
  obtain ⟨t, h8, h9⟩ := set_spec h
  exact ⟨loc, v, t, ob, h8, h2, h9, s1, h6, h5⟩

theorem heavyOp_spec (hA : All K X) {cal : Cal} (hcal : CalOk K cal) {o : Oper} {id : Nat} {s : St} {k : V → St → Res} (h : heavyOp X o cal id s k ≠ .fail) : ∃ loc v s1, heavyOp X o cal id s k = k v s1 ∧ s1.loc = s.loc ∧ s1.σ = s.σ ∧
    (∀ t v, findL t loc = some v → t ∈ tmpsOf o ∧ AE.env X.M s t = some v) ∧ s.n ≤ s1.n ∧
    ∀ g a w m rd' (K' : Act → World → Prop) Q, (X.rd = none → rd' = none) → SR K (mini X).M X.N g ⟨loc, .e, s.d, s.t, s.n⟩ a w → Free K (some id) g s.n →
  (∀ g' a' w' x, SR K (mini X).M X.N g' ⟨loc, .e, s1.d, s1.t, s1.n⟩ a' w' → VR g' v x → Stp K g s.t w g' s1.t w' → (∀ i e, g' i = some e → g i = some e ∨ i = id ∨ s.n ≤ i ∧ i < s1.n) → a'.tmps = a.tmps → K' (a'.put o.dst x) w') →
  o.wpIn (Fn' rd') m K.P a w K' Q := by
  unfold heavyOp at h ⊢
  obtain ⟨loc, h1, h2⟩ := gather_spec h
  rw [h1] at h ⊢
  have e : ∀ k, runB (opOf (mini X) o) cal (some id) ⟨loc, .e, s.d, s.t, s.n⟩ k = (opOf (mini X) o).run cal (some id) ⟨loc, .e, s.d, s.t, s.n⟩ k := fun _ => rfl
  simp only [e] at h ⊢
  obtain ⟨v, s1, h3, h4, h5, h6⟩ := op_ok (o := o) (mini_ok hA.ok) hA.mz hA.mzok hcal (some id) _ _ h
  rw [h3] at h ⊢
  obtain ⟨h7, h8⟩ := test_ne h
  rw [h8]
  refine ⟨loc, v, ⟨s.loc, s.σ, s1.d, s1.t, s1.n⟩, rfl, rfl, rfl, h2, Nat.le_of_ble_eq_true h7, fun g a w m rd' K' Q hrd hS hf hK => ?_⟩
  refine h6 g a w m rd' K' Q hrd hS hf fun g' a' w' x r1 r2 r3 r4 r5 r6 => ?_
  obtain ⟨l1, σ1, d1, t1, n1⟩ := s1
  simp only at h4 h5
  subst h4 h5
  exact hK g' a' w' x r1 r2 r3 r4 r6

end Go.AE

namespace Go.AE
variable {K : Kon} {X : Cx}

theorem draw_trace (hA : All K X) {cal : Cal} (hcal : CalOk K cal) {ops : Array Oper} {base : Nat} : ∀ {l : List Pl} {p : Nat} {snaps : List (T Ob)} {s : St} {k : KS}, snaps.length = p + 1 → drawOps X ops cal base l p snaps s k ≠ .fail →
    ∃ tr mems pf sf, drawOps X ops cal base l p snaps s k = k sf ∧ tr.map Rec.x = l ∧ Chain tr p s pf sf ∧ (∀ (j : Nat) (m : T Ob), snaps[j]? = some m → mems (p - j) = m) ∧ ∀ r ∈ tr, RecOk K X ops base mems r
  | [], p, snaps, s, k, hs, _ => ⟨[], fun q => (snaps[p - q]?).getD .e, p, s, rfl, rfl, ⟨rfl, rfl⟩, fun j m h => by
      have : j < p + 1 := hs ▸ (List.getElem?_eq_some_iff.1 h).1
      have e : p - (p - j) = j := by omega
      simp only [e, h, Option.getD_some], fun r h => by cases h⟩
  | x :: l, p, snaps, s, k, hs, h => by
    have e : drawOps X ops cal base (x :: l) p snaps s k = stp X ops cal base x (fun p snaps s k => drawOps X ops cal base l p snaps s k) p snaps s k := rfl
    rw [e] at h ⊢
    unfold stp at h ⊢
    cases ho : ops[x.i]? with
    | none => simp only [ho] at h; exact absurd rfl h
    | some o =>
      simp only [ho] at h ⊢
      -- what is behind
      have nh : ∀ (s' : St) (k : KS), kindOf o ≠ 2 → drawOps X ops cal base l p snaps s' k ≠ .fail → ∀ (val : V) (want : Bool) (loc : List (Nat × V)) (ob : Ob),
          (∀ mems, (∀ (j : Nat) (m : T Ob), snaps[j]? = some m → mems (p - j) = m) → RecOk K X ops base mems ⟨x, o, p, s, s', val, want, loc, ob⟩) →
          ∃ tr mems pf sf, drawOps X ops cal base l p snaps s' k = k sf ∧ tr.map Rec.x = x :: l ∧ Chain tr p s pf sf ∧ (∀ (j : Nat) (m : T Ob), snaps[j]? = some m → mems (p - j) = m) ∧ ∀ r ∈ tr, RecOk K X ops base mems r := fun s' k hk h val want loc ob hr => by
        obtain ⟨tr, mems, pf, sf, h1, h2, h3, h4, h5⟩ := draw_trace hA hcal hs h
        refine ⟨⟨x, o, p, s, s', val, want, loc, ob⟩ :: tr, mems, pf, sf, h1, by simp [h2], ⟨rfl, rfl, by rw [if_neg hk]; exact h3⟩, h4, fun r hr' => ?_⟩
        rcases List.mem_cons.1 hr' with rfl | hr'
        · exact hr mems h4
        · exact h5 r hr'
      have hv : ∀ (s' : St) (k : KS), kindOf o = 2 → drawOps X ops cal base l (Nat.succ p) (s'.t :: snaps) s' k ≠ .fail → ∀ (val : V) (want : Bool) (loc : List (Nat × V)) (ob : Ob),
          (∀ mems, mems (p + 1) = s'.t → RecOk K X ops base mems ⟨x, o, p, s, s', val, want, loc, ob⟩) →
          ∃ tr mems pf sf, drawOps X ops cal base l (Nat.succ p) (s'.t :: snaps) s' k = k sf ∧ tr.map Rec.x = x :: l ∧ Chain tr p s pf sf ∧ (∀ (j : Nat) (m : T Ob), snaps[j]? = some m → mems (p - j) = m) ∧ ∀ r ∈ tr, RecOk K X ops base mems r := fun s' k hk h val want loc ob hr => by
        obtain ⟨tr, mems, pf, sf, h1, h2, h3, h4, h5⟩ := draw_trace hA hcal (by simp [hs]) h
        have hm := h4 0 s'.t rfl
        refine ⟨⟨x, o, p, s, s', val, want, loc, ob⟩ :: tr, mems, pf, sf, h1, by simp [h2], ⟨rfl, rfl, by rw [if_pos hk]; exact h3⟩, fun j m hj => ?_, fun r hr' => ?_⟩
        · have := h4 (j + 1) m (by simpa using hj)
          have e : Nat.succ p - (j + 1) = p - j := by omega
          rwa [e] at this
        · rcases List.mem_cons.1 hr' with rfl | hr'
          · exact hr mems hm
          · exact h5 r hr'
      rcases kind_lt o with hk | hk | hk
      · simp only [hk] at h ⊢
        obtain ⟨b, w1, w2⟩ := wants_env h
        rw [w1] at h ⊢
        cases b with
        | true =>
          simp only [cond] at h ⊢
          obtain ⟨loc, v, l1, l2, l3⟩ := lightOp_spec (K := K) hA.ok (kind_light hk) h
          rw [l1] at h ⊢
          obtain ⟨s', p1, p2, p3, p4, p5, p6⟩ := put_env h
          rw [p1] at h ⊢
          refine nh s' k (by rw [hk]; simp) h v true loc (.dfr true) fun mems hm => ⟨ho, p5, w2, p6, fun h => by simp at h, fun _ => l2, fun _ _ => ⟨p2, p3, p4, fun q hq1 hq2 => ?_⟩, fun _ h => by simp [hk] at h, fun _ h => by simp [hk] at h, fun h => by simp [hk] at h⟩
          obtain ⟨t, t1, t2⟩ := l3 (p - q) (by simp only at hq1; omega)
          have := hm _ _ t1
          simp only at hq2
          have e : p - (p - q) = q := by omega
          rw [e] at this
          rw [this]
          exact t2
        | false =>
          simp only [cond] at h ⊢
          obtain ⟨s', p1, p2, p3, p4, p5, p6⟩ := put_env h
          rw [p1] at h ⊢
          exact nh s' k (by rw [hk]; simp) h und false [] (.dfr true) fun mems hm => ⟨ho, p5, w2, p6, fun _ => ⟨rfl, p2, p3, p4⟩, fun h => by simp at h, fun h => by simp at h, fun h => by simp at h, fun h => by simp at h, fun h => by simp [hk] at h⟩
      · simp only [hk] at h ⊢
        obtain ⟨b, w1, w2⟩ := wants_env h
        rw [w1] at h ⊢
        cases b with
        | true =>
          simp only [cond] at h ⊢
          obtain ⟨loc, v, t, ob, l1, l2, l3, l4⟩ := allocOp_spec (K := K) hA.ok (kind_alloc hk) h
          rw [l1] at h ⊢
          obtain ⟨s', p1, p2, p3, p4, p5, p6⟩ := put_env h
          rw [p1] at h ⊢
          refine nh s' k (by rw [hk]; simp) h v true loc ob fun mems hm => ⟨ho, p5, w2, p6, fun h => by simp at h, fun _ => l2, fun _ h => by simp [hk] at h, fun _ _ => ⟨p3, p4, fun j => ?_, l4⟩, fun _ h => by simp [hk] at h, fun h => by simp [hk] at h⟩
          show s'.t.get j = _
          rw [p2]; exact l3 j
        | false =>
          simp only [cond] at h ⊢
          obtain ⟨s', p1, p2, p3, p4, p5, p6⟩ := put_env h
          rw [p1] at h ⊢
          exact nh s' k (by rw [hk]; simp) h und false [] (.dfr true) fun mems hm => ⟨ho, p5, w2, p6, fun _ => ⟨rfl, p2, p3, p4⟩, fun h => by simp at h, fun h => by simp at h, fun h => by simp at h, fun h => by simp at h, fun h => by simp [hk] at h⟩
      · simp only [hk] at h ⊢
        obtain ⟨b, w1, w2⟩ := wants_env h
        rw [w1] at h ⊢
        cases b with
        | true =>
          simp only [cond] at h ⊢
          obtain ⟨loc, v, s1, l1, l2, l3, l4, l5, l6⟩ := heavyOp_spec hA hcal h
          rw [l1] at h ⊢
          obtain ⟨s', p1, p2, p3, p4, p5, p6⟩ := put_env h
          rw [p1] at h ⊢
          refine hv s' k hk h v true loc (.dfr true) fun mems hm => ⟨ho, p5, w2, fun t => ?_, fun h => by simp at h, fun _ => l4, fun _ h => by simp [hk] at h, fun _ h => by simp [hk] at h, fun _ _ => ⟨by rw [p3]; exact l5, ?_⟩, fun _ => hm⟩
          · have : env X.M s1 t = env X.M s t := by unfold env; rw [l2, l3]
            rw [← this]; exact p6 t
          · simp only [p2, p3, p4]
            exact l6
        | false =>
          simp only [cond] at h ⊢
          obtain ⟨s', p1, p2, p3, p4, p5, p6⟩ := put_env h
          rw [p1] at h ⊢
          exact hv s' k hk h und false [] (.dfr true) fun mems hm => ⟨ho, p5, w2, p6, fun _ => ⟨rfl, p2, p3, p4⟩, fun h => by simp at h, fun h => by simp at h, fun h => by simp at h, fun h => by simp at h, fun _ => hm⟩

end Go.AE

namespace Go.AE

theorem mask_spec {acc : List Nat} {o : Oper} {j : Nat} (h : Nat.testBit (mask acc o) j = true) : ∃ e ∈ o.after, Region.binds .any e = true ∧ (e.on = j ∨ Nat.testBit (acc.getD e.on 0) j = true) := by
  unfold mask at h
  have key : ∀ (l : List Edge) (s : Nat), Nat.testBit (l.foldl (fun s e => cond (Region.binds .any e) (Nat.lor (Nat.lor s (2 ^ e.on)) (acc.getD e.on 0)) s) s) j = true →
      Nat.testBit s j = true ∨ ∃ e ∈ l, Region.binds .any e = true ∧ (e.on = j ∨ Nat.testBit (acc.getD e.on 0) j = true) := by
    intro l
    induction l with
    | nil => exact fun s h => .inl h
    | cons e l ih =>
      intro s h
      rcases ih _ h with h' | ⟨e', h1, h2⟩
      · cases hb : Region.binds .any e with
        | false => simp only [hb, cond] at h'; exact .inl h'
        | true =>
          simp only [hb, cond] at h'
          have h' : Nat.testBit ((s ||| 2 ^ e.on) ||| acc.getD e.on 0) j = true := h'
          rw [Nat.testBit_or, Nat.testBit_or, Nat.testBit_two_pow] at h'
          simp only [Bool.or_eq_true, decide_eq_true_eq] at h'
          rcases h' with (h' | h') | h'
          · exact .inl h'
          · exact .inr ⟨e, by simp, hb, .inl h'⟩
          · exact .inr ⟨e, by simp, hb, .inr h'⟩
      · exact .inr ⟨e', by simp [h1], h2⟩
  rcases key _ 0 h with h' | ⟨e, h1, h2⟩
  · simp at h'
  · exact ⟨e, by simpa using h1, h2⟩

/-- a set that is closed under what must come before -/
def Closed (ops : Array Oper) (S : Nat → Prop) : Prop := ∀ i o, ops[i]? = some o → S i → ∀ e ∈ o.after, Region.binds .any e = true → S e.on

theorem befGo_spec {ops : Array Oper} {S : Nat → Prop} (hS : Closed ops S) : ∀ (l : List Oper) (acc : List Nat), ops.toList.drop acc.length = l →
    (∀ i o, i < acc.length → ops[i]? = some o → (∀ e ∈ o.after, Region.binds .any e = true → S e.on) → ∀ j, Nat.testBit (acc.getD i 0) j = true → S j) →
    ∀ i o, ops[i]? = some o → (∀ e ∈ o.after, Region.binds .any e = true → S e.on) → ∀ j, Nat.testBit ((befGo l acc).getD i 0) j = true → S j
  | [], acc, hl, h => fun i o ho he j hj => by
    have hlen : ops.size ≤ acc.length := by
      have := congrArg List.length hl
      simp at this; omega
    have : i < ops.size := (Array.getElem?_eq_some_iff.1 ho).1
    exact h i o (by omega) ho he j hj
  | q :: l, acc, hl, h => fun i o ho he j hj => by
    have hq : ops[acc.length]? = some q := by
      have : (ops.toList.drop acc.length)[0]? = some q := by rw [hl]; rfl
      rw [List.getElem?_drop] at this
      simpa using this
    refine befGo_spec hS l (acc ++ [mask acc q]) ?_ ?_ i o ho he j hj
    · have : (ops.toList.drop acc.length).drop 1 = l := by rw [hl]; rfl
      rw [List.drop_drop] at this
      simpa using this
    · intro i o hi ho he j hj
      by_cases hlt : i < acc.length
      · refine h i o hlt ho he j ?_
        simpa [List.getD_eq_getElem?_getD, List.getElem?_append_left hlt] using hj
      · have : i = acc.length := by simp at hi; omega
        subst this
        rw [hq] at ho; cases ho
        have hj : Nat.testBit (mask acc q) j = true := by simpa [List.getD_eq_getElem?_getD] using hj
        obtain ⟨e, h1, h2, h3⟩ := mask_spec hj
        have hs := he e h1 h2
        rcases h3 with h3 | h3
        · exact h3 ▸ hs
        · by_cases hlt' : e.on < acc.length
          · have hn : e.on < ops.size := by
              have := (Array.getElem?_eq_some_iff.1 hq).1
              omega
            exact h e.on _ hlt' (Array.getElem?_eq_getElem hn) (fun e' h' hb => hS e.on _ (Array.getElem?_eq_getElem hn) hs e' h' hb) j h3
          · have : acc.getD e.on 0 = 0 := by
              rw [List.getD_eq_getElem?_getD, List.getElem?_eq_none (by omega)]; rfl
            rw [this] at h3
            simp at h3

/-- WHAT COMES BEFORE. -/
theorem anc_spec {ops : Array Oper} {S : Nat → Prop} (hS : Closed ops S) {i j : Nat} {o : Oper} (ho : ops[i]? = some o) (he : ∀ e ∈ o.after, Region.binds .any e = true → S e.on) (ha : anc (befGo ops.toList []) i j = true) : S j :=
  befGo_spec hS ops.toList [] rfl (fun i o hi => by simp at hi) i o ho he j ha

end Go.AE

namespace Go.AE
variable {K : Kon} {X : Cx}

def Rec.q (r : Rec) : Pq := ⟨r.x, r.o, r.p⟩

theorem prof_trace {ops : Array Oper} : ∀ {tr : List Rec} {p : Nat} {s : St} {pf : Nat} {sf : St}, Chain tr p s pf sf → (∀ r ∈ tr, ops[r.x.i]? = some r.o) → prof ops (tr.map Rec.x) p = tr.map Rec.q
  | [], _, _, _, _, _, _ => rfl
  | r :: tr, p, s, pf, sf, ⟨h1, h2, h3⟩, ho => by
    have h0 := ho r (by simp)
    have ih := prof_trace h3 (fun r' hr => ho r' (by simp [hr]))
    simp only [List.map_cons, prof, h0]
    refine congr (congrArg List.cons ?_) ?_
    · subst h1; rfl
    · rw [← ih]
      congr 1
      by_cases hk : kindOf r.o = 2
      · rw [if_pos hk, hk]; rfl
      · rw [if_neg hk]
        have : Nat.beq (kindOf r.o) 2 = false := by
          cases hb : Nat.beq (kindOf r.o) 2 with
          | false => rfl
          | true => exact absurd (Nat.eq_of_beq_eq_true hb) hk
        rw [this]; rfl

theorem pw_spec {f : Pq → Pq → Bool} : ∀ {l : List Rec}, pw f (l.map Rec.q) = true → l.Pairwise fun r r' => f r.q r'.q = true
  | [], _ => .nil
  | r :: l, h => by
    simp only [List.map_cons, pw, Bool.and_eq_true] at h
    refine .cons (fun r' hr => ?_) (pw_spec h.2)
    have := h.1
    rw [List.all_eq_true] at this
    exact this _ (List.mem_map_of_mem hr)

/-- WHAT THE PLAN'S CHECK SAYS of the records. -/
structure TrOk (ops : Array Oper) (bs : List Nat) (tr : List Rec) : Prop where
  all : ∀ i, i < ops.size → ∃ r ∈ tr, r.x.i = i
  pair : tr.Pairwise fun r r' => cmpB ops bs r.q r'.q = true
  lo : ∀ r ∈ tr, r.x.lo = 0 ∨ ∃ h ∈ tr, kindOf h.o = 2 ∧ anc bs r.x.i h.x.i = true ∧ r.x.lo = h.p + 1
  dep : depB (tr.map Rec.q) [] = true

theorem trOk {ops : Array Oper} {bs : List Nat} {tr : List Rec} {s : St} {pf : Nat} {sf : St} (hc : Chain tr 0 s pf sf) (ho : ∀ r ∈ tr, ops[r.x.i]? = some r.o) (h : chk ops bs (tr.map Rec.x) = true) : TrOk ops bs tr := by
  unfold chk at h
  simp only [prof_trace hc ho, Bool.and_eq_true] at h
  obtain ⟨⟨⟨h1, h2⟩, h3⟩, h4⟩ := h
  refine ⟨fun i hi => ?_, pw_spec h2, fun r hr => ?_, h4⟩
  · rw [List.all_eq_true] at h1
    have := h1 i (by simpa using hi)
    rw [List.any_eq_true] at this
    obtain ⟨q, hq, he⟩ := this
    obtain ⟨r, hr, rfl⟩ := List.mem_map.1 hq
    exact ⟨r, hr, Nat.eq_of_beq_eq_true he⟩
  · rw [List.all_eq_true] at h3
    have := h3 _ (List.mem_map_of_mem hr)
    unfold loB at this
    simp only [Bool.or_eq_true, List.any_eq_true, Bool.and_eq_true] at this
    rcases this with h | ⟨q, hq, ⟨h4, h5⟩, h6⟩
    · exact .inl (Nat.eq_of_beq_eq_true h)
    · obtain ⟨r', hr', rfl⟩ := List.mem_map.1 hq
      exact .inr ⟨r', hr', Nat.eq_of_beq_eq_true h4, h5, Nat.eq_of_beq_eq_true h6⟩

theorem memB_iff {t : Nat} : ∀ {l : List Nat}, memB t l = true ↔ t ∈ l
  | [] => by simp [memB]
  | u :: l => by
    unfold memB
    cases hb : Nat.beq u t with
    | true =>
      have := Nat.eq_of_beq_eq_true hb
      subst this; simp
    | false =>
      have : t ≠ u := fun e => by subst e; simp at hb
      simp [cond, memB_iff, this]

/-- where not all are listed, the first that is not may come -/
theorem dep_spec {L : Nat → Prop} : ∀ {tr : List Rec} {seen : List Nat}, depB (tr.map Rec.q) seen = true → (∀ i ∈ seen, L i) → (∀ r ∈ tr, L r.x.i) ∨ ∃ r ∈ tr, ¬ L r.x.i ∧ ∀ e ∈ r.o.after, Region.binds .any e = true → L e.on
  | [], _, _, _ => .inl fun r hr => by cases hr
  | r :: tr, seen, h, hs => by
    simp only [List.map_cons, depB, Bool.and_eq_true] at h
    obtain ⟨h1, h2⟩ := h
    by_cases hL : L r.x.i
    · rcases dep_spec (L := L) h2 (fun i hi => by
        rcases List.mem_cons.1 hi with rfl | hi
        · exact hL
        · exact hs i hi) with h3 | ⟨r', h3, h4⟩
      · refine .inl fun r' hr' => ?_
        rcases List.mem_cons.1 hr' with rfl | hr'
        · exact hL
        · exact h3 r' hr'
      · exact .inr ⟨r', by simp [h3], h4⟩
    · refine .inr ⟨r, by simp, hL, fun e he hb => ?_⟩
      rw [List.all_eq_true] at h1
      have := h1 e (Array.mem_toList_iff.2 he)
      rw [hb] at this
      exact hs _ (memB_iff.1 this)

/-- two records, the first ahead of the second -/
structure Cmp (ops : Array Oper) (bs : List Nat) (r r' : Rec) : Prop where
  ne : r.x.i ≠ r'.x.i
  no : anc bs r.x.i r'.x.i = false
  heavy : kindOf r'.o = 2 → anc bs r'.x.i r.x.i = true
  wr : ∀ t, r'.o.dst = some t → t ∈ looksOf ops r.o → anc bs r'.x.i r.x.i = true
  dd : ∀ t, r'.o.dst = some t → r.o.dst ≠ some t
  rd : ∀ t, r.o.dst = some t → t ∈ looksOf ops r'.o → anc bs r'.x.i r.x.i = true

theorem cmp_spec {ops : Array Oper} {bs : List Nat} {r r' : Rec} (h : cmpB ops bs r.q r'.q = true) : Cmp ops bs r r' := by
  unfold cmpB at h
  simp only [Bool.and_eq_true, Bool.not_eq_true'] at h
  obtain ⟨⟨⟨⟨h1, h2⟩, h3⟩, h4⟩, h5⟩ := h
  have h1 : Nat.beq r.x.i r'.x.i = false := h1
  refine ⟨fun e => ?_, h2, fun hk => ?_, fun t ht hl => ?_, fun t ht hr => ?_, fun t ht hl => ?_⟩
  · rw [e] at h1; simp at h1
  · have : Nat.beq (kindOf r'.q.o) 2 = true := by show Nat.beq (kindOf r'.o) 2 = true; rw [hk]; rfl
    rw [this] at h3; exact h3
  · have e : r'.q.o.dst = some t := ht
    simp only [e, Bool.and_eq_true] at h4
    have := memB_iff.2 hl
    have h6 := h4.1
    rw [show r.q.o = r.o from rfl, this] at h6
    exact h6
  · have e : r'.q.o.dst = some t := ht
    have e' : r.q.o.dst = some t := hr
    simp [e, e'] at h4
  · have e : r.q.o.dst = some t := ht
    simp only [e] at h5
    rw [show r'.q.o = r'.o from rfl, memB_iff.2 hl] at h5
    exact h5

end Go.AE

namespace Go.AE
variable {K : Kon} {X : Cx}

theorem chain_split : ∀ {pre : List Rec} {r : Rec} {suf : List Rec} {p : Nat} {s : St} {pf : Nat} {sf : St}, Chain (pre ++ r :: suf) p s pf sf → Chain pre p s r.p r.s ∧ Chain (r :: suf) r.p r.s pf sf
  | [], r, suf, p, s, pf, sf, ⟨h1, h2, h3⟩ => ⟨⟨h1, h2⟩, rfl, rfl, by rw [h1]; exact h3⟩
  | q :: pre, r, suf, p, s, pf, sf, ⟨h1, h2, h3⟩ => by
    obtain ⟨h4, h5⟩ := chain_split h3
    exact ⟨⟨h1, h2, h4⟩, h5⟩

theorem chain_env {ops : Array Oper} {base : Nat} {mems : Nat → T Ob} : ∀ {tr : List Rec} {p : Nat} {s : St} {pf : Nat} {sf : St}, Chain tr p s pf sf → (∀ r ∈ tr, RecOk K X ops base mems r) → ∀ t v, env X.M sf t = some v →
    (∃ r ∈ tr, r.o.dst = some t ∧ v = r.val) ∨ (env X.M s t = some v ∧ ∀ r ∈ tr, r.o.dst ≠ some t)
  | [], p, s, pf, sf, ⟨_, h2⟩, _, t, v, h => .inr ⟨h2 ▸ h, fun r hr => by cases hr⟩
  | q :: tr, p, s, pf, sf, ⟨h1, h2, h3⟩, hr, t, v, h => by
    rcases chain_env h3 (fun r h => hr r (by simp [h])) t v h with ⟨r, h4, h5⟩ | ⟨h4, h5⟩
    · exact .inl ⟨r, by simp [h4], h5⟩
    · have hq := hr q (by simp)
      rw [hq.env t] at h4
      by_cases hd : q.o.dst = some t
      · rw [if_pos hd] at h4
        cases h4
        exact .inl ⟨q, by simp, hd, rfl⟩
      · rw [if_neg hd, h2] at h4
        refine .inr ⟨h4, fun r hr' => ?_⟩
        rcases List.mem_cons.1 hr' with rfl | hr'
        · exact hd
        · exact h5 r hr'

/-- a row that an operation laid behind heavy number q -/
def Ex (base : Nat) (tr : List Rec) (q j : Nat) (ob : Ob) : Prop := ∃ r ∈ tr, r.p = q ∧ kindOf r.o = 1 ∧ r.want = true ∧ j = base + r.x.i ∧ ob = r.ob

theorem chain_mem {ops : Array Oper} {base : Nat} {mems : Nat → T Ob} {all : List Rec} : ∀ {tr : List Rec} {p : Nat} {s : St} {pf : Nat} {sf : St}, Chain tr p s pf sf → (∀ r ∈ tr, r ∈ all ∧ RecOk K X ops base mems r) →
    (∀ j ob, s.t.get j = some ob → (mems p).get j = some ob ∨ Ex base all p j ob) → ∀ j ob, sf.t.get j = some ob → (mems pf).get j = some ob ∨ Ex base all pf j ob
  | [], p, s, pf, sf, ⟨h1, h2⟩, _, hs, j, ob, h => by subst h1 h2; exact hs j ob h
  | q :: tr, p, s, pf, sf, ⟨h1, h2, h3⟩, hr, hs, j, ob, h => by
    obtain ⟨hin, hq⟩ := hr q (by simp)
    refine chain_mem h3 (fun r h => hr r (by simp [h])) (fun j ob hj => ?_) j ob h
    by_cases hk : kindOf q.o = 2
    · rw [if_pos hk, ← h1, hq.mem hk]
      exact .inl hj
    · rw [if_neg hk]
      have same : q.s'.t = q.s.t → (mems p).get j = some ob ∨ Ex base all p j ob := fun e => by
        rw [e, h2] at hj; exact hs j ob hj
      cases hw : q.want with
      | false => exact same (hq.no hw).2.1
      | true =>
        rcases kind_lt q.o with hk' | hk' | hk'
        · exact same (hq.light hw hk').1
        · have := (hq.alloc hw hk').2.2.1 j
          rw [this] at hj
          by_cases hji : j = base + q.x.i
          · rw [if_pos hji] at hj
            cases hj
            exact .inr ⟨q, hin, h1, hk', hw, hji, rfl⟩
          · rw [if_neg hji, h2] at hj
            exact hs j ob hj
        · exact absurd hk' hk

/-- numbers and deferred calls turn at heavy operations alone -/
theorem chain_nd {ops : Array Oper} {base : Nat} {mems : Nat → T Ob} : ∀ {tr : List Rec} {p : Nat} {s : St} {pf : Nat} {sf : St}, Chain tr p s pf sf → (∀ r ∈ tr, RecOk K X ops base mems r) →
    ∃ (nn : Nat → Nat) (dd : Nat → List D), nn p = s.n ∧ dd p = s.d ∧ nn pf = sf.n ∧ dd pf = sf.d ∧ p ≤ pf ∧ (∀ q, p ≤ q → q < pf → nn q ≤ nn (q + 1)) ∧
      ∀ r ∈ tr, p ≤ r.p ∧ r.p ≤ pf ∧ nn r.p = r.s.n ∧ dd r.p = r.s.d ∧ (kindOf r.o = 2 → r.p < pf ∧ nn (r.p + 1) = r.s'.n ∧ dd (r.p + 1) = r.s'.d)
  | [], p, s, pf, sf, ⟨h1, h2⟩, _ => ⟨fun _ => s.n, fun _ => s.d, rfl, rfl, by rw [h2], by rw [h2], by omega, fun _ _ _ => Nat.le_refl _, fun r hr => by cases hr⟩
  | q :: tr, p, s, pf, sf, ⟨h1, h2, h3⟩, hr => by
    obtain ⟨nn, dd, a1, a2, a3, a4, a5, a6, a7⟩ := chain_nd h3 (fun r h => hr r (by simp [h]))
    have hq := hr q (by simp)
    by_cases hk : kindOf q.o = 2
    · rw [if_pos hk] at a1 a2 a5 a6 a7
      have hle : q.s.n ≤ q.s'.n := by
        cases hw : q.want with
        | false => rw [(hq.no hw).2.2.1]; exact Nat.le_refl _
        | true => exact (hq.heavy hw hk).1
      have e1 : ∀ {α : Type} (f : Nat → α) (x : α) (i : Nat), p + 1 ≤ i → (if i = p then x else f i) = f i := fun f x i hi => if_neg (by omega)
      refine ⟨fun i => if i = p then s.n else nn i, fun i => if i = p then s.d else dd i, if_pos rfl, if_pos rfl, ?_, ?_, by omega, fun i h1' h2' => ?_, fun r hr' => ?_⟩
      · exact (e1 nn s.n pf (by omega)).trans a3
      · exact (e1 dd s.d pf (by omega)).trans a4
      · by_cases hi : i = p
        · subst hi
          simp only [if_true, e1 nn s.n (i + 1) (by omega)]
          rw [a1, ← h2]; exact hle
        · simp only [if_neg hi, e1 nn s.n (i + 1) (by omega)]
          exact a6 i (by omega) h2'
      · rcases List.mem_cons.1 hr' with rfl | hr'
        · refine ⟨by omega, by omega, ?_, ?_, fun _ => ⟨by omega, ?_, ?_⟩⟩
          · simp only [if_pos h1, h2]
          · simp only [if_pos h1, h2]
          · rw [h1]; simp only [e1 nn s.n (p + 1) (by omega)]; exact a1
          · rw [h1]; simp only [e1 dd s.d (p + 1) (by omega)]; exact a2
        · obtain ⟨b1, b2, b3, b4, b5⟩ := a7 r hr'
          refine ⟨by omega, b2, ?_, ?_, fun hk' => ?_⟩
          · simp only [e1 nn s.n r.p b1]; exact b3
          · simp only [e1 dd s.d r.p b1]; exact b4
          · obtain ⟨c1, c2, c3⟩ := b5 hk'
            refine ⟨c1, ?_, ?_⟩
            · simp only [e1 nn s.n (r.p + 1) (by omega)]; exact c2
            · simp only [e1 dd s.d (r.p + 1) (by omega)]; exact c3
    · rw [if_neg hk] at a1 a2 a5 a6 a7
      have hs : q.s'.n = q.s.n ∧ q.s'.d = q.s.d := by
        cases hw : q.want with
        | false => exact (hq.no hw).2.2
        | true =>
          rcases kind_lt q.o with hk' | hk' | hk'
          · exact ⟨(hq.light hw hk').2.1, (hq.light hw hk').2.2.1⟩
          · exact ⟨(hq.alloc hw hk').1, (hq.alloc hw hk').2.1⟩
          · exact absurd hk' hk
      refine ⟨nn, dd, by rw [a1, hs.1, h2], by rw [a2, hs.2, h2], a3, a4, a5, a6, fun r hr' => ?_⟩
      rcases List.mem_cons.1 hr' with rfl | hr'
      · exact ⟨by omega, by omega, by rw [h1, a1, hs.1], by rw [h1, a2, hs.2], fun h => absurd h hk⟩
      · exact a7 r hr'

end Go.AE

namespace Go.AE
variable {K : Kon} {X : Cx}

/-- a row beside a memory: whatever is done to the memory leaves it -/
theorem extra_stays {g g' : G} {t t' : T Ob} {w w' : World} {e : Gh} {ob : Ob} (h : Stp K g t w g' t' w') (ho : ObR K g w e ob) (hn : ¬ Own K g t e.b) : ObR K g' w' e ob ∧ ¬ Own K g' t' e.b := by
  have hlt := ho.lt
  refine ⟨ho.same h.le (h.keep e.b hlt hn), fun hc => ?_⟩
  rcases h.own e.b hc with h' | h'
  · exact hn h'
  · omega

/-- MEMORIES JOINED: a memory, and rows that lie apart from it and from each other -/
theorem Rep.join {g : G} {t t' : T Ob} {w : World} {E : Nat → Ob → Prop} (h : Rep K g t w)
    (hE : ∀ j ob, E j ob → K.g ≤ j ∧ K.g ≤ w.heap.size ∧ ∃ e, g j = some e ∧ ObR K g w e ob ∧ ¬ Own K g t e.b ∧ K.g ≤ e.b)
    (hs : ∀ i j a b e f, E i a → E j b → g i = some e → g j = some f → i ≠ j → e.b ≠ f.b)
    (ht : ∀ j ob, t'.get j = some ob → t.get j = some ob ∨ E j ob) : Rep K g t' w where
  ob j ob hj := by
    rcases ht j ob hj with h1 | h1
    · exact h.ob j ob h1
    · obtain ⟨_, _, e, h2, h3, _⟩ := hE j ob h1
      exact ⟨e, h2, h3⟩
  glob := h.glob
  inj i j a b e f hi hj gi gj hne := by
    have key : ∀ i j a b e f, t.get i = some a → E j b → g i = some e → g j = some f → e.b ≠ f.b := fun i j a b e f hi hj gi gj hb => by
      obtain ⟨_, _, f', h2, _, h4, h5⟩ := hE j b hj
      rw [gj] at h2; cases h2
      by_cases hlt : K.g ≤ i
      · exact h4 ⟨i, a, e, hlt, hi, gi, hb⟩
      · obtain ⟨e', q1, q2, _⟩ := h.glob i (by omega)
        rw [gi] at q1; cases q1
        omega
    rcases ht i a hi with h1 | h1 <;> rcases ht j b hj with h2 | h2
    · exact h.inj i j a b e f h1 h2 gi gj hne
    · exact key i j a b e f h1 h2 gi gj
    · exact fun hb => key j i b a f e h2 h1 gj gi hb.symm
    · exact hs i j a b e f h1 h2 gi gj hne

end Go.AE
