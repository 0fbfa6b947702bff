-- Written by wip/tools/mp.py (the kit's print, run over several laws with some functions given by hand).
import Derived.Test.YtlflfpkjbjbldaaPAx0
import Derived.Test.YtlflfpkjbjbldaaPAx4
namespace Go.Proofs.Ytlflfpkjbjbldaa.PA
open Go.RowKit Go.Proofs.YtlflfpkjbjbldaaW.PrintWords Go.Proofs.YtlflfpkjbjbldaaW.PrintLast Go.Proofs.YtlflfpkjbjbldaaW.PrintMore
attribute [local go_sem] max2_int min2_int max_two min_two max_three min_three max_four min_four   -- for this text's walks alone
set_option linter.unusedVariables false
set_option linter.unusedSimpArgs false

/-! ### regs_giver_load: function 20 (by hand) -/
def atS (s : GS) (v : Nat) : Int := s.at_.getD v 0
def loadS (s : GS) (ins : List Int) (v : Nat) : GS :=
  if ins.length ≤ v then s else if 0 ≤ atS s v then s else
    let s1 := holdS s v
    let s2 := stepS s1 ⟨2, atS s1 v, rd ins v, 0⟩
    { s2 with reads := Go.bits .or .u64 s2.reads (IntKind.u64.wrap (2 ^ (rd ins v).toNat)) }
theorem holdS_regs (s : GS) (v : Nat) (hl : s.taken.length = 256) (h : 0 ≤ s.regs ∧ s.regs ≤ 256) : 0 ≤ (holdS s v).regs ∧ (holdS s v).regs ≤ 256 := by
  have hb := firstF_bound s.taken 0
  have hr : holdR s < 256 := by unfold holdR; omega
  have e : (holdS s v).regs = max s.regs ((holdR s : Int) + 1) := rfl
  omega
theorem stepS_len (s : GS) (x : S38) (h : s.steps.length ≤ 65536) : (stepS s x).steps.length ≤ 65536 := by
  unfold stepS
  split
  · exact h
  · simp; omega
set_option maxRecDepth 100000 in
set_option maxHeartbeats 2000000 in
theorem load_calls {base : Nat} {g ga n : Nat} {vN vO sv : Value} {s : GS} (AI : Option Addr) (cI : Nat) (ins : List Int) (v : Nat) (w : World) (h : GH base w g ga n (.slice AI ins.length cI) vN vO sv s)
    (hI : ∀ w' sv', GK w w' g ga sv sv' → Kd.C (Kd.int .i64) w' AI ins.length ins) (hin : ∀ b ∈ ins, 0 ≤ b ∧ b < 64) (hv : v < n) (hn : n ≤ 4160) (hr : 0 ≤ s.regs ∧ s.regs ≤ 256) (hs : s.steps.length ≤ 65536) :
    Calls Try.prog 20 #[.pointer (some ⟨g, 0, none⟩), .int .i64 (v : Int)] w fun e w' => ∃ sv', e = .returned (.tuple #[]) ∧ GH base w' g ga n (.slice AI ins.length cI) vN vO sv' (loadS s ins v) ∧ GK w w' g ga sv sv' := by
  have hla := h.la
  have hmi := (hI w sv (GK.refl _ _ _ _)).2.1
  have hc0 := h.c 0 _ rfl
  have hc263 := h.c 263 _ (gc_at _ _ _ _ _ _ h.len)
  have hca : w.cell? ⟨ga, v, none⟩ = some (.int .i64 (atS s v)) := cell_enc h.ra v (by omega)
  have hvi : (v : Int) < (n : Int) := by omega
  have HH := Aside0.mk h
  have HI := Aside0.mk hI
  by_cases c1 : ins.length ≤ v
  · have cb : decide ((v : Int) ≥ (ins.length : Int)) = true := decide_eq_true (by omega)
    have hs0 : loadS s ins v = s := by unfold loadS; rw [if_pos c1]
    rw [hs0]
    clear hs0 h hI
    go_enter Try.func20, Try.ntmps20
    go_wp2_with fail
    all_goals refine bodyPost_ret (results_none rfl _ _ _) rfl ?_
    all_goals exact ⟨_, rfl, HH.out, GK.refl _ _ _ _⟩
  have cb : decide ((v : Int) ≥ (ins.length : Int)) = false := decide_eq_false (by omega)
  by_cases c2 : 0 ≤ atS s v
  · have cb2 : decide (atS s v ≥ 0) = true := decide_eq_true c2
    have hs0 : loadS s ins v = s := by unfold loadS; rw [if_neg c1, if_pos c2]
    rw [hs0]
    have hl1 : v < ins.length := by omega
    clear hs0 c1 h hI
    go_enter Try.func20, Try.ntmps20
    go_wp2_with fail
    all_goals refine bodyPost_ret (results_none rfl _ _ _) rfl ?_
    all_goals exact ⟨_, rfl, HH.out, GK.refl _ _ _ _⟩
  have cb2 : decide (atS s v ≥ 0) = false := decide_eq_false (by omega)
  obtain ⟨s1, hs1⟩ : ∃ s1, holdS s v = s1 := ⟨_, rfl⟩
  obtain ⟨b, hb⟩ : ∃ b, rd ins (v : Int) = b := ⟨_, rfl⟩
  have hbm : b ∈ ins := by
    rw [← hb]
    have : rd ins (v : Int) = ins[v] := by simp [rd, (by omega : v < ins.length)]
    rw [this]; exact List.getElem_mem _
  have hb01 := hin b hbm
  have hls : loadS s ins v = { stepS s1 ⟨2, atS s1 v, b, 0⟩ with reads := Go.bits .or .u64 (stepS s1 ⟨2, atS s1 v, b, 0⟩).reads (IntKind.u64.wrap (2 ^ b.toNat)) } := by
    unfold loadS; rw [if_neg c1, if_neg c2, hs1, hb]
  have HLS := Aside0.mk hls
  have HS1 := Aside0.mk hs1
  have hhold := hold_calls (vI := .slice AI ins.length cI) (vN := vN) (vO := vO) v w h hv hn hr
  rw [hs1] at hhold
  have HHO := Aside0.mk hhold
  have hl1 : v < ins.length := by omega
  have hl1i : (v : Int) < (ins.length : Int) := by omega
  have hs1l : s1.steps.length ≤ 65536 := by rw [← hs1]; exact hs
  have HB := Aside0.mk hb
  clear hls hs1 hhold h hI c1 c2 hb hbm hin
  go_enter Try.func20, Try.ntmps20
  go_wp2_with (go_at_call 33; refine HHO.out.mono ?_; rintro e w1 ⟨rfl, hh1, hk1⟩; have HH1 := Aside0.mk hh1; have HK1 := Aside0.mk hk1; have HC1 := Aside0.mk (HI.out w1 sv hk1); have hd0 := hh1.c 0 _ rfl; have hd263 := hh1.c 263 _ (gc_at _ _ _ _ _ _ hh1.len); have hda : w1.cell? ⟨ga, v, none⟩ = some (.int .i64 (atS s1 v)) := cell_enc hh1.ra v (by have h_ := hh1.la; omega); obtain ⟨adI, eI, hxI⟩ := Kd.at_int (HI.out w1 sv hk1) (v : Int) (by omega) (by omega); cases eI; rw [HB.out] at hxI; simp only [Int.toNat_natCast] at hxI; clear hh1 hk1 hc0 hc263 hca)
  refine (step_calls ⟨2, atS s1 v, b, 0⟩ w1 HH1.out hs1l).mono ?_
  rintro e w2 ⟨sv2, rfl, hh2, hk2⟩
  generalize stepS s1 ⟨2, atS s1 v, b, 0⟩ = s2 at hh2 HLS
  have HH2 := Aside0.mk hh2
  have HK2 := Aside0.mk (HK1.out.trans hk2)
  have hd6 := hh2.c 6 _ rfl
  have hf6 := hh2.fz 6
  clear hh2 hk2 hd0 hd263 hda hxI
  go_wp2_with fail
  go_region
  go_end0
  rw [HLS.out]
  exact ⟨sv2, rfl, (HH2.out.set 6 _ _ (gc_set6 _ _ _ _ _ _ (Go.bits .or .u64 s2.reads (IntKind.u64.wrap (2 ^ b.toNat)))) HH2.out.len rfl rfl).drew, (HK2.out.setG 6 _).drew⟩

/-! ### regs_giver_node: function 19 (by hand) -/
def doneS (s : GS) (us : List Int) (i own : Int) (v : Nat) : GS :=
  if us.getD v 0 = i then { s with taken := s.taken.set (atS s v).toNat false } else if (v : Int) = own then (if us.getD v 0 < 0 then { s with taken := s.taken.set (atS s v).toNat false } else s) else s
set_option maxRecDepth 100000 in
set_option maxHeartbeats 2000000 in
theorem done_calls {base : Nat} {g ga n : Nat} {vI vN vO sv : Value} {s : GS} (us : List Int) (i own : Int) (bu bi bo bg gu : Nat) (v : Nat) (w : World) (h : GH base w g ga n vI vN vO sv s)
    (hu : w.heap[bu]? = some (.cells #[.slice (some ⟨gu, 0, none⟩) n n] 22 (0, 0))) (hur : w.heap[gu]? = some (.cells (encI us) 3 (0, 0))) (hus : us.length = n) (hi : w.heap[bi]? = some (.cells #[.int .i64 i] 3 (0, 0))) (ho : w.heap[bo]? = some (.cells #[.int .i64 own] 3 (0, 0)))
    (hg : w.heap[bg]? = some (.cells #[.pointer (some ⟨g, 0, none⟩)] 52 (0, 0))) (hv : v < n) (hat : 0 ≤ atS s v ∧ atS s v < 256) :
    Calls Try.prog 34 #[.int .i64 (v : Int), .pointer (some ⟨bu, 0, none⟩), .pointer (some ⟨bi, 0, none⟩), .pointer (some ⟨bo, 0, none⟩), .pointer (some ⟨bg, 0, none⟩)] w fun e w' => e = .returned (.tuple #[]) ∧ GH base w' g ga n vI vN vO sv (doneS s us i own v) ∧ GK w w' g ga sv sv := by
  have hla := h.la
  have c1 : w.cell? ⟨bu, 0, none⟩ = some (.slice (some ⟨gu, 0, none⟩) n n) := (blk_cell hu 0).trans rfl
  have c2 : w.cell? ⟨bi, 0, none⟩ = some (.int .i64 i) := (blk_cell hi 0).trans rfl
  have c3 : w.cell? ⟨bo, 0, none⟩ = some (.int .i64 own) := (blk_cell ho 0).trans rfl
  have c4 : w.cell? ⟨bg, 0, none⟩ = some (.pointer (some ⟨g, 0, none⟩)) := (blk_cell hg 0).trans rfl
  have c5 : w.cell? ⟨gu, v, none⟩ = some (.int .i64 (us.getD v 0)) := cell_enc hur v (by omega)
  have c6 := h.c 263 _ (gc_at _ _ _ _ _ _ h.len)
  have c7 : w.cell? ⟨ga, v, none⟩ = some (.int .i64 (atS s v)) := cell_enc h.ra v (by omega)
  obtain ⟨r, hr⟩ : ∃ r : Nat, atS s v = (r : Int) := ⟨(atS s v).toNat, by omega⟩
  have hr2 : r < 256 := by omega
  have c8 := h.c (7 + r) _ (gc_taken _ _ _ _ _ _ h.len r hr2)
  have f8 := h.fz (7 + r)
  have hvi : (v : Int) < (n : Int) := by omega
  have hri : (r : Int) < 256 := by omega
  have HH := Aside0.mk h
  have hd : doneS s us i own v = if us.getD v 0 = i then { s with taken := s.taken.set r false } else if (v : Int) = own then (if us.getD v 0 < 0 then { s with taken := s.taken.set r false } else s) else s := by
    unfold doneS; rw [hr, Int.toNat_natCast]
  rw [hr] at c7
  generalize us.getD v 0 = u at c5 hd
  have hu54 := Try.underlying54
  have fin : Aside0 (∀ q, GH base (((w.drewN q).setCell ⟨g, 7 + r, none⟩ (.bool false))) g ga n vI vN vO sv { s with taken := s.taken.set r false }) := ⟨fun q => (HH.out.drewN q).set (7 + r) _ _ (gc_setT _ _ _ _ _ _ HH.out.len r hr2 false) (by show (List.set _ _ _).length = 256; rw [List.length_set]; exact HH.out.len) rfl rfl⟩
  have HK := Aside0.mk (GK.refl w g ga sv)
  clear hu hur hi ho hg h hat hr
  by_cases e1 : u = i
  · have hd1 := Aside0.mk (hd.trans (if_pos e1))
    have b1 : (u == i) = true := beq_iff_eq.2 e1
    clear hd e1
    go_enter Try.func34, Try.ntmps34
    go_wp2_with fail
    go_quiet (fail)
    go_wp2_with fail
    go_region
    go_end0
    rw [hd1.out]
    exact ⟨rfl, fin.out _, (HK.out.drewN _).setG _ _⟩
  have b1 : (u == i) = false := beq_eq_false_iff_ne.2 e1
  rw [if_neg e1] at hd
  clear e1
  by_cases e2 : (v : Int) = own
  · have b2 : ((v : Int) == own) = true := beq_iff_eq.2 e2
    rw [if_pos e2] at hd
    clear e2
    by_cases e3 : u < 0
    · have hd1 := Aside0.mk (hd.trans (if_pos e3))
      have b3 : decide (u < 0) = true := decide_eq_true e3
      clear hd e3
      go_enter Try.func34, Try.ntmps34
      go_wp2_with fail
      go_quiet (fail)
      go_wp2_with fail
      go_region
      go_end0
      rw [hd1.out]
      exact ⟨rfl, fin.out _, (HK.out.drewN _).setG _ _⟩
    · have hd1 := Aside0.mk (hd.trans (if_neg e3))
      have b3 : decide (u < 0) = false := decide_eq_false e3
      clear hd e3
      go_enter Try.func34, Try.ntmps34
      go_wp2_with fail
      go_quiet (fail)
      go_wp2_with fail
      go_end0
      rw [hd1.out]
      exact ⟨rfl, HH.out.drewN _, HK.out.drewN _⟩
  · have b2 : ((v : Int) == own) = false := beq_eq_false_iff_ne.2 e2
    have hd1 := Aside0.mk (hd.trans (if_neg e2))
    clear hd e2
    go_enter Try.func34, Try.ntmps34
    go_wp2_with fail
    go_quiet (fail)
    go_wp2_with fail
    go_end0
    rw [hd1.out]
    exact ⟨rfl, HH.out.drewN _, HK.out.drewN _⟩
/-- The loads ahead of a node. -/
def loadsN (ins : List Int) : List S62 → GS → GS
  | [], s => s
  | t :: r, s => loadsN ins r (loadS s ins t.f0.toNat)
def macsN (own : Nat) : List S62 → GS → GS
  | [], s => s
  | t :: r, s => macsN own r (stepS s ⟨3, atS s own, atS s t.f0.toNat, t.f1⟩)
def donesN (us : List Int) (i own : Int) : List S62 → GS → GS
  | [], s => s
  | t :: r, s => donesN us i own r (doneS s us i own t.f0.toNat)
def nodeS (ins us : List Int) (i : Nat) (ts : List S62) (s : GS) : GS :=
  let own := ins.length + i
  let s1 := holdS (loadsN ins ts s) own
  let s2 := stepS s1 ⟨1, atS s1 own, 0, 0⟩
  let s3 := macsN own ts s2
  doneS (donesN us i own ts s3) us i own own
theorem GK.heap {w w' : World} {g ga : Nat} {sv sv' : Value} (h : GK w w' g ga sv sv') {k : Nat} {o : Obj} (hk : w.heap[k]? = some o) (h1 : k ≠ g) (h2 : k ≠ ga) (h3 : some k ≠ sv.ownBlock) : w'.heap[k]? = some o := (h.block k (blk_lt hk) h1 h2 h3).trans hk
/-- What a node's walk asks of the giver's numbers: the values from nin to own are held. -/
structure GI (s : GS) (nin own : Nat) : Prop where
  hi : ∀ v, atS s v < 256
  lo : ∀ v, nin ≤ v → v < own → 0 ≤ atS s v
  regs : 0 ≤ s.regs ∧ s.regs ≤ 256
  steps : s.steps.length ≤ 65536
theorem atS_hold (s : GS) (v u : Nat) (hv : v < s.at_.length) : atS (holdS s v) u = if u = v then (holdR s : Int) else atS s u := by
  unfold atS holdS
  simp only [List.getD_eq_getElem?_getD, List.getElem?_set]
  by_cases h : v = u
  · subst h; simp [hv]
  · rw [if_neg h, if_neg (fun e => h e.symm)]
theorem holdR_lt (s : GS) (hl : s.taken.length = 256) : holdR s < 256 := by
  have hb := firstF_bound s.taken 0
  unfold holdR; omega
theorem atS_step (s : GS) (x : S38) (u : Nat) : atS (stepS s x) u = atS s u := by unfold stepS atS; split <;> rfl
theorem at_step (s : GS) (x : S38) : (stepS s x).at_ = s.at_ := by unfold stepS; split <;> rfl
theorem taken_step (s : GS) (x : S38) : (stepS s x).taken = s.taken := by unfold stepS; split <;> rfl
theorem regs_step (s : GS) (x : S38) : (stepS s x).regs = s.regs := by unfold stepS; split <;> rfl
theorem GI.hold {s : GS} {nin own : Nat} (h : GI s nin own) (hl : s.taken.length = 256) (v : Nat) (hv : v < s.at_.length) : GI (holdS s v) nin own := by
  have hr := holdR_lt s hl
  refine ⟨fun u => ?_, fun u h1 h2 => ?_, holdS_regs s v hl h.regs, h.steps⟩
  · rw [atS_hold s v u hv]; split
    · omega
    · exact h.hi u
  · rw [atS_hold s v u hv]; split
    · omega
    · exact h.lo u h1 h2
theorem GI.step {s : GS} {nin own : Nat} (h : GI s nin own) (x : S38) : GI (stepS s x) nin own :=
  ⟨fun u => by rw [atS_step]; exact h.hi u, fun u h1 h2 => by rw [atS_step]; exact h.lo u h1 h2, by rw [regs_step]; exact h.regs, stepS_len s x h.steps⟩
theorem GI.reads {s : GS} {nin own : Nat} (h : GI s nin own) (r : Int) : GI { s with reads := r } nin own := ⟨h.hi, h.lo, h.regs, h.steps⟩
theorem GI.load {s : GS} {nin own : Nat} (h : GI s nin own) (hl : s.taken.length = 256) (ins : List Int) (v : Nat) (hv : v < s.at_.length) : GI (loadS s ins v) nin own := by
  unfold loadS
  split
  · exact h
  split
  · exact h
  exact ((h.hold hl v hv).step _).reads _
theorem load_mono (s : GS) (ins : List Int) (v u : Nat) (hv : v < s.at_.length) (h : 0 ≤ atS s u) : 0 ≤ atS (loadS s ins v) u := by
  unfold loadS
  split
  · exact h
  split
  · exact h
  show 0 ≤ atS (stepS (holdS s v) _) u
  rw [atS_step, atS_hold s v u hv]
  split
  · omega
  · exact h
theorem load_here (s : GS) (ins : List Int) (v : Nat) (hv : v < s.at_.length) (h : ins.length ≤ v → 0 ≤ atS s v) : 0 ≤ atS (loadS s ins v) v := by
  unfold loadS
  split
  · rename_i h1; exact h h1
  split
  · rename_i h1; exact h1
  show 0 ≤ atS (stepS (holdS s v) _) v
  rw [atS_step, atS_hold s v v hv, if_pos rfl]
  omega
theorem at_load (s : GS) (ins : List Int) (v : Nat) : (loadS s ins v).at_.length = s.at_.length := by
  unfold loadS
  split
  · rfl
  split
  · rfl
  show (stepS (holdS s v) _).at_.length = _
  rw [at_step]; unfold holdS; simp
/-- The blocks that the giver's methods leave. -/
def GF (g ga : Nat) (sv : Value) (k : Nat) : Prop := k ≠ g ∧ k ≠ ga ∧ some k ≠ sv.ownBlock
theorem GK.F {α : Type} {d : Kd α} {W w' : World} {g ga : Nat} {sv sv' : Value} (h : GK W w' g ga sv sv') {A : Option Addr} {m : Nat} {xs : List α} (hF : Kd.F d W (GF g ga sv) A m xs) : Kd.F d w' (GF g ga sv) A m xs :=
  Kd.F_step hF (fun k hk hlt => h.block k hlt hk.1 hk.2.1 hk.2.2)
theorem GK.C {α : Type} {d : Kd α} {W w' : World} {g ga : Nat} {sv sv' : Value} (h : GK W w' g ga sv sv') {A : Option Addr} {m : Nat} {xs : List α} (hF : Kd.F d W (GF g ga sv) A m xs) : Kd.C d w' A m xs := Kd.F_now (h.F hF)
theorem GK.cell {W w' : World} {g ga : Nat} {sv sv' : Value} (h : GK W w' g ga sv sv') {k : Nat} {v : Value} {t : TypeId} (hk : W.heap[k]? = some (.cells #[v] t (0, 0))) (hg : GF g ga sv k) : w'.cell? ⟨k, 0, none⟩ = some v :=
  (blk_cell (h.heap hk hg.1 hg.2.1 hg.2.2) 0).trans rfl
/-- A node's walk between two calls: the giver, what it keeps, its numbers. -/
structure NS (W w' : World) (base g ga n : Nat) (vI vN vO sv sv' : Value) (nin own : Nat) (s : GS) : Prop where
  h : GH base w' g ga n vI vN vO sv' s
  k : GK W w' g ga sv sv'
  i : GI s nin own
theorem GI.held {s : GS} {nin own : Nat} (h : GI s nin own) (hl : s.taken.length = 256) (hv : own < s.at_.length) : GI (holdS s own) nin (own + 1) := by
  have h2 := h.hold hl own hv
  refine ⟨h2.hi, fun u h1 h3 => ?_, h2.regs, h2.steps⟩
  by_cases e : u = own
  · rw [atS_hold s own u hv, if_pos e]; omega
  · exact h2.lo u h1 (by omega)
theorem hold_mono (s : GS) (v u : Nat) (hv : v < s.at_.length) (h : 0 ≤ atS s u) : 0 ≤ atS (holdS s v) u := by
  rw [atS_hold s v u hv]
  split
  · omega
  · exact h
theorem atS_of {s s' : GS} (h : s'.at_ = s.at_) (u : Nat) : atS s' u = atS s u := by unfold atS; rw [h]
theorem at_done (s : GS) (us : List Int) (i own : Int) (v : Nat) : (doneS s us i own v).at_ = s.at_ := by unfold doneS; split; rfl; split; (split <;> rfl); rfl
theorem GI.done {s : GS} {nin own : Nat} (h : GI s nin own) (us : List Int) (i o : Int) (v : Nat) : GI (doneS s us i o v) nin own := by
  refine ⟨fun u => by rw [atS_of (at_done s us i o v)]; exact h.hi u, fun u h1 h2 => by rw [atS_of (at_done s us i o v)]; exact h.lo u h1 h2, ?_, ?_⟩
  · have : (doneS s us i o v).regs = s.regs := by unfold doneS; split; rfl; split; (split <;> rfl); rfl
    rw [this]; exact h.regs
  · have : (doneS s us i o v).steps = s.steps := by unfold doneS; split; rfl; split; (split <;> rfl); rfl
    rw [this]; exact h.steps
set_option maxRecDepth 100000 in
set_option maxHeartbeats 4000000 in
theorem node_calls {base : Nat} {g ga n : Nat} {vO sv : Value} {s : GS} (AI : Option Addr) (cI : Nat) (ins : List Int) (AN : Option Addr) (cN : Nat) (nodes : List (List S62)) (us : List Int) (gu : Nat) (i : Nat) (w : World)
    (h : GH base w g ga n (.slice AI ins.length cI) (.slice AN nodes.length cN) vO sv s) (hgi : GI s ins.length (ins.length + i))
    (hI : Kd.F (Kd.int .i64) w (GF g ga sv) AI ins.length ins) (hN : Kd.F (Kd.slice 62 k62) w (GF g ga sv) AN nodes.length nodes)
    (hur : w.heap[gu]? = some (.cells (encI us) 3 (0, 0))) (hus : us.length = n) (hgu : GF g ga sv gu)
    (hin : ∀ b ∈ ins, 0 ≤ b ∧ b < 64) (hi : i < nodes.length) (hnn : ins.length + nodes.length = n) (hn : n ≤ 4160)
    (hts : ∀ t ∈ rd_L4 nodes i, 0 ≤ t.f0 ∧ t.f0 < (ins.length + i : Nat)) :
    Calls Try.prog 19 #[.pointer (some ⟨g, 0, none⟩), .int .i64 (i : Int), .slice (some ⟨gu, 0, none⟩) n n] w fun e w' => ∃ sv', e = .returned (.tuple #[]) ∧ GH base w' g ga n (.slice AI ins.length cI) (.slice AN nodes.length cN) vO sv' (nodeS ins us i (rd_L4 nodes i) s) ∧ GK w w' g ga sv sv' ∧ GI (nodeS ins us i (rd_L4 nodes i) s) ins.length (ins.length + i + 1) := by
  obtain ⟨W0, hW0⟩ : ∃ W0, ((w.alloc (.cells #[Value.pointer (some ⟨g, 0, none⟩)] 52)).alloc (.cells #[Value.int .i64 (i : Int)] 3)).alloc (.cells #[Value.slice (some ⟨gu, 0, none⟩) n n] 22) = W0 := ⟨_, rfl⟩
  have h1 : GH base W0 g ga n _ _ vO sv s := hW0 ▸ ((h.alloc _).alloc _).alloc _
  have k1 : GK w W0 g ga sv sv := hW0 ▸ (((GK.refl w g ga sv).alloc _).alloc _).alloc _
  have hsz : W0.heap.size = w.heap.size + 3 := by rw [← hW0]; simp
  have hbg : W0.heap[w.heap.size]? = some (.cells #[Value.pointer (some ⟨g, 0, none⟩)] 52 (0, 0)) := hW0 ▸ blk_alloc (blk_alloc (heap_alloc_new w _) _) _
  have hbi : W0.heap[w.heap.size + 1]? = some (.cells #[Value.int .i64 (i : Int)] 3 (0, 0)) := by
    have h_ := blk_alloc (heap_alloc_new (w.alloc (.cells #[Value.pointer (some ⟨g, 0, none⟩)] 52)) (.cells #[Value.int .i64 (i : Int)] 3)) (.cells #[Value.slice (some ⟨gu, 0, none⟩) n n] 22)
    rw [hW0] at h_
    rwa [show (w.alloc (.cells #[Value.pointer (some ⟨g, 0, none⟩)] 52)).heap.size = w.heap.size + 1 by simp] at h_
  have hbu : W0.heap[w.heap.size + 2]? = some (.cells #[Value.slice (some ⟨gu, 0, none⟩) n n] 22 (0, 0)) := by
    have h_ := heap_alloc_new ((w.alloc (.cells #[Value.pointer (some ⟨g, 0, none⟩)] 52)).alloc (.cells #[Value.int .i64 (i : Int)] 3)) (.cells #[Value.slice (some ⟨gu, 0, none⟩) n n] 22)
    rw [hW0] at h_
    rwa [show ((w.alloc (.cells #[Value.pointer (some ⟨g, 0, none⟩)] 52)).alloc (.cells #[Value.int .i64 (i : Int)] 3)).heap.size = w.heap.size + 2 by simp] at h_
  have hnew : ∀ j, w.heap.size ≤ j → GF g ga sv j := fun j hj => ⟨fun e => by have := blk_lt h.blk; omega, fun e => by have := blk_lt h.ra; omega, fun e => by have h2 := Kd.R_own h.rs; obtain ⟨inner, h3⟩ := h2; have := own_lt h3 j e.symm; omega⟩
  have hI0 := k1.F hI
  have hN0 := k1.F hN
  have hur0 := k1.heap hur hgu.1 hgu.2.1 hgu.2.2
  obtain ⟨ad, cs, rfl, hcl, hFK, hcc, _⟩ := Kd.F_get hN0 ([] : List S62) (i : Int) (by omega) (by omega)
  obtain ⟨Ax, cx, rfl, hcx, hT0⟩ := Kd.FK_slice_open hFK
  have hx := hcc 0 _ rfl
  simp only [Kd.slice, Int.toNat_natCast, Nat.mul_one, Nat.add_zero] at hx hT0 hcx
  obtain ⟨T, hTe⟩ : ∃ T, rd_L4 nodes (i : Int) = T := ⟨_, rfl⟩
  have hTe2 : nodes.getD i [] = T := by rw [← hTe]; simp [rd_L4]
  rw [hTe2] at hx hT0 hcx
  rw [hTe] at hts ⊢
  clear hcc hFK hcl hTe hTe2 hN0
  have c1 := h1.c 1 _ rfl
  have cg : W0.cell? ⟨w.heap.size, 0, none⟩ = some (.pointer (some ⟨g, 0, none⟩)) := (blk_cell hbg 0).trans rfl
  have ci : W0.cell? ⟨w.heap.size + 1, 0, none⟩ = some (.int .i64 (i : Int)) := (blk_cell hbi 0).trans rfl
  have hii : (i : Int) < (nodes.length : Int) := by omega
  have HH := Aside0.mk (NS.mk h1 (GK.refl W0 g ga sv) hgi)
  have HK := Aside0.mk k1
  have HI := Aside0.mk hI0
  have HT := Aside0.mk hT0
  have HU := Aside0.mk hur0
  have BG := Aside0.mk hbg
  have BI := Aside0.mk hbi
  have BU := Aside0.mk hbu
  have HNEW := Aside0.mk hnew
  have HW0 := Aside0.mk hW0
  have HSZ := Aside0.mk hsz
  have HTS := Aside0.mk hts
  have HUS := Aside0.mk hus
  have HGU := Aside0.mk hgu
  have HIN := Aside0.mk hin
  clear h hgi hI hN hur hus hgu h1 k1 hI0 hT0 hur0 hbg hbi hbu hnew hW0 hsz hts hin
  go_enter Try.func19, Try.ntmps19
  go_wp2_with fail
  rw [HW0.out]
  go_quiet (fail)
  go_wp2_with fail
  obtain ⟨s1, hs1⟩ : ∃ s1, loadsN ins T s = s1 := ⟨_, rfl⟩
  have HL := Aside0.mk hs1
  clear hs1 cg ci c1 hx
  have hlenT : T.length ≤ 9223372036854775807 := Kd.F_max HT.out
  have HLA := Aside0.mk HH.out.h.la
  go_loopw [25] (fun v25 w' => ∃ (j : Nat) (s' : GS) (sv' : Value), j ≤ T.length ∧ v25 = .int .i64 j ∧ Aside0 (loadsN ins (T.drop j) s' = s1) ∧ Aside0 (NS W0 w' base g ga n (.slice AI ins.length cI) (.slice (some ad) nodes.length cN) vO sv sv' ins.length (ins.length + i) s') ∧ Aside0 (∀ t ∈ T.take j, 0 ≤ atS s' t.f0.toNat)) (fun v _ => T.length - (intOf v).toNat)
  case atStart => exact ⟨0, s, sv, Nat.zero_le _, rfl, HL, ⟨⟨HH.out.h.drewN nq, HH.out.k.drewN nq, HH.out.i⟩⟩, ⟨by simp⟩⟩
  case round =>
    obtain ⟨j, s', sv', hj, rfl, HL', HS', HT'⟩ := hrel
    by_cases hlt : j < T.length
    · obtain ⟨adt, rfl, ht0, ht1⟩ := at_T62 (HS'.out.k.C HT.out) (j : Int) (by omega) (by omega)
      have hd : T.drop j = rd_T62 T j :: T.drop (j + 1) := by
        rw [List.drop_eq_getElem_cons hlt]; simp [rd_T62, hlt]
      have htk : T.take (j + 1) = T.take j ++ [rd_T62 T j] := by
        rw [List.take_succ_eq_append_getElem hlt]; simp [rd_T62, hlt]
      have hmem : rd_T62 T j ∈ T := by
        have : rd_T62 T j = T[j] := by simp [rd_T62, hlt]
        rw [this]; exact List.getElem_mem _
      have hb := HTS.out _ hmem
      have hL := HL'.out
      rw [hd, loadsN] at hL
      obtain ⟨t, ht⟩ : ∃ t, rd_T62 T j = t := ⟨_, rfl⟩
      rw [ht] at ht0 ht1 hL hb htk
      obtain ⟨v, hv⟩ : ∃ v : Nat, t.f0 = (v : Int) := ⟨t.f0.toNat, by omega⟩
      rw [hv] at ht0
      have hvn : v < ins.length + i := by omega
      simp only [hv, Int.toNat_natCast] at hL ht0 ht1
      have hs2 : NS W0 (wr.alloc (.cells #[Value.int .i64 (v : Int), .int .u8 t.f1] 62)) base g ga n (.slice AI ins.length cI) (.slice (some ad) nodes.length cN) vO sv sv' ins.length (ins.length + i) s' := ⟨HS'.out.h.alloc _, HS'.out.k.alloc _, HS'.out.i⟩
      have cg : (wr.alloc (.cells #[Value.int .i64 (v : Int), .int .u8 t.f1] 62)).cell? ⟨w.heap.size, 0, none⟩ = some (.pointer (some ⟨g, 0, none⟩)) := hs2.k.cell BG.out (HNEW.out _ (Nat.le_refl _))
      have hld := load_calls AI cI ins v _ hs2.h (fun w'' sv'' hk => (hs2.k.trans hk).C HI.out) HIN.out (by omega) hn hs2.i.regs hs2.i.steps
      have HLD := Aside0.mk hld
      have HS2 := Aside0.mk hs2
      have HHL := Aside0.mk hL
      have HVT := Aside0.mk (And.intro hv htk)
      clear hld hs2 hd htk hmem hL hb ht hv HL' 
      go_wp2_with (go_at_call 20; refine HLD.out.mono ?_; rintro e w1 ⟨sv1, rfl, hh1, hk1⟩; have HR := Aside0.mk (And.intro hh1 hk1); clear hh1 hk1 cg)
      go_roundw
      case rel =>
        refine ⟨j + 1, loadS s' ins v, sv1, by omega, by go_num, HHL, ⟨⟨HR.out.1, HS2.out.k.trans HR.out.2, HS2.out.i.load HS2.out.h.len ins v (by have := HS2.out.h.la; omega)⟩⟩, ⟨?_⟩⟩
        intro u hu
        have hla := HS2.out.h.la
        rw [HVT.out.2, List.mem_append, List.mem_singleton] at hu
        rcases hu with hu | rfl
        · exact load_mono _ _ _ _ (by omega) (HT'.out u hu)
        · rw [HVT.out.1, Int.toNat_natCast]
          exact load_here _ _ _ (by omega) (fun h1 => HS2.out.i.lo v h1 hvn)
      case measure => simp [intOf]; omega
    · obtain rfl : j = T.length := by omega
      have hL := HL'.out
      rw [List.drop_length, loadsN] at hL
      subst hL
      rw [List.take_length] at HT'
      have cg := HS'.out.k.cell BG.out (HNEW.out _ (Nat.le_refl _))
      have ci := HS'.out.k.cell BI.out (HNEW.out _ (Nat.le_succ _))
      have c0 := HS'.out.h.c 0 _ rfl
      have hb1 : (ins.length : Int) + (i : Int) ≤ 4160 := by omega
      have hsA := HS'.out
      have hsB : NS W0 (wr.alloc (.cells #[Value.int .i64 0] 3)).drew base g ga n (.slice AI ins.length cI) (.slice (some ad) nodes.length cN) vO sv sv' ins.length (ins.length + i) s' := ⟨(hsA.h.alloc _).drew, (hsA.k.alloc _).drew, hsA.i⟩
      have dg := hsB.k.cell BG.out (HNEW.out _ (Nat.le_refl _))
      have di := hsB.k.cell BI.out (HNEW.out _ (Nat.le_succ _))
      have d0 := hsB.h.c 0 _ rfl
      clear hsA hsB
      clear HL' hj hlt
      go_wp2_with fail
      go_region
      obtain ⟨own, hown⟩ : ∃ own : Nat, own = ins.length + i := ⟨_, rfl⟩
      rw [show ((ins.length : Int) + (i : Int)) = (own : Int) from by omega]
      obtain ⟨W1, hW1⟩ : ∃ W1, (wr.alloc (.cells #[Value.int .i64 (own : Int)] 3)).drew = W1 := ⟨_, rfl⟩
      have hs2 : NS W0 W1 base g ga n (.slice AI ins.length cI) (.slice (some ad) nodes.length cN) vO sv sv' ins.length (ins.length + i) s' := hW1 ▸ ⟨(HS'.out.h.alloc _).drew, (HS'.out.k.alloc _).drew, HS'.out.i⟩
      have hbo : W1.heap[wr.heap.size]? = some (.cells #[Value.int .i64 (own : Int)] 3 (0, 0)) := hW1 ▸ heap_alloc_new wr _
      have hgo : GF g ga sv' wr.heap.size := ⟨fun e => by have := blk_lt HS'.out.h.blk; omega, fun e => by have := blk_lt HS'.out.h.ra; omega, fun e => by have h2 := Kd.R_own HS'.out.h.rs; obtain ⟨inner, h3⟩ := h2; have := own_lt h3 wr.heap.size e.symm; omega⟩
      generalize wr.heap.size = bo at hbo hgo ⊢
      rw [hW1]
      have hownn : own < n := by omega
      clear cg ci c0 dg di d0
      have hhold := hold_calls own W1 hs2.h hownn hn hs2.i.regs
      have cg := hs2.k.cell BG.out (HNEW.out _ (Nat.le_refl _))
      have co : W1.cell? ⟨bo, 0, none⟩ = some (.int .i64 (own : Int)) := (blk_cell hbo 0).trans rfl
      have HHO := Aside0.mk hhold
      have HS2 := Aside0.mk hs2
      have HBO := Aside0.mk hbo
      have HGO := Aside0.mk hgo
      have HOWN := Aside0.mk hown
      clear hW1 hs2 hbo hgo HS' hhold hown
      clear wr
      go_wp2_with (go_at_call 33; refine HHO.out.mono ?_; rintro e w2 ⟨rfl, hh2, hk2⟩; clear cg co; have HR2 := Aside0.mk (And.intro hh2 hk2); have cg := (HS2.out.k.trans hk2).cell BG.out (HNEW.out _ (Nat.le_refl _)); have co := hk2.cell HBO.out HGO.out; have c3 := hh2.c 263 _ (gc_at _ _ _ _ _ _ hh2.len); have ca : w2.cell? ⟨ga, own, none⟩ = some (.int .i64 (atS (holdS s' own) own)) := cell_enc hh2.ra own (by have h_ := hh2.la; omega); clear hh2 hk2 HHO)
      have hoi : (own : Int) < (n : Int) := by omega
      have hoi0 : (0 : Int) ≤ (own : Int) := by omega
      have hHeld : True := trivial
      go_region_held3 (fun w' => w'.cell? ⟨w.heap.size, 0, none⟩ = some (.pointer (some ⟨g, 0, none⟩)) ∧ w'.cell? ⟨bo, 0, none⟩ = some (.int .i64 (own : Int)) ∧ w'.cell? ⟨g, 263, none⟩ = some (.slice (some ⟨ga, 0, none⟩) n n) ∧ w'.cell? ⟨ga, own, none⟩ = some (.int .i64 (atS (holdS s' own) own))) (go_keep) ((go_at_call 21; refine (step_calls ⟨1, atS (holdS s' own) own, 0, 0⟩ _ HR2.out.1.drew (HS2.out.i.steps)).mono ?_; rintro e w3 ⟨sv3, rfl, hh3, hk3⟩; have HR3 := Aside0.mk (And.intro hh3 hk3); have dg := (HS2.out.k.trans (HR2.out.2.drew.trans hk3)).cell BG.out (HNEW.out _ (Nat.le_refl _)); have do_ := (HR2.out.2.drew.trans hk3).cell HBO.out HGO.out; have d3 := hh3.c 263 _ (gc_at _ _ _ _ _ _ hh3.len); have da : w3.cell? ⟨ga, own, none⟩ = some (.int .i64 (atS (holdS s' own) own)) := (cell_enc hh3.ra own (by have h_ := hh3.la; omega)).trans (by rw [show (stepS (holdS s' own) ⟨1, atS (holdS s' own) own, 0, 0⟩).at_ = (holdS s' own).at_ from at_step _ _]; rfl); clear hh3 hk3))
      obtain ⟨s2, hs2⟩ : ∃ s2, stepS (holdS s' own) ⟨1, atS (holdS s' own) own, 0, 0⟩ = s2 := ⟨_, rfl⟩
      have hat2 : ∀ u, atS s2 u = atS (holdS s' own) u := fun u => by rw [← hs2, atS_step]
      have HS3 : Aside0 (NS W0 w3 base g ga n (.slice AI ins.length cI) (.slice (some ad) nodes.length cN) vO sv sv3 ins.length (own + 1) s2) := by
        refine ⟨hs2 ▸ HR3.out.1, HS2.out.k.trans (HR2.out.2.drew.trans HR3.out.2), ?_⟩
        rw [← hs2]
        have h_ := HS2.out.i
        rw [← HOWN.out] at h_
        exact (h_.held HS2.out.h.len (by have := HS2.out.h.la; omega)).step _
      have HK3 : Aside0 (GK W1 w3 g ga sv' sv3) := ⟨HR2.out.2.drew.trans HR3.out.2⟩
      have HT2 : Aside0 (∀ t ∈ T, 0 ≤ atS s2 t.f0.toNat ∧ atS s2 t.f0.toNat < 256) := ⟨fun t ht => ⟨by
        rw [hat2]; exact hold_mono _ _ _ (by have := HS2.out.h.la; omega) (HT'.out t ht), HS3.out.i.hi _⟩⟩
      have HOW : Aside0 (0 ≤ atS s2 own ∧ atS s2 own < 256) := ⟨HS3.out.i.lo own (by have := HOWN.out; omega) (by omega), HS3.out.i.hi _⟩
      have HS2E := Aside0.mk hs2
      clear dg do_ d3 da HR3 HR2 HT' hat2 hs2 hoi0
      obtain ⟨s3, hs3⟩ : ∃ s3, macsN own T s2 = s3 := ⟨_, rfl⟩
      have HM := Aside0.mk hs3
      clear hs3
      go_wp2_with fail

      go_loopw [57] (fun v57 w' => ∃ (j : Nat) (sj : GS) (svj : Value), j ≤ T.length ∧ v57 = .int .i64 j ∧ Aside0 (macsN own (T.drop j) sj = s3) ∧ Aside0 (NS W0 w' base g ga n (.slice AI ins.length cI) (.slice (some ad) nodes.length cN) vO sv svj ins.length (own + 1) sj) ∧ Aside0 (GK W1 w' g ga sv' svj) ∧ Aside0 (sj.at_ = s2.at_)) (fun v _ => T.length - (intOf v).toNat)
      case atStart => exact ⟨0, s2, sv3, Nat.zero_le _, rfl, HM, HS3, HK3, ⟨rfl⟩⟩
      case round =>
        obtain ⟨j, sj, svj, hj, rfl, HLj, HSj, HKj, HAj⟩ := hrel
        by_cases hlt : j < T.length
        · obtain ⟨adt, rfl, ht0, ht1⟩ := at_T62 (HSj.out.k.C HT.out) (j : Int) (by omega) (by omega)
          have hd : T.drop j = rd_T62 T j :: T.drop (j + 1) := by
            rw [List.drop_eq_getElem_cons hlt]; simp [rd_T62, hlt]
          have hmem : rd_T62 T j ∈ T := by
            have : rd_T62 T j = T[j] := by simp [rd_T62, hlt]
            rw [this]; exact List.getElem_mem _
          have hb := HTS.out _ hmem
          have hL := HLj.out
          rw [hd, macsN] at hL
          have hatv := HT2.out _ hmem
          obtain ⟨t, ht⟩ : ∃ t, rd_T62 T j = t := ⟨_, rfl⟩
          rw [ht] at ht0 ht1 hL hb hatv
          obtain ⟨v, hv⟩ : ∃ v : Nat, t.f0 = (v : Int) := ⟨t.f0.toNat, by omega⟩
          rw [hv] at ht0
          simp only [hv, Int.toNat_natCast] at hL ht0 ht1 hatv
          have hvn : v < n := by omega
          obtain ⟨wz, hwz⟩ : ∃ wz, wr.alloc (.cells #[Value.int .i64 (v : Int), .int .u8 t.f1] 62) = wz := ⟨_, rfl⟩
          have hs4 : NS W0 wz base g ga n (.slice AI ins.length cI) (.slice (some ad) nodes.length cN) vO sv svj ins.length (own + 1) sj := hwz ▸ ⟨HSj.out.h.alloc _, HSj.out.k.alloc _, HSj.out.i⟩
          have hk4 : GK W1 wz g ga sv' svj := hwz ▸ HKj.out.alloc _
          have hbt : wz.heap[wr.heap.size]? = some (.cells #[Value.int .i64 (v : Int), .int .u8 t.f1] 62 (0, 0)) := hwz ▸ heap_alloc_new wr _
          have hgt : GF g ga svj wr.heap.size := ⟨fun e => by have := blk_lt HSj.out.h.blk; omega, fun e => by have := blk_lt HSj.out.h.ra; omega, fun e => by have h2 := Kd.R_own HSj.out.h.rs; obtain ⟨inner, h3⟩ := h2; have := own_lt h3 wr.heap.size e.symm; omega⟩
          have HWZ := Aside0.mk hwz
          have HVT := Aside0.mk (And.intro hv hL)
          have HS4 := Aside0.mk hs4
          have HK4 := Aside0.mk hk4
          have HBT := Aside0.mk hbt
          have HGT := Aside0.mk hgt
          have HAV := Aside0.mk hatv
          clear hs4 hk4 hd hmem hL hb hv ht HLj hatv hwz hbt hgt
          go_wp2_with fail
          rw [HWZ.out]
          have hbt := HBT.out
          have HBT2 := Aside0.mk HBT.out
          have HGT2 := Aside0.mk HGT.out
          clear ht0 ht1 HBT HGT HWZ
          generalize wr.heap.size = bt at hbt HBT2 HGT2 ⊢
          have dg := HS4.out.k.cell BG.out (HNEW.out _ (Nat.le_refl _))
          have do_ := HK4.out.cell HBO.out HGO.out
          have d3 := HS4.out.h.c 263 _ (gc_at _ _ _ _ _ _ HS4.out.h.len)
          have da : wz.cell? ⟨ga, own, none⟩ = some (.int .i64 (atS s2 own)) := (cell_enc HS4.out.h.ra own (by have h_ := HS4.out.h.la; omega)).trans (by rw [HAj.out]; rfl)
          have dv : wz.cell? ⟨ga, v, none⟩ = some (.int .i64 (atS s2 v)) := (cell_enc HS4.out.h.ra v (by have h_ := HS4.out.h.la; omega)).trans (by rw [HAj.out]; rfl)
          have dt0 : wz.cell? ⟨bt, 0, none⟩ = some (.int .i64 (v : Int)) := (blk_cell hbt 0).trans rfl
          have dt1 : wz.cell? ⟨bt, 1, none⟩ = some (.int .u8 t.f1) := (blk_cell hbt 1).trans rfl
          have hvi : (v : Int) < (n : Int) := by omega
          have hvi0 : (0 : Int) ≤ (v : Int) := by omega
          have hoi0 : (0 : Int) ≤ (own : Int) := by omega
          clear hbt
          have hHeld : True := trivial
          go_region_held3 (fun w' => w'.cell? ⟨w.heap.size, 0, none⟩ = some (.pointer (some ⟨g, 0, none⟩)) ∧ w'.cell? ⟨bo, 0, none⟩ = some (.int .i64 (own : Int)) ∧ w'.cell? ⟨g, 263, none⟩ = some (.slice (some ⟨ga, 0, none⟩) n n) ∧ w'.cell? ⟨ga, own, none⟩ = some (.int .i64 (atS s2 own)) ∧ w'.cell? ⟨ga, v, none⟩ = some (.int .i64 (atS s2 v)) ∧ w'.cell? ⟨bt, 0, none⟩ = some (.int .i64 (v : Int)) ∧ w'.cell? ⟨bt, 1, none⟩ = some (.int .u8 t.f1)) (go_keep) ((go_at_call 21; refine (step_calls ⟨3, atS s2 own, atS s2 v, t.f1⟩ _ HS4.out.h.drew HS4.out.i.steps).mono ?_; rintro e w4 ⟨sv4, rfl, hh4, hk4⟩; have HR4 := Aside0.mk (And.intro hh4 hk4); have dg := (HS4.out.k.drew.trans hk4).cell BG.out (HNEW.out _ (Nat.le_refl _)); have do_ := (HK4.out.drew.trans hk4).cell HBO.out HGO.out; have d3 := hh4.c 263 _ (gc_at _ _ _ _ _ _ hh4.len); have da : w4.cell? ⟨ga, own, none⟩ = some (.int .i64 (atS s2 own)) := (cell_enc hh4.ra own (by have h_ := hh4.la; omega)).trans (by rw [at_step, HAj.out]; rfl); have dv : w4.cell? ⟨ga, v, none⟩ = some (.int .i64 (atS s2 v)) := (cell_enc hh4.ra v (by have h_ := hh4.la; omega)).trans (by rw [at_step, HAj.out]; rfl); have hbt := hk4.heap HBT2.out HGT2.out.1 HGT2.out.2.1 HGT2.out.2.2; have dt0 : w4.cell? ⟨bt, 0, none⟩ = some (.int .i64 (v : Int)) := (blk_cell hbt 0).trans rfl; have dt1 : w4.cell? ⟨bt, 1, none⟩ = some (.int .u8 t.f1) := (blk_cell hbt 1).trans rfl; clear hh4 hk4 hbt))
          clear dg do_ d3 da dv dt0 dt1
          go_wp2_with fail
          go_roundw
          case rel =>
            refine ⟨j + 1, stepS sj ⟨3, atS s2 own, atS s2 v, t.f1⟩, sv4, by omega, by go_num, ⟨?_⟩, ⟨⟨HR4.out.1, HS4.out.k.drew.trans HR4.out.2, HS4.out.i.step _⟩⟩, ⟨HK4.out.drew.trans HR4.out.2⟩, ⟨(at_step _ _).trans HAj.out⟩⟩
            have h_ := HVT.out.2
            rwa [atS_of HAj.out, atS_of HAj.out] at h_
          case measure => simp [intOf]; omega
        · go_wp2_with fail
          obtain rfl : j = T.length := by omega
          have hL := HLj.out
          rw [List.drop_length, macsN] at hL
          subst hL
          obtain ⟨s4, hs4⟩ : ∃ s4, donesN us (i : Int) (own : Int) T sj = s4 := ⟨_, rfl⟩
          have HM4 := Aside0.mk hs4
          clear hs4 hlt hj HLj
          go_loopw [85] (fun v85 w' => ∃ (j : Nat) (sk : GS), j ≤ T.length ∧ v85 = .int .i64 j ∧ Aside0 (donesN us (i : Int) (own : Int) (T.drop j) sk = s4) ∧ Aside0 (NS W0 w' base g ga n (.slice AI ins.length cI) (.slice (some ad) nodes.length cN) vO sv svj ins.length (own + 1) sk) ∧ Aside0 (GK W1 w' g ga sv' svj) ∧ Aside0 (sk.at_ = s2.at_)) (fun v _ => T.length - (intOf v).toNat)
          case atStart => exact ⟨0, sj, Nat.zero_le _, rfl, HM4, HSj, HKj, HAj⟩
          case round =>
            obtain ⟨j, sk, hj, rfl, HLk, HSk, HKk, HAk⟩ := hrel
            by_cases hlt : j < T.length
            · obtain ⟨adt, rfl, ht0, ht1⟩ := at_T62 (HSk.out.k.C HT.out) (j : Int) (by omega) (by omega)
              have hd : T.drop j = rd_T62 T j :: T.drop (j + 1) := by
                rw [List.drop_eq_getElem_cons hlt]; simp [rd_T62, hlt]
              have hmem : rd_T62 T j ∈ T := by
                have : rd_T62 T j = T[j] := by simp [rd_T62, hlt]
                rw [this]; exact List.getElem_mem _
              have hb := HTS.out _ hmem
              have hL := HLk.out
              rw [hd, donesN] at hL
              have hatv := HT2.out _ hmem
              obtain ⟨t, ht⟩ : ∃ t, rd_T62 T j = t := ⟨_, rfl⟩
              rw [ht] at ht0 ht1 hL hb hatv
              obtain ⟨v, hv⟩ : ∃ v : Nat, t.f0 = (v : Int) := ⟨t.f0.toNat, by omega⟩
              rw [hv] at ht0
              simp only [hv, Int.toNat_natCast] at hL ht0 ht1 hatv
              have hvn : v < n := by omega
              have hs4 : NS W0 (wr.alloc (.cells #[Value.int .i64 (v : Int), .int .u8 t.f1] 62)) base g ga n (.slice AI ins.length cI) (.slice (some ad) nodes.length cN) vO sv svj ins.length (own + 1) sk := ⟨HSk.out.h.alloc _, HSk.out.k.alloc _, HSk.out.i⟩
              have hk4 := HKk.out.alloc (.cells #[Value.int .i64 (v : Int), .int .u8 t.f1] 62)
              have hdn := done_calls us (i : Int) (own : Int) (w.heap.size + 2) (w.heap.size + 1) bo w.heap.size gu v _ hs4.h (hs4.k.heap BU.out (HNEW.out _ (by omega)).1 (HNEW.out _ (by omega)).2.1 (HNEW.out _ (by omega)).2.2) (hs4.k.heap HU.out HGU.out.1 HGU.out.2.1 HGU.out.2.2) HUS.out (hs4.k.heap BI.out (HNEW.out _ (by omega)).1 (HNEW.out _ (by omega)).2.1 (HNEW.out _ (by omega)).2.2) (hk4.heap HBO.out HGO.out.1 HGO.out.2.1 HGO.out.2.2) (hs4.k.heap BG.out (HNEW.out _ (by omega)).1 (HNEW.out _ (by omega)).2.1 (HNEW.out _ (by omega)).2.2) hvn (by rw [atS_of HAk.out]; exact hatv)
              have HDN := Aside0.mk hdn
              have HVT := Aside0.mk (And.intro hv hL)
              have HS4 := Aside0.mk hs4
              have HK4 := Aside0.mk hk4
              clear hdn hs4 hk4 hd hmem hL hb hv ht HLk hatv
              go_wp2_with (go_at_call 34; refine HDN.out.mono ?_; rintro e w5 ⟨rfl, hh5, hk5⟩; have HR5 := Aside0.mk (And.intro hh5 hk5); clear hh5 hk5)
              go_roundw
              case rel =>
                exact ⟨j + 1, doneS sk us i own v, by omega, by go_num, ⟨HVT.out.2⟩, ⟨⟨HR5.out.1, HS4.out.k.trans HR5.out.2, HS4.out.i.done _ _ _ _⟩⟩, ⟨HK4.out.trans HR5.out.2⟩, ⟨(at_done _ _ _ _ _).trans HAk.out⟩⟩
              case measure => simp [intOf]; omega
            · obtain rfl : j = T.length := by omega
              have hL := HLk.out
              rw [List.drop_length, donesN] at hL
              subst hL
              have do_ := HKk.out.cell HBO.out HGO.out
              have hdn := done_calls us (i : Int) (own : Int) (w.heap.size + 2) (w.heap.size + 1) bo w.heap.size gu own _ HSk.out.h (HSk.out.k.heap BU.out (HNEW.out _ (by omega)).1 (HNEW.out _ (by omega)).2.1 (HNEW.out _ (by omega)).2.2) (HSk.out.k.heap HU.out HGU.out.1 HGU.out.2.1 HGU.out.2.2) HUS.out (HSk.out.k.heap BI.out (HNEW.out _ (by omega)).1 (HNEW.out _ (by omega)).2.1 (HNEW.out _ (by omega)).2.2) (HKk.out.heap HBO.out HGO.out.1 HGO.out.2.1 HGO.out.2.2) (HSk.out.k.heap BG.out (HNEW.out _ (by omega)).1 (HNEW.out _ (by omega)).2.1 (HNEW.out _ (by omega)).2.2) hownn (by rw [atS_of HAk.out]; exact HOW.out)
              have HDN := Aside0.mk hdn
              clear hdn hlt hj HLk
              go_wp2_with (go_at_call 34; refine HDN.out.mono ?_; rintro e w5 ⟨rfl, hh5, hk5⟩; have HR5 := Aside0.mk (And.intro hh5 hk5); clear hh5 hk5)
              go_end0
              have hfin : nodeS ins us i T s = doneS sk us i own own := by
                unfold nodeS
                simp only [← HOWN.out]
                rw [HL.out, HS2E.out, HM.out, HM4.out]
              rw [hfin]
              exact ⟨svj, rfl, HR5.out.1, HK.out.trans (HSk.out.k.trans HR5.out.2), by rw [← HOWN.out]; exact HSk.out.i.done _ _ _ _⟩

end Go.Proofs.Ytlflfpkjbjbldaa.PA
