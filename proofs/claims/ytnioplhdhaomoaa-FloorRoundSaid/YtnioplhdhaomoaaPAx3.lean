-- Written by wip/tools/mp.py (the kit's print, run over several laws with some functions given by hand).
import Derived.Test.YtnioplhdhaomoaaPAx0
import Derived.Test.YtnioplhdhaomoaaPAx1
namespace Go.Proofs.Ytnioplhdhaomoaa.PA
open Go.RowKit Go.Proofs.YtnioplhdhaomoaaW.PrintWords Go.Proofs.YtnioplhdhaomoaaW.PrintLast Go.Proofs.YtnioplhdhaomoaaW.PrintMore
attribute [local go_sem] max2_int min2_int max_two min_two max_three min_three max_four min_four   -- for this text's walks alone
set_option linter.unusedVariables false
set_option linter.unusedSimpArgs false

/-! ### recoupref11_Ints: function 17 -/
def recoupref11_Ints.l0 : Nat → List Int → List Int → Int → Option (Bool)
 | 0, _, _, _ => none
 | k + 1, x0, x1, x5 => if x5 < (x0.length : Int) then (if 0 ≤ x5 then (if x5 < (x1.length : Int) then (if (rd x0 x5) = (rd x1 x5) then (recoupref11_Ints.l0 k x0 x1 (wrap64 (x5 + 1))) else (some false)) else (none)) else (none)) else (some true)
def recoupref11_Ints.f (k : Nat) (l0 : List Int) (l1 : List Int) : Option (Bool) := if (l0.length : Int) = (l1.length : Int) then (recoupref11_Ints.l0 k l0 l1 0) else (some false)
set_option maxHeartbeats 8000000 in
set_option maxRecDepth 100000 in
theorem recoupref11_Ints.calls (k : Nat) (A0 : Option Addr) (c0 : Nat) (l0 : List Int) (A1 : Option Addr) (c1 : Nat) (l1 : List Int) (r : Bool) (w : World) (hr0 : Kd.C (Kd.int .i64) w A0 l0.length l0) (hc0 : l0.length ≤ c0) (hr1 : Kd.C (Kd.int .i64) w A1 l1.length l1) (hc1 : l1.length ≤ c1) (h : recoupref11_Ints.f k l0 l1 = some r) :
  Calls Try.prog 17 #[.slice A0 l0.length c0, .slice A1 l1.length c1] w fun e w' => e = .returned (.bool r) ∧ Drawn0 w w' := by
 have HR0 := Aside0.mk hr0
 have HC0 := Aside0.mk hc0
 clear hr0 hc0
 have HR1 := Aside0.mk hr1
 have HC1 := Aside0.mk hc1
 clear hr1 hc1
 have H : (if (l0.length : Int) = (l1.length : Int) then (recoupref11_Ints.l0 k l0 l1 0) else (some false)) = some r := h
 clear h
 by_cases c3 : (l0.length : Int) = (l1.length : Int)
 ·rw [if_pos c3] at H
  have c3b0 : ((l0.length : Int) == (l1.length : Int)) = true := beq_iff_eq.mpr c3
  have c3b1 : ((l0.length : Int) != (l1.length : Int)) = false := bne_eq_false_iff_eq.mpr c3
  have c3b2 : (l0.length == l1.length) = true := by first | simpa using c3 | (simp at c3 ⊢; omega)
  clear c3
  have H' := Aside0.mk H
  clear H
  go_enter Try.func17, Try.ntmps17
  go_wp2
  repeat (go_quiet (fail); try go_wp2)
  go_loopg [5] k (fun kq v5 w' => ∃ (x5_1 : Int), v5 = .int .i64 x5_1 ∧ Aside0 (recoupref11_Ints.l0 kq l0 l1 x5_1 = some r) ∧ Aside0 (kq ≤ k) ∧ Drawn0 w w')
  case atStart => exact ⟨(0), (by first | rfl | (simp; done) | (simp [*]; done)), H', ⟨Nat.le_refl _⟩, by repeat (first | exact Drawn0.refl _ | apply Drawn0.step)⟩
  case round =>
   clear H'
   try clear c1
   try clear p2
   try clear c3
   try clear c3b0
   try clear c3b1
   try clear c3b2
   obtain ⟨x5_1, rfl, HA, HK1, ⟨m1, rfl⟩⟩ := hrel
   cases gk with
   | zero => exact absurd HA.out (by simp [recoupref11_Ints.l0])
   | succ k1 =>
    have H := HA.out
    clear HA
    simp only [recoupref11_Ints.l0] at H
    by_cases c4 : x5_1 < (l0.length : Int)
    ·rw [if_pos c4] at H
     have c4b0 : decide (x5_1 < (l0.length : Int)) = true := decide_eq_true c4
     clear c4
     by_cases c5 : 0 ≤ x5_1
     ·rw [if_pos c5] at H
      have c5b0 : decide (0 ≤ x5_1) = true := decide_eq_true c5
      clear c5
      by_cases c6 : x5_1 < (l1.length : Int)
      ·rw [if_pos c6] at H
       have c6b0 : decide (x5_1 < (l1.length : Int)) = true := decide_eq_true c6
       clear c6
       by_cases c7 : (rd l0 x5_1) = (rd l1 x5_1)
       ·rw [if_pos c7] at H
        have c7b0 : ((rd l0 x5_1) == (rd l1 x5_1)) = true := beq_iff_eq.mpr c7
        have c7b1 : ((rd l0 x5_1) != (rd l1 x5_1)) = false := bne_eq_false_iff_eq.mpr c7
        clear c7
        have H' := Aside0.mk H
        clear H
        have p126 : 0 ≤ (x5_1 : Int) := of_decide_eq_true (by first | (with_reducible assumption) | assumption)
        have q126 : x5_1 < (l0.length : Int) := of_decide_eq_true (by first | (with_reducible assumption) | assumption)
        obtain ⟨ad126, e126, hx126_0⟩ := Kd.at_int HR0.out x5_1 p126 q126
        cases e126
        replace p126 := eq_true p126
        replace q126 := eq_true q126
        have p127 : 0 ≤ (x5_1 : Int) := of_decide_eq_true (by first | (with_reducible assumption) | assumption)
        have q127 : x5_1 < (l1.length : Int) := of_decide_eq_true (by first | (with_reducible assumption) | assumption)
        obtain ⟨ad127, e127, hx127_0⟩ := Kd.at_int HR1.out x5_1 p127 q127
        cases e127
        replace p127 := eq_true p127
        replace q127 := eq_true q127
        go_wp2
        repeat (go_quiet (fail); try go_wp2)
        go_roundg k1
        case measure => have := HK1.out; omega
        case rel => exact ⟨(wrap64 (x5_1 + 1)), (by first | rfl | (simp; done) | (simp [*]; done)), H', ⟨by have := HK1.out; omega⟩, by repeat (first | exact Drawn0.refl _ | apply Drawn0.step)⟩
       ·rw [if_neg c7] at H
        have c7b0 : ((rd l0 x5_1) == (rd l1 x5_1)) = false := beq_eq_false_iff_ne.mpr c7
        have c7b1 : ((rd l0 x5_1) != (rd l1 x5_1)) = true := bne_iff_ne.mpr c7
        obtain rfl := Option.some.inj H
        have p126 : 0 ≤ (x5_1 : Int) := of_decide_eq_true (by first | (with_reducible assumption) | assumption)
        have q126 : x5_1 < (l0.length : Int) := of_decide_eq_true (by first | (with_reducible assumption) | assumption)
        obtain ⟨ad126, e126, hx126_0⟩ := Kd.at_int HR0.out x5_1 p126 q126
        cases e126
        replace p126 := eq_true p126
        replace q126 := eq_true q126
        have p127 : 0 ≤ (x5_1 : Int) := of_decide_eq_true (by first | (with_reducible assumption) | assumption)
        have q127 : x5_1 < (l1.length : Int) := of_decide_eq_true (by first | (with_reducible assumption) | assumption)
        obtain ⟨ad127, e127, hx127_0⟩ := Kd.at_int HR1.out x5_1 p127 q127
        cases e127
        replace p127 := eq_true p127
        replace q127 := eq_true q127
        go_wp2
        repeat (go_quiet (fail); try go_wp2)
        go_ret
        exact ⟨by first | rfl | (simp; done) | (simp [*]; done), by repeat (first | exact Drawn0.refl _ | apply Drawn0.step)⟩
      ·rw [if_neg c6] at H
       exact absurd H (by simp)
     ·rw [if_neg c5] at H
      exact absurd H (by simp)
    ·rw [if_neg c4] at H
     have c4b0 : decide (x5_1 < (l0.length : Int)) = false := decide_eq_false c4
     clear c4
     obtain rfl := Option.some.inj H
     go_wp2
     repeat (go_quiet (fail); try go_wp2)
     go_ret
     exact ⟨by first | rfl | (simp; done) | (simp [*]; done), by repeat (first | exact Drawn0.refl _ | apply Drawn0.step)⟩
 ·rw [if_neg c3] at H
  have c3b0 : ((l0.length : Int) == (l1.length : Int)) = false := beq_eq_false_iff_ne.mpr c3
  have c3b1 : ((l0.length : Int) != (l1.length : Int)) = true := bne_iff_ne.mpr c3
  have c3b2 : (l0.length == l1.length) = false := by first | simpa using c3 | (simp at c3 ⊢; omega)
  obtain rfl := Option.some.inj H
  go_enter Try.func17, Try.ntmps17
  go_wp2
  repeat (go_quiet (fail); try go_wp2)
  go_ret
  exact ⟨by first | rfl | (simp; done) | (simp [*]; done), by repeat (first | exact Drawn0.refl _ | apply Drawn0.step)⟩

/-! ### floor_spiral: function 34 (by hand) -/
theorem run_store_cx {P : Program} {w : World} {a : Addr} {m : Mode} (k : FloatKind) (x y : Nat) : (store a (.complex k x y) m).run P w = stored P w a (.complex k x y) m := run_store P w a _ m rfl
attribute [local go_sem] run_store_cx
structure WSt where
  zr : Nat
  zi : Nat
  wr : Nat
  wi : Nat
  run : Int
  left : Int
  turns : Int
def nxt (s : WSt) : Option WSt :=
  (cSumBits .add .f64 s.zr s.zi s.wr s.wi).bind fun z =>
    if s.left = 1 then (cMulBits s.wr s.wi 0 4607182418800017408).bind fun m =>
      (if (s.turns + 1) % 2 = 0 then some ⟨z.1, z.2, m.1, m.2, s.run + 1, s.run + 1, s.turns + 1⟩ else some ⟨z.1, z.2, m.1, m.2, s.run, s.run, s.turns + 1⟩)
    else some ⟨z.1, z.2, s.wr, s.wi, s.run, s.left - 1, s.turns⟩
def st : Nat → WSt
  | 0 => ⟨0, 0, 4607182418800017408, 0, 1, 1, 0⟩
  | n + 1 => (nxt (st n)).getD (st n)
theorem st_ok : ∀ i, i < 64 → (nxt (st i)).isSome = true ∧ 1 ≤ (st i).left ∧ (st i).left ≤ 100 ∧ 0 ≤ (st i).turns ∧ (st i).turns ≤ 100 ∧ 0 ≤ (st i).run ∧ (st i).run ≤ 100 := by decide +kernel
theorem st_next (i : Nat) (h : i < 64) : nxt (st i) = some (st (i + 1)) := by
  have := (st_ok i h).1
  rw [st]
  cases e : nxt (st i) with
  | none => rw [e] at this; cases this
  | some s => rfl
structure WHeap (w : World) (s : WSt) (gz gw gl gt gr : Nat) : Prop where
  hz : w.heap[gz]? = some (.cells #[.complex .f64 s.zr s.zi] 55 (0, 0))
  hw : w.heap[gw]? = some (.cells #[.complex .f64 s.wr s.wi] 55 (0, 0))
  hl : w.heap[gl]? = some (.cells #[.int .i64 s.left] 3 (0, 0))
  ht : w.heap[gt]? = some (.cells #[.int .i64 s.turns] 3 (0, 0))
  hr : w.heap[gr]? = some (.cells #[.int .i64 s.run] 3 (0, 0))
structure Apt (gz gw gl gt gr : Nat) : Prop where
  zw : gz ≠ gw
  zl : gz ≠ gl
  zt : gz ≠ gt
  zr : gz ≠ gr
  wl : gw ≠ gl
  wt : gw ≠ gt
  wr : gw ≠ gr
  lt : gl ≠ gt
  lr : gl ≠ gr
  tr : gt ≠ gr
def Still (w w' : World) (b gz gw gl gt gr : Nat) : Prop := (∀ i, i ≠ gz → i ≠ gw → i ≠ gl → i ≠ gt → i ≠ gr → w'.heap[i]? = w.heap[i]?) ∧ ∀ w0, Below b w0 w → Below b w0 w'
def cx (p : Nat × Nat) : Value := .complex .f64 p.1 p.2
theorem bset {b g : Nat} {w0 w : World} (h : Below b w0 w) (hg : b ≤ g) (v : Value) : Below b w0 (w.setCell ⟨g, 0, none⟩ v) := h.setCell hg _
theorem one_same {w : World} {g : Nat} {u v : Value} {t : TypeId} (h : w.heap[g]? = some (.cells #[u] t (0, 0))) : (w.setCell ⟨g, 0, none⟩ v).heap[g]? = some (.cells #[v] t (0, 0)) := heap_setCell_same _ _ _ _ _ _ h
theorem one_other {w : World} {g g' : Nat} {v : Value} {x : Option Obj} (hn : g ≠ g') (h : w.heap[g]? = x) : (w.setCell ⟨g', 0, none⟩ v).heap[g]? = x := (heap_setCell_other _ _ _ _ hn).trans h
set_option maxHeartbeats 1000000 in
theorem next_calls (s s' : WSt) (b gz gw gl gt gr : Nat) (w : World) (h : WHeap w s gz gw gl gt gr) (d : Apt gz gw gl gt gr) (bz : b ≤ gz) (bw : b ≤ gw) (bl : b ≤ gl) (bt : b ≤ gt) (br : b ≤ gr)
   (h1 : 1 ≤ s.left) (h2 : s.left ≤ 100) (h3 : 0 ≤ s.turns) (h4 : s.turns ≤ 100) (h5 : 0 ≤ s.run) (h6 : s.run ≤ 100) (hn : nxt s = some s') :
    Calls Try.prog 42 #[.pointer (some ⟨gz, 0, none⟩), .pointer (some ⟨gw, 0, none⟩), .pointer (some ⟨gl, 0, none⟩), .pointer (some ⟨gt, 0, none⟩), .pointer (some ⟨gr, 0, none⟩)] w fun e w' => e = .returned (.complex .f64 s.zr s.zi) ∧ WHeap w' s' gz gw gl gt gr ∧ Still w w' b gz gw gl gt gr := by
  obtain ⟨szr, szi, swr, swi, srun, sleft, sturns⟩ := s
  dsimp only at *
  obtain ⟨⟨zr, zi⟩, hadd, hn⟩ := Option.bind_eq_some_iff.1 hn
  dsimp only at *
  have hop := fun t w => run_complex_sum (P := Try.prog) w .add (Or.inl rfl) t .f64 _ _ _ _ _ _ hadd
  have hcz : w.cell? ⟨gz, 0, none⟩ = some (.complex .f64 szr szi) := (blk_cell h.hz 0).trans rfl
  have hcw : w.cell? ⟨gw, 0, none⟩ = some (.complex .f64 swr swi) := (blk_cell h.hw 0).trans rfl
  have hcl : w.cell? ⟨gl, 0, none⟩ = some (.int .i64 sleft) := (blk_cell h.hl 0).trans rfl
  have hct : w.cell? ⟨gt, 0, none⟩ = some (.int .i64 sturns) := (blk_cell h.ht 0).trans rfl
  have hcr : w.cell? ⟨gr, 0, none⟩ = some (.int .i64 srun) := (blk_cell h.hr 0).trans rfl
  have hfz := blk_frozen h.hz 0
  have hfw := blk_frozen h.hw 0
  have hfl := blk_frozen h.hl 0
  have hft := blk_frozen h.ht 0
  have hfr := blk_frozen h.hr 0
  have hu55 := Try.underlying55
  have hu3 := Try.underlying3
  have HH := Aside0.mk h
  have D := Aside0.mk d
  have d1 := d.zw; have d2 := d.zl; have d3 := d.zt; have d4 := d.zr; have d5 := d.wl; have d6 := d.wt; have d7 := d.wr; have d8 := d.lt; have d9 := d.lr; have d10 := d.tr
  have e1 := d.zw.symm; have e2 := d.zl.symm; have e3 := d.zt.symm; have e4 := d.zr.symm; have e5 := d.wl.symm; have e6 := d.wt.symm; have e7 := d.wr.symm; have e8 := d.lt.symm; have e9 := d.lr.symm; have e10 := d.tr.symm
  clear h hadd d
  by_cases c : sleft = 1
  · rw [if_pos c] at hn
    obtain ⟨⟨mr, mi⟩, hmul, hn⟩ := Option.bind_eq_some_iff.1 hn
    have hop2 := fun t w => run_complex_mul (P := Try.prog) w t _ _ _ _ _ _ hmul
    dsimp only at *
    subst c
    by_cases c2 : (sturns + 1) % 2 = 0
    · rw [if_pos c2] at hn
      obtain rfl := Option.some.inj hn
      have c2' : ((sturns + 1) % 2 == 0) = true := by simpa using c2
      clear hn c2 hmul
      go_enter Try.func42, Try.ntmps42
      go_wp2_with (simp only [hop, hop2])
      go_ret
      have H := HH.out
      exact ⟨rfl, by constructor <;> dsimp only <;> (repeat (with_reducible first | exact H.hz | exact H.hw | exact H.hl | exact H.ht | exact H.hr | (refine one_other (by assumption) ?_) | apply one_same)), fun i k1 k2 k3 k4 k5 => by repeat (with_reducible first | (refine one_other (by assumption) ?_) | rfl), fun w0 hb => by repeat (with_reducible first | exact hb | refine bset ?_ (by assumption) _)⟩
    · rw [if_neg c2] at hn
      obtain rfl := Option.some.inj hn
      have c2' : ((sturns + 1) % 2 == 0) = false := by simpa using c2
      clear hn c2 hmul
      go_enter Try.func42, Try.ntmps42
      go_wp2_with (simp only [hop, hop2])
      go_ret
      have H := HH.out
      exact ⟨rfl, by constructor <;> dsimp only <;> (repeat (with_reducible first | exact H.hz | exact H.hw | exact H.hl | exact H.ht | exact H.hr | (refine one_other (by assumption) ?_) | apply one_same)), fun i k1 k2 k3 k4 k5 => by repeat (with_reducible first | (refine one_other (by assumption) ?_) | rfl), fun w0 hb => by repeat (with_reducible first | exact hb | refine bset ?_ (by assumption) _)⟩
  · rw [if_neg c] at hn
    obtain rfl := Option.some.inj hn
    have c' : (sleft - 1 == 0) = false := by simp; omega
    clear hn
    go_enter Try.func42, Try.ntmps42
    go_wp2_with (simp only [hop])
    go_ret
    have H := HH.out
    exact ⟨rfl, by constructor <;> dsimp only <;> (repeat (with_reducible first | exact H.hz | exact H.hw | exact H.hl | exact H.ht | exact H.hr | (refine one_other (by assumption) ?_) | apply one_same)), fun i k1 k2 k3 k4 k5 => by repeat (with_reducible first | (refine one_other (by assumption) ?_) | rfl), fun w0 hb => by repeat (with_reducible first | exact hb | refine bset ?_ (by assumption) _)⟩
theorem al_new (w : World) (o : Obj) : (w.alloc o).heap[w.heap.size]? = some o := heap_alloc_new w o
theorem al_at {w : World} {o : Obj} {k : Nat} (h : k = w.heap.size) : (w.alloc o).heap[k]? = some o := by rw [h]; exact heap_alloc_new w o
theorem al_old {w : World} {o x : Obj} {k : Nat} (h : w.heap[k]? = some x) : (w.alloc o).heap[k]? = some x := (heap_alloc_old w o (blk_lt h)).trans h
set_option maxHeartbeats 1000000 in
theorem walker_calls (w : World) : Calls Try.prog 37 #[] w fun e w' => e = .returned (.func (.func 42) #[] #[.pointer (some ⟨w.heap.size, 0, none⟩), .pointer (some ⟨w.heap.size + 1, 0, none⟩), .pointer (some ⟨w.heap.size + 3, 0, none⟩), .pointer (some ⟨w.heap.size + 4, 0, none⟩), .pointer (some ⟨w.heap.size + 2, 0, none⟩)]) ∧ WHeap w' (st 0) w.heap.size (w.heap.size + 1) (w.heap.size + 3) (w.heap.size + 4) (w.heap.size + 2) ∧ Below w.heap.size w w' := by
  have hu55 := Try.underlying55
  have hu3 := Try.underlying3
  have hmf : ∀ (fn : Fn) (first cap : Array Value) (w : World), (Instr.makeFunc fn first cap).run Try.prog w = .ok (.func fn first cap) w := fun _ _ _ _ => rfl
  go_enter Try.func37, Try.ntmps37
  go_wp2
  go_ret
  refine ⟨rfl, ⟨?_, ?_, ?_, ?_, ?_⟩, ?_⟩
  · exact (al_old (al_old (al_old (al_old (al_new _ _)))))
  · exact (al_old (al_old (al_old (al_at (by simp)))))
  · exact (al_old (al_at (by simp)))
  · exact (al_at (by simp))
  · exact (al_old (al_old (al_at (by simp))))
  · exact (((((Below.refl _ _).alloc (by simp) _).alloc (by simp) _).alloc (by simp; omega) _).alloc (by simp; omega) _).alloc (by simp; omega) _
def cxs (l : List (Nat × Nat)) : Array Value := (l.map cx).toArray
def zsl (n : Nat) : List (Nat × Nat) := (List.range n).map fun i => ((st i).zr, (st i).zi)
def zsp (n i : Nat) : List (Nat × Nat) := zsl i ++ List.replicate (n - i) (0, 0)
theorem zsl_len (n : Nat) : (zsl n).length = n := by simp [zsl]
theorem zsl_succ (n : Nat) : zsl (n + 1) = zsl n ++ [((st n).zr, (st n).zi)] := by simp [zsl, List.range_succ]
theorem zsp_len (n i : Nat) (h : i ≤ n) : (zsp n i).length = n := by simp [zsp, zsl_len]; omega
theorem cxs_set (n i : Nat) (h : i < n) : (cxs (zsp n i)).setIfInBounds i (.complex .f64 (st i).zr (st i).zi) = cxs (zsp n (i + 1)) := by
  have e : zsp n (i + 1) = (zsp n i).set i ((st i).zr, (st i).zi) := by
    rw [zsp, zsp, zsl_succ, show n - i = (n - (i + 1)) + 1 from by omega, List.replicate_succ, List.set_append]
    simp [zsl_len]
  rw [e, cxs, cxs]
  simp [List.setIfInBounds_toArray, List.map_set, cx]
theorem info55 : (Try.prog.info? 55).map (fun i => (i.zero, i.size, i.bytes)) = some (some (.complex .f64 0 0), 1, 16) := by kernel_rfl
theorem zsp_zero (n : Nat) : cxs (zsp n 0) = madeCells #[.complex .f64 0 0] n := by
  simp only [cxs, zsp, zsl, madeCells, cx]
  apply Array.ext <;> simp [Nat.mod_one, Nat.div_one, cx]
theorem cxs_size (l : List (Nat × Nat)) : (cxs l).size = l.length := by simp [cxs]
theorem cell_at {w : World} {g t : Nat} {cs : Array Value} (h : w.heap[g]? = some (.cells cs t (0, 0))) (i : Nat) (hi : i < cs.size) : ∃ o, w.cell? ⟨g, i, none⟩ = some o := ⟨cs[i], by rw [blk_cell h, Array.getElem?_eq_getElem hi]⟩
theorem one_off {w : World} {s : WSt} {g gz gw gl gt gr i : Nat} {v : Value} (h : WHeap w s gz gw gl gt gr) (n1 : g ≠ gz) (n2 : g ≠ gw) (n3 : g ≠ gl) (n4 : g ≠ gt) (n5 : g ≠ gr) : WHeap (w.setCell ⟨g, i, none⟩ v) s gz gw gl gt gr :=
  ⟨(heap_setCell_other _ _ _ _ (fun e => n1 e.symm)).trans h.hz, (heap_setCell_other _ _ _ _ (fun e => n2 e.symm)).trans h.hw, (heap_setCell_other _ _ _ _ (fun e => n3 e.symm)).trans h.hl, (heap_setCell_other _ _ _ _ (fun e => n4 e.symm)).trans h.ht, (heap_setCell_other _ _ _ _ (fun e => n5 e.symm)).trans h.hr⟩
set_option maxHeartbeats 1000000 in
theorem spiral_calls (n : Nat) (hn : n ≤ 64) (w : World) : Calls Try.prog 34 #[.int .i64 (n : Int)] w fun e w' => ∃ g, e = .returned (.slice (some ⟨g, 0, none⟩) n n) ∧ w.heap.size ≤ g ∧ w'.heap[g]? = some (.cells (cxs (zsl n)) 55 (0, 0)) ∧ Below w.heap.size w w' := by
  have hu55 := Try.underlying55
  have hu3 := Try.underlying3
  have hu50 := Try.underlying50
  have hmk := print_make_of (P := Try.prog) 50 55 (.complex .f64 0 0) 16 Try.underlying50 info55 rfl (by decide) n (by omega)
  go_enter Try.func34, Try.ntmps34
  go_wp2_with (go_at_call 37; refine (walker_calls _).mono ?_; rintro e w1 ⟨rfl, hw1, hb1⟩; have HW := Aside0.mk hw1; have HB := Aside0.mk hb1; clear hw1 hb1)
  clear hmk
  have HG := Aside0.mk (show (w1.alloc (.cells (madeCells #[.complex .f64 0 0] n) 55)).heap[w1.heap.size]? = some (.cells (cxs (zsp n 0)) 55 (0, 0)) by rw [zsp_zero]; exact al_new _ _)
  have HL := Aside0.mk (blk_lt HW.out.hz)
  have HL2 := Aside0.mk (blk_lt HW.out.hw)
  have HL3 := Aside0.mk (blk_lt HW.out.hl)
  have HL4 := Aside0.mk (blk_lt HW.out.ht)
  have HL5 := Aside0.mk (blk_lt HW.out.hr)
  generalize hwr : w1.alloc (.cells (madeCells #[.complex .f64 0 0] n) 55) = W1 at HG ⊢
  have HB := Aside0.mk (show Below w.heap.size w W1 by rw [← hwr]; exact HB.out.alloc HB.out.size _)
  have HS := Aside0.mk HB.out.size
  have HW := Aside0.mk (show WHeap W1 (st 0) w.heap.size (w.heap.size + 1) (w.heap.size + 3) (w.heap.size + 4) (w.heap.size + 2) by rw [← hwr]; exact ⟨al_old HW.out.hz, al_old HW.out.hw, al_old HW.out.hl, al_old HW.out.ht, al_old HW.out.hr⟩)
  have HAP := Aside0.mk (show Apt w.heap.size (w.heap.size + 1) (w.heap.size + 3) (w.heap.size + 4) (w.heap.size + 2) by constructor <;> omega)
  clear hwr
  go_loopw [5, 11] (fun v5 v11 w' => ∃ i : Nat, i ≤ n ∧ v11 = .int .i64 i ∧ Aside0 (WHeap w' (st i) w.heap.size (w.heap.size + 1) (w.heap.size + 3) (w.heap.size + 4) (w.heap.size + 2)) ∧ Aside0 (w'.heap[w1.heap.size]? = some (.cells (cxs (zsp n i)) 55 (0, 0))) ∧ Aside0 (Below w.heap.size w w')) (fun _ v _ => n - (intOf v).toNat)
  case atStart => exact ⟨0, Nat.zero_le _, rfl, HW, HG, HB⟩
  case round =>
    obtain ⟨i, hi, rfl, HWi, HGi, HBi⟩ := hrel
    by_cases hlt : i < n
    · have hst := st_ok i (by omega)
      have HC := Aside0.mk (next_calls (st i) (st (i + 1)) w.heap.size w.heap.size (w.heap.size + 1) (w.heap.size + 3) (w.heap.size + 4) (w.heap.size + 2) wr HWi.out HAP.out (by omega) (by omega) (by omega) (by omega) (by omega) hst.2.1 hst.2.2.1 hst.2.2.2.1 hst.2.2.2.2.1 hst.2.2.2.2.2.1 hst.2.2.2.2.2.2 (st_next i (by omega)))
      clear hst
      have n1 : w1.heap.size ≠ w.heap.size := by have := HL.out; omega
      have n2 : w1.heap.size ≠ w.heap.size + 1 := by have := HL2.out; omega
      have n3 : w1.heap.size ≠ w.heap.size + 3 := by have := HL3.out; omega
      have n4 : w1.heap.size ≠ w.heap.size + 4 := by have := HL4.out; omega
      have n5 : w1.heap.size ≠ w.heap.size + 2 := by have := HL5.out; omega
      go_wp2_with (go_at_call 42; refine HC.out.mono ?_; rintro e w2 ⟨rfl, hw2, hs2⟩; have HW2 := Aside0.mk hw2; have hg2 := (hs2.1 w1.heap.size n1 n2 n3 n4 n5).trans HGi.out; obtain ⟨o2, hc2⟩ := cell_at hg2 i (by rw [cxs_size, zsp_len n i hi]; exact hlt); have hf2 := blk_frozen hg2 i; have HG2 := Aside0.mk hg2; have HB2 := Aside0.mk (hs2.2 _ HBi.out); clear hw2 hs2 hg2)
      go_roundw
      case rel => exact ⟨i + 1, by omega, by go_num, ⟨one_off HW2.out n1 n2 n3 n4 n5⟩, ⟨by rw [← cxs_set n i hlt]; exact heap_setCell_same _ _ _ _ _ _ HG2.out⟩, ⟨HB2.out.setCell (by have := HL.out; simp; omega) _⟩⟩
      case measure => simp [intOf]; omega
    · obtain rfl : i = n := by omega
      go_wp2
      go_ret
      exact ⟨w1.heap.size, rfl, by have := HL.out; omega, by have := HGi.out; simpa [zsp] using this, HBi.out⟩

/-! ### floor_At: function 23 (by hand) -/
def eqc (p : Nat × Nat) (a b : Nat) : Bool := (FloatKind.f64.format.order p.1 a == some .eq) && (FloatKind.f64.format.order p.2 b == some .eq)
def atL (a b : Nat) : List (Nat × Nat) → Nat → Int × Bool
  | [], _ => (0, false)
  | p :: r, i => if eqc p a b = true then ((i : Int), true) else atL a b r (i + 1)
theorem zsl_get (n i : Nat) (h : i < n) : (zsl n)[i]? = some ((st i).zr, (st i).zi) := by simp [zsl, h]
theorem zsl_drop (n i : Nat) (h : i < n) : (zsl n).drop i = ((st i).zr, (st i).zi) :: (zsl n).drop (i + 1) := by
  rw [List.drop_eq_getElem_cons (by rw [zsl_len]; exact h)]
  congr 1
  have := zsl_get n i h
  rw [List.getElem?_eq_getElem (by rw [zsl_len]; exact h)] at this
  exact Option.some.inj this
theorem cxs_get (n i : Nat) (h : i < n) : (cxs (zsl n))[i]? = some (.complex .f64 (st i).zr (st i).zi) := by
  have := zsl_get n i h
  simp [cxs, this, cx]
set_option maxHeartbeats 1000000 in
theorem at_calls (a b : Nat) (w : World) : Calls Try.prog 23 #[.complex .f64 a b] w fun e w' => e = .returned (.tuple #[.int .i64 (atL a b (zsl 64) 0).1, .bool (atL a b (zsl 64) 0).2]) ∧ Below w.heap.size w w' := by
  have hu55 := Try.underlying55
  have hu3 := Try.underlying3
  have hu50 := Try.underlying50
  have hsp := spiral_calls 64 (by omega) w
  have HS := Aside0.mk hsp
  clear hsp
  go_enter Try.func23, Try.ntmps23
  go_wp2_with (go_at_call 34; refine HS.out.mono ?_; rintro e w1 ⟨g, rfl, hg0, hg1, hb1⟩; have HB := Aside0.mk hb1; have HG := Aside0.mk hg1; clear hb1 hg1 hg0)
  go_loop [4, 5, 8] (fun v4 v5 v8 => ∃ i : Nat, i ≤ 64 ∧ v8 = .int .i64 i ∧ Aside0 (atL a b (zsl 64) 0 = atL a b ((zsl 64).drop i) i)) (fun _ _ v => 64 - (intOf v).toNat)
  case atStart => exact ⟨0, Nat.zero_le _, rfl, ⟨rfl⟩⟩
  case round =>
    obtain ⟨i, hi, rfl, HA⟩ := hrel
    by_cases hlt : i < 64
    · have hc := (blk_cell HG.out i).trans (cxs_get 64 i hlt)
      have hA := HA.out
      rw [zsl_drop 64 i hlt, atL] at hA
      generalize (st i).zr = zr at hc hA
      generalize (st i).zi = zi at hc hA
      have heq : ∀ t W, (binOp .eql t (.complex .f64 zr zi) (.complex .f64 a b)).run Try.prog W = .ok (.bool (eqc (zr, zi) a b)) W := fun t W => run_eql_complex W t .f64 zr zi a b
      by_cases c : eqc (zr, zi) a b = true
      · rw [if_pos c] at hA
        rw [c] at heq
        have HA := Aside0.mk hA
        clear hA c
        go_wp2_with (simp only [heq])
        go_ret2
        rw [HA.out]
        exact ⟨rfl, HB.out⟩
      · rw [if_neg c] at hA
        rw [show eqc (zr, zi) a b = false by simpa using c] at heq
        have HA := Aside0.mk hA
        clear hA c
        go_wp2_with (simp only [heq])
        go_round
        case rel => exact ⟨i + 1, by omega, by go_num, HA⟩
        case measure => simp [intOf]; omega
    · obtain rfl : i = 64 := by omega
      have HA2 := Aside0.mk (show atL a b (zsl 64) 0 = (0, false) by rw [HA.out, List.drop_of_length_le (by rw [zsl_len]; omega)]; rfl)
      go_wp2
      go_ret2
      rw [HA2.out]
      exact ⟨rfl, HB.out⟩
theorem at_anchor : atL 13830554455654793216 13830554455654793216 (zsl 64) 0 = (6, true) := by decide +kernel

/-! ### recouplaw15_anchored: function 18 (by hand) -/
def recouplaw15_anchored.f : Option Bool := some true
set_option maxHeartbeats 1000000 in
theorem recouplaw15_anchored.calls (r : Bool) (w : World) (h : recouplaw15_anchored.f = some r) : Calls Try.prog 18 #[] w fun e w' => e = .returned (.bool r) ∧ Below w.heap.size w w' := by
  obtain rfl := Option.some.inj h
  clear h
  have hH : floor_Homes.f 30 2 5 2 0 [] = some ([0, 0, 0, 1, 1], 0) := by decide +kernel
  have hI : recoupref11_Ints.f 30 [0, 0, 0, 1, 1] [0, 0, 0, 1, 1] = some true := by decide +kernel
  have HH := Aside0.mk hH
  have HI := Aside0.mk hI
  have HB := Aside0.mk (Below.refl w.heap.size w)
  have hA := at_calls 13830554455654793216 13830554455654793216 w
  rw [at_anchor] at hA
  have HA := Aside0.mk hA
  clear hH hI hA
  go_enter Try.func18, Try.ntmps18
  go_wp2_with (first | (go_at_call 23; refine HA.out.mono ?_; rintro e w1 ⟨rfl, hb1⟩; have HB := Aside0.mk hb1; clear hb1) | (go_at_call 13; refine (floor_Homes.calls 30 2 5 2 0 none 0 [] _ _ _ ?c1 ?c2 HH.out).mono ?_; (case c1 => exact Kd.C_nil _ _); (case c2 => exact Nat.le_refl _); rintro e w2 ⟨v2, rfl, hr2, hb2⟩; obtain ⟨Ao, co, eo⟩ := Kd.R_slice hr2; subst eo; have HR2 := Aside0.mk hr2; have HB2 := Aside0.mk (HB.out.trans (hb2.mono HB.out.size)); clear hr2 hb2) | ((with_reducible refine gate_dst (N := 24) rfl ?_); (try (refine gate_guard (by rfl) ?_; dsimp only)); refine Kd.R_lit (Kd.int .i64) _ 3 ?hg (N := 24) ?hd (xs := ([0, 0, 0, 1, 1] : List Int)) (inner := [.int .i64 0, .int .i64 0, .int .i64 0, .int .i64 1, .int .i64 1]) (ok := fun _ => True) (okp := fun _ => True) ?hr ?hp (fun _ hk => hk) trivial (Below.refl _ _) (Nat.le_refl _) (by simp) ?_; (case hd => rfl); (case hg => rfl); (case hr => first | (go_simp; done) | (go_simp; rfl)); (case hp => exact (Reps.one (show Kd.M (Kd.int .i64) _ _ _ 0 [.int .i64 0] from rfl) (Reps.one (show Kd.M (Kd.int .i64) _ _ _ 0 [.int .i64 0] from rfl) (Reps.one (show Kd.M (Kd.int .i64) _ _ _ 0 [.int .i64 0] from rfl) (Reps.one (show Kd.M (Kd.int .i64) _ _ _ 1 [.int .i64 1] from rfl) (Reps.one (show Kd.M (Kd.int .i64) _ _ _ 1 [.int .i64 1] from rfl) (Reps.none _ _))))))); intro v3 w3 ho3 hb3 hg_ hnew_; clear hg_ hnew_; obtain ⟨Ao3, co3, eo3⟩ := Kd.R_slice ho3; subst eo3; have HR3 := Aside0.mk ho3; have HR2' := Aside0.mk (Kd.R_below HR2.out hb3); have HB3 := Aside0.mk (HB2.out.trans (hb3.mono HB2.out.size)); clear ho3 hb3) | (go_at_call 17; refine (recoupref11_Ints.calls 30 _ _ [0, 0, 0, 1, 1] _ _ [0, 0, 0, 1, 1] _ _ ?d1 ?d2 ?d3 ?d4 HI.out).mono ?_; (case d1 => exact (Kd.R_reads' HR2'.out).2.2); (case d2 => exact (Kd.R_reads' HR2'.out).2.1); (case d3 => exact (Kd.R_reads' HR3.out).2.2); (case d4 => exact (Kd.R_reads' HR3.out).2.1); rintro e w4 ⟨rfl, ⟨m4, rfl⟩⟩))
  go_ret
  exact ⟨rfl, pw_below_drewN HB3.out _⟩

/-! ### recoupref06_List: function 19 -/
end Go.Proofs.Ytnioplhdhaomoaa.PA
