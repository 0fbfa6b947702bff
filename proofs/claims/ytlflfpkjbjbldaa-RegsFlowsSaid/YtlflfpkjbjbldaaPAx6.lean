-- Written by wip/tools/mp.py (the kit's print, run over several laws with some functions given by hand).
import Derived.Test.YtlflfpkjbjbldaaPAx0
import Derived.Test.YtlflfpkjbjbldaaPAx3
import Derived.Test.YtlflfpkjbjbldaaPAx4
import Derived.Test.YtlflfpkjbjbldaaPAx5
namespace Go.Proofs.Ytlflfpkjbjbldaa.PA
open Go.RowKit Go.Proofs.YtlflfpkjbjbldaaW.PrintWords Go.Proofs.YtlflfpkjbjbldaaW.PrintLast Go.Proofs.YtlflfpkjbjbldaaW.PrintMore
attribute [local go_sem] max2_int min2_int max_two min_two max_three min_three max_four min_four   -- for this text's walks alone
set_option linter.unusedVariables false
set_option linter.unusedSimpArgs false

/-! ### regs_Give: function 7 (by hand) -/
/-- All nodes, from number i on. -/
def nodesS (ins us : List Int) : Nat → List (List S62) → GS → GS
  | _, [], s => s
  | i, ts :: r, s => nodesS ins us (i + 1) r (nodeS ins us i ts s)
/-- What comes out, from number d on. -/
def outsS (ins : List Int) : Nat → List Int → GS → GS
  | _, [], s => s
  | d, v :: r, s => outsS ins (d + 1) r (stepS (loadS s ins v.toNat) ⟨4, d, atS (loadS s ins v.toNat) v.toNat, 0⟩)
def gs0 (n : Nat) : GS := ⟨[], 0, 0, 0, List.replicate 256 false, List.replicate n (-1), true⟩
def giveS (ins : List Int) (nodes : List (List S62)) (outs us : List Int) : GS := outsS ins 0 outs (nodesS ins us 0 nodes (gs0 (ins.length + nodes.length)))
/-- What Trim's flow is known to be. -/
structure GT (ins : List Int) (nodes : List (List S62)) (outs : List Int) : Prop where
  len : ins.length + nodes.length ≤ 4160
  inb : ∀ b ∈ ins, 0 ≤ b ∧ b < 64
  terms : ∀ i : Nat, i < nodes.length → ∀ t ∈ rd_L4 nodes (i : Int), 0 ≤ t.f0 ∧ t.f0 < ((ins.length + i : Nat) : Int)
  outb : ∀ v ∈ outs, 0 ≤ v ∧ v < ((ins.length + nodes.length : Nat) : Int)
  olen : outs.length ≤ 64
def gtB (ins : List Int) (nodes : List (List S62)) (outs : List Int) : Bool :=
  decide (ins.length + nodes.length ≤ 4160) && (ins.all (fun b => decide (0 ≤ b ∧ b < 64)) && ((List.range nodes.length).all (fun i => (rd_L4 nodes (i : Int)).all (fun t => decide (0 ≤ t.f0 ∧ t.f0 < ((ins.length + i : Nat) : Int)))) && (outs.all (fun v => decide (0 ≤ v ∧ v < ((ins.length + nodes.length : Nat) : Int))) && decide (outs.length ≤ 64))))
theorem gtB_iff (ins : List Int) (nodes : List (List S62)) (outs : List Int) : gtB ins nodes outs = true ↔ GT ins nodes outs := by
  unfold gtB
  simp only [Bool.and_eq_true, decide_eq_true_eq, List.all_eq_true, List.mem_range]
  exact ⟨fun ⟨a, b, c, d, e⟩ => ⟨a, b, c, d, e⟩, fun ⟨a, b, c, d, e⟩ => ⟨a, b, c, d, e⟩⟩
instance (ins : List Int) (nodes : List (List S62)) (outs : List Int) : Decidable (GT ins nodes outs) := decidable_of_iff _ (gtB_iff ins nodes outs)
def regs_Give.f (k : Nat) (l0 : List Int) (l1 : List (List S62)) (l2 : List Int) : Option (List S38 × Int × Int × Int × Int) :=
  (flow_Trim.f k l0 l1 l2).bind fun (t0, t1, t2, e) => if e = 0 then (if GT t0 t1 t2 then (regs_last.f t0 t1 t2).bind fun us =>
    (if (giveS t0 t1 t2 us).ok = true then some ((giveS t0 t1 t2 us).steps, (giveS t0 t1 t2 us).regs, (t2.length : Int), (giveS t0 t1 t2 us).reads, 0) else some ([], 0, 0, 0, 4)) else none) else some ([], 0, 0, 0, e)
theorem hold_ok (s : GS) (v : Nat) (h : s.ok = false) : (holdS s v).ok = false := by unfold holdS; simp [h]
theorem step_ok (s : GS) (x : S38) (h : s.ok = false) : (stepS s x).ok = false := by unfold stepS; split <;> simp [h]
theorem load_ok (s : GS) (ins : List Int) (v : Nat) (h : s.ok = false) : (loadS s ins v).ok = false := by
  unfold loadS
  split
  · exact h
  split
  · exact h
  exact step_ok _ _ (hold_ok _ _ h)
theorem done_ok (s : GS) (us : List Int) (i own : Int) (v : Nat) (h : s.ok = false) : (doneS s us i own v).ok = false := by unfold doneS; split; exact h; split; (split <;> exact h); exact h
theorem loads_ok (ins : List Int) : ∀ (l : List S62) (s : GS), s.ok = false → (loadsN ins l s).ok = false
  | [], _, h => h
  | _ :: r, _, h => loads_ok ins r _ (load_ok _ _ _ h)
theorem macs_ok (own : Nat) : ∀ (l : List S62) (s : GS), s.ok = false → (macsN own l s).ok = false
  | [], _, h => h
  | _ :: r, _, h => macs_ok own r _ (step_ok _ _ h)
theorem dones_ok (us : List Int) (i own : Int) : ∀ (l : List S62) (s : GS), s.ok = false → (donesN us i own l s).ok = false
  | [], _, h => h
  | _ :: r, _, h => dones_ok us i own r _ (done_ok _ _ _ _ _ h)
theorem node_ok (ins us : List Int) (i : Nat) (ts : List S62) (s : GS) (h : s.ok = false) : (nodeS ins us i ts s).ok = false :=
  done_ok _ _ _ _ _ (dones_ok _ _ _ _ _ (macs_ok _ _ _ (step_ok _ _ (hold_ok _ _ (loads_ok _ _ _ h)))))
theorem nodes_ok (ins us : List Int) : ∀ (l : List (List S62)) (i : Nat) (s : GS), s.ok = false → (nodesS ins us i l s).ok = false
  | [], _, _, h => h
  | _ :: r, _, _, h => nodes_ok ins us r _ _ (node_ok _ _ _ _ _ h)
theorem outs_ok (ins : List Int) : ∀ (l : List Int) (d : Nat) (s : GS), s.ok = false → (outsS ins d l s).ok = false
  | [], _, _, h => h
  | _ :: r, _, _, h => outs_ok ins r _ _ (step_ok _ _ (load_ok _ _ _ h))
theorem regs_Give.mono : ∀ a0 a1 a2 k, LeO (regs_Give.f k a0 a1 a2) (regs_Give.f (k + 1) a0 a1 a2) := fun a0 a1 a2 k => by
  unfold regs_Give.f
  exact LeO.bind (flow_Trim.mono _ _ _ _) (fun _ => LeO.refl _)
theorem k4_heap : Kd.Heap (Kd.slice 62 k62) := Kd.heap_slice 62 k62_heap
theorem F_of_C {α : Type} {d : Kd α} (hd : Kd.Heap d) {w : World} {A : Option Addr} {n : Nat} {xs : List α} (h : d.C w A n xs) : Kd.F d w (fun _ => True) A n xs := fun W' hW => hd.C (fun k hk => hW k trivial hk) h
theorem giveRet {W : World} {tmps : Array Value} {bp : Nat} {v0 : Value} {r2 r3 r4 r5 : Int} (hp : tmps.getD 2 undef = .pointer (some ⟨bp, 0, none⟩)) (h3 : tmps.getD 3 undef = .int .i64 r5) (hb : W.heap[bp]? = some (.cells #[v0, .int .i64 r2, .int .i64 r3, .int .u64 r4] 30 (0, 0))) :
    (results Try.f7 tmps).run Try.prog W = .ok (.tuple #[.agg #[v0, .int .i64 r2, .int .i64 r3, .int .u64 r4], .int .i64 r5]) W := by
  have h := results_ct (P := Try.prog) (fn := Try.f7) (p := 2) (u := 3) (ty := 30) rfl tmps W bp 30 #[v0, .int .i64 r2, .int .i64 r3, .int .u64 r4] (0, 0) _ hp hb Try.underlying30 rfl (by kernel_rfl)
  rwa [h3] at h
theorem GK.below {w w5 w6 : World} {g ga : Nat} {sv' : Value} (h : Below w.heap.size w w5) (k : GK w5 w6 g ga (.slice none 0 0) sv') (hg : w.heap.size ≤ g) (hga : w.heap.size ≤ ga) : Below w.heap.size w w6 :=
  ⟨k.os.trans h.os, k.tape.trans h.tape, k.output.trans h.output, Nat.le_trans h.size k.size, fun i hi => (k.block i (Nat.lt_of_lt_of_le hi h.size) (by omega) (by omega) (by simp [Value.ownBlock])).trans (h.block i hi)⟩
theorem R38_okOf {e base : Nat} {w : World} {ok ok' : Nat → Prop} {v : Value} {xs : List S38} (h : Kd.R k38 e w base ok v xs) (hk : ∀ k, v.ownBlock = some k → ok' k) : Kd.R k38 e w base ok' v xs := ⟨hk, h.2.imp_ (fun _ _ hp => by obtain rfl := k38_openM hp; exact k38_mkM _ _ _ _)⟩
def zGiver : Array Value := (gcells (.slice none 0 0) (.slice none 0 0) (.slice none 0 0) (.slice none 0 0) (.slice none 0 0) ⟨[], 0, 0, 0, List.replicate 256 false, [], false⟩).toArray
theorem zGiver_run (W : World) : (zeroValue 56).run Try.prog W = .ok (.agg zGiver) W := by kernel_rfl
theorem zGiver_size : zGiver.size = 265 := by kernel_rfl
theorem zGiver_set (v0 v1 v2 x : Value) (n : Nat) : ((((zGiver.setIfInBounds 0 v0).setIfInBounds 1 v1).setIfInBounds 2 v2).setIfInBounds 264 (Value.bool true)).setIfInBounds 263 x = (gcells v0 v1 v2 (.slice none 0 0) x (gs0 n)).toArray := by kernel_rfl
theorem GI.start (nin nn : Nat) : GI (gs0 (nin + nn)) nin nin := by
  have h : ∀ v, atS (gs0 (nin + nn)) v < 256 := fun v => by
    show (List.replicate (nin + nn) (-1 : Int)).getD v 0 < 256
    rw [List.getD_eq_getElem?_getD, List.getElem?_replicate]
    split <;> simp
  exact ⟨h, fun v h1 h2 => by omega, ⟨Int.le_refl _, by show (0 : Int) ≤ 256; omega⟩, Nat.zero_le _⟩
set_option maxRecDepth 100000 in
set_option maxHeartbeats 4000000 in
theorem regs_Give.calls (k : Nat) (A0_0 : Option Addr) (c0_0 : Nat) (l0_0 : List Int) (A0_1 : Option Addr) (c0_1 : Nat) (l0_1 : List (List (S62))) (A0_2 : Option Addr) (c0_2 : Nat) (l0_2 : List Int) (r1 : List S38) (r2 r3 r4 r5 : Int) (w : World)
    (hr0_0 : Kd.C (Kd.int .i64) w A0_0 l0_0.length l0_0) (hc0_0 : l0_0.length ≤ c0_0) (hr0_1 : Kd.C (Kd.slice 62 k62) w A0_1 l0_1.length l0_1) (hc0_1 : l0_1.length ≤ c0_1) (hr0_2 : Kd.C (Kd.int .i64) w A0_2 l0_2.length l0_2) (hc0_2 : l0_2.length ≤ c0_2)
    (h : regs_Give.f k l0_0 l0_1 l0_2 = some (r1, r2, r3, r4, r5)) :
    Calls Try.prog 7 #[.agg #[.slice A0_0 l0_0.length c0_0, .slice A0_1 l0_1.length c0_1, .slice A0_2 l0_2.length c0_2]] w fun e w' => ∃ v0_ : Value, e = .returned (.tuple #[.agg #[v0_, .int .i64 r2, .int .i64 r3, .int .u64 r4], .int .i64 r5]) ∧ Kd.R k38 38 w' w.heap.size (fun _ => True) v0_ r1 ∧ Below w.heap.size w w' := by
  have hu25 := Try.underlying25
  have hu30 := Try.underlying30
  obtain ⟨⟨t0, t1, t2, e0⟩, hTrim, h2⟩ := Option.bind_eq_some_iff.1 h
  obtain ⟨W0, hW0⟩ : ∃ W0, ((w.alloc (.cells #[.slice A0_0 l0_0.length c0_0, .slice A0_1 l0_1.length c0_1, .slice A0_2 l0_2.length c0_2] 25)).alloc (.cells #[.slice none 0 0, .int .i64 0, .int .i64 0, .int .u64 0] 30)) = W0 := ⟨_, rfl⟩
  have hb0 : Below w.heap.size w W0 := hW0 ▸ below_alloc (below_alloc (Below.refl _ _) _) _
  have hbp : W0.heap[w.heap.size + 1]? = some (.cells #[.slice none 0 0, .int .i64 0, .int .i64 0, .int .u64 0] 30 (0, 0)) := by
    have h_ := heap_alloc_new (w.alloc (.cells #[.slice A0_0 l0_0.length c0_0, .slice A0_1 l0_1.length c0_1, .slice A0_2 l0_2.length c0_2] 25)) (.cells #[.slice none 0 0, .int .i64 0, .int .i64 0, .int .u64 0] 30)
    rw [hW0] at h_
    rwa [show (w.alloc (.cells #[.slice A0_0 l0_0.length c0_0, .slice A0_1 l0_1.length c0_1, .slice A0_2 l0_2.length c0_2] 25)).heap.size = w.heap.size + 1 by simp] at h_
  have hbf : W0.heap[w.heap.size]? = some (.cells #[.slice A0_0 l0_0.length c0_0, .slice A0_1 l0_1.length c0_1, .slice A0_2 l0_2.length c0_2] 25 (0, 0)) := hW0 ▸ blk_alloc (heap_alloc_new w _) _
  have hf0 : W0.cell? ⟨w.heap.size, 0, none⟩ = some (.slice A0_0 l0_0.length c0_0) := (blk_cell hbf 0).trans rfl
  have hf1 : W0.cell? ⟨w.heap.size, 1, none⟩ = some (.slice A0_1 l0_1.length c0_1) := (blk_cell hbf 1).trans rfl
  have hf2 : W0.cell? ⟨w.heap.size, 2, none⟩ = some (.slice A0_2 l0_2.length c0_2) := (blk_cell hbf 2).trans rfl
  have hT := flow_Trim.calls k A0_0 c0_0 l0_0 A0_1 c0_1 l0_1 A0_2 c0_2 l0_2 t0 t1 t2 e0 W0 (Kd.C_below hr0_0 hb0) hc0_0 (Kd.C_below hr0_1 hb0) hc0_1 (Kd.C_below hr0_2 hb0) hc0_2 hTrim
  have HT := Aside0.mk hT
  have H2 := Aside0.mk h2
  have HB0 := Aside0.mk hb0
  have HBP := Aside0.mk hbp
  have HW0 := Aside0.mk hW0
  clear hr0_0 hr0_1 hr0_2 h h2 hTrim hT hb0 hbp hbf hW0
  go_enter Try.func7, Try.ntmps7
  go_wp2_with fail
  rw [HW0.out]
  refine HT.out.mono ?_
  rintro e w1 ⟨v0, v1, v2, rfl, hR0, hS1, hR2, hB1⟩
  obtain ⟨A0, c0, rfl, hc0, hC0⟩ := Kd.R_reads hR0
  obtain ⟨A1, c1, rfl, hc1, hC1⟩ := Kd.S_reads hS1
  obtain ⟨A2, c2, rfl, hc2, hC2⟩ := Kd.R_reads hR2
  have HBP1 := Aside0.mk ((hB1.block _ (blk_lt HBP.out)).trans HBP.out)
  have HB1 := Aside0.mk (below_step HB0.out hB1)
  have HC0 := Aside0.mk (F_of_C (Kd.heap_int .i64) hC0)
  have HC1 := Aside0.mk (F_of_C k4_heap hC1)
  have HC2 := Aside0.mk (F_of_C (Kd.heap_int .i64) hC2)
  have hlt0 := blk_lt HBP1.out
  obtain ⟨bp, hbp⟩ : ∃ bp, w.heap.size + 1 = bp := ⟨_, rfl⟩
  have HBPE := Aside0.mk hbp
  rw [hbp] at HBP1 hlt0
  clear hR0 hS1 hR2 hB1 hC0 hC1 hC2 HT HBP HB0 hf0 hf1 hf2
  have hwb : w.heap.size ≤ bp := by omega
  simp only [hbp]
  clear hbp HW0
  by_cases he : e0 = 0
  · subst he
    go_wp2_with fail
    have h3 := H2.out
    simp only [if_true] at h3
    by_cases hgt : GT t0 t1 t2
    · rw [if_pos hgt] at h3
      obtain ⟨us, hus, h4⟩ := Option.bind_eq_some_iff.1 h3
      have HG := Aside0.mk hgt
      have HUS := Aside0.mk hus
      have H4 := Aside0.mk h4
      have hlen := hgt.len
      obtain ⟨b4, hb4⟩ : ∃ b4, w1.heap.size = b4 := ⟨_, rfl⟩
      obtain ⟨w2, hw2⟩ : ∃ w2, w1.alloc (.cells #[Value.slice A0 t0.length c0, .slice A1 t1.length c1, .slice A2 t2.length c2] 25) = w2 := ⟨_, rfl⟩
      have hsz2 : w2.heap.size = b4 + 1 := by rw [← hw2, ← hb4]; simp
      have hbk4 : w2.heap[b4]? = some (.cells #[Value.slice A0 t0.length c0, .slice A1 t1.length c1, .slice A2 t2.length c2] 25 (0, 0)) := by rw [← hw2, ← hb4]; exact heap_alloc_new w1 _
      have hb12 : Below w1.heap.size w1 w2 := hw2 ▸ below_alloc (Below.refl _ _) _
      have HB12 := Aside0.mk hb12
      rw [hb4, hw2]
      have HBK4 := Aside0.mk hbk4
      have d0 : w2.cell? ⟨b4, 0, none⟩ = some (.slice A0 t0.length c0) := (blk_cell hbk4 0).trans rfl
      have d1 : w2.cell? ⟨b4, 1, none⟩ = some (.slice A1 t1.length c1) := (blk_cell hbk4 1).trans rfl
      have d2 : w2.cell? ⟨b4, 2, none⟩ = some (.slice A2 t2.length c2) := (blk_cell hbk4 2).trans rfl
      have hB4 := Aside0.mk hb4
      have HW2 := Aside0.mk hw2
      have HSZ2 := Aside0.mk hsz2
      clear H2 h3 hgt hus h4 hb4 hw2 hbk4 hb12 hsz2
      have hw0 : IntKind.i64.wrap ((t0.length : Int) + (t1.length : Int)) = ((t0.length + t1.length : Nat) : Int) := by rw [i64_w]; unfold wrap64; omega
      have n0 := World.new_ne w2 _ d0
      have hrep : Calls Try.prog 17 #[.slice (some ⟨w2.heap.size, 0, none⟩) 1 1, .int .i64 ((t0.length : Int) + (t1.length : Int))] ((w2.alloc (.cells #[.int .i64 (-1)] 3)).drew) _ := Repeat_calls (some ⟨w2.heap.size, 0, none⟩) 1 (-1) (t0.length + t1.length) hlen _ (Kd.C_of_reads (enc := Value.int .i64) (d := (0 : Int)) (h1 := fun _ => rfl) ⟨rfl, by decide, fun _ => ⟨_, rfl, fun j hj => by
        obtain rfl : j = 0 := by omega
        simp [go_sem, Addr.add]⟩⟩)
      have HREP := Aside0.mk hrep
      have hz1 := zGiver_run
      have hz2 := zGiver_size
      clear hrep
      go_region_held3 (fun w' => w'.cell? ⟨b4, 0, none⟩ = some (.slice A0 t0.length c0) ∧ w'.cell? ⟨b4, 1, none⟩ = some (.slice A1 t1.length c1) ∧ w'.cell? ⟨b4, 2, none⟩ = some (.slice A2 t2.length c2)) (go_keep) ((go_at_call 17; refine (HREP.out).mono ?_; rintro e w3 ⟨ga, rfl, hga, hra, hb⟩; have HR3 := Aside0.mk (And.intro hga (And.intro hra hb)); have hbk3 := (hb.block _ (blk_lt (blk_alloc HBK4.out _))).trans (blk_alloc HBK4.out _); have HBK3 := Aside0.mk hbk3; have d0 : w3.cell? ⟨b4, 0, none⟩ = some (.slice A0 t0.length c0) := (blk_cell hbk3 0).trans rfl; have d1 : w3.cell? ⟨b4, 1, none⟩ = some (.slice A1 t1.length c1) := (blk_cell hbk3 1).trans rfl; have d2 : w3.cell? ⟨b4, 2, none⟩ = some (.slice A2 t2.length c2) := (blk_cell hbk3 2).trans rfl; have n3 := World.new_ne w3 _ d0; clear hga hra hb hbk3))
      rw [zGiver_set _ _ _ _ (t0.length + t1.length)]
      obtain ⟨g, hg⟩ : ∃ g, w3.heap.size = g := ⟨_, rfl⟩
      obtain ⟨w4, hw4⟩ : ∃ w4, w3.alloc (.cells (gcells (.slice A0 t0.length c0) (.slice A1 t1.length c1) (.slice A2 t2.length c2) (.slice none 0 0) (.slice (some ⟨ga, 0, none⟩) (t0.length + t1.length) (t0.length + t1.length)) (gs0 (t0.length + t1.length))).toArray 56) = w4 := ⟨_, rfl⟩
      rw [hw4, hg]
      have hb34 : Below w3.heap.size w3 w4 := hw4 ▸ below_alloc (Below.refl _ _) _
      have hb13 : Below w1.heap.size w1 w3 := by
        have h_ := below_step HB12.out (below_then (below_drew1 (below_alloc (Below.refl w2.heap.size w2) (.cells #[.int .i64 (-1)] 3))) (by simp) HR3.out.2.2)
        exact h_
      have hb14 : Below w1.heap.size w1 w4 := below_step hb13 hb34
      have hgsz : w4.heap.size = g + 1 := by rw [← hw4, ← hg]; simp
      have hga0 : w2.heap.size + 1 ≤ ga := by have h_ := HR3.out.1; simpa using h_
      have hga1 : ga < g := by rw [← hg]; exact blk_lt HR3.out.2.1
      have hw21 : w2.heap.size = w1.heap.size + 1 := by rw [HSZ2.out, hB4.out]
      have hbw : w.heap.size ≤ w1.heap.size := HB1.out.size
      have hGH : GH w.heap.size w4 g ga (t0.length + t1.length) (.slice A0 t0.length c0) (.slice A1 t1.length c1) (.slice A2 t2.length c2) (.slice none 0 0) (gs0 (t0.length + t1.length)) := by
        refine ⟨?_, List.length_replicate .., ?_, List.length_replicate .., by omega, Kd.R_nil _ _ _ _ _, by omega, by omega, by omega⟩
        · rw [← hw4, ← hg]; exact heap_alloc_new w3 _
        · exact (hb34.block _ (by omega)).trans HR3.out.2.1
      have hbk4 := (hb34.block _ (blk_lt HBK3.out)).trans HBK3.out
      have f0 : w4.cell? ⟨b4, 0, none⟩ = some (.slice A0 t0.length c0) := (blk_cell hbk4 0).trans rfl
      have f1 : w4.cell? ⟨b4, 1, none⟩ = some (.slice A1 t1.length c1) := (blk_cell hbk4 1).trans rfl
      have f2 : w4.cell? ⟨b4, 2, none⟩ = some (.slice A2 t2.length c2) := (blk_cell hbk4 2).trans rfl
      have hlast := regs_last.calls A0 c0 t0 A1 c1 t1 A2 c2 t2 us w4 (Kd.F_now (Kd.F_below HC0.out hb14)) (Kd.F_now (Kd.F_below HC1.out hb14)) (Kd.F_now (Kd.F_below HC2.out hb14)) HUS.out
      have HL := Aside0.mk hlast
      have HGH := Aside0.mk hGH
      have HBK4' := Aside0.mk hbk4
      have HB14 := Aside0.mk hb14
      have HNUM := Aside0.mk (And.intro hgsz (And.intro hga0 (And.intro hga1 (And.intro hw21 hbw))))
      clear hlast hGH hbk4 hb14 hb13 hb34 hgsz hga0 hga1 hw21 hbw hw4 hg n0 n3 d0 d1 d2 hw0 hz1 hz2 HREP HR3 HBK3 HBK4
      go_wp2_with fail
      refine HL.out.mono ?_
      rintro e w5 ⟨gu, rfl, hgu, hur, hul, hb5⟩
      obtain ⟨hgsz, hga0, hga1, hw21, hbw⟩ := HNUM.out
      obtain ⟨n, hn⟩ : ∃ n, t0.length + t1.length = n := ⟨_, rfl⟩
      have hGH5 := HGH.out.step (fun k hk => hb5.block k hk) hb5.size
      have hgulen := blk_lt hur
      have hbk4 := (hb5.block _ (blk_lt HBK4'.out)).trans HBK4'.out
      have hb15 := below_step HB14.out hb5
      have hF0 : Kd.F (Kd.int .i64) w5 (fun k => k < w1.heap.size) A0 t0.length t0 := Kd.F_mono (Kd.F_old HC0.out hb15) (fun k hk => hk.2)
      have hF1 : Kd.F (Kd.slice 62 k62) w5 (fun k => k < w1.heap.size) A1 t1.length t1 := Kd.F_mono (Kd.F_old HC1.out hb15) (fun k hk => hk.2)
      have hF2 : Kd.F (Kd.int .i64) w5 (fun k => k < w1.heap.size) A2 t2.length t2 := Kd.F_mono (Kd.F_old HC2.out hb15) (fun k hk => hk.2)
      have hbp5 := (hb15.block _ (blk_lt HBP1.out)).trans HBP1.out
      have hltp := blk_lt HBP1.out
      have hb4e := hB4.out
      have hsz5 := hb5.size
      have hw5 : Below w.heap.size w w5 := below_step HB1.out hb15
      have hgf : ∀ (w' : World) (sv' : Value), GK w5 w' g ga (.slice none 0 0) sv' → ∀ k, k < w1.heap.size ∨ k = b4 ∨ k = gu → GF g ga sv' k := by
        intro w' sv' hk k hkk
        refine ⟨fun e => by omega, fun e => by omega, fun e => ?_⟩
        rcases hk.own k e.symm with e2 | e2
        · simp [Value.ownBlock] at e2
        · omega
      rw [hn] at hGH5 hul ⊢
      have HNS : Aside0 (NS w5 w5 w.heap.size g ga n (.slice A0 t0.length c0) (.slice A1 t1.length c1) (.slice A2 t2.length c2) (.slice none 0 0) (.slice none 0 0) t0.length (t0.length + 0) (gs0 n)) := ⟨⟨hGH5, GK.refl _ _ _ _, hn ▸ GI.start _ _⟩⟩
      have HGF := Aside0.mk hgf
      have HF0 := Aside0.mk hF0
      have HF1 := Aside0.mk hF1
      have HF2 := Aside0.mk hF2
      have HUR := Aside0.mk hur
      have HUL := Aside0.mk hul
      have HBK5 := Aside0.mk hbk4
      have HBP5 := Aside0.mk hbp5
      have HW5 := Aside0.mk hw5
      have HN := Aside0.mk hn
      have hltp' : bp < w1.heap.size := hltp
      have HLP := Aside0.mk hltp'
      have f0 : w5.cell? ⟨b4, 0, none⟩ = some (.slice A0 t0.length c0) := (blk_cell hbk4 0).trans rfl
      have f1 : w5.cell? ⟨b4, 1, none⟩ = some (.slice A1 t1.length c1) := (blk_cell hbk4 1).trans rfl
      have f2 : w5.cell? ⟨b4, 2, none⟩ = some (.slice A2 t2.length c2) := (blk_cell hbk4 2).trans rfl
      have hmx1 : t1.length ≤ 9223372036854775807 := Kd.F_max hF1
      have hmx2 : t2.length ≤ 9223372036854775807 := Kd.F_max hF2
      obtain ⟨sN, hsN⟩ : ∃ sN, nodesS t0 us 0 t1 (gs0 n) = sN := ⟨_, rfl⟩
      have HSN := Aside0.mk hsN
      have HNI : Aside0 (w.heap.size ≤ g ∧ w.heap.size ≤ ga) := ⟨by omega, by omega⟩
      clear hgsz hga0 hga1 hw21 hbw hGH5 hgulen hbk4 hb15 hF0 hF1 hF2 hbp5 hltp hltp' hb4e hsz5 hw5 hgf hur hul hn hgu hb5 HNUM HB14 HBK4' HGH HL hsN
      go_wp2_with fail
      go_loopw [37] (fun v37 w' => ∃ (i : Nat) (s' : GS) (sv' : Value), i ≤ t1.length ∧ v37 = .int .i64 i ∧ Aside0 (nodesS t0 us i (t1.drop i) s' = sN) ∧ Aside0 (NS w5 w' w.heap.size g ga n (.slice A0 t0.length c0) (.slice A1 t1.length c1) (.slice A2 t2.length c2) (.slice none 0 0) sv' t0.length (t0.length + i) s')) (fun v _ => t1.length - (intOf v).toNat)
      case atStart => exact ⟨0, gs0 n, .slice none 0 0, Nat.zero_le _, rfl, HSN, HNS⟩
      case round =>
        obtain ⟨i, s', sv', hi, rfl, HS', HNi⟩ := hrel
        by_cases hlt : i < t1.length
        · have hd : t1.drop i = rd_L4 t1 (i : Int) :: t1.drop (i + 1) := by
            rw [List.drop_eq_getElem_cons hlt]; simp [rd_L4, hlt]
          have hS := HS'.out
          rw [hd, nodesS] at hS
          have hgf := HGF.out wr sv' HNi.out.k
          have hgf0 := HGF.out w5 _ (GK.refl _ _ _ _)
          have hnode := node_calls A0 c0 t0 A1 c1 t1 us gu i wr HNi.out.h HNi.out.i (Kd.F_mono (Kd.F_step HF0.out (fun k hk hlt => HNi.out.k.block k hlt (hgf0 k (.inl hk)).1 (hgf0 k (.inl hk)).2.1 (hgf0 k (.inl hk)).2.2)) (fun k hk => hgf k (.inl hk)))
            (Kd.F_mono (Kd.F_step HF1.out (fun k hk hlt => HNi.out.k.block k hlt (hgf0 k (.inl hk)).1 (hgf0 k (.inl hk)).2.1 (hgf0 k (.inl hk)).2.2)) (fun k hk => hgf k (.inl hk)))
            (HNi.out.k.heap HUR.out (hgf0 gu (.inr (.inr rfl))).1 (hgf0 gu (.inr (.inr rfl))).2.1 (hgf0 gu (.inr (.inr rfl))).2.2) HUL.out (hgf gu (.inr (.inr rfl))) HG.out.inb hlt HN.out (by have := HN.out; omega) (HG.out.terms i hlt)
          have HNO := Aside0.mk hnode
          have HSS := Aside0.mk hS
          have HG0 := Aside0.mk (hgf0 bp (.inl HLP.out))
          obtain ⟨s6, hs6⟩ : ∃ s6, nodeS t0 us i (rd_L4 t1 (i : Int)) s' = s6 := ⟨_, rfl⟩
          rw [hs6] at HNO HSS
          clear hd hS hgf hgf0 hnode HS' hs6
          by_cases hok : s6.ok = true
          · have HOK := Aside0.mk hok
            clear hok
            go_wp2_with (go_at_call 19; refine HNO.out.mono ?_; rintro e w6 ⟨sv6, rfl, hh6, hk6, hi6⟩; have HN6 : Aside0 (NS w5 w6 w.heap.size g ga n (.slice A0 t0.length c0) (.slice A1 t1.length c1) (.slice A2 t2.length c2) (.slice none 0 0) sv6 t0.length (t0.length + (i + 1)) s6) := ⟨⟨hh6, HNi.out.k.trans hk6, hi6⟩⟩; have hok : w6.cell? ⟨g, 264, none⟩ = some (.bool true) := HOK.out ▸ hh6.c 264 _ (gc_ok _ _ _ _ _ _ hh6.len); clear hh6 hk6 hi6 HNO)
            go_roundw
            case rel => exact ⟨i + 1, s6, sv6, by omega, by go_num, HSS, HN6⟩
            case measure => simp [intOf]; omega
          · have HOK := Aside0.mk (show s6.ok = false by simpa using hok)
            clear hok
            go_wp2_with (go_at_call 19; refine HNO.out.mono ?_; rintro e w6 ⟨sv6, rfl, hh6, hk6, hi6⟩; have hok : w6.cell? ⟨g, 264, none⟩ = some (.bool false) := HOK.out ▸ hh6.c 264 _ (gc_ok _ _ _ _ _ _ hh6.len); have HBP6 := Aside0.mk ((HNi.out.k.trans hk6).heap HBP5.out HG0.out.1 HG0.out.2.1 HG0.out.2.2); have HK6 := Aside0.mk (HNi.out.k.trans hk6); have hb0 : w6.cell? ⟨bp, 0, none⟩ = some (.slice none 0 0) := (blk_cell HBP6.out 0).trans rfl; have hb1 : w6.cell? ⟨bp, 1, none⟩ = some (.int .i64 0) := (blk_cell HBP6.out 1).trans rfl; have hb2 : w6.cell? ⟨bp, 2, none⟩ = some (.int .i64 0) := (blk_cell HBP6.out 2).trans rfl; have hb3 : w6.cell? ⟨bp, 3, none⟩ = some (.int .u64 0) := (blk_cell HBP6.out 3).trans rfl; have hz0 := blk_frozen HBP6.out 0; have hz1 := blk_frozen HBP6.out 1; have hz2 := blk_frozen HBP6.out 2; have hz3 := blk_frozen HBP6.out 3; clear hh6 hk6 hi6 HNO)
            refine bodyPost_ret (giveRet rfl rfl (blk_put (cs := #[.slice none 0 0, .int .i64 0, .int .i64 0, .int .u64 0]) (blk_put (cs := #[.slice none 0 0, .int .i64 0, .int .i64 0, .int .u64 0]) (blk_put (cs := #[.slice none 0 0, .int .i64 0, .int .i64 0, .int .u64 0]) (blk_put (cs := #[.slice none 0 0, .int .i64 0, .int .i64 0, .int .u64 0]) HBP6.out 0 _ rfl) 1 _ rfl) 2 _ rfl) 3 _ rfl)) rfl ?_
            have h4 := H4.out
            have hf : (giveS t0 t1 t2 us).ok = false := by
              unfold giveS
              rw [HN.out, HSN.out, ← HSS.out]
              exact outs_ok _ _ _ _ (nodes_ok _ _ _ _ _ HOK.out)
            rw [if_neg (by rw [hf]; decide)] at h4
            simp only [Option.some.injEq, Prod.mk.injEq] at h4
            obtain ⟨rfl, rfl, rfl, rfl, rfl⟩ := h4
            exact ⟨_, rfl, Kd.R_nil _ _ _ _ _, below_set (below_set (below_set (below_set (GK.below HW5.out HK6.out HNI.out.1 HNI.out.2) hwb) hwb) hwb) hwb⟩
        · obtain rfl : i = t1.length := by omega
          have hS := HS'.out
          rw [List.drop_length, nodesS] at hS
          subst hS
          have hgf0 := HGF.out w5 _ (GK.refl _ _ _ _)
          have hbk := HNi.out.k.heap HBK5.out (hgf0 b4 (.inr (.inl rfl))).1 (hgf0 b4 (.inr (.inl rfl))).2.1 (hgf0 b4 (.inr (.inl rfl))).2.2
          have f2 : wr.cell? ⟨b4, 2, none⟩ = some (.slice A2 t2.length c2) := (blk_cell hbk 2).trans rfl
          obtain ⟨sE, hsE⟩ : ∃ sE, outsS t0 0 t2 s' = sE := ⟨_, rfl⟩
          have HSE := Aside0.mk hsE
          clear hsE hbk hgf0 hi hlt HS'
          go_wp2_with fail
          go_loopw [54] (fun v54 w' => ∃ (d : Nat) (sd : GS) (svd : Value), d ≤ t2.length ∧ v54 = .int .i64 d ∧ Aside0 (outsS t0 d (t2.drop d) sd = sE) ∧ Aside0 (NS w5 w' w.heap.size g ga n (.slice A0 t0.length c0) (.slice A1 t1.length c1) (.slice A2 t2.length c2) (.slice none 0 0) svd t0.length (t0.length + t1.length) sd)) (fun v _ => t2.length - (intOf v).toNat)
          case atStart => exact ⟨0, s', sv', Nat.zero_le _, rfl, HSE, HNi⟩
          case round =>
            clear f2
            obtain ⟨d, sd, svd, hd, rfl, HSd, HNd⟩ := hrel
            have hgf0 := HGF.out w5 _ (GK.refl _ _ _ _)
            have hFF0 : Kd.F (Kd.int .i64) wr (fun k => k < w1.heap.size) A0 t0.length t0 := Kd.F_step HF0.out (fun k hk hlt => HNd.out.k.block k hlt (hgf0 k (.inl hk)).1 (hgf0 k (.inl hk)).2.1 (hgf0 k (.inl hk)).2.2)
            have hFF2 : Kd.F (Kd.int .i64) wr (fun k => k < w1.heap.size) A2 t2.length t2 := Kd.F_step HF2.out (fun k hk hlt => HNd.out.k.block k hlt (hgf0 k (.inl hk)).1 (hgf0 k (.inl hk)).2.1 (hgf0 k (.inl hk)).2.2)
            have hbpd := HNd.out.k.heap HBP5.out (hgf0 bp (.inl HLP.out)).1 (hgf0 bp (.inl HLP.out)).2.1 (hgf0 bp (.inl HLP.out)).2.2
            have hbkd := HNd.out.k.heap HBK5.out (hgf0 b4 (.inr (.inl rfl))).1 (hgf0 b4 (.inr (.inl rfl))).2.1 (hgf0 b4 (.inr (.inl rfl))).2.2
            by_cases hlt : d < t2.length
            · obtain ⟨adv, rfl, hv0⟩ := Kd.at_int (Kd.F_now hFF2) (d : Int) (by omega) (by omega)
              have hdr : t2.drop d = rd t2 (d : Int) :: t2.drop (d + 1) := by
                rw [List.drop_eq_getElem_cons hlt]; simp [rd, hlt]
              have hmem : rd t2 (d : Int) ∈ t2 := by
                have : rd t2 (d : Int) = t2[d] := by simp [rd, hlt]
                rw [this]; exact List.getElem_mem _
              have hb := HG.out.outb _ hmem
              have hS := HSd.out
              rw [hdr, outsS] at hS
              obtain ⟨v, hv⟩ : ∃ v : Nat, rd t2 (d : Int) = (v : Int) := ⟨(rd t2 (d : Int)).toNat, by omega⟩
              rw [hv] at hv0 hS
              simp only [Int.toNat_natCast] at hv0 hS
              have hnn := HN.out
              have hvn : v < n := by omega
              have hgf := HGF.out wr svd HNd.out.k
              have hld := load_calls A0 c0 t0 v wr HNd.out.h (fun w' sv'' hk => Kd.F_now (Kd.F_step hFF0 (fun k hkk hlt => hk.block k hlt (hgf k (.inl hkk)).1 (hgf k (.inl hkk)).2.1 (hgf k (.inl hkk)).2.2))) HG.out.inb hvn (by omega) HNd.out.i.regs HNd.out.i.steps
              have HLD := Aside0.mk hld
              have HSS := Aside0.mk hS
              have hi2 := HNd.out.i.load HNd.out.h.len t0 v (by have := HNd.out.h.la; omega)
              have HI2 := Aside0.mk hi2
              obtain ⟨s7, hs7⟩ : ∃ s7, loadS sd t0 v = s7 := ⟨_, rfl⟩
              rw [hs7] at HLD HSS HI2
              have hv1 : (0 : Int) ≤ (v : Int) := by omega
              have hv2 : (v : Int) < (n : Int) := by omega
              clear hdr hmem hb hS hv hnn hgf hld hi2 hs7 hgf0 hFF0 hFF2 hbpd hbkd HSd
              go_wp2_with (first | (go_at_call 20; refine HLD.out.mono ?_; rintro e w6 ⟨sv6, rfl, hh6, hk6⟩; have HN6 : Aside0 (NS w5 w6 w.heap.size g ga n (.slice A0 t0.length c0) (.slice A1 t1.length c1) (.slice (some adv) t2.length c2) (.slice none 0 0) sv6 t0.length (t0.length + t1.length) s7) := ⟨⟨hh6, HNd.out.k.trans hk6, HI2.out⟩⟩; have hat : w6.cell? ⟨g, 263, none⟩ = some (.slice (some ⟨ga, 0, none⟩) n n) := hh6.c 263 _ (gc_at _ _ _ _ _ _ hh6.len); have hav : w6.cell? ⟨ga, v, none⟩ = some (.int .i64 (atS s7 v)) := cell_enc hh6.ra v (by have h_ := hh6.la; omega); clear hh6 hk6 HLD hv0) | (go_at_call 21; refine (step_calls ⟨4, d, atS s7 v, 0⟩ _ HN6.out.h HN6.out.i.steps).mono ?_; rintro e w7 ⟨sv7, rfl, hh7, hk7⟩; have HN7 : Aside0 (NS w5 w7 w.heap.size g ga n (.slice A0 t0.length c0) (.slice A1 t1.length c1) (.slice (some adv) t2.length c2) (.slice none 0 0) sv7 t0.length (t0.length + t1.length) (stepS s7 ⟨4, d, atS s7 v, 0⟩)) := ⟨⟨hh7, HN6.out.k.trans hk7, HN6.out.i.step _⟩⟩; clear hh7 hk7))
              go_roundw
              case rel => exact ⟨d + 1, _, sv7, by omega, by go_num, HSS, HN7⟩
              case measure => simp [intOf]; omega
            · obtain rfl : d = t2.length := by omega
              have hS := HSd.out
              rw [List.drop_length, outsS] at hS
              subst hS
              have hfin : giveS t0 t1 t2 us = sd := by unfold giveS; rw [HN.out, HSN.out, HSE.out]
              have h4 := H4.out
              rw [hfin] at h4
              have HBPd := Aside0.mk hbpd
              have hb0 : wr.cell? ⟨bp, 0, none⟩ = some (.slice none 0 0) := (blk_cell hbpd 0).trans rfl
              have hb1 : wr.cell? ⟨bp, 1, none⟩ = some (.int .i64 0) := (blk_cell hbpd 1).trans rfl
              have hb2 : wr.cell? ⟨bp, 2, none⟩ = some (.int .i64 0) := (blk_cell hbpd 2).trans rfl
              have hb3 : wr.cell? ⟨bp, 3, none⟩ = some (.int .u64 0) := (blk_cell hbpd 3).trans rfl
              have hz0 := blk_frozen hbpd 0
              have hz1 := blk_frozen hbpd 1
              have hz2 := blk_frozen hbpd 2
              have hz3 := blk_frozen hbpd 3
              by_cases hok : sd.ok = true
              · rw [if_pos hok] at h4
                simp only [Option.some.injEq, Prod.mk.injEq] at h4
                obtain ⟨rfl, rfl, rfl, rfl, rfl⟩ := h4
                obtain ⟨As, cs, rfl⟩ := Kd.R_slice HNd.out.h.rs
                have hk264 : wr.cell? ⟨g, 264, none⟩ = some (.bool true) := hok ▸ HNd.out.h.c 264 _ (gc_ok _ _ _ _ _ _ HNd.out.h.len)
                have hf2 : wr.cell? ⟨b4, 2, none⟩ = some (.slice A2 t2.length c2) := (blk_cell hbkd 2).trans rfl
                have hg3 := HNd.out.h.c 3 _ rfl
                have hg4 := HNd.out.h.c 4 _ rfl
                have hg5 := HNd.out.h.c 5 _ rfl
                have hg6 := HNd.out.h.c 6 _ rfl
                have hgz := HNd.out.h.fz 5
                have hbg : bp ≠ g := (hgf0 bp (.inl HLP.out)).1
                have hbg2 : ¬ bp = g := hbg
                have hgb2 : ¬ g = bp := fun e => hbg e.symm
                have HNE := Aside0.mk (And.intro hbg2 hgb2)
                clear hgf0 hFF0 hFF2 hbkd HSd hd hlt hfin hok hbg hbpd
                go_wp2_with fail
                refine bodyPost_ret (giveRet rfl rfl (blk_put (cs := #[.slice As sd.steps.length cs, .int .i64 sd.regs, .int .i64 t2.length, .int .u64 0]) (blk_put (cs := #[.slice As sd.steps.length cs, .int .i64 sd.regs, .int .i64 0, .int .u64 0]) (blk_put (cs := #[.slice As sd.steps.length cs, .int .i64 0, .int .i64 0, .int .u64 0]) (blk_put (cs := #[.slice none 0 0, .int .i64 0, .int .i64 0, .int .u64 0]) ((Below.heap_setCell _ _ _ _ HNE.out.1).trans HBPd.out) 0 _ rfl) 1 _ rfl) 2 _ rfl) 3 _ rfl)) rfl ?_
                refine ⟨_, rfl, ?_, below_set (below_set (below_set (below_set (below_set (GK.below HW5.out HNd.out.k HNI.out.1 HNI.out.2) HNI.out.1) hwb) hwb) hwb) hwb⟩
                have hR : Kd.R k38 38 wr w.heap.size (fun k => k ≠ g ∧ k ≠ bp) (.slice As sd.steps.length cs) sd.steps := R38_okOf HNd.out.h.rs (fun k e => ⟨(HNd.out.h.rs.1 k e).1, fun e2 => by
                  have h_ := HNd.out.k.own k e
                  rcases h_ with h_ | h_
                  · simp [Value.ownBlock] at h_
                  · have := blk_lt HBP5.out; omega⟩)
                have h1 := Kd.R_far hR (p := ⟨g, 5, none⟩) (fun k hk => hk.1) (Value.int .i64 t2.length)
                have h2 := Kd.R_far h1 (p := ⟨bp, 0, none⟩) (fun k hk => hk.2) (Value.slice As sd.steps.length cs)
                have h3 := Kd.R_far h2 (p := ⟨bp, 1, none⟩) (fun k hk => hk.2) (Value.int .i64 sd.regs)
                have h4 := Kd.R_far h3 (p := ⟨bp, 2, none⟩) (fun k hk => hk.2) (Value.int .i64 t2.length)
                have h5 := Kd.R_far h4 (p := ⟨bp, 3, none⟩) (fun k hk => hk.2) (Value.int .u64 sd.reads)
                exact Kd.R_mono h5 (fun _ _ => trivial)
              · have hokf : sd.ok = false := by simpa using hok
                rw [if_neg hok] at h4
                simp only [Option.some.injEq, Prod.mk.injEq] at h4
                obtain ⟨rfl, rfl, rfl, rfl, rfl⟩ := h4
                have hk264 : wr.cell? ⟨g, 264, none⟩ = some (.bool false) := hokf ▸ HNd.out.h.c 264 _ (gc_ok _ _ _ _ _ _ HNd.out.h.len)
                clear hgf0 hFF0 hFF2 hbkd HSd hd hlt hfin hok hokf hbpd
                go_wp2_with fail
                refine bodyPost_ret (giveRet rfl rfl (blk_put (cs := #[.slice none 0 0, .int .i64 0, .int .i64 0, .int .u64 0]) (blk_put (cs := #[.slice none 0 0, .int .i64 0, .int .i64 0, .int .u64 0]) (blk_put (cs := #[.slice none 0 0, .int .i64 0, .int .i64 0, .int .u64 0]) (blk_put (cs := #[.slice none 0 0, .int .i64 0, .int .i64 0, .int .u64 0]) HBPd.out 0 _ rfl) 1 _ rfl) 2 _ rfl) 3 _ rfl)) rfl ?_
                exact ⟨_, rfl, Kd.R_nil _ _ _ _ _, below_set (below_set (below_set (below_set (GK.below HW5.out HNd.out.k HNI.out.1 HNI.out.2) hwb) hwb) hwb) hwb⟩
    · rw [if_neg hgt] at h3; cases h3
  · have hb : (e0 == 0) = false := beq_eq_false_iff_ne.2 he
    have h3 := H2.out
    rw [if_neg he] at h3
    simp only [Option.some.injEq, Prod.mk.injEq] at h3
    obtain ⟨rfl, rfl, rfl, rfl, rfl⟩ := h3
    have hb0 : w1.cell? ⟨bp, 0, none⟩ = some (.slice none 0 0) := (blk_cell HBP1.out 0).trans rfl
    have hb1 : w1.cell? ⟨bp, 1, none⟩ = some (.int .i64 0) := (blk_cell HBP1.out 1).trans rfl
    have hb2 : w1.cell? ⟨bp, 2, none⟩ = some (.int .i64 0) := (blk_cell HBP1.out 2).trans rfl
    have hb3 : w1.cell? ⟨bp, 3, none⟩ = some (.int .u64 0) := (blk_cell HBP1.out 3).trans rfl
    have hz0 := blk_frozen HBP1.out 0
    have hz1 := blk_frozen HBP1.out 1
    have hz2 := blk_frozen HBP1.out 2
    have hz3 := blk_frozen HBP1.out 3
    clear H2
    go_wp2_with fail
    refine bodyPost_ret (giveRet rfl rfl (blk_alloc (blk_put (cs := #[.slice none 0 0, .int .i64 0, .int .i64 0, .int .u64 0]) (blk_put (cs := #[.slice none 0 0, .int .i64 0, .int .i64 0, .int .u64 0]) (blk_put (cs := #[.slice none 0 0, .int .i64 0, .int .i64 0, .int .u64 0]) (blk_put (cs := #[.slice none 0 0, .int .i64 0, .int .i64 0, .int .u64 0]) HBP1.out 0 _ rfl) 1 _ rfl) 2 _ rfl) 3 _ rfl) _)) rfl ?_
    exact ⟨_, rfl, Kd.R_nil _ _ _ _ _, below_alloc (below_set (below_set (below_set (below_set HB1.out hwb) hwb) hwb) hwb) _⟩

end Go.Proofs.Ytlflfpkjbjbldaa.PA
