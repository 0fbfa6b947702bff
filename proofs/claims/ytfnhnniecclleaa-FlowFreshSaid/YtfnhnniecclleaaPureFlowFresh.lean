/- FlowFresh: whatever the flow, the blocks and the matrix, all that the law calls answers as its walk asks. No condition. -/
import Derived.Test.YtfnhnniecclleaaPAFresh
import Derived.Test.YtfnhnniecclleaaTrim
import Derived.Test.YtfnhnniecclleaaPureFlowBack
namespace Go.Proofs.Ytfnhnniecclleaa.Spec
open Go.RowKit Go.Proofs.Ytfnhnniecclleaa.PA Go.Proofs.YtfnhnniecclleaaW.PrintWords Go.Proofs.YtfnhnniecclleaaW.PrintLast
theorem fNodes_le (ins : List Int) (nodes : List (List S64)) (h : List Bool) : ∀ v, (fNodes ins nodes h v).length ≤ v
  | 0 => by simp [fNodes]
  | v + 1 => by
    have := fNodes_le ins nodes h v
    rw [fNodes]
    split
    · split
      · omega
      · simp; omega
    · omega
theorem copy1 (l : List Int) (h : l.length < 140737488355328) : recoupref01_Copy.f l = some l := by
  simp [recoupref01_Copy.f, h]
theorem copyBlocks_l0 (X : List (List Int)) (hX : X.length < 5864062014805) (hr : ∀ x ∈ X, x.length < 140737488355328) (d : Nat) : ∀ (i k : Nat), i + d = X.length → d < k → recoupref21_CopyBlocks.l0 k X (X.take i) (i : Int) = some X := by
  induction d with
  | zero =>
    intro i k hi hk
    obtain ⟨k, rfl⟩ : ∃ m, k = m + 1 := ⟨k - 1, by omega⟩
    simp only [recoupref21_CopyBlocks.l0]
    rw [if_neg (by omega), List.take_of_length_le (by omega)]
  | succ d ih =>
    intro i k hi hk
    obtain ⟨k, rfl⟩ : ∃ m, k = m + 1 := ⟨k - 1, by omega⟩
    have hil : i < X.length := by omega
    simp only [recoupref21_CopyBlocks.l0]
    rw [if_pos (by omega), if_pos (by omega), rd9 X i hil, copy1 _ (hr _ (List.getElem_mem hil)), Option.bind_some, if_pos (by rw [List.length_take]; omega), w64 (by omega) (by omega), i1, ← List.take_succ_eq_append_getElem hil]
    exact ih (i + 1) k (by omega) (by omega)
theorem copyBlocks_k (X : List (List Int)) (hX : X.length < 5864062014805) (hr : ∀ x ∈ X, x.length < 140737488355328) (k : Nat) (hk : X.length < k) : recoupref21_CopyBlocks.f k X = some X := copyBlocks_l0 X hX hr X.length 0 k (by omega) hk
theorem copyFlow_l0 (I : List Int) (N : List (List S64)) (O : List Int) (hI : I.length < 17592186044416) (hN : N.length < 5864062014805) (hr : ∀ x ∈ N, x.length < 8796093022208) (hO : O.length < 17592186044416) (d : Nat) : ∀ (i k : Nat), i + d = N.length → d < k → recoupref21_Copy.l0 k (N.take i) (i : Int) I N O = some (I, N, O) := by
  induction d with
  | zero =>
    intro i k hi hk
    obtain ⟨k, rfl⟩ : ∃ m, k = m + 1 := ⟨k - 1, by omega⟩
    simp only [recoupref21_Copy.l0]
    rw [if_neg (by omega), List.take_of_length_le (by omega)]
    simp [hI, hO]
  | succ d ih =>
    intro i k hi hk
    obtain ⟨k, rfl⟩ : ∃ m, k = m + 1 := ⟨k - 1, by omega⟩
    have hil : i < N.length := by omega
    have hrow := hr _ (List.getElem_mem hil)
    have hrd : rd_L4 N (i : Int) = N[i] := by simp [rd_L4, hil]
    simp only [recoupref21_Copy.l0]
    rw [if_pos (by omega), Option.bind_some, if_pos (by omega), hrd, if_pos (by simpa using hrow), if_pos (by rw [List.length_take]; omega), w64 (by omega) (by omega), i1, List.nil_append, ← List.take_succ_eq_append_getElem hil]
    exact ih (i + 1) k (by omega) (by omega)
theorem trim_any {x : S25} (h : FlowI x) : ∃ tI tN tO te, Ev (fun k => flow_Trim.f k x.f0 x.f1 x.f2) (tI, tN, tO, te) ∧ tN.length < 4611686018427387904 := by
  by_cases c : mayB x.f0 x.f1 x.f2 = true
  · obtain ⟨W, _, hE⟩ := flow_Trim_ev (good_of_may c) c
    refine ⟨_, _, _, _, hE, ?_⟩
    have h1 := fNodes_le x.f0 x.f1 W (x.f0.length + x.f1.length)
    have := h.1.1
    have := h.2.1.1
    omega
  · refine ⟨[], [], [], 2, ?_, by simp⟩
    refine Ev.congr (fun k => rfl) (Ev.bind (flow_May_ev x.f0 x.f1 x.f2 (fun l hl => by have := (h.2.1.2 l hl).1; omega)) ?_)
    simp only [c]
    exact Ev.now _
theorem rdL9_le {B : Nat} {V : List (List Int)} (h : ∀ v ∈ V, v.length ≤ B) (i : Int) : (rd_L9 V i).length ≤ B := by
  simp only [rd_L9, List.getD_eq_getElem?_getD]
  cases e : V[i.toNat]? with
  | none => simp
  | some v => exact h v (List.mem_of_getElem? e)
theorem rowF_le (V : List (List Int)) : ∀ (l : List S64) (acc : List Int), (rowF V acc l).length ≤ acc.length
  | [], acc => Nat.le_refl _
  | t :: r, acc => by
    rw [rowF]
    refine Nat.le_trans (rowF_le V r _) ?_
    rw [xorB, List.length_zipWith]
    exact Nat.min_le_left _ _
theorem runF_le {B : Nat} (L : Nat) (hL : L ≤ B) : ∀ (nodes : List (List S64)) (V : List (List Int)), (∀ v ∈ V, v.length ≤ B) → ∀ v ∈ runF L V nodes, v.length ≤ B
  | [], V, h => h
  | ts :: r, V, h => by
    rw [runF]
    refine runF_le L hL r _ (fun v hv => ?_)
    rcases List.mem_append.1 hv with hv | hv
    · exact h v hv
    · rw [List.mem_singleton.1 hv]
      refine Nat.le_trans (rowF_le V ts _) ?_
      rw [List.length_replicate]
      exact hL
theorem runB_row {x : S25} {bl : List (List Int)} (hb : BlI bl) : ∀ y ∈ (runB x.f0 x.f1 x.f2 bl).1, y.length ≤ 140737488351232 := by
  have h0 : ∀ v ∈ bl, v.length ≤ 140737488351232 := fun v hv => by have := (hb.2 v hv).1; omega
  unfold runB
  split
  · unfold runV
    split
    · unfold frontV
      split
      · simp
      · intro y hy
        obtain ⟨o, _, rfl⟩ := List.mem_map.1 hy
        refine rdL9_le (runF_le (lenB bl) (rdL9_le h0 0) _ _ (fun v hv => ?_)) o
        obtain ⟨u, _, rfl⟩ := List.mem_map.1 hv
        exact rdL9_le h0 u
    · simp
  · simp
theorem flowFresh {x : S25} {bl : List (List Int)} (h : FlowI x) (hb : BlI bl) (r c : Int) (d : List Int) (hd : d.length * 1 ≤ 140737488351232) (hdb : byteL d) : ∃ k, recouplaw21_FlowFresh.f k x.f0 x.f1 x.f2 bl r c d = some true := by
  obtain ⟨tI, tN, tO, te, ⟨K1, e1⟩, ht⟩ := trim_any h
  obtain ⟨K2, e2⟩ := flow_Of_ev r c d hdb
  obtain ⟨K3, e3⟩ := flow_Run_ev h hb.1 (bli_bytes hb)
  obtain ⟨K4, e4⟩ := ref_Run_ev h hb.1 (bli_bytes hb)
  obtain ⟨K5, e5⟩ := anchored_ev
  have hrow := runB_row (x := x) hb
  have hlen := runB_len (ins := x.f0) (nodes := x.f1) (outs := x.f2) bl
  obtain ⟨K6, e6⟩ := rsame_ev x.f0 x.f1 x.f2 x.f0 x.f1 x.f2 (by have := h.1.1; omega) (fun l hl => by have := (h.2.1.2 l hl).1; omega) (by have := h.2.2.1; omega) (by have := h.2.1.1; omega)
  obtain ⟨K7, e7⟩ := blocks_refl bl (by have := hb.1; omega)
  obtain ⟨K8, e8⟩ := blocks_refl (runB x.f0 x.f1 x.f2 bl).1 (by omega)
  obtain ⟨k, hk⟩ : ∃ k, k = K1 + K2 + K3 + K4 + K5 + K6 + K7 + K8 + bl.length + x.f1.length + 65 := ⟨_, rfl⟩
  have hI := h.1.1
  have hN := h.2.1.1
  have hO := h.2.2.1
  have hB := hb.1
  refine ⟨k, if_pos ⟨?_, ?_, ?_, ⟨tI, tN, tO, te, e1 k (by omega), ht⟩, ⟨_, _, _, _, e2 k (by omega)⟩, ⟨(runB x.f0 x.f1 x.f2 bl).1, (runB x.f0 x.f1 x.f2 bl).2, e3 k (by omega), by omega, fun y hy => ?_, fun X hX => ?_, (runB x.f0 x.f1 x.f2 bl).1, e4 k (by omega), e8 k (by omega)⟩, e5 k (by omega), ?_, e7 k (by omega), like_refl r c d⟩⟩
  · exact copyFlow_l0 x.f0 x.f1 x.f2 (by omega) (by omega) (fun l hl => by have := (h.2.1.2 l hl).1; omega) (by omega) x.f1.length 0 k (by omega) (by omega)
  · exact copyBlocks_k bl (by omega) (fun l hl => by have := (hb.2 l hl).1; omega) k (by omega)
  · simp only [recoupref03_Copy.f, copy1 d (by omega), Option.bind_some]
  · have := hrow y hy; omega
  · have hl : X.length = (runB x.f0 x.f1 x.f2 bl).1.length := by simpa using congrArg List.length hX
    refine copyBlocks_k X (by omega) (fun y hy => ?_) k (by omega)
    have : y.length ∈ (runB x.f0 x.f1 x.f2 bl).1.map List.length := hX ▸ List.mem_map_of_mem hy
    obtain ⟨z, hz, e⟩ := List.mem_map.1 this
    have := hrow z hz
    omega
  · have := e6 k (by omega)
    rwa [sameB_refl] at this
end Go.Proofs.Ytfnhnniecclleaa.Spec
namespace Go.Proofs.Ytfnhnniecclleaa.Pure
open Go.RowKit Go.Proofs.Ytfnhnniecclleaa.PA Go.Proofs.YtfnhnniecclleaaW.PrintWords Go.Proofs.YtfnhnniecclleaaW.PrintLast Go.Proofs.Ytfnhnniecclleaa.Spec
theorem FlowFresh : ∀ (x0 : S25) (x1 : List (List Int)) (x2 : S47), FlowI x0 → BlI x1 → ((Lit.int .i64 x2.f0).wf = true ∧ (Lit.int .i64 x2.f1).wf = true ∧ (x2.f2.length * 1 ≤ 140737488351232 ∧ ∀ y ∈ x2.f2, (Lit.int .u8 y).wf = true)) → ∃ k, recouplaw21_FlowFresh.f k x0.f0 x0.f1 x0.f2 x1 x2.f0 x2.f1 x2.f2 = some true := fun _ _ _ h hb hm => flowFresh h hb _ _ _ hm.2.2.1 (fun y hy => wf_u8 (hm.2.2.2 y hy))
end Go.Proofs.Ytfnhnniecclleaa.Pure
