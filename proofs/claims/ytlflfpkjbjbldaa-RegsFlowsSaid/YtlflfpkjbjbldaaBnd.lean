/- The giver's program is one that the machine takes: registers, steps and their bytes. -/
import Derived.Test.YtlflfpkjbjbldaaSimO
import Derived.Test.YtlflfpkjbjbldaaLast
import Derived.Test.YtlflfpkjbjbldaaValF
namespace Go.Proofs.Ytlflfpkjbjbldaa.Spec
open Go.RowKit Go.Proofs.Ytlflfpkjbjbldaa.PA Go.Proofs.YtlflfpkjbjbldaaW.PrintWords Go.Proofs.YtlflfpkjbjbldaaW.PrintLast Go.Proofs.YtlflfpkjbjbldaaW.PrintMore
set_option linter.unusedVariables false
theorem runF_ok {L : Nat} : ∀ (N : List (List S62)) (P : List (List Int)), OkB L P → (∀ j (h : j < N.length), termIn (P.length + j) N[j]) → OkB L (runF L P N)
  | [], P, h, _ => h
  | x :: r, P, h, ht => by
    have h0 := ht 0 (by simp)
    simp only [List.getElem_cons_zero, Nat.add_zero] at h0
    have := rowF_ok h x (List.replicate L 0) h0 (by simp) (rep_byte L)
    rw [runF]
    refine runF_ok r _ (ok_snoc h this.1 this.2) (fun j hj => ?_)
    have := ht (j + 1) (by simpa using hj)
    simp only [List.getElem_cons_succ] at this
    rw [List.length_append, List.length_singleton, show P.length + 1 + j = P.length + (j + 1) from by omega]; exact this
theorem gs0_at (n u : Nat) (h : u < n) : atS (gs0 n) u = -1 := by
  show (List.replicate n (-1 : Int)).getD u 0 = -1
  rw [List.getD_eq_getElem?_getD, List.getElem?_replicate, if_pos h]; rfl
theorem give_runs {I : List Int} {N : List (List S62)} {O us : List Int} {bl : List (List Int)} (hm : mayB I N O = true) (hr : Runs I N O bl) (ha : bl.all (fun b => decide (b.length = lenB bl)) = true) (hi : I.any (fun v => decide (v ≥ (bl.length : Int))) = false) (hL : lenB bl ≤ 140737488351232)
    (hus : regs_last.f I N O = some us) (hok : (giveS I N O us).ok = true) : ∃ R', runS (lenB bl) bl (giveS I N O us).steps (List.replicate (giveS I N O us).regs.toNat none) (List.replicate O.length none) = some (some (R', outC (runF (lenB bl) (pickB bl I) N) O 0)) := by
  have hg := good_of_may hm
  have hF := FI.give (may_inj hm) N O us
  have hreg := hF.rg.1
  have hG := may_GT hm
  obtain ⟨hl1, hl2⟩ := last_spec hus
  have hP : (pickB bl I).length = I.length := by rw [pickB, List.length_map]
  have hts := runs_terms hr
  have hPok := pick_ok hr ha hi
  have hVok := runF_ok N (pickB bl I) hPok (fun j hj => by rw [hP]; exact (hts j hj).1)
  have hVl : (runF (lenB bl) (pickB bl I) N).length = I.length + N.length := by rw [runF_len, hP]
  have hb : ∀ u : Nat, u < I.length → inR (rd I u) bl.length := fun u hu => by
    rw [rd_get I u hu]
    have h1 := hG.inb _ (List.getElem_mem hu)
    have h2 := List.any_eq_false.1 hi _ (List.getElem_mem hu)
    simp only [decide_eq_true_eq] at h2
    unfold inR; omega
  have hc : ∀ u : Nat, u < I.length → rd_L13 (runF (lenB bl) (pickB bl I) N) (u : Int) = rd_L13 bl (rd I u) := fun u hu => by
    rw [runF_pre _ N _ u (by omega), rd9 _ u (by omega), rd_get I u hu]
    simp only [pickB, List.getElem_map]
  generalize hV : runF (lenB bl) (pickB bl I) N = V at *
  have h0 : SI (lenB bl) bl (I.length + N.length) (giveS I N O us).regs.toNat O.length (gs0 (I.length + N.length)) (LvU us 0) (fun u => rd_L13 V (u : Int)) (List.replicate (giveS I N O us).regs.toNat none) (outC V [] O.length) :=
    ⟨rfl, List.length_replicate, rfl, List.length_replicate, List.length_replicate, fun u hu => by rw [gs0_at _ u hu]; show (-1 : Int) < 0; decide, fun u hu _ h => by rw [gs0_at _ u hu] at h; omega, fun u v hu _ _ _ h => by rw [gs0_at _ u hu] at h; omega⟩
  have hok1 : (nodesS I us 0 N (gs0 (I.length + N.length))).ok = true := not_ok (fun e => outs_ok I O 0 _ e) hok
  have hK : (outsS I 0 O (nodesS I us 0 N (gs0 (I.length + N.length)))).regs ≤ ((giveS I N O us).regs.toNat : Int) := by
    show (giveS I N O us).regs ≤ _; omega
  obtain ⟨R1, h1, h2⟩ := SI.nodes hL I V hb hc N 0 _ _ (by omega) h0 (fun u a b => by rw [gs0_at _ u b]; decide) (fun u a b => by omega) (fun j hj => by
    rw [Nat.zero_add]
    refine ⟨?_, fun t ht => ?_⟩
    · have := runF_row (lenB bl) N (pickB bl I) j hj (fun t ht => by have := hg.term j hj t ht; rw [hP]; omega)
      rw [hV, hP] at this; exact this
    · obtain ⟨a, b, c, d⟩ := (hts j hj).1 t ht
      have h3 := ok_rd hVok a (by rw [hVl]; omega)
      exact ⟨a, b, hl1 j hj t ht, c, d, h3.1, h3.2⟩) hok1 (Int.le_trans (outs_regs I O 0 _) hK)
  rw [Nat.zero_add] at h1
  obtain ⟨R2, h3⟩ := SI.outs I V (by omega) hb hc O [] _ R1 (by simp) h1 h2 (fun v hv => by
    have := hg.outs v hv
    exact ⟨this.1, by omega, hl2 v hv⟩) hok hK
  exact ⟨R2, h3⟩
end Go.Proofs.Ytlflfpkjbjbldaa.Spec

namespace Go.Proofs.Ytlflfpkjbjbldaa.Spec
open Go.RowKit Go.Proofs.Ytlflfpkjbjbldaa.PA Go.Proofs.YtlflfpkjbjbldaaW.PrintWords Go.Proofs.YtlflfpkjbjbldaaW.PrintLast Go.Proofs.YtlflfpkjbjbldaaW.PrintMore
set_option linter.unusedVariables false
structure Bnd (s : GS) : Prop where
  tl : s.taken.length = 256
  rg : 0 ≤ s.regs ∧ s.regs ≤ 256
  sl : s.steps.length ≤ 65536
  by3 : ∀ x ∈ s.steps, 0 ≤ x.f3 ∧ x.f3 < 256
theorem Bnd.step {s : GS} (h : Bnd s) (x : S38) (hx : 0 ≤ x.f3 ∧ x.f3 < 256) : Bnd (stepS s x) :=
  ⟨by rw [taken_step]; exact h.tl, by rw [regs_step]; exact h.rg, stepS_len s x h.sl, fun y hy => by
    unfold stepS at hy
    split at hy
    · exact h.by3 y hy
    · rcases List.mem_append.1 hy with hy | hy
      · exact h.by3 y hy
      · rw [List.mem_singleton.1 hy]; exact hx⟩
theorem Bnd.hold {s : GS} (h : Bnd s) (v : Nat) : Bnd (holdS s v) :=
  ⟨by show (s.taken.set _ _).length = 256; rw [List.length_set]; exact h.tl, holdS_regs s v h.tl h.rg, h.sl, h.by3⟩
theorem Bnd.load {s : GS} (h : Bnd s) (I : List Int) (v : Nat) : Bnd (loadS s I v) := by
  unfold loadS
  split
  · exact h
  split
  · exact h
  have := (h.hold v).step ⟨2, atS (holdS s v) v, rd I v, 0⟩ (by simp)
  exact ⟨this.tl, this.rg, this.sl, this.by3⟩
theorem Bnd.loads (I : List Int) : ∀ (l : List S62) (s : GS), Bnd s → Bnd (loadsN I l s)
  | [], _, h => h
  | t :: r, s, h => Bnd.loads I r _ (h.load I _)
theorem Bnd.macs (own : Nat) : ∀ (l : List S62) (s : GS), Bnd s → (∀ t ∈ l, 0 ≤ t.f1 ∧ t.f1 < 256) → Bnd (macsN own l s)
  | [], _, h, _ => h
  | t :: r, s, h, ht => Bnd.macs own r _ (h.step _ (ht t (by simp))) (fun x hx => ht x (by simp [hx]))
theorem Bnd.done {s : GS} (h : Bnd s) (us : List Int) (i own : Int) (v : Nat) : Bnd (doneS s us i own v) := by
  have hk : Bnd { s with taken := s.taken.set (atS s v).toNat false } := ⟨by show (s.taken.set _ _).length = 256; rw [List.length_set]; exact h.tl, h.rg, h.sl, h.by3⟩
  unfold doneS
  split
  · exact hk
  split
  · split
    · exact hk
    · exact h
  · exact h
theorem Bnd.dones (us : List Int) (i own : Int) : ∀ (l : List S62) (s : GS), Bnd s → Bnd (donesN us i own l s)
  | [], _, h => h
  | t :: r, s, h => Bnd.dones us i own r _ (h.done us i own _)
theorem Bnd.nodes (I us : List Int) : ∀ (l : List (List S62)) (i : Nat) (s : GS), Bnd s → (∀ x ∈ l, ∀ t ∈ x, 0 ≤ t.f1 ∧ t.f1 < 256) → Bnd (nodesS I us i l s)
  | [], _, _, h, _ => h
  | ts :: r, i, s, h, ht => by
    have h1 := (((h.loads I ts).hold (I.length + i)).step ⟨1, atS (holdS (loadsN I ts s) (I.length + i)) (I.length + i), 0, 0⟩ (by simp)).macs (I.length + i) ts _ (ht ts (by simp))
    exact Bnd.nodes I us r (i + 1) _ ((h1.dones us i _ ts).done us i _ _) (fun x hx => ht x (by simp [hx]))
theorem Bnd.outs (I : List Int) : ∀ (l : List Int) (d : Nat) (s : GS), Bnd s → Bnd (outsS I d l s)
  | [], _, _, h => h
  | v :: r, d, s, h => Bnd.outs I r (d + 1) _ ((h.load I _).step _ (by simp))
theorem Bnd.give (I : List Int) (N : List (List S62)) (O us : List Int) (ht : ∀ x ∈ N, ∀ t ∈ x, 0 ≤ t.f1 ∧ t.f1 < 256) : Bnd (giveS I N O us) :=
  Bnd.outs I O 0 _ (Bnd.nodes I us N 0 _ ⟨List.length_replicate, ⟨Int.le_refl _, by show (0 : Int) ≤ 256; decide⟩, Nat.zero_le _, fun x hx => by cases hx⟩ ht)
end Go.Proofs.Ytlflfpkjbjbldaa.Spec
