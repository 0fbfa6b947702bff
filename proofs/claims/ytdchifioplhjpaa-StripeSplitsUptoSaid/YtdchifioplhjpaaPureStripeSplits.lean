/- StripeSplits' plain law: the program's Split and Join and the reference's tell the same, with the same error. -/
import Derived.Test.YtdchifioplhjpaaPAx3
import Derived.Test.YtdchifioplhjpaaPureStripeFits
namespace Go.Proofs.Ytdchifioplhjpaa.Pure
open Go.RowKit Go.Proofs.Ytdchifioplhjpaa.PA Go.Proofs.YtdchifioplhjpaaW.PrintWords Go.Proofs.YtdchifioplhjpaaW.PrintLast
theorem blocks_l0 (a : List (List Int)) (hn : a.length ≤ 1048576) (d : Nat) : ∀ (i : Nat), i + d = a.length → Ev (fun k => recoupref21_Blocks.l0 k a a (i : Int)) true := by
  induction d with
  | zero =>
    intro i h
    refine Ev.step (fun k => ?_) (Ev.now _)
    simp only [recoupref21_Blocks.l0]
    rw [if_neg (by omega)]
  | succ d ih =>
    intro i h
    refine Ev.step (fun k => ?_) (ih (i + 1) (by omega))
    simp only [recoupref21_Blocks.l0, same_self, Option.bind_some, if_true]
    rw [if_pos (by omega), if_pos (by omega), if_pos (by omega), w64 (by omega) (by omega), show ((i + 1 : Nat) : Int) = (i : Int) + 1 by omega]
theorem blocks_refl (a : List (List Int)) (hn : a.length ≤ 1048576) : Ev (fun k => recoupref21_Blocks.f k a a) true := by
  refine Ev.congr (fun k => ?_) (blocks_l0 a hn a.length 0 (by omega))
  simp only [recoupref21_Blocks.f]
  rw [if_pos trivial]; rfl
theorem full_get (l : List Int) (k : Nat) (i : Nat) (hi : i < sz l.length k * k) : (full l k)[i]? = some (if i < l.length then rd l (i : Int) else 0) := by
  unfold full
  by_cases h : i < l.length
  · rw [List.getElem?_append_left h, if_pos h, List.getElem?_eq_getElem h]
    simp [rd, h]
  · rw [List.getElem?_append_right (by omega), if_neg h, List.getElem?_replicate, if_pos (by omega)]
theorem blk_get (l : List Int) (k : Nat) (i j : Nat) (hi : i < k) (hj : j < sz l.length k) : (blk (full l k) (sz l.length k) i)[j]? = some (if i * sz l.length k + j < l.length then rd l ((i * sz l.length k + j : Nat) : Int) else 0) := by
  have h2 : (i + 1) * sz l.length k ≤ sz l.length k * k := by rw [Nat.mul_comm _ k]; exact Nat.mul_le_mul_right _ (by omega)
  have hm : (i + 1) * sz l.length k = i * sz l.length k + sz l.length k := by rw [Nat.add_mul, Nat.one_mul]
  unfold blk
  rw [List.getElem?_drop, List.getElem?_take, if_pos (by omega)]
  exact full_get l k _ (by omega)
section
variable (l : List Int) (k : Nat) (hk : 1 ≤ k) (hk2 : k ≤ 64) (hl : l.length ≤ k * 65536)
include hk hk2 hl
theorem sz_small : sz l.length k ≤ 65536 := by
  unfold sz
  apply Nat.le_of_lt_succ
  rw [Nat.div_lt_iff_lt_mul (by omega)]
  rw [Nat.succ_mul, Nat.mul_comm]
  omega
theorem ref_l2 (i : Nat) (hi : i < k) (x7 : List (List Int)) (hx7 : x7.length ≤ 64) (r : List (List Int) × Int) (d : Nat) : ∀ (j : Nat) (x9 : List Int), j + d = sz l.length k → x9.length = sz l.length k → (∀ m, m < j → x9[m]? = (blk (full l k) (sz l.length k) i)[m]?) → (∀ m, j ≤ m → m < sz l.length k → x9[m]? = some 0) →
    Ev (fun q => recoupref30_Split.l1 q l (k : Int) (sz l.length k : Int) (x7 ++ [blk (full l k) (sz l.length k) i]) ((i : Int) + 1)) r →
    Ev (fun q => recoupref30_Split.l2 q l (k : Int) (sz l.length k : Int) x7 (i : Int) x9 (j : Int)) r := by
  have hs := sz_small l k hk hk2 hl
  have hb := blk_length (full l k) (sz l.length k) k i (full_length l k hk) hi
  have hkl : k * 65536 ≤ 4194304 := Nat.le_trans (Nat.mul_le_mul_right _ hk2) (by decide)
  have his : i * sz l.length k ≤ 64 * 65536 := Nat.mul_le_mul (by omega) hs
  have e1 : (i : Int) * (sz l.length k : Int) = ((i * sz l.length k : Nat) : Int) := by push_cast; rfl
  induction d with
  | zero =>
    intro j x9 hj hx h1 h2 hr
    have he : x9 = blk (full l k) (sz l.length k) i := by
      apply List.ext_getElem? fun m => ?_
      by_cases h : m < sz l.length k
      · exact h1 m (by omega)
      · rw [List.getElem?_eq_none (by omega), List.getElem?_eq_none (by omega)]
    subst he
    refine Ev.step (fun q => ?_) hr
    simp only [recoupref30_Split.l2]
    rw [if_neg (by omega), if_pos (by omega), w64 (by omega) (by omega)]
  | succ d ih =>
    intro j x9 hj hx h1 h2 hr
    have hg := blk_get l k i j hi (by omega)
    have e2 : ((i * sz l.length k : Nat) : Int) + (j : Int) = ((i * sz l.length k + j : Nat) : Int) := by push_cast; rfl
    by_cases c : i * sz l.length k + j < l.length
    · rw [if_pos c] at hg
      refine Ev.step (fun q => ?_) (ih (j + 1) (x9.set j (rd l ((i * sz l.length k + j : Nat) : Int))) (by omega) (by rw [List.length_set]; exact hx) (fun m hm => ?_) (fun m hm hm2 => ?_) hr)
      · simp only [recoupref30_Split.l2]
        rw [if_pos (by omega), e1, w64 (x := ((i * sz l.length k : Nat) : Int)) (by omega) (by omega), e2, w64 (x := ((i * sz l.length k + j : Nat) : Int)) (by omega) (by omega), if_pos (by omega), if_pos (by omega), if_pos (by omega), if_pos (by omega), w64 (x := (j : Int) + 1) (by omega) (by omega)]
        rfl
      · by_cases hmj : m = j
        · subst hmj
          rw [List.getElem?_set_self (by omega), hg]
        · rw [List.getElem?_set_ne (by omega)]
          exact h1 m (by omega)
      · rw [List.getElem?_set_ne (by omega)]
        exact h2 m (by omega) hm2
    · rw [if_neg c] at hg
      refine Ev.step (fun q => ?_) (ih (j + 1) x9 (by omega) hx (fun m hm => ?_) (fun m hm hm2 => h2 m (by omega) hm2) hr)
      · simp only [recoupref30_Split.l2]
        rw [if_pos (by omega), e1, w64 (x := ((i * sz l.length k : Nat) : Int)) (by omega) (by omega), e2, w64 (x := ((i * sz l.length k + j : Nat) : Int)) (by omega) (by omega), if_neg (by omega), w64 (x := (j : Int) + 1) (by omega) (by omega)]
        rfl
      · by_cases hmj : m = j
        · subst hmj
          rw [hg, h2 m (by omega) (by omega)]
        · exact h1 m (by omega)
theorem ref_l1 (d : Nat) : ∀ i : Nat, i + d = k → Ev (fun q => recoupref30_Split.l1 q l (k : Int) (sz l.length k : Int) ((List.range i).map (blk (full l k) (sz l.length k))) (i : Int)) (blocks l k, 0) := by
  have hs := sz_small l k hk hk2 hl
  induction d with
  | zero =>
    intro i hi
    obtain rfl : i = k := by omega
    refine Ev.step (fun q => ?_) (Ev.now _)
    simp only [recoupref30_Split.l1]
    rw [if_neg (by omega)]
    rfl
  | succ d ih =>
    intro i hi
    have hr := ih (i + 1) (by omega)
    rw [List.range_succ, List.map_append] at hr
    have h2 := ref_l2 l k hk hk2 hl i (by omega) ((List.range i).map (blk (full l k) (sz l.length k))) (by rw [List.length_map, List.length_range]; omega) (blocks l k, 0) (sz l.length k) 0 (List.replicate (sz l.length k) 0) (by omega) (by simp) (fun m hm => by omega) (fun m _ hm => by rw [List.getElem?_replicate, if_pos hm]) hr
    refine Ev.step (fun q => ?_) h2
    simp only [recoupref30_Split.l1]
    rw [if_pos (by omega), if_pos (by omega), Int.toNat_natCast, if_pos (by omega)]
    rfl
theorem ref_l0 (d : Nat) : ∀ s : Nat, s + d = sz l.length k → Ev (fun q => recoupref30_Split.l0 q l (k : Int) (s : Int)) (blocks l k, 0) := by
  have hs := sz_small l k hk hk2 hl
  have hz := sz_le l.length k hk
  have hkl : k * 65536 ≤ 4194304 := Nat.le_trans (Nat.mul_le_mul_right _ hk2) (by decide)
  induction d with
  | zero =>
    intro s hd
    obtain rfl : s = sz l.length k := by omega
    have e1 : (sz l.length k : Int) * (k : Int) = ((sz l.length k * k : Nat) : Int) := by push_cast; rfl
    refine Ev.step (fun q => ?_) (ref_l1 l k hk hk2 hl k 0 (by omega))
    simp only [recoupref30_Split.l0]
    rw [e1, w64 (by omega) (by omega), if_neg (by omega)]
    rfl
  | succ d ih =>
    intro s hd
    have e1 : (s : Int) * (k : Int) = ((s * k : Nat) : Int) := by push_cast; rfl
    have h1 : (s + 1) * k ≤ sz l.length k * k := Nat.mul_le_mul_right _ (by omega)
    rw [Nat.add_mul, Nat.one_mul] at h1
    refine Ev.step (fun q => ?_) (ih (s + 1) (by omega))
    simp only [recoupref30_Split.l0]
    rw [e1, w64 (x := ((s * k : Nat) : Int)) (by omega) (by omega), if_pos (by omega), w64 (by omega) (by omega)]
    rfl
end
theorem ref_ev (l : List Int) (k : Nat) (hk : 1 ≤ k) (hk2 : k ≤ 64) : Ev (fun q => recoupref30_Split.f q l (k : Int)) (if l.length ≤ k * 65536 then (blocks l k, 0) else ([], 4)) := by
  have e : (k : Int) * 65536 = ((k * 65536 : Nat) : Int) := by omega
  have hkl : k * 65536 ≤ 4194304 := Nat.le_trans (Nat.mul_le_mul_right _ hk2) (by decide)
  have hj : Ev (fun q => recoupref30_Split.j0 q l (k : Int) false) (if l.length ≤ k * 65536 then (blocks l k, 0) else ([], 4)) := by
    by_cases h : l.length ≤ k * 65536
    · rw [if_pos h]
      refine Ev.step (fun q => ?_) (ref_l0 l k hk hk2 h (sz l.length k) 0 (by omega))
      simp only [recoupref30_Split.j0]
      rw [if_neg (by decide), e, w64 (by omega) (by omega), if_neg (by omega)]
      rfl
    · rw [if_neg h]
      refine Ev.step (fun q => ?_) (Ev.now (([] : List (List Int)), (4 : Int)))
      simp only [recoupref30_Split.j0]
      rw [if_neg (by decide), e, w64 (by omega) (by omega), if_pos (by omega)]
  refine Ev.congr (fun q => ?_) hj
  unfold recoupref30_Split.f
  rw [if_neg (by omega), show decide ((k : Int) > 64) = false from decide_eq_false (by omega)]
/-- Both answers of Split. -/
theorem splits (l : List Int) (b : Int) : ∃ a e, Ev (fun q => stripe_Split.f q l b) (a, e) ∧ Ev (fun q => recoupref30_Split.f q l b) (a, e) ∧ a.length ≤ 64 := by
  by_cases h1 : b < 1
  · refine ⟨[], 2, Ev.step (fun q => ?_) (Ev.now _), Ev.step (fun q => ?_) (Ev.now _), by simp⟩
    · unfold stripe_Split.f; rw [if_pos h1]; simp only [stripe_Split.j0]; rw [if_pos trivial]
    · unfold recoupref30_Split.f; rw [if_pos h1]; simp only [recoupref30_Split.j0]; rw [if_pos trivial]
  · by_cases h2 : b > 64
    · refine ⟨[], 2, Ev.step (fun q => ?_) (Ev.now _), Ev.step (fun q => ?_) (Ev.now _), by simp⟩
      · unfold stripe_Split.f; rw [if_neg h1, decide_eq_true h2]; simp only [stripe_Split.j0]; rw [if_pos trivial]
      · unfold recoupref30_Split.f; rw [if_neg h1, decide_eq_true h2]; simp only [recoupref30_Split.j0]; rw [if_pos trivial]
    · obtain ⟨k, rfl⟩ : ∃ k : Nat, b = (k : Int) := ⟨b.toNat, by omega⟩
      have hS := split_ev l k (by omega) (by omega)
      have hR := ref_ev l k (by omega) (by omega)
      by_cases h : l.length ≤ k * 65536
      · rw [if_pos h] at hS hR
        exact ⟨_, _, hS, hR, by rw [blocks_length]; omega⟩
      · rw [if_neg h] at hS hR
        exact ⟨_, _, hS, hR, by simp⟩
/-- What Join tells. -/
def joinV (ls : List (List Int)) (b : Int) : List Int × Int :=
  if b < 0 then ([], 2) else if (ls.flatten.length : Int) < b then ([], 2) else if sameB ls = true then (ls.flatten.take b.toNat, 0) else ([], 3)
theorem join_is (ls : List (List Int)) (b : Int) (h : ls.flatten.length ≤ 140737488355327) : stripe_Join.f ls b = some (joinV ls b) := by
  unfold stripe_Join.f bytes_Join.f joinV
  rw [if_pos rfl, if_pos h, Option.bind_some]
  split
  · rfl
  · split
    · rfl
    · split <;> rfl
section
variable (ls : List (List Int)) (b : Int) (hf : ls.flatten.length ≤ 1048576) (hn : ls.length ≤ 1048576)
include hn
theorem rj_l1 (hb : 0 ≤ b) (hb2 : b ≤ (ls.flatten.length : Int)) (d : Nat) : ∀ i : Nat, i + d = ls.length → (∀ j, j < i → (rd_L1 ls (j : Int)).length = (rd_L1 ls 0).length) →
    Ev (fun q => recoupref30_Join.l1 q ls b ls.flatten (i : Int)) (if sameB ls = true then (ls.flatten.take b.toNat, 0) else ([], 3)) := by
  have hmem : ∀ x ∈ ls, ∃ j, j < ls.length ∧ x = rd_L1 ls (j : Int) := fun x hx => by
    obtain ⟨j, hj, rfl⟩ := List.getElem_of_mem hx
    exact ⟨j, hj, by simp [rd_L1, hj]⟩
  have hrd : ∀ j, j < ls.length → rd_L1 ls (j : Int) ∈ ls := fun j hj => by
    have : rd_L1 ls (j : Int) = ls[j] := by simp [rd_L1, hj]
    rw [this]; exact List.getElem_mem hj
  induction d with
  | zero =>
    intro i hi hj
    have hs : sameB ls = true := by
      unfold sameB
      rw [Bool.not_eq_true', List.any_eq_false]
      intro x hx
      obtain ⟨j, hjl, rfl⟩ := hmem x hx
      unfold lenNe
      rw [hj j (by omega)]
      simp
    rw [if_pos hs]
    refine Ev.step (fun q => ?_) (Ev.now _)
    simp only [recoupref30_Join.l1]
    rw [if_neg (by omega), if_pos hb, if_pos hb2]
  | succ d ih =>
    intro i hi hj
    by_cases c : (rd_L1 ls (i : Int)).length = (rd_L1 ls 0).length
    · refine Ev.step (fun q => ?_) (ih (i + 1) (by omega) (fun j hjl => by
        by_cases hji : j = i
        · subst hji; exact c
        · exact hj j (by omega)))
      simp only [recoupref30_Join.l1]
      rw [if_pos (by omega), if_pos (by omega), if_pos (by omega), if_pos (by omega), w64 (by omega) (by omega)]
      rfl
    · have hs : ¬ sameB ls = true := by
        unfold sameB
        rw [Bool.not_eq_true', Bool.not_eq_false]
        refine List.any_eq_true.2 ⟨_, hrd i (by omega), ?_⟩
        unfold lenNe
        simp only [bne_iff_ne, ne_eq]
        omega
      rw [if_neg hs]
      refine Ev.step (fun q => ?_) (Ev.now _)
      simp only [recoupref30_Join.l1]
      rw [if_pos (by omega), if_pos (by omega), if_pos (by omega), if_neg (by omega)]
include hf
theorem rj_l0 (d : Nat) : ∀ i : Nat, i + d = ls.length → Ev (fun q => recoupref30_Join.l0 q ls b (ls.take i).flatten (i : Int)) (joinV ls b) := by
  induction d with
  | zero =>
    intro i hi
    have e : ls.take i = ls := List.take_of_length_le (by omega)
    rw [e]
    unfold joinV
    by_cases c1 : b < 0
    · rw [if_pos c1]
      refine Ev.step (f := fun q => recoupref30_Join.j1 q ls b ls.flatten true) (fun q => ?_) (Ev.step (fun q => ?_) (Ev.now _))
      · simp only [recoupref30_Join.l0]; rw [if_neg (by omega), if_pos c1]
      · simp only [recoupref30_Join.j1]; rw [if_pos trivial]
    · rw [if_neg c1]
      by_cases c2 : (ls.flatten.length : Int) < b
      · rw [if_pos c2]
        refine Ev.step (f := fun q => recoupref30_Join.j1 q ls b ls.flatten true) (fun q => ?_) (Ev.step (fun q => ?_) (Ev.now _))
        · simp only [recoupref30_Join.l0]; rw [if_neg (by omega), if_neg c1, decide_eq_true (show b > (ls.flatten.length : Int) from c2)]
        · simp only [recoupref30_Join.j1]; rw [if_pos trivial]
      · rw [if_neg c2]
        refine Ev.step (f := fun q => recoupref30_Join.j1 q ls b ls.flatten false) (fun q => ?_) (Ev.step (fun q => ?_) (rj_l1 ls b hn (by omega) (by omega) ls.length 0 (by omega) (fun j hj => by omega)))
        · simp only [recoupref30_Join.l0]; rw [if_neg (by omega), if_neg c1, decide_eq_false (show ¬ b > (ls.flatten.length : Int) from c2)]
        · simp only [recoupref30_Join.j1]; rw [if_neg (by decide)]; rfl
  | succ d ih =>
    intro i hi
    have hfs := flat_succ ls i (by omega)
    have hfl := flat_le ls (i + 1)
    have hr := ih (i + 1) (by omega)
    rw [hfs] at hr hfl
    rw [List.length_append] at hfl
    refine Ev.step (fun q => ?_) hr
    simp only [recoupref30_Join.l0]
    rw [if_pos (by omega), if_pos (by omega), if_pos (by omega), w64 (by omega) (by omega)]
    rfl
theorem rj_ev : Ev (fun q => recoupref30_Join.f q ls b) (joinV ls b) := by
  have h := rj_l0 ls b hf hn ls.length 0 (by omega)
  exact h
end
theorem StripeSplits (l0 : List Int) (b0 b1 : Int) (l2 : List (List Int)) (hf : l2.flatten.length ≤ 1048576) (hn : l2.length ≤ 1048576) :
    ∃ k a b c d e g, stripe_Split.f k l0 b0 = some (a, e) ∧ recoupref30_Split.f k l0 b0 = some (b, e) ∧ stripe_Join.f l2 b1 = some (c, g) ∧ recoupref30_Join.f k l2 b1 = some (d, g) ∧ recoupref21_Blocks.f k a b = some true ∧ recoupref01_Same.f c d = some true := by
  obtain ⟨a, e, ⟨K1, h1⟩, ⟨K2, h2⟩, ha⟩ := splits l0 b0
  obtain ⟨K3, h3⟩ := rj_ev l2 b1 hf hn
  obtain ⟨K4, h4⟩ := blocks_refl a (by omega)
  refine ⟨max (max K1 K2) (max K3 K4), a, a, (joinV l2 b1).1, (joinV l2 b1).1, e, (joinV l2 b1).2, h1 _ (by omega), h2 _ (by omega), join_is l2 b1 (by omega), h3 _ (by omega), h4 _ (by omega), same_self _⟩
end Go.Proofs.Ytdchifioplhjpaa.Pure
