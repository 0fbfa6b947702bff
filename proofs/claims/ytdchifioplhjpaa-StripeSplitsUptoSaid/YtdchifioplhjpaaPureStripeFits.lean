/- StripeFits' plain law: the blocks of a split are the data's cuts of one length, and joined again they are the data. -/
import Derived.Test.YtdchifioplhjpaaPAx2
namespace Go.Proofs.Ytdchifioplhjpaa.Pure
open Go.RowKit Go.Proofs.Ytdchifioplhjpaa.PA Go.Proofs.YtdchifioplhjpaaW.PrintWords Go.Proofs.YtdchifioplhjpaaW.PrintLast
theorem w64 {x : Int} (h0 : -9223372036854775808 ≤ x) (h1 : x < 9223372036854775808) : wrap64 x = x := by unfold wrap64; omega
theorem clone (l : List Int) (h : l.length < 140737488355328) : bytes_Clone.f l = some l := by
  unfold bytes_Clone.f
  simp only [Option.bind_some, List.length_nil, List.nil_append]
  rw [if_pos (by omega)]
/-- The i-th block. -/
def blk (all : List Int) (s : Nat) (i : Nat) : List Int := (all.take ((i + 1) * s)).drop (i * s)
theorem blk_length (all : List Int) (s k i : Nat) (ha : all.length = s * k) (hi : i < k) : (blk all s i).length = s := by
  have h : (i + 1) * s ≤ s * k := by rw [Nat.mul_comm s k]; exact Nat.mul_le_mul_right s (by omega)
  have h2 : (i + 1) * s = i * s + s := by rw [Nat.add_mul, Nat.one_mul]
  unfold blk
  rw [List.length_drop, List.length_take]
  omega
theorem split_l0 (all : List Int) (s k : Nat) (ha : all.length = s * k) (hk : k ≤ 64) (hs : s ≤ 65536) (d : Nat) : ∀ (i : Nat) (x : List (List Int)), i + d = k → x.length = k → (∀ j, j < i → x[j]? = some (blk all s j)) →
    Ev (fun q => stripe_split.l0 q (s : Int) all x (k : Int) (i : Int)) ((List.range k).map (blk all s)) := by
  have hsk : s * k ≤ 4194304 := Nat.le_trans (Nat.mul_le_mul hs hk) (by decide)
  induction d with
  | zero =>
    intro i x hi hx hj
    have : (List.range k).map (blk all s) = x := by
      apply List.ext_getElem? fun j => ?_
      by_cases h : j < k
      · rw [hj j (by omega)]; simp [h]
      · rw [List.getElem?_eq_none (by rw [List.length_map, List.length_range]; omega), List.getElem?_eq_none (by omega)]
    rw [this]
    refine Ev.step (fun q => ?_) (Ev.now _)
    simp only [stripe_split.l0]
    rw [if_neg (by omega)]
  | succ d ih =>
    intro i x hi hx hj
    have hm : (i + 1) * s = i * s + s := by rw [Nat.add_mul, Nat.one_mul]
    have h2 : (i + 1) * s ≤ s * k := by rw [Nat.mul_comm s k]; exact Nat.mul_le_mul_right s (by omega)
    have e1 : (i : Int) * (s : Int) = ((i * s : Nat) : Int) := by push_cast; rfl
    have e2 : ((i : Int) + 1) * (s : Int) = (((i + 1) * s : Nat) : Int) := by push_cast; rfl
    refine Ev.step (fun q => ?_) (ih (i + 1) (x.set i (blk all s i)) (by omega) (by simp [hx]) (fun j hj' => ?_))
    · simp only [stripe_split.l0]
      rw [if_pos (by omega), w64 (x := (i : Int) + 1) (by omega) (by omega), e1, e2, w64 (x := ((i * s : Nat) : Int)) (by omega) (by omega), w64 (x := (((i + 1) * s : Nat) : Int)) (by omega) (by omega)]
      rw [if_pos (by omega), if_pos (by omega), if_pos (by omega)]
      simp only [Int.toNat_natCast]
      rw [show (all.take ((i + 1) * s)).drop (i * s) = blk all s i from rfl, clone _ (by rw [blk_length all s k i ha (by omega)]; omega), Option.bind_some, if_pos (by omega), if_pos (by omega)]
      rw [show ((i + 1 : Nat) : Int) = (i : Int) + 1 by omega]
    · by_cases h : j = i
      · subst h
        rw [List.getElem?_set_self (by omega)]
      · rw [List.getElem?_set_ne (by omega)]
        exact hj j (by omega)
/-- The least length. -/
def sz (n k : Nat) : Nat := (n + k - 1) / k
def full (l : List Int) (k : Nat) : List Int := l ++ List.replicate (sz l.length k * k - l.length) 0
def blocks (l : List Int) (k : Nat) : List (List Int) := (List.range k).map (blk (full l k) (sz l.length k))
theorem sz_le (n k : Nat) (hk : 1 ≤ k) : n ≤ sz n k * k ∧ sz n k * k ≤ n + k - 1 := by
  unfold sz
  have h := Nat.div_add_mod (n + k - 1) k
  have h2 := Nat.mod_lt (n + k - 1) (show k > 0 by omega)
  rw [Nat.mul_comm] at h
  omega
theorem full_length (l : List Int) (k : Nat) (hk : 1 ≤ k) : (full l k).length = sz l.length k * k := by
  have := sz_le l.length k hk
  unfold full
  rw [List.length_append, List.length_replicate]
  omega
theorem split_f (l : List Int) (k : Nat) (hk : 1 ≤ k) (hk2 : k ≤ 64) (hl : l.length ≤ k * 65536) : Ev (fun q => stripe_split.f q l (k : Int)) (blocks l k) := by
  have hz := sz_le l.length k hk
  have hkl : k * 65536 ≤ 4194304 := Nat.le_trans (Nat.mul_le_mul_right _ hk2) (by decide)
  have hs : sz l.length k ≤ 65536 := by
    unfold sz
    apply Nat.le_of_lt_succ
    rw [Nat.div_lt_iff_lt_mul (by omega)]
    rw [Nat.succ_mul, Nat.mul_comm]
    omega
  have e1 : (l.length : Int) + (k : Int) - 1 = ((l.length + k - 1 : Nat) : Int) := by omega
  have e2 : Int.tdiv ((l.length + k - 1 : Nat) : Int) (k : Int) = ((sz l.length k : Nat) : Int) := by
    rw [Int.tdiv_eq_ediv_of_nonneg (by omega)]; rfl
  have e3 : ((sz l.length k : Nat) : Int) * (k : Int) = ((sz l.length k * k : Nat) : Int) := by push_cast; rfl
  have e4 : ((sz l.length k * k : Nat) : Int) - (l.length : Int) = ((sz l.length k * k - l.length : Nat) : Int) := by omega
  have hE := split_l0 (full l k) (sz l.length k) k (by rw [full_length l k hk]) hk2 hs k 0 (List.replicate k []) (by omega) (by simp) (fun j hj => by omega)
  refine Ev.congr (fun q => ?_) hE
  unfold stripe_split.f
  rw [if_neg (by omega), clone l (by omega), Option.bind_some, w64 (x := (l.length : Int) + (k : Int)) (by omega) (by omega), e1, w64 (x := ((l.length + k - 1 : Nat) : Int)) (by omega) (by omega), e2, w64 (x := ((sz l.length k : Nat) : Int)) (by omega) (by omega), e3, w64 (x := ((sz l.length k * k : Nat) : Int)) (by omega) (by omega), e4, w64 (x := ((sz l.length k * k - l.length : Nat) : Int)) (by omega) (by omega)]
  simp only [Int.toNat_natCast, Option.bind_some]
  rw [if_pos (by omega), if_pos (by omega), if_pos (by omega), if_pos (by omega), List.length_replicate]
  rfl
theorem split_ev (l : List Int) (k : Nat) (hk : 1 ≤ k) (hk2 : k ≤ 64) : Ev (fun q => stripe_Split.f q l (k : Int)) (if l.length ≤ k * 65536 then (blocks l k, 0) else ([], 4)) := by
  have e : (k : Int) * 65536 = ((k * 65536 : Nat) : Int) := by omega
  have hkl : k * 65536 ≤ 4194304 := Nat.le_trans (Nat.mul_le_mul_right _ hk2) (by decide)
  have hj : Ev (fun q => stripe_Split.j0 q l (k : Int) false) (if l.length ≤ k * 65536 then (blocks l k, 0) else ([], 4)) := by
    by_cases h : l.length ≤ k * 65536
    · rw [if_pos h]
      refine Ev.step (fun q => ?_) (Ev.bind (f := fun _ t => some (t, (0 : Int))) (split_f l k hk hk2 h) (Ev.now (blocks l k, (0 : Int))))
      simp only [stripe_Split.j0]
      rw [if_neg (by decide), e, w64 (by omega) (by omega), if_neg (by omega)]
    · rw [if_neg h]
      refine Ev.step (fun q => ?_) (Ev.now (([] : List (List Int)), (4 : Int)))
      simp only [stripe_Split.j0]
      rw [if_neg (by decide), e, w64 (by omega) (by omega), if_pos (by omega)]
  refine Ev.congr (fun q => ?_) hj
  unfold stripe_Split.f
  rw [if_neg (by omega), show decide ((k : Int) > 64) = false from decide_eq_false (by omega)]
theorem blocks_length (l : List Int) (k : Nat) : (blocks l k).length = k := by simp [blocks]
theorem same_self (l : List Int) : recoupref01_Same.f l l = some true := by
  unfold recoupref01_Same.f
  simp
end Go.Proofs.Ytdchifioplhjpaa.Pure
