/- Sets of numbers below 64 as words of 64 bits: what Go's operations on them do, bit by bit; the reference's Has, List and Full. -/
import Derived.Test.YtnioplhdhaomoaaAisle
namespace Go.Proofs.Ytnioplhdhaomoaa.Spec
open Go.RowKit Go.Proofs.Ytnioplhdhaomoaa.PA Go.Proofs.YtnioplhdhaomoaaW.PrintWords Go.Proofs.YtnioplhdhaomoaaW.PrintLast Go.Proofs.YtnioplhdhaomoaaW.PrintMore
set_option linter.unusedVariables false
set_option linter.unusedSimpArgs false
def vi (v : BitVec 64) : Int := (v.toNat : Int)
theorem vi_bd (v : BitVec 64) : 0 ≤ vi v ∧ vi v < 18446744073709551616 := by
  have := v.isLt
  unfold vi; omega
theorem of_vi (v : BitVec 64) : BitVec.ofInt 64 (vi v) = v := by
  unfold vi
  rw [BitVec.ofInt_natCast, BitVec.ofNat_toNat, BitVec.setWidth_eq]
theorem bits_vi (op : BinOp) (a b : BitVec 64) (c : BitVec 64) (h : (match op with | .and => a &&& b | .or => a ||| b | .xor => a ^^^ b | _ => a &&& ~~~b) = c) : Go.bits op .u64 (vi a) (vi b) = vi c := by
  have e : Go.bits op .u64 (vi a) (vi b) = IntKind.u64.wrap ((match op with | .and => BitVec.ofInt 64 (vi a) &&& BitVec.ofInt 64 (vi b) | .or => BitVec.ofInt 64 (vi a) ||| BitVec.ofInt 64 (vi b) | .xor => BitVec.ofInt 64 (vi a) ^^^ BitVec.ofInt 64 (vi b) | _ => BitVec.ofInt 64 (vi a) &&& ~~~(BitVec.ofInt 64 (vi b))).toNat : Int) := rfl
  rw [e, of_vi, of_vi, h]
  exact u64 (vi_bd c).1 (vi_bd c).2
theorem or_vi (a b : BitVec 64) : Go.bits .or .u64 (vi a) (vi b) = vi (a ||| b) := bits_vi .or a b _ rfl
theorem and_vi (a b : BitVec 64) : Go.bits .and .u64 (vi a) (vi b) = vi (a &&& b) := bits_vi .and a b _ rfl
theorem andNot_vi (a b : BitVec 64) : Go.bits .andNot .u64 (vi a) (vi b) = vi (a &&& ~~~b) := bits_vi .andNot a b _ rfl
def one (i : Nat) : BitVec 64 := BitVec.twoPow 64 i
theorem shl_vi (i : Nat) (h : i < 64) : shl .u64 1 (i : Int) = vi (one i) := by
  unfold shl vi one
  rw [Int.toNat_natCast, Nat.min_eq_left (by show i ≤ 64; omega), Int.one_mul, BitVec.toNat_twoPow, Nat.mod_eq_of_lt (Nat.pow_lt_pow_right (by decide) h)]
  have h1 : (2 : Nat) ^ i < 2 ^ 64 := Nat.pow_lt_pow_right (by decide) h
  have h2 : ((2 : Int) ^ i) = ((2 ^ i : Nat) : Int) := by rw [Int.natCast_pow]; rfl
  rw [h2]
  clear h2
  generalize (2 : Nat) ^ i = x at h1 ⊢
  exact u64 (by omega) (by omega)
theorem one_bit (i j : Nat) (h : j < 64) : (one i).getLsbD j = decide (i = j) := by
  unfold one
  rw [BitVec.getLsbD_twoPow]
  by_cases e : i = j
  · subst e; simp [h]
  · simp [e]
theorem shr_vi (v : BitVec 64) (i : Nat) (h : i < 64) : shr .u64 (vi v) (i : Int) = vi (v >>> i) := by
  unfold shr vi
  rw [Int.toNat_natCast, Nat.min_eq_left (by show i ≤ 64; omega), BitVec.toNat_ushiftRight, Nat.shiftRight_eq_div_pow]
  have h2 : ((2 : Int) ^ i) = ((2 ^ i : Nat) : Int) := by rw [Int.natCast_pow]; rfl
  rw [h2, Int.natCast_ediv]
theorem vi_one : vi 1#64 = 1 := rfl
theorem vi_zero : vi 0#64 = 0 := rfl
theorem bit_and (v : BitVec 64) (i : Nat) (h : i < 64) : (Go.bits .and .u64 (shr .u64 (vi v) (i : Int)) 1 == 1) = v.getLsbD i := by
  rw [shr_vi v i h, ← vi_one, and_vi]
  have h1 : v >>> i &&& 1#64 = if v.getLsbD i = true then 1#64 else 0#64 := by
    apply BitVec.eq_of_getLsbD_eq
    intro j hj
    rw [BitVec.getLsbD_and, BitVec.getLsbD_ushiftRight]
    by_cases e : j = 0
    · subst e
      cases hb : v.getLsbD i <;> simp [hb]
    · have h0 : (1#64).getLsbD j = false := by
        rw [show (1#64) = one 0 from rfl, one_bit 0 j hj]; simp; omega
      rw [h0, Bool.and_false]
      cases hb : v.getLsbD i
      · simp
      · simp [h0]
  rw [h1]
  cases hb : v.getLsbD i <;> simp [vi]
theorem has_f (v : BitVec 64) (i : Nat) (h : i < 64) : recoupref06_Has.f (vi v) (i : Int) = some (v.getLsbD i) := by
  unfold recoupref06_Has.f
  rw [if_pos (by omega), if_pos (by omega), u64 (by omega) (by omega), if_pos (by omega), bit_and v i h]
/-- The set of a list's elements of which something is so. -/
def setV (p : Nat × Nat → Bool) : List (Nat × Nat) → Nat → BitVec 64 → BitVec 64
  | [], _, v => v
  | z :: r, i, v => setV p r (i + 1) (if p z = true then v ||| one i else v)
theorem setF_vi (p : Nat × Nat → Bool) : ∀ (l : List (Nat × Nat)) (i : Nat) (v : BitVec 64), i + l.length ≤ 64 → setF p l i (vi v) = vi (setV p l i v)
  | [], i, v, _ => rfl
  | z :: r, i, v, h => by
    simp only [List.length_cons] at h
    rw [setF, setV, shl_vi i (by omega), or_vi]
    by_cases c : p z = true
    · rw [if_pos c, if_pos c, setF_vi p r (i + 1) _ (by omega)]
    · rw [if_neg c, if_neg c, setF_vi p r (i + 1) _ (by omega)]
theorem setV_bit (p : Nat × Nat → Bool) : ∀ (l : List (Nat × Nat)) (i : Nat) (v : BitVec 64) (j : Nat), j < 64 → (setV p l i v).getLsbD j = (v.getLsbD j || (decide (i ≤ j) && ((l[j - i]?).map p).getD false))
  | [], i, v, j, _ => by simp [setV]
  | z :: r, i, v, j, h => by
    rw [setV, setV_bit p r (i + 1) _ j h]
    by_cases e : i = j
    · subst e
      rw [decide_eq_false (by omega : ¬ i + 1 ≤ i), decide_eq_true (Nat.le_refl i)]
      by_cases c : p z = true
      · rw [if_pos c, BitVec.getLsbD_or, one_bit i i h]; simp [c]
      · rw [if_neg c]; simp [c]
    · have e1 : (if p z = true then v ||| one i else v).getLsbD j = v.getLsbD j := by
        by_cases c : p z = true
        · rw [if_pos c, BitVec.getLsbD_or, one_bit i j h, decide_eq_false e, Bool.or_false]
        · rw [if_neg c]
      rw [e1]
      by_cases c : i ≤ j
      · rw [decide_eq_true c, decide_eq_true (by omega : i + 1 ≤ j), show j - i = (j - (i + 1)) + 1 from by omega, List.getElem?_cons_succ]
      · rw [decide_eq_false c, decide_eq_false (by omega : ¬ i + 1 ≤ j)]; simp
/-- What those makes of a test. -/
def those (p : Nat × Nat → Bool) (N : Nat) : BitVec 64 := setV p (zsl N) 0 0#64
theorem those_vi (p : Nat × Nat → Bool) (N : Nat) (h : N ≤ 64) : setF p (zsl N) 0 0 = vi (those p N) := by
  have := setF_vi p (zsl N) 0 0#64 (by rw [zsl_len]; omega)
  rw [vi_zero] at this
  exact this
theorem those_bit (p : Nat × Nat → Bool) (N j : Nat) (h : j < 64) : (those p N).getLsbD j = (decide (j < N) && p ((st j).zr, (st j).zi)) := by
  unfold those
  rw [setV_bit p _ _ _ j h]
  by_cases c : j < N
  · rw [Nat.sub_zero, zsl_get N j c, decide_eq_true c]; simp
  · rw [Nat.sub_zero, List.getElem?_eq_none (by rw [zsl_len]; omega), decide_eq_false c]; simp
/-- The first numbers. -/
def full : Nat → BitVec 64
  | 0 => 0#64
  | n + 1 => full n ||| one n
theorem full_bit : ∀ (n j : Nat), j < 64 → (full n).getLsbD j = decide (j < n)
  | 0, j, h => by simp [full]
  | n + 1, j, h => by
    rw [full, BitVec.getLsbD_or, full_bit n j h, one_bit n j h, ← Bool.decide_or]
    exact decide_eq_decide.2 (by omega)
theorem full_l0 (N : Nat) (hN : N ≤ 64) (d : Nat) : ∀ (i : Nat), i + d = N → Ev (fun k => recoupref06_Full.l0 k (N : Int) (vi (full i)) (i : Int)) (vi (full N), 0) := by
  induction d with
  | zero =>
    intro i h
    obtain rfl : i = N := by omega
    refine Ev.step (fun k => ?_) (Ev.now _)
    simp only [recoupref06_Full.l0]
    rw [if_neg (by omega)]
  | succ d ih =>
    intro i h
    refine Ev.step (fun k => ?_) (ih (i + 1) (by omega))
    simp only [recoupref06_Full.l0]
    rw [if_pos (by omega), u64 (by omega) (by omega), if_pos (by omega), shl_vi i (by omega), or_vi, w64 (by omega) (by omega), i1]
    rfl
theorem full_ev (N : Nat) (hN : N ≤ 64) : Ev (fun k => recoupref06_Full.f k (N : Int)) (vi (full N), 0) := by
  refine Ev.step (fun k => ?_) (full_l0 N hN N 0 (by omega))
  unfold recoupref06_Full.f
  rw [if_neg (by omega), decide_eq_false (by omega)]
  simp only [recoupref06_Full.j0, Bool.false_eq_true, if_false]
  rfl
/-- The numbers of a set, from the least on. -/
def listV (v : BitVec 64) (n : Nat) : List Int := ((List.range n).filter fun i => v.getLsbD i).map fun i : Nat => (i : Int)
theorem listV_len (v : BitVec 64) (n : Nat) : (listV v n).length ≤ n := by
  unfold listV
  rw [List.length_map]
  have := List.length_filter_le (fun i => v.getLsbD i) (List.range n)
  rw [List.length_range] at this
  exact this
theorem listV_succ (v : BitVec 64) (n : Nat) : listV v (n + 1) = if v.getLsbD n = true then listV v n ++ [(n : Int)] else listV v n := by
  unfold listV
  rw [List.range_succ, List.filter_append, List.map_append]
  by_cases c : v.getLsbD n = true
  · rw [if_pos c]; simp [List.filter_cons, c]
  · rw [if_neg c]; simp [List.filter_cons, c]
theorem list_l0 (v : BitVec 64) (d : Nat) : ∀ (i : Nat), i + d = 64 → Ev (fun k => recoupref06_List.l0 k (vi v) (listV v i) (i : Int)) (listV v 64) := by
  induction d with
  | zero =>
    intro i h
    obtain rfl : i = 64 := by omega
    refine Ev.step (fun k => ?_) (Ev.now _)
    simp only [recoupref06_List.l0]
    rw [if_neg (by omega)]
  | succ d ih =>
    intro i h
    have hl := listV_len v i
    have hn := ih (i + 1) (by omega)
    rw [listV_succ] at hn
    refine Ev.step (fun k => ?_) hn
    simp only [recoupref06_List.l0]
    rw [if_pos (by omega), has_f v i (by omega)]
    simp only [Option.bind_some]
    by_cases c : v.getLsbD i = true
    · rw [if_pos c, if_pos c, if_pos (by omega), w64 (by omega) (by omega), i1]
    · rw [if_neg c, if_neg c, w64 (by omega) (by omega), i1]
theorem list_ev (v : BitVec 64) : Ev (fun k => recoupref06_List.f k (vi v)) (listV v 64) := Ev.congr (fun k => rfl) (list_l0 v 64 0 (by omega))
theorem listV_mem (v : BitVec 64) {x : Int} (h : x ∈ listV v 64) : ∃ i : Nat, i < 64 ∧ v.getLsbD i = true ∧ x = (i : Int) := by
  unfold listV at h
  obtain ⟨i, hi, rfl⟩ := List.mem_map.1 h
  obtain ⟨h1, h2⟩ := List.mem_filter.1 hi
  exact ⟨i, List.mem_range.1 h1, h2, rfl⟩
theorem listV_in (v : BitVec 64) (i : Nat) (h : i < 64) (hb : v.getLsbD i = true) : (i : Int) ∈ listV v 64 := List.mem_map.2 ⟨i, List.mem_filter.2 ⟨List.mem_range.2 h, hb⟩, rfl⟩
theorem ext64 {a b : BitVec 64} (h : ∀ j, j < 64 → a.getLsbD j = b.getLsbD j) : a = b := BitVec.eq_of_getLsbD_eq (fun j hj => h j hj)
end Go.Proofs.Ytnioplhdhaomoaa.Spec
