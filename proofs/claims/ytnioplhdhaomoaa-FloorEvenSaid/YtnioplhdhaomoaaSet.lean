/- Sets of numbers below 64 as words of 64 bits: what Go's operations on them do, bit by bit; the reference's Has, List and Full. -/
import Derived.Test.YtnioplhdhaomoaaAisle
namespace Go.Proofs.Ytnioplhdhaomoaa.Spec
open Go.RowKit Go.Proofs.Ytnioplhdhaomoaa.PA Go.Proofs.YtnioplhdhaomoaaW.PrintWords Go.Proofs.YtnioplhdhaomoaaW.PrintLast Go.Proofs.YtnioplhdhaomoaaW.PrintMore
set_option linter.unusedVariables false
set_option linter.unusedSimpArgs false
def vi (v : BitVec 64) : Int := (v.toNat : Int)
theorem vi_bd (v : BitVec 64) : 0 ≤ vi v ∧ vi v < 18446744073709551616 := by
  have := v.isLt
  unfold vi; omega
theorem of_vi (v : BitVec 64) : BitVec.ofInt 64 (vi v) = v := by
  unfold vi
  rw [BitVec.ofInt_natCast, BitVec.ofNat_toNat, BitVec.setWidth_eq]
theorem bits_vi (op : BinOp) (a b : BitVec 64) (c : BitVec 64) (h : (match op with | .and => a &&& b | .or => a ||| b | .xor => a ^^^ b | _ => a &&& ~~~b) = c) : Go.bits op .u64 (vi a) (vi b) = vi c := by
  have e : Go.bits op .u64 (vi a) (vi b) = IntKind.u64.wrap ((match op with | .and => BitVec.ofInt 64 (vi a) &&& BitVec.ofInt 64 (vi b) | .or => BitVec.ofInt 64 (vi a) ||| BitVec.ofInt 64 (vi b) | .xor => BitVec.ofInt 64 (vi a) ^^^ BitVec.ofInt 64 (vi b) | _ => BitVec.ofInt 64 (vi a) &&& ~~~(BitVec.ofInt 64 (vi b))).toNat : Int) := rfl
  rw [e, of_vi, of_vi, h]
  exact u64 (vi_bd c).1 (vi_bd c).2
theorem or_vi (a b : BitVec 64) : Go.bits .or .u64 (vi a) (vi b) = vi (a ||| b) := bits_vi .or a b _ rfl
theorem and_vi (a b : BitVec 64) : Go.bits .and .u64 (vi a) (vi b) = vi (a &&& b) := bits_vi .and a b _ rfl
def one (i : Nat) : BitVec 64 := BitVec.twoPow 64 i
theorem shl_vi (i : Nat) (h : i < 64) : shl .u64 1 (i : Int) = vi (one i) := by
  unfold shl vi one
  rw [Int.toNat_natCast, Nat.min_eq_left (by show i ≤ 64; omega), Int.one_mul, BitVec.toNat_twoPow, Nat.mod_eq_of_lt (Nat.pow_lt_pow_right (by decide) h)]
  have h1 : (2 : Nat) ^ i < 2 ^ 64 := Nat.pow_lt_pow_right (by decide) h
  have h2 : ((2 : Int) ^ i) = ((2 ^ i : Nat) : Int) := by rw [Int.natCast_pow]; rfl
  rw [h2]
  clear h2
  generalize (2 : Nat) ^ i = x at h1 ⊢
  exact u64 (by omega) (by omega)
theorem one_bit (i j : Nat) (h : j < 64) : (one i).getLsbD j = decide (i = j) := by
  unfold one
  rw [BitVec.getLsbD_twoPow]
  by_cases e : i = j
  · subst e; simp [h]
  · simp [e]
theorem shr_vi (v : BitVec 64) (i : Nat) (h : i < 64) : shr .u64 (vi v) (i : Int) = vi (v >>> i) := by
  unfold shr vi
  rw [Int.toNat_natCast, Nat.min_eq_left (by show i ≤ 64; omega), BitVec.toNat_ushiftRight, Nat.shiftRight_eq_div_pow]
  have h2 : ((2 : Int) ^ i) = ((2 ^ i : Nat) : Int) := by rw [Int.natCast_pow]; rfl
  rw [h2, Int.natCast_ediv]
theorem vi_one : vi 1#64 = 1 := rfl
theorem vi_zero : vi 0#64 = 0 := rfl
theorem bit_and (v : BitVec 64) (i : Nat) (h : i < 64) : (Go.bits .and .u64 (shr .u64 (vi v) (i : Int)) 1 == 1) = v.getLsbD i := by
  rw [shr_vi v i h, ← vi_one, and_vi]
  have h1 : v >>> i &&& 1#64 = if v.getLsbD i = true then 1#64 else 0#64 := by
    apply BitVec.eq_of_getLsbD_eq
    intro j hj
    rw [BitVec.getLsbD_and, BitVec.getLsbD_ushiftRight]
    by_cases e : j = 0
    · subst e
      cases hb : v.getLsbD i <;> simp [hb]
    · have h0 : (1#64).getLsbD j = false := by
        rw [show (1#64) = one 0 from rfl, one_bit 0 j hj]; simp; omega
      rw [h0, Bool.and_false]
      cases hb : v.getLsbD i
      · simp
      · simp [h0]
  rw [h1]
  cases hb : v.getLsbD i <;> simp [vi]
theorem has_f (v : BitVec 64) (i : Nat) (h : i < 64) : recoupref06_Has.f (vi v) (i : Int) = some (v.getLsbD i) := by
  unfold recoupref06_Has.f
  rw [if_pos (by omega), if_pos (by omega), u64 (by omega) (by omega), if_pos (by omega), bit_and v i h]
/-- The numbers of a set, from the least on. -/
def listV (v : BitVec 64) (n : Nat) : List Int := ((List.range n).filter fun i => v.getLsbD i).map fun i : Nat => (i : Int)
theorem listV_len (v : BitVec 64) (n : Nat) : (listV v n).length ≤ n := by
  unfold listV
  rw [List.length_map]
  have := List.length_filter_le (fun i => v.getLsbD i) (List.range n)
  rw [List.length_range] at this
  exact this
theorem listV_succ (v : BitVec 64) (n : Nat) : listV v (n + 1) = if v.getLsbD n = true then listV v n ++ [(n : Int)] else listV v n := by
  unfold listV
  rw [List.range_succ, List.filter_append, List.map_append]
  by_cases c : v.getLsbD n = true
  · rw [if_pos c]; simp [List.filter_cons, c]
  · rw [if_neg c]; simp [List.filter_cons, c]
theorem list_l0 (v : BitVec 64) (d : Nat) : ∀ (i : Nat), i + d = 64 → Ev (fun k => recoupref06_List.l0 k (vi v) (listV v i) (i : Int)) (listV v 64) := by
  induction d with
  | zero =>
    intro i h
    obtain rfl : i = 64 := by omega
    refine Ev.step (fun k => ?_) (Ev.now _)
    simp only [recoupref06_List.l0]
    rw [if_neg (by omega)]
  | succ d ih =>
    intro i h
    have hl := listV_len v i
    have hn := ih (i + 1) (by omega)
    rw [listV_succ] at hn
    refine Ev.step (fun k => ?_) hn
    simp only [recoupref06_List.l0]
    rw [if_pos (by omega), has_f v i (by omega)]
    simp only [Option.bind_some]
    by_cases c : v.getLsbD i = true
    · rw [if_pos c, if_pos c, if_pos (by omega), w64 (by omega) (by omega), i1]
    · rw [if_neg c, if_neg c, w64 (by omega) (by omega), i1]
theorem list_ev (v : BitVec 64) : Ev (fun k => recoupref06_List.f k (vi v)) (listV v 64) := Ev.congr (fun k => rfl) (list_l0 v 64 0 (by omega))
end Go.Proofs.Ytnioplhdhaomoaa.Spec
