/- Floats that stand for whole numbers: their sum, difference, negation, absolute value, order and integer are those of the numbers (binary64, numbers below 2^52). -/
import Derived.Laws.ComplexArith
import Derived.Laws.BitsLemmas
namespace Go.Proofs.Ytnioplhdhaomoaa.Whole
open Go Ieee
/-- A datum stands for the whole number n. -/
def Rep (d : Datum) (n : Int) : Prop := ∃ (s : Bool) (k : Nat), d = .number s (n.natAbs * 2 ^ k) (-(k : Int)) ∧ (0 < n → s = false) ∧ (n < 0 → s = true) ∧ k ≤ 1074
theorem shl (a k : Nat) : a <<< k = a * 2 ^ k := Nat.shiftLeft_eq a k
theorem signed_rep (s : Bool) (n : Int) (hp : 0 < n → s = false) (hn : n < 0 → s = true) (k u : Nat) : signed s (n.natAbs * 2 ^ k) u = n * 2 ^ (k + u) := by
  unfold signed
  rw [shl, Nat.mul_assoc, ← Nat.pow_add]
  rcases Int.lt_trichotomy n 0 with h | h | h
  · rw [if_pos (hn h)]
    have : n = -(n.natAbs : Int) := by omega
    generalize n.natAbs = a at this ⊢
    subst this
    push_cast
    rw [Int.neg_mul]
  · subst h; simp
  · rw [if_neg (by rw [hp h]; decide)]
    have : n = (n.natAbs : Int) := by omega
    generalize n.natAbs = a at this ⊢
    subst this
    push_cast
    rfl
theorem natAbs_mul_pow (n : Int) (k : Nat) : (n * 2 ^ k).natAbs = n.natAbs * 2 ^ k := by
  rw [Int.natAbs_mul, Int.natAbs_pow]; rfl
theorem pow_pos' (k : Nat) : (0 : Int) < 2 ^ k := Int.pow_pos (by decide)
theorem Rep.opposite {d : Datum} {n : Int} (h : Rep d n) : Rep d.opposite (-n) := by
  obtain ⟨s, k, rfl, hp, hn, hk⟩ := h
  refine ⟨!s, k, ?_, fun h => ?_, fun h => ?_, hk⟩
  · simp [Datum.opposite]
  · rw [hn (by omega)]; rfl
  · rw [hp (by omega)]; rfl
theorem Rep.sum {d e : Datum} {m n : Int} (h : Rep d m) (g : Rep e n) : ∃ r, d.sum e = some r ∧ Rep r (m + n) := by
  obtain ⟨s, k, rfl, hp, hn, hk⟩ := h
  obtain ⟨t, j, rfl, gp, gn, gj⟩ := g
  refine ⟨_, rfl, ?_⟩
  have e1 : (-(k : Int) - min (-(k : Int)) (-(j : Int))).toNat = max k j - k := by omega
  have e2 : (-(j : Int) - min (-(k : Int)) (-(j : Int))).toNat = max k j - j := by omega
  have e3 : min (-(k : Int)) (-(j : Int)) = -((max k j : Nat) : Int) := by omega
  rw [e1, e2, e3, signed_rep s m hp hn, signed_rep t n gp gn, show k + (max k j - k) = max k j by omega, show j + (max k j - j) = max k j by omega, ← Int.add_mul, natAbs_mul_pow]
  have hpos := pow_pos' (max k j)
  refine ⟨_, max k j, rfl, fun h => ?_, fun h => ?_, by omega⟩
  · have : 0 < (m + n) * 2 ^ max k j := Int.mul_pos h hpos
    rw [if_neg (by omega)]
    exact decide_eq_false (by omega)
  · have : (m + n) * 2 ^ max k j < 0 := Int.mul_neg_of_neg_of_pos h hpos
    rw [if_neg (by omega)]
    exact decide_eq_true this
theorem Rep.order {d e : Datum} {m n : Int} (h : Rep d m) (g : Rep e n) : d.order e = some (compare m n) := by
  obtain ⟨s, k, rfl, hp, hn, hk⟩ := h
  obtain ⟨t, j, rfl, gp, gn, gj⟩ := g
  have e1 : (-(k : Int) - min (-(k : Int)) (-(j : Int))).toNat = max k j - k := by omega
  have e2 : (-(j : Int) - min (-(k : Int)) (-(j : Int))).toNat = max k j - j := by omega
  show some (compare _ _) = _
  rw [e1, e2, signed_rep s m hp hn, signed_rep t n gp gn, show k + (max k j - k) = max k j by omega, show j + (max k j - j) = max k j by omega]
  have hpos := pow_pos' (max k j)
  congr 1
  generalize (2 : Int) ^ max k j = q at hpos
  rcases Int.lt_trichotomy m n with h | h | h
  · have h1 : m * q < n * q := Int.mul_lt_mul_of_pos_right h hpos
    rw [Int.compare_eq_lt.2 h, Int.compare_eq_lt.2 h1]
  · subst h; simp
  · have h1 : n * q < m * q := Int.mul_lt_mul_of_pos_right h hpos
    rw [Int.compare_eq_gt.2 h, Int.compare_eq_gt.2 h1]
theorem cut_exact (way : Toward) (s : Bool) (a k : Nat) : way.cut s (a * 2 ^ k) k = a := by
  unfold Toward.cut
  rcases Nat.eq_zero_or_pos a with h | h
  · subst h
    cases way <;> simp
  · have hl : k ≤ (a * 2 ^ k).log2 := by
      rw [Nat.le_log2 (Nat.ne_of_gt (Nat.mul_pos h (Nat.two_pow_pos k)))]
      exact Nat.le_mul_of_pos_left _ h
    have hp := Nat.two_pow_pos k
    have e1 : min k ((a * 2 ^ k).log2 + 2) = k := Nat.min_eq_left (by omega)
    have e2 : a * 2 ^ k % 2 ^ k = 0 := Nat.mul_mod_left ..
    have e3 : a * 2 ^ k / 2 ^ k = a := Nat.mul_div_cancel _ hp
    have e4 : ((2 ^ k == 2 * 0) : Bool) = false := by simp
    simp only [e1, shl, Nat.one_mul, e2, e3]
    cases way <;> simp [e4]
theorem Rep.integral {d : Datum} {n : Int} (h : Rep d n) (way : Toward) : ∃ s, d.integral way = .number s n.natAbs 0 ∧ (0 < n → s = false) ∧ (n < 0 → s = true) := by
  obtain ⟨s, k, rfl, hp, hn, hk⟩ := h
  refine ⟨s, ?_, hp, hn⟩
  show Datum.number s _ 0 = _
  rw [show (-(k : Int)).toNat = 0 by omega, show (- -(k : Int)).toNat = k by omega, shl, Nat.pow_zero, Nat.mul_one, cut_exact]
theorem Rep.of_int {s : Bool} {n : Int} (hp : 0 < n → s = false) (hn : n < 0 → s = true) : Rep (.number s n.natAbs 0) n := ⟨s, 0, by simp, hp, hn, by decide⟩
theorem Rep.toInt {d : Datum} {n : Int} (h : Rep d n) (way : Toward) : d.toInt way = some n := by
  obtain ⟨s, e, hp, hn⟩ := h.integral way
  unfold Datum.toInt
  rw [e]
  have := signed_rep s n hp hn 0 0
  simp only [Nat.pow_zero, Nat.mul_one, Nat.add_zero, Int.pow_zero, Int.mul_one] at this
  show some (signed s n.natAbs 0) = _
  rw [this]
theorem log2_bounds (a : Nat) (h : 0 < a) : 2 ^ a.log2 ≤ a ∧ a < 2 ^ (a.log2 + 1) := ⟨Nat.log2_self_le (by omega), Nat.lt_log2_self⟩
theorem log2_mul_pow (a k : Nat) (h : 0 < a) : (a * 2 ^ k).log2 = a.log2 + k := by
  have hb := log2_bounds a h
  have hk := Nat.two_pow_pos k
  have hne : a * 2 ^ k ≠ 0 := Nat.ne_of_gt (Nat.mul_pos h hk)
  apply Nat.le_antisymm
  · apply Nat.le_of_lt_succ
    rw [Nat.log2_lt hne, Nat.succ_eq_add_one, show a.log2 + k + 1 = (a.log2 + 1) + k by omega, Nat.pow_add]
    exact Nat.mul_lt_mul_of_pos_right hb.2 hk
  · rw [Nat.le_log2 hne, Nat.pow_add]
    exact Nat.mul_le_mul_right _ hb.1
theorem read_word (s : Bool) (r : Nat) (h1 : 4503599627370496 ≤ r) (h2 : r < 9218868437227405312) : FloatKind.f64.decode (Format.word FloatKind.f64.format s r) = .number s (4503599627370496 + r % 4503599627370496) (-1074 + (r / 4503599627370496 - 1 : Nat)) := by
  have hw : Format.word FloatKind.f64.format s r = (if s then 9223372036854775808 + r else r) := rfl
  show FloatKind.f64.format.read _ = _
  unfold Format.read
  have e1 : FloatKind.f64.format.signWeight = 9223372036854775808 := by decide
  have e2 : FloatKind.f64.format.binade = 4503599627370496 := by decide
  have e3 : FloatKind.f64.format.infRung = 9218868437227405312 := by decide
  have e4 : FloatKind.f64.format.leastPlace = -1074 := by decide
  simp only [e1, e2, e3, e4, hw]
  cases s
  · simp only [Bool.false_eq_true, if_false]
    rw [show r % 9223372036854775808 = r by omega, if_neg (by omega), if_pos h2, show r / 9223372036854775808 = 0 by omega]
    rfl
  · simp only [if_true]
    rw [show (9223372036854775808 + r) % 9223372036854775808 = r by omega, if_neg (by omega), if_pos h2, show (9223372036854775808 + r) / 9223372036854775808 = 1 by omega]
    rfl
theorem read_zero (s : Bool) : FloatKind.f64.decode (Format.word FloatKind.f64.format s 0) = .number s 0 (-1074) := by cases s <;> decide
theorem rep_zero (s : Bool) (k : Nat) (hk : k ≤ 1074) {d : Datum} (h : d = .number s 0 (-(k : Int))) : Rep d 0 := ⟨s, k, by rw [h]; simp, fun h => absurd h (by decide), fun h => absurd h (by decide), hk⟩
theorem Rep.encode {d : Datum} {n : Int} (h : Rep d n) (hn : n.natAbs < 4503599627370496) : Rep (FloatKind.f64.decode (FloatKind.f64.encode d)) n := by
  obtain ⟨s, k, rfl, hp, hng, hk⟩ := h
  show Rep (FloatKind.f64.decode (FloatKind.f64.format.nearest s (n.natAbs * 2 ^ k) (-(k : Int)))) n
  generalize ha : n.natAbs = a at hn
  rcases Nat.eq_zero_or_pos a with h0 | h0
  · subst h0
    have hz : n = 0 := by omega
    subst hz
    unfold Format.nearest
    rw [if_pos (by simp)]
    exact rep_zero s 1074 (Nat.le_refl _) (read_zero s)
  have hb := log2_bounds a h0
  have hl : a.log2 ≤ 51 := by
    apply Nat.le_of_lt_succ
    rw [Nat.log2_lt (by omega)]
    exact hn
  have hpk := Nat.two_pow_pos k
  have e2 : FloatKind.f64.format.binade = 4503599627370496 := by decide
  have e3 : FloatKind.f64.format.infRung = 9218868437227405312 := by decide
  have e4 : FloatKind.f64.format.leastPlace = -1074 := by decide
  have e5 : FloatKind.f64.format.fractionBits = 52 := by decide
  have hlog := log2_mul_pow a k h0
  have hlast : max (-(k : Int) + ((a * 2 ^ k).log2 : Nat) - (52 : Nat)) (-1074) = (a.log2 : Int) - 52 := by rw [hlog]; omega
  have hkept : Toward.even.cut s ((a * 2 ^ k) <<< (-(k : Int) - ((a.log2 : Int) - 52)).toNat) (((a.log2 : Int) - 52) - -(k : Int)).toNat = a * 2 ^ (52 - a.log2) := by
    by_cases c : k ≤ 52 - a.log2
    · have x1 : (-(k : Int) - ((a.log2 : Int) - 52)).toNat = 52 - a.log2 - k := by omega
      have x2 : (((a.log2 : Int) - 52) - -(k : Int)).toNat = 0 := by omega
      rw [x1, x2, shl, Nat.mul_assoc, ← Nat.pow_add, show k + (52 - a.log2 - k) = 52 - a.log2 by omega]
      have := cut_exact .even s (a * 2 ^ (52 - a.log2)) 0
      rwa [Nat.pow_zero, Nat.mul_one] at this
    · have x1 : (-(k : Int) - ((a.log2 : Int) - 52)).toNat = 0 := by omega
      have x2 : (((a.log2 : Int) - 52) - -(k : Int)).toNat = k - (52 - a.log2) := by omega
      rw [x1, x2, shl, Nat.pow_zero, Nat.mul_one]
      have := cut_exact .even s (a * 2 ^ (52 - a.log2)) (k - (52 - a.log2))
      rwa [Nat.mul_assoc, ← Nat.pow_add, show 52 - a.log2 + (k - (52 - a.log2)) = k by omega] at this
  -- what is kept lies in one binade
  have hp2 : 2 ^ a.log2 * 2 ^ (52 - a.log2) = 4503599627370496 := by rw [← Nat.pow_add, show a.log2 + (52 - a.log2) = 52 by omega]
  have hp3 : 2 ^ (a.log2 + 1) * 2 ^ (52 - a.log2) = 9007199254740992 := by rw [← Nat.pow_add, show a.log2 + 1 + (52 - a.log2) = 53 by omega]
  have hpp := Nat.two_pow_pos (52 - a.log2)
  have k1 : 4503599627370496 ≤ a * 2 ^ (52 - a.log2) := by rw [← hp2]; exact Nat.mul_le_mul_right _ hb.1
  have k2 : a * 2 ^ (52 - a.log2) < 9007199254740992 := by rw [← hp3]; exact Nat.mul_lt_mul_of_pos_right hb.2 hpp
  have hw : FloatKind.f64.format.nearest s (a * 2 ^ k) (-(k : Int)) = Format.word FloatKind.f64.format s ((a.log2 + 1022) * 4503599627370496 + a * 2 ^ (52 - a.log2)) := by
    unfold Format.nearest
    rw [if_neg (Nat.ne_of_gt (Nat.mul_pos h0 hpk))]
    simp only [e2, e3, e4, e5]
    rw [hlast, hkept, show ((a.log2 : Int) - 52 - -1074).toNat = a.log2 + 1022 by omega, Nat.min_eq_left (by omega)]
  rw [hw]
  obtain ⟨K, hK⟩ : ∃ K, a * 2 ^ (52 - a.log2) = K := ⟨_, rfl⟩
  rw [hK] at k1 k2 ⊢
  rw [read_word s _ (by omega) (by omega)]
  refine ⟨s, 52 - a.log2, ?_, hp, hng, by omega⟩
  rw [ha, hK, show 4503599627370496 + ((a.log2 + 1022) * 4503599627370496 + K) % 4503599627370496 = K by omega, show ((-1074 : Int) + (((a.log2 + 1022) * 4503599627370496 + K) / 4503599627370496 - 1 : Nat)) = -((52 - a.log2 : Nat) : Int) by omega]
/-- The bits b stand for the whole number n. -/
def Wh (b : Nat) (n : Int) : Prop := Rep (FloatKind.f64.decode b) n ∧ b < 18446744073709551616
theorem enc_lt (d : Datum) : FloatKind.f64.encode d < 18446744073709551616 := FloatKind.f64.format.write_lt d
theorem Wh.of_rep {d : Datum} {n : Int} (h : Rep d n) (hn : n.natAbs < 4503599627370496) : Wh (FloatKind.f64.encode d) n := ⟨h.encode hn, enc_lt d⟩
theorem Wh.add {a b : Nat} {m n : Int} (h : Wh a m) (g : Wh b n) (hs : (m + n).natAbs < 4503599627370496) : ∃ r, floatBits .add .f64 a b = some r ∧ Wh r (m + n) := by
  obtain ⟨d, e, hd⟩ := h.1.sum g.1
  refine ⟨_, ?_, Wh.of_rep hd hs⟩
  show ((FloatKind.f64.decode a).sum (FloatKind.f64.decode b)).map _ = _
  rw [e]; rfl
theorem Wh.sub {a b : Nat} {m n : Int} (h : Wh a m) (g : Wh b n) (hs : (m - n).natAbs < 4503599627370496) : ∃ r, floatBits .sub .f64 a b = some r ∧ Wh r (m - n) := by
  obtain ⟨d, e, hd⟩ := h.1.sum g.1.opposite
  refine ⟨_, ?_, Wh.of_rep hd hs⟩
  show ((FloatKind.f64.decode a).sum (FloatKind.f64.decode b).opposite).map _ = _
  rw [e]; rfl
theorem Wh.order {a b : Nat} {m n : Int} (h : Wh a m) (g : Wh b n) : FloatKind.f64.format.order a b = some (compare m n) := h.1.order g.1
theorem Wh.toInt {a : Nat} {m : Int} (h : Wh a m) (h0 : -9223372036854775808 ≤ m) (h1 : m ≤ 9223372036854775807) : floatToIntVal .f64 a .i64 = some m := by
  unfold floatToIntVal
  rw [h.1.toInt]
  have e1 : IntKind.i64.min = -9223372036854775808 := rfl
  have e2 : IntKind.i64.max = 9223372036854775807 := rfl
  dsimp only
  rw [e1, e2, if_pos ⟨h0, h1⟩]
theorem Wh.ofInt (n : Int) (hn : n.natAbs < 4503599627370496) : Wh (floatOfInt .f64 n) n := Wh.of_rep (d := .number (n < 0) n.natAbs 0) (Rep.of_int (fun h => decide_eq_false (by omega)) (fun h => decide_eq_true h)) hn
theorem Wh.integral {a : Nat} {m : Int} (h : Wh a m) (hm : m.natAbs < 4503599627370496) (way : Toward) : Wh (FloatKind.f64.encode ((FloatKind.f64.decode a).integral way)) m := by
  obtain ⟨s, e, hp, hn⟩ := h.1.integral way
  rw [e]
  exact Wh.of_rep (Rep.of_int hp hn) hm
theorem xor_top (b : Nat) (h : b < 18446744073709551616) : b ^^^ 9223372036854775808 = (if b < 9223372036854775808 then b + 9223372036854775808 else b - 9223372036854775808) := by
  have key : ∀ c : Nat, c < 9223372036854775808 → c ^^^ 9223372036854775808 = 9223372036854775808 + c := fun c hc => by
    have e := Nat.two_pow_add_eq_or_of_lt (i := 63) hc 1
    have e' : 9223372036854775808 + c = 9223372036854775808 ||| c := by simpa using e
    rw [e']
    apply Nat.eq_of_testBit_eq
    intro i
    rw [Nat.testBit_xor, Nat.testBit_or, show (9223372036854775808 : Nat) = 2 ^ 63 from rfl, Nat.testBit_two_pow]
    by_cases hi : 63 = i
    · subst hi
      rw [Nat.testBit_lt_two_pow hc]; simp
    · simp [hi]
  by_cases c : b < 9223372036854775808
  · rw [if_pos c, key b c, Nat.add_comm]
  · rw [if_neg c]
    have h1 := key (b - 9223372036854775808) (by omega)
    rw [show 9223372036854775808 + (b - 9223372036854775808) = b by omega] at h1
    conv => lhs; rw [← h1]
    rw [Nat.xor_assoc, Nat.xor_self, Nat.xor_zero]
theorem Rep.form {b : Nat} {n : Int} (h : Rep (FloatKind.f64.decode b) n) : b % 9223372036854775808 < 9218868437227405312 := by
  obtain ⟨s, k, e, _⟩ := h
  have e' : FloatKind.f64.format.read b = _ := e
  unfold Format.read at e'
  have e1 : FloatKind.f64.format.signWeight = 9223372036854775808 := by decide
  have e2 : FloatKind.f64.format.binade = 4503599627370496 := by decide
  have e3 : FloatKind.f64.format.infRung = 9218868437227405312 := by decide
  simp only [e1, e2, e3] at e'
  split at e'
  · omega
  · split at e'
    · omega
    · split at e' <;> cases e'
/-- With another sign. -/
theorem decode_sign (b : Nat) (hb : b < 9223372036854775808) (hr : b < 9218868437227405312) : ∃ m e, FloatKind.f64.decode b = .number false m e ∧ FloatKind.f64.decode (b + 9223372036854775808) = .number true m e := by
  have e1 : FloatKind.f64.format.signWeight = 9223372036854775808 := by decide
  have e2 : FloatKind.f64.format.binade = 4503599627370496 := by decide
  have e3 : FloatKind.f64.format.infRung = 9218868437227405312 := by decide
  have e0 : ∀ x, FloatKind.f64.decode x = FloatKind.f64.format.read x := fun _ => rfl
  simp only [e0]
  unfold Format.read
  simp only [e1, e2, e3]
  rw [show b % 9223372036854775808 = b by omega, show (b + 9223372036854775808) % 9223372036854775808 = b by omega, show b / 9223372036854775808 = 0 by omega, show (b + 9223372036854775808) / 9223372036854775808 = 1 by omega]
  by_cases c : b < 4503599627370496
  · rw [if_pos c, if_pos c]; exact ⟨_, _, rfl, rfl⟩
  · rw [if_neg c, if_neg c, if_pos hr, if_pos hr]; exact ⟨_, _, rfl, rfl⟩
theorem Wh.neg {a : Nat} {m : Int} (h : Wh a m) : Wh (Op.negFloat .f64 a) (-m) := by
  have hf := h.1.form
  have e : Op.negFloat .f64 a = a ^^^ 9223372036854775808 := rfl
  rw [e, xor_top a h.2]
  by_cases c : a < 9223372036854775808
  · rw [if_pos c]
    obtain ⟨M, E, h1, h2⟩ := decode_sign a c (by omega)
    refine ⟨?_, by omega⟩
    have ho := h.1.opposite
    rw [h1] at ho
    rw [h2]
    exact ho
  · rw [if_neg c]
    obtain ⟨M, E, h1, h2⟩ := decode_sign (a - 9223372036854775808) (by have := h.2; omega) (by have := h.2; omega)
    rw [show a - 9223372036854775808 + 9223372036854775808 = a by omega] at h2
    refine ⟨?_, by have := h.2; omega⟩
    have ho := h.1.opposite
    rw [h2] at ho
    rw [h1]
    exact ho
theorem abs_bits (a : Nat) (h : a < 18446744073709551616) : (Go.bits .andNot .u64 (a : Int) 9223372036854775808).toNat = a % 9223372036854775808 := by
  have e : (~~~ BitVec.ofInt 64 9223372036854775808) = BitVec.ofNat 64 (2 ^ 63 - 1) := by decide
  have hb : Go.bits .andNot .u64 (a : Int) 9223372036854775808 = IntKind.u64.wrap ((BitVec.ofInt 64 (a : Int) &&& ~~~ BitVec.ofInt 64 9223372036854775808).toNat : Int) := rfl
  rw [hb, e, BitVec.ofInt_natCast, BitVec.toNat_and, BitVec.toNat_ofNat, BitVec.toNat_ofNat, Nat.mod_eq_of_lt h, Nat.mod_eq_of_lt (by decide : 2 ^ 63 - 1 < 2 ^ 64), Nat.and_two_pow_sub_one_eq_mod]
  show (((a % 9223372036854775808 : Nat) : Int) % 18446744073709551616).toNat = _
  omega
theorem Wh.abs {a : Nat} {m : Int} (h : Wh a m) : Wh ((Go.bits .andNot .u64 (a : Int) 9223372036854775808).toNat) (m.natAbs : Int) := by
  rw [abs_bits a h.2]
  have hf := h.1.form
  have key : ∀ M E, Rep (.number true M E) m → Rep (.number false M E) (m.natAbs : Int) := fun M E hr => by
    obtain ⟨s, k, e, hp, hn, hk⟩ := hr
    injection e with e1 e2 e3
    exact ⟨false, k, by rw [e2, e3, Int.natAbs_natCast], fun _ => rfl, fun h => by omega, hk⟩
  have key2 : ∀ M E, Rep (.number false M E) m → Rep (.number false M E) (m.natAbs : Int) := fun M E hr => by
    obtain ⟨s, k, e, hp, hn, hk⟩ := hr
    injection e with e1 e2 e3
    exact ⟨false, k, by rw [e2, e3, Int.natAbs_natCast], fun _ => rfl, fun h => by omega, hk⟩
  by_cases c : a < 9223372036854775808
  · obtain ⟨M, E, h1, h2⟩ := decode_sign a c (by omega)
    have hr := h.1
    rw [h1] at hr
    rw [show a % 9223372036854775808 = a by omega]
    exact ⟨by rw [h1]; exact key2 _ _ hr, h.2⟩
  · obtain ⟨M, E, h1, h2⟩ := decode_sign (a - 9223372036854775808) (by have := h.2; omega) (by have := h.2; omega)
    rw [show a - 9223372036854775808 + 9223372036854775808 = a by omega] at h2
    have hr := h.1
    rw [h2] at hr
    rw [show a % 9223372036854775808 = a - 9223372036854775808 by have := h.2; omega]
    exact ⟨by rw [h1]; exact key _ _ hr, by have := h.2; omega⟩
end Go.Proofs.Ytnioplhdhaomoaa.Whole
