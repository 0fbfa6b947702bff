/- The reference's product of two bytes is the program's: both are powers of the generator; the reference's is linear step by step. -/
import Derived.Test.YtfnhnniecclleaaSpec
import Derived.Test.YtfnhnniecclleaaPAx12
import Derived.Test.YtfnhnniecclleaaPAx14
namespace Go.Proofs.Ytfnhnniecclleaa.Spec
open Go.RowKit Go.Proofs.Ytfnhnniecclleaa.PA Go.Proofs.YtfnhnniecclleaaW.PrintWords Go.Proofs.YtfnhnniecclleaaW.PrintLast Go.Proofs.YtfnhnniecclleaaW.PrintMore
set_option linter.unusedVariables false
theorem and_u8 (a b : Nat) (ha : a < 256) (hb : b < 256) : Go.bits .and .u8 (a : Int) (b : Int) = ((a &&& b : Nat) : Int) := by
  have hx : a &&& b ≤ a := Nat.and_le_left
  have h1 : (BitVec.ofInt 8 (a : Int)).toNat = a := by rw [BitVec.ofInt_natCast, BitVec.toNat_ofNat]; exact Nat.mod_eq_of_lt (by omega)
  have h2 : (BitVec.ofInt 8 (b : Int)).toNat = b := by rw [BitVec.ofInt_natCast, BitVec.toNat_ofNat]; exact Nat.mod_eq_of_lt (by omega)
  show IntKind.u8.wrap ((BitVec.ofInt 8 (a : Int) &&& BitVec.ofInt 8 (b : Int)).toNat : Int) = _
  rw [BitVec.toNat_and, h1, h2]
  simp only [IntKind.wrap, IntKind.bits, IntKind.signed]
  simp
  omega
theorem and_i64 (a b : Nat) (ha : a < 9223372036854775808) (hb : b < 9223372036854775808) : Go.bits .and .i64 (a : Int) (b : Int) = ((a &&& b : Nat) : Int) := by
  have hx : a &&& b ≤ a := Nat.and_le_left
  have h1 : (BitVec.ofInt 64 (a : Int)).toNat = a := by rw [BitVec.ofInt_natCast, BitVec.toNat_ofNat]; exact Nat.mod_eq_of_lt (by omega)
  have h2 : (BitVec.ofInt 64 (b : Int)).toNat = b := by rw [BitVec.ofInt_natCast, BitVec.toNat_ofNat]; exact Nat.mod_eq_of_lt (by omega)
  show IntKind.i64.wrap ((BitVec.ofInt 64 (a : Int) &&& BitVec.ofInt 64 (b : Int)).toNat : Int) = _
  rw [BitVec.toNat_and, h1, h2]
  simp only [IntKind.wrap, IntKind.bits, IntKind.signed]
  simp
  omega
theorem xor_i64 (a b : Nat) (ha : a < 9223372036854775808) (hb : b < 9223372036854775808) : Go.bits .xor .i64 (a : Int) (b : Int) = ((a ^^^ b : Nat) : Int) := by
  have hx : a ^^^ b < 2 ^ 63 := Nat.xor_lt_two_pow (by omega) (by omega)
  have h1 : (BitVec.ofInt 64 (a : Int)).toNat = a := by rw [BitVec.ofInt_natCast, BitVec.toNat_ofNat]; exact Nat.mod_eq_of_lt (by omega)
  have h2 : (BitVec.ofInt 64 (b : Int)).toNat = b := by rw [BitVec.ofInt_natCast, BitVec.toNat_ofNat]; exact Nat.mod_eq_of_lt (by omega)
  show IntKind.i64.wrap ((BitVec.ofInt 64 (a : Int) ^^^ BitVec.ofInt 64 (b : Int)).toNat : Int) = _
  rw [BitVec.toNat_xor, h1, h2]
  simp only [IntKind.wrap, IntKind.bits, IntKind.signed]
  simp
  omega
def tm (a b n : Nat) : Nat := Nat.mul (Nat.land (Nat.shiftRight b n) 1) (Nat.shiftLeft a n)
def accN (a b : Nat) : Nat := Nat.xor (Nat.xor (Nat.xor (Nat.xor (Nat.xor (Nat.xor (Nat.xor (tm a b 0) (tm a b 1)) (tm a b 2)) (tm a b 3)) (tm a b 4)) (tm a b 5)) (tm a b 6)) (tm a b 7)
def st (x n : Nat) : Nat := Nat.xor x (Nat.mul (Nat.land (Nat.shiftRight x (Nat.add 8 n)) 1) (Nat.shiftLeft 285 n))
def redN (x : Nat) : Nat := st (st (st (st (st (st (st x 6) 5) 4) 3) 2) 1) 0
def mulN (a b : Nat) : Nat := redN (accN a b)
def dblN (a : Nat) : Nat := Nat.xor (Nat.mul 2 a) (Nat.mul 285 (Nat.shiftRight a 7))
theorem tm_lt (a b n : Nat) (ha : a < 256) (hn : n < 8) : tm a b n < 32768 := by
  unfold tm
  have h1 : Nat.land (Nat.shiftRight b n) 1 ≤ 1 := Nat.and_le_right
  have h2 : Nat.shiftLeft a n = a * 2 ^ n := Nat.shiftLeft_eq a n
  have h3 : 2 ^ n ≤ 2 ^ 7 := Nat.pow_le_pow_right (by omega) (by omega)
  have h4 : a * 2 ^ n ≤ 255 * 2 ^ 7 := Nat.mul_le_mul (by omega) h3
  have h5 := Nat.mul_le_mul h1 (show Nat.shiftLeft a n ≤ 255 * 2 ^ 7 by omega)
  have h6 : Nat.mul (Nat.land (Nat.shiftRight b n) 1) (Nat.shiftLeft a n) = Nat.land (Nat.shiftRight b n) 1 * Nat.shiftLeft a n := rfl
  omega
theorem xor_lt15 {a b : Nat} (ha : a < 32768) (hb : b < 32768) : Nat.xor a b < 32768 := Nat.xor_lt_two_pow (n := 15) ha hb
theorem st_lt (x n : Nat) (hx : x < 32768) (hn : n < 7) : st x n < 32768 := by
  unfold st
  refine xor_lt15 hx ?_
  have h1 : Nat.land (Nat.shiftRight x (Nat.add 8 n)) 1 ≤ 1 := Nat.and_le_right
  have h2 : Nat.shiftLeft 285 n = 285 * 2 ^ n := Nat.shiftLeft_eq 285 n
  have h3 : 2 ^ n ≤ 2 ^ 6 := Nat.pow_le_pow_right (by omega) (by omega)
  have h5 := Nat.mul_le_mul h1 (show Nat.shiftLeft 285 n ≤ 285 * 2 ^ 6 by omega)
  have h6 : Nat.mul (Nat.land (Nat.shiftRight x (Nat.add 8 n)) 1) (Nat.shiftLeft 285 n) = Nat.land (Nat.shiftRight x (Nat.add 8 n)) 1 * Nat.shiftLeft 285 n := rfl
  omega
theorem bit_cases (x n : Nat) : Nat.land (Nat.shiftRight x n) 1 = 0 ∨ Nat.land (Nat.shiftRight x n) 1 = 1 := by
  have h1 : Nat.land (Nat.shiftRight x n) 1 ≤ 1 := Nat.and_le_right
  omega
theorem u64n (n : Nat) (h : n < 100) : IntKind.u64.wrap (n : Int) = (n : Int) := by rw [Go.IntKind.wrap_u64]; omega
theorem shr_u8n (b n : Nat) (h : n ≤ 8) : shr .u8 (b : Int) (n : Int) = ((Nat.shiftRight b n : Nat) : Int) := by
  unfold shr
  rw [show min ((n : Int)).toNat IntKind.u8.bits = n from by simp only [IntKind.bits, Int.toNat_natCast]; omega]
  rw [show Nat.shiftRight b n = b / 2 ^ n from Nat.shiftRight_eq_div_pow b n]
  rw [Int.natCast_ediv, Int.natCast_pow]; rfl
theorem shr_i64n (b n : Nat) (h : n ≤ 64) : shr .i64 (b : Int) (n : Int) = ((Nat.shiftRight b n : Nat) : Int) := by
  unfold shr
  rw [show min ((n : Int)).toNat IntKind.i64.bits = n from by simp only [IntKind.bits, Int.toNat_natCast]; omega]
  rw [show Nat.shiftRight b n = b / 2 ^ n from Nat.shiftRight_eq_div_pow b n]
  rw [Int.natCast_ediv, Int.natCast_pow]; rfl
theorem shl_i64n (a n : Nat) (h : n ≤ 8) (ha : a < 65536) : shl .i64 (a : Int) (n : Int) = ((Nat.shiftLeft a n : Nat) : Int) := by
  unfold shl
  rw [show min ((n : Int)).toNat IntKind.i64.bits = n from by simp only [IntKind.bits, Int.toNat_natCast]; omega]
  rw [show Nat.shiftLeft a n = a * 2 ^ n from Nat.shiftLeft_eq a n]
  have h3 : 2 ^ n ≤ 2 ^ 8 := Nat.pow_le_pow_right (by omega) h
  have h4 : a * 2 ^ n ≤ 65535 * 2 ^ 8 := Nat.mul_le_mul (by omega) h3
  have h5 : (a : Int) * 2 ^ n = ((a * 2 ^ n : Nat) : Int) := by rw [Int.natCast_mul, Int.natCast_pow]; rfl
  rw [h5]
  simp only [IntKind.wrap, IntKind.bits, IntKind.signed]
  simp
  omega
theorem mul_l0 (a b : Nat) (ha : a < 256) (hb : b < 256) (n x : Nat) (hn : n < 8) (hx : x < 32768) (R : Int) (h : Ev (fun k => recoupref01_Mul.l0 k (a : Int) (b : Int) ((Nat.xor x (tm a b n) : Nat) : Int) ((n + 1 : Nat) : Int)) R) :
    Ev (fun k => recoupref01_Mul.l0 k (a : Int) (b : Int) (x : Int) (n : Int)) R := by
  refine Ev.step (fun k => ?_) h
  have hs : Nat.shiftRight b n < 256 := Nat.lt_of_le_of_lt (Nat.shiftRight_le b n) hb
  have hl : Nat.shiftLeft a n < 32768 := by
    have h2 : Nat.shiftLeft a n = a * 2 ^ n := Nat.shiftLeft_eq a n
    have h3 : 2 ^ n ≤ 2 ^ 7 := Nat.pow_le_pow_right (by omega) (by omega)
    have h4 : a * 2 ^ n ≤ 255 * 2 ^ 7 := Nat.mul_le_mul (by omega) h3
    omega
  simp only [recoupref01_Mul.l0]
  rw [if_pos (by omega), u64n n (by omega), if_pos (by omega), shr_u8n b n (by omega), show (1 : Int) = ((1 : Nat) : Int) from rfl, and_u8 _ 1 hs (by omega), w64 (x := (a : Int)) (by omega) (by omega), shl_i64n a n (by omega) (by omega), xor_i64 _ _ (by omega) (by omega), w64 (by omega) (by omega)]
  unfold tm
  rcases bit_cases b n with e | e
  · rw [if_neg (by have e' : Nat.shiftRight b n &&& 1 = 0 := e; rw [e']; omega), e]
    rw [show Nat.mul 0 (Nat.shiftLeft a n) = 0 from Nat.zero_mul _, show Nat.xor x 0 = x from Nat.xor_zero x]
    rfl
  · rw [if_pos (by have e' : Nat.shiftRight b n &&& 1 = 1 := e; rw [e']), e]
    rw [show Nat.mul 1 (Nat.shiftLeft a n) = Nat.shiftLeft a n from Nat.one_mul _]
    rfl
theorem mul_l1 (n x : Nat) (hn : n < 7) (hx : x < 32768) (R : Int) (h : Ev (fun k => recoupref01_Mul.l1 k ((st x n : Nat) : Int) ((8 + n : Nat) - 1 : Int)) R) :
    Ev (fun k => recoupref01_Mul.l1 k (x : Int) ((8 + n : Nat) : Int)) R := by
  refine Ev.step (fun k => ?_) h
  have hs : Nat.shiftRight x (8 + n) < 32768 := Nat.lt_of_le_of_lt (Nat.shiftRight_le x _) hx
  have hl : Nat.shiftLeft 285 n < 32768 := by
    have h2 : Nat.shiftLeft 285 n = 285 * 2 ^ n := Nat.shiftLeft_eq 285 n
    have h3 : 2 ^ n ≤ 2 ^ 6 := Nat.pow_le_pow_right (by omega) (by omega)
    omega
  have e8 : wrap64 (((8 + n : Nat) : Int) - 8) = (n : Int) := by rw [w64 (by omega) (by omega)]; omega
  simp only [recoupref01_Mul.l1]
  rw [if_pos (by omega), e8, u64n (8 + n) (by omega), u64n n (by omega), if_pos (by omega), shr_i64n x (8 + n) (by omega), show (1 : Int) = ((1 : Nat) : Int) from rfl, and_i64 _ 1 (by omega) (by omega), show (285 : Int) = ((285 : Nat) : Int) from rfl, shl_i64n 285 n (by omega) (by omega), xor_i64 _ _ (by omega) (by omega), w64 (by omega) (by omega)]
  unfold st
  rcases bit_cases x (8 + n) with e | e
  · rw [if_neg (by have e' : Nat.shiftRight x (8 + n) &&& 1 = 0 := e; rw [e']; omega), show Nat.add 8 n = 8 + n from rfl, e]
    rw [show Nat.mul 0 (Nat.shiftLeft 285 n) = 0 from Nat.zero_mul _, show Nat.xor x 0 = x from Nat.xor_zero x]
  · rw [if_pos (by have e' : Nat.shiftRight x (8 + n) &&& 1 = 1 := e; rw [e']), if_pos (by omega), show Nat.add 8 n = 8 + n from rfl, e]
    rw [show Nat.mul 1 (Nat.shiftLeft 285 n) = Nat.shiftLeft 285 n from Nat.one_mul _]
    rfl
theorem mulN_ev (a b : Nat) (ha : a < 256) (hb : b < 256) : Ev (fun k => recoupref01_Mul.f k (a : Int) (b : Int)) (((mulN a b : Nat) : Int) % 256) := by
  refine Ev.congr (fun k => rfl) ?_
  have t := fun n (h : n < 8) => tm_lt a b n ha h
  have z : tm a b 0 = Nat.xor 0 (tm a b 0) := (Nat.zero_xor _).symm
  unfold mulN redN accN
  refine mul_l0 a b ha hb 0 0 (by omega) (by omega) _ ?_
  rw [← z]
  have x0 := t 0 (by omega)
  refine mul_l0 a b ha hb 1 _ (by omega) x0 _ ?_
  have x1 := xor_lt15 x0 (t 1 (by omega))
  refine mul_l0 a b ha hb 2 _ (by omega) x1 _ ?_
  have x2 := xor_lt15 x1 (t 2 (by omega))
  refine mul_l0 a b ha hb 3 _ (by omega) x2 _ ?_
  have x3 := xor_lt15 x2 (t 3 (by omega))
  refine mul_l0 a b ha hb 4 _ (by omega) x3 _ ?_
  have x4 := xor_lt15 x3 (t 4 (by omega))
  refine mul_l0 a b ha hb 5 _ (by omega) x4 _ ?_
  have x5 := xor_lt15 x4 (t 5 (by omega))
  refine mul_l0 a b ha hb 6 _ (by omega) x5 _ ?_
  have x6 := xor_lt15 x5 (t 6 (by omega))
  refine mul_l0 a b ha hb 7 _ (by omega) x6 _ ?_
  have x7 := xor_lt15 x6 (t 7 (by omega))
  generalize Nat.xor _ (tm a b 7) = y at x7 ⊢
  refine Ev.step (f := fun k => recoupref01_Mul.l1 k (y : Int) ((8 + 6 : Nat) : Int)) (fun k => ?_) ?_
  · simp only [recoupref01_Mul.l0]; rw [if_neg (by omega)]; rfl
  refine mul_l1 6 _ (by omega) x7 _ ?_
  have y6 := st_lt _ 6 x7 (by omega)
  refine mul_l1 5 _ (by omega) y6 _ ?_
  have y5 := st_lt _ 5 y6 (by omega)
  refine mul_l1 4 _ (by omega) y5 _ ?_
  have y4 := st_lt _ 4 y5 (by omega)
  refine mul_l1 3 _ (by omega) y4 _ ?_
  have y3 := st_lt _ 3 y4 (by omega)
  refine mul_l1 2 _ (by omega) y3 _ ?_
  have y2 := st_lt _ 2 y3 (by omega)
  refine mul_l1 1 _ (by omega) y2 _ ?_
  have y1 := st_lt _ 1 y2 (by omega)
  refine mul_l1 0 _ (by omega) y1 _ ?_
  refine Ev.step (fun k => ?_) (Ev.now _)
  simp only [recoupref01_Mul.l1]
  rw [if_neg (by omega)]
def chk : Nat → Nat → Bool
  | 0, _ => true
  | b + 1, a => match Nat.beq (mulN (dblN a) b) (dblN (mulN a b)) with | true => chk b a | false => false
def chkA : Nat → Bool
  | 0 => true
  | a + 1 => match chk 256 a with | true => chkA a | false => false
set_option maxRecDepth 10000000 in
theorem chk_all : chkA 256 = true := by decide +kernel
theorem chk_b : ∀ (n a b : Nat), chk n a = true → b < n → mulN (dblN a) b = dblN (mulN a b)
  | 0, _, _, _, h => by omega
  | n + 1, a, b, h, hb => by
    rw [chk] at h
    cases e : Nat.beq (mulN (dblN a) n) (dblN (mulN a n)) with
    | false => rw [e] at h; cases h
    | true =>
      rw [e] at h
      by_cases c : b = n
      · subst c; exact Nat.eq_of_beq_eq_true e
      · exact chk_b n a b h (by omega)
theorem chk_a : ∀ (n a : Nat), chkA n = true → a < n → chk 256 a = true
  | 0, _, _, h => by omega
  | n + 1, a, h, ha => by
    rw [chkA] at h
    cases e : chk 256 n with
    | false => rw [e] at h; cases h
    | true =>
      rw [e] at h
      by_cases c : a = n
      · subst c; exact e
      · exact chk_a n a h (by omega)
theorem mulN_dbl (a b : Nat) (ha : a < 256) (hb : b < 256) : mulN (dblN a) b = dblN (mulN a b) := chk_b 256 a b (chk_a 256 a chk_all ha) hb
theorem mulN_one : ∀ b, b < 256 → mulN 1 b = b := by decide +kernel
theorem mulN_zl : ∀ b, b < 256 → mulN 0 b = 0 := by decide +kernel
theorem mulN_zr : ∀ a, a < 256 → mulN a 0 = 0 := by decide +kernel
theorem dblN_dbl : ∀ a, a < 256 → dbl ((a : Nat) : Int) = ((dblN a : Nat) : Int) := by decide +kernel
theorem exA_lt (n : Nat) : 0 < exA n ∧ exA n < 256 := by
  rw [← exA_mod]; exact exA_range _ (by omega)
theorem exA_succ (n : Nat) : exA (n + 1) = dbl (exA n) := rfl
theorem exA_dblN (n : Nat) : (exA (n + 1)).toNat = dblN (exA n).toNat := by
  have h := exA_lt n
  have := dblN_dbl (exA n).toNat (by omega)
  rw [Int.toNat_of_nonneg (by omega)] at this
  rw [exA_succ, this]; rfl
theorem mulN_ex (j : Nat) : ∀ i, mulN (exA i).toNat (exA j).toNat = (exA (i + j)).toNat
  | 0 => by
    have h := exA_lt j
    rw [show (exA 0).toNat = 1 from rfl, mulN_one _ (by omega), Nat.zero_add]
  | i + 1 => by
    have h := exA_lt j
    have hi := exA_lt i
    rw [exA_dblN, mulN_dbl _ _ (by omega) (by omega), mulN_ex j i, show i + 1 + j = (i + j) + 1 from by omega, exA_dblN]
theorem mulN_mulT (a b : Int) (ha : 0 ≤ a) (ha2 : a < 256) (hb : 0 ≤ b) (hb2 : b < 256) : (((mulN a.toNat b.toNat : Nat) : Int) % 256) = mulT a b := by
  unfold mulT
  by_cases c : a = 0
  · subst c; rw [if_pos rfl, show (0 : Int).toNat = 0 from rfl, mulN_zl _ (by omega)]; rfl
  · rw [if_neg c]
    by_cases d : b = 0
    · subst d; rw [if_pos rfl, show (0 : Int).toNat = 0 from rfl, mulN_zr _ (by omega)]; rfl
    · rw [if_neg d]
      obtain ⟨i, hi, rfl⟩ := exA_onto a (by omega) ha2
      obtain ⟨j, hj, rfl⟩ := exA_onto b (by omega) hb2
      have h := exA_lt (i + j)
      rw [logT_ex i hi, logT_ex j hj, mulN_ex]
      omega
theorem mul_ev (a b : Int) (ha : 0 ≤ a) (ha2 : a < 256) (hb : 0 ≤ b) (hb2 : b < 256) : Ev (fun k => recoupref01_Mul.f k a b) (mulT a b) := by
  have h := mulN_ev a.toNat b.toNat (by omega) (by omega)
  rw [mulN_mulT a b ha ha2 hb hb2, Int.toNat_of_nonneg ha, Int.toNat_of_nonneg hb] at h
  exact h
end Go.Proofs.Ytfnhnniecclleaa.Spec
