/- The field's laws that the matrices need: the product spreads over xor, and is associative. -/
import Derived.Test.YtfnhnniecclleaaMul
namespace Go.Proofs.Ytfnhnniecclleaa.Spec
open Go.RowKit Go.Proofs.Ytfnhnniecclleaa.PA Go.Proofs.YtfnhnniecclleaaW.PrintWords Go.Proofs.YtfnhnniecclleaaW.PrintLast Go.Proofs.YtfnhnniecclleaaW.PrintMore
set_option linter.unusedVariables false
theorem xor_u8 (a b : Nat) (ha : a < 256) (hb : b < 256) : Go.bits .xor .u8 (a : Int) (b : Int) = ((a ^^^ b : Nat) : Int) := by
  have hx : a ^^^ b < 2 ^ 8 := Nat.xor_lt_two_pow (by omega) (by omega)
  have h1 : (BitVec.ofInt 8 (a : Int)).toNat = a := by rw [BitVec.ofInt_natCast, BitVec.toNat_ofNat]; exact Nat.mod_eq_of_lt (by omega)
  have h2 : (BitVec.ofInt 8 (b : Int)).toNat = b := by rw [BitVec.ofInt_natCast, BitVec.toNat_ofNat]; exact Nat.mod_eq_of_lt (by omega)
  show IntKind.u8.wrap ((BitVec.ofInt 8 (a : Int) ^^^ BitVec.ofInt 8 (b : Int)).toNat : Int) = _
  rw [BitVec.toNat_xor, h1, h2]
  simp only [IntKind.wrap, IntKind.bits, IntKind.signed]
  simp
  omega
def chx : Nat → Nat → Bool
  | 0, _ => true
  | b + 1, a => match Nat.beq (dblN (Nat.xor a b)) (Nat.xor (dblN a) (dblN b)) with | true => chx b a | false => false
def chxA : Nat → Bool
  | 0 => true
  | a + 1 => match chx 256 a with | true => chxA a | false => false
set_option maxRecDepth 10000000 in
theorem chx_all : chxA 256 = true := by decide +kernel
theorem chx_b : ∀ (n a b : Nat), chx n a = true → b < n → dblN (a ^^^ b) = dblN a ^^^ dblN b
  | 0, _, _, _, h => by omega
  | n + 1, a, b, h, hb => by
    rw [chx] at h
    cases e : Nat.beq (dblN (Nat.xor a n)) (Nat.xor (dblN a) (dblN n)) with
    | false => rw [e] at h; cases h
    | true =>
      rw [e] at h
      by_cases c : b = n
      · subst c; exact Nat.eq_of_beq_eq_true e
      · exact chx_b n a b h (by omega)
theorem chx_a : ∀ (n a : Nat), chxA n = true → a < n → chx 256 a = true
  | 0, _, _, h => by omega
  | n + 1, a, h, ha => by
    rw [chxA] at h
    cases e : chx 256 n with
    | false => rw [e] at h; cases h
    | true =>
      rw [e] at h
      by_cases c : a = n
      · subst c; exact e
      · exact chx_a n a h (by omega)
theorem dblN_xor (a b : Nat) (ha : a < 256) (hb : b < 256) : dblN (a ^^^ b) = dblN a ^^^ dblN b := chx_b 256 a b (chx_a 256 a chx_all ha) hb
theorem dblN_lt : ∀ a, a < 256 → dblN a < 256 := by decide +kernel
def itN : Nat → Nat → Nat
  | 0, b => b
  | i + 1, b => dblN (itN i b)
theorem itN_lt (b : Nat) (hb : b < 256) : ∀ i, itN i b < 256
  | 0 => hb
  | i + 1 => dblN_lt _ (itN_lt b hb i)
theorem mulN_it (b : Nat) (hb : b < 256) : ∀ i, mulN (exA i).toNat b = itN i b
  | 0 => by rw [show (exA 0).toNat = 1 from rfl, mulN_one _ hb, itN]
  | i + 1 => by
    have hi := exA_lt i
    rw [exA_dblN, mulN_dbl _ _ (by omega) hb, mulN_it b hb i, itN]
theorem itN_xor (a b : Nat) (ha : a < 256) (hb : b < 256) : ∀ i, itN i (a ^^^ b) = itN i a ^^^ itN i b
  | 0 => rfl
  | i + 1 => by rw [itN, itN_xor a b ha hb i, dblN_xor _ _ (itN_lt a ha i) (itN_lt b hb i)]; rfl
def xo (a b : Int) : Int := Go.bits .xor .u8 a b
theorem xo_nat {a b : Int} (ha : 0 ≤ a) (ha2 : a < 256) (hb : 0 ≤ b) (hb2 : b < 256) : xo a b = ((a.toNat ^^^ b.toNat : Nat) : Int) := by
  have := xor_u8 a.toNat b.toNat (by omega) (by omega)
  rw [Int.toNat_of_nonneg ha, Int.toNat_of_nonneg hb] at this
  exact this
theorem xo_byte (a b : Int) : 0 ≤ xo a b ∧ xo a b < 256 := by
  have h1 := Go.bits_lo_u8 .xor a b
  have h2 := Go.bits_hi_u8 .xor a b
  unfold xo; omega
theorem mulT_zl (b : Int) : mulT 0 b = 0 := by unfold mulT; rw [if_pos rfl]
theorem mulT_zr (a : Int) : mulT a 0 = 0 := by unfold mulT; split <;> rfl
theorem mulT_comm (a b : Int) : mulT a b = mulT b a := by
  unfold mulT
  by_cases c : a = 0
  · rw [if_pos c]; split <;> rfl
  · rw [if_neg c]
    by_cases d : b = 0
    · rw [if_pos d, if_pos d]
    · rw [if_neg d, if_neg d, if_neg c, Nat.add_comm]
theorem mulT_it (i : Nat) (hi : i < 255) (b : Int) (hb : 0 ≤ b) (hb2 : b < 256) : mulT (exA i) b = ((itN i b.toNat : Nat) : Int) := by
  have h := exA_lt i
  have e := mulN_mulT (exA i) b (by omega) (by omega) hb hb2
  rw [mulN_it _ (by omega)] at e
  have hl := itN_lt b.toNat (by omega) i
  omega
theorem mulT_xo (c a b : Int) (hc : 0 ≤ c) (hc2 : c < 256) (ha : 0 ≤ a) (ha2 : a < 256) (hb : 0 ≤ b) (hb2 : b < 256) : mulT c (xo a b) = xo (mulT c a) (mulT c b) := by
  by_cases c0 : c = 0
  · subst c0; rw [mulT_zl, mulT_zl, mulT_zl]; rfl
  · obtain ⟨i, hi, rfl⟩ := exA_onto c (by omega) hc2
    have hx := xo_byte a b
    have la := itN_lt a.toNat (by omega) i
    have lb := itN_lt b.toNat (by omega) i
    rw [mulT_it i hi _ hx.1 hx.2, mulT_it i hi a ha ha2, mulT_it i hi b hb hb2, xo_nat ha ha2 hb hb2, Int.toNat_natCast, itN_xor _ _ (by omega) (by omega), xo_nat (by omega) (by omega) (by omega) (by omega), Int.toNat_natCast, Int.toNat_natCast]
theorem mulT_xo_l (a b x : Int) (ha : 0 ≤ a) (ha2 : a < 256) (hb : 0 ≤ b) (hb2 : b < 256) (hx : 0 ≤ x) (hx2 : x < 256) : mulT (xo a b) x = xo (mulT a x) (mulT b x) := by
  rw [mulT_comm, mulT_xo x a b hx hx2 ha ha2 hb hb2, mulT_comm x a, mulT_comm x b]
theorem mulT_ex (i j : Nat) (hi : i < 255) (hj : j < 255) : mulT (exA i) (exA j) = exA (i + j) := by
  have h1 := exA_lt i
  have h2 := exA_lt j
  unfold mulT
  rw [if_neg (by omega), if_neg (by omega), logT_ex i hi, logT_ex j hj]
theorem mulT_assoc (a b c : Int) (ha : 0 ≤ a) (ha2 : a < 256) (hb : 0 ≤ b) (hb2 : b < 256) (hc : 0 ≤ c) (hc2 : c < 256) : mulT (mulT a b) c = mulT a (mulT b c) := by
  by_cases a0 : a = 0
  · subst a0; rw [mulT_zl, mulT_zl, mulT_zl]
  · by_cases b0 : b = 0
    · subst b0; rw [mulT_zr, mulT_zl, mulT_zr]
    · by_cases c0 : c = 0
      · subst c0; rw [mulT_zr, mulT_zr, mulT_zr]
      · obtain ⟨i, hi, rfl⟩ := exA_onto a (by omega) ha2
        obtain ⟨j, hj, rfl⟩ := exA_onto b (by omega) hb2
        obtain ⟨l, hl, rfl⟩ := exA_onto c (by omega) hc2
        rw [mulT_ex i j hi hj, mulT_ex j l hj hl, ← exA_mod (i + j), ← exA_mod (j + l), mulT_ex _ l (Nat.mod_lt _ (by omega)) hl, mulT_ex i _ hi (Nat.mod_lt _ (by omega)), ← exA_mod ((i + j) % 255 + l), ← exA_mod (i + (j + l) % 255)]
        congr 1
        omega
theorem mulT_one (b : Int) (hb : 0 ≤ b) (hb2 : b < 256) : mulT 1 b = b := by
  rw [show (1 : Int) = exA 0 from rfl, mulT_it 0 (by omega) b hb hb2, itN]; omega
theorem xo_zero (a : Int) (ha : 0 ≤ a) (ha2 : a < 256) : xo 0 a = a := by
  rw [xo_nat (by omega) (by omega) ha ha2]
  simp; omega
theorem xo_zero_r (a : Int) (ha : 0 ≤ a) (ha2 : a < 256) : xo a 0 = a := by
  rw [xo_nat ha ha2 (by omega) (by omega)]
  simp; omega
theorem xo_swap (a b c d : Int) (ha : 0 ≤ a ∧ a < 256) (hb : 0 ≤ b ∧ b < 256) (hc : 0 ≤ c ∧ c < 256) (hd : 0 ≤ d ∧ d < 256) : xo (xo a b) (xo c d) = xo (xo a c) (xo b d) := by
  have h1 := xo_byte a b
  have h2 := xo_byte c d
  have h3 := xo_byte a c
  have h4 := xo_byte b d
  rw [xo_nat h1.1 h1.2 h2.1 h2.2, xo_nat h3.1 h3.2 h4.1 h4.2, xo_nat ha.1 ha.2 hb.1 hb.2, xo_nat hc.1 hc.2 hd.1 hd.2, xo_nat ha.1 ha.2 hc.1 hc.2, xo_nat hb.1 hb.2 hd.1 hd.2]
  simp only [Int.toNat_natCast]
  congr 1
  ac_rfl
end Go.Proofs.Ytfnhnniecclleaa.Spec
