/- What the machine and the reference's machine share: bytes, sums, products; lists of blocks alike. -/
import Derived.Test.YtlflfpkjbjbldaaMul
import Derived.Test.YtlflfpkjbjbldaaPAx12
namespace Go.Proofs.Ytlflfpkjbjbldaa.Spec
open Go.RowKit Go.Proofs.Ytlflfpkjbjbldaa.PA Go.Proofs.YtlflfpkjbjbldaaW.PrintWords Go.Proofs.YtlflfpkjbjbldaaW.PrintLast Go.Proofs.YtlflfpkjbjbldaaW.PrintMore
set_option linter.unusedVariables false
set_option linter.unusedSectionVars false
def byteL (l : List Int) : Prop := ∀ y ∈ l, 0 ≤ y ∧ y < 256
def OkB (L : Nat) (vals : List (List Int)) : Prop := ∀ v ∈ vals, v.length = L ∧ byteL v
def xorB (a b : List Int) : List Int := List.zipWith (Go.bits .xor .u8) a b
theorem rd9 (l : List (List Int)) (i : Nat) (h : i < l.length) : rd_L13 l (i : Int) = l[i] := by simp [rd_L13, h]
theorem xorB_len {a b : List Int} (h : a.length = b.length) : (xorB a b).length = a.length := by rw [xorB, List.length_zipWith, h, Nat.min_self]
theorem xor_byte (a b : Int) : 0 ≤ Go.bits .xor .u8 a b ∧ Go.bits .xor .u8 a b < 256 := by
  have h1 := Go.bits_lo_u8 .xor a b
  have h2 := Go.bits_hi_u8 .xor a b
  omega
theorem xorB_byte : ∀ (a b : List Int), byteL (xorB a b)
  | [], _, y, h => by simp [xorB] at h
  | _ :: _, [], y, h => by simp [xorB] at h
  | a :: r, b :: s, y, h => by
    rcases List.mem_cons.1 (show y ∈ Go.bits .xor .u8 a b :: xorB r s from h) with rfl | h
    · exact xor_byte a b
    · exact xorB_byte r s y h
def scB (c : Int) (l : List Int) : List Int := l.map (mulT c)
theorem rep_byte (L : Nat) : byteL (List.replicate L 0) := fun y hy => by rw [(List.mem_replicate.1 hy).2]; omega
theorem scale_f (c : Int) (l : List Int) (h0 : 0 ≤ c) (h1 : c < 256) (hl : byteL l) (hn : l.length ≤ 281474976710656) : field_Scale.f c l = some (scB c l) := by
  unfold field_Scale.f
  rw [if_pos, if_pos hn]; rfl
  simp only [Bool.and_eq_true, inByte, decide_eq_true_eq, List.all_eq_true]
  exact ⟨⟨h0, h1⟩, hl⟩
theorem mac_l0 (c : Int) (hc0 : 0 ≤ c) (hc1 : c < 256) : ∀ (Q S2 P S1 X : List Int) (m : Nat), P.length = m → S1.length = m → X.length = m → Q.length = S2.length → m + Q.length ≤ 140737488351232 → byteL S2 →
    Ev (fun k => recoupref01_Mac.l0 k (P ++ Q) c (S1 ++ S2) X (m : Int)) (X ++ xorB Q (scB c S2), 0)
  | [], S2, P, S1, X, m, hP, hS, hX, hQ, hm, hb => by
    have e : S2 = [] := List.eq_nil_of_length_eq_zero (by simpa using hQ.symm)
    subst e
    refine Ev.step (fun k => ?_) (Ev.now _)
    simp only [recoupref01_Mac.l0, List.append_nil]
    rw [if_neg (by omega)]
    simp [xorB]
  | q :: Q, [], P, S1, X, m, hP, hS, hX, hQ, hm, hb => by simp at hQ
  | q :: Q, s :: S, P, S1, X, m, hP, hS, hX, hQ, hm, hb => by
    simp only [List.length_cons] at hQ hm
    have hs := hb s (by simp)
    have hnext := mac_l0 c hc0 hc1 Q S (P ++ [q]) (S1 ++ [s]) (X ++ [Go.bits .xor .u8 q (mulT c s)]) (m + 1) (by simp [hP]) (by simp [hS]) (by simp [hX]) (by omega) (by omega) (fun y hy => hb y (by simp [hy]))
    have e1 : S1 ++ [s] ++ S = S1 ++ s :: S := by simp
    have e2 : P ++ [q] ++ Q = P ++ q :: Q := by simp
    have e3 : X ++ [Go.bits .xor .u8 q (mulT c s)] ++ xorB Q (scB c S) = X ++ xorB (q :: Q) (scB c (s :: S)) := by simp [xorB, scB]
    rw [e1, e2, e3] at hnext
    have r1 : rd (P ++ q :: Q) (m : Int) = q := by subst hP; simp [rd]
    have r2 : rd (S1 ++ s :: S) (m : Int) = s := by subst hS; simp [rd]
    have hlen : ((S1 ++ s :: S).length : Int) = m + 1 + S.length := by simp only [List.length_append, List.length_cons]; omega
    have hlen2 : ((P ++ q :: Q).length : Int) = m + 1 + Q.length := by simp only [List.length_append, List.length_cons]; omega
    refine Ev.step (f := fun k => (recoupref01_Mul.f k c s).bind fun t => recoupref01_Mac.l0 k (P ++ q :: Q) c (S1 ++ s :: S) (X ++ [Go.bits .xor .u8 q t]) ((m + 1 : Nat) : Int)) (fun k => ?_) (Ev.bind (mul_ev c s hc0 hc1 hs.1 hs.2) hnext)
    simp only [recoupref01_Mac.l0]
    rw [if_pos (by omega), if_pos (by omega), if_pos (by omega), r1, r2, w64 (by omega) (by omega), i1]
    congr 1
    funext t
    rw [if_pos (by omega)]
theorem mac_ev (c : Int) (hc0 : 0 ≤ c) (hc1 : c < 256) (a b : List Int) (h : a.length = b.length) (hn : a.length ≤ 140737488351232) (hb : byteL b) : Ev (fun k => recoupref01_Mac.f k a c b) (xorB a (scB c b), 0) := by
  refine Ev.congr (fun k => ?_) (mac_l0 c hc0 hc1 a b [] [] [] 0 rfl rfl rfl h (by omega) hb)
  simp only [recoupref01_Mac.f]
  rw [if_pos (by omega)]
  rfl
theorem strOfNums_self (l : List Int) : ((strOfNums l).toList == (strOfNums l).toList) = true := by simp
theorem blocks_l0 (a : List (List Int)) (hn : a.length ≤ 9223372036854775807) (d : Nat) : ∀ (i : Nat), i + d = a.length → Ev (fun k => recoupref21_Blocks.l0 k a a (i : Int)) true := by
  induction d with
  | zero =>
    intro i h
    refine Ev.step (fun k => ?_) (Ev.now _)
    simp only [recoupref21_Blocks.l0]
    rw [if_neg (by omega)]
  | succ d ih =>
    intro i h
    refine Ev.step (fun k => ?_) (ih (i + 1) (by omega))
    simp only [recoupref21_Blocks.l0, recoupref01_Same.f, strOfNums_self, Option.bind_some, if_true]
    rw [if_pos (by omega), if_pos (by omega), if_pos (by omega), w64 (by omega) (by omega), i1]
theorem blocks_refl (a : List (List Int)) (hn : a.length ≤ 9223372036854775807) : Ev (fun k => recoupref21_Blocks.f k a a) true := by
  refine Ev.congr (fun k => ?_) (blocks_l0 a hn a.length 0 (by omega))
  simp only [recoupref21_Blocks.f]
  rw [if_pos trivial]; rfl
def BlI (bl : List (List Int)) : Prop := bl.length * 24 ≤ 140737488351232 ∧ ∀ l ∈ bl, l.length * 1 ≤ 140737488351232 ∧ ∀ y ∈ l, (Lit.int .u8 y).wf = true
theorem wf_u8 {y : Int} (h : (Lit.int .u8 y).wf = true) : 0 ≤ y ∧ y < 256 := by
  have h2 : 0 ≤ y ∧ y ≤ 255 := by simpa [Lit.wf, IntKind.min, IntKind.max, IntKind.bits, IntKind.signed] using h
  omega
theorem bli_bytes {bl : List (List Int)} (h : BlI bl) : ∀ l ∈ bl, l.length * 1 ≤ 140737488351232 ∧ ∀ y ∈ l, 0 ≤ y ∧ y < 256 := fun l hl => ⟨(h.2 l hl).1, fun y hy => wf_u8 ((h.2 l hl).2 y hy)⟩
end Go.Proofs.Ytlflfpkjbjbldaa.Spec
