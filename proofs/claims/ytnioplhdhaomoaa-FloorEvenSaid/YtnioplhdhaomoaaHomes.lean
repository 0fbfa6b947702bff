/- FloorHomes' plain law: the program's Homes and Blocks and the reference's are the same lists, the same sets. -/
import Derived.Test.YtnioplhdhaomoaaPAx3
namespace Go.Proofs.Ytnioplhdhaomoaa.Spec
open Go.RowKit Go.Proofs.Ytnioplhdhaomoaa.PA Go.Proofs.YtnioplhdhaomoaaW.PrintWords Go.Proofs.YtnioplhdhaomoaaW.PrintLast Go.Proofs.YtnioplhdhaomoaaW.PrintMore
set_option linter.unusedVariables false
set_option linter.unusedSimpArgs false
theorem hw64 {x : Int} (h0 : -9223372036854775808 ≤ x) (h1 : x < 9223372036854775808) : wrap64 x = x := by unfold wrap64; omega
theorem hi1 (i : Nat) : ((i : Int) + 1) = ((i + 1 : Nat) : Int) := by omega
theorem rd_get (l : List Int) (i : Nat) (h : i < l.length) : rd l (i : Int) = l[i] := by simp [rd, h]
theorem hdrop_cons {α : Type} (l : List α) (i : Nat) (h : i < l.length) : l.drop i = l[i] :: l.drop (i + 1) := List.drop_eq_getElem_cons h
theorem hdrop_end {α : Type} (l : List α) (i : Nat) (h : l.length ≤ i) : l.drop i = [] := List.drop_eq_nil_of_le h
section
variable (a0 a1 a2 a3 : Int) (l4 : List Int)
def inR : Bool := l4.all fun v => decide (0 ≤ v) && decide (v < a2)
def P1 : Prop := 1 ≤ a1 ∧ a1 ≤ 64 ∧ 1 ≤ a2 ∧ a2 ≤ 64 ∧ 1 ≤ a0 ∧ a0 ≤ 4
def P2 : Prop := (a0 = 3 ∧ 1 ≤ a3 ∧ a3 ≤ 2147483647) ∨ (a0 ≠ 3 ∧ a3 = 0)
def P3 : Prop := (a0 ≠ 4 ∧ l4.length = 0) ∨ (a0 = 4 ∧ (l4.length : Int) = a1 ∧ inR a2 l4 = true)
instance : Decidable (P1 a0 a1 a2) := by unfold P1; infer_instance
instance : Decidable (P2 a0 a3) := by unfold P2; infer_instance
instance : Decidable (P3 a0 a1 a2 l4) := by unfold P3; infer_instance
def Ok4 : Prop := P1 a0 a1 a2 ∧ P2 a0 a3 ∧ P3 a0 a1 a2 l4
instance : Decidable (Ok4 a0 a1 a2 a3 l4) := by unfold Ok4; infer_instance
theorem inR_cons (v : Int) (r : List Int) : inR a2 (v :: r) = (decide (0 ≤ v) && decide (v < a2) && inR a2 r) := rfl
theorem inR_mem (h : inR a2 l4 = true) : ∀ v ∈ l4, 0 ≤ v ∧ v < a2 := fun v hv => by
  have := List.all_eq_true.1 h v hv
  simpa using this
theorem may_l0 (hl : l4.length ≤ 17592186043904) (d : Nat) : ∀ (i : Nat), i + d = l4.length → Ev (fun k => floor_may.l0 k a1 a2 l4 l4 (l4.length : Int) (i : Int)) (inR a2 (l4.drop i) && ((l4.length : Int) == a1)) := by
  induction d with
  | zero =>
    intro i h
    rw [hdrop_end l4 i (by omega)]
    refine Ev.step (fun k => ?_) (Ev.now _)
    simp only [floor_may.l0]
    rw [if_neg (by omega)]; rfl
  | succ d ih =>
    intro i h
    have hi : i < l4.length := by omega
    rw [hdrop_cons l4 i hi, inR_cons]
    by_cases c1 : l4[i] < 0
    · rw [decide_eq_false (by omega : ¬ 0 ≤ l4[i]), Bool.false_and, Bool.false_and, Bool.false_and]
      refine Ev.step (fun k => ?_) (Ev.now _)
      simp only [floor_may.l0]
      rw [if_pos (by omega), if_pos (by omega), if_pos (by omega), rd_get l4 i hi, if_pos c1]
    · by_cases c2 : l4[i] ≥ a2
      · rw [decide_eq_false (by omega : ¬ l4[i] < a2), Bool.and_false, Bool.false_and, Bool.false_and]
        refine Ev.step (fun k => ?_) (Ev.now _)
        simp only [floor_may.l0]
        rw [if_pos (by omega), if_pos (by omega), if_pos (by omega), rd_get l4 i hi, if_neg c1, if_pos c2]
      · rw [decide_eq_true (by omega : 0 ≤ l4[i]), decide_eq_true (by omega : l4[i] < a2), Bool.true_and, Bool.true_and]
        refine Ev.step (fun k => ?_) (ih (i + 1) (by omega))
        simp only [floor_may.l0]
        rw [if_pos (by omega), if_pos (by omega), if_pos (by omega), rd_get l4 i hi, if_neg c1, if_neg c2, hw64 (by omega) (by omega), hi1]
theorem may_j1 (hl : l4.length ≤ 17592186043904) : Ev (fun k => floor_may.j1 k a0 a1 a2 l4 false) (decide (P3 a0 a1 a2 l4)) := by
  by_cases c : a0 = 4
  · have h := may_l0 a1 a2 l4 hl l4.length 0 (by omega)
    rw [List.drop_zero] at h
    have e : decide (P3 a0 a1 a2 l4) = (inR a2 l4 && ((l4.length : Int) == a1)) := by
      rw [Bool.eq_iff_iff, decide_eq_true_iff, Bool.and_eq_true, beq_iff_eq]
      unfold P3
      constructor
      · rintro (h | h)
        · exact absurd c h.1
        · exact ⟨h.2.2, h.2.1⟩
      · exact fun h => .inr ⟨c, h.2, h.1⟩
    rw [e]
    refine Ev.step (fun k => ?_) h
    simp only [floor_may.j1, Bool.false_eq_true, if_false, c, if_true]
    rfl
  · have e : decide (P3 a0 a1 a2 l4) = ((l4.length : Int) == 0) := by
      rw [Bool.eq_iff_iff, decide_eq_true_iff, beq_iff_eq]
      unfold P3
      constructor
      · rintro (h | h)
        · omega
        · exact absurd h.1 c
      · exact fun h => .inl ⟨c, by omega⟩
    rw [e]
    refine Ev.step (fun k => ?_) (Ev.now _)
    simp only [floor_may.j1, Bool.false_eq_true, if_false, c]
theorem may_j0 (hl : l4.length ≤ 17592186043904) : Ev (fun k => floor_may.j0 k a0 a1 a2 a3 l4 false) (decide (P2 a0 a3) && decide (P3 a0 a1 a2 l4)) := by
  have hj := may_j1 a0 a1 a2 l4 hl
  have hn : Ev (fun k => floor_may.j1 k a0 a1 a2 l4 true) false := Ev.step (fun k => by simp only [floor_may.j1, if_true]) (Ev.now _)
  by_cases c : P2 a0 a3
  · rw [decide_eq_true c, Bool.true_and]
    refine Ev.step (fun k => ?_) hj
    simp only [floor_may.j0, Bool.false_eq_true, if_false]
    rcases c with c | c
    · rw [if_pos c.1, if_neg (by omega), if_neg (by omega)]
    · rw [if_neg c.1, c.2]; rfl
  · rw [decide_eq_false c, Bool.false_and]
    refine Ev.step (fun k => ?_) hn
    simp only [floor_may.j0, Bool.false_eq_true, if_false]
    unfold P2 at c
    by_cases c3 : a0 = 3
    · rw [if_pos c3]
      by_cases c4 : a3 < 1
      · rw [if_pos c4]
      · rw [if_neg c4, if_pos (by omega)]
    · rw [if_neg c3, show (a3 != 0) = true by simp; omega]
theorem may_ev (hl : l4.length ≤ 17592186043904) : Ev (fun k => floor_may.f k a0 a1 a2 a3 l4) (decide (Ok4 a0 a1 a2 a3 l4)) := by
  by_cases c : P1 a0 a1 a2
  · have e : decide (Ok4 a0 a1 a2 a3 l4) = (decide (P2 a0 a3) && decide (P3 a0 a1 a2 l4)) := by
      rw [← Bool.decide_and]; exact decide_eq_decide.2 ⟨fun h => h.2, fun h => ⟨c, h⟩⟩
    rw [e]
    refine Ev.congr (fun k => ?_) (may_j0 a0 a1 a2 a3 l4 hl)
    unfold P1 at c
    unfold floor_may.f
    rw [if_neg (by omega), if_neg (by omega), if_neg (by omega), if_neg (by omega), if_neg (by omega), decide_eq_false (by omega)]
  · have hn : Ev (fun k => floor_may.j0 k a0 a1 a2 a3 l4 true) false := Ev.step (fun k => by simp only [floor_may.j0, if_true]) (Ev.now _)
    have e : decide (Ok4 a0 a1 a2 a3 l4) = false := decide_eq_false (fun h => c h.1)
    rw [e]
    refine Ev.congr (fun k => ?_) hn
    unfold P1 at c
    unfold floor_may.f
    by_cases c1 : a1 < 1
    · rw [if_pos c1]
    · by_cases c2 : a1 > 64
      · rw [if_neg c1, if_pos c2]
      · by_cases c3 : a2 < 1
        · rw [if_neg c1, if_neg c2, if_pos c3]
        · by_cases c4 : a2 > 64
          · rw [if_neg c1, if_neg c2, if_neg c3, if_pos c4]
          · by_cases c5 : a0 < 1
            · rw [if_neg c1, if_neg c2, if_neg c3, if_neg c4, if_pos c5]
            · rw [if_neg c1, if_neg c2, if_neg c3, if_neg c4, if_neg c5, decide_eq_true (by omega)]
def homeF (b : Int) : Int := if a0 = 1 then Int.tmod b a2 else if a0 = 2 then wrap64 (Int.tdiv (wrap64 (b * a2)) a1) else if a0 = 3 then Int.tmod (wrap64 (b * a3)) a2 else rd l4 b
def homesL (n : Nat) : List Int := (List.range n).map fun b : Nat => homeF a0 a1 a2 a3 l4 (b : Int)
theorem homesL_len (n : Nat) : (homesL a0 a1 a2 a3 l4 n).length = n := by simp [homesL]
theorem homesL_succ (n : Nat) : homesL a0 a1 a2 a3 l4 (n + 1) = homesL a0 a1 a2 a3 l4 n ++ [homeF a0 a1 a2 a3 l4 (n : Int)] := by simp [homesL, List.range_succ]
def homesV : List Int × Int := if Ok4 a0 a1 a2 a3 l4 then (homesL a0 a1 a2 a3 l4 a1.toNat, 0) else ([], 2)
variable (hok : Ok4 a0 a1 a2 a3 l4)
include hok
theorem homes_l0 (d : Nat) : ∀ (i : Nat), (i : Int) + d = a1 → Ev (fun k => floor_Homes.l0 k a0 a1 a2 a3 l4 (homesL a0 a1 a2 a3 l4 i ++ List.replicate d 0) a1 (i : Int)) (homesL a0 a1 a2 a3 l4 a1.toNat, 0) := by
  have h1 : 1 ≤ a1 ∧ a1 ≤ 64 ∧ 1 ≤ a2 ∧ a2 ≤ 64 ∧ 1 ≤ a0 ∧ a0 ≤ 4 := hok.1
  have h3 := hok.2.2
  induction d with
  | zero =>
    intro i h
    have e : a1.toNat = i := by omega
    rw [e, List.replicate_zero, List.append_nil]
    refine Ev.step (fun k => ?_) (Ev.now _)
    simp only [floor_Homes.l0]
    rw [if_neg (by omega)]
  | succ d ih =>
    intro i h
    have hl := homesL_len a0 a1 a2 a3 l4 i
    have hn := ih (i + 1) (by omega)
    have e : (homesL a0 a1 a2 a3 l4 i ++ List.replicate (d + 1) 0).set i (homeF a0 a1 a2 a3 l4 (i : Int)) = homesL a0 a1 a2 a3 l4 (i + 1) ++ List.replicate d 0 := by
      rw [homesL_succ, List.replicate_succ, List.set_append, if_neg (by omega), hl, Nat.sub_self]
      simp
    rw [← e] at hn
    have hlen : (homesL a0 a1 a2 a3 l4 i ++ List.replicate (d + 1) 0).length = i + (d + 1) := by simp [hl]
    refine Ev.step (fun k => ?_) hn
    simp only [floor_Homes.l0, hlen]
    rw [if_pos (by omega)]
    unfold homeF
    by_cases c1 : a0 = 1
    · rw [if_pos c1, if_pos c1, if_neg (by omega), if_pos (by omega), if_pos (by omega), Int.toNat_natCast, hw64 (by omega) (by omega), hi1]
    · rw [if_neg c1, if_neg c1]
      by_cases c2 : a0 = 2
      · rw [if_pos c2, if_pos c2, if_neg (by omega), if_pos (by omega), if_pos (by omega), Int.toNat_natCast, hw64 (x := (i : Int) + 1) (by omega) (by omega), hi1]
      · rw [if_neg c2, if_neg c2]
        by_cases c3 : a0 = 3
        · rw [if_pos c3, if_pos c3, if_neg (by omega), if_pos (by omega), if_pos (by omega), Int.toNat_natCast, hw64 (x := (i : Int) + 1) (by omega) (by omega), hi1]
        · have hp : (l4.length : Int) = a1 := by
            rcases h3 with h | h
            · exact absurd (by omega : a0 = 4) h.1
            · exact h.2.1
          rw [if_neg c3, if_neg c3, if_pos (by omega), if_pos (by omega), if_pos (by omega), if_pos (by omega), Int.toNat_natCast, hw64 (x := (i : Int) + 1) (by omega) (by omega), hi1]
end
section
variable (a0 a1 a2 a3 : Int) (l4 : List Int)
theorem homes_ev (hl : l4.length ≤ 17592186043904) : Ev (fun k => floor_Homes.f k a0 a1 a2 a3 l4) (homesV a0 a1 a2 a3 l4) := by
  refine Ev.congr (fun k => rfl) (Ev.bind (may_ev a0 a1 a2 a3 l4 hl) ?_)
  unfold homesV
  by_cases c : Ok4 a0 a1 a2 a3 l4
  · have h1 : 1 ≤ a1 ∧ a1 ≤ 64 ∧ 1 ≤ a2 ∧ a2 ≤ 64 ∧ 1 ≤ a0 ∧ a0 ≤ 4 := c.1
    have h0 := homes_l0 a0 a1 a2 a3 l4 c a1.toNat 0 (by omega)
    simp only [c, decide_true, if_true]
    refine Ev.congr (fun k => ?_) h0
    rw [if_pos (by omega), if_pos (by omega), Option.bind_some, List.length_replicate, show ((a1.toNat : Nat) : Int) = a1 from by omega]
    rfl
  · simp only [c, decide_false, Bool.false_eq_true, if_false]
    exact Ev.now _
end
/-! Blocks -/
def blkF (d : Int) : List Int → Nat → Int → Int
  | [], _, s => s
  | h :: r, i, s => blkF d r (i + 1) (if h = d then Go.bits .or .u64 s (shl .u64 1 (i : Int)) else s)
def blocksV (l : List Int) (d : Int) : Int × Int := if (l.length : Int) > 64 then (0, 2) else (blkF d l 0 0, 0)
theorem blocks_l0 (l : List Int) (x : Int) (hl : l.length ≤ 64) (d : Nat) : ∀ (i : Nat) (s : Int), i + d = l.length → Ev (fun k => floor_Blocks.l0 k x s l (l.length : Int) (i : Int)) (blkF x (l.drop i) i s, 0) := by
  induction d with
  | zero =>
    intro i s h
    rw [hdrop_end l i (by omega), blkF]
    refine Ev.step (fun k => ?_) (Ev.now _)
    simp only [floor_Blocks.l0]
    rw [if_neg (by omega)]
  | succ d ih =>
    intro i s h
    have hi : i < l.length := by omega
    rw [hdrop_cons l i hi, blkF]
    by_cases c : l[i] = x
    · rw [if_pos c]
      refine Ev.step (fun k => ?_) (ih (i + 1) _ (by omega))
      simp only [floor_Blocks.l0]
      rw [if_pos (by omega), if_pos (by omega), if_pos (by omega), rd_get l i hi, if_pos c, hw64 (by omega) (by omega), hi1]
    · rw [if_neg c]
      refine Ev.step (fun k => ?_) (ih (i + 1) _ (by omega))
      simp only [floor_Blocks.l0]
      rw [if_pos (by omega), if_pos (by omega), if_pos (by omega), rd_get l i hi, if_neg c, hw64 (by omega) (by omega), hi1]
theorem blocks_ev (l : List Int) (x : Int) : Ev (fun k => floor_Blocks.f k l x) (blocksV l x) := by
  unfold blocksV
  by_cases c : (l.length : Int) > 64
  · rw [if_pos c]
    refine Ev.congr (fun k => ?_) (Ev.now _)
    unfold floor_Blocks.f
    rw [if_pos c]
  · rw [if_neg c]
    have h := blocks_l0 l x (by omega) l.length 0 0 (by omega)
    rw [List.drop_zero] at h
    refine Ev.congr (fun k => ?_) h
    unfold floor_Blocks.f
    rw [if_neg c]; rfl
end Go.Proofs.Ytnioplhdhaomoaa.Spec
