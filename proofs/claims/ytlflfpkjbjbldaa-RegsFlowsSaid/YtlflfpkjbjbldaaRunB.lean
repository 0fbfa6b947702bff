import Derived.Test.YtlflfpkjbjbldaaRunA
namespace Go.Proofs.Ytlflfpkjbjbldaa.PA
open Go.RowKit Go.Proofs.YtlflfpkjbjbldaaW.PrintWords Go.Proofs.YtlflfpkjbjbldaaW.PrintLast Go.Proofs.YtlflfpkjbjbldaaW.PrintMore
attribute [local go_sem] max2_int min2_int max_two min_two max_three min_three max_four min_four
set_option linter.unusedVariables false
set_option linter.unusedSimpArgs false
theorem isnil_calls (A : Option Addr) (n c : Nat) (w : World) : Calls Try.prog 26 #[.slice A n c] w fun e w' => e = .returned (.bool A.isNone) ∧ w' = w := by
  have hq : ∀ (w : World) (a : Option Addr) (n c n' c' : Nat), (binOp .eql 68 (.slice a n c) (.slice none n' c')).run Try.prog w = .ok (.bool a.isNone) w := fun w a n c n' c' => Lib.run_eql_slice_nil w _ _ a n c n' c' Try.underlying68
  go_enter Try.func26, Try.ntmps26
  go_wp2_with fail
  go_ret
  exact ⟨rfl, rfl⟩
/-- The number of the first one that holds nothing; -1: there is none. -/
def nilAt : Cells → Int → Int
  | [], _ => -1
  | o :: r, i => if o.isNone = true then i else nilAt r (i + 1)
theorem nilAt_all : ∀ (O : Cells) (i : Int), 0 ≤ i → decide (nilAt O i ≥ 0) = !O.all (fun o => o.isSome)
  | [], i, _ => rfl
  | o :: r, i, h => by
    unfold nilAt
    cases o with
    | none => simp; omega
    | some l => simpa using nilAt_all r (i + 1) (by omega)
theorem index_nil {base : Nat} {w : World} {m gr go : Nat} {vB : Value} {size : Nat} {R O : List (Option MR)} (h : MH base w m gr go vB size R O) :
    Calls Try.prog 37 #[.slice (some ⟨go, 0, none⟩) O.length O.length, .func (.func 26) #[] #[]] w fun e w' => e = .returned (.int .i64 (nilAt (plainM O) 0)) ∧ w' = w := by
  have H := Aside0.mk h
  have hol := h.ol
  clear h
  go_enter Try.func37, Try.ntmps37
  go_wp2_with fail
  go_loop [5, 8] (fun v5 v8 => ∃ k : Nat, k ≤ O.length ∧ v8 = .int .i64 k ∧ Aside0 (nilAt (plainM O) 0 = nilAt (plainM (O.drop k)) k)) (fun _ v => O.length - (intOf v).toNat)
  case atStart => exact ⟨0, Nat.zero_le _, rfl, ⟨rfl⟩⟩
  case round =>
    obtain ⟨k, hk, rfl, HE⟩ := hrel
    by_cases hlt : k < O.length
    · have hc := H.out.co k hlt
      have hd : O.drop k = O[k] :: O.drop (k + 1) := List.drop_eq_getElem_cons hlt
      have hE := HE.out
      rw [hd] at hE
      have hb : (k : Int) < (O.length : Int) := by omega
      cases ho : O[k] with
      | none =>
        rw [ho] at hc hE
        simp only [encM] at hc
        have HE2 := Aside0.mk hE
        clear hE ho hd HE
        go_wp2_with (go_at_call 26; refine (isnil_calls _ _ _ _).mono ?_; rintro e w1 ⟨rfl, rfl⟩)
        go_ret
        exact ⟨by rw [HE2.out]; simp [plainM, nilAt], rfl⟩
      | some r =>
        rw [ho] at hc hE
        simp only [encM] at hc
        have HE2 := Aside0.mk hE
        clear hE ho hd HE
        go_wp2_with (go_at_call 26; refine (isnil_calls _ _ _ _).mono ?_; rintro e w1 ⟨rfl, rfl⟩)
        go_round
        case rel => exact ⟨k + 1, by omega, by go_num, ⟨by rw [HE2.out]; simp [plainM, nilAt]⟩⟩
        case measure => simp [intOf]; omega
    · have hE := HE.out
      rw [List.drop_eq_nil_of_le (by omega)] at hE
      have HE2 := Aside0.mk hE
      clear hE HE
      go_wp2_with fail
      go_ret
      exact ⟨by rw [HE2.out]; rfl, rfl⟩
theorem contains_nil {base : Nat} {w : World} {m gr go : Nat} {vB : Value} {size : Nat} {R O : List (Option MR)} (h : MH base w m gr go vB size R O) (b : Bool) (hb : (!(plainM O).all (fun o => o.isSome)) = b) :
    Calls Try.prog 25 #[.slice (some ⟨go, 0, none⟩) O.length O.length, .func (.func 26) #[] #[]] w fun e w' => e = .returned (.bool b) ∧ w' = w := by
  have HI := Aside0.mk (index_nil h)
  have ha := nilAt_all (plainM O) 0 (by omega)
  rw [hb] at ha
  clear h hb
  generalize nilAt (plainM O) 0 = x at HI ha
  go_enter Try.func25, Try.ntmps25
  go_wp2_with (go_at_call 37; refine (HI.out).mono ?_; rintro e w1 ⟨rfl, rfl⟩)
  go_ret
  exact ⟨rfl, rfl⟩
end Go.Proofs.Ytlflfpkjbjbldaa.PA
