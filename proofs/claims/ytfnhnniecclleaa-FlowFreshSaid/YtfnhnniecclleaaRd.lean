import Derived.Test.YtfnhnniecclleaaRows
import Derived.Test.YtfnhnniecclleaaWWords
import Derived.WalkKit
import Derived.ProofKit
import Derived.OpenShut
import Derived.ShutString
import Derived.ChangeOld
import Derived.Below
import Derived.SizedLaws
import Derived.Deep.Slices
namespace Go.Proofs.Ytfnhnniecclleaa.Rd
open Go.ChangeShapes Go.WideShapes Go.ChangeAt Go.RowKit
open Go.Proofs.YtfnhnniecclleaaW.PrintWords
set_option linter.unusedVariables false
--BEGIN
/-- What a reading of type t tells: the cells are of kind d, and I holds of what they say, where no weight is beyond the reach; B: the bulk of what they say. -/
def Opens (P : Program) (W : World) {α : Type} (t : TypeId) (d : Kd α) (I : α → Prop) (B : α → Nat) : Prop :=
  ∀ (H : Type) (enc : TypeId × Value → H) (fuel : Nat) (cs : List Value) (D : DataW H) (ps : List MemPlace),
    DataW.trod enc P W 0 (fun _ => true) true fuel t cs = some (D, ps) → ∃ x, d.K W x cs ∧ ((D.weights P t).all (· ≤ reachBytes) = true → I x) ∧ B x ≤ Rows.uptoBulk D

theorem Opens.mono {P : Program} {W : World} {α : Type} {t : TypeId} {d : Kd α} {I J : α → Prop} {B B' : α → Nat} (h : Opens P W t d I B) (hI : ∀ x, I x → J x) (hB : ∀ x, B' x ≤ B x) : Opens P W t d J B' := by
  intro H enc fuel cs D ps hr
  obtain ⟨x, hK, hi, hb⟩ := h H enc fuel cs D ps hr
  exact ⟨x, hK, fun hw => hI x (hi hw), Nat.le_trans (hB x) hb⟩

theorem opens_int {P : Program} {W : World} {t : TypeId} {k : IntKind} (hu : P.underlying t = some (.int k)) : Opens P W t (Kd.int k) (fun n => (Lit.int k n).wf = true) (fun _ => 1) := by
  intro H enc fuel cs D ps h
  obtain ⟨n, rfl, hx, hw⟩ := DataW.trod_int hu h
  cases hx
  exact ⟨n, rfl, fun _ => hw, Nat.le_refl _⟩
theorem addr_add_add (a : Addr) (m n : Nat) : (a.add m).add n = a.add (m + n) := by
  unfold Addr.add
  by_cases hm : m = 0
  · subst hm; simp
  · by_cases hn : n = 0
    · subst hn; simp
    · simp [hm, hn, Nat.add_assoc]

def sumB {α : Type} (B : α → Nat) : List α → Nat
  | [] => 0
  | x :: r => B x + sumB B r
theorem bulkAll_map {H α : Type} (D : Nat → DataW H) (f : Nat → α) (B : α → Nat) : ∀ (l : List Nat), (∀ i ∈ l, B (f i) ≤ Rows.uptoBulk (D i)) → sumB B (l.map f) ≤ Rows.uptoBulkAll (l.map D)
  | [], _ => by simp [sumB, Rows.uptoBulkAll]
  | i :: r, h => by
    have h1 := h i (by simp)
    have h2 := bulkAll_map D f B r (fun j hj => h j (by simp [hj]))
    simp only [List.map_cons, sumB, Rows.uptoBulkAll]
    omega
theorem weightsAll_mem {H : Type} {P : Program} {e : TypeId} (l : List (DataW H)) (h : (DataW.weightsAll P e l).all (· ≤ reachBytes) = true) : ∀ d ∈ l, (d.weights P e).all (· ≤ reachBytes) = true := by
  induction l with
  | nil => intro d hd; cases hd
  | cons x r ih =>
    intro d hd
    simp only [DataW.weightsAll, List.all_append, Bool.and_eq_true] at h
    rcases List.mem_cons.1 hd with rfl | hd
    · exact h.1
    · exact ih h.2 d hd

theorem opens_slice {P : Program} {W : World} {α : Type} {t e : TypeId} {d : Kd α} {I : α → Prop} {B : α → Nat} (N : Nat) (hu : P.underlying t = some (.slice e)) (hsz : P.cellsOf e = d.sz) (hby : P.bytesOf e = N) (ho : Opens P W e d I B) :
    Opens P W t (Kd.slice e d) (fun xs => xs.length * N ≤ 140737488351232 ∧ ∀ x ∈ xs, I x) (fun xs => sumB B xs + 1) := by
  intro H enc fuel cs D ps h
  rcases Go.Deep.open_slice hu h with ⟨rfl, hx⟩ | ⟨a, len, cap, m, n, Df, Pl, rfl, _, hl, hm, hmm, hx, hr⟩
  · cases hx
    exact ⟨[], ⟨none, 0, rfl, Nat.le_refl _, rfl, Nat.zero_le _, fun h => absurd h (by simp)⟩, fun _ => ⟨by simp, fun _ h => by cases h⟩, by simp [sumB, Rows.uptoBulk]⟩
  · cases hx
    simp only [ite_true] at hmm
    subst hmm
    rcases Nat.eq_zero_or_pos len with h0 | h0
    · subst h0
      exact ⟨[], ⟨some a, m, rfl, by simp, rfl, Nat.zero_le _, fun h => absurd h (by simp)⟩, fun _ => ⟨by simp, fun _ h => by cases h⟩, by simp [sumB, Rows.uptoBulk]⟩
    · have key : ∀ i, i < len → ∃ x cs', W.cells? 0 (a.add (i * P.cellsOf e)) (P.cellsOf e) = some cs' ∧ d.K W x cs' ∧ (((Df i).weights P e).all (· ≤ reachBytes) = true → I x) ∧ B x ≤ Rows.uptoBulk (Df i) := by
        intro i hi
        obtain ⟨cs', hc, ht⟩ := hr i (by omega)
        obtain ⟨x, hK, hI, hB⟩ := ho H enc n cs' _ _ ht
        exact ⟨x, cs', hc, hK, hI, hB⟩
      obtain ⟨x0, _, _, _⟩ := key 0 h0
      have key2 : ∀ i, ∃ x, i < len → ∃ cs', W.cells? 0 (a.add (i * P.cellsOf e)) (P.cellsOf e) = some cs' ∧ d.K W x cs' ∧ (((Df i).weights P e).all (· ≤ reachBytes) = true → I x) ∧ B x ≤ Rows.uptoBulk (Df i) := by
        intro i
        by_cases hi : i < len
        · obtain ⟨x, cs', h1⟩ := key i hi
          exact ⟨x, fun _ => ⟨cs', h1⟩⟩
        · exact ⟨x0, fun h => absurd h hi⟩
      obtain ⟨f, hf⟩ := Classical.axiomOfChoice key2
      refine ⟨(List.range len).map f, ⟨some a, m, by simp, by simp; omega, by simp, by simp only [maxLen] at *; simp; omega, fun _ => ⟨a, rfl, ?_⟩⟩, fun hw => ⟨?_, ?_⟩, ?_⟩
      · intro j p hj
        have hjl : j < len := by have := (List.getElem?_eq_some_iff.1 hj).1; simpa using this
        have hp : f j = p := by simpa [hjl] using hj
        subst hp
        obtain ⟨cs', hc, hK, _⟩ := hf j hjl
        obtain ⟨_, hlen, hcell⟩ := World.cells?_some hc
        refine ⟨cs', by rw [hlen, hsz], hK, fun i u hu => ?_⟩
        have hil : i < cs'.length := (List.getElem?_eq_some_iff.1 hu).1
        rw [← hu, ← hcell i (by omega), addr_add_add, hsz]
      · have hb : (((List.range len).map Df).length + ((List.range (m - len)).map fun j => Df (len + j)).length) * P.bytesOf e ≤ reachBytes := by
          have h1 := List.all_eq_true.1 hw _ (show (((List.range len).map Df).length + ((List.range (m - len)).map fun j => Df (len + j)).length) * P.bytesOf e ∈ _ by rw [DataW.weights, hu]; exact List.mem_cons_self)
          simpa using h1
        rw [hby] at hb
        refine Nat.le_trans (Nat.mul_le_mul_right _ ?_) hb
        simp
      · intro x hx
        obtain ⟨i, hi, rfl⟩ := List.mem_map.1 hx
        have hi' : i < len := by simpa using hi
        obtain ⟨_, _, _, hI, _⟩ := hf i hi'
        apply hI
        have hw2 : (DataW.weightsAll P e ((List.range len).map Df)).all (· ≤ reachBytes) = true := by
          rw [DataW.weights, hu] at hw
          simp only [List.all_cons, List.all_append, Bool.and_eq_true] at hw
          exact hw.2.1
        exact weightsAll_mem _ hw2 _ (List.mem_map.2 ⟨i, hi, rfl⟩)
      · have := bulkAll_map Df f B (List.range len) (fun i hi => (hf i (by simpa using hi)).elim fun _ h => h.2.2.2)
        simp only [Rows.uptoBulk]
        omega

/-- The fields from place o on. -/
def OpensFs (P : Program) (W : World) {α : Type} (fs : List Field) (o : Nat) (d : Kd α) (I : α → Prop) (B : α → Nat) : Prop :=
  ∀ (H : Type) (enc : TypeId × Value → H) (n : Nat) (cs : List Value) (ys : List (DataW H × List MemPlace)), cs.length = o + d.sz → ys.length = fs.length →
    (∀ (i : Nat) (f : Field), fs[i]? = some f → DataW.trod enc P W 0 (fun _ => true) true n f.type ((cs.drop f.offset).take (P.cellsOf f.type)) = ys[i]?) →
    ∃ x, d.K W x (cs.drop o) ∧ ((DataW.weightsEach P (fs.map (fun f => f.type)) (ys.map (·.1))).all (· ≤ reachBytes) = true → I x) ∧ B x ≤ Rows.uptoBulkAll (ys.map (·.1))
theorem opensFs_one {P : Program} {W : World} {α : Type} {f : Field} {o : Nat} {d : Kd α} {I : α → Prop} {B : α → Nat} (ho : f.offset = o) (hc : P.cellsOf f.type = d.sz) (h : Opens P W f.type d I B) : OpensFs P W [f] o d I B := by
  intro H enc n cs ys hl hy hr
  match ys, hy with
  | [y], _ =>
    have h0 := hr 0 f rfl
    rw [ho, hc, List.take_of_length_le (by rw [List.length_drop]; omega)] at h0
    obtain ⟨x, hK, hI, hB⟩ := h H enc n _ y.1 y.2 h0
    exact ⟨x, hK, fun hw => hI (by simpa [DataW.weightsEach] using hw), by simpa [Rows.uptoBulkAll] using hB⟩
theorem opensFs_cons {P : Program} {W : World} {α β : Type} {f : Field} {fs : List Field} {o : Nat} {a : Kd α} {b : Kd β} {I : α → Prop} {B : α → Nat} {J : β → Prop} {C : β → Nat} (ho : f.offset = o) (hc : P.cellsOf f.type = a.sz) (h : Opens P W f.type a I B)
    (hs : OpensFs P W fs (o + a.sz) b J C) : OpensFs P W (f :: fs) o (Kd.pair a b) (fun x => I x.1 ∧ J x.2) (fun x => B x.1 + C x.2) := by
  intro H enc n cs ys hl hy hr
  match ys, hy with
  | y :: ys, hy =>
    have hl' : cs.length = o + (a.sz + b.sz) := hl
    have h0 := hr 0 f rfl
    rw [ho, hc] at h0
    obtain ⟨x, hK, hI, hB⟩ := h H enc n _ y.1 y.2 h0
    obtain ⟨z, hK', hI', hB'⟩ := hs H enc n cs ys (by omega) (by simpa using hy) (fun i g hg => hr (i + 1) g (by simpa using hg))
    refine ⟨(x, z), ⟨_, _, ?_, hK, hK'⟩, fun hw => ?_, ?_⟩
    · rw [← List.drop_drop]
      exact (List.take_append_drop _ _).symm
    · simp only [List.map_cons, DataW.weightsEach, List.all_append, Bool.and_eq_true] at hw
      exact ⟨hI hw.1, hI' hw.2⟩
    · simp only [List.map_cons, Rows.uptoBulkAll]
      omega
theorem opens_struct {P : Program} {W : World} {α : Type} {t : TypeId} {fs : List Field} {d : Kd α} {I : α → Prop} {B : α → Nat} (hu : P.underlying t = some (.struct fs.toArray)) (hc : P.cellsOf t = d.sz) (h : OpensFs P W fs 0 d I B) :
    Opens P W t d I (fun x => B x + 1) := by
  intro H enc fuel cs D ps hr
  obtain ⟨ys, n, _, hx, hl, hlen, hf⟩ := DataW.trod_struct hu hr
  cases hx
  obtain ⟨x, hK, hI, hB⟩ := h H enc n cs ys (by omega) (by simpa using hlen) (fun i f hi => hf i f (by simpa using hi))
  refine ⟨x, by simpa using hK, fun hw => hI (by simpa [DataW.weights, hu] using hw), ?_⟩
  simp only [Rows.uptoBulk]
  omega
theorem opens_iso {P : Program} {W : World} {α β : Type} {t : TypeId} {d : Kd α} {I : α → Prop} {B : α → Nat} (f : β → α) (g : α → β) (hfg : ∀ x, f (g x) = x) (h : Opens P W t d I B) : Opens P W t (Kd.iso d f) (fun x => I (f x)) (fun x => B (f x)) := by
  intro H enc fuel cs D ps hr
  obtain ⟨x, hK, hI, hB⟩ := h H enc fuel cs D ps hr
  exact ⟨g x, by show d.K W (f (g x)) cs; rw [hfg]; exact hK, by simpa [hfg] using hI, by simpa [hfg] using hB⟩
theorem toList_inj {a : Array Value} {l : List Value} (h : a.toList = l) : a = l.toArray := by rw [← h]
--END
end Go.Proofs.Ytfnhnniecclleaa.Rd
