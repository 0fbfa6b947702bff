import Derived.Test.YtlflfpkjbjbldaaPAx11
namespace Go.Proofs.Ytlflfpkjbjbldaa.PA
open Go.RowKit Go.Proofs.YtlflfpkjbjbldaaW.PrintWords Go.Proofs.YtlflfpkjbjbldaaW.PrintLast Go.Proofs.YtlflfpkjbjbldaaW.PrintMore
set_option linter.unusedVariables false
set_option linter.unusedSimpArgs false
/-! the machine -/
def inR (n : Int) (len : Nat) : Prop := 0 ≤ n ∧ n < (len : Int)
instance (n : Int) (len : Nat) : Decidable (inR n len) := inferInstanceAs (Decidable (_ ∧ _))
theorem in_yes (n : Int) (A : Option Addr) (len c : Nat) (w : World) (h : inR n len) (hl : len ≤ 9223372036854775807) :
    Calls Try.prog 35 #[.int .i64 n, .slice A len c] w fun e w' => e = .returned (.bool true) ∧ w' = w := by
  obtain ⟨h0, h1⟩ := h
  have b0 : decide (n ≥ 0) = true := decide_eq_true h0
  have b1 : decide (n < (len : Int)) = true := decide_eq_true h1
  clear h0 h1
  go_enter Try.func35, Try.ntmps35
  go_wp2_with fail
  go_ret
  exact ⟨rfl, rfl⟩
theorem in_no (n : Int) (A : Option Addr) (len c : Nat) (w : World) (h : ¬ inR n len) (hl : len ≤ 9223372036854775807) :
    Calls Try.prog 35 #[.int .i64 n, .slice A len c] w fun e w' => e = .returned (.bool false) ∧ w' = w := by
  by_cases h0 : 0 ≤ n
  · have b0 : decide (n ≥ 0) = true := decide_eq_true h0
    have b1 : decide (n < (len : Int)) = false := decide_eq_false (fun h1 => h ⟨h0, h1⟩)
    clear h0 h
    go_enter Try.func35, Try.ntmps35
    go_wp2_with fail
    go_ret
    exact ⟨rfl, rfl⟩
  · have b0 : decide (n ≥ 0) = false := decide_eq_false h0
    clear h0 h
    go_enter Try.func35, Try.ntmps35
    go_wp2_with fail
    go_ret
    exact ⟨rfl, rfl⟩
/-- A block that is held: its number, its room, its bytes. -/
structure MR where
  g : Nat
  cap : Nat
  l : List Int
abbrev Cells := List (Option (List Int))
def encM (size : Nat) : Option MR → Value
  | none => .slice none 0 0
  | some r => .slice (some ⟨r.g, 0, none⟩) size r.cap
def encMs (size : Nat) (R : List (Option MR)) : Array Value := (R.map (encM size)).toArray
def plainM (R : List (Option MR)) : Cells := R.map (Option.map MR.l)
theorem blk_ty_ne {w : World} {k k' : Nat} {cs cs' : Array Value} {t t' : TypeId} {fr fr' : Nat × Nat} (h : w.heap[k]? = some (.cells cs t fr)) (h' : w.heap[k']? = some (.cells cs' t' fr')) (ht : t ≠ t') : k ≠ k' := fun e => by
  subst e
  rw [h] at h'
  injection h' with h'
  injection h' with _ h2
  exact ht h2
/-- A machine in memory: its block m, the rows of its registers and of what came out. -/
structure MH (base : Nat) (w : World) (m gr go : Nat) (vB : Value) (size : Nat) (R O : List (Option MR)) : Prop where
  blk : w.heap[m]? = some (.cells #[.slice (some ⟨gr, 0, none⟩) R.length R.length, .slice (some ⟨go, 0, none⟩) O.length O.length, vB, .int .i64 (size : Int)] 67 (0, 0))
  rr : w.heap[gr]? = some (.cells (encMs size R) 68 (0, 0))
  ro : w.heap[go]? = some (.cells (encMs size O) 68 (0, 0))
  own : ∀ r, some r ∈ R ++ O → w.ownsRow base 5 1 (.slice (some ⟨r.g, 0, none⟩) size r.cap) size (nums .u8 r.l)
  apart : ∀ (i j : Nat) (r r' : MR), (R ++ O)[i]? = some (some r) → (R ++ O)[j]? = some (some r') → r.g = r'.g → i = j
  ne : gr ≠ go
  bm : base ≤ m
  br : base ≤ gr
  bo : base ≤ go
  bw : base ≤ w.heap.size
  sz : size ≤ 140737488351232
  rl : R.length ≤ 256
  ol : O.length ≤ 64
theorem encM_slice (size : Nat) (x : Option MR) : ∃ A n c, encM size x = .slice A n c := by cases x <;> exact ⟨_, _, _, rfl⟩
section
variable {base : Nat} {w : World} {m gr go : Nat} {vB : Value} {size : Nat} {R O : List (Option MR)} (h : MH base w m gr go vB size R O)
include h
theorem MH.c0 : w.cell? ⟨m, 0, none⟩ = some (.slice (some ⟨gr, 0, none⟩) R.length R.length) := (blk_cell h.blk 0).trans rfl
theorem MH.c1 : w.cell? ⟨m, 1, none⟩ = some (.slice (some ⟨go, 0, none⟩) O.length O.length) := (blk_cell h.blk 1).trans rfl
theorem MH.c2 : w.cell? ⟨m, 2, none⟩ = some vB := (blk_cell h.blk 2).trans rfl
theorem MH.c3 : w.cell? ⟨m, 3, none⟩ = some (.int .i64 (size : Int)) := (blk_cell h.blk 3).trans rfl
theorem MH.cr (j : Nat) (hj : j < R.length) : w.cell? ⟨gr, j, none⟩ = some (encM size R[j]) := (blk_cell h.rr j).trans (by simp [encMs, hj])
theorem MH.co (j : Nat) (hj : j < O.length) : w.cell? ⟨go, j, none⟩ = some (encM size O[j]) := (blk_cell h.ro j).trans (by simp [encMs, hj])
theorem MH.fr (j : Nat) : w.frozen? ⟨gr, j, none⟩ = false := blk_frozen h.rr j
theorem MH.fo (j : Nat) : w.frozen? ⟨go, j, none⟩ = false := blk_frozen h.ro j
theorem MH.step {w' : World} (hb : ∀ k, k < w.heap.size → w'.heap[k]? = w.heap[k]?) (hs : w.heap.size ≤ w'.heap.size) : MH base w' m gr go vB size R O :=
  ⟨(hb m (blk_lt h.blk)).trans h.blk, (hb gr (blk_lt h.rr)).trans h.rr, (hb go (blk_lt h.ro)).trans h.ro, fun r hr => own_move (h.own r hr) (fun k hk => hb k (own_lt (h.own r hr) k hk)), h.apart, h.ne, h.bm, h.br, h.bo, Nat.le_trans h.bw hs, h.sz, h.rl, h.ol⟩
theorem MH.below {w' : World} (hb : Below w.heap.size w w') : MH base w' m gr go vB size R O := h.step (fun k hk => hb.block k hk) hb.size
theorem MH.alloc (o : Obj) : MH base (w.alloc o) m gr go vB size R O := h.below (below_alloc (Below.refl _ _) o)
theorem MH.drew : MH base w.drew m gr go vB size R O := h.step (fun _ _ => rfl) (Nat.le_refl _)
theorem MH.drewN (q : Nat) : MH base (w.drewN q) m gr go vB size R O := h.step (fun _ _ => rfl) (Nat.le_refl _)
/-- A held block is none of the machine's three. -/
theorem MH.nb (r : MR) (hr : some r ∈ R ++ O) : r.g ≠ m ∧ r.g ≠ gr ∧ r.g ≠ go ∧ r.g < w.heap.size ∧ base ≤ r.g := by
  have ho := h.own r hr
  have hk : (Value.slice (some ⟨r.g, 0, none⟩) size r.cap).ownBlock = some r.g := rfl
  obtain ⟨cells, hc⟩ := own_typed ho r.g hk
  exact ⟨blk_ty_ne hc h.blk (by decide), blk_ty_ne hc h.rr (by decide), blk_ty_ne hc h.ro (by decide), own_lt ho _ hk, own_base ho _ hk⟩
/-- A register takes a block that is new. -/
theorem MH.setR (D : Nat) (r : MR) (hD : D < R.length) (w' : World) (hw : ∀ k, k < w.heap.size → w'.heap[k]? = w.heap[k]?) (hsz : w.heap.size ≤ w'.heap.size) (hn : ∀ x, some x ∈ R ++ O → x.g ≠ r.g)
    (ho : w'.ownsRow base 5 1 (.slice (some ⟨r.g, 0, none⟩) size r.cap) size (nums .u8 r.l)) (hg : r.g ≠ gr) : MH base (w'.setCell ⟨gr, D, none⟩ (.slice (some ⟨r.g, 0, none⟩) size r.cap)) m gr go vB size (R.set D (some r)) O := by
  have h1 := h.step hw hsz
  have hmne : m ≠ gr := blk_ty_ne h.blk h.rr (by decide)
  refine ⟨?_, ?_, ?_, fun x hx => ?_, fun i j a b ha hb e => ?_, h.ne, h.bm, h.br, h.bo, by simpa [World.setCell] using h1.bw, h.sz, by rw [List.length_set]; exact h.rl, h.ol⟩
  · rw [List.length_set]
    exact (Below.heap_setCell w' ⟨gr, D, none⟩ _ m hmne).trans h1.blk
  · have h2 := blk_set h1.rr D (.slice (some ⟨r.g, 0, none⟩) size r.cap)
    have e : (encMs size R).setIfInBounds D (.slice (some ⟨r.g, 0, none⟩) size r.cap) = encMs size (R.set D (some r)) := by simp [encMs, List.map_set, encM]
    rwa [e] at h2
  · exact (Below.heap_setCell w' ⟨gr, D, none⟩ _ go (fun e => h.ne e.symm)).trans h1.ro
  · have hfar : ∀ (y : MR), y.g ≠ gr → w'.ownsRow base 5 1 (.slice (some ⟨y.g, 0, none⟩) size y.cap) size (nums .u8 y.l) → (w'.setCell ⟨gr, D, none⟩ (.slice (some ⟨r.g, 0, none⟩) size r.cap)).ownsRow base 5 1 (.slice (some ⟨y.g, 0, none⟩) size y.cap) size (nums .u8 y.l) := fun y hy hoy =>
      own_move hoy (fun k hk => Below.heap_setCell w' ⟨gr, D, none⟩ _ k (fun e => hy ((Option.some.inj hk).trans e)))
    rcases List.mem_append.1 hx with hx | hx
    · rcases List.mem_or_eq_of_mem_set hx with hx | hx
      · exact hfar x (h.nb x (List.mem_append.2 (.inl hx))).2.1 (h1.own x (List.mem_append.2 (.inl hx)))
      · obtain rfl := Option.some.inj hx
        exact hfar x hg ho
    · exact hfar x (h.nb x (List.mem_append.2 (.inr hx))).2.1 (h1.own x (List.mem_append.2 (.inr hx)))
  · have key : ∀ (i : Nat) (a : MR), (R.set D (some r) ++ O)[i]? = some (some a) → (i = D ∧ a = r) ∨ (i ≠ D ∧ (R ++ O)[i]? = some (some a)) := by
      intro i a ha
      by_cases hi : i = D
      · subst hi
        rw [List.getElem?_append_left (by rw [List.length_set]; exact hD), List.getElem?_set, if_pos rfl, if_pos hD] at ha
        exact .inl ⟨rfl, (Option.some.inj (Option.some.inj ha)).symm⟩
      · refine .inr ⟨hi, ?_⟩
        rw [List.getElem?_append, List.length_set] at ha
        rw [List.getElem?_append]
        split
        · rename_i hl; rwa [if_pos hl, List.getElem?_set, if_neg (Ne.symm hi)] at ha
        · rename_i hl; rwa [if_neg hl] at ha
    rcases key i a ha with ⟨rfl, rfl⟩ | ⟨hi, ha'⟩
    · rcases key j b hb with ⟨rfl, rfl⟩ | ⟨hj, hb'⟩
      · rfl
      · exact absurd e.symm (hn b (List.mem_of_getElem? hb'))
    · rcases key j b hb with ⟨rfl, rfl⟩ | ⟨hj, hb'⟩
      · exact absurd e (hn a (List.mem_of_getElem? ha'))
      · exact h.apart i j a b ha' hb' e
/-- What comes out takes a block that is new. -/
theorem MH.setO (D : Nat) (r : MR) (hD : D < O.length) (w' : World) (hw : ∀ k, k < w.heap.size → w'.heap[k]? = w.heap[k]?) (hsz : w.heap.size ≤ w'.heap.size) (hn : ∀ x, some x ∈ R ++ O → x.g ≠ r.g)
    (ho : w'.ownsRow base 5 1 (.slice (some ⟨r.g, 0, none⟩) size r.cap) size (nums .u8 r.l)) (hg : r.g ≠ go) : MH base (w'.setCell ⟨go, D, none⟩ (.slice (some ⟨r.g, 0, none⟩) size r.cap)) m gr go vB size R (O.set D (some r)) := by
  have h1 := h.step hw hsz
  have hmne : m ≠ go := blk_ty_ne h.blk h.ro (by decide)
  refine ⟨?_, ?_, ?_, fun x hx => ?_, fun i j a b ha hb e => ?_, h.ne, h.bm, h.br, h.bo, by simpa [World.setCell] using h1.bw, h.sz, h.rl, by rw [List.length_set]; exact h.ol⟩
  · rw [List.length_set]
    exact (Below.heap_setCell w' ⟨go, D, none⟩ _ m hmne).trans h1.blk
  · exact (Below.heap_setCell w' ⟨go, D, none⟩ _ gr h.ne).trans h1.rr
  · have h2 := blk_set h1.ro D (.slice (some ⟨r.g, 0, none⟩) size r.cap)
    have e : (encMs size O).setIfInBounds D (.slice (some ⟨r.g, 0, none⟩) size r.cap) = encMs size (O.set D (some r)) := by simp [encMs, List.map_set, encM]
    rwa [e] at h2
  · have hfar : ∀ (y : MR), y.g ≠ go → w'.ownsRow base 5 1 (.slice (some ⟨y.g, 0, none⟩) size y.cap) size (nums .u8 y.l) → (w'.setCell ⟨go, D, none⟩ (.slice (some ⟨r.g, 0, none⟩) size r.cap)).ownsRow base 5 1 (.slice (some ⟨y.g, 0, none⟩) size y.cap) size (nums .u8 y.l) := fun y hy hoy =>
      own_move hoy (fun k hk => Below.heap_setCell w' ⟨go, D, none⟩ _ k (fun e => hy ((Option.some.inj hk).trans e)))
    rcases List.mem_append.1 hx with hx | hx
    · exact hfar x (h.nb x (List.mem_append.2 (.inl hx))).2.2.1 (h1.own x (List.mem_append.2 (.inl hx)))
    · rcases List.mem_or_eq_of_mem_set hx with hx | hx
      · exact hfar x (h.nb x (List.mem_append.2 (.inr hx))).2.2.1 (h1.own x (List.mem_append.2 (.inr hx)))
      · obtain rfl := Option.some.inj hx
        exact hfar x hg ho
  · have key : ∀ (i : Nat) (a : MR), (R ++ O.set D (some r))[i]? = some (some a) → (i = R.length + D ∧ a = r) ∨ (i ≠ R.length + D ∧ (R ++ O)[i]? = some (some a)) := by
      intro i a ha
      by_cases hi : i = R.length + D
      · subst hi
        rw [List.getElem?_append_right (by omega), Nat.add_sub_cancel_left, List.getElem?_set, if_pos rfl, if_pos hD] at ha
        exact .inl ⟨rfl, (Option.some.inj (Option.some.inj ha)).symm⟩
      · refine .inr ⟨hi, ?_⟩
        rw [List.getElem?_append] at ha ⊢
        split
        · rename_i hl; rwa [if_pos hl] at ha
        · rename_i hl; rwa [if_neg hl, List.getElem?_set, if_neg (by omega)] at ha
    rcases key i a ha with ⟨rfl, rfl⟩ | ⟨hi, ha'⟩
    · rcases key j b hb with ⟨rfl, rfl⟩ | ⟨hj, hb'⟩
      · rfl
      · exact absurd e.symm (hn b (List.mem_of_getElem? hb'))
    · rcases key j b hb with ⟨rfl, rfl⟩ | ⟨hj, hb'⟩
      · exact absurd e (hn a (List.mem_of_getElem? ha'))
      · exact h.apart i j a b ha' hb' e
end
end Go.Proofs.Ytlflfpkjbjbldaa.PA
