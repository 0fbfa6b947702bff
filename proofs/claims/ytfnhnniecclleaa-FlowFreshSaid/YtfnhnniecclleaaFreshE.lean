/- The memory of FlowFresh behind its calls: rows that are written over, of which only their places matter; blocks of bytes that lie apart. Conditions: none. -/
import Derived.Test.YtfnhnniecclleaaFreshC
import Derived.Test.YtfnhnniecclleaaFreshA
namespace Go.Proofs.Ytfnhnniecclleaa.Fresh
open Go.RowKit Go.Proofs.YtfnhnniecclleaaW.PrintWords Go.Proofs.YtfnhnniecclleaaW.PrintLast Go.Proofs.YtfnhnniecclleaaW.PrintMore Go.Proofs.Ytfnhnniecclleaa.PA
section
variable {W V : World} {M n sz : Nat} {t : TypeId} {v : Value}
/-- A block after a store: its type and its size stay. -/
theorem set_any {b : Nat} {cs : Array Value} (h : W.heap[b]? = some (.cells cs t (0, 0))) (g j : Nat) (u : Value) : ∃ cs', (W.setCell ⟨g, j, none⟩ u).heap[b]? = some (.cells cs' t (0, 0)) ∧ cs'.size = cs.size := by
  by_cases hb : b = g
  · subst hb
    exact ⟨_, blk_set h j u, by simp⟩
  · exact ⟨cs, (Below.heap_setCell W ⟨g, j, none⟩ u b hb).trans h, rfl⟩
/-- A slice of n elements, nil or in a row of its own: only the row's type and size are told. -/
def RR (W : World) (M : Nat) (t : TypeId) (v : Value) (n sz : Nat) : Prop :=
  (v = .slice none 0 0 ∧ n = 0) ∨ ∃ b c cs, v = .slice (some ⟨b, 0, none⟩) n c ∧ M ≤ b ∧ W.heap[b]? = some (.cells cs t (0, 0)) ∧ n * sz ≤ cs.size ∧ n ≤ 9223372036854775807
theorem RR.of_own {xs : List Value} (h : W.ownsRow M t sz v n xs) : RR W M t v n sz := by
  rcases h.2 with ⟨h1, h2⟩ | ⟨g, cap, cur, h1, h2, h3, h4, h5, h6, _⟩
  · exact .inl ⟨h1, h2⟩
  · exact .inr ⟨g, cap, cur, h1, h2, h3, by rw [h6]; exact Nat.mul_le_mul_right _ h4, by simp only [maxLen] at h5; omega⟩
theorem RR.set (h : RR W M t v n sz) (g j : Nat) (u : Value) : RR (W.setCell ⟨g, j, none⟩ u) M t v n sz := by
  rcases h with h | ⟨b, c, cs, h1, h2, h3, h4⟩
  · exact .inl h
  · obtain ⟨cs', h5, h6⟩ := set_any h3 g j u
    exact .inr ⟨b, c, cs', h1, h2, h5, by omega, h4.2⟩
theorem RR.move (h : RR W M t v n sz) (hm : ∀ (k : Nat) cs, W.heap[k]? = some (.cells cs t (0, 0)) → V.heap[k]? = W.heap[k]?) : RR V M t v n sz := by
  rcases h with h | ⟨b, c, cs, h1, h2, h3, h4⟩
  · exact .inl h
  · exact .inr ⟨b, c, cs, h1, h2, (hm b cs h3).trans h3, h4⟩
theorem RR.form (h : RR W M t v n sz) : ∃ A c, v = .slice A n c := by
  rcases h with ⟨rfl, rfl⟩ | ⟨b, c, cs, h1, _⟩
  · exact ⟨_, _, rfl⟩
  · exact ⟨_, _, h1⟩
theorem RR.at_ (h : RR W M t v n sz) {i : Nat} (hi : i < n) : ∃ b c, v = .slice (some ⟨b, 0, none⟩) n c ∧ M ≤ b ∧ (∃ cs, W.heap[b]? = some (.cells cs t (0, 0))) ∧ n ≤ 9223372036854775807 ∧ ∀ j, j < n * sz → (∃ u, W.cell? ⟨b, j, none⟩ = some u) ∧ W.frozen? ⟨b, j, none⟩ = false := by
  rcases h with ⟨_, h⟩ | ⟨b, c, cs, h1, h2, h3, h4⟩
  · omega
  · exact ⟨b, c, h1, h2, ⟨cs, h3⟩, h4.2, fun j hj => ⟨⟨cs[j]'(by omega), by rw [blk_cell h3, Array.getElem?_eq_getElem (by omega)]⟩, blk_frozen h3 j⟩⟩
/-- A row of rows of terms. -/
def TN (W : World) (M : Nat) (v : Value) (n : Nat) : Prop :=
  (v = .slice none 0 0 ∧ n = 0) ∨ ∃ b c cs, v = .slice (some ⟨b, 0, none⟩) n c ∧ M ≤ b ∧ W.heap[b]? = some (.cells cs 62 (0, 0)) ∧ ∀ i, i < n → ∃ u m, cs[i]? = some u ∧ RR W M 64 u m 2
theorem reps_one {α : Type} {R : α → List Value → Prop} {ps : List α} {cs : List Value} (h : Reps R 1 ps cs) (j : Nat) (p : α) (hp : ps[j]? = some p) : ∃ u, cs[j]? = some u ∧ R p [u] := by
  have h1 := h.2 j p hp
  have hl : cs.length = ps.length := by rw [h.1, Nat.mul_one]
  have hj : j < cs.length := by have := (List.getElem?_eq_some_iff.1 hp).1; omega
  refine ⟨cs[j], List.getElem?_eq_getElem hj, ?_⟩
  rw [Nat.mul_one, List.drop_eq_getElem_cons hj] at h1
  exact h1
theorem TN.of_R {ok : Nat → Prop} {xs : List (List S64)} (h : Kd.R (Kd.slice 64 k64) 62 W M ok v xs) : TN W M v xs.length := by
  obtain ⟨_, inner, ho, hr⟩ := h
  rcases ho.2 with ⟨h1, h2⟩ | ⟨g, cap, cur, h1, h2, h3, h4, _, h6, h7⟩
  · exact .inl ⟨h1, h2⟩
  · refine .inr ⟨g, cap, cur, h1, h2, h3, fun i hi => ?_⟩
    obtain ⟨u, hu, v, hv, hR⟩ := reps_one hr i xs[i] (List.getElem?_eq_getElem hi)
    obtain rfl : u = v := by simpa using hv
    obtain ⟨inner', ho'⟩ := Kd.R_own hR
    refine ⟨u, _, ?_, RR.of_own ho'⟩
    rw [← h7, List.getElem?_take, if_pos (by show i < xs.length * 1; omega)] at hu
    simpa using hu
theorem TN.set (h : TN W M v n) {g : Nat} {cs : Array Value} (hg : W.heap[g]? = some (.cells cs t (0, 0))) (ht : t ≠ 62) (j : Nat) (u : Value) : TN (W.setCell ⟨g, j, none⟩ u) M v n := by
  rcases h with h | ⟨b, c, cs', h1, h2, h3, h4⟩
  · exact .inl h
  · refine .inr ⟨b, c, cs', h1, h2, (Below.heap_setCell W ⟨g, j, none⟩ u b (blk_ne h3 hg (fun e => ht e.symm))).trans h3, fun i hi => ?_⟩
    obtain ⟨x, m, hx, hr⟩ := h4 i hi
    exact ⟨x, m, hx, hr.set g j u⟩
theorem TN.form (h : TN W M v n) : ∃ A c, v = .slice A n c := by
  rcases h with ⟨rfl, rfl⟩ | ⟨b, c, cs, h1, _⟩
  · exact ⟨_, _, rfl⟩
  · exact ⟨_, _, h1⟩
theorem TN.at_ (h : TN W M v n) {i : Nat} (hi : i < n) : ∃ b c, v = .slice (some ⟨b, 0, none⟩) n c ∧ ∃ u m, W.cell? ⟨b, i, none⟩ = some u ∧ RR W M 64 u m 2 := by
  rcases h with ⟨_, h⟩ | ⟨b, c, cs, h1, h2, h3, h4⟩
  · omega
  · obtain ⟨u, m, hu, hr⟩ := h4 i hi
    exact ⟨b, c, h1, u, m, (blk_cell h3 i).trans hu, hr⟩
/-- All that is held while what Trim and Of answered is written over. -/
structure ST (M : Nat) (W1 : World) (g10 g12 : Nat) (a b c d e f vo : Value) (nI nN nO nP : Nat) (out : List (List Int)) (W : World) : Prop where
  bb : Below M W1 W
  b10 : W.heap[g10]? = some (.cells #[a, b, c] 25 (0, 0))
  b12 : W.heap[g12]? = some (.cells #[d, e, f] 25 (0, 0))
  ti : RR W M 3 a nI 1
  tn : TN W M b nN
  t2 : RR W M 3 c nO 1
  oi : RR W M 3 d nP 1
  ou : Kd.S (Kd.slice 5 (Kd.int .u8)) 45 W M (fun _ => True) vo out
theorem ST.set {W1 : World} {g10 g12 : Nat} {a b c d e f vo : Value} {nI nN nO nP : Nat} {out : List (List Int)} (h : ST M W1 g10 g12 a b c d e f vo nI nN nO nP out W) {g : Nat} {cs : Array Value} (hM : M ≤ g) (hg : W.heap[g]? = some (.cells cs t (0, 0))) (ht : t = 3 ∨ t = 64) (j : Nat) (u : Value) :
    ST M W1 g10 g12 a b c d e f vo nI nN nO nP out (W.setCell ⟨g, j, none⟩ u) where
  bb := h.bb.setCell hM _
  b10 := (Below.heap_setCell W ⟨g, j, none⟩ u g10 (blk_ne h.b10 hg (by rcases ht with rfl | rfl <;> decide))).trans h.b10
  b12 := (Below.heap_setCell W ⟨g, j, none⟩ u g12 (blk_ne h.b12 hg (by rcases ht with rfl | rfl <;> decide))).trans h.b12
  ti := h.ti.set g j u
  tn := h.tn.set hg (by rcases ht with rfl | rfl <;> decide) j u
  t2 := h.t2.set g j u
  oi := h.oi.set g j u
  ou := Kd.S_set h.ou hg (fun q hq => by
    have : q = 45 ∨ q = 5 := by simpa [Kd.slice, Kd.int, Kd.scalar] using hq
    rcases ht with rfl | rfl <;> omega) j u
/-- One block of bytes: nil, or in a row of its own. -/
def UR (W : World) (M : Nat) (u : Value) (x : List Int) : Prop :=
  (u = .slice none 0 0 ∧ x = []) ∨ ∃ (b c : Nat) (cs : Array Value), u = .slice (some ⟨b, 0, none⟩) x.length c ∧ M ≤ b ∧ W.heap[b]? = some (.cells cs 5 (0, 0)) ∧ cs.size = c ∧ x.length ≤ c ∧ ∀ (j : Nat) (y : Int), x[j]? = some y → cs[j]? = some (Value.int .u8 y)
/-- Blocks of bytes that lie apart. -/
def OU (W : World) (M : Nat) (v : Value) (xs : List (List Int)) : Prop :=
  (v = .slice none 0 0 ∧ xs = []) ∨ ∃ (b c : Nat) (cs : Array Value), v = .slice (some ⟨b, 0, none⟩) xs.length c ∧ xs.length ≤ c ∧ M ≤ b ∧ W.heap[b]? = some (.cells cs 45 (0, 0)) ∧ (∀ (i : Nat) (x : List Int), xs[i]? = some x → ∃ u, cs[i]? = some u ∧ UR W M u x) ∧
    ∀ (i j : Nat) (u u' : Value), i < xs.length → j < xs.length → i ≠ j → cs[i]? = some u → cs[j]? = some u' → ∀ k, u.ownBlock = some k → u'.ownBlock ≠ some k
theorem UR.of_R {ok : Nat → Prop} {x : List Int} {u : Value} (h : Kd.R (Kd.int .u8) 5 W M ok u x) : UR W M u x := by
  obtain ⟨_, inner, ho, hr⟩ := h
  rcases ho.2 with ⟨h1, h2⟩ | ⟨g, cap, cur, h1, h2, h3, h4, _, h6, h7⟩
  · exact .inl ⟨h1, List.eq_nil_of_length_eq_zero h2⟩
  · refine .inr ⟨g, cap, cur, h1, h2, h3, by rw [h6]; exact Nat.mul_one _, h4, fun j y hy => ?_⟩
    obtain ⟨u, hu, hv⟩ := reps_one hr j y hy
    have hu' : u = .int .u8 y := by simpa [Kd.int, Kd.scalar] using hv
    subst hu'
    have hj := (List.getElem?_eq_some_iff.1 hy).1
    rw [← h7, List.getElem?_take, if_pos (by show j < x.length * 1; omega)] at hu
    simpa using hu
theorem OU.of_S {ok : Nat → Prop} {xs : List (List Int)} (h : Kd.S (Kd.slice 5 (Kd.int .u8)) 45 W M ok v xs) : OU W M v xs := by
  obtain ⟨f, _, inner, ho, hr⟩ := h
  rw [List.length_zipIdx] at ho
  have key : ∀ i x, xs[i]? = some x → ∃ u, inner[i]? = some u ∧ UR W M u x ∧ ∀ k, u.ownBlock = some k → f k = i := fun i x hx => by
    obtain ⟨u, hu, v, hv, hR⟩ := reps_one hr i (x, i) (Kd.zip_at hx)
    obtain rfl : u = v := by simpa using hv
    exact ⟨u, hu, UR.of_R hR, fun k hk => (hR.1 k hk).2⟩
  rcases ho.2 with ⟨h1, h2⟩ | ⟨g, cap, cur, h1, h2, h3, h4, _, h6, h7⟩
  · exact .inl ⟨h1, List.eq_nil_of_length_eq_zero h2⟩
  · have hc : ∀ i u, i < xs.length → (inner[i]? = some u ↔ cur[i]? = some u) := fun i u hi => by
      rw [← h7, List.getElem?_take, if_pos (by show i < xs.length * 1; omega)]
      simp
    refine .inr ⟨g, cap, cur, h1, h4, h2, h3, fun i x hx => ?_, fun i j u u' hi hj hne hu hu' k hk hk' => ?_⟩
    · obtain ⟨u, hu, hU, _⟩ := key i x hx
      exact ⟨u, (hc i u (List.getElem?_eq_some_iff.1 hx).1).1 hu, hU⟩
    · obtain ⟨z, hz, _, hf⟩ := key i xs[i] (List.getElem?_eq_getElem hi)
      obtain ⟨z', hz', _, hf'⟩ := key j xs[j] (List.getElem?_eq_getElem hj)
      obtain rfl := Option.some.inj (((hc i z hi).1 hz).symm.trans hu)
      obtain rfl := Option.some.inj (((hc j z' hj).1 hz').symm.trans hu')
      exact hne ((hf k hk).symm.trans (hf' k hk'))
theorem UR.move {u : Value} {x : List Int} (h : UR W M u x) (hm : ∀ k, u.ownBlock = some k → V.heap[k]? = W.heap[k]?) : UR V M u x := by
  rcases h with h | ⟨b, c, cs, h1, h2, h3, h4⟩
  · exact .inl h
  · exact .inr ⟨b, c, cs, h1, h2, (hm b (by rw [h1]; rfl)).trans h3, h4⟩
theorem UR.lt {u : Value} {x : List Int} (h : UR W M u x) (k : Nat) (hk : u.ownBlock = some k) : k < W.heap.size ∧ ∃ cs, W.heap[k]? = some (.cells cs 5 (0, 0)) := by
  rcases h with ⟨h, _⟩ | ⟨b, c, cs, h1, h2, h3, h4⟩
  · rw [h] at hk; cases hk
  · rw [h1] at hk
    obtain rfl : b = k := by simpa [Value.ownBlock] using hk
    exact ⟨blk_lt h3, cs, h3⟩
theorem UR.reads {u : Value} {x : List Int} (h : UR W M u x) (hl : x.length ≤ 9223372036854775807) : ∃ A c, u = .slice A x.length c ∧ x.length ≤ c ∧ Kd.C (Kd.int .u8) W A x.length x := by
  rcases h with ⟨rfl, rfl⟩ | ⟨b, c, cs, h1, h2, h3, h4, h5, h6⟩
  · exact ⟨none, 0, rfl, Nat.le_refl _, rfl, by simp, fun h => absurd h (by simp)⟩
  · refine ⟨_, c, h1, h5, rfl, hl, fun _ => ⟨_, rfl, fun j p hp => ⟨[.int .u8 p], rfl, rfl, fun i u hu => ?_⟩⟩⟩
    cases i with
    | zero =>
      obtain rfl := Option.some.inj hu
      rw [add_at, blk_cell h3]
      simpa [Kd.int, Kd.scalar] using h6 j p hp
    | succ i => cases hu
theorem OU.reads {xs : List (List Int)} (h : OU W M v xs) (hl : xs.length ≤ 9223372036854775807) (hi : ∀ x ∈ xs, x.length ≤ 9223372036854775807) : ∃ A c, v = .slice A xs.length c ∧ xs.length ≤ c ∧ Kd.C (Kd.slice 5 (Kd.int .u8)) W A xs.length xs := by
  rcases h with ⟨rfl, rfl⟩ | ⟨b, c, cs, h1, h2, h3, h4, h5, h6⟩
  · exact ⟨none, 0, rfl, Nat.le_refl _, rfl, by simp, fun h => absurd h (by simp)⟩
  · refine ⟨_, c, h1, h2, rfl, hl, fun _ => ⟨_, rfl, fun j p hp => ?_⟩⟩
    obtain ⟨u, hu, hU⟩ := h5 j p hp
    obtain ⟨A, c', e, hc, hC⟩ := hU.reads (hi p (List.mem_of_getElem? hp))
    refine ⟨[u], rfl, ⟨A, c', by rw [e], hc, hC⟩, fun i z hz => ?_⟩
    cases i with
    | zero =>
      obtain rfl := Option.some.inj hz
      rw [add_at, blk_cell h4]
      simpa [Kd.slice] using hu
    | succ i => cases hz
theorem OU.at_ {xs : List (List Int)} (h : OU W M v xs) {i : Nat} {x : List Int} (hi : xs[i]? = some x) : ∃ b c u, v = .slice (some ⟨b, 0, none⟩) xs.length c ∧ W.cell? ⟨b, i, none⟩ = some u ∧ UR W M u x := by
  rcases h with ⟨_, rfl⟩ | ⟨b, c, cs, h1, h2, h3, h4, h5, h6⟩
  · simp at hi
  · obtain ⟨u, hu, hU⟩ := h5 i x hi
    exact ⟨b, c, u, h1, (blk_cell h4 i).trans hu, hU⟩
/-- Nothing of it has moved. -/
theorem OU.move {xs : List (List Int)} (h : OU W M v xs) (hb : Below W.heap.size W V) : OU V M v xs := by
  rcases h with h | ⟨b, c, cs, h1, h2, h3, h4, h5, h6⟩
  · exact .inl h
  · refine .inr ⟨b, c, cs, h1, h2, h3, blk_below h4 hb, fun i x hx => ?_, h6⟩
    obtain ⟨u, hu, hU⟩ := h5 i x hx
    exact ⟨u, hu, hU.move (fun k hk => hb.block k (hU.lt k hk).1)⟩
/-- One of the blocks has been written over: the others stay. -/
theorem OU.spoilt {xs : List (List Int)} (h : OU W M v xs) {i b c : Nat} {x : List Int} (hi : xs[i]? = some x) {ob oc : Nat} (hv : v = .slice (some ⟨ob, 0, none⟩) xs.length oc) (hu : W.cell? ⟨ob, i, none⟩ = some (.slice (some ⟨b, 0, none⟩) x.length c)) (hM : M ≤ b)
    (hk : ∀ k, k < W.heap.size → k ≠ b → V.heap[k]? = W.heap[k]?) {cs : Array Value} (hb : V.heap[b]? = some (.cells cs 5 (0, 0))) (hs : cs.size = c) (hxc : x.length ≤ c) (hr : ∀ j, j < x.length → ∃ y : Int, cs[j]? = some (.int .u8 y)) :
    ∃ x' : List Int, x'.length = x.length ∧ OU V M v (xs.set i x') := by
  have hlt := (List.getElem?_eq_some_iff.1 hi).1
  obtain ⟨x', hl', hx'⟩ : ∃ x' : List Int, x'.length = x.length ∧ ∀ (j : Nat) (y : Int), x'[j]? = some y → cs[j]? = some (Value.int .u8 y) := by
    have : ∀ n, n ≤ x.length → ∃ x' : List Int, x'.length = n ∧ ∀ (j : Nat) (y : Int), x'[j]? = some y → cs[j]? = some (Value.int .u8 y) := by
      intro n
      induction n with
      | zero => exact fun _ => ⟨[], rfl, fun j y h => by simp at h⟩
      | succ n ih =>
        intro hn
        obtain ⟨x', h1, h2⟩ := ih (by omega)
        obtain ⟨y, hy⟩ := hr n (by omega)
        refine ⟨x' ++ [y], by simp [h1], fun j z hz => ?_⟩
        rcases Nat.lt_or_ge j n with hj | hj
        · rw [List.getElem?_append_left (by omega)] at hz
          exact h2 j z hz
        · have hj' := (List.getElem?_eq_some_iff.1 hz).1
          rw [List.length_append, h1] at hj'
          obtain rfl : j = n := by simp at hj'; omega
          rw [List.getElem?_append_right (by omega), h1, Nat.sub_self] at hz
          obtain rfl : y = z := by simpa using hz
          exact hy
    exact this _ (Nat.le_refl _)
  refine ⟨x', hl', ?_⟩
  rcases h with ⟨_, rfl⟩ | ⟨b', c', cs', h1, h2, h3, h4, h5, h6⟩
  · simp at hi
  · rw [hv] at h1
    injection h1 with e1 e2 e3
    injection e1 with e1
    injection e1 with e1
    subst e1
    subst e3
    have hci : cs'[i]? = some (.slice (some ⟨b, 0, none⟩) x.length c) := (blk_cell h4 i).symm.trans hu
    have hob : ob ≠ b := fun e => by
      obtain ⟨u, hu', hU⟩ := h5 i x hi
      obtain rfl := Option.some.inj (hci.symm.trans hu')
      obtain ⟨_, cs'', hc⟩ := hU.lt b rfl
      rw [e] at h4
      rw [h4] at hc
      injection hc with hc
      injection hc with _ hc
      cases hc
    refine .inr ⟨ob, oc, cs', by rw [hv, List.length_set], by rw [List.length_set]; exact h2, h3, (hk ob (blk_lt h4) hob).trans h4, fun j y hy => ?_, by rw [List.length_set]; exact h6⟩
    by_cases hji : i = j
    · subst hji
      rw [List.getElem?_set_self hlt] at hy
      obtain rfl := Option.some.inj hy
      exact ⟨_, hci, .inr ⟨b, c, cs, by rw [hl'], hM, hb, hs, by omega, hx'⟩⟩
    · rw [List.getElem?_set_ne hji] at hy
      obtain ⟨u, hu', hU⟩ := h5 j y hy
      refine ⟨u, hu', hU.move (fun k hk' => hk k (hU.lt k hk').1 (fun e => ?_))⟩
      exact h6 i j _ u hlt (List.getElem?_eq_some_iff.1 hy).1 hji hci hu' b rfl (e ▸ hk')
end
end Go.Proofs.Ytfnhnniecclleaa.Fresh
