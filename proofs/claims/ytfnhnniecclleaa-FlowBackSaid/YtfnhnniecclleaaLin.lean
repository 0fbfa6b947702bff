/- Rows of bytes: what a row of coefficients makes of blocks is linear; a flow's values are what its matrix's rows make. -/
import Derived.Test.YtfnhnniecclleaaAlg
import Derived.Test.YtfnhnniecclleaaRun
namespace Go.Proofs.Ytfnhnniecclleaa.Spec
open Go.RowKit Go.Proofs.Ytfnhnniecclleaa.PA Go.Proofs.YtfnhnniecclleaaW.PrintWords Go.Proofs.YtfnhnniecclleaaW.PrintLast Go.Proofs.YtfnhnniecclleaaW.PrintMore
set_option linter.unusedVariables false
set_option linter.unusedSimpArgs false
set_option linter.unusedSectionVars false
theorem xorB_nil_l (b : List Int) : xorB [] b = [] := rfl
theorem xorB_nil_r : ∀ (b : List Int), xorB b [] = []
  | [] => rfl
  | _ :: _ => rfl
theorem xorB_cons (a b : Int) (r s : List Int) : xorB (a :: r) (b :: s) = xo a b :: xorB r s := rfl
theorem byte_cons {a : Int} {r : List Int} (h : byteL (a :: r)) : (0 ≤ a ∧ a < 256) ∧ byteL r := ⟨h a (by simp), fun y hy => h y (by simp [hy])⟩
theorem xorB_swap : ∀ (a b c d : List Int), byteL a → byteL b → byteL c → byteL d → xorB (xorB a b) (xorB c d) = xorB (xorB a c) (xorB b d)
  | [], b, c, d, _, _, _, _ => by simp only [xorB_nil_l]
  | _ :: _, [], c, d, _, _, _, _ => by simp only [xorB_nil_l, xorB_nil_r]
  | _ :: _, _ :: _, [], d, _, _, _, _ => by simp only [xorB_nil_l, xorB_nil_r]
  | _ :: _, _ :: _, _ :: _, [], _, _, _, _ => by simp only [xorB_nil_l, xorB_nil_r]
  | a :: r, b :: s, c :: t, d :: u, h1, h2, h3, h4 => by
    simp only [xorB_cons]
    rw [xo_swap a b c d (byte_cons h1).1 (byte_cons h2).1 (byte_cons h3).1 (byte_cons h4).1, xorB_swap r s t u (byte_cons h1).2 (byte_cons h2).2 (byte_cons h3).2 (byte_cons h4).2]
theorem scB_byte (c : Int) (l : List Int) : byteL (scB c l) := fun y hy => by
  obtain ⟨x, _, rfl⟩ := List.mem_map.1 hy
  exact mulT_byte c x
theorem scB_len (c : Int) (l : List Int) : (scB c l).length = l.length := List.length_map _
theorem scB_xorB (c : Int) (hc : 0 ≤ c ∧ c < 256) : ∀ (a b : List Int), byteL a → byteL b → scB c (xorB a b) = xorB (scB c a) (scB c b)
  | [], b, _, _ => rfl
  | _ :: _, [], _, _ => rfl
  | a :: r, b :: s, h1, h2 => by
    have h1' := (byte_cons h1).1
    have h2' := (byte_cons h2).1
    show mulT c (xo a b) :: scB c (xorB r s) = xo (mulT c a) (mulT c b) :: xorB (scB c r) (scB c s)
    rw [mulT_xo c a b hc.1 hc.2 h1'.1 h1'.2 h2'.1 h2'.2, scB_xorB c hc r s (byte_cons h1).2 (byte_cons h2).2]
theorem scB_xo (c d : Int) (hc : 0 ≤ c ∧ c < 256) (hd : 0 ≤ d ∧ d < 256) : ∀ (b : List Int), byteL b → scB (xo c d) b = xorB (scB c b) (scB d b)
  | [], _ => rfl
  | b :: s, h => by
    have h' := (byte_cons h).1
    show mulT (xo c d) b :: scB (xo c d) s = xo (mulT c b) (mulT d b) :: xorB (scB c s) (scB d s)
    rw [mulT_xo_l c d b hc.1 hc.2 hd.1 hd.2 h'.1 h'.2, scB_xo c d hc hd s (byte_cons h).2]
theorem scB_scB (c d : Int) (hc : 0 ≤ c ∧ c < 256) (hd : 0 ≤ d ∧ d < 256) (b : List Int) (h : byteL b) : scB c (scB d b) = scB (mulT c d) b := by
  unfold scB
  rw [List.map_map]
  apply List.map_congr_left
  intro x hx
  have hb := h x hx
  exact (mulT_assoc c d x hc.1 hc.2 hd.1 hd.2 hb.1 hb.2).symm
theorem scB_one (b : List Int) (h : byteL b) : scB 1 b = b := by
  unfold scB
  exact (List.map_congr_left (g := id) (fun x hx => mulT_one x (h x hx).1 (h x hx).2)).trans (List.map_id b)
theorem scB_zero : ∀ (b : List Int), scB 0 b = List.replicate b.length 0
  | [] => rfl
  | x :: r => by
    show mulT 0 x :: scB 0 r = 0 :: List.replicate r.length 0
    rw [mulT_zl, scB_zero r]
theorem scB_rep (c : Int) (S : Nat) : scB c (List.replicate S 0) = List.replicate S 0 := by
  unfold scB; rw [List.map_replicate, mulT_zr]
theorem xorB_zero_l : ∀ (b : List Int), byteL b → xorB (List.replicate b.length 0) b = b
  | [], _ => rfl
  | b :: s, h => by
    show xo 0 b :: xorB (List.replicate s.length 0) s = b :: s
    rw [xo_zero b (byte_cons h).1.1 (byte_cons h).1.2, xorB_zero_l s (byte_cons h).2]
theorem xorB_zero_r : ∀ (b : List Int), byteL b → xorB b (List.replicate b.length 0) = b
  | [], _ => rfl
  | b :: s, h => by
    show xo b 0 :: xorB s (List.replicate s.length 0) = b :: s
    rw [xo_zero_r b (byte_cons h).1.1 (byte_cons h).1.2, xorB_zero_r s (byte_cons h).2]
/-- What a row of coefficients makes of blocks, added to what there is. -/
def combF : List Int → List Int → List (List Int) → List Int
  | acc, c :: r, b :: s => combF (xorB acc (scB c b)) r s
  | acc, _, _ => acc
theorem combF_nil_l (acc : List Int) (bl : List (List Int)) : combF acc [] bl = acc := by cases bl <;> rfl
theorem combF_xor {S : Nat} : ∀ (r1 r2 : List Int) (bl : List (List Int)) (A B : List Int), r1.length = r2.length → byteL r1 → byteL r2 → byteL A → byteL B → OkB S bl → combF (xorB A B) (xorB r1 r2) bl = xorB (combF A r1 bl) (combF B r2 bl)
  | [], [], bl, A, B, _, _, _, _, _, _ => by rw [xorB_nil_l, combF_nil_l, combF_nil_l, combF_nil_l]
  | [], _ :: _, bl, A, B, h, _, _, _, _, _ => by simp at h
  | _ :: _, [], bl, A, B, h, _, _, _, _, _ => by simp at h
  | c :: r1, d :: r2, [], A, B, _, _, _, _, _, _ => rfl
  | c :: r1, d :: r2, b :: s, A, B, h, h1, h2, hA, hB, hb => by
    have hbb := hb b (by simp)
    show combF (xorB (xorB A B) (scB (xo c d) b)) (xorB r1 r2) s = xorB (combF (xorB A (scB c b)) r1 s) (combF (xorB B (scB d b)) r2 s)
    rw [scB_xo c d (byte_cons h1).1 (byte_cons h2).1 b hbb.2, xorB_swap A B (scB c b) (scB d b) hA hB (scB_byte _ _) (scB_byte _ _)]
    exact combF_xor r1 r2 s _ _ (by simpa using h) (byte_cons h1).2 (byte_cons h2).2 (xorB_byte _ _) (xorB_byte _ _) (fun x hx => hb x (by simp [hx]))
theorem combF_sc {S : Nat} (c : Int) (hc : 0 ≤ c ∧ c < 256) : ∀ (r : List Int) (bl : List (List Int)) (A : List Int), byteL r → byteL A → OkB S bl → scB c (combF A r bl) = combF (scB c A) (scB c r) bl
  | [], bl, A, _, _, _ => by rw [combF_nil_l, show scB c [] = [] from rfl, combF_nil_l]
  | _ :: _, [], A, _, _, _ => rfl
  | d :: r, b :: s, A, hr, hA, hb => by
    have hbb := hb b (by simp)
    show scB c (combF (xorB A (scB d b)) r s) = combF (xorB (scB c A) (scB (mulT c d) b)) (scB c r) s
    rw [combF_sc c hc r s _ (byte_cons hr).2 (xorB_byte _ _) (fun x hx => hb x (by simp [hx])), scB_xorB c hc A _ hA (scB_byte _ _), scB_scB c d hc (byte_cons hr).1 b hbb.2]
theorem combF_rep {S : Nat} : ∀ (n : Nat) (bl : List (List Int)) (A : List Int), A.length = S → byteL A → OkB S bl → combF A (List.replicate n 0) bl = A
  | 0, bl, A, _, _, _ => combF_nil_l A bl
  | n + 1, [], A, _, _, _ => rfl
  | n + 1, b :: s, A, hl, hA, hb => by
    have hbb := hb b (by simp)
    show combF (xorB A (scB 0 b)) (List.replicate n 0) s = A
    rw [scB_zero, hbb.1, ← hl, xorB_zero_r A hA]
    exact combF_rep n s A hl hA (fun x hx => hb x (by simp [hx]))
theorem combF_unit {S : Nat} : ∀ (n j : Nat) (bl : List (List Int)) (A : List Int), A.length = S → byteL A → OkB S bl → j < n → (hj : j < bl.length) → combF A ((List.replicate n 0).set j 1) bl = xorB A bl[j]
  | 0, _, _, _, _, _, _, h, _ => by omega
  | n + 1, _, [], _, _, _, _, _, h => absurd h (by simp)
  | n + 1, 0, b :: s, A, hl, hA, hb, _, _ => by
    have hbb := hb b (by simp)
    show combF (xorB A (scB 1 b)) (List.replicate n 0) s = xorB A b
    rw [scB_one b hbb.2]
    exact combF_rep n s _ (by rw [xorB_len (by rw [hbb.1, hl]), hl]) (xorB_byte _ _) (fun x hx => hb x (by simp [hx]))
  | n + 1, j + 1, b :: s, A, hl, hA, hb, hn, hj => by
    have hbb := hb b (by simp)
    have hj' : j < s.length := by simpa using hj
    show combF (xorB A (scB 0 b)) ((List.replicate n 0).set j 1) s = xorB A (s[j]'hj')
    rw [scB_zero, hbb.1, ← hl, xorB_zero_r A hA]
    exact combF_unit n j s A hl hA (fun x hx => hb x (by simp [hx])) (by omega) (by simpa using hj)
def rowOf (S : Nat) (bl : List (List Int)) (r : List Int) : List Int := combF (List.replicate S 0) r bl
def unit (n : Nat) (v : Int) : List Int := (List.replicate n 0).set v.toNat 1
theorem unit_len (n : Nat) (v : Int) : (unit n v).length = n := by simp [unit]
theorem set_byte : ∀ (l : List Int) (j : Nat), byteL l → byteL (l.set j 1)
  | [], _, h => h
  | a :: r, 0, h => fun y hy => by
    rcases List.mem_cons.1 hy with rfl | hy
    · omega
    · exact h y (by simp [hy])
  | a :: r, j + 1, h => fun y hy => by
    rcases List.mem_cons.1 (show y ∈ a :: r.set j 1 from hy) with rfl | hy
    · exact h _ (by simp)
    · exact set_byte r j (byte_cons h).2 y hy
theorem unit_byte (n : Nat) (v : Int) : byteL (unit n v) := set_byte _ _ (rep_byte n)
/-- The blocks' values are what the matrix's rows make of the blocks. -/
structure Rel (S n : Nat) (bl : List (List Int)) (V M : List (List Int)) : Prop where
  len : V.length = M.length
  okV : OkB S V
  okM : OkB n M
  eq : ∀ i, i < V.length → rd_L9 V (i : Int) = rowOf S bl (rd_L9 M (i : Int))
section
variable {S n : Nat} {bl : List (List Int)} (hb : OkB S bl)
include hb
theorem row_step (A B : List Int) (c : Int) (hc : 0 ≤ c ∧ c < 256) (hA : A.length = n) (hAb : byteL A) (hB : B.length = n) (hBb : byteL B) : xorB (rowOf S bl A) (scB c (rowOf S bl B)) = rowOf S bl (xorB A (scB c B)) := by
  unfold rowOf
  rw [combF_sc c hc B bl _ hBb (rep_byte S) hb, scB_rep, ← combF_xor A (scB c B) bl _ _ (by rw [scB_len, hA, hB]) hAb (scB_byte _ _) (rep_byte S) (rep_byte S) hb]
  congr 1
  have := xorB_zero_l (List.replicate S 0) (rep_byte S)
  rw [List.length_replicate] at this
  exact this
theorem rel_row {V M : List (List Int)} (h : Rel S n bl V M) : ∀ (ts : List S64) (A : List Int), termIn V.length ts → A.length = n → byteL A → rowF V (rowOf S bl A) ts = rowOf S bl (rowF M A ts)
  | [], A, _, _, _ => rfl
  | t :: r, A, ht, hA, hAb => by
    have htt := ht t (by simp)
    obtain ⟨i, hi⟩ : ∃ i : Nat, (i : Int) = t.f0 := ⟨t.f0.toNat, by omega⟩
    have hM := ok_rd h.okM (i := t.f0) htt.1 (by rw [← h.len]; exact htt.2.1)
    rw [rowF, rowF, ← hi, h.eq i (by omega), row_step hb A (rd_L9 M (i : Int)) t.f1 htt.2.2 hA hAb (by rw [hi]; exact hM.1) (by rw [hi]; exact hM.2)]
    exact rel_row h r _ (fun x hx => ht x (by simp [hx])) (by rw [xorB_len (by rw [scB_len, hA, hi, hM.1]), hA]) (xorB_byte _ _)
theorem rel_run : ∀ (nodes : List (List S64)) (V M : List (List Int)), Rel S n bl V M → (∀ i (h : i < nodes.length), termIn (V.length + i) nodes[i]) → Rel S n bl (runF S V nodes) (runF n M nodes)
  | [], V, M, h, _ => h
  | ts :: r, V, M, h, ht => by
    have h0 := ht 0 (by simp)
    have hV := rowF_ok h.okV ts (List.replicate S 0) h0 (by simp) (rep_byte S)
    have hM := rowF_ok h.okM ts (List.replicate n 0) (by rw [← h.len]; exact h0) (by simp) (rep_byte n)
    rw [runF, runF]
    refine rel_run r _ _ ⟨by simp [h.len], ok_snoc h.okV hV.1 hV.2, ok_snoc h.okM hM.1 hM.2, fun i hi => ?_⟩ (fun i hi => by
      have := ht (i + 1) (by simpa using hi)
      rw [List.length_append, List.length_singleton, show V.length + 1 + i = V.length + (i + 1) from by omega]
      simpa using this)
    rw [List.length_append, List.length_singleton] at hi
    by_cases c : i < V.length
    · have e1 : rd_L9 (V ++ [rowF V (List.replicate S 0) ts]) (i : Int) = rd_L9 V (i : Int) := by
        rw [rd9 _ i (by simp; omega), rd9 _ i c, List.getElem_append_left c]
      have e2 : rd_L9 (M ++ [rowF M (List.replicate n 0) ts]) (i : Int) = rd_L9 M (i : Int) := by
        have c' : i < M.length := by rw [← h.len]; exact c
        rw [rd9 _ i (by simp; omega), rd9 _ i c', List.getElem_append_left c']
      rw [e1, e2]; exact h.eq i c
    · have ei : i = V.length := by omega
      subst ei
      have e1 : rd_L9 (V ++ [rowF V (List.replicate S 0) ts]) (V.length : Int) = rowF V (List.replicate S 0) ts := by simp [rd_L9]
      have e2 : rd_L9 (M ++ [rowF M (List.replicate n 0) ts]) (V.length : Int) = rowF M (List.replicate n 0) ts := by rw [h.len]; simp [rd_L9]
      rw [e1, e2]
      have hz : rowOf S bl (List.replicate n 0) = List.replicate S 0 := combF_rep n bl _ (by simp) (rep_byte S) hb
      have := rel_row hb h ts (List.replicate n 0) h0 (by simp) (rep_byte n)
      rw [hz] at this
      exact this
theorem rel_ins (ins : List Int) (hi : ∀ v ∈ ins, 0 ≤ v ∧ v < (bl.length : Int)) : Rel S bl.length bl (pickB bl ins) (ins.map (unit bl.length)) := by
  refine ⟨by simp [pickB], fun x hx => ?_, fun x hx => ?_, fun i h => ?_⟩
  · obtain ⟨v, hv, rfl⟩ := List.mem_map.1 hx
    exact ok_rd hb (hi v hv).1 (hi v hv).2
  · obtain ⟨v, hv, rfl⟩ := List.mem_map.1 hx
    exact ⟨unit_len _ _, unit_byte _ _⟩
  · have hil : i < ins.length := by simpa [pickB] using h
    have hv := hi _ (List.getElem_mem hil)
    rw [rd9 _ i h, rd9 _ i (by simpa using hil)]
    simp only [pickB, List.getElem_map]
    obtain ⟨j, hj⟩ : ∃ j : Nat, (j : Int) = ins[i] := ⟨ins[i].toNat, by omega⟩
    rw [← hj, rd9 bl j (by omega), unit, Int.toNat_natCast, rowOf, combF_unit bl.length j bl _ (by simp) (rep_byte S) hb (by omega) (by omega)]
    have hbj := hb _ (List.getElem_mem (l := bl) (n := j) (by omega))
    have := xorB_zero_l bl[j] hbj.2
    rw [hbj.1] at this
    exact this.symm
end
theorem runF_len (L : Nat) : ∀ (nodes : List (List S64)) (V : List (List Int)), (runF L V nodes).length = V.length + nodes.length
  | [], V => by simp [runF]
  | ts :: r, V => by rw [runF, runF_len L r]; simp; omega
theorem runF_ok (L : Nat) : ∀ (nodes : List (List S64)) (V : List (List Int)), OkB L V → (∀ i (h : i < nodes.length), termIn (V.length + i) nodes[i]) → OkB L (runF L V nodes)
  | [], V, h, _ => h
  | ts :: r, V, h, ht => by
    have h0 := ht 0 (by simp)
    have hV := rowF_ok h ts (List.replicate L 0) h0 (by simp) (rep_byte L)
    rw [runF]
    refine runF_ok L r _ (ok_snoc h hV.1 hV.2) (fun i hi => ?_)
    have := ht (i + 1) (by simpa using hi)
    rw [List.length_append, List.length_singleton, show V.length + 1 + i = V.length + (i + 1) from by omega]
    simpa using this
/-- The matrix's rows. -/
def matF (ins : List Int) (nodes : List (List S64)) (outs : List Int) (n : Nat) : List (List Int) := outF (runF n (ins.map (unit n)) nodes) outs
theorem out_rel {S : Nat} {bl : List (List Int)} (hb : OkB S bl) (ins : List Int) (nodes : List (List S64)) (outs : List Int) (hi : ∀ v ∈ ins, 0 ≤ v ∧ v < (bl.length : Int)) (ht : ∀ i (h : i < nodes.length), termIn (ins.length + i) nodes[i]) (ho : ∀ o ∈ outs, 0 ≤ o ∧ o < ((ins.length + nodes.length : Nat) : Int)) :
    outF (runF S (pickB bl ins) nodes) outs = (matF ins nodes outs bl.length).map (rowOf S bl) ∧ OkB bl.length (matF ins nodes outs bl.length) := by
  have hpl : (pickB bl ins).length = ins.length := by simp [pickB]
  have hr := rel_run hb nodes _ _ (rel_ins hb ins hi) (fun i h => by rw [hpl]; exact ht i h)
  have hl := runF_len S nodes (pickB bl ins)
  rw [hpl] at hl
  constructor
  · unfold matF outF
    rw [List.map_map]
    apply List.map_congr_left
    intro o hom
    have hoo := ho o hom
    obtain ⟨i, hi'⟩ : ∃ i : Nat, (i : Int) = o := ⟨o.toNat, by omega⟩
    rw [← hi']
    exact hr.eq i (by omega)
  · intro x hx
    obtain ⟨o, hom, rfl⟩ := List.mem_map.1 hx
    have hoo := ho o hom
    exact ok_rd hr.okM hoo.1 (by rw [← hr.len]; omega)
end Go.Proofs.Ytfnhnniecclleaa.Spec
