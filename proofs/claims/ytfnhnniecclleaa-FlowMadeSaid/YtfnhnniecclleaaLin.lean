/- Rows of bytes: what a row of coefficients makes of blocks is linear; a flow's values are what its matrix's rows make. -/
import Derived.Test.YtfnhnniecclleaaMul
import Derived.Test.YtfnhnniecclleaaRun
namespace Go.Proofs.Ytfnhnniecclleaa.Spec
open Go.RowKit Go.Proofs.Ytfnhnniecclleaa.PA Go.Proofs.YtfnhnniecclleaaW.PrintWords Go.Proofs.YtfnhnniecclleaaW.PrintLast Go.Proofs.YtfnhnniecclleaaW.PrintMore
set_option linter.unusedVariables false
set_option linter.unusedSimpArgs false
set_option linter.unusedSectionVars false
theorem byte_cons {a : Int} {r : List Int} (h : byteL (a :: r)) : (0 ≤ a ∧ a < 256) ∧ byteL r := ⟨h a (by simp), fun y hy => h y (by simp [hy])⟩
/-- What a row of coefficients makes of blocks, added to what there is. -/
def combF : List Int → List Int → List (List Int) → List Int
  | acc, c :: r, b :: s => combF (xorB acc (scB c b)) r s
  | acc, _, _ => acc
def rowOf (S : Nat) (bl : List (List Int)) (r : List Int) : List Int := combF (List.replicate S 0) r bl
def unit (n : Nat) (v : Int) : List Int := (List.replicate n 0).set v.toNat 1
theorem unit_len (n : Nat) (v : Int) : (unit n v).length = n := by simp [unit]
theorem set_byte : ∀ (l : List Int) (j : Nat), byteL l → byteL (l.set j 1)
  | [], _, h => h
  | a :: r, 0, h => fun y hy => by
    rcases List.mem_cons.1 hy with rfl | hy
    · omega
    · exact h y (by simp [hy])
  | a :: r, j + 1, h => fun y hy => by
    rcases List.mem_cons.1 (show y ∈ a :: r.set j 1 from hy) with rfl | hy
    · exact h _ (by simp)
    · exact set_byte r j (byte_cons h).2 y hy
theorem unit_byte (n : Nat) (v : Int) : byteL (unit n v) := set_byte _ _ (rep_byte n)
/-- The blocks' values are what the matrix's rows make of the blocks. -/
structure Rel (S n : Nat) (bl : List (List Int)) (V M : List (List Int)) : Prop where
  len : V.length = M.length
  okV : OkB S V
  okM : OkB n M
  eq : ∀ i, i < V.length → rd_L9 V (i : Int) = rowOf S bl (rd_L9 M (i : Int))
section
variable {S n : Nat} {bl : List (List Int)} (hb : OkB S bl)
include hb
end
theorem runF_len (L : Nat) : ∀ (nodes : List (List S64)) (V : List (List Int)), (runF L V nodes).length = V.length + nodes.length
  | [], V => by simp [runF]
  | ts :: r, V => by rw [runF, runF_len L r]; simp; omega
theorem runF_ok (L : Nat) : ∀ (nodes : List (List S64)) (V : List (List Int)), OkB L V → (∀ i (h : i < nodes.length), termIn (V.length + i) nodes[i]) → OkB L (runF L V nodes)
  | [], V, h, _ => h
  | ts :: r, V, h, ht => by
    have h0 := ht 0 (by simp)
    have hV := rowF_ok h ts (List.replicate L 0) h0 (by simp) (rep_byte L)
    rw [runF]
    refine runF_ok L r _ (ok_snoc h hV.1 hV.2) (fun i hi => ?_)
    have := ht (i + 1) (by simpa using hi)
    rw [List.length_append, List.length_singleton, show V.length + 1 + i = V.length + (i + 1) from by omega]
    simpa using this
/-- The matrix's rows. -/
def matF (ins : List Int) (nodes : List (List S64)) (outs : List Int) (n : Nat) : List (List Int) := outF (runF n (ins.map (unit n)) nodes) outs
end Go.Proofs.Ytfnhnniecclleaa.Spec
