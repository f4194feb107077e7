/-
  AN ARRAY as an argument: opening it; two numbers.
-/
import Derived.Test.YtiibiamobkhlbaaG1
set_option linter.unusedVariables false
set_option linter.unusedSimpArgs false
namespace Go.Proofs.Ytiibiamobkhlbaa
open Go.RowKit Go.WideShapes Go.ChangeShapes Go.ChangeAt
set_option linter.unusedVariables false

theorem opn_array {P : Program} {t e : TypeId} {n : Nat} (h : P.underlying t = some (.array n e)) {α : Type} {E : El α}
    (hE : ∀ (H : Type) (enc : TypeId × Value → H) (w : World) (fuel : Nat) (cs : List Value), cs.length = P.cellsOf t →
      (∀ i : Nat, i < n → ∃ y, DataW.trod enc P w 0 (fun _ => true) true fuel e ((cs.drop (i * P.cellsOf e)).take (P.cellsOf e)) = some y) → ∃ x, E (look w) x cs) : Opn P t E := by
  intro H enc w fuel cs d ps hd
  cases fuel with
  | zero => simp [DataW.trod] at hd
  | succ fuel =>
    simp only [DataW.trod, h] at hd
    by_cases hlen : cs.length = P.cellsOf t
    · rw [if_pos hlen] at hd
      cases hm : ((List.range n).mapM fun i => DataW.trod enc P w 0 (fun _ => true) true fuel e ((cs.drop (i * P.cellsOf e)).take (P.cellsOf e))) with
      | none => simp [hm] at hd
      | some ys => exact hE H enc w fuel cs hlen fun i hi => let ⟨b, hb, _⟩ := mapM_get hm i i (by simp [hi]); ⟨b, hb⟩
    · rw [if_neg hlen] at hd; cases hd

def pairE : El (Int × Int) := fun _ p vs => vs = [.int .i64 p.1, .int .i64 p.2] ∧ (-9223372036854775808 ≤ p.1 ∧ p.1 ≤ 9223372036854775807) ∧ -9223372036854775808 ≤ p.2 ∧ p.2 ≤ 9223372036854775807
set_option maxRecDepth 100000 in
theorem opn_pair : Opn Try.prog 83 pairE :=
  opn_array Try.underlying83 fun H enc w fuel cs hlen hf => by
    have e : Try.prog.cellsOf 83 = 2 := by kernel_rfl
    have e0 : Try.prog.cellsOf 3 = 1 := by kernel_rfl
    obtain ⟨y0, h0⟩ := hf 0 (by omega)
    obtain ⟨y1, h1⟩ := hf 1 (by omega)
    obtain ⟨x0, g0, b0⟩ := opn_i64 Try.underlying3 H enc w fuel _ y0.1 y0.2 h0
    obtain ⟨x1, g1, b1⟩ := opn_i64 Try.underlying3 H enc w fuel _ y1.1 y1.2 h1
    rw [e] at hlen
    rw [e0] at g0 g1
    obtain ⟨c0, c1, rfl⟩ := len2 hlen
    obtain rfl : c0 = .int .i64 x0 := (List.cons.inj g0).1
    obtain rfl : c1 = .int .i64 x1 := (List.cons.inj g1).1
    exact ⟨(x0, x1), rfl, b0, b1⟩
end Go.Proofs.Ytiibiamobkhlbaa
