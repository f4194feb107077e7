/-
  RamBeside's plain law: the word of a word's bytes; bytes beside those that were put.
-/
import Derived.Test.YtippipfogbgemaaVo
import Derived.Test.YtippipfogbgemaaVe
namespace Go.Proofs.Ytippipfogbgemaa
open Go.RowKit
set_option linter.unusedVariables false

theorem ofB_leb (n : Nat) : ∀ (k : Nat), ofB (leb (k : Int) n) = ((k % 256 ^ n : Nat) : Int) := by
  induction n with
  | zero => intro k; simp [leb, ofB, Nat.mod_one]
  | succ n ih =>
    intro k
    have e : ((k : Int) / 256) = ((k / 256 : Nat) : Int) := by simp
    rw [leb, ofB, e, ih, Nat.pow_succ, Nat.mul_comm (256 ^ n) 256, Nat.mod_mul]
    simp

/-- a byte beside -/
theorem putB_out (m : Int → Int) (a : Int) (bs : List Int) (x : Int) (h : x < a ∨ a + bs.length ≤ x) : putB m a bs x = m x := by
  unfold putB
  by_cases h1 : a ≤ x
  · rw [if_pos h1, List.getElem?_eq_none (by omega)]; rfl
  · rw [if_neg h1]
end Go.Proofs.Ytippipfogbgemaa
