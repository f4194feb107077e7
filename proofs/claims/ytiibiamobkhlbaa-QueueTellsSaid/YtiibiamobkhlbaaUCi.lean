/-
  CHAIN, the document's: along a table.
-/
import Derived.Test.YtiibiamobkhlbaaG8
import Derived.Test.YtiibiamobkhlbaaG3
import Derived.Deep.RegionHeld3
import Derived.Outline
set_option linter.unusedVariables false
set_option linter.unusedSimpArgs false
namespace Go.Proofs.Ytiibiamobkhlbaa
open Go.RowKit
set_option linter.unusedVariables false
set_option linter.unusedSimpArgs false

theorem oneCell_G (l : List SegM) : ∀ x ∈ encG l, x.oneCell' = true := by
  intro x hx
  unfold encG at hx
  rw [List.mem_flatMap] at hx
  obtain ⟨y, _, hy⟩ := hx
  simp at hy
  rcases hy with rfl | rfl | rfl <;> rfl

section
variable {W0 : World} {H : Hp} {v : Value} {size : Int} {m : Int → Int} {L : Nat}




end
end Go.Proofs.Ytiibiamobkhlbaa
