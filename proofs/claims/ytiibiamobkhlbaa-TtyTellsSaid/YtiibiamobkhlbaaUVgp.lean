/-
  The document's row of bytes (vireoref14): Put.
-/
import Derived.Test.YtiibiamobkhlbaaUVg
set_option linter.unusedVariables false
set_option linter.unusedSimpArgs false
namespace Go.Proofs.Ytiibiamobkhlbaa
open Go.RowKit
set_option linter.unusedVariables false

section
variable {R : Ending → World → Prop} {W0 w : World} {H : Hp} {A F : List Hp} {v : Value} {xs : List Int} {room : Nat} {lost taken : Int}

end
end Go.Proofs.Ytiibiamobkhlbaa
