/-
  BLK: the log, handed out.
-/
import Derived.Test.YtiibiamobkhlbaaG5
set_option linter.unusedVariables false
set_option linter.unusedSimpArgs false
namespace Go.Proofs.Ytiibiamobkhlbaa
open Go.RowKit
set_option linter.unusedVariables false
set_option linter.unusedSimpArgs false

section
variable {R : Ending → World → Prop} {W0 w : World} {H : Hp} {A F : List Hp}
set_option maxRecDepth 100000 in
set_option maxHeartbeats 4000000 in
theorem c_blkLog (bb rb db mb : Nat) {nm : List Value} {L : Option Addr} {n c : Nat} (hnm : nm.length = 20) (s : Sat W0 w H (cellsH ⟨bb, 0, none⟩ (blkV rb db mb nm (.slice L n c)) :: F))
    (k : ∀ w', Sat W0 w' H (cellsH ⟨bb, 0, none⟩ (blkV rb db mb nm (.slice none 0 0)) :: F) → R (.returned (.slice L n c)) w') :
    Calls Try.prog 26 #[.pointer (some ⟨bb, 0, none⟩)] w R := by
  have c0 := s.c 23 (blkV_c23 hnm)
  have s2 := s.s 23 (by rw [blkV_len hnm]; omega) (.slice none 0 0)
  rw [blkV_set23 hnm] at s2
  simp only [Nat.zero_add] at c0 s2
  replace k := aside k
  clear s
  go_enter Try.func26, Try.ntmps26
  go_wp2
  exact k.out _ s2
end
end Go.Proofs.Ytiibiamobkhlbaa
