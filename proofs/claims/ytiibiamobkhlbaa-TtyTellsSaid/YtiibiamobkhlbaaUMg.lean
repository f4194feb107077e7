/-
  TTY: the console as it begins; what it gives of itself.
-/
import Derived.Test.YtiibiamobkhlbaaUMe
import Derived.Test.YtiibiamobkhlbaaUVf
set_option linter.unusedVariables false
set_option linter.unusedSimpArgs false
namespace Go.Proofs.Ytiibiamobkhlbaa
open Go.RowKit
set_option linter.unusedVariables false
set_option linter.unusedSimpArgs false

def ttyV (rb fb mb : Nat) (ov : Value) (lost : Int) : List Value := [.pointer (some ⟨rb, 0, none⟩), .pointer (some ⟨fb, 0, none⟩), ov, .int .u64 lost, .pointer (some ⟨mb, 0, none⟩)]
set_option maxRecDepth 100000 in
theorem putN_tty : putN 805306368 32 1 1 ≤ 18446744073709551615 := by have := putN_lt 805306368 32 1 1; omega
def ttyR : RegM := RegM.new 3 (putN 805306368 32 1 1) 2 [] (by omega) putN_tty (fun x hx => by cases hx)

section
variable {R : Ending → World → Prop} {W0 w : World} {H : Hp} {A F : List Hp}

set_option maxRecDepth 100000 in
set_option maxHeartbeats 4000000 in
theorem c_ttyNew (s : Sat W0 w H A) (mb : Nat)
    (k : ∀ w' tb rb fb (p : RegP) (f : FifoG), p.g = ttyR → f.xs = [] → f.room = 4096 → f.lost = 0 → f.taken = 0 → Sat W0 w' H (cellsH ⟨tb, 0, none⟩ (ttyV rb fb mb (.slice none 0 0) 0) :: (regL rb p ++ (fifoL ⟨fb, 0, none⟩ f ++ A))) → R (.returned (.pointer (some ⟨tb, 0, none⟩))) w') :
    Calls Try.prog 50 #[.pointer (some ⟨mb, 0, none⟩)] w R := by
  replace k := aside k
  have hnil : Rd u8E 1 H (.slice none 0 0) ([] : List Int) := Rd.nil
  go_enter Try.func50, Try.ntmps50
  go_wp2_with fail
  refine c_fifoNew_ok s 4096 (by omega) (by omega) ?_
  intro w2 f fb hf1 hf2 hf3 hf4 s2
  clear s
  go_wp2_with fail
  refine c_vmmioNew2i (id := 3) (off := 805306368) s2 rfl rfl (by omega) (by omega) hnil s2.ro (by simp) (fun x hx => by cases hx) putN_tty ?_
  intro w3 rb p hp s3
  have s4 := s3.alloc (c := ttyV rb fb mb (.slice none 0 0) 0) (t := 132)
  clear s2
  replace hf1 := aside hf1
  replace hf2 := aside hf2
  replace hf3 := aside hf3
  replace hf4 := aside hf4
  replace hp := aside hp
  go_wp2
  exact k.out _ _ rb fb p f hp.out hf1.out (by have := hf2.out; omega) hf3.out hf4.out s4
end
end Go.Proofs.Ytiibiamobkhlbaa
