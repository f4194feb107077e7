/-
  RamPlays returns true for every script; no condition.
-/
import Derived.Test.YtmdhhidcbcgbjaaVx
namespace Go.Proofs.Ytmdhhidcbcgbjaa
open Go.RowKit
set_option linter.unusedVariables false

set_option maxRecDepth 100000 in
set_option maxHeartbeats 4000000 in
theorem law_RamPlays (W : World) {v0 : Value} {os : List OpM} (e0 : sliceE opE 5 (look W) os [v0]) :
    Calls Try.prog 12 #[v0] W fun e w' => e = .returned (.bool true) ∧ Below W.heap.size W w' := by
  obtain ⟨_, hv0, e0⟩ := e0
  obtain rfl := (List.cons.inj hv0).1
  clear hv0
  go_enter Try.func12, Try.ntmps12
  go_wp2_with fail
  refine c_ramAwake (Sat.start W) ?_; intro w1 s1
  go_wp2_with fail
  refine c_played s1 e0 ?_ ?_
  · intro w2 H2 v2 m2 le r2 s2
    obtain ⟨B, n, c, rfl⟩ := r2.shape
    have s3 := s2.alloc (c := [.int .u64 8192, .slice B n c]) (t := 72)
    go_wp2
    go_ret
    exact ⟨rfl, s3.below⟩
  · intro w2 H2 v2 b r le hz r2 s2
    obtain ⟨B, n, c, rfl⟩ := r2.shape
    have s3 := s2.alloc (c := [.int .u64 8192, .slice B n c]) (t := 72)
    go_wp2
    go_ret
    exact ⟨rfl, s3.below⟩
end Go.Proofs.Ytmdhhidcbcgbjaa
