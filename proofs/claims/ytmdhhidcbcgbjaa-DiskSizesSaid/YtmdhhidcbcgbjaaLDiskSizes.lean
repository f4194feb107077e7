/-
  DiskSizes returns true for every count, locked or not; no condition.
-/
import Derived.Test.YtmdhhidcbcgbjaaVda
import Derived.Test.YtmdhhidcbcgbjaaVc
namespace Go.Proofs.Ytmdhhidcbcgbjaa
open Go.RowKit
set_option linter.unusedVariables false

set_option maxRecDepth 100000 in
set_option maxHeartbeats 4000000 in
theorem law_DiskSizes (W : World) {v0 v1 : Value} {n : Int} {l : Bool} (e0 : u64E (look W) n [v0]) (e1 : boolE (look W) l [v1]) :
    Calls Try.prog 9 #[v0, v1] W fun e w' => e = .returned (.bool true) ∧ Below W.heap.size W w' := by
  obtain ⟨h0, a0, b0⟩ := e0
  obtain rfl : v0 = _ := List.cons.inj h0 |>.1
  clear h0
  obtain rfl : v1 = _ := List.cons.inj e1 |>.1
  clear e1
  by_cases hbad : n < 1 ∨ 65536 < n
  · by_cases h1 : n < 1
    all_goals
      have h2 : n < 1 ∨ (1 ≤ n ∧ 65536 < n) := by omega
      go_enter Try.func9, Try.ntmps9
      go_wp2_with fail
      refine c_diskAwake (Sat.start W) ?_; intro w1 s1
      go_wp2_with fail
      refine c_diskNewBad n l ⟨a0, b0⟩ hbad ?_
      go_wp2
      all_goals try (exfalso; omega)
      all_goals
        go_ret
        exact ⟨rfl, s1.below⟩
  · have h1 : 1 ≤ n := by omega
    have h2 : n ≤ 65536 := by omega
    clear hbad
    have eqq : (l == l) = true := by simp
    go_enter Try.func9, Try.ntmps9
    go_wp2_with fail
    refine c_diskAwake (Sat.start W) ?_; intro w1 s1
    go_wp2_with fail
    refine c_diskNew s1 n l ⟨h1, h2⟩ ?_
    intro w2 b mb s2
    go_wp2_with fail
    refine c_diskCount s2 ?_
    rw [show (DiskG.new n l mb ⟨h1, h2⟩).count = n from rfl]
    go_wp2_with fail
    refine c_diskLocked s2 ?_
    rw [show (DiskG.new n l mb ⟨h1, h2⟩).locked = l from rfl]
    go_wp2_with fail
    refine c_diskRequests s2 ?_
    rw [show (DiskG.new n l mb ⟨h1, h2⟩).reqs = 0 from rfl]
    go_wp2
    go_ret
    exact ⟨rfl, s2.below⟩
end Go.Proofs.Ytmdhhidcbcgbjaa
