/-
  RAM's laws: what they share: New by size and bytes, Right, awake.
-/
import Derived.Test.YtippipfogbgemaaVq
namespace Go.Proofs.Ytippipfogbgemaa
open Go.RowKit
set_option linter.unusedVariables false

section
variable {R : Ending → World → Prop} {W0 w : World} {H : Hp} {A : List Hp}

theorem c_ramNew2 (s : Sat W0 w H A) (n : Int) (hr : n % 4096 = 0 ∧ 4096 ≤ n ∧ n ≤ 268435456)
    (k : ∀ w' b (r : RamG), r.size = n → (r.mem = fun _ => 0) → Sat W0 w' H (ramL ⟨b, 0, none⟩ (r, none) ++ A) → R (.returned (.tuple #[.pointer (some ⟨b, 0, none⟩), .int .i64 0])) w') : Calls Try.prog 37 #[.int .u64 n] w R :=
  c_ramNew s n hr fun w' b mb s' => k w' b _ rfl rfl s'

set_option maxRecDepth 100000 in
set_option maxHeartbeats 4000000 in
theorem c_ramAwake (s : Sat W0 w H A) (k : ∀ w', Sat W0 w' H A → R (.returned (.bool true)) w') :
    Calls Try.prog 15 #[] w R := by
  go_enter Try.func15, Try.ntmps15
  go_wp2_with fail
  refine c_ramNewBad _ (by omega) (by unfold rightP; omega) ?_
  go_wp2_with fail
  refine c_ramNew2 s _ (by omega) ?_
  intro w1 b r hz hm s1
  have hz2 : r.size = 4096 := hz
  clear hz hm
  go_wp2_with fail
  refine c_ramLoad s1 _ _ (by omega) (by omega) ?_ (fun h => absurd h.2 (by unfold RamG.has; omega))
  intro _
  go_wp2_with fail
  refine c_ramStore s1 _ _ _ (by omega) (by omega) (by omega) (fun h => absurd (show _ ∧ _ from ⟨by unfold sizedP; omega, by unfold RamG.has; omega⟩) h) ?_
  intro _ w2 r2 l2 hm2 hz3 hl2 s2
  have hz4 : r2.size = 4096 := by omega
  clear hm2 hl2
  have hh : r2.has 2147487744 0 := by unfold RamG.has; omega
  go_wp2_with fail
  refine c_ramHas s2 _ _ (by omega) (by omega) ?_
  rw [decide_eq_true hh]
  go_wp2
  exact s2.tail
end

end Go.Proofs.Ytippipfogbgemaa
