/-
  RAM's laws: what they share: New by size and bytes, Right, awake.
-/
import Derived.Test.YtmdhhidcbcgbjaaVq
namespace Go.Proofs.Ytmdhhidcbcgbjaa
open Go.RowKit
set_option linter.unusedVariables false

section
variable {R : Ending → World → Prop} {W0 w : World} {H : Hp} {A : List Hp}

theorem c_ramNew2 (s : Sat W0 w H A) (n : Int) (hr : n % 4096 = 0 ∧ 4096 ≤ n ∧ n ≤ 268435456)
    (k : ∀ w' b (r : RamG), r.size = n → (r.mem = fun _ => 0) → Sat W0 w' H (ramL ⟨b, 0, none⟩ (r, none) ++ A) → R (.returned (.tuple #[.pointer (some ⟨b, 0, none⟩), .int .i64 0])) w') : Calls Try.prog 40 #[.int .u64 n] w R :=
  c_ramNew s n hr fun w' b mb s' => k w' b _ rfl rfl s'

set_option maxRecDepth 100000 in
set_option maxHeartbeats 4000000 in
theorem c_refRight (n : Int) (h0 : 0 ≤ n) (k : R (.returned (.bool (decide (rightP n)))) w) : Calls Try.prog 41 #[.int .u64 n] w R := by
  by_cases h1 : n % 4096 = 0
  · by_cases h2 : 4096 ≤ n
    · go_enter Try.func41, Try.ntmps41
      go_wp2
      exact ret_b k (by rw [Bool.eq_iff_iff]; simp [rightP, h1, h2])
    · go_enter Try.func41, Try.ntmps41
      go_wp2
      exact ret_b k (by rw [Bool.eq_iff_iff]; simp [rightP, h1]; omega)
  · have e : (n % 4096 == 0) = false := by simp [h1]
    go_enter Try.func41, Try.ntmps41
    go_wp2
    exact ret_b k (by rw [Bool.eq_iff_iff]; simp [rightP, h1])

set_option maxRecDepth 100000 in
set_option maxHeartbeats 4000000 in
theorem c_ramAwake (s : Sat W0 w H A) (k : ∀ w', Sat W0 w' H A → R (.returned (.bool true)) w') :
    Calls Try.prog 39 #[] w R := by
  go_enter Try.func39, Try.ntmps39
  go_wp2_with fail
  refine c_ramNewBad _ (by omega) (by unfold rightP; omega) ?_
  go_wp2_with fail
  refine c_ramNew2 s _ (by omega) ?_
  intro w1 b r hz hm s1
  have hz2 : r.size = 4096 := hz
  clear hz hm
  go_wp2_with fail
  refine c_ramLoad s1 _ _ (by omega) (by omega) ?_ (fun h => absurd h.2 (by unfold RamG.has; omega))
  intro _
  go_wp2_with fail
  refine c_ramStore s1 _ _ _ (by omega) (by omega) (by omega) (fun h => absurd (show _ ∧ _ from ⟨by unfold sizedP; omega, by unfold RamG.has; omega⟩) h) ?_
  intro _ w2 r2 l2 hm2 hz3 hl2 s2
  have hz4 : r2.size = 4096 := by omega
  clear hm2 hl2
  have hh : r2.has 2147487744 0 := by unfold RamG.has; omega
  go_wp2_with fail
  refine c_ramHas s2 _ _ (by omega) (by omega) ?_
  rw [decide_eq_true hh]
  go_wp2
  exact s2.tail
end

set_option maxRecDepth 100000 in
set_option maxHeartbeats 4000000 in
theorem law_RamSizes (W : World) {v0 v1 v2 : Value} {x0 x1 x2 : Int} (e0 : u64E (look W) x0 [v0]) (e1 : u64E (look W) x1 [v1]) (e2 : u64E (look W) x2 [v2]) :
    Calls Try.prog 10 #[v0, v1, v2] W fun e w' => e = .returned (.bool true) ∧ Below W.heap.size W w' := by
  obtain ⟨h0, a0, b0⟩ := e0
  obtain rfl : v0 = _ := List.cons.inj h0 |>.1
  obtain ⟨h1, a1, b1⟩ := e1
  obtain rfl : v1 = _ := List.cons.inj h1 |>.1
  obtain ⟨h2, a2, b2⟩ := e2
  obtain rfl : v2 = _ := List.cons.inj h2 |>.1
  clear h0 h1 h2
  by_cases hr : rightP x0
  · have hr' : x0 % 4096 = 0 ∧ 4096 ≤ x0 ∧ x0 ≤ 268435456 := hr
    go_enter Try.func10, Try.ntmps10
    go_wp2_with fail
    refine c_ramAwake (Sat.start W) ?_; intro w1 s1
    go_wp2_with fail
    refine c_ramNew2 s1 _ hr' ?_; intro w2 b r hz hm s2
    go_wp2_with fail
    refine c_refRight _ (by omega) ?_; rw [decide_eq_true hr]
    clear hr hm
    have K := @s2
    have hz2 := aside hz
    clear hz
    go_wp2_with fail
    refine c_ramSize s2 ?_
    rw [hz2.out]
    go_wp2_with fail
    refine c_ramHas s2 _ _ (by omega) (by omega) ?_
    have hd : decide (r.has x1 x2) = decide (hasP x0 x1 x2) := by rw [decide_eq_decide, has_iff r _ _ (by omega), hz2.out]
    rw [hd]
    go_wp2_with fail
    refine c_refHas s2 (by omega) _ _ (by omega) (by omega) ?_
    intro w3 s3
    go_wp2
    go_ret
    exact ⟨by simp, s3.below⟩
  · go_enter Try.func10, Try.ntmps10
    go_wp2_with fail
    refine c_ramAwake (Sat.start W) ?_; intro w1 s1
    go_wp2_with fail
    refine c_ramNewBad _ (by omega) hr ?_
    go_wp2_with fail
    refine c_refRight _ (by omega) ?_; rw [decide_eq_false hr]
    go_wp2
    go_ret
    exact ⟨rfl, s1.below⟩
end Go.Proofs.Ytmdhhidcbcgbjaa
