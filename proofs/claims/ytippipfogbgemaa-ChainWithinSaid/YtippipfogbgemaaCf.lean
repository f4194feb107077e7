/-
  CHAIN: the page's example.
-/
import Derived.Test.YtippipfogbgemaaCe
import Derived.Test.YtippipfogbgemaaVs
namespace Go.Proofs.Ytippipfogbgemaa
open Go.RowKit
set_option linter.unusedVariables false
set_option linter.unusedSimpArgs false

theorem atD_0 : atD 2147483648 0 = 2147483648 := by decide
theorem there_0 : thereP 4096 0 2147483648 := by unfold thereP hasP; omega
theorem awake_walk1 : walkP (fun _ => 0) 4096 2147483648 2 0 false = (21, [], 0, 0) := by
  have e1 : w1 (fun _ => 0) 2147483648 = 0 := by decide
  have e2 : w2 (fun _ => 0) 2147483648 = 0 := by decide
  have e3 : w3 (fun _ => 0) 2147483648 = 0 := by decide
  refine walkP_err (a := 0) (segs := []) ?_ (by decide)
  exact alongP_has (n := 1) (by omega) (by rw [atD_0]; exact there_0) (by rw [atD_0, e3]; decide) (by rw [atD_0, e1, e2]; unfold hasP; omega)

def awM : Int → Int := putB (putB (fun _ => 0) 2147483660 [1, 0]) 2147483648 [0, 0, 0, 128, 0, 0, 0, 0]
theorem awake_walk2 : walkP awM 4096 2147483648 2 0 false = (152, [], 0, 0) := by
  have e1 : w1 awM 2147483648 = 2147483648 := by decide
  have e2 : w2 awM 2147483648 = 0 := by decide
  have e3 : w3 awM 2147483648 = 1 := by decide
  have e4 : w4 awM 2147483648 = 0 := by decide
  have step : ∀ n segs, lastW segs = false → alongP awM 4096 2147483648 2 (n + 1) 0 segs = alongP awM 4096 2147483648 2 n 0 (segs ++ [(2147483648, 0, false)]) := by
    intro n segs hl
    have := alongP_next (m := awM) (size := 4096) (t := 2147483648) (sz := 2) (i := 0) (n := n) (segs := segs) (by omega) (by rw [atD_0]; exact there_0) (by rw [atD_0, e3]; decide) (by rw [atD_0, e1, e2]; unfold hasP; omega) (by rw [hl]; simp) (by rw [atD_0, e3]; decide)
    rw [atD_0, e1, e2, e3, e4] at this
    exact this
  refine walkP_err (a := 0) (segs := [(2147483648, 0, false), (2147483648, 0, false)]) ?_ (by decide)
  show alongP awM 4096 2147483648 2 (1 + 1) 0 [] = _
  rw [step 1 [] rfl]
  show alongP awM 4096 2147483648 2 (0 + 1) 0 [(2147483648, 0, false)] = _
  rw [step 0 _ (by decide)]
  exact alongP_zero (by omega)

section
variable {R : Ending → World → Prop} {W0 w : World} {H : Hp} {A : List Hp}

set_option maxRecDepth 100000 in
set_option maxHeartbeats 4000000 in
theorem c_chainAwake (s : Sat W0 w H A) (k : ∀ w', Sat W0 w' H A → R (.returned (.bool true)) w') :
    Calls Try.prog 24 #[] w R := by
  replace k := aside k
  go_enter Try.func24, Try.ntmps24
  go_wp2_with fail
  refine c_ramNew2 s _ (by omega) ?_
  intro w1 b r hz hm s1
  have s2 := s1.alloc (c := [.int .i64 2, .int .u64 2147483648, .int .u64 2147483904, .int .u64 2147484160]) (t := 46)
  obtain ⟨Z, hZ⟩ : ∃ Z, w1.heap.size = Z := ⟨_, rfl⟩
  rw [hZ] at s2
  have z0 := s2.cel Z 0 0 rfl
  have z1 := s2.cel Z 0 1 rfl
  have z2 := s2.cel Z 0 2 rfl
  have z3 := s2.cel Z 0 3 rfl
  simp only [Nat.zero_add] at z0 z1 z2 z3
  replace hz := aside hz
  replace hm := aside hm
  clear s1
  go_wp2_with fail
  refine c_walk s2 2 2147483648 2147483904 2147484160 0 false (by omega) (by omega) (by omega) ?_
  intro e segs ta tl hW w3 v3 h3 l3 own3 hx3 s3
  rw [show r.mem = fun _ => 0 from hm.out, show r.size = 4096 from hz.out, awake_walk1] at hW
  obtain ⟨rfl, rfl, rfl, rfl⟩ : 21 = e ∧ [] = segs ∧ 0 = ta ∧ 0 = tl := by simpa using hW
  obtain rfl := hx3.none
  obtain ⟨A1, c1, _, rfl, _⟩ := own3
  have s4 := s3.alloc (c := [.slice A1 0 c1, .int .u64 0, .int .u64 0]) (t := 56)
  obtain ⟨Y, hY⟩ : ∃ Y, w3.heap.size = Y := ⟨_, rfl⟩
  simp only [List.length_nil] at s4 ⊢
  rw [hY] at s4
  clear s2 s3 z0 z1 z2 z3 hW hx3
  have hb1 := aside (show sizedP 2 ∧ r.has 2147483660 2 from ⟨by unfold sizedP; omega, by unfold RamG.has; rw [hz.out]; omega⟩)
  go_wp2_with fail
  refine c_ramStore s4 2147483660 2 1 (by omega) (by omega) (by omega) (fun h => absurd hb1.out h) ?_
  intro _ w5 r5 l5 hm5 hz5 hl5 s5
  have hm5' : r5.mem = putB (fun _ => 0) 2147483660 [1, 0] := by rw [hm5, show r.mem = fun _ => 0 from hm.out]; rfl
  have hz5' : r5.size = 4096 := hz5.trans hz.out
  have hl5' : l5 = none := by
    cases l5 with
    | none => rfl
    | some x => simp [lgs, addW] at hl5
  subst hl5'
  replace hm5' := aside hm5'
  replace hz5' := aside hz5'
  clear s4 hm5 hz5 hl5
  have hb2 := aside (show sizedP 8 ∧ r5.has 2147483648 8 from ⟨by unfold sizedP; omega, by unfold RamG.has; rw [hz5'.out]; omega⟩)
  go_wp2_with fail
  refine c_ramStore s5 2147483648 8 2147483648 (by omega) (by omega) (by omega) (fun h => absurd hb2.out h) ?_
  intro _ w6 r6 l6 hm6 hz6 hl6 s6
  have hm6' : r6.mem = awM := by rw [hm6, hm5'.out]; rfl
  have hz6' : r6.size = 4096 := hz6.trans hz5'.out
  have hl6' : l6 = none := by
    cases l6 with
    | none => rfl
    | some x => simp [lgs, addW] at hl6
  subst hl6'
  have z0 := s6.cel Z 0 0 rfl
  have z1 := s6.cel Z 0 1 rfl
  have z2 := s6.cel Z 0 2 rfl
  have z3 := s6.cel Z 0 3 rfl
  simp only [Nat.zero_add] at z0 z1 z2 z3
  replace hm6' := aside hm6'
  replace hz6' := aside hz6'
  clear s5 hm6 hz6 hl6
  go_wp2_with fail
  refine c_walk s6 2 2147483648 2147483904 2147484160 0 false (by omega) (by omega) (by omega) ?_
  intro e segs ta tl hW w7 v7 h7 l7 own7 hx7 s7
  rw [hm6'.out, hz6'.out, awake_walk2] at hW
  obtain ⟨rfl, rfl, rfl, rfl⟩ : 152 = e ∧ [] = segs ∧ 0 = ta ∧ 0 = tl := by simpa using hW
  obtain rfl := hx7.none
  obtain ⟨A7, c7, _, rfl, _⟩ := own7
  have s8 := s7.alloc (c := [.slice A7 0 c7, .int .u64 0, .int .u64 0]) (t := 56)
  obtain ⟨X, hX⟩ : ∃ X, w7.heap.size = X := ⟨_, rfl⟩
  simp only [List.length_nil] at s8 ⊢
  rw [hX] at s8
  have y0 := s8.cel Y 0 0 rfl
  have y1 := s8.cel Y 0 1 rfl
  have y2 := s8.cel Y 0 2 rfl
  simp only [Nat.zero_add] at y0 y1 y2
  clear s6 s7 z0 z1 z2 z3 hW hx7
  go_wp2
  exact k.out _ s8.wk
end
end Go.Proofs.Ytippipfogbgemaa
