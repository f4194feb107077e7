/-
  RingChecks returns true for every layout; no condition.
-/
import Derived.Test.YtmdhhidcbcgbjaaVyn
import Derived.Test.YtmdhhidcbcgbjaaVhl
import Derived.BigQuiet
import Derived.Deep.RegionHeld3
namespace Go.Proofs.Ytmdhhidcbcgbjaa
open Go.RowKit
set_option linter.unusedVariables false

set_option maxRecDepth 100000 in
set_option maxHeartbeats 4000000 in
theorem law_RingChecks (W : World) {cs1 : Array Value} {l : LayM} (e1 : layE (look W) l cs1.toList) :
    Calls Try.prog 11 #[.agg cs1] W fun e w' => e = .returned (.bool true) ∧ Below W.heap.size W w' := by
  have e1q : cs1.toList = l.vals := e1
  obtain rfl : cs1 = l.vals.toArray := by apply Array.ext'; simpa using e1q
  clear e1 e1q
  obtain ⟨n, d, a, u, hn, hd, ha, hu⟩ := l
  simp only [LayM.vals]
  have s0 := (Sat.start W).alloc (c := [.int .i64 n, .int .u64 d, .int .u64 a, .int .u64 u]) (t := 75)
  obtain ⟨X, hX⟩ : ∃ X, W.heap.size = X := ⟨_, rfl⟩
  rw [hX] at s0
  go_enter Try.func11, Try.ntmps11
  go_wp2_with fail
  refine c_ringAwake s0 ?_; intro w1 s1
  go_wp2_with fail
  refine c_MemoryNil s1 ?_
  intro w2 v2 b r hz rm s2
  obtain ⟨B, n0, c, rfl⟩ := rm.shapeM
  have s3 := s2.alloc (c := [.int .u64 8192, .slice B n0 c]) (t := 72)
  obtain ⟨Y, hY⟩ : ∃ Y, w2.heap.size = Y := ⟨_, rfl⟩
  rw [hY] at s3
  have y0 := s3.cel Y 0 0 rfl
  have y1 := s3.cel Y 0 1 rfl
  have z0 := s3.cel X 0 0 rfl
  have z1 := s3.cel X 0 1 rfl
  have z2 := s3.cel X 0 2 rfl
  have z3 := s3.cel X 0 3 rfl
  simp only [Nat.zero_add] at y0 y1 z0 z1 z2 z3
  clear s1 s2 s0
  obtain ⟨ch, hch⟩ : ∃ y, chk 8192 n d a u = y := ⟨_, rfl⟩
  have ech : (ch != ch) = false := by simp
  obtain ⟨pw, hpw⟩ : ∃ y, decide (powP n) = y := ⟨_, rfl⟩
  have epw : (pw != pw) = false := by simp
  replace hch := aside hch
  replace hpw := aside hpw
  go_wp2
  go_region_held3 (fun w' => w'.cell? ⟨X, 0, none⟩ = some (.int .i64 n) ∧ w'.cell? ⟨X, 1, none⟩ = some (.int .u64 d) ∧ w'.cell? ⟨X, 2, none⟩ = some (.int .u64 a) ∧ w'.cell? ⟨X, 3, none⟩ = some (.int .u64 u) ∧ w'.cell? ⟨Y, 0, none⟩ = some (.int .u64 8192) ∧ w'.cell? ⟨Y, 1, none⟩ = some (.slice B n0 c))
    (first
      | exact ⟨z0.1, z1.1, z2.1, z3.1, y0.1, y1.1⟩
      | exact ⟨(s6.cel X 0 0 rfl).1, (s6.cel X 0 1 rfl).1, (s6.cel X 0 2 rfl).1, (s6.cel X 0 3 rfl).1, (s6.cel Y 0 0 rfl).1, (s6.cel Y 0 1 rfl).1⟩
      | exact ⟨(s5.cel X 0 0 rfl).1, (s5.cel X 0 1 rfl).1, (s5.cel X 0 2 rfl).1, (s5.cel X 0 3 rfl).1, (s5.cel Y 0 0 rfl).1, (s5.cel Y 0 1 rfl).1⟩)
    (first
      | (go_at_call 46; refine c_ringCheck s3.drew hz n d a u hn hd ha hu ?_; intro w5 s5; rw [hch.out])
      | (go_at_call 47; refine c_refCheck s5 rm (by omega) n d a u hn hd ha hu ?_; intro w6 s6; rw [hch.out])
      | (go_at_call 48; refine c_ringPower n hn ?_; rw [hpw.out])
      | (go_at_call 49; refine c_refPower n hn ?_; rw [hpw.out]))
  all_goals
    have z0 := s6.cel X 0 0 rfl
    have z1 := s6.cel X 0 1 rfl
    have z2 := s6.cel X 0 2 rfl
    have z3 := s6.cel X 0 3 rfl
    simp only [Nat.zero_add] at z0 z1 z2 z3
    clear s3 s5 y0 y1
    by_cases hbig : n < 0 ∨ 1048576 < n
    · by_cases hneg : n < 0
      · go_wp2
        go_ret
        exact ⟨rfl, hX ▸ s6.below⟩
      · have h1 : 1048576 < n := by omega
        have h2 : 0 ≤ n := by omega
        clear hbig hneg
        go_wp2
        go_ret
        exact ⟨rfl, hX ▸ s6.below⟩
    · have h1 : 0 ≤ n := by omega
      have h2 : n ≤ 1048576 := by omega
      clear hbig
      have s6a := s6.alloc (c := [.int .u64 0, .int .u64 0, .int .u64 0, .int .u64 0, .int .u64 0, .int .u64 0]) (t := 82)
      obtain ⟨P, hP⟩ : ∃ P, w6.heap.size = P := ⟨_, rfl⟩
      rw [hP] at s6a
      have hn2 : 0 ≤ n ∧ n ≤ 1048576 := ⟨h1, h2⟩
      have s6d := s6.drew
      have s6e := s6a.drew
      have f6 := And.intro (s6d.cel X 0 0 rfl).1 (And.intro (s6d.cel X 0 1 rfl).1 (And.intro (s6d.cel X 0 2 rfl).1 (s6d.cel X 0 3 rfl).1)); simp only [Nat.zero_add] at f6
      have s6f := s6d.alloc (c := [.int .u64 0, .int .u64 0, .int .u64 0, .int .u64 0, .int .u64 0, .int .u64 0]) (t := 82)
      have f6e := And.intro (s6e.cel X 0 0 rfl).1 (And.intro (s6e.cel X 0 1 rfl).1 (And.intro (s6e.cel X 0 2 rfl).1 (s6e.cel X 0 3 rfl).1)); simp only [Nat.zero_add] at f6e
      have f6f := And.intro (s6f.cel X 0 0 rfl).1 (And.intro (s6f.cel X 0 1 rfl).1 (And.intro (s6f.cel X 0 2 rfl).1 (s6f.cel X 0 3 rfl).1)); simp only [Nat.zero_add] at f6f
      have f6a := And.intro (s6a.cel X 0 0 rfl).1 (And.intro (s6a.cel X 0 1 rfl).1 (And.intro (s6a.cel X 0 2 rfl).1 (s6a.cel X 0 3 rfl).1)); simp only [Nat.zero_add] at f6a
      go_wp2
      go_region_held3 (fun w' => w'.cell? ⟨X, 0, none⟩ = some (.int .i64 n) ∧ w'.cell? ⟨X, 1, none⟩ = some (.int .u64 d) ∧ w'.cell? ⟨X, 2, none⟩ = some (.int .u64 a) ∧ w'.cell? ⟨X, 3, none⟩ = some (.int .u64 u))
        (first
          | with_reducible exact f6
          | with_reducible exact f10
          | with_reducible exact f9a
          | with_reducible exact f9
          | with_reducible exact f8a
          | with_reducible exact f8
          | with_reducible exact f6a
          | with_reducible exact f6e
          | with_reducible exact f6f
          | exact f6a)
        (first
          | (go_at_call 51; have hs := s8a; with_reducible (refine c_refAreas s8a n d a u hn2 ?_); intro w9 g s9; obtain ⟨Q, hQ⟩ : ∃ Q, w8.heap.size = Q := ⟨_, rfl⟩; rw [hQ] at s9
             have q0 := s9.cel Q 0 0 rfl
             have t1 := (Sat.pull (h := cellsH ⟨Q, 0, none⟩ [.int .u64 0, .int .u64 0, .int .u64 0, .int .u64 0, .int .u64 0, .int .u64 0]) s9).s0 (.int .u64 d)
             have q1 := t1.c 1 rfl
             have t2 := t1.s 1 (by simp) (.int .u64 (16 * n))
             have q2 := t2.c 2 rfl
             have t3 := t2.s 2 (by simp) (.int .u64 (a))
             have q3 := t3.c 3 rfl
             have t4 := t3.s 3 (by simp) (.int .u64 (2 * n + 6))
             have q4 := t4.c 4 rfl
             have t5 := t4.s 4 (by simp) (.int .u64 (u))
             have q5 := t5.c 5 rfl
             have s10 := t5.s 5 (by simp) (.int .u64 (8 * n + 6))
             simp only [List.set_cons_succ, List.set_cons_zero, Nat.zero_add] at s10 q0 q1 q2 q3 q4 q5
             have f9 := And.intro (s9.cel X 0 0 rfl).1 (And.intro (s9.cel X 0 1 rfl).1 (And.intro (s9.cel X 0 2 rfl).1 (s9.cel X 0 3 rfl).1)); simp only [Nat.zero_add] at f9
             have f10 := And.intro (s10.cel X 0 0 rfl).1 (And.intro (s10.cel X 0 1 rfl).1 (And.intro (s10.cel X 0 2 rfl).1 (s10.cel X 0 3 rfl).1)); simp only [Nat.zero_add] at f10)
          | (go_at_call 51; have hs := s8; with_reducible (refine c_refAreas s8 n d a u hn2 ?_); intro w9 g s9
             have q0 := s9.cel P 0 0 rfl
             have q0 := s9.cel P 0 0 rfl
             have t1 := (Sat.pull (h := cellsH ⟨P, 0, none⟩ [.int .u64 0, .int .u64 0, .int .u64 0, .int .u64 0, .int .u64 0, .int .u64 0]) s9).s0 (.int .u64 d)
             have q1 := t1.c 1 rfl
             have t2 := t1.s 1 (by simp) (.int .u64 (16 * n))
             have q2 := t2.c 2 rfl
             have t3 := t2.s 2 (by simp) (.int .u64 (a))
             have q3 := t3.c 3 rfl
             have t4 := t3.s 3 (by simp) (.int .u64 (2 * n + 6))
             have q4 := t4.c 4 rfl
             have t5 := t4.s 4 (by simp) (.int .u64 (u))
             have q5 := t5.c 5 rfl
             have s10 := t5.s 5 (by simp) (.int .u64 (8 * n + 6))
             simp only [List.set_cons_succ, List.set_cons_zero, Nat.zero_add] at s10 q0 q1 q2 q3 q4 q5
             have f9 := And.intro (s9.cel X 0 0 rfl).1 (And.intro (s9.cel X 0 1 rfl).1 (And.intro (s9.cel X 0 2 rfl).1 (s9.cel X 0 3 rfl).1)); simp only [Nat.zero_add] at f9
             have f10 := And.intro (s10.cel X 0 0 rfl).1 (And.intro (s10.cel X 0 1 rfl).1 (And.intro (s10.cel X 0 2 rfl).1 (s10.cel X 0 3 rfl).1)); simp only [Nat.zero_add] at f10)
          | (go_at_call 51; have hs := s8; with_reducible (refine c_refAreas s8 n d a u hn2 ?_); intro w9 g s9
             have s9a := s9.alloc (c := [.int .u64 0, .int .u64 0, .int .u64 0, .int .u64 0, .int .u64 0, .int .u64 0]) (t := 82)
             have s10 := s9.alloc (c := [.int .u64 d, .int .u64 (16 * n), .int .u64 a, .int .u64 (2 * n + 6), .int .u64 u, .int .u64 (8 * n + 6)]) (t := 82)
             have f9 := And.intro (s9.cel X 0 0 rfl).1 (And.intro (s9.cel X 0 1 rfl).1 (And.intro (s9.cel X 0 2 rfl).1 (s9.cel X 0 3 rfl).1)); simp only [Nat.zero_add] at f9
             have f9a := And.intro (s9a.cel X 0 0 rfl).1 (And.intro (s9a.cel X 0 1 rfl).1 (And.intro (s9a.cel X 0 2 rfl).1 (s9a.cel X 0 3 rfl).1)); simp only [Nat.zero_add] at f9a
             have f10 := And.intro (s10.cel X 0 0 rfl).1 (And.intro (s10.cel X 0 1 rfl).1 (And.intro (s10.cel X 0 2 rfl).1 (s10.cel X 0 3 rfl).1)); simp only [Nat.zero_add] at f10)
          | (go_at_call 50; with_reducible (refine c_Areas s6.drew n d a u hn2 ?_); intro w8 s8; have f8 := And.intro (s8.cel X 0 0 rfl).1 (And.intro (s8.cel X 0 1 rfl).1 (And.intro (s8.cel X 0 2 rfl).1 (s8.cel X 0 3 rfl).1)); simp only [Nat.zero_add] at f8; have s8a := s8.alloc (c := [.int .u64 0, .int .u64 0, .int .u64 0, .int .u64 0, .int .u64 0, .int .u64 0]) (t := 82); have f8a := And.intro (s8a.cel X 0 0 rfl).1 (And.intro (s8a.cel X 0 1 rfl).1 (And.intro (s8a.cel X 0 2 rfl).1 (s8a.cel X 0 3 rfl).1)); simp only [Nat.zero_add] at f8a)
          | (go_at_call 50; with_reducible (refine c_Areas s6a.drew n d a u hn2 ?_); intro w8 s8; have f8 := And.intro (s8.cel X 0 0 rfl).1 (And.intro (s8.cel X 0 1 rfl).1 (And.intro (s8.cel X 0 2 rfl).1 (s8.cel X 0 3 rfl).1)); simp only [Nat.zero_add] at f8))
      · obtain ⟨Q, hQ⟩ : ∃ Q, w9.heap.size = Q := ⟨_, rfl⟩
        rw [hQ] at s10
        simp only [hQ]
        simp only [areaVs] at s10
        generalize hW : World.alloc w9 _ = w10 at s10 ⊢
        clear hW
        have q0 := s10.cel Q 0 0 rfl
        have q1 := s10.cel Q 0 1 rfl
        have q2 := s10.cel Q 0 2 rfl
        have q3 := s10.cel Q 0 3 rfl
        have q4 := s10.cel Q 0 4 rfl
        have q5 := s10.cel Q 0 5 rfl
        have p0 := s10.cel g 0 0 rfl
        have p1 := s10.cel g 0 1 rfl
        have p2 := s10.cel g 0 2 rfl
        have p3 := s10.cel g 0 3 rfl
        have p4 := s10.cel g 0 4 rfl
        have p5 := s10.cel g 0 5 rfl
        simp only [Nat.zero_add] at q0 q1 q2 q3 q4 q5 p0 p1 p2 p3 p4 p5
        go_wp2
        go_quiet (fail)
        go_wp2
        go_ret
        exact ⟨rfl, hX ▸ (s10.drewN _).below⟩
      · simp only [areaVs] at s10
        generalize hW : World.setCell (World.setCell (World.setCell (World.setCell (World.setCell (World.setCell w9 _ _) _ _) _ _) _ _) _ _) _ _ = w10 at s10 ⊢
        clear hW
        have q0 := s10.cel Q 0 0 rfl
        have q1 := s10.cel Q 0 1 rfl
        have q2 := s10.cel Q 0 2 rfl
        have q3 := s10.cel Q 0 3 rfl
        have q4 := s10.cel Q 0 4 rfl
        have q5 := s10.cel Q 0 5 rfl
        have p0 := s10.cel g 0 0 rfl
        have p1 := s10.cel g 0 1 rfl
        have p2 := s10.cel g 0 2 rfl
        have p3 := s10.cel g 0 3 rfl
        have p4 := s10.cel g 0 4 rfl
        have p5 := s10.cel g 0 5 rfl
        simp only [Nat.zero_add] at q0 q1 q2 q3 q4 q5 p0 p1 p2 p3 p4 p5
        go_wp2
        go_quiet (fail)
        go_wp2
        go_ret
        exact ⟨rfl, hX ▸ (s10.drewN _).below⟩
      · simp only [areaVs] at s10
        generalize hW : World.setCell (World.setCell (World.setCell (World.setCell (World.setCell (World.setCell w9 _ _) _ _) _ _) _ _) _ _) _ _ = w10 at s10 ⊢
        clear hW
        have q0 := s10.cel P 0 0 rfl
        have q1 := s10.cel P 0 1 rfl
        have q2 := s10.cel P 0 2 rfl
        have q3 := s10.cel P 0 3 rfl
        have q4 := s10.cel P 0 4 rfl
        have q5 := s10.cel P 0 5 rfl
        have p0 := s10.cel g 0 0 rfl
        have p1 := s10.cel g 0 1 rfl
        have p2 := s10.cel g 0 2 rfl
        have p3 := s10.cel g 0 3 rfl
        have p4 := s10.cel g 0 4 rfl
        have p5 := s10.cel g 0 5 rfl
        simp only [Nat.zero_add] at q0 q1 q2 q3 q4 q5 p0 p1 p2 p3 p4 p5
        go_wp2
        go_quiet (fail)
        go_wp2
        go_ret
        exact ⟨rfl, hX ▸ (s10.drewN _).below⟩
end Go.Proofs.Ytmdhhidcbcgbjaa
