/-
  RingReads returns true for every memory, layout and number; no condition.
-/
import Derived.Test.YtohccblfnjampaaVi
import Derived.Test.YtohccblfnjampaaVhl
namespace Go.Proofs.Ytohccblfnjampaa
open Go.RowKit
set_option linter.unusedVariables false

theorem i64_16 {y : Int} (h : 0 ≤ y ∧ y ≤ 65535) : IntKind.i64.wrap y = y := by simp [IntKind.wrap, IntKind.bits, IntKind.signed]; omega

set_option maxRecDepth 100000 in
set_option maxHeartbeats 4000000 in
theorem law_RingReads (W : World) {v0 v2 : Value} {cs1 : Array Value} {ps : List PutM} {l : LayM} {x : Int} (e0 : sliceE putE 2 (look W) ps [v0]) (e1 : layE (look W) l cs1.toList) (e2 : u16E (look W) x [v2]) :
    Calls Try.prog 5 #[v0, .agg cs1, v2] W fun e w' => e = .returned (.bool true) ∧ Below W.heap.size W w' := by
  obtain ⟨_, hv0, e0⟩ := e0
  obtain rfl := (List.cons.inj hv0).1
  clear hv0
  have e1q : cs1.toList = l.vals := e1
  obtain rfl : cs1 = l.vals.toArray := by apply Array.ext'; simpa using e1q
  clear e1 e1q
  obtain ⟨h2, a2, b2⟩ := e2
  obtain rfl : v2 = _ := List.cons.inj h2 |>.1
  clear h2
  obtain ⟨n, d, a, u, hn, hd, ha, hu⟩ := l
  simp only [LayM.vals]
  have s0 := (Sat.start W).alloc (c := [.int .i64 n, .int .u64 d, .int .u64 a, .int .u64 u]) (t := 58)
  obtain ⟨X, hX⟩ : ∃ X, W.heap.size = X := ⟨_, rfl⟩
  rw [hX] at s0
  go_enter Try.func5, Try.ntmps5
  go_wp2_with fail
  refine c_ringAwake s0 ?_; intro w1 s1
  go_wp2_with fail
  refine c_Memory s1 e0 ?_ ?_
  · intro w2 H2 v2 m2 le r2 s2
    obtain ⟨B, n, c, rfl⟩ := r2.shapeM
    have s3 := s2.alloc (c := [.int .u64 8192, .slice B n c]) (t := 62)
    go_wp2
    go_ret
    exact ⟨rfl, hX ▸ s3.below⟩
  · intro w2 H2 v2 b r le hz rm s2
    obtain ⟨B, n0, c, rfl⟩ := rm.shapeM
    have s3 := s2.alloc (c := [.int .u64 8192, .slice B n0 c]) (t := 62)
    obtain ⟨Y, hY⟩ : ∃ Y, w2.heap.size = Y := ⟨_, rfl⟩
    rw [hY] at s3
    have y0 := s3.cel Y 0 0 rfl
    have y1 := s3.cel Y 0 1 rfl
    have z0 := s3.cel X 0 0 rfl
    have z1 := s3.cel X 0 1 rfl
    have z2 := s3.cel X 0 2 rfl
    have z3 := s3.cel X 0 3 rfl
    simp only [Nat.zero_add] at y0 y1 z0 z1 z2 z3
    clear s1 s2 s0
    go_wp2_with fail
    refine c_refCheck s3 rm (by omega) n d a u hn hd ha hu ?_
    intro w4 s4
    by_cases hc : layP n d a u ∧ liesP 8192 n d a u
    · have hc0 : chk 8192 n d a u = 0 := by unfold chk; rw [if_pos hc.1, if_pos hc.2]
      rw [hc0]
      have hnb := powP_bd hc.1.1
      have hab : 0 ≤ a ∧ a ≤ 4294967295 := by have := hc.2.2.1; unfold hasP at this; omega
      have hmb := r.hmem
      have b1 := hw_bd hmb 8192 a
      have b2' := hw_bd hmb 8192 (a + 2)
      have b3 := hw_bd hmb 8192 (a + 4 + 2 * (x % n))
      have b4 := hw_bd hmb 8192 (a + 4 + 2 * n)
      obtain ⟨x1, hx1⟩ : ∃ y, hw 8192 r.mem a = y := ⟨_, rfl⟩
      obtain ⟨x2, hx2⟩ : ∃ y, hw 8192 r.mem (a + 2) = y := ⟨_, rfl⟩
      obtain ⟨x3, hx3⟩ : ∃ y, hw 8192 r.mem (a + 4 + 2 * (x % n)) = y := ⟨_, rfl⟩
      obtain ⟨x4, hx4⟩ : ∃ y, hw 8192 r.mem (a + 4 + 2 * n) = y := ⟨_, rfl⟩
      rw [hx1] at b1
      rw [hx2] at b2'
      rw [hx3] at b3
      rw [hx4] at b4
      have i1 := i64_16 b1
      have i2 := i64_16 b2'
      have i3 := i64_16 b3
      have i4 := i64_16 b4
      have ix := i64_16 ⟨a2, b2⟩
      replace hx1 := aside hx1
      replace hx2 := aside hx2
      replace hx3 := aside hx3
      replace hx4 := aside hx4
      replace hz := aside hz
      have y0 := s4.cel Y 0 0 rfl
      have y1 := s4.cel Y 0 1 rfl
      have z0 := s4.cel X 0 0 rfl
      have z1 := s4.cel X 0 1 rfl
      have z2 := s4.cel X 0 2 rfl
      have z3 := s4.cel X 0 3 rfl
      simp only [Nat.zero_add] at y0 y1 z0 z1 z2 z3
      clear s3 hc hc0
      go_wp2
      go_region_held3 (fun w' => w'.cell? ⟨X, 0, none⟩ = some (.int .i64 n) ∧ w'.cell? ⟨X, 1, none⟩ = some (.int .u64 d) ∧ w'.cell? ⟨X, 2, none⟩ = some (.int .u64 a) ∧ w'.cell? ⟨X, 3, none⟩ = some (.int .u64 u) ∧ w'.cell? ⟨Y, 0, none⟩ = some (.int .u64 8192) ∧ w'.cell? ⟨Y, 1, none⟩ = some (.slice B n0 c))
        (first
          | exact ⟨z0.1, z1.1, z2.1, z3.1, y0.1, y1.1⟩
          | exact ⟨(s12.cel X 0 0 rfl).1, (s12.cel X 0 1 rfl).1, (s12.cel X 0 2 rfl).1, (s12.cel X 0 3 rfl).1, (s12.cel Y 0 0 rfl).1, (s12.cel Y 0 1 rfl).1⟩
          | exact ⟨(s11.cel X 0 0 rfl).1, (s11.cel X 0 1 rfl).1, (s11.cel X 0 2 rfl).1, (s11.cel X 0 3 rfl).1, (s11.cel Y 0 0 rfl).1, (s11.cel Y 0 1 rfl).1⟩
          | exact ⟨(s10.cel X 0 0 rfl).1, (s10.cel X 0 1 rfl).1, (s10.cel X 0 2 rfl).1, (s10.cel X 0 3 rfl).1, (s10.cel Y 0 0 rfl).1, (s10.cel Y 0 1 rfl).1⟩
          | exact ⟨(s9.cel X 0 0 rfl).1, (s9.cel X 0 1 rfl).1, (s9.cel X 0 2 rfl).1, (s9.cel X 0 3 rfl).1, (s9.cel Y 0 0 rfl).1, (s9.cel Y 0 1 rfl).1⟩
          | exact ⟨(s8.cel X 0 0 rfl).1, (s8.cel X 0 1 rfl).1, (s8.cel X 0 2 rfl).1, (s8.cel X 0 3 rfl).1, (s8.cel Y 0 0 rfl).1, (s8.cel Y 0 1 rfl).1⟩
          | exact ⟨(s7.cel X 0 0 rfl).1, (s7.cel X 0 1 rfl).1, (s7.cel X 0 2 rfl).1, (s7.cel X 0 3 rfl).1, (s7.cel Y 0 0 rfl).1, (s7.cel Y 0 1 rfl).1⟩
          | exact ⟨(s6.cel X 0 0 rfl).1, (s6.cel X 0 1 rfl).1, (s6.cel X 0 2 rfl).1, (s6.cel X 0 3 rfl).1, (s6.cel Y 0 0 rfl).1, (s6.cel Y 0 1 rfl).1⟩
          | exact ⟨(s5.cel X 0 0 rfl).1, (s5.cel X 0 1 rfl).1, (s5.cel X 0 2 rfl).1, (s5.cel X 0 3 rfl).1, (s5.cel Y 0 0 rfl).1, (s5.cel Y 0 1 rfl).1⟩)
        (first
          | (go_at_call 30; refine c_Flags s4.drew n d a u ha ?_; intro w5 s5; rw [hz.out, hx1.out])
          | (go_at_call 31; refine c_refFlags s5 rm (by omega) (by omega) n d a u ha ?_; intro w6 s6; rw [hx1.out])
          | (go_at_call 32; refine c_Offered s6 n d a u hab ?_; intro w7 s7; rw [hz.out, hx2.out])
          | (go_at_call 33; refine c_refOffered s7 rm (by omega) (by omega) n d a u hab ?_; intro w8 s8; rw [hx2.out])
          | (go_at_call 34; refine c_Head s8 n d a u x hab hnb ⟨a2, b2⟩ ?_; intro w9 s9; rw [hz.out, hx3.out])
          | (go_at_call 35; refine c_refHead s9 rm (by omega) (by omega) n d a u x hab hnb ⟨a2, b2⟩ ?_; intro w10 s10; rw [hx3.out])
          | (go_at_call 36; refine c_Wanted s10 n d a u hab hnb ?_; intro w11 s11; rw [hz.out, hx4.out])
          | (go_at_call 37; refine c_refWanted s11 rm (by omega) (by omega) n d a u hab hnb ?_; intro w12 s12; rw [hx4.out]))
      all_goals
        go_wp2
        go_ret
        exact ⟨rfl, hX ▸ s12.below⟩
    · have hc0 : (chk 8192 n d a u != 0) = true := by
        unfold chk
        by_cases h1 : layP n d a u
        · rw [if_pos h1, if_neg (fun h => hc ⟨h1, h⟩)]; rfl
        · rw [if_neg h1]; rfl
      generalize chk 8192 n d a u = ch at hc0 ⊢
      clear hc
      go_wp2
      go_ret
      exact ⟨rfl, hX ▸ s4.below⟩
end Go.Proofs.Ytohccblfnjampaa
