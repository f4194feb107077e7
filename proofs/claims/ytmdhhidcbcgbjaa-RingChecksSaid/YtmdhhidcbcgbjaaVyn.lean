/-
  RING: a memory without bytes (Memory of none); the code's Power and Check.
-/
import Derived.Test.YtmdhhidcbcgbjaaVy
import Derived.Test.YtmdhhidcbcgbjaaVh
import Derived.Test.YtmdhhidcbcgbjaaVr
namespace Go.Proofs.Ytmdhhidcbcgbjaa
open Go.RowKit
set_option linter.unusedVariables false

theorem pow_all : ∀ m : Nat, m < 257 → 1 ≤ m → (bits .and .i64 (m : Int) ((m : Int) - 1) == 0) = decide (powP (m : Int)) := by decide +kernel

theorem run_span0 (x0 x1 x2 x3 x4 x5 : Int) (W : World) : (Instr.index 82 (.agg #[.int .u64 x0, .int .u64 x1, .int .u64 x2, .int .u64 x3, .int .u64 x4, .int .u64 x5]) (.int .i64 0)).run Try.prog W = .ok (.agg #[.int .u64 x0, .int .u64 x1]) W := by kernel_rfl
theorem run_span1 (x0 x1 x2 x3 x4 x5 : Int) (W : World) : (Instr.index 82 (.agg #[.int .u64 x0, .int .u64 x1, .int .u64 x2, .int .u64 x3, .int .u64 x4, .int .u64 x5]) (.int .i64 1)).run Try.prog W = .ok (.agg #[.int .u64 x2, .int .u64 x3]) W := by kernel_rfl
theorem run_span2 (x0 x1 x2 x3 x4 x5 : Int) (W : World) : (Instr.index 82 (.agg #[.int .u64 x0, .int .u64 x1, .int .u64 x2, .int .u64 x3, .int .u64 x4, .int .u64 x5]) (.int .i64 2)).run Try.prog W = .ok (.agg #[.int .u64 x4, .int .u64 x5]) W := by kernel_rfl

section
variable {R : Ending → World → Prop} {W0 w : World} {H : Hp} {A F : List Hp} {b : Nat} {r : RamG} {size : Int}

set_option maxRecDepth 100000 in
set_option maxHeartbeats 4000000 in
theorem c_ringPower (n : Int) (hn : -9223372036854775808 ≤ n ∧ n ≤ 9223372036854775807) (k : R (.returned (.bool (decide (powP n)))) w) : Calls Try.prog 48 #[.int .i64 n] w R := by
  by_cases h1 : 0 < n
  · by_cases h2 : n ≤ 256
    · obtain ⟨m, rfl⟩ := Int.eq_ofNat_of_zero_le (show 0 ≤ n by omega)
      have e := pow_all m (by omega) (by omega)
      have ew : IntKind.i64.wrap ((m : Int) - 1) = (m : Int) - 1 := by simp [IntKind.wrap, IntKind.bits, IntKind.signed]; omega
      rw [← e] at k
      obtain ⟨y, hy⟩ : ∃ y, bits .and .i64 (m : Int) ((m : Int) - 1) = y := ⟨_, rfl⟩
      rw [hy] at k
      clear e
      go_enter Try.func48, Try.ntmps48
      go_wp2
      exact k
    · rw [decide_eq_false (fun h => h2 (powP_bd h).2)] at k
      have h3 : 256 < n := by omega
      clear h2
      go_enter Try.func48, Try.ntmps48
      go_wp2
      exact k
  · rw [decide_eq_false (fun h => h1 (by have := (powP_bd h).1; omega))] at k
    have h3 : n ≤ 0 := by omega
    clear h1
    go_enter Try.func48, Try.ntmps48
    go_wp2
    exact k

set_option maxRecDepth 100000 in
set_option maxHeartbeats 4000000 in
theorem c_MemoryNil (s : Sat W0 w H A)
    (k2 : ∀ w' v' b (r : RamG), r.size = 8192 → RefM H v' 8192 r.mem 13000 → Sat W0 w' H (ramL ⟨b, 0, none⟩ (r, none) ++ A) → R (.returned (.tuple #[.pointer (some ⟨b, 0, none⟩), v'])) w') :
    Calls Try.prog 45 #[.slice none 0 0] w R := by
  have s1 := (s.alloc (c := [.int .u64 0, .slice none 0 0]) (t := 72)).alloc (c := [.int .u64 8192, .slice none 0 0]) (t := 72)
  rw [World.size_alloc] at s1
  obtain ⟨Z, hZ⟩ : ∃ Z, w.heap.size = Z := ⟨_, rfl⟩
  rw [hZ] at s1
  clear s
  go_enter Try.func45, Try.ntmps45
  go_wp2_with fail
  refine c_ramNew2 s1 _ (by omega) ?_; intro w2 b r hz hm s2
  clear s1
  go_wp2
  go_loopg [7] 0 (fun q v7 w' => v7 = .int .i64 0 ∧ w' = w2)
  case atStart => exact ⟨rfl, rfl⟩
  case round =>
    obtain ⟨rfl, rfl⟩ := hrel
    have y0 := s2.cel (Z + 1) 0 0 rfl
    have y1 := s2.cel (Z + 1) 0 1 rfl
    have z0 := s2.cel Z 0 0 rfl
    have z1 := (Sat.s0 (Sat.pull (h := cellsH ⟨Z, 0, none⟩ [.int .u64 0, .slice none 0 0]) s2) (.int .u64 8192)).c 1 rfl
    have s7 := (Sat.s0 (Sat.pull (h := cellsH ⟨Z, 0, none⟩ [.int .u64 0, .slice none 0 0]) s2) (.int .u64 8192)).s 1 (by simp) (.slice none 0 0)
    simp only [List.set_cons_succ, List.set_cons_zero, Nat.zero_add] at s7 y0 y1 z0 z1
    have f0 := s7.c0
    have f1 := s7.c 1 rfl
    simp only [Nat.zero_add] at f0 f1
    go_wp2
    go_region_law (fail)
    all_goals
      try simp only [Act.put, List.getElem_toArray, List.getElem_cons_succ, List.getElem_cons_zero, List.setIfInBounds_toArray, List.set_cons_succ, List.set_cons_zero]
      go_wp2
      refine bodyPost_ret (by simp [results, Try.results45, go_sem, f0.1, f1.1]; try rfl) rfl ?_
      exact k2 _ _ b r hz ⟨_, [], rfl, Rd.nil, by rw [hm]; rfl, by simp⟩ s7.drew.wk

set_option maxRecDepth 100000 in
set_option maxHeartbeats 4000000 in
theorem c_ringCheck (s : Sat W0 w H A) [fr : FrK (κ := Addr) (ρ := fun _ => RamG × Option LogG) ramL ⟨b, 0, none⟩ A (r, none) F] (hsz : r.size = size) (n d a u : Int) (hn : -9223372036854775808 ≤ n ∧ n ≤ 9223372036854775807) (hd : 0 ≤ d ∧ d ≤ 18446744073709551615) (ha : 0 ≤ a ∧ a ≤ 18446744073709551615) (hu : 0 ≤ u ∧ u ≤ 18446744073709551615)
    (k : ∀ w', Sat W0 w' H (ramL ⟨b, 0, none⟩ (r, none) ++ F) → R (.returned (.int .i64 (chk size n d a u))) w') :
    Calls Try.prog 46 #[.pointer (some ⟨b, 0, none⟩), .agg #[.int .i64 n, .int .u64 d, .int .u64 a, .int .u64 u]] w R := by
  have s0 := s.front (mk := ramL) (k := ⟨b, 0, none⟩)
  have s1 := s0.alloc (c := [.int .i64 n, .int .u64 d, .int .u64 a, .int .u64 u]) (t := 75)
  obtain ⟨Z, hZ⟩ : ∃ Z, w.heap.size = Z := ⟨_, rfl⟩
  rw [hZ] at s1
  have y0 := s1.cel Z 0 0 rfl
  have y1 := s1.cel Z 0 1 rfl
  have y2 := s1.cel Z 0 2 rfl
  have y3 := s1.cel Z 0 3 rfl
  simp only [Nat.zero_add] at y0 y1 y2 y3
  clear s s0 fr
  by_cases hlay : layP n d a u
  · obtain ⟨hp, h16, h2, h4⟩ := id hlay
    have hb := powP_bd hp
    have k21 : ¬ liesP size n d a u → ∀ w', Sat W0 w' H (ramL ⟨b, 0, none⟩ (r, none) ++ F) → R (.returned (.int .i64 21)) w' := fun hl w' s' => by have := k w' s'; rwa [chk, if_pos hlay, if_neg hl] at this
    have k0 : liesP size n d a u → ∀ w', Sat W0 w' H (ramL ⟨b, 0, none⟩ (r, none) ++ F) → R (.returned (.int .i64 0)) w' := fun hl w' s' => by have := k w' s'; rwa [chk, if_pos hlay, if_pos hl] at this
    clear k
    go_enter Try.func46, Try.ntmps46
    go_wp2_with fail
    refine c_ringPower n hn ?_
    rw [decide_eq_true hp]
    go_wp2_with fail
    refine c_Aligned d 16 4 rfl (by omega) hd ?_
    rw [decide_eq_true h16]
    go_wp2_with fail
    refine c_Aligned a 2 1 rfl (by omega) ha ?_
    rw [decide_eq_true h2]
    go_wp2_with fail
    refine c_Aligned u 4 2 rfl (by omega) hu ?_
    rw [decide_eq_true h4]
    replace hp := aside hp
    replace hlay := aside hlay
    go_wp2_with fail
    refine c_Areas s1 n d a u (by omega) ?_
    intro w2 s2
    clear s1 y0 y1 y2 y3 h16 h2 h4
    go_wp2
    go_loopg [6, 31] 3 (fun q v6 v31 w' => ∃ i : Nat, q + i = 3 ∧ v31 = .int .i64 i ∧ Aside ((0 < i → hasP size d (16 * n)) ∧ (1 < i → hasP size a (2 * n + 6)) ∧ (2 < i → hasP size u (8 * n + 6))) ∧
      Sat W0 w' H (ramL ⟨b, 0, none⟩ (r, none) ++ F))
    case atStart => exact ⟨0, by simp, rfl, ⟨fun h => absurd h (by omega), fun h => absurd h (by omega), fun h => absurd h (by omega)⟩, s2.tail1.wk⟩
    clear s2
    case round =>
      obtain ⟨i, hq, rfl, hdone, s'⟩ := hrel
      have rs0 := fun W => run_span0 d (16 * n) a (2 * n + 6) u (8 * n + 6) W
      have rs1 := fun W => run_span1 d (16 * n) a (2 * n + 6) u (8 * n + 6) W
      have rs2 := fun W => run_span2 d (16 * n) a (2 * n + 6) u (8 * n + 6) W
      have h3 : i = 0 ∨ i = 1 ∨ i = 2 ∨ i = 3 := by omega
      rcases h3 with rfl | rfl | rfl | rfl
      · by_cases hh : hasP size d (16 * n)
        · have s2 := s'.alloc (c := [.int .u64 d, .int .u64 (16 * n)]) (t := 81)
          obtain ⟨P, hP⟩ : ∃ P, wr.heap.size = P := ⟨_, rfl⟩
          rw [hP] at s2
          have x0 := s2.cel P 0 0 rfl
          have x1 := s2.cel P 0 1 rfl
          simp only [Nat.zero_add] at x0 x1
          have hhr := aside ((has_iff r d (16 * n) (by omega)).2 (by rw [hsz]; exact hh))
          have hnext : Aside _ := aside (show (0 < 1 → hasP size d (16 * n)) ∧ (1 < 1 → hasP size a (2 * n + 6)) ∧ (2 < 1 → hasP size u (8 * n + 6)) from ⟨fun _ => hh, fun h => absurd h (by omega), fun h => absurd h (by omega)⟩)
          clear hdone k0 k21 hh s'
          go_wp2_with fail
          refine c_ramHas s2 d (16 * n) hd (by omega) ?_
          rw [decide_eq_true hhr.out]
          go_wp2
          go_roundg (gk - 1)
          case measure => omega
          case rel => exact ⟨1, by omega, by go_num, hnext, s2.tail1⟩
        · have s2 := s'.alloc (c := [.int .u64 d, .int .u64 (16 * n)]) (t := 81)
          obtain ⟨P, hP⟩ : ∃ P, wr.heap.size = P := ⟨_, rfl⟩
          rw [hP] at s2
          have x0 := s2.cel P 0 0 rfl
          have x1 := s2.cel P 0 1 rfl
          simp only [Nat.zero_add] at x0 x1
          have hhr := aside (fun q => hh (by rw [← hsz]; exact (has_iff r d (16 * n) (by omega)).1 q))
          have K := k21 (fun hl => hh hl.1)
          clear hdone k0 k21 hh s'
          go_wp2_with fail
          refine c_ramHas s2 d (16 * n) hd (by omega) ?_
          rw [decide_eq_false hhr.out]
          go_wp2
          exact s2.tail1
      · by_cases hh : hasP size a (2 * n + 6)
        · have s2 := s'.alloc (c := [.int .u64 a, .int .u64 (2 * n + 6)]) (t := 81)
          obtain ⟨P, hP⟩ : ∃ P, wr.heap.size = P := ⟨_, rfl⟩
          rw [hP] at s2
          have x0 := s2.cel P 0 0 rfl
          have x1 := s2.cel P 0 1 rfl
          simp only [Nat.zero_add] at x0 x1
          have hhr := aside ((has_iff r a (2 * n + 6) (by omega)).2 (by rw [hsz]; exact hh))
          have hnext : Aside _ := aside (show (0 < 2 → hasP size d (16 * n)) ∧ (1 < 2 → hasP size a (2 * n + 6)) ∧ (2 < 2 → hasP size u (8 * n + 6)) from ⟨fun _ => hdone.out.1 (by omega), fun _ => hh, fun h => absurd h (by omega)⟩)
          clear hdone k0 k21 hh s'
          go_wp2_with fail
          refine c_ramHas s2 a (2 * n + 6) ha (by omega) ?_
          rw [decide_eq_true hhr.out]
          go_wp2
          go_roundg (gk - 1)
          case measure => omega
          case rel => exact ⟨2, by omega, by go_num, hnext, s2.tail1⟩
        · have s2 := s'.alloc (c := [.int .u64 a, .int .u64 (2 * n + 6)]) (t := 81)
          obtain ⟨P, hP⟩ : ∃ P, wr.heap.size = P := ⟨_, rfl⟩
          rw [hP] at s2
          have x0 := s2.cel P 0 0 rfl
          have x1 := s2.cel P 0 1 rfl
          simp only [Nat.zero_add] at x0 x1
          have hhr := aside (fun q => hh (by rw [← hsz]; exact (has_iff r a (2 * n + 6) (by omega)).1 q))
          have K := k21 (fun hl => hh hl.2.1)
          clear hdone k0 k21 hh s'
          go_wp2_with fail
          refine c_ramHas s2 a (2 * n + 6) ha (by omega) ?_
          rw [decide_eq_false hhr.out]
          go_wp2
          exact s2.tail1
      · by_cases hh : hasP size u (8 * n + 6)
        · have s2 := s'.alloc (c := [.int .u64 u, .int .u64 (8 * n + 6)]) (t := 81)
          obtain ⟨P, hP⟩ : ∃ P, wr.heap.size = P := ⟨_, rfl⟩
          rw [hP] at s2
          have x0 := s2.cel P 0 0 rfl
          have x1 := s2.cel P 0 1 rfl
          simp only [Nat.zero_add] at x0 x1
          have hhr := aside ((has_iff r u (8 * n + 6) (by omega)).2 (by rw [hsz]; exact hh))
          have hnext : Aside _ := aside (show (0 < 3 → hasP size d (16 * n)) ∧ (1 < 3 → hasP size a (2 * n + 6)) ∧ (2 < 3 → hasP size u (8 * n + 6)) from ⟨fun _ => hdone.out.1 (by omega), fun _ => hdone.out.2.1 (by omega), fun _ => hh⟩)
          clear hdone k0 k21 hh s'
          go_wp2_with fail
          refine c_ramHas s2 u (8 * n + 6) hu (by omega) ?_
          rw [decide_eq_true hhr.out]
          go_wp2
          go_roundg (gk - 1)
          case measure => omega
          case rel => exact ⟨3, by omega, by go_num, hnext, s2.tail1⟩
        · have s2 := s'.alloc (c := [.int .u64 u, .int .u64 (8 * n + 6)]) (t := 81)
          obtain ⟨P, hP⟩ : ∃ P, wr.heap.size = P := ⟨_, rfl⟩
          rw [hP] at s2
          have x0 := s2.cel P 0 0 rfl
          have x1 := s2.cel P 0 1 rfl
          simp only [Nat.zero_add] at x0 x1
          have hhr := aside (fun q => hh (by rw [← hsz]; exact (has_iff r u (8 * n + 6) (by omega)).1 q))
          have K := k21 (fun hl => hh hl.2.2)
          clear hdone k0 k21 hh s'
          go_wp2_with fail
          refine c_ramHas s2 u (8 * n + 6) hu (by omega) ?_
          rw [decide_eq_false hhr.out]
          go_wp2
          exact s2.tail1
      · have K := k0 ⟨hdone.out.1 (by omega), hdone.out.2.1 (by omega), hdone.out.2.2 (by omega)⟩
        clear k0 k21
        go_wp2
        exact s'
  · have k150 : ∀ w', Sat W0 w' H (ramL ⟨b, 0, none⟩ (r, none) ++ F) → R (.returned (.int .i64 150)) w' := fun w' s' => by have := k w' s'; rwa [chk, if_neg hlay] at this
    clear k
    by_cases hp : powP n
    · by_cases h16 : d % 16 = 0
      · by_cases h2 : a % 2 = 0
        · have h4 : ¬ u % 4 = 0 := fun h => hlay ⟨hp, h16, h2, h⟩
          go_enter Try.func46, Try.ntmps46
          go_wp2_with fail
          refine c_ringPower n hn ?_
          rw [decide_eq_true hp]
          go_wp2_with fail
          refine c_Aligned d 16 4 rfl (by omega) hd ?_
          rw [decide_eq_true h16]
          go_wp2_with fail
          refine c_Aligned a 2 1 rfl (by omega) ha ?_
          rw [decide_eq_true h2]
          go_wp2_with fail
          refine c_Aligned u 4 2 rfl (by omega) hu ?_
          rw [decide_eq_false h4]
          go_wp2
          exact s1.tail1
        · go_enter Try.func46, Try.ntmps46
          go_wp2_with fail
          refine c_ringPower n hn ?_
          rw [decide_eq_true hp]
          go_wp2_with fail
          refine c_Aligned d 16 4 rfl (by omega) hd ?_
          rw [decide_eq_true h16]
          go_wp2_with fail
          refine c_Aligned a 2 1 rfl (by omega) ha ?_
          rw [decide_eq_false h2]
          go_wp2
          exact s1.tail1
      · go_enter Try.func46, Try.ntmps46
        go_wp2_with fail
        refine c_ringPower n hn ?_
        rw [decide_eq_true hp]
        go_wp2_with fail
        refine c_Aligned d 16 4 rfl (by omega) hd ?_
        rw [decide_eq_false h16]
        go_wp2
        exact s1.tail1
    · go_enter Try.func46, Try.ntmps46
      go_wp2_with fail
      refine c_ringPower n hn ?_
      rw [decide_eq_false hp]
      go_wp2
      exact s1.tail1
end
end Go.Proofs.Ytmdhhidcbcgbjaa
