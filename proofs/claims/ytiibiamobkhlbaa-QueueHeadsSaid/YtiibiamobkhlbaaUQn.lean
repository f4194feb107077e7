/-
  QUEUE: whether the areas of a queue lie apart.
-/
import Derived.Test.YtiibiamobkhlbaaG6
set_option linter.unusedVariables false
set_option linter.unusedSimpArgs false
namespace Go.Proofs.Ytiibiamobkhlbaa
open Go.RowKit
set_option linter.unusedVariables false
set_option linter.unusedSimpArgs false

/-- two pieces have a byte in common, as the code asks it -/
def ovS (x y : Int × Int) : Bool := decide (IntKind.u64.wrap (x.1 - y.1) < y.2) || decide (IntKind.u64.wrap (y.1 - x.1) < x.2)
def spL (n d a u : Int) : Nat → Int × Int
  | 0 => (d, 16 * n)
  | 1 => (a, 2 * n + 6)
  | _ => (u, 8 * n + 6)
def apP (n d a u : Int) : Prop := ∀ i, i < 3 → ∀ k, k < i → ovS (spL n d a u i) (spL n d a u k) = false
instance (n d a u : Int) : Decidable (apP n d a u) := by unfold apP; infer_instance
theorem spL_at {n d a u : Int} {i : Nat} (h : i < 3) : (areaVs n d a u)[i * 2]? = some (.int .u64 (spL n d a u i).1) ∧ (areaVs n d a u)[i * 2 + 1]? = some (.int .u64 (spL n d a u i).2) := by
  rcases (show i = 0 ∨ i = 1 ∨ i = 2 by omega) with rfl | rfl | rfl <;> exact ⟨rfl, rfl⟩
theorem ovS_apart {x y : Int × Int} (h : ovS x y = false) (hx : 0 ≤ x.1 ∧ x.1 ≤ 18446744073709551615) (hy : 0 ≤ y.1 ∧ y.1 ≤ 18446744073709551615) (z : Int) (h1 : x.1 ≤ z ∧ z < x.1 + x.2) (h2 : y.1 ≤ z ∧ z < y.1 + y.2) : False := by
  unfold ovS at h
  rw [Bool.or_eq_false_iff] at h
  have a := of_decide_eq_false h.1
  have b := of_decide_eq_false h.2
  rw [wrap_u64] at a b
  omega

section
variable {R : Ending → World → Prop} {W0 w : World} {H : Hp} {A F : List Hp}
set_option maxRecDepth 100000 in
set_option maxHeartbeats 4000000 in
theorem c_lawApart (s : Sat W0 w H A) (n d a u : Int) (h : 0 ≤ n ∧ n ≤ 1048576)
    (k : ∀ w', Sat W0 w' H A → R (.returned (.bool (decide (apP n d a u)))) w') :
    Calls Try.prog 14 #[.agg #[.int .i64 n, .int .u64 d, .int .u64 a, .int .u64 u]] w R := by
  have s1 := s.alloc (c := [.int .i64 n, .int .u64 d, .int .u64 a, .int .u64 u]) (t := 25)
  obtain ⟨Z, hZ⟩ : ∃ Z, w.heap.size = Z := ⟨_, rfl⟩
  rw [hZ] at s1
  replace k := aside k
  clear s
  go_enter Try.func14, Try.ntmps14
  go_wp2_with fail
  refine c_refAreas s1 n d a u h ?_
  intro w2 g s2
  have s3 : Sat W0 w2 H (cellsH ⟨g, 0, none⟩ (areaVs n d a u) :: A) := s2.wk
  clear s1 s2
  go_wp2
  go_loopg [4] 3 (fun p v4 w' => ∃ (i : Nat), p + i = 3 ∧ v4 = .int .i64 i ∧ Aside (∀ i', i' < i → ∀ k', k' < i' → ovS (spL n d a u i') (spL n d a u k') = false) ∧ Sat W0 w' H (cellsH ⟨g, 0, none⟩ (areaVs n d a u) :: A))
  case atStart => exact ⟨0, rfl, rfl, aside (fun _ h => by omega), s3⟩
  clear s3
  case round =>
    obtain ⟨i, hp, rfl, hpre, s'⟩ := hrel
    by_cases hi : i < 3
    · have hi3 : (i : Int) < 3 := by omega
      obtain ⟨ko, rfl⟩ : ∃ ko : Nat, ko = gk := ⟨_, rfl⟩
      have hp2 := aside (show ko - 1 + (i + 1) = 3 ∧ ko - 1 < ko by omega)
      clear hp
      go_wp2
      go_loopg [5] i (fun q v5 w' => ∃ (k : Nat), q + k = i ∧ v5 = .int .i64 k ∧ Aside (∀ k', k' < k → ovS (spL n d a u i) (spL n d a u k') = false) ∧ Sat W0 w' H (cellsH ⟨g, 0, none⟩ (areaVs n d a u) :: A))
      case atStart => exact ⟨0, by omega, rfl, aside (fun _ h => by omega), s'⟩
      clear s'
      case round =>
        obtain ⟨j, hq, rfl, hin, s'⟩ := hrel
        by_cases hj : j < i
        · have hji : (j : Int) < i := by omega
          have hj3 : (j : Int) < 3 := by omega
          have i0 : (0 : Int) ≤ i ∧ (i : Int) < 3 := by omega
          have j0 : (0 : Int) ≤ j ∧ (j : Int) < 3 := by omega
          have y0 := s'.c (i * 2) (spL_at hi).1
          have y1 := s'.c (i * 2 + 1) (spL_at hi).2
          have z0 := s'.c (j * 2) (spL_at (by omega)).1
          have z1 := s'.c (j * 2 + 1) (spL_at (by omega)).2
          simp only [Nat.zero_add] at y0 y1 z0 z1
          obtain ⟨⟨p1, n1⟩, hs1⟩ : ∃ z, spL n d a u i = z := ⟨_, rfl⟩
          obtain ⟨⟨p2, n2⟩, hs2⟩ : ∃ z, spL n d a u j = z := ⟨_, rfl⟩
          rw [hs1] at y0 y1
          rw [hs2] at z0 z1
          simp only at y0 y1 z0 z1
          obtain ⟨T1, hT1⟩ : ∃ z, IntKind.u64.wrap (p1 - p2) = z := ⟨_, rfl⟩
          obtain ⟨T2, hT2⟩ : ∃ z, IntKind.u64.wrap (p2 - p1) = z := ⟨_, rfl⟩
          have hov := aside (show ovS (spL n d a u i) (spL n d a u j) = (decide (T1 < n2) || decide (T2 < n1)) by rw [hs1, hs2, ← hT1, ← hT2]; rfl)
          have hq2 := aside (show gk - 1 + (j + 1) = i ∧ gk - 1 < gk by omega)
          clear hq hs1 hs2
          by_cases c1 : T1 < n2
          · have hno := aside (show ¬ apP n d a u from fun hap => by have := hap i hi j hj; rw [hov.out, decide_eq_true c1] at this; cases this)
            go_wp2
            go_quiet (fail)
            go_wp2
            exact ret_b (k.out _ (s'.drewN nq).tail1) (decide_eq_false hno.out)
          · by_cases c2 : T2 < n1
            · have hno := aside (show ¬ apP n d a u from fun hap => by have := hap i hi j hj; rw [hov.out, decide_eq_true c2, Bool.or_true] at this; cases this)
              go_wp2
              go_quiet (fail)
              go_wp2
              exact ret_b (k.out _ (s'.drewN nq).tail1) (decide_eq_false hno.out)
            · have hno := aside (show ovS (spL n d a u i) (spL n d a u j) = false by rw [hov.out, decide_eq_false c1, decide_eq_false c2]; rfl)
              go_wp2
              go_quiet (fail)
              have s2 := s'.drewN nq
              go_wp2
              go_roundg (gk - 1)
              case measure => exact hq2.out.2
              case rel => exact ⟨j + 1, hq2.out.1, by go_num, aside (fun k' hk' => by
                by_cases h : k' = j
                · rw [h]; exact hno.out
                · exact hin.out k' (by omega)), s2⟩
        · obtain rfl : j = i := by omega
          clear hq
          go_wp2
          go_roundg (ko - 1)
          case measure => exact hp2.out.2
          case rel => exact ⟨j + 1, hp2.out.1, by go_num, aside (fun i' hi' k' hk' => by
            by_cases h : i' = j
            · subst h; exact hin.out k' hk'
            · exact hpre.out i' (by omega) k' hk'), s'⟩
    · obtain rfl : i = 3 := by omega
      have hno := aside (show apP n d a u from hpre.out)
      clear hp
      go_wp2
      exact ret_b (k.out _ s'.tail1) (decide_eq_true hno.out)
end
end Go.Proofs.Ytiibiamobkhlbaa
