/-
  The document's queue (vireoref15): Power, Areas, Check.
-/
import Derived.Test.YtippipfogbgemaaVq
import Derived.Test.YtippipfogbgemaaVc
namespace Go.Proofs.Ytippipfogbgemaa
open Go.RowKit
set_option linter.unusedVariables false

def powP (n : Int) : Prop := ∃ j : Nat, j < 9 ∧ n = (2 : Int) ^ j
instance (n : Int) : Decidable (powP n) := by unfold powP; infer_instance
theorem powP_bd {n : Int} (h : powP n) : 1 ≤ n ∧ n ≤ 256 := by
  obtain ⟨j, hj, rfl⟩ := h
  have h1 : (2 : Nat) ^ j ≤ 2 ^ 8 := Nat.pow_le_pow_right (by omega) (by omega)
  have h2 : 0 < (2 : Nat) ^ j := Nat.two_pow_pos j
  have h3 : ((2 : Int) ^ j) = ((2 ^ j : Nat) : Int) := by simp
  omega

theorem pow2_bd (i : Nat) (h : i ≤ 9) : 1 ≤ (2 : Int) ^ i ∧ (2 : Int) ^ i ≤ 512 := by
  have h1 : (2 : Nat) ^ i ≤ 2 ^ 9 := Nat.pow_le_pow_right (by omega) h
  have h2 : 0 < (2 : Nat) ^ i := Nat.two_pow_pos i
  have h3 : ((2 : Int) ^ i) = ((2 ^ i : Nat) : Int) := by simp
  omega
theorem pow2_bd8 (i : Nat) (h : i ≤ 8) : (2 : Int) ^ i ≤ 256 := by
  have h1 : (2 : Nat) ^ i ≤ 2 ^ 8 := Nat.pow_le_pow_right (by omega) h
  have h3 : ((2 : Int) ^ i) = ((2 ^ i : Nat) : Int) := by simp
  omega

def layP (n d a u : Int) : Prop := powP n ∧ d % 16 = 0 ∧ a % 2 = 0 ∧ u % 4 = 0
instance (n d a u : Int) : Decidable (layP n d a u) := by unfold layP; infer_instance
def liesP (size n d a u : Int) : Prop := hasP size d (16 * n) ∧ hasP size a (2 * n + 6) ∧ hasP size u (8 * n + 6)
instance (size n d a u : Int) : Decidable (liesP size n d a u) := by unfold liesP; infer_instance
def chk (size n d a u : Int) : Int := if layP n d a u then (if liesP size n d a u then 0 else 21) else 150

section
variable {R : Ending → World → Prop} {W0 w : World} {H : Hp} {A : List Hp} {v : Value} {size : Int} {m : Int → Int} {L : Nat}

set_option maxRecDepth 100000 in
set_option maxHeartbeats 4000000 in
theorem c_refPower (n : Int) (hn : -9223372036854775808 ≤ n ∧ n ≤ 9223372036854775807) (k : R (.returned (.bool (decide (powP n)))) w) : Calls Try.prog 73 #[.int .i64 n] w R := by
  go_enter Try.func73, Try.ntmps73
  go_wp2
  go_loopg [3] 9 (fun q v3 w' => ∃ i : Nat, q + i = 9 ∧ w' = w ∧ v3 = .int .i64 ((2 : Int) ^ i) ∧ Aside (∀ j : Nat, j < i → n ≠ (2 : Int) ^ j))
  case atStart => exact ⟨0, by simp, rfl, rfl, fun j hj => absurd hj (by omega)⟩
  case round =>
    obtain ⟨i, hq, rfl, rfl, hno⟩ := hrel
    have hp := pow2_bd i (by omega)
    have hs : (2 : Int) ^ (i + 1) = 2 * (2 : Int) ^ i := by rw [Int.pow_succ, Int.mul_comm]
    by_cases hi : i < 9
    · have hp8 := pow2_bd8 i (by omega)
      have hno2 : n ≠ (2 : Int) ^ i → Aside (∀ j : Nat, j < i + 1 → n ≠ (2 : Int) ^ j) := fun h j hj => by
        by_cases e : j = i
        · subst e; exact h
        · exact hno.out j (by omega)
      have hyes : n = (2 : Int) ^ i → powP n := fun h => ⟨i, hi, h⟩
      obtain ⟨K, hK⟩ : ∃ K, (2 : Int) ^ i = K := ⟨_, rfl⟩
      rw [hK] at hs hp hp8 hno2 hyes
      rw [hK]
      replace hK := aside hK
      have hw : IntKind.i64.wrap (2 * K) = 2 * K := by simp [IntKind.wrap, IntKind.bits, IntKind.signed]; omega
      by_cases hn2 : n = K
      · have K2 := ret_b k (decide_eq_true (hyes hn2))
        subst hn2
        clear k hno2 hyes hno hs
        go_wp2
        exact K2
      · have hb : (n == K) = false := by simp [hn2]
        have hs' := aside hs
        have hno3 := hno2 hn2
        clear hno2 hyes hno hs hn2 k
        go_wp2
        go_roundg (gk - 1)
        case measure => omega
        case rel => exact ⟨i + 1, by omega, rfl, by rw [hs'.out], hno3⟩
    · obtain rfl : i = 9 := by omega
      have K2 := ret_b k (decide_eq_false (show ¬ powP n from fun ⟨j, hj, e⟩ => hno.out j hj e))
      clear k hno
      have e9 : (2 : Int) ^ 9 = 512 := by decide
      rw [e9]
      go_wp2
      exact K2

/-- the areas' cells -/
def areaVs (n d a u : Int) : List Value := [.int .u64 d, .int .u64 (16 * n), .int .u64 a, .int .u64 (2 * n + 6), .int .u64 u, .int .u64 (8 * n + 6)]

set_option maxRecDepth 100000 in
set_option maxHeartbeats 4000000 in
theorem c_refAreas (s : Sat W0 w H A) (n d a u : Int) (h : 0 ≤ n ∧ n ≤ 1048576)
    (k : ∀ w' g, Sat W0 w' H (cellsH ⟨g, 0, none⟩ (areaVs n d a u) :: A) → R (.returned (.slice (some ⟨g, 0, none⟩) 3 3)) w') :
    Calls Try.prog 31 #[.agg #[.int .i64 n, .int .u64 d, .int .u64 a, .int .u64 u]] w R := by
  have s1 := s.alloc (c := [.int .i64 n, .int .u64 d, .int .u64 a, .int .u64 u]) (t := 46)
  have s2 := s1.alloc (c := areaVs n d a u) (t := 54)
  rw [World.size_alloc] at s2
  have e1 : IntKind.u64.wrap (6 + 2 * n) = 2 * n + 6 := by rw [wrap_u64]; omega
  have e2 : IntKind.u64.wrap (6 + 8 * n) = 8 * n + 6 := by rw [wrap_u64]; omega
  have K := k _ _ s2.swap.tail1
  simp only [areaVs] at K
  clear s s1 s2 k
  go_enter Try.func31, Try.ntmps31
  go_wp2
  exact ret_v K (by simp)

set_option maxRecDepth 100000 in
set_option maxHeartbeats 4000000 in
theorem c_refCheck (s : Sat W0 w H A) {B : Option Addr} {n0 c : Nat} (rm : RefM H (.agg #[.int .u64 size, .slice B n0 c]) size m L) (hz : 0 ≤ size ∧ size ≤ 268435456) (n d a u : Int) (hn : -9223372036854775808 ≤ n ∧ n ≤ 9223372036854775807) (hd : 0 ≤ d ∧ d ≤ 18446744073709551615) (ha : 0 ≤ a ∧ a ≤ 18446744073709551615) (hu : 0 ≤ u ∧ u ≤ 18446744073709551615)
    (k : ∀ w', Sat W0 w' H A → R (.returned (.int .i64 (chk size n d a u))) w') :
    Calls Try.prog 26 #[.agg #[.int .u64 size, .slice B n0 c], .agg #[.int .i64 n, .int .u64 d, .int .u64 a, .int .u64 u]] w R := by
  have s1 := (s.alloc (c := [.int .u64 size, .slice B n0 c]) (t := 28)).alloc (c := [.int .i64 n, .int .u64 d, .int .u64 a, .int .u64 u]) (t := 46)
  obtain ⟨Z, hZ⟩ : ∃ Z, w.heap.size = Z := ⟨_, rfl⟩
  rw [World.size_alloc, hZ] at s1
  have y0 := s1.cel (Z + 1) 0 0 rfl
  have y1 := s1.cel (Z + 1) 0 1 rfl
  have y2 := s1.cel (Z + 1) 0 2 rfl
  have y3 := s1.cel (Z + 1) 0 3 rfl
  simp only [Nat.zero_add] at y0 y1 y2 y3
  clear s
  by_cases hlay : layP n d a u
  · obtain ⟨hp, h16, h2, h4⟩ := id hlay
    have hb := powP_bd hp
    have k21 : ¬ liesP size n d a u → ∀ w', Sat W0 w' H A → R (.returned (.int .i64 21)) w' := fun hl w' s' => by have := k w' s'; rwa [chk, if_pos hlay, if_neg hl] at this
    have k0 : liesP size n d a u → ∀ w', Sat W0 w' H A → R (.returned (.int .i64 0)) w' := fun hl w' s' => by have := k w' s'; rwa [chk, if_pos hlay, if_pos hl] at this
    clear k
    go_enter Try.func26, Try.ntmps26
    go_wp2_with fail
    refine c_refPower n hn ?_
    rw [decide_eq_true hp]
    replace hp := aside hp
    replace hlay := aside hlay
    go_wp2_with fail
    refine c_refAreas s1 n d a u (by omega) ?_
    intro w2 g s2
    clear s1 y0 y1 y2 y3 h16 h2 h4
    go_wp2
    go_loopg [6] 3 (fun q v6 w' => ∃ i : Nat, q + i = 3 ∧ v6 = .int .i64 i ∧ Aside ((0 < i → hasP size d (16 * n)) ∧ (1 < i → hasP size a (2 * n + 6)) ∧ (2 < i → hasP size u (8 * n + 6))) ∧
      Sat W0 w' H (cellsH ⟨g, 0, none⟩ (areaVs n d a u) :: cellsH ⟨Z + 1, 0, none⟩ [.int .i64 n, .int .u64 d, .int .u64 a, .int .u64 u] :: cellsH ⟨Z, 0, none⟩ [.int .u64 size, .slice B n0 c] :: A))
    case atStart => exact ⟨0, by simp, rfl, ⟨fun h => absurd h (by omega), fun h => absurd h (by omega), fun h => absurd h (by omega)⟩, s2⟩
    clear s2
    case round =>
      obtain ⟨i, hq, rfl, hdone, s'⟩ := hrel
      simp only [areaVs] at s'
      have z0 := s'.cel Z 0 0 rfl
      have z1 := s'.cel Z 0 1 rfl
      simp only [Nat.zero_add] at z0 z1
      have h3 : i = 0 ∨ i = 1 ∨ i = 2 ∨ i = 3 := by omega
      rcases h3 with rfl | rfl | rfl | rfl
      · have x0 := s'.cel g 0 0 rfl
        have x1 := s'.cel g 0 1 rfl
        simp only [Nat.zero_add] at x0 x1
        obtain ⟨LL, hLL⟩ : ∃ y, 16 * n = y := ⟨_, rfl⟩
        have hlb := aside (show 0 ≤ LL ∧ LL ≤ 18446744073709551615 by omega)
        rw [hLL] at x1
        by_cases hh : hasP size d LL
        · have hnext : Aside _ := aside (show (0 < 1 → hasP size d (16 * n)) ∧ (1 < 1 → hasP size a (2 * n + 6)) ∧ (2 < 1 → hasP size u (8 * n + 6)) from by rw [← hLL] at hh; exact ⟨fun _ => hh, fun h => absurd h (by omega), fun h => absurd h (by omega)⟩)
          have hhA := aside hh
          have hLA := aside hLL
          clear hLL hdone k0 k21 hh
          go_wp2
          go_region_held3 (fun w' => w'.cell? ⟨Z, 0, none⟩ = some (.int .u64 size) ∧ w'.cell? ⟨Z, 1, none⟩ = some (.slice B n0 c) ∧ w'.cell? ⟨g, 0, none⟩ = some (.int .u64 d) ∧ w'.cell? ⟨g, 1, none⟩ = some (.int .u64 LL))
            (first
              | exact ⟨z0.1, z1.1, x0.1, x1.1⟩
              | exact ⟨(s6.cel Z 0 0 rfl).1, (s6.cel Z 0 1 rfl).1, (s6.cel g 0 0 rfl).1, by rw [← hLA.out]; exact (s6.cel g 0 1 rfl).1⟩)
            (first
              | (go_at_call 32; refine c_refHas s'.drew (by omega) d LL hd hlb.out ?_; rw [decide_eq_true hhA.out]; intro w6 s6))
          all_goals
            go_wp2
            go_roundg (gk - 1)
            case measure => omega
            case rel => exact ⟨1, by omega, by go_num, hnext, s6⟩
        · have K := k21 (by rw [← hLL] at hh; exact fun hl => hh hl.1)
          have hhA := aside hh
          have hLA := aside hLL
          clear hLL hdone k0 k21 hh
          go_wp2
          go_region_held3 (fun w' => w'.cell? ⟨Z, 0, none⟩ = some (.int .u64 size) ∧ w'.cell? ⟨Z, 1, none⟩ = some (.slice B n0 c) ∧ w'.cell? ⟨g, 0, none⟩ = some (.int .u64 d) ∧ w'.cell? ⟨g, 1, none⟩ = some (.int .u64 LL))
            (first
              | exact ⟨z0.1, z1.1, x0.1, x1.1⟩
              | exact ⟨(s6.cel Z 0 0 rfl).1, (s6.cel Z 0 1 rfl).1, (s6.cel g 0 0 rfl).1, by rw [← hLA.out]; exact (s6.cel g 0 1 rfl).1⟩)
            (first
              | (go_at_call 32; refine c_refHas s'.drew (by omega) d LL hd hlb.out ?_; rw [decide_eq_false hhA.out]; intro w6 s6))
          all_goals
            go_wp2
            exact s6.tail1.tail1.tail1
      · have x0 := s'.cel g 0 2 rfl
        have x1 := s'.cel g 0 3 rfl
        simp only [Nat.zero_add] at x0 x1
        obtain ⟨LL, hLL⟩ : ∃ y, 2 * n + 6 = y := ⟨_, rfl⟩
        have hlb := aside (show 0 ≤ LL ∧ LL ≤ 18446744073709551615 by omega)
        rw [hLL] at x1
        by_cases hh : hasP size a LL
        · have hnext : Aside _ := aside (show (0 < 2 → hasP size d (16 * n)) ∧ (1 < 2 → hasP size a (2 * n + 6)) ∧ (2 < 2 → hasP size u (8 * n + 6)) from by rw [← hLL] at hh; exact ⟨fun _ => hdone.out.1 (by omega), fun _ => hh, fun h => absurd h (by omega)⟩)
          have hhA := aside hh
          have hLA := aside hLL
          clear hLL hdone k0 k21 hh
          go_wp2
          go_region_held3 (fun w' => w'.cell? ⟨Z, 0, none⟩ = some (.int .u64 size) ∧ w'.cell? ⟨Z, 1, none⟩ = some (.slice B n0 c) ∧ w'.cell? ⟨g, 2, none⟩ = some (.int .u64 a) ∧ w'.cell? ⟨g, 3, none⟩ = some (.int .u64 LL))
            (first
              | exact ⟨z0.1, z1.1, x0.1, x1.1⟩
              | exact ⟨(s6.cel Z 0 0 rfl).1, (s6.cel Z 0 1 rfl).1, (s6.cel g 0 2 rfl).1, by rw [← hLA.out]; exact (s6.cel g 0 3 rfl).1⟩)
            (first
              | (go_at_call 32; refine c_refHas s'.drew (by omega) a LL ha hlb.out ?_; rw [decide_eq_true hhA.out]; intro w6 s6))
          all_goals
            go_wp2
            go_roundg (gk - 1)
            case measure => omega
            case rel => exact ⟨2, by omega, by go_num, hnext, s6⟩
        · have K := k21 (by rw [← hLL] at hh; exact fun hl => hh hl.2.1)
          have hhA := aside hh
          have hLA := aside hLL
          clear hLL hdone k0 k21 hh
          go_wp2
          go_region_held3 (fun w' => w'.cell? ⟨Z, 0, none⟩ = some (.int .u64 size) ∧ w'.cell? ⟨Z, 1, none⟩ = some (.slice B n0 c) ∧ w'.cell? ⟨g, 2, none⟩ = some (.int .u64 a) ∧ w'.cell? ⟨g, 3, none⟩ = some (.int .u64 LL))
            (first
              | exact ⟨z0.1, z1.1, x0.1, x1.1⟩
              | exact ⟨(s6.cel Z 0 0 rfl).1, (s6.cel Z 0 1 rfl).1, (s6.cel g 0 2 rfl).1, by rw [← hLA.out]; exact (s6.cel g 0 3 rfl).1⟩)
            (first
              | (go_at_call 32; refine c_refHas s'.drew (by omega) a LL ha hlb.out ?_; rw [decide_eq_false hhA.out]; intro w6 s6))
          all_goals
            go_wp2
            exact s6.tail1.tail1.tail1
      · have x0 := s'.cel g 0 4 rfl
        have x1 := s'.cel g 0 5 rfl
        simp only [Nat.zero_add] at x0 x1
        obtain ⟨LL, hLL⟩ : ∃ y, 8 * n + 6 = y := ⟨_, rfl⟩
        have hlb := aside (show 0 ≤ LL ∧ LL ≤ 18446744073709551615 by omega)
        rw [hLL] at x1
        by_cases hh : hasP size u LL
        · have hnext : Aside _ := aside (show (0 < 3 → hasP size d (16 * n)) ∧ (1 < 3 → hasP size a (2 * n + 6)) ∧ (2 < 3 → hasP size u (8 * n + 6)) from by rw [← hLL] at hh; exact ⟨fun _ => hdone.out.1 (by omega), fun _ => hdone.out.2.1 (by omega), fun _ => hh⟩)
          have hhA := aside hh
          have hLA := aside hLL
          clear hLL hdone k0 k21 hh
          go_wp2
          go_region_held3 (fun w' => w'.cell? ⟨Z, 0, none⟩ = some (.int .u64 size) ∧ w'.cell? ⟨Z, 1, none⟩ = some (.slice B n0 c) ∧ w'.cell? ⟨g, 4, none⟩ = some (.int .u64 u) ∧ w'.cell? ⟨g, 5, none⟩ = some (.int .u64 LL))
            (first
              | exact ⟨z0.1, z1.1, x0.1, x1.1⟩
              | exact ⟨(s6.cel Z 0 0 rfl).1, (s6.cel Z 0 1 rfl).1, (s6.cel g 0 4 rfl).1, by rw [← hLA.out]; exact (s6.cel g 0 5 rfl).1⟩)
            (first
              | (go_at_call 32; refine c_refHas s'.drew (by omega) u LL hu hlb.out ?_; rw [decide_eq_true hhA.out]; intro w6 s6))
          all_goals
            go_wp2
            go_roundg (gk - 1)
            case measure => omega
            case rel => exact ⟨3, by omega, by go_num, hnext, s6⟩
        · have K := k21 (by rw [← hLL] at hh; exact fun hl => hh hl.2.2)
          have hhA := aside hh
          have hLA := aside hLL
          clear hLL hdone k0 k21 hh
          go_wp2
          go_region_held3 (fun w' => w'.cell? ⟨Z, 0, none⟩ = some (.int .u64 size) ∧ w'.cell? ⟨Z, 1, none⟩ = some (.slice B n0 c) ∧ w'.cell? ⟨g, 4, none⟩ = some (.int .u64 u) ∧ w'.cell? ⟨g, 5, none⟩ = some (.int .u64 LL))
            (first
              | exact ⟨z0.1, z1.1, x0.1, x1.1⟩
              | exact ⟨(s6.cel Z 0 0 rfl).1, (s6.cel Z 0 1 rfl).1, (s6.cel g 0 4 rfl).1, by rw [← hLA.out]; exact (s6.cel g 0 5 rfl).1⟩)
            (first
              | (go_at_call 32; refine c_refHas s'.drew (by omega) u LL hu hlb.out ?_; rw [decide_eq_false hhA.out]; intro w6 s6))
          all_goals
            go_wp2
            exact s6.tail1.tail1.tail1
      · have K := k0 ⟨hdone.out.1 (by omega), hdone.out.2.1 (by omega), hdone.out.2.2 (by omega)⟩
        clear k0 k21
        go_wp2
        exact s'.tail1.tail1.tail1
  · have k150 : ∀ w', Sat W0 w' H A → R (.returned (.int .i64 150)) w' := fun w' s' => by have := k w' s'; rwa [chk, if_neg hlay] at this
    clear k
    by_cases hp : powP n
    · by_cases h16 : d % 16 = 0
      · by_cases h2 : a % 2 = 0
        · have h4 : ¬ u % 4 = 0 := fun h => hlay ⟨hp, h16, h2, h⟩
          have e16 : (d % 16 != 0) = false := by simp [h16]
          have e2 : (a % 2 != 0) = false := by simp [h2]
          have e4 : (u % 4 != 0) = true := by simp [h4]
          clear h16 h2 h4 hlay
          go_enter Try.func26, Try.ntmps26
          go_wp2_with fail
          refine c_refPower n hn ?_
          rw [decide_eq_true hp]
          go_wp2
          exact s1.tail1.tail1
        · have e16 : (d % 16 != 0) = false := by simp [h16]
          have e2 : (a % 2 != 0) = true := by simp [h2]
          clear h16 h2 hlay
          go_enter Try.func26, Try.ntmps26
          go_wp2_with fail
          refine c_refPower n hn ?_
          rw [decide_eq_true hp]
          go_wp2
          exact s1.tail1.tail1
      · have e16 : (d % 16 != 0) = true := by simp [h16]
        clear h16 hlay
        go_enter Try.func26, Try.ntmps26
        go_wp2_with fail
        refine c_refPower n hn ?_
        rw [decide_eq_true hp]
        go_wp2
        exact s1.tail1.tail1
    · go_enter Try.func26, Try.ntmps26
      go_wp2_with fail
      refine c_refPower n hn ?_
      rw [decide_eq_false hp]
      go_wp2
      exact s1.tail1.tail1
end
end Go.Proofs.Ytippipfogbgemaa
