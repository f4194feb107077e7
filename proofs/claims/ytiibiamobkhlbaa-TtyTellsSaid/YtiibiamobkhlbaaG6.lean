/-
  The document's queue (vireoref15): Power, Areas, Check.
  RING: what a queue's areas say: Flags, Offered, Head, Wanted, the code's and the document's.
  RING: a memory without bytes (Memory of none); the code's Power and Check.
  RING: what is told: Put, Publish, Want.
  A RANGE OVER A MAP, the iterator as a piece of its own: next, entry. Plain theorems over any program.
  RAM: its pages as rows; a page put into the map. Plain laws.
  RAM: Copy.
  TWO ARRAYS OF BYTES, COMPARED WHOLE. Plain theorems over any program.
  RAM: under, Same.
  WHERE TWO MEMORIES DIFFER, piece by piece (plain): the pieces of a rising row of places.
  RAM: whether two hold the same, as bytes (plain).
-/
import Derived.Test.YtiibiamobkhlbaaG2
import Derived.Test.YtiibiamobkhlbaaG1
import Derived.Deep.RegionHeld3
import Derived.Laws.IdiomRangeMap
import Derived.Deep.MidRow
import Derived.ChangeKeysEq
import Derived.BigQuiet
set_option linter.unusedVariables false
set_option linter.unusedSimpArgs false
namespace Go.Proofs.Ytiibiamobkhlbaa
open Go.RowKit
set_option linter.unusedVariables false

def powP (n : Int) : Prop := ∃ j : Nat, j < 9 ∧ n = (2 : Int) ^ j
instance (n : Int) : Decidable (powP n) := by unfold powP; infer_instance
theorem powP_bd {n : Int} (h : powP n) : 1 ≤ n ∧ n ≤ 256 := by
  obtain ⟨j, hj, rfl⟩ := h
  have h1 : (2 : Nat) ^ j ≤ 2 ^ 8 := Nat.pow_le_pow_right (by omega) (by omega)
  have h2 : 0 < (2 : Nat) ^ j := Nat.two_pow_pos j
  have h3 : ((2 : Int) ^ j) = ((2 ^ j : Nat) : Int) := by simp
  omega

theorem pow2_bd (i : Nat) (h : i ≤ 9) : 1 ≤ (2 : Int) ^ i ∧ (2 : Int) ^ i ≤ 512 := by
  have h1 : (2 : Nat) ^ i ≤ 2 ^ 9 := Nat.pow_le_pow_right (by omega) h
  have h2 : 0 < (2 : Nat) ^ i := Nat.two_pow_pos i
  have h3 : ((2 : Int) ^ i) = ((2 ^ i : Nat) : Int) := by simp
  omega
theorem pow2_bd8 (i : Nat) (h : i ≤ 8) : (2 : Int) ^ i ≤ 256 := by
  have h1 : (2 : Nat) ^ i ≤ 2 ^ 8 := Nat.pow_le_pow_right (by omega) h
  have h3 : ((2 : Int) ^ i) = ((2 ^ i : Nat) : Int) := by simp
  omega

def layP (n d a u : Int) : Prop := powP n ∧ d % 16 = 0 ∧ a % 2 = 0 ∧ u % 4 = 0
instance (n d a u : Int) : Decidable (layP n d a u) := by unfold layP; infer_instance
def liesP (size n d a u : Int) : Prop := hasP size d (16 * n) ∧ hasP size a (2 * n + 6) ∧ hasP size u (8 * n + 6)
instance (size n d a u : Int) : Decidable (liesP size n d a u) := by unfold liesP; infer_instance
def chk (size n d a u : Int) : Int := if layP n d a u then (if liesP size n d a u then 0 else 21) else 150

section
variable {R : Ending → World → Prop} {W0 w : World} {H : Hp} {A : List Hp} {v : Value} {size : Int} {m : Int → Int} {L : Nat}

set_option maxRecDepth 100000 in
set_option maxHeartbeats 4000000 in
theorem c_refPower (n : Int) (hn : -9223372036854775808 ≤ n ∧ n ≤ 9223372036854775807) (k : R (.returned (.bool (decide (powP n)))) w) : Calls Try.prog 58 #[.int .i64 n] w R := by
  go_enter Try.func58, Try.ntmps58
  go_wp2
  go_loopg [3] 9 (fun q v3 w' => ∃ i : Nat, q + i = 9 ∧ w' = w ∧ v3 = .int .i64 ((2 : Int) ^ i) ∧ Aside (∀ j : Nat, j < i → n ≠ (2 : Int) ^ j))
  case atStart => exact ⟨0, by simp, rfl, rfl, fun j hj => absurd hj (by omega)⟩
  case round =>
    obtain ⟨i, hq, rfl, rfl, hno⟩ := hrel
    have hp := pow2_bd i (by omega)
    have hs : (2 : Int) ^ (i + 1) = 2 * (2 : Int) ^ i := by rw [Int.pow_succ, Int.mul_comm]
    by_cases hi : i < 9
    · have hp8 := pow2_bd8 i (by omega)
      have hno2 : n ≠ (2 : Int) ^ i → Aside (∀ j : Nat, j < i + 1 → n ≠ (2 : Int) ^ j) := fun h j hj => by
        by_cases e : j = i
        · subst e; exact h
        · exact hno.out j (by omega)
      have hyes : n = (2 : Int) ^ i → powP n := fun h => ⟨i, hi, h⟩
      obtain ⟨K, hK⟩ : ∃ K, (2 : Int) ^ i = K := ⟨_, rfl⟩
      rw [hK] at hs hp hp8 hno2 hyes
      rw [hK]
      replace hK := aside hK
      have hw : IntKind.i64.wrap (2 * K) = 2 * K := by simp [IntKind.wrap, IntKind.bits, IntKind.signed]; omega
      by_cases hn2 : n = K
      · have K2 := ret_b k (decide_eq_true (hyes hn2))
        subst hn2
        clear k hno2 hyes hno hs
        go_wp2
        exact K2
      · have hb : (n == K) = false := by simp [hn2]
        have hs' := aside hs
        have hno3 := hno2 hn2
        clear hno2 hyes hno hs hn2 k
        go_wp2
        go_roundg (gk - 1)
        case measure => omega
        case rel => exact ⟨i + 1, by omega, rfl, by rw [hs'.out], hno3⟩
    · obtain rfl : i = 9 := by omega
      have K2 := ret_b k (decide_eq_false (show ¬ powP n from fun ⟨j, hj, e⟩ => hno.out j hj e))
      clear k hno
      have e9 : (2 : Int) ^ 9 = 512 := by decide
      rw [e9]
      go_wp2
      exact K2

/-- the areas' cells -/
def areaVs (n d a u : Int) : List Value := [.int .u64 d, .int .u64 (16 * n), .int .u64 a, .int .u64 (2 * n + 6), .int .u64 u, .int .u64 (8 * n + 6)]

set_option maxRecDepth 100000 in
set_option maxHeartbeats 4000000 in
theorem c_refAreas (s : Sat W0 w H A) (n d a u : Int) (h : 0 ≤ n ∧ n ≤ 1048576)
    (k : ∀ w' g, Sat W0 w' H (cellsH ⟨g, 0, none⟩ (areaVs n d a u) :: A) → R (.returned (.slice (some ⟨g, 0, none⟩) 3 3)) w') :
    Calls Try.prog 31 #[.agg #[.int .i64 n, .int .u64 d, .int .u64 a, .int .u64 u]] w R := by
  have s1 := s.alloc (c := [.int .i64 n, .int .u64 d, .int .u64 a, .int .u64 u]) (t := 25)
  have s2 := s1.alloc (c := areaVs n d a u) (t := 48)
  rw [World.size_alloc] at s2
  have e1 : IntKind.u64.wrap (6 + 2 * n) = 2 * n + 6 := by rw [wrap_u64]; omega
  have e2 : IntKind.u64.wrap (6 + 8 * n) = 8 * n + 6 := by rw [wrap_u64]; omega
  have K := k _ _ s2.swap.tail1
  simp only [areaVs] at K
  clear s s1 s2 k
  go_enter Try.func31, Try.ntmps31
  go_wp2
  exact ret_v K (by simp)

set_option maxRecDepth 100000 in
set_option maxHeartbeats 4000000 in
theorem c_refCheck (s : Sat W0 w H A) {B : Option Addr} {n0 c : Nat} (rm : RefM H (.agg #[.int .u64 size, .slice B n0 c]) size m L) (hz : 0 ≤ size ∧ size ≤ 268435456) (n d a u : Int) (hn : -9223372036854775808 ≤ n ∧ n ≤ 9223372036854775807) (hd : 0 ≤ d ∧ d ≤ 18446744073709551615) (ha : 0 ≤ a ∧ a ≤ 18446744073709551615) (hu : 0 ≤ u ∧ u ≤ 18446744073709551615)
    (k : ∀ w', Sat W0 w' H A → R (.returned (.int .i64 (chk size n d a u))) w') :
    Calls Try.prog 13 #[.agg #[.int .u64 size, .slice B n0 c], .agg #[.int .i64 n, .int .u64 d, .int .u64 a, .int .u64 u]] w R := by
  have s1 := (s.alloc (c := [.int .u64 size, .slice B n0 c]) (t := 32)).alloc (c := [.int .i64 n, .int .u64 d, .int .u64 a, .int .u64 u]) (t := 25)
  obtain ⟨Z, hZ⟩ : ∃ Z, w.heap.size = Z := ⟨_, rfl⟩
  rw [World.size_alloc, hZ] at s1
  have y0 := s1.cel (Z + 1) 0 0 rfl
  have y1 := s1.cel (Z + 1) 0 1 rfl
  have y2 := s1.cel (Z + 1) 0 2 rfl
  have y3 := s1.cel (Z + 1) 0 3 rfl
  simp only [Nat.zero_add] at y0 y1 y2 y3
  clear s
  by_cases hlay : layP n d a u
  · obtain ⟨hp, h16, h2, h4⟩ := id hlay
    have hb := powP_bd hp
    have k21 : ¬ liesP size n d a u → ∀ w', Sat W0 w' H A → R (.returned (.int .i64 21)) w' := fun hl w' s' => by have := k w' s'; rwa [chk, if_pos hlay, if_neg hl] at this
    have k0 : liesP size n d a u → ∀ w', Sat W0 w' H A → R (.returned (.int .i64 0)) w' := fun hl w' s' => by have := k w' s'; rwa [chk, if_pos hlay, if_pos hl] at this
    clear k
    go_enter Try.func13, Try.ntmps13
    go_wp2_with fail
    refine c_refPower n hn ?_
    rw [decide_eq_true hp]
    replace hp := aside hp
    replace hlay := aside hlay
    go_wp2_with fail
    refine c_refAreas s1 n d a u (by omega) ?_
    intro w2 g s2
    clear s1 y0 y1 y2 y3 h16 h2 h4
    go_wp2
    go_loopg [6] 3 (fun q v6 w' => ∃ i : Nat, q + i = 3 ∧ v6 = .int .i64 i ∧ Aside ((0 < i → hasP size d (16 * n)) ∧ (1 < i → hasP size a (2 * n + 6)) ∧ (2 < i → hasP size u (8 * n + 6))) ∧
      Sat W0 w' H (cellsH ⟨g, 0, none⟩ (areaVs n d a u) :: cellsH ⟨Z + 1, 0, none⟩ [.int .i64 n, .int .u64 d, .int .u64 a, .int .u64 u] :: cellsH ⟨Z, 0, none⟩ [.int .u64 size, .slice B n0 c] :: A))
    case atStart => exact ⟨0, by simp, rfl, ⟨fun h => absurd h (by omega), fun h => absurd h (by omega), fun h => absurd h (by omega)⟩, s2⟩
    clear s2
    case round =>
      obtain ⟨i, hq, rfl, hdone, s'⟩ := hrel
      simp only [areaVs] at s'
      have z0 := s'.cel Z 0 0 rfl
      have z1 := s'.cel Z 0 1 rfl
      simp only [Nat.zero_add] at z0 z1
      have h3 : i = 0 ∨ i = 1 ∨ i = 2 ∨ i = 3 := by omega
      rcases h3 with rfl | rfl | rfl | rfl
      · have x0 := s'.cel g 0 0 rfl
        have x1 := s'.cel g 0 1 rfl
        simp only [Nat.zero_add] at x0 x1
        obtain ⟨LL, hLL⟩ : ∃ y, 16 * n = y := ⟨_, rfl⟩
        have hlb := aside (show 0 ≤ LL ∧ LL ≤ 18446744073709551615 by omega)
        rw [hLL] at x1
        by_cases hh : hasP size d LL
        · have hnext : Aside _ := aside (show (0 < 1 → hasP size d (16 * n)) ∧ (1 < 1 → hasP size a (2 * n + 6)) ∧ (2 < 1 → hasP size u (8 * n + 6)) from by rw [← hLL] at hh; exact ⟨fun _ => hh, fun h => absurd h (by omega), fun h => absurd h (by omega)⟩)
          have hhA := aside hh
          have hLA := aside hLL
          clear hLL hdone k0 k21 hh
          go_wp2
          go_region_held3 (fun w' => w'.cell? ⟨Z, 0, none⟩ = some (.int .u64 size) ∧ w'.cell? ⟨Z, 1, none⟩ = some (.slice B n0 c) ∧ w'.cell? ⟨g, 0, none⟩ = some (.int .u64 d) ∧ w'.cell? ⟨g, 1, none⟩ = some (.int .u64 LL))
            (first
              | exact ⟨z0.1, z1.1, x0.1, x1.1⟩
              | exact ⟨(s6.cel Z 0 0 rfl).1, (s6.cel Z 0 1 rfl).1, (s6.cel g 0 0 rfl).1, by rw [← hLA.out]; exact (s6.cel g 0 1 rfl).1⟩)
            (first
              | (go_at_call 59; refine c_refHas s'.drew (by omega) d LL hd hlb.out ?_; rw [decide_eq_true hhA.out]; intro w6 s6))
          all_goals
            go_wp2
            go_roundg (gk - 1)
            case measure => omega
            case rel => exact ⟨1, by omega, by go_num, hnext, s6⟩
        · have K := k21 (by rw [← hLL] at hh; exact fun hl => hh hl.1)
          have hhA := aside hh
          have hLA := aside hLL
          clear hLL hdone k0 k21 hh
          go_wp2
          go_region_held3 (fun w' => w'.cell? ⟨Z, 0, none⟩ = some (.int .u64 size) ∧ w'.cell? ⟨Z, 1, none⟩ = some (.slice B n0 c) ∧ w'.cell? ⟨g, 0, none⟩ = some (.int .u64 d) ∧ w'.cell? ⟨g, 1, none⟩ = some (.int .u64 LL))
            (first
              | exact ⟨z0.1, z1.1, x0.1, x1.1⟩
              | exact ⟨(s6.cel Z 0 0 rfl).1, (s6.cel Z 0 1 rfl).1, (s6.cel g 0 0 rfl).1, by rw [← hLA.out]; exact (s6.cel g 0 1 rfl).1⟩)
            (first
              | (go_at_call 59; refine c_refHas s'.drew (by omega) d LL hd hlb.out ?_; rw [decide_eq_false hhA.out]; intro w6 s6))
          all_goals
            go_wp2
            exact s6.tail1.tail1.tail1
      · have x0 := s'.cel g 0 2 rfl
        have x1 := s'.cel g 0 3 rfl
        simp only [Nat.zero_add] at x0 x1
        obtain ⟨LL, hLL⟩ : ∃ y, 2 * n + 6 = y := ⟨_, rfl⟩
        have hlb := aside (show 0 ≤ LL ∧ LL ≤ 18446744073709551615 by omega)
        rw [hLL] at x1
        by_cases hh : hasP size a LL
        · have hnext : Aside _ := aside (show (0 < 2 → hasP size d (16 * n)) ∧ (1 < 2 → hasP size a (2 * n + 6)) ∧ (2 < 2 → hasP size u (8 * n + 6)) from by rw [← hLL] at hh; exact ⟨fun _ => hdone.out.1 (by omega), fun _ => hh, fun h => absurd h (by omega)⟩)
          have hhA := aside hh
          have hLA := aside hLL
          clear hLL hdone k0 k21 hh
          go_wp2
          go_region_held3 (fun w' => w'.cell? ⟨Z, 0, none⟩ = some (.int .u64 size) ∧ w'.cell? ⟨Z, 1, none⟩ = some (.slice B n0 c) ∧ w'.cell? ⟨g, 2, none⟩ = some (.int .u64 a) ∧ w'.cell? ⟨g, 3, none⟩ = some (.int .u64 LL))
            (first
              | exact ⟨z0.1, z1.1, x0.1, x1.1⟩
              | exact ⟨(s6.cel Z 0 0 rfl).1, (s6.cel Z 0 1 rfl).1, (s6.cel g 0 2 rfl).1, by rw [← hLA.out]; exact (s6.cel g 0 3 rfl).1⟩)
            (first
              | (go_at_call 59; refine c_refHas s'.drew (by omega) a LL ha hlb.out ?_; rw [decide_eq_true hhA.out]; intro w6 s6))
          all_goals
            go_wp2
            go_roundg (gk - 1)
            case measure => omega
            case rel => exact ⟨2, by omega, by go_num, hnext, s6⟩
        · have K := k21 (by rw [← hLL] at hh; exact fun hl => hh hl.2.1)
          have hhA := aside hh
          have hLA := aside hLL
          clear hLL hdone k0 k21 hh
          go_wp2
          go_region_held3 (fun w' => w'.cell? ⟨Z, 0, none⟩ = some (.int .u64 size) ∧ w'.cell? ⟨Z, 1, none⟩ = some (.slice B n0 c) ∧ w'.cell? ⟨g, 2, none⟩ = some (.int .u64 a) ∧ w'.cell? ⟨g, 3, none⟩ = some (.int .u64 LL))
            (first
              | exact ⟨z0.1, z1.1, x0.1, x1.1⟩
              | exact ⟨(s6.cel Z 0 0 rfl).1, (s6.cel Z 0 1 rfl).1, (s6.cel g 0 2 rfl).1, by rw [← hLA.out]; exact (s6.cel g 0 3 rfl).1⟩)
            (first
              | (go_at_call 59; refine c_refHas s'.drew (by omega) a LL ha hlb.out ?_; rw [decide_eq_false hhA.out]; intro w6 s6))
          all_goals
            go_wp2
            exact s6.tail1.tail1.tail1
      · have x0 := s'.cel g 0 4 rfl
        have x1 := s'.cel g 0 5 rfl
        simp only [Nat.zero_add] at x0 x1
        obtain ⟨LL, hLL⟩ : ∃ y, 8 * n + 6 = y := ⟨_, rfl⟩
        have hlb := aside (show 0 ≤ LL ∧ LL ≤ 18446744073709551615 by omega)
        rw [hLL] at x1
        by_cases hh : hasP size u LL
        · have hnext : Aside _ := aside (show (0 < 3 → hasP size d (16 * n)) ∧ (1 < 3 → hasP size a (2 * n + 6)) ∧ (2 < 3 → hasP size u (8 * n + 6)) from by rw [← hLL] at hh; exact ⟨fun _ => hdone.out.1 (by omega), fun _ => hdone.out.2.1 (by omega), fun _ => hh⟩)
          have hhA := aside hh
          have hLA := aside hLL
          clear hLL hdone k0 k21 hh
          go_wp2
          go_region_held3 (fun w' => w'.cell? ⟨Z, 0, none⟩ = some (.int .u64 size) ∧ w'.cell? ⟨Z, 1, none⟩ = some (.slice B n0 c) ∧ w'.cell? ⟨g, 4, none⟩ = some (.int .u64 u) ∧ w'.cell? ⟨g, 5, none⟩ = some (.int .u64 LL))
            (first
              | exact ⟨z0.1, z1.1, x0.1, x1.1⟩
              | exact ⟨(s6.cel Z 0 0 rfl).1, (s6.cel Z 0 1 rfl).1, (s6.cel g 0 4 rfl).1, by rw [← hLA.out]; exact (s6.cel g 0 5 rfl).1⟩)
            (first
              | (go_at_call 59; refine c_refHas s'.drew (by omega) u LL hu hlb.out ?_; rw [decide_eq_true hhA.out]; intro w6 s6))
          all_goals
            go_wp2
            go_roundg (gk - 1)
            case measure => omega
            case rel => exact ⟨3, by omega, by go_num, hnext, s6⟩
        · have K := k21 (by rw [← hLL] at hh; exact fun hl => hh hl.2.2)
          have hhA := aside hh
          have hLA := aside hLL
          clear hLL hdone k0 k21 hh
          go_wp2
          go_region_held3 (fun w' => w'.cell? ⟨Z, 0, none⟩ = some (.int .u64 size) ∧ w'.cell? ⟨Z, 1, none⟩ = some (.slice B n0 c) ∧ w'.cell? ⟨g, 4, none⟩ = some (.int .u64 u) ∧ w'.cell? ⟨g, 5, none⟩ = some (.int .u64 LL))
            (first
              | exact ⟨z0.1, z1.1, x0.1, x1.1⟩
              | exact ⟨(s6.cel Z 0 0 rfl).1, (s6.cel Z 0 1 rfl).1, (s6.cel g 0 4 rfl).1, by rw [← hLA.out]; exact (s6.cel g 0 5 rfl).1⟩)
            (first
              | (go_at_call 59; refine c_refHas s'.drew (by omega) u LL hu hlb.out ?_; rw [decide_eq_false hhA.out]; intro w6 s6))
          all_goals
            go_wp2
            exact s6.tail1.tail1.tail1
      · have K := k0 ⟨hdone.out.1 (by omega), hdone.out.2.1 (by omega), hdone.out.2.2 (by omega)⟩
        clear k0 k21
        go_wp2
        exact s'.tail1.tail1.tail1
  · have k150 : ∀ w', Sat W0 w' H A → R (.returned (.int .i64 150)) w' := fun w' s' => by have := k w' s'; rwa [chk, if_neg hlay] at this
    clear k
    by_cases hp : powP n
    · by_cases h16 : d % 16 = 0
      · by_cases h2 : a % 2 = 0
        · have h4 : ¬ u % 4 = 0 := fun h => hlay ⟨hp, h16, h2, h⟩
          have e16 : (d % 16 != 0) = false := by simp [h16]
          have e2 : (a % 2 != 0) = false := by simp [h2]
          have e4 : (u % 4 != 0) = true := by simp [h4]
          clear h16 h2 h4 hlay
          go_enter Try.func13, Try.ntmps13
          go_wp2_with fail
          refine c_refPower n hn ?_
          rw [decide_eq_true hp]
          go_wp2
          exact s1.tail1.tail1
        · have e16 : (d % 16 != 0) = false := by simp [h16]
          have e2 : (a % 2 != 0) = true := by simp [h2]
          clear h16 h2 hlay
          go_enter Try.func13, Try.ntmps13
          go_wp2_with fail
          refine c_refPower n hn ?_
          rw [decide_eq_true hp]
          go_wp2
          exact s1.tail1.tail1
      · have e16 : (d % 16 != 0) = true := by simp [h16]
        clear h16 hlay
        go_enter Try.func13, Try.ntmps13
        go_wp2_with fail
        refine c_refPower n hn ?_
        rw [decide_eq_true hp]
        go_wp2
        exact s1.tail1.tail1
    · go_enter Try.func13, Try.ntmps13
      go_wp2_with fail
      refine c_refPower n hn ?_
      rw [decide_eq_false hp]
      go_wp2
      exact s1.tail1.tail1
end
end Go.Proofs.Ytiibiamobkhlbaa

namespace Go.Proofs.Ytiibiamobkhlbaa
open Go.RowKit
set_option linter.unusedVariables false

def hw (size : Int) (m : Int → Int) (a : Int) : Int := if hasP size a 2 then ofB (rdB m a 2) else 0
theorem hw_bd {m : Int → Int} (hm : ∀ a, 0 ≤ m a ∧ m a ≤ 255) (size a : Int) : 0 ≤ hw size m a ∧ hw size m a ≤ 65535 := by
  have h := ofB_bd (rdB_bd hm a 2)
  rw [rdB_len] at h
  have h2 : (256 : Int) ^ 2 = 65536 := by decide
  unfold hw
  split <;> omega

section
variable {R : Ending → World → Prop} {W0 w : World} {H : Hp} {A F : List Hp} {v : Value} {b : Nat} {r : RamG} {size : Int} {m : Int → Int} {L : Nat} {B : Option Addr} {n0 c : Nat}

theorem c_half (s : Sat W0 w H A) [fr : FrK (κ := Addr) (ρ := fun _ => RamG × Option LogG) ramL ⟨b, 0, none⟩ A (r, none) F] (a : Int) (h0 : 0 ≤ a ∧ a ≤ 18446744073709551615)
    (k : ∀ w', Sat W0 w' H (ramL ⟨b, 0, none⟩ (r, none) ++ F) → R (.returned (.int .u16 (hw r.size r.mem a))) w') :
    Calls Try.prog 136 #[.pointer (some ⟨b, 0, none⟩), .int .u64 a] w R := c_ringHalf s a h0 k
theorem c_word2 (s : Sat W0 w H A) (rm : RefM H v size m L) (hL : L ≤ 100000000000) (hz : 0 ≤ size ∧ size ≤ 268435456) (a : Int) (h0 : 0 ≤ a ∧ a ≤ 18446744073709551615)
    (k : ∀ w', Sat W0 w' H A → R (.returned (.int .u64 (hw size m a))) w') : Calls Try.prog 61 #[v, .int .u64 a, .int .i64 2] w R := c_refWord s rm hL hz a 2 h0 (by omega) k

set_option maxRecDepth 100000 in
set_option maxHeartbeats 4000000 in
theorem c_Flags (s : Sat W0 w H A) [fr : FrK (κ := Addr) (ρ := fun _ => RamG × Option LogG) ramL ⟨b, 0, none⟩ A (r, none) F] (n d a u : Int) (ha : 0 ≤ a ∧ a ≤ 18446744073709551615)
    (k : ∀ w', Sat W0 w' H (ramL ⟨b, 0, none⟩ (r, none) ++ F) → R (.returned (.int .u16 (hw r.size r.mem a))) w') :
    Calls Try.prog 86 #[.pointer (some ⟨b, 0, none⟩), .agg #[.int .i64 n, .int .u64 d, .int .u64 a, .int .u64 u]] w R := by
  have s1 := (s.front (mk := ramL) (k := ⟨b, 0, none⟩)).alloc (c := [.int .i64 n, .int .u64 d, .int .u64 a, .int .u64 u]) (t := 25)
  have y2 := s1.c 2 rfl
  simp only [Nat.zero_add] at y2
  go_enter Try.func86, Try.ntmps86
  go_wp2_with fail
  refine c_half s1 a ha ?_
  intro w2 s2
  go_wp2
  exact s2.wk

set_option maxRecDepth 100000 in
set_option maxHeartbeats 4000000 in
theorem c_Offered (s : Sat W0 w H A) [fr : FrK (κ := Addr) (ρ := fun _ => RamG × Option LogG) ramL ⟨b, 0, none⟩ A (r, none) F] (n d a u : Int) (ha : 0 ≤ a ∧ a ≤ 4294967295)
    (k : ∀ w', Sat W0 w' H (ramL ⟨b, 0, none⟩ (r, none) ++ F) → R (.returned (.int .u16 (hw r.size r.mem (a + 2)))) w') :
    Calls Try.prog 122 #[.pointer (some ⟨b, 0, none⟩), .agg #[.int .i64 n, .int .u64 d, .int .u64 a, .int .u64 u]] w R := by
  have s1 := (s.front (mk := ramL) (k := ⟨b, 0, none⟩)).alloc (c := [.int .i64 n, .int .u64 d, .int .u64 a, .int .u64 u]) (t := 25)
  have y2 := s1.c 2 rfl
  simp only [Nat.zero_add] at y2
  have e : IntKind.u64.wrap (a + 2) = a + 2 := by rw [wrap_u64]; omega
  have hb : 0 ≤ a + 2 ∧ a + 2 ≤ 18446744073709551615 := by omega
  go_enter Try.func122, Try.ntmps122
  go_wp2_with fail
  refine c_half s1 (a + 2) hb ?_
  intro w2 s2
  go_wp2
  exact s2.wk

set_option maxRecDepth 100000 in
set_option maxHeartbeats 4000000 in
theorem c_Wanted (s : Sat W0 w H A) [fr : FrK (κ := Addr) (ρ := fun _ => RamG × Option LogG) ramL ⟨b, 0, none⟩ A (r, none) F] (n d a u : Int) (ha : 0 ≤ a ∧ a ≤ 4294967295) (hn : 1 ≤ n ∧ n ≤ 256)
    (k : ∀ w', Sat W0 w' H (ramL ⟨b, 0, none⟩ (r, none) ++ F) → R (.returned (.int .u16 (hw r.size r.mem (a + 4 + 2 * n)))) w') :
    Calls Try.prog 85 #[.pointer (some ⟨b, 0, none⟩), .agg #[.int .i64 n, .int .u64 d, .int .u64 a, .int .u64 u]] w R := by
  have s1 := (s.front (mk := ramL) (k := ⟨b, 0, none⟩)).alloc (c := [.int .i64 n, .int .u64 d, .int .u64 a, .int .u64 u]) (t := 25)
  have y0 := s1.c 0 rfl
  have y2 := s1.c 2 rfl
  simp only [Nat.zero_add] at y0 y2
  have e0 : IntKind.u64.wrap n = n := by rw [wrap_u64]; omega
  have e1 : IntKind.u64.wrap (a + 4) = a + 4 := by rw [wrap_u64]; omega
  have e2 : IntKind.u64.wrap (2 * n) = 2 * n := by rw [wrap_u64]; omega
  have e3 : IntKind.u64.wrap (a + 4 + 2 * n) = a + 4 + 2 * n := by rw [wrap_u64]; omega
  have hb : 0 ≤ a + 4 + 2 * n ∧ a + 4 + 2 * n ≤ 18446744073709551615 := by omega
  go_enter Try.func85, Try.ntmps85
  go_wp2_with fail
  refine c_half s1 (a + 4 + 2 * n) hb ?_
  intro w2 s2
  go_wp2
  exact s2.wk

set_option maxRecDepth 100000 in
set_option maxHeartbeats 4000000 in
theorem c_Head (s : Sat W0 w H A) [fr : FrK (κ := Addr) (ρ := fun _ => RamG × Option LogG) ramL ⟨b, 0, none⟩ A (r, none) F] (n d a u x : Int) (ha : 0 ≤ a ∧ a ≤ 4294967295) (hn : 1 ≤ n ∧ n ≤ 256) (hx : 0 ≤ x ∧ x ≤ 65535)
    (k : ∀ w', Sat W0 w' H (ramL ⟨b, 0, none⟩ (r, none) ++ F) → R (.returned (.int .u16 (hw r.size r.mem (a + 4 + 2 * (x % n))))) w') :
    Calls Try.prog 123 #[.pointer (some ⟨b, 0, none⟩), .agg #[.int .i64 n, .int .u64 d, .int .u64 a, .int .u64 u], .int .u16 x] w R := by
  have s1 := (s.front (mk := ramL) (k := ⟨b, 0, none⟩)).alloc (c := [.int .i64 n, .int .u64 d, .int .u64 a, .int .u64 u]) (t := 25)
  have y0 := s1.c 0 rfl
  have y2 := s1.c 2 rfl
  simp only [Nat.zero_add] at y0 y2
  have hmax : max n 1 = n := by omega
  have hmod := Int.emod_nonneg x (show n ≠ 0 by omega)
  have hmod2 := Int.emod_lt_of_pos x (show 0 < n by omega)
  have htm : x.tmod n = x % n := Int.tmod_eq_emod_of_nonneg hx.1
  obtain ⟨j, hj⟩ : ∃ j, x % n = j := ⟨_, rfl⟩
  rw [hj] at hmod hmod2 htm k
  obtain ⟨Z, hZ⟩ : ∃ Z, w.heap.size = Z := ⟨_, rfl⟩
  rw [hZ] at s1 y0 y2
  have q1 : ¬ max n 1 = 0 := by omega
  have q2 : (max n 1 == 0) = false := by simp; omega
  have q3 : x.tmod (max n 1) = j := by rw [hmax]; exact htm
  have q4 : x % (max n 1) = j := by rw [hmax]; exact hj
  have n0 : ¬ n = 0 := by omega
  have nb : (n == 0) = false := by simp [n0]
  have ej : IntKind.i64.wrap j = j := by simp [IntKind.wrap, IntKind.bits, IntKind.signed]; omega
  have e0 : IntKind.u64.wrap j = j := by rw [wrap_u64]; omega
  have e1 : IntKind.u64.wrap (a + 4) = a + 4 := by rw [wrap_u64]; omega
  have e2 : IntKind.u64.wrap (2 * j) = 2 * j := by rw [wrap_u64]; omega
  have e3 : IntKind.u64.wrap (a + 4 + 2 * j) = a + 4 + 2 * j := by rw [wrap_u64]; omega
  have hb : 0 ≤ a + 4 + 2 * j ∧ a + 4 + 2 * j ≤ 18446744073709551615 := by omega
  go_enter Try.func123, Try.ntmps123
  go_wp2
  go_region_with
    (first
      | (go_at_call 136; refine c_half s1.drew (a + 4 + 2 * j) hb ?_; intro w2 s2))
  all_goals
    try simp only [Act.put, List.getElem_toArray, List.getElem_cons_succ, List.getElem_cons_zero, List.setIfInBounds_toArray, List.set_cons_succ, List.set_cons_zero]
    go_wp2
    exact s2.wk

set_option maxRecDepth 100000 in
set_option maxHeartbeats 4000000 in
theorem c_refFlags (s : Sat W0 w H A) (rm : RefM H (.agg #[.int .u64 size, .slice B n0 c]) size m L) (hL : L ≤ 100000000000) (hz : 0 ≤ size ∧ size ≤ 268435456) (n d a u : Int) (ha : 0 ≤ a ∧ a ≤ 18446744073709551615)
    (k : ∀ w', Sat W0 w' H A → R (.returned (.int .i64 (hw size m (a)))) w') :
    Calls Try.prog 89 #[.agg #[.int .u64 size, .slice B n0 c], .agg #[.int .i64 n, .int .u64 d, .int .u64 a, .int .u64 u]] w R := by
  have s1 := (s.alloc (c := [.int .u64 size, .slice B n0 c]) (t := 32)).alloc (c := [.int .i64 n, .int .u64 d, .int .u64 a, .int .u64 u]) (t := 25)
  obtain ⟨Z, hZ⟩ : ∃ Z, w.heap.size = Z := ⟨_, rfl⟩
  rw [World.size_alloc, hZ] at s1
  have z0 := s1.cel Z 0 0 rfl
  have z1 := s1.cel Z 0 1 rfl
  have y0 := s1.cel (Z + 1) 0 0 rfl
  have y2 := s1.cel (Z + 1) 0 2 rfl
  simp only [Nat.zero_add] at z0 z1 y0 y2
  have hb : 0 ≤ a ∧ a ≤ 18446744073709551615 := by omega
  have hwb := hw_bd rm.bd size (a)
  obtain ⟨y, hy⟩ : ∃ y, hw size m (a) = y := ⟨_, rfl⟩
  rw [hy] at hwb k
  replace hy := aside hy
  have ei : IntKind.i64.wrap y = y := by simp [IntKind.wrap, IntKind.bits, IntKind.signed]; omega
  go_enter Try.func89, Try.ntmps89
  go_wp2_with fail
  refine c_word2 s1 rm hL hz (a) hb ?_
  intro w2 s2
  rw [hy.out]
  go_wp2
  exact s2.tail1.tail1

set_option maxRecDepth 100000 in
set_option maxHeartbeats 4000000 in
theorem c_refWanted (s : Sat W0 w H A) (rm : RefM H (.agg #[.int .u64 size, .slice B n0 c]) size m L) (hL : L ≤ 100000000000) (hz : 0 ≤ size ∧ size ≤ 268435456) (n d a u : Int) (ha : 0 ≤ a ∧ a ≤ 4294967295) (hn : 1 ≤ n ∧ n ≤ 256)
    (k : ∀ w', Sat W0 w' H A → R (.returned (.int .i64 (hw size m (a + 4 + 2 * n)))) w') :
    Calls Try.prog 88 #[.agg #[.int .u64 size, .slice B n0 c], .agg #[.int .i64 n, .int .u64 d, .int .u64 a, .int .u64 u]] w R := by
  have s1 := (s.alloc (c := [.int .u64 size, .slice B n0 c]) (t := 32)).alloc (c := [.int .i64 n, .int .u64 d, .int .u64 a, .int .u64 u]) (t := 25)
  obtain ⟨Z, hZ⟩ : ∃ Z, w.heap.size = Z := ⟨_, rfl⟩
  rw [World.size_alloc, hZ] at s1
  have z0 := s1.cel Z 0 0 rfl
  have z1 := s1.cel Z 0 1 rfl
  have y0 := s1.cel (Z + 1) 0 0 rfl
  have y2 := s1.cel (Z + 1) 0 2 rfl
  simp only [Nat.zero_add] at z0 z1 y0 y2
  have e0 : IntKind.u64.wrap n = n := by rw [wrap_u64]; omega
  have e1 : IntKind.u64.wrap (a + 4) = a + 4 := by rw [wrap_u64]; omega
  have e2 : IntKind.u64.wrap (2 * n) = 2 * n := by rw [wrap_u64]; omega
  have e3 : IntKind.u64.wrap (a + 4 + 2 * n) = a + 4 + 2 * n := by rw [wrap_u64]; omega
  have hb : 0 ≤ a + 4 + 2 * n ∧ a + 4 + 2 * n ≤ 18446744073709551615 := by omega
  have hwb := hw_bd rm.bd size (a + 4 + 2 * n)
  obtain ⟨y, hy⟩ : ∃ y, hw size m (a + 4 + 2 * n) = y := ⟨_, rfl⟩
  rw [hy] at hwb k
  replace hy := aside hy
  have ei : IntKind.i64.wrap y = y := by simp [IntKind.wrap, IntKind.bits, IntKind.signed]; omega
  go_enter Try.func88, Try.ntmps88
  go_wp2_with fail
  refine c_word2 s1 rm hL hz (a + 4 + 2 * n) hb ?_
  intro w2 s2
  rw [hy.out]
  go_wp2
  exact s2.tail1.tail1

set_option maxRecDepth 100000 in
set_option maxHeartbeats 4000000 in
theorem c_refHead (s : Sat W0 w H A) (rm : RefM H (.agg #[.int .u64 size, .slice B n0 c]) size m L) (hL : L ≤ 100000000000) (hz : 0 ≤ size ∧ size ≤ 268435456) (n d a u x : Int) (ha : 0 ≤ a ∧ a ≤ 4294967295) (hn : 1 ≤ n ∧ n ≤ 256) (hx : 0 ≤ x ∧ x ≤ 65535)
    (k : ∀ w', Sat W0 w' H A → R (.returned (.int .i64 (hw size m (a + 4 + 2 * (x % n))))) w') :
    Calls Try.prog 18 #[.agg #[.int .u64 size, .slice B n0 c], .agg #[.int .i64 n, .int .u64 d, .int .u64 a, .int .u64 u], .int .i64 x] w R := by
  have s1 := (s.alloc (c := [.int .u64 size, .slice B n0 c]) (t := 32)).alloc (c := [.int .i64 n, .int .u64 d, .int .u64 a, .int .u64 u]) (t := 25)
  obtain ⟨Z, hZ⟩ : ∃ Z, w.heap.size = Z := ⟨_, rfl⟩
  rw [World.size_alloc, hZ] at s1
  have z0 := s1.cel Z 0 0 rfl
  have z1 := s1.cel Z 0 1 rfl
  have y0 := s1.cel (Z + 1) 0 0 rfl
  have y2 := s1.cel (Z + 1) 0 2 rfl
  simp only [Nat.zero_add] at z0 z1 y0 y2
  have hmod := Int.emod_nonneg x (show n ≠ 0 by omega)
  have hmod2 := Int.emod_lt_of_pos x (show 0 < n by omega)
  have htm : x.tmod n = x % n := Int.tmod_eq_emod_of_nonneg hx.1
  obtain ⟨j, hj⟩ : ∃ j, x % n = j := ⟨_, rfl⟩
  rw [hj] at hmod hmod2 htm k
  have n0' : ¬ n = 0 := by omega
  have nb : (n == 0) = false := by simp [n0']
  have ej : IntKind.i64.wrap j = j := by simp [IntKind.wrap, IntKind.bits, IntKind.signed]; omega
  have e0 : IntKind.u64.wrap j = j := by rw [wrap_u64]; omega
  have e1 : IntKind.u64.wrap (a + 4) = a + 4 := by rw [wrap_u64]; omega
  have e2 : IntKind.u64.wrap (2 * j) = 2 * j := by rw [wrap_u64]; omega
  have e3 : IntKind.u64.wrap (a + 4 + 2 * j) = a + 4 + 2 * j := by rw [wrap_u64]; omega
  have hb : 0 ≤ a + 4 + 2 * j ∧ a + 4 + 2 * j ≤ 18446744073709551615 := by omega
  have hwb := hw_bd rm.bd size (a + 4 + 2 * j)
  obtain ⟨y, hy⟩ : ∃ y, hw size m (a + 4 + 2 * j) = y := ⟨_, rfl⟩
  rw [hy] at hwb k
  replace hy := aside hy
  have ei : IntKind.i64.wrap y = y := by simp [IntKind.wrap, IntKind.bits, IntKind.signed]; omega
  go_enter Try.func18, Try.ntmps18
  go_wp2
  go_region_held3 (fun w' => w'.cell? ⟨Z, 0, none⟩ = some (.int .u64 size) ∧ w'.cell? ⟨Z, 1, none⟩ = some (.slice B n0 c) ∧ w'.cell? ⟨Z + 1, 0, none⟩ = some (.int .i64 n) ∧ w'.cell? ⟨Z + 1, 2, none⟩ = some (.int .u64 a))
    (first
      | exact ⟨z0.1, z1.1, y0.1, y2.1⟩
      | exact ⟨(s2.cel Z 0 0 rfl).1, (s2.cel Z 0 1 rfl).1, (s2.cel (Z + 1) 0 0 rfl).1, (s2.cel (Z + 1) 0 2 rfl).1⟩)
    (first
      | (go_at_call 61; refine c_word2 s1.drew rm hL hz (a + 4 + 2 * j) hb ?_; intro w2 s2; rw [hy.out]))
  all_goals
    go_wp2
    exact s2.tail1.tail1
end
end Go.Proofs.Ytiibiamobkhlbaa

namespace Go.Proofs.Ytiibiamobkhlbaa
open Go.RowKit
set_option linter.unusedVariables false

theorem pow_all : ∀ m : Nat, m < 257 → 1 ≤ m → (bits .and .i64 (m : Int) ((m : Int) - 1) == 0) = decide (powP (m : Int)) := by decide +kernel

theorem run_span0 (x0 x1 x2 x3 x4 x5 : Int) (W : World) : (Instr.index 260 (.agg #[.int .u64 x0, .int .u64 x1, .int .u64 x2, .int .u64 x3, .int .u64 x4, .int .u64 x5]) (.int .i64 0)).run Try.prog W = .ok (.agg #[.int .u64 x0, .int .u64 x1]) W := by kernel_rfl
theorem run_span1 (x0 x1 x2 x3 x4 x5 : Int) (W : World) : (Instr.index 260 (.agg #[.int .u64 x0, .int .u64 x1, .int .u64 x2, .int .u64 x3, .int .u64 x4, .int .u64 x5]) (.int .i64 1)).run Try.prog W = .ok (.agg #[.int .u64 x2, .int .u64 x3]) W := by kernel_rfl
theorem run_span2 (x0 x1 x2 x3 x4 x5 : Int) (W : World) : (Instr.index 260 (.agg #[.int .u64 x0, .int .u64 x1, .int .u64 x2, .int .u64 x3, .int .u64 x4, .int .u64 x5]) (.int .i64 2)).run Try.prog W = .ok (.agg #[.int .u64 x4, .int .u64 x5]) W := by kernel_rfl

section
variable {R : Ending → World → Prop} {W0 w : World} {H : Hp} {A F : List Hp} {b : Nat} {r : RamG} {size : Int}

set_option maxRecDepth 100000 in
set_option maxHeartbeats 4000000 in
theorem c_ringPower (n : Int) (hn : -9223372036854775808 ≤ n ∧ n ≤ 9223372036854775807) (k : R (.returned (.bool (decide (powP n)))) w) : Calls Try.prog 156 #[.int .i64 n] w R := by
  by_cases h1 : 0 < n
  · by_cases h2 : n ≤ 256
    · obtain ⟨m, rfl⟩ := Int.eq_ofNat_of_zero_le (show 0 ≤ n by omega)
      have e := pow_all m (by omega) (by omega)
      have ew : IntKind.i64.wrap ((m : Int) - 1) = (m : Int) - 1 := by simp [IntKind.wrap, IntKind.bits, IntKind.signed]; omega
      rw [← e] at k
      obtain ⟨y, hy⟩ : ∃ y, bits .and .i64 (m : Int) ((m : Int) - 1) = y := ⟨_, rfl⟩
      rw [hy] at k
      clear e
      go_enter Try.func156, Try.ntmps156
      go_wp2
      exact k
    · rw [decide_eq_false (fun h => h2 (powP_bd h).2)] at k
      have h3 : 256 < n := by omega
      clear h2
      go_enter Try.func156, Try.ntmps156
      go_wp2
      exact k
  · rw [decide_eq_false (fun h => h1 (by have := (powP_bd h).1; omega))] at k
    have h3 : n ≤ 0 := by omega
    clear h1
    go_enter Try.func156, Try.ntmps156
    go_wp2
    exact k

set_option maxRecDepth 100000 in
set_option maxHeartbeats 4000000 in
theorem c_MemoryNil (s : Sat W0 w H A)
    (k2 : ∀ w' v' b (r : RamG), r.size = 8192 → RefM H v' 8192 r.mem 13000 → Sat W0 w' H (ramL ⟨b, 0, none⟩ (r, none) ++ A) → R (.returned (.tuple #[.pointer (some ⟨b, 0, none⟩), v'])) w') :
    Calls Try.prog 11 #[.slice none 0 0] w R := by
  have s1 := (s.alloc (c := [.int .u64 0, .slice none 0 0]) (t := 32)).alloc (c := [.int .u64 8192, .slice none 0 0]) (t := 32)
  rw [World.size_alloc] at s1
  obtain ⟨Z, hZ⟩ : ∃ Z, w.heap.size = Z := ⟨_, rfl⟩
  rw [hZ] at s1
  clear s
  go_enter Try.func11, Try.ntmps11
  go_wp2_with fail
  refine c_ramNew2 s1 _ (by omega) ?_; intro w2 b r hz hm s2
  clear s1
  go_wp2
  go_loopg [7] 0 (fun q v7 w' => v7 = .int .i64 0 ∧ w' = w2)
  case atStart => exact ⟨rfl, rfl⟩
  case round =>
    obtain ⟨rfl, rfl⟩ := hrel
    have y0 := s2.cel (Z + 1) 0 0 rfl
    have y1 := s2.cel (Z + 1) 0 1 rfl
    have z0 := s2.cel Z 0 0 rfl
    have z1 := (Sat.s0 (Sat.pull (h := cellsH ⟨Z, 0, none⟩ [.int .u64 0, .slice none 0 0]) s2) (.int .u64 8192)).c 1 rfl
    have s7 := (Sat.s0 (Sat.pull (h := cellsH ⟨Z, 0, none⟩ [.int .u64 0, .slice none 0 0]) s2) (.int .u64 8192)).s 1 (by simp) (.slice none 0 0)
    simp only [List.set_cons_succ, List.set_cons_zero, Nat.zero_add] at s7 y0 y1 z0 z1
    have f0 := s7.c0
    have f1 := s7.c 1 rfl
    simp only [Nat.zero_add] at f0 f1
    go_wp2
    go_region_law (fail)
    all_goals
      try simp only [Act.put, List.getElem_toArray, List.getElem_cons_succ, List.getElem_cons_zero, List.setIfInBounds_toArray, List.set_cons_succ, List.set_cons_zero]
      go_wp2
      refine bodyPost_ret (by simp [results, Try.results11, go_sem, f0.1, f1.1]; try rfl) rfl ?_
      exact k2 _ _ b r hz ⟨_, [], rfl, Rd.nil, by rw [hm]; rfl, by simp⟩ s7.drew.wk

set_option maxRecDepth 100000 in
set_option maxHeartbeats 4000000 in
theorem c_ringCheck (s : Sat W0 w H A) {l : Option LogG} [fr : FrK (κ := Addr) (ρ := fun _ => RamG × Option LogG) ramL ⟨b, 0, none⟩ A (r, l) F] (hsz : r.size = size) (n d a u : Int) (hn : -9223372036854775808 ≤ n ∧ n ≤ 9223372036854775807) (hd : 0 ≤ d ∧ d ≤ 18446744073709551615) (ha : 0 ≤ a ∧ a ≤ 18446744073709551615) (hu : 0 ≤ u ∧ u ≤ 18446744073709551615)
    (k : ∀ w', Sat W0 w' H (ramL ⟨b, 0, none⟩ (r, l) ++ F) → R (.returned (.int .i64 (chk size n d a u))) w') :
    Calls Try.prog 121 #[.pointer (some ⟨b, 0, none⟩), .agg #[.int .i64 n, .int .u64 d, .int .u64 a, .int .u64 u]] w R := by
  have s0 := s.front (mk := ramL) (k := ⟨b, 0, none⟩)
  have s1 := s0.alloc (c := [.int .i64 n, .int .u64 d, .int .u64 a, .int .u64 u]) (t := 25)
  obtain ⟨Z, hZ⟩ : ∃ Z, w.heap.size = Z := ⟨_, rfl⟩
  rw [hZ] at s1
  have y0 := s1.cel Z 0 0 rfl
  have y1 := s1.cel Z 0 1 rfl
  have y2 := s1.cel Z 0 2 rfl
  have y3 := s1.cel Z 0 3 rfl
  simp only [Nat.zero_add] at y0 y1 y2 y3
  clear s s0 fr
  by_cases hlay : layP n d a u
  · obtain ⟨hp, h16, h2, h4⟩ := id hlay
    have hb := powP_bd hp
    have k21 : ¬ liesP size n d a u → ∀ w', Sat W0 w' H (ramL ⟨b, 0, none⟩ (r, l) ++ F) → R (.returned (.int .i64 21)) w' := fun hl w' s' => by have := k w' s'; rwa [chk, if_pos hlay, if_neg hl] at this
    have k0 : liesP size n d a u → ∀ w', Sat W0 w' H (ramL ⟨b, 0, none⟩ (r, l) ++ F) → R (.returned (.int .i64 0)) w' := fun hl w' s' => by have := k w' s'; rwa [chk, if_pos hlay, if_pos hl] at this
    clear k
    go_enter Try.func121, Try.ntmps121
    go_wp2_with fail
    refine c_ringPower n hn ?_
    rw [decide_eq_true hp]
    go_wp2_with fail
    refine c_Aligned d 16 4 rfl (by omega) hd ?_
    rw [decide_eq_true h16]
    go_wp2_with fail
    refine c_Aligned a 2 1 rfl (by omega) ha ?_
    rw [decide_eq_true h2]
    go_wp2_with fail
    refine c_Aligned u 4 2 rfl (by omega) hu ?_
    rw [decide_eq_true h4]
    replace hp := aside hp
    replace hlay := aside hlay
    go_wp2_with fail
    refine c_Areas s1 n d a u (by omega) ?_
    intro w2 s2
    clear s1 y0 y1 y2 y3 h16 h2 h4
    go_wp2
    go_loopg [6, 31] 3 (fun q v6 v31 w' => ∃ i : Nat, q + i = 3 ∧ v31 = .int .i64 i ∧ Aside ((0 < i → hasP size d (16 * n)) ∧ (1 < i → hasP size a (2 * n + 6)) ∧ (2 < i → hasP size u (8 * n + 6))) ∧
      Sat W0 w' H (ramL ⟨b, 0, none⟩ (r, l) ++ F))
    case atStart => exact ⟨0, by simp, rfl, ⟨fun h => absurd h (by omega), fun h => absurd h (by omega), fun h => absurd h (by omega)⟩, s2.tail1.wk⟩
    clear s2
    case round =>
      obtain ⟨i, hq, rfl, hdone, s'⟩ := hrel
      have rs0 := fun W => run_span0 d (16 * n) a (2 * n + 6) u (8 * n + 6) W
      have rs1 := fun W => run_span1 d (16 * n) a (2 * n + 6) u (8 * n + 6) W
      have rs2 := fun W => run_span2 d (16 * n) a (2 * n + 6) u (8 * n + 6) W
      have h3 : i = 0 ∨ i = 1 ∨ i = 2 ∨ i = 3 := by omega
      rcases h3 with rfl | rfl | rfl | rfl
      · by_cases hh : hasP size d (16 * n)
        · have s2 := s'.alloc (c := [.int .u64 d, .int .u64 (16 * n)]) (t := 48)
          obtain ⟨P, hP⟩ : ∃ P, wr.heap.size = P := ⟨_, rfl⟩
          rw [hP] at s2
          have x0 := s2.cel P 0 0 rfl
          have x1 := s2.cel P 0 1 rfl
          simp only [Nat.zero_add] at x0 x1
          have hhr := aside ((has_iff r d (16 * n) (by omega)).2 (by rw [hsz]; exact hh))
          have hnext : Aside _ := aside (show (0 < 1 → hasP size d (16 * n)) ∧ (1 < 1 → hasP size a (2 * n + 6)) ∧ (2 < 1 → hasP size u (8 * n + 6)) from ⟨fun _ => hh, fun h => absurd h (by omega), fun h => absurd h (by omega)⟩)
          clear hdone k0 k21 hh s'
          go_wp2_with fail
          refine c_ramHas s2 d (16 * n) hd (by omega) ?_
          rw [decide_eq_true hhr.out]
          go_wp2
          go_roundg (gk - 1)
          case measure => omega
          case rel => exact ⟨1, by omega, by go_num, hnext, s2.tail1⟩
        · have s2 := s'.alloc (c := [.int .u64 d, .int .u64 (16 * n)]) (t := 48)
          obtain ⟨P, hP⟩ : ∃ P, wr.heap.size = P := ⟨_, rfl⟩
          rw [hP] at s2
          have x0 := s2.cel P 0 0 rfl
          have x1 := s2.cel P 0 1 rfl
          simp only [Nat.zero_add] at x0 x1
          have hhr := aside (fun q => hh (by rw [← hsz]; exact (has_iff r d (16 * n) (by omega)).1 q))
          have K := k21 (fun hl => hh hl.1)
          clear hdone k0 k21 hh s'
          go_wp2_with fail
          refine c_ramHas s2 d (16 * n) hd (by omega) ?_
          rw [decide_eq_false hhr.out]
          go_wp2
          exact s2.tail1
      · by_cases hh : hasP size a (2 * n + 6)
        · have s2 := s'.alloc (c := [.int .u64 a, .int .u64 (2 * n + 6)]) (t := 48)
          obtain ⟨P, hP⟩ : ∃ P, wr.heap.size = P := ⟨_, rfl⟩
          rw [hP] at s2
          have x0 := s2.cel P 0 0 rfl
          have x1 := s2.cel P 0 1 rfl
          simp only [Nat.zero_add] at x0 x1
          have hhr := aside ((has_iff r a (2 * n + 6) (by omega)).2 (by rw [hsz]; exact hh))
          have hnext : Aside _ := aside (show (0 < 2 → hasP size d (16 * n)) ∧ (1 < 2 → hasP size a (2 * n + 6)) ∧ (2 < 2 → hasP size u (8 * n + 6)) from ⟨fun _ => hdone.out.1 (by omega), fun _ => hh, fun h => absurd h (by omega)⟩)
          clear hdone k0 k21 hh s'
          go_wp2_with fail
          refine c_ramHas s2 a (2 * n + 6) ha (by omega) ?_
          rw [decide_eq_true hhr.out]
          go_wp2
          go_roundg (gk - 1)
          case measure => omega
          case rel => exact ⟨2, by omega, by go_num, hnext, s2.tail1⟩
        · have s2 := s'.alloc (c := [.int .u64 a, .int .u64 (2 * n + 6)]) (t := 48)
          obtain ⟨P, hP⟩ : ∃ P, wr.heap.size = P := ⟨_, rfl⟩
          rw [hP] at s2
          have x0 := s2.cel P 0 0 rfl
          have x1 := s2.cel P 0 1 rfl
          simp only [Nat.zero_add] at x0 x1
          have hhr := aside (fun q => hh (by rw [← hsz]; exact (has_iff r a (2 * n + 6) (by omega)).1 q))
          have K := k21 (fun hl => hh hl.2.1)
          clear hdone k0 k21 hh s'
          go_wp2_with fail
          refine c_ramHas s2 a (2 * n + 6) ha (by omega) ?_
          rw [decide_eq_false hhr.out]
          go_wp2
          exact s2.tail1
      · by_cases hh : hasP size u (8 * n + 6)
        · have s2 := s'.alloc (c := [.int .u64 u, .int .u64 (8 * n + 6)]) (t := 48)
          obtain ⟨P, hP⟩ : ∃ P, wr.heap.size = P := ⟨_, rfl⟩
          rw [hP] at s2
          have x0 := s2.cel P 0 0 rfl
          have x1 := s2.cel P 0 1 rfl
          simp only [Nat.zero_add] at x0 x1
          have hhr := aside ((has_iff r u (8 * n + 6) (by omega)).2 (by rw [hsz]; exact hh))
          have hnext : Aside _ := aside (show (0 < 3 → hasP size d (16 * n)) ∧ (1 < 3 → hasP size a (2 * n + 6)) ∧ (2 < 3 → hasP size u (8 * n + 6)) from ⟨fun _ => hdone.out.1 (by omega), fun _ => hdone.out.2.1 (by omega), fun _ => hh⟩)
          clear hdone k0 k21 hh s'
          go_wp2_with fail
          refine c_ramHas s2 u (8 * n + 6) hu (by omega) ?_
          rw [decide_eq_true hhr.out]
          go_wp2
          go_roundg (gk - 1)
          case measure => omega
          case rel => exact ⟨3, by omega, by go_num, hnext, s2.tail1⟩
        · have s2 := s'.alloc (c := [.int .u64 u, .int .u64 (8 * n + 6)]) (t := 48)
          obtain ⟨P, hP⟩ : ∃ P, wr.heap.size = P := ⟨_, rfl⟩
          rw [hP] at s2
          have x0 := s2.cel P 0 0 rfl
          have x1 := s2.cel P 0 1 rfl
          simp only [Nat.zero_add] at x0 x1
          have hhr := aside (fun q => hh (by rw [← hsz]; exact (has_iff r u (8 * n + 6) (by omega)).1 q))
          have K := k21 (fun hl => hh hl.2.2)
          clear hdone k0 k21 hh s'
          go_wp2_with fail
          refine c_ramHas s2 u (8 * n + 6) hu (by omega) ?_
          rw [decide_eq_false hhr.out]
          go_wp2
          exact s2.tail1
      · have K := k0 ⟨hdone.out.1 (by omega), hdone.out.2.1 (by omega), hdone.out.2.2 (by omega)⟩
        clear k0 k21
        go_wp2
        exact s'
  · have k150 : ∀ w', Sat W0 w' H (ramL ⟨b, 0, none⟩ (r, l) ++ F) → R (.returned (.int .i64 150)) w' := fun w' s' => by have := k w' s'; rwa [chk, if_neg hlay] at this
    clear k
    by_cases hp : powP n
    · by_cases h16 : d % 16 = 0
      · by_cases h2 : a % 2 = 0
        · have h4 : ¬ u % 4 = 0 := fun h => hlay ⟨hp, h16, h2, h⟩
          go_enter Try.func121, Try.ntmps121
          go_wp2_with fail
          refine c_ringPower n hn ?_
          rw [decide_eq_true hp]
          go_wp2_with fail
          refine c_Aligned d 16 4 rfl (by omega) hd ?_
          rw [decide_eq_true h16]
          go_wp2_with fail
          refine c_Aligned a 2 1 rfl (by omega) ha ?_
          rw [decide_eq_true h2]
          go_wp2_with fail
          refine c_Aligned u 4 2 rfl (by omega) hu ?_
          rw [decide_eq_false h4]
          go_wp2
          exact s1.tail1
        · go_enter Try.func121, Try.ntmps121
          go_wp2_with fail
          refine c_ringPower n hn ?_
          rw [decide_eq_true hp]
          go_wp2_with fail
          refine c_Aligned d 16 4 rfl (by omega) hd ?_
          rw [decide_eq_true h16]
          go_wp2_with fail
          refine c_Aligned a 2 1 rfl (by omega) ha ?_
          rw [decide_eq_false h2]
          go_wp2
          exact s1.tail1
      · go_enter Try.func121, Try.ntmps121
        go_wp2_with fail
        refine c_ringPower n hn ?_
        rw [decide_eq_true hp]
        go_wp2_with fail
        refine c_Aligned d 16 4 rfl (by omega) hd ?_
        rw [decide_eq_false h16]
        go_wp2
        exact s1.tail1
    · go_enter Try.func121, Try.ntmps121
      go_wp2_with fail
      refine c_ringPower n hn ?_
      rw [decide_eq_false hp]
      go_wp2
      exact s1.tail1
end
end Go.Proofs.Ytiibiamobkhlbaa

namespace Go.Proofs.Ytiibiamobkhlbaa
open Go.RowKit
set_option linter.unusedVariables false
set_option linter.unusedSimpArgs false

section
variable {R : Ending → World → Prop} {W0 w : World} {H : Hp} {A F : List Hp} {b : Nat} {r : RamG} {l : Option LogG}

theorem rdOwn {v : Value} {n : Nat} {xs : List Int} {h : Hp} (own : OwnS 1 v n (xs.map (Value.int .u8)) h) (hx : ∀ x ∈ xs, 0 ≤ x ∧ x ≤ 255) (hn : xs.length = n) : ∃ A c, v = .slice A n c ∧ Rd u8E 1 h (.slice A n c) xs := by
  obtain ⟨A, c, rfl, r⟩ := (own.rd hx).open_
  rw [hn] at r ⊢
  exact ⟨A, c, rfl, r⟩

set_option maxRecDepth 100000 in
set_option maxHeartbeats 4000000 in
theorem c_ringPut (s : Sat W0 w H A) [fr : FrK (κ := Addr) (ρ := fun _ => RamG × Option LogG) ramL ⟨b, 0, none⟩ A (r, l) F] (n d a u x i c : Int) (hn : 1 ≤ n ∧ n ≤ 256) (hu : 0 ≤ u ∧ hasP r.size u (8 * n + 6)) (hx : 0 ≤ x ∧ x ≤ 65535) (hi : 0 ≤ i ∧ i ≤ 65535) (hc : 0 ≤ c ∧ c ≤ 4294967295)
    (k : ∀ w' r' l', r'.size = r.size → r'.mem = putB r.mem (u + 4 + 8 * (x % n)) (leb i 4 ++ leb c 4) → lgs l' = addW (u + 4 + 8 * (x % n)) 8 (lgs l) → Sat W0 w' H (ramL ⟨b, 0, none⟩ (r', l') ++ F) → R (.returned (.bool true)) w') :
    Calls Try.prog 80 #[.pointer (some ⟨b, 0, none⟩), .agg #[.int .i64 n, .int .u64 d, .int .u64 a, .int .u64 u], .int .u16 x, .int .u16 i, .int .u32 c] w R := by
  have hz := r.hsize
  obtain ⟨hu0, hu1, hu2⟩ := hu
  have s1 := (s.front (mk := ramL) (k := ⟨b, 0, none⟩)).alloc (c := [.int .i64 n, .int .u64 d, .int .u64 a, .int .u64 u]) (t := 25)
  have y0 := s1.c 0 rfl
  have y3 := s1.c 3 rfl
  simp only [Nat.zero_add] at y0 y3
  have hmax : max n 1 = n := by omega
  have hmod := Int.emod_nonneg x (show n ≠ 0 by omega)
  have hmod2 := Int.emod_lt_of_pos x (show 0 < n by omega)
  have htm : x.tmod n = x % n := Int.tmod_eq_emod_of_nonneg hx.1
  obtain ⟨j, hj⟩ : ∃ j, x % n = j := ⟨_, rfl⟩
  rw [hj] at hmod hmod2 htm k
  obtain ⟨Z, hZ⟩ : ∃ Z, w.heap.size = Z := ⟨_, rfl⟩
  rw [hZ] at s1 y0 y3
  have q1 : ¬ max n 1 = 0 := by omega
  have q2 : (max n 1 == 0) = false := by simp; omega
  have q3 : x.tmod (max n 1) = j := by rw [hmax]; exact htm
  have q4 : x % (max n 1) = j := by rw [hmax]; exact hj
  have n0 : ¬ n = 0 := by omega
  have nb : (n == 0) = false := by simp [n0]
  have ej : IntKind.i64.wrap j = j := by simp [IntKind.wrap, IntKind.bits, IntKind.signed]; omega
  have e0 : IntKind.u64.wrap j = j := by rw [wrap_u64]; omega
  have e1 : IntKind.u64.wrap (u + 4) = u + 4 := by rw [wrap_u64]; omega
  have e2 : IntKind.u64.wrap (8 * j) = 8 * j := by rw [wrap_u64]; omega
  obtain ⟨at', hat⟩ : ∃ at', u + 4 + 8 * j = at' := ⟨_, rfl⟩
  have e3 : IntKind.u64.wrap (u + 4 + 8 * j) = at' := by rw [wrap_u64]; omega
  have hab := aside (show 0 ≤ at' ∧ at' ≤ 18446744073709551615 by omega)
  have hhas := aside (show r.has at' 8 by unfold RamG.has; omega)
  have hib := aside (show 0 ≤ i ∧ i ≤ 18446744073709551615 by omega)
  have hcb := aside (show 0 ≤ c ∧ c ≤ 18446744073709551615 by omega)
  rw [hat] at k
  replace hat := aside hat
  clear hu1 hu2 hu0 hz s fr
  go_enter Try.func80, Try.ntmps80
  go_wp2
  go_region_with (fail)
  all_goals
    try simp only [Act.put, List.getElem_toArray, List.getElem_cons_succ, List.getElem_cons_zero, List.setIfInBounds_toArray, List.set_cons_succ, List.set_cons_zero]
    have s2 := s1.drew
    generalize World.drew _ = w2 at s2 ⊢
    clear y0 y3 s1 q1 q2 q3 q4 n0 nb ej e0 e1 e2 e3 hmod hmod2 htm hmax hj
    go_wp2_with fail
    refine c_wordBytes s2 i hib.out 4 4 rfl (by omega) ?_
    intro w3 v3 h3 own3 s3
    clear s2
    go_wp2_with fail
    refine c_wordBytes s3 c hcb.out 4 4 rfl (by omega) ?_
    intro w4 v4 h4 own4 s4
    clear s3
    obtain ⟨X4, cp4, _, rfl, _⟩ := id own4
    go_wp2_with (at_builtin; refine append8 rfl (.tmp 28) (.tmp 31) rfl rfl own3 s4 rfl (leb c 4) (leb_len _ _) (rowR_owned own4 s4) (by omega) ?_; intro A5 cap5 w5 h5 own5 s5)
    rw [← List.map_append] at own5
    have rd5 := own5.rd (fun y hy => by rcases List.mem_append.1 hy with h | h <;> exact leb_bd _ _ y h)
    have hln : (leb i 4 ++ leb c 4).length = 8 := by rw [List.length_append, leb_len, leb_len]
    refine c_ramWrite s5 at' hab.out rd5 (fun w' q => (Sat.pull (h := h5) q).head) (fun h => absurd hhas.out (by rw [hln] at h; exact h)) ?_
    intro _ w6 r6 l6 hm6 hz6 hl6 s6
    rw [hln] at hl6
    clear s4 s5 own3 own4 own5 rd5 hln
    have K := k w6 r6 l6 hz6 hm6 hl6 s6.wk
    clear k hm6 hl6 hz6 s6
    go_wp2
    exact K

set_option maxRecDepth 100000 in
set_option maxHeartbeats 4000000 in
theorem c_ringPublish (s : Sat W0 w H A) [fr : FrK (κ := Addr) (ρ := fun _ => RamG × Option LogG) ramL ⟨b, 0, none⟩ A (r, l) F] (n d a u x : Int) (hn : 1 ≤ n ∧ n ≤ 256) (hu : 0 ≤ u ∧ hasP r.size u (8 * n + 6)) (hx : 0 ≤ x ∧ x ≤ 65535)
    (k : ∀ w' r' l', r'.size = r.size → r'.mem = putB r.mem (u + 2) (leb x 2) → lgs l' = addW (u + 2) 2 (lgs l) → Sat W0 w' H (ramL ⟨b, 0, none⟩ (r', l') ++ F) → R (.returned (.bool true)) w') :
    Calls Try.prog 81 #[.pointer (some ⟨b, 0, none⟩), .agg #[.int .i64 n, .int .u64 d, .int .u64 a, .int .u64 u], .int .u16 x] w R := by
  have hz := r.hsize
  obtain ⟨hu0, hu1, hu2⟩ := hu
  have s1 := (s.front (mk := ramL) (k := ⟨b, 0, none⟩)).alloc (c := [.int .i64 n, .int .u64 d, .int .u64 a, .int .u64 u]) (t := 25)
  have y3 := s1.c 3 rfl
  obtain ⟨Z, hZ⟩ : ∃ Z, w.heap.size = Z := ⟨_, rfl⟩
  rw [hZ] at s1 y3
  simp only [Nat.zero_add] at y3
  obtain ⟨at', hat⟩ : ∃ at', u + 2 = at' := ⟨_, rfl⟩
  have e3 : IntKind.u64.wrap (u + 2) = at' := by rw [wrap_u64]; omega
  have hab := aside (show 0 ≤ at' ∧ at' ≤ 18446744073709551615 by omega)
  have hhas := aside (show r.has at' ((leb x 2).length : Int) by rw [leb_len]; unfold RamG.has; omega)
  have hxb := aside (show 0 ≤ x ∧ x ≤ 18446744073709551615 by omega)
  have ex : IntKind.u64.wrap x = x := by rw [wrap_u64]; omega
  rw [hat] at k
  replace hat := aside hat
  clear hu1 hu2 hu0 hz s fr
  go_enter Try.func81, Try.ntmps81
  have s1d := s1.drew
  have g1 := (s1d.cel Z 0 3 rfl).1
  simp only [Nat.zero_add, Nat.add_zero] at g1
  go_wp2
  go_region_held3 (fun w' => w'.cell? ⟨Z, 3, none⟩ = some (.int .u64 u))
    (first
      | with_reducible exact g1
      | with_reducible exact g5
      | with_reducible exact g6)
    (first
      | (go_at_call 56; have hs := s5; with_reducible (refine c_ramWrite hs at' hab.out rd5 (fun w' q => (Sat.pull (h := h5) q).head) (fun h => absurd hhas.out h) ?_); intro _ w6 r6 l6 hm6 hz6 hl6 s6; rw [leb_len] at hl6
         have g6 := (s6.cel Z 0 3 rfl).1
         simp only [Nat.zero_add, Nat.add_zero] at g6
         have arm : True := trivial)
      | (go_at_call 72; with_reducible (refine c_wordBytes s1d x hxb.out 2 2 rfl (by omega) ?_); intro w5 v5 h5 own5 s5; have rd5 := own5.rd (leb_bd _ _)
         have g5 := (s5.cel Z 0 3 rfl).1
         simp only [Nat.zero_add, Nat.add_zero] at g5
         have arm : True := trivial))
  all_goals
    try simp only [Act.put, List.getElem_toArray, List.getElem_cons_succ, List.getElem_cons_zero, List.setIfInBounds_toArray, List.set_cons_succ, List.set_cons_zero]
    have K := k w6 r6 l6 hz6 hm6 hl6 s6.wk
    clear k hm6 hl6 hz6 s6
    go_wp2
    exact K

set_option maxRecDepth 100000 in
set_option maxHeartbeats 4000000 in
theorem c_ringWant (s : Sat W0 w H A) [fr : FrK (κ := Addr) (ρ := fun _ => RamG × Option LogG) ramL ⟨b, 0, none⟩ A (r, l) F] (n d a u x : Int) (hn : 1 ≤ n ∧ n ≤ 256) (hu : 0 ≤ u ∧ hasP r.size u (8 * n + 6)) (hx : 0 ≤ x ∧ x ≤ 65535)
    (k : ∀ w' r' l', r'.size = r.size → r'.mem = putB r.mem (u + 4 + 8 * n) (leb x 2) → lgs l' = addW (u + 4 + 8 * n) 2 (lgs l) → Sat W0 w' H (ramL ⟨b, 0, none⟩ (r', l') ++ F) → R (.returned (.bool true)) w') :
    Calls Try.prog 90 #[.pointer (some ⟨b, 0, none⟩), .agg #[.int .i64 n, .int .u64 d, .int .u64 a, .int .u64 u], .int .u16 x] w R := by
  have hz := r.hsize
  obtain ⟨hu0, hu1, hu2⟩ := hu
  have s1 := (s.front (mk := ramL) (k := ⟨b, 0, none⟩)).alloc (c := [.int .i64 n, .int .u64 d, .int .u64 a, .int .u64 u]) (t := 25)
  have y0 := s1.c 0 rfl
  have y3 := s1.c 3 rfl
  obtain ⟨Z, hZ⟩ : ∃ Z, w.heap.size = Z := ⟨_, rfl⟩
  rw [hZ] at s1 y3 y0
  simp only [Nat.zero_add] at y3 y0
  have e0 : IntKind.u64.wrap n = n := by rw [wrap_u64]; omega
  have e1 : IntKind.u64.wrap (u + 4) = u + 4 := by rw [wrap_u64]; omega
  have e2 : IntKind.u64.wrap (8 * n) = 8 * n := by rw [wrap_u64]; omega
  obtain ⟨at', hat⟩ : ∃ at', u + 4 + 8 * n = at' := ⟨_, rfl⟩
  have e3 : IntKind.u64.wrap (u + 4 + 8 * n) = at' := by rw [wrap_u64]; omega
  have hab := aside (show 0 ≤ at' ∧ at' ≤ 18446744073709551615 by omega)
  have hhas := aside (show r.has at' ((leb x 2).length : Int) by rw [leb_len]; unfold RamG.has; omega)
  have hxb := aside (show 0 ≤ x ∧ x ≤ 18446744073709551615 by omega)
  have ex : IntKind.u64.wrap x = x := by rw [wrap_u64]; omega
  rw [hat] at k
  replace hat := aside hat
  clear hu1 hu2 hu0 hz s fr
  go_enter Try.func90, Try.ntmps90
  have s1d := s1.drew
  have g1 := And.intro (s1d.cel Z 0 0 rfl).1 (s1d.cel Z 0 3 rfl).1
  simp only [Nat.zero_add, Nat.add_zero] at g1
  go_wp2
  go_region_held3 (fun w' => w'.cell? ⟨Z, 0, none⟩ = some (.int .i64 n) ∧ w'.cell? ⟨Z, 3, none⟩ = some (.int .u64 u))
    (first
      | with_reducible exact g1
      | with_reducible exact g5
      | with_reducible exact g6)
    (first
      | (go_at_call 56; have hs := s5; with_reducible (refine c_ramWrite hs at' hab.out rd5 (fun w' q => (Sat.pull (h := h5) q).head) (fun h => absurd hhas.out h) ?_); intro _ w6 r6 l6 hm6 hz6 hl6 s6; rw [leb_len] at hl6
         have g6 := And.intro (s6.cel Z 0 0 rfl).1 (s6.cel Z 0 3 rfl).1
         simp only [Nat.zero_add, Nat.add_zero] at g6
         have arm : True := trivial)
      | (go_at_call 72; with_reducible (refine c_wordBytes s1d x hxb.out 2 2 rfl (by omega) ?_); intro w5 v5 h5 own5 s5; have rd5 := own5.rd (leb_bd _ _)
         have g5 := And.intro (s5.cel Z 0 0 rfl).1 (s5.cel Z 0 3 rfl).1
         simp only [Nat.zero_add, Nat.add_zero] at g5
         have arm : True := trivial))
  all_goals
    try simp only [Act.put, List.getElem_toArray, List.getElem_cons_succ, List.getElem_cons_zero, List.setIfInBounds_toArray, List.set_cons_succ, List.set_cons_zero]
    have K := k w6 r6 l6 hz6 hm6 hl6 s6.wk
    clear k hm6 hl6 hz6 s6
    go_wp2
    exact K
end
end Go.Proofs.Ytiibiamobkhlbaa

namespace Go.Proofs.Ytiibiamobkhlbaa
open Go.RowKit
set_option linter.unusedVariables false

section
variable {P : Program} {W0 w : World} {H : Hp} {F : List Hp}

theorem run_setIter {r : Nat} {a : Option Nat} {b c0 : Nat} {s : Array Nat} (h : w.heap[r]? = some (.mapIter a b s c0)) (o : Obj) : (setObj r o).run P w = .ok () (setO w r o) := by
  simp only [setObj, Sem.run, h]
  rfl

theorem next_sat {r bm since c0 clock : Nat} {seen : Array Nat} {es : Array MapEntry} (ty : TypeId) (s : Sat W0 w H (objH r (.mapIter (some bm) since seen c0) :: objH bm (.map es clock) :: F)) (hold : ∀ x ∈ es.toList, x.born < since) (hsc : since ≤ c0) :
    ((leftOf es seen).size = 0 ∧ (Instr.next (.pointer (some ⟨r, 0, none⟩)) false ty).run P w = .ok (.tuple #[.bool false]) w) ∨
    ∃ e ∈ (leftOf es seen).toList, ∃ w1 : World, (Instr.next (.pointer (some ⟨r, 0, none⟩)) false ty).run P w = .ok (.tuple #[.bool true, e.key, e.val]) w1 ∧ Sat W0 w1 H (objH r (.mapIter (some bm) since (seen.push e.born) clock) :: objH bm (.map es clock) :: F) := by
  have hr := s.obj (b := r) (o := .mapIter (some bm) since seen c0) (List.mem_cons_self ..)
  have hb := s.obj (b := bm) (o := .map es clock) (by simp)
  simp only [Instr.next, getObj, Sem.run_bind, Sem.run, hr, hb, Result.andThen, next_test_false seen es since c0 hold hsc, Bool.false_eq_true, if_false]
  unfold leftOf
  have hmem : ∀ x ∈ (Array.filter (fun e => !seen.contains e.born) es).toList, x.born < since := fun x hx => hold x (by simp at hx ⊢; exact hx.1)
  generalize Array.filter (fun e => !seen.contains e.born) es = L at hmem ⊢
  have e1 : L.filter (fun x => decide (x.born < since)) = L := Array.filter_eq_self.2 (fun x hx => by simpa using hmem x (by simpa using hx))
  have e2 : L.filter (fun x => decide (x.born ≥ since)) = #[] := by
    rw [Array.filter_eq_empty_iff]
    intro x hx
    have := hmem x (by simpa using hx)
    simp
    omega
  simp only [e1, e2, Array.append_empty]
  by_cases h0 : L.size = 0
  · left
    have : L = #[] := Array.eq_empty_of_size_eq_zero h0
    subst this
    refine ⟨rfl, ?_⟩
    simp [choose, Sem.run, Question.forced]
  · right
    have hne : L.isEmpty = false := by simp [Array.isEmpty, h0]
    simp only [hne, Bool.false_eq_true, if_false, Array.empty_append, Array.size_map]
    have hch : ∃ (j : Nat) (w1 : World), j < L.size ∧ Sat W0 w1 H (objH r (.mapIter (some bm) since seen c0) :: objH bm (.map es clock) :: F) ∧ (choose (Question.mapNext L.size)).run P w = .ok j w1 := by
      by_cases hf : L.size ≤ 1
      · exact ⟨0, w, by omega, s, by simp [choose, Sem.run, Question.forced, hf]⟩
      · exact ⟨_, w.drew, Nat.mod_lt _ (by omega), s.drew, by
          simp only [choose, Sem.run, Question.forced, decide_eq_true_eq, hf, if_false, Question.cut]
          rfl⟩
    obtain ⟨j, w1, hj, s1, hrun⟩ := hch
    have hr1 := s1.obj (b := r) (o := .mapIter (some bm) since seen c0) (List.mem_cons_self ..)
    have s2 := s1.setO (o' := .mapIter (some bm) since (seen.push L[j].born) clock) (h' := objH r (.mapIter (some bm) since (seen.push L[j].born) clock)) rfl (by intro c t f h; cases h) rfl
    refine ⟨L[j], by simp, _, ?_, s2⟩
    simp only [hrun, Array.getElem?_map, Array.getElem?_eq_getElem hj, Option.map_some, Sem.run_bind, run_setIter hr1, Result.andThen]
    rfl

theorem entry_sat {r bm since clock : Nat} {seen : Array Nat} {es : Array MapEntry} {e : MapEntry} (s : Sat W0 w H (objH r (.mapIter (some bm) since (seen.push e.born) clock) :: objH bm (.map es clock) :: F)) (he : e ∈ es.toList) (hn : (es.toList.map (·.born)).Nodup) :
    (Instr.entry (.pointer (some ⟨r, 0, none⟩))).run P w = .ok (.tuple #[e.key, e.val]) w := by
  have hr := s.obj (b := r) (o := .mapIter (some bm) since (seen.push e.born) clock) (List.mem_cons_self ..)
  have hb := s.obj (b := bm) (o := .map es clock) (by simp)
  have hf : es.find? (·.born == e.born) = some e := by rw [← Array.find?_toList]; exact find_born e es.toList hn he
  simp only [Instr.entry, getObj, Sem.run_bind, Sem.run, hr, hb, Result.andThen, Array.back?_push, bne_self_eq_false, Bool.false_eq_true, if_false, hf]
  rfl
end
end Go.Proofs.Ytiibiamobkhlbaa

namespace Go.Proofs.Ytiibiamobkhlbaa
open Go.RowKit
set_option linter.unusedVariables false

theorem hz8R : (Try.prog.info? 5).map (·.size) = some 1 := by kernel_rfl
theorem page_size : (Try.prog.info? 182).map (·.size) = some 4096 := by kernel_rfl

/-- the pages behind a sector that was put -/
theorem pages_putR {ents : List Ent} {mem : Int → Int} {k P ck : Nat} {bs : List Int} (hk : ents.Pairwise (·.key ≠ ·.key)) (hb : ents.Pairwise (·.blk ≠ ·.blk)) (hborn : ents.Pairwise (·.born ≠ ·.born) ∧ ∀ e ∈ ents, e.born < ck) (hf : ∀ x ∈ ents, x.blk ≠ P) (hl : bs.length = 4096) :
    un (pagesH 2147483648 4096 (ents.filter (fun x => x.key ≠ k)) mem) (cellsH ⟨P, 0, none⟩ (bs.map (Value.int .u8))) = pagesH 2147483648 4096 (putEnt ents k P ck) (putB mem ((2147483648 + 4096 * k : Nat) : Int) bs) := by
  obtain ⟨q1, q2, q3⟩ := putEnt_pw (k := k) hk hb hborn hf
  have hb2 : (ents.filter (fun x => x.key ≠ k)).Pairwise (·.blk ≠ ·.blk) := hb.sublist (List.filter_sublist)
  funext l
  cases l with
  | obj b => simp [un, pagesH, cellsH]
  | cell b o =>
    by_cases hP : b = P
    · subst hP
      obtain ⟨x, hx, hxk, hxb⟩ := putEnt_new (ents := ents) (k := k) (P := b) (ck := ck)
      have h1 : pagesH 2147483648 4096 (ents.filter (fun x => x.key ≠ k)) mem (.cell b o) = none := by
        simp only [pagesH, find_none (fun x hm => hf x (List.mem_filter.1 hm).1)]
      have h2 := find_blk q2 hx
      rw [hxb] at h2
      simp only [un, h1, Option.none_or]
      simp only [pagesH, h2, cellsH, Nat.zero_le, and_self, if_true, Nat.sub_zero, List.getElem?_map]
      by_cases ho : o < 4096
      · rw [if_pos ho, List.getElem?_eq_getElem (by omega)]
        unfold putB
        rw [hxk, if_pos (by omega), show (((2147483648 + 4096 * k + o : Nat) : Int) - ((2147483648 + 4096 * k : Nat) : Int)).toNat = o by omega, List.getElem?_eq_getElem (by omega)]
        simp
      · rw [if_neg ho, List.getElem?_eq_none (by omega)]; rfl
    · have h3 : cellsH ⟨P, 0, none⟩ (bs.map (Value.int .u8)) (.cell b o) = none := by simp [cellsH, hP]
      simp only [un, h3, Option.or_none]
      by_cases hx : ∃ x ∈ ents, x.key ≠ k ∧ x.blk = b
      · obtain ⟨x, hx, hxk, rfl⟩ := hx
        have hx2 : x ∈ ents.filter (fun x => x.key ≠ k) := List.mem_filter.2 ⟨hx, by simp [hxk]⟩
        simp only [pagesH, find_blk hb2 hx2, find_blk q2 (putEnt_old (P := P) (ck := ck) hx hxk)]
        by_cases ho : o < 4096
        · rw [if_pos ho, if_pos ho]
          have e : putB mem ((2147483648 + 4096 * k : Nat) : Int) bs ((2147483648 + 4096 * x.key + o : Nat) : Int) = mem ((2147483648 + 4096 * x.key + o : Nat) : Int) := by
            unfold putB
            split
            · rename_i h
              rw [List.getElem?_eq_none (by omega)]; rfl
            · rfl
          rw [e]
        · rw [if_neg ho, if_neg ho]
      · have n1 : (ents.filter (fun x => x.key ≠ k)).find? (fun x => x.blk == b) = none := find_none (fun x hm e => hx ⟨x, (List.mem_filter.1 hm).1, by simpa using (List.mem_filter.1 hm).2, e⟩)
        have n2 : (putEnt ents k P ck).find? (fun x => x.blk == b) = none := find_none (fun x hm e => by
          rcases mem_putEnt hm with ⟨h1, h2⟩ | ⟨h1, h2⟩
          · exact hx ⟨x, h1, h2, e⟩
          · exact hP (e.symm.trans h2))
        simp only [pagesH, n1, n2]

theorem pages_rowR {w : World} {ents : List Ent} {mem : Int → Int} (hh : Holds w (pagesH 2147483648 4096 ents mem)) (hb : ents.Pairwise (·.blk ≠ ·.blk)) {e : Ent} (he : e ∈ ents) : RowR w (some ⟨e.blk, 0, none⟩) ((rdB mem ((2147483648 + 4096 * e.key : Nat) : Int) 4096).map (Value.int .u8)) := by
  intro _
  refine ⟨e.blk, 0, rfl, fun j u hu => ?_⟩
  have hj : j < 4096 := by
    rcases Nat.lt_or_ge j 4096 with h | h
    · exact h
    · rw [List.getElem?_eq_none (by rw [List.length_map, rdB_len]; exact h)] at hu; cases hu
  rw [List.getElem?_map, rdB_get _ _ _ _ hj] at hu
  obtain rfl := Option.some.inj hu
  have := look_cell (hh _ _ (pagesH_at (base := 2147483648) (sz := 4096) (mem := mem) hb he hj))
  rw [Nat.zero_add, show ((2147483648 + 4096 * e.key : Nat) : Int) + (j : Int) = ((2147483648 + 4096 * e.key + j : Nat) : Int) by omega]
  exact this.1

theorem pagesH_noneR (base sz : Nat) (m : Int → Int) : pagesH base sz [] m = empH := by
  funext x; cases x <;> rfl

section
variable {R : Ending → World → Prop} {W0 w : World} {H : Hp} {A F : List Hp} {b : Nat} {d : RamG}

theorem RamG.page_zeroR (d : RamG) {k : Nat} (h : ∀ e ∈ d.ents, e.key ≠ k) : rdB d.mem ((2147483648 + 4096 * k : Nat) : Int) 4096 = List.replicate 4096 0 :=
  rdB_zero 4096 fun i hi => by
    have := d.hzero k h i hi
    rwa [show ((2147483648 + 4096 * k + i : Nat) : Int) = ((2147483648 + 4096 * k : Nat) : Int) + (i : Int) by omega] at this

theorem ram_put {P k : Nat} {bs : List Int} (s : Sat W0 w H (cellsH ⟨P, 0, none⟩ (bs.map (Value.int .u8)) :: (ramL ⟨b, 0, none⟩ (d, none) ++ F))) (hl : bs.length = 4096) (hbs : ∀ x ∈ bs, 0 ≤ x ∧ x ≤ 255) (hk : ((4096 * k : Nat) : Int) < d.size) :
    ∃ d', d'.size = d.size ∧ d'.mem = putB d.mem ((2147483648 + 4096 * k : Nat) : Int) bs ∧ d'.mb = d.mb ∧ Sat W0 (setO w d.mb (.map ((putEnt d.ents k P d.ck).map Ent.me).toArray (putCk d.ents k d.ck))) H (ramL ⟨b, 0, none⟩ (d', none) ++ F) := by
  simp only [ramL, List.cons_append, List.nil_append] at s
  have hf : ∀ x ∈ d.ents, x.blk ≠ P := fun x hx e => by
    have hp := (List.pairwise_cons.1 s.apart).1 (pagesH 2147483648 4096 d.ents d.mem) (by simp)
    have h1 := pagesH_at (base := 2147483648) (sz := 4096) (mem := d.mem) (o := 0) d.hblk hx (by omega)
    rw [e] at h1
    have h2 : ∃ c, cellsH ⟨P, 0, none⟩ (bs.map (Value.int .u8)) (.cell P 0) = some c := by
      simp only [cellsH, Nat.le_refl, and_self, if_true, List.getElem?_map]
      rw [List.getElem?_eq_getElem (by omega)]; exact ⟨_, rfl⟩
    obtain ⟨c, h2⟩ := h2
    rcases hp (.cell P 0) with h | h
    · rw [h2] at h; cases h
    · rw [h1] at h; cases h
  obtain ⟨q1, q2, q3⟩ := putEnt_pw (k := k) d.hkey d.hblk d.hborn hf
  have s2 := (Sat.pull (h := objH d.mb (.map (d.ents.map Ent.me).toArray d.ck)) s).setO (o' := .map ((putEnt d.ents k P d.ck).map Ent.me).toArray (putCk d.ents k d.ck)) (h' := objH d.mb (.map ((putEnt d.ents k P d.ck).map Ent.me).toArray (putCk d.ents k d.ck))) rfl (by intro c t f h; cases h) rfl
  have s3 := (Sat.pull (h := pagesH 2147483648 4096 d.ents d.mem) s2).shrink (pages_less d.hblk k)
  have s4 := (Sat.pull (h := pagesH 2147483648 4096 (d.ents.filter (fun x => x.key ≠ k)) d.mem) (Sat.pull (h := cellsH ⟨P, 0, none⟩ (bs.map (Value.int .u8))) s3)).merge
  rw [pages_putR d.hkey d.hblk d.hborn hf hl] at s4
  refine ⟨⟨d.size, d.mb, putCk d.ents k d.ck, putEnt d.ents k P d.ck, putB d.mem ((2147483648 + 4096 * k : Nat) : Int) bs, d.hsize, q1, q2, q3, fun e he => ?_, putB_bd d.hmem _ hbs, fun j hj o ho => ?_, fun x hx => by unfold putB; rw [if_neg (by omega)]; exact d.hlow x hx⟩, rfl, rfl, rfl, ?_⟩
  · rcases mem_putEnt he with ⟨h1, _⟩ | ⟨h1, _⟩
    · exact d.hin e h1
    · rw [h1]; exact hk
  · obtain ⟨x, hx, hxk, _⟩ := putEnt_new (ents := d.ents) (k := k) (P := P) (ck := d.ck)
    have hjk : j ≠ k := fun e => hj x hx (by rw [hxk, e])
    have h0 := d.hzero j (fun e he h => hj e (putEnt_old he (by rw [h]; exact hjk)) h) o ho
    have hne : ¬ (j = k) := hjk
    have : putB d.mem ((2147483648 + 4096 * k : Nat) : Int) bs ((2147483648 + 4096 * j + o : Nat) : Int) = d.mem ((2147483648 + 4096 * j + o : Nat) : Int) := by
      unfold putB
      split
      · rw [List.getElem?_eq_none (by omega)]; rfl
      · rfl
    rw [this]; exact h0
  · simp only [ramL, List.cons_append, List.nil_append]
    exact s4.wk
end
end Go.Proofs.Ytiibiamobkhlbaa

namespace Go.Proofs.Ytiibiamobkhlbaa
open Go.RowKit
set_option linter.unusedVariables false

/-- what has been copied, when these entries have been seen -/
def CopyR (d : RamG) (seen : Array Nat) (m2 : Int → Int) : Prop :=
  ∀ x : Int, ((∃ e ∈ d.ents, seen.contains e.born = true ∧ 2147483648 + 4096 * (e.key : Int) ≤ x ∧ x < 2147483648 + 4096 * (e.key : Int) + 4096) → m2 x = d.mem x) ∧
    ((¬ ∃ e ∈ d.ents, seen.contains e.born = true ∧ 2147483648 + 4096 * (e.key : Int) ≤ x ∧ x < 2147483648 + 4096 * (e.key : Int) + 4096) → m2 x = if x < 2147483648 then d.mem x else 0)

theorem CopyR.start (d : RamG) : CopyR d #[] (fun x => if x < 2147483648 then d.mem x else 0) := fun x =>
  ⟨fun ⟨e, _, h, _⟩ => by simp at h, fun _ => rfl⟩

theorem CopyR.step {d : RamG} {seen : Array Nat} {m2 : Int → Int} (c : CopyR d seen m2) {e : Ent} (he : e ∈ d.ents) : CopyR d (seen.push e.born) (putB m2 ((2147483648 + 4096 * e.key : Nat) : Int) (rdB d.mem ((2147483648 + 4096 * e.key : Nat) : Int) 4096)) := by
  intro x
  rw [putB_rdB]
  have hiff : (∃ e' ∈ d.ents, (seen.push e.born).contains e'.born = true ∧ 2147483648 + 4096 * (e'.key : Int) ≤ x ∧ x < 2147483648 + 4096 * (e'.key : Int) + 4096) ↔ ((∃ e' ∈ d.ents, seen.contains e'.born = true ∧ 2147483648 + 4096 * (e'.key : Int) ≤ x ∧ x < 2147483648 + 4096 * (e'.key : Int) + 4096) ∨ (2147483648 + 4096 * (e.key : Int) ≤ x ∧ x < 2147483648 + 4096 * (e.key : Int) + 4096)) := by
    constructor
    · rintro ⟨e', h1, h2, h3⟩
      simp only [Array.contains_push, Bool.or_eq_true, beq_iff_eq] at h2
      rcases h2 with h2 | h2
      · exact .inl ⟨e', h1, h2, h3⟩
      · obtain ⟨i, hi⟩ := List.getElem?_of_mem h1
        obtain ⟨j, hj⟩ := List.getElem?_of_mem he
        have : e' = e := by
          rcases Nat.decEq i j with hij | hij
          · exact absurd h2 (pairwise_get (R := fun a b : Ent => a.born ≠ b.born) (fun a b h => h.symm) d.hborn.1 i j e' e hij hi hj)
          · subst hij; rw [hi] at hj; exact Option.some.inj hj
        subst this
        exact .inr h3
    · rintro (⟨e', h1, h2, h3⟩ | h)
      · exact ⟨e', h1, by simp only [Array.contains_push, Bool.or_eq_true]; exact .inl h2, h3⟩
      · exact ⟨e, he, by simp, h⟩
  have hr : ((((2147483648 + 4096 * e.key : Nat) : Int) ≤ x ∧ x < ((2147483648 + 4096 * e.key : Nat) : Int) + (4096 : Nat)) ↔ (2147483648 + 4096 * (e.key : Int) ≤ x ∧ x < 2147483648 + 4096 * (e.key : Int) + 4096)) := by omega
  constructor
  · intro h
    by_cases h2 : 2147483648 + 4096 * (e.key : Int) ≤ x ∧ x < 2147483648 + 4096 * (e.key : Int) + 4096
    · rw [if_pos (hr.2 h2)]
    · rw [if_neg (fun q => h2 (hr.1 q))]
      exact (c x).1 ((hiff.1 h).resolve_right h2)
  · intro h
    rw [if_neg (fun q => h (hiff.2 (.inr (hr.1 q))))]
    exact (c x).2 (fun q => h (hiff.2 (.inl q)))

theorem CopyR.done {d : RamG} {seen : Array Nat} {m2 : Int → Int} (c : CopyR d seen m2) (h : ∀ e ∈ d.ents, seen.contains e.born = true) : m2 = d.mem := by
  funext x
  by_cases hx : ∃ e ∈ d.ents, seen.contains e.born = true ∧ 2147483648 + 4096 * (e.key : Int) ≤ x ∧ x < 2147483648 + 4096 * (e.key : Int) + 4096
  · exact (c x).1 hx
  · rw [(c x).2 hx]
    by_cases h0 : x < 2147483648
    · rw [if_pos h0]
    · rw [if_neg h0]
      obtain ⟨y, hy⟩ := Int.eq_ofNat_of_zero_le (show 0 ≤ x - 2147483648 by omega)
      have hz := d.hzero (y / 4096) (fun e he hk => hx ⟨e, he, h e he, by omega, by omega⟩) (y % 4096) (by omega)
      rw [show ((2147483648 + 4096 * (y / 4096) + y % 4096 : Nat) : Int) = x by omega] at hz
      exact hz.symm

section
variable {R : Ending → World → Prop} {W0 w : World} {H : Hp} {A F : List Hp} {b : Nat} {d : RamG} {l : Option LogG}

set_option maxRecDepth 100000 in
set_option maxHeartbeats 4000000 in
theorem c_ramCopy (s : Sat W0 w H A) [fr : FrK (κ := Addr) (ρ := fun _ => RamG × Option LogG) ramL ⟨b, 0, none⟩ A (d, l) F]
    (k : ∀ w' c d', d'.size = d.size → d'.mem = d.mem → Sat W0 w' H (ramL ⟨c, 0, none⟩ (d', none) ++ (ramL ⟨b, 0, none⟩ (d, l) ++ F)) → R (.returned (.pointer (some ⟨c, 0, none⟩))) w') :
    Calls Try.prog 28 #[.pointer (some ⟨b, 0, none⟩)] w R := by
  have s0 := s.front (mk := ramL) (k := ⟨b, 0, none⟩)
  have hmm : ∀ W, (Instr.makeMap 176 none).run Try.prog W = .ok (.map (some W.heap.size)) (W.alloc (.map #[] 0)) := fun W => run_makeMap _ W
  simp only [ramL, List.cons_append, List.nil_append] at s0
  obtain ⟨LG, hLG⟩ : ∃ LG, logL l = LG := ⟨_, rfl⟩
  obtain ⟨lp, hlp⟩ : ∃ lp : Option Addr, (l.map fun l => (⟨l.pb, l.po, none⟩ : Addr)) = lp := ⟨_, rfl⟩
  simp only [hLG, hlp] at s0
  have hLs : ramL ⟨b, 0, none⟩ (d, l) ++ F = cellsH ⟨b, 0, none⟩ [.int .u64 d.size, .map (some d.mb), .pointer lp] :: objH d.mb (.map (d.ents.map Ent.me).toArray d.ck) :: pagesH 2147483648 4096 d.ents d.mem :: (LG ++ F) := by rw [← hLG, ← hlp]; rfl
  simp only [hLs] at k
  clear hLs
  have c0 := s0.c0
  have c1 := s0.c 1 rfl
  have c2 := s0.c 2 rfl
  simp only [Nat.zero_add] at c0 c1 c2
  obtain ⟨X, hX⟩ : ∃ X, w.heap.size = X := ⟨_, rfl⟩
  have s1 := ((s0.allocO (o := .map #[] 0) (by intro c t f h; cases h)).alloc (c := [.int .u64 d.size, .map (some X), .pointer none]) (t := 179)).emp
  rw [← pagesH_noneR 2147483648 4096 (fun x => if x < 2147483648 then d.mem x else 0), World.size_alloc, hX] at s1
  obtain ⟨Y, hY⟩ : ∃ Y, X + 1 = Y := ⟨_, rfl⟩
  rw [hY] at s1
  have b2 := s1.cel b 0 1 rfl
  simp only [Nat.zero_add] at b2
  have hob := s1.obj (b := d.mb) (o := .map (d.ents.map Ent.me).toArray d.ck) (by simp)
  have hrange := run_range_map (P := Try.prog) _ 176 23 180 d.mb _ d.ck Try.underlying176 hob
  have s2 := s1.allocO (o := .mapIter (some d.mb) d.ck #[] d.ck) (by intro c t f h; cases h)
  simp only [World.size_alloc, hX, hY] at s2 hrange
  obtain ⟨r, hr⟩ : ∃ r, Y + 1 = r := ⟨_, rfl⟩
  rw [hr] at s2 hrange
  obtain ⟨d0, hd0⟩ : ∃ d0 : RamG, d0 = ⟨d.size, X, 0, [], fun x => if x < 2147483648 then d.mem x else 0, d.hsize, by simp, by simp, ⟨by simp, by simp⟩, by simp, fun a => by split; exact d.hmem a; omega, fun k _ o _ => by rw [if_neg (by omega)], fun x hx => by rw [if_pos hx]; exact d.hlow x hx⟩ := ⟨_, rfl⟩
  have hL : ramL ⟨Y, 0, none⟩ (d0, none) ++ F = cellsH ⟨Y, 0, none⟩ [.int .u64 d.size, .map (some X), .pointer none] :: objH X (.map #[] 0) :: pagesH 2147483648 4096 [] (fun x => if x < 2147483648 then d.mem x else 0) :: F := by rw [hd0]; rfl
  have s3 := (show Sat W0 _ H (objH r (.mapIter (some d.mb) d.ck #[] d.ck) :: objH d.mb (.map (d.ents.map Ent.me).toArray d.ck) :: cellsH ⟨b, 0, none⟩ [.int .u64 d.size, .map (some d.mb), .pointer lp] :: pagesH 2147483648 4096 d.ents d.mem :: (LG ++ (cellsH ⟨Y, 0, none⟩ [.int .u64 d.size, .map (some X), .pointer none] :: objH X (.map #[] 0) :: pagesH 2147483648 4096 [] (fun x => if x < 2147483648 then d.mem x else 0) :: F))) from s2.wk)
  rw [← hL] at s3
  have hlike : d0.size = d.size := by rw [hd0]
  have hd0m : d0.mb = X := by rw [hd0]
  have hci : CopyR d #[] d0.mem := by rw [hd0]; exact CopyR.start d
  have hold : ∀ x ∈ ((d.ents.map Ent.me).toArray).toList, x.born < d.ck := fun x hx => by
    simp at hx
    obtain ⟨e, he, rfl⟩ := hx
    exact d.hborn.2 e he
  have hnod : (((d.ents.map Ent.me).toArray).toList.map (·.born)).Nodup := by
    simp only [List.map_map]
    rw [List.nodup_iff_pairwise_ne, List.pairwise_map]
    exact d.hborn.1.imp (fun h => h)
  replace hci := aside hci
  replace hlike := aside hlike
  replace hLG := aside hLG
  replace hlp := aside hlp
  replace hd0m := aside hd0m
  clear s0 s1 s2 hd0 s fr hob hL
  go_enter Try.func28, Try.ntmps28
  go_wp2
  generalize World.alloc (World.alloc (World.alloc w _) _) _ = W3 at s3 ⊢
  go_loopg [] (leftOf (d.ents.map Ent.me).toArray #[]).size (fun q w' => ∃ (seen : Array Nat) (d2 : RamG), q = (leftOf (d.ents.map Ent.me).toArray seen).size ∧ Aside (d2.size = d.size) ∧ Aside (d2.mb = X) ∧ Aside (CopyR d seen d2.mem) ∧ Sat W0 w' H (objH r (.mapIter (some d.mb) d.ck seen d.ck) :: objH d.mb (.map (d.ents.map Ent.me).toArray d.ck) :: (cellsH ⟨b, 0, none⟩ [.int .u64 d.size, .map (some d.mb), .pointer lp] :: pagesH 2147483648 4096 d.ents d.mem :: (LG ++ (ramL ⟨Y, 0, none⟩ (d2, none) ++ F)))))
  case atStart => exact ⟨#[], d0, rfl, hlike, hd0m, hci, s3⟩
  clear s3
  case round =>
    obtain ⟨seen, d2, rfl, lk, hmb2, hc2, s'⟩ := hrel
    rcases next_sat (P := Try.prog) 0 s' hold (Nat.le_refl _) with ⟨h0, hrun⟩ | ⟨e, hin, w1, hrun, s2⟩
    · have hall : ∀ e ∈ d.ents, seen.contains e.born = true := fun e he => by
        rcases Bool.eq_false_or_eq_true (seen.contains e.born) with h | h
        · exact h
        · exfalso
          have : Ent.me e ∈ (leftOf (d.ents.map Ent.me).toArray seen) := by
            unfold leftOf
            simp only [Array.mem_filter]
            exact ⟨by simp; exact ⟨e, he, rfl⟩, by rw [show (Ent.me e).born = e.born from rfl, h]; rfl⟩
          have h1 : 0 < (leftOf (d.ents.map Ent.me).toArray seen).size := Array.size_pos_of_mem this
          omega
      have s4 := trivial
      have hm := hc2.out.done hall
      have K := k wr Y d2 lk.out hm (by simp only [ramL, logL, List.cons_append, List.nil_append] at s' ⊢; exact s'.tail1.wk)
      clear s' s4 hall
      go_wp2
      exact K
    · obtain ⟨hin1, hin2⟩ := mem_left hin
      have hsh := left_shrinks _ _ _ hin
      simp only [List.mem_map] at hin1
      obtain ⟨e0, he0, rfl⟩ := hin1
      have hent := entry_sat (P := Try.prog) s2 (by simp; exact ⟨e0, he0, rfl⟩) hnod
      have hc3 := aside (CopyR.step hc2.out he0)
      have hpg := (Sat.pull (h := pagesH 2147483648 4096 d.ents d.mem) s2).head
      obtain ⟨CS, hCS⟩ : ∃ CS, (rdB d.mem ((2147483648 + 4096 * e0.key : Nat) : Int) 4096).map (Value.int .u8) = CS := ⟨_, rfl⟩
      have hCl : CS.length = 4096 := by rw [← hCS, List.length_map, rdB_len]
      have hC1 : ∀ x ∈ CS, x.oneCell' = true := by rw [← hCS]; exact oneCell_u8 _
      have hmid : w1.rangeAt e0.blk 0 CS := fun j v hv => by
        obtain ⟨b1, o1, h1, h2⟩ := pages_rowR hpg d.hblk he0 (by intro h; rw [List.map_eq_nil_iff] at h; have := congrArg List.length h; rw [rdB_len] at this; cases this)
        cases h1
        rw [hCS] at h2
        exact h2 j v hv
      have hbs : ∀ x ∈ rdB d.mem ((2147483648 + 4096 * e0.key : Nat) : Int) 4096, 0 ≤ x ∧ x ≤ 255 := rdB_bd d.hmem _ _
      have hkc : ((4096 * e0.key : Nat) : Int) < d2.size := by rw [lk.out]; exact d.hin e0 he0
      have hBl : (rdB d.mem ((2147483648 + 4096 * e0.key : Nat) : Int) 4096).length = 4096 := rdB_len ..
      obtain ⟨ZL, hZL⟩ : ∃ ZL, List.replicate 4096 (Value.int .u8 0) = ZL := ⟨_, rfl⟩
      have hZl : ZL.length = 4096 := by rw [← hZL]; exact List.length_replicate
      obtain ⟨P, hP⟩ : ∃ P, w1.heap.size = P := ⟨_, rfl⟩
      have s3 := s2.alloc (c := List.replicate 4096 (Value.int .u8 0)) (t := 182)
      rw [show (List.replicate 4096 (Value.int .u8 0)).toArray = Try.zeroCells182 from page_zero, hZL, hP] at s3
      have s4 := Sat.setCells CS 0 _ _ s3 (by omega)
      rw [List.take_zero, List.nil_append, List.drop_eq_nil_of_le (by omega), List.append_nil, ← hCS] at s4
      have hthere : (World.alloc w1 (.cells Try.zeroCells182 182)).there P 0 CS.toArray.size := fun j hj => by
        rw [List.size_toArray] at hj
        have := s3.c j (List.getElem?_eq_getElem (by omega))
        exact ⟨by rw [this.1]; rfl, this.2⟩
      have hsz : (Try.prog.info? 182).map (·.size) = some CS.length := by rw [hCl]; exact page_size
      have hsz2 : (Try.prog.info? 182).map (·.size) = some CS.toArray.size := by rw [List.size_toArray, hCl]; exact page_size
      have hCa := all_oneCell_toArray hC1
      obtain ⟨W4, hW4⟩ : ∃ W4, (World.alloc w1 (.cells Try.zeroCells182 182)).setCells P 0 CS.toArray.toList = W4 := ⟨_, rfl⟩
      have hW4b : World.setCells (World.alloc w1 (.cells Try.zeroCells182 182)) P 0 ((rdB d.mem ((2147483648 + 4096 * e0.key : Nat) : Int) 4096).map (Value.int .u8)) = W4 := by rw [hCS]; exact hW4
      rw [hW4b] at s4
      have s5 := (show Sat W0 W4 H (cellsH ⟨P, 0, none⟩ ((rdB d.mem ((2147483648 + 4096 * e0.key : Nat) : Int) 4096).map (Value.int .u8)) :: (ramL ⟨Y, 0, none⟩ (d2, none) ++ (objH r (.mapIter (some d.mb) d.ck (seen.push (Ent.me e0).born) d.ck) :: objH d.mb (.map (d.ents.map Ent.me).toArray d.ck) :: (cellsH ⟨b, 0, none⟩ [.int .u64 d.size, .map (some d.mb), .pointer lp] :: pagesH 2147483648 4096 d.ents d.mem :: (LG ++ F))))) from by
        simp only [ramL, logL, List.cons_append, List.nil_append] at s4 ⊢
        exact s4.wk)
      have hmap := run_mapPut (P := Try.prog) (w := W4) (ents := d2.ents) (mb := d2.mb) (ck := d2.ck) Try.underlying176 Try.underlying23 d2.hkey (s5.obj (b := d2.mb) (o := .map (d2.ents.map Ent.me).toArray d2.ck) (by simp [ramL])) e0.key P
      obtain ⟨d3, lk3, hm3, hmb3, s6⟩ := ram_put s5 hBl hbs hkc
      have s5t := s5.tail1
      simp only [ramL, logL, List.cons_append, List.nil_append] at s5t
      have cx := s5t.c 1 rfl
      simp only [Nat.zero_add] at cx
      generalize Obj.map ((putEnt d2.ents e0.key P d2.ck).map Ent.me).toArray (putCk d2.ents e0.key d2.ck) = ob at hmap s6
      rw [← hm3] at hc3
      have s7 := (show Sat W0 (setO W4 d2.mb ob) H (objH r (.mapIter (some d.mb) d.ck (seen.push (Ent.me e0).born) d.ck) :: objH d.mb (.map (d.ents.map Ent.me).toArray d.ck) :: (cellsH ⟨b, 0, none⟩ [.int .u64 d.size, .map (some d.mb), .pointer lp] :: pagesH 2147483648 4096 d.ents d.mem :: (LG ++ (ramL ⟨Y, 0, none⟩ (d3, none) ++ F)))) from by
        simp only [ramL, logL, List.cons_append, List.nil_append] at s6 ⊢
        exact s6.wk)
      have hu := Try.underlying182
      have hmb4 := aside (hmb3.trans hmb2.out)
      simp only [Ent.me] at hrun hent hsh s7
      have hf1 := aside (show P = P ∧ e0.blk = e0.blk from ⟨rfl, rfl⟩)
      replace lk3 := aside lk3
      clear hCS hCl hC1 hpg hbs hkc hBl hZL hZl s2 s3 s4 s5 s5t s6 hm3 hmb3 s' hc2 hmb2 hin hin2 hf1 c0 c1 c2 hrange b2 hnod hold hlike hd0m hci
      replace hsh := aside hsh
      go_wp2_with (first | (refine wpList_load_mid rfl 182 (.tmp 25) rfl e0.blk 0 rfl CS _ hmid hu rfl hsz ?_) | (refine wpList_store_mid rfl 182 (.tmp 6) (.tmp 26) rfl P 0 CS.toArray rfl rfl hthere hsz2 hCa ?_; rw [hW4]))
      go_roundg (leftOf (List.map Ent.me d.ents).toArray (seen.push e0.born)).size
      case measure => exact hsh.out
      case rel => exact ⟨seen.push e0.born, d3, rfl, lk3.out.trans lk.out, hmb4, hc3, s7⟩
end
end Go.Proofs.Ytiibiamobkhlbaa

namespace Go.Proofs.Ytiibiamobkhlbaa
open Go.RowKit
set_option linter.unusedVariables false

theorem run_eqItems8 {P : Program} {e : TypeId} (hu : P.underlying e = some (.int .u8)) (d : Nat) (A B : List Int) (w : World) : ∀ (is : List Nat), (∀ i ∈ is, i < A.length ∧ i < B.length) →
    (Op.eqItems (d + 1) e 1 (A.map (Value.int .u8)).toArray (B.map (Value.int .u8)).toArray is).run P w = .ok (decide (∀ i ∈ is, A[i]? = B[i]?)) w
  | [], _ => by simp [Op.eqItems]
  | i :: is, h => by
    obtain ⟨hA, hB⟩ := h i (by simp)
    have ih := run_eqItems8 hu d A B w is (fun j hj => h j (by simp [hj]))
    have p1 : (part e (A.map (Value.int .u8)).toArray (i * 1)).run P w = .ok (.int .u8 A[i]) w := run_part_plain w (by simp [Program.plainKey, hu]) (by simp [hA])
    have p2 : (part e (B.map (Value.int .u8)).toArray (i * 1)).run P w = .ok (.int .u8 B[i]) w := run_part_plain w (by simp [Program.plainKey, hu]) (by simp [hB])
    simp only [Op.eqItems, Sem.run_bind, p1, p2, Result.andThen_ok, run_equalIn_int w d e .u8 .u8 _ _ hu]
    by_cases hab : A[i] = B[i]
    · simp only [hab, beq_self_eq_true, Bool.not_true, Bool.false_eq_true, if_false, ih]
      congr 1
      simp [List.getElem?_eq_getElem hA, List.getElem?_eq_getElem hB, hab]
    · have hb : (A[i] == B[i]) = false := by simpa using hab
      simp only [hb, Bool.not_false, if_true, Sem.run_pure]
      congr 1
      symm
      simp [List.getElem?_eq_getElem hA, List.getElem?_eq_getElem hB, hab]

theorem run_equalIn_bytes {P : Program} {t e : TypeId} {n : Nat} (hu : P.underlying t = some (.array n e)) (he : P.underlying e = some (.int .u8)) (hs : (P.info? e).map (·.size) = some 1) (d : Nat) (A B : List Int) (hA : A.length = n) (hB : B.length = n) (w : World) :
    (Op.equalIn (d + 2) t (.agg (A.map (Value.int .u8)).toArray) (.agg (B.map (Value.int .u8)).toArray)).run P w = .ok (decide (A = B)) w := by
  cases hi : P.info? e with
  | none => simp [hi] at hs
  | some i =>
    have hc : P.cellsOf e = 1 := by simp [hi] at hs; simp [Program.cellsOf, hi, hs]
    rw [run_equalIn_array w (d + 1) _ _ hu hi, hc, run_eqItems8 he d A B w (List.range n) (fun j hj => by rw [List.mem_range] at hj; omega)]
    congr 1
    rw [decide_eq_decide]
    constructor
    · intro h
      apply List.ext_getElem?
      intro j
      rcases Nat.lt_or_ge j n with hj | hj
      · exact h j (List.mem_range.2 hj)
      · rw [List.getElem?_eq_none (by omega), List.getElem?_eq_none (by omega)]
    · rintro rfl _ _; rfl

theorem quiet_load_mid {P : Program} {op : Oper} {a : Act} {C : World → Prop} {K : Act → Prop} (ty : TypeId) (x : Operand) (ho : op.op = .load ty x)
    (b o : Nat) (hx : a.eval x = .pointer (some ⟨b, o, none⟩)) (cs : List Value) (d : TypeDesc) (hc : ∀ w, C w → w.rangeAt b o cs)
    (hu : P.underlying ty = some d) (hd : d.isRow = true) (hi : (P.info? ty).map (·.size) = some cs.length) (hk : K (a.put op.dst (.agg cs.toArray))) : op.quiet P a C K :=
  ⟨_, fun w hw => by
    unfold Oper.quietAt execOp
    simp only [ho, hx, Instr.loadAt, Instr.sureAddr, Sem.run_bind, Sem.run_pure, Result.andThen_ok, run_loadVar_mid w b o ty cs d (hc w hw) hu hd hi]
    exact ⟨rfl, rfl⟩, hk⟩

theorem quiet_neq_bytes {P : Program} {op : Oper} {a : Act} {C : World → Prop} {K : Act → Prop} (t e : TypeId) (x y : Operand) (ho : op.op = .binOp .neq t x y t) {n : Nat} (A B : List Int)
    (hx : a.eval x = .agg (A.map (Value.int .u8)).toArray) (hy : a.eval y = .agg (B.map (Value.int .u8)).toArray)
    (hu : P.underlying t = some (.array n e)) (he : P.underlying e = some (.int .u8)) (hs : (P.info? e).map (·.size) = some 1) (hg : P.eqGuardType P.depth t = false) (hA : A.length = n) (hB : B.length = n)
    (hk : K (a.put op.dst (.bool (!decide (A = B))))) : op.quiet P a C K :=
  ⟨_, fun w hw => by
    unfold Oper.quietAt execOp
    have h1 := run_eqGuard_agg (P := P) w .neq t x y (A.map (Value.int .u8)).toArray (B.map (Value.int .u8)).toArray hg
    have h2 := run_neq_struct (P := P) w t (A.map (Value.int .u8)).toArray (B.map (Value.int .u8)).toArray
    rw [run_equalIn_bytes hu he hs 9998 A B hA hB w] at h2
    simp only [ho, hx, hy, Sem.run_bind, h1, h2, Result.andThen_ok, Sem.run_pure]
    exact ⟨rfl, rfl⟩, hk⟩
end Go.Proofs.Ytiibiamobkhlbaa

namespace Go.Proofs.Ytiibiamobkhlbaa
open Go.RowKit
set_option linter.unusedVariables false
set_option linter.unusedSimpArgs false

/-- whether an entry's sector is alike in two -/
def alikeR (d o : RamG) (e : Ent) : Prop := rdB d.mem ((2147483648 + 4096 * e.key : Nat) : Int) 4096 = rdB o.mem ((2147483648 + 4096 * e.key : Nat) : Int) 4096
instance (d o : RamG) (e : Ent) : Decidable (alikeR d o e) := by unfold alikeR; exact inferInstance
def underR (d o : RamG) : Bool := decide (∀ e ∈ d.ents, alikeR d o e)

theorem pages_midR {w : World} {ents : List Ent} {mem : Int → Int} (hpg : Holds w (pagesH 2147483648 4096 ents mem)) (hb : ents.Pairwise (·.blk ≠ ·.blk)) {e : Ent} (he : e ∈ ents) {CS : List Value} (hCS : (rdB mem ((2147483648 + 4096 * e.key : Nat) : Int) 4096).map (Value.int .u8) = CS) : w.rangeAt e.blk 0 CS := fun j v hv => by
  obtain ⟨b1, o1, h1, h2⟩ := pages_rowR hpg hb he (by intro h; rw [List.map_eq_nil_iff] at h; have := congrArg List.length h; rw [rdB_len] at this; cases this)
  cases h1
  rw [hCS] at h2
  exact h2 j v hv

section
variable {R : Ending → World → Prop} {W0 w : World} {H : Hp} {A F : List Hp} {a b : Nat} {d o : RamG} {l l2 : Option LogG}

def sameR (d o : RamG) : Bool := decide (d.size = o.size) && (underR d o && underR o d)

theorem sat_swapR (s : Sat W0 w H (ramL ⟨a, 0, none⟩ (d, l) ++ (ramL ⟨b, 0, none⟩ (o, l2) ++ F))) : Sat W0 w H (ramL ⟨b, 0, none⟩ (o, l2) ++ (ramL ⟨a, 0, none⟩ (d, l) ++ F)) := by
  rw [← List.append_assoc] at s ⊢
  exact s.perm (List.Perm.append_right F List.perm_append_comm)

end
end Go.Proofs.Ytiibiamobkhlbaa

namespace Go.Proofs.Ytiibiamobkhlbaa
open Go.RowKit

/-- alike, byte by byte -/
def RamG.eqv (d o : RamG) : Prop := ∀ x : Int, 2147483648 ≤ x → x - 2147483648 < d.size → d.mem x = o.mem x


/-- a place more: it goes on from the last piece; none: it does not -/
def extS (out : List (Int × Int)) (a : Int) : Option (List (Int × Int)) :=
  match out.getLast? with
  | some s => if s.1 + s.2 = a then some (out.dropLast ++ [(s.1, s.2 + 1)]) else none
  | none => none

def difL (most : Int) : List Int → List (Int × Int) → List (Int × Int)
  | [], out => out
  | a :: ls, out => match extS out a with
    | some o => difL most ls o
    | none => if most ≤ (out.length : Int) then out else difL most ls (out ++ [(a, 1)])

theorem extS_nil (a : Int) : extS [] a = none := rfl
theorem extS_snoc (pre : List (Int × Int)) (p q a : Int) : extS (pre ++ [(p, q)]) a = if p + q = a then some (pre ++ [(p, q + 1)]) else none := by
  simp [extS]

theorem difL_ext {most : Int} {a : Int} {ls : List Int} {out o : List (Int × Int)} (h : extS out a = some o) : difL most (a :: ls) out = difL most ls o := by
  rw [difL, h]
theorem difL_stop {most : Int} {a : Int} {ls : List Int} {out : List (Int × Int)} (h : extS out a = none) (hm : most ≤ (out.length : Int)) : difL most (a :: ls) out = out := by
  rw [difL, h]; exact if_pos hm
theorem difL_new {most : Int} {a : Int} {ls : List Int} {out : List (Int × Int)} (h : extS out a = none) (hm : ¬ most ≤ (out.length : Int)) : difL most (a :: ls) out = difL most ls (out ++ [(a, 1)]) := by
  rw [difL, h]; exact if_neg hm

/-- the places from x on, n of them, where two differ -/
def dfrom (f g : Int → Int) : Int → Nat → List Int
  | _, 0 => []
  | x, n + 1 => if f x = g x then dfrom f g (x + 1) n else x :: dfrom f g (x + 1) n

theorem dfrom_same {f g : Int → Int} {x : Int} {n : Nat} (h : f x = g x) : dfrom f g x (n + 1) = dfrom f g (x + 1) n := by rw [dfrom, if_pos h]
theorem dfrom_other {f g : Int → Int} {x : Int} {n : Nat} (h : f x ≠ g x) : dfrom f g x (n + 1) = x :: dfrom f g (x + 1) n := by rw [dfrom, if_neg h]
theorem dfrom_skip {f g : Int → Int} : ∀ (k : Nat) (x : Int) (n : Nat), (∀ i : Nat, i < k → f (x + i) = g (x + i)) → dfrom f g x (k + n) = dfrom f g (x + k) n
  | 0, x, n, _ => by simp
  | k + 1, x, n, h => by
    have h0 := h 0 (by omega)
    simp only [Int.natCast_zero, Int.add_zero] at h0
    rw [show k + 1 + n = (k + n) + 1 by omega, dfrom_same h0, dfrom_skip k (x + 1) n (fun i hi => by
      have := h (i + 1) (by omega)
      rw [show x + ((i + 1 : Nat) : Int) = x + 1 + (i : Int) by omega] at this
      exact this), show x + 1 + (k : Int) = x + ((k + 1 : Nat) : Int) by omega]
theorem mem_dfrom {f g : Int → Int} : ∀ {n : Nat} {x y : Int}, y ∈ dfrom f g x n ↔ (x ≤ y ∧ y < x + n ∧ f y ≠ g y)
  | 0, x, y => by simp [dfrom]; omega
  | n + 1, x, y => by
    by_cases h : f x = g x
    · rw [dfrom_same h, mem_dfrom]
      constructor
      · rintro ⟨a, b, c⟩; exact ⟨by omega, by omega, c⟩
      · rintro ⟨a, b, c⟩
        have : y ≠ x := fun e => c (e ▸ h)
        exact ⟨by omega, by omega, c⟩
    · rw [dfrom_other h, List.mem_cons, mem_dfrom]
      constructor
      · rintro (rfl | ⟨a, b, c⟩)
        · exact ⟨by omega, by omega, h⟩
        · exact ⟨by omega, by omega, c⟩
      · rintro ⟨a, b, c⟩
        by_cases e : y = x
        · exact .inl e
        · exact .inr ⟨by omega, by omega, c⟩
theorem dfrom_sorted {f g : Int → Int} : ∀ (n : Nat) (x : Int), (dfrom f g x n).Pairwise (· < ·)
  | 0, x => by simp [dfrom]
  | n + 1, x => by
    by_cases h : f x = g x
    · rw [dfrom_same h]; exact dfrom_sorted n (x + 1)
    · rw [dfrom_other h]
      exact List.pairwise_cons.2 ⟨fun y hy => by have := (mem_dfrom.1 hy).1; omega, dfrom_sorted n (x + 1)⟩

/-- two rising rows of the same places are one -/
theorem sorted_unique : ∀ {l m : List Int}, l.Pairwise (· < ·) → m.Pairwise (· < ·) → (∀ x, x ∈ l ↔ x ∈ m) → l = m
  | [], [], _, _, _ => rfl
  | [], y :: m, _, _, h => by have := (h y).2 (by simp); simp at this
  | x :: l, [], _, _, h => by have := (h x).1 (by simp); simp at this
  | x :: l, y :: m, hl, hm, h => by
    obtain ⟨l1, l2⟩ := List.pairwise_cons.1 hl
    obtain ⟨m1, m2⟩ := List.pairwise_cons.1 hm
    have hxy : x = y := by
      rcases List.mem_cons.1 ((h x).1 (by simp)) with e | e
      · exact e
      · rcases List.mem_cons.1 ((h y).2 (by simp)) with e2 | e2
        · exact e2.symm
        · have := m1 x e; have := l1 y e2; omega
    subst hxy
    congr 1
    refine sorted_unique l2 m2 fun z => ?_
    have hz := h z
    simp only [List.mem_cons] at hz
    constructor
    · intro hm2
      rcases hz.1 (.inr hm2) with e | e
      · have := l1 z hm2; omega
      · exact e
    · intro hm2
      rcases hz.2 (.inr hm2) with e | e
      · have := m1 z hm2; omega
      · exact e

/-- what is said of each piece, when it is true of each new one and stays true ls one grows -/
theorem difL_all {most : Int} {P : Int × Int → Prop} : ∀ {ls : List Int} {out : List (Int × Int)}, (∀ s ∈ out, P s) → (∀ a ∈ ls, P (a, 1)) → (∀ a ∈ ls, ∀ p q, P (p, q) → p + q = a → P (p, q + 1)) → ∀ s ∈ difL most ls out, P s
  | [], out, h, _, _ => by simpa [difL] using h
  | a :: ls, out, h, h1, h2 => by
    have t1 : ∀ x ∈ ls, P (x, 1) := fun x hx => h1 x (List.mem_cons_of_mem _ hx)
    have t2 : ∀ x ∈ ls, ∀ p q, P (p, q) → p + q = x → P (p, q + 1) := fun x hx => h2 x (List.mem_cons_of_mem _ hx)
    cases he : extS out a with
    | none =>
      by_cases hm : most ≤ (out.length : Int)
      · rw [difL_stop he hm]; exact h
      · rw [difL_new he hm]
        refine difL_all (fun s hs => ?_) t1 t2
        rcases List.mem_append.1 hs with hs | hs
        · exact h s hs
        · simp at hs; subst hs; exact h1 a (by simp)
    | some o =>
      rw [difL_ext he]
      refine difL_all (fun s hs => ?_) t1 t2
      rcases List.eq_nil_or_concat out with rfl | ⟨pre, ⟨p, q⟩, rfl⟩
      · rw [extS_nil] at he; cases he
      · rw [List.concat_eq_append, extS_snoc] at he
        split at he
        · rename_i hpq
          obtain rfl := Option.some.inj he
          rcases List.mem_append.1 hs with hs | hs
          · exact h s (by rw [List.concat_eq_append]; exact List.mem_append_left _ hs)
          · simp at hs; subst hs
            exact h2 a (by simp) p q (h (p, q) (by simp)) hpq
        · cases he
theorem difL_none {most : Int} (out : List (Int × Int)) : difL most [] out = out := rfl

/-- the pieces lie within bounds -/
def spIn (lo hi : Int) (out : List (Int × Int)) : Prop := ∀ s ∈ out, lo ≤ s.1 ∧ 1 ≤ s.2 ∧ s.1 + s.2 ≤ hi
theorem spIn.snoc {lo hi a : Int} {out : List (Int × Int)} (h : spIn lo hi out) (h0 : lo ≤ a) (h1 : a < hi) : spIn lo hi (out ++ [(a, 1)]) := fun s hs => by
  rcases List.mem_append.1 hs with hs | hs
  · exact h s hs
  · simp at hs; subst hs; exact ⟨h0, by simp, by simp only; omega⟩
theorem spIn.ext {lo hi p q : Int} {pre : List (Int × Int)} (h : spIn lo hi (pre ++ [(p, q)])) (h1 : p + q < hi) : spIn lo hi (pre ++ [(p, q + 1)]) := fun s hs => by
  rcases List.mem_append.1 hs with hs | hs
  · exact h s (List.mem_append_left _ hs)
  · simp at hs; subst hs
    have := h (p, q) (by simp)
    exact ⟨this.1, by simp only at this ⊢; omega, by simp only; omega⟩
theorem difL_in {most lo hi : Int} {ls : List Int} {out : List (Int × Int)} (h : spIn lo hi out) (h1 : ∀ a ∈ ls, lo ≤ a ∧ a < hi) : spIn lo hi (difL most ls out) :=
  difL_all (P := fun s => lo ≤ s.1 ∧ 1 ≤ s.2 ∧ s.1 + s.2 ≤ hi) h (fun a ha => ⟨(h1 a ha).1, by simp, by simp only; have := (h1 a ha).2; omega⟩) fun a ha p q hp hpq => by
    have := h1 a ha
    simp only at hp ⊢
    omega
/-- each place of a piece is one where they differ -/
theorem difL_places {most : Int} {ls : List Int} : ∀ s ∈ difL most ls [], 1 ≤ s.2 ∧ ∀ x, s.1 ≤ x → x < s.1 + s.2 → x ∈ ls :=
  difL_all (P := fun s => 1 ≤ s.2 ∧ ∀ x, s.1 ≤ x → x < s.1 + s.2 → x ∈ ls) (by simp) (fun a ha => ⟨by simp, fun x h0 h1 => by simp only at h0 h1; obtain rfl : x = a := (by omega); exact ha⟩) fun a ha p q hp hpq => by
    refine ⟨by simp only at hp ⊢; omega, fun x h0 h1 => ?_⟩
    simp only at hp h0 h1
    by_cases hx : x = a
    · subst hx; exact ha
    · exact hp.2 x h0 (by omega)
theorem difL_len {most : Int} : ∀ {ls : List Int} {out : List (Int × Int)}, (difL most ls out).length ≤ out.length + ls.length
  | [], out => by simp [difL]
  | a :: ls, out => by
    cases he : extS out a with
    | none =>
      by_cases hm : most ≤ (out.length : Int)
      · rw [difL_stop he hm]; omega
      · rw [difL_new he hm]
        have := difL_len (most := most) (ls := ls) (out := out ++ [(a, 1)])
        simp at this ⊢; omega
    | some o =>
      rw [difL_ext he]
      have := difL_len (most := most) (ls := ls) (out := o)
      rcases List.eq_nil_or_concat out with rfl | ⟨pre, ⟨p, q⟩, rfl⟩
      · rw [extS_nil] at he; cases he
      · rw [List.concat_eq_append, extS_snoc] at he
        split at he
        · obtain rfl := Option.some.inj he
          simp at this ⊢; omega
        · cases he
end Go.Proofs.Ytiibiamobkhlbaa

namespace Go.Proofs.Ytiibiamobkhlbaa
open Go.RowKit

theorem alikeR_page {d o : RamG} {e : Ent} (h : alikeR d o e) (i : Nat) (hi : i < 4096) : d.mem ((2147483648 + 4096 * e.key + i : Nat) : Int) = o.mem ((2147483648 + 4096 * e.key + i : Nat) : Int) := by
  unfold alikeR at h
  have a := rdB_get d.mem ((2147483648 + 4096 * e.key : Nat) : Int) 4096 i hi
  have b := rdB_get o.mem ((2147483648 + 4096 * e.key : Nat) : Int) 4096 i hi
  rw [h, b] at a
  have := Option.some.inj a
  rw [show ((2147483648 + 4096 * e.key : Nat) : Int) + (i : Int) = ((2147483648 + 4096 * e.key + i : Nat) : Int) by omega] at this
  exact this.symm

theorem sameR_iff {d o : RamG} : sameR d o = true ↔ (d.size = o.size ∧ d.eqv o) := by
  unfold sameR underR
  rw [Bool.and_eq_true, Bool.and_eq_true, decide_eq_true_eq, decide_eq_true_eq, decide_eq_true_eq]
  refine and_congr_right fun hs => ?_
  constructor
  · rintro ⟨h1, h2⟩ x hx0 hx1
    obtain ⟨k, j, hj, _, _, rfl⟩ := place_of hx0 hx1
    by_cases c1 : ∃ e ∈ d.ents, e.key = k
    · obtain ⟨e, he, rfl⟩ := c1
      exact alikeR_page (h1 e he) j hj
    · by_cases c2 : ∃ e ∈ o.ents, e.key = k
      · obtain ⟨e, he, rfl⟩ := c2
        exact (alikeR_page (h2 e he) j hj).symm
      · rw [d.hzero k (fun e he hk => c1 ⟨e, he, hk⟩) j hj, o.hzero k (fun e he hk => c2 ⟨e, he, hk⟩) j hj]
  · intro h
    have one : ∀ (p q : RamG), p.eqv q → ∀ e ∈ p.ents, alikeR p q e := fun p q hh e he => by
      unfold alikeR
      have hk := p.hin e he
      have hz := p.hsize
      refine rdB_same _ _ fun i hi => ?_
      exact hh (((2147483648 + 4096 * e.key : Nat) : Int) + (i : Int)) (by omega) (by omega)
    exact ⟨one d o h, one o d fun x h0 h1 => (h x h0 (by omega)).symm⟩
end Go.Proofs.Ytiibiamobkhlbaa
