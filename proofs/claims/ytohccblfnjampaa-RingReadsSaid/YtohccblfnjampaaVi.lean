/-
  RING: what a queue's areas say: Flags, Offered, Head, Wanted, the code's and the document's.
-/
import Derived.Test.YtohccblfnjampaaVj
import Derived.Test.YtohccblfnjampaaVh
import Derived.Deep.RegionHeld3
namespace Go.Proofs.Ytohccblfnjampaa
open Go.RowKit
set_option linter.unusedVariables false

def hw (size : Int) (m : Int → Int) (a : Int) : Int := if hasP size a 2 then ofB (rdB m a 2) else 0
theorem hw_bd {m : Int → Int} (hm : ∀ a, 0 ≤ m a ∧ m a ≤ 255) (size a : Int) : 0 ≤ hw size m a ∧ hw size m a ≤ 65535 := by
  have h := ofB_bd (rdB_bd hm a 2)
  rw [rdB_len] at h
  have h2 : (256 : Int) ^ 2 = 65536 := by decide
  unfold hw
  split <;> omega

section
variable {R : Ending → World → Prop} {W0 w : World} {H : Hp} {A F : List Hp} {v : Value} {b : Nat} {r : RamG} {size : Int} {m : Int → Int} {L : Nat} {B : Option Addr} {n0 c : Nat}

theorem c_half (s : Sat W0 w H A) [fr : FrK (κ := Addr) (ρ := fun _ => RamG × Option LogG) ramL ⟨b, 0, none⟩ A (r, none) F] (a : Int) (h0 : 0 ≤ a ∧ a ≤ 18446744073709551615)
    (k : ∀ w', Sat W0 w' H (ramL ⟨b, 0, none⟩ (r, none) ++ F) → R (.returned (.int .u16 (hw r.size r.mem a))) w') :
    Calls Try.prog 85 #[.pointer (some ⟨b, 0, none⟩), .int .u64 a] w R := c_ringHalf s a h0 k
theorem c_word2 (s : Sat W0 w H A) (rm : RefM H v size m L) (hL : L ≤ 1000000) (hz : 0 ≤ size ∧ size ≤ 268435456) (a : Int) (h0 : 0 ≤ a ∧ a ≤ 18446744073709551615)
    (k : ∀ w', Sat W0 w' H A → R (.returned (.int .u64 (hw size m a))) w') : Calls Try.prog 86 #[v, .int .u64 a, .int .i64 2] w R := c_refWord s rm hL hz a 2 h0 (by omega) k

set_option maxRecDepth 100000 in
set_option maxHeartbeats 4000000 in
theorem c_Flags (s : Sat W0 w H A) [fr : FrK (κ := Addr) (ρ := fun _ => RamG × Option LogG) ramL ⟨b, 0, none⟩ A (r, none) F] (n d a u : Int) (ha : 0 ≤ a ∧ a ≤ 18446744073709551615)
    (k : ∀ w', Sat W0 w' H (ramL ⟨b, 0, none⟩ (r, none) ++ F) → R (.returned (.int .u16 (hw r.size r.mem a))) w') :
    Calls Try.prog 30 #[.pointer (some ⟨b, 0, none⟩), .agg #[.int .i64 n, .int .u64 d, .int .u64 a, .int .u64 u]] w R := by
  have s1 := (s.front (mk := ramL) (k := ⟨b, 0, none⟩)).alloc (c := [.int .i64 n, .int .u64 d, .int .u64 a, .int .u64 u]) (t := 58)
  have y2 := s1.c 2 rfl
  simp only [Nat.zero_add] at y2
  go_enter Try.func30, Try.ntmps30
  go_wp2_with fail
  refine c_half s1 a ha ?_
  intro w2 s2
  go_wp2
  exact s2.wk

set_option maxRecDepth 100000 in
set_option maxHeartbeats 4000000 in
theorem c_Offered (s : Sat W0 w H A) [fr : FrK (κ := Addr) (ρ := fun _ => RamG × Option LogG) ramL ⟨b, 0, none⟩ A (r, none) F] (n d a u : Int) (ha : 0 ≤ a ∧ a ≤ 4294967295)
    (k : ∀ w', Sat W0 w' H (ramL ⟨b, 0, none⟩ (r, none) ++ F) → R (.returned (.int .u16 (hw r.size r.mem (a + 2)))) w') :
    Calls Try.prog 32 #[.pointer (some ⟨b, 0, none⟩), .agg #[.int .i64 n, .int .u64 d, .int .u64 a, .int .u64 u]] w R := by
  have s1 := (s.front (mk := ramL) (k := ⟨b, 0, none⟩)).alloc (c := [.int .i64 n, .int .u64 d, .int .u64 a, .int .u64 u]) (t := 58)
  have y2 := s1.c 2 rfl
  simp only [Nat.zero_add] at y2
  have e : IntKind.u64.wrap (a + 2) = a + 2 := by rw [wrap_u64]; omega
  have hb : 0 ≤ a + 2 ∧ a + 2 ≤ 18446744073709551615 := by omega
  go_enter Try.func32, Try.ntmps32
  go_wp2_with fail
  refine c_half s1 (a + 2) hb ?_
  intro w2 s2
  go_wp2
  exact s2.wk

set_option maxRecDepth 100000 in
set_option maxHeartbeats 4000000 in
theorem c_Wanted (s : Sat W0 w H A) [fr : FrK (κ := Addr) (ρ := fun _ => RamG × Option LogG) ramL ⟨b, 0, none⟩ A (r, none) F] (n d a u : Int) (ha : 0 ≤ a ∧ a ≤ 4294967295) (hn : 1 ≤ n ∧ n ≤ 256)
    (k : ∀ w', Sat W0 w' H (ramL ⟨b, 0, none⟩ (r, none) ++ F) → R (.returned (.int .u16 (hw r.size r.mem (a + 4 + 2 * n)))) w') :
    Calls Try.prog 36 #[.pointer (some ⟨b, 0, none⟩), .agg #[.int .i64 n, .int .u64 d, .int .u64 a, .int .u64 u]] w R := by
  have s1 := (s.front (mk := ramL) (k := ⟨b, 0, none⟩)).alloc (c := [.int .i64 n, .int .u64 d, .int .u64 a, .int .u64 u]) (t := 58)
  have y0 := s1.c 0 rfl
  have y2 := s1.c 2 rfl
  simp only [Nat.zero_add] at y0 y2
  have e0 : IntKind.u64.wrap n = n := by rw [wrap_u64]; omega
  have e1 : IntKind.u64.wrap (a + 4) = a + 4 := by rw [wrap_u64]; omega
  have e2 : IntKind.u64.wrap (2 * n) = 2 * n := by rw [wrap_u64]; omega
  have e3 : IntKind.u64.wrap (a + 4 + 2 * n) = a + 4 + 2 * n := by rw [wrap_u64]; omega
  have hb : 0 ≤ a + 4 + 2 * n ∧ a + 4 + 2 * n ≤ 18446744073709551615 := by omega
  go_enter Try.func36, Try.ntmps36
  go_wp2_with fail
  refine c_half s1 (a + 4 + 2 * n) hb ?_
  intro w2 s2
  go_wp2
  exact s2.wk

set_option maxRecDepth 100000 in
set_option maxHeartbeats 4000000 in
theorem c_Head (s : Sat W0 w H A) [fr : FrK (κ := Addr) (ρ := fun _ => RamG × Option LogG) ramL ⟨b, 0, none⟩ A (r, none) F] (n d a u x : Int) (ha : 0 ≤ a ∧ a ≤ 4294967295) (hn : 1 ≤ n ∧ n ≤ 256) (hx : 0 ≤ x ∧ x ≤ 65535)
    (k : ∀ w', Sat W0 w' H (ramL ⟨b, 0, none⟩ (r, none) ++ F) → R (.returned (.int .u16 (hw r.size r.mem (a + 4 + 2 * (x % n))))) w') :
    Calls Try.prog 34 #[.pointer (some ⟨b, 0, none⟩), .agg #[.int .i64 n, .int .u64 d, .int .u64 a, .int .u64 u], .int .u16 x] w R := by
  have s1 := (s.front (mk := ramL) (k := ⟨b, 0, none⟩)).alloc (c := [.int .i64 n, .int .u64 d, .int .u64 a, .int .u64 u]) (t := 58)
  have y0 := s1.c 0 rfl
  have y2 := s1.c 2 rfl
  simp only [Nat.zero_add] at y0 y2
  have hmax : max n 1 = n := by omega
  have hmod := Int.emod_nonneg x (show n ≠ 0 by omega)
  have hmod2 := Int.emod_lt_of_pos x (show 0 < n by omega)
  have htm : x.tmod n = x % n := Int.tmod_eq_emod_of_nonneg hx.1
  obtain ⟨j, hj⟩ : ∃ j, x % n = j := ⟨_, rfl⟩
  rw [hj] at hmod hmod2 htm k
  obtain ⟨Z, hZ⟩ : ∃ Z, w.heap.size = Z := ⟨_, rfl⟩
  rw [hZ] at s1 y0 y2
  have q1 : ¬ max n 1 = 0 := by omega
  have q2 : (max n 1 == 0) = false := by simp; omega
  have q3 : x.tmod (max n 1) = j := by rw [hmax]; exact htm
  have q4 : x % (max n 1) = j := by rw [hmax]; exact hj
  have n0 : ¬ n = 0 := by omega
  have nb : (n == 0) = false := by simp [n0]
  have ej : IntKind.i64.wrap j = j := by simp [IntKind.wrap, IntKind.bits, IntKind.signed]; omega
  have e0 : IntKind.u64.wrap j = j := by rw [wrap_u64]; omega
  have e1 : IntKind.u64.wrap (a + 4) = a + 4 := by rw [wrap_u64]; omega
  have e2 : IntKind.u64.wrap (2 * j) = 2 * j := by rw [wrap_u64]; omega
  have e3 : IntKind.u64.wrap (a + 4 + 2 * j) = a + 4 + 2 * j := by rw [wrap_u64]; omega
  have hb : 0 ≤ a + 4 + 2 * j ∧ a + 4 + 2 * j ≤ 18446744073709551615 := by omega
  go_enter Try.func34, Try.ntmps34
  go_wp2
  go_region_with
    (first
      | (go_at_call 85; refine c_half s1.drew (a + 4 + 2 * j) hb ?_; intro w2 s2))
  all_goals
    try simp only [Act.put, List.getElem_toArray, List.getElem_cons_succ, List.getElem_cons_zero, List.setIfInBounds_toArray, List.set_cons_succ, List.set_cons_zero]
    go_wp2
    exact s2.wk

set_option maxRecDepth 100000 in
set_option maxHeartbeats 4000000 in
theorem c_refFlags (s : Sat W0 w H A) (rm : RefM H (.agg #[.int .u64 size, .slice B n0 c]) size m L) (hL : L ≤ 1000000) (hz : 0 ≤ size ∧ size ≤ 268435456) (n d a u : Int) (ha : 0 ≤ a ∧ a ≤ 18446744073709551615)
    (k : ∀ w', Sat W0 w' H A → R (.returned (.int .i64 (hw size m (a)))) w') :
    Calls Try.prog 31 #[.agg #[.int .u64 size, .slice B n0 c], .agg #[.int .i64 n, .int .u64 d, .int .u64 a, .int .u64 u]] w R := by
  have s1 := (s.alloc (c := [.int .u64 size, .slice B n0 c]) (t := 62)).alloc (c := [.int .i64 n, .int .u64 d, .int .u64 a, .int .u64 u]) (t := 58)
  obtain ⟨Z, hZ⟩ : ∃ Z, w.heap.size = Z := ⟨_, rfl⟩
  rw [World.size_alloc, hZ] at s1
  have z0 := s1.cel Z 0 0 rfl
  have z1 := s1.cel Z 0 1 rfl
  have y0 := s1.cel (Z + 1) 0 0 rfl
  have y2 := s1.cel (Z + 1) 0 2 rfl
  simp only [Nat.zero_add] at z0 z1 y0 y2
  have hb : 0 ≤ a ∧ a ≤ 18446744073709551615 := by omega
  have hwb := hw_bd rm.bd size (a)
  obtain ⟨y, hy⟩ : ∃ y, hw size m (a) = y := ⟨_, rfl⟩
  rw [hy] at hwb k
  replace hy := aside hy
  have ei : IntKind.i64.wrap y = y := by simp [IntKind.wrap, IntKind.bits, IntKind.signed]; omega
  go_enter Try.func31, Try.ntmps31
  go_wp2_with fail
  refine c_word2 s1 rm hL hz (a) hb ?_
  intro w2 s2
  rw [hy.out]
  go_wp2
  exact s2.tail1.tail1

set_option maxRecDepth 100000 in
set_option maxHeartbeats 4000000 in
theorem c_refOffered (s : Sat W0 w H A) (rm : RefM H (.agg #[.int .u64 size, .slice B n0 c]) size m L) (hL : L ≤ 1000000) (hz : 0 ≤ size ∧ size ≤ 268435456) (n d a u : Int) (ha : 0 ≤ a ∧ a ≤ 4294967295)
    (k : ∀ w', Sat W0 w' H A → R (.returned (.int .i64 (hw size m (a + 2)))) w') :
    Calls Try.prog 33 #[.agg #[.int .u64 size, .slice B n0 c], .agg #[.int .i64 n, .int .u64 d, .int .u64 a, .int .u64 u]] w R := by
  have s1 := (s.alloc (c := [.int .u64 size, .slice B n0 c]) (t := 62)).alloc (c := [.int .i64 n, .int .u64 d, .int .u64 a, .int .u64 u]) (t := 58)
  obtain ⟨Z, hZ⟩ : ∃ Z, w.heap.size = Z := ⟨_, rfl⟩
  rw [World.size_alloc, hZ] at s1
  have z0 := s1.cel Z 0 0 rfl
  have z1 := s1.cel Z 0 1 rfl
  have y0 := s1.cel (Z + 1) 0 0 rfl
  have y2 := s1.cel (Z + 1) 0 2 rfl
  simp only [Nat.zero_add] at z0 z1 y0 y2
  have e : IntKind.u64.wrap (a + 2) = a + 2 := by rw [wrap_u64]; omega
  have hb : 0 ≤ a + 2 ∧ a + 2 ≤ 18446744073709551615 := by omega
  have hwb := hw_bd rm.bd size (a + 2)
  obtain ⟨y, hy⟩ : ∃ y, hw size m (a + 2) = y := ⟨_, rfl⟩
  rw [hy] at hwb k
  replace hy := aside hy
  have ei : IntKind.i64.wrap y = y := by simp [IntKind.wrap, IntKind.bits, IntKind.signed]; omega
  go_enter Try.func33, Try.ntmps33
  go_wp2_with fail
  refine c_word2 s1 rm hL hz (a + 2) hb ?_
  intro w2 s2
  rw [hy.out]
  go_wp2
  exact s2.tail1.tail1

set_option maxRecDepth 100000 in
set_option maxHeartbeats 4000000 in
theorem c_refWanted (s : Sat W0 w H A) (rm : RefM H (.agg #[.int .u64 size, .slice B n0 c]) size m L) (hL : L ≤ 1000000) (hz : 0 ≤ size ∧ size ≤ 268435456) (n d a u : Int) (ha : 0 ≤ a ∧ a ≤ 4294967295) (hn : 1 ≤ n ∧ n ≤ 256)
    (k : ∀ w', Sat W0 w' H A → R (.returned (.int .i64 (hw size m (a + 4 + 2 * n)))) w') :
    Calls Try.prog 37 #[.agg #[.int .u64 size, .slice B n0 c], .agg #[.int .i64 n, .int .u64 d, .int .u64 a, .int .u64 u]] w R := by
  have s1 := (s.alloc (c := [.int .u64 size, .slice B n0 c]) (t := 62)).alloc (c := [.int .i64 n, .int .u64 d, .int .u64 a, .int .u64 u]) (t := 58)
  obtain ⟨Z, hZ⟩ : ∃ Z, w.heap.size = Z := ⟨_, rfl⟩
  rw [World.size_alloc, hZ] at s1
  have z0 := s1.cel Z 0 0 rfl
  have z1 := s1.cel Z 0 1 rfl
  have y0 := s1.cel (Z + 1) 0 0 rfl
  have y2 := s1.cel (Z + 1) 0 2 rfl
  simp only [Nat.zero_add] at z0 z1 y0 y2
  have e0 : IntKind.u64.wrap n = n := by rw [wrap_u64]; omega
  have e1 : IntKind.u64.wrap (a + 4) = a + 4 := by rw [wrap_u64]; omega
  have e2 : IntKind.u64.wrap (2 * n) = 2 * n := by rw [wrap_u64]; omega
  have e3 : IntKind.u64.wrap (a + 4 + 2 * n) = a + 4 + 2 * n := by rw [wrap_u64]; omega
  have hb : 0 ≤ a + 4 + 2 * n ∧ a + 4 + 2 * n ≤ 18446744073709551615 := by omega
  have hwb := hw_bd rm.bd size (a + 4 + 2 * n)
  obtain ⟨y, hy⟩ : ∃ y, hw size m (a + 4 + 2 * n) = y := ⟨_, rfl⟩
  rw [hy] at hwb k
  replace hy := aside hy
  have ei : IntKind.i64.wrap y = y := by simp [IntKind.wrap, IntKind.bits, IntKind.signed]; omega
  go_enter Try.func37, Try.ntmps37
  go_wp2_with fail
  refine c_word2 s1 rm hL hz (a + 4 + 2 * n) hb ?_
  intro w2 s2
  rw [hy.out]
  go_wp2
  exact s2.tail1.tail1

set_option maxRecDepth 100000 in
set_option maxHeartbeats 4000000 in
theorem c_refHead (s : Sat W0 w H A) (rm : RefM H (.agg #[.int .u64 size, .slice B n0 c]) size m L) (hL : L ≤ 1000000) (hz : 0 ≤ size ∧ size ≤ 268435456) (n d a u x : Int) (ha : 0 ≤ a ∧ a ≤ 4294967295) (hn : 1 ≤ n ∧ n ≤ 256) (hx : 0 ≤ x ∧ x ≤ 65535)
    (k : ∀ w', Sat W0 w' H A → R (.returned (.int .i64 (hw size m (a + 4 + 2 * (x % n))))) w') :
    Calls Try.prog 35 #[.agg #[.int .u64 size, .slice B n0 c], .agg #[.int .i64 n, .int .u64 d, .int .u64 a, .int .u64 u], .int .i64 x] w R := by
  have s1 := (s.alloc (c := [.int .u64 size, .slice B n0 c]) (t := 62)).alloc (c := [.int .i64 n, .int .u64 d, .int .u64 a, .int .u64 u]) (t := 58)
  obtain ⟨Z, hZ⟩ : ∃ Z, w.heap.size = Z := ⟨_, rfl⟩
  rw [World.size_alloc, hZ] at s1
  have z0 := s1.cel Z 0 0 rfl
  have z1 := s1.cel Z 0 1 rfl
  have y0 := s1.cel (Z + 1) 0 0 rfl
  have y2 := s1.cel (Z + 1) 0 2 rfl
  simp only [Nat.zero_add] at z0 z1 y0 y2
  have hmod := Int.emod_nonneg x (show n ≠ 0 by omega)
  have hmod2 := Int.emod_lt_of_pos x (show 0 < n by omega)
  have htm : x.tmod n = x % n := Int.tmod_eq_emod_of_nonneg hx.1
  obtain ⟨j, hj⟩ : ∃ j, x % n = j := ⟨_, rfl⟩
  rw [hj] at hmod hmod2 htm k
  have n0' : ¬ n = 0 := by omega
  have nb : (n == 0) = false := by simp [n0']
  have ej : IntKind.i64.wrap j = j := by simp [IntKind.wrap, IntKind.bits, IntKind.signed]; omega
  have e0 : IntKind.u64.wrap j = j := by rw [wrap_u64]; omega
  have e1 : IntKind.u64.wrap (a + 4) = a + 4 := by rw [wrap_u64]; omega
  have e2 : IntKind.u64.wrap (2 * j) = 2 * j := by rw [wrap_u64]; omega
  have e3 : IntKind.u64.wrap (a + 4 + 2 * j) = a + 4 + 2 * j := by rw [wrap_u64]; omega
  have hb : 0 ≤ a + 4 + 2 * j ∧ a + 4 + 2 * j ≤ 18446744073709551615 := by omega
  have hwb := hw_bd rm.bd size (a + 4 + 2 * j)
  obtain ⟨y, hy⟩ : ∃ y, hw size m (a + 4 + 2 * j) = y := ⟨_, rfl⟩
  rw [hy] at hwb k
  replace hy := aside hy
  have ei : IntKind.i64.wrap y = y := by simp [IntKind.wrap, IntKind.bits, IntKind.signed]; omega
  go_enter Try.func35, Try.ntmps35
  go_wp2
  go_region_held3 (fun w' => w'.cell? ⟨Z, 0, none⟩ = some (.int .u64 size) ∧ w'.cell? ⟨Z, 1, none⟩ = some (.slice B n0 c) ∧ w'.cell? ⟨Z + 1, 0, none⟩ = some (.int .i64 n) ∧ w'.cell? ⟨Z + 1, 2, none⟩ = some (.int .u64 a))
    (first
      | exact ⟨z0.1, z1.1, y0.1, y2.1⟩
      | exact ⟨(s2.cel Z 0 0 rfl).1, (s2.cel Z 0 1 rfl).1, (s2.cel (Z + 1) 0 0 rfl).1, (s2.cel (Z + 1) 0 2 rfl).1⟩)
    (first
      | (go_at_call 86; refine c_word2 s1.drew rm hL hz (a + 4 + 2 * j) hb ?_; intro w2 s2; rw [hy.out]))
  all_goals
    go_wp2
    exact s2.tail1.tail1
end
end Go.Proofs.Ytohccblfnjampaa
