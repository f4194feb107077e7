/-
  RING: what is told: Put, Publish, Want.
-/
import Derived.Test.YtohccblfnjampaaVr
import Derived.Test.YtohccblfnjampaaVox
import Derived.Test.YtohccblfnjampaaVp
namespace Go.Proofs.Ytohccblfnjampaa
open Go.RowKit
set_option linter.unusedVariables false
set_option linter.unusedSimpArgs false

section
variable {R : Ending → World → Prop} {W0 w : World} {H : Hp} {A F : List Hp} {b : Nat} {r : RamG} {l : Option LogG}

theorem rdOwn {v : Value} {n : Nat} {xs : List Int} {h : Hp} (own : OwnS 1 v n (xs.map (Value.int .u8)) h) (hx : ∀ x ∈ xs, 0 ≤ x ∧ x ≤ 255) (hn : xs.length = n) : ∃ A c, v = .slice A n c ∧ Rd u8E 1 h (.slice A n c) xs := by
  obtain ⟨A, c, rfl, r⟩ := (own.rd hx).open_
  rw [hn] at r ⊢
  exact ⟨A, c, rfl, r⟩

set_option maxRecDepth 100000 in
set_option maxHeartbeats 4000000 in
theorem c_ringPut (s : Sat W0 w H A) [fr : FrK (κ := Addr) (ρ := fun _ => RamG × Option LogG) ramL ⟨b, 0, none⟩ A (r, l) F] (n d a u x i c : Int) (hn : 1 ≤ n ∧ n ≤ 256) (hu : 0 ≤ u ∧ hasP r.size u (8 * n + 6)) (hx : 0 ≤ x ∧ x ≤ 65535) (hi : 0 ≤ i ∧ i ≤ 65535) (hc : 0 ≤ c ∧ c ≤ 4294967295)
    (k : ∀ w' r' l', r'.size = r.size → r'.mem = putB r.mem (u + 4 + 8 * (x % n)) (leb i 4 ++ leb c 4) → lgs l' = addW (u + 4 + 8 * (x % n)) 8 (lgs l) → Sat W0 w' H (ramL ⟨b, 0, none⟩ (r', l') ++ F) → R (.returned (.bool true)) w') :
    Calls Try.prog 58 #[.pointer (some ⟨b, 0, none⟩), .agg #[.int .i64 n, .int .u64 d, .int .u64 a, .int .u64 u], .int .u16 x, .int .u16 i, .int .u32 c] w R := by
  have hz := r.hsize
  obtain ⟨hu0, hu1, hu2⟩ := hu
  have s1 := (s.front (mk := ramL) (k := ⟨b, 0, none⟩)).alloc (c := [.int .i64 n, .int .u64 d, .int .u64 a, .int .u64 u]) (t := 58)
  have y0 := s1.c 0 rfl
  have y3 := s1.c 3 rfl
  simp only [Nat.zero_add] at y0 y3
  have hmax : max n 1 = n := by omega
  have hmod := Int.emod_nonneg x (show n ≠ 0 by omega)
  have hmod2 := Int.emod_lt_of_pos x (show 0 < n by omega)
  have htm : x.tmod n = x % n := Int.tmod_eq_emod_of_nonneg hx.1
  obtain ⟨j, hj⟩ : ∃ j, x % n = j := ⟨_, rfl⟩
  rw [hj] at hmod hmod2 htm k
  obtain ⟨Z, hZ⟩ : ∃ Z, w.heap.size = Z := ⟨_, rfl⟩
  rw [hZ] at s1 y0 y3
  have q1 : ¬ max n 1 = 0 := by omega
  have q2 : (max n 1 == 0) = false := by simp; omega
  have q3 : x.tmod (max n 1) = j := by rw [hmax]; exact htm
  have q4 : x % (max n 1) = j := by rw [hmax]; exact hj
  have n0 : ¬ n = 0 := by omega
  have nb : (n == 0) = false := by simp [n0]
  have ej : IntKind.i64.wrap j = j := by simp [IntKind.wrap, IntKind.bits, IntKind.signed]; omega
  have e0 : IntKind.u64.wrap j = j := by rw [wrap_u64]; omega
  have e1 : IntKind.u64.wrap (u + 4) = u + 4 := by rw [wrap_u64]; omega
  have e2 : IntKind.u64.wrap (8 * j) = 8 * j := by rw [wrap_u64]; omega
  obtain ⟨at', hat⟩ : ∃ at', u + 4 + 8 * j = at' := ⟨_, rfl⟩
  have e3 : IntKind.u64.wrap (u + 4 + 8 * j) = at' := by rw [wrap_u64]; omega
  have hab := aside (show 0 ≤ at' ∧ at' ≤ 18446744073709551615 by omega)
  have hhas := aside (show r.has at' 8 by unfold RamG.has; omega)
  have hib := aside (show 0 ≤ i ∧ i ≤ 18446744073709551615 by omega)
  have hcb := aside (show 0 ≤ c ∧ c ≤ 18446744073709551615 by omega)
  rw [hat] at k
  replace hat := aside hat
  clear hu1 hu2 hu0 hz s fr
  go_enter Try.func58, Try.ntmps58
  go_wp2
  go_region_with (fail)
  all_goals
    try simp only [Act.put, List.getElem_toArray, List.getElem_cons_succ, List.getElem_cons_zero, List.setIfInBounds_toArray, List.set_cons_succ, List.set_cons_zero]
    have s2 := s1.drew
    generalize World.drew _ = w2 at s2 ⊢
    clear y0 y3 s1 q1 q2 q3 q4 n0 nb ej e0 e1 e2 e3 hmod hmod2 htm hmax hj
    go_wp2_with fail
    refine c_wordBytes s2 i hib.out 4 4 rfl (by omega) ?_
    intro w3 v3 h3 own3 s3
    clear s2
    go_wp2_with fail
    refine c_wordBytes s3 c hcb.out 4 4 rfl (by omega) ?_
    intro w4 v4 h4 own4 s4
    clear s3
    obtain ⟨X4, cp4, _, rfl, _⟩ := id own4
    go_wp2_with (at_builtin; refine append8 rfl (.tmp 28) (.tmp 31) rfl rfl own3 s4 rfl (leb c 4) (leb_len _ _) (rowR_owned own4 s4) (by omega) ?_; intro A5 cap5 w5 h5 own5 s5)
    rw [← List.map_append] at own5
    have rd5 := own5.rd (fun y hy => by rcases List.mem_append.1 hy with h | h <;> exact leb_bd _ _ y h)
    have hln : (leb i 4 ++ leb c 4).length = 8 := by rw [List.length_append, leb_len, leb_len]
    refine c_ramWrite s5 at' hab.out rd5 (fun w' q => (Sat.pull (h := h5) q).head) (fun h => absurd hhas.out (by rw [hln] at h; exact h)) ?_
    intro _ w6 r6 l6 hm6 hz6 hl6 s6
    rw [hln] at hl6
    clear s4 s5 own3 own4 own5 rd5 hln
    have K := k w6 r6 l6 hz6 hm6 hl6 s6.wk
    clear k hm6 hl6 hz6 s6
    go_wp2
    exact K

set_option maxRecDepth 100000 in
set_option maxHeartbeats 4000000 in
theorem c_ringPublish (s : Sat W0 w H A) [fr : FrK (κ := Addr) (ρ := fun _ => RamG × Option LogG) ramL ⟨b, 0, none⟩ A (r, l) F] (n d a u x : Int) (hn : 1 ≤ n ∧ n ≤ 256) (hu : 0 ≤ u ∧ hasP r.size u (8 * n + 6)) (hx : 0 ≤ x ∧ x ≤ 65535)
    (k : ∀ w' r' l', r'.size = r.size → r'.mem = putB r.mem (u + 2) (leb x 2) → lgs l' = addW (u + 2) 2 (lgs l) → Sat W0 w' H (ramL ⟨b, 0, none⟩ (r', l') ++ F) → R (.returned (.bool true)) w') :
    Calls Try.prog 60 #[.pointer (some ⟨b, 0, none⟩), .agg #[.int .i64 n, .int .u64 d, .int .u64 a, .int .u64 u], .int .u16 x] w R := by
  have hz := r.hsize
  obtain ⟨hu0, hu1, hu2⟩ := hu
  have s1 := (s.front (mk := ramL) (k := ⟨b, 0, none⟩)).alloc (c := [.int .i64 n, .int .u64 d, .int .u64 a, .int .u64 u]) (t := 58)
  have y3 := s1.c 3 rfl
  obtain ⟨Z, hZ⟩ : ∃ Z, w.heap.size = Z := ⟨_, rfl⟩
  rw [hZ] at s1 y3
  simp only [Nat.zero_add] at y3
  obtain ⟨at', hat⟩ : ∃ at', u + 2 = at' := ⟨_, rfl⟩
  have e3 : IntKind.u64.wrap (u + 2) = at' := by rw [wrap_u64]; omega
  have hab := aside (show 0 ≤ at' ∧ at' ≤ 18446744073709551615 by omega)
  have hhas := aside (show r.has at' ((leb x 2).length : Int) by rw [leb_len]; unfold RamG.has; omega)
  have hxb := aside (show 0 ≤ x ∧ x ≤ 18446744073709551615 by omega)
  have ex : IntKind.u64.wrap x = x := by rw [wrap_u64]; omega
  rw [hat] at k
  replace hat := aside hat
  clear hu1 hu2 hu0 hz s fr
  go_enter Try.func60, Try.ntmps60
  have s1d := s1.drew
  have g1 := (s1d.cel Z 0 3 rfl).1
  simp only [Nat.zero_add, Nat.add_zero] at g1
  go_wp2
  go_region_held3 (fun w' => w'.cell? ⟨Z, 3, none⟩ = some (.int .u64 u))
    (first
      | with_reducible exact g1
      | with_reducible exact g5
      | with_reducible exact g6)
    (first
      | (go_at_call 20; have hs := s5; with_reducible (refine c_ramWrite hs at' hab.out rd5 (fun w' q => (Sat.pull (h := h5) q).head) (fun h => absurd hhas.out h) ?_); intro _ w6 r6 l6 hm6 hz6 hl6 s6; rw [leb_len] at hl6
         have g6 := (s6.cel Z 0 3 rfl).1
         simp only [Nat.zero_add, Nat.add_zero] at g6
         have arm : True := trivial)
      | (go_at_call 92; with_reducible (refine c_wordBytes s1d x hxb.out 2 2 rfl (by omega) ?_); intro w5 v5 h5 own5 s5; have rd5 := own5.rd (leb_bd _ _)
         have g5 := (s5.cel Z 0 3 rfl).1
         simp only [Nat.zero_add, Nat.add_zero] at g5
         have arm : True := trivial))
  all_goals
    try simp only [Act.put, List.getElem_toArray, List.getElem_cons_succ, List.getElem_cons_zero, List.setIfInBounds_toArray, List.set_cons_succ, List.set_cons_zero]
    have K := k w6 r6 l6 hz6 hm6 hl6 s6.wk
    clear k hm6 hl6 hz6 s6
    go_wp2
    exact K

set_option maxRecDepth 100000 in
set_option maxHeartbeats 4000000 in
theorem c_ringWant (s : Sat W0 w H A) [fr : FrK (κ := Addr) (ρ := fun _ => RamG × Option LogG) ramL ⟨b, 0, none⟩ A (r, l) F] (n d a u x : Int) (hn : 1 ≤ n ∧ n ≤ 256) (hu : 0 ≤ u ∧ hasP r.size u (8 * n + 6)) (hx : 0 ≤ x ∧ x ≤ 65535)
    (k : ∀ w' r' l', r'.size = r.size → r'.mem = putB r.mem (u + 4 + 8 * n) (leb x 2) → lgs l' = addW (u + 4 + 8 * n) 2 (lgs l) → Sat W0 w' H (ramL ⟨b, 0, none⟩ (r', l') ++ F) → R (.returned (.bool true)) w') :
    Calls Try.prog 62 #[.pointer (some ⟨b, 0, none⟩), .agg #[.int .i64 n, .int .u64 d, .int .u64 a, .int .u64 u], .int .u16 x] w R := by
  have hz := r.hsize
  obtain ⟨hu0, hu1, hu2⟩ := hu
  have s1 := (s.front (mk := ramL) (k := ⟨b, 0, none⟩)).alloc (c := [.int .i64 n, .int .u64 d, .int .u64 a, .int .u64 u]) (t := 58)
  have y0 := s1.c 0 rfl
  have y3 := s1.c 3 rfl
  obtain ⟨Z, hZ⟩ : ∃ Z, w.heap.size = Z := ⟨_, rfl⟩
  rw [hZ] at s1 y3 y0
  simp only [Nat.zero_add] at y3 y0
  have e0 : IntKind.u64.wrap n = n := by rw [wrap_u64]; omega
  have e1 : IntKind.u64.wrap (u + 4) = u + 4 := by rw [wrap_u64]; omega
  have e2 : IntKind.u64.wrap (8 * n) = 8 * n := by rw [wrap_u64]; omega
  obtain ⟨at', hat⟩ : ∃ at', u + 4 + 8 * n = at' := ⟨_, rfl⟩
  have e3 : IntKind.u64.wrap (u + 4 + 8 * n) = at' := by rw [wrap_u64]; omega
  have hab := aside (show 0 ≤ at' ∧ at' ≤ 18446744073709551615 by omega)
  have hhas := aside (show r.has at' ((leb x 2).length : Int) by rw [leb_len]; unfold RamG.has; omega)
  have hxb := aside (show 0 ≤ x ∧ x ≤ 18446744073709551615 by omega)
  have ex : IntKind.u64.wrap x = x := by rw [wrap_u64]; omega
  rw [hat] at k
  replace hat := aside hat
  clear hu1 hu2 hu0 hz s fr
  go_enter Try.func62, Try.ntmps62
  have s1d := s1.drew
  have g1 := And.intro (s1d.cel Z 0 0 rfl).1 (s1d.cel Z 0 3 rfl).1
  simp only [Nat.zero_add, Nat.add_zero] at g1
  go_wp2
  go_region_held3 (fun w' => w'.cell? ⟨Z, 0, none⟩ = some (.int .i64 n) ∧ w'.cell? ⟨Z, 3, none⟩ = some (.int .u64 u))
    (first
      | with_reducible exact g1
      | with_reducible exact g5
      | with_reducible exact g6)
    (first
      | (go_at_call 20; have hs := s5; with_reducible (refine c_ramWrite hs at' hab.out rd5 (fun w' q => (Sat.pull (h := h5) q).head) (fun h => absurd hhas.out h) ?_); intro _ w6 r6 l6 hm6 hz6 hl6 s6; rw [leb_len] at hl6
         have g6 := And.intro (s6.cel Z 0 0 rfl).1 (s6.cel Z 0 3 rfl).1
         simp only [Nat.zero_add, Nat.add_zero] at g6
         have arm : True := trivial)
      | (go_at_call 92; with_reducible (refine c_wordBytes s1d x hxb.out 2 2 rfl (by omega) ?_); intro w5 v5 h5 own5 s5; have rd5 := own5.rd (leb_bd _ _)
         have g5 := And.intro (s5.cel Z 0 0 rfl).1 (s5.cel Z 0 3 rfl).1
         simp only [Nat.zero_add, Nat.add_zero] at g5
         have arm : True := trivial))
  all_goals
    try simp only [Act.put, List.getElem_toArray, List.getElem_cons_succ, List.getElem_cons_zero, List.setIfInBounds_toArray, List.set_cons_succ, List.set_cons_zero]
    have K := k w6 r6 l6 hz6 hm6 hl6 s6.wk
    clear k hm6 hl6 hz6 s6
    go_wp2
    exact K
end
end Go.Proofs.Ytohccblfnjampaa
