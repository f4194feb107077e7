/-
  The document's Put, Publish, Want.
  CHAIN, the document's: a flag of a descriptor.
-/
import Derived.Test.YtiibiamobkhlbaaG2
import Derived.Test.YtiibiamobkhlbaaG1
import Derived.Deep.RegionHeld3
import Derived.Test.YtiibiamobkhlbaaG3
set_option linter.unusedVariables false
set_option linter.unusedSimpArgs false
namespace Go.Proofs.Ytiibiamobkhlbaa
open Go.RowKit
set_option linter.unusedVariables false
set_option linter.unusedSimpArgs false

section
variable {R : Ending → World → Prop} {W0 w : World} {H : Hp} {A F : List Hp} {v : Value} {size : Int} {m : Int → Int} {L : Nat} {B : Option Addr} {n0 c0 : Nat}

set_option maxRecDepth 100000 in
set_option maxHeartbeats 4000000 in
theorem c_refRingPut (s : Sat W0 w H A) (rm : RefM H (.agg #[.int .u64 size, .slice B n0 c0]) size m L) (hL : L ≤ 80000000000) (hz : 0 ≤ size ∧ size ≤ 268435456) (n d a u x i c : Int) (hn : 1 ≤ n ∧ n ≤ 256) (hu : 0 ≤ u ∧ hasP size u (8 * n + 6)) (hx : 0 ≤ x ∧ x ≤ 65535) (hi : 0 ≤ i ∧ i ≤ 65535) (hc : 0 ≤ c ∧ c ≤ 4294967295)
    (k : ∀ w' H' B' n' c', (∀ l c, H l = some c → H' l = some c) → RefM H' (.agg #[.int .u64 size, .slice B' n' c']) size (putB m (u + 4 + 8 * (x % n)) (leb i 4 ++ leb c 4)) (L + 200) → Sat W0 w' H' A → R (.returned (.agg #[.int .u64 size, .slice B' n' c'])) w') :
    Calls Try.prog 82 #[.agg #[.int .u64 size, .slice B n0 c0], .agg #[.int .i64 n, .int .u64 d, .int .u64 a, .int .u64 u], .int .i64 x, .int .i64 i, .int .u32 c] w R := by
  obtain ⟨hu0, hu1, hu2⟩ := hu
  have s1 := ((s.alloc (c := [.int .u64 size, .slice B n0 c0]) (t := 32)).alloc (c := [.int .i64 n, .int .u64 d, .int .u64 a, .int .u64 u]) (t := 25)).alloc (c := [.int .u64 0, .slice none 0 0]) (t := 32)
  obtain ⟨Z, hZ⟩ : ∃ Z, w.heap.size = Z := ⟨_, rfl⟩
  obtain ⟨Y, hY⟩ : ∃ Y, Z + 1 = Y := ⟨_, rfl⟩
  obtain ⟨X, hX⟩ : ∃ X, Y + 1 = X := ⟨_, rfl⟩
  simp only [World.size_alloc, hZ, hY, hX] at s1
  have y0 := s1.cel Y 0 0 rfl
  have y3 := s1.cel Y 0 3 rfl
  simp only [Nat.zero_add] at y0 y3
  have hmod := Int.emod_nonneg x (show n ≠ 0 by omega)
  have hmod2 := Int.emod_lt_of_pos x (show 0 < n by omega)
  have htm : x.tmod n = x % n := Int.tmod_eq_emod_of_nonneg hx.1
  obtain ⟨j, hj⟩ : ∃ j, x % n = j := ⟨_, rfl⟩
  rw [hj] at hmod hmod2 htm k
  have n0' : ¬ n = 0 := by omega
  have nb : (n == 0) = false := by simp [n0']
  have ej : IntKind.i64.wrap j = j := by simp [IntKind.wrap, IntKind.bits, IntKind.signed]; omega
  have e0 : IntKind.u64.wrap j = j := by rw [wrap_u64]; omega
  have e1 : IntKind.u64.wrap (u + 4) = u + 4 := by rw [wrap_u64]; omega
  have e2 : IntKind.u64.wrap (8 * j) = 8 * j := by rw [wrap_u64]; omega
  obtain ⟨at', hat⟩ : ∃ at', u + 4 + 8 * j = at' := ⟨_, rfl⟩
  have e3 : IntKind.u64.wrap (u + 4 + 8 * j) = at' := by rw [wrap_u64]; omega
  have hab := aside (show 0 ≤ at' ∧ at' ≤ 18446744073709551615 by omega)
  have hhas := aside (show hasP size at' 8 by unfold hasP; omega)
  have hib := aside (show 0 ≤ i ∧ i ≤ 18446744073709551615 by omega)
  have ei : IntKind.u64.wrap i = i := by rw [wrap_u64]; omega
  have hcb := aside (show 0 ≤ c ∧ c ≤ 18446744073709551615 by omega)
  rw [hat] at k
  replace hat := aside hat
  clear hu1 hu2 hu0 s
  go_enter Try.func82, Try.ntmps82
  go_wp2
  go_quiet (fail)
  have s2 := s1.drewN nq
  generalize World.drewN _ nq = w2 at s2 ⊢
  clear y0 y3 s1 n0' nb ej e0 e1 e2 e3 hmod hmod2 htm hj hX hY hZ
  go_wp2_with fail
  refine c_refBytesOf s2 i hib.out 4 4 rfl (by omega) ?_
  intro w3 v3 h3 own3 s3
  clear s2
  go_wp2_with fail
  refine c_refBytesOf s3 c hcb.out 4 4 rfl (by omega) ?_
  intro w4 v4 h4 own4 s4
  clear s3
  obtain ⟨X4, cp4, _, rfl, _⟩ := id own4
  go_wp2_with (at_builtin; refine append8 rfl (.tmp 25) (.tmp 28) rfl rfl own3 s4 rfl (leb c 4) (leb_len _ _) (rowR_owned own4 s4) (by omega) ?_; intro A5 cap5 w5 h5 own5 s5; have z0 := s5.cel Z 0 0 rfl; have z1 := s5.cel Z 0 1 rfl; simp only [Nat.zero_add] at z0 z1)
  rw [← List.map_append] at own5
  have s6 := s5.freeze
  have rd5 := (own5.rd (fun y hy => by rcases List.mem_append.1 hy with h | h <;> exact leb_bd _ _ y h)).mono u8E_mono (Sat.frozenD s5)
  have le6 := aside (show ∀ l c, H l = some c → un H h5 l = some c from un_leftD)
  generalize un H h5 = H6 at s6 rd5 le6
  have hln : (leb i 4 ++ leb c 4).length = 8 := by rw [List.length_append, leb_len, leb_len]
  have rm6 := rm.mono le6.out
  clear s5 own3 own4 own5
  refine c_refWriteM s6 rm6 (by omega) hz at' hab.out rd5 (by rw [hln]; omega) ?_
  intro w7 H7 v7 le7 rm7 s7
  rw [hln, if_pos (by exact hhas.out)] at rm7
  rw [hln, decide_eq_true (by exact hhas.out)]
  obtain ⟨B7, n7, c7, rfl⟩ := rm7.shapeM
  have s8q0 := s7.cel Z 0 0 rfl
  have s8t0 := (s7.pc Z 0).s0 (.int .u64 size)
  have s8q1 := s8t0.c 1 rfl
  have s8 := s8t0.s 1 (by simp) (.slice B7 n7 c7)
  simp only [List.set_cons_succ, List.set_cons_zero, Nat.zero_add] at s8 s8q0 s8q1
  have s8b := s8
  have s9q0 := s8.cel X 0 0 rfl
  have s9t0 := (s8.pc X 0).s0 (.int .u64 size)
  have s9q1 := s9t0.c 1 rfl
  have s9 := s9t0.s 1 (by simp) (.slice B7 n7 c7)
  simp only [List.set_cons_succ, List.set_cons_zero, Nat.zero_add] at s9 s9q0 s9q1
  have f0 := s9.c 0 rfl
  have f1 := s9.c 1 rfl
  simp only [Nat.zero_add] at f0 f1
  have g0 := s8b.c 0 rfl
  have g1 := s8b.c 1 rfl
  simp only [Nat.zero_add] at g0 g1
  have K := k _ H7 B7 n7 c7 (fun l c h => le7 _ _ (le6.out l c h)) rm7 s9.wk
  clear k s7 s8b s6 rd5 rm7 rm6 rm z0 z1
  go_wp2
  refine bodyPost_ret (by simp [results, Try.results82, go_sem, f0.1, f1.1]; try rfl) rfl ?_
  exact K


set_option maxRecDepth 100000 in
set_option maxHeartbeats 4000000 in
theorem c_refRingPublish (s : Sat W0 w H A) (rm : RefM H (.agg #[.int .u64 size, .slice B n0 c0]) size m L) (hL : L ≤ 80000000000) (hz : 0 ≤ size ∧ size ≤ 268435456) (n d a u x : Int) (hn : 1 ≤ n ∧ n ≤ 256) (hu : 0 ≤ u ∧ hasP size u (8 * n + 6)) (hx : 0 ≤ x ∧ x ≤ 65535)
    (k : ∀ w' H' B' n' c', (∀ l c, H l = some c → H' l = some c) → RefM H' (.agg #[.int .u64 size, .slice B' n' c']) size (putB m (u + 2) (leb x 2)) (L + 200) → Sat W0 w' H' A → R (.returned (.agg #[.int .u64 size, .slice B' n' c'])) w') :
    Calls Try.prog 83 #[.agg #[.int .u64 size, .slice B n0 c0], .agg #[.int .i64 n, .int .u64 d, .int .u64 a, .int .u64 u], .int .i64 x] w R := by
  obtain ⟨hu0, hu1, hu2⟩ := hu
  have s1 := ((s.alloc (c := [.int .u64 size, .slice B n0 c0]) (t := 32)).alloc (c := [.int .i64 n, .int .u64 d, .int .u64 a, .int .u64 u]) (t := 25)).alloc (c := [.int .u64 0, .slice none 0 0]) (t := 32)
  obtain ⟨Z, hZ⟩ : ∃ Z, w.heap.size = Z := ⟨_, rfl⟩
  obtain ⟨Y, hY⟩ : ∃ Y, Z + 1 = Y := ⟨_, rfl⟩
  obtain ⟨X, hX⟩ : ∃ X, Y + 1 = X := ⟨_, rfl⟩
  simp only [World.size_alloc, hZ, hY, hX] at s1
  have s1d := s1.drew
  have y0 := s1.cel Y 0 0 rfl
  have y1 := s1.cel Y 0 1 rfl
  have y2 := s1.cel Y 0 2 rfl
  have y3 := s1.cel Y 0 3 rfl
  simp only [Nat.zero_add] at y0 y1 y2 y3
  have z0 := s1.cel Z 0 0 rfl
  have z1 := s1.cel Z 0 1 rfl
  simp only [Nat.zero_add] at z0 z1
  obtain ⟨at', hat⟩ : ∃ at', u + 2 = at' := ⟨_, rfl⟩
  have e3 : IntKind.u64.wrap (u + 2) = at' := by rw [wrap_u64]; omega
  have hab := aside (show 0 ≤ at' ∧ at' ≤ 18446744073709551615 by omega)
  have hhas := aside (show hasP size at' ((2 : Nat) : Int) by unfold hasP; omega)
  have hxb := aside (show 0 ≤ x ∧ x ≤ 18446744073709551615 by omega)
  have ex : IntKind.u64.wrap x = x := by rw [wrap_u64]; omega
  have hL9 : L ≤ 90000000000 := by omega
  have hln := aside (show (leb x 2).length ≤ 200 by rw [leb_len]; omega)
  rw [hat] at k
  replace hat := aside hat
  clear hu1 hu2 hu0 s
  go_enter Try.func83, Try.ntmps83
  go_upto_region 1 with fail
  go_cut [] (fun wx => ∃ (H7 : Hp) (B7 : Option Addr) (n7 c7 : Nat), (∀ l c, H l = some c → H7 l = some c) ∧ RefM H7 (.agg #[.int .u64 size, .slice B7 n7 c7]) size (putB m at' (leb x 2)) (L + 200) ∧ Sat W0 wx H7 (cellsH ⟨Z, 0, none⟩ [.int .u64 size, .slice B7 n7 c7] :: cellsH ⟨X, 0, none⟩ [.int .u64 0, .slice none 0 0] :: A))
  case first =>
    go_region_with
      (first
        | (go_at_call 57; have hs := s6; with_reducible (refine c_refWriteM hs rm6 hL9 hz at' hab.out rd5 hln.out ?_); intro w7 H7 v7 le7 rm7 s7
           rw [leb_len, if_pos hhas.out] at rm7
           rw [leb_len, decide_eq_true hhas.out]
           obtain ⟨B7, n7, c7, rfl⟩ := rm7.shapeM
           have s8q0 := s7.cel Z 0 0 rfl
           have s8t0 := (s7.pc Z 0).s0 (.int .u64 size)
           have s8q1 := s8t0.c 1 rfl
           have s8 := s8t0.s 1 (by simp) (.slice B7 n7 c7)
           simp only [List.set_cons_succ, List.set_cons_zero, Nat.zero_add] at s8 s8q0 s8q1
           have arm : True := trivial)
        | (go_at_call 135; with_reducible (refine c_refBytesOf s1d x hxb.out 2 2 rfl (by omega) ?_); intro w5 v5 h5 own5 s5
           have s6 := s5.freeze
           have rd5 := (own5.rd (leb_bd _ _)).mono u8E_mono (Sat.frozenD s5)
           have le6 := aside (show ∀ l c, H l = some c → un H h5 l = some c from un_leftD)
           generalize un H h5 = H6 at s6 rd5 le6
           have rm6 := rm.mono le6.out
           have z0 := s6.cel Z 0 0 rfl
           have z1 := s6.cel Z 0 1 rfl
           simp only [Nat.zero_add] at z0 z1
           have y0 := s6.cel Y 0 0 rfl
           have y1 := s6.cel Y 0 1 rfl
           have y2 := s6.cel Y 0 2 rfl
           have y3 := s6.cel Y 0 3 rfl
           simp only [Nat.zero_add] at y0 y1 y2 y3
           have arm : True := trivial))
    all_goals
      try simp only [Act.put, List.getElem_toArray, List.getElem_cons_succ, List.getElem_cons_zero, List.setIfInBounds_toArray, List.set_cons_succ, List.set_cons_zero]
      go_wp2_with fail
      go_meet
      exact ⟨H7, B7, n7, c7, fun l c h => le7 _ _ (le6.out l c h), rm7, s8.wk⟩
  case rest =>
    obtain ⟨H7, B7, n7, c7, le7, rm7, s8⟩ := hcut
    have z0 := s8.cel Z 0 0 rfl
    have z1 := s8.cel Z 0 1 rfl
    simp only [Nat.zero_add] at z0 z1
    have s9q0 := s8.cel X 0 0 rfl
    have s9t0 := (s8.pc X 0).s0 (.int .u64 size)
    have s9q1 := s9t0.c 1 rfl
    have s9 := s9t0.s 1 (by simp) (.slice B7 n7 c7)
    simp only [List.set_cons_succ, List.set_cons_zero, Nat.zero_add] at s9 s9q0 s9q1
    have f0 := s9.c 0 rfl
    have f1 := s9.c 1 rfl
    simp only [Nat.zero_add] at f0 f1
    have K := k _ H7 B7 n7 c7 le7 rm7 s9.wk
    clear k rm7 rm s1d s1 y0 y1 y2 y3
    go_wp2
    refine bodyPost_ret (by simp [results, Try.results83, go_sem, f0.1, f1.1]; try rfl) rfl ?_
    exact K

set_option maxRecDepth 100000 in
set_option maxHeartbeats 4000000 in
theorem c_refRingWant (s : Sat W0 w H A) (rm : RefM H (.agg #[.int .u64 size, .slice B n0 c0]) size m L) (hL : L ≤ 80000000000) (hz : 0 ≤ size ∧ size ≤ 268435456) (n d a u x : Int) (hn : 1 ≤ n ∧ n ≤ 256) (hu : 0 ≤ u ∧ hasP size u (8 * n + 6)) (hx : 0 ≤ x ∧ x ≤ 65535)
    (k : ∀ w' H' B' n' c', (∀ l c, H l = some c → H' l = some c) → RefM H' (.agg #[.int .u64 size, .slice B' n' c']) size (putB m (u + 4 + 8 * n) (leb x 2)) (L + 200) → Sat W0 w' H' A → R (.returned (.agg #[.int .u64 size, .slice B' n' c'])) w') :
    Calls Try.prog 91 #[.agg #[.int .u64 size, .slice B n0 c0], .agg #[.int .i64 n, .int .u64 d, .int .u64 a, .int .u64 u], .int .i64 x] w R := by
  obtain ⟨hu0, hu1, hu2⟩ := hu
  have s1 := ((s.alloc (c := [.int .u64 size, .slice B n0 c0]) (t := 32)).alloc (c := [.int .i64 n, .int .u64 d, .int .u64 a, .int .u64 u]) (t := 25)).alloc (c := [.int .u64 0, .slice none 0 0]) (t := 32)
  obtain ⟨Z, hZ⟩ : ∃ Z, w.heap.size = Z := ⟨_, rfl⟩
  obtain ⟨Y, hY⟩ : ∃ Y, Z + 1 = Y := ⟨_, rfl⟩
  obtain ⟨X, hX⟩ : ∃ X, Y + 1 = X := ⟨_, rfl⟩
  simp only [World.size_alloc, hZ, hY, hX] at s1
  have s1d := s1.drew
  have y0 := s1.cel Y 0 0 rfl
  have y1 := s1.cel Y 0 1 rfl
  have y2 := s1.cel Y 0 2 rfl
  have y3 := s1.cel Y 0 3 rfl
  simp only [Nat.zero_add] at y0 y1 y2 y3
  have z0 := s1.cel Z 0 0 rfl
  have z1 := s1.cel Z 0 1 rfl
  simp only [Nat.zero_add] at z0 z1
  obtain ⟨at', hat⟩ : ∃ at', u + 4 + 8 * n = at' := ⟨_, rfl⟩
  have e3 : IntKind.u64.wrap (u + 4 + 8 * n) = at' := by rw [wrap_u64]; omega
  have hab := aside (show 0 ≤ at' ∧ at' ≤ 18446744073709551615 by omega)
  have hhas := aside (show hasP size at' ((2 : Nat) : Int) by unfold hasP; omega)
  have hxb := aside (show 0 ≤ x ∧ x ≤ 18446744073709551615 by omega)
  have e0 : IntKind.u64.wrap n = n := by rw [wrap_u64]; omega
  have e1 : IntKind.u64.wrap (u + 4) = u + 4 := by rw [wrap_u64]; omega
  have e2 : IntKind.u64.wrap (8 * n) = 8 * n := by rw [wrap_u64]; omega
  have ex : IntKind.u64.wrap x = x := by rw [wrap_u64]; omega
  have hL9 : L ≤ 90000000000 := by omega
  have hln := aside (show (leb x 2).length ≤ 200 by rw [leb_len]; omega)
  rw [hat] at k
  replace hat := aside hat
  clear hu1 hu2 hu0 s
  go_enter Try.func91, Try.ntmps91
  go_upto_region 1 with fail
  go_cut [] (fun wx => ∃ (H7 : Hp) (B7 : Option Addr) (n7 c7 : Nat), (∀ l c, H l = some c → H7 l = some c) ∧ RefM H7 (.agg #[.int .u64 size, .slice B7 n7 c7]) size (putB m at' (leb x 2)) (L + 200) ∧ Sat W0 wx H7 (cellsH ⟨Z, 0, none⟩ [.int .u64 size, .slice B7 n7 c7] :: cellsH ⟨X, 0, none⟩ [.int .u64 0, .slice none 0 0] :: A))
  case first =>
    go_region_with
      (first
        | (go_at_call 57; have hs := s6; with_reducible (refine c_refWriteM hs rm6 hL9 hz at' hab.out rd5 hln.out ?_); intro w7 H7 v7 le7 rm7 s7
           rw [leb_len, if_pos hhas.out] at rm7
           rw [leb_len, decide_eq_true hhas.out]
           obtain ⟨B7, n7, c7, rfl⟩ := rm7.shapeM
           have s8q0 := s7.cel Z 0 0 rfl
           have s8t0 := (s7.pc Z 0).s0 (.int .u64 size)
           have s8q1 := s8t0.c 1 rfl
           have s8 := s8t0.s 1 (by simp) (.slice B7 n7 c7)
           simp only [List.set_cons_succ, List.set_cons_zero, Nat.zero_add] at s8 s8q0 s8q1
           have arm : True := trivial)
        | (go_at_call 135; with_reducible (refine c_refBytesOf s1d x hxb.out 2 2 rfl (by omega) ?_); intro w5 v5 h5 own5 s5
           have s6 := s5.freeze
           have rd5 := (own5.rd (leb_bd _ _)).mono u8E_mono (Sat.frozenD s5)
           have le6 := aside (show ∀ l c, H l = some c → un H h5 l = some c from un_leftD)
           generalize un H h5 = H6 at s6 rd5 le6
           have rm6 := rm.mono le6.out
           have z0 := s6.cel Z 0 0 rfl
           have z1 := s6.cel Z 0 1 rfl
           simp only [Nat.zero_add] at z0 z1
           have y0 := s6.cel Y 0 0 rfl
           have y1 := s6.cel Y 0 1 rfl
           have y2 := s6.cel Y 0 2 rfl
           have y3 := s6.cel Y 0 3 rfl
           simp only [Nat.zero_add] at y0 y1 y2 y3
           have arm : True := trivial))
    all_goals
      try simp only [Act.put, List.getElem_toArray, List.getElem_cons_succ, List.getElem_cons_zero, List.setIfInBounds_toArray, List.set_cons_succ, List.set_cons_zero]
      go_wp2_with fail
      go_meet
      exact ⟨H7, B7, n7, c7, fun l c h => le7 _ _ (le6.out l c h), rm7, s8.wk⟩
  case rest =>
    obtain ⟨H7, B7, n7, c7, le7, rm7, s8⟩ := hcut
    have z0 := s8.cel Z 0 0 rfl
    have z1 := s8.cel Z 0 1 rfl
    simp only [Nat.zero_add] at z0 z1
    have s9q0 := s8.cel X 0 0 rfl
    have s9t0 := (s8.pc X 0).s0 (.int .u64 size)
    have s9q1 := s9t0.c 1 rfl
    have s9 := s9t0.s 1 (by simp) (.slice B7 n7 c7)
    simp only [List.set_cons_succ, List.set_cons_zero, Nat.zero_add] at s9 s9q0 s9q1
    have f0 := s9.c 0 rfl
    have f1 := s9.c 1 rfl
    simp only [Nat.zero_add] at f0 f1
    have K := k _ H7 B7 n7 c7 le7 rm7 s9.wk
    clear k rm7 rm s1d s1 y0 y1 y2 y3
    go_wp2
    refine bodyPost_ret (by simp [results, Try.results91, go_sem, f0.1, f1.1]; try rfl) rfl ?_
    exact K
end
end Go.Proofs.Ytiibiamobkhlbaa

namespace Go.Proofs.Ytiibiamobkhlbaa
open Go.RowKit
set_option linter.unusedVariables false
set_option linter.unusedSimpArgs false

section
variable {R : Ending → World → Prop} {W0 w : World} {H : Hp} {A F : List Hp}

end
end Go.Proofs.Ytiibiamobkhlbaa
