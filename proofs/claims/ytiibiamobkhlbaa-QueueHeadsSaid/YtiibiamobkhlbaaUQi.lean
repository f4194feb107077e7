/-
  QUEUE: the closure of QueueHeads is a device: it lists the heads that the document reads.
-/
import Derived.Test.YtiibiamobkhlbaaG7
import Derived.Test.YtiibiamobkhlbaaG6
import Derived.Test.YtiibiamobkhlbaaUOl
set_option linter.unusedVariables false
set_option linter.unusedSimpArgs false
namespace Go.Proofs.Ytiibiamobkhlbaa
open Go.RowKit
set_option linter.unusedVariables false
set_option linter.unusedSimpArgs false

/-- the i-th head that the memory offers -/
def headN (q : QuM) (size : Int) (m : Int → Int) (i : Nat) : Int := hw size m (q.a + 4 + 2 * (((q.fet + i) % 65536) % q.n))
def headDev (hd : Nat → Int) (room : Nat) : DevF (List Int) := fun hs m segs => if hs.length = room then none else some (hs ++ [hd hs.length], m, 0)
def headX (hb rb xb wb room : Nat) (size : Int) (m : Int → Int) (q : QuM) (B : Option Addr) (n0 c0 : Nat) : Hp → List Int → List Hp → Prop := fun H hs X => hs.length ≤ room ∧ RefM H (.agg #[.int .u64 size, .slice B n0 c0]) size m 100000 ∧
  ∃ A c hp, OwnS 1 (.slice A hs.length c) hs.length (hs.map (.int .u16)) hp ∧ X = [cellsH ⟨hb, 0, none⟩ [.slice A hs.length c], hp, cellsH ⟨rb, 0, none⟩ [.int .i64 room], cellsH ⟨xb, 0, none⟩ [.int .u64 size, .slice B n0 c0], cellsH ⟨wb, 0, none⟩ [.int .i64 q.n, .int .u64 q.d, .int .u64 q.a, .int .u64 q.u, .bool q.rdy, .int .i64 q.fet, .int .i64 q.us, .bool q.ev, .bool q.ind]]

theorem info_u16Q : ∃ i, Try.prog.info? 38 = some i ∧ i.zero = some (.int .u16 0) ∧ i.size = 1 ∧ i.bytes = 2 := by
  have h : (Try.prog.info? 38).map (fun i => (i.zero, i.size, i.bytes)) = some (some (.int .u16 0), 1, 2) := by kernel_rfl
  cases hi : Try.prog.info? 38 with
  | none => simp [hi] at h
  | some i => simp [hi] at h; exact ⟨i, rfl, h⟩
theorem row_u16Q {w : World} {a : Int} {t : TypeId} : RowR (w.alloc (.cells #[.int .u16 a] t)) (some ⟨w.heap.size, 0, none⟩) [.int .u16 a] := by
  intro _
  exact ⟨_, _, rfl, fun j u hu => by rw [Nat.zero_add]; simp [hu]⟩

section
variable {W0 : World}

set_option maxRecDepth 100000 in
set_option maxHeartbeats 4000000 in
theorem dev_head (hb rb xb wb mb room : Nat) (hroom : room ≤ 100) (size : Int) (m : Int → Int) (hm : ∀ a, 0 ≤ m a ∧ m a ≤ 255) (hz : 0 ≤ size ∧ size ≤ 268435456) (q : QuM) (ha : 0 ≤ q.a ∧ q.a ≤ 4294967295) (hn : 1 ≤ q.n ∧ q.n ≤ 256) (B : Option Addr) (n0 c0 : Nat) :
    DevC 17 #[.pointer (some ⟨hb, 0, none⟩), .pointer (some ⟨rb, 0, none⟩), .pointer (some ⟨xb, 0, none⟩), .pointer (some ⟨wb, 0, none⟩)] mb W0 (headDev (headN q size m) room) (headX hb rb xb wb room size m q B n0 c0) := by
  intro R w H X G hs r l h Bc nc cc segs ta tl hX own hbb hord s kn ks
  obtain ⟨hx, rm, A, c, hp, ownh, rfl⟩ := hX
  show Calls Try.prog 17 #[.agg #[.slice Bc nc cc, .int .u64 ta, .int .u64 tl], .pointer (some ⟨hb, 0, none⟩), .pointer (some ⟨rb, 0, none⟩), .pointer (some ⟨xb, 0, none⟩), .pointer (some ⟨wb, 0, none⟩)] w R
  simp only [List.cons_append, List.nil_append] at s kn ks
  have hqf := q.hfet
  clear own hbb hord
  obtain ⟨N, hN⟩ : ∃ N, hs.length = N := ⟨_, rfl⟩
  have hd0 := hw_bd hm size (q.a + 4 + 2 * (((q.fet + N) % 65536) % q.n))
  have hdE : headN q size m N = hw size m (q.a + 4 + 2 * (((q.fet + N) % 65536) % q.n)) := rfl
  unfold headDev at kn ks
  rw [hN] at kn ks s ownh hx
  obtain ⟨HD, hHD⟩ : ∃ y, hw size m (q.a + 4 + 2 * (((q.fet + N) % 65536) % q.n)) = y := ⟨_, rfl⟩
  rw [hHD] at hd0 hdE
  have s1 : Sat W0 _ H (cellsH ⟨hb, 0, none⟩ [.slice A N c] :: hp :: cellsH ⟨rb, 0, none⟩ [.int .i64 room] :: cellsH ⟨xb, 0, none⟩ [.int .u64 size, .slice B n0 c0] :: cellsH ⟨wb, 0, none⟩ [.int .i64 q.n, .int .u64 q.d, .int .u64 q.a, .int .u64 q.u, .bool q.rdy, .int .i64 q.fet, .int .i64 q.us, .bool q.ev, .bool q.ind] :: (ramL ⟨mb, 0, none⟩ (r, l) ++ (cellsH ⟨w.heap.size, 0, none⟩ [.slice Bc nc cc, .int .u64 ta, .int .u64 tl] :: h :: G))) := (s.alloc (c := [.slice Bc nc cc, .int .u64 ta, .int .u64 tl]) (t := 50)).wk
  obtain ⟨Z, hZ⟩ : ∃ Z, w.heap.size = Z := ⟨_, rfl⟩
  rw [hZ] at s1
  have d0 := s1.c0
  have r0 := s1.cel rb 0 0 rfl
  simp only [Nat.zero_add] at r0
  clear s
  by_cases hfull : N = room
  · rw [if_pos hfull] at kn
    have K := aside (kn rfl)
    clear ks kn
    have e1 : ((N : Int) == (room : Int)) = true := by simp [hfull]
    have e2 : (N : Int) = room := by omega
    replace hN := aside hN
    replace hHD := aside hHD
    replace hdE := aside hdE
    replace rm := aside rm
    replace ownh := aside ownh
    clear hfull
    go_enter Try.func17, Try.ntmps17
    go_wp2
    exact K.out _ s1.wk
  · rw [if_neg hfull] at ks
    have K1 := aside (ks _ _ _ rfl)
    clear ks kn
    have e1 : ((N : Int) == (room : Int)) = false := by simp; omega
    have e2 : ¬ (N : Int) = room := by omega
    have ewf : IntKind.i64.wrap (q.fet + N) = q.fet + N := by simp [IntKind.wrap, IntKind.bits, IntKind.signed]; omega
    have e16 : IntKind.u16.wrap HD = HD := by rw [wrap_u16]; omega
    have htm : (q.fet + N).tmod 65536 = (q.fet + N) % 65536 := Int.tmod_eq_emod_of_nonneg (by omega)
    have hxb : 0 ≤ (q.fet + N).tmod 65536 ∧ (q.fet + N).tmod 65536 ≤ 65535 := by rw [htm]; omega
    have hHDt := aside (show hw size m (q.a + 4 + 2 * (((q.fet + N).tmod 65536) % q.n)) = HD by rw [htm]; exact hHD)
    clear htm hHD
    replace hN := aside hN
    replace hdE := aside hdE
    replace hfull := aside hfull
    replace rm := aside rm
    replace ownh := aside ownh
    go_enter Try.func17, Try.ntmps17
    go_wp2
    obtain ⟨i0, hi0, hz0, hs0, hb0⟩ := info_u16Q
    have s1d := s1.drew
    have f0 := s1d.cel hb 0 0 rfl
    simp only [Nat.zero_add] at f0
    have g0 := s1d.cel xb 0 0 rfl
    have g1 := s1d.cel xb 0 1 rfl
    simp only [Nat.zero_add] at g0 g1
    have t0 := s1d.cel wb 0 0 rfl
    have t1 := s1d.cel wb 0 1 rfl
    have t2 := s1d.cel wb 0 2 rfl
    have t3 := s1d.cel wb 0 3 rfl
    have t4 := s1d.cel wb 0 4 rfl
    have t5 := s1d.cel wb 0 5 rfl
    simp only [Nat.zero_add] at t0 t1 t2 t3 t4 t5
    clear d0 r0
    have hAll : ∀ w', Sat W0 w' H (cellsH ⟨hb, 0, none⟩ [.slice A N c] :: hp :: cellsH ⟨rb, 0, none⟩ [.int .i64 room] :: cellsH ⟨xb, 0, none⟩ [.int .u64 size, .slice B n0 c0] :: cellsH ⟨wb, 0, none⟩ [.int .i64 q.n, .int .u64 q.d, .int .u64 q.a, .int .u64 q.u, .bool q.rdy, .int .i64 q.fet, .int .i64 q.us, .bool q.ev, .bool q.ind] :: (ramL ⟨mb, 0, none⟩ (r, l) ++ (cellsH ⟨Z, 0, none⟩ [.slice Bc nc cc, .int .u64 ta, .int .u64 tl] :: h :: G))) →
        w'.cell? ⟨hb, 0, none⟩ = some (.slice A N c) ∧ w'.cell? ⟨xb, 0, none⟩ = some (.int .u64 size) ∧ w'.cell? ⟨xb, 1, none⟩ = some (.slice B n0 c0) ∧ w'.cell? ⟨wb, 0, none⟩ = some (.int .i64 q.n) ∧ w'.cell? ⟨wb, 1, none⟩ = some (.int .u64 q.d) ∧ w'.cell? ⟨wb, 2, none⟩ = some (.int .u64 q.a) ∧ w'.cell? ⟨wb, 3, none⟩ = some (.int .u64 q.u) ∧ w'.cell? ⟨wb, 5, none⟩ = some (.int .i64 q.fet) := fun w' t => by
      have f0 := t.cel hb 0 0 rfl
      simp only [Nat.zero_add] at f0
      have g0 := t.cel xb 0 0 rfl
      have g1 := t.cel xb 0 1 rfl
      simp only [Nat.zero_add] at g0 g1
      have t0 := t.cel wb 0 0 rfl
      have t1 := t.cel wb 0 1 rfl
      have t2 := t.cel wb 0 2 rfl
      have t3 := t.cel wb 0 3 rfl
      have t4 := t.cel wb 0 4 rfl
      have t5 := t.cel wb 0 5 rfl
      simp only [Nat.zero_add] at t0 t1 t2 t3 t4 t5
      exact ⟨f0.1, g0.1, g1.1, t0.1, t1.1, t2.1, t3.1, t5.1⟩
    have g2 := hAll _ s1d
    replace hAll := aside hAll
    clear f0 g0 g1 t0 t1 t2 t3 t4 t5
    refine wp_region_L [14] (fun w' => w'.cell? ⟨hb, 0, none⟩ = some (.slice A N c) ∧ w'.cell? ⟨xb, 0, none⟩ = some (.int .u64 size) ∧ w'.cell? ⟨xb, 1, none⟩ = some (.slice B n0 c0) ∧ w'.cell? ⟨wb, 0, none⟩ = some (.int .i64 q.n) ∧ w'.cell? ⟨wb, 1, none⟩ = some (.int .u64 q.d) ∧ w'.cell? ⟨wb, 2, none⟩ = some (.int .u64 q.a) ∧ w'.cell? ⟨wb, 3, none⟩ = some (.int .u64 q.u) ∧ w'.cell? ⟨wb, 5, none⟩ = some (.int .i64 q.fet)) (by kernel_rfl) g2 (fun hHeld => ?_)
    refine wpAnyL_load (i := 0) (v := ?_) rfl (by kernel_rfl) (by kernel_rfl) (by kernel_rfl) (by kernel_rfl) (by rfl) (by kernel_rfl) (fun _ _ _ h => h) (by assumption) (Or.inl ⟨by rfl, ?_⟩) ?_
    rotate_left
    · (intro w hSw; (try dsimp only at hSw); go_simp; try with_reducible rfl)
    try simp only [Act.put, List.getElem_toArray, List.getElem_cons_succ, List.getElem_cons_zero, List.setIfInBounds_toArray, List.set_cons_zero, List.set_cons_succ]
    refine wpAnyL_load (i := 1) (v := ?_) rfl (by kernel_rfl) (by kernel_rfl) (by kernel_rfl) (by kernel_rfl) (by rfl) (by kernel_rfl) (fun _ _ _ h => h) (by assumption) (Or.inl ⟨by rfl, ?_⟩) ?_
    rotate_left
    · (intro w hSw; (try dsimp only at hSw); go_simp; try with_reducible rfl)
    try simp only [Act.put, List.getElem_toArray, List.getElem_cons_succ, List.getElem_cons_zero, List.setIfInBounds_toArray, List.set_cons_zero, List.set_cons_succ]
    refine wpAnyL_pure (i := 2) (v := ?_) rfl (by kernel_rfl) (by kernel_rfl) (by kernel_rfl) (by kernel_rfl) (by rfl) (fun _ _ _ h => h) (Or.inl ⟨by rfl, ?_⟩) (fun _ => by assumption) ?_
    rotate_left
    · (intro w hSw; go_simp; try with_reducible rfl)
    try simp only [Act.put, List.getElem_toArray, List.getElem_cons_succ, List.getElem_cons_zero, List.setIfInBounds_toArray, List.set_cons_zero, List.set_cons_succ]
    refine wpAnyL_load (i := 3) (v := ?_) rfl (by kernel_rfl) (by kernel_rfl) (by kernel_rfl) (by kernel_rfl) (by rfl) (by kernel_rfl) (fun _ _ _ h => h) (by assumption) (Or.inl ⟨by rfl, ?_⟩) ?_
    rotate_left
    · (intro w hSw; (try dsimp only at hSw); go_simp; try with_reducible rfl)
    try simp only [Act.put, List.getElem_toArray, List.getElem_cons_succ, List.getElem_cons_zero, List.setIfInBounds_toArray, List.set_cons_zero, List.set_cons_succ]
    refine wpAnyL_pure (i := 4) (v := ?_) rfl (by kernel_rfl) (by kernel_rfl) (by kernel_rfl) (by kernel_rfl) (by rfl) (fun _ _ _ h => h) (Or.inl ⟨by rfl, ?_⟩) (fun _ => by assumption) ?_
    rotate_left
    · (intro w hSw; go_simp; try with_reducible rfl)
    try simp only [Act.put, List.getElem_toArray, List.getElem_cons_succ, List.getElem_cons_zero, List.setIfInBounds_toArray, List.set_cons_zero, List.set_cons_succ]
    refine wpAnyL_load (i := 5) (v := ?_) rfl (by kernel_rfl) (by kernel_rfl) (by kernel_rfl) (by kernel_rfl) (by rfl) (by kernel_rfl) (fun _ _ _ h => h) (by assumption) (Or.inl ⟨by rfl, ?_⟩) ?_
    rotate_left
    · (intro w hSw; (try dsimp only at hSw); go_simp; try with_reducible rfl)
    try simp only [Act.put, List.getElem_toArray, List.getElem_cons_succ, List.getElem_cons_zero, List.setIfInBounds_toArray, List.set_cons_zero, List.set_cons_succ]
    refine wpAnyL_load (i := 6) (v := ?_) rfl (by kernel_rfl) (by kernel_rfl) (by kernel_rfl) (by kernel_rfl) (by rfl) (by kernel_rfl) (fun _ _ _ h => h) (by assumption) (Or.inl ⟨by rfl, ?_⟩) ?_
    rotate_left
    · (intro w hSw; (try dsimp only at hSw); go_simp; try with_reducible rfl)
    try simp only [Act.put, List.getElem_toArray, List.getElem_cons_succ, List.getElem_cons_zero, List.setIfInBounds_toArray, List.set_cons_zero, List.set_cons_succ]
    refine wpAnyL_pure (i := 7) (v := ?_) rfl (by kernel_rfl) (by kernel_rfl) (by kernel_rfl) (by kernel_rfl) (by rfl) (fun _ _ _ h => h) (Or.inl ⟨by rfl, ?_⟩) (fun _ => by assumption) ?_
    rotate_left
    · (intro w hSw; go_simp; try with_reducible rfl)
    try simp only [Act.put, List.getElem_toArray, List.getElem_cons_succ, List.getElem_cons_zero, List.setIfInBounds_toArray, List.set_cons_zero, List.set_cons_succ]
    refine wpAnyL_pure (i := 8) (v := ?_) rfl (by kernel_rfl) (by kernel_rfl) (by kernel_rfl) (by kernel_rfl) (by rfl) (fun _ _ _ h => h) (Or.inl ⟨by rfl, ?_⟩) (fun _ => by assumption) ?_
    rotate_left
    · (intro w hSw; go_simp; try with_reducible rfl)
    try simp only [Act.put, List.getElem_toArray, List.getElem_cons_succ, List.getElem_cons_zero, List.setIfInBounds_toArray, List.set_cons_zero, List.set_cons_succ]
    refine wpAnyL_pure (i := 9) (v := ?_) rfl (by kernel_rfl) (by kernel_rfl) (by kernel_rfl) (by kernel_rfl) (by rfl) (fun _ _ _ h => h) (Or.inl ⟨by rfl, ?_⟩) (fun _ => by assumption) ?_
    rotate_left
    · (intro w hSw; go_simp; try with_reducible rfl)
    try simp only [Act.put, List.getElem_toArray, List.getElem_cons_succ, List.getElem_cons_zero, List.setIfInBounds_toArray, List.set_cons_zero, List.set_cons_succ]
    refine wpAnyL_ready (rs := [10]) (by kernel_rfl) (by simp) ?_
    refine AllReadyL.cons rfl (fun K hK => ?_) AllReadyL.nil
    try simp only [List.getElem_toArray, List.getElem_cons_succ, List.getElem_cons_zero]
    rw [if_pos (by rfl)]
    go_simp
    refine c_refHead s1d rm.out (by omega) hz q.n q.d q.a q.u _ ha hn hxb ?_
    intro w7 s7
    rw [hHDt.out]
    go_wp2_with fail
    refine hK.out _ _ (hAll.out _ s7) (fun hHeld => ?_)
    clear hK K
    try simp only [Act.put, List.getElem_toArray, List.getElem_cons_succ, List.getElem_cons_zero, List.setIfInBounds_toArray, List.set_cons_zero, List.set_cons_succ]
    clear g2 s1d s1
    refine wpAnyL_pure (i := 11) (v := ?_) rfl (by kernel_rfl) (by kernel_rfl) (by kernel_rfl) (by kernel_rfl) (by rfl) (fun _ _ _ h => h) (Or.inl ⟨by rfl, ?_⟩) (fun _ => by assumption) ?_
    rotate_left
    · (intro w hSw; go_simp; try with_reducible rfl)
    try simp only [Act.put, List.getElem_toArray, List.getElem_cons_succ, List.getElem_cons_zero, List.setIfInBounds_toArray, List.set_cons_zero, List.set_cons_succ]
    have s7a := s7.alloc (c := [.int .u16 HD]) (t := 38)
    have g8 : _ ∧ _ := hAll.out _ s7a.tail1
    refine wpAnyL_ready (rs := [12]) (by kernel_rfl) (by simp) ?_
    refine AllReadyL.cons rfl (fun K hK => ?_) AllReadyL.nil
    try simp only [List.getElem_toArray, List.getElem_cons_succ, List.getElem_cons_zero]
    rw [if_pos (by rfl)]
    go_simp
    refine hK.out _ _ (hAll.out _ s7a.tail1) (fun hHeld => ?_)
    clear hK K
    try simp only [Act.put, List.getElem_toArray, List.getElem_cons_succ, List.getElem_cons_zero, List.setIfInBounds_toArray, List.set_cons_zero, List.set_cons_succ]
    refine wpAnyL_ready (rs := [13]) (by kernel_rfl) (by simp) ?_
    refine AllReadyL.cons rfl (fun K hK => ?_) AllReadyL.nil
    try simp only [List.getElem_toArray, List.getElem_cons_succ, List.getElem_cons_zero]
    rw [if_pos (by rfl)]
    refine wp_append (.tmp 12) (.tmp 24) 42 42 38 rfl i0 (.int .u16 0) 1 2 Try.underlying42 Try.underlying42 hi0 hz0 hs0 hb0 rfl (by decide) ownh.out (Sat.pull (h := hp) s7a) rfl rfl (us := [.int .u16 HD]) rfl row_u16Q (by simp [Value.oneCell']) (by omega) (by omega) ?_
    intro A8 c8 w8 h8 own8 s8
    have f0 := s8.cel hb 0 0 rfl
    simp only [Nat.zero_add] at f0
    have g0 := s8.cel xb 0 0 rfl
    have g1 := s8.cel xb 0 1 rfl
    simp only [Nat.zero_add] at g0 g1
    have t0 := s8.cel wb 0 0 rfl
    have t1 := s8.cel wb 0 1 rfl
    have t2 := s8.cel wb 0 2 rfl
    have t3 := s8.cel wb 0 3 rfl
    have t4 := s8.cel wb 0 4 rfl
    have t5 := s8.cel wb 0 5 rfl
    simp only [Nat.zero_add] at t0 t1 t2 t3 t4 t5
    have s9 := (s8.pc hb 0).s0 (.slice A8 (N + 1) c8)
    refine hK.out _ _ ⟨f0.1, g0.1, g1.1, t0.1, t1.1, t2.1, t3.1, t5.1⟩ (fun hHeld => ?_)
    clear hK K
    try simp only [Act.put, List.getElem_toArray, List.getElem_cons_succ, List.getElem_cons_zero, List.setIfInBounds_toArray, List.set_cons_zero, List.set_cons_succ]
    clear g0 g1 t0 t1 t2 t3 t4 t5 hHeld
    refine wpAnyL_ready (rs := [14]) (by kernel_rfl) (by simp) ?_
    refine AllReadyL.last rfl (by rfl) (fun K hK => ?_) (by kernel_rfl) AllReadyL.nil
    try simp only [List.getElem_toArray, List.getElem_cons_succ, List.getElem_cons_zero]
    rw [if_pos (by rfl)]
    go_simp
    refine hK.out _ _ ?_
    clear hK K
    try simp only [Act.put, List.getElem_toArray, List.getElem_cons_succ, List.getElem_cons_zero, List.setIfInBounds_toArray, List.set_cons_zero, List.set_cons_succ]
    refine wpAnyL_done (by kernel_rfl) ?_ _
    have own9 : OwnS 1 (.slice A8 (hs ++ [HD]).length c8) (hs ++ [HD]).length ((hs ++ [HD]).map (.int .u16)) h8 := by
      rw [List.length_append, hN.out, List.map_append]
      exact own8
    rw [hdE.out] at K1
    have hl9 := aside (show (hs ++ [HD]).length = N + 1 by rw [List.length_append, hN.out]; rfl)
    have K3 := aside (K1.out (w8.setCell ⟨hb, 0, none⟩ (.slice A8 (N + 1) c8)) H [cellsH ⟨hb, 0, none⟩ [.slice A8 (hs ++ [HD]).length c8], h8, cellsH ⟨rb, 0, none⟩ [.int .i64 room], cellsH ⟨xb, 0, none⟩ [.int .u64 size, .slice B n0 c0], cellsH ⟨wb, 0, none⟩ [.int .i64 q.n, .int .u64 q.d, .int .u64 q.a, .int .u64 q.u, .bool q.rdy, .int .i64 q.fet, .int .i64 q.us, .bool q.ev, .bool q.ind]] r l (fun _ _ h => h) ⟨by rw [hl9.out]; have := hfull.out; omega, rm.out, A8, c8, h8, own9, rfl⟩ rfl rfl (LogQ.refl _ _ _) (by omega) (by rw [hl9.out]; exact (show Sat W0 _ H (cellsH ⟨hb, 0, none⟩ [.slice A8 (N + 1) c8] :: h8 :: cellsH ⟨rb, 0, none⟩ [.int .i64 room] :: cellsH ⟨xb, 0, none⟩ [.int .u64 size, .slice B n0 c0] :: cellsH ⟨wb, 0, none⟩ [.int .i64 q.n, .int .u64 q.d, .int .u64 q.a, .int .u64 q.u, .bool q.rdy, .int .i64 q.fet, .int .i64 q.us, .bool q.ev, .bool q.ind] :: (ramL ⟨mb, 0, none⟩ (r, l) ++ (h :: G))) from s9.wk)))
    clear K1 s8 s9 own8 own9
    go_wp2
    exact K3.out
end
end Go.Proofs.Ytiibiamobkhlbaa
