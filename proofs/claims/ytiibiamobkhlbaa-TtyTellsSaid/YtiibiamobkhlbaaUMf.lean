/-
  VMMIO, the document's: registers of two queues as they begin.
-/
import Derived.Test.YtiibiamobkhlbaaUMe
import Derived.Test.YtiibiamobkhlbaaUOl
import Derived.Test.YtiibiamobkhlbaaG2
set_option linter.unusedVariables false
set_option linter.unusedSimpArgs false
namespace Go.Proofs.Ytiibiamobkhlbaa
open Go.RowKit
set_option linter.unusedVariables false
set_option linter.unusedSimpArgs false

section
variable {R : Ending → World → Prop} {W0 w : World} {H : Hp} {A F : List Hp}
/-- rows of the document's queues -/
theorem rd_qd2 {H : Hp} {Y : Nat} (hh : ∀ l c, cellsH ⟨Y, 0, none⟩ (q0D ++ q0D) l = some c → H l = some c) : Rd quE 9 H (.slice (some ⟨Y, 0, none⟩) 2 2) [q0M, q0M] := by
  refine ⟨_, _, rfl, by simp, by omega, fun i x hx => ⟨Y, 0, q0D, rfl, ?_, rfl, fun j u hu => ⟨false, ?_⟩⟩⟩
  · match i, hx with
    | 0, hx => obtain rfl : q0M = x := by simpa using hx
               rfl
    | 1, hx => obtain rfl : q0M = x := by simpa using hx
               rfl
    | i + 2, hx => simp at hx
  · have hj : j < 9 := (List.getElem?_eq_some_iff.1 hu).1
    match i, hx with
    | 0, hx =>
      refine hh _ _ ?_
      have := cellsH_at (a := ⟨Y, 0, none⟩) (vs := q0D ++ q0D) (i := j) (v := u) (by rw [List.getElem?_append_left hj]; exact hu)
      simpa using this
    | 1, hx =>
      refine hh _ _ ?_
      have := cellsH_at (a := ⟨Y, 0, none⟩) (vs := q0D ++ q0D) (i := 9 + j) (v := u) (by rw [List.getElem?_append_right (show q0D.length ≤ 9 + j by show 9 ≤ 9 + j; omega)]; rw [show 9 + j - q0D.length = j by show 9 + j - 9 = j; omega]; exact hu)
      rw [show 0 + 1 * 9 + j = 0 + (9 + j) by omega]
      exact this
    | i + 2, hx => simp at hx

set_option maxRecDepth 100000 in
set_option maxHeartbeats 4000000 in
theorem c_refRegNew2 (s : Sat W0 w H A) {id off : Nat} (hid : id ≤ 4294967295) (hoff : off ≤ 18446744073709551615) {S : Option Addr} {sn sc : Nat} {ds : List Int} (rd : Rd u8E 1 H (.slice S sn sc) ds) (hds : ∀ x ∈ ds, 0 ≤ x ∧ x ≤ 255) (hpo : putN off 32 1 1 ≤ 18446744073709551615)
    (k : ∀ w' H' v, (∀ l c, H l = some c → H' l = some c) → RefR H' v (RegM.new id (putN off 32 1 1) 2 ds hid hpo hds) → Sat W0 w' H' A → R (.returned v) w') :
    Calls Try.prog 112 #[.int .u32 id, .int .u64 off, .int .i64 2, .slice S sn sc] w R := by
  have hmk := run_makeQD2
  have s1 := s.alloc (c := [.int .u32 0, .int .u32 0, .int .u32 0, .int .u32 0, .int .u32 0, .int .u32 0, .int .u32 0, .int .u64 0, .int .u64 0, .slice none 0 0, .slice none 0 0]) (t := 123)
  obtain ⟨Z, hZ⟩ : ∃ Z, w.heap.size = Z := ⟨_, rfl⟩
  rw [hZ] at s1
  have sd := s1.drew
  have sda := (s1.alloc (c := q0D ++ q0D) (t := 27)).drew
  replace k := aside k
  obtain ⟨OF, hOF⟩ : ∃ y : Int, ((putN off 32 1 1 : Nat) : Int) = y := ⟨_, rfl⟩
  replace hOF := aside hOF
  go_enter Try.func112, Try.ntmps112
  go_wp2
  refine wp_region_L [] (fun _ => True) (by kernel_rfl) trivial (fun hHeld => ?_)
  refine wpAnyL_pure (i := 0) (v := ?_) rfl (by kernel_rfl) (by kernel_rfl) (by kernel_rfl) (by kernel_rfl) (by rfl) (fun _ _ _ h => h) (Or.inl ⟨by rfl, ?_⟩) (fun _ => by assumption) ?_
  rotate_left
  · (intro w hSw; go_simp; try with_reducible rfl)
  try simp only [Act.put, List.getElem_toArray, List.getElem_cons_succ, List.getElem_cons_zero, List.setIfInBounds_toArray, List.set_cons_zero, List.set_cons_succ]
  refine wpAnyL_pure (i := 1) (v := ?_) rfl (by kernel_rfl) (by kernel_rfl) (by kernel_rfl) (by kernel_rfl) (by rfl) (fun _ _ _ h => h) (Or.inl ⟨by rfl, ?_⟩) (fun _ => by assumption) ?_
  rotate_left
  · (intro w hSw; go_simp; try with_reducible rfl)
  try simp only [Act.put, List.getElem_toArray, List.getElem_cons_succ, List.getElem_cons_zero, List.setIfInBounds_toArray, List.set_cons_zero, List.set_cons_succ]
  refine wpAnyL_pure (i := 3) (v := ?_) rfl (by kernel_rfl) (by kernel_rfl) (by kernel_rfl) (by kernel_rfl) (by rfl) (fun _ _ _ h => h) (Or.inl ⟨by rfl, ?_⟩) (fun _ => by assumption) ?_
  rotate_left
  · (intro w hSw; go_simp; try with_reducible rfl)
  try simp only [Act.put, List.getElem_toArray, List.getElem_cons_succ, List.getElem_cons_zero, List.setIfInBounds_toArray, List.set_cons_zero, List.set_cons_succ]
  refine wpAnyL_pure (i := 5) (v := ?_) rfl (by kernel_rfl) (by kernel_rfl) (by kernel_rfl) (by kernel_rfl) (by rfl) (fun _ _ _ h => h) (Or.inl ⟨by rfl, ?_⟩) (fun _ => by assumption) ?_
  rotate_left
  · (intro w hSw; go_simp; try with_reducible rfl)
  try simp only [Act.put, List.getElem_toArray, List.getElem_cons_succ, List.getElem_cons_zero, List.setIfInBounds_toArray, List.set_cons_zero, List.set_cons_succ]
  refine wpAnyL_ready (rs := [2, 4]) (by kernel_rfl) (by simp) ?_
  refine AllReadyL.cons rfl (fun K hK => ?_) ?_
  · try simp only [List.getElem_toArray, List.getElem_cons_succ, List.getElem_cons_zero]
    rw [if_pos (by rfl)]
    go_simp
    refine c_put01i sd off 32 1 1 rfl rfl rfl rfl (by omega) (by omega) (by omega) (by omega) ?_
    intro w2 s2
    rw [hOF.out]
    go_wp2_with fail
    refine hK.out _ _ trivial (fun hHeld => ?_)
    clear hK K
    try simp only [Act.put, List.getElem_toArray, List.getElem_cons_succ, List.getElem_cons_zero, List.setIfInBounds_toArray, List.set_cons_zero, List.set_cons_succ]
    have s3 := s2.alloc (c := [.int .i64 0, .int .u64 0, .int .u64 0, .int .u64 0, .bool false, .int .i64 0, .int .i64 0, .bool false, .bool false, .int .i64 0, .int .u64 0, .int .u64 0, .int .u64 0, .bool false, .int .i64 0, .int .i64 0, .bool false, .bool false]) (t := 27)
    obtain ⟨Y, hY⟩ : ∃ y, w2.heap.size = y := ⟨_, rfl⟩
    rw [hY] at s3
    refine wpAnyL_ready (rs := [4]) (by kernel_rfl) (by simp) ?_
    refine AllReadyL.cons rfl (fun K hK => ?_) AllReadyL.nil
    try simp only [List.getElem_toArray, List.getElem_cons_succ, List.getElem_cons_zero]
    rw [if_pos (by rfl)]
    go_simp
    refine hK.out _ _ trivial (fun hHeld => ?_)
    clear hK K
    try simp only [Act.put, List.getElem_toArray, List.getElem_cons_succ, List.getElem_cons_zero, List.setIfInBounds_toArray, List.set_cons_zero, List.set_cons_succ]
    generalize World.alloc w2 _ = w3 at *
    refine wpAnyL_pure (i := 6) (v := ?_) rfl (by kernel_rfl) (by kernel_rfl) (by kernel_rfl) (by kernel_rfl) (by rfl) (fun _ _ _ h => h) (Or.inl ⟨by rfl, ?_⟩) (fun _ => by assumption) ?_
    rotate_left
    · (intro w hSw; go_simp; try with_reducible rfl)
    try simp only [Act.put, List.getElem_toArray, List.getElem_cons_succ, List.getElem_cons_zero, List.setIfInBounds_toArray, List.set_cons_zero, List.set_cons_succ]
    have t9q0 := s3.cel Z 0 0 rfl
    have t9t0 := (s3.pc Z 0).s0 (.int .u32 id)
    have t9q1 := t9t0.c 1 rfl
    have t9t1 := t9t0.s 1 (by simp) (.int .u32 0)
    have t9q2 := t9t1.c 2 rfl
    have t9t2 := t9t1.s 2 (by simp) (.int .u32 0)
    have t9q3 := t9t2.c 3 rfl
    have t9t3 := t9t2.s 3 (by simp) (.int .u32 0)
    have t9q4 := t9t3.c 4 rfl
    have t9t4 := t9t3.s 4 (by simp) (.int .u32 0)
    have t9q5 := t9t4.c 5 rfl
    have t9t5 := t9t4.s 5 (by simp) (.int .u32 0)
    have t9q6 := t9t5.c 6 rfl
    have t9t6 := t9t5.s 6 (by simp) (.int .u32 0)
    have t9q7 := t9t6.c 7 rfl
    have t9t7 := t9t6.s 7 (by simp) (.int .u64 OF)
    have t9q8 := t9t7.c 8 rfl
    have t9t8 := t9t7.s 8 (by simp) (.int .u64 0)
    have t9q9 := t9t8.c 9 rfl
    have t9t9 := t9t8.s 9 (by simp) (.slice (some ⟨Y, 0, none⟩) 2 2)
    have t9q10 := t9t9.c 10 rfl
    have t9 := t9t9.s 10 (by simp) (.slice S sn sc)
    simp only [List.set_cons_succ, List.set_cons_zero, Nat.zero_add] at t9 t9q0 t9q1 t9q2 t9q3 t9q4 t9q5 t9q6 t9q7 t9q8 t9q9 t9q10
    have z0 := s3.cel Z 0 0 rfl
    have z1 := s3.cel Z 0 1 rfl
    have z2 := s3.cel Z 0 2 rfl
    have z3 := s3.cel Z 0 3 rfl
    have z4 := s3.cel Z 0 4 rfl
    have z5 := s3.cel Z 0 5 rfl
    have z6 := s3.cel Z 0 6 rfl
    have z7 := s3.cel Z 0 7 rfl
    have z8 := s3.cel Z 0 8 rfl
    have z9 := s3.cel Z 0 9 rfl
    have z10 := s3.cel Z 0 10 rfl
    simp only [Nat.zero_add] at z0 z1 z2 z3 z4 z5 z6 z7 z8 z9 z10
    refine wpAnyL_ready (rs := [7]) (by kernel_rfl) (by simp) ?_
    refine AllReadyL.cons rfl (fun K hK => ?_) AllReadyL.nil
    try simp only [List.getElem_toArray, List.getElem_cons_succ, List.getElem_cons_zero]
    rw [if_pos (by rfl)]
    go_simp
    refine hK.out _ _ trivial (fun hHeld => ?_)
    clear hK K
    try simp only [Act.put, List.getElem_toArray, List.getElem_cons_succ, List.getElem_cons_zero, List.setIfInBounds_toArray, List.set_cons_zero, List.set_cons_succ]
    refine wpAnyL_done (by kernel_rfl) ?_ _
    have f0 := t9.cel Z 0 0 rfl
    have f1 := t9.cel Z 0 1 rfl
    have f2 := t9.cel Z 0 2 rfl
    have f3 := t9.cel Z 0 3 rfl
    have f4 := t9.cel Z 0 4 rfl
    have f5 := t9.cel Z 0 5 rfl
    have f6 := t9.cel Z 0 6 rfl
    have f7 := t9.cel Z 0 7 rfl
    have f8 := t9.cel Z 0 8 rfl
    have f9 := t9.cel Z 0 9 rfl
    have f10 := t9.cel Z 0 10 rfl
    simp only [Nat.zero_add] at f0 f1 f2 f3 f4 f5 f6 f7 f8 f9 f10
    clear z0 z1 z2 z3 z4 z5 z6 z7 z8 z9 z10 hHeld t9q0 t9q1 t9q2 t9q3 t9q4 t9q5 t9q6 t9q7 t9q8 t9q9 t9q10 t9t0 t9t1 t9t2 t9t3 t9t4 t9t5 t9t6 t9t7 t9t8 t9t9
    go_wp2
    refine bodyPost_ret (by simp [results, Try.results112, go_sem, f0.1, f1.1, f2.1, f3.1, f4.1, f5.1, f6.1, f7.1, f8.1, f9.1, f10.1]; try rfl) rfl ?_
    have t11 : Sat W0 _ H (cellsH ⟨Y, 0, none⟩ (q0D ++ q0D) :: A) := (show Sat W0 _ H (cellsH ⟨Y, 0, none⟩ [.int .i64 0, .int .u64 0, .int .u64 0, .int .u64 0, .bool false, .int .i64 0, .int .i64 0, .bool false, .bool false, .int .i64 0, .int .u64 0, .int .u64 0, .int .u64 0, .bool false, .int .i64 0, .int .i64 0, .bool false, .bool false] :: A) from t9.wk)
    have t10 := t11.freeze
    obtain rfl := hOF.out
    exact k.out _ _ _ un_left ⟨_, _, _, _, _, rfl, rd_qd2 (fun l c e => by
      have hn : H l = none := by
        rcases (t11.each _ (List.mem_cons_self ..)).2 l with h | h
        · rw [e] at h; cases h
        · exact h
      simp [un, hn, e]), rd.mono u8E_mono un_left⟩ t10
  refine AllReadyL.cons rfl (fun K hK => ?_) AllReadyL.nil
  · try simp only [List.getElem_toArray, List.getElem_cons_succ, List.getElem_cons_zero]
    rw [if_pos (by rfl)]
    have s2 := s1.alloc (c := [.int .i64 0, .int .u64 0, .int .u64 0, .int .u64 0, .bool false, .int .i64 0, .int .i64 0, .bool false, .bool false, .int .i64 0, .int .u64 0, .int .u64 0, .int .u64 0, .bool false, .int .i64 0, .int .i64 0, .bool false, .bool false]) (t := 27)
    obtain ⟨Y, hY⟩ : ∃ y, Z + 1 = y := ⟨_, rfl⟩
    simp only [World.size_alloc, hZ, hY] at s2
    replace s2 := s2.drew
    go_simp
    refine hK.out _ _ trivial (fun hHeld => ?_)
    clear hK K
    try simp only [Act.put, List.getElem_toArray, List.getElem_cons_succ, List.getElem_cons_zero, List.setIfInBounds_toArray, List.set_cons_zero, List.set_cons_succ]
    generalize World.drew _ = w3 at s2 ⊢
    refine wpAnyL_ready (rs := [2]) (by kernel_rfl) (by simp) ?_
    refine AllReadyL.cons rfl (fun K hK => ?_) AllReadyL.nil
    try simp only [List.getElem_toArray, List.getElem_cons_succ, List.getElem_cons_zero]
    rw [if_pos (by rfl)]
    go_simp
    refine c_put01i s2 off 32 1 1 rfl rfl rfl rfl (by omega) (by omega) (by omega) (by omega) ?_
    intro w4 s4
    rw [hOF.out]
    go_wp2_with fail
    refine hK.out _ _ trivial (fun hHeld => ?_)
    clear hK K
    try simp only [Act.put, List.getElem_toArray, List.getElem_cons_succ, List.getElem_cons_zero, List.setIfInBounds_toArray, List.set_cons_zero, List.set_cons_succ]
    refine wpAnyL_pure (i := 6) (v := ?_) rfl (by kernel_rfl) (by kernel_rfl) (by kernel_rfl) (by kernel_rfl) (by rfl) (fun _ _ _ h => h) (Or.inl ⟨by rfl, ?_⟩) (fun _ => by assumption) ?_
    rotate_left
    · (intro w hSw; go_simp; try with_reducible rfl)
    try simp only [Act.put, List.getElem_toArray, List.getElem_cons_succ, List.getElem_cons_zero, List.setIfInBounds_toArray, List.set_cons_zero, List.set_cons_succ]
    have t9q0 := s4.cel Z 0 0 rfl
    have t9t0 := (s4.pc Z 0).s0 (.int .u32 id)
    have t9q1 := t9t0.c 1 rfl
    have t9t1 := t9t0.s 1 (by simp) (.int .u32 0)
    have t9q2 := t9t1.c 2 rfl
    have t9t2 := t9t1.s 2 (by simp) (.int .u32 0)
    have t9q3 := t9t2.c 3 rfl
    have t9t3 := t9t2.s 3 (by simp) (.int .u32 0)
    have t9q4 := t9t3.c 4 rfl
    have t9t4 := t9t3.s 4 (by simp) (.int .u32 0)
    have t9q5 := t9t4.c 5 rfl
    have t9t5 := t9t4.s 5 (by simp) (.int .u32 0)
    have t9q6 := t9t5.c 6 rfl
    have t9t6 := t9t5.s 6 (by simp) (.int .u32 0)
    have t9q7 := t9t6.c 7 rfl
    have t9t7 := t9t6.s 7 (by simp) (.int .u64 OF)
    have t9q8 := t9t7.c 8 rfl
    have t9t8 := t9t7.s 8 (by simp) (.int .u64 0)
    have t9q9 := t9t8.c 9 rfl
    have t9t9 := t9t8.s 9 (by simp) (.slice (some ⟨Y, 0, none⟩) 2 2)
    have t9q10 := t9t9.c 10 rfl
    have t9 := t9t9.s 10 (by simp) (.slice S sn sc)
    simp only [List.set_cons_succ, List.set_cons_zero, Nat.zero_add] at t9 t9q0 t9q1 t9q2 t9q3 t9q4 t9q5 t9q6 t9q7 t9q8 t9q9 t9q10
    have z0 := s4.cel Z 0 0 rfl
    have z1 := s4.cel Z 0 1 rfl
    have z2 := s4.cel Z 0 2 rfl
    have z3 := s4.cel Z 0 3 rfl
    have z4 := s4.cel Z 0 4 rfl
    have z5 := s4.cel Z 0 5 rfl
    have z6 := s4.cel Z 0 6 rfl
    have z7 := s4.cel Z 0 7 rfl
    have z8 := s4.cel Z 0 8 rfl
    have z9 := s4.cel Z 0 9 rfl
    have z10 := s4.cel Z 0 10 rfl
    simp only [Nat.zero_add] at z0 z1 z2 z3 z4 z5 z6 z7 z8 z9 z10
    refine wpAnyL_ready (rs := [7]) (by kernel_rfl) (by simp) ?_
    refine AllReadyL.cons rfl (fun K hK => ?_) AllReadyL.nil
    try simp only [List.getElem_toArray, List.getElem_cons_succ, List.getElem_cons_zero]
    rw [if_pos (by rfl)]
    go_simp
    refine hK.out _ _ trivial (fun hHeld => ?_)
    clear hK K
    try simp only [Act.put, List.getElem_toArray, List.getElem_cons_succ, List.getElem_cons_zero, List.setIfInBounds_toArray, List.set_cons_zero, List.set_cons_succ]
    refine wpAnyL_done (by kernel_rfl) ?_ _
    have f0 := t9.cel Z 0 0 rfl
    have f1 := t9.cel Z 0 1 rfl
    have f2 := t9.cel Z 0 2 rfl
    have f3 := t9.cel Z 0 3 rfl
    have f4 := t9.cel Z 0 4 rfl
    have f5 := t9.cel Z 0 5 rfl
    have f6 := t9.cel Z 0 6 rfl
    have f7 := t9.cel Z 0 7 rfl
    have f8 := t9.cel Z 0 8 rfl
    have f9 := t9.cel Z 0 9 rfl
    have f10 := t9.cel Z 0 10 rfl
    simp only [Nat.zero_add] at f0 f1 f2 f3 f4 f5 f6 f7 f8 f9 f10
    clear z0 z1 z2 z3 z4 z5 z6 z7 z8 z9 z10 hHeld t9q0 t9q1 t9q2 t9q3 t9q4 t9q5 t9q6 t9q7 t9q8 t9q9 t9q10 t9t0 t9t1 t9t2 t9t3 t9t4 t9t5 t9t6 t9t7 t9t8 t9t9
    go_wp2
    refine bodyPost_ret (by simp [results, Try.results112, go_sem, f0.1, f1.1, f2.1, f3.1, f4.1, f5.1, f6.1, f7.1, f8.1, f9.1, f10.1]; try rfl) rfl ?_
    have t11 : Sat W0 _ H (cellsH ⟨Y, 0, none⟩ (q0D ++ q0D) :: A) := (show Sat W0 _ H (cellsH ⟨Y, 0, none⟩ [.int .i64 0, .int .u64 0, .int .u64 0, .int .u64 0, .bool false, .int .i64 0, .int .i64 0, .bool false, .bool false, .int .i64 0, .int .u64 0, .int .u64 0, .int .u64 0, .bool false, .int .i64 0, .int .i64 0, .bool false, .bool false] :: A) from t9.wk)
    have t10 := t11.freeze
    obtain rfl := hOF.out
    exact k.out _ _ _ un_left ⟨_, _, _, _, _, rfl, rd_qd2 (fun l c e => by
      have hn : H l = none := by
        rcases (t11.each _ (List.mem_cons_self ..)).2 l with h | h
        · rw [e] at h; cases h
        · exact h
      simp [un, hn, e]), rd.mono u8E_mono un_left⟩ t10
theorem c_refRegNew2i (s : Sat W0 w H A) {id off : Nat} {idi offi : Int} (e1 : idi = id) (e2 : offi = off) (hid : id ≤ 4294967295) (hoff : off ≤ 18446744073709551615) {S : Option Addr} {sn sc : Nat} {ds : List Int} (rd : Rd u8E 1 H (.slice S sn sc) ds) (hds : ∀ x ∈ ds, 0 ≤ x ∧ x ≤ 255) (hpo : putN off 32 1 1 ≤ 18446744073709551615)
    (k : ∀ w' H' v, (∀ l c, H l = some c → H' l = some c) → RefR H' v (RegM.new id (putN off 32 1 1) 2 ds hid hpo hds) → Sat W0 w' H' A → R (.returned v) w') :
    Calls Try.prog 112 #[.int .u32 idi, .int .u64 offi, .int .i64 2, .slice S sn sc] w R := by
  subst e1 e2
  exact c_refRegNew2 s hid hoff rd hds hpo k
end
end Go.Proofs.Ytiibiamobkhlbaa
