/-
  PLIC: the document's Lines; two states compared.
-/
import Derived.Test.YtohccblfnjampaaPy
namespace Go.Proofs.Ytohccblfnjampaa
open Go.RowKit
set_option linter.unusedVariables false
set_option linter.unusedSimpArgs false

section
variable {R : Ending → World → Prop} {W0 w : World} {H : Hp} {A F : List Hp} {s : PlS}

theorem c_r12WordL (t : Sat W0 w H A) (x : W32) {M : List Value} {P : Int} (hM : mk32 x = M) (hP : wn x = P) (k : ∀ w', Sat W0 w' H A → R (.returned (.int .u64 P)) w') :
    Calls Try.prog 120 #[.agg M.toArray] w R := by
  subst hM hP; exact c_r12Word t x k
theorem c_rpFirstL (t : Sat W0 w H A) {L : List Value} {n : Nat} (hL : s.ref = L) (c : Nat) (hc : c < 2) (hn : s.best c = n) (k : ∀ w', Sat W0 w' H A → R (.returned (.int .i64 n)) w') :
    Calls Try.prog 127 #[.agg L.toArray, .int .i64 c] w R := by
  subst hL hn; exact c_rpFirst t c hc k

set_option maxRecDepth 100000 in
set_option maxHeartbeats 4000000 in
theorem c_rpLines (t : Sat W0 w H A) (k : ∀ w', Sat W0 w' H A → R (.returned (.int .u64 s.linesP)) w') :
    Calls Try.prog 121 #[.agg s.ref.toArray] w R := by
  have t1 := t.alloc (c := s.ref) (t := 104)
  obtain ⟨Z, hZ⟩ : ∃ Z, w.heap.size = Z := ⟨_, rfl⟩
  rw [hZ] at t1
  have hsl := s.r_size
  have hl0 := s.best_le 0
  have hl1 := s.best_le 1
  have hr0 := s.rE (c := 0) (by omega)
  have hr1 := s.rE (c := 1) (by omega)
  have hr2 := s.rP (i := s.best 0) (by omega)
  have hr3 := s.rP (i := s.best 1) (by omega)
  have hO0 : s.over 0 = decide (0 < s.best 0 ∧ s.least 0 < s.p (s.best 0)) := rfl
  have hO1 : s.over 1 = decide (0 < s.best 1 ∧ s.least 1 < s.p (s.best 1)) := rfl
  have hLP : s.linesP = (if s.over 0 then 2048 else 0) + (if s.over 1 then 512 else 0) := rfl
  obtain ⟨n0, hn0⟩ : ∃ n, s.best 0 = n := ⟨_, rfl⟩
  obtain ⟨n1, hn1⟩ : ∃ n, s.best 1 = n := ⟨_, rfl⟩
  rw [hn0] at hl0 hr2 hO0
  rw [hn1] at hl1 hr3 hO1
  obtain ⟨E0, hE0⟩ : ∃ n, s.least 0 = n := ⟨_, rfl⟩
  obtain ⟨E1, hE1⟩ : ∃ n, s.least 1 = n := ⟨_, rfl⟩
  obtain ⟨P0, hP0⟩ : ∃ n, s.p n0 = n := ⟨_, rfl⟩
  obtain ⟨P1, hP1⟩ : ∃ n, s.p n1 = n := ⟨_, rfl⟩
  rw [hE0] at hr0 hO0
  rw [hE1] at hr1 hO1
  rw [hP0] at hr2 hO0
  rw [hP1] at hr3 hO1
  rw [hO0, hO1] at hLP
  rw [hLP] at k
  obtain ⟨L, hL⟩ : ∃ L, s.ref = L := ⟨_, rfl⟩
  rw [hL] at t1 hsl hr0 hr1 hr2 hr3 ⊢
  have i0 : (0 : Int) ≤ n0 ∧ (n0 : Int) < 32 := by omega
  have i1 : (0 : Int) ≤ n1 ∧ (n1 : Int) < 32 := by omega
  clear hO0 hO1 hLP t
  have key : ∀ w2 (v0 : Int), Sat W0 w2 H (cellsH ⟨Z, 0, none⟩ L :: A) → True := fun _ _ _ => trivial
  clear key
  have ha0 : (0 < n0 ∧ E0 < P0) ∨ (0 < n0 ∧ ¬ E0 < P0) ∨ ¬ 0 < n0 := by omega
  have ha1 : (0 < n1 ∧ E1 < P1) ∨ (0 < n1 ∧ ¬ E1 < P1) ∨ ¬ 0 < n1 := by omega
  replace hsl := aside hsl
  replace hL := aside hL
  replace hn0 := aside hn0
  replace hn1 := aside hn1
  replace hE0 := aside hE0
  replace hE1 := aside hE1
  replace hP0 := aside hP0
  replace hP1 := aside hP1
  replace hr0 := aside hr0
  replace hr1 := aside hr1
  replace hr2 := aside hr2
  replace hr3 := aside hr3
  rcases ha0 with ⟨c0, c1⟩ | ⟨c0, c1⟩ | c0 <;> rcases ha1 with ⟨c2, c3⟩ | ⟨c2, c3⟩ | c2
  · have d0 : decide (0 < n0) = true := by simp [c0]
    have d1 : decide (E0 < P0) = true := by simp [c1]
    have d2 : decide (0 < n1) = true := by simp [c2]
    have d3 : decide (E1 < P1) = true := by simp [c3]
    replace k := aside (show ∀ w', Sat W0 w' H A → R (.returned (.int .u64 2560)) w' by simpa [c0, c2, c1, c3] using k)
    go_enter Try.func121, Try.ntmps121
    go_wp2_with (refine wpList_loadS rfl 104 (.tmp 1) rfl Z 0 rfl t1 Try.underlying104 rfl hsl.out ?_)
    go_wp2_with fail
    refine c_rpFirstL t1 hL.out 0 (by omega) hn0.out ?_
    intro w2 t2
    have y1 := (t2.c n0 (hr2.out)).1
    have y2 := (t2.c (192 + 0) (hr0.out)).1
    simp only [Nat.zero_add, Nat.add_zero, Nat.reduceAdd] at y1 y2
    clear hZ t1
    go_wp2
    go_quiet (fail)
    have t3 := t2.drewN nq
    generalize World.drewN _ nq = w3 at t3 ⊢
    clear t2 y1 y2
    go_wp2_with (refine wpList_loadS rfl 104 (.tmp 1) rfl Z 0 rfl t3 Try.underlying104 rfl hsl.out ?_)
    go_wp2_with fail
    refine c_rpFirstL t3 hL.out 1 (by omega) hn1.out ?_
    intro w4 t4
    have y1 := (t4.c n1 (hr3.out)).1
    have y2 := (t4.c (192 + 1) (hr1.out)).1
    simp only [Nat.zero_add, Nat.add_zero, Nat.reduceAdd] at y1 y2
    go_wp2
    go_quiet (fail)
    have t5 := t4.drewN nq
    generalize World.drewN _ nq = w5 at t5 ⊢
    clear t3 t4 y1 y2
    go_wp2
    exact k.out _ t5.tail1
  · have d0 : decide (0 < n0) = true := by simp [c0]
    have d1 : decide (E0 < P0) = true := by simp [c1]
    have d2 : decide (0 < n1) = true := by simp [c2]
    have d3 : decide (E1 < P1) = false := by simp [c3]
    replace k := aside (show ∀ w', Sat W0 w' H A → R (.returned (.int .u64 2048)) w' by simpa [c0, c2, c1, c3] using k)
    go_enter Try.func121, Try.ntmps121
    go_wp2_with (refine wpList_loadS rfl 104 (.tmp 1) rfl Z 0 rfl t1 Try.underlying104 rfl hsl.out ?_)
    go_wp2_with fail
    refine c_rpFirstL t1 hL.out 0 (by omega) hn0.out ?_
    intro w2 t2
    have y1 := (t2.c n0 (hr2.out)).1
    have y2 := (t2.c (192 + 0) (hr0.out)).1
    simp only [Nat.zero_add, Nat.add_zero, Nat.reduceAdd] at y1 y2
    clear hZ t1
    go_wp2
    go_quiet (fail)
    have t3 := t2.drewN nq
    generalize World.drewN _ nq = w3 at t3 ⊢
    clear t2 y1 y2
    go_wp2_with (refine wpList_loadS rfl 104 (.tmp 1) rfl Z 0 rfl t3 Try.underlying104 rfl hsl.out ?_)
    go_wp2_with fail
    refine c_rpFirstL t3 hL.out 1 (by omega) hn1.out ?_
    intro w4 t4
    have y1 := (t4.c n1 (hr3.out)).1
    have y2 := (t4.c (192 + 1) (hr1.out)).1
    simp only [Nat.zero_add, Nat.add_zero, Nat.reduceAdd] at y1 y2
    go_wp2
    go_quiet (fail)
    have t5 := t4.drewN nq
    generalize World.drewN _ nq = w5 at t5 ⊢
    clear t3 t4 y1 y2
    go_wp2
    exact k.out _ t5.tail1
  · have d0 : decide (0 < n0) = true := by simp [c0]
    have d1 : decide (E0 < P0) = true := by simp [c1]
    have d2 : decide (0 < n1) = false := by simp [c2]
    skip
    replace k := aside (show ∀ w', Sat W0 w' H A → R (.returned (.int .u64 2048)) w' by simpa [c0, c2, c1] using k)
    go_enter Try.func121, Try.ntmps121
    go_wp2_with (refine wpList_loadS rfl 104 (.tmp 1) rfl Z 0 rfl t1 Try.underlying104 rfl hsl.out ?_)
    go_wp2_with fail
    refine c_rpFirstL t1 hL.out 0 (by omega) hn0.out ?_
    intro w2 t2
    have y1 := (t2.c n0 (hr2.out)).1
    have y2 := (t2.c (192 + 0) (hr0.out)).1
    simp only [Nat.zero_add, Nat.add_zero, Nat.reduceAdd] at y1 y2
    clear hZ t1
    go_wp2
    go_quiet (fail)
    have t3 := t2.drewN nq
    generalize World.drewN _ nq = w3 at t3 ⊢
    clear t2 y1 y2
    go_wp2_with (refine wpList_loadS rfl 104 (.tmp 1) rfl Z 0 rfl t3 Try.underlying104 rfl hsl.out ?_)
    go_wp2_with fail
    refine c_rpFirstL t3 hL.out 1 (by omega) hn1.out ?_
    intro w4 t4
    have y1 := (t4.c n1 (hr3.out)).1
    have y2 := (t4.c (192 + 1) (hr1.out)).1
    simp only [Nat.zero_add, Nat.add_zero, Nat.reduceAdd] at y1 y2
    go_wp2
    go_quiet (fail)
    have t5 := t4.drewN nq
    generalize World.drewN _ nq = w5 at t5 ⊢
    clear t3 t4 y1 y2
    go_wp2
    exact k.out _ t5.tail1
  · have d0 : decide (0 < n0) = true := by simp [c0]
    have d1 : decide (E0 < P0) = false := by simp [c1]
    have d2 : decide (0 < n1) = true := by simp [c2]
    have d3 : decide (E1 < P1) = true := by simp [c3]
    replace k := aside (show ∀ w', Sat W0 w' H A → R (.returned (.int .u64 512)) w' by simpa [c0, c2, c1, c3] using k)
    go_enter Try.func121, Try.ntmps121
    go_wp2_with (refine wpList_loadS rfl 104 (.tmp 1) rfl Z 0 rfl t1 Try.underlying104 rfl hsl.out ?_)
    go_wp2_with fail
    refine c_rpFirstL t1 hL.out 0 (by omega) hn0.out ?_
    intro w2 t2
    have y1 := (t2.c n0 (hr2.out)).1
    have y2 := (t2.c (192 + 0) (hr0.out)).1
    simp only [Nat.zero_add, Nat.add_zero, Nat.reduceAdd] at y1 y2
    clear hZ t1
    go_wp2
    go_quiet (fail)
    have t3 := t2.drewN nq
    generalize World.drewN _ nq = w3 at t3 ⊢
    clear t2 y1 y2
    go_wp2_with (refine wpList_loadS rfl 104 (.tmp 1) rfl Z 0 rfl t3 Try.underlying104 rfl hsl.out ?_)
    go_wp2_with fail
    refine c_rpFirstL t3 hL.out 1 (by omega) hn1.out ?_
    intro w4 t4
    have y1 := (t4.c n1 (hr3.out)).1
    have y2 := (t4.c (192 + 1) (hr1.out)).1
    simp only [Nat.zero_add, Nat.add_zero, Nat.reduceAdd] at y1 y2
    go_wp2
    go_quiet (fail)
    have t5 := t4.drewN nq
    generalize World.drewN _ nq = w5 at t5 ⊢
    clear t3 t4 y1 y2
    go_wp2
    exact k.out _ t5.tail1
  · have d0 : decide (0 < n0) = true := by simp [c0]
    have d1 : decide (E0 < P0) = false := by simp [c1]
    have d2 : decide (0 < n1) = true := by simp [c2]
    have d3 : decide (E1 < P1) = false := by simp [c3]
    replace k := aside (show ∀ w', Sat W0 w' H A → R (.returned (.int .u64 0)) w' by simpa [c0, c2, c1, c3] using k)
    go_enter Try.func121, Try.ntmps121
    go_wp2_with (refine wpList_loadS rfl 104 (.tmp 1) rfl Z 0 rfl t1 Try.underlying104 rfl hsl.out ?_)
    go_wp2_with fail
    refine c_rpFirstL t1 hL.out 0 (by omega) hn0.out ?_
    intro w2 t2
    have y1 := (t2.c n0 (hr2.out)).1
    have y2 := (t2.c (192 + 0) (hr0.out)).1
    simp only [Nat.zero_add, Nat.add_zero, Nat.reduceAdd] at y1 y2
    clear hZ t1
    go_wp2
    go_quiet (fail)
    have t3 := t2.drewN nq
    generalize World.drewN _ nq = w3 at t3 ⊢
    clear t2 y1 y2
    go_wp2_with (refine wpList_loadS rfl 104 (.tmp 1) rfl Z 0 rfl t3 Try.underlying104 rfl hsl.out ?_)
    go_wp2_with fail
    refine c_rpFirstL t3 hL.out 1 (by omega) hn1.out ?_
    intro w4 t4
    have y1 := (t4.c n1 (hr3.out)).1
    have y2 := (t4.c (192 + 1) (hr1.out)).1
    simp only [Nat.zero_add, Nat.add_zero, Nat.reduceAdd] at y1 y2
    go_wp2
    go_quiet (fail)
    have t5 := t4.drewN nq
    generalize World.drewN _ nq = w5 at t5 ⊢
    clear t3 t4 y1 y2
    go_wp2
    exact k.out _ t5.tail1
  · have d0 : decide (0 < n0) = true := by simp [c0]
    have d1 : decide (E0 < P0) = false := by simp [c1]
    have d2 : decide (0 < n1) = false := by simp [c2]
    skip
    replace k := aside (show ∀ w', Sat W0 w' H A → R (.returned (.int .u64 0)) w' by simpa [c0, c2, c1] using k)
    go_enter Try.func121, Try.ntmps121
    go_wp2_with (refine wpList_loadS rfl 104 (.tmp 1) rfl Z 0 rfl t1 Try.underlying104 rfl hsl.out ?_)
    go_wp2_with fail
    refine c_rpFirstL t1 hL.out 0 (by omega) hn0.out ?_
    intro w2 t2
    have y1 := (t2.c n0 (hr2.out)).1
    have y2 := (t2.c (192 + 0) (hr0.out)).1
    simp only [Nat.zero_add, Nat.add_zero, Nat.reduceAdd] at y1 y2
    clear hZ t1
    go_wp2
    go_quiet (fail)
    have t3 := t2.drewN nq
    generalize World.drewN _ nq = w3 at t3 ⊢
    clear t2 y1 y2
    go_wp2_with (refine wpList_loadS rfl 104 (.tmp 1) rfl Z 0 rfl t3 Try.underlying104 rfl hsl.out ?_)
    go_wp2_with fail
    refine c_rpFirstL t3 hL.out 1 (by omega) hn1.out ?_
    intro w4 t4
    have y1 := (t4.c n1 (hr3.out)).1
    have y2 := (t4.c (192 + 1) (hr1.out)).1
    simp only [Nat.zero_add, Nat.add_zero, Nat.reduceAdd] at y1 y2
    go_wp2
    go_quiet (fail)
    have t5 := t4.drewN nq
    generalize World.drewN _ nq = w5 at t5 ⊢
    clear t3 t4 y1 y2
    go_wp2
    exact k.out _ t5.tail1
  · have d0 : decide (0 < n0) = false := by simp [c0]
    skip
    have d2 : decide (0 < n1) = true := by simp [c2]
    have d3 : decide (E1 < P1) = true := by simp [c3]
    replace k := aside (show ∀ w', Sat W0 w' H A → R (.returned (.int .u64 512)) w' by simpa [c0, c2, c3] using k)
    go_enter Try.func121, Try.ntmps121
    go_wp2_with (refine wpList_loadS rfl 104 (.tmp 1) rfl Z 0 rfl t1 Try.underlying104 rfl hsl.out ?_)
    go_wp2_with fail
    refine c_rpFirstL t1 hL.out 0 (by omega) hn0.out ?_
    intro w2 t2
    have y1 := (t2.c n0 (hr2.out)).1
    have y2 := (t2.c (192 + 0) (hr0.out)).1
    simp only [Nat.zero_add, Nat.add_zero, Nat.reduceAdd] at y1 y2
    clear hZ t1
    go_wp2
    go_quiet (fail)
    have t3 := t2.drewN nq
    generalize World.drewN _ nq = w3 at t3 ⊢
    clear t2 y1 y2
    go_wp2_with (refine wpList_loadS rfl 104 (.tmp 1) rfl Z 0 rfl t3 Try.underlying104 rfl hsl.out ?_)
    go_wp2_with fail
    refine c_rpFirstL t3 hL.out 1 (by omega) hn1.out ?_
    intro w4 t4
    have y1 := (t4.c n1 (hr3.out)).1
    have y2 := (t4.c (192 + 1) (hr1.out)).1
    simp only [Nat.zero_add, Nat.add_zero, Nat.reduceAdd] at y1 y2
    go_wp2
    go_quiet (fail)
    have t5 := t4.drewN nq
    generalize World.drewN _ nq = w5 at t5 ⊢
    clear t3 t4 y1 y2
    go_wp2
    exact k.out _ t5.tail1
  · have d0 : decide (0 < n0) = false := by simp [c0]
    skip
    have d2 : decide (0 < n1) = true := by simp [c2]
    have d3 : decide (E1 < P1) = false := by simp [c3]
    replace k := aside (show ∀ w', Sat W0 w' H A → R (.returned (.int .u64 0)) w' by simpa [c0, c2, c3] using k)
    go_enter Try.func121, Try.ntmps121
    go_wp2_with (refine wpList_loadS rfl 104 (.tmp 1) rfl Z 0 rfl t1 Try.underlying104 rfl hsl.out ?_)
    go_wp2_with fail
    refine c_rpFirstL t1 hL.out 0 (by omega) hn0.out ?_
    intro w2 t2
    have y1 := (t2.c n0 (hr2.out)).1
    have y2 := (t2.c (192 + 0) (hr0.out)).1
    simp only [Nat.zero_add, Nat.add_zero, Nat.reduceAdd] at y1 y2
    clear hZ t1
    go_wp2
    go_quiet (fail)
    have t3 := t2.drewN nq
    generalize World.drewN _ nq = w3 at t3 ⊢
    clear t2 y1 y2
    go_wp2_with (refine wpList_loadS rfl 104 (.tmp 1) rfl Z 0 rfl t3 Try.underlying104 rfl hsl.out ?_)
    go_wp2_with fail
    refine c_rpFirstL t3 hL.out 1 (by omega) hn1.out ?_
    intro w4 t4
    have y1 := (t4.c n1 (hr3.out)).1
    have y2 := (t4.c (192 + 1) (hr1.out)).1
    simp only [Nat.zero_add, Nat.add_zero, Nat.reduceAdd] at y1 y2
    go_wp2
    go_quiet (fail)
    have t5 := t4.drewN nq
    generalize World.drewN _ nq = w5 at t5 ⊢
    clear t3 t4 y1 y2
    go_wp2
    exact k.out _ t5.tail1
  · have d0 : decide (0 < n0) = false := by simp [c0]
    skip
    have d2 : decide (0 < n1) = false := by simp [c2]
    skip
    replace k := aside (show ∀ w', Sat W0 w' H A → R (.returned (.int .u64 0)) w' by simpa [c0, c2] using k)
    go_enter Try.func121, Try.ntmps121
    go_wp2_with (refine wpList_loadS rfl 104 (.tmp 1) rfl Z 0 rfl t1 Try.underlying104 rfl hsl.out ?_)
    go_wp2_with fail
    refine c_rpFirstL t1 hL.out 0 (by omega) hn0.out ?_
    intro w2 t2
    have y1 := (t2.c n0 (hr2.out)).1
    have y2 := (t2.c (192 + 0) (hr0.out)).1
    simp only [Nat.zero_add, Nat.add_zero, Nat.reduceAdd] at y1 y2
    clear hZ t1
    go_wp2
    go_quiet (fail)
    have t3 := t2.drewN nq
    generalize World.drewN _ nq = w3 at t3 ⊢
    clear t2 y1 y2
    go_wp2_with (refine wpList_loadS rfl 104 (.tmp 1) rfl Z 0 rfl t3 Try.underlying104 rfl hsl.out ?_)
    go_wp2_with fail
    refine c_rpFirstL t3 hL.out 1 (by omega) hn1.out ?_
    intro w4 t4
    have y1 := (t4.c n1 (hr3.out)).1
    have y2 := (t4.c (192 + 1) (hr1.out)).1
    simp only [Nat.zero_add, Nat.add_zero, Nat.reduceAdd] at y1 y2
    go_wp2
    go_quiet (fail)
    have t5 := t4.drewN nq
    generalize World.drewN _ nq = w5 at t5 ⊢
    clear t3 t4 y1 y2
    go_wp2
    exact k.out _ t5.tail1
end
end Go.Proofs.Ytohccblfnjampaa
