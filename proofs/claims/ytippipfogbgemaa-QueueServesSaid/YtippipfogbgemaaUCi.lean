/-
  CHAIN, the document's: along a table.
-/
import Derived.Test.YtippipfogbgemaaG8
import Derived.Test.YtippipfogbgemaaG3
import Derived.Deep.RegionHeld3
import Derived.Outline
set_option linter.unusedVariables false
set_option linter.unusedSimpArgs false
namespace Go.Proofs.Ytippipfogbgemaa
open Go.RowKit
set_option linter.unusedVariables false
set_option linter.unusedSimpArgs false

theorem oneCell_G (l : List SegM) : ∀ x ∈ encG l, x.oneCell' = true := by
  intro x hx
  unfold encG at hx
  rw [List.mem_flatMap] at hx
  obtain ⟨y, _, hy⟩ := hx
  simp at hy
  rcases hy with rfl | rfl | rfl <;> rfl

section
variable {W0 : World} {H : Hp} {v : Value} {size : Int} {m : Int → Int} {L : Nat}




set_option maxRecDepth 100000 in
set_option maxHeartbeats 4000000 in
theorem c_refAlong (rm : RefM H v size m L) (hL : L ≤ 100000000000) (hz : 0 ≤ size ∧ size ≤ 268435456) (t : Int) (N : Nat) (ht : 0 ≤ t ∧ t ≤ 18446744073709551615) (hN : N ≤ 256) (ta tl : Int) :
    ∀ (left : Nat) {R : Ending → World → Prop} {w : World} {A : List Hp} {h : Hp} {cv : Value} {segs : List SegM} (i : Int) (s : Sat W0 w H (h :: A)) (own : OwnS 3 cv segs.length (encG segs) h) (hi : -9223372036854775808 ≤ i ∧ i ≤ 9223372036854775807) (hle : left ≤ 256) (hsl : segs.length + left ≤ 1000)
    (k : ∀ e a out, alongP m size t N left i segs = (e, a, out) → ∀ w' d1 d2 d3 d4 v' h', (∃ A n c, v' = .slice A n c) → (e = 0 → OwnS 3 v' out.length (encG out) h' ∧ d1 = w1 m a ∧ d2 = w2 m a ∧ d3 = w3 m a ∧ d4 = w4 m a) → Sat W0 w' H (h' :: A) →
      R (.returned (.tuple #[.agg #[.int .u64 d1, .int .u32 d2, .int .u16 d3, .int .u16 d4], .agg #[v', .int .u64 ta, .int .u64 tl], .int .i64 e])) w'),
    Calls Try.prog 76 #[v, .int .u64 t, .int .i64 N, .int .i64 i, .int .i64 left, .agg #[cv, .int .u64 ta, .int .u64 tl]] w R := by
  obtain ⟨B, n0, c0, rfl⟩ := rm.shapeM
  intro left
  induction left with
  | zero =>
    intro R w A h cv segs i s own hi hle hsl k
    obtain ⟨A1, n1, c1, rfl⟩ : ∃ A n c, cv = .slice A n c := by obtain ⟨A, c, _, h, _⟩ := own; exact ⟨A, _, c, h⟩
    have s1 := (((s.alloc (c := [.int .u64 size, .slice B n0 c0]) (t := 28)).alloc (c := [.slice A1 n1 c1, .int .u64 ta, .int .u64 tl]) (t := 60)).alloc (c := [.int .u64 0, .int .u32 0, .int .u16 0, .int .u16 0]) (t := 169)).alloc
      (c := [.slice none 0 0, .int .u64 0, .int .u64 0]) (t := 60)
    obtain ⟨Z, hZ⟩ : ∃ Z, w.heap.size = Z := ⟨_, rfl⟩
    simp only [World.size_alloc] at s1
    rw [hZ] at s1
    have x0 := s1.cel (Z+1) 0 0 rfl
    have x1 := s1.cel (Z+1) 0 1 rfl
    have x2 := s1.cel (Z+1) 0 2 rfl
    simp only [Nat.zero_add] at x0 x1 x2
    by_cases h1 : i < 0
    · have K := fun w' => k _ _ _ (alongP_out (.inl h1)) w' 0 0 0 0 (.slice A1 n1 c1) h ⟨_, _, _, rfl⟩ (fun h => absurd h (by decide))
      replace K := aside K
      clear k own
      go_enter Try.func76, Try.ntmps76
      have sE := ((((s.alloc (c := [.int .u64 size, .slice B n0 c0]) (t := 28)).alloc (c := [.slice A1 n1 c1, .int .u64 ta, .int .u64 tl]) (t := 60)).alloc (c := [.int .u64 0, .int .u32 0, .int .u16 0, .int .u16 0]) (t := 169)).alloc
        (c := [.slice A1 n1 c1, .int .u64 ta, .int .u64 tl]) (t := 60)).drew
      simp only [World.size_alloc] at sE
      rw [hZ] at sE
      have f0 := sE.cel (Z+1+1) 0 0 rfl
      have f1 := sE.cel (Z+1+1) 0 1 rfl
      have f2 := sE.cel (Z+1+1) 0 2 rfl
      have f3 := sE.cel (Z+1+1) 0 3 rfl
      simp only [Nat.zero_add] at f0 f1 f2 f3
      have g0 := sE.cel (Z+1+1+1) 0 0 rfl
      have g1 := sE.cel (Z+1+1+1) 0 1 rfl
      have g2 := sE.cel (Z+1+1+1) 0 2 rfl
      simp only [Nat.zero_add] at g0 g1 g2
      go_wp2
      go_region_with (fail)
      all_goals
        simp only [Act.put, List.getElem_toArray, List.getElem_cons_succ, List.getElem_cons_zero, List.setIfInBounds_toArray, List.set_cons_succ, List.set_cons_zero]
        go_wp2
        refine bodyPost_ret (by simp [results, Try.results76, go_sem, f0.1, f1.1, f2.1, f3.1, g0.1, g1.1, g2.1]; try rfl) rfl ?_
        exact K.out _ sE.wk
    by_cases h2 : (N : Int) ≤ i
    · have K := fun w' => k _ _ _ (alongP_out (.inr h2)) w' 0 0 0 0 (.slice A1 n1 c1) h ⟨_, _, _, rfl⟩ (fun h => absurd h (by decide))
      replace K := aside K
      clear k own
      go_enter Try.func76, Try.ntmps76
      have sE := ((((s.alloc (c := [.int .u64 size, .slice B n0 c0]) (t := 28)).alloc (c := [.slice A1 n1 c1, .int .u64 ta, .int .u64 tl]) (t := 60)).alloc (c := [.int .u64 0, .int .u32 0, .int .u16 0, .int .u16 0]) (t := 169)).alloc
        (c := [.slice A1 n1 c1, .int .u64 ta, .int .u64 tl]) (t := 60)).drew
      simp only [World.size_alloc] at sE
      rw [hZ] at sE
      have f0 := sE.cel (Z+1+1) 0 0 rfl
      have f1 := sE.cel (Z+1+1) 0 1 rfl
      have f2 := sE.cel (Z+1+1) 0 2 rfl
      have f3 := sE.cel (Z+1+1) 0 3 rfl
      simp only [Nat.zero_add] at f0 f1 f2 f3
      have g0 := sE.cel (Z+1+1+1) 0 0 rfl
      have g1 := sE.cel (Z+1+1+1) 0 1 rfl
      have g2 := sE.cel (Z+1+1+1) 0 2 rfl
      simp only [Nat.zero_add] at g0 g1 g2
      go_wp2
      go_region_with (fail)
      all_goals
        simp only [Act.put, List.getElem_toArray, List.getElem_cons_succ, List.getElem_cons_zero, List.setIfInBounds_toArray, List.set_cons_succ, List.set_cons_zero]
        go_wp2
        refine bodyPost_ret (by simp [results, Try.results76, go_sem, f0.1, f1.1, f2.1, f3.1, g0.1, g1.1, g2.1]; try rfl) rfl ?_
        exact K.out _ sE.wk
    · have K := fun w' => k _ _ _ (alongP_zero (by omega)) w' 0 0 0 0 (.slice A1 n1 c1) h ⟨_, _, _, rfl⟩ (fun h => absurd h (by decide))
      replace K := aside K
      clear k own
      go_enter Try.func76, Try.ntmps76
      have sE := ((((s.alloc (c := [.int .u64 size, .slice B n0 c0]) (t := 28)).alloc (c := [.slice A1 n1 c1, .int .u64 ta, .int .u64 tl]) (t := 60)).alloc (c := [.int .u64 0, .int .u32 0, .int .u16 0, .int .u16 0]) (t := 169)).alloc
        (c := [.slice A1 n1 c1, .int .u64 ta, .int .u64 tl]) (t := 60)).drew
      simp only [World.size_alloc] at sE
      rw [hZ] at sE
      have f0 := sE.cel (Z+1+1) 0 0 rfl
      have f1 := sE.cel (Z+1+1) 0 1 rfl
      have f2 := sE.cel (Z+1+1) 0 2 rfl
      have f3 := sE.cel (Z+1+1) 0 3 rfl
      simp only [Nat.zero_add] at f0 f1 f2 f3
      have g0 := sE.cel (Z+1+1+1) 0 0 rfl
      have g1 := sE.cel (Z+1+1+1) 0 1 rfl
      have g2 := sE.cel (Z+1+1+1) 0 2 rfl
      simp only [Nat.zero_add] at g0 g1 g2
      go_wp2
      go_region_with (fail)
      all_goals
        simp only [Act.put, List.getElem_toArray, List.getElem_cons_succ, List.getElem_cons_zero, List.setIfInBounds_toArray, List.set_cons_succ, List.set_cons_zero]
        go_wp2
        refine bodyPost_ret (by simp [results, Try.results76, go_sem, f0.1, f1.1, f2.1, f3.1, g0.1, g1.1, g2.1]; try rfl) rfl ?_
        exact K.out _ sE.wk
  | succ left ih =>
    intro R w A h cv segs i s own hi hle hsl k
    obtain ⟨A1, n1, c1, rfl⟩ : ∃ A n c, cv = .slice A n c := by obtain ⟨A, c, _, h, _⟩ := own; exact ⟨A, _, c, h⟩
    have s1 := (((s.alloc (c := [.int .u64 size, .slice B n0 c0]) (t := 28)).alloc (c := [.slice A1 n1 c1, .int .u64 ta, .int .u64 tl]) (t := 60)).alloc (c := [.int .u64 0, .int .u32 0, .int .u16 0, .int .u16 0]) (t := 169)).alloc
      (c := [.slice none 0 0, .int .u64 0, .int .u64 0]) (t := 60)
    obtain ⟨Z, hZ⟩ : ∃ Z, w.heap.size = Z := ⟨_, rfl⟩
    simp only [World.size_alloc] at s1
    rw [hZ] at s1
    have x0 := s1.cel (Z+1) 0 0 rfl
    have x1 := s1.cel (Z+1) 0 1 rfl
    have x2 := s1.cel (Z+1) 0 2 rfl
    simp only [Nat.zero_add] at x0 x1 x2
    by_cases h1 : i < 0
    · have K := fun w' => k _ _ _ (alongP_out (.inl h1)) w' 0 0 0 0 (.slice A1 n1 c1) h ⟨_, _, _, rfl⟩ (fun h => absurd h (by decide))
      replace K := aside K
      clear k own ih
      go_enter Try.func76, Try.ntmps76
      have sE := ((((s.alloc (c := [.int .u64 size, .slice B n0 c0]) (t := 28)).alloc (c := [.slice A1 n1 c1, .int .u64 ta, .int .u64 tl]) (t := 60)).alloc (c := [.int .u64 0, .int .u32 0, .int .u16 0, .int .u16 0]) (t := 169)).alloc
        (c := [.slice A1 n1 c1, .int .u64 ta, .int .u64 tl]) (t := 60)).drew
      simp only [World.size_alloc] at sE
      rw [hZ] at sE
      have f0 := sE.cel (Z+1+1) 0 0 rfl
      have f1 := sE.cel (Z+1+1) 0 1 rfl
      have f2 := sE.cel (Z+1+1) 0 2 rfl
      have f3 := sE.cel (Z+1+1) 0 3 rfl
      simp only [Nat.zero_add] at f0 f1 f2 f3
      have g0 := sE.cel (Z+1+1+1) 0 0 rfl
      have g1 := sE.cel (Z+1+1+1) 0 1 rfl
      have g2 := sE.cel (Z+1+1+1) 0 2 rfl
      simp only [Nat.zero_add] at g0 g1 g2
      go_wp2
      go_region_with (fail)
      all_goals
        simp only [Act.put, List.getElem_toArray, List.getElem_cons_succ, List.getElem_cons_zero, List.setIfInBounds_toArray, List.set_cons_succ, List.set_cons_zero]
        go_wp2
        refine bodyPost_ret (by simp [results, Try.results76, go_sem, f0.1, f1.1, f2.1, f3.1, g0.1, g1.1, g2.1]; try rfl) rfl ?_
        exact K.out _ sE.wk
    by_cases h2 : (N : Int) ≤ i
    · have K := fun w' => k _ _ _ (alongP_out (.inr h2)) w' 0 0 0 0 (.slice A1 n1 c1) h ⟨_, _, _, rfl⟩ (fun h => absurd h (by decide))
      replace K := aside K
      clear k own ih
      go_enter Try.func76, Try.ntmps76
      have sE := ((((s.alloc (c := [.int .u64 size, .slice B n0 c0]) (t := 28)).alloc (c := [.slice A1 n1 c1, .int .u64 ta, .int .u64 tl]) (t := 60)).alloc (c := [.int .u64 0, .int .u32 0, .int .u16 0, .int .u16 0]) (t := 169)).alloc
        (c := [.slice A1 n1 c1, .int .u64 ta, .int .u64 tl]) (t := 60)).drew
      simp only [World.size_alloc] at sE
      rw [hZ] at sE
      have f0 := sE.cel (Z+1+1) 0 0 rfl
      have f1 := sE.cel (Z+1+1) 0 1 rfl
      have f2 := sE.cel (Z+1+1) 0 2 rfl
      have f3 := sE.cel (Z+1+1) 0 3 rfl
      simp only [Nat.zero_add] at f0 f1 f2 f3
      have g0 := sE.cel (Z+1+1+1) 0 0 rfl
      have g1 := sE.cel (Z+1+1+1) 0 1 rfl
      have g2 := sE.cel (Z+1+1+1) 0 2 rfl
      simp only [Nat.zero_add] at g0 g1 g2
      go_wp2
      go_region_with (fail)
      all_goals
        simp only [Act.put, List.getElem_toArray, List.getElem_cons_succ, List.getElem_cons_zero, List.setIfInBounds_toArray, List.set_cons_succ, List.set_cons_zero]
        go_wp2
        refine bodyPost_ret (by simp [results, Try.results76, go_sem, f0.1, f1.1, f2.1, f3.1, g0.1, g1.1, g2.1]; try rfl) rfl ?_
        exact K.out _ sE.wk
    · have h12 := aside (show ¬ (i < 0 ∨ (N : Int) ≤ i) by omega)
      obtain ⟨ln, hln⟩ : ∃ ln : Int, ((left + 1 : Nat) : Int) = ln := ⟨_, rfl⟩
      rw [hln]
      have hl1 : ln - 1 = (left : Int) := by omega
      have hl0 : 1 ≤ ln ∧ ln ≤ 256 := by omega
      have hl00 : (ln == 0) = false := by rw [beq_eq_false_iff_ne]; omega
      clear hln
      obtain ⟨D, hD⟩ : ∃ D, atD t i = D := ⟨_, rfl⟩
      have hD2 := aside hD
      have hDb : 0 ≤ D ∧ D ≤ 18446744073709551615 := by rw [← hD]; unfold atD; rw [wrap_u64]; omega
      replace hDb := aside hDb
      replace hD := aside (show D = IntKind.u64.wrap (t + IntKind.u64.wrap (16 * IntKind.u64.wrap i)) from hD.symm)
      replace hsl := aside hsl
      replace hle := aside hle
      replace own := aside own
      have s0 := (((s.alloc (c := [.int .u64 size, .slice B n0 c0]) (t := 28)).alloc (c := [.slice A1 n1 c1, .int .u64 ta, .int .u64 tl]) (t := 60)).alloc (c := [.int .u64 0, .int .u32 0, .int .u16 0, .int .u16 0]) (t := 169)).alloc
        (c := [.slice none 0 0, .int .u64 0, .int .u64 0]) (t := 60)
      simp only [World.size_alloc] at s0
      rw [hZ] at s0
      have z0 := s0.cel Z 0 0 rfl
      have z1 := s0.cel Z 0 1 rfl
      simp only [Nat.zero_add] at z0 z1
      replace k := aside k
      obtain ⟨IH, hIH⟩ : ∃ p : Prop, p = (∀ {R : Ending → World → Prop} {w : World} {A : List Hp} {h : Hp} {cv : Value} {segs : List SegM} (i : Int) (s : Sat W0 w H (h :: A)) (own : OwnS 3 cv segs.length (encG segs) h) (hi : -9223372036854775808 ≤ i ∧ i ≤ 9223372036854775807) (hle : left ≤ 256) (hsl : segs.length + left ≤ 1000)
    (k : ∀ e a out, alongP m size t N left i segs = (e, a, out) → ∀ w' d1 d2 d3 d4 v' h', (∃ A n c, v' = .slice A n c) → (e = 0 → OwnS 3 v' out.length (encG out) h' ∧ d1 = w1 m a ∧ d2 = w2 m a ∧ d3 = w3 m a ∧ d4 = w4 m a) → Sat W0 w' H (h' :: A) →
      R (.returned (.tuple #[.agg #[.int .u64 d1, .int .u32 d2, .int .u16 d3, .int .u16 d4], .agg #[v', .int .u64 ta, .int .u64 tl], .int .i64 e])) w'),
    Calls Try.prog 76 #[.agg #[.int .u64 size, .slice B n0 c0], .int .u64 t, .int .i64 N, .int .i64 i, .int .i64 left, .agg #[cv, .int .u64 ta, .int .u64 tl]] w R) := ⟨_, rfl⟩
      have ih2 : Aside IH := aside (by rw [hIH]; exact @ih)
      clear ih
      replace hIH := aside hIH
      clear s1 s x0 x1 x2
      go_enter Try.func76, Try.ntmps76
      go_wp2_with fail
      refine c_refDesc s0 rm hL hz t i D ht hi hD.out ?_ ?_
      · intro hth wA s2
        have K := fun w' => k.out _ _ _ (alongP_place h12.out (by rw [hD2.out]; exact hth)) w' 0 0 0 0 (.slice A1 n1 c1) h ⟨_, _, _, rfl⟩ (fun h => absurd h (by decide))
        replace K := aside K
        have s3 := s2.alloc (c := [.int .u64 0, .int .u32 0, .int .u16 0, .int .u16 0]) (t := 169)
        obtain ⟨Y, hY⟩ : ∃ Y, wA.heap.size = Y := ⟨_, rfl⟩
        rw [hY] at s3
        have d0 := s3.cel Y 0 0 rfl
        have d1 := s3.cel Y 0 1 rfl
        have d2 := s3.cel Y 0 2 rfl
        have d3 := s3.cel Y 0 3 rfl
        simp only [Nat.zero_add] at d0 d1 d2 d3
        have x0 := s3.cel (Z+1) 0 0 rfl
        have x1 := s3.cel (Z+1) 0 1 rfl
        have x2 := s3.cel (Z+1) 0 2 rfl
        simp only [Nat.zero_add] at x0 x1 x2
        clear k ih2 hIH own s0 s2 z0 z1
        have sAq0 := s3.cel (Z+1+1) 0 0 rfl
        have sAt0 := (s3.pc (Z+1+1) 0).s0 (.int .u64 0)
        have sAq1 := sAt0.c 1 rfl
        have sAt1 := sAt0.s 1 (by simp) (.int .u32 0)
        have sAq2 := sAt1.c 2 rfl
        have sAt2 := sAt1.s 2 (by simp) (.int .u16 0)
        have sAq3 := sAt2.c 3 rfl
        have sA := sAt2.s 3 (by simp) (.int .u16 0)
        simp only [List.set_cons_succ, List.set_cons_zero, Nat.zero_add] at sA sAq0 sAq1 sAq2 sAq3
        have sBq0 := sA.cel (Z+1+1+1) 0 0 rfl
        have sBt0 := (sA.pc (Z+1+1+1) 0).s0 (.slice A1 n1 c1)
        have sBq1 := sBt0.c 1 rfl
        have sBt1 := sBt0.s 1 (by simp) (.int .u64 ta)
        have sBq2 := sBt1.c 2 rfl
        have sB := sBt1.s 2 (by simp) (.int .u64 tl)
        simp only [List.set_cons_succ, List.set_cons_zero, Nat.zero_add] at sB sBq0 sBq1 sBq2
        have sCq0 := s3.cel (Z+1+1+1) 0 0 rfl
        have sCt0 := (s3.pc (Z+1+1+1) 0).s0 (.slice A1 n1 c1)
        have sCq1 := sCt0.c 1 rfl
        have sCt1 := sCt0.s 1 (by simp) (.int .u64 ta)
        have sCq2 := sCt1.c 2 rfl
        have sC := sCt1.s 2 (by simp) (.int .u64 tl)
        simp only [List.set_cons_succ, List.set_cons_zero, Nat.zero_add] at sC sCq0 sCq1 sCq2
        have sDq0 := sC.cel (Z+1+1) 0 0 rfl
        have sDt0 := (sC.pc (Z+1+1) 0).s0 (.int .u64 0)
        have sDq1 := sDt0.c 1 rfl
        have sDt1 := sDt0.s 1 (by simp) (.int .u32 0)
        have sDq2 := sDt1.c 2 rfl
        have sDt2 := sDt1.s 2 (by simp) (.int .u16 0)
        have sDq3 := sDt2.c 3 rfl
        have sD := sDt2.s 3 (by simp) (.int .u16 0)
        simp only [List.set_cons_succ, List.set_cons_zero, Nat.zero_add] at sD sDq0 sDq1 sDq2 sDq3
        have sE := sB.drew
        have sF := sD.drew
        have f0 := sE.cel (Z+1+1) 0 0 rfl
        have f1 := sE.cel (Z+1+1) 0 1 rfl
        have f2 := sE.cel (Z+1+1) 0 2 rfl
        have f3 := sE.cel (Z+1+1) 0 3 rfl
        simp only [Nat.zero_add] at f0 f1 f2 f3
        have g0 := sE.cel (Z+1+1+1) 0 0 rfl
        have g1 := sE.cel (Z+1+1+1) 0 1 rfl
        have g2 := sE.cel (Z+1+1+1) 0 2 rfl
        simp only [Nat.zero_add] at g0 g1 g2
        have p0 := sF.cel (Z+1+1) 0 0 rfl
        have p1 := sF.cel (Z+1+1) 0 1 rfl
        have p2 := sF.cel (Z+1+1) 0 2 rfl
        have p3 := sF.cel (Z+1+1) 0 3 rfl
        simp only [Nat.zero_add] at p0 p1 p2 p3
        have q0 := sF.cel (Z+1+1+1) 0 0 rfl
        have q1 := sF.cel (Z+1+1+1) 0 1 rfl
        have q2 := sF.cel (Z+1+1+1) 0 2 rfl
        simp only [Nat.zero_add] at q0 q1 q2
        go_wp2
        go_region_with (fail)
        all_goals
          simp only [Act.put, List.getElem_toArray, List.getElem_cons_succ, List.getElem_cons_zero, List.setIfInBounds_toArray, List.set_cons_succ, List.set_cons_zero]
          go_wp2
          first
            | refine bodyPost_ret (by simp [results, Try.results76, go_sem, f0.1, f1.1, f2.1, f3.1, g0.1, g1.1, g2.1]; try rfl) rfl ?_
            | refine bodyPost_ret (by simp [results, Try.results76, go_sem, p0.1, p1.1, p2.1, p3.1, q0.1, q1.1, q2.1]; try rfl) rfl ?_
          first | exact K.out _ sE.wk | exact K.out _ sF.wk
      · intro hth wA s2
        have eT : thereP size i (atD t i) := by rw [hD2.out]; exact hth
        obtain ⟨hp1, hp2, hp3, hp4⟩ : (0 ≤ w1 m D ∧ w1 m D ≤ 18446744073709551615) ∧ (0 ≤ w2 m D ∧ w2 m D ≤ 4294967295) ∧ (0 ≤ w3 m D ∧ w3 m D ≤ 65535) ∧ (0 ≤ w4 m D ∧ w4 m D ≤ 65535) := by
          have b1 := ofB_bdn rm.bd D 8
          have b2 := ofB_bdn rm.bd (D + 8) 4
          have b3 := ofB_bdn rm.bd (D + 12) 2
          have b4 := ofB_bdn rm.bd (D + 14) 2
          simp only [w1, w2, w3, w4]
          omega
        have P3 := fun h => alongP_table (m := m) (segs := segs) (n := left) h12.out eT h
        have P4 := fun h h4 => alongP_has (m := m) (segs := segs) (n := left) h12.out eT h h4
        have P5 := fun h h4 h5 => alongP_order (m := m) (segs := segs) (n := left) h12.out eT h h4 h5
        have P6 := fun h h4 h5 h6 => alongP_end (m := m) (segs := segs) (n := left) h12.out eT h h4 h5 h6
        have P7 := fun h h4 h5 h6 => alongP_next (m := m) (segs := segs) (n := left) h12.out eT h h4 h5 h6
        rw [hD2.out] at P3 P4 P5 P6 P7
        obtain ⟨x1, hx1⟩ : ∃ y, w1 m D = y := ⟨_, rfl⟩
        obtain ⟨x2, hx2⟩ : ∃ y, w2 m D = y := ⟨_, rfl⟩
        obtain ⟨x3, hx3⟩ : ∃ y, w3 m D = y := ⟨_, rfl⟩
        obtain ⟨x4, hx4⟩ : ∃ y, w4 m D = y := ⟨_, rfl⟩
        rw [hx1] at hp1 P4 P5 P6 P7
        rw [hx2] at hp2 P4 P5 P6 P7
        rw [hx3] at hp3 P3 P4 P5 P6 P7
        rw [hx4] at hp4 P7
        rw [hx1, hx2, hx3, hx4]
        replace P3 := aside P3
        replace P4 := aside P4
        replace P5 := aside P5
        replace P6 := aside P6
        replace P7 := aside P7
        replace hx1 := aside hx1
        replace hx2 := aside hx2
        replace hx3 := aside hx3
        replace hx4 := aside hx4
        replace h12 := aside h12
        replace hD := aside hD
        replace hD2 := aside hD2
        replace hDb := aside hDb
        have s3 := s2.alloc (c := [.int .u64 x1, .int .u32 x2, .int .u16 x3, .int .u16 x4]) (t := 169)
        obtain ⟨Y, hY⟩ : ∃ Y, wA.heap.size = Y := ⟨_, rfl⟩
        rw [hY] at s3
        have d0 := s3.cel Y 0 0 rfl
        have d1 := s3.cel Y 0 1 rfl
        have d2 := s3.cel Y 0 2 rfl
        have d3 := s3.cel Y 0 3 rfl
        simp only [Nat.zero_add] at d0 d1 d2 d3
        clear s0 s2 z0 z1
        go_wp2_with fail
        refine c_flag s3 x1 x2 x3 x4 4 hp3 (by omega) ?_
        intro w4 s4
        clear s3 d0 d1 d2 d3
        have d0 := s4.cel Y 0 0 rfl
        have d1 := s4.cel Y 0 1 rfl
        have d2 := s4.cel Y 0 2 rfl
        have d3 := s4.cel Y 0 3 rfl
        simp only [Nat.zero_add] at d0 d1 d2 d3
        have z0 := s4.cel Z 0 0 rfl
        have z1 := s4.cel Z 0 1 rfl
        simp only [Nat.zero_add] at z0 z1
        have y0 := s4.cel (Z+1) 0 0 rfl
        have y1 := s4.cel (Z+1) 0 1 rfl
        have y2 := s4.cel (Z+1) 0 2 rfl
        simp only [Nat.zero_add] at y0 y1 y2
        cases c4 : flg x3 4 with
        | true =>
          have K := fun w' => k.out _ _ _ (P3.out c4) w' x1 x2 x3 x4 (.slice A1 n1 c1) h ⟨_, _, _, rfl⟩ (fun _ => ⟨own.out, hx1.out.symm, hx2.out.symm, hx3.out.symm, hx4.out.symm⟩)
          replace K := aside K
          clear k ih2 hIH own P3 P4 P5 P6 P7
          have sAq0 := s4.cel (Z+1+1) 0 0 rfl
          have sAt0 := (s4.pc (Z+1+1) 0).s0 (.int .u64 x1)
          have sAq1 := sAt0.c 1 rfl
          have sAt1 := sAt0.s 1 (by simp) (.int .u32 x2)
          have sAq2 := sAt1.c 2 rfl
          have sAt2 := sAt1.s 2 (by simp) (.int .u16 x3)
          have sAq3 := sAt2.c 3 rfl
          have sA := sAt2.s 3 (by simp) (.int .u16 x4)
          simp only [List.set_cons_succ, List.set_cons_zero, Nat.zero_add] at sA sAq0 sAq1 sAq2 sAq3
          have sBq0 := sA.cel (Z+1+1+1) 0 0 rfl
          have sBt0 := (sA.pc (Z+1+1+1) 0).s0 (.slice A1 n1 c1)
          have sBq1 := sBt0.c 1 rfl
          have sBt1 := sBt0.s 1 (by simp) (.int .u64 ta)
          have sBq2 := sBt1.c 2 rfl
          have sB := sBt1.s 2 (by simp) (.int .u64 tl)
          simp only [List.set_cons_succ, List.set_cons_zero, Nat.zero_add] at sB sBq0 sBq1 sBq2
          have sCq0 := s4.cel (Z+1+1+1) 0 0 rfl
          have sCt0 := (s4.pc (Z+1+1+1) 0).s0 (.slice A1 n1 c1)
          have sCq1 := sCt0.c 1 rfl
          have sCt1 := sCt0.s 1 (by simp) (.int .u64 ta)
          have sCq2 := sCt1.c 2 rfl
          have sC := sCt1.s 2 (by simp) (.int .u64 tl)
          simp only [List.set_cons_succ, List.set_cons_zero, Nat.zero_add] at sC sCq0 sCq1 sCq2
          have sDq0 := sC.cel (Z+1+1) 0 0 rfl
          have sDt0 := (sC.pc (Z+1+1) 0).s0 (.int .u64 x1)
          have sDq1 := sDt0.c 1 rfl
          have sDt1 := sDt0.s 1 (by simp) (.int .u32 x2)
          have sDq2 := sDt1.c 2 rfl
          have sDt2 := sDt1.s 2 (by simp) (.int .u16 x3)
          have sDq3 := sDt2.c 3 rfl
          have sD := sDt2.s 3 (by simp) (.int .u16 x4)
          simp only [List.set_cons_succ, List.set_cons_zero, Nat.zero_add] at sD sDq0 sDq1 sDq2 sDq3
          have sE := sB.drew
          have sF := sD.drew
          have f0 := sE.cel (Z+1+1) 0 0 rfl
          have f1 := sE.cel (Z+1+1) 0 1 rfl
          have f2 := sE.cel (Z+1+1) 0 2 rfl
          have f3 := sE.cel (Z+1+1) 0 3 rfl
          simp only [Nat.zero_add] at f0 f1 f2 f3
          have g0 := sE.cel (Z+1+1+1) 0 0 rfl
          have g1 := sE.cel (Z+1+1+1) 0 1 rfl
          have g2 := sE.cel (Z+1+1+1) 0 2 rfl
          simp only [Nat.zero_add] at g0 g1 g2
          have p0 := sF.cel (Z+1+1) 0 0 rfl
          have p1 := sF.cel (Z+1+1) 0 1 rfl
          have p2 := sF.cel (Z+1+1) 0 2 rfl
          have p3 := sF.cel (Z+1+1) 0 3 rfl
          simp only [Nat.zero_add] at p0 p1 p2 p3
          have q0 := sF.cel (Z+1+1+1) 0 0 rfl
          have q1 := sF.cel (Z+1+1+1) 0 1 rfl
          have q2 := sF.cel (Z+1+1+1) 0 2 rfl
          simp only [Nat.zero_add] at q0 q1 q2
          go_wp2
          go_region_with (fail)
          all_goals
            simp only [Act.put, List.getElem_toArray, List.getElem_cons_succ, List.getElem_cons_zero, List.setIfInBounds_toArray, List.set_cons_succ, List.set_cons_zero]
            go_wp2
            first
              | refine bodyPost_ret (by simp [results, Try.results76, go_sem, f0.1, f1.1, f2.1, f3.1, g0.1, g1.1, g2.1]; try rfl) rfl ?_
              | refine bodyPost_ret (by simp [results, Try.results76, go_sem, p0.1, p1.1, p2.1, p3.1, q0.1, q1.1, q2.1]; try rfl) rfl ?_
            first | exact K.out _ sE.wk | exact K.out _ sF.wk
        | false =>
          by_cases hh : hasP size x1 x2
          · have E5 := fun h5 => P5.out c4 hh h5
            have E6 := fun h5 h6 => P6.out c4 hh h5 h6
            have E7 := fun h5 h6 => P7.out c4 hh h5 h6
            replace E5 := aside E5
            replace E6 := aside E6
            replace E7 := aside E7
            clear P3 P4 P5 P6 P7
            go_wp2_with fail
            refine c_refHas s4 (by omega) _ _ hp1 (by omega) ?_
            rw [decide_eq_true hh]
            intro wA5 s5
            clear s4 d0 d1 d2 d3 z0 z1 y0 y1 y2
            have d0 := s5.cel Y 0 0 rfl
            have d1 := s5.cel Y 0 1 rfl
            have d2 := s5.cel Y 0 2 rfl
            have d3 := s5.cel Y 0 3 rfl
            simp only [Nat.zero_add] at d0 d1 d2 d3
            have z0 := s5.cel Z 0 0 rfl
            have z1 := s5.cel Z 0 1 rfl
            simp only [Nat.zero_add] at z0 z1
            have y0 := s5.cel (Z+1) 0 0 rfl
            have y1 := s5.cel (Z+1) 0 1 rfl
            have y2 := s5.cel (Z+1) 0 2 rfl
            simp only [Nat.zero_add] at y0 y1 y2
            have hn1 : n1 = segs.length := by obtain ⟨_, _, _, he, _⟩ := own.out; injection he
            have own2 : OwnS 3 (.slice A1 n1 c1) n1 (encG segs) h := by have := own.out; rwa [← hn1] at this
            replace own2 := aside own2
            rcases Nat.eq_zero_or_pos n1 with h0 | h0
            · have hl : lastW segs = false := by
                have : segs = [] := List.eq_nil_of_length_eq_zero (by omega)
                subst this; rfl
              have H5 := aside (show ¬ (lastW segs = true ∧ flg x3 2 = false) by rw [hl]; simp)
              subst h0
              clear hl E5
              replace hn1 := aside hn1
              obtain ⟨i0, hi0, hz0, hs0, hb0⟩ := info_seg
              have hel : (encG segs).length = 0 * 3 := by rw [encG_len, ← hn1.out]
              have hr : RowR wA5 A1 (encG segs) := by
                have := OwnS.row0 own2.out (Sat.pull (h := h) s5).head (encG segs).length
                rwa [List.take_length] at this
              have sb := s5.alloc (c := []) (t := 71)
              have u0 := sb.cel (Z+1) 0 0 rfl
              have u1 := sb.cel (Z+1) 0 1 rfl
              have u2 := sb.cel (Z+1) 0 2 rfl
              simp only [Nat.zero_add] at u0 u1 u2
              go_wp2_with (at_builtin; refine wpList_append rfl (.tmp 78) (.tmp 80) 52 52 71 rfl i0 (.agg #[.int .u64 0, .int .u64 0, .bool false]) 3 24 Try.underlying52 Try.underlying52 hi0 hz0 hs0 hb0 rfl (by decide) rfl (OwnS.zero 3 _) (sb.emp) rfl (us := encG segs) hel (rowR_old (f := fun _ => encG segs) (fun _ => hr) 0 _) (oneCell_G _) (by omega) (by omega) ?_; intro A6 c6 w6 h6 own6 s6)
              simp only [Nat.zero_add, List.nil_append] at own6
              clear sb u0 u1 u2 s5 d0 d1 d2 d3 z0 z1 y0 y1 y2 hr
              have s6d := s6.drew
              have g6 := (And.intro ((s6d.cel Y 0 0 rfl).1) (And.intro ((s6d.cel Y 0 1 rfl).1) (And.intro ((s6d.cel Y 0 2 rfl).1) ((s6d.cel Y 0 3 rfl).1))))
              simp only [Nat.zero_add, Nat.add_zero] at g6
              have hW := aside (show segs.length = 0 from hn1.out.symm)
              have e2 : IntKind.u64.wrap x2 = x2 := by rw [wrap_u64]; omega
              go_region_held3 (fun w' => w'.cell? ⟨Y, 0, none⟩ = some (.int .u64 x1) ∧ w'.cell? ⟨Y, 1, none⟩ = some (.int .u32 x2) ∧ w'.cell? ⟨Y, 2, none⟩ = some (.int .u16 x3) ∧ w'.cell? ⟨Y, 3, none⟩ = some (.int .u16 x4))
                (first | with_reducible exact g6 | with_reducible exact g9 | with_reducible exact g8 | with_reducible exact g7a | with_reducible exact g7)
                (first
                  | (go_at_call 77; with_reducible (refine c_flag s6d x1 x2 x3 x4 2 hp3 (by omega) ?_); intro w7 s7
                     have s7a := s7.alloc (c := [.int .u64 x1, .int .u64 x2, .bool (flg x3 2)]) (t := 71)
                     have g7 := (And.intro ((s7.cel Y 0 0 rfl).1) (And.intro ((s7.cel Y 0 1 rfl).1) (And.intro ((s7.cel Y 0 2 rfl).1) ((s7.cel Y 0 3 rfl).1))))
                     simp only [Nat.zero_add, Nat.add_zero] at g7
                     have g7a := (And.intro ((s7a.cel Y 0 0 rfl).1) (And.intro ((s7a.cel Y 0 1 rfl).1) (And.intro ((s7a.cel Y 0 2 rfl).1) ((s7a.cel Y 0 3 rfl).1))))
                     simp only [Nat.zero_add, Nat.add_zero] at g7a
                     have arm : True := trivial)
                  | (refine step_append rfl (.tmp 82) (.tmp 91) 52 52 71 rfl i0 (.agg #[.int .u64 0, .int .u64 0, .bool false]) 3 24 Try.underlying52 Try.underlying52 hi0 hz0 hs0 hb0 rfl (by decide) rfl own6 (Sat.pull (h := h6) s7a) rfl (us := [.int .u64 x1, .int .u64 x2, .bool (flg x3 2)]) rfl row_seg (by simp [Value.oneCell']) (by omega) (by omega) ?_; intro A8 c8 w8 h8 own8 s8
                     have e0 := s8.cel (Z+1) 0 0 rfl
                     rw [Nat.zero_add] at e0
                     have s9 := (s8.pc (Z+1) 0).s0 (.slice A8 (0 + 1) c8)
                     have g8 := (And.intro ((s8.cel Y 0 0 rfl).1) (And.intro ((s8.cel Y 0 1 rfl).1) (And.intro ((s8.cel Y 0 2 rfl).1) ((s8.cel Y 0 3 rfl).1))))
                     simp only [Nat.zero_add, Nat.add_zero] at g8
                     have g9 := (And.intro ((s9.cel Y 0 0 rfl).1) (And.intro ((s9.cel Y 0 1 rfl).1) (And.intro ((s9.cel Y 0 2 rfl).1) ((s9.cel Y 0 3 rfl).1))))
                     simp only [Nat.zero_add, Nat.add_zero] at g9
                     have arm : True := trivial))
              all_goals
                go_wp2_with fail
                refine c_flag s9 x1 x2 x3 x4 1 hp3 (by omega) ?_
                intro wB sB
                have own9 : OwnS 3 (.slice A8 (0 + 1) c8) (segs ++ [(x1, x2, flg x3 2)]).length (encG (segs ++ [(x1, x2, flg x3 2)])) h8 := by
                  rw [List.length_append, hW.out]
                  simpa [encG, List.flatMap_append] using own8
                have hlen9 := aside (show (segs ++ [(x1, x2, flg x3 2)]).length + left ≤ 1000 by rw [List.length_append]; have := hsl.out; simp only [List.length_cons, List.length_nil]; omega)
                clear own8 s9 s8 s7 s7a g7 g7a g8 g9 own6 s6 s6d g6
                replace own9 := aside own9
                have d0 := sB.cel Y 0 0 rfl
                have d1 := sB.cel Y 0 1 rfl
                have d2 := sB.cel Y 0 2 rfl
                have d3 := sB.cel Y 0 3 rfl
                simp only [Nat.zero_add] at d0 d1 d2 d3
                have z0 := sB.cel Z 0 0 rfl
                have z1 := sB.cel Z 0 1 rfl
                simp only [Nat.zero_add] at z0 z1
                have y0 := sB.cel (Z+1) 0 0 rfl
                have y1 := sB.cel (Z+1) 0 1 rfl
                have y2 := sB.cel (Z+1) 0 2 rfl
                simp only [Nat.zero_add] at y0 y1 y2
                cases c1 : flg x3 1 with
                | false =>
                  have K := fun w' => k.out _ _ _ (E6.out H5.out c1) w' x1 x2 x3 x4 (.slice A8 (0 + 1) c8) h8 ⟨_, _, _, rfl⟩ (fun _ => ⟨own9.out, hx1.out.symm, hx2.out.symm, hx3.out.symm, hx4.out.symm⟩)
                  replace K := aside K
                  clear k ih2 hIH own own2 E6 E7 z0 z1
                  have sAq0 := sB.cel (Z+1+1) 0 0 rfl
                  have sAt0 := (sB.pc (Z+1+1) 0).s0 (.int .u64 x1)
                  have sAq1 := sAt0.c 1 rfl
                  have sAt1 := sAt0.s 1 (by simp) (.int .u32 x2)
                  have sAq2 := sAt1.c 2 rfl
                  have sAt2 := sAt1.s 2 (by simp) (.int .u16 x3)
                  have sAq3 := sAt2.c 3 rfl
                  have sA := sAt2.s 3 (by simp) (.int .u16 x4)
                  simp only [List.set_cons_succ, List.set_cons_zero, Nat.zero_add] at sA sAq0 sAq1 sAq2 sAq3
                  have sBq0 := sA.cel (Z+1+1+1) 0 0 rfl
                  have sBt0 := (sA.pc (Z+1+1+1) 0).s0 (.slice A8 (0 + 1) c8)
                  have sBq1 := sBt0.c 1 rfl
                  have sBt1 := sBt0.s 1 (by simp) (.int .u64 ta)
                  have sBq2 := sBt1.c 2 rfl
                  have sB := sBt1.s 2 (by simp) (.int .u64 tl)
                  simp only [List.set_cons_succ, List.set_cons_zero, Nat.zero_add] at sB sBq0 sBq1 sBq2
                  have sCq0 := sB.cel (Z+1+1+1) 0 0 rfl
                  have sCt0 := (sB.pc (Z+1+1+1) 0).s0 (.slice A8 (0 + 1) c8)
                  have sCq1 := sCt0.c 1 rfl
                  have sCt1 := sCt0.s 1 (by simp) (.int .u64 ta)
                  have sCq2 := sCt1.c 2 rfl
                  have sC := sCt1.s 2 (by simp) (.int .u64 tl)
                  simp only [List.set_cons_succ, List.set_cons_zero, Nat.zero_add] at sC sCq0 sCq1 sCq2
                  have sDq0 := sC.cel (Z+1+1) 0 0 rfl
                  have sDt0 := (sC.pc (Z+1+1) 0).s0 (.int .u64 x1)
                  have sDq1 := sDt0.c 1 rfl
                  have sDt1 := sDt0.s 1 (by simp) (.int .u32 x2)
                  have sDq2 := sDt1.c 2 rfl
                  have sDt2 := sDt1.s 2 (by simp) (.int .u16 x3)
                  have sDq3 := sDt2.c 3 rfl
                  have sD := sDt2.s 3 (by simp) (.int .u16 x4)
                  simp only [List.set_cons_succ, List.set_cons_zero, Nat.zero_add] at sD sDq0 sDq1 sDq2 sDq3
                  have sE := sB.drew
                  have sF := sD.drew
                  have f0 := sE.cel (Z+1+1) 0 0 rfl
                  have f1 := sE.cel (Z+1+1) 0 1 rfl
                  have f2 := sE.cel (Z+1+1) 0 2 rfl
                  have f3 := sE.cel (Z+1+1) 0 3 rfl
                  simp only [Nat.zero_add] at f0 f1 f2 f3
                  have g0 := sE.cel (Z+1+1+1) 0 0 rfl
                  have g1 := sE.cel (Z+1+1+1) 0 1 rfl
                  have g2 := sE.cel (Z+1+1+1) 0 2 rfl
                  simp only [Nat.zero_add] at g0 g1 g2
                  have p0 := sF.cel (Z+1+1) 0 0 rfl
                  have p1 := sF.cel (Z+1+1) 0 1 rfl
                  have p2 := sF.cel (Z+1+1) 0 2 rfl
                  have p3 := sF.cel (Z+1+1) 0 3 rfl
                  simp only [Nat.zero_add] at p0 p1 p2 p3
                  have q0 := sF.cel (Z+1+1+1) 0 0 rfl
                  have q1 := sF.cel (Z+1+1+1) 0 1 rfl
                  have q2 := sF.cel (Z+1+1+1) 0 2 rfl
                  simp only [Nat.zero_add] at q0 q1 q2
                  go_wp2
                  go_region_with (fail)
                  all_goals
                    simp only [Act.put, List.getElem_toArray, List.getElem_cons_succ, List.getElem_cons_zero, List.setIfInBounds_toArray, List.set_cons_succ, List.set_cons_zero]
                    go_wp2
                    first
                      | refine bodyPost_ret (by simp [results, Try.results76, go_sem, f0.1, f1.1, f2.1, f3.1, g0.1, g1.1, g2.1]; try rfl) rfl ?_
                      | refine bodyPost_ret (by simp [results, Try.results76, go_sem, p0.1, p1.1, p2.1, p3.1, q0.1, q1.1, q2.1]; try rfl) rfl ?_
                    first | exact K.out _ sE.wk | exact K.out _ sF.wk
                | true =>
                  have hE7 := aside (E7.out H5.out c1)
                  clear E6 E7 own own2
                  go_wp2_with fail
                  have ih3 := ih2.out
                  rw [hIH.out] at ih3
                  refine ih3 x4 (Sat.pull (h := h8) sB) own9.out (by omega) (by have := hle.out; omega) hlen9.out ?_
                  intro e a out hE w9 e1 e2 e3 e4 v' h' hv' hown sF
                  obtain ⟨A9, n9, c9, rfl⟩ := hv'
                  have K := fun w' => k.out e a out (hE7.out.trans hE) w' e1 e2 e3 e4 (.slice A9 n9 c9) h' ⟨_, _, _, rfl⟩ hown
                  replace K := aside K
                  clear k ih2 ih3 hIH hE hown sB d0 d1 d2 d3 z0 z1 y0 y1 y2
                  have sGq0 := sF.cel (Z+1+1) 0 0 rfl
                  have sGt0 := (sF.pc (Z+1+1) 0).s0 (.int .u64 e1)
                  have sGq1 := sGt0.c 1 rfl
                  have sGt1 := sGt0.s 1 (by simp) (.int .u32 e2)
                  have sGq2 := sGt1.c 2 rfl
                  have sGt2 := sGt1.s 2 (by simp) (.int .u16 e3)
                  have sGq3 := sGt2.c 3 rfl
                  have sG := sGt2.s 3 (by simp) (.int .u16 e4)
                  simp only [List.set_cons_succ, List.set_cons_zero, Nat.zero_add] at sG sGq0 sGq1 sGq2 sGq3
                  have sIq0 := sG.cel (Z+1+1+1) 0 0 rfl
                  have sIt0 := (sG.pc (Z+1+1+1) 0).s0 (.slice A9 n9 c9)
                  have sIq1 := sIt0.c 1 rfl
                  have sIt1 := sIt0.s 1 (by simp) (.int .u64 ta)
                  have sIq2 := sIt1.c 2 rfl
                  have sI := sIt1.s 2 (by simp) (.int .u64 tl)
                  simp only [List.set_cons_succ, List.set_cons_zero, Nat.zero_add] at sI sIq0 sIq1 sIq2
                  have f0 := sI.cel (Z+1+1) 0 0 rfl
                  have f1 := sI.cel (Z+1+1) 0 1 rfl
                  have f2 := sI.cel (Z+1+1) 0 2 rfl
                  have f3 := sI.cel (Z+1+1) 0 3 rfl
                  simp only [Nat.zero_add] at f0 f1 f2 f3
                  have g0 := sI.cel (Z+1+1+1) 0 0 rfl
                  have g1 := sI.cel (Z+1+1+1) 0 1 rfl
                  have g2 := sI.cel (Z+1+1+1) 0 2 rfl
                  simp only [Nat.zero_add] at g0 g1 g2
                  go_wp2
                  refine bodyPost_ret (by simp [results, Try.results76, go_sem, f0.1, f1.1, f2.1, f3.1, g0.1, g1.1, g2.1]; try rfl) rfl ?_
                  exact K.out _ sI.wk
            · obtain ⟨xl, hxl⟩ : ∃ x, segs[n1 - 1]? = some x := ⟨_, List.getElem?_eq_getElem (by omega)⟩
              have hlw : lastW segs = xl.2.2 := by
                unfold lastW
                rw [List.getLast?_eq_getElem?, ← hn1, hxl]; rfl
              have hea := (encG_at hxl).2.2
              have hne : ((encG segs).drop ((n1 - 1) * 3 + 2)).take 1 ≠ [] := by
                intro h9
                have : (((encG segs).drop ((n1 - 1) * 3 + 2)).take 1)[0]? = some (.bool xl.2.2) := by
                  rw [List.getElem?_take, if_pos (by omega), List.getElem?_drop, Nat.add_zero]; exact hea
                rw [h9] at this; cases this
              obtain ⟨ab, ao, rfl, hrow⟩ := OwnS.row own2.out (Sat.pull (h := h) s5).head ((n1 - 1) * 3 + 2) 1 hne
              have yl := hrow 0 (.bool xl.2.2) (by rw [List.getElem?_take, if_pos (by omega), List.getElem?_drop, Nat.add_zero]; exact hea)
              rw [Nat.add_zero, ← Nat.add_assoc, ← hlw] at yl
              have hnb : n1 ≤ 1000 := by have := hsl.out; omega
              clear hrow hne hea hxl hlw
              replace hn1 := aside hn1
              cases hlw : lastW segs with
              | false =>
                rw [hlw] at yl
                have H5 := aside (show ¬ (lastW segs = true ∧ flg x3 2 = false) by rw [hlw]; simp)
                clear E5
                replace hlw := aside hlw
                obtain ⟨i0, hi0, hz0, hs0, hb0⟩ := info_seg
                have hel : (encG segs).length = n1 * 3 := by rw [encG_len, ← hn1.out]
                have hr : RowR wA5 (some ⟨ab, ao, none⟩) (encG segs) := by
                  have := OwnS.row0 own2.out (Sat.pull (h := h) s5).head (encG segs).length
                  rwa [List.take_length] at this
                have sb := s5.alloc (c := []) (t := 71)
                have u0 := sb.cel (Z+1) 0 0 rfl
                have u1 := sb.cel (Z+1) 0 1 rfl
                have u2 := sb.cel (Z+1) 0 2 rfl
                simp only [Nat.zero_add] at u0 u1 u2
                go_wp2_with (at_builtin; refine wpList_append rfl (.tmp 78) (.tmp 80) 52 52 71 rfl i0 (.agg #[.int .u64 0, .int .u64 0, .bool false]) 3 24 Try.underlying52 Try.underlying52 hi0 hz0 hs0 hb0 rfl (by decide) rfl (OwnS.zero 3 _) (sb.emp) rfl (us := encG segs) hel (rowR_old (f := fun _ => encG segs) (fun _ => hr) 0 _) (oneCell_G _) (by omega) (by omega) ?_; intro A6 c6 w6 h6 own6 s6)
                clear yl
                simp only [Nat.zero_add, List.nil_append] at own6
                clear sb u0 u1 u2 s5 d0 d1 d2 d3 z0 z1 y0 y1 y2 hr
                have s6d := s6.drew
                have g6 := (And.intro ((s6d.cel Y 0 0 rfl).1) (And.intro ((s6d.cel Y 0 1 rfl).1) (And.intro ((s6d.cel Y 0 2 rfl).1) ((s6d.cel Y 0 3 rfl).1))))
                simp only [Nat.zero_add, Nat.add_zero] at g6
                have hW := aside (show segs.length = n1 from hn1.out.symm)
                have e2 : IntKind.u64.wrap x2 = x2 := by rw [wrap_u64]; omega
                go_region_held3 (fun w' => w'.cell? ⟨Y, 0, none⟩ = some (.int .u64 x1) ∧ w'.cell? ⟨Y, 1, none⟩ = some (.int .u32 x2) ∧ w'.cell? ⟨Y, 2, none⟩ = some (.int .u16 x3) ∧ w'.cell? ⟨Y, 3, none⟩ = some (.int .u16 x4))
                  (first | with_reducible exact g6 | with_reducible exact g9 | with_reducible exact g8 | with_reducible exact g7a | with_reducible exact g7)
                  (first
                    | (go_at_call 77; with_reducible (refine c_flag s6d x1 x2 x3 x4 2 hp3 (by omega) ?_); intro w7 s7
                       have s7a := s7.alloc (c := [.int .u64 x1, .int .u64 x2, .bool (flg x3 2)]) (t := 71)
                       have g7 := (And.intro ((s7.cel Y 0 0 rfl).1) (And.intro ((s7.cel Y 0 1 rfl).1) (And.intro ((s7.cel Y 0 2 rfl).1) ((s7.cel Y 0 3 rfl).1))))
                       simp only [Nat.zero_add, Nat.add_zero] at g7
                       have g7a := (And.intro ((s7a.cel Y 0 0 rfl).1) (And.intro ((s7a.cel Y 0 1 rfl).1) (And.intro ((s7a.cel Y 0 2 rfl).1) ((s7a.cel Y 0 3 rfl).1))))
                       simp only [Nat.zero_add, Nat.add_zero] at g7a
                       have arm : True := trivial)
                    | (refine step_append rfl (.tmp 82) (.tmp 91) 52 52 71 rfl i0 (.agg #[.int .u64 0, .int .u64 0, .bool false]) 3 24 Try.underlying52 Try.underlying52 hi0 hz0 hs0 hb0 rfl (by decide) rfl own6 (Sat.pull (h := h6) s7a) rfl (us := [.int .u64 x1, .int .u64 x2, .bool (flg x3 2)]) rfl row_seg (by simp [Value.oneCell']) (by omega) (by omega) ?_; intro A8 c8 w8 h8 own8 s8
                       have e0 := s8.cel (Z+1) 0 0 rfl
                       rw [Nat.zero_add] at e0
                       have s9 := (s8.pc (Z+1) 0).s0 (.slice A8 (n1 + 1) c8)
                       have g8 := (And.intro ((s8.cel Y 0 0 rfl).1) (And.intro ((s8.cel Y 0 1 rfl).1) (And.intro ((s8.cel Y 0 2 rfl).1) ((s8.cel Y 0 3 rfl).1))))
                       simp only [Nat.zero_add, Nat.add_zero] at g8
                       have g9 := (And.intro ((s9.cel Y 0 0 rfl).1) (And.intro ((s9.cel Y 0 1 rfl).1) (And.intro ((s9.cel Y 0 2 rfl).1) ((s9.cel Y 0 3 rfl).1))))
                       simp only [Nat.zero_add, Nat.add_zero] at g9
                       have arm : True := trivial))
                all_goals
                  go_wp2_with fail
                  refine c_flag s9 x1 x2 x3 x4 1 hp3 (by omega) ?_
                  intro wB sB
                  have own9 : OwnS 3 (.slice A8 (n1 + 1) c8) (segs ++ [(x1, x2, flg x3 2)]).length (encG (segs ++ [(x1, x2, flg x3 2)])) h8 := by
                    rw [List.length_append, hW.out]
                    simpa [encG, List.flatMap_append] using own8
                  have hlen9 := aside (show (segs ++ [(x1, x2, flg x3 2)]).length + left ≤ 1000 by rw [List.length_append]; have := hsl.out; simp only [List.length_cons, List.length_nil]; omega)
                  clear own8 s9 s8 s7 s7a g7 g7a g8 g9 own6 s6 s6d g6
                  replace own9 := aside own9
                  have d0 := sB.cel Y 0 0 rfl
                  have d1 := sB.cel Y 0 1 rfl
                  have d2 := sB.cel Y 0 2 rfl
                  have d3 := sB.cel Y 0 3 rfl
                  simp only [Nat.zero_add] at d0 d1 d2 d3
                  have z0 := sB.cel Z 0 0 rfl
                  have z1 := sB.cel Z 0 1 rfl
                  simp only [Nat.zero_add] at z0 z1
                  have y0 := sB.cel (Z+1) 0 0 rfl
                  have y1 := sB.cel (Z+1) 0 1 rfl
                  have y2 := sB.cel (Z+1) 0 2 rfl
                  simp only [Nat.zero_add] at y0 y1 y2
                  cases c1 : flg x3 1 with
                  | false =>
                    have K := fun w' => k.out _ _ _ (E6.out H5.out c1) w' x1 x2 x3 x4 (.slice A8 (n1 + 1) c8) h8 ⟨_, _, _, rfl⟩ (fun _ => ⟨own9.out, hx1.out.symm, hx2.out.symm, hx3.out.symm, hx4.out.symm⟩)
                    replace K := aside K
                    clear k ih2 hIH own own2 E6 E7 z0 z1
                    have sAq0 := sB.cel (Z+1+1) 0 0 rfl
                    have sAt0 := (sB.pc (Z+1+1) 0).s0 (.int .u64 x1)
                    have sAq1 := sAt0.c 1 rfl
                    have sAt1 := sAt0.s 1 (by simp) (.int .u32 x2)
                    have sAq2 := sAt1.c 2 rfl
                    have sAt2 := sAt1.s 2 (by simp) (.int .u16 x3)
                    have sAq3 := sAt2.c 3 rfl
                    have sA := sAt2.s 3 (by simp) (.int .u16 x4)
                    simp only [List.set_cons_succ, List.set_cons_zero, Nat.zero_add] at sA sAq0 sAq1 sAq2 sAq3
                    have sBq0 := sA.cel (Z+1+1+1) 0 0 rfl
                    have sBt0 := (sA.pc (Z+1+1+1) 0).s0 (.slice A8 (n1 + 1) c8)
                    have sBq1 := sBt0.c 1 rfl
                    have sBt1 := sBt0.s 1 (by simp) (.int .u64 ta)
                    have sBq2 := sBt1.c 2 rfl
                    have sB := sBt1.s 2 (by simp) (.int .u64 tl)
                    simp only [List.set_cons_succ, List.set_cons_zero, Nat.zero_add] at sB sBq0 sBq1 sBq2
                    have sCq0 := sB.cel (Z+1+1+1) 0 0 rfl
                    have sCt0 := (sB.pc (Z+1+1+1) 0).s0 (.slice A8 (n1 + 1) c8)
                    have sCq1 := sCt0.c 1 rfl
                    have sCt1 := sCt0.s 1 (by simp) (.int .u64 ta)
                    have sCq2 := sCt1.c 2 rfl
                    have sC := sCt1.s 2 (by simp) (.int .u64 tl)
                    simp only [List.set_cons_succ, List.set_cons_zero, Nat.zero_add] at sC sCq0 sCq1 sCq2
                    have sDq0 := sC.cel (Z+1+1) 0 0 rfl
                    have sDt0 := (sC.pc (Z+1+1) 0).s0 (.int .u64 x1)
                    have sDq1 := sDt0.c 1 rfl
                    have sDt1 := sDt0.s 1 (by simp) (.int .u32 x2)
                    have sDq2 := sDt1.c 2 rfl
                    have sDt2 := sDt1.s 2 (by simp) (.int .u16 x3)
                    have sDq3 := sDt2.c 3 rfl
                    have sD := sDt2.s 3 (by simp) (.int .u16 x4)
                    simp only [List.set_cons_succ, List.set_cons_zero, Nat.zero_add] at sD sDq0 sDq1 sDq2 sDq3
                    have sE := sB.drew
                    have sF := sD.drew
                    have f0 := sE.cel (Z+1+1) 0 0 rfl
                    have f1 := sE.cel (Z+1+1) 0 1 rfl
                    have f2 := sE.cel (Z+1+1) 0 2 rfl
                    have f3 := sE.cel (Z+1+1) 0 3 rfl
                    simp only [Nat.zero_add] at f0 f1 f2 f3
                    have g0 := sE.cel (Z+1+1+1) 0 0 rfl
                    have g1 := sE.cel (Z+1+1+1) 0 1 rfl
                    have g2 := sE.cel (Z+1+1+1) 0 2 rfl
                    simp only [Nat.zero_add] at g0 g1 g2
                    have p0 := sF.cel (Z+1+1) 0 0 rfl
                    have p1 := sF.cel (Z+1+1) 0 1 rfl
                    have p2 := sF.cel (Z+1+1) 0 2 rfl
                    have p3 := sF.cel (Z+1+1) 0 3 rfl
                    simp only [Nat.zero_add] at p0 p1 p2 p3
                    have q0 := sF.cel (Z+1+1+1) 0 0 rfl
                    have q1 := sF.cel (Z+1+1+1) 0 1 rfl
                    have q2 := sF.cel (Z+1+1+1) 0 2 rfl
                    simp only [Nat.zero_add] at q0 q1 q2
                    go_wp2
                    go_region_with (fail)
                    all_goals
                      simp only [Act.put, List.getElem_toArray, List.getElem_cons_succ, List.getElem_cons_zero, List.setIfInBounds_toArray, List.set_cons_succ, List.set_cons_zero]
                      go_wp2
                      first
                        | refine bodyPost_ret (by simp [results, Try.results76, go_sem, f0.1, f1.1, f2.1, f3.1, g0.1, g1.1, g2.1]; try rfl) rfl ?_
                        | refine bodyPost_ret (by simp [results, Try.results76, go_sem, p0.1, p1.1, p2.1, p3.1, q0.1, q1.1, q2.1]; try rfl) rfl ?_
                      first | exact K.out _ sE.wk | exact K.out _ sF.wk
                  | true =>
                    have hE7 := aside (E7.out H5.out c1)
                    clear E6 E7 own own2
                    go_wp2_with fail
                    have ih3 := ih2.out
                    rw [hIH.out] at ih3
                    refine ih3 x4 (Sat.pull (h := h8) sB) own9.out (by omega) (by have := hle.out; omega) hlen9.out ?_
                    intro e a out hE w9 e1 e2 e3 e4 v' h' hv' hown sF
                    obtain ⟨A9, n9, c9, rfl⟩ := hv'
                    have K := fun w' => k.out e a out (hE7.out.trans hE) w' e1 e2 e3 e4 (.slice A9 n9 c9) h' ⟨_, _, _, rfl⟩ hown
                    replace K := aside K
                    clear k ih2 ih3 hIH hE hown sB d0 d1 d2 d3 z0 z1 y0 y1 y2
                    have sGq0 := sF.cel (Z+1+1) 0 0 rfl
                    have sGt0 := (sF.pc (Z+1+1) 0).s0 (.int .u64 e1)
                    have sGq1 := sGt0.c 1 rfl
                    have sGt1 := sGt0.s 1 (by simp) (.int .u32 e2)
                    have sGq2 := sGt1.c 2 rfl
                    have sGt2 := sGt1.s 2 (by simp) (.int .u16 e3)
                    have sGq3 := sGt2.c 3 rfl
                    have sG := sGt2.s 3 (by simp) (.int .u16 e4)
                    simp only [List.set_cons_succ, List.set_cons_zero, Nat.zero_add] at sG sGq0 sGq1 sGq2 sGq3
                    have sIq0 := sG.cel (Z+1+1+1) 0 0 rfl
                    have sIt0 := (sG.pc (Z+1+1+1) 0).s0 (.slice A9 n9 c9)
                    have sIq1 := sIt0.c 1 rfl
                    have sIt1 := sIt0.s 1 (by simp) (.int .u64 ta)
                    have sIq2 := sIt1.c 2 rfl
                    have sI := sIt1.s 2 (by simp) (.int .u64 tl)
                    simp only [List.set_cons_succ, List.set_cons_zero, Nat.zero_add] at sI sIq0 sIq1 sIq2
                    have f0 := sI.cel (Z+1+1) 0 0 rfl
                    have f1 := sI.cel (Z+1+1) 0 1 rfl
                    have f2 := sI.cel (Z+1+1) 0 2 rfl
                    have f3 := sI.cel (Z+1+1) 0 3 rfl
                    simp only [Nat.zero_add] at f0 f1 f2 f3
                    have g0 := sI.cel (Z+1+1+1) 0 0 rfl
                    have g1 := sI.cel (Z+1+1+1) 0 1 rfl
                    have g2 := sI.cel (Z+1+1+1) 0 2 rfl
                    simp only [Nat.zero_add] at g0 g1 g2
                    go_wp2
                    refine bodyPost_ret (by simp [results, Try.results76, go_sem, f0.1, f1.1, f2.1, f3.1, g0.1, g1.1, g2.1]; try rfl) rfl ?_
                    exact K.out _ sI.wk
              | true =>
                rw [hlw] at yl
                cases c2 : flg x3 2 with
                | false =>
                  have K := fun w' => k.out _ _ _ (E5.out ⟨hlw, c2⟩) w' x1 x2 x3 x4 (.slice (some ⟨ab, ao, none⟩) n1 c1) h ⟨_, _, _, rfl⟩ (fun h => absurd h (by decide))
                  replace K := aside K
                  clear k ih2 hIH own own2 E5 E6 E7
                  go_wp2_with fail
                  refine c_flag s5 x1 x2 x3 x4 2 hp3 (by omega) ?_
                  rw [c2]
                  intro wC sC
                  clear s5 d0 d1 d2 d3 z0 z1 y0 y1 y2 yl
                  have d0 := sC.cel Y 0 0 rfl
                  have d1 := sC.cel Y 0 1 rfl
                  have d2 := sC.cel Y 0 2 rfl
                  have d3 := sC.cel Y 0 3 rfl
                  simp only [Nat.zero_add] at d0 d1 d2 d3
                  have y0 := sC.cel (Z+1) 0 0 rfl
                  have y1 := sC.cel (Z+1) 0 1 rfl
                  have y2 := sC.cel (Z+1) 0 2 rfl
                  simp only [Nat.zero_add] at y0 y1 y2
                  replace hlw := aside hlw
                  replace c2 := aside c2
                  have sAq0 := sC.cel (Z+1+1) 0 0 rfl
                  have sAt0 := (sC.pc (Z+1+1) 0).s0 (.int .u64 x1)
                  have sAq1 := sAt0.c 1 rfl
                  have sAt1 := sAt0.s 1 (by simp) (.int .u32 x2)
                  have sAq2 := sAt1.c 2 rfl
                  have sAt2 := sAt1.s 2 (by simp) (.int .u16 x3)
                  have sAq3 := sAt2.c 3 rfl
                  have sA := sAt2.s 3 (by simp) (.int .u16 x4)
                  simp only [List.set_cons_succ, List.set_cons_zero, Nat.zero_add] at sA sAq0 sAq1 sAq2 sAq3
                  have sBq0 := sA.cel (Z+1+1+1) 0 0 rfl
                  have sBt0 := (sA.pc (Z+1+1+1) 0).s0 (.slice (some ⟨ab, ao, none⟩) n1 c1)
                  have sBq1 := sBt0.c 1 rfl
                  have sBt1 := sBt0.s 1 (by simp) (.int .u64 ta)
                  have sBq2 := sBt1.c 2 rfl
                  have sB := sBt1.s 2 (by simp) (.int .u64 tl)
                  simp only [List.set_cons_succ, List.set_cons_zero, Nat.zero_add] at sB sBq0 sBq1 sBq2
                  have sCq0 := sC.cel (Z+1+1+1) 0 0 rfl
                  have sCt0 := (sC.pc (Z+1+1+1) 0).s0 (.slice (some ⟨ab, ao, none⟩) n1 c1)
                  have sCq1 := sCt0.c 1 rfl
                  have sCt1 := sCt0.s 1 (by simp) (.int .u64 ta)
                  have sCq2 := sCt1.c 2 rfl
                  have sC := sCt1.s 2 (by simp) (.int .u64 tl)
                  simp only [List.set_cons_succ, List.set_cons_zero, Nat.zero_add] at sC sCq0 sCq1 sCq2
                  have sDq0 := sC.cel (Z+1+1) 0 0 rfl
                  have sDt0 := (sC.pc (Z+1+1) 0).s0 (.int .u64 x1)
                  have sDq1 := sDt0.c 1 rfl
                  have sDt1 := sDt0.s 1 (by simp) (.int .u32 x2)
                  have sDq2 := sDt1.c 2 rfl
                  have sDt2 := sDt1.s 2 (by simp) (.int .u16 x3)
                  have sDq3 := sDt2.c 3 rfl
                  have sD := sDt2.s 3 (by simp) (.int .u16 x4)
                  simp only [List.set_cons_succ, List.set_cons_zero, Nat.zero_add] at sD sDq0 sDq1 sDq2 sDq3
                  have sE := sB.drew
                  have sF := sD.drew
                  have f0 := sE.cel (Z+1+1) 0 0 rfl
                  have f1 := sE.cel (Z+1+1) 0 1 rfl
                  have f2 := sE.cel (Z+1+1) 0 2 rfl
                  have f3 := sE.cel (Z+1+1) 0 3 rfl
                  simp only [Nat.zero_add] at f0 f1 f2 f3
                  have g0 := sE.cel (Z+1+1+1) 0 0 rfl
                  have g1 := sE.cel (Z+1+1+1) 0 1 rfl
                  have g2 := sE.cel (Z+1+1+1) 0 2 rfl
                  simp only [Nat.zero_add] at g0 g1 g2
                  have p0 := sF.cel (Z+1+1) 0 0 rfl
                  have p1 := sF.cel (Z+1+1) 0 1 rfl
                  have p2 := sF.cel (Z+1+1) 0 2 rfl
                  have p3 := sF.cel (Z+1+1) 0 3 rfl
                  simp only [Nat.zero_add] at p0 p1 p2 p3
                  have q0 := sF.cel (Z+1+1+1) 0 0 rfl
                  have q1 := sF.cel (Z+1+1+1) 0 1 rfl
                  have q2 := sF.cel (Z+1+1+1) 0 2 rfl
                  simp only [Nat.zero_add] at q0 q1 q2
                  go_wp2
                  go_region_with (fail)
                  all_goals
                    simp only [Act.put, List.getElem_toArray, List.getElem_cons_succ, List.getElem_cons_zero, List.setIfInBounds_toArray, List.set_cons_succ, List.set_cons_zero]
                    go_wp2
                    first
                      | refine bodyPost_ret (by simp [results, Try.results76, go_sem, f0.1, f1.1, f2.1, f3.1, g0.1, g1.1, g2.1]; try rfl) rfl ?_
                      | refine bodyPost_ret (by simp [results, Try.results76, go_sem, p0.1, p1.1, p2.1, p3.1, q0.1, q1.1, q2.1]; try rfl) rfl ?_
                    first | exact K.out _ sE.wk | exact K.out _ sF.wk
                | true =>
                  have H5 := aside (show ¬ (lastW segs = true ∧ flg x3 2 = false) by rw [c2]; simp)
                  clear E5
                  go_wp2_with fail
                  refine c_flag s5 x1 x2 x3 x4 2 hp3 (by omega) ?_
                  rw [c2]
                  intro wC sC
                  clear s5 d0 d1 d2 d3 z0 z1 y0 y1 y2 yl
                  have s5 := sC
                  clear sC
                  have d0 := s5.cel Y 0 0 rfl
                  have d1 := s5.cel Y 0 1 rfl
                  have d2 := s5.cel Y 0 2 rfl
                  have d3 := s5.cel Y 0 3 rfl
                  simp only [Nat.zero_add] at d0 d1 d2 d3
                  have z0 := s5.cel Z 0 0 rfl
                  have z1 := s5.cel Z 0 1 rfl
                  simp only [Nat.zero_add] at z0 z1
                  have y0 := s5.cel (Z+1) 0 0 rfl
                  have y1 := s5.cel (Z+1) 0 1 rfl
                  have y2 := s5.cel (Z+1) 0 2 rfl
                  simp only [Nat.zero_add] at y0 y1 y2
                  replace hlw := aside hlw
                  replace c2 := aside c2
                  obtain ⟨i0, hi0, hz0, hs0, hb0⟩ := info_seg
                  have hel : (encG segs).length = n1 * 3 := by rw [encG_len, ← hn1.out]
                  have hr : RowR wC (some ⟨ab, ao, none⟩) (encG segs) := by
                    have := OwnS.row0 own2.out (Sat.pull (h := h) s5).head (encG segs).length
                    rwa [List.take_length] at this
                  have sb := s5.alloc (c := []) (t := 71)
                  have u0 := sb.cel (Z+1) 0 0 rfl
                  have u1 := sb.cel (Z+1) 0 1 rfl
                  have u2 := sb.cel (Z+1) 0 2 rfl
                  simp only [Nat.zero_add] at u0 u1 u2
                  go_wp2_with (at_builtin; refine wpList_append rfl (.tmp 78) (.tmp 80) 52 52 71 rfl i0 (.agg #[.int .u64 0, .int .u64 0, .bool false]) 3 24 Try.underlying52 Try.underlying52 hi0 hz0 hs0 hb0 rfl (by decide) rfl (OwnS.zero 3 _) (sb.emp) rfl (us := encG segs) hel (rowR_old (f := fun _ => encG segs) (fun _ => hr) 0 _) (oneCell_G _) (by omega) (by omega) ?_; intro A6 c6 w6 h6 own6 s6)
                  simp only [Nat.zero_add, List.nil_append] at own6
                  clear sb u0 u1 u2 s5 d0 d1 d2 d3 z0 z1 y0 y1 y2 hr
                  have s6d := s6.drew
                  have g6 := (And.intro ((s6d.cel Y 0 0 rfl).1) (And.intro ((s6d.cel Y 0 1 rfl).1) (And.intro ((s6d.cel Y 0 2 rfl).1) ((s6d.cel Y 0 3 rfl).1))))
                  simp only [Nat.zero_add, Nat.add_zero] at g6
                  have hW := aside (show segs.length = n1 from hn1.out.symm)
                  have e2 : IntKind.u64.wrap x2 = x2 := by rw [wrap_u64]; omega
                  go_region_held3 (fun w' => w'.cell? ⟨Y, 0, none⟩ = some (.int .u64 x1) ∧ w'.cell? ⟨Y, 1, none⟩ = some (.int .u32 x2) ∧ w'.cell? ⟨Y, 2, none⟩ = some (.int .u16 x3) ∧ w'.cell? ⟨Y, 3, none⟩ = some (.int .u16 x4))
                    (first | with_reducible exact g6 | with_reducible exact g9 | with_reducible exact g8 | with_reducible exact g7a | with_reducible exact g7)
                    (first
                      | (go_at_call 77; with_reducible (refine c_flag s6d x1 x2 x3 x4 2 hp3 (by omega) ?_); intro w7 s7
                         have s7a := s7.alloc (c := [.int .u64 x1, .int .u64 x2, .bool (flg x3 2)]) (t := 71)
                         have g7 := (And.intro ((s7.cel Y 0 0 rfl).1) (And.intro ((s7.cel Y 0 1 rfl).1) (And.intro ((s7.cel Y 0 2 rfl).1) ((s7.cel Y 0 3 rfl).1))))
                         simp only [Nat.zero_add, Nat.add_zero] at g7
                         have g7a := (And.intro ((s7a.cel Y 0 0 rfl).1) (And.intro ((s7a.cel Y 0 1 rfl).1) (And.intro ((s7a.cel Y 0 2 rfl).1) ((s7a.cel Y 0 3 rfl).1))))
                         simp only [Nat.zero_add, Nat.add_zero] at g7a
                         have arm : True := trivial)
                      | (refine step_append rfl (.tmp 82) (.tmp 91) 52 52 71 rfl i0 (.agg #[.int .u64 0, .int .u64 0, .bool false]) 3 24 Try.underlying52 Try.underlying52 hi0 hz0 hs0 hb0 rfl (by decide) rfl own6 (Sat.pull (h := h6) s7a) rfl (us := [.int .u64 x1, .int .u64 x2, .bool (flg x3 2)]) rfl row_seg (by simp [Value.oneCell']) (by omega) (by omega) ?_; intro A8 c8 w8 h8 own8 s8
                         have e0 := s8.cel (Z+1) 0 0 rfl
                         rw [Nat.zero_add] at e0
                         have s9 := (s8.pc (Z+1) 0).s0 (.slice A8 (n1 + 1) c8)
                         have g8 := (And.intro ((s8.cel Y 0 0 rfl).1) (And.intro ((s8.cel Y 0 1 rfl).1) (And.intro ((s8.cel Y 0 2 rfl).1) ((s8.cel Y 0 3 rfl).1))))
                         simp only [Nat.zero_add, Nat.add_zero] at g8
                         have g9 := (And.intro ((s9.cel Y 0 0 rfl).1) (And.intro ((s9.cel Y 0 1 rfl).1) (And.intro ((s9.cel Y 0 2 rfl).1) ((s9.cel Y 0 3 rfl).1))))
                         simp only [Nat.zero_add, Nat.add_zero] at g9
                         have arm : True := trivial))
                  all_goals
                    go_wp2_with fail
                    refine c_flag s9 x1 x2 x3 x4 1 hp3 (by omega) ?_
                    intro wB sB
                    have own9 : OwnS 3 (.slice A8 (n1 + 1) c8) (segs ++ [(x1, x2, flg x3 2)]).length (encG (segs ++ [(x1, x2, flg x3 2)])) h8 := by
                      rw [List.length_append, hW.out]
                      simpa [encG, List.flatMap_append] using own8
                    have hlen9 := aside (show (segs ++ [(x1, x2, flg x3 2)]).length + left ≤ 1000 by rw [List.length_append]; have := hsl.out; simp only [List.length_cons, List.length_nil]; omega)
                    clear own8 s9 s8 s7 s7a g7 g7a g8 g9 own6 s6 s6d g6
                    replace own9 := aside own9
                    have d0 := sB.cel Y 0 0 rfl
                    have d1 := sB.cel Y 0 1 rfl
                    have d2 := sB.cel Y 0 2 rfl
                    have d3 := sB.cel Y 0 3 rfl
                    simp only [Nat.zero_add] at d0 d1 d2 d3
                    have z0 := sB.cel Z 0 0 rfl
                    have z1 := sB.cel Z 0 1 rfl
                    simp only [Nat.zero_add] at z0 z1
                    have y0 := sB.cel (Z+1) 0 0 rfl
                    have y1 := sB.cel (Z+1) 0 1 rfl
                    have y2 := sB.cel (Z+1) 0 2 rfl
                    simp only [Nat.zero_add] at y0 y1 y2
                    cases c1 : flg x3 1 with
                    | false =>
                      have K := fun w' => k.out _ _ _ (E6.out H5.out c1) w' x1 x2 x3 x4 (.slice A8 (n1 + 1) c8) h8 ⟨_, _, _, rfl⟩ (fun _ => ⟨own9.out, hx1.out.symm, hx2.out.symm, hx3.out.symm, hx4.out.symm⟩)
                      replace K := aside K
                      clear k ih2 hIH own own2 E6 E7 z0 z1
                      have sAq0 := sB.cel (Z+1+1) 0 0 rfl
                      have sAt0 := (sB.pc (Z+1+1) 0).s0 (.int .u64 x1)
                      have sAq1 := sAt0.c 1 rfl
                      have sAt1 := sAt0.s 1 (by simp) (.int .u32 x2)
                      have sAq2 := sAt1.c 2 rfl
                      have sAt2 := sAt1.s 2 (by simp) (.int .u16 x3)
                      have sAq3 := sAt2.c 3 rfl
                      have sA := sAt2.s 3 (by simp) (.int .u16 x4)
                      simp only [List.set_cons_succ, List.set_cons_zero, Nat.zero_add] at sA sAq0 sAq1 sAq2 sAq3
                      have sBq0 := sA.cel (Z+1+1+1) 0 0 rfl
                      have sBt0 := (sA.pc (Z+1+1+1) 0).s0 (.slice A8 (n1 + 1) c8)
                      have sBq1 := sBt0.c 1 rfl
                      have sBt1 := sBt0.s 1 (by simp) (.int .u64 ta)
                      have sBq2 := sBt1.c 2 rfl
                      have sB := sBt1.s 2 (by simp) (.int .u64 tl)
                      simp only [List.set_cons_succ, List.set_cons_zero, Nat.zero_add] at sB sBq0 sBq1 sBq2
                      have sCq0 := sB.cel (Z+1+1+1) 0 0 rfl
                      have sCt0 := (sB.pc (Z+1+1+1) 0).s0 (.slice A8 (n1 + 1) c8)
                      have sCq1 := sCt0.c 1 rfl
                      have sCt1 := sCt0.s 1 (by simp) (.int .u64 ta)
                      have sCq2 := sCt1.c 2 rfl
                      have sC := sCt1.s 2 (by simp) (.int .u64 tl)
                      simp only [List.set_cons_succ, List.set_cons_zero, Nat.zero_add] at sC sCq0 sCq1 sCq2
                      have sDq0 := sC.cel (Z+1+1) 0 0 rfl
                      have sDt0 := (sC.pc (Z+1+1) 0).s0 (.int .u64 x1)
                      have sDq1 := sDt0.c 1 rfl
                      have sDt1 := sDt0.s 1 (by simp) (.int .u32 x2)
                      have sDq2 := sDt1.c 2 rfl
                      have sDt2 := sDt1.s 2 (by simp) (.int .u16 x3)
                      have sDq3 := sDt2.c 3 rfl
                      have sD := sDt2.s 3 (by simp) (.int .u16 x4)
                      simp only [List.set_cons_succ, List.set_cons_zero, Nat.zero_add] at sD sDq0 sDq1 sDq2 sDq3
                      have sE := sB.drew
                      have sF := sD.drew
                      have f0 := sE.cel (Z+1+1) 0 0 rfl
                      have f1 := sE.cel (Z+1+1) 0 1 rfl
                      have f2 := sE.cel (Z+1+1) 0 2 rfl
                      have f3 := sE.cel (Z+1+1) 0 3 rfl
                      simp only [Nat.zero_add] at f0 f1 f2 f3
                      have g0 := sE.cel (Z+1+1+1) 0 0 rfl
                      have g1 := sE.cel (Z+1+1+1) 0 1 rfl
                      have g2 := sE.cel (Z+1+1+1) 0 2 rfl
                      simp only [Nat.zero_add] at g0 g1 g2
                      have p0 := sF.cel (Z+1+1) 0 0 rfl
                      have p1 := sF.cel (Z+1+1) 0 1 rfl
                      have p2 := sF.cel (Z+1+1) 0 2 rfl
                      have p3 := sF.cel (Z+1+1) 0 3 rfl
                      simp only [Nat.zero_add] at p0 p1 p2 p3
                      have q0 := sF.cel (Z+1+1+1) 0 0 rfl
                      have q1 := sF.cel (Z+1+1+1) 0 1 rfl
                      have q2 := sF.cel (Z+1+1+1) 0 2 rfl
                      simp only [Nat.zero_add] at q0 q1 q2
                      go_wp2
                      go_region_with (fail)
                      all_goals
                        simp only [Act.put, List.getElem_toArray, List.getElem_cons_succ, List.getElem_cons_zero, List.setIfInBounds_toArray, List.set_cons_succ, List.set_cons_zero]
                        go_wp2
                        first
                          | refine bodyPost_ret (by simp [results, Try.results76, go_sem, f0.1, f1.1, f2.1, f3.1, g0.1, g1.1, g2.1]; try rfl) rfl ?_
                          | refine bodyPost_ret (by simp [results, Try.results76, go_sem, p0.1, p1.1, p2.1, p3.1, q0.1, q1.1, q2.1]; try rfl) rfl ?_
                        first | exact K.out _ sE.wk | exact K.out _ sF.wk
                    | true =>
                      have hE7 := aside (E7.out H5.out c1)
                      clear E6 E7 own own2
                      go_wp2_with fail
                      have ih3 := ih2.out
                      rw [hIH.out] at ih3
                      refine ih3 x4 (Sat.pull (h := h8) sB) own9.out (by omega) (by have := hle.out; omega) hlen9.out ?_
                      intro e a out hE w9 e1 e2 e3 e4 v' h' hv' hown sF
                      obtain ⟨A9, n9, c9, rfl⟩ := hv'
                      have K := fun w' => k.out e a out (hE7.out.trans hE) w' e1 e2 e3 e4 (.slice A9 n9 c9) h' ⟨_, _, _, rfl⟩ hown
                      replace K := aside K
                      clear k ih2 ih3 hIH hE hown sB d0 d1 d2 d3 z0 z1 y0 y1 y2
                      have sGq0 := sF.cel (Z+1+1) 0 0 rfl
                      have sGt0 := (sF.pc (Z+1+1) 0).s0 (.int .u64 e1)
                      have sGq1 := sGt0.c 1 rfl
                      have sGt1 := sGt0.s 1 (by simp) (.int .u32 e2)
                      have sGq2 := sGt1.c 2 rfl
                      have sGt2 := sGt1.s 2 (by simp) (.int .u16 e3)
                      have sGq3 := sGt2.c 3 rfl
                      have sG := sGt2.s 3 (by simp) (.int .u16 e4)
                      simp only [List.set_cons_succ, List.set_cons_zero, Nat.zero_add] at sG sGq0 sGq1 sGq2 sGq3
                      have sIq0 := sG.cel (Z+1+1+1) 0 0 rfl
                      have sIt0 := (sG.pc (Z+1+1+1) 0).s0 (.slice A9 n9 c9)
                      have sIq1 := sIt0.c 1 rfl
                      have sIt1 := sIt0.s 1 (by simp) (.int .u64 ta)
                      have sIq2 := sIt1.c 2 rfl
                      have sI := sIt1.s 2 (by simp) (.int .u64 tl)
                      simp only [List.set_cons_succ, List.set_cons_zero, Nat.zero_add] at sI sIq0 sIq1 sIq2
                      have f0 := sI.cel (Z+1+1) 0 0 rfl
                      have f1 := sI.cel (Z+1+1) 0 1 rfl
                      have f2 := sI.cel (Z+1+1) 0 2 rfl
                      have f3 := sI.cel (Z+1+1) 0 3 rfl
                      simp only [Nat.zero_add] at f0 f1 f2 f3
                      have g0 := sI.cel (Z+1+1+1) 0 0 rfl
                      have g1 := sI.cel (Z+1+1+1) 0 1 rfl
                      have g2 := sI.cel (Z+1+1+1) 0 2 rfl
                      simp only [Nat.zero_add] at g0 g1 g2
                      go_wp2
                      refine bodyPost_ret (by simp [results, Try.results76, go_sem, f0.1, f1.1, f2.1, f3.1, g0.1, g1.1, g2.1]; try rfl) rfl ?_
                      exact K.out _ sI.wk
          · have K := fun w' => k.out _ _ _ (P4.out c4 hh) w' x1 x2 x3 x4 (.slice A1 n1 c1) h ⟨_, _, _, rfl⟩ (fun h => absurd h (by decide))
            replace K := aside K
            clear k ih2 hIH own P3 P4 P5 P6 P7
            go_wp2_with fail
            refine c_refHas s4 (by omega) _ _ hp1 (by omega) ?_
            rw [decide_eq_false hh]
            intro w5 s5
            clear s4 d0 d1 d2 d3 z0 z1 y0 y1 y2
            have d0 := s5.cel Y 0 0 rfl
            have d1 := s5.cel Y 0 1 rfl
            have d2 := s5.cel Y 0 2 rfl
            have d3 := s5.cel Y 0 3 rfl
            simp only [Nat.zero_add] at d0 d1 d2 d3
            have y0 := s5.cel (Z+1) 0 0 rfl
            have y1 := s5.cel (Z+1) 0 1 rfl
            have y2 := s5.cel (Z+1) 0 2 rfl
            simp only [Nat.zero_add] at y0 y1 y2
            have sAq0 := s5.cel (Z+1+1) 0 0 rfl
            have sAt0 := (s5.pc (Z+1+1) 0).s0 (.int .u64 x1)
            have sAq1 := sAt0.c 1 rfl
            have sAt1 := sAt0.s 1 (by simp) (.int .u32 x2)
            have sAq2 := sAt1.c 2 rfl
            have sAt2 := sAt1.s 2 (by simp) (.int .u16 x3)
            have sAq3 := sAt2.c 3 rfl
            have sA := sAt2.s 3 (by simp) (.int .u16 x4)
            simp only [List.set_cons_succ, List.set_cons_zero, Nat.zero_add] at sA sAq0 sAq1 sAq2 sAq3
            have sBq0 := sA.cel (Z+1+1+1) 0 0 rfl
            have sBt0 := (sA.pc (Z+1+1+1) 0).s0 (.slice A1 n1 c1)
            have sBq1 := sBt0.c 1 rfl
            have sBt1 := sBt0.s 1 (by simp) (.int .u64 ta)
            have sBq2 := sBt1.c 2 rfl
            have sB := sBt1.s 2 (by simp) (.int .u64 tl)
            simp only [List.set_cons_succ, List.set_cons_zero, Nat.zero_add] at sB sBq0 sBq1 sBq2
            have sCq0 := s5.cel (Z+1+1+1) 0 0 rfl
            have sCt0 := (s5.pc (Z+1+1+1) 0).s0 (.slice A1 n1 c1)
            have sCq1 := sCt0.c 1 rfl
            have sCt1 := sCt0.s 1 (by simp) (.int .u64 ta)
            have sCq2 := sCt1.c 2 rfl
            have sC := sCt1.s 2 (by simp) (.int .u64 tl)
            simp only [List.set_cons_succ, List.set_cons_zero, Nat.zero_add] at sC sCq0 sCq1 sCq2
            have sDq0 := sC.cel (Z+1+1) 0 0 rfl
            have sDt0 := (sC.pc (Z+1+1) 0).s0 (.int .u64 x1)
            have sDq1 := sDt0.c 1 rfl
            have sDt1 := sDt0.s 1 (by simp) (.int .u32 x2)
            have sDq2 := sDt1.c 2 rfl
            have sDt2 := sDt1.s 2 (by simp) (.int .u16 x3)
            have sDq3 := sDt2.c 3 rfl
            have sD := sDt2.s 3 (by simp) (.int .u16 x4)
            simp only [List.set_cons_succ, List.set_cons_zero, Nat.zero_add] at sD sDq0 sDq1 sDq2 sDq3
            have sE := sB.drew
            have sF := sD.drew
            have f0 := sE.cel (Z+1+1) 0 0 rfl
            have f1 := sE.cel (Z+1+1) 0 1 rfl
            have f2 := sE.cel (Z+1+1) 0 2 rfl
            have f3 := sE.cel (Z+1+1) 0 3 rfl
            simp only [Nat.zero_add] at f0 f1 f2 f3
            have g0 := sE.cel (Z+1+1+1) 0 0 rfl
            have g1 := sE.cel (Z+1+1+1) 0 1 rfl
            have g2 := sE.cel (Z+1+1+1) 0 2 rfl
            simp only [Nat.zero_add] at g0 g1 g2
            have p0 := sF.cel (Z+1+1) 0 0 rfl
            have p1 := sF.cel (Z+1+1) 0 1 rfl
            have p2 := sF.cel (Z+1+1) 0 2 rfl
            have p3 := sF.cel (Z+1+1) 0 3 rfl
            simp only [Nat.zero_add] at p0 p1 p2 p3
            have q0 := sF.cel (Z+1+1+1) 0 0 rfl
            have q1 := sF.cel (Z+1+1+1) 0 1 rfl
            have q2 := sF.cel (Z+1+1+1) 0 2 rfl
            simp only [Nat.zero_add] at q0 q1 q2
            go_wp2
            go_region_with (fail)
            all_goals
              simp only [Act.put, List.getElem_toArray, List.getElem_cons_succ, List.getElem_cons_zero, List.setIfInBounds_toArray, List.set_cons_succ, List.set_cons_zero]
              go_wp2
              first
                | refine bodyPost_ret (by simp [results, Try.results76, go_sem, f0.1, f1.1, f2.1, f3.1, g0.1, g1.1, g2.1]; try rfl) rfl ?_
                | refine bodyPost_ret (by simp [results, Try.results76, go_sem, p0.1, p1.1, p2.1, p3.1, q0.1, q1.1, q2.1]; try rfl) rfl ?_
              first | exact K.out _ sE.wk | exact K.out _ sF.wk
end
end Go.Proofs.Ytippipfogbgemaa
