/-
  CHAIN, the document's: the whole walk.
-/
import Derived.Test.YtippipfogbgemaaCi
import Derived.Test.YtippipfogbgemaaCe
namespace Go.Proofs.Ytippipfogbgemaa
open Go.RowKit
set_option linter.unusedVariables false
set_option linter.unusedSimpArgs false

section
variable {R : Ending → World → Prop} {W0 w : World} {H : Hp} {A F : List Hp} {v : Value} {size : Int} {m : Int → Int} {L : Nat}


set_option maxRecDepth 100000 in
set_option maxHeartbeats 4000000 in
theorem c_refWalk (s : Sat W0 w H A) (rm : RefM H v size m L) (hL : L ≤ 1000000) (hz : 0 ≤ size ∧ size ≤ 268435456) (N : Nat) (d a' u head : Int) (ind : Bool) (hN : N ≤ 256) (hd : 0 ≤ d ∧ d ≤ 18446744073709551615) (hh : -9223372036854775808 ≤ head ∧ head ≤ 9223372036854775807)
    (k : ∀ e segs ta tl, walkP m size d N head ind = (e, segs, ta, tl) → ∀ w' B n c h, OwnS 3 (.slice B n c) segs.length (encG segs) h → Sat W0 w' H (h :: A) →
      R (.returned (.tuple #[.agg #[.slice B n c, .int .u64 ta, .int .u64 tl], .int .i64 e])) w') :
    Calls Try.prog 28 #[v, .agg #[.int .i64 N, .int .u64 d, .int .u64 a', .int .u64 u], .int .i64 head, .bool ind] w R := by
  obtain ⟨B, n0, c0, rfl⟩ := rm.shapeM
  have s1 := (((s.alloc (c := [.int .u64 size, .slice B n0 c0]) (t := 28)).alloc (c := [.int .i64 N, .int .u64 d, .int .u64 a', .int .u64 u]) (t := 46)).alloc (c := [.slice none 0 0, .int .u64 0, .int .u64 0]) (t := 60)).emp
  obtain ⟨Z, hZ⟩ : ∃ Z, w.heap.size = Z := ⟨_, rfl⟩
  simp only [World.size_alloc] at s1
  rw [hZ] at s1
  have z0 := s1.cel Z 0 0 rfl
  have z1 := s1.cel Z 0 1 rfl
  simp only [Nat.zero_add] at z0 z1
  have l0 := s1.cel (Z+1) 0 0 rfl
  have l1 := s1.cel (Z+1) 0 1 rfl
  simp only [Nat.zero_add] at l0 l1
  clear s
  replace k := aside k
  go_enter Try.func28, Try.ntmps28
  go_wp2_with fail
  refine c_refAlong rm hL hz d N hd hN 0 0 N (segs := []) head s1 (OwnS.nil 3) hh hN (by rw [List.length_nil]; omega) ?_
  intro e a out hE wB d1 d2 d3 d4 v1 h1 hv1 hown s2
  obtain ⟨A1, n1, c1, rfl⟩ := hv1
  have s5 := (s2.alloc (c := [.int .u64 d1, .int .u32 d2, .int .u16 d3, .int .u16 d4]) (t := 169)).alloc (c := [.slice A1 n1 c1, .int .u64 0, .int .u64 0]) (t := 60)
  obtain ⟨Y, hY⟩ : ∃ Y, wB.heap.size = Y := ⟨_, rfl⟩
  simp only [World.size_alloc] at s5
  rw [hY] at s5
  have hlen := aside (alongP_len hE)
  clear s1 s2 z0 z1 l0 l1 hZ
  by_cases he : e = 0
  · subst he
    obtain ⟨own, rfl, rfl, rfl, rfl⟩ := hown rfl
    have b1 := ofB_bdn rm.bd a 8
    have b2 := ofB_bdn rm.bd (a + 8) 4
    have b3 := ofB_bdn rm.bd (a + 12) 2
    obtain ⟨hp1, hp2, hp3⟩ : (0 ≤ w1 m a ∧ w1 m a ≤ 18446744073709551615) ∧ (0 ≤ w2 m a ∧ w2 m a ≤ 4294967295) ∧ (0 ≤ w3 m a ∧ w3 m a ≤ 65535) := by
      simp only [w1, w2, w3]
      omega
    have E1 := fun h4 => walkP_plain (ind := ind) hE h4
    have E2 := fun h4 h1 => walkP_nested (ind := ind) hE h4 h1
    have E3 := fun h4 h1 hb => walkP_bad (ind := ind) hE h4 h1 hb
    have E4 := fun h4 h1 hb hh => walkP_place (ind := ind) hE h4 h1 hb hh
    have E5 := fun h4 h1 hb hh => fun e a segs hE2 => walkP_in (e' := e) (a' := a) (segs' := segs) (ind := ind) hE h4 h1 hb hh hE2
    obtain ⟨x1, hx1⟩ : ∃ y, w1 m a = y := ⟨_, rfl⟩
    obtain ⟨x2, hx2⟩ : ∃ y, w2 m a = y := ⟨_, rfl⟩
    obtain ⟨x3, hx3⟩ : ∃ y, w3 m a = y := ⟨_, rfl⟩
    obtain ⟨x4, hx4⟩ : ∃ y, w4 m a = y := ⟨_, rfl⟩
    rw [hx1] at hp1 E4 E5 s5
    rw [hx2] at hp2 E3 E4 E5 s5
    rw [hx3] at hp3 E1 E2 E3 E4 E5 s5
    rw [hx4] at s5
    rw [hx1, hx2, hx3, hx4]
    have y0 := s5.cel Y 0 0 rfl
    have y1 := s5.cel Y 0 1 rfl
    have y2 := s5.cel Y 0 2 rfl
    have y3 := s5.cel Y 0 3 rfl
    simp only [Nat.zero_add] at y0 y1 y2 y3
    clear hown b1 b2 b3
    replace E1 := aside E1
    replace E2 := aside E2
    replace E3 := aside E3
    replace E4 := aside E4
    replace E5 := aside E5
    replace hx1 := aside hx1
    replace hx2 := aside hx2
    replace hx3 := aside hx3
    replace hx4 := aside hx4
    replace hE := aside hE
    replace own := aside own
    go_wp2_with fail
    refine c_flag s5 x1 x2 x3 x4 4 hp3 (by omega) ?_
    intro wC s6
    clear s5 y0 y1 y2 y3 hY
    have y0 := s6.cel Y 0 0 rfl
    have y1 := s6.cel Y 0 1 rfl
    have y2 := s6.cel Y 0 2 rfl
    have y3 := s6.cel Y 0 3 rfl
    simp only [Nat.zero_add] at y0 y1 y2 y3
    cases c4 : flg x3 4 with
    | false =>
      have hW := aside (E1.out c4)
      clear E1 E2 E3 E4 E5
      have o0 := s6.cel (Y+1) 0 0 rfl
      have o1 := s6.cel (Y+1) 0 1 rfl
      have o2 := s6.cel (Y+1) 0 2 rfl
      simp only [Nat.zero_add] at o0 o1 o2
      replace c4 := aside c4
      have own2 := own.out
      have hn1 : n1 = out.length := by obtain ⟨_, _, _, he, _⟩ := own2; injection he
      replace hn1 := aside hn1
      have K := fun w' => k.out 0 out 0 0 hW.out w' A1 n1 c1 h1 own2
      replace K := aside K
      clear k
      have s8q0 := s6.cel (Z+1+1) 0 0 rfl
      have s8t0 := (s6.pc (Z+1+1) 0).s0 (.slice A1 n1 c1)
      have s8q1 := s8t0.c 1 rfl
      have s8t1 := s8t0.s 1 (by simp) (.int .u64 0)
      have s8q2 := s8t1.c 2 rfl
      have s8 := s8t1.s 2 (by simp) (.int .u64 0)
      simp only [List.set_cons_succ, List.set_cons_zero, Nat.zero_add] at s8 s8q0 s8q1 s8q2
      have f0 := s8.c 0 rfl
      have f1 := s8.c 1 rfl
      have f2 := s8.c 2 rfl
      simp only [Nat.zero_add] at f0 f1 f2
      go_wp2
      refine bodyPost_ret (by simp [results, Try.results28, go_sem, f0.1, f1.1, f2.1]; try rfl) rfl ?_
      exact K.out _ s8.wk
    | true =>
      cases ind with
      | false =>
        have hW := aside (E2.out c4 (.inl rfl))
        clear E1 E2 E3 E4 E5
        replace c4 := aside c4
        have K := fun w' => k.out 153 [] 0 0 hW.out w' none 0 0 empH (OwnS.nil 3)
        replace K := aside K
        clear k
        have s8q0 := s6.cel (Z+1+1) 0 0 rfl
        have s8t0 := (s6.pc (Z+1+1) 0).s0 (.slice none 0 0)
        have s8q1 := s8t0.c 1 rfl
        have s8t1 := s8t0.s 1 (by simp) (.int .u64 0)
        have s8q2 := s8t1.c 2 rfl
        have s8 := s8t1.s 2 (by simp) (.int .u64 0)
        simp only [List.set_cons_succ, List.set_cons_zero, Nat.zero_add] at s8 s8q0 s8q1 s8q2
        have f0 := s8.c 0 rfl
        have f1 := s8.c 1 rfl
        have f2 := s8.c 2 rfl
        simp only [Nat.zero_add] at f0 f1 f2
        go_wp2
        refine bodyPost_ret (by simp [results, Try.results28, go_sem, f0.1, f1.1, f2.1]; try rfl) rfl ?_
        exact K.out _ s8.emp.wk
      | true =>
        go_wp2_with fail
        refine c_flag s6 x1 x2 x3 x4 1 hp3 (by omega) ?_
        intro wD s7
        clear s6 y0 y1 y2 y3
        have y0 := s7.cel Y 0 0 rfl
        have y1 := s7.cel Y 0 1 rfl
        have y2 := s7.cel Y 0 2 rfl
        have y3 := s7.cel Y 0 3 rfl
        simp only [Nat.zero_add] at y0 y1 y2 y3
        cases c1' : flg x3 1 with
        | true =>
          have hW := aside (E2.out c4 (.inr c1'))
          clear E1 E2 E3 E4 E5
          replace c4 := aside c4
          replace c1' := aside c1'
          have K := fun w' => k.out 153 [] 0 0 hW.out w' none 0 0 empH (OwnS.nil 3)
          replace K := aside K
          clear k
          have s8q0 := s7.cel (Z+1+1) 0 0 rfl
          have s8t0 := (s7.pc (Z+1+1) 0).s0 (.slice none 0 0)
          have s8q1 := s8t0.c 1 rfl
          have s8t1 := s8t0.s 1 (by simp) (.int .u64 0)
          have s8q2 := s8t1.c 2 rfl
          have s8 := s8t1.s 2 (by simp) (.int .u64 0)
          simp only [List.set_cons_succ, List.set_cons_zero, Nat.zero_add] at s8 s8q0 s8q1 s8q2
          have f0 := s8.c 0 rfl
          have f1 := s8.c 1 rfl
          have f2 := s8.c 2 rfl
          simp only [Nat.zero_add] at f0 f1 f2
          go_wp2
          refine bodyPost_ret (by simp [results, Try.results28, go_sem, f0.1, f1.1, f2.1]; try rfl) rfl ?_
          exact K.out _ s8.emp.wk
        | false =>
          have cn : ¬ (true = false ∨ flg x3 1 = true) := by rw [c1']; decide
          have F3 := fun hb => E3.out c4 cn hb
          have F4 := fun hb hh => E4.out c4 cn hb hh
          have F5 := fun hb hh => E5.out c4 cn hb hh
          clear E1 E2 E3 E4 E5 cn
          replace F3 := aside F3
          replace F4 := aside F4
          replace F5 := aside F5
          replace c4 := aside c4
          replace c1' := aside c1'
          by_cases hb : badT x2
          · have hW := aside (F3.out hb)
            clear F3 F4 F5
            have hb3 : ¬ x2 % 16 = 0 ∨ (x2 % 16 = 0 ∧ x2 < 16) ∨ (x2 % 16 = 0 ∧ ¬ x2 < 16 ∧ 4096 < x2) := by unfold badT at hb; omega
            clear hb
            obtain ⟨rr, hr⟩ : ∃ rr, x2 % 16 = rr := ⟨_, rfl⟩
            rw [hr] at hb3
            rcases hb3 with hb | ⟨hb, hb2⟩ | ⟨hb, hb2, hb4⟩
            · have q1 : (rr != 0) = true := by simp [hb]
              have K := fun w' => k.out 154 [] 0 0 hW.out w' none 0 0 empH (OwnS.nil 3)
              replace K := aside K
              clear k
              have s8q0 := s7.cel (Z+1+1) 0 0 rfl
              have s8t0 := (s7.pc (Z+1+1) 0).s0 (.slice none 0 0)
              have s8q1 := s8t0.c 1 rfl
              have s8t1 := s8t0.s 1 (by simp) (.int .u64 0)
              have s8q2 := s8t1.c 2 rfl
              have s8 := s8t1.s 2 (by simp) (.int .u64 0)
              simp only [List.set_cons_succ, List.set_cons_zero, Nat.zero_add] at s8 s8q0 s8q1 s8q2
              have f0 := s8.c 0 rfl
              have f1 := s8.c 1 rfl
              have f2 := s8.c 2 rfl
              simp only [Nat.zero_add] at f0 f1 f2
              go_wp2
              refine bodyPost_ret (by simp [results, Try.results28, go_sem, f0.1, f1.1, f2.1]; try rfl) rfl ?_
              exact K.out _ s8.emp.wk
            · have q1 : (rr != 0) = false := by simp [hb]
              have K := fun w' => k.out 154 [] 0 0 hW.out w' none 0 0 empH (OwnS.nil 3)
              replace K := aside K
              clear k
              have s8q0 := s7.cel (Z+1+1) 0 0 rfl
              have s8t0 := (s7.pc (Z+1+1) 0).s0 (.slice none 0 0)
              have s8q1 := s8t0.c 1 rfl
              have s8t1 := s8t0.s 1 (by simp) (.int .u64 0)
              have s8q2 := s8t1.c 2 rfl
              have s8 := s8t1.s 2 (by simp) (.int .u64 0)
              simp only [List.set_cons_succ, List.set_cons_zero, Nat.zero_add] at s8 s8q0 s8q1 s8q2
              have f0 := s8.c 0 rfl
              have f1 := s8.c 1 rfl
              have f2 := s8.c 2 rfl
              simp only [Nat.zero_add] at f0 f1 f2
              go_wp2
              refine bodyPost_ret (by simp [results, Try.results28, go_sem, f0.1, f1.1, f2.1]; try rfl) rfl ?_
              exact K.out _ s8.emp.wk
            · have q1 : (rr != 0) = false := by simp [hb]
              have K := fun w' => k.out 154 [] 0 0 hW.out w' none 0 0 empH (OwnS.nil 3)
              replace K := aside K
              clear k
              have s8q0 := s7.cel (Z+1+1) 0 0 rfl
              have s8t0 := (s7.pc (Z+1+1) 0).s0 (.slice none 0 0)
              have s8q1 := s8t0.c 1 rfl
              have s8t1 := s8t0.s 1 (by simp) (.int .u64 0)
              have s8q2 := s8t1.c 2 rfl
              have s8 := s8t1.s 2 (by simp) (.int .u64 0)
              simp only [List.set_cons_succ, List.set_cons_zero, Nat.zero_add] at s8 s8q0 s8q1 s8q2
              have f0 := s8.c 0 rfl
              have f1 := s8.c 1 rfl
              have f2 := s8.c 2 rfl
              simp only [Nat.zero_add] at f0 f1 f2
              go_wp2
              refine bodyPost_ret (by simp [results, Try.results28, go_sem, f0.1, f1.1, f2.1]; try rfl) rfl ?_
              exact K.out _ s8.emp.wk
          · have hb1 : x2 % 16 = 0 ∧ 16 ≤ x2 ∧ x2 ≤ 4096 := by unfold badT at hb; omega
            obtain ⟨hb1, hb2, hb4⟩ := hb1
            have q1 : (x2 % 16 != 0) = false := by rw [hb1]; rfl
            have e2 : IntKind.u64.wrap x2 = x2 := by rw [wrap_u64]; omega
            have z0 := s7.cel Z 0 0 rfl
            have z1 := s7.cel Z 0 1 rfl
            simp only [Nat.zero_add] at z0 z1
            by_cases hh : hasP size x1 x2
            · have hd := decide_eq_true hh
              have F6 := fun e a segs => F5.out hb hh e a segs
              clear F3 F4 F5
              replace hb := aside hb
              go_wp2_with fail
              refine c_refHas s7 (by omega) _ _ hp1 (by omega) ?_
              rw [hd]
              intro wE s8
              clear s7 y0 y1 y2 y3 z0 z1
              have y0 := s8.cel Y 0 0 rfl
              have y1 := s8.cel Y 0 1 rfl
              have y2 := s8.cel Y 0 2 rfl
              have y3 := s8.cel Y 0 3 rfl
              simp only [Nat.zero_add] at y0 y1 y2 y3
              have z0 := s8.cel Z 0 0 rfl
              have z1 := s8.cel Z 0 1 rfl
              simp only [Nat.zero_add] at z0 z1
              obtain ⟨q, hq⟩ := Int.eq_ofNat_of_zero_le (show 0 ≤ x2 / 16 by omega)
              have hqb : q ≤ 256 := by omega
              have s9 := ((s8.pc (Y+1) 0).s 1 (by simp) (.int .u64 x1)).s 2 (by simp) (.int .u64 x2)
              simp only [List.set_cons_succ, List.set_cons_zero, Nat.zero_add] at s9
              have o0 := s8.cel (Y+1) 0 0 rfl
              have o1 := s8.cel (Y+1) 0 1 rfl
              have o2 := s8.cel (Y+1) 0 2 rfl
              simp only [Nat.zero_add] at o0 o1 o2
              have t0 := s9.cel (Y+1) 0 0 rfl
              have t1 := s9.cel (Y+1) 0 1 rfl
              have t2 := s9.cel (Y+1) 0 2 rfl
              simp only [Nat.zero_add] at t0 t1 t2
              have p0 := s9.cel Z 0 0 rfl
              have p1 := s9.cel Z 0 1 rfl
              simp only [Nat.zero_add] at p0 p1
              have r0 := s9.cel Y 0 0 rfl
              have r1 := s9.cel Y 0 1 rfl
              have r2 := s9.cel Y 0 2 rfl
              have r3 := s9.cel Y 0 3 rfl
              simp only [Nat.zero_add] at r0 r1 r2 r3
              have own2 := own.out
              have hn1 : n1 = out.length := by obtain ⟨_, _, _, he, _⟩ := own2; injection he
              have hsl : out.length ≤ 256 := by have := hlen.out; simp only [List.length_nil] at this; omega
              rw [hq, Int.toNat_natCast] at F6
              have e5 : IntKind.i64.wrap (q : Int) = q := by simp [IntKind.wrap, IntKind.bits, IntKind.signed]; omega
              have s9' := Sat.pull (h := h1) s9
              replace F6 := aside F6
              replace hn1 := aside hn1
              clear s8 hd
              go_wp2_with fail
              refine c_refAlong rm hL hz x1 q hp1 hqb x1 x2 q 0 s9' own2 (by omega) hqb (by omega) ?_
              intro e7 a7 segs7 hE7 wF g1 g2 g3 g4 v7 h7 hv7 hown7 sA
              obtain ⟨A7, n7, c7, rfl⟩ := hv7
              have sB := sA.alloc (c := [.int .u64 g1, .int .u32 g2, .int .u16 g3, .int .u16 g4]) (t := 169)
              obtain ⟨X, hX⟩ : ∃ X, wF.heap.size = X := ⟨_, rfl⟩
              rw [hX] at sB
              clear s9 s9' sA o0 o1 o2 z0 z1 y0 y1 y2 y3 t0 t1 t2 p0 p1 r0 r1 r2 r3
              have sCq0 := sB.cel (Y+1) 0 0 rfl
              have sCt0 := (sB.pc (Y+1) 0).s0 (.slice A7 n7 c7)
              have sCq1 := sCt0.c 1 rfl
              have sCt1 := sCt0.s 1 (by simp) (.int .u64 x1)
              have sCq2 := sCt1.c 2 rfl
              have sC := sCt1.s 2 (by simp) (.int .u64 x2)
              simp only [List.set_cons_succ, List.set_cons_zero, Nat.zero_add] at sC sCq0 sCq1 sCq2
              have y0 := sC.cel X 0 0 rfl
              have y1 := sC.cel X 0 1 rfl
              have y2 := sC.cel X 0 2 rfl
              have y3 := sC.cel X 0 3 rfl
              simp only [Nat.zero_add] at y0 y1 y2 y3
              have hW := F6.out e7 a7 segs7 hE7
              clear F6 sB
              by_cases he7 : e7 = 0
              · subst he7
                obtain ⟨own7, hg1, hg2, hg3, hg4⟩ := hown7 rfl
                have b3 := ofB_bdn rm.bd (a7 + 12) 2
                have hp7 : 0 ≤ g3 ∧ g3 ≤ 65535 := by rw [hg3]; simp only [w3]; omega
                rw [← hg3] at hW
                clear hown7 b3
                replace own7 := aside own7
                replace hg1 := aside hg1
                replace hg2 := aside hg2
                replace hg3 := aside hg3
                replace hg4 := aside hg4
                replace hE7 := aside hE7
                cases c7' : flg g3 4 with
                | true =>
                  rw [c7', if_pos (by simp [outE])] at hW
                  have hW2 : walkP m size d N head true = (153, [], 0, 0) := by rw [hW]; simp [outE]
                  clear hW
                  have hW := aside hW2
                  clear hW2
                  go_wp2_with fail
                  refine c_flag sC g1 g2 g3 g4 4 hp7 (by omega) ?_
                  rw [c7']
                  intro wG sG
                  clear sC y0 y1 y2 y3 sCq0 sCq1 sCq2 hX
                  replace c7' := aside c7'
                  have K := fun w' => k.out 153 [] 0 0 hW.out w' none 0 0 empH (OwnS.nil 3)
                  replace K := aside K
                  clear k
                  have s8q0 := sG.cel (Z+1+1) 0 0 rfl
                  have s8t0 := (sG.pc (Z+1+1) 0).s0 (.slice none 0 0)
                  have s8q1 := s8t0.c 1 rfl
                  have s8t1 := s8t0.s 1 (by simp) (.int .u64 0)
                  have s8q2 := s8t1.c 2 rfl
                  have s8 := s8t1.s 2 (by simp) (.int .u64 0)
                  simp only [List.set_cons_succ, List.set_cons_zero, Nat.zero_add] at s8 s8q0 s8q1 s8q2
                  have f0 := s8.c 0 rfl
                  have f1 := s8.c 1 rfl
                  have f2 := s8.c 2 rfl
                  simp only [Nat.zero_add] at f0 f1 f2
                  go_wp2
                  refine bodyPost_ret (by simp [results, Try.results28, go_sem, f0.1, f1.1, f2.1]; try rfl) rfl ?_
                  exact K.out _ s8.emp.wk
                | false =>
                  rw [c7', if_neg (by simp [outE])] at hW
                  replace hW := aside hW
                  go_wp2_with fail
                  refine c_flag sC g1 g2 g3 g4 4 hp7 (by omega) ?_
                  rw [c7']
                  intro wG sG
                  clear sC y0 y1 y2 y3 sCq0 sCq1 sCq2 hX
                  replace c7' := aside c7'
                  have o0 := sG.cel (Y+1) 0 0 rfl
                  have o1 := sG.cel (Y+1) 0 1 rfl
                  have o2 := sG.cel (Y+1) 0 2 rfl
                  simp only [Nat.zero_add] at o0 o1 o2
                  have K := fun w' => k.out 0 segs7 x1 x2 hW.out w' A7 n7 c7 h7 own7.out
                  replace K := aside K
                  clear k
                  have s8q0 := sG.cel (Z+1+1) 0 0 rfl
                  have s8t0 := (sG.pc (Z+1+1) 0).s0 (.slice A7 n7 c7)
                  have s8q1 := s8t0.c 1 rfl
                  have s8t1 := s8t0.s 1 (by simp) (.int .u64 x1)
                  have s8q2 := s8t1.c 2 rfl
                  have s8 := s8t1.s 2 (by simp) (.int .u64 x2)
                  simp only [List.set_cons_succ, List.set_cons_zero, Nat.zero_add] at s8 s8q0 s8q1 s8q2
                  have f0 := s8.c 0 rfl
                  have f1 := s8.c 1 rfl
                  have f2 := s8.c 2 rfl
                  simp only [Nat.zero_add] at f0 f1 f2
                  go_wp2
                  refine bodyPost_ret (by simp [results, Try.results28, go_sem, f0.1, f1.1, f2.1]; try rfl) rfl ?_
                  exact K.out _ s8.wk
              · have ho : outE false e7 (flg (w3 m a7) 4) = e7 := by unfold outE; rw [if_neg (fun h => he7 h.1)]
                rw [ho, if_pos he7] at hW
                have d1 : (e7 == 0) = false := by rw [beq_eq_false_iff_ne]; exact he7
                have d2 : (e7 != 0) = true := by simp [he7]
                replace hW := aside hW
                clear hown7 he7 ho
                replace hE7 := aside hE7
                have K := fun w' => k.out e7 [] 0 0 hW.out w' none 0 0 empH (OwnS.nil 3)
                replace K := aside K
                clear k
                have s8q0 := sC.cel (Z+1+1) 0 0 rfl
                have s8t0 := (sC.pc (Z+1+1) 0).s0 (.slice none 0 0)
                have s8q1 := s8t0.c 1 rfl
                have s8t1 := s8t0.s 1 (by simp) (.int .u64 0)
                have s8q2 := s8t1.c 2 rfl
                have s8 := s8t1.s 2 (by simp) (.int .u64 0)
                simp only [List.set_cons_succ, List.set_cons_zero, Nat.zero_add] at s8 s8q0 s8q1 s8q2
                have f0 := s8.c 0 rfl
                have f1 := s8.c 1 rfl
                have f2 := s8.c 2 rfl
                simp only [Nat.zero_add] at f0 f1 f2
                go_wp2
                refine bodyPost_ret (by simp [results, Try.results28, go_sem, f0.1, f1.1, f2.1]; try rfl) rfl ?_
                exact K.out _ s8.emp.wk
            · have hd := decide_eq_false hh
              have hW := aside (F4.out hb hh)
              clear F3 F4 F5 hh
              replace hb := aside hb
              go_wp2_with fail
              refine c_refHas s7 (by omega) _ _ hp1 (by omega) ?_
              rw [hd]
              intro wE s8
              clear s7 y0 y1 y2 y3 z0 z1
              have K := fun w' => k.out 21 [] 0 0 hW.out w' none 0 0 empH (OwnS.nil 3)
              replace K := aside K
              clear k
              have s8q0 := s8.cel (Z+1+1) 0 0 rfl
              have s8t0 := (s8.pc (Z+1+1) 0).s0 (.slice none 0 0)
              have s8q1 := s8t0.c 1 rfl
              have s8t1 := s8t0.s 1 (by simp) (.int .u64 0)
              have s8q2 := s8t1.c 2 rfl
              have s8 := s8t1.s 2 (by simp) (.int .u64 0)
              simp only [List.set_cons_succ, List.set_cons_zero, Nat.zero_add] at s8 s8q0 s8q1 s8q2
              have f0 := s8.c 0 rfl
              have f1 := s8.c 1 rfl
              have f2 := s8.c 2 rfl
              simp only [Nat.zero_add] at f0 f1 f2
              go_wp2
              refine bodyPost_ret (by simp [results, Try.results28, go_sem, f0.1, f1.1, f2.1]; try rfl) rfl ?_
              exact K.out _ s8.emp.wk
  · have hW := aside (walkP_err (ind := ind) hE he)
    have d1 : (e == 0) = false := by rw [beq_eq_false_iff_ne]; exact he
    have d2 : (e != 0) = true := by simp [he]
    clear hown he
    replace hE := aside hE
    have K := fun w' => k.out e [] 0 0 hW.out w' none 0 0 empH (OwnS.nil 3)
    replace K := aside K
    clear k
    have s8q0 := s5.cel (Z+1+1) 0 0 rfl
    have s8t0 := (s5.pc (Z+1+1) 0).s0 (.slice none 0 0)
    have s8q1 := s8t0.c 1 rfl
    have s8t1 := s8t0.s 1 (by simp) (.int .u64 0)
    have s8q2 := s8t1.c 2 rfl
    have s8 := s8t1.s 2 (by simp) (.int .u64 0)
    simp only [List.set_cons_succ, List.set_cons_zero, Nat.zero_add] at s8 s8q0 s8q1 s8q2
    have f0 := s8.c 0 rfl
    have f1 := s8.c 1 rfl
    have f2 := s8.c 2 rfl
    simp only [Nat.zero_add] at f0 f1 f2
    go_wp2
    refine bodyPost_ret (by simp [results, Try.results28, go_sem, f0.1, f1.1, f2.1]; try rfl) rfl ?_
    exact K.out _ s8.emp.wk
end
end Go.Proofs.Ytippipfogbgemaa
