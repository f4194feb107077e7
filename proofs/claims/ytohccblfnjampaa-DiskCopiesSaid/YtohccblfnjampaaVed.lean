/-
  The document's disk (vireoref13): Fill, Write, Read.
-/
import Derived.Test.YtohccblfnjampaaVeb
namespace Go.Proofs.Ytohccblfnjampaa
open Go.RowKit
set_option linter.unusedVariables false

theorem RefD.same {H : Hp} {v : Value} {C : Nat} {m m' : Int → Int} {lk : Bool} {f q fl : Int} (r : RefD H v C m lk f q fl) (h : ∀ x, 0 ≤ x ∧ x < 512 * (C : Int) → m' x = m x) : RefD H v C m' lk f q fl := by
  obtain ⟨sl, h1, h2⟩ := r
  exact ⟨sl, h1, by rw [rdB_same (m := m) 0 (512 * C) (fun i hi => by rw [Int.zero_add]; exact h i (by omega))]; exact h2⟩

section
variable {R : Ending → World → Prop} {W0 w : World} {H : Hp} {A : List Hp} {v : Value} {C : Nat} {m : Int → Int} {lk : Bool} {f q fl : Int}

set_option maxRecDepth 100000 in
set_option maxHeartbeats 4000000 in
theorem c_refFillD (s : Sat W0 w H A) (rf : RefD H v C m lk f q fl) (hC : C ≤ 1000) {dv : Value} {ds : List Int} (rd : Rd u8E 1 H dv ds) (hd : ds.length ≤ 10000)
    (k : ∀ w' H' B N c, (∀ l c, H l = some c → H' l = some c) → RefD H' (.agg #[.slice B N c, .bool lk, .int .u64 f, .int .u64 q, .int .u64 fl]) C (putB m 0 (padC ds)) lk f q fl → Sat W0 w' H' A → R (.returned (.agg #[.slice B N c, .bool lk, .int .u64 f, .int .u64 q, .int .u64 fl])) w') :
    Calls Try.prog 106 #[v, dv] w R := by
  obtain ⟨B, N, c, rfl, hN, rdb⟩ := rf.open_
  replace hN := aside hN
  obtain ⟨E, ec, rfl, rd⟩ := rd.open_
  have s1 := (s.alloc (c := [.slice B N c, .bool lk, .int .u64 (f), .int .u64 (q), .int .u64 (fl)]) (t := 51)).alloc (c := [.slice none 0 0, .bool false, .int .u64 0, .int .u64 0, .int .u64 0]) (t := 51)
  obtain ⟨Z, hZ⟩ : ∃ Z, w.heap.size = Z := ⟨_, rfl⟩
  rw [World.size_alloc, hZ] at s1
  have y0 := s1.cel Z 0 0 rfl
  have y1 := s1.cel Z 0 1 rfl
  have y2 := s1.cel Z 0 2 rfl
  have y3 := s1.cel Z 0 3 rfl
  have y4 := s1.cel Z 0 4 rfl
  simp only [Nat.zero_add] at y0 y1 y2 y3 y4
  obtain ⟨M, hM⟩ : ∃ M, (ds.length + 511) / 512 = M := ⟨_, rfl⟩
  have e1 : IntKind.i64.wrap ((ds.length : Int) + 511) = (ds.length : Int) + 511 := by simp [IntKind.wrap, IntKind.bits, IntKind.signed]; omega
  have e2 : ((ds.length : Int) + 511).tdiv 512 = M := by rw [Int.tdiv_eq_ediv_of_nonneg (by omega)]; omega
  have e2b : ((ds.length : Int) + 511) / 512 = M := by omega
  have e3 : IntKind.i64.wrap (M : Int) = M := by simp [IntKind.wrap, IntKind.bits, IntKind.signed]; omega
  have e4 : IntKind.i64.wrap ((M : Int) * 512) = ((M * 512 : Nat) : Int) := by simp [IntKind.wrap, IntKind.bits, IntKind.signed]; omega
  obtain ⟨L, hL⟩ : ∃ L, M * 512 = L := ⟨_, rfl⟩
  rw [hL] at e4
  have hL1 := aside (show ds.length ≤ L ∧ L ≤ 1000000 by omega)
  have hpad := aside (show padC ds = ds ++ List.replicate (L - ds.length) 0 by unfold padC; rw [hM, hL])
  clear s hM hL
  go_enter Try.func106, Try.ntmps106
  go_wp2_with fail
  refine c_refLayD s1 rf hC 0 L (by omega) hL1.out.2 rd hL1.out.1 ?_
  intro w2 H2 B2 N2 c2 le2 rf2 s2
  rw [show ((0 : Nat) : Int) = 0 from rfl, ← hpad.out] at rf2
  have s4q0 := s2.cel (Z + 1) 0 0 rfl
  have s4t0 := (Sat.pull (h := cellsH ⟨(Z + 1), 0, none⟩ [.slice none 0 0, .bool false, .int .u64 0, .int .u64 0, .int .u64 0]) s2).s0 (.slice B2 N2 c2)
  have s4q1 := s4t0.c 1 rfl
  have s4t1 := s4t0.s 1 (by simp) (.bool lk)
  have s4q2 := s4t1.c 2 rfl
  have s4t2 := s4t1.s 2 (by simp) (.int .u64 (f))
  have s4q3 := s4t2.c 3 rfl
  have s4t3 := s4t2.s 3 (by simp) (.int .u64 (q))
  have s4q4 := s4t3.c 4 rfl
  have s4 := s4t3.s 4 (by simp) (.int .u64 (fl))
  simp only [List.set_cons_succ, List.set_cons_zero, Nat.zero_add] at s4 s4q0 s4q1 s4q2 s4q3 s4q4
  have f0 := s4.c 0 rfl
  have f1 := s4.c 1 rfl
  have f2 := s4.c 2 rfl
  have f3 := s4.c 3 rfl
  have f4 := s4.c 4 rfl
  simp only [Nat.zero_add] at f0 f1 f2 f3 f4
  have K := k _ H2 B2 N2 c2 le2 rf2 s4.tail1.tail1
  clear k s1 s2 s4
  go_wp2
  refine bodyPost_ret (by simp [results, Try.results106, go_sem, f0.1, f1.1, f2.1, f3.1, f4.1]; try rfl) rfl ?_
  exact K

def wrD (C : Nat) (lk : Bool) (f a n : Int) : Int := if f = 1 then 133 else if lk = true then 132 else pieceC C a n

set_option maxRecDepth 100000 in
set_option maxHeartbeats 4000000 in
theorem c_refWriteD (s : Sat W0 w H A) (rf : RefD H v C m lk f q fl) (hC : C ≤ 1000) (hf : 0 ≤ f ∧ f ≤ 18446744073709551615) (a : Int) (ha : 0 ≤ a ∧ a ≤ 18446744073709551615) {dv : Value} {ds : List Int} (rd : Rd u8E 1 H dv ds) (hd : ds.length ≤ 10000)
    (kb : wrD C lk f a ds.length ≠ 0 → ∀ w' B N c, RefD H (.agg #[.slice B N c, .bool lk, .int .u64 (nextF f), .int .u64 (upQ q), .int .u64 fl]) C m lk (nextF f) (upQ q) fl → Sat W0 w' H A → R (.returned (.tuple #[.agg #[.slice B N c, .bool lk, .int .u64 (nextF f), .int .u64 (upQ q), .int .u64 fl], .int .i64 (wrD C lk f a ds.length)])) w')
    (k : wrD C lk f a ds.length = 0 → ∀ w' H' B N c, (∀ l c, H l = some c → H' l = some c) → RefD H' (.agg #[.slice B N c, .bool lk, .int .u64 (nextF f), .int .u64 (upQ q), .int .u64 fl]) C (putB m (512 * a) ds) lk (nextF f) (upQ q) fl → Sat W0 w' H' A → R (.returned (.tuple #[.agg #[.slice B N c, .bool lk, .int .u64 (nextF f), .int .u64 (upQ q), .int .u64 fl], .int .i64 0])) w') :
    Calls Try.prog 103 #[v, .int .u64 a, dv] w R := by
  obtain ⟨B, N, c, rfl, hN, rdb⟩ := rf.open_
  replace hN := aside hN
  obtain ⟨E, ec, rfl, rd⟩ := rd.open_
  have s1 := (s.alloc (c := [.slice B N c, .bool lk, .int .u64 (f), .int .u64 (q), .int .u64 (fl)]) (t := 51)).alloc (c := [.slice none 0 0, .bool false, .int .u64 0, .int .u64 0, .int .u64 0]) (t := 51)
  obtain ⟨Z, hZ⟩ : ∃ Z, w.heap.size = Z := ⟨_, rfl⟩
  rw [World.size_alloc, hZ] at s1
  have y0 := s1.cel Z 0 0 rfl
  have y1 := s1.cel Z 0 1 rfl
  have y2 := s1.cel Z 0 2 rfl
  have y3 := s1.cel Z 0 3 rfl
  have y4 := s1.cel Z 0 4 rfl
  simp only [Nat.zero_add] at y0 y1 y2 y3 y4
  have eN : IntKind.u64.wrap (ds.length : Int) = ds.length := by rw [wrap_u64]; omega
  have hNb := aside (show 0 ≤ (ds.length : Int) ∧ (ds.length : Int) ≤ 18446744073709551615 by omega)
  have hdA := aside hd
  clear s hd
  go_enter Try.func103, Try.ntmps103
  go_wp2_with fail
  refine c_refAskD s1 rf hf ?_
  intro w2 B2 N2 c2 rf2 s2
  obtain ⟨g, hg⟩ : ∃ y, nextF f = y := ⟨_, rfl⟩
  obtain ⟨qq, hqq⟩ : ∃ y, upQ q = y := ⟨_, rfl⟩
  rw [hg, hqq] at rf2 k kb ⊢
  have s3q0 := s2.cel Z 0 0 rfl
  have s3t0 := (Sat.pull (h := cellsH ⟨Z, 0, none⟩ [.slice B N c, .bool lk, .int .u64 (f), .int .u64 (q), .int .u64 (fl)]) s2).s0 (.slice B2 N2 c2)
  have s3q1 := s3t0.c 1 rfl
  have s3t1 := s3t0.s 1 (by simp) (.bool lk)
  have s3q2 := s3t1.c 2 rfl
  have s3t2 := s3t1.s 2 (by simp) (.int .u64 (g))
  have s3q3 := s3t2.c 3 rfl
  have s3t3 := s3t2.s 3 (by simp) (.int .u64 (qq))
  have s3q4 := s3t3.c 4 rfl
  have s3 := s3t3.s 4 (by simp) (.int .u64 (fl))
  simp only [List.set_cons_succ, List.set_cons_zero, Nat.zero_add] at s3 s3q0 s3q1 s3q2 s3q3 s3q4
  have x0 := s3.c 0 rfl
  have x1 := s3.c 1 rfl
  have x2 := s3.c 2 rfl
  have x3 := s3.c 3 rfl
  have x4 := s3.c 4 rfl
  simp only [Nat.zero_add] at x0 x1 x2 x3 x4
  clear s1 hg hqq
  by_cases h1 : f = 1
  · rw [show askC f = 133 by rw [h1]; rfl]
    have s4q0 := s3.cel (Z + 1) 0 0 rfl
    have s4t0 := (Sat.pull (h := cellsH ⟨(Z + 1), 0, none⟩ [.slice none 0 0, .bool false, .int .u64 0, .int .u64 0, .int .u64 0]) s3).s0 (.slice B2 N2 c2)
    have s4q1 := s4t0.c 1 rfl
    have s4t1 := s4t0.s 1 (by simp) (.bool lk)
    have s4q2 := s4t1.c 2 rfl
    have s4t2 := s4t1.s 2 (by simp) (.int .u64 (g))
    have s4q3 := s4t2.c 3 rfl
    have s4t3 := s4t2.s 3 (by simp) (.int .u64 (qq))
    have s4q4 := s4t3.c 4 rfl
    have s4 := s4t3.s 4 (by simp) (.int .u64 (fl))
    simp only [List.set_cons_succ, List.set_cons_zero, Nat.zero_add] at s4 s4q0 s4q1 s4q2 s4q3 s4q4
    have f0 := s4.c 0 rfl
    have f1 := s4.c 1 rfl
    have f2 := s4.c 2 rfl
    have f3 := s4.c 3 rfl
    have f4 := s4.c 4 rfl
    simp only [Nat.zero_add] at f0 f1 f2 f3 f4
    have hwr : wrD C lk f a ds.length = 133 := by unfold wrD; rw [if_pos h1]
    have K := kb (by rw [hwr]; decide) _ B2 N2 c2 rf2 s4.tail1.tail1
    rw [hwr] at K
    clear k kb s4 s3 s2 x0 x1 x2 x3 x4
    go_wp2
    refine bodyPost_ret (by simp [results, Try.results103, go_sem, f0.1, f1.1, f2.1, f3.1, f4.1]; try rfl) rfl ?_
    exact K
  · rw [show askC f = 0 by unfold askC; rw [if_neg h1]]
    by_cases hl : lk = true
    · subst hl
      have s4q0 := s3.cel (Z + 1) 0 0 rfl
      have s4t0 := (Sat.pull (h := cellsH ⟨(Z + 1), 0, none⟩ [.slice none 0 0, .bool false, .int .u64 0, .int .u64 0, .int .u64 0]) s3).s0 (.slice B2 N2 c2)
      have s4q1 := s4t0.c 1 rfl
      have s4t1 := s4t0.s 1 (by simp) (.bool true)
      have s4q2 := s4t1.c 2 rfl
      have s4t2 := s4t1.s 2 (by simp) (.int .u64 (g))
      have s4q3 := s4t2.c 3 rfl
      have s4t3 := s4t2.s 3 (by simp) (.int .u64 (qq))
      have s4q4 := s4t3.c 4 rfl
      have s4 := s4t3.s 4 (by simp) (.int .u64 (fl))
      simp only [List.set_cons_succ, List.set_cons_zero, Nat.zero_add] at s4 s4q0 s4q1 s4q2 s4q3 s4q4
      have f0 := s4.c 0 rfl
      have f1 := s4.c 1 rfl
      have f2 := s4.c 2 rfl
      have f3 := s4.c 3 rfl
      have f4 := s4.c 4 rfl
      simp only [Nat.zero_add] at f0 f1 f2 f3 f4
      have hwr : wrD C true f a ds.length = 132 := by unfold wrD; rw [if_neg h1, if_pos rfl]
      have K := kb (by rw [hwr]; decide) _ B2 N2 c2 rf2 s4.tail1.tail1
      rw [hwr] at K
      clear k kb s4 s3 s2 x0 x1 x2 x3 x4
      go_wp2
      refine bodyPost_ret (by simp [results, Try.results103, go_sem, f0.1, f1.1, f2.1, f3.1, f4.1]; try rfl) rfl ?_
      exact K
    · have hl2 : lk = false := by simpa using hl
      subst hl2
      have hwr : wrD C false f a ds.length = pieceC C a ds.length := by unfold wrD; rw [if_neg h1, if_neg (by simp)]
      rw [hwr] at k kb
      clear x0 x1 x2 x3 x4
      go_wp2_with fail
      refine c_refPieceD s3 rf2 (by omega) a ds.length ha hNb.out ?_
      intro w5 s5
      by_cases hp : pieceC C a ds.length = 0
      · have K := k hp
        rw [hp]
        have hpc := pieceC_ok hp
        obtain ⟨p, rfl⟩ := Int.eq_ofNat_of_zero_le ha.1
        have ei : IntKind.i64.wrap (p : Int) = p := by simp [IntKind.wrap, IntKind.bits, IntKind.signed]; omega
        have ei2 : IntKind.i64.wrap (512 * (p : Int)) = ((512 * p : Nat) : Int) := by simp [IntKind.wrap, IntKind.bits, IntKind.signed]; omega
        obtain ⟨P5, hP5⟩ : ∃ y, 512 * p = y := ⟨_, rfl⟩
        have hPb := aside (show P5 ≤ 1000000 by omega)
        have hPe := aside (show 512 * (p : Int) = (P5 : Int) by omega)
        rw [hP5] at ei2
        clear k kb hpc hP5 hp
        have x0 := s5.cel Z 0 0 rfl
        have x1 := s5.cel Z 0 1 rfl
        have x2 := s5.cel Z 0 2 rfl
        have x3 := s5.cel Z 0 3 rfl
        have x4 := s5.cel Z 0 4 rfl
        simp only [Nat.zero_add] at x0 x1 x2 x3 x4
        go_wp2_with fail
        refine c_refLayD s5 rf2 hC P5 ds.length hPb.out (by have := hdA.out; omega) rd (Nat.le_refl _) ?_
        intro w6 H6 B6 N6 c6 le6 rf6 s6
        rw [Nat.sub_self, List.replicate_zero, List.append_nil, ← hPe.out] at rf6
        have s4q0 := s6.cel (Z + 1) 0 0 rfl
        have s4t0 := (Sat.pull (h := cellsH ⟨(Z + 1), 0, none⟩ [.slice none 0 0, .bool false, .int .u64 0, .int .u64 0, .int .u64 0]) s6).s0 (.slice B6 N6 c6)
        have s4q1 := s4t0.c 1 rfl
        have s4t1 := s4t0.s 1 (by simp) (.bool false)
        have s4q2 := s4t1.c 2 rfl
        have s4t2 := s4t1.s 2 (by simp) (.int .u64 (g))
        have s4q3 := s4t2.c 3 rfl
        have s4t3 := s4t2.s 3 (by simp) (.int .u64 (qq))
        have s4q4 := s4t3.c 4 rfl
        have s4 := s4t3.s 4 (by simp) (.int .u64 (fl))
        simp only [List.set_cons_succ, List.set_cons_zero, Nat.zero_add] at s4 s4q0 s4q1 s4q2 s4q3 s4q4
        have f0 := s4.c 0 rfl
        have f1 := s4.c 1 rfl
        have f2 := s4.c 2 rfl
        have f3 := s4.c 3 rfl
        have f4 := s4.c 4 rfl
        simp only [Nat.zero_add] at f0 f1 f2 f3 f4
        have K := K _ H6 B6 N6 c6 le6 rf6 s4.tail1.tail1
        clear s3 s2 s4 s5 s6
        go_wp2
        refine bodyPost_ret (by simp [results, Try.results103, go_sem, f0.1, f1.1, f2.1, f3.1, f4.1]; try rfl) rfl ?_
        exact K
      · have K := kb hp
        obtain ⟨pc, hpc⟩ : ∃ y, pieceC C a ds.length = y := ⟨_, rfl⟩
        rw [hpc] at K hp ⊢
        have hp2 : (pc != 0) = true := by simp [hp]
        have x0 := s5.cel Z 0 0 rfl
        have x1 := s5.cel Z 0 1 rfl
        have x2 := s5.cel Z 0 2 rfl
        have x3 := s5.cel Z 0 3 rfl
        have x4 := s5.cel Z 0 4 rfl
        simp only [Nat.zero_add] at x0 x1 x2 x3 x4
        have s4q0 := s5.cel (Z + 1) 0 0 rfl
        have s4t0 := (Sat.pull (h := cellsH ⟨(Z + 1), 0, none⟩ [.slice none 0 0, .bool false, .int .u64 0, .int .u64 0, .int .u64 0]) s5).s0 (.slice B2 N2 c2)
        have s4q1 := s4t0.c 1 rfl
        have s4t1 := s4t0.s 1 (by simp) (.bool false)
        have s4q2 := s4t1.c 2 rfl
        have s4t2 := s4t1.s 2 (by simp) (.int .u64 (g))
        have s4q3 := s4t2.c 3 rfl
        have s4t3 := s4t2.s 3 (by simp) (.int .u64 (qq))
        have s4q4 := s4t3.c 4 rfl
        have s4 := s4t3.s 4 (by simp) (.int .u64 (fl))
        simp only [List.set_cons_succ, List.set_cons_zero, Nat.zero_add] at s4 s4q0 s4q1 s4q2 s4q3 s4q4
        have f0 := s4.c 0 rfl
        have f1 := s4.c 1 rfl
        have f2 := s4.c 2 rfl
        have f3 := s4.c 3 rfl
        have f4 := s4.c 4 rfl
        simp only [Nat.zero_add] at f0 f1 f2 f3 f4
        have K := K _ B2 N2 c2 rf2 s4.tail1.tail1
        clear k kb hpc hp s2 s3 s4 s5
        go_wp2
        refine bodyPost_ret (by simp [results, Try.results103, go_sem, f0.1, f1.1, f2.1, f3.1, f4.1]; try rfl) rfl ?_
        exact K

end
end Go.Proofs.Ytohccblfnjampaa
