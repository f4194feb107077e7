/-
  The document's disk (vireoref13): Read.
-/
import Derived.Test.YtohccblfnjampaaVed
namespace Go.Proofs.Ytohccblfnjampaa
open Go.RowKit
set_option linter.unusedVariables false

section
variable {R : Ending → World → Prop} {W0 w : World} {H : Hp} {A : List Hp} {v : Value} {C : Nat} {m : Int → Int} {lk : Bool} {f q fl : Int}

def rdD (C : Nat) (f a n : Int) : Int := if f = 1 then 133 else pieceC C a n

set_option maxRecDepth 100000 in
set_option maxHeartbeats 4000000 in
theorem c_refReadD (s : Sat W0 w H A) (rf : RefD H v C m lk f q fl) (hC : C ≤ 1000) (hf : 0 ≤ f ∧ f ≤ 18446744073709551615) (a n : Int) (ha : 0 ≤ a ∧ a ≤ 18446744073709551615) (hn : 0 ≤ n ∧ n ≤ 18446744073709551615)
    (kb : rdD C f a n ≠ 0 → ∀ w' B N c, RefD H (.agg #[.slice B N c, .bool lk, .int .u64 (nextF f), .int .u64 (upQ q), .int .u64 fl]) C m lk (nextF f) (upQ q) fl → Sat W0 w' H A → R (.returned (.tuple #[.agg #[.slice B N c, .bool lk, .int .u64 (nextF f), .int .u64 (upQ q), .int .u64 fl], .slice none 0 0, .int .i64 (rdD C f a n)])) w')
    (k : rdD C f a n = 0 → ∀ w' B N c v2 h', RefD H (.agg #[.slice B N c, .bool lk, .int .u64 (nextF f), .int .u64 (upQ q), .int .u64 fl]) C m lk (nextF f) (upQ q) fl → OwnS 1 v2 n.toNat ((rdB m (512 * a) n.toNat).map (Value.int .u8)) h' → Sat W0 w' H (h' :: A) → R (.returned (.tuple #[.agg #[.slice B N c, .bool lk, .int .u64 (nextF f), .int .u64 (upQ q), .int .u64 fl], v2, .int .i64 0])) w') :
    Calls Try.prog 102 #[v, .int .u64 a, .int .u64 n] w R := by
  obtain ⟨B, N, c, rfl, hN, rdb⟩ := rf.open_
  replace hN := aside hN
  have s1 := (s.alloc (c := [.slice B N c, .bool lk, .int .u64 (f), .int .u64 (q), .int .u64 (fl)]) (t := 51)).alloc (c := [.slice none 0 0, .bool false, .int .u64 0, .int .u64 0, .int .u64 0]) (t := 51)
  obtain ⟨Z, hZ⟩ : ∃ Z, w.heap.size = Z := ⟨_, rfl⟩
  rw [World.size_alloc, hZ] at s1
  have y0 := s1.cel Z 0 0 rfl
  have y1 := s1.cel Z 0 1 rfl
  have y2 := s1.cel Z 0 2 rfl
  have y3 := s1.cel Z 0 3 rfl
  have y4 := s1.cel Z 0 4 rfl
  simp only [Nat.zero_add] at y0 y1 y2 y3 y4
  have hnA := aside hn
  have haA := aside ha
  obtain ⟨T0, hT0⟩ : ∃ T0 : Nat, n.toNat = T0 := ⟨_, rfl⟩
  have hTn : n = (T0 : Int) := by omega
  have hmk : T0 ≤ 600000 → ∀ W, (Instr.makeSlice 34 (.int .u64 n) (.int .u64 n)).run Try.prog W = .ok (.slice (some ⟨W.heap.size, 0, none⟩) T0 T0) (W.alloc (.cells (List.replicate T0 (Value.int .u8 0)).toArray 5)) := fun hT W => by
    have := run_make8 .u64 .u64 n n (by omega) (by omega) (by omega) W
    rw [hT0] at this
    simpa using this
  rw [hT0] at k
  replace hT0 := aside hT0
  replace hTn := aside hTn
  replace hmk := aside hmk
  clear s hn ha
  go_enter Try.func102, Try.ntmps102
  go_wp2_with fail
  refine c_refAskD s1 rf hf ?_
  intro w2 B2 N2 c2 rf2 s2
  obtain ⟨g, hg⟩ : ∃ y, nextF f = y := ⟨_, rfl⟩
  obtain ⟨qq, hqq⟩ : ∃ y, upQ q = y := ⟨_, rfl⟩
  rw [hg, hqq] at rf2 k kb ⊢
  have s3q0 := s2.cel Z 0 0 rfl
  have s3t0 := (Sat.pull (h := cellsH ⟨Z, 0, none⟩ [.slice B N c, .bool lk, .int .u64 (f), .int .u64 (q), .int .u64 (fl)]) s2).s0 (.slice B2 N2 c2)
  have s3q1 := s3t0.c 1 rfl
  have s3t1 := s3t0.s 1 (by simp) (.bool lk)
  have s3q2 := s3t1.c 2 rfl
  have s3t2 := s3t1.s 2 (by simp) (.int .u64 (g))
  have s3q3 := s3t2.c 3 rfl
  have s3t3 := s3t2.s 3 (by simp) (.int .u64 (qq))
  have s3q4 := s3t3.c 4 rfl
  have s3 := s3t3.s 4 (by simp) (.int .u64 (fl))
  simp only [List.set_cons_succ, List.set_cons_zero, Nat.zero_add] at s3 s3q0 s3q1 s3q2 s3q3 s3q4
  have x0 := s3.c 0 rfl
  have x1 := s3.c 1 rfl
  have x2 := s3.c 2 rfl
  have x3 := s3.c 3 rfl
  have x4 := s3.c 4 rfl
  simp only [Nat.zero_add] at x0 x1 x2 x3 x4
  clear s1 hg hqq
  by_cases h1 : f = 1
  · rw [show askC f = 133 by rw [h1]; rfl]
    have s4q0 := s3.cel (Z + 1) 0 0 rfl
    have s4t0 := (Sat.pull (h := cellsH ⟨(Z + 1), 0, none⟩ [.slice none 0 0, .bool false, .int .u64 0, .int .u64 0, .int .u64 0]) s3).s0 (.slice B2 N2 c2)
    have s4q1 := s4t0.c 1 rfl
    have s4t1 := s4t0.s 1 (by simp) (.bool lk)
    have s4q2 := s4t1.c 2 rfl
    have s4t2 := s4t1.s 2 (by simp) (.int .u64 (g))
    have s4q3 := s4t2.c 3 rfl
    have s4t3 := s4t2.s 3 (by simp) (.int .u64 (qq))
    have s4q4 := s4t3.c 4 rfl
    have s4 := s4t3.s 4 (by simp) (.int .u64 (fl))
    simp only [List.set_cons_succ, List.set_cons_zero, Nat.zero_add] at s4 s4q0 s4q1 s4q2 s4q3 s4q4
    have f0 := s4.c 0 rfl
    have f1 := s4.c 1 rfl
    have f2 := s4.c 2 rfl
    have f3 := s4.c 3 rfl
    have f4 := s4.c 4 rfl
    simp only [Nat.zero_add] at f0 f1 f2 f3 f4
    have hwr : rdD C f a n = 133 := by unfold rdD; rw [if_pos h1]
    have K := kb (by rw [hwr]; decide) _ B2 N2 c2 rf2 s4.tail1.tail1
    rw [hwr] at K
    clear k kb s4 s3 s2 x0 x1 x2 x3 x4
    go_wp2
    refine bodyPost_ret (by simp [results, Try.results102, go_sem, f0.1, f1.1, f2.1, f3.1, f4.1]; try rfl) rfl ?_
    exact K
  · rw [show askC f = 0 by unfold askC; rw [if_neg h1]]
    have hwr : rdD C f a n = pieceC C a n := by unfold rdD; rw [if_neg h1]
    rw [hwr] at k kb
    go_wp2_with fail
    refine c_refPieceD s3 rf2 (by omega) a n haA.out hnA.out ?_
    intro w5 s5
    have x0 := s5.cel Z 0 0 rfl
    have x1 := s5.cel Z 0 1 rfl
    have x2 := s5.cel Z 0 2 rfl
    have x3 := s5.cel Z 0 3 rfl
    have x4 := s5.cel Z 0 4 rfl
    simp only [Nat.zero_add] at x0 x1 x2 x3 x4
    by_cases hp : pieceC C a n = 0
    · have K := k hp
      rw [hp]
      have hpc := pieceC_ok hp
      have ha1 := haA.out
      have hn1 := hnA.out
      have hTn1 := hTn.out
      obtain ⟨p, hpp⟩ : ∃ p : Nat, a = p := ⟨a.toNat, by omega⟩
      have ei : IntKind.i64.wrap a = a := by simp [IntKind.wrap, IntKind.bits, IntKind.signed]; omega
      obtain ⟨P5, hP5⟩ : ∃ y : Nat, 512 * a = y := ⟨(512 * a).toNat, by omega⟩
      have ei2 : IntKind.i64.wrap (512 * a) = (P5 : Int) := by simp [IntKind.wrap, IntKind.bits, IntKind.signed]; omega
      have hTP := aside (show P5 + T0 ≤ 512 * C by omega)
      have hTb : T0 ≤ 600000 := by omega
      have hmk2 := hmk.out hTb
      have hTI : (T0 : Int) ≤ 600000 := by omega
      rw [hP5] at K
      obtain ⟨B3, N3, c3, e3, hN3, rd3⟩ := rf2.open_
      injection e3 with e3
      injection e3 with e3
      have e4 := (List.cons.inj e3).1
      injection e4 with e5 e6 e7
      subst e5 e6 e7
      replace hN3 := aside hN3
      obtain ⟨hNq, hc1, hc2, gb⟩ := rd3.u8
      have gb : ∀ i (hi : i < N2), ∃ bb ob, B2 = some ⟨bb, ob, none⟩ ∧ (∃ fr, H (.cell bb (ob + i)) = some (.val (.int .u8 (m i)) fr)) ∧ 0 ≤ m i ∧ m i ≤ 255 := fun i hi => by
        obtain ⟨bb, ob, e, h1, h2, h3⟩ := gb i (by rw [rdB_len]; exact hi)
        rw [rdB_at m hi] at h1 h2 h3
        exact ⟨bb, ob, e, h1, h2, h3⟩
      clear hNq e3 k kb hpc hp ha1 hn1 hTn1 hpp hP5 hwr s2 s3
      have s6 : Sat W0 _ H (cellsH ⟨w5.heap.size, 0, none⟩ (List.replicate T0 (.int .u8 0)) :: (cellsH ⟨Z, 0, none⟩ [.slice B2 N2 c2, .bool lk, .int .u64 (g), .int .u64 (qq), .int .u64 (fl)] :: cellsH ⟨Z + 1, 0, none⟩ [.slice none 0 0, .bool false, .int .u64 0, .int .u64 0, .int .u64 0] :: A)) := s5.alloc (t := 5)
      obtain ⟨Y, hY⟩ : ∃ Y, w5.heap.size = Y := ⟨_, rfl⟩
      rw [hY] at s6
      clear s5
      go_wp2
      go_loopg [11] T0 (fun q' v11 w' => ∃ (i : Nat), q' + i = T0 ∧ v11 = .int .i64 i ∧ Sat W0 w' H (cellsH ⟨Y, 0, none⟩ (fillR (rdB m P5 i) T0) :: (cellsH ⟨Z, 0, none⟩ [.slice B2 N2 c2, .bool lk, .int .u64 (g), .int .u64 (qq), .int .u64 (fl)] :: cellsH ⟨Z + 1, 0, none⟩ [.slice none 0 0, .bool false, .int .u64 0, .int .u64 0, .int .u64 0] :: A)))
      case atStart => exact ⟨0, by simp, rfl, by simpa [fillR, rdB] using s6⟩
      clear s6
      case round =>
        obtain ⟨i, hq, rfl, s'⟩ := hrel
        have x0 := s'.cel Z 0 0 rfl
        have x1 := s'.cel Z 0 1 rfl
        have x2 := s'.cel Z 0 2 rfl
        have x3 := s'.cel Z 0 3 rfl
        have x4 := s'.cel Z 0 4 rfl
        simp only [Nat.zero_add] at x0 x1 x2 x3 x4
        by_cases hi : i < T0
        · obtain ⟨bb, ob, rfl, hcell, hx0, hx1⟩ := gb (P5 + i) (by have := hTP.out; have := hN3.out; omega)
          have cc := s'.ro.cell hcell
          rw [show (((P5 + i : Nat)) : Int) = (P5 : Int) + i by omega] at cc hx0 hx1
          have hlen := rdB_len m P5 i
          have hat := fillR_at (xs := rdB m P5 i) (n := T0) (by omega)
          have hfl : (fillR (rdB m P5 i) T0).length = T0 := fillR_len (by omega)
          have hst := fillR_set (xs := rdB m P5 i) (n := T0) (by omega) (m ((P5 : Int) + i))
          rw [hlen] at hat hst
          rw [show rdB m P5 i ++ [m ((P5 : Int) + i)] = rdB m P5 (i + 1) from by rw [rdB]] at hst
          have ej : IntKind.i64.wrap ((P5 : Int) + i) = ((P5 + i : Nat) : Int) := by have := hTP.out; simp [IntKind.wrap, IntKind.bits, IntKind.signed]; omega
          obtain ⟨j, hj⟩ : ∃ j, P5 + i = j := ⟨_, rfl⟩
          have hjN : (j : Int) < N2 := by have := hTP.out; have := hN3.out; omega
          rw [← Nat.add_assoc] at cc
          rw [hj] at ej
          have hcj : ob + P5 + i = ob + j := by omega
          rw [hcj] at cc
          obtain ⟨RI, hRI⟩ : ∃ RI, fillR (rdB m P5 i) T0 = RI := ⟨_, rfl⟩
          rw [hRI] at s' hat hfl hst
          have o0 := s'.c i hat
          have s3 := s'.s i (by omega) (.int .u8 (m ((P5 : Int) + i)))
          simp only [Nat.zero_add] at o0 s3
          rw [hst] at s3
          obtain ⟨y, hy⟩ : ∃ y, m ((P5 : Int) + i) = y := ⟨_, rfl⟩
          rw [hy] at cc hx0 hx1 s3
          have hq2 := aside (show gk - 1 + (i + 1) = T0 ∧ gk - 1 < gk by omega)
          have hi2 : (i : Int) < T0 := by omega
          clear hi hq hat hfl hst hRI hlen hcell gb hj hcj s' hy
          go_wp2
          go_roundg (gk - 1)
          case measure => exact hq2.out.2
          case rel => exact ⟨i + 1, hq2.out.1, by go_num, s3⟩
        · obtain rfl : T0 = i := by omega
          have hff := fillR_full (xs := rdB m P5 T0)
          rw [rdB_len] at hff
          rw [hff] at s'
          have own : OwnS 1 (.slice (some ⟨Y, 0, none⟩) T0 T0) T0 ((rdB m P5 T0).map (.int .u8)) (cellsH ⟨Y, 0, none⟩ ((rdB m P5 T0).map (.int .u8))) := by
            have := OwnS.made (size := 1) (b := Y) (o := 0) (n := T0) (c := T0) (vs := (rdB m P5 T0).map (.int .u8)) [] (Nat.le_refl _) (by omega) (by rw [List.length_map, rdB_len]; omega) (by simp)
            rwa [List.append_nil] at this
          have s4q0 := s'.cel (Z + 1) 0 0 rfl
          have s4t0 := (Sat.pull (h := cellsH ⟨(Z + 1), 0, none⟩ [.slice none 0 0, .bool false, .int .u64 0, .int .u64 0, .int .u64 0]) s').s0 (.slice B2 N2 c2)
          have s4q1 := s4t0.c 1 rfl
          have s4t1 := s4t0.s 1 (by simp) (.bool lk)
          have s4q2 := s4t1.c 2 rfl
          have s4t2 := s4t1.s 2 (by simp) (.int .u64 (g))
          have s4q3 := s4t2.c 3 rfl
          have s4t3 := s4t2.s 3 (by simp) (.int .u64 (qq))
          have s4q4 := s4t3.c 4 rfl
          have s4 := s4t3.s 4 (by simp) (.int .u64 (fl))
          simp only [List.set_cons_succ, List.set_cons_zero, Nat.zero_add] at s4 s4q0 s4q1 s4q2 s4q3 s4q4
          have f0 := s4.c 0 rfl
          have f1 := s4.c 1 rfl
          have f2 := s4.c 2 rfl
          have f3 := s4.c 3 rfl
          have f4 := s4.c 4 rfl
          simp only [Nat.zero_add] at f0 f1 f2 f3 f4
          have K := K _ B2 N2 c2 _ _ rf2 own s4.tail1.swap.tail1
          clear s4 s' gb hff own rd3
          go_wp2
          refine bodyPost_ret (by simp [results, Try.results102, go_sem, f0.1, f1.1, f2.1, f3.1, f4.1]; try rfl) rfl ?_
          exact K
    · have K := kb hp
      obtain ⟨pc, hpc⟩ : ∃ y, pieceC C a n = y := ⟨_, rfl⟩
      rw [hpc] at K
      rw [hpc] at hp ⊢
      have hp2 : (pc != 0) = true := by simp [hp]
      have s4q0 := s5.cel (Z + 1) 0 0 rfl
      have s4t0 := (Sat.pull (h := cellsH ⟨(Z + 1), 0, none⟩ [.slice none 0 0, .bool false, .int .u64 0, .int .u64 0, .int .u64 0]) s5).s0 (.slice B2 N2 c2)
      have s4q1 := s4t0.c 1 rfl
      have s4t1 := s4t0.s 1 (by simp) (.bool lk)
      have s4q2 := s4t1.c 2 rfl
      have s4t2 := s4t1.s 2 (by simp) (.int .u64 (g))
      have s4q3 := s4t2.c 3 rfl
      have s4t3 := s4t2.s 3 (by simp) (.int .u64 (qq))
      have s4q4 := s4t3.c 4 rfl
      have s4 := s4t3.s 4 (by simp) (.int .u64 (fl))
      simp only [List.set_cons_succ, List.set_cons_zero, Nat.zero_add] at s4 s4q0 s4q1 s4q2 s4q3 s4q4
      have f0 := s4.c 0 rfl
      have f1 := s4.c 1 rfl
      have f2 := s4.c 2 rfl
      have f3 := s4.c 3 rfl
      have f4 := s4.c 4 rfl
      simp only [Nat.zero_add] at f0 f1 f2 f3 f4
      have K := K _ B2 N2 c2 rf2 s4.tail1.tail1
      clear k kb hpc hp s2 s3 s4 s5 hwr
      go_wp2
      refine bodyPost_ret (by simp [results, Try.results102, go_sem, f0.1, f1.1, f2.1, f3.1, f4.1]; try rfl) rfl ?_
      exact K

end
end Go.Proofs.Ytohccblfnjampaa
