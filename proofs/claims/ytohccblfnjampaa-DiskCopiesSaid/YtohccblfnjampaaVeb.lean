/-
  The document's disk (vireoref13): lay, Fill, Write, Read.
-/
import Derived.Test.YtohccblfnjampaaVea
namespace Go.Proofs.Ytohccblfnjampaa
open Go.RowKit
set_option linter.unusedVariables false

theorem rdB_at (m : Int → Int) {N i : Nat} (h : i < N) : (rdB m 0 N)[i]'(by rw [rdB_len]; exact h) = m i := by
  have := rdB_get m 0 N i h
  rw [List.getElem?_eq_getElem (by rw [rdB_len]; exact h)] at this
  simpa using Option.some.inj this

theorem putB_in (m : Int → Int) (p : Nat) (X : List Int) (i : Nat) (h0 : p ≤ i) (h1 : i - p < X.length) : putB m p X (i : Int) = X[i - p] := by
  unfold putB
  rw [if_pos (by omega), show ((i : Int) - (p : Int)).toNat = i - p by omega, List.getElem?_eq_getElem h1]; rfl
theorem putB_off (m : Int → Int) (p : Nat) (X : List Int) (i : Nat) (h : i < p ∨ p + X.length ≤ i) : putB m p X (i : Int) = m i := by
  unfold putB
  split
  · rw [List.getElem?_eq_none (by omega)]; rfl
  · rfl

section
variable {R : Ending → World → Prop} {W0 w : World} {H : Hp} {A : List Hp} {v : Value} {C : Nat} {m : Int → Int} {lk : Bool} {f q fl : Int}

set_option maxRecDepth 100000 in
set_option maxHeartbeats 4000000 in
theorem c_refLayD (s : Sat W0 w H A) (rf : RefD H v C m lk f q fl) (hC : C ≤ 1000) (p L : Nat) (hp : p ≤ 1000000) (hL2 : L ≤ 1000000) {dv : Value} {ds : List Int} (rd : Rd u8E 1 H dv ds) (hL : ds.length ≤ L)
    (k : ∀ w' H' B N c, (∀ l c, H l = some c → H' l = some c) → RefD H' (.agg #[.slice B N c, .bool lk, .int .u64 f, .int .u64 q, .int .u64 fl]) C (putB m p (ds ++ List.replicate (L - ds.length) 0)) lk f q fl → Sat W0 w' H' A → R (.returned (.agg #[.slice B N c, .bool lk, .int .u64 f, .int .u64 q, .int .u64 fl])) w') :
    Calls Try.prog 124 #[v, .int .i64 p, dv, .int .i64 L] w R := by
  obtain ⟨B, N, c, rfl, hN, rdb⟩ := rf.open_
  obtain ⟨E, ec, rfl, rd⟩ := rd.open_
  obtain ⟨hNq, hc1, hc2, gb⟩ := rdb.u8
  clear hNq
  obtain ⟨_, he1, he2, gd⟩ := rd.u8
  have gb : ∀ i (hi : i < N), ∃ bb ob, B = some ⟨bb, ob, none⟩ ∧ (∃ fr, H (.cell bb (ob + i)) = some (.val (.int .u8 (m i)) fr)) ∧ 0 ≤ m i ∧ m i ≤ 255 := fun i hi => by
    obtain ⟨bb, ob, e, h1, h2, h3⟩ := gb i (by rw [rdB_len]; exact hi)
    rw [rdB_at m hi] at h1 h2 h3
    exact ⟨bb, ob, e, h1, h2, h3⟩
  obtain ⟨PD, hPD⟩ : ∃ PD, ds ++ List.replicate (L - ds.length) 0 = PD := ⟨_, rfl⟩
  have hPl : PD.length = L := by rw [← hPD, List.length_append, List.length_replicate]; omega
  have hP1 : ∀ i (h : i < ds.length), PD[i]'(by omega) = ds[i] := fun i h => by
    have : PD[i]? = ds[i]? := by rw [← hPD, List.getElem?_append_left h]
    rw [List.getElem?_eq_getElem (by omega), List.getElem?_eq_getElem h] at this
    exact Option.some.inj this
  have hP2 : ∀ i (h0 : ds.length ≤ i) (h : i < L), PD[i]'(by omega) = 0 := fun i h0 h => by
    have : PD[i]? = some 0 := by rw [← hPD, List.getElem?_append_right h0, List.getElem?_replicate, if_pos (by omega)]
    rw [List.getElem?_eq_getElem (by omega)] at this
    exact Option.some.inj this
  rw [hPD] at k
  obtain ⟨m2, hm2⟩ : ∃ m2, putB m (p : Int) PD = m2 := ⟨_, rfl⟩
  have hin1 : ∀ i j (hj : j < ds.length), i - p = j → p ≤ i → m2 (i : Int) = ds[j] := fun i j hj e h0 => by
    subst e
    rw [← hm2, putB_in m p PD i h0 (by omega)]; exact hP1 _ hj
  have hin2 : ∀ i j, ds.length ≤ j → j < L → i - p = j → p ≤ i → m2 (i : Int) = 0 := fun i j h1 h2 e h0 => by
    subst e
    rw [← hm2, putB_in m p PD i h0 (by omega)]; exact hP2 _ h1 h2
  have hoff : ∀ i : Nat, i < p ∨ p + L ≤ i → m2 (i : Int) = m i := fun i h => by rw [← hm2]; exact putB_off m p PD i (by rw [hPl]; exact h)
  rw [hm2] at k
  have hNb : N ≤ 512000 := by omega
  have hdl : (ds.length : Int) ≤ 1000000 := by omega
  have s1 := (s.alloc (c := [.slice B N c, .bool lk, .int .u64 (f), .int .u64 (q), .int .u64 (fl)]) (t := 51)).alloc (c := [.slice none 0 0, .bool false, .int .u64 0, .int .u64 0, .int .u64 0]) (t := 51)
  have s2 := s1.alloc (c := List.replicate N (.int .u8 0)) (t := 5)
  rw [World.size_alloc, World.size_alloc] at s2
  obtain ⟨Z, hZ⟩ : ∃ Z, w.heap.size = Z := ⟨_, rfl⟩
  rw [hZ] at s2
  have hmk : ∀ W, (Instr.makeSlice 34 (.int .i64 N) (.int .i64 N)).run Try.prog W = .ok (.slice (some ⟨W.heap.size, 0, none⟩) N N) (W.alloc (.cells (List.replicate N (Value.int .u8 0)).toArray 5)) := fun W => by
    have := run_make8 .i64 .i64 N N (by omega) (by omega) (by omega) W
    simpa using this
  have epl : IntKind.i64.wrap ((p : Int) + (L : Int)) = (p : Int) + L := by simp [IntKind.wrap, IntKind.bits, IntKind.signed]; omega
  replace hN := aside hN
  replace hPD := aside hPD
  replace hm2 := aside hm2
  clear s s1 rf hP1 hP2 hPl
  go_enter Try.func124, Try.ntmps124
  go_wp2
  go_loopg [10] N (fun q' v10 w' => ∃ (i : Nat), q' + i = N ∧ v10 = .int .i64 i ∧ Aside (∀ x ∈ rdB m2 0 i, 0 ≤ x ∧ x ≤ 255) ∧ Sat W0 w' H (cellsH ⟨Z + 1 + 1, 0, none⟩ (fillR (rdB m2 0 i) N) :: cellsH ⟨Z + 1, 0, none⟩ [.slice none 0 0, .bool false, .int .u64 0, .int .u64 0, .int .u64 0] :: cellsH ⟨Z, 0, none⟩ [.slice B N c, .bool lk, .int .u64 (f), .int .u64 (q), .int .u64 (fl)] :: A))
  case atStart => exact ⟨0, by simp, rfl, by intro x hx; simp [rdB] at hx, by simpa [fillR, rdB] using s2⟩
  clear s2
  case round =>
    obtain ⟨i, hq, rfl, hbb, s'⟩ := hrel
    have z0 := s'.cel Z 0 0 rfl
    simp only [Nat.zero_add] at z0
    by_cases hi : i < N
    · obtain ⟨bb, ob, rfl, hcell, hx0, hx1⟩ := gb i hi
      have cc := s'.ro.cell hcell
      have hlen := rdB_len m2 0 i
      have hat := fillR_at (xs := rdB m2 0 i) (n := N) (by omega)
      have hfl : (fillR (rdB m2 0 i) N).length = N := fillR_len (by omega)
      have hst := fillR_set (xs := rdB m2 0 i) (n := N) (by omega)
      rw [hlen] at hat hst
      have hrd1 : rdB m2 0 (i + 1) = rdB m2 0 i ++ [m2 i] := by rw [rdB, Int.zero_add]
      obtain ⟨RI, hRI⟩ : ∃ RI, fillR (rdB m2 0 i) N = RI := ⟨_, rfl⟩
      rw [hRI] at s' hat hfl hst
      have o0 := s'.c i hat
      simp only [Nat.zero_add] at o0
      have s3 := s'.s i (by omega) (.int .u8 (m i))
      simp only [Nat.zero_add] at s3
      have hq2 := aside (show gk - 1 + (i + 1) = N ∧ gk - 1 < gk by omega)
      obtain ⟨y, hy⟩ : ∃ y, m (i : Int) = y := ⟨_, rfl⟩
      rw [hy] at hx0 hx1 cc s3
      have hi2 : (i : Int) < N := by omega
      by_cases hr : p ≤ i ∧ i < p + L
      · obtain ⟨hr1, hr2⟩ := hr
        have c1 := s3.c i (v := .int .u8 y) (by rw [List.getElem?_set_self (by omega)])
        have s4 := s3.s i (by rw [List.length_set]; omega) (.int .u8 0)
        rw [List.set_set] at s4
        simp only [Nat.zero_add] at s4 c1
        have r1 : (p : Int) ≤ i := by omega
        have r2 : (i : Int) < (p : Int) + L := by omega
        have ei : IntKind.i64.wrap ((i : Int) - (p : Int)) = ((i - p : Nat) : Int) := by simp [IntKind.wrap, IntKind.bits, IntKind.signed]; omega
        obtain ⟨j, hj⟩ : ∃ j, i - p = j := ⟨_, rfl⟩
        rw [hj] at ei
        by_cases hd : j < ds.length
        · obtain ⟨bd, od, rfl, hcd, hd0, hd1⟩ := gd j hd
          have cd := s4.ro.cell hcd
          have hm0' := hin1 i j hd hj hr1
          obtain ⟨z, hz⟩ : ∃ z, ds[j] = z := ⟨_, rfl⟩
          rw [hz] at hm0' cd hd0 hd1
          have c2 := s4.c i (v := .int .u8 0) (by rw [List.getElem?_set_self (by omega)])
          have s5 := s4.s i (by rw [List.length_set]; omega) (.int .u8 z)
          have hl5 : RI.set i (.int .u8 z) = fillR (rdB m2 0 (i + 1)) N := by rw [hst z, hrd1, hm0']
          rw [List.set_set, hl5] at s5
          simp only [Nat.zero_add] at s5 c2
          have hb2 := aside (show ∀ x ∈ rdB m2 0 (i + 1), 0 ≤ x ∧ x ≤ 255 by
            rw [hrd1]; intro x hx
            rcases List.mem_append.1 hx with h | h
            · exact hbb.out x h
            · simp at h; rw [h, hm0']; exact ⟨hd0, hd1⟩)
          have hdj : (j : Int) < ds.length := by omega
          have hmz := aside hm0'
          clear hl5 hi hq hat hfl hst hrd1 hRI hmz hlen hcell hcd gb gd hin1 hin2 hoff hm0' hj hr1 hr2 hy hz s3 s4 s' hNb hdl hp hL2 hL k hbb
          go_wp2
          go_roundg (gk - 1)
          case measure => exact hq2.out.2
          case rel => exact ⟨i + 1, hq2.out.1, by go_num, hb2, s5⟩
        · have hm0' := hin2 i j (by omega) (by omega) hj hr1
          have hl4 : RI.set i (.int .u8 0) = fillR (rdB m2 0 (i + 1)) N := by rw [hst 0, hrd1, hm0']
          rw [hl4] at s4
          have hb2 := aside (show ∀ x ∈ rdB m2 0 (i + 1), 0 ≤ x ∧ x ≤ 255 by
            rw [hrd1]; intro x hx
            rcases List.mem_append.1 hx with h | h
            · exact hbb.out x h
            · simp at h; rw [h, hm0']; omega)
          have hdj : (ds.length : Int) ≤ j := by omega
          have hmz := aside hm0'
          clear hl4 hi hq hat hfl hst hrd1 hRI hmz hlen hcell gb gd hin1 hin2 hoff hm0' hj hr1 hr2 hy s3 s' hNb hdl hp hL2 hL k hbb hd
          go_wp2
          go_roundg (gk - 1)
          case measure => exact hq2.out.2
          case rel => exact ⟨i + 1, hq2.out.1, by go_num, hb2, s4⟩
      · have hm0 := hoff i (by omega)
        rw [hy] at hm0
        have hl3 : RI.set i (.int .u8 y) = fillR (rdB m2 0 (i + 1)) N := by rw [hst y, hrd1, hm0]
        rw [hl3] at s3
        have hb2 := aside (show ∀ x ∈ rdB m2 0 (i + 1), 0 ≤ x ∧ x ≤ 255 by
          rw [hrd1]; intro x hx
          rcases List.mem_append.1 hx with h | h
          · exact hbb.out x h
          · simp at h; rw [h, hm0]; exact ⟨hx0, hx1⟩)
        have hmz := aside hm0
        by_cases r1 : p ≤ i
        · have r2 : (p : Int) + L ≤ i := by omega
          have r3 : (p : Int) ≤ i := by omega
          clear hl3 hi hq hat hfl hst hrd1 hRI hmz hlen hcell gb gd hin1 hin2 hoff hm0 hr r1 hy s' hNb hdl hp hL2 hL k hbb
          go_wp2
          go_roundg (gk - 1)
          case measure => exact hq2.out.2
          case rel => exact ⟨i + 1, hq2.out.1, by go_num, hb2, s3⟩
        · have r3 : (i : Int) < p := by omega
          clear hl3 hi hq hat hfl hst hrd1 hRI hmz hlen hcell gb gd hin1 hin2 hoff hm0 hr r1 hy s' hNb hdl hp hL2 hL k hbb
          go_wp2
          go_roundg (gk - 1)
          case measure => exact hq2.out.2
          case rel => exact ⟨i + 1, hq2.out.1, by go_num, hb2, s3⟩
    · obtain rfl : N = i := by omega
      have hff := fillR_full (xs := rdB m2 0 N)
      rw [rdB_len] at hff
      rw [hff] at s'
      have r := Rd.ofCells (b := Z + 1 + 1) (o := 0) (c := N) (xs := rdB m2 0 N) [] hbb.out (by rw [rdB_len]; exact Nat.le_refl _) (by omega)
      rw [rdB_len, List.append_nil] at r
      have r2 := r.mono u8E_mono (Sat.frozenD s')
      have z0 := s'.cel Z 0 0 rfl
      have z1 := s'.cel Z 0 1 rfl
      have z2 := s'.cel Z 0 2 rfl
      have z3 := s'.cel Z 0 3 rfl
      have z4 := s'.cel Z 0 4 rfl
      simp only [Nat.zero_add] at z0 z1 z2 z3 z4
      have u0 := s'.cel (Z + 1) 0 0 rfl
      have u1 := s'.cel (Z + 1) 0 1 rfl
      have u2 := s'.cel (Z + 1) 0 2 rfl
      have u3 := s'.cel (Z + 1) 0 3 rfl
      have u4 := s'.cel (Z + 1) 0 4 rfl
      simp only [Nat.zero_add] at u0 u1 u2 u3 u4
      have s3 := (Sat.pull (h := cellsH ⟨Z, 0, none⟩ [.slice B N c, .bool lk, .int .u64 (f), .int .u64 (q), .int .u64 (fl)]) s').s0 (.slice (some ⟨Z + 1 + 1, 0, none⟩) N N)
      have s4q0 := s3.cel (Z + 1) 0 0 rfl
      have s4t0 := (Sat.pull (h := cellsH ⟨(Z + 1), 0, none⟩ [.slice none 0 0, .bool false, .int .u64 0, .int .u64 0, .int .u64 0]) s3).s0 (.slice (some ⟨Z + 1 + 1, 0, none⟩) N N)
      have s4q1 := s4t0.c 1 rfl
      have s4t1 := s4t0.s 1 (by simp) (.bool lk)
      have s4q2 := s4t1.c 2 rfl
      have s4t2 := s4t1.s 2 (by simp) (.int .u64 (f))
      have s4q3 := s4t2.c 3 rfl
      have s4t3 := s4t2.s 3 (by simp) (.int .u64 (q))
      have s4q4 := s4t3.c 4 rfl
      have s4 := s4t3.s 4 (by simp) (.int .u64 (fl))
      simp only [List.set_cons_succ, List.set_cons_zero, Nat.zero_add] at s4 s4q0 s4q1 s4q2 s4q3 s4q4
      have f0 := s4.c 0 rfl
      have f1 := s4.c 1 rfl
      have f2 := s4.c 2 rfl
      have f3 := s4.c 3 rfl
      have f4 := s4.c 4 rfl
      simp only [Nat.zero_add] at f0 f1 f2 f3 f4
      have s5 := (Sat.pull (h := cellsH ⟨Z + 1 + 1, 0, none⟩ ((rdB m2 0 N).map (.int .u8))) s4).freeze
      have K := k _ (un H (cellsH ⟨Z + 1 + 1, 0, none⟩ ((rdB m2 0 N).map (.int .u8)))) (some ⟨Z + 1 + 1, 0, none⟩) N N un_leftD ⟨_, rfl, by rw [← hN.out]; exact r2⟩ s5.tail1.tail1
      clear k s5 s4 s3 s' r r2 hff gb gd hin1 hin2 hoff hbb
      go_wp2
      refine bodyPost_ret (by simp [results, Try.results124, go_sem, f0.1, f1.1, f2.1, f3.1, f4.1]; try rfl) rfl ?_
      exact K

end
end Go.Proofs.Ytohccblfnjampaa
