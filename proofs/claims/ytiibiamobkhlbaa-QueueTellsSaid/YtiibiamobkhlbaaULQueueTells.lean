/-
  QueueTells returns true for every memory, queue and numbers; no condition.
-/
import Derived.Test.YtiibiamobkhlbaaUQr
import Derived.Test.YtiibiamobkhlbaaG7
import Derived.Test.YtiibiamobkhlbaaGA
import Derived.Test.YtiibiamobkhlbaaG6
import Derived.Test.YtiibiamobkhlbaaUWf
import Derived.Test.YtiibiamobkhlbaaUWh
import Derived.Test.YtiibiamobkhlbaaUWi
import Derived.Test.YtiibiamobkhlbaaUVss
import Derived.Deep.RegionHeld3
import Derived.Laws.StructEq
set_option linter.unusedVariables false
set_option linter.unusedSimpArgs false
namespace Go.Proofs.Ytiibiamobkhlbaa
open Go.RowKit
set_option linter.unusedVariables false
set_option linter.unusedSimpArgs false


set_option maxRecDepth 100000 in
set_option maxHeartbeats 4000000 in
theorem law_QueueTells (W : World) {v0 : Value} {ps : List PutM} {cs1 cs2 : Array Value} {o : QueD} {told : Int × Int × Int} (e0 : sliceE putE 2 (look W) ps [v0]) (e1 : queE (look W) o cs1.toList) (e2 : triE (look W) told cs2.toList) :
    Calls Try.prog 6 #[v0, .agg cs1, .agg cs2] W fun e w' => e = .returned (.bool true) ∧ Below W.heap.size W w' := by
  obtain ⟨_, hv0, e0⟩ := e0
  obtain rfl := (List.cons.inj hv0).1
  clear hv0
  replace e0 : Rd putE 2 (look W) v0 ps := e0
  obtain rfl : cs1 = (o.vals).toArray := by apply Array.ext'; simpa [queE] using e1
  clear e1
  obtain ⟨⟨n, d, a, u, hn, hd, ha, hu⟩, rdy, fet, us, ev, ind, hfet, hus⟩ := o
  obtain ⟨h0, h1, h2⟩ := told
  obtain ⟨e2, hb0, hb1, hb2⟩ := e2
  obtain rfl : cs2 = #[.int .u32 h0, .int .u32 h1, .int .u32 h2] := by apply Array.ext'; simpa using e2
  clear e2
  simp only [QueD.vals, LayM.vals, List.cons_append, List.nil_append] at *
  have s0 := ((Sat.start W).alloc (c := [.int .i64 n, .int .u64 d, .int .u64 a, .int .u64 u, .bool rdy, .int .i64 fet, .int .i64 us, .bool ev, .bool ind]) (t := 27)).alloc (c := [.int .u32 h0, .int .u32 h1, .int .u32 h2]) (t := 90)
  obtain ⟨X, hX⟩ : ∃ X, W.heap.size = X := ⟨_, rfl⟩
  obtain ⟨X2, hX2⟩ : ∃ y, X + 1 = y := ⟨_, rfl⟩
  simp only [World.size_alloc, hX, hX2] at s0
  replace e0 := aside e0
  go_enter Try.func6, Try.ntmps6
  go_wp2_with fail
  refine c_queueAwake s0 ?_
  intro w1 H1 le1 s1
  clear s0
  go_wp2_with fail
  refine c_Memory s1 (e0.out.mono putE_mono le1) ?_ ?_
  · intro w2 H2 v2 m2 le2 r2 s2
    obtain ⟨B, n2, c, rfl⟩ := r2.shapeM
    have s3 := s2.alloc (c := [.int .u64 8192, .slice B n2 c]) (t := 32)
    clear s1
    go_wp2
    go_ret
    exact ⟨rfl, hX ▸ s3.below⟩
  intro w2 H2 v2 b r le2 hz rm s2
  obtain ⟨B, n2, c2, rfl⟩ := rm.shapeM
  have s3 := s2.alloc (c := [.int .u64 8192, .slice B n2 c2]) (t := 32)
  obtain ⟨Y, hY⟩ : ∃ Y, w2.heap.size = Y := ⟨_, rfl⟩
  rw [hY] at s3
  have x0 := s3.cel X 0 0 rfl
  have x1 := s3.cel X 0 1 rfl
  have x2 := s3.cel X 0 2 rfl
  have x3 := s3.cel X 0 3 rfl
  have x4 := s3.cel X 0 4 rfl
  have x5 := s3.cel X 0 5 rfl
  have x6 := s3.cel X 0 6 rfl
  have x7 := s3.cel X 0 7 rfl
  have x8 := s3.cel X 0 8 rfl
  simp only [Nat.zero_add] at x0 x1 x2 x3 x4 x5 x6 x7 x8
  replace rm := aside rm
  replace hz := aside hz
  clear s1 s2 le1 le2
  go_wp2_with fail
  refine c_lawRight n d a u fet us rdy ev ind s3 ?_
  intro w4 s4
  clear s3 x0 x1 x2 x3 x4 x5 x6 x7 x8
  have x0 := s4.cel X 0 0 rfl
  have x1 := s4.cel X 0 1 rfl
  have x2 := s4.cel X 0 2 rfl
  have x3 := s4.cel X 0 3 rfl
  simp only [Nat.zero_add] at x0 x1 x2 x3
  have y0 := s4.cel Y 0 0 rfl
  have y1 := s4.cel Y 0 1 rfl
  simp only [Nat.zero_add] at y0 y1
  by_cases hr : (0 ≤ fet ∧ fet < 65536) ∧ 0 ≤ us ∧ us < 65536
  · rw [decide_eq_true hr]
    go_wp2_with fail
    refine c_refCheck s4 rm.out (by omega) n d a u hn hd ha hu ?_
    intro w5 s5
    clear s4 x0 x1 x2 x3 y0 y1
    obtain ⟨CK, hCK⟩ : ∃ y, chk 8192 n d a u = y := ⟨_, rfl⟩
    rw [hCK]
    by_cases hc0 : CK = 0
    · subst hc0
      obtain ⟨q, rfl, rfl, rfl, rfl, rfl, rfl, rfl, rfl, rfl⟩ : ∃ q : QuM, q.n = n ∧ q.d = d ∧ q.a = a ∧ q.u = u ∧ q.rdy = rdy ∧ q.fet = fet ∧ q.us = us ∧ q.ev = ev ∧ q.ind = ind := ⟨⟨n, d, a, u, rdy, fet, us, ev, ind, hn, hd, ha, hu, by omega, by omega⟩, rfl, rfl, rfl, rfl, rfl, rfl, rfl, rfl, rfl⟩
      clear hn hd ha hu hfet hus
      have hok := aside (show q.okP 8192 from QuM.okP_chk.2 hCK)
      replace hCK := aside hCK
      replace hr := aside hr
      go_wp2_with fail
      refine c_ramCopy s5 ?_
      intro w6 cp r6 hz6 hm6 s6
      have x0 := s6.cel X 0 0 rfl
      have x1 := s6.cel X 0 1 rfl
      have x2 := s6.cel X 0 2 rfl
      have x3 := s6.cel X 0 3 rfl
      have x4 := s6.cel X 0 4 rfl
      have x5 := s6.cel X 0 5 rfl
      have x6 := s6.cel X 0 6 rfl
      have x7 := s6.cel X 0 7 rfl
      have x8 := s6.cel X 0 8 rfl
      simp only [Nat.zero_add] at x0 x1 x2 x3 x4 x5 x6 x7 x8
      replace hz6 := aside hz6
      replace hm6 := aside hm6
      clear s5
      go_wp2_with fail
      refine c_lawOf q s6 ?_
      intro w7 s7
      have s8 := s7.alloc (c := [.int .i64 q.n, .int .u64 q.d, .int .u64 q.a, .int .u64 q.u, .bool q.rdy, .int .u16 q.fet, .int .u16 q.us, .bool q.ev, .bool q.ind]) (t := 40)
      obtain ⟨Q8, hQ8⟩ : ∃ Q8, w7.heap.size = Q8 := ⟨_, rfl⟩
      rw [hQ8] at s8
      obtain ⟨HD, hHD⟩ : ∃ y, h0 % 65536 = y := ⟨_, rfl⟩
      obtain ⟨FR, hFR⟩ : ∃ y, h2 % 65536 = y := ⟨_, rfl⟩
      have hHDb : 0 ≤ HD ∧ HD ≤ 65535 := by omega
      have hFRb : 0 ≤ FR ∧ FR ≤ 65535 := by omega
      have et0 : h0.tmod 65536 = HD := by rw [Int.tmod_eq_emod_of_nonneg hb0.1]; exact hHD
      have et2 : h2.tmod 65536 = FR := by rw [Int.tmod_eq_emod_of_nonneg hb2.1]; exact hFR
      have ew0 : IntKind.u16.wrap HD = HD := by rw [wrap_u16]; omega
      have ew2 : IntKind.u16.wrap FR = FR := by rw [wrap_u16]; omega
      have ei0 : IntKind.i64.wrap HD = HD := by simp [IntKind.wrap, IntKind.bits, IntKind.signed]; omega
      have ei2 : IntKind.i64.wrap FR = FR := by simp [IntKind.wrap, IntKind.bits, IntKind.signed]; omega
      have j0 := s8.cel X2 0 0 rfl
      have j1 := s8.cel X2 0 1 rfl
      have j2 := s8.cel X2 0 2 rfl
      simp only [Nat.zero_add] at j0 j1 j2
      have s8r : Sat W _ H2 (cellsH ⟨Q8, 0, none⟩ q.vals :: (ramL ⟨b, 0, none⟩ (r, none) ++ (ramL ⟨cp, 0, none⟩ (r6, none) ++ (cellsH ⟨Y, 0, none⟩ [.int .u64 8192, .slice B n2 c2] :: cellsH ⟨X, 0, none⟩ [.int .i64 q.n, .int .u64 q.d, .int .u64 q.a, .int .u64 q.u, .bool q.rdy, .int .i64 q.fet, .int .i64 q.us, .bool q.ev, .bool q.ind] :: [])))) := (show Sat W _ H2 (cellsH ⟨Q8, 0, none⟩ [.int .i64 q.n, .int .u64 q.d, .int .u64 q.a, .int .u64 q.u, .bool q.rdy, .int .u16 q.fet, .int .u16 q.us, .bool q.ev, .bool q.ind] :: (ramL ⟨b, 0, none⟩ (r, none) ++ (ramL ⟨cp, 0, none⟩ (r6, none) ++ (cellsH ⟨Y, 0, none⟩ [.int .u64 8192, .slice B n2 c2] :: cellsH ⟨X, 0, none⟩ [.int .i64 q.n, .int .u64 q.d, .int .u64 q.a, .int .u64 q.u, .bool q.rdy, .int .i64 q.fet, .int .i64 q.us, .bool q.ev, .bool q.ind] :: [])))) from s8.wk)
      clear s6 s7 s8 x0 x1 x2 x3 x4 x5 x6 x7 x8
      replace hHD := aside hHD
      replace hFR := aside hFR
      go_wp2
      go_quiet (fail)
      have s9 := s8r.drewN nq
      generalize World.drewN _ nq = w9 at s9 ⊢
      have hok9 := aside (show q.okP r.size by rw [hz.out]; exact hok.out)
      clear s8r j0 j1 j2 et0 et2 ew0 ew2
      have x0 := s9.cel X 0 0 rfl
      have x1 := s9.cel X 0 1 rfl
      have x2 := s9.cel X 0 2 rfl
      have x3 := s9.cel X 0 3 rfl
      have x4 := s9.cel X 0 4 rfl
      have x5 := s9.cel X 0 5 rfl
      have x6 := s9.cel X 0 6 rfl
      have x7 := s9.cel X 0 7 rfl
      have x8 := s9.cel X 0 8 rfl
      simp only [Nat.zero_add] at x0 x1 x2 x3 x4 x5 x6 x7 x8
      have y0 := s9.cel Y 0 0 rfl
      have y1 := s9.cel Y 0 1 rfl
      simp only [Nat.zero_add] at y0 y1
      go_wp2_with fail
      refine c_qReturn q s9 hok9.out HD h1 hHDb hb1 ?_
      intro w10 r10 l10 hm10 hz10 hl10 s10
      obtain rfl := hl10.none rfl
      have x0 := s10.cel X 0 0 rfl
      have x1 := s10.cel X 0 1 rfl
      have x2 := s10.cel X 0 2 rfl
      have x3 := s10.cel X 0 3 rfl
      have x4 := s10.cel X 0 4 rfl
      have x5 := s10.cel X 0 5 rfl
      have x6 := s10.cel X 0 6 rfl
      have x7 := s10.cel X 0 7 rfl
      have x8 := s10.cel X 0 8 rfl
      simp only [Nat.zero_add] at x0 x1 x2 x3 x4 x5 x6 x7 x8
      have y0 := s10.cel Y 0 0 rfl
      have y1 := s10.cel Y 0 1 rfl
      simp only [Nat.zero_add] at y0 y1
      replace hm10 := aside hm10
      replace hz10 := aside hz10
      clear s9 hl10
      go_wp2_with fail
      refine c_refQReturn q s10 rm.out (by omega) (by omega) hok.out HD h1 hHDb hb1 ?_
      intro w11 H11 B11 n11 c11 le11 rm11 s11
      obtain ⟨q1, hq1⟩ : ∃ q1, q.ret = q1 := ⟨_, rfl⟩
      rw [hq1] at s11 ⊢
      have hk1 : QuM.Kin q q1 := hq1 ▸ (QuM.Kin.refl q).ret
      have hok1 := aside (show q1.okP 8192 from hk1.okP.2 hok.out)
      have hok10 := aside (show q1.okP r10.size by rw [hz10.out, hz.out]; exact hok1.out)
      have rmx := aside (rm.out.mono le11)
      have sz := (s11.alloc (c := [.int .u64 0, .slice none 0 0]) (t := 32)).alloc (c := [.int .i64 0, .int .u64 0, .int .u64 0, .int .u64 0, .bool false, .int .i64 0, .int .i64 0, .bool false, .bool false]) (t := 27)
      obtain ⟨T, hT⟩ : ∃ T, w11.heap.size = T := ⟨_, rfl⟩
      obtain ⟨T2, hT2⟩ : ∃ y, T + 1 = y := ⟨_, rfl⟩
      simp only [World.size_alloc, hT, hT2] at sz
      have s2bq0 := sz.cel T 0 0 rfl
      have s2bt0 := (sz.pc T 0).s0 (.int .u64 8192)
      have s2bq1 := s2bt0.c 1 rfl
      have s2b := s2bt0.s 1 (by simp) (.slice B11 n11 c11)
      simp only [List.set_cons_succ, List.set_cons_zero, Nat.zero_add] at s2b s2bq0 s2bq1
      have s12q0 := s2b.cel T2 0 0 rfl
      have s12t0 := (s2b.pc T2 0).s0 (.int .i64 q1.n)
      have s12q1 := s12t0.c 1 rfl
      have s12t1 := s12t0.s 1 (by simp) (.int .u64 q1.d)
      have s12q2 := s12t1.c 2 rfl
      have s12t2 := s12t1.s 2 (by simp) (.int .u64 q1.a)
      have s12q3 := s12t2.c 3 rfl
      have s12t3 := s12t2.s 3 (by simp) (.int .u64 q1.u)
      have s12q4 := s12t3.c 4 rfl
      have s12t4 := s12t3.s 4 (by simp) (.bool q1.rdy)
      have s12q5 := s12t4.c 5 rfl
      have s12t5 := s12t4.s 5 (by simp) (.int .i64 q1.fet)
      have s12q6 := s12t5.c 6 rfl
      have s12t6 := s12t5.s 6 (by simp) (.int .i64 q1.us)
      have s12q7 := s12t6.c 7 rfl
      have s12t7 := s12t6.s 7 (by simp) (.bool q1.ev)
      have s12q8 := s12t7.c 8 rfl
      have s12 := s12t7.s 8 (by simp) (.bool q1.ind)
      simp only [List.set_cons_succ, List.set_cons_zero, Nat.zero_add] at s12 s12q0 s12q1 s12q2 s12q3 s12q4 s12q5 s12q6 s12q7 s12q8
      replace rm11 := aside rm11
      replace hk1 := aside hk1
      replace hq1 := aside hq1
      clear s10 le11 x0 x1 x2 x3 x4 x5 x6 x7 x8 y0 y1
      go_wp2
      generalize hW3 : World.setCell _ ⟨T2, 8, none⟩ _ = w13 at s12 ⊢
      clear hW3 s11 sz s2b
      have s14 : Sat W w13 H11 (cellsH ⟨Q8, 0, none⟩ q1.vals :: (ramL ⟨b, 0, none⟩ (r10, none) ++ (ramL ⟨cp, 0, none⟩ (r6, none) ++ (cellsH ⟨T2, 0, none⟩ [.int .i64 q1.n, .int .u64 q1.d, .int .u64 q1.a, .int .u64 q1.u, .bool q1.rdy, .int .i64 q1.fet, .int .i64 q1.us, .bool q1.ev, .bool q1.ind] :: cellsH ⟨T, 0, none⟩ [.int .u64 8192, .slice B11 n11 c11] :: cellsH ⟨Y, 0, none⟩ [.int .u64 8192, .slice B n2 c2] :: [])))) := s12.wk
      have sd := s14.drew
      obtain ⟨TE, hTE⟩ : ∃ y, tellsP q1 8192 r10.mem FR = y := ⟨_, rfl⟩
      have hTE1 := aside (show tellsP q1 r10.size r10.mem FR = TE by rw [hz10.out, hz.out]; exact hTE)
      have hTE2 := aside (show tellsP q1 8192 (retM q r.mem HD h1) FR = TE by rw [← hm10.out]; exact hTE)
      have hte : (TE != TE) = false := by simp
      replace hTE := aside hTE
      have gd := (And.intro ((sd.cel Q8 0 0 rfl).1) (And.intro ((sd.cel Q8 0 1 rfl).1) (And.intro ((sd.cel Q8 0 2 rfl).1) (And.intro ((sd.cel Q8 0 3 rfl).1) (And.intro ((sd.cel Q8 0 4 rfl).1) (And.intro ((sd.cel Q8 0 5 rfl).1) (And.intro ((sd.cel Q8 0 6 rfl).1) (And.intro ((sd.cel Q8 0 7 rfl).1) (And.intro ((sd.cel Q8 0 8 rfl).1) (And.intro ((sd.cel T2 0 0 rfl).1) (And.intro ((sd.cel T2 0 1 rfl).1) (And.intro ((sd.cel T2 0 2 rfl).1) (And.intro ((sd.cel T2 0 3 rfl).1) (And.intro ((sd.cel T2 0 4 rfl).1) (And.intro ((sd.cel T2 0 5 rfl).1) (And.intro ((sd.cel T2 0 6 rfl).1) (And.intro ((sd.cel T2 0 7 rfl).1) (And.intro ((sd.cel T2 0 8 rfl).1) (And.intro ((sd.cel T 0 0 rfl).1) ((sd.cel T 0 1 rfl).1))))))))))))))))))))
      simp only [Nat.zero_add, Nat.add_zero] at gd
      clear s12 s12q0 s12q1 s12q2 s12q3 s12q4 s12q5 s12q6 s12q7 s12q8 s12t0 s12t1 s12t2 s12t3 s12t4 s12t5 s12t6 s12t7 s2bq0 s2bq1 s2bt0
      go_region_held3 (fun w' => w'.cell? ⟨Q8, 0, none⟩ = some (.int .i64 q1.n) ∧ w'.cell? ⟨Q8, 1, none⟩ = some (.int .u64 q1.d) ∧ w'.cell? ⟨Q8, 2, none⟩ = some (.int .u64 q1.a) ∧ w'.cell? ⟨Q8, 3, none⟩ = some (.int .u64 q1.u) ∧ w'.cell? ⟨Q8, 4, none⟩ = some (.bool q1.rdy) ∧ w'.cell? ⟨Q8, 5, none⟩ = some (.int .u16 q1.fet) ∧ w'.cell? ⟨Q8, 6, none⟩ = some (.int .u16 q1.us) ∧ w'.cell? ⟨Q8, 7, none⟩ = some (.bool q1.ev) ∧ w'.cell? ⟨Q8, 8, none⟩ = some (.bool q1.ind) ∧ w'.cell? ⟨T2, 0, none⟩ = some (.int .i64 q1.n) ∧ w'.cell? ⟨T2, 1, none⟩ = some (.int .u64 q1.d) ∧ w'.cell? ⟨T2, 2, none⟩ = some (.int .u64 q1.a) ∧ w'.cell? ⟨T2, 3, none⟩ = some (.int .u64 q1.u) ∧ w'.cell? ⟨T2, 4, none⟩ = some (.bool q1.rdy) ∧ w'.cell? ⟨T2, 5, none⟩ = some (.int .i64 q1.fet) ∧ w'.cell? ⟨T2, 6, none⟩ = some (.int .i64 q1.us) ∧ w'.cell? ⟨T2, 7, none⟩ = some (.bool q1.ev) ∧ w'.cell? ⟨T2, 8, none⟩ = some (.bool q1.ind) ∧ w'.cell? ⟨T, 0, none⟩ = some (.int .u64 8192) ∧ w'.cell? ⟨T, 1, none⟩ = some (.slice B11 n11 c11))
        (first | with_reducible exact gd | with_reducible exact gA | with_reducible exact gB | with_reducible exact gC)
        (first
          | (go_at_call 36; have hs := sB; with_reducible (refine c_refQTells q1 hs rm11.out (by omega) (by omega) FR hFRb (fun _ => hok1.out) ?_); rw [hTE2.out]; intro wC sC
             have gC := (And.intro ((sC.cel Q8 0 0 rfl).1) (And.intro ((sC.cel Q8 0 1 rfl).1) (And.intro ((sC.cel Q8 0 2 rfl).1) (And.intro ((sC.cel Q8 0 3 rfl).1) (And.intro ((sC.cel Q8 0 4 rfl).1) (And.intro ((sC.cel Q8 0 5 rfl).1) (And.intro ((sC.cel Q8 0 6 rfl).1) (And.intro ((sC.cel Q8 0 7 rfl).1) (And.intro ((sC.cel Q8 0 8 rfl).1) (And.intro ((sC.cel T2 0 0 rfl).1) (And.intro ((sC.cel T2 0 1 rfl).1) (And.intro ((sC.cel T2 0 2 rfl).1) (And.intro ((sC.cel T2 0 3 rfl).1) (And.intro ((sC.cel T2 0 4 rfl).1) (And.intro ((sC.cel T2 0 5 rfl).1) (And.intro ((sC.cel T2 0 6 rfl).1) (And.intro ((sC.cel T2 0 7 rfl).1) (And.intro ((sC.cel T2 0 8 rfl).1) (And.intro ((sC.cel T 0 0 rfl).1) ((sC.cel T 0 1 rfl).1))))))))))))))))))))
             simp only [Nat.zero_add, Nat.add_zero] at gC
             have arm : True := trivial)
          | (go_at_call 35; have hs := sA; with_reducible (refine c_qTells q1 hs FR hFRb (fun _ => hok10.out) ?_); rw [hTE1.out]; intro wB lB hlB sB0
             obtain rfl := hlB.none rfl
             have sB := sB0
             have gB := (And.intro ((sB.cel Q8 0 0 rfl).1) (And.intro ((sB.cel Q8 0 1 rfl).1) (And.intro ((sB.cel Q8 0 2 rfl).1) (And.intro ((sB.cel Q8 0 3 rfl).1) (And.intro ((sB.cel Q8 0 4 rfl).1) (And.intro ((sB.cel Q8 0 5 rfl).1) (And.intro ((sB.cel Q8 0 6 rfl).1) (And.intro ((sB.cel Q8 0 7 rfl).1) (And.intro ((sB.cel Q8 0 8 rfl).1) (And.intro ((sB.cel T2 0 0 rfl).1) (And.intro ((sB.cel T2 0 1 rfl).1) (And.intro ((sB.cel T2 0 2 rfl).1) (And.intro ((sB.cel T2 0 3 rfl).1) (And.intro ((sB.cel T2 0 4 rfl).1) (And.intro ((sB.cel T2 0 5 rfl).1) (And.intro ((sB.cel T2 0 6 rfl).1) (And.intro ((sB.cel T2 0 7 rfl).1) (And.intro ((sB.cel T2 0 8 rfl).1) (And.intro ((sB.cel T 0 0 rfl).1) ((sB.cel T 0 1 rfl).1))))))))))))))))))))
             simp only [Nat.zero_add, Nat.add_zero] at gB
             have arm : True := trivial)
          | (go_at_call 15; with_reducible (refine c_lawOf q1 sd ?_); intro wA sA
             have gA := (And.intro ((sA.cel Q8 0 0 rfl).1) (And.intro ((sA.cel Q8 0 1 rfl).1) (And.intro ((sA.cel Q8 0 2 rfl).1) (And.intro ((sA.cel Q8 0 3 rfl).1) (And.intro ((sA.cel Q8 0 4 rfl).1) (And.intro ((sA.cel Q8 0 5 rfl).1) (And.intro ((sA.cel Q8 0 6 rfl).1) (And.intro ((sA.cel Q8 0 7 rfl).1) (And.intro ((sA.cel Q8 0 8 rfl).1) (And.intro ((sA.cel T2 0 0 rfl).1) (And.intro ((sA.cel T2 0 1 rfl).1) (And.intro ((sA.cel T2 0 2 rfl).1) (And.intro ((sA.cel T2 0 3 rfl).1) (And.intro ((sA.cel T2 0 4 rfl).1) (And.intro ((sA.cel T2 0 5 rfl).1) (And.intro ((sA.cel T2 0 6 rfl).1) (And.intro ((sA.cel T2 0 7 rfl).1) (And.intro ((sA.cel T2 0 8 rfl).1) (And.intro ((sA.cel T 0 0 rfl).1) ((sA.cel T 0 1 rfl).1))))))))))))))))))))
             simp only [Nat.zero_add, Nat.add_zero] at gA
             have arm : True := trivial))
      clear gd gA gB gC sA sB0 sB sd s14 hte hTE1 hTE2
      generalize World.drew _ = wX at *
      go_wp2_with fail
      refine c_qAsk q1 sC (fun _ => hok10.out) ?_
      intro w16 r16 l16 hm16 hz16 hl16 s16
      obtain rfl := hl16.none rfl
      have x0 := s16.cel T2 0 0 rfl
      have x1 := s16.cel T2 0 1 rfl
      have x2 := s16.cel T2 0 2 rfl
      have x3 := s16.cel T2 0 3 rfl
      have x4 := s16.cel T2 0 4 rfl
      have x5 := s16.cel T2 0 5 rfl
      have x6 := s16.cel T2 0 6 rfl
      have x7 := s16.cel T2 0 7 rfl
      have x8 := s16.cel T2 0 8 rfl
      simp only [Nat.zero_add] at x0 x1 x2 x3 x4 x5 x6 x7 x8
      have t0 := s16.cel T 0 0 rfl
      have t1 := s16.cel T 0 1 rfl
      simp only [Nat.zero_add] at t0 t1
      replace hm16 := aside hm16
      replace hz16 := aside hz16
      clear sC hl16
      go_wp2_with fail
      refine c_refQAsk q1 s16 rm11.out (by omega) (by omega) (fun _ => hok1.out) ?_
      intro w17 H17 B17 n17 c17 le17 rm17 s17
      have s18q0 := s17.cel T 0 0 rfl
      have s18t0 := (s17.pc T 0).s0 (.int .u64 8192)
      have s18q1 := s18t0.c 1 rfl
      have s18 := s18t0.s 1 (by simp) (.slice B17 n17 c17)
      simp only [List.set_cons_succ, List.set_cons_zero, Nat.zero_add] at s18 s18q0 s18q1
      clear x0 x1 x2 x3 x4 x5 x6 x7 x8 t0 t1
      go_wp2
      obtain ⟨A2, hA2⟩ : ∃ y, askM q1 (retM q r.mem HD h1) = y := ⟨_, rfl⟩
      rw [hA2] at rm17
      have hm2 : r16.mem = A2 := by rw [hm16.out, hm10.out]; exact hA2
      have hz2 : r16.size = 8192 := hz16.out.trans (hz10.out.trans hz.out)
      have hz5 : r6.size = 8192 := hz6.out.trans hz.out
      have hrng := aside (RamG.rng (d := r6) (o := r16) (by rw [hz2, hz5]))
      rw [show r6.mem = r.mem from hm6.out, hm2, hz5] at hrng
      have hsz := aside (show r16.size = r6.size by rw [hz2, hz5])
      have hdif := aside (show difR r6 r16 5000 = difL 5000 (dfrom r.mem A2 2147483648 (8192 : Int).toNat) [] by unfold difR; rw [hm6.out, hm2, hz5])
      have rmy := aside (rmx.out.mono le17)
      replace rm17 := aside rm17
      clear hm2 hz2 hz5 le17
      replace hA2 := aside hA2
      generalize hW3 : World.setCell _ ⟨T, 1, none⟩ _ = w18 at s18 ⊢
      clear hW3 s17 s16 s18q0 s18q1 s18t0
      have s19 : Sat W w18 H17 (ramL ⟨cp, 0, none⟩ (r6, none) ++ (ramL ⟨b, 0, none⟩ (r16, none) ++ (cellsH ⟨T, 0, none⟩ [.int .u64 8192, .slice B17 n17 c17] :: cellsH ⟨Y, 0, none⟩ [.int .u64 8192, .slice B n2 c2] :: cellsH ⟨Q8, 0, none⟩ q1.vals :: []))) := s18.wk
      have sd := s19.drew
      have gd := (And.intro ((sd.cel T 0 0 rfl).1) (And.intro ((sd.cel T 0 1 rfl).1) (And.intro ((sd.cel Y 0 0 rfl).1) ((sd.cel Y 0 1 rfl).1))))
      simp only [Nat.zero_add, Nat.add_zero] at gd
      clear s18
      go_region_held3 (fun w' => w'.cell? ⟨T, 0, none⟩ = some (.int .u64 8192) ∧ w'.cell? ⟨T, 1, none⟩ = some (.slice B17 n17 c17) ∧ w'.cell? ⟨Y, 0, none⟩ = some (.int .u64 8192) ∧ w'.cell? ⟨Y, 1, none⟩ = some (.slice B n2 c2))
        (first | with_reducible exact gd | with_reducible exact gA | with_reducible exact gB | with_reducible exact gC)
        (first
          | (go_at_call 39; have hs := sB; (refine c_Same (h1 := hA) (h2 := hB) (Sat.pull (h := hA) hs).head (Sat.pull (h := hB) hs).head rdA.out rdB.out ?_); intro n20
             have s20 := hs.drewN n20
             have gC := (And.intro ((s20.cel T 0 0 rfl).1) (And.intro ((s20.cel T 0 1 rfl).1) (And.intro ((s20.cel Y 0 0 rfl).1) ((s20.cel Y 0 1 rfl).1))))
             simp only [Nat.zero_add, Nat.add_zero] at gC
             have arm : True := trivial)
          | (go_at_call 40; have hs := sA; with_reducible (refine c_refDiffer hs rmy.out rm17.out (by omega) (by omega) (by omega) hrng.out 5000 (by omega) ?_); intro wB vB hB ownB sB
             have ownBr := ownB.rdS
             obtain ⟨AB, cB, rfl, rdB⟩ := ownBr.open_
             replace rdB := aside rdB
             have gB := (And.intro ((sB.cel T 0 0 rfl).1) (And.intro ((sB.cel T 0 1 rfl).1) (And.intro ((sB.cel Y 0 0 rfl).1) ((sB.cel Y 0 1 rfl).1))))
             simp only [Nat.zero_add, Nat.add_zero] at gB
             have arm : True := trivial)
          | (go_at_call 32; have hs := sd; with_reducible (refine c_ramDiffer hs hsz.out 5000 (by omega) ?_); intro wA vA hA ownA sA
             rw [hdif.out] at ownA
             have ownAr := ownA.rdS
             obtain ⟨AA, cA, rfl, rdA⟩ := ownAr.open_
             replace rdA := aside rdA
             have gA := (And.intro ((sA.cel T 0 0 rfl).1) (And.intro ((sA.cel T 0 1 rfl).1) (And.intro ((sA.cel Y 0 0 rfl).1) ((sA.cel Y 0 1 rfl).1))))
             simp only [Nat.zero_add, Nat.add_zero] at gA
             have arm : True := trivial))
      have s21 : Sat W _ H17 (cellsH ⟨Q8, 0, none⟩ q1.vals :: []) := s20.wk
      clear gd gA gB gC sA sB sd s19 s20
      go_wp2_with fail
      refine c_qReset q1 s21 ?_
      intro w22 s22
      simp only [zeroQ] at s22
      have x0 := s22.cel Q8 0 0 rfl
      have x1 := s22.cel Q8 0 1 rfl
      have x2 := s22.cel Q8 0 2 rfl
      have x3 := s22.cel Q8 0 3 rfl
      have x4 := s22.cel Q8 0 4 rfl
      have x5 := s22.cel Q8 0 5 rfl
      have x6 := s22.cel Q8 0 6 rfl
      have x7 := s22.cel Q8 0 7 rfl
      have x8 := s22.cel Q8 0 8 rfl
      simp only [Nat.zero_add] at x0 x1 x2 x3 x4 x5 x6 x7 x8
      clear s21
      go_wp2
      go_ret
      exact ⟨by simp, hX ▸ s22.below⟩
    · have hne : (CK != 0) = true := by simp [hc0]
      have s4 := s5
      replace hCK := aside hCK
      go_wp2
      go_ret
      exact ⟨rfl, hX ▸ s4.below⟩
  · rw [decide_eq_false hr]
    clear hr
    go_wp2
    go_ret
    exact ⟨rfl, hX ▸ s4.below⟩
end Go.Proofs.Ytiibiamobkhlbaa
