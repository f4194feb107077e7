/-
  QueueFetches returns true for every memory and queue; no condition.
-/
import Derived.Test.YtippipfogbgemaaG7
import Derived.Test.YtippipfogbgemaaGA
import Derived.Test.YtippipfogbgemaaG6
import Derived.Deep.RegionHeld3
import Derived.Laws.StructEq
set_option linter.unusedVariables false
set_option linter.unusedSimpArgs false
namespace Go.Proofs.Ytippipfogbgemaa
open Go.RowKit
set_option linter.unusedVariables false
set_option linter.unusedSimpArgs false

theorem fetchP_hd (q : QuM) (size : Int) {m : Int → Int} (hm : ∀ a, 0 ≤ m a ∧ m a ≤ 255) : 0 ≤ (fetchP q size m).hd ∧ (fetchP q size m).hd ≤ 65535 ∧ (if 0 < (fetchP q size m).hdD then (fetchP q size m).hdD else 0) = (fetchP q size m).hd := by
  unfold fetchP
  by_cases h1 : q.rdy = false
  · rw [if_pos h1]; simp [FetchR.none, FetchR.hdD]
  rw [if_neg h1]
  by_cases h2 : chk size q.n q.d q.a q.u ≠ 0
  · rw [if_pos h2]; simp [FetchR.none, FetchR.hdD]
  rw [if_neg h2]
  by_cases h3 : offerN q size m = 0
  · rw [if_pos h3]; simp [FetchR.none, FetchR.hdD]
  rw [if_neg h3]
  by_cases h4 : q.n < offerN q size m
  · rw [if_pos h4]; simp [FetchR.none, FetchR.hdD]
  rw [if_neg h4]
  have := hw_bd hm size (q.a + 4 + 2 * (q.fet % q.n))
  simp only [FetchR.hdD, if_true]
  unfold headP
  refine ⟨this.1, this.2, ?_⟩
  split <;> omega

set_option maxRecDepth 100000 in
set_option maxHeartbeats 4000000 in
theorem law_QueueFetches (W : World) {v0 : Value} {ps : List PutM} {cs1 : Array Value} {o : QueD} (e0 : sliceE putE 2 (look W) ps [v0]) (e1 : queE (look W) o cs1.toList) :
    Calls Try.prog 12 #[v0, .agg cs1] W fun e w' => e = .returned (.bool true) ∧ Below W.heap.size W w' := by
  obtain ⟨_, hv0, e0⟩ := e0
  obtain rfl := (List.cons.inj hv0).1
  clear hv0
  replace e0 : Rd putE 2 (look W) v0 ps := e0
  obtain rfl : cs1 = (o.vals).toArray := by apply Array.ext'; simpa [queE] using e1
  clear e1
  obtain ⟨⟨n, d, a, u, hn, hd, ha, hu⟩, rdy, fet, us, ev, ind, hfet, hus⟩ := o
  simp only [QueD.vals, LayM.vals, List.cons_append, List.nil_append] at *
  have s0 := (Sat.start W).alloc (c := [.int .i64 n, .int .u64 d, .int .u64 a, .int .u64 u, .bool rdy, .int .i64 fet, .int .i64 us, .bool ev, .bool ind]) (t := 106)
  obtain ⟨X, hX⟩ : ∃ X, W.heap.size = X := ⟨_, rfl⟩
  rw [hX] at s0
  replace e0 := aside e0
  go_enter Try.func12, Try.ntmps12
  go_wp2_with fail
  refine c_queueAwake s0 ?_
  intro w1 H1 le1 s1
  clear s0
  go_wp2_with fail
  refine c_Memory s1 (e0.out.mono putE_mono le1) ?_ ?_
  · intro w2 H2 v2 m2 le2 r2 s2
    obtain ⟨B, n2, c, rfl⟩ := r2.shapeM
    have s3 := s2.alloc (c := [.int .u64 8192, .slice B n2 c]) (t := 28)
    clear s1
    go_wp2
    go_ret
    exact ⟨rfl, hX ▸ s3.below⟩
  intro w2 H2 v2 b r le2 hz rm s2
  obtain ⟨B, n2, c2, rfl⟩ := rm.shapeM
  have s3 := s2.alloc (c := [.int .u64 8192, .slice B n2 c2]) (t := 28)
  obtain ⟨Y, hY⟩ : ∃ Y, w2.heap.size = Y := ⟨_, rfl⟩
  rw [hY] at s3
  have x0 := s3.cel X 0 0 rfl
  have x1 := s3.cel X 0 1 rfl
  have x2 := s3.cel X 0 2 rfl
  have x3 := s3.cel X 0 3 rfl
  have x4 := s3.cel X 0 4 rfl
  have x5 := s3.cel X 0 5 rfl
  have x6 := s3.cel X 0 6 rfl
  have x7 := s3.cel X 0 7 rfl
  have x8 := s3.cel X 0 8 rfl
  simp only [Nat.zero_add] at x0 x1 x2 x3 x4 x5 x6 x7 x8
  replace rm := aside rm
  replace hz := aside hz
  clear s1 s2 le1 le2
  go_wp2_with fail
  refine c_lawRight n d a u fet us rdy ev ind s3 ?_
  intro w4 s4
  clear s3
  by_cases hr : (0 ≤ fet ∧ fet < 65536) ∧ 0 ≤ us ∧ us < 65536
  · rw [decide_eq_true hr]
    obtain ⟨q, rfl, rfl, rfl, rfl, rfl, rfl, rfl, rfl, rfl⟩ : ∃ q : QuM, q.n = n ∧ q.d = d ∧ q.a = a ∧ q.u = u ∧ q.rdy = rdy ∧ q.fet = fet ∧ q.us = us ∧ q.ev = ev ∧ q.ind = ind := ⟨⟨n, d, a, u, rdy, fet, us, ev, ind, hn, hd, ha, hu, by omega, by omega⟩, rfl, rfl, rfl, rfl, rfl, rfl, rfl, rfl, rfl⟩
    clear hn hd ha hu hfet hus x0 x1 x2 x3 x4 x5 x6 x7 x8
    replace hr := aside hr
    go_wp2_with fail
    refine c_ramCopy s4 ?_
    intro w5 cp r5 hz5 hm5 s5
    have x0 := s5.cel X 0 0 rfl
    have x1 := s5.cel X 0 1 rfl
    have x2 := s5.cel X 0 2 rfl
    have x3 := s5.cel X 0 3 rfl
    have x4 := s5.cel X 0 4 rfl
    have x5 := s5.cel X 0 5 rfl
    have x6 := s5.cel X 0 6 rfl
    have x7 := s5.cel X 0 7 rfl
    have x8 := s5.cel X 0 8 rfl
    simp only [Nat.zero_add] at x0 x1 x2 x3 x4 x5 x6 x7 x8
    replace hz5 := aside hz5
    replace hm5 := aside hm5
    clear s4
    go_wp2_with fail
    refine c_lawOf q s5 ?_
    intro w6 s6
    have s7 := s6.alloc (c := q.vals) (t := 111)
    obtain ⟨Q8, hQ8⟩ : ∃ Q8, w6.heap.size = Q8 := ⟨_, rfl⟩
    rw [hQ8] at s7
    have s8 : Sat W _ H2 (cellsH ⟨Q8, 0, none⟩ q.vals :: (ramL ⟨b, 0, none⟩ (r, none) ++ (ramL ⟨cp, 0, none⟩ (r5, none) ++ (cellsH ⟨Y, 0, none⟩ [.int .u64 8192, .slice B n2 c2] :: cellsH ⟨X, 0, none⟩ [.int .i64 q.n, .int .u64 q.d, .int .u64 q.a, .int .u64 q.u, .bool q.rdy, .int .i64 q.fet, .int .i64 q.us, .bool q.ev, .bool q.ind] :: [])))) := s7.wk
    clear s5 s6 s7 x0 x1 x2 x3 x4 x5 x6 x7 x8
    go_wp2_with fail
    refine c_qFetch q s8 ?_
    intro f hf w9 B9 n9 c9 h9 l9 own9 hl9 s9
    obtain rfl := hl9.none rfl
    rw [hz.out] at hf
    have hfh := fetchP_hd q 8192 r.hmem
    rw [hf] at hfh
    have rd9 := aside own9.rdG
    have s10 := s9.alloc (c := [.int .u16 f.hd, .slice B9 n9 c9, .int .u64 f.ta, .int .u64 f.tl]) (t := 129)
    obtain ⟨V, hV⟩ : ∃ V, w9.heap.size = V := ⟨_, rfl⟩
    rw [hV] at s10
    have x0 := s10.cel X 0 0 rfl
    have x1 := s10.cel X 0 1 rfl
    have x2 := s10.cel X 0 2 rfl
    have x3 := s10.cel X 0 3 rfl
    have x4 := s10.cel X 0 4 rfl
    have x5 := s10.cel X 0 5 rfl
    have x6 := s10.cel X 0 6 rfl
    have x7 := s10.cel X 0 7 rfl
    have x8 := s10.cel X 0 8 rfl
    simp only [Nat.zero_add] at x0 x1 x2 x3 x4 x5 x6 x7 x8
    have y0 := s10.cel Y 0 0 rfl
    have y1 := s10.cel Y 0 1 rfl
    simp only [Nat.zero_add] at y0 y1
    replace hf := aside hf
    replace hfh := aside hfh
    clear s8 s9 own9 hl9
    go_wp2_with fail
    refine c_refQFetch q s10 rm.out (by omega) (by omega) ?_
    intro f2 hf2 w11 B11 n11 c11 h11 own11 s11
    obtain rfl : f = f2 := hf.out.symm.trans hf2
    have rd11 := aside own11.rdG
    have sz := (s11.alloc (c := [.int .i64 0, .int .u64 0, .int .u64 0, .int .u64 0, .bool false, .int .i64 0, .int .i64 0, .bool false, .bool false]) (t := 106)).alloc (c := [.slice none 0 0, .int .u64 0, .int .u64 0]) (t := 60)
    obtain ⟨P, hP⟩ : ∃ P, w11.heap.size = P := ⟨_, rfl⟩
    obtain ⟨P2, hP2⟩ : ∃ y, P + 1 = y := ⟨_, rfl⟩
    simp only [World.size_alloc, hP, hP2] at sz
    have s12q0 := sz.cel P 0 0 rfl
    have s12t0 := (sz.pc P 0).s0 (.int .i64 f.q.n)
    have s12q1 := s12t0.c 1 rfl
    have s12t1 := s12t0.s 1 (by simp) (.int .u64 f.q.d)
    have s12q2 := s12t1.c 2 rfl
    have s12t2 := s12t1.s 2 (by simp) (.int .u64 f.q.a)
    have s12q3 := s12t2.c 3 rfl
    have s12t3 := s12t2.s 3 (by simp) (.int .u64 f.q.u)
    have s12q4 := s12t3.c 4 rfl
    have s12t4 := s12t3.s 4 (by simp) (.bool f.q.rdy)
    have s12q5 := s12t4.c 5 rfl
    have s12t5 := s12t4.s 5 (by simp) (.int .i64 f.q.fet)
    have s12q6 := s12t5.c 6 rfl
    have s12t6 := s12t5.s 6 (by simp) (.int .i64 f.q.us)
    have s12q7 := s12t6.c 7 rfl
    have s12t7 := s12t6.s 7 (by simp) (.bool f.q.ev)
    have s12q8 := s12t7.c 8 rfl
    have s12 := s12t7.s 8 (by simp) (.bool f.q.ind)
    simp only [List.set_cons_succ, List.set_cons_zero, Nat.zero_add] at s12 s12q0 s12q1 s12q2 s12q3 s12q4 s12q5 s12q6 s12q7 s12q8
    have s13q0 := s12.cel P2 0 0 rfl
    have s13t0 := (s12.pc P2 0).s0 (.slice B11 n11 c11)
    have s13q1 := s13t0.c 1 rfl
    have s13t1 := s13t0.s 1 (by simp) (.int .u64 f.ta)
    have s13q2 := s13t1.c 2 rfl
    have s13 := s13t1.s 2 (by simp) (.int .u64 f.tl)
    simp only [List.set_cons_succ, List.set_cons_zero, Nat.zero_add] at s13 s13q0 s13q1 s13q2
    clear x0 x1 x2 x3 x4 x5 x6 x7 x8 y0 y1 hf2 own11
    go_wp2
    generalize hW3 : World.setCell (World.setCell (World.setCell _ _ _) _ _) _ _ = w13 at s13 ⊢
    clear hW3 sz s12 s11 s10
    have hsr := aside (show sameR r r5 = true from sameR_iff.2 ⟨hz5.out.symm, by unfold RamG.eqv; rw [hm5.out]; intros; rfl⟩)
    have s14 : Sat W w13 H2 (ramL ⟨b, 0, none⟩ (r, none) ++ (ramL ⟨cp, 0, none⟩ (r5, none) ++ (cellsH ⟨P2, 0, none⟩ [.slice B11 n11 c11, .int .u64 f.ta, .int .u64 f.tl] :: cellsH ⟨P, 0, none⟩ [.int .i64 f.q.n, .int .u64 f.q.d, .int .u64 f.q.a, .int .u64 f.q.u, .bool f.q.rdy, .int .i64 f.q.fet, .int .i64 f.q.us, .bool f.q.ev, .bool f.q.ind] :: cellsH ⟨V, 0, none⟩ [.int .u16 f.hd, .slice B9 n9 c9, .int .u64 f.ta, .int .u64 f.tl] :: cellsH ⟨Q8, 0, none⟩ f.q.vals :: h9 :: h11 :: []))) := s13.wk
    have sd := s14.drew
    have gd := (And.intro ((sd.cel Q8 0 0 rfl).1) (And.intro ((sd.cel Q8 0 1 rfl).1) (And.intro ((sd.cel Q8 0 2 rfl).1) (And.intro ((sd.cel Q8 0 3 rfl).1) (And.intro ((sd.cel Q8 0 4 rfl).1) (And.intro ((sd.cel Q8 0 5 rfl).1) (And.intro ((sd.cel Q8 0 6 rfl).1) (And.intro ((sd.cel Q8 0 7 rfl).1) (And.intro ((sd.cel Q8 0 8 rfl).1) (And.intro ((sd.cel P 0 0 rfl).1) (And.intro ((sd.cel P 0 1 rfl).1) (And.intro ((sd.cel P 0 2 rfl).1) (And.intro ((sd.cel P 0 3 rfl).1) (And.intro ((sd.cel P 0 4 rfl).1) (And.intro ((sd.cel P 0 5 rfl).1) (And.intro ((sd.cel P 0 6 rfl).1) (And.intro ((sd.cel P 0 7 rfl).1) ((sd.cel P 0 8 rfl).1))))))))))))))))))
    simp only [Nat.zero_add, Nat.add_zero] at gd
    clear s13
    have e1 : (f.e != f.e) = false := by simp
    have e2 : (f.ok != f.ok) = false := by simp
    go_region_held3 (fun w' => w'.cell? ⟨Q8, 0, none⟩ = some (.int .i64 f.q.n) ∧ w'.cell? ⟨Q8, 1, none⟩ = some (.int .u64 f.q.d) ∧ w'.cell? ⟨Q8, 2, none⟩ = some (.int .u64 f.q.a) ∧ w'.cell? ⟨Q8, 3, none⟩ = some (.int .u64 f.q.u) ∧ w'.cell? ⟨Q8, 4, none⟩ = some (.bool f.q.rdy) ∧ w'.cell? ⟨Q8, 5, none⟩ = some (.int .u16 f.q.fet) ∧ w'.cell? ⟨Q8, 6, none⟩ = some (.int .u16 f.q.us) ∧ w'.cell? ⟨Q8, 7, none⟩ = some (.bool f.q.ev) ∧ w'.cell? ⟨Q8, 8, none⟩ = some (.bool f.q.ind) ∧ w'.cell? ⟨P, 0, none⟩ = some (.int .i64 f.q.n) ∧ w'.cell? ⟨P, 1, none⟩ = some (.int .u64 f.q.d) ∧ w'.cell? ⟨P, 2, none⟩ = some (.int .u64 f.q.a) ∧ w'.cell? ⟨P, 3, none⟩ = some (.int .u64 f.q.u) ∧ w'.cell? ⟨P, 4, none⟩ = some (.bool f.q.rdy) ∧ w'.cell? ⟨P, 5, none⟩ = some (.int .i64 f.q.fet) ∧ w'.cell? ⟨P, 6, none⟩ = some (.int .i64 f.q.us) ∧ w'.cell? ⟨P, 7, none⟩ = some (.bool f.q.ev) ∧ w'.cell? ⟨P, 8, none⟩ = some (.bool f.q.ind))
      (first | with_reducible exact gd | with_reducible exact g5 | with_reducible exact g6)
      (first
        | (go_at_call 18; with_reducible (refine c_ramSame s15 ?_); rw [hsr.out]; intro w16 s16
           have g6 := (And.intro ((s16.cel Q8 0 0 rfl).1) (And.intro ((s16.cel Q8 0 1 rfl).1) (And.intro ((s16.cel Q8 0 2 rfl).1) (And.intro ((s16.cel Q8 0 3 rfl).1) (And.intro ((s16.cel Q8 0 4 rfl).1) (And.intro ((s16.cel Q8 0 5 rfl).1) (And.intro ((s16.cel Q8 0 6 rfl).1) (And.intro ((s16.cel Q8 0 7 rfl).1) (And.intro ((s16.cel Q8 0 8 rfl).1) (And.intro ((s16.cel P 0 0 rfl).1) (And.intro ((s16.cel P 0 1 rfl).1) (And.intro ((s16.cel P 0 2 rfl).1) (And.intro ((s16.cel P 0 3 rfl).1) (And.intro ((s16.cel P 0 4 rfl).1) (And.intro ((s16.cel P 0 5 rfl).1) (And.intro ((s16.cel P 0 6 rfl).1) (And.intro ((s16.cel P 0 7 rfl).1) ((s16.cel P 0 8 rfl).1))))))))))))))))))
           simp only [Nat.zero_add, Nat.add_zero] at g6
           have arm : True := trivial)
        | (go_at_call 49; with_reducible (refine c_lawOf f.q sd ?_); intro w15 s15
           have g5 := (And.intro ((s15.cel Q8 0 0 rfl).1) (And.intro ((s15.cel Q8 0 1 rfl).1) (And.intro ((s15.cel Q8 0 2 rfl).1) (And.intro ((s15.cel Q8 0 3 rfl).1) (And.intro ((s15.cel Q8 0 4 rfl).1) (And.intro ((s15.cel Q8 0 5 rfl).1) (And.intro ((s15.cel Q8 0 6 rfl).1) (And.intro ((s15.cel Q8 0 7 rfl).1) (And.intro ((s15.cel Q8 0 8 rfl).1) (And.intro ((s15.cel P 0 0 rfl).1) (And.intro ((s15.cel P 0 1 rfl).1) (And.intro ((s15.cel P 0 2 rfl).1) (And.intro ((s15.cel P 0 3 rfl).1) (And.intro ((s15.cel P 0 4 rfl).1) (And.intro ((s15.cel P 0 5 rfl).1) (And.intro ((s15.cel P 0 6 rfl).1) (And.intro ((s15.cel P 0 7 rfl).1) ((s15.cel P 0 8 rfl).1))))))))))))))))))
           simp only [Nat.zero_add, Nat.add_zero] at g5
           have arm : True := trivial))
    all_goals
      clear gd g5 g6 sd s14 s15
      have c0 := s16.cel V 0 0 rfl
      have c1 := s16.cel V 0 1 rfl
      have c2 := s16.cel V 0 2 rfl
      have c3 := s16.cel V 0 3 rfl
      have p0 := s16.cel P2 0 0 rfl
      have p1 := s16.cel P2 0 1 rfl
      have p2 := s16.cel P2 0 2 rfl
      simp only [Nat.zero_add] at p0 p1 p2
      simp only [Nat.zero_add] at c0 c1 c2 c3
      obtain ⟨hh0, hh1, hh2⟩ := hfh.out
      obtain ⟨HD, hHD⟩ : ∃ y, f.hdD = y := ⟨_, rfl⟩
      rw [hHD] at hh2 ⊢
      have eh : IntKind.i64.wrap f.hd = f.hd := by simp [IntKind.wrap, IntKind.bits, IntKind.signed]; omega
      have em1 : (if HD < 0 then 0 else HD) = f.hd := by rw [← hh2]; split <;> split <;> omega
      have em2 : max HD 0 = f.hd := by rw [← hh2]; split <;> omega
      have hkk := aside (fun (w' : World) (t : Sat W w' H2 (ramL ⟨b, 0, none⟩ (r, none) ++ (ramL ⟨cp, 0, none⟩ (r5, none) ++ (cellsH ⟨P2, 0, none⟩ [.slice B11 n11 c11, .int .u64 f.ta, .int .u64 f.tl] :: cellsH ⟨P, 0, none⟩ [.int .i64 f.q.n, .int .u64 f.q.d, .int .u64 f.q.a, .int .u64 f.q.u, .bool f.q.rdy, .int .i64 f.q.fet, .int .i64 f.q.us, .bool f.q.ev, .bool f.q.ind] :: cellsH ⟨V, 0, none⟩ [.int .u16 f.hd, .slice B9 n9 c9, .int .u64 f.ta, .int .u64 f.tl] :: cellsH ⟨Q8, 0, none⟩ f.q.vals :: h9 :: h11 :: [])))) => (⟨h9, h11, (Sat.pull (h := h9) t).head, (Sat.pull (h := h11) t).head, rd9.out, rd11.out⟩ : ∃ h1 h2, Holds w' h1 ∧ Holds w' h2 ∧ Rd segE 3 h1 (.slice B9 n9 c9) f.segs ∧ Rd segE 3 h2 (.slice B11 n11 c11) f.segs))
      replace hHD := aside hHD
      go_wp2_with fail
      refine c_sameC s16 hkk.out ?_
      intro w17 s17
      go_wp2
      go_ret
      exact ⟨rfl, hX ▸ s17.below⟩
  · rw [decide_eq_false hr]
    clear hr
    go_wp2
    go_ret
    exact ⟨rfl, hX ▸ s4.below⟩
end Go.Proofs.Ytippipfogbgemaa
