/-
  QueueServes returns true for every memory, queue and device; no condition.
-/
import Derived.Test.YtippipfogbgemaaG7
import Derived.Test.YtippipfogbgemaaUDh
import Derived.Test.YtippipfogbgemaaUVar
import Derived.Test.YtippipfogbgemaaG6
import Derived.Test.YtippipfogbgemaaUWf
import Derived.Test.YtippipfogbgemaaUWh
import Derived.Test.YtippipfogbgemaaUWi
import Derived.Test.YtippipfogbgemaaUVss
import Derived.Deep.RegionHeld3
import Derived.Laws.StructEq
set_option linter.unusedVariables false
set_option linter.unusedSimpArgs false
namespace Go.Proofs.Ytippipfogbgemaa
open Go.RowKit
set_option linter.unusedVariables false
set_option linter.unusedSimpArgs false


set_option maxRecDepth 100000 in
set_option maxHeartbeats 4000000 in
theorem law_QueueServes (W : World) {v0 : Value} {ps : List PutM} {cs1 cs2 : Array Value} {o : QueD} {how : Int × Int} (e0 : sliceE putE 2 (look W) ps [v0]) (e1 : queE (look W) o cs1.toList) (e2 : pairE (look W) how cs2.toList) :
    Calls Try.prog 13 #[v0, .agg cs1, .agg cs2] W fun e w' => e = .returned (.bool true) ∧ Below W.heap.size W w' := by
  obtain ⟨_, hv0, e0⟩ := e0
  obtain rfl := (List.cons.inj hv0).1
  clear hv0
  replace e0 : Rd putE 2 (look W) v0 ps := e0
  obtain rfl : cs1 = (o.vals).toArray := by apply Array.ext'; simpa [queE] using e1
  clear e1
  obtain ⟨⟨n, d, a, u, hn, hd, ha, hu⟩, rdy, fet, us, ev, ind, hfet, hus⟩ := o
  obtain ⟨h0, h1⟩ := how
  obtain ⟨e2, hb0, hb1⟩ := e2
  obtain rfl : cs2 = #[.int .i64 h0, .int .i64 h1] := by apply Array.ext'; simpa using e2
  clear e2
  simp only [QueD.vals, LayM.vals, List.cons_append, List.nil_append] at *
  have s0 := ((Sat.start W).alloc (c := [.int .i64 n, .int .u64 d, .int .u64 a, .int .u64 u, .bool rdy, .int .i64 fet, .int .i64 us, .bool ev, .bool ind]) (t := 106)).alloc (c := [.int .i64 h0, .int .i64 h1]) (t := 136)
  obtain ⟨X, hX⟩ : ∃ X, W.heap.size = X := ⟨_, rfl⟩
  obtain ⟨X2, hX2⟩ : ∃ y, X + 1 = y := ⟨_, rfl⟩
  simp only [World.size_alloc, hX, hX2] at s0
  replace e0 := aside e0
  go_enter Try.func13, Try.ntmps13
  go_wp2_with fail
  refine c_queueAwake s0 ?_
  intro w1 H1 le1 s1
  clear s0
  go_wp2_with fail
  refine c_Memory s1 (e0.out.mono putE_mono le1) ?_ ?_
  · intro w2 H2 v2 m2 le2 r2 s2
    obtain ⟨B, n2, c, rfl⟩ := r2.shapeM
    have s3 := s2.alloc (c := [.int .u64 8192, .slice B n2 c]) (t := 28)
    clear s1
    go_wp2
    go_ret
    exact ⟨rfl, hX ▸ s3.below⟩
  intro w2 H2 v2 b r le2 hz rm s2
  obtain ⟨B, n2, c2, rfl⟩ := rm.shapeM
  have s3 := s2.alloc (c := [.int .u64 8192, .slice B n2 c2]) (t := 28)
  obtain ⟨Y, hY⟩ : ∃ Y, w2.heap.size = Y := ⟨_, rfl⟩
  rw [hY] at s3
  have x0 := s3.cel X 0 0 rfl
  have x1 := s3.cel X 0 1 rfl
  have x2 := s3.cel X 0 2 rfl
  have x3 := s3.cel X 0 3 rfl
  have x4 := s3.cel X 0 4 rfl
  have x5 := s3.cel X 0 5 rfl
  have x6 := s3.cel X 0 6 rfl
  have x7 := s3.cel X 0 7 rfl
  have x8 := s3.cel X 0 8 rfl
  simp only [Nat.zero_add] at x0 x1 x2 x3 x4 x5 x6 x7 x8
  replace rm := aside rm
  replace hz := aside hz
  clear s1 s2 le1 le2
  go_wp2_with fail
  refine c_lawRight n d a u fet us rdy ev ind s3 ?_
  intro w4 s4
  clear s3 x0 x1 x2 x3 x4 x5 x6 x7 x8
  have j0 := s4.cel X2 0 0 rfl
  have j1 := s4.cel X2 0 1 rfl
  simp only [Nat.zero_add] at j0 j1
  by_cases hr : (0 ≤ fet ∧ fet < 65536) ∧ 0 ≤ us ∧ us < 65536
  · rw [decide_eq_true hr]
    by_cases g0 : h0 < 0
    · skip
      go_wp2
      go_ret
      exact ⟨rfl, hX ▸ s4.below⟩
    by_cases g1 : 255 < h0
    · skip
      go_wp2
      go_ret
      exact ⟨rfl, hX ▸ s4.below⟩
    by_cases g2 : h1 < 0
    · skip
      go_wp2
      go_ret
      exact ⟨rfl, hX ▸ s4.below⟩
    by_cases g3 : 40 < h1
    · skip
      go_wp2
      go_ret
      exact ⟨rfl, hX ▸ s4.below⟩
    obtain ⟨q, rfl, rfl, rfl, rfl, rfl, rfl, rfl, rfl, rfl⟩ : ∃ q : QuM, q.n = n ∧ q.d = d ∧ q.a = a ∧ q.u = u ∧ q.rdy = rdy ∧ q.fet = fet ∧ q.us = us ∧ q.ev = ev ∧ q.ind = ind := ⟨⟨n, d, a, u, rdy, fet, us, ev, ind, hn, hd, ha, hu, by omega, by omega⟩, rfl, rfl, rfl, rfl, rfl, rfl, rfl, rfl, rfl⟩
    clear hn hd ha hu hfet hus
    replace hr := aside hr
    go_wp2_with fail
    refine c_ramCopy s4 ?_
    intro w5 cp r5 hz5 hm5 s5
    have x0 := s5.cel X 0 0 rfl
    have x1 := s5.cel X 0 1 rfl
    have x2 := s5.cel X 0 2 rfl
    have x3 := s5.cel X 0 3 rfl
    have x4 := s5.cel X 0 4 rfl
    have x5 := s5.cel X 0 5 rfl
    have x6 := s5.cel X 0 6 rfl
    have x7 := s5.cel X 0 7 rfl
    have x8 := s5.cel X 0 8 rfl
    simp only [Nat.zero_add] at x0 x1 x2 x3 x4 x5 x6 x7 x8
    replace hz5 := aside hz5
    replace hm5 := aside hm5
    clear s4 j0 j1
    go_wp2_with fail
    refine c_lawOf q s5 ?_
    intro w6 s6
    have s7 := s6.alloc (c := [.int .i64 q.n, .int .u64 q.d, .int .u64 q.a, .int .u64 q.u, .bool q.rdy, .int .u16 q.fet, .int .u16 q.us, .bool q.ev, .bool q.ind]) (t := 111)
    obtain ⟨Q8, hQ8⟩ : ∃ Q8, w6.heap.size = Q8 := ⟨_, rfl⟩
    rw [hQ8] at s7
    have s8 : Sat W _ H2 (cellsH ⟨Q8, 0, none⟩ [.int .i64 q.n, .int .u64 q.d, .int .u64 q.a, .int .u64 q.u, .bool q.rdy, .int .u16 q.fet, .int .u16 q.us, .bool q.ev, .bool q.ind] :: (ramL ⟨b, 0, none⟩ (r, none) ++ (ramL ⟨cp, 0, none⟩ (r5, none) ++ (cellsH ⟨Y, 0, none⟩ [.int .u64 8192, .slice B n2 c2] :: cellsH ⟨X2, 0, none⟩ [.int .i64 h0, .int .i64 h1] :: cellsH ⟨X, 0, none⟩ [.int .i64 q.n, .int .u64 q.d, .int .u64 q.a, .int .u64 q.u, .bool q.rdy, .int .i64 q.fet, .int .i64 q.us, .bool q.ev, .bool q.ind] :: [])))) := s7.wk
    have ew0 : IntKind.u8.wrap h0 = h0 := by rw [wrap_u8]; omega
    obtain ⟨room, hroom⟩ : ∃ k : Nat, h1 = k := ⟨h1.toNat, by omega⟩
    have hr100 : room ≤ 100 := by omega
    subst hroom
    have j0 := s8.cel X2 0 0 rfl
    have j1 := s8.cel X2 0 1 rfl
    simp only [Nat.zero_add] at j0 j1
    clear s5 s6 s7 x0 x1 x2 x3 x4 x5 x6 x7 x8
    go_wp2_with fail
    refine c_lawServe q h0 (by omega) room hr100 (show Sat W _ H2 (cellsH ⟨Q8, 0, none⟩ q.vals :: _) from s8) ?_
    intro f hf w9 H9 r9 l9 le9 hm9 hz9 hl9 s9
    obtain rfl := hl9.none rfl
    rw [hz.out] at hf hz9 ⊢
    have rm9 := aside (rm.out.mono le9)
    have x0 := s9.cel X 0 0 rfl
    have x1 := s9.cel X 0 1 rfl
    have x2 := s9.cel X 0 2 rfl
    have x3 := s9.cel X 0 3 rfl
    have x4 := s9.cel X 0 4 rfl
    have x5 := s9.cel X 0 5 rfl
    have x6 := s9.cel X 0 6 rfl
    have x7 := s9.cel X 0 7 rfl
    have x8 := s9.cel X 0 8 rfl
    simp only [Nat.zero_add] at x0 x1 x2 x3 x4 x5 x6 x7 x8
    have j0 := s9.cel X2 0 0 rfl
    have j1 := s9.cel X2 0 1 rfl
    simp only [Nat.zero_add] at j0 j1
    have y0 := s9.cel Y 0 0 rfl
    have y1 := s9.cel Y 0 1 rfl
    simp only [Nat.zero_add] at y0 y1
    replace hf := aside hf
    replace hm9 := aside hm9
    replace hz9 := aside hz9
    clear s8 hl9 le9
    go_wp2_with fail
    refine c_refQServe q s9 rm9.out (by omega) h0 (by omega) room hr100 (by omega) ?_
    intro f2 hf2 w11 H11 B11 n11 c11 HB hn11 hc11 le11 rm11 s11
    obtain rfl : f = f2 := hf.out.symm.trans hf2
    obtain ⟨TE, hTE⟩ : ∃ y, tellsP f.q 8192 (endM f.q f.e f.mem) q.us = y := ⟨_, rfl⟩
    rw [hTE]
    have hTE' := hTE
    have e0 : f.e = f.e := rfl
    obtain ⟨A2, hA2⟩ : ∃ y, endM f.q f.e f.mem = y := ⟨_, rfl⟩
    rw [hA2] at rm11 hm9
    have hrng := aside (RamG.rng (d := r5) (o := r9) (by rw [hz5.out, hz.out, hz9.out]))
    rw [show r5.mem = r.mem from hm5.out, show r9.mem = A2 from hm9.out, show r5.size = 8192 from hz5.out.trans hz.out] at hrng
    have hsz := aside (show r9.size = r5.size by rw [hz5.out, hz.out, hz9.out])
    have hdif := aside (show difR r5 r9 9000 = difL 9000 (dfrom r.mem A2 2147483648 (8192 : Int).toNat) [] by unfold difR; rw [hm5.out, hm9.out, hz5.out, hz.out])
    have rmx := aside (rm9.out.mono le11)
    have s12 := s11.alloc (c := [.int .u64 8192, .slice B11 n11 c11, .int .i64 f.q.n, .int .u64 f.q.d, .int .u64 f.q.a, .int .u64 f.q.u, .bool f.q.rdy, .int .i64 f.q.fet, .int .i64 f.q.us, .bool f.q.ev, .bool f.q.ind, .slice HB hn11 hc11, .bool TE, .int .i64 f.e]) (t := 141)
    obtain ⟨T, hT⟩ : ∃ T, w11.heap.size = T := ⟨_, rfl⟩
    rw [hT] at s12
    replace rm11 := aside rm11
    replace hTE := aside hTE
    clear hf2 x0 x1 x2 x3 x4 x5 x6 x7 x8 y0 y1 j0 j1 hTE' e0 le11
    simp only [servedV]
    go_wp2
    generalize hW3 : World.alloc w11 _ = w13 at s12 ⊢
    clear hW3 s11 s9
    have s14 : Sat W w13 H11 (ramL ⟨cp, 0, none⟩ (r5, none) ++ (ramL ⟨b, 0, none⟩ (r9, none) ++ (cellsH ⟨T, 0, none⟩ [.int .u64 8192, .slice B11 n11 c11, .int .i64 f.q.n, .int .u64 f.q.d, .int .u64 f.q.a, .int .u64 f.q.u, .bool f.q.rdy, .int .i64 f.q.fet, .int .i64 f.q.us, .bool f.q.ev, .bool f.q.ind, .slice HB hn11 hc11, .bool TE, .int .i64 f.e] :: cellsH ⟨Q8, 0, none⟩ f.q.vals :: cellsH ⟨Y, 0, none⟩ [.int .u64 8192, .slice B n2 c2] :: []))) := s12.wk
    have ee1 : (f.e == f.e) = true := by simp
    have ee2 : (TE == TE) = true := by simp
    have sd := s14.drew
    have gd := (And.intro ((sd.cel Q8 0 0 rfl).1) (And.intro ((sd.cel Q8 0 1 rfl).1) (And.intro ((sd.cel Q8 0 2 rfl).1) (And.intro ((sd.cel Q8 0 3 rfl).1) (And.intro ((sd.cel Q8 0 4 rfl).1) (And.intro ((sd.cel Q8 0 5 rfl).1) (And.intro ((sd.cel Q8 0 6 rfl).1) (And.intro ((sd.cel Q8 0 7 rfl).1) (And.intro ((sd.cel Q8 0 8 rfl).1) (And.intro ((sd.cel T 0 0 rfl).1) (And.intro ((sd.cel T 0 1 rfl).1) (And.intro ((sd.cel T 0 2 rfl).1) (And.intro ((sd.cel T 0 3 rfl).1) (And.intro ((sd.cel T 0 4 rfl).1) (And.intro ((sd.cel T 0 5 rfl).1) (And.intro ((sd.cel T 0 6 rfl).1) (And.intro ((sd.cel T 0 7 rfl).1) (And.intro ((sd.cel T 0 8 rfl).1) (And.intro ((sd.cel T 0 9 rfl).1) (And.intro ((sd.cel T 0 10 rfl).1) (And.intro ((sd.cel T 0 11 rfl).1) (And.intro ((sd.cel T 0 12 rfl).1) (And.intro ((sd.cel T 0 13 rfl).1) (And.intro ((sd.cel Y 0 0 rfl).1) ((sd.cel Y 0 1 rfl).1)))))))))))))))))))))))))
    simp only [Nat.zero_add, Nat.add_zero] at gd
    clear s12
    go_region_held3 (fun w' => w'.cell? ⟨Q8, 0, none⟩ = some (.int .i64 f.q.n) ∧ w'.cell? ⟨Q8, 1, none⟩ = some (.int .u64 f.q.d) ∧ w'.cell? ⟨Q8, 2, none⟩ = some (.int .u64 f.q.a) ∧ w'.cell? ⟨Q8, 3, none⟩ = some (.int .u64 f.q.u) ∧ w'.cell? ⟨Q8, 4, none⟩ = some (.bool f.q.rdy) ∧ w'.cell? ⟨Q8, 5, none⟩ = some (.int .u16 f.q.fet) ∧ w'.cell? ⟨Q8, 6, none⟩ = some (.int .u16 f.q.us) ∧ w'.cell? ⟨Q8, 7, none⟩ = some (.bool f.q.ev) ∧ w'.cell? ⟨Q8, 8, none⟩ = some (.bool f.q.ind) ∧ w'.cell? ⟨T, 0, none⟩ = some (.int .u64 8192) ∧ w'.cell? ⟨T, 1, none⟩ = some (.slice B11 n11 c11) ∧ w'.cell? ⟨T, 2, none⟩ = some (.int .i64 f.q.n) ∧ w'.cell? ⟨T, 3, none⟩ = some (.int .u64 f.q.d) ∧ w'.cell? ⟨T, 4, none⟩ = some (.int .u64 f.q.a) ∧ w'.cell? ⟨T, 5, none⟩ = some (.int .u64 f.q.u) ∧ w'.cell? ⟨T, 6, none⟩ = some (.bool f.q.rdy) ∧ w'.cell? ⟨T, 7, none⟩ = some (.int .i64 f.q.fet) ∧ w'.cell? ⟨T, 8, none⟩ = some (.int .i64 f.q.us) ∧ w'.cell? ⟨T, 9, none⟩ = some (.bool f.q.ev) ∧ w'.cell? ⟨T, 10, none⟩ = some (.bool f.q.ind) ∧ w'.cell? ⟨T, 11, none⟩ = some (.slice HB hn11 hc11) ∧ w'.cell? ⟨T, 12, none⟩ = some (.bool TE) ∧ w'.cell? ⟨T, 13, none⟩ = some (.int .i64 f.e) ∧ w'.cell? ⟨Y, 0, none⟩ = some (.int .u64 8192) ∧ w'.cell? ⟨Y, 1, none⟩ = some (.slice B n2 c2))
      (first | with_reducible exact gd | with_reducible exact gZ | with_reducible exact g20 | with_reducible exact gA | with_reducible exact gB | with_reducible exact g5)
      (first
        | (go_at_call 23; have hs := sZ; (refine c_Same (h1 := hA) (h2 := hB) (Sat.pull (h := hA) hs).head (Sat.pull (h := hB) hs).head rdA.out rdB.out ?_); intro n20
           have s20 := hs.drewN n20
           have g20 := (And.intro ((s20.cel Q8 0 0 rfl).1) (And.intro ((s20.cel Q8 0 1 rfl).1) (And.intro ((s20.cel Q8 0 2 rfl).1) (And.intro ((s20.cel Q8 0 3 rfl).1) (And.intro ((s20.cel Q8 0 4 rfl).1) (And.intro ((s20.cel Q8 0 5 rfl).1) (And.intro ((s20.cel Q8 0 6 rfl).1) (And.intro ((s20.cel Q8 0 7 rfl).1) (And.intro ((s20.cel Q8 0 8 rfl).1) (And.intro ((s20.cel T 0 0 rfl).1) (And.intro ((s20.cel T 0 1 rfl).1) (And.intro ((s20.cel T 0 2 rfl).1) (And.intro ((s20.cel T 0 3 rfl).1) (And.intro ((s20.cel T 0 4 rfl).1) (And.intro ((s20.cel T 0 5 rfl).1) (And.intro ((s20.cel T 0 6 rfl).1) (And.intro ((s20.cel T 0 7 rfl).1) (And.intro ((s20.cel T 0 8 rfl).1) (And.intro ((s20.cel T 0 9 rfl).1) (And.intro ((s20.cel T 0 10 rfl).1) (And.intro ((s20.cel T 0 11 rfl).1) (And.intro ((s20.cel T 0 12 rfl).1) (And.intro ((s20.cel T 0 13 rfl).1) (And.intro ((s20.cel Y 0 0 rfl).1) ((s20.cel Y 0 1 rfl).1)))))))))))))))))))))))))
           simp only [Nat.zero_add, Nat.add_zero] at g20
           have arm : True := trivial)
        | (go_at_call 22; have hs := sA; with_reducible (refine c_refDiffer hs rmx.out rm11.out (by omega) (by omega) (by omega) hrng.out 9000 (by omega) ?_); intro wZ vB hB ownB sZ
           have ownBr := ownB.rdS
           obtain ⟨AB, cB, rfl, rdB⟩ := ownBr.open_
           replace rdB := aside rdB
           have gZ := (And.intro ((sZ.cel Q8 0 0 rfl).1) (And.intro ((sZ.cel Q8 0 1 rfl).1) (And.intro ((sZ.cel Q8 0 2 rfl).1) (And.intro ((sZ.cel Q8 0 3 rfl).1) (And.intro ((sZ.cel Q8 0 4 rfl).1) (And.intro ((sZ.cel Q8 0 5 rfl).1) (And.intro ((sZ.cel Q8 0 6 rfl).1) (And.intro ((sZ.cel Q8 0 7 rfl).1) (And.intro ((sZ.cel Q8 0 8 rfl).1) (And.intro ((sZ.cel T 0 0 rfl).1) (And.intro ((sZ.cel T 0 1 rfl).1) (And.intro ((sZ.cel T 0 2 rfl).1) (And.intro ((sZ.cel T 0 3 rfl).1) (And.intro ((sZ.cel T 0 4 rfl).1) (And.intro ((sZ.cel T 0 5 rfl).1) (And.intro ((sZ.cel T 0 6 rfl).1) (And.intro ((sZ.cel T 0 7 rfl).1) (And.intro ((sZ.cel T 0 8 rfl).1) (And.intro ((sZ.cel T 0 9 rfl).1) (And.intro ((sZ.cel T 0 10 rfl).1) (And.intro ((sZ.cel T 0 11 rfl).1) (And.intro ((sZ.cel T 0 12 rfl).1) (And.intro ((sZ.cel T 0 13 rfl).1) (And.intro ((sZ.cel Y 0 0 rfl).1) ((sZ.cel Y 0 1 rfl).1)))))))))))))))))))))))))
           simp only [Nat.zero_add, Nat.add_zero] at gZ
           have arm : True := trivial)
        | (go_at_call 19; have hs := sB; with_reducible (refine c_ramDiffer hs hsz.out 9000 (by omega) ?_); intro wZ vA hA ownA sZ
           rw [hdif.out] at ownA
           have ownAr := ownA.rdS
           obtain ⟨AA, cA, rfl, rdA⟩ := ownAr.open_
           replace rdA := aside rdA
           have gZ := (And.intro ((sZ.cel Q8 0 0 rfl).1) (And.intro ((sZ.cel Q8 0 1 rfl).1) (And.intro ((sZ.cel Q8 0 2 rfl).1) (And.intro ((sZ.cel Q8 0 3 rfl).1) (And.intro ((sZ.cel Q8 0 4 rfl).1) (And.intro ((sZ.cel Q8 0 5 rfl).1) (And.intro ((sZ.cel Q8 0 6 rfl).1) (And.intro ((sZ.cel Q8 0 7 rfl).1) (And.intro ((sZ.cel Q8 0 8 rfl).1) (And.intro ((sZ.cel T 0 0 rfl).1) (And.intro ((sZ.cel T 0 1 rfl).1) (And.intro ((sZ.cel T 0 2 rfl).1) (And.intro ((sZ.cel T 0 3 rfl).1) (And.intro ((sZ.cel T 0 4 rfl).1) (And.intro ((sZ.cel T 0 5 rfl).1) (And.intro ((sZ.cel T 0 6 rfl).1) (And.intro ((sZ.cel T 0 7 rfl).1) (And.intro ((sZ.cel T 0 8 rfl).1) (And.intro ((sZ.cel T 0 9 rfl).1) (And.intro ((sZ.cel T 0 10 rfl).1) (And.intro ((sZ.cel T 0 11 rfl).1) (And.intro ((sZ.cel T 0 12 rfl).1) (And.intro ((sZ.cel T 0 13 rfl).1) (And.intro ((sZ.cel Y 0 0 rfl).1) ((sZ.cel Y 0 1 rfl).1)))))))))))))))))))))))))
           simp only [Nat.zero_add, Nat.add_zero] at gZ
           have arm : True := trivial)
        | (go_at_call 19; have hs := s15; with_reducible (refine c_ramDiffer hs hsz.out 9000 (by omega) ?_); intro wA vA hA ownA sA
           rw [hdif.out] at ownA
           have ownAr := ownA.rdS
           obtain ⟨AA, cA, rfl, rdA⟩ := ownAr.open_
           replace rdA := aside rdA
           have gA := (And.intro ((sA.cel Q8 0 0 rfl).1) (And.intro ((sA.cel Q8 0 1 rfl).1) (And.intro ((sA.cel Q8 0 2 rfl).1) (And.intro ((sA.cel Q8 0 3 rfl).1) (And.intro ((sA.cel Q8 0 4 rfl).1) (And.intro ((sA.cel Q8 0 5 rfl).1) (And.intro ((sA.cel Q8 0 6 rfl).1) (And.intro ((sA.cel Q8 0 7 rfl).1) (And.intro ((sA.cel Q8 0 8 rfl).1) (And.intro ((sA.cel T 0 0 rfl).1) (And.intro ((sA.cel T 0 1 rfl).1) (And.intro ((sA.cel T 0 2 rfl).1) (And.intro ((sA.cel T 0 3 rfl).1) (And.intro ((sA.cel T 0 4 rfl).1) (And.intro ((sA.cel T 0 5 rfl).1) (And.intro ((sA.cel T 0 6 rfl).1) (And.intro ((sA.cel T 0 7 rfl).1) (And.intro ((sA.cel T 0 8 rfl).1) (And.intro ((sA.cel T 0 9 rfl).1) (And.intro ((sA.cel T 0 10 rfl).1) (And.intro ((sA.cel T 0 11 rfl).1) (And.intro ((sA.cel T 0 12 rfl).1) (And.intro ((sA.cel T 0 13 rfl).1) (And.intro ((sA.cel Y 0 0 rfl).1) ((sA.cel Y 0 1 rfl).1)))))))))))))))))))))))))
           simp only [Nat.zero_add, Nat.add_zero] at gA
           have arm : True := trivial)
        | (go_at_call 22; have hs := s15; with_reducible (refine c_refDiffer hs rmx.out rm11.out (by omega) (by omega) (by omega) hrng.out 9000 (by omega) ?_); intro wB vB hB ownB sB0
           have ownBr := ownB.rdS
           obtain ⟨AB, cB, rfl, rdB⟩ := ownBr.open_
           replace rdB := aside rdB
           have sB := (show Sat W wB H11 (ramL ⟨cp, 0, none⟩ (r5, none) ++ (ramL ⟨b, 0, none⟩ (r9, none) ++ (hB :: cellsH ⟨T, 0, none⟩ [.int .u64 8192, .slice B11 n11 c11, .int .i64 f.q.n, .int .u64 f.q.d, .int .u64 f.q.a, .int .u64 f.q.u, .bool f.q.rdy, .int .i64 f.q.fet, .int .i64 f.q.us, .bool f.q.ev, .bool f.q.ind, .slice HB hn11 hc11, .bool TE, .int .i64 f.e] :: cellsH ⟨Q8, 0, none⟩ f.q.vals :: cellsH ⟨Y, 0, none⟩ [.int .u64 8192, .slice B n2 c2] :: []))) from sB0.wk)
           have gB := (And.intro ((sB.cel Q8 0 0 rfl).1) (And.intro ((sB.cel Q8 0 1 rfl).1) (And.intro ((sB.cel Q8 0 2 rfl).1) (And.intro ((sB.cel Q8 0 3 rfl).1) (And.intro ((sB.cel Q8 0 4 rfl).1) (And.intro ((sB.cel Q8 0 5 rfl).1) (And.intro ((sB.cel Q8 0 6 rfl).1) (And.intro ((sB.cel Q8 0 7 rfl).1) (And.intro ((sB.cel Q8 0 8 rfl).1) (And.intro ((sB.cel T 0 0 rfl).1) (And.intro ((sB.cel T 0 1 rfl).1) (And.intro ((sB.cel T 0 2 rfl).1) (And.intro ((sB.cel T 0 3 rfl).1) (And.intro ((sB.cel T 0 4 rfl).1) (And.intro ((sB.cel T 0 5 rfl).1) (And.intro ((sB.cel T 0 6 rfl).1) (And.intro ((sB.cel T 0 7 rfl).1) (And.intro ((sB.cel T 0 8 rfl).1) (And.intro ((sB.cel T 0 9 rfl).1) (And.intro ((sB.cel T 0 10 rfl).1) (And.intro ((sB.cel T 0 11 rfl).1) (And.intro ((sB.cel T 0 12 rfl).1) (And.intro ((sB.cel T 0 13 rfl).1) (And.intro ((sB.cel Y 0 0 rfl).1) ((sB.cel Y 0 1 rfl).1)))))))))))))))))))))))))
           simp only [Nat.zero_add, Nat.add_zero] at gB
           have arm : True := trivial)
        | (go_at_call 49; with_reducible (refine c_lawOf f.q sd ?_); intro w15 s15
           have g5 := (And.intro ((s15.cel Q8 0 0 rfl).1) (And.intro ((s15.cel Q8 0 1 rfl).1) (And.intro ((s15.cel Q8 0 2 rfl).1) (And.intro ((s15.cel Q8 0 3 rfl).1) (And.intro ((s15.cel Q8 0 4 rfl).1) (And.intro ((s15.cel Q8 0 5 rfl).1) (And.intro ((s15.cel Q8 0 6 rfl).1) (And.intro ((s15.cel Q8 0 7 rfl).1) (And.intro ((s15.cel Q8 0 8 rfl).1) (And.intro ((s15.cel T 0 0 rfl).1) (And.intro ((s15.cel T 0 1 rfl).1) (And.intro ((s15.cel T 0 2 rfl).1) (And.intro ((s15.cel T 0 3 rfl).1) (And.intro ((s15.cel T 0 4 rfl).1) (And.intro ((s15.cel T 0 5 rfl).1) (And.intro ((s15.cel T 0 6 rfl).1) (And.intro ((s15.cel T 0 7 rfl).1) (And.intro ((s15.cel T 0 8 rfl).1) (And.intro ((s15.cel T 0 9 rfl).1) (And.intro ((s15.cel T 0 10 rfl).1) (And.intro ((s15.cel T 0 11 rfl).1) (And.intro ((s15.cel T 0 12 rfl).1) (And.intro ((s15.cel T 0 13 rfl).1) (And.intro ((s15.cel Y 0 0 rfl).1) ((s15.cel Y 0 1 rfl).1)))))))))))))))))))))))))
           simp only [Nat.zero_add, Nat.add_zero] at g5
           have arm : True := trivial))
    all_goals
      go_wp2
      go_ret
      exact ⟨rfl, hX ▸ s20.below⟩
  · rw [decide_eq_false hr]
    clear hr
    go_wp2
    go_ret
    exact ⟨rfl, hX ▸ s4.below⟩
end Go.Proofs.Ytippipfogbgemaa
