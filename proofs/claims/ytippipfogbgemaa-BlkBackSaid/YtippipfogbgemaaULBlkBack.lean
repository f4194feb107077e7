/-
  BlkBack returns true for every start, sector and bytes; no condition.
-/
import Derived.Test.YtippipfogbgemaaG5
import Derived.Test.YtippipfogbgemaaUBg
set_option linter.unusedVariables false
set_option linter.unusedSimpArgs false
namespace Go.Proofs.Ytippipfogbgemaa
open Go.RowKit
set_option linter.unusedVariables false
set_option linter.unusedSimpArgs false


set_option maxRecDepth 100000 in
set_option maxHeartbeats 4000000 in
theorem law_BlkBack (W : World) {cs0 : Array Value} {v1 v2 : Value} {st : StartM} {q : Int} {ds : List Int} (e0 : startE (look W) st cs0.toList) (e1 : u64E (look W) q [v1]) (e2 : sliceE u8E 1 (look W) ds [v2]) :
    Calls Try.prog 9 #[.agg cs0, v1, v2] W fun e w' => e = .returned (.bool true) ∧ Below W.heap.size W w' := by
  obtain ⟨h1, a1, b1⟩ := e1
  obtain rfl : v1 = _ := List.cons.inj h1 |>.1
  clear h1
  obtain ⟨_, hv2, e2⟩ := e2
  obtain rfl := (List.cons.inj hv2).1
  clear hv2
  replace e2 : Rd u8E 1 (look W) v2 ds := e2
  obtain ⟨E, ec, rfl, rd2⟩ := e2.open_
  clear e2
  obtain ⟨dv, hcs, rdv⟩ := e0
  obtain rfl : cs0 = (st.vals dv).toArray := by apply Array.ext'; simpa using hcs
  clear hcs
  obtain ⟨lk, sd, f, nm, hf, hnm⟩ := st
  simp only [StartM.vals] at *
  obtain ⟨D, dc, rfl, rdv⟩ := rdv.open_
  have hn2 : ds.length ≤ ec ∧ ec ≤ 9223372036854775807 := by obtain ⟨_, h, h', _⟩ := rd2.u8; exact ⟨h, h'⟩
  have hby := rd2.bytes
  obtain ⟨N, hN⟩ : ∃ N, ds.length = N := ⟨_, rfl⟩
  obtain ⟨M, hM⟩ : ∃ M, sd.length = M := ⟨_, rfl⟩
  have s0 := (Sat.start W).alloc (c := [.bool lk, .slice D sd.length dc, .int .u64 f, .string nm]) (t := 85)
  obtain ⟨X, hX⟩ : ∃ X, W.heap.size = X := ⟨_, rfl⟩
  rw [hX] at s0
  rw [hN] at rd2 hn2 ⊢
  rw [hM] at s0 rdv ⊢
  have hN9 : (N : Int) ≤ 9223372036854775807 := by omega
  replace hby := aside hby
  replace hN := aside hN
  replace hM := aside hM
  replace rd2 := aside rd2
  replace rdv := aside rdv
  replace hn2 := aside hn2
  cases lk with
  | true =>
    go_enter Try.func9, Try.ntmps9
    go_wp2_with fail
    refine c_blkAwake s0 ?_; intro wA s1
    have x0 := s1.cel X 0 0 rfl
    have x1 := s1.cel X 0 1 rfl
    have x2 := s1.cel X 0 2 rfl
    have x3 := s1.cel X 0 3 rfl
    simp only [Nat.zero_add] at x0 x1 x2 x3
    clear s0
    go_wp2
    go_ret
    exact ⟨rfl, hX ▸ s1.below⟩
  | false =>
  by_cases h64 : (64 : Int) < N
  · skip
    go_enter Try.func9, Try.ntmps9
    go_wp2_with fail
    refine c_blkAwake s0 ?_; intro wA s1
    have x0 := s1.cel X 0 0 rfl
    have x1 := s1.cel X 0 1 rfl
    have x2 := s1.cel X 0 2 rfl
    have x3 := s1.cel X 0 3 rfl
    simp only [Nat.zero_add] at x0 x1 x2 x3
    clear s0
    go_wp2
    go_ret
    exact ⟨rfl, hX ▸ s1.below⟩
  have hd64 := aside (show ds.length ≤ 64 by have := hN.out; omega)
  go_enter Try.func9, Try.ntmps9
  go_wp2_with fail
  refine c_blkAwake s0 ?_; intro wA s1
  have x0 := s1.cel X 0 0 rfl
  have x1 := s1.cel X 0 1 rfl
  have x2 := s1.cel X 0 2 rfl
  have x3 := s1.cel X 0 3 rfl
  simp only [Nat.zero_add] at x0 x1 x2 x3
  have s2 := (s1.pc X 0).s 2 (by simp) (.int .u64 0)
  simp only [List.set_cons_succ, List.set_cons_zero, Nat.zero_add] at s2
  clear s0
  go_wp2_with fail
  refine c_ramNew2 s2 _ (by omega) ?_
  intro w3 mb r hz hm s3
  clear s1 s2 x0 x1 x2 x3
  replace hz := aside hz
  replace hm := aside hm
  have x0 := s3.cel X 0 0 rfl
  have x1 := s3.cel X 0 1 rfl
  have x2 := s3.cel X 0 2 rfl
  have x3 := s3.cel X 0 3 rfl
  simp only [Nat.zero_add] at x0 x1 x2 x3
  go_wp2_with fail
  refine c_lawDisk s3 false rdv.out 0 (by omega) nm hnm ?_ ?_
  · intro w4 H4 B4 N4 c4 le4 s4
    have s5 := s4.alloc (c := [.slice B4 N4 c4, .bool false, .int .u64 0, .int .u64 0, .int .u64 0]) (t := 90)
    clear s3
    go_wp2
    go_ret
    exact ⟨rfl, hX ▸ s5.below⟩
  intro hs64 hs100 w4 H4 v4 db d le4 hc4 hl4 hf4 hm4 rf4 s4
  obtain ⟨B4, N4, c4, rfl, hN4, _⟩ := rf4.open_
  have hraw := aside (show d.raw.count = 4 ∧ d.raw.locked = false ∧ d.raw.fault = 0 from ⟨hc4, hl4, hf4⟩)
  clear hs64 hs100 hm4 hN4 rf4 hc4 hl4 hf4
  have s5 := s4.alloc (c := [.slice B4 N4 c4, .bool false, .int .u64 0, .int .u64 0, .int .u64 0]) (t := 90)
  have x5 := s5.cel X 0 3 rfl
  simp only [Nat.zero_add] at x5
  clear s3 s4 x0 x1 x2 x3
  go_wp2_with fail
  refine c_blkNew s5 mb nm ?_
  intro w6 bb rb qb sv h6 own6 s6
  rw [nameV_nmB] at s6
  clear s5 x5 own6
  have hb1 := aside (show ∀ a n : Int, sizedP n → 2147483648 ≤ a → a + n ≤ 2147487744 + 2048 → sizedP n ∧ r.has a n from fun a n h0 h1 h2 => ⟨h0, by unfold RamG.has; rw [hz.out]; unfold sizedP at h0; omega⟩)
  have hs1 := aside (show sizedP 1 by unfold sizedP; omega)
  have hs8 := aside (show sizedP 8 by unfold sizedP; omega)
  go_wp2_with fail
  refine c_ramStore s6 2147483648 1 1 (by omega) (by omega) (by omega) (fun h => absurd (hb1.out _ _ hs1.out (by omega) (by omega)) h) ?_
  intro _ w7 r7 l7 hm7 hz7 hl7 s7
  obtain rfl : l7 = none := by
    cases l7 with
    | none => rfl
    | some x => simp [lgs, addW] at hl7
  clear s6 hl7
  have hz7' := aside (hz7.trans hz.out)
  have hb7 := aside (show sizedP 8 ∧ r7.has 2147483656 8 from ⟨hs8.out, by unfold RamG.has; rw [hz7'.out]; omega⟩)
  go_wp2_with fail
  refine c_ramStore s7 2147483656 8 q (by omega) (by omega) ⟨a1, b1⟩ (fun h => absurd hb7.out h) ?_
  intro _ w8 r8 l8 hm8 hz8 hl8 s8
  obtain rfl : l8 = none := by
    cases l8 with
    | none => rfl
    | some x => simp [lgs, addW] at hl8
  clear s7 hl8 hb7
  have hz8' := aside (hz8.trans hz7'.out)
  have hb8 := aside (show r8.has 2147483904 ds.length by unfold RamG.has; rw [hz8'.out]; have := hd64.out; omega)
  go_wp2_with fail
  refine c_ramWrite s8 2147483904 (by omega) rd2.out (fun w' t => t.ro.mono t.old) (fun h => absurd hb8.out h) ?_
  intro _ w9 r9 l9 hm9 hz9 hl9 s9
  obtain rfl : l9 = none := by
    cases l9 with
    | none => rfl
    | some x => simp [lgs, addW] at hl9
  have hz9' := aside (hz9.trans hz8'.out)
  have hm9' := aside (show r9.mem = bkM3 q ds by rw [hm9, hm8, hm7, show r.mem = fun _ => 0 from hm.out]; rfl)
  clear s8 hl9 hb8 hm9 hm8 hm7 hz9 hz8 hz7
  have sA := s9.alloc (c := [.int .u64 2147483648, .int .u64 16, .bool false, .int .u64 2147483904, .int .u64 512, .bool false, .int .u64 2147487488, .int .u64 1, .bool true]) (t := 71)
  obtain ⟨Y, hY⟩ : ∃ Y, w9.heap.size = Y := ⟨_, rfl⟩
  rw [hY] at sA
  have ownA : OwnS 3 (.slice (some ⟨Y, 0, none⟩) 3 3) bkO.length (encG bkO) (cellsH ⟨Y, 0, none⟩ [.int .u64 2147483648, .int .u64 16, .bool false, .int .u64 2147483904, .int .u64 512, .bool false, .int .u64 2147487488, .int .u64 1, .bool true]) := OwnS.made (n := 3) (c := 3) (vs := encG bkO) [] (by omega) (by omega) rfl rfl
  have rdA := aside ownA.rdG
  have sB : Sat W _ H4 (cellsH ⟨bb, 0, none⟩ (blkV rb db mb ((nmB nm).map (Value.int .u8)) (.slice none 0 0)) :: empH :: (ramL ⟨mb, 0, none⟩ (r9, none) ++ (diskL ⟨db, 0, none⟩ d ++ (cellsH ⟨Y, 0, none⟩ [.int .u64 2147483648, .int .u64 16, .bool false, .int .u64 2147483904, .int .u64 512, .bool false, .int .u64 2147487488, .int .u64 1, .bool true] :: cellsH ⟨X, 0, none⟩ [.bool false, .slice D M dc, .int .u64 0, .string nm] :: [])))) := sA.emp.wk
  have hbs : bkO.length ≤ 511 ∧ ∀ x ∈ bkO, hasP r9.size x.1 x.2.1 ∧ 0 ≤ x.2.1 := by
    rw [hz9'.out]
    refine ⟨by decide, fun x hx => ?_⟩
    simp only [bkO, List.mem_cons, List.not_mem_nil, or_false] at hx
    rcases hx with rfl | rfl | rfl <;> (unfold hasP; simp)
  have hor : ordP bkO := by
    intro i x y hx hy
    match i, hx, hy with
    | 0, hx, hy => simp [bkO] at hx hy; subst hx; simp
    | 1, hx, hy => simp [bkO] at hx hy; subst hx; simp
    | i + 2, hx, hy => simp [bkO] at hy
  have hU := aside (back_out (bs := nmB nm) ⟨a1, b1⟩ hd64.out hraw.out.1 hraw.out.2.1 hraw.out.2.2)
  replace hbs := aside hbs
  replace hor := aside hor
  clear s9 sA ownA
  go_wp2_with fail
  refine c_use bb rb db mb (nmB_len nm) (nmB_bd nm) (ls := []) (OwnS.nil 4) (by simp) rdA.out sB (fun w' t => t.head) hbs.out hor.out 0 0 ?_
  intro w10 H10 r10 d10 lv10 h10 l10 le10 hlg10 hm10 hz10 hd10 own10 s10
  rw [hm9'.out, hU.out] at hm10 hd10 own10 ⊢
  obtain rfl := hlg10.none rfl
  have hz10' := aside (hz10.trans hz9'.out)
  clear sB hU rdA hbs hor
  have ct1 : (if q < 4 then (⟨1, putB (bkM3 q ds) 2147487488 [0], d.raw.ask.put (putB d.raw.mem (512 * q) (rdB (bkM3 q ds) 2147483904 512)), some (1, q, 0, 1)⟩ : UseR) else ⟨1, putB (bkM3 q ds) 2147487488 [1], d.raw.ask, some (1, q, 1, 1)⟩).ct = 1 := by split <;> rfl
  rw [ct1]
  obtain ⟨S, hS, hS2⟩ : ∃ S : Int, r10.mem = putB (bkM3 q ds) 2147487488 [S] ∧ (S = if q < 4 then 0 else 1) := by
    by_cases h4 : q < 4
    · rw [if_pos h4] at hm10; exact ⟨0, hm10, by rw [if_pos h4]⟩
    · rw [if_neg h4] at hm10; exact ⟨1, hm10, by rw [if_neg h4]⟩
  have hld := aside (show ofB (rdB r10.mem 2147487488 (1 : Int).toNat) = S by rw [hS]; exact (show ofB (rdB (putB (bkM3 q ds) 2147487488 [S]) 2147487488 ([S] : List Int).length) = S by rw [rdB_putS]; simp [ofB]))
  have hraw10 := aside (show d10.raw.count = 4 ∧ d10.raw.fault = 0 ∧ (q < 4 → d10.raw.mem = putB d.raw.mem (512 * q) (rdB (bkM3 q ds) 2147483904 512)) by
    rw [hd10]
    obtain ⟨g1, g2, g3⟩ := hraw.out
    by_cases h4 : q < 4
    · rw [if_pos h4]; exact ⟨g1, by show nextF d.raw.fault = 0; rw [g3]; rfl, fun _ => rfl⟩
    · rw [if_neg h4]; exact ⟨g1, by show nextF d.raw.fault = 0; rw [g3]; rfl, fun h => absurd h h4⟩)
  clear hm10 hd10 hz10 ct1
  obtain ⟨ls10, hls10⟩ : ∃ y, logP [] (if q < 4 then (⟨1, putB (bkM3 q ds) 2147487488 [0], d.raw.ask.put (putB d.raw.mem (512 * q) (rdB (bkM3 q ds) 2147483904 512)), some (1, q, 0, 1)⟩ : UseR) else ⟨1, putB (bkM3 q ds) 2147487488 [1], d.raw.ask, some (1, q, 1, 1)⟩).log = y := ⟨_, rfl⟩
  have hl10 : ls10.length ≤ 4096 := by rw [← hls10]; split <;> simp [logP]
  rw [hls10] at own10
  clear hls10
  have hb10 := aside (show ∀ a n : Int, sizedP n → 2147483648 ≤ a → a + n ≤ 2147487744 + 2048 → sizedP n ∧ r10.has a n from fun a n h0 h1 h2 => ⟨h0, by unfold RamG.has; rw [hz10'.out]; unfold sizedP at h0; omega⟩)
  replace own10 := aside own10
  replace hS := aside hS
  replace hl10 := aside hl10
  replace le10 := aside le10
  go_wp2_with fail
  refine c_ramLoad s10 2147487488 1 (by omega) (by omega) (fun h => absurd (hb10.out _ _ hs1.out (by omega) (by omega)) h) (fun _ => ?_)
  rw [hld.out]
  by_cases h4 : q < 4
  · rw [if_pos h4] at hS2
    subst hS2
    go_wp2_with fail
    refine c_ramStore s10 2147483648 1 0 (by omega) (by omega) (by omega) (fun h => absurd (hb10.out _ _ hs1.out (by omega) (by omega)) h) ?_
    intro _ w11 r11 l11 hm11 hz11 hl11 s11
    obtain rfl : l11 = none := by
      cases l11 with
      | none => rfl
      | some x => simp [lgs, addW] at hl11
    have hz11' := aside (hz11.trans hz10'.out)
    have hm11' := aside (show r11.mem = bkM5 q ds 0 by rw [hm11, hS.out]; rfl)
    clear s10 hl11 hm11 hz11 hb10
    have sA := s11.alloc (c := [.int .u64 2147483648, .int .u64 16, .bool false, .int .u64 2147487744, .int .u64 512, .bool true, .int .u64 2147487488, .int .u64 1, .bool true]) (t := 71)
    obtain ⟨Y2, hY2⟩ : ∃ Y2, w11.heap.size = Y2 := ⟨_, rfl⟩
    rw [hY2] at sA
    have ownA : OwnS 3 (.slice (some ⟨Y2, 0, none⟩) 3 3) bkI.length (encG bkI) (cellsH ⟨Y2, 0, none⟩ [.int .u64 2147483648, .int .u64 16, .bool false, .int .u64 2147487744, .int .u64 512, .bool true, .int .u64 2147487488, .int .u64 1, .bool true]) := OwnS.made (n := 3) (c := 3) (vs := encG bkI) [] (by omega) (by omega) rfl rfl
    have rdA := aside ownA.rdG
    have sB : Sat W _ H10 (cellsH ⟨bb, 0, none⟩ (blkV rb db mb ((nmB nm).map (Value.int .u8)) lv10) :: h10 :: (ramL ⟨mb, 0, none⟩ (r11, none) ++ (diskL ⟨db, 0, none⟩ d10 ++ (cellsH ⟨Y2, 0, none⟩ [.int .u64 2147483648, .int .u64 16, .bool false, .int .u64 2147487744, .int .u64 512, .bool true, .int .u64 2147487488, .int .u64 1, .bool true] :: [])))) := sA.wk
    have hbs : bkI.length ≤ 511 ∧ ∀ x ∈ bkI, hasP r11.size x.1 x.2.1 ∧ 0 ≤ x.2.1 := by
      rw [hz11'.out]
      refine ⟨by decide, fun x hx => ?_⟩
      simp only [bkI, List.mem_cons, List.not_mem_nil, or_false] at hx
      rcases hx with rfl | rfl | rfl <;> (unfold hasP; simp)
    have hor : ordP bkI := by
      intro i x y hx hy
      match i, hx, hy with
      | 0, hx, hy => simp [bkI] at hx hy; subst hx; simp
      | 1, hx, hy => simp [bkI] at hx hy; subst hx; subst hy; simp
      | i + 2, hx, hy => simp [bkI] at hy
    have hU := aside (back_in (st := 0) (bs := nmB nm) ⟨a1, b1⟩ hd64.out hraw10.out.1 hraw10.out.2.1)
    replace hbs := aside hbs
    replace hor := aside hor
    clear s11 sA ownA
    go_wp2_with fail
    refine c_use bb rb db mb (nmB_len nm) (nmB_bd nm) own10.out hl10.out rdA.out sB (fun w' t => t.head) hbs.out hor.out 0 0 ?_
    intro w12 H12 r12 d12 lv12 h12 l12 le12 hlg12 hm12 hz12 hd12 own12 s12
    rw [hm11'.out] at hm12
    have hct := hU.out.1
    rw [← hm11'.out] at hct
    rw [hct]
    clear hct hd12 own12 sB hbs hor rdA
    obtain rfl := hlg12.none rfl
    have hz12' := aside (hz12.trans hz11'.out)
    clear hz12
    rw [if_pos h4]
    have hm13 := aside (show rdB r12.mem 2147487744 ds.length = ds by
      rw [hm12, hU.out.2 h4, hraw10.out.2.2 h4]
      exact back_end a1 hd64.out)
    have hb12 := aside (show r12.has 2147487744 N by unfold RamG.has; rw [hz12'.out]; have := hd64.out; have := hN.out; omega)
    clear hm12
    go_wp2_with fail
    refine c_ramRead s12 2147487744 N (by omega) (by omega) (fun h => absurd hb12.out h) ?_
    intro _ w13 v13 h13 l13 own13 hl13 s13
    rw [Int.toNat_natCast, ← hN.out, hm13.out] at own13
    have rd13 := own13.rd hby.out
    obtain ⟨E3, ec3, rfl, rd13⟩ := rd13.open_
    rw [hN.out] at rd13 ⊢
    replace rd13 := aside rd13
    clear own13 s12 hl13
    go_wp2_with fail
    refine c_Bytes s13.head (s13.ro.mono s13.old) rd13.out rd2.out (fun n13 => ?_)
    have s14 := s13.drewN n13
    clear s13
    rw [decide_eq_true rfl]
    go_wp2
    go_ret
    exact ⟨rfl, hX ▸ s14.below⟩
  · rw [if_neg h4] at hS2
    subst hS2
    go_wp2_with fail
    refine c_ramStore s10 2147483648 1 0 (by omega) (by omega) (by omega) (fun h => absurd (hb10.out _ _ hs1.out (by omega) (by omega)) h) ?_
    intro _ w11 r11 l11 hm11 hz11 hl11 s11
    obtain rfl : l11 = none := by
      cases l11 with
      | none => rfl
      | some x => simp [lgs, addW] at hl11
    have hz11' := aside (hz11.trans hz10'.out)
    have hm11' := aside (show r11.mem = bkM5 q ds 1 by rw [hm11, hS.out]; rfl)
    clear s10 hl11 hm11 hz11 hb10
    have sA := s11.alloc (c := [.int .u64 2147483648, .int .u64 16, .bool false, .int .u64 2147487744, .int .u64 512, .bool true, .int .u64 2147487488, .int .u64 1, .bool true]) (t := 71)
    obtain ⟨Y2, hY2⟩ : ∃ Y2, w11.heap.size = Y2 := ⟨_, rfl⟩
    rw [hY2] at sA
    have ownA : OwnS 3 (.slice (some ⟨Y2, 0, none⟩) 3 3) bkI.length (encG bkI) (cellsH ⟨Y2, 0, none⟩ [.int .u64 2147483648, .int .u64 16, .bool false, .int .u64 2147487744, .int .u64 512, .bool true, .int .u64 2147487488, .int .u64 1, .bool true]) := OwnS.made (n := 3) (c := 3) (vs := encG bkI) [] (by omega) (by omega) rfl rfl
    have rdA := aside ownA.rdG
    have sB : Sat W _ H10 (cellsH ⟨bb, 0, none⟩ (blkV rb db mb ((nmB nm).map (Value.int .u8)) lv10) :: h10 :: (ramL ⟨mb, 0, none⟩ (r11, none) ++ (diskL ⟨db, 0, none⟩ d10 ++ (cellsH ⟨Y2, 0, none⟩ [.int .u64 2147483648, .int .u64 16, .bool false, .int .u64 2147487744, .int .u64 512, .bool true, .int .u64 2147487488, .int .u64 1, .bool true] :: [])))) := sA.wk
    have hbs : bkI.length ≤ 511 ∧ ∀ x ∈ bkI, hasP r11.size x.1 x.2.1 ∧ 0 ≤ x.2.1 := by
      rw [hz11'.out]
      refine ⟨by decide, fun x hx => ?_⟩
      simp only [bkI, List.mem_cons, List.not_mem_nil, or_false] at hx
      rcases hx with rfl | rfl | rfl <;> (unfold hasP; simp)
    have hor : ordP bkI := by
      intro i x y hx hy
      match i, hx, hy with
      | 0, hx, hy => simp [bkI] at hx hy; subst hx; simp
      | 1, hx, hy => simp [bkI] at hx hy; subst hx; subst hy; simp
      | i + 2, hx, hy => simp [bkI] at hy
    have hU := aside (back_in (st := 1) (bs := nmB nm) ⟨a1, b1⟩ hd64.out hraw10.out.1 hraw10.out.2.1)
    replace hbs := aside hbs
    replace hor := aside hor
    clear s11 sA ownA
    go_wp2_with fail
    refine c_use bb rb db mb (nmB_len nm) (nmB_bd nm) own10.out hl10.out rdA.out sB (fun w' t => t.head) hbs.out hor.out 0 0 ?_
    intro w12 H12 r12 d12 lv12 h12 l12 le12 hlg12 hm12 hz12 hd12 own12 s12
    rw [hm11'.out] at hm12
    have hct := hU.out.1
    rw [← hm11'.out] at hct
    rw [hct]
    clear hct hd12 own12 sB hbs hor rdA
    obtain rfl := hlg12.none rfl
    have hz12' := aside (hz12.trans hz11'.out)
    clear hz12
    rw [if_neg (show ¬ q < 4 by omega)]
    clear hm12
    go_wp2
    go_ret
    exact ⟨rfl, hX ▸ s12.below⟩
end Go.Proofs.Ytippipfogbgemaa
