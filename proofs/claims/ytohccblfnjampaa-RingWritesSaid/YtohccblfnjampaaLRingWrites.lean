/-
  RingWrites returns true for every memory, layout and script; no condition.
-/
import Derived.Test.YtohccblfnjampaaWj
import Derived.Test.YtohccblfnjampaaWk
import Derived.Test.YtohccblfnjampaaWl
import Derived.Test.YtohccblfnjampaaVh
import Derived.Test.YtohccblfnjampaaVhl
import Derived.Test.YtohccblfnjampaaWb
import Derived.Test.YtohccblfnjampaaWh
import Derived.Test.YtohccblfnjampaaWi
import Derived.Test.YtohccblfnjampaaVss
namespace Go.Proofs.Ytohccblfnjampaa
open Go.RowKit
set_option linter.unusedVariables false
set_option linter.unusedSimpArgs false

theorem lgs_none {l : Option LogG} (h : lgs l = none) : l = none := by
  cases l with
  | none => rfl
  | some x => simp [lgs] at h

theorem putB_beside {m : Int → Int} {a lo hi : Int} {bs : List Int} (h0 : lo ≤ a) (h1 : a + bs.length ≤ hi) (x : Int) (hx : ¬ (lo ≤ x ∧ x < hi)) : putB m a bs x = m x := by
  unfold putB
  split
  · rw [List.getElem?_eq_none (by omega)]; rfl
  · rfl

theorem leb8_len (i c : Int) : (leb i 4 ++ leb c 4).length = 8 := by rw [List.length_append, leb_len, leb_len]


set_option maxRecDepth 100000 in
set_option maxHeartbeats 4000000 in
theorem law_RingWrites (W : World) {v0 v2 : Value} {cs1 : Array Value} {ps : List PutM} {l : LayM} {ts : List ToldM} (e0 : sliceE putE 2 (look W) ps [v0]) (e1 : layE (look W) l cs1.toList) (e2 : sliceE toldE 4 (look W) ts [v2]) :
    Calls Try.prog 13 #[v0, .agg cs1, v2] W fun e w' => e = .returned (.bool true) ∧ Below W.heap.size W w' := by
  obtain ⟨_, hv0, e0⟩ := e0
  obtain rfl := (List.cons.inj hv0).1
  clear hv0
  have e1q : cs1.toList = l.vals := e1
  obtain rfl : cs1 = l.vals.toArray := by apply Array.ext'; simpa using e1q
  clear e1 e1q
  obtain ⟨_, hv2, e2⟩ := e2
  obtain rfl := (List.cons.inj hv2).1
  clear hv2
  obtain ⟨D, dc, rfl, rd⟩ := e2.open_
  obtain ⟨A', c', hv, hcc, hcc2, hat⟩ := id rd
  injection hv with ea eb ec
  subst ea ec
  clear eb
  have hlen : (ts.length : Int) ≤ 9223372036854775807 := by omega
  obtain ⟨n, d, a, u, hn, hd, ha, hu⟩ := l
  simp only [LayM.vals]
  have s0 := (Sat.start W).alloc (c := [.int .i64 n, .int .u64 d, .int .u64 a, .int .u64 u]) (t := 58)
  obtain ⟨Z, hZ⟩ : ∃ Z, W.heap.size = Z := ⟨_, rfl⟩
  rw [hZ] at s0
  go_enter Try.func13, Try.ntmps13
  go_wp2_with fail
  refine c_ringAwake s0 ?_; intro w1 s1
  go_wp2_with fail
  refine c_Memory s1 e0 ?_ ?_
  · intro w2 H2 v2 m2 le r2 s2
    obtain ⟨B, n, c, rfl⟩ := r2.shapeM
    have s3 := s2.alloc (c := [.int .u64 8192, .slice B n c]) (t := 62)
    clear s0 s1 s2
    go_wp2
    go_ret
    exact ⟨rfl, hZ ▸ s3.below⟩
  · intro w2 H2 v2 b r le hz rm s2
    obtain ⟨B, n0, c, rfl⟩ := rm.shapeM
    have s3 := s2.alloc (c := [.int .u64 8192, .slice B n0 c]) (t := 62)
    obtain ⟨Y, hY⟩ : ∃ Y, w2.heap.size = Y := ⟨_, rfl⟩
    rw [hY] at s3
    have y0 := s3.cel Y 0 0 rfl
    have y1 := s3.cel Y 0 1 rfl
    simp only [Nat.zero_add] at y0 y1
    have z0 := s3.cel Z 0 0 rfl
    have z1 := s3.cel Z 0 1 rfl
    have z2 := s3.cel Z 0 2 rfl
    have z3 := s3.cel Z 0 3 rfl
    simp only [Nat.zero_add] at z0 z1 z2 z3
    clear s1 s2 s0
    go_wp2_with fail
    refine c_refCheck s3 rm (by omega) n d a u hn hd ha hu ?_
    intro w4 s4
    by_cases hc : layP n d a u ∧ liesP 8192 n d a u
    · have hc0 : chk 8192 n d a u = 0 := by unfold chk; rw [if_pos hc.1, if_pos hc.2]
      rw [hc0]
      have hnb := powP_bd hc.1.1
      have hub := aside (show 0 ≤ u ∧ hasP 8192 u (8 * n + 6) from ⟨hu.1, hc.2.2.2⟩)
      have hu2 : u + (8 * n + 6) ≤ 2147483648 + 8192 ∧ 2147483648 ≤ u := by have := hc.2.2.2; unfold hasP at this; omega
      have y0 := s4.cel Y 0 0 rfl
      have y1 := s4.cel Y 0 1 rfl
      simp only [Nat.zero_add] at y0 y1
      have z0 := s4.cel Z 0 0 rfl
      have z1 := s4.cel Z 0 1 rfl
      have z2 := s4.cel Z 0 2 rfl
      have z3 := s4.cel Z 0 3 rfl
      simp only [Nat.zero_add] at z0 z1 z2 z3
      replace hz := aside hz
      replace hY := aside hY
      clear s3 hc hc0
      by_cases hts : (20 : Int) < ts.length
      · go_wp2
        go_ret
        exact ⟨rfl, hZ ▸ s4.below⟩
      · have hts2 : (ts.length : Int) ≤ 20 := by omega
        clear hts
        go_wp2_with fail
        refine c_ramCopy s4 ?_
        intro w5 g rg hzg hmg s5
        have y0 := s5.cel Y 0 0 rfl
        have y1 := s5.cel Y 0 1 rfl
        simp only [Nat.zero_add] at y0 y1
        have s6 := s5.alloc (c := [.int .u64 8192, .slice B n0 c]) (t := 62)
        obtain ⟨X, hX⟩ : ∃ X, w5.heap.size = X := ⟨_, rfl⟩
        rw [hX] at s6
        replace hzg := aside hzg
        replace hmg := aside hmg
        clear s4 s5 z0 z1 z2 z3
        go_wp2
        clear y0 y1
        go_loopg [11] ts.length (fun q v11 w' => ∃ (i : Nat) (H' : Hp) (r' : RamG) (Bx : Option Addr) (nx cx : Nat), q + i = ts.length ∧ i ≤ 20 ∧ v11 = .int .i64 i ∧ Aside (∀ l c, H2 l = some c → H' l = some c) ∧ Aside (r'.size = 8192) ∧ RefM H' (.agg #[.int .u64 8192, .slice Bx nx cx]) 8192 r'.mem (13000 + i * 200) ∧ Aside (∀ y, ¬ (u ≤ y ∧ y < u + (8 * n + 6)) → r'.mem y = r.mem y) ∧
          Sat W w' H' (ramL ⟨b, 0, none⟩ (r', none) ++ (ramL ⟨g, 0, none⟩ (rg, none) ++ (cellsH ⟨X, 0, none⟩ [.int .u64 8192, .slice Bx nx cx] :: cellsH ⟨Y, 0, none⟩ [.int .u64 8192, .slice B n0 c] :: cellsH ⟨Z, 0, none⟩ [.int .i64 n, .int .u64 d, .int .u64 a, .int .u64 u] :: []))))
        case atStart => exact ⟨0, H2, r, B, n0, c, by simp, by omega, rfl, fun _ _ h => h, hz.out, rm, fun _ _ => rfl, s6.wk⟩
        have rm0 := aside rm
        clear s6 rm
        case round =>
          obtain ⟨i, H', r', Bx, nx, cx, hq, hi20, rfl, le', hz', rm', hout, s'⟩ := hrel
          by_cases hi : i < ts.length
          · have hi2 : (i : Int) < ts.length := by omega
            have hi19 : i + 1 ≤ 20 := by omega
            obtain ⟨bb, ob, vs, rfl, rfl, _, hcell⟩ := hat i ts[i] (by simp [hi])
            have hcl := fun j u hu => (hcell j u hu).imp fun fr hf => le'.out _ _ (le _ _ hf)
            have q0 := s'.ro.cell (hcl 0 _ rfl)
            have q1 := s'.ro.cell (hcl 1 _ rfl)
            have q2 := s'.ro.cell (hcl 2 _ rfl)
            have q3 := s'.ro.cell (hcl 3 _ rfl)
            obtain ⟨o, ho⟩ : ∃ o, ts[i] = o := ⟨_, rfl⟩
            simp only [ho] at q0 q1 q2 q3
            obtain ⟨kd, tn, td, tc, hkd, htn, htd, htc⟩ := o
            simp only [Nat.add_zero] at q0 q1 q2 q3
            have s5 := s'.alloc (c := [.int .i64 kd, .int .u16 tn, .int .u16 td, .int .u32 tc]) (t := 118)
            obtain ⟨P, hP⟩ : ∃ P, wr.heap.size = P := ⟨_, rfl⟩
            rw [hP] at s5
            have z0 := s5.cel Z 0 0 rfl
            have z1 := s5.cel Z 0 1 rfl
            have z2 := s5.cel Z 0 2 rfl
            have z3 := s5.cel Z 0 3 rfl
            simp only [Nat.zero_add] at z0 z1 z2 z3
            have x0 := s5.cel X 0 0 rfl
            have x1 := s5.cel X 0 1 rfl
            simp only [Nat.zero_add] at x0 x1
            have p0 := s5.cel P 0 0 rfl
            have p1 := s5.cel P 0 1 rfl
            have p2 := s5.cel P 0 2 rfl
            have p3 := s5.cel P 0 3 rfl
            simp only [Nat.zero_add] at p0 p1 p2 p3
            have hq2 := aside (show gk - 1 + (i + 1) = ts.length ∧ gk - 1 < gk by omega)
            have hi20' := hi19
            have hub' := aside (show 0 ≤ u ∧ hasP r'.size u (8 * n + 6) by rw [hz'.out]; exact hub.out)
            have tm := Int.emod_nonneg tn (show n ≠ 0 by omega)
            have tm2 := Int.emod_lt_of_pos tn (show 0 < n by omega)
            replace hq := aside hq
            replace ho := aside ho
            clear hcl hcell hat s'
            by_cases k0 : kd = 0
            · subst k0
              have it : IntKind.i64.wrap tn = tn := by simp [IntKind.wrap, IntKind.bits, IntKind.signed]; omega
              have id' : IntKind.i64.wrap td = td := by simp [IntKind.wrap, IntKind.bits, IntKind.signed]; omega
              go_wp2_with fail
              refine c_ringPut s5 n d a u tn td tc hnb hub'.out htn htd htc ?_
              intro w6 r6 l6 hz6 hm6 hl6 s6
              obtain rfl := lgs_none hl6
              have ho6 := aside (show ∀ y, ¬ (u ≤ y ∧ y < u + (8 * n + 6)) → r6.mem y = r.mem y from fun y hy => by rw [hm6, putB_beside (lo := u) (hi := u + (8 * n + 6)) (by have := hu2; omega) (by rw [leb8_len]; have := hu2; omega) _ hy]; exact hout.out y hy)
              have hz8 := aside (show r6.size = 8192 from hz6.trans hz'.out)
              have z0 := s6.cel Z 0 0 rfl
              have z1 := s6.cel Z 0 1 rfl
              have z2 := s6.cel Z 0 2 rfl
              have z3 := s6.cel Z 0 3 rfl
              simp only [Nat.zero_add] at z0 z1 z2 z3
              have x0 := s6.cel X 0 0 rfl
              have x1 := s6.cel X 0 1 rfl
              simp only [Nat.zero_add] at x0 x1
              have p0 := s6.cel P 0 0 rfl
              have p1 := s6.cel P 0 1 rfl
              have p2 := s6.cel P 0 2 rfl
              have p3 := s6.cel P 0 3 rfl
              simp only [Nat.zero_add] at p0 p1 p2 p3
              replace hm6 := aside hm6
              clear s5 hz6 hl6
              go_wp2_with fail
              refine c_refRingPut s6 rm' (by omega) (by omega) n d a u tn td tc hnb hub.out htn htd htc ?_
              intro w7 H7 B7 n7 c7 le7 rm7 s7
              rw [← hm6.out] at rm7
              have s8q0 := s7.cel X 0 0 rfl
              have s8t0 := (s7.pc X 0).s0 (.int .u64 8192)
              have s8q1 := s8t0.c 1 rfl
              have s8 := s8t0.s 1 (by simp) (.slice B7 n7 c7)
              simp only [List.set_cons_succ, List.set_cons_zero, Nat.zero_add] at s8 s8q0 s8q1
              have rm8 := rm7.leM (show 13000 + i * 200 + 200 ≤ 13000 + (i + 1) * 200 by omega)
              have le8 := aside (show ∀ l c, H2 l = some c → H7 l = some c from fun l c h => le7 _ _ (le'.out l c h))
              clear s6 s7 rm' rm7
              go_wp2
              go_roundg (gk - 1)
              case measure => exact hq2.out.2
              case rel => exact ⟨i + 1, H7, r6, B7, n7, c7, hq2.out.1, hi20', by go_num, le8, hz8, rm8, ho6, s8.wk⟩
            · by_cases k1 : kd = 1
              · subst k1
                have it : IntKind.i64.wrap tn = tn := by simp [IntKind.wrap, IntKind.bits, IntKind.signed]; omega
                clear k0
                go_wp2_with fail
                refine c_ringPublish s5 n d a u tn hnb hub'.out htn ?_
                intro w6 r6 l6 hz6 hm6 hl6 s6
                obtain rfl := lgs_none hl6
                have ho6 := aside (show ∀ y, ¬ (u ≤ y ∧ y < u + (8 * n + 6)) → r6.mem y = r.mem y from fun y hy => by rw [hm6, putB_beside (lo := u) (hi := u + (8 * n + 6)) (by have := hu2; omega) (by rw [leb_len]; have := hu2; omega) _ hy]; exact hout.out y hy)
                have hz8 := aside (show r6.size = 8192 from hz6.trans hz'.out)
                have z0 := s6.cel Z 0 0 rfl
                have z1 := s6.cel Z 0 1 rfl
                have z2 := s6.cel Z 0 2 rfl
                have z3 := s6.cel Z 0 3 rfl
                simp only [Nat.zero_add] at z0 z1 z2 z3
                have x0 := s6.cel X 0 0 rfl
                have x1 := s6.cel X 0 1 rfl
                simp only [Nat.zero_add] at x0 x1
                have p0 := s6.cel P 0 0 rfl
                have p1 := s6.cel P 0 1 rfl
                have p2 := s6.cel P 0 2 rfl
                have p3 := s6.cel P 0 3 rfl
                simp only [Nat.zero_add] at p0 p1 p2 p3
                replace hm6 := aside hm6
                clear s5 hz6 hl6
                go_wp2_with fail
                refine c_refRingPublish s6 rm' (by omega) (by omega) n d a u tn hnb hub.out htn ?_
                intro w7 H7 B7 n7 c7 le7 rm7 s7
                rw [← hm6.out] at rm7
                have s8q0 := s7.cel X 0 0 rfl
                have s8t0 := (s7.pc X 0).s0 (.int .u64 8192)
                have s8q1 := s8t0.c 1 rfl
                have s8 := s8t0.s 1 (by simp) (.slice B7 n7 c7)
                simp only [List.set_cons_succ, List.set_cons_zero, Nat.zero_add] at s8 s8q0 s8q1
                have rm8 := rm7.leM (show 13000 + i * 200 + 200 ≤ 13000 + (i + 1) * 200 by omega)
                have le8 := aside (show ∀ l c, H2 l = some c → H7 l = some c from fun l c h => le7 _ _ (le'.out l c h))
                clear s6 s7 rm' rm7
                go_wp2
                go_roundg (gk - 1)
                case measure => exact hq2.out.2
                case rel => exact ⟨i + 1, H7, r6, B7, n7, c7, hq2.out.1, hi20', by go_num, le8, hz8, rm8, ho6, s8.wk⟩
              · by_cases k2 : kd = 2
                · subst k2
                  have it : IntKind.i64.wrap tn = tn := by simp [IntKind.wrap, IntKind.bits, IntKind.signed]; omega
                  clear k0 k1
                  go_wp2_with fail
                  refine c_ringWant s5 n d a u tn hnb hub'.out htn ?_
                  intro w6 r6 l6 hz6 hm6 hl6 s6
                  obtain rfl := lgs_none hl6
                  have ho6 := aside (show ∀ y, ¬ (u ≤ y ∧ y < u + (8 * n + 6)) → r6.mem y = r.mem y from fun y hy => by rw [hm6, putB_beside (lo := u) (hi := u + (8 * n + 6)) (by have := hu2; omega) (by rw [leb_len]; have := hu2; omega) _ hy]; exact hout.out y hy)
                  have hz8 := aside (show r6.size = 8192 from hz6.trans hz'.out)
                  have z0 := s6.cel Z 0 0 rfl
                  have z1 := s6.cel Z 0 1 rfl
                  have z2 := s6.cel Z 0 2 rfl
                  have z3 := s6.cel Z 0 3 rfl
                  simp only [Nat.zero_add] at z0 z1 z2 z3
                  have x0 := s6.cel X 0 0 rfl
                  have x1 := s6.cel X 0 1 rfl
                  simp only [Nat.zero_add] at x0 x1
                  have p0 := s6.cel P 0 0 rfl
                  have p1 := s6.cel P 0 1 rfl
                  have p2 := s6.cel P 0 2 rfl
                  have p3 := s6.cel P 0 3 rfl
                  simp only [Nat.zero_add] at p0 p1 p2 p3
                  replace hm6 := aside hm6
                  clear s5 hz6 hl6
                  go_wp2_with fail
                  refine c_refRingWant s6 rm' (by omega) (by omega) n d a u tn hnb hub.out htn ?_
                  intro w7 H7 B7 n7 c7 le7 rm7 s7
                  rw [← hm6.out] at rm7
                  have s8q0 := s7.cel X 0 0 rfl
                  have s8t0 := (s7.pc X 0).s0 (.int .u64 8192)
                  have s8q1 := s8t0.c 1 rfl
                  have s8 := s8t0.s 1 (by simp) (.slice B7 n7 c7)
                  simp only [List.set_cons_succ, List.set_cons_zero, Nat.zero_add] at s8 s8q0 s8q1
                  have rm8 := rm7.leM (show 13000 + i * 200 + 200 ≤ 13000 + (i + 1) * 200 by omega)
                  have le8 := aside (show ∀ l c, H2 l = some c → H7 l = some c from fun l c h => le7 _ _ (le'.out l c h))
                  clear s6 s7 rm' rm7
                  go_wp2
                  go_roundg (gk - 1)
                  case measure => exact hq2.out.2
                  case rel => exact ⟨i + 1, H7, r6, B7, n7, c7, hq2.out.1, hi20', by go_num, le8, hz8, rm8, ho6, s8.wk⟩
                · have b0 : (kd == 0) = false := by simp [k0]
                  have b1 : (kd == 1) = false := by simp [k1]
                  have b2 : (kd == 2) = false := by simp [k2]
                  have rm8 := rm'.leM (show 13000 + i * 200 ≤ 13000 + (i + 1) * 200 by omega)
                  clear rm'
                  go_wp2
                  go_roundg (gk - 1)
                  case measure => exact hq2.out.2
                  case rel => exact ⟨i + 1, H', r', Bx, nx, cx, hq2.out.1, hi20', by go_num, le', hz', rm8, hout, s5.wk⟩
          · obtain rfl : i = ts.length := by omega
            have rmw := rm0.out.mono le'.out
            have hss := aside (show rg.size = r'.size from (hzg.out.trans hz.out).trans hz'.out.symm)
            have hrg := RamG.rng (d := rg) (o := r') hss.out.symm
            rw [show rg.size = 8192 from hzg.out.trans hz.out, hmg.out] at hrg
            have hdR : difR rg r' 1000 = difL 1000 (dfrom r.mem r'.mem 2147483648 (8192 : Int).toNat) [] := by unfold difR; rw [show rg.size = 8192 from hzg.out.trans hz.out, hmg.out]
            obtain ⟨ds, hds⟩ : ∃ ds, difR rg r' 1000 = ds := ⟨_, rfl⟩
            have hds2 := aside (show difL 1000 (dfrom r.mem r'.mem 2147483648 (8192 : Int).toNat) [] = ds from hdR.symm.trans hds)
            have hpl := aside (show ∀ s ∈ ds, 1 ≤ s.2 ∧ u ≤ s.1 ∧ s.1 + s.2 ≤ u + (8 * n + 6) from fun s hs => by
              rw [← hds2.out] at hs
              obtain ⟨h1, h2⟩ := difL_places s hs
              have hin : ∀ x, s.1 ≤ x → x < s.1 + s.2 → u ≤ x ∧ x < u + (8 * n + 6) := fun x a b => by
                have hne := (mem_dfrom.1 (h2 x a b)).2.2
                exact Classical.byContradiction fun hn => hne (hout.out x hn).symm
              have a1 := hin s.1 (by omega) (by omega)
              have a2 := hin (s.1 + s.2 - 1) (by omega) (by omega)
              exact ⟨h1, a1.1, by omega⟩)
            have sw := (show Sat W wr H' (ramL ⟨g, 0, none⟩ (rg, none) ++ (ramL ⟨b, 0, none⟩ (r', none) ++ (cellsH ⟨X, 0, none⟩ [.int .u64 8192, .slice Bx nx cx] :: cellsH ⟨Y, 0, none⟩ [.int .u64 8192, .slice B n0 c] :: cellsH ⟨Z, 0, none⟩ [.int .i64 n, .int .u64 d, .int .u64 a, .int .u64 u] :: []))) from s'.wk)
            have hle20 : ts.length ≤ 20 := hi20
            replace hds := aside hds
            replace hrg := aside hrg
            replace rmw := aside rmw
            replace rm' := aside rm'
            replace hq := aside hq
            clear s' hi20 hout hdR hat
            go_wp2_with fail
            refine c_ramDiffer sw hss.out.symm 1000 (by omega) ?_
            intro w7 v7 h7 own7 s7
            rw [hds.out] at own7
            have rd7' := own7.rdS
            obtain ⟨A7, c7, rfl, rd7⟩ := rd7'.open_
            obtain ⟨_, hc71, hc72, g7⟩ := rd7.span
            have z0 := s7.cel Z 0 0 rfl
            have z1 := s7.cel Z 0 1 rfl
            have z2 := s7.cel Z 0 2 rfl
            have z3 := s7.cel Z 0 3 rfl
            simp only [Nat.zero_add] at z0 z1 z2 z3
            clear sw own7 rd7'
            go_wp2_with fail
            refine c_refAreas s7 n d a u (by omega) ?_
            intro w8 g8 s8
            clear s7
            simp only [areaVs] at s8
            obtain ⟨N, hN⟩ : ∃ N, ds.length = N := ⟨_, rfl⟩
            rw [hN] at hc71 ⊢
            have hN9 : (N : Int) ≤ 9223372036854775807 := by omega
            replace hN := aside hN
            replace g7 := aside g7
            replace rd7 := aside rd7
            clear z0 z1 z2 z3
            go_wp2
            go_loopg [16] N (fun q v16 w' => ∃ (j : Nat), q + j = N ∧ v16 = .int .i64 j ∧ Sat W w' H' (cellsH ⟨g8, 0, none⟩ [.int .u64 d, .int .u64 (16 * n), .int .u64 a, .int .u64 (2 * n + 6), .int .u64 u, .int .u64 (8 * n + 6)] :: h7 :: cellsH ⟨X, 0, none⟩ [.int .u64 8192, .slice Bx nx cx] :: cellsH ⟨Y, 0, none⟩ [.int .u64 8192, .slice B n0 c] :: []))
            case atStart => exact ⟨0, by simp, rfl, s8.wk⟩
            clear s8
            case round =>
              obtain ⟨j, hqj, rfl, s'⟩ := hrel
              by_cases hj : j < N
              · have hj2 : (j : Int) < N := by omega
                obtain ⟨b7, o7, rfl, hc0, hc1⟩ := g7.out j (by have := hN.out; omega)
                have hp := hpl.out (ds[j]'(by have := hN.out; omega)) (List.getElem_mem _)
                have d0 := (Sat.pull (h := h7) s').head.cell hc0
                have d1 := (Sat.pull (h := h7) s').head.cell hc1
                obtain ⟨p, hp1⟩ : ∃ p, (ds[j]'(by have := hN.out; omega)).1 = p := ⟨_, rfl⟩
                obtain ⟨q, hq1⟩ : ∃ q, (ds[j]'(by have := hN.out; omega)).2 = q := ⟨_, rfl⟩
                rw [hp1] at d0 hp
                rw [hq1] at d1 hp
                have a4 := s'.cel g8 0 4 rfl
                have a5 := s'.cel g8 0 5 rfl
                simp only [Nat.zero_add] at a4 a5
                obtain ⟨E1, hE1⟩ : ∃ e, p - u = e := ⟨_, rfl⟩
                obtain ⟨E2, hE2⟩ : ∃ e, 8 * n + 6 - q = e := ⟨_, rfl⟩
                have e1 : IntKind.u64.wrap (p - u) = E1 := by rw [wrap_u64]; omega
                have e2 : IntKind.u64.wrap (8 * n + 6 - q) = E2 := by rw [wrap_u64]; omega
                have t1 : decide (p < u) = false := by simp; omega
                have t2 : decide (E2 < E1) = false := by simp; omega
                have hqj2 := aside (show gk - 1 + (j + 1) = N ∧ gk - 1 < gk by omega)
                replace hp1 := aside hp1
                replace hq1 := aside hq1
                replace hE1 := aside hE1
                replace hE2 := aside hE2
                replace hp := aside hp
                replace hqj := aside hqj
                clear hc0 hc1
                go_wp2
                go_quiet (fail)
                have s2 := s'.drewN nq
                clear s' d0 d1 a4 a5 e1 e2 t1 t2
                go_wp2
                go_roundg (gk - 1)
                case measure => exact hqj2.out.2
                case rel => exact ⟨j + 1, hqj2.out.1, by go_num, s2⟩
              · obtain rfl : j = N := by omega
                have x0 := s'.cel X 0 0 rfl
                have x1 := s'.cel X 0 1 rfl
                simp only [Nat.zero_add] at x0 x1
                have y0 := s'.cel Y 0 0 rfl
                have y1 := s'.cel Y 0 1 rfl
                simp only [Nat.zero_add] at y0 y1
                clear hqj
                go_wp2_with fail
                refine c_refDiffer s' rmw.out rm'.out (by omega) (by omega) (by omega) hrg.out 1000 (by omega) ?_
                intro w9 v9 h9 own9 s9
                rw [hds2.out] at own9
                have rd9' := own9.rdS
                obtain ⟨A9, c9, rfl, rd9⟩ := rd9'.open_
                replace rd9 := aside rd9
                clear s' own9 rd9' x0 x1 y0 y1
                go_wp2_with fail
                refine c_Same (h1 := h7) (h2 := h9) (Sat.pull (h := h7) s9).head s9.head (by have := rd7.out; rw [hN.out] at this; exact this) rd9.out ?_
                intro n10
                have s10 := s9.drewN n10
                clear s9
                go_wp2
                go_ret
                exact ⟨rfl, hZ ▸ s10.below⟩
    · have hc0 : (chk 8192 n d a u != 0) = true := by
        unfold chk
        by_cases h1 : layP n d a u
        · rw [if_pos h1, if_neg (fun h => hc ⟨h1, h⟩)]; rfl
        · rw [if_neg h1]; rfl
      generalize chk 8192 n d a u = ch at hc0 ⊢
      clear hc
      go_wp2
      go_ret
      exact ⟨rfl, hZ ▸ s4.below⟩
end Go.Proofs.Ytohccblfnjampaa
