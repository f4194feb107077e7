/-
  QueueHeads returns true for every memory, queue and number; no condition.
-/
import Derived.Test.YtiibiamobkhlbaaUQm
import Derived.Test.YtiibiamobkhlbaaUQn
import Derived.Test.YtiibiamobkhlbaaG7
import Derived.Test.YtiibiamobkhlbaaG6
set_option linter.unusedVariables false
set_option linter.unusedSimpArgs false
namespace Go.Proofs.Ytiibiamobkhlbaa
open Go.RowKit
set_option linter.unusedVariables false
set_option linter.unusedSimpArgs false

theorem head_run (av : Array Value) (w : World) : Sem.run Try.prog (callFunc 17 av) w = .ok (.enter 17 av) w :=
  enters_q Try.func17 (by kernel_rfl) rfl av w


set_option maxRecDepth 100000 in
set_option maxHeartbeats 4000000 in
theorem law_QueueHeads (W : World) {v0 : Value} {ps : List PutM} {cs1 : Array Value} {o : QueD} {rmx : Int} {v2 : Value} (e0 : sliceE putE 2 (look W) ps [v0]) (e1 : queE (look W) o cs1.toList) (e2 : intE (look W) rmx [v2]) :
    Calls Try.prog 3 #[v0, .agg cs1, v2] W fun e w' => e = .returned (.bool true) ∧ Below W.heap.size W w' := by
  obtain ⟨hv2, hb0⟩ := e2
  obtain rfl := (List.cons.inj hv2).1
  clear hv2
  obtain ⟨_, hv0, e0⟩ := e0
  obtain rfl := (List.cons.inj hv0).1
  clear hv0
  replace e0 : Rd putE 2 (look W) v0 ps := e0
  obtain rfl : cs1 = (o.vals).toArray := by apply Array.ext'; simpa [queE] using e1
  clear e1
  obtain ⟨⟨n, d, a, u, hn, hd, ha, hu⟩, rdy, fet, us, ev, ind, hfet, hus⟩ := o
  simp only [QueD.vals, LayM.vals, List.cons_append, List.nil_append] at *
  have s0 := ((Sat.start W).alloc (c := [.int .i64 n, .int .u64 d, .int .u64 a, .int .u64 u, .bool rdy, .int .i64 fet, .int .i64 us, .bool ev, .bool ind]) (t := 27)).alloc (c := [.int .i64 rmx]) (t := 3)
  obtain ⟨X, hX⟩ : ∃ X, W.heap.size = X := ⟨_, rfl⟩
  obtain ⟨X2, hX2⟩ : ∃ y, X + 1 = y := ⟨_, rfl⟩
  simp only [World.size_alloc, hX, hX2] at s0
  replace e0 := aside e0
  go_enter Try.func3, Try.ntmps3
  go_wp2_with fail
  refine c_queueAwake s0 ?_
  intro w1 H1 le1 s1
  clear s0
  go_wp2_with fail
  refine c_Memory s1 (e0.out.mono putE_mono le1) ?_ ?_
  · intro w2 H2 v2 m2 le2 r2 s2
    obtain ⟨B, n2, c, rfl⟩ := r2.shapeM
    have s3 := s2.alloc (c := [.int .u64 8192, .slice B n2 c]) (t := 32)
    clear s1
    go_wp2
    go_ret
    exact ⟨rfl, hX ▸ s3.below⟩
  intro w2 H2 v2 b r le2 hz rm s2
  obtain ⟨B, n2, c2, rfl⟩ := rm.shapeM
  have s3 := s2.alloc (c := [.int .u64 8192, .slice B n2 c2]) (t := 32)
  obtain ⟨Y, hY⟩ : ∃ Y, w2.heap.size = Y := ⟨_, rfl⟩
  rw [hY] at s3
  have x0 := s3.cel X 0 0 rfl
  have x1 := s3.cel X 0 1 rfl
  have x2 := s3.cel X 0 2 rfl
  have x3 := s3.cel X 0 3 rfl
  have x4 := s3.cel X 0 4 rfl
  have x5 := s3.cel X 0 5 rfl
  have x6 := s3.cel X 0 6 rfl
  have x7 := s3.cel X 0 7 rfl
  have x8 := s3.cel X 0 8 rfl
  simp only [Nat.zero_add] at x0 x1 x2 x3 x4 x5 x6 x7 x8
  replace rm := aside rm
  replace hz := aside hz
  clear s1 s2 le1 le2
  go_wp2_with fail
  refine c_lawRight n d a u fet us rdy ev ind s3 ?_
  intro w4 s4
  clear s3 x0 x1 x2 x3 x4 x5 x6 x7 x8
  have j0 := s4.cel X2 0 0 rfl
  simp only [Nat.zero_add] at j0
  have x0 := s4.cel X 0 0 rfl
  have x1 := s4.cel X 0 1 rfl
  have x2 := s4.cel X 0 2 rfl
  have x3 := s4.cel X 0 3 rfl
  simp only [Nat.zero_add] at x0 x1 x2 x3
  have y0 := s4.cel Y 0 0 rfl
  have y1 := s4.cel Y 0 1 rfl
  simp only [Nat.zero_add] at y0 y1
  by_cases hr : (0 ≤ fet ∧ fet < 65536) ∧ 0 ≤ us ∧ us < 65536
  · rw [decide_eq_true hr]
    by_cases g2 : rmx < 0
    · skip
      go_wp2
      go_ret
      exact ⟨rfl, hX ▸ s4.below⟩
    by_cases g3 : 40 < rmx
    · skip
      go_wp2
      go_ret
      exact ⟨rfl, hX ▸ s4.below⟩
    obtain ⟨room, rfl⟩ : ∃ room : Nat, rmx = room := ⟨rmx.toNat, by omega⟩
    go_wp2_with fail
    refine c_refCheck s4 rm.out (by omega) n d a u hn hd ha hu ?_
    intro w5 s5
    clear s4 j0 x0 x1 x2 x3 y0 y1
    have x0 := s5.cel X 0 0 rfl
    have x1 := s5.cel X 0 1 rfl
    have x2 := s5.cel X 0 2 rfl
    have x3 := s5.cel X 0 3 rfl
    have x4 := s5.cel X 0 4 rfl
    have x5 := s5.cel X 0 5 rfl
    have x6 := s5.cel X 0 6 rfl
    have x7 := s5.cel X 0 7 rfl
    have x8 := s5.cel X 0 8 rfl
    simp only [Nat.zero_add] at x0 x1 x2 x3 x4 x5 x6 x7 x8
    have j0 := s5.cel X2 0 0 rfl
    simp only [Nat.zero_add] at j0
    obtain ⟨CK, hCK⟩ : ∃ y, chk 8192 n d a u = y := ⟨_, rfl⟩
    rw [hCK]
    by_cases hc0 : CK = 0
    · subst hc0
      by_cases hrd : rdy = true
      · have hrd2 := aside hrd
        rw [hrd] at x4
        clear hrd
        obtain ⟨q, rfl, rfl, rfl, rfl, rfl, rfl, rfl, rfl, rfl⟩ : ∃ q : QuM, q.n = n ∧ q.d = d ∧ q.a = a ∧ q.u = u ∧ q.rdy = rdy ∧ q.fet = fet ∧ q.us = us ∧ q.ev = ev ∧ q.ind = ind := ⟨⟨n, d, a, u, rdy, fet, us, ev, ind, hn, hd, ha, hu, by omega, by omega⟩, rfl, rfl, rfl, rfl, rfl, rfl, rfl, rfl, rfl⟩
        clear hn hd ha hu hfet hus
        have hok : q.okP 8192 := QuM.okP_chk.2 hCK
        have hpw : powP q.n := hok.1.1
        have hn := powP_bd hpw
        have hus8 := hok.2
        have hab := aside (show (2147483648 ≤ q.a ∧ q.a + (2 * q.n + 6) ≤ 2147483648 + 8192) ∧ 2147483648 ≤ q.u ∧ q.u + (8 * q.n + 6) ≤ 2147483648 + 8192 from by unfold liesP hasP at hus8; omega)
        replace hCK := aside hCK
        replace hpw := aside hpw
        replace hok := aside hok
        replace hr := aside hr
        clear hus8
        go_wp2_with fail
        refine c_lawApart s5 q.n q.d q.a q.u (by omega) ?_
        intro w6 s6
        clear s5 x0 x1 x2 x3 x4 x5 x6 x7 x8 j0
        by_cases hap : apP q.n q.d q.a q.u
        · rw [decide_eq_true hap]
          have hdis := aside (show ∀ y, inAvail q y 1 → ¬ inUsed q y 1 from fun y h1 h2 => by
            have := hab.out
            have h3 := hap 2 (by omega) 1 (by omega)
            unfold inAvail at h1
            unfold inUsed at h2
            exact ovS_apart h3 (show 0 ≤ q.u ∧ q.u ≤ 18446744073709551615 by omega) (show 0 ≤ q.a ∧ q.a ≤ 18446744073709551615 by omega) y (by show q.u ≤ y ∧ y < q.u + (8 * q.n + 6); omega) (by show q.a ≤ y ∧ y < q.a + (2 * q.n + 6); omega))
          clear hap
          have x0 := s6.cel X 0 0 rfl
          have x1 := s6.cel X 0 1 rfl
          have x2 := s6.cel X 0 2 rfl
          have x3 := s6.cel X 0 3 rfl
          have x4 := s6.cel X 0 4 rfl
          have x5 := s6.cel X 0 5 rfl
          have x6 := s6.cel X 0 6 rfl
          have x7 := s6.cel X 0 7 rfl
          have x8 := s6.cel X 0 8 rfl
          simp only [Nat.zero_add] at x0 x1 x2 x3 x4 x5 x6 x7 x8
          go_wp2_with fail
          refine c_lawOf q s6 ?_
          intro w7 s7
          have s8 := (s7.alloc (c := [.int .i64 q.n, .int .u64 q.d, .int .u64 q.a, .int .u64 q.u, .bool q.rdy, .int .u16 q.fet, .int .u16 q.us, .bool q.ev, .bool q.ind]) (t := 40)).alloc (c := [.slice none 0 0]) (t := 42)
          obtain ⟨QB, hQB⟩ : ∃ QB, w7.heap.size = QB := ⟨_, rfl⟩
          obtain ⟨YB, hYB⟩ : ∃ y, QB + 1 = y := ⟨_, rfl⟩
          simp only [World.size_alloc, hQB, hYB] at s8
          have hmf : ∀ (fn : Fn) (first cap : Array Value) (w : World), (Instr.makeFunc fn first cap).run Try.prog w = .ok (.func fn first cap) w := fun _ _ _ _ => rfl
          have s9 : Sat W _ H2 (cellsH ⟨QB, 0, none⟩ q.vals :: ([cellsH ⟨YB, 0, none⟩ [.slice none 0 0], empH, cellsH ⟨X2, 0, none⟩ [.int .i64 (room : Int)], cellsH ⟨Y, 0, none⟩ [.int .u64 8192, .slice B n2 c2], cellsH ⟨X, 0, none⟩ [.int .i64 q.n, .int .u64 q.d, .int .u64 q.a, .int .u64 q.u, .bool q.rdy, .int .i64 q.fet, .int .i64 q.us, .bool q.ev, .bool q.ind]] ++ (ramL ⟨b, 0, none⟩ (r, none) ++ []))) := (show Sat W _ H2 (cellsH ⟨QB, 0, none⟩ [.int .i64 q.n, .int .u64 q.d, .int .u64 q.a, .int .u64 q.u, .bool q.rdy, .int .u16 q.fet, .int .u16 q.us, .bool q.ev, .bool q.ind] :: cellsH ⟨YB, 0, none⟩ [.slice none 0 0] :: empH :: cellsH ⟨X2, 0, none⟩ [.int .i64 (room : Int)] :: cellsH ⟨Y, 0, none⟩ [.int .u64 8192, .slice B n2 c2] :: cellsH ⟨X, 0, none⟩ [.int .i64 q.n, .int .u64 q.d, .int .u64 q.a, .int .u64 q.u, .bool q.rdy, .int .i64 q.fet, .int .i64 q.us, .bool q.ev, .bool q.ind] :: (ramL ⟨b, 0, none⟩ (r, none) ++ [])) from s8.emp.wk)
          clear s6 s7 s8 x0 x1 x2 x3 x4 x5 x6 x7 x8
          go_wp2_with fail
          have ha4 : 0 ≤ q.a ∧ q.a ≤ 4294967295 := by have := hab.out; omega
          refine c_qServe head_run (dev_head YB X2 Y X b room (by omega) 8192 r.mem r.hmem (by omega) q ha4 hn B n2 c2) q [] ⟨Nat.zero_le _, rm.out.leM (by omega), none, 0, empH, OwnS.nil 1, rfl⟩ s9 ?_
          intro f hf w10 H10 X10 r10 l10 le10 hX10 hm10 hz10 hl10 s10
          obtain rfl := hl10.none rfl
          clear s9 le10 hl10
          obtain ⟨_, _, A10, c10, hp10, own10, rfl⟩ := hX10
          simp only [List.cons_append, List.nil_append] at s10
          rw [hz.out] at hf hz10
          obtain ⟨e1, e2, e3, e4⟩ := head_end r.hmem hpw.out hdis.out hf
          rw [← hm10] at e3 e4
          obtain ⟨hs, hhs⟩ : ∃ l, f.st = l := ⟨_, rfl⟩
          rw [hhs] at e1 e2 e3 e4 own10 s10
          obtain ⟨N, hN⟩ : ∃ N, hs.length = N := ⟨_, rfl⟩
          rw [hN] at e1 e2 e4 own10 s10
          obtain ⟨U1, hU1⟩ : ∃ y, f.q.us = y := ⟨_, rfl⟩
          have hU1b := f.q.hus
          rw [hU1] at e1 e4 hU1b
          have hqb := q.hus
          have ew1 : IntKind.u16.wrap q.us = q.us := by rw [wrap_u16]; omega
          have ew2 : IntKind.u16.wrap (U1 - q.us) = (N : Int) := by rw [wrap_u16]; exact e1
          have ew3 : IntKind.i64.wrap (N : Int) = N := by simp [IntKind.wrap, IntKind.bits, IntKind.signed]; omega
          have ew4 : IntKind.i64.wrap ((N : Int) - q.n) = N - q.n := by simp [IntKind.wrap, IntKind.bits, IntKind.signed]; omega
          have hmx : ¬ (0 : Int) < N - q.n := by omega
          have hnn : ¬ q.n < (N : Int) := by omega
          have s11 : Sat W w10 H10 (ramL ⟨b, 0, none⟩ (r10, none) ++ (hp10 :: cellsH ⟨YB, 0, none⟩ [.slice A10 N c10] :: cellsH ⟨X, 0, none⟩ [.int .i64 q.n, .int .u64 q.d, .int .u64 q.a, .int .u64 q.u, .bool q.rdy, .int .i64 q.fet, .int .i64 q.us, .bool q.ev, .bool q.ind] :: cellsH ⟨QB, 0, none⟩ f.q.vals :: [])) := s10.wk
          have u6 := s11.cel QB 0 6 rfl
          rw [hU1] at u6
          simp only [Nat.zero_add] at u6
          have x0 := s11.cel X 0 0 rfl
          have x1 := s11.cel X 0 1 rfl
          have x2 := s11.cel X 0 2 rfl
          have x3 := s11.cel X 0 3 rfl
          have x4 := s11.cel X 0 4 rfl
          have x5 := s11.cel X 0 5 rfl
          have x6 := s11.cel X 0 6 rfl
          have x7 := s11.cel X 0 7 rfl
          have x8 := s11.cel X 0 8 rfl
          simp only [Nat.zero_add] at x0 x1 x2 x3 x4 x5 x6 x7 x8
          have v0 := s11.cel YB 0 0 rfl
          simp only [Nat.zero_add] at v0
          clear s10 hf
          replace hU1 := aside hU1
          replace hN := aside hN
          replace hhs := aside hhs
          replace hm10 := aside hm10
          replace hz10 := aside hz10
          replace e1 := aside e1
          replace e3 := aside e3
          replace e4 := aside e4
          replace own10 := aside own10
          go_wp2
          clear x0 x1 x2 x3 x4 x5 x6 x7 x8 v0 u6
          have hz8 := aside (show r10.size = 8192 from hz10.out)
          go_loopg [14] N (fun p v14 w' => ∃ (i : Nat), p + i = N ∧ v14 = .int .i64 i ∧ Sat W w' H10 (ramL ⟨b, 0, none⟩ (r10, none) ++ (hp10 :: cellsH ⟨YB, 0, none⟩ [.slice A10 N c10] :: cellsH ⟨X, 0, none⟩ [.int .i64 q.n, .int .u64 q.d, .int .u64 q.a, .int .u64 q.u, .bool q.rdy, .int .i64 q.fet, .int .i64 q.us, .bool q.ev, .bool q.ind] :: cellsH ⟨QB, 0, none⟩ f.q.vals :: [])))
          case atStart => exact ⟨0, by simp, rfl, s11⟩
          clear s11
          case round =>
            obtain ⟨i, hp, rfl, s'⟩ := hrel
            have x0 := s'.cel X 0 0 rfl
            have x1 := s'.cel X 0 1 rfl
            have x2 := s'.cel X 0 2 rfl
            have x3 := s'.cel X 0 3 rfl
            have x4 := s'.cel X 0 4 rfl
            have x5 := s'.cel X 0 5 rfl
            have x6 := s'.cel X 0 6 rfl
            have x7 := s'.cel X 0 7 rfl
            have x8 := s'.cel X 0 8 rfl
            simp only [Nat.zero_add] at x0 x1 x2 x3 x4 x5 x6 x7 x8
            by_cases hi : i < N
            · have i1 : (0 : Int) ≤ i ∧ (i : Int) < N := by omega
              obtain ⟨HD, hHD⟩ : ∃ x, hs[i]? = some x := ⟨_, List.getElem?_eq_getElem (by rw [hN.out]; exact hi)⟩
              obtain ⟨hld, hHDb⟩ := e3.out i HD hHD
              have hsb := slotQ_bd hpw.out (q := q) i
              have hab2 := hab.out
              obtain ⟨T1, hT1⟩ : ∃ y, (q.us + (i : Int)) % 65536 = y := ⟨_, rfl⟩
              obtain ⟨T2, hT2⟩ : ∃ y, T1 % q.n = y := ⟨_, rfl⟩
              have hSL : slotQ q i = q.u + 4 + 8 * T2 := by unfold slotQ; rw [hT1, hT2]
              have hT1b : 0 ≤ T1 ∧ T1 ≤ 65535 := by omega
              have hT2b : 0 ≤ T2 ∧ T2 ≤ 255 := by
                have := Int.emod_nonneg T1 (show q.n ≠ 0 by omega)
                have := Int.emod_lt_of_pos T1 (show 0 < q.n by omega)
                omega
              have ea : IntKind.i64.wrap (q.us + (i : Int)) = q.us + i := by simp [IntKind.wrap, IntKind.bits, IntKind.signed]; omega
              have eb : (q.us + (i : Int)).tmod 65536 = T1 := by rw [Int.tmod_eq_emod_of_nonneg (by omega)]; exact hT1
              have ec : T1.tmod q.n = T2 := by rw [Int.tmod_eq_emod_of_nonneg (by omega)]; exact hT2
              have ed : IntKind.u64.wrap T2 = T2 := by rw [wrap_u64]; omega
              have ee : IntKind.u64.wrap (8 * T2) = 8 * T2 := by rw [wrap_u64]; omega
              have ef : IntKind.u64.wrap (q.u + 4) = q.u + 4 := by rw [wrap_u64]; omega
              have eg : IntKind.u64.wrap (q.u + 4 + 8 * T2) = q.u + 4 + 8 * T2 := by rw [wrap_u64]; omega
              have en0 : ¬ q.n = 0 := by omega
              have hhas := aside (show sizedP 4 ∧ r10.has (q.u + 4 + 8 * T2) 4 from ⟨.inr (.inr (.inl rfl)), by unfold RamG.has; rw [hz8.out]; omega⟩)
              have hSLb := aside (show 0 ≤ q.u + 4 + 8 * T2 ∧ q.u + 4 + 8 * T2 ≤ 18446744073709551615 by omega)
              have hld2 := aside (show ofB (rdB r10.mem (q.u + 4 + 8 * T2) (4 : Int).toNat) = HD by rw [← hSL]; exact hld)
              have eh : IntKind.u64.wrap HD = HD := by rw [wrap_u64]; omega
              have ei : (HD != HD) = false := by simp
              have hp2 := aside (show gk - 1 + (i + 1) = N ∧ gk - 1 < gk by omega)
              replace hHD := aside hHD
              clear hp hld hsb hSL hab2
              replace hT1 := aside hT1
              replace hT2 := aside hT2
              go_wp2
              go_quiet (fail)
              have s2 := s'.drewN nq
              generalize World.drewN wr nq = wq at s2 ⊢
              clear s' x0 x1 x2 x3 x4 x5 x6 x7 x8 ea eb ec ed ee ef eg
              go_wp2_with fail
              refine c_ramLoad s2 (q.u + 4 + 8 * T2) 4 hSLb.out (by omega) (fun h => absurd hhas.out h) (fun _ => ?_)
              rw [hld2.out]
              have hrow := own10.out.row0 (Sat.pull (h := hp10) s2).head N
              obtain ⟨hb', ho', rfl, hat⟩ := hrow (by rw [List.take_of_length_le (by rw [List.length_map, hN.out]; exact Nat.le_refl _)]; intro h0; have := congrArg List.length h0; simp [hN.out] at this; omega)
              have h0 := hat i (.int .u16 HD) (by rw [List.take_of_length_le (by rw [List.length_map, hN.out]; exact Nat.le_refl _), List.getElem?_map, hHD.out]; rfl)
              have v0 := s2.cel YB 0 0 rfl
              simp only [Nat.zero_add] at v0
              clear hat
              go_wp2
              go_roundg (gk - 1)
              case measure => exact hp2.out.2
              case rel => exact ⟨i + 1, hp2.out.1, by go_num, s2⟩
            · obtain rfl : i = N := by omega
              have u6 := s'.cel QB 0 6 rfl
              simp only [Nat.zero_add] at u6
              rw [hU1.out] at u6
              have hab2 := hab.out
              have ef : IntKind.u64.wrap (q.u + 2) = q.u + 2 := by rw [wrap_u64]; omega
              have hhas := aside (show sizedP 2 ∧ r10.has (q.u + 2) 2 from ⟨.inr (.inl rfl), by unfold RamG.has; rw [hz8.out]; omega⟩)
              have hSLb := aside (show 0 ≤ q.u + 2 ∧ q.u + 2 ≤ 18446744073709551615 by omega)
              have eh : IntKind.u64.wrap U1 = U1 := by rw [wrap_u64]; omega
              have ei : (U1 == U1) = true := by simp
              clear hp hab2
              go_wp2_with fail
              refine c_ramLoad s' (q.u + 2) 2 hSLb.out (by omega) (fun h => absurd hhas.out h) (fun _ => ?_)
              by_cases h0 : i = 0
              · subst h0
                obtain ⟨V, hV⟩ : ∃ y, ofB (rdB r10.mem (q.u + 2) (2 : Int).toNat) = y := ⟨_, rfl⟩
                rw [hV]
                go_wp2
                go_ret
                exact ⟨by simp, hX ▸ s'.below⟩
              · have e5 : ofB (rdB r10.mem (q.u + 2) (2 : Int).toNat) = U1 := e4.out h0
                rw [e5]
                have h1 : ¬ (i : Int) = 0 := by omega
                have h2 : ((i : Int) == 0) = false := by simp; omega
                go_wp2
                go_ret
                exact ⟨by simp, hX ▸ s'.below⟩
        · rw [decide_eq_false hap]
          have s4 := s6
          clear hap
          go_wp2
          go_ret
          exact ⟨rfl, hX ▸ s4.below⟩
      · have hf : rdy = false := by simpa using hrd
        rw [hf] at x4
        have s4 := s5
        clear hrd hf
        replace hCK := aside hCK
        go_wp2
        go_ret
        exact ⟨rfl, hX ▸ s4.below⟩
    · have hne : (CK != 0) = true := by simp [hc0]
      have s4 := s5
      replace hCK := aside hCK
      go_wp2
      go_ret
      exact ⟨rfl, hX ▸ s4.below⟩
  · rw [decide_eq_false hr]
    clear hr
    go_wp2
    go_ret
    exact ⟨rfl, hX ▸ s4.below⟩
end Go.Proofs.Ytiibiamobkhlbaa
