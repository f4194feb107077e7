/-
  THE LAW PlicOnce: a source that was claimed isn't claimed again till somebody is done with it.
-/
import Derived.Test.YtohccblfnjampaaPt
namespace Go.Proofs.Ytohccblfnjampaa
open Go.RowKit
set_option linter.unusedVariables false
set_option linter.unusedSimpArgs false



set_option maxRecDepth 100000 in
set_option maxHeartbeats 4000000 in
theorem law_PlicOnce (W : World) {v0 v1 : Value} {qs ms : List OpP} (e0 : sliceE opPE 6 (look W) qs [v0]) (e1 : sliceE opPE 6 (look W) ms [v1]) :
    Calls Try.prog 10 #[v0, v1] W fun e w' => e = .returned (.bool true) ∧ Below W.heap.size W w' := by
  obtain ⟨_, hv1, rm⟩ := e1
  obtain rfl := (List.cons.inj hv1).1
  clear hv1
  obtain ⟨B, c, rfl, hc, hc2, hat⟩ := rm
  replace hat := aside hat
  obtain ⟨_, hv0, rq⟩ := e0
  obtain rfl := (List.cons.inj hv0).1
  clear hv0
  go_enter Try.func10, Try.ntmps10
  go_wp2_with fail
  refine c_plAwake (Sat.start W) ?_
  intro w1 t1
  go_wp2_with fail
  refine c_plPlayed t1 rq ?_
  intro S w2 t2
  clear t1
  have t3 := (t2.alloc (c := pl0.enc) (t := 98)).alloc (c := pl0.ref) (t := 104)
  rw [pl0_enc, pl0_ref] at t3
  obtain ⟨Z, hZ⟩ : ∃ Z, w2.heap.size = Z := ⟨_, rfl⟩
  simp only [World.size_alloc] at t3
  rw [hZ] at t3
  have hsl := S.r_size
  have hsn := S.ref_len
  have hso := S.r_one
  have hcl := S.c_size
  have hcn := S.enc_len
  have hco := S.c_one
  have hlz := pl0.ref_len
  have hcz := pl0.enc_len
  obtain ⟨L, hL⟩ : ∃ L, S.ref = L := ⟨_, rfl⟩
  obtain ⟨C, hC⟩ : ∃ L, S.enc = L := ⟨_, rfl⟩
  rw [hL] at hsl hsn hso ⊢
  rw [hC] at hcl hcn hco ⊢
  obtain ⟨LZ, hLZ⟩ : ∃ L, pl0.ref = L := ⟨_, rfl⟩
  obtain ⟨CZ, hCZ⟩ : ∃ L, pl0.enc = L := ⟨_, rfl⟩
  rw [hLZ] at t3 hlz
  rw [hCZ] at t3 hcz
  clear t2
  replace hL := aside hL
  replace hC := aside hC
  replace hsl := aside hsl
  replace hsn := aside hsn
  replace hso := aside hso
  replace hcl := aside hcl
  replace hcn := aside hcn
  replace hco := aside hco
  replace hlz := aside hlz
  replace hcz := aside hcz
  replace hLZ := aside hLZ
  replace hCZ := aside hCZ
  go_wp2_with (first
    | (refine wpList_storeS rfl 98 (.tmp 5) (.tmp 16) rfl Z 0 rfl rfl t3.swap (by rw [hcz.out, hcn.out]; decide) hcl.out hco.out ?_; intro w4 t4; rw [setR_all (by rw [hcz.out, hcn.out])] at t4)
    | (refine wpList_storeS rfl 104 (.tmp 6) (.tmp 17) rfl (Z + 1) 0 rfl rfl t4.swap (by rw [hlz.out, hsn.out]; decide) hsl.out hso.out ?_; intro w5 t5; rw [setR_all (by rw [hlz.out, hsn.out])] at t5))
  clear t3 t4 hZ
  obtain ⟨q, hq⟩ : ∃ q, (S.take 0).2 = q := ⟨_, rfl⟩
  obtain ⟨S1, hS1⟩ : ∃ s, (S.take 0).1 = s := ⟨_, rfl⟩
  have hle : q ≤ 31 := by have := S.best_le 0; rw [← hq]; unfold PlS.take; split <;> (try split) <;> simp <;> first | exact this | omega
  have hag := fun h0 => S.take_held 0 hq h0
  rw [hS1] at hag
  obtain ⟨C1, hC1⟩ : ∃ C, S1.enc = C := ⟨_, rfl⟩
  have hC1a : (S.take 0).1.enc = C1 := by rw [hS1]; exact hC1
  replace hC1a := aside hC1a
  replace hC1 := aside hC1
  replace hS1 := aside hS1
  replace hq := aside hq
  replace hag := aside hag
  go_wp2_with fail
  refine c_plTakeL (Sat.pull (h := cellsH ⟨Z, 0, none⟩ C) t5) hC.out 0 (by omega) hC1a.out hq.out ?_
  intro w6 t6
  clear t5
  by_cases h0 : q = 0
  · subst h0
    go_wp2
    go_ret
    exact ⟨rfl, t6.below⟩
  · have hq0 : ((q : Int) == 0) = false := by rw [beq_eq_false_iff_ne]; omega
    have hH := aside (hag.out (by omega))
    have hqp : 0 < q := by omega
    clear hag
    replace h0 := aside h0
    go_wp2
    go_loopg [9] ms.length (fun k v9 w' => ∃ (n : Nat) (S' : PlS), k + n = ms.length ∧ v9 = .int .i64 n ∧ S'.Held q ∧ Sat W w' (look W) (cellsH ⟨Z, 0, none⟩ S'.enc :: []))
    case atStart => exact ⟨0, S1, rfl, rfl, hH.out, by rw [hC1.out]; exact t6.wk⟩
    clear t6
    case round =>
      obtain ⟨n, S', hq9, rfl, hH', t⟩ := hrel
      obtain ⟨C', hC'⟩ : ∃ C, S'.enc = C := ⟨_, rfl⟩
      rw [hC'] at t
      replace hH' := aside hH'
      by_cases hn : n < ms.length ∧ n < 30
      · obtain ⟨o, hon⟩ : ∃ x, ms[n]? = some x := ⟨_, List.getElem?_eq_getElem hn.1⟩
        obtain ⟨eb, eo, vs, rfl, hvs, hvl, hcell⟩ := hat.out n o hon
        have hvs2 : o.vals = vs := hvs.symm
        obtain ⟨kd, qn, qm, qh, qa, qv, b1, b2, b3, b4, b5⟩ := o
        rw [← hvs2] at hcell
        simp only [OpP.vals, List.cons_append, List.nil_append, List.singleton_append] at hcell
        have g0 := Holds.cell t.ro (hcell 0 _ rfl)
        have g1 := Holds.cell t.ro (hcell 1 _ rfl)
        have g2 := Holds.cell t.ro (hcell 2 _ rfl)
        have g3 := Holds.cell t.ro (hcell 3 _ rfl)
        have g4 := Holds.cell t.ro (hcell 4 _ rfl)
        have g5 := Holds.cell t.ro (hcell 5 _ rfl)
        simp only [Nat.add_zero] at g0
        have i1 : (0 : Int) ≤ n ∧ (n : Int) < ms.length := by omega
        have i2 : (n : Int) < 30 := by omega
        have t2 := t.alloc (c := [.int .i64 kd, .int .i64 qn, .int .i64 qm, .bool qh, .int .u64 qa, .int .u64 qv]) (t := 110)
        obtain ⟨Y, hY⟩ : ∃ Y, wr.heap.size = Y := ⟨_, rfl⟩
        rw [hY] at t2
        have y0 := t2.cel Y 0 0 rfl
        have y1 := t2.cel Y 0 1 rfl
        have y2 := t2.cel Y 0 2 rfl
        have y3 := t2.cel Y 0 3 rfl
        have y4 := t2.cel Y 0 4 rfl
        have y5 := t2.cel Y 0 5 rfl
        simp only [Nat.zero_add] at y0 y1 y2 y3 y4 y5
        clear hcell hvs hvs2 hvl hon
        replace hq9 := aside hq9
        replace hC' := aside hC'
        by_cases k2 : kd = 2
        · subst k2
          go_wp2
          go_roundg (gk - 1)
          case measure => have := hq9.out; omega
          case rel => exact ⟨n + 1, S', by have := hq9.out; omega, by go_num, hH'.out, by rw [hC'.out]; exact t2.wk⟩
        by_cases k4 : kd = 4
        · subst k4
          go_wp2
          go_roundg (gk - 1)
          case measure => have := hq9.out; omega
          case rel => exact ⟨n + 1, S', by have := hq9.out; omega, by go_num, hH'.out, by rw [hC'.out]; exact t2.wk⟩
        have d2 : (kd == 2) = false := by rw [beq_eq_false_iff_ne]; exact k2
        have d4 : (kd == 4) = false := by rw [beq_eq_false_iff_ne]; exact k4
        clear k2 k4
        by_cases k1 : kd = 1
        · subst k1
          obtain ⟨hT, hTne⟩ := S'.held_take hH'.out hqp (by omega) qn
          obtain ⟨p, hp⟩ : ∃ p, (S'.take qn).2 = p := ⟨_, rfl⟩
          obtain ⟨C2, hC2⟩ : ∃ C, (S'.take qn).1.enc = C := ⟨_, rfl⟩
          rw [hp] at hTne
          have dne : ((p : Int) == q) = false := by rw [beq_eq_false_iff_ne]; omega
          replace hT := aside hT
          replace hp := aside hp
          replace hC2 := aside hC2
          replace hTne := aside hTne
          go_wp2_with fail
          refine c_plTakeL (Sat.pull (h := cellsH ⟨Z, 0, none⟩ C') t2) hC'.out qn b2 hC2.out hp.out ?_
          intro w7 t7
          clear y0 y1 y2 y3 y4 y5 t2 hY
          have y0 := t7.cel Y 0 0 rfl
          have y1 := t7.cel Y 0 1 rfl
          have y2 := t7.cel Y 0 2 rfl
          have y3 := t7.cel Y 0 3 rfl
          have y4 := t7.cel Y 0 4 rfl
          have y5 := t7.cel Y 0 5 rfl
          simp only [Nat.zero_add] at y0 y1 y2 y3 y4 y5
          go_wp2
          go_roundg (gk - 1)
          case measure => have := hq9.out; omega
          case rel => exact ⟨n + 1, (S'.take qn).1, by have := hq9.out; omega, by go_num, hT.out, by rw [hC2.out]; exact t7.wk⟩
        have d1 : (kd == 1) = false := by rw [beq_eq_false_iff_ne]; exact k1
        clear k1
        by_cases k0 : kd = 0
        · subst k0
          have hT := S'.held_line hH'.out (by omega) qn qh
          obtain ⟨C2, hC2⟩ : ∃ C, (S'.line qn qh).enc = C := ⟨_, rfl⟩
          replace hT := aside hT
          replace hC2 := aside hC2
          go_wp2_with fail
          refine c_plLineL (Sat.pull (h := cellsH ⟨Z, 0, none⟩ C') t2) hC'.out qn qh b2 hC2.out ?_
          intro w7 t7
          clear y0 y1 y2 y3 y4 y5 t2 hY
          go_wp2
          go_roundg (gk - 1)
          case measure => have := hq9.out; omega
          case rel => exact ⟨n + 1, S'.line qn qh, by have := hq9.out; omega, by go_num, hT.out, by rw [hC2.out]; exact t7.wk⟩
        · have d0 : (kd == 0) = false := by rw [beq_eq_false_iff_ne]; exact k0
          clear k0
          go_wp2
          go_roundg (gk - 1)
          case measure => have := hq9.out; omega
          case rel => exact ⟨n + 1, S', by have := hq9.out; omega, by go_num, hH'.out, by rw [hC'.out]; exact t2.wk⟩
      · have hn2 : (ms.length : Int) ≤ n ∨ ((n : Int) < ms.length ∧ (30 : Int) ≤ n) := by omega
        obtain ⟨hT, hTne⟩ := S'.held_take hH'.out hqp (by omega) 0
        obtain ⟨p, hp⟩ : ∃ p, (S'.take 0).2 = p := ⟨_, rfl⟩
        obtain ⟨S2, hS2⟩ : ∃ p, (S'.take 0).1 = p := ⟨_, rfl⟩
        obtain ⟨C2, hC2⟩ : ∃ C, S2.enc = C := ⟨_, rfl⟩
        have hC2a : (S'.take 0).1.enc = C2 := by rw [hS2]; exact hC2
        rw [hp] at hTne
        rw [hS2] at hT
        have hT2 := (S2.held_take hT hqp (by omega) 1).2
        obtain ⟨p2, hp2⟩ : ∃ p, (S2.take 1).2 = p := ⟨_, rfl⟩
        obtain ⟨C3, hC3⟩ : ∃ C, (S2.take 1).1.enc = C := ⟨_, rfl⟩
        rw [hp2] at hT2
        have dne : ((p : Int) != q) = true := by rw [bne_iff_ne]; omega
        have dne2 : ((p2 : Int) != q) = true := by rw [bne_iff_ne]; omega
        clear hn hq9 hT hTne hT2
        replace hp := aside hp
        replace hS2 := aside hS2
        replace hC2 := aside hC2
        replace hC2a := aside hC2a
        replace hp2 := aside hp2
        replace hC3 := aside hC3
        replace hC' := aside hC'
        rcases hn2 with hn2 | ⟨hn3, hn2⟩
        all_goals
          go_wp2_with fail
          refine c_plTakeL t hC'.out 0 (by omega) hC2a.out hp.out ?_
          intro w7 t7
          go_wp2_with fail
          refine c_plTakeL t7 hC2.out 1 (by omega) hC3.out hp2.out ?_
          intro w8 t8
          go_wp2
          go_ret
          exact ⟨rfl, t8.below⟩
end Go.Proofs.Ytohccblfnjampaa
