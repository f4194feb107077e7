/-
  THE LAW PlicAgain: a source whose line is held up waits again when its server is done with it.
-/
import Derived.Test.YtohccblfnjampaaPt
namespace Go.Proofs.Ytohccblfnjampaa
open Go.RowKit
set_option linter.unusedVariables false
set_option linter.unusedSimpArgs false

theorem bit_eq1 {V : Int} (x : W32) (q : Nat) (hV : wn x = V) : (bits BinOp.and IntKind.u32 (V / 2 ^ q) 1 == 1) = x.getLsbD q := by
  have hb := wn_bd x
  rw [hV] at hb
  rw [and1_32 ⟨Int.ediv_nonneg hb.1 (Int.pow_nonneg (by decide)), Int.le_trans (Int.ediv_le_self _ hb.1) hb.2⟩, ← hV]; exact wn_bit x q
theorem bit_eq0 {V : Int} (x : W32) (q : Nat) (hV : wn x = V) : (bits BinOp.and IntKind.u32 (V / 2 ^ q) 1 == 0) = !x.getLsbD q := by
  rw [← bit_eq1 x q hV]
  have hb := wn_bd x
  rw [hV] at hb
  rw [and1_32 ⟨Int.ediv_nonneg hb.1 (Int.pow_nonneg (by decide)), Int.le_trans (Int.ediv_le_self _ hb.1) hb.2⟩]
  have : V / 2 ^ q % 2 = 0 ∨ V / 2 ^ q % 2 = 1 := by omega
  rcases this with h | h <;> rw [h] <;> rfl

set_option maxRecDepth 100000 in
set_option maxHeartbeats 4000000 in
theorem law_PlicAgain (W : World) {v0 v1 : Value} {qs : List OpP} {c : Int} (e0 : sliceE opPE 6 (look W) qs [v0]) (e1 : intE (look W) c [v1]) :
    Calls Try.prog 12 #[v0, v1] W fun e w' => e = .returned (.bool true) ∧ Below W.heap.size W w' := by
  obtain ⟨h0, hc0, hc1⟩ := e1
  obtain rfl : v1 = _ := List.cons.inj h0 |>.1
  clear h0
  obtain ⟨_, hv0, rq⟩ := e0
  obtain rfl := (List.cons.inj hv0).1
  clear hv0
  go_enter Try.func12, Try.ntmps12
  go_wp2_with fail
  refine c_plAwake (Sat.start W) ?_
  intro w1 t1
  go_wp2_with fail
  refine c_plPlayed t1 rq ?_
  intro S w2 t2
  clear t1
  have t3 := (t2.alloc (c := pl0.enc) (t := 98)).alloc (c := pl0.ref) (t := 104)
  rw [pl0_enc, pl0_ref] at t3
  obtain ⟨Z, hZ⟩ : ∃ Z, w2.heap.size = Z := ⟨_, rfl⟩
  simp only [World.size_alloc] at t3
  rw [hZ] at t3
  have hsl := S.r_size
  have hsn := S.ref_len
  have hso := S.r_one
  have hcl := S.c_size
  have hcn := S.enc_len
  have hco := S.c_one
  have hlz := pl0.ref_len
  have hcz := pl0.enc_len
  obtain ⟨L, hL⟩ : ∃ L, S.ref = L := ⟨_, rfl⟩
  obtain ⟨C, hC⟩ : ∃ L, S.enc = L := ⟨_, rfl⟩
  rw [hL] at hsl hsn hso ⊢
  rw [hC] at hcl hcn hco ⊢
  obtain ⟨LZ, hLZ⟩ : ∃ L, pl0.ref = L := ⟨_, rfl⟩
  obtain ⟨CZ, hCZ⟩ : ∃ L, pl0.enc = L := ⟨_, rfl⟩
  rw [hLZ] at t3 hlz
  rw [hCZ] at t3 hcz
  clear t2
  replace hL := aside hL
  replace hC := aside hC
  replace hsl := aside hsl
  replace hsn := aside hsn
  replace hso := aside hso
  replace hcl := aside hcl
  replace hcn := aside hcn
  replace hco := aside hco
  replace hlz := aside hlz
  replace hcz := aside hcz
  replace hLZ := aside hLZ
  replace hCZ := aside hCZ
  by_cases hcv : c < 0 ∨ 1 < c
  · rcases hcv with hcv | hcv
    all_goals
      go_wp2_with (first
    | (refine wpList_storeS rfl 98 (.tmp 5) (.tmp 15) rfl Z 0 rfl rfl t3.swap (by rw [hcz.out, hcn.out]; decide) hcl.out hco.out ?_; intro w4 t4; rw [setR_all (by rw [hcz.out, hcn.out])] at t4)
    | (refine wpList_storeS rfl 104 (.tmp 6) (.tmp 16) rfl (Z + 1) 0 rfl rfl t4.swap (by rw [hlz.out, hsn.out]; decide) hsl.out hso.out ?_; intro w5 t5; rw [setR_all (by rw [hlz.out, hsn.out])] at t5))
      go_ret
      exact ⟨rfl, t5.below⟩
  · have hv0 : ¬ c < 0 := by omega
    have hv1 : ¬ 1 < c := by omega
    clear hcv
    go_wp2_with (first
    | (refine wpList_storeS rfl 98 (.tmp 5) (.tmp 15) rfl Z 0 rfl rfl t3.swap (by rw [hcz.out, hcn.out]; decide) hcl.out hco.out ?_; intro w4 t4; rw [setR_all (by rw [hcz.out, hcn.out])] at t4)
    | (refine wpList_storeS rfl 104 (.tmp 6) (.tmp 16) rfl (Z + 1) 0 rfl rfl t4.swap (by rw [hlz.out, hsn.out]; decide) hsl.out hso.out ?_; intro w5 t5; rw [setR_all (by rw [hlz.out, hsn.out])] at t5))
    clear t3 t4 hZ
    obtain ⟨q, hq⟩ : ∃ q, (S.take c).2 = q := ⟨_, rfl⟩
    obtain ⟨S1, hS1⟩ : ∃ s, (S.take c).1 = s := ⟨_, rfl⟩
    have hle : q ≤ 31 := by have := S.best_le c.toNat; rw [← hq]; unfold PlS.take; split <;> (try split) <;> simp <;> first | exact this | omega
    have hag := fun h0 => S.again c hq h0
    rw [hS1] at hag
    obtain ⟨S2, hS2⟩ : ∃ s, S1.done c q = s := ⟨_, rfl⟩
    rw [hS2] at hag
    have ea := S1.eH
    have eb := S2.eW
    have ec := S2.eS
    obtain ⟨X1, hX1⟩ : ∃ x, wn S1.high = x := ⟨_, rfl⟩
    obtain ⟨X2, hX2⟩ : ∃ x, wn S2.waits = x := ⟨_, rfl⟩
    obtain ⟨X3, hX3⟩ : ∃ x, wn S2.serving = x := ⟨_, rfl⟩
    rw [hX1] at ea
    rw [hX2] at eb
    rw [hX3] at ec
    have f1 := bit_eq1 S1.high q hX1
    have f2 := bit_eq1 S2.waits q hX2
    have f3 := bit_eq0 S2.serving q hX3
    have bX1 := wn_bd S1.high
    have bX2 := wn_bd S2.waits
    have bX3 := wn_bd S2.serving
    rw [hX1] at bX1
    rw [hX2] at bX2
    rw [hX3] at bX3
    obtain ⟨C1, hC1⟩ : ∃ C, S1.enc = C := ⟨_, rfl⟩
    obtain ⟨C2, hC2⟩ : ∃ C, S2.enc = C := ⟨_, rfl⟩
    have hC1a : (S.take c).1.enc = C1 := by rw [hS1]; exact hC1
    have hC2a : (S1.done c q).enc = C2 := by rw [hS2]; exact hC2
    rw [hC1] at ea
    rw [hC2] at eb ec
    replace hC1a := aside hC1a
    replace hC2a := aside hC2a
    replace hC1 := aside hC1
    replace hC2 := aside hC2
    replace ea := aside ea
    replace eb := aside eb
    replace ec := aside ec
    replace hX1 := aside hX1
    replace hX2 := aside hX2
    replace hX3 := aside hX3
    replace hS1 := aside hS1
    replace hS2 := aside hS2
    replace hq := aside hq
    replace f1 := aside f1
    replace f2 := aside f2
    replace f3 := aside f3
    replace hag := aside hag
    replace bX1 := aside bX1
    replace bX2 := aside bX2
    replace bX3 := aside bX3
    go_wp2_with fail
    refine c_plTakeL (Sat.pull (h := cellsH ⟨Z, 0, none⟩ C) t5) hC.out c ⟨hc0, hc1⟩ hC1a.out hq.out ?_
    intro w6 t6
    clear t5
    by_cases h0 : q = 0
    · subst h0
      go_wp2
      go_ret
      exact ⟨rfl, t6.below⟩
    · have hq0 : ((q : Int) == 0) = false := by rw [beq_eq_false_iff_ne]; omega
      obtain ⟨g1, g2⟩ := hag.out (by omega)
      have y1 := (t6.c 32 ea.out).1
      simp only [Nat.zero_add] at y1
      have F1 := f1.out
      have B1 := bX1.out
      have iq : (0 : Int) ≤ q ∧ (q : Int) < 32 := by omega
      obtain ⟨hb, hhb⟩ : ∃ b, S1.high.getLsbD q = b := ⟨_, rfl⟩
      rw [hhb] at F1 g1
      replace g1 := aside g1
      replace g2 := aside g2
      replace hhb := aside hhb
      replace h0 := aside h0
      go_wp2_with fail
      refine c_plDoneL t6 hC1.out c q ⟨hc0, hc1⟩ (by omega) hC2a.out ?_
      intro w7 t7
      have y2 := (t7.c 33 eb.out).1
      have y3 := (t7.c 34 ec.out).1
      simp only [Nat.zero_add] at y2 y3
      have F2 := f2.out
      have F3 := f3.out
      have B2 := bX2.out
      have B3 := bX3.out
      rw [g1.out] at F2
      rw [g2.out] at F3
      clear t6 y1 F1 B1
      have hbb : (hb == hb) = true := by simp
      go_wp2
      go_ret
      exact ⟨by simp, t7.below⟩
end Go.Proofs.Ytohccblfnjampaa
