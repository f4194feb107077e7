/-
  RAM's laws: a copy has the same bytes, and goes its own way; where two differ is told (RamCopies returns true for all scripts).
-/
import Derived.Test.YtippipfogbgemaaVx
import Derived.Test.YtippipfogbgemaaWb
import Derived.Test.YtippipfogbgemaaWd
import Derived.Test.YtippipfogbgemaaWh
import Derived.Test.YtippipfogbgemaaWi
import Derived.Test.YtippipfogbgemaaVss
namespace Go.Proofs.Ytippipfogbgemaa
open Go.RowKit
set_option linter.unusedVariables false
set_option linter.unusedSimpArgs false

theorem len0R {α : Type} (L : List α) : decide (L = []) = ((L.length : Int) == 0) := by
  cases L with
  | nil => rfl
  | cons a L => simp; omega

set_option maxRecDepth 100000 in
set_option maxHeartbeats 8000000 in
theorem law_RamCopies (W : World) {v0 v1 v2 : Value} {os ms : List OpM} {most : Int} (e0 : sliceE opE 5 (look W) os [v0]) (e1 : sliceE opE 5 (look W) ms [v1]) (e2 : intE (look W) most [v2]) :
    Calls Try.prog 3 #[v0, v1, v2] W fun e w' => e = .returned (.bool true) ∧ Below W.heap.size W w' := by
  obtain ⟨_, hv0, e0⟩ := e0
  obtain rfl := (List.cons.inj hv0).1
  clear hv0
  obtain ⟨_, hv1, e1⟩ := e1
  obtain rfl := (List.cons.inj hv1).1
  clear hv1
  obtain ⟨hv2, hmo⟩ := e2
  obtain rfl := (List.cons.inj hv2).1
  clear hv2
  obtain ⟨D, dc, rfl, rd⟩ := e1.open_
  obtain ⟨A', c', hv, hcc, hcc2, hat⟩ := id rd
  injection hv with ea eb ec
  subst ea ec
  have hlen : (ms.length : Int) ≤ 9223372036854775807 := by omega
  go_enter Try.func3, Try.ntmps3
  go_wp2_with fail
  refine c_ramAwake (Sat.start W) ?_; intro w1 s1
  go_wp2_with fail
  refine c_played s1 e0 ?_ ?_
  · intro w2 H2 v' m' le rm s2
    obtain ⟨B, n, c, rfl⟩ := rm.shape
    have s3 := s2.alloc (c := [.int .u64 8192, .slice B n c]) (t := 28)
    clear s1 s2
    go_wp2
    go_ret
    exact ⟨rfl, s3.below⟩
  · intro w2 H2 v' b d le hzd rm s2
    obtain ⟨B, n, c, rfl⟩ := rm.shape
    have s3 := s2.alloc (c := [.int .u64 8192, .slice B n c]) (t := 28)
    obtain ⟨Y, hY⟩ : ∃ Y, w2.heap.size = Y := ⟨_, rfl⟩
    rw [hY] at s3
    replace hzd := aside hzd
    clear s1 s2
    go_wp2_with fail
    refine c_ramCopy s3 ?_
    intro w4 g dg hsg hmg s4
    have hzg := aside (show dg.size = 8192 from hsg.trans hzd.out)
    have rmg : RefM H2 (.agg #[.int .u64 8192, .slice B n c]) 8192 dg.mem 2000 := by rw [hmg]; exact rm
    have hsame := aside (show sameR d dg = true ∧ sameR dg d = true from ⟨sameR_iff.2 ⟨hsg.symm, fun x _ _ => by rw [hmg]⟩, sameR_iff.2 ⟨hsg, fun x _ _ => by rw [hmg]⟩⟩)
    have hdif := aside (show difR d dg 9 = [] from difR_same 9 (fun x _ _ => by rw [hmg]))
    have hsg2 := aside (show dg.size = d.size from hsg)
    replace hmg := aside hmg
    replace hY := aside hY
    have s5 := sat_swapR (l := none) (l2 := none) s4
    clear s3 s4 hsg
    go_wp2_with fail
    refine c_ramSame s5 ?_
    intro w6 s6
    rw [hsame.out.1]
    have s7 := sat_swapR s6
    clear s5 s6
    go_wp2_with fail
    refine c_ramSame s7 ?_
    intro w8 s8
    rw [hsame.out.2]
    have s9 := sat_swapR s8
    clear s7 s8
    go_wp2_with fail
    refine c_ramDiffer s9 hsg2.out 9 (by omega) ?_
    intro w10 v10 h10 own10 s10
    rw [hdif.out] at own10
    obtain ⟨A10, c10, sp10, rfl, _⟩ := own10
    have y0 := s10.cel Y 0 0 rfl
    have y1 := s10.cel Y 0 1 rfl
    have s11 := s10.alloc (c := [.int .u64 8192, .slice B n c]) (t := 28)
    obtain ⟨X, hX⟩ : ∃ X, w10.heap.size = X := ⟨_, rfl⟩
    rw [hX] at s11
    simp only [Nat.zero_add] at y0 y1
    clear s9 s10
    go_wp2
    clear y0 y1
    go_loopg [12] ms.length (fun q v12 w' => ∃ (i : Nat) (H' : Hp) (dx : RamG) (Bx : Option Addr) (nx cx : Nat), q + i = ms.length ∧ i ≤ 20 ∧ v12 = .int .i64 i ∧ (∀ l c, H2 l = some c → H' l = some c) ∧ dx.size = 8192 ∧ RefM H' (.agg #[.int .u64 8192, .slice Bx nx cx]) 8192 dx.mem (2000 + i * 64) ∧
      Sat W w' H' (ramL ⟨g, 0, none⟩ (dx, none) ++ (cellsH ⟨X, 0, none⟩ [.int .u64 8192, .slice Bx nx cx] :: (ramL ⟨b, 0, none⟩ (d, none) ++ (cellsH ⟨Y, 0, none⟩ [.int .u64 8192, .slice B n c] :: [])))))
    case atStart => exact ⟨0, H2, dg, B, n, c, by simp, by omega, rfl, fun _ _ h => h, hzg.out, rmg, s11.wk⟩
    have rm0 := aside rm
    clear s11 rmg rm
    case round =>
      obtain ⟨i, H', dx, Bx, nx, cx, hq, hi30, rfl, lex, hz, rm, s'⟩ := hrel
      have y0 := s'.cel X 0 0 rfl
      have y1 := s'.cel X 0 1 rfl
      simp only [Nat.zero_add] at y0 y1
      by_cases hi : i < ms.length ∧ i < 20
      · obtain ⟨hi1, hi2⟩ := hi
        obtain ⟨bb, ob, vs, rfl, ⟨dv, rfl, rdv⟩, _, hcell⟩ := hat i ms[i] (by simp [hi1])
        have hcl := fun j u hu => (hcell j u hu).imp fun fr hf => lex _ _ (le _ _ hf)
        have rdv' := rdv.mono u8E_mono (fun l c h => lex l c (le l c h))
        have x0 := s'.ro.cell (hcl 0 _ rfl)
        have x1 := s'.ro.cell (hcl 1 _ rfl)
        have x2 := s'.ro.cell (hcl 2 _ rfl)
        have x3 := s'.ro.cell (hcl 3 _ rfl)
        have x4 := s'.ro.cell (hcl 4 _ rfl)
        generalize ms[i] = op at *
        rw [Nat.add_zero] at x0
        obtain ⟨E, ec, rfl, rdw⟩ := rdv'.open_
        clear hcell hat rdv
        go_wp2_with fail
        refine c_small s' op rdw ?_
        intro w6 s6
        by_cases hsm : op.small
        · rw [decide_eq_true hsm]
          have y0 := s6.cel X 0 0 rfl
          have y1 := s6.cel X 0 1 rfl
          simp only [Nat.zero_add] at y0 y1
          have x0 := s6.ro.cell (hcl 0 _ rfl)
          have x1 := s6.ro.cell (hcl 1 _ rfl)
          have x2 := s6.ro.cell (hcl 2 _ rfl)
          have x3 := s6.ro.cell (hcl 3 _ rfl)
          have x4 := s6.ro.cell (hcl 4 _ rfl)
          rw [Nat.add_zero] at x0
          have s6a := s6.alloc (c := [.int .u64 0, .slice none 0 0]) (t := 28)
          obtain ⟨Q, hQ⟩ : ∃ Q, w6.heap.size = Q := ⟨_, rfl⟩
          rw [hQ] at s6a
          clear s'
          go_wp2
          go_region_held3 (fun w' => w'.cell? ⟨X, 0, none⟩ = some (.int .u64 8192) ∧ w'.cell? ⟨X, 1, none⟩ = some (.slice Bx nx cx) ∧ w'.cell? ⟨bb, ob + i * 5, none⟩ = some (.int .i64 op.kind) ∧ w'.cell? ⟨bb, ob + i * 5 + 1, none⟩ = some (.int .u64 op.at') ∧ w'.cell? ⟨bb, ob + i * 5 + 2, none⟩ = some (.int .i64 op.n) ∧ w'.cell? ⟨bb, ob + i * 5 + 3, none⟩ = some (.int .u64 op.w) ∧ w'.cell? ⟨bb, ob + i * 5 + 4, none⟩ = some (.slice E op.data.length ec))
            (first
              | exact ⟨y0.1, y1.1, x0, x1, x2, x3, x4⟩
              | exact ⟨(s6a.cel X 0 0 rfl).1, (s6a.cel X 0 1 rfl).1, s6a.ro.cell (hcl 0 _ rfl), s6a.ro.cell (hcl 1 _ rfl), s6a.ro.cell (hcl 2 _ rfl), s6a.ro.cell (hcl 3 _ rfl), s6a.ro.cell (hcl 4 _ rfl)⟩
              | exact ⟨(s8.cel X 0 0 rfl).1, (s8.cel X 0 1 rfl).1, s8.ro.cell ((hcl 0 _ rfl).imp fun fr hf => le7 _ _ hf), s8.ro.cell ((hcl 1 _ rfl).imp fun fr hf => le7 _ _ hf), s8.ro.cell ((hcl 2 _ rfl).imp fun fr hf => le7 _ _ hf), s8.ro.cell ((hcl 3 _ rfl).imp fun fr hf => le7 _ _ hf), s8.ro.cell ((hcl 4 _ rfl).imp fun fr hf => le7 _ _ hf)⟩
              | exact ⟨(s7a.cel X 0 0 rfl).1, (s7a.cel X 0 1 rfl).1, s7a.ro.cell ((hcl 0 _ rfl).imp fun fr hf => le7 _ _ hf), s7a.ro.cell ((hcl 1 _ rfl).imp fun fr hf => le7 _ _ hf), s7a.ro.cell ((hcl 2 _ rfl).imp fun fr hf => le7 _ _ hf), s7a.ro.cell ((hcl 3 _ rfl).imp fun fr hf => le7 _ _ hf), s7a.ro.cell ((hcl 4 _ rfl).imp fun fr hf => le7 _ _ hf)⟩
              | exact ⟨(s7.cel X 0 0 rfl).1, (s7.cel X 0 1 rfl).1, s7.ro.cell ((hcl 0 _ rfl).imp fun fr hf => le7 _ _ hf), s7.ro.cell ((hcl 1 _ rfl).imp fun fr hf => le7 _ _ hf), s7.ro.cell ((hcl 2 _ rfl).imp fun fr hf => le7 _ _ hf), s7.ro.cell ((hcl 3 _ rfl).imp fun fr hf => le7 _ _ hf), s7.ro.cell ((hcl 4 _ rfl).imp fun fr hf => le7 _ _ hf)⟩)
            (first
              | (go_at_call 21; refine c_do s6.drew (by rw [hz]; exact rm) (by omega) op hsm rdw ?_; intro w7 H7 v7 r7 le7 hz7 rm7 s7; rw [hz7, hz] at rm7; obtain ⟨B7, n7, c7, rfl⟩ := rm7.shape; have s7a := s7.alloc (c := [.int .u64 0, .slice none 0 0]) (t := 28); have s8 := s7.alloc (c := [.int .u64 8192, .slice B7 n7 c7]) (t := 28))
              | (go_at_call 21; refine c_do s6a.drew (by rw [hz]; exact rm) (by omega) op hsm rdw ?_; intro w7 H7 v7 r7 le7 hz7 rm7 s7; rw [hz7, hz] at rm7; obtain ⟨B7, n7, c7, rfl⟩ := rm7.shape; have q0 := s7.cel Q 0 0 rfl; have q1 := (Sat.s0 (Sat.pull (h := cellsH ⟨Q, 0, none⟩ [.int .u64 0, .slice none 0 0]) s7) (.int .u64 8192)).c 1 rfl; have s8 := (Sat.s0 (Sat.pull (h := cellsH ⟨Q, 0, none⟩ [.int .u64 0, .slice none 0 0]) s7) (.int .u64 8192)).s 1 (by simp) (.slice B7 n7 c7); simp only [List.set_cons_succ, List.set_cons_zero, Nat.zero_add] at s8 q0 q1))
          · obtain ⟨P, hP⟩ : ∃ P, w7.heap.size = P := ⟨_, rfl⟩
            rw [hP] at s8
            simp only [hP]
            have b0 := s8.cel P 0 0 rfl
            have b1 := s8.cel P 0 1 rfl
            have u0 := s8.cel X 0 0 rfl
            have u1 := (Sat.s0 (Sat.pull (h := cellsH ⟨X, 0, none⟩ [.int .u64 8192, .slice Bx nx cx]) s8) (.int .u64 8192)).c 1 rfl
            have s9 := (Sat.s0 (Sat.pull (h := cellsH ⟨X, 0, none⟩ [.int .u64 8192, .slice Bx nx cx]) s8) (.int .u64 8192)).s 1 (by simp) (.slice B7 n7 c7)
            simp only [List.set_cons_succ, List.set_cons_zero, Nat.zero_add] at s9 b0 b1 u0 u1
            have hz8 : r7.size = 8192 := by omega
            have rm8 := rm7.le (show 2000 + i * 64 + 64 ≤ 2000 + (i + 1) * 64 by omega)
            generalize hW8 : World.alloc w7 _ = w8 at s8 b0 b1 u0 u1 s9 ⊢
            clear s8 s7 s6 y0 y1 x0 x1 x2 x3 x4 hW8
            go_wp2
            go_roundg (gk - 1)
            case measure => omega
            case rel => exact ⟨i + 1, H7, r7, B7, n7, c7, by omega, by omega, by go_num, fun l c h => le7 _ _ (lex l c h), hz8, rm8, s9.wk⟩
          · have b0 := s8.cel Q 0 0 rfl
            have b1 := s8.cel Q 0 1 rfl
            have u0 := s8.cel X 0 0 rfl
            have u1 := (Sat.s0 (Sat.pull (h := cellsH ⟨X, 0, none⟩ [.int .u64 8192, .slice Bx nx cx]) s8) (.int .u64 8192)).c 1 rfl
            have s9 := (Sat.s0 (Sat.pull (h := cellsH ⟨X, 0, none⟩ [.int .u64 8192, .slice Bx nx cx]) s8) (.int .u64 8192)).s 1 (by simp) (.slice B7 n7 c7)
            simp only [List.set_cons_succ, List.set_cons_zero, Nat.zero_add] at s9 b0 b1 u0 u1
            have hz8 : r7.size = 8192 := by omega
            have rm8 := rm7.le (show 2000 + i * 64 + 64 ≤ 2000 + (i + 1) * 64 by omega)
            generalize hW8 : World.setCell (World.setCell w7 _ _) _ _ = w8 at s8 b0 b1 u0 u1 s9 ⊢
            clear s8 s7 s6 y0 y1 x0 x1 x2 x3 x4 hW8
            go_wp2
            go_roundg (gk - 1)
            case measure => omega
            case rel => exact ⟨i + 1, H7, r7, B7, n7, c7, by omega, by omega, by go_num, fun l c h => le7 _ _ (lex l c h), hz8, rm8, s9.wk⟩
        · rw [decide_eq_false hsm]
          clear s' y0 y1
          go_wp2
          go_ret
          exact ⟨rfl, s6.below⟩
      · clear hat rd
        have hcase : (i = 20 ∧ (20 : Int) < ms.length) ∨ (ms.length : Int) ≤ i := by omega
        have rmd := rm0.out.mono lex
        have hszx := aside (show dx.size = d.size from hz.trans hzd.out.symm)
        have hrg := aside (RamG.rng (d := d) (o := dx) (hz.trans hzd.out.symm))
        rw [hzd.out] at hrg
        have hss := aside (sameR_len (d := d) (o := dx) (hz.trans hzd.out.symm))
        have hdR := aside (show ∀ m, difR d dx m = difL m (dfrom d.mem dx.mem 2147483648 (8192 : Int).toNat) [] from fun m => by unfold difR; rw [hzd.out])
        have s6d := s'
        have hmo1 := hmo
        have yy0 := s6d.cel Y 0 0 rfl
        have yy1 := s6d.cel Y 0 1 rfl
        simp only [Nat.zero_add] at yy0 yy1
        replace rm := aside (rm.le (show 2000 + i * 64 ≤ 4000 by omega))
        clear hi hi30 hcc hcc2 le lex e0
        replace rmd := aside rmd
        replace hq := aside hq
        replace hz := aside hz
        rcases hcase with ⟨rfl, hx⟩ | hx
        all_goals
          go_wp2_with fail
          refine c_refDiffer s6d rmd.out rm.out (by omega) (by omega) (by omega) hrg.out most hmo1 ?_
          intro w7 v7 h7 own7 s7
          have own7r := own7.rdS
          obtain ⟨A7, c7, rfl, rd7⟩ := own7r.open_
          have s8 := (show Sat W w7 H' (ramL ⟨b, 0, none⟩ (d, none) ++ (ramL ⟨g, 0, none⟩ (dx, none) ++ (h7 :: cellsH ⟨X, 0, none⟩ [.int .u64 8192, .slice Bx nx cx] :: cellsH ⟨Y, 0, none⟩ [.int .u64 8192, .slice B n c] :: []))) from s7.wk).drew
          have g8 := (And.intro ((s8.cel X 0 0 rfl).1) (And.intro ((s8.cel X 0 1 rfl).1) (And.intro ((s8.cel Y 0 0 rfl).1) ((s8.cel Y 0 1 rfl).1))))
          simp only [Nat.zero_add, Nat.add_zero] at g8
          replace rd7 := aside rd7
          clear s6d s' own7 own7r s7 yy0 yy1 y0 y1
          go_wp2
          go_region_held3 (fun w' => w'.cell? ⟨X, 0, none⟩ = some (.int .u64 8192) ∧ w'.cell? ⟨X, 1, none⟩ = some (.slice Bx nx cx) ∧ w'.cell? ⟨Y, 0, none⟩ = some (.int .u64 8192) ∧ w'.cell? ⟨Y, 1, none⟩ = some (.slice B n c))
            (first
              | with_reducible exact g8
              | with_reducible exact g9
              | with_reducible exact g10
              | with_reducible exact g11
              | with_reducible exact g12)
            (first
              | (go_at_call 22; have hs := s11; with_reducible (refine c_refDiffer hs rmd.out rm.out (by omega) (by omega) (by omega) hrg.out 1 (by omega) ?_); intro w12 v12 h12 own12 s12
                 obtain ⟨A12, c12, sp12, rfl, _⟩ := id own12
                 rw [← hdR.out 1] at own12 ⊢
                 have g12 := (And.intro ((s12.cel X 0 0 rfl).1) (And.intro ((s12.cel X 0 1 rfl).1) (And.intro ((s12.cel Y 0 0 rfl).1) ((s12.cel Y 0 1 rfl).1))))
                 simp only [Nat.zero_add, Nat.add_zero] at g12
                 have arm : True := trivial)
              | (go_at_call 18; have hs := s10; with_reducible (refine c_ramSame hs ?_); intro w11 s11; rw [hss.out]
                 have g11 := (And.intro ((s11.cel X 0 0 rfl).1) (And.intro ((s11.cel X 0 1 rfl).1) (And.intro ((s11.cel Y 0 0 rfl).1) ((s11.cel Y 0 1 rfl).1))))
                 simp only [Nat.zero_add, Nat.add_zero] at g11
                 have arm : True := trivial)
              | (go_at_call 23; have hs := s9; (refine c_Same hs.head (Sat.pull (h := h7) hs).head rd9.out rd7.out ?_); intro n10
                 have s10 := hs.tail1.drewN n10
                 have g10 := (And.intro ((s10.cel X 0 0 rfl).1) (And.intro ((s10.cel X 0 1 rfl).1) (And.intro ((s10.cel Y 0 0 rfl).1) ((s10.cel Y 0 1 rfl).1))))
                 simp only [Nat.zero_add, Nat.add_zero] at g10
                 have arm : True := trivial)
              | (go_at_call 19; have hs := s8; with_reducible (refine c_ramDiffer hs hszx.out most hmo1 ?_); intro w9 v9 h9 own9 s9
                 rw [hdR.out most] at own9
                 have own9r := own9.rdS
                 obtain ⟨A9, c9, rfl, rd9⟩ := own9r.open_
                 replace rd9 := aside rd9
                 have g9 := (And.intro ((s9.cel X 0 0 rfl).1) (And.intro ((s9.cel X 0 1 rfl).1) (And.intro ((s9.cel Y 0 0 rfl).1) ((s9.cel Y 0 1 rfl).1))))
                 simp only [Nat.zero_add, Nat.add_zero] at g9
                 have arm : True := trivial))
          all_goals
            go_wp2
            go_ret
            exact ⟨by simp; exact len0R _, s12.below⟩
end Go.Proofs.Ytippipfogbgemaa
