/-
  DISK's laws: a copy is alike in everything, and goes its own way; whether two hold the same is told (DiskCopies returns true for every disk and both scripts).
-/
import Derived.Test.YtohccblfnjampaaVej
import Derived.Test.YtohccblfnjampaaVct
import Derived.Test.YtohccblfnjampaaVaa
namespace Go.Proofs.Ytohccblfnjampaa
open Go.RowKit
set_option linter.unusedVariables false
set_option linter.unusedSimpArgs false

theorem sameD_memC {d o : DiskG} (hc : d.count = o.count) (hm : d.mem = o.mem) : sameD d o = true := by
  unfold sameD underD alikeAt
  simp [hc, hm]

theorem RefD.row {H : Hp} {B : Option Addr} {N c : Nat} {lk' : Bool} {f' q' fl' : Int} {C : Nat} {m : Int → Int} {lk : Bool} {f q fl : Int} (r : RefD H (.agg #[.slice B N c, .bool lk', .int .u64 f', .int .u64 q', .int .u64 fl']) C m lk f q fl) : N = 512 * C ∧ Rd u8E 1 H (.slice B N c) (rdB m 0 N) := by
  obtain ⟨B2, N2, c2, e1, hN1, rdx⟩ := r.open_
  injection e1 with e1; injection e1 with e1; injection e1 with e1 _; injection e1 with e2 e3 e4
  subst e2 e3 e4
  exact ⟨hN1, rdx⟩

set_option maxRecDepth 100000 in
set_option maxHeartbeats 8000000 in
theorem law_DiskCopies (W : World) {v0 v1 v2 : Value} {l : Bool} {os ms : List OpD} (e00 : boolE (look W) l [v0]) (e0 : sliceE opdE 4 (look W) os [v1]) (e1 : sliceE opdE 4 (look W) ms [v2]) :
    Calls Try.prog 14 #[v0, v1, v2] W fun e w' => e = .returned (.bool true) ∧ Below W.heap.size W w' := by
  obtain rfl : v0 = _ := List.cons.inj e00 |>.1
  clear e00
  obtain ⟨_, hv1, e0⟩ := e0
  obtain rfl := (List.cons.inj hv1).1
  clear hv1
  obtain ⟨_, hv2, e1⟩ := e1
  obtain rfl := (List.cons.inj hv2).1
  clear hv2
  obtain ⟨D, dc, rfl, rd⟩ := e1.open_
  obtain ⟨A', c', hv, hcc, hcc2, hat⟩ := id rd
  injection hv with ea eb ec
  subst ea ec
  have hlen : (ms.length : Int) ≤ 9223372036854775807 := by omega
  go_enter Try.func14, Try.ntmps14
  go_wp2_with fail
  refine c_diskAwake (Sat.start W) ?_; intro w1 s1
  go_wp2_with fail
  refine c_lawDPlayed s1 l e0 ?_ ?_
  · intro w2 H2 B N c lk f q fl le s2
    have s3 := s2.alloc (c := [.slice B N c, .bool lk, .int .u64 f, .int .u64 q, .int .u64 fl]) (t := 51)
    clear s1 s2
    go_wp2
    go_ret
    exact ⟨rfl, s3.below⟩
  · intro w2 H2 v2 b d le hc rf s2
    obtain ⟨B, N, c, lk, f, q, fl, rfl⟩ := rf.shape
    have s3 := s2.alloc (c := [.slice B N c, .bool lk, .int .u64 f, .int .u64 q, .int .u64 fl]) (t := 51)
    obtain ⟨Y, hY⟩ : ∃ Y, w2.heap.size = Y := ⟨_, rfl⟩
    rw [hY] at s3
    have hcd := hc.1
    replace hc := aside hc
    replace hcd := aside hcd
    clear s1 s2
    go_wp2_with fail
    refine c_diskCopy s3 ?_
    intro w4 g dg lk4 hm4 s4
    have rfg : RefD H2 (.agg #[.slice B N c, .bool lk, .int .u64 f, .int .u64 q, .int .u64 fl]) 4 dg.mem dg.locked dg.fault dg.reqs dg.flushes := by rw [hm4, lk4.locked, lk4.fault, lk4.reqs, lk4.flushes]; exact rf
    have hcg := aside (show dg.count = 4 from lk4.count.trans hcd.out)
    replace lk4 := aside lk4
    replace hm4 := aside hm4
    replace hY := aside hY
    have z0 := s4.cel Y 0 0 rfl
    have z1 := s4.cel Y 0 1 rfl
    have z2 := s4.cel Y 0 2 rfl
    have z3 := s4.cel Y 0 3 rfl
    have z4 := s4.cel Y 0 4 rfl
    simp only [Nat.zero_add] at z0 z1 z2 z3 z4
    clear s3
    go_wp2_with fail
    refine c_lawDSame (b := g) (d := dg) s4 rfg (by rw [hcg.out]; rfl) (by omega) ?_
    intro w5 s5
    have z0 := s5.cel Y 0 0 rfl
    have z1 := s5.cel Y 0 1 rfl
    have z2 := s5.cel Y 0 2 rfl
    have z3 := s5.cel Y 0 3 rfl
    have z4 := s5.cel Y 0 4 rfl
    simp only [Nat.zero_add] at z0 z1 z2 z3 z4
    clear s4
    go_wp2_with fail
    refine c_diskSame s5 ?_
    intro w6 s6
    rw [sameD_memC lk4.out.count hm4.out]
    have z0 := s6.cel Y 0 0 rfl
    have z1 := s6.cel Y 0 1 rfl
    have z2 := s6.cel Y 0 2 rfl
    have z3 := s6.cel Y 0 3 rfl
    have z4 := s6.cel Y 0 4 rfl
    simp only [Nat.zero_add] at z0 z1 z2 z3 z4
    have s7 := s6.alloc (c := [.slice B N c, .bool lk, .int .u64 f, .int .u64 q, .int .u64 fl]) (t := 51)
    obtain ⟨X, hX⟩ : ∃ X, w6.heap.size = X := ⟨_, rfl⟩
    rw [hX] at s7
    clear s5 s6
    go_wp2
    clear z0 z1 z2 z3 z4
    go_loopg [12] ms.length (fun q' v12 w' => ∃ (i : Nat) (H' : Hp) (dx : DiskG) (Bx : Option Addr) (Nx cx : Nat) (lkx : Bool) (fx qx flx : Int), q' + i = ms.length ∧ i ≤ 8 ∧ v12 = .int .i64 i ∧ (∀ l c, H2 l = some c → H' l = some c) ∧ Aside (dx.count = 4) ∧ RefD H' (.agg #[.slice Bx Nx cx, .bool lkx, .int .u64 fx, .int .u64 qx, .int .u64 flx]) 4 dx.mem dx.locked dx.fault dx.reqs dx.flushes ∧
      Sat W w' H' (diskL ⟨g, 0, none⟩ dx ++ (cellsH ⟨X, 0, none⟩ [.slice Bx Nx cx, .bool lkx, .int .u64 fx, .int .u64 qx, .int .u64 flx] :: (diskL ⟨b, 0, none⟩ d ++ (cellsH ⟨Y, 0, none⟩ [.slice B N c, .bool lk, .int .u64 f, .int .u64 q, .int .u64 fl] :: [])))))
    case atStart => exact ⟨0, H2, dg, B, N, c, lk, f, q, fl, by simp, by omega, rfl, fun _ _ h => h, hcg.out, rfg, s7.wk⟩
    clear s7 rfg
    case round =>
      obtain ⟨i, H', dx, Bx, Nx, cx, lkx, fx, qx, flx, hq, hi12, rfl, lex, hc4, rfx, s'⟩ := hrel
      have y0 := s'.cel X 0 0 rfl
      have y1 := s'.cel X 0 1 rfl
      have y2 := s'.cel X 0 2 rfl
      have y3 := s'.cel X 0 3 rfl
      have y4 := s'.cel X 0 4 rfl
      simp only [Nat.zero_add] at y0 y1 y2 y3 y4
      by_cases hi : i < ms.length ∧ i < 8
      · obtain ⟨hi1, hi2⟩ := hi
        obtain ⟨bb, ob, vs, rfl, ⟨dv, rfl, rdv⟩, _, hcell⟩ := hat i ms[i] (by simp [hi1])
        have hcl := fun j u hu => (hcell j u hu).imp fun fr hf => lex _ _ (le _ _ hf)
        have rdv' := rdv.mono u8E_mono (fun l c h => lex l c (le l c h))
        have x0 := s'.ro.cell (hcl 0 _ rfl)
        have x1 := s'.ro.cell (hcl 1 _ rfl)
        have x2 := s'.ro.cell (hcl 2 _ rfl)
        have x3 := s'.ro.cell (hcl 3 _ rfl)
        generalize ms[i] = op at *
        rw [Nat.add_zero] at x0
        obtain ⟨E, ec, rfl, rdw⟩ := rdv'.open_
        clear hcell hat rdv
        go_wp2_with fail
        refine c_smallD s' op rdw ?_
        intro w6 s6
        by_cases hsm : op.small
        · rw [decide_eq_true hsm]
          have s6d := s6.drew
          have s6a := s6.alloc (c := [.slice none 0 0, .bool false, .int .u64 0, .int .u64 0, .int .u64 0]) (t := 51)
          obtain ⟨Q, hQ⟩ : ∃ Q, w6.heap.size = Q := ⟨_, rfl⟩
          rw [hQ] at s6a
          have s6e := s6a.drew
          have s6f := s6d.alloc (c := [.slice none 0 0, .bool false, .int .u64 0, .int .u64 0, .int .u64 0]) (t := 51)
          simp only [show ∀ w : World, w.drew.heap = w.heap from fun _ => rfl, hQ] at s6f
          have g6d := And.intro ((s6d.cel X 0 0 rfl).1) (And.intro ((s6d.cel X 0 1 rfl).1) (And.intro ((s6d.cel X 0 2 rfl).1) (And.intro ((s6d.cel X 0 3 rfl).1) (And.intro ((s6d.cel X 0 4 rfl).1) (And.intro (s6d.ro.cell (hcl 0 _ rfl)) (And.intro (s6d.ro.cell (hcl 1 _ rfl)) (And.intro (s6d.ro.cell (hcl 2 _ rfl)) (s6d.ro.cell (hcl 3 _ rfl)))))))))
          simp only [Nat.zero_add, Nat.add_zero] at g6d
          have g6e := And.intro ((s6e.cel X 0 0 rfl).1) (And.intro ((s6e.cel X 0 1 rfl).1) (And.intro ((s6e.cel X 0 2 rfl).1) (And.intro ((s6e.cel X 0 3 rfl).1) (And.intro ((s6e.cel X 0 4 rfl).1) (And.intro (s6e.ro.cell (hcl 0 _ rfl)) (And.intro (s6e.ro.cell (hcl 1 _ rfl)) (And.intro (s6e.ro.cell (hcl 2 _ rfl)) (s6e.ro.cell (hcl 3 _ rfl)))))))))
          simp only [Nat.zero_add, Nat.add_zero] at g6e
          have g6f := And.intro ((s6f.cel X 0 0 rfl).1) (And.intro ((s6f.cel X 0 1 rfl).1) (And.intro ((s6f.cel X 0 2 rfl).1) (And.intro ((s6f.cel X 0 3 rfl).1) (And.intro ((s6f.cel X 0 4 rfl).1) (And.intro (s6f.ro.cell (hcl 0 _ rfl)) (And.intro (s6f.ro.cell (hcl 1 _ rfl)) (And.intro (s6f.ro.cell (hcl 2 _ rfl)) (s6f.ro.cell (hcl 3 _ rfl)))))))))
          simp only [Nat.zero_add, Nat.add_zero] at g6f
          clear s' y0 y1 y2 y3 y4 x0 x1 x2 x3
          have hc4n : ((4 : Nat) : Int) = dx.count := by rw [hc4.out]; rfl
          replace hc4n := aside hc4n
          have h64 : 4 ≤ 64 := by omega
          go_wp2
          go_region_held3 (fun w' => w'.cell? ⟨X, 0, none⟩ = some (.slice Bx Nx cx) ∧ w'.cell? ⟨X, 1, none⟩ = some (.bool lkx) ∧ w'.cell? ⟨X, 2, none⟩ = some (.int .u64 fx) ∧ w'.cell? ⟨X, 3, none⟩ = some (.int .u64 qx) ∧ w'.cell? ⟨X, 4, none⟩ = some (.int .u64 flx) ∧ w'.cell? ⟨bb, ob + i * 4, none⟩ = some (.int .i64 op.kind) ∧ w'.cell? ⟨bb, ob + i * 4 + 1, none⟩ = some (.int .u64 op.at') ∧ w'.cell? ⟨bb, ob + i * 4 + 2, none⟩ = some (.int .i64 op.n) ∧ w'.cell? ⟨bb, ob + i * 4 + 3, none⟩ = some (.slice E op.data.length ec))
            (first
              | with_reducible exact g6d
              | with_reducible exact g8
              | with_reducible exact g7a
              | with_reducible exact g7
              | with_reducible exact g6e
              | with_reducible exact g6f)
            (first
              | (go_at_call 67; with_reducible (refine c_lawDDoV s6d rfx hc4n.out h64 op hsm rdw ?_); intro w7 H7 v7 d7 le7 hc7 rf7 s7; obtain ⟨B7, N7, c7, lk7, f7, q7, fl7, rfl⟩ := rf7.shape
                 have g7 := And.intro ((s7.cel X 0 0 rfl).1) (And.intro ((s7.cel X 0 1 rfl).1) (And.intro ((s7.cel X 0 2 rfl).1) (And.intro ((s7.cel X 0 3 rfl).1) (And.intro ((s7.cel X 0 4 rfl).1) (And.intro (s7.ro.cell ((hcl 0 _ rfl).imp fun fr hf => le7 _ _ hf)) (And.intro (s7.ro.cell ((hcl 1 _ rfl).imp fun fr hf => le7 _ _ hf)) (And.intro (s7.ro.cell ((hcl 2 _ rfl).imp fun fr hf => le7 _ _ hf)) (s7.ro.cell ((hcl 3 _ rfl).imp fun fr hf => le7 _ _ hf)))))))))
                 simp only [Nat.zero_add, Nat.add_zero] at g7
                 have s7a := s7.alloc (c := [.slice none 0 0, .bool false, .int .u64 0, .int .u64 0, .int .u64 0]) (t := 51)
                 have g7a := And.intro ((s7a.cel X 0 0 rfl).1) (And.intro ((s7a.cel X 0 1 rfl).1) (And.intro ((s7a.cel X 0 2 rfl).1) (And.intro ((s7a.cel X 0 3 rfl).1) (And.intro ((s7a.cel X 0 4 rfl).1) (And.intro (s7a.ro.cell ((hcl 0 _ rfl).imp fun fr hf => le7 _ _ hf)) (And.intro (s7a.ro.cell ((hcl 1 _ rfl).imp fun fr hf => le7 _ _ hf)) (And.intro (s7a.ro.cell ((hcl 2 _ rfl).imp fun fr hf => le7 _ _ hf)) (s7a.ro.cell ((hcl 3 _ rfl).imp fun fr hf => le7 _ _ hf)))))))))
                 simp only [Nat.zero_add, Nat.add_zero] at g7a
                 have s8 := s7.alloc (c := [.slice B7 N7 c7, .bool lk7, .int .u64 f7, .int .u64 q7, .int .u64 fl7]) (t := 51)
                 have g8 := And.intro ((s8.cel X 0 0 rfl).1) (And.intro ((s8.cel X 0 1 rfl).1) (And.intro ((s8.cel X 0 2 rfl).1) (And.intro ((s8.cel X 0 3 rfl).1) (And.intro ((s8.cel X 0 4 rfl).1) (And.intro (s8.ro.cell ((hcl 0 _ rfl).imp fun fr hf => le7 _ _ hf)) (And.intro (s8.ro.cell ((hcl 1 _ rfl).imp fun fr hf => le7 _ _ hf)) (And.intro (s8.ro.cell ((hcl 2 _ rfl).imp fun fr hf => le7 _ _ hf)) (s8.ro.cell ((hcl 3 _ rfl).imp fun fr hf => le7 _ _ hf)))))))))
                 simp only [Nat.zero_add, Nat.add_zero] at g8
                 have arm : True := trivial)
              | (go_at_call 67; (first | with_reducible (refine c_lawDDoV s6e rfx hc4n.out h64 op hsm rdw ?_) | with_reducible (refine c_lawDDoV s6f rfx hc4n.out h64 op hsm rdw ?_)); intro w7 H7 v7 d7 le7 hc7 rf7 s7; obtain ⟨B7, N7, c7, lk7, f7, q7, fl7, rfl⟩ := rf7.shape
                 have g7 := And.intro ((s7.cel X 0 0 rfl).1) (And.intro ((s7.cel X 0 1 rfl).1) (And.intro ((s7.cel X 0 2 rfl).1) (And.intro ((s7.cel X 0 3 rfl).1) (And.intro ((s7.cel X 0 4 rfl).1) (And.intro (s7.ro.cell ((hcl 0 _ rfl).imp fun fr hf => le7 _ _ hf)) (And.intro (s7.ro.cell ((hcl 1 _ rfl).imp fun fr hf => le7 _ _ hf)) (And.intro (s7.ro.cell ((hcl 2 _ rfl).imp fun fr hf => le7 _ _ hf)) (s7.ro.cell ((hcl 3 _ rfl).imp fun fr hf => le7 _ _ hf)))))))))
                 simp only [Nat.zero_add, Nat.add_zero] at g7
                 have s8q0 := s7.cel Q 0 0 rfl
                 have s8t0 := (Sat.pull (h := cellsH ⟨Q, 0, none⟩ [.slice none 0 0, .bool false, .int .u64 0, .int .u64 0, .int .u64 0]) s7).s0 (.slice B7 N7 c7)
                 have s8q1 := s8t0.c 1 rfl
                 have s8t1 := s8t0.s 1 (by simp) (.bool lk7)
                 have s8q2 := s8t1.c 2 rfl
                 have s8t2 := s8t1.s 2 (by simp) (.int .u64 f7)
                 have s8q3 := s8t2.c 3 rfl
                 have s8t3 := s8t2.s 3 (by simp) (.int .u64 q7)
                 have s8q4 := s8t3.c 4 rfl
                 have s8 := s8t3.s 4 (by simp) (.int .u64 fl7)
                 simp only [List.set_cons_succ, List.set_cons_zero, Nat.zero_add] at s8 s8q0 s8q1 s8q2 s8q3 s8q4
                 have g8 := And.intro ((s8.cel X 0 0 rfl).1) (And.intro ((s8.cel X 0 1 rfl).1) (And.intro ((s8.cel X 0 2 rfl).1) (And.intro ((s8.cel X 0 3 rfl).1) (And.intro ((s8.cel X 0 4 rfl).1) (And.intro (s8.ro.cell ((hcl 0 _ rfl).imp fun fr hf => le7 _ _ hf)) (And.intro (s8.ro.cell ((hcl 1 _ rfl).imp fun fr hf => le7 _ _ hf)) (And.intro (s8.ro.cell ((hcl 2 _ rfl).imp fun fr hf => le7 _ _ hf)) (s8.ro.cell ((hcl 3 _ rfl).imp fun fr hf => le7 _ _ hf)))))))))
                 simp only [Nat.zero_add, Nat.add_zero] at g8
                 have arm : True := trivial))
          · obtain ⟨P, hP⟩ : ∃ P, w7.heap.size = P := ⟨_, rfl⟩
            rw [hP] at s8
            try simp only [hP]
            generalize hW8 : World.alloc w7 _ = w8 at s8 ⊢
            clear hW8
            have b0 := s8.cel P 0 0 rfl
            have b1 := s8.cel P 0 1 rfl
            have b2 := s8.cel P 0 2 rfl
            have b3 := s8.cel P 0 3 rfl
            have b4 := s8.cel P 0 4 rfl
            simp only [Nat.zero_add] at b0 b1 b2 b3 b4
            have s9q0 := s8.cel X 0 0 rfl
            have s9t0 := (Sat.pull (h := cellsH ⟨X, 0, none⟩ [.slice Bx Nx cx, .bool lkx, .int .u64 fx, .int .u64 qx, .int .u64 flx]) s8).s0 (.slice B7 N7 c7)
            have s9q1 := s9t0.c 1 rfl
            have s9t1 := s9t0.s 1 (by simp) (.bool lk7)
            have s9q2 := s9t1.c 2 rfl
            have s9t2 := s9t1.s 2 (by simp) (.int .u64 f7)
            have s9q3 := s9t2.c 3 rfl
            have s9t3 := s9t2.s 3 (by simp) (.int .u64 q7)
            have s9q4 := s9t3.c 4 rfl
            have s9 := s9t3.s 4 (by simp) (.int .u64 fl7)
            simp only [List.set_cons_succ, List.set_cons_zero, Nat.zero_add] at s9 s9q0 s9q1 s9q2 s9q3 s9q4
            have hc8 := aside (show d7.count = 4 from hc7.1.trans hc4.out)
            clear s8 s7 s6 s6a s6d s6e s6f
            go_wp2
            go_roundg (gk - 1)
            case measure => omega
            case rel => exact ⟨i + 1, H7, d7, B7, N7, c7, lk7, f7, q7, fl7, by omega, by omega, by go_num, fun l c h => le7 _ _ (lex l c h), hc8, rf7, s9.wk⟩
          · skip
            generalize hW8 : World.setCell (World.setCell (World.setCell (World.setCell (World.setCell w7 _ _) _ _) _ _) _ _) _ _ = w8 at s8 ⊢
            clear hW8
            have b0 := s8.cel Q 0 0 rfl
            have b1 := s8.cel Q 0 1 rfl
            have b2 := s8.cel Q 0 2 rfl
            have b3 := s8.cel Q 0 3 rfl
            have b4 := s8.cel Q 0 4 rfl
            simp only [Nat.zero_add] at b0 b1 b2 b3 b4
            have s9q0 := s8.cel X 0 0 rfl
            have s9t0 := (Sat.pull (h := cellsH ⟨X, 0, none⟩ [.slice Bx Nx cx, .bool lkx, .int .u64 fx, .int .u64 qx, .int .u64 flx]) s8).s0 (.slice B7 N7 c7)
            have s9q1 := s9t0.c 1 rfl
            have s9t1 := s9t0.s 1 (by simp) (.bool lk7)
            have s9q2 := s9t1.c 2 rfl
            have s9t2 := s9t1.s 2 (by simp) (.int .u64 f7)
            have s9q3 := s9t2.c 3 rfl
            have s9t3 := s9t2.s 3 (by simp) (.int .u64 q7)
            have s9q4 := s9t3.c 4 rfl
            have s9 := s9t3.s 4 (by simp) (.int .u64 fl7)
            simp only [List.set_cons_succ, List.set_cons_zero, Nat.zero_add] at s9 s9q0 s9q1 s9q2 s9q3 s9q4
            have hc8 := aside (show d7.count = 4 from hc7.1.trans hc4.out)
            clear s8 s7 s6 s6a s6d s6e s6f
            go_wp2
            go_roundg (gk - 1)
            case measure => omega
            case rel => exact ⟨i + 1, H7, d7, B7, N7, c7, lk7, f7, q7, fl7, by omega, by omega, by go_num, fun l c h => le7 _ _ (lex l c h), hc8, rf7, s9.wk⟩
        · rw [decide_eq_false hsm]
          clear s' y0 y1 y2 y3 y4
          go_wp2
          go_ret
          exact ⟨rfl, s6.below⟩
      · clear hat rd
        have rfd := rf.mono lex
        obtain ⟨bb, hbb⟩ : ∃ bb, decide (rdB dx.mem 0 (512 * 4) = rdB d.mem 0 (512 * 4)) = bb := ⟨_, rfl⟩
        have hsb : sameD dx d = bb := by rw [← hbb]; exact sameD_bytes (by rw [hc4.out]; rfl) (by rw [hcd.out]; rfl)
        obtain ⟨hN1, rdx⟩ := rfx.row
        obtain ⟨hN2, rdd⟩ := rfd.row
        have hdec : decide (rdB dx.mem 0 Nx = rdB d.mem 0 N) = bb := by rw [hN1, hN2]; exact hbb
        have hcx4 := aside (show ((4 : Nat) : Int) = dx.count by rw [hc4.out]; rfl)
        have hcd4 := aside (show ((4 : Nat) : Int) = d.count by rw [hcd.out]; rfl)
        have h64 : 4 ≤ 64 := by omega
        clear hbb hN1 hN2
        replace hsb := aside hsb
        replace hdec := aside hdec
        have s6d := s'.drew
        have g6 := (And.intro ((s6d.cel Y 0 0 rfl).1) (And.intro ((s6d.cel Y 0 1 rfl).1) (And.intro ((s6d.cel Y 0 2 rfl).1) (And.intro ((s6d.cel Y 0 3 rfl).1) (And.intro ((s6d.cel Y 0 4 rfl).1) (And.intro ((s6d.cel X 0 0 rfl).1) (And.intro ((s6d.cel X 0 1 rfl).1) (And.intro ((s6d.cel X 0 2 rfl).1) (And.intro ((s6d.cel X 0 3 rfl).1) ((s6d.cel X 0 4 rfl).1))))))))))
        simp only [Nat.zero_add, Nat.add_zero] at g6
        clear s' y0 y1 y2 y3 y4
        have hcase : (i = 8 ∧ (8 : Int) < ms.length) ∨ (ms.length : Int) ≤ i := by omega
        clear hi hi12 hcc hcc2 le lex e0
        replace rfx := aside rfx
        replace rfd := aside rfd
        replace rdx := aside rdx
        replace rdd := aside rdd
        replace rf := aside rf
        replace hq := aside hq
        rcases hcase with ⟨rfl, hx⟩ | hx
        all_goals
          go_wp2
          go_region_held3 (fun w' => w'.cell? ⟨Y, 0, none⟩ = some (.slice B N c) ∧ w'.cell? ⟨Y, 1, none⟩ = some (.bool lk) ∧ w'.cell? ⟨Y, 2, none⟩ = some (.int .u64 f) ∧ w'.cell? ⟨Y, 3, none⟩ = some (.int .u64 q) ∧ w'.cell? ⟨Y, 4, none⟩ = some (.int .u64 fl) ∧ w'.cell? ⟨X, 0, none⟩ = some (.slice Bx Nx cx) ∧ w'.cell? ⟨X, 1, none⟩ = some (.bool lkx) ∧ w'.cell? ⟨X, 2, none⟩ = some (.int .u64 fx) ∧ w'.cell? ⟨X, 3, none⟩ = some (.int .u64 qx) ∧ w'.cell? ⟨X, 4, none⟩ = some (.int .u64 flx))
            (first
              | with_reducible exact g6
              | with_reducible exact g7
              | with_reducible exact g8
              | with_reducible exact g9
              | with_reducible exact g10)
            (first
              | (go_at_call 44; have hs := s9; with_reducible (refine c_Bytes hs.ro hs.ro rdx.out rdd.out ?_); intro n10; rw [hdec.out]
                 have s10 := s9.drewN n10
                 have g10 := (And.intro ((s10.cel Y 0 0 rfl).1) (And.intro ((s10.cel Y 0 1 rfl).1) (And.intro ((s10.cel Y 0 2 rfl).1) (And.intro ((s10.cel Y 0 3 rfl).1) (And.intro ((s10.cel Y 0 4 rfl).1) (And.intro ((s10.cel X 0 0 rfl).1) (And.intro ((s10.cel X 0 1 rfl).1) (And.intro ((s10.cel X 0 2 rfl).1) (And.intro ((s10.cel X 0 3 rfl).1) ((s10.cel X 0 4 rfl).1))))))))))
                 simp only [Nat.zero_add, Nat.add_zero] at g10
                 have arm : True := trivial)
              | (go_at_call 47; have hs := s8; with_reducible (refine c_diskSame hs ?_); intro w9 s9; rw [hsb.out]
                 have g9 := (And.intro ((s9.cel Y 0 0 rfl).1) (And.intro ((s9.cel Y 0 1 rfl).1) (And.intro ((s9.cel Y 0 2 rfl).1) (And.intro ((s9.cel Y 0 3 rfl).1) (And.intro ((s9.cel Y 0 4 rfl).1) (And.intro ((s9.cel X 0 0 rfl).1) (And.intro ((s9.cel X 0 1 rfl).1) (And.intro ((s9.cel X 0 2 rfl).1) (And.intro ((s9.cel X 0 3 rfl).1) ((s9.cel X 0 4 rfl).1))))))))))
                 simp only [Nat.zero_add, Nat.add_zero] at g9
                 have arm : True := trivial)
              | (go_at_call 26; have hs := s7; with_reducible (refine c_lawDSame (b := g) (d := dx) hs rfx.out hcx4.out h64 ?_); intro w8 s8
                 have g8 := (And.intro ((s8.cel Y 0 0 rfl).1) (And.intro ((s8.cel Y 0 1 rfl).1) (And.intro ((s8.cel Y 0 2 rfl).1) (And.intro ((s8.cel Y 0 3 rfl).1) (And.intro ((s8.cel Y 0 4 rfl).1) (And.intro ((s8.cel X 0 0 rfl).1) (And.intro ((s8.cel X 0 1 rfl).1) (And.intro ((s8.cel X 0 2 rfl).1) (And.intro ((s8.cel X 0 3 rfl).1) ((s8.cel X 0 4 rfl).1))))))))))
                 simp only [Nat.zero_add, Nat.add_zero] at g8
                 have arm : True := trivial)
              | (go_at_call 26; have hs := s6d; with_reducible (refine c_lawDSame (b := b) (d := d) hs rfd.out hcd4.out h64 ?_); intro w7 s7
                 have g7 := (And.intro ((s7.cel Y 0 0 rfl).1) (And.intro ((s7.cel Y 0 1 rfl).1) (And.intro ((s7.cel Y 0 2 rfl).1) (And.intro ((s7.cel Y 0 3 rfl).1) (And.intro ((s7.cel Y 0 4 rfl).1) (And.intro ((s7.cel X 0 0 rfl).1) (And.intro ((s7.cel X 0 1 rfl).1) (And.intro ((s7.cel X 0 2 rfl).1) (And.intro ((s7.cel X 0 3 rfl).1) ((s7.cel X 0 4 rfl).1))))))))))
                 simp only [Nat.zero_add, Nat.add_zero] at g7
                 have arm : True := trivial))
          all_goals
            go_wp2
            go_ret
            exact ⟨by cases bb <;> rfl, s10.below⟩
end Go.Proofs.Ytohccblfnjampaa
