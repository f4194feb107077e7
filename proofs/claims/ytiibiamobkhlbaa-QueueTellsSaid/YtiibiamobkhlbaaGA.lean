/-
  QUEUE, the document's: Return, Tells, Ask.
  CHAIN, the document's: the whole walk.
  QUEUE, the document's: Fetch.
  CHAIN: two chains compared.
-/
import Derived.Test.YtiibiamobkhlbaaG7
import Derived.Test.YtiibiamobkhlbaaG8
import Derived.Deep.RegionHeld3
import Derived.Test.YtiibiamobkhlbaaUCi
import Derived.Test.YtiibiamobkhlbaaG3
import Derived.Laws.StructEq
set_option linter.unusedVariables false
set_option linter.unusedSimpArgs false
namespace Go.Proofs.Ytiibiamobkhlbaa
open Go.RowKit
set_option linter.unusedVariables false
set_option linter.unusedSimpArgs false

section
variable {R : Ending → World → Prop} {W0 w : World} {H : Hp} {A F : List Hp} {v : Value} {size : Int} {m : Int → Int} {L : Nat} {B : Option Addr} {n0 c0 : Nat}

set_option maxRecDepth 100000 in
set_option maxHeartbeats 4000000 in
theorem c_refQReturn (q : QuM) (s : Sat W0 w H A) (rm : RefM H (.agg #[.int .u64 size, .slice B n0 c0]) size m L) (hL : L ≤ 70000000000) (hz : 0 ≤ size ∧ size ≤ 268435456) (hv : q.okP size) (head ct : Int) (hh : 0 ≤ head ∧ head ≤ 65535) (hc : 0 ≤ ct ∧ ct ≤ 4294967295)
    (k : ∀ w' H' B' n' c', (∀ l c, H l = some c → H' l = some c) → RefM H' (.agg #[.int .u64 size, .slice B' n' c']) size (retM q m head ct) (L + 400) → Sat W0 w' H' A → R (.returned (.tuple #[.agg #[.int .u64 size, .slice B' n' c'], .agg #[.int .i64 q.ret.n, .int .u64 q.ret.d, .int .u64 q.ret.a, .int .u64 q.ret.u, .bool q.ret.rdy, .int .i64 q.ret.fet, .int .i64 q.ret.us, .bool q.ret.ev, .bool q.ret.ind]])) w') :
    Calls Try.prog 34 #[.agg #[.int .u64 size, .slice B n0 c0], .agg #[.int .i64 q.n, .int .u64 q.d, .int .u64 q.a, .int .u64 q.u, .bool q.rdy, .int .i64 q.fet, .int .i64 q.us, .bool q.ev, .bool q.ind], .int .i64 head, .int .u32 ct] w R := by
  have hn := QuM.okP_bd hv
  have hu0 := aside (show 0 ≤ q.u ∧ hasP size q.u (8 * q.n + 6) from ⟨q.hu.1, hv.2.2.2⟩)
  have hux := q.hus
  have hup := up16_bd q.us
  have hue : up16 q.us = (q.us + 1) % 65536 := rfl
  have hret : putB (putB m (q.u + 4 + 8 * (q.us % q.n)) (leb head 4 ++ leb ct 4)) (q.u + 2) (leb (up16 q.us) 2) = retM q m head ct := rfl
  have s1 := (((s.alloc (c := [.int .u64 size, .slice B n0 c0]) (t := 32)).alloc (c := [.int .i64 q.n, .int .u64 q.d, .int .u64 q.a, .int .u64 q.u, .bool q.rdy, .int .i64 q.fet, .int .i64 q.us, .bool q.ev, .bool q.ind]) (t := 27)).alloc (c := [.int .u64 0, .slice none 0 0]) (t := 32)).alloc (c := [.int .i64 0, .int .u64 0, .int .u64 0, .int .u64 0, .bool false, .int .i64 0, .int .i64 0, .bool false, .bool false]) (t := 27)
  obtain ⟨Z, hZ⟩ : ∃ Z, w.heap.size = Z := ⟨_, rfl⟩
  obtain ⟨Y, hY⟩ : ∃ Y, Z + 1 = Y := ⟨_, rfl⟩
  obtain ⟨X, hX⟩ : ∃ X, Y + 1 = X := ⟨_, rfl⟩
  obtain ⟨V, hV⟩ : ∃ V, X + 1 = V := ⟨_, rfl⟩
  simp only [World.size_alloc, hZ, hY, hX, hV] at s1
  obtain ⟨UP, hUP⟩ : ∃ y, up16 q.us = y := ⟨_, rfl⟩
  rw [hUP] at hup hue hret
  have e1 : IntKind.i64.wrap (q.us + 1) = q.us + 1 := by simp [IntKind.wrap, IntKind.bits, IntKind.signed]; omega
  have e2 : (q.us + 1).tmod 65536 = UP := by rw [Int.tmod_eq_emod_of_nonneg (by omega)]; exact hue.symm
  replace k := aside (fun w' H' B' n' c' => (hUP ▸ k w' H' B' n' c' : (∀ l c, H l = some c → H' l = some c) → RefM H' (.agg #[.int .u64 size, .slice B' n' c']) size (retM q m head ct) (L + 400) → Sat W0 w' H' A → R (.returned (.tuple #[.agg #[.int .u64 size, .slice B' n' c'], .agg #[.int .i64 q.n, .int .u64 q.d, .int .u64 q.a, .int .u64 q.u, .bool q.rdy, .int .i64 q.fet, .int .i64 UP, .bool q.ev, .bool q.ind]])) w'))
  have z0 := s1.cel Z 0 0 rfl
  have z1 := s1.cel Z 0 1 rfl
  simp only [Nat.zero_add] at z0 z1
  have y0 := s1.cel Y 0 0 rfl
  have y1 := s1.cel Y 0 1 rfl
  have y2 := s1.cel Y 0 2 rfl
  have y3 := s1.cel Y 0 3 rfl
  have y4 := s1.cel Y 0 4 rfl
  have y5 := s1.cel Y 0 5 rfl
  have y6 := s1.cel Y 0 6 rfl
  have y7 := s1.cel Y 0 7 rfl
  have y8 := s1.cel Y 0 8 rfl
  simp only [Nat.zero_add] at y0 y1 y2 y3 y4 y5 y6 y7 y8
  clear s
  replace hv := aside hv
  replace hret := aside hret
  replace hue := aside hue
  replace hUP := aside hUP
  replace rm := aside rm
  go_enter Try.func34, Try.ntmps34
  go_wp2_with fail
  refine c_refRingPut s1 rm.out (by omega) hz q.n q.d q.a q.u q.us head ct hn hu0.out hux hh hc ?_
  intro w2 H2 B2 n2 c2 le2 rm2 s2
  have z0 := s2.cel Z 0 0 rfl
  have z1 := ((Sat.pc s2 Z 0).s0 (.int .u64 size)).c 1 rfl
  have s3 := ((Sat.pc s2 Z 0).s0 (.int .u64 size)).s 1 (by simp) (.slice B2 n2 c2)
  simp only [List.set_cons_succ, List.set_cons_zero, Nat.zero_add] at s3 z0 z1
  have y0 := s3.cel Y 0 0 rfl
  have y1 := s3.cel Y 0 1 rfl
  have y2 := s3.cel Y 0 2 rfl
  have y3 := s3.cel Y 0 3 rfl
  have y4 := s3.cel Y 0 4 rfl
  have y5 := s3.cel Y 0 5 rfl
  have y6 := s3.cel Y 0 6 rfl
  have y7 := s3.cel Y 0 7 rfl
  have y8 := s3.cel Y 0 8 rfl
  simp only [Nat.zero_add] at y0 y1 y2 y3 y4 y5 y6 y7 y8
  have s4 := (Sat.pc s3 Y 0).s 6 (by simp) (.int .i64 UP)
  simp only [List.set_cons_succ, List.set_cons_zero, Nat.zero_add] at s4
  obtain ⟨w4, hw4⟩ : ∃ x, World.setCell (World.setCell (World.setCell w2 ⟨Z, 0, none⟩ (.int .u64 size)) ⟨Z, 1, none⟩ (.slice B2 n2 c2)) ⟨Y, 6, none⟩ (.int .i64 UP) = x := ⟨_, rfl⟩
  rw [hw4] at s4
  go_wp2
  try simp only [hw4]
  have s4d := s4.drew
  have gs := (And.intro ((s4d.cel Z 0 0 rfl).1) (And.intro ((s4d.cel Z 0 1 rfl).1) (And.intro ((s4d.cel Y 0 0 rfl).1) (And.intro ((s4d.cel Y 0 1 rfl).1) (And.intro ((s4d.cel Y 0 2 rfl).1) (And.intro ((s4d.cel Y 0 3 rfl).1) (And.intro ((s4d.cel Y 0 4 rfl).1) (And.intro ((s4d.cel Y 0 5 rfl).1) (And.intro ((s4d.cel Y 0 6 rfl).1) (And.intro ((s4d.cel Y 0 7 rfl).1) ((s4d.cel Y 0 8 rfl).1)))))))))))
  simp only [Nat.zero_add, Nat.add_zero] at gs
  have hz2 := aside (show L + 200 ≤ 80000000000 by omega)
  clear s1 s2 s3 hw4 y0 y1 y2 y3 y4 y5 y6 y7 y8
  go_region_held3 (fun w' => w'.cell? ⟨Z, 0, none⟩ = some (.int .u64 size) ∧ w'.cell? ⟨Z, 1, none⟩ = some (.slice B2 n2 c2) ∧ w'.cell? ⟨Y, 0, none⟩ = some (.int .i64 q.n) ∧ w'.cell? ⟨Y, 1, none⟩ = some (.int .u64 q.d) ∧ w'.cell? ⟨Y, 2, none⟩ = some (.int .u64 q.a) ∧ w'.cell? ⟨Y, 3, none⟩ = some (.int .u64 q.u) ∧ w'.cell? ⟨Y, 4, none⟩ = some (.bool q.rdy) ∧ w'.cell? ⟨Y, 5, none⟩ = some (.int .i64 q.fet) ∧ w'.cell? ⟨Y, 6, none⟩ = some (.int .i64 UP) ∧ w'.cell? ⟨Y, 7, none⟩ = some (.bool q.ev) ∧ w'.cell? ⟨Y, 8, none⟩ = some (.bool q.ind))
    (first
      | with_reducible exact gs
      | with_reducible exact g6
      | with_reducible exact g6x
      | with_reducible exact g6xv)
    (first
      | (go_at_call 83; with_reducible (refine c_refRingPublish s4d rm2 hz2.out hz q.n q.d q.a q.u UP hn hu0.out hup ?_); intro w6 H6 B6 n6 c6 le6 rm6 s6
         have x6q0 := s6.cel X 0 0 rfl
         have x6t0 := (s6.pc X 0).s0 (.int .u64 size)
         have x6q1 := x6t0.c 1 rfl
         have x6 := x6t0.s 1 (by simp) (.slice B6 n6 c6)
         simp only [List.set_cons_succ, List.set_cons_zero, Nat.zero_add] at x6 x6q0 x6q1
         have g6 := (And.intro ((s6.cel Z 0 0 rfl).1) (And.intro ((s6.cel Z 0 1 rfl).1) (And.intro ((s6.cel Y 0 0 rfl).1) (And.intro ((s6.cel Y 0 1 rfl).1) (And.intro ((s6.cel Y 0 2 rfl).1) (And.intro ((s6.cel Y 0 3 rfl).1) (And.intro ((s6.cel Y 0 4 rfl).1) (And.intro ((s6.cel Y 0 5 rfl).1) (And.intro ((s6.cel Y 0 6 rfl).1) (And.intro ((s6.cel Y 0 7 rfl).1) ((s6.cel Y 0 8 rfl).1)))))))))))
         simp only [Nat.zero_add, Nat.add_zero] at g6
         have g6x := (And.intro ((x6.cel Z 0 0 rfl).1) (And.intro ((x6.cel Z 0 1 rfl).1) (And.intro ((x6.cel Y 0 0 rfl).1) (And.intro ((x6.cel Y 0 1 rfl).1) (And.intro ((x6.cel Y 0 2 rfl).1) (And.intro ((x6.cel Y 0 3 rfl).1) (And.intro ((x6.cel Y 0 4 rfl).1) (And.intro ((x6.cel Y 0 5 rfl).1) (And.intro ((x6.cel Y 0 6 rfl).1) (And.intro ((x6.cel Y 0 7 rfl).1) ((x6.cel Y 0 8 rfl).1)))))))))))
         simp only [Nat.zero_add, Nat.add_zero] at g6x
         have xv6q0 := x6.cel V 0 0 rfl
         have xv6t0 := (x6.pc V 0).s0 (.int .i64 q.n)
         have xv6q1 := xv6t0.c 1 rfl
         have xv6t1 := xv6t0.s 1 (by simp) (.int .u64 q.d)
         have xv6q2 := xv6t1.c 2 rfl
         have xv6t2 := xv6t1.s 2 (by simp) (.int .u64 q.a)
         have xv6q3 := xv6t2.c 3 rfl
         have xv6t3 := xv6t2.s 3 (by simp) (.int .u64 q.u)
         have xv6q4 := xv6t3.c 4 rfl
         have xv6t4 := xv6t3.s 4 (by simp) (.bool q.rdy)
         have xv6q5 := xv6t4.c 5 rfl
         have xv6t5 := xv6t4.s 5 (by simp) (.int .i64 q.fet)
         have xv6q6 := xv6t5.c 6 rfl
         have xv6t6 := xv6t5.s 6 (by simp) (.int .i64 UP)
         have xv6q7 := xv6t6.c 7 rfl
         have xv6t7 := xv6t6.s 7 (by simp) (.bool q.ev)
         have xv6q8 := xv6t7.c 8 rfl
         have xv6 := xv6t7.s 8 (by simp) (.bool q.ind)
         simp only [List.set_cons_succ, List.set_cons_zero, Nat.zero_add] at xv6 xv6q0 xv6q1 xv6q2 xv6q3 xv6q4 xv6q5 xv6q6 xv6q7 xv6q8
         have g6xv := (And.intro ((xv6.cel Z 0 0 rfl).1) (And.intro ((xv6.cel Z 0 1 rfl).1) (And.intro ((xv6.cel Y 0 0 rfl).1) (And.intro ((xv6.cel Y 0 1 rfl).1) (And.intro ((xv6.cel Y 0 2 rfl).1) (And.intro ((xv6.cel Y 0 3 rfl).1) (And.intro ((xv6.cel Y 0 4 rfl).1) (And.intro ((xv6.cel Y 0 5 rfl).1) (And.intro ((xv6.cel Y 0 6 rfl).1) (And.intro ((xv6.cel Y 0 7 rfl).1) ((xv6.cel Y 0 8 rfl).1)))))))))))
         simp only [Nat.zero_add, Nat.add_zero] at g6xv
         have arm : True := trivial))
  all_goals
    have rm7 := aside (show RefM H6 (.agg #[.int .u64 size, .slice B6 n6 c6]) size (retM q m head ct) (L + 400) by rw [← hret.out]; exact rm6.leM (by omega))
    have le7 := aside (show ∀ l c, H l = some c → H6 l = some c from fun l c h => le6 l c (le2 l c h))
    generalize hW : World.setCell (World.setCell (World.setCell _ _ _) _ _) _ _ = w8 at xv6 ⊢
    clear hW g6 g6x g6xv gs s6 x6 s4 s4d rm6 rm2
    have f0 := xv6.c 0 rfl
    have f1 := xv6.c 1 rfl
    have f2 := xv6.c 2 rfl
    have f3 := xv6.c 3 rfl
    have f4 := xv6.c 4 rfl
    have f5 := xv6.c 5 rfl
    have f6 := xv6.c 6 rfl
    have f7 := xv6.c 7 rfl
    have f8 := xv6.c 8 rfl
    simp only [Nat.zero_add] at f0 f1 f2 f3 f4 f5 f6 f7 f8
    have g0 := xv6.cel X 0 0 rfl
    have g1 := xv6.cel X 0 1 rfl
    simp only [Nat.zero_add] at g0 g1
    have kk := aside (k.out w8 H6 B6 n6 c6 le7.out rm7.out xv6.wk)
    clear k le6 le2 xv6
    go_wp2
    refine bodyPost_ret (by simp [results, Try.results34, go_sem, f0.1, f1.1, f2.1, f3.1, f4.1, f5.1, f6.1, f7.1, f8.1, g0.1, g1.1]; try rfl) rfl ?_
    exact kk.out

theorem c_refPassedQ (a b c : Int) (h0 : 0 ≤ a ∧ a ≤ 65535) (h1 : 0 ≤ b ∧ b ≤ 65535) (h2 : 0 ≤ c ∧ c ≤ 65535)
    (k : R (.returned (.bool (decide ((c - a - 1) % 65536 < (c - b) % 65536)))) w) :
    Calls Try.prog 87 #[.int .i64 a, .int .i64 b, .int .i64 c] w R := by
  go_enter Try.func87, Try.ntmps87
  go_wp2
  go_loop [7] (fun v => ∃ i : Int, 0 ≤ i ∧ i ≤ (c - b) % 65536 ∧ v = .int .i64 ((b + i) % 65536) ∧ (i ≤ (a - b) % 65536)) (fun v => ((c - intOf v) % 65536).toNat)
  case atStart => exact ⟨0, by omega, by omega, by simp; omega, by omega⟩
  case round =>
    obtain ⟨i, hi0, hi1, rfl, hi2⟩ := hrel
    by_cases e : (b + i) % 65536 = c
    · have e1 : ((b + i) % 65536 != c) = false := bne_eq_false_iff_eq.2 e
      have K : decide ((c - a - 1) % 65536 < (c - b) % 65536) = false := by simp; omega
      clear e
      go_wp2
      exact ret_b k K
    · by_cases f : (b + i) % 65536 = a
      · have e1 : ((b + i) % 65536 != c) = true := bne_iff_ne.2 e
        have f1 : ((b + i) % 65536 == a) = true := beq_iff_eq.2 f
        have K : decide ((c - a - 1) % 65536 < (c - b) % 65536) = true := by simp; omega
        clear e f
        go_wp2
        exact ret_b k K
      · have e1 : ((b + i) % 65536 != c) = true := bne_iff_ne.2 e
        have f1 : ((b + i) % 65536 == a) = false := beq_eq_false_iff_ne.2 f
        have K : ∃ j, 0 ≤ j ∧ j ≤ (c - b) % 65536 ∧ Value.int .i64 (((b + i) % 65536 + 1) % 65536) = Value.int .i64 ((b + j) % 65536) ∧ j ≤ (a - b) % 65536 :=
          ⟨i + 1, by omega, by omega, by congr 1; omega, by omega⟩
        have M : ((c - intOf (Value.int IntKind.i64 (((b + i) % 65536 + 1) % 65536))) % 65536).toNat < ((c - intOf (Value.int IntKind.i64 ((b + i) % 65536))) % 65536).toNat := by simp [intOf]; omega
        clear e f
        go_wp2
        go_round
        case rel => exact K
        case measure => exact M


set_option maxRecDepth 100000 in
set_option maxHeartbeats 4000000 in
theorem c_refQTells (q : QuM) (s : Sat W0 w H A) (rm : RefM H (.agg #[.int .u64 size, .slice B n0 c0]) size m L) (hL : L ≤ 100000000000) (hz : 0 ≤ size ∧ size ≤ 268435456) (frm : Int) (hf : 0 ≤ frm ∧ frm ≤ 65535) (hv : frm ≠ q.us → q.okP size)
    (k : ∀ w', Sat W0 w' H A → R (.returned (.bool (tellsP q size m frm))) w') :
    Calls Try.prog 36 #[.agg #[.int .u64 size, .slice B n0 c0], .agg #[.int .i64 q.n, .int .u64 q.d, .int .u64 q.a, .int .u64 q.u, .bool q.rdy, .int .i64 q.fet, .int .i64 q.us, .bool q.ev, .bool q.ind], .int .i64 frm] w R := by
  have s1 := (s.alloc (c := [.int .u64 size, .slice B n0 c0]) (t := 32)).alloc (c := [.int .i64 q.n, .int .u64 q.d, .int .u64 q.a, .int .u64 q.u, .bool q.rdy, .int .i64 q.fet, .int .i64 q.us, .bool q.ev, .bool q.ind]) (t := 27)
  obtain ⟨Z, hZ⟩ : ∃ Z, w.heap.size = Z := ⟨_, rfl⟩
  obtain ⟨Y, hY⟩ : ∃ Y, Z + 1 = Y := ⟨_, rfl⟩
  simp only [World.size_alloc, hZ, hY] at s1
  have z0 := s1.cel Z 0 0 rfl
  have z1 := s1.cel Z 0 1 rfl
  simp only [Nat.zero_add] at z0 z1
  have y0 := s1.cel Y 0 0 rfl
  have y1 := s1.cel Y 0 1 rfl
  have y2 := s1.cel Y 0 2 rfl
  have y3 := s1.cel Y 0 3 rfl
  have y4 := s1.cel Y 0 4 rfl
  have y5 := s1.cel Y 0 5 rfl
  have y6 := s1.cel Y 0 6 rfl
  have y7 := s1.cel Y 0 7 rfl
  have y8 := s1.cel Y 0 8 rfl
  simp only [Nat.zero_add] at y0 y1 y2 y3 y4 y5 y6 y7 y8
  by_cases heq : frm = q.us
  · have K := aside (k _ s1.tail1.tail1)
    rw [show tellsP q size m frm = false from if_pos heq] at K
    clear k hv s s1
    have e1 : (frm == q.us) = true := by simp [heq]
    replace heq := aside heq
    go_enter Try.func36, Try.ntmps36
    go_wp2
    exact K.out
  have hv := hv heq
  have hn := QuM.okP_bd hv
  have ha := q.ha
  have ha2 : 0 ≤ q.a ∧ q.a ≤ 4294967295 := by have := hv.2.2.1; unfold hasP at this; omega
  have e1 : (frm == q.us) = false := by simp [heq]
  have hux := q.hus
  have hmb := rm.bd
  cases hev : q.ev with
  | true =>
    have hT : tellsP q size m frm = decide ((q.us - hw size m (q.a + 4 + 2 * q.n) - 1) % 65536 < (q.us - frm) % 65536) := by unfold tellsP; rw [if_neg heq, if_pos hev]
    rw [hT] at k
    have hwb := hw_bd hmb size (q.a + 4 + 2 * q.n)
    obtain ⟨X, hX⟩ : ∃ y, hw size m (q.a + 4 + 2 * q.n) = y := ⟨_, rfl⟩
    rw [hX] at k hwb
    rw [hev] at s1
    have z0 := s1.cel Z 0 0 rfl
    have z1 := s1.cel Z 0 1 rfl
    simp only [Nat.zero_add] at z0 z1
    have y0 := s1.cel Y 0 0 rfl
    have y1 := s1.cel Y 0 1 rfl
    have y2 := s1.cel Y 0 2 rfl
    have y3 := s1.cel Y 0 3 rfl
    have y4 := s1.cel Y 0 4 rfl
    have y5 := s1.cel Y 0 5 rfl
    have y6 := s1.cel Y 0 6 rfl
    have y7 := s1.cel Y 0 7 rfl
    have y8 := s1.cel Y 0 8 rfl
    simp only [Nat.zero_add] at y0 y1 y2 y3 y4 y5 y6 y7 y8
    have sd := s1.drew
    replace k := aside k
    have gd := (And.intro ((sd.cel Z 0 0 rfl).1) (And.intro ((sd.cel Z 0 1 rfl).1) (And.intro ((sd.cel Y 0 0 rfl).1) (And.intro ((sd.cel Y 0 1 rfl).1) (And.intro ((sd.cel Y 0 2 rfl).1) (And.intro ((sd.cel Y 0 3 rfl).1) (And.intro ((sd.cel Y 0 4 rfl).1) (And.intro ((sd.cel Y 0 5 rfl).1) (And.intro ((sd.cel Y 0 6 rfl).1) (And.intro ((sd.cel Y 0 7 rfl).1) ((sd.cel Y 0 8 rfl).1)))))))))))
    simp only [Nat.zero_add, Nat.add_zero] at gd
    clear s
    replace hv := aside hv
    replace heq := aside heq
    replace hT := aside hT
    replace hX := aside hX
    replace rm := aside rm
    replace hmb := aside hmb
    replace hev := aside hev
    go_enter Try.func36, Try.ntmps36
    go_wp2
    go_region_held3 (fun w' => w'.cell? ⟨Z, 0, none⟩ = some (.int .u64 size) ∧ w'.cell? ⟨Z, 1, none⟩ = some (.slice B n0 c0) ∧ w'.cell? ⟨Y, 0, none⟩ = some (.int .i64 q.n) ∧ w'.cell? ⟨Y, 1, none⟩ = some (.int .u64 q.d) ∧ w'.cell? ⟨Y, 2, none⟩ = some (.int .u64 q.a) ∧ w'.cell? ⟨Y, 3, none⟩ = some (.int .u64 q.u) ∧ w'.cell? ⟨Y, 4, none⟩ = some (.bool q.rdy) ∧ w'.cell? ⟨Y, 5, none⟩ = some (.int .i64 q.fet) ∧ w'.cell? ⟨Y, 6, none⟩ = some (.int .i64 q.us) ∧ w'.cell? ⟨Y, 7, none⟩ = some (.bool true) ∧ w'.cell? ⟨Y, 8, none⟩ = some (.bool q.ind))
      (first | with_reducible exact gd | with_reducible exact g3)
      (first
        | (go_at_call 87; refine c_refPassedQ X frm q.us hwb hf hux ?_)
        | (go_at_call 88; with_reducible (refine c_refWanted sd rm.out hL hz q.n q.d q.a q.u ha2 hn ?_); rw [hX.out]; intro w3 s3
           have g3 := (And.intro ((s3.cel Z 0 0 rfl).1) (And.intro ((s3.cel Z 0 1 rfl).1) (And.intro ((s3.cel Y 0 0 rfl).1) (And.intro ((s3.cel Y 0 1 rfl).1) (And.intro ((s3.cel Y 0 2 rfl).1) (And.intro ((s3.cel Y 0 3 rfl).1) (And.intro ((s3.cel Y 0 4 rfl).1) (And.intro ((s3.cel Y 0 5 rfl).1) (And.intro ((s3.cel Y 0 6 rfl).1) (And.intro ((s3.cel Y 0 7 rfl).1) ((s3.cel Y 0 8 rfl).1)))))))))))
           simp only [Nat.zero_add, Nat.add_zero] at g3
           have arm : True := trivial))
    all_goals
      clear s1 sd
      go_wp2
      exact k.out _ s3.tail1.tail1
  | false =>
    have hT : tellsP q size m frm = decide (hw size m q.a % 2 = 0) := by unfold tellsP; rw [if_neg heq, hev]; rfl
    rw [hT] at k
    rw [hev] at s1
    have z0 := s1.cel Z 0 0 rfl
    have z1 := s1.cel Z 0 1 rfl
    simp only [Nat.zero_add] at z0 z1
    have y0 := s1.cel Y 0 0 rfl
    have y1 := s1.cel Y 0 1 rfl
    have y2 := s1.cel Y 0 2 rfl
    have y3 := s1.cel Y 0 3 rfl
    have y4 := s1.cel Y 0 4 rfl
    have y5 := s1.cel Y 0 5 rfl
    have y6 := s1.cel Y 0 6 rfl
    have y7 := s1.cel Y 0 7 rfl
    have y8 := s1.cel Y 0 8 rfl
    simp only [Nat.zero_add] at y0 y1 y2 y3 y4 y5 y6 y7 y8
    have hwb := hw_bd hmb size q.a
    obtain ⟨X, hX⟩ : ∃ y, hw size m q.a = y := ⟨_, rfl⟩
    rw [hX] at k hwb
    have em : X.tmod 2 = X % 2 := Int.tmod_eq_emod_of_nonneg hwb.1
    obtain ⟨P, hP⟩ : ∃ y, X % 2 = y := ⟨_, rfl⟩
    rw [hP] at em k
    replace k := aside k
    clear s
    replace hv := aside hv
    replace heq := aside heq
    replace hT := aside hT
    replace hX := aside hX
    replace rm := aside rm
    replace hmb := aside hmb
    replace hP := aside hP
    replace hev := aside hev
    go_enter Try.func36, Try.ntmps36
    go_wp2_with fail
    refine c_refFlags s1 rm.out hL hz q.n q.d q.a q.u ha ?_
    rw [hX.out]
    intro w3 s3
    clear s1
    go_wp2
    refine ret_b (k.out _ s3.tail1.tail1) ?_
    by_cases hy : P = 0 <;> simp [hy]

set_option maxRecDepth 100000 in
set_option maxHeartbeats 4000000 in
theorem c_refQAsk (q : QuM) (s : Sat W0 w H A) (rm : RefM H (.agg #[.int .u64 size, .slice B n0 c0]) size m L) (hL : L ≤ 80000000000) (hz : 0 ≤ size ∧ size ≤ 268435456) (hv : q.ev = true → q.okP size)
    (k : ∀ w' H' B' n' c', (∀ l c, H l = some c → H' l = some c) → RefM H' (.agg #[.int .u64 size, .slice B' n' c']) size (askM q m) (L + 200) → Sat W0 w' H' A → R (.returned (.agg #[.int .u64 size, .slice B' n' c'])) w') :
    Calls Try.prog 38 #[.agg #[.int .u64 size, .slice B n0 c0], .agg #[.int .i64 q.n, .int .u64 q.d, .int .u64 q.a, .int .u64 q.u, .bool q.rdy, .int .i64 q.fet, .int .i64 q.us, .bool q.ev, .bool q.ind]] w R := by
  have s1 := ((s.alloc (c := [.int .u64 size, .slice B n0 c0]) (t := 32)).alloc (c := [.int .i64 q.n, .int .u64 q.d, .int .u64 q.a, .int .u64 q.u, .bool q.rdy, .int .i64 q.fet, .int .i64 q.us, .bool q.ev, .bool q.ind]) (t := 27)).alloc (c := [.int .u64 0, .slice none 0 0]) (t := 32)
  obtain ⟨Z, hZ⟩ : ∃ Z, w.heap.size = Z := ⟨_, rfl⟩
  obtain ⟨Y, hY⟩ : ∃ Y, Z + 1 = Y := ⟨_, rfl⟩
  obtain ⟨X, hX⟩ : ∃ X, Y + 1 = X := ⟨_, rfl⟩
  simp only [World.size_alloc, hZ, hY, hX] at s1
  have z0 := s1.cel Z 0 0 rfl
  have z1 := s1.cel Z 0 1 rfl
  simp only [Nat.zero_add] at z0 z1
  have y0 := s1.cel Y 0 0 rfl
  have y1 := s1.cel Y 0 1 rfl
  have y2 := s1.cel Y 0 2 rfl
  have y3 := s1.cel Y 0 3 rfl
  have y4 := s1.cel Y 0 4 rfl
  have y5 := s1.cel Y 0 5 rfl
  have y6 := s1.cel Y 0 6 rfl
  have y7 := s1.cel Y 0 7 rfl
  have y8 := s1.cel Y 0 8 rfl
  simp only [Nat.zero_add] at y0 y1 y2 y3 y4 y5 y6 y7 y8
  cases hev : q.ev with
  | false =>
    have s2 := ((s.alloc (c := [.int .u64 size, .slice B n0 c0]) (t := 32)).alloc (c := [.int .i64 q.n, .int .u64 q.d, .int .u64 q.a, .int .u64 q.u, .bool q.rdy, .int .i64 q.fet, .int .i64 q.us, .bool q.ev, .bool q.ind]) (t := 27)).alloc (c := [.int .u64 size, .slice B n0 c0]) (t := 32)
    simp only [World.size_alloc, hZ, hY, hX] at s2
    rw [hev] at s1 s2
    have z0 := s2.cel Z 0 0 rfl
    have z1 := s2.cel Z 0 1 rfl
    simp only [Nat.zero_add] at z0 z1
    have y0 := s2.cel Y 0 0 rfl
    have y1 := s2.cel Y 0 1 rfl
    have y2 := s2.cel Y 0 2 rfl
    have y3 := s2.cel Y 0 3 rfl
    have y4 := s2.cel Y 0 4 rfl
    have y5 := s2.cel Y 0 5 rfl
    have y6 := s2.cel Y 0 6 rfl
    have y7 := s2.cel Y 0 7 rfl
    have y8 := s2.cel Y 0 8 rfl
    simp only [Nat.zero_add] at y0 y1 y2 y3 y4 y5 y6 y7 y8
    have z0 := s1.cel Z 0 0 rfl
    have z1 := s1.cel Z 0 1 rfl
    simp only [Nat.zero_add] at z0 z1
    have y0 := s1.cel Y 0 0 rfl
    have y1 := s1.cel Y 0 1 rfl
    have y2 := s1.cel Y 0 2 rfl
    have y3 := s1.cel Y 0 3 rfl
    have y4 := s1.cel Y 0 4 rfl
    have y5 := s1.cel Y 0 5 rfl
    have y6 := s1.cel Y 0 6 rfl
    have y7 := s1.cel Y 0 7 rfl
    have y8 := s1.cel Y 0 8 rfl
    simp only [Nat.zero_add] at y0 y1 y2 y3 y4 y5 y6 y7 y8
    have K := aside (k _ H B n0 c0 (fun _ _ h => h) (by unfold askM; rw [hev]; exact rm.leM (by omega)) s2.tail1.tail1.tail1)
    have f0 := s2.c 0 rfl
    have f1 := s2.c 1 rfl
    simp only [Nat.zero_add] at f0 f1
    clear s s1 s2 k
    replace hev := aside hev
    replace rm := aside rm
    go_enter Try.func38, Try.ntmps38
    go_wp2
    refine bodyPost_ret (by simp [results, Try.results38, go_sem, f0.1, f1.1]; try rfl) rfl ?_
    exact K.out
  | true =>
    have hv := hv hev
    have hn := QuM.okP_bd hv
    have hu0 := aside (show 0 ≤ q.u ∧ hasP size q.u (8 * q.n + 6) from ⟨q.hu.1, hv.2.2.2⟩)
    have hfx := q.hfet
    have hask := aside (show askM q m = putB m (q.u + 4 + 8 * q.n) (leb q.fet 2) by unfold askM; rw [hev]; rfl)
    rw [hev] at s1
    have z0 := s1.cel Z 0 0 rfl
    have z1 := s1.cel Z 0 1 rfl
    simp only [Nat.zero_add] at z0 z1
    have y0 := s1.cel Y 0 0 rfl
    have y1 := s1.cel Y 0 1 rfl
    have y2 := s1.cel Y 0 2 rfl
    have y3 := s1.cel Y 0 3 rfl
    have y4 := s1.cel Y 0 4 rfl
    have y5 := s1.cel Y 0 5 rfl
    have y6 := s1.cel Y 0 6 rfl
    have y7 := s1.cel Y 0 7 rfl
    have y8 := s1.cel Y 0 8 rfl
    simp only [Nat.zero_add] at y0 y1 y2 y3 y4 y5 y6 y7 y8
    replace k := aside k
    clear s
    replace hv := aside hv
    replace rm := aside rm
    replace hev := aside hev
    go_enter Try.func38, Try.ntmps38
    go_wp2_with fail
    refine c_refRingWant s1 rm.out hL hz q.n q.d q.a q.u q.fet hn hu0.out hfx ?_
    intro w3 H3 B3 n3 c3 le3 rm3 s3
    have x3q0 := s3.cel X 0 0 rfl
    have x3t0 := (s3.pc X 0).s0 (.int .u64 size)
    have x3q1 := x3t0.c 1 rfl
    have x3 := x3t0.s 1 (by simp) (.slice B3 n3 c3)
    simp only [List.set_cons_succ, List.set_cons_zero, Nat.zero_add] at x3 x3q0 x3q1
    have f0 := x3.c 0 rfl
    have f1 := x3.c 1 rfl
    simp only [Nat.zero_add] at f0 f1
    have rm4 := aside (show RefM H3 (.agg #[.int .u64 size, .slice B3 n3 c3]) size (askM q m) (L + 200) by rw [hask.out]; exact rm3)
    replace le3 := aside le3
    clear s1 s3 rm3 z0 z1 y0 y1 y2 y3 y4 y5 y6 y7 y8
    go_wp2
    refine bodyPost_ret (by simp [results, Try.results38, go_sem, f0.1, f1.1]; try rfl) rfl ?_
    exact k.out _ H3 B3 n3 c3 le3.out rm4.out x3.wk
end
end Go.Proofs.Ytiibiamobkhlbaa

namespace Go.Proofs.Ytiibiamobkhlbaa
open Go.RowKit
set_option linter.unusedVariables false
set_option linter.unusedSimpArgs false

section
variable {R : Ending → World → Prop} {W0 w : World} {H : Hp} {A F : List Hp} {v : Value} {size : Int} {m : Int → Int} {L : Nat}


end
end Go.Proofs.Ytiibiamobkhlbaa

namespace Go.Proofs.Ytiibiamobkhlbaa
open Go.RowKit
set_option linter.unusedVariables false
set_option linter.unusedSimpArgs false

/-- the head that the document tells: -1 where there is none -/
def FetchR.hdD (f : FetchR) : Int := if f.got = true then f.hd else -1

section
variable {R : Ending → World → Prop} {W0 w : World} {H : Hp} {A F : List Hp} {v : Value} {size : Int} {m : Int → Int} {L : Nat} {B : Option Addr} {n0 c0 : Nat}


end
end Go.Proofs.Ytiibiamobkhlbaa

namespace Go.Proofs.Ytiibiamobkhlbaa
open Go.RowKit
set_option linter.unusedVariables false
set_option linter.unusedSimpArgs false

section
variable {R : Ending → World → Prop} {W0 w : World} {H : Hp} {A F : List Hp}

end
end Go.Proofs.Ytiibiamobkhlbaa
