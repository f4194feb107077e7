/-
  QUEUE, the document's: Return, Tells, Ask.
  CHAIN, the document's: the whole walk.
  QUEUE, the document's: Fetch.
  CHAIN: two chains compared.
-/
import Derived.Test.YtippipfogbgemaaG7
import Derived.Test.YtippipfogbgemaaG8
import Derived.Deep.RegionHeld3
import Derived.Test.YtippipfogbgemaaUCi
import Derived.Test.YtippipfogbgemaaG3
import Derived.Laws.StructEq
set_option linter.unusedVariables false
set_option linter.unusedSimpArgs false
namespace Go.Proofs.Ytippipfogbgemaa
open Go.RowKit
set_option linter.unusedVariables false
set_option linter.unusedSimpArgs false

section
variable {R : Ending → World → Prop} {W0 w : World} {H : Hp} {A F : List Hp} {v : Value} {size : Int} {m : Int → Int} {L : Nat} {B : Option Addr} {n0 c0 : Nat}

set_option maxRecDepth 100000 in
set_option maxHeartbeats 4000000 in
theorem c_refQReturn (q : QuM) (s : Sat W0 w H A) (rm : RefM H (.agg #[.int .u64 size, .slice B n0 c0]) size m L) (hL : L ≤ 70000000000) (hz : 0 ≤ size ∧ size ≤ 268435456) (hv : q.okP size) (head ct : Int) (hh : 0 ≤ head ∧ head ≤ 65535) (hc : 0 ≤ ct ∧ ct ≤ 4294967295)
    (k : ∀ w' H' B' n' c', (∀ l c, H l = some c → H' l = some c) → RefM H' (.agg #[.int .u64 size, .slice B' n' c']) size (retM q m head ct) (L + 400) → Sat W0 w' H' A → R (.returned (.tuple #[.agg #[.int .u64 size, .slice B' n' c'], .agg #[.int .i64 q.ret.n, .int .u64 q.ret.d, .int .u64 q.ret.a, .int .u64 q.ret.u, .bool q.ret.rdy, .int .i64 q.ret.fet, .int .i64 q.ret.us, .bool q.ret.ev, .bool q.ret.ind]])) w') :
    Calls Try.prog 109 #[.agg #[.int .u64 size, .slice B n0 c0], .agg #[.int .i64 q.n, .int .u64 q.d, .int .u64 q.a, .int .u64 q.u, .bool q.rdy, .int .i64 q.fet, .int .i64 q.us, .bool q.ev, .bool q.ind], .int .i64 head, .int .u32 ct] w R := by
  have hn := QuM.okP_bd hv
  have hu0 := aside (show 0 ≤ q.u ∧ hasP size q.u (8 * q.n + 6) from ⟨q.hu.1, hv.2.2.2⟩)
  have hux := q.hus
  have hup := up16_bd q.us
  have hue : up16 q.us = (q.us + 1) % 65536 := rfl
  have hret : putB (putB m (q.u + 4 + 8 * (q.us % q.n)) (leb head 4 ++ leb ct 4)) (q.u + 2) (leb (up16 q.us) 2) = retM q m head ct := rfl
  have s1 := (((s.alloc (c := [.int .u64 size, .slice B n0 c0]) (t := 28)).alloc (c := [.int .i64 q.n, .int .u64 q.d, .int .u64 q.a, .int .u64 q.u, .bool q.rdy, .int .i64 q.fet, .int .i64 q.us, .bool q.ev, .bool q.ind]) (t := 106)).alloc (c := [.int .u64 0, .slice none 0 0]) (t := 28)).alloc (c := [.int .i64 0, .int .u64 0, .int .u64 0, .int .u64 0, .bool false, .int .i64 0, .int .i64 0, .bool false, .bool false]) (t := 106)
  obtain ⟨Z, hZ⟩ : ∃ Z, w.heap.size = Z := ⟨_, rfl⟩
  obtain ⟨Y, hY⟩ : ∃ Y, Z + 1 = Y := ⟨_, rfl⟩
  obtain ⟨X, hX⟩ : ∃ X, Y + 1 = X := ⟨_, rfl⟩
  obtain ⟨V, hV⟩ : ∃ V, X + 1 = V := ⟨_, rfl⟩
  simp only [World.size_alloc, hZ, hY, hX, hV] at s1
  obtain ⟨UP, hUP⟩ : ∃ y, up16 q.us = y := ⟨_, rfl⟩
  rw [hUP] at hup hue hret
  have e1 : IntKind.i64.wrap (q.us + 1) = q.us + 1 := by simp [IntKind.wrap, IntKind.bits, IntKind.signed]; omega
  have e2 : (q.us + 1).tmod 65536 = UP := by rw [Int.tmod_eq_emod_of_nonneg (by omega)]; exact hue.symm
  replace k := aside (fun w' H' B' n' c' => (hUP ▸ k w' H' B' n' c' : (∀ l c, H l = some c → H' l = some c) → RefM H' (.agg #[.int .u64 size, .slice B' n' c']) size (retM q m head ct) (L + 400) → Sat W0 w' H' A → R (.returned (.tuple #[.agg #[.int .u64 size, .slice B' n' c'], .agg #[.int .i64 q.n, .int .u64 q.d, .int .u64 q.a, .int .u64 q.u, .bool q.rdy, .int .i64 q.fet, .int .i64 UP, .bool q.ev, .bool q.ind]])) w'))
  have z0 := s1.cel Z 0 0 rfl
  have z1 := s1.cel Z 0 1 rfl
  simp only [Nat.zero_add] at z0 z1
  have y0 := s1.cel Y 0 0 rfl
  have y1 := s1.cel Y 0 1 rfl
  have y2 := s1.cel Y 0 2 rfl
  have y3 := s1.cel Y 0 3 rfl
  have y4 := s1.cel Y 0 4 rfl
  have y5 := s1.cel Y 0 5 rfl
  have y6 := s1.cel Y 0 6 rfl
  have y7 := s1.cel Y 0 7 rfl
  have y8 := s1.cel Y 0 8 rfl
  simp only [Nat.zero_add] at y0 y1 y2 y3 y4 y5 y6 y7 y8
  clear s
  replace hv := aside hv
  replace hret := aside hret
  replace hue := aside hue
  replace hUP := aside hUP
  replace rm := aside rm
  go_enter Try.func109, Try.ntmps109
  go_wp2_with fail
  refine c_refRingPut s1 rm.out (by omega) hz q.n q.d q.a q.u q.us head ct hn hu0.out hux hh hc ?_
  intro w2 H2 B2 n2 c2 le2 rm2 s2
  have z0 := s2.cel Z 0 0 rfl
  have z1 := ((Sat.pc s2 Z 0).s0 (.int .u64 size)).c 1 rfl
  have s3 := ((Sat.pc s2 Z 0).s0 (.int .u64 size)).s 1 (by simp) (.slice B2 n2 c2)
  simp only [List.set_cons_succ, List.set_cons_zero, Nat.zero_add] at s3 z0 z1
  have y0 := s3.cel Y 0 0 rfl
  have y1 := s3.cel Y 0 1 rfl
  have y2 := s3.cel Y 0 2 rfl
  have y3 := s3.cel Y 0 3 rfl
  have y4 := s3.cel Y 0 4 rfl
  have y5 := s3.cel Y 0 5 rfl
  have y6 := s3.cel Y 0 6 rfl
  have y7 := s3.cel Y 0 7 rfl
  have y8 := s3.cel Y 0 8 rfl
  simp only [Nat.zero_add] at y0 y1 y2 y3 y4 y5 y6 y7 y8
  have s4 := (Sat.pc s3 Y 0).s 6 (by simp) (.int .i64 UP)
  simp only [List.set_cons_succ, List.set_cons_zero, Nat.zero_add] at s4
  obtain ⟨w4, hw4⟩ : ∃ x, World.setCell (World.setCell (World.setCell w2 ⟨Z, 0, none⟩ (.int .u64 size)) ⟨Z, 1, none⟩ (.slice B2 n2 c2)) ⟨Y, 6, none⟩ (.int .i64 UP) = x := ⟨_, rfl⟩
  rw [hw4] at s4
  go_wp2
  try simp only [hw4]
  have s4d := s4.drew
  have gs := (And.intro ((s4d.cel Z 0 0 rfl).1) (And.intro ((s4d.cel Z 0 1 rfl).1) (And.intro ((s4d.cel Y 0 0 rfl).1) (And.intro ((s4d.cel Y 0 1 rfl).1) (And.intro ((s4d.cel Y 0 2 rfl).1) (And.intro ((s4d.cel Y 0 3 rfl).1) (And.intro ((s4d.cel Y 0 4 rfl).1) (And.intro ((s4d.cel Y 0 5 rfl).1) (And.intro ((s4d.cel Y 0 6 rfl).1) (And.intro ((s4d.cel Y 0 7 rfl).1) ((s4d.cel Y 0 8 rfl).1)))))))))))
  simp only [Nat.zero_add, Nat.add_zero] at gs
  have hz2 := aside (show L + 200 ≤ 80000000000 by omega)
  clear s1 s2 s3 hw4 y0 y1 y2 y3 y4 y5 y6 y7 y8
  go_region_held3 (fun w' => w'.cell? ⟨Z, 0, none⟩ = some (.int .u64 size) ∧ w'.cell? ⟨Z, 1, none⟩ = some (.slice B2 n2 c2) ∧ w'.cell? ⟨Y, 0, none⟩ = some (.int .i64 q.n) ∧ w'.cell? ⟨Y, 1, none⟩ = some (.int .u64 q.d) ∧ w'.cell? ⟨Y, 2, none⟩ = some (.int .u64 q.a) ∧ w'.cell? ⟨Y, 3, none⟩ = some (.int .u64 q.u) ∧ w'.cell? ⟨Y, 4, none⟩ = some (.bool q.rdy) ∧ w'.cell? ⟨Y, 5, none⟩ = some (.int .i64 q.fet) ∧ w'.cell? ⟨Y, 6, none⟩ = some (.int .i64 UP) ∧ w'.cell? ⟨Y, 7, none⟩ = some (.bool q.ev) ∧ w'.cell? ⟨Y, 8, none⟩ = some (.bool q.ind))
    (first
      | with_reducible exact gs
      | with_reducible exact g6
      | with_reducible exact g6x
      | with_reducible exact g6xv)
    (first
      | (go_at_call 138; with_reducible (refine c_refRingPublish s4d rm2 hz2.out hz q.n q.d q.a q.u UP hn hu0.out hup ?_); intro w6 H6 B6 n6 c6 le6 rm6 s6
         have x6q0 := s6.cel X 0 0 rfl
         have x6t0 := (s6.pc X 0).s0 (.int .u64 size)
         have x6q1 := x6t0.c 1 rfl
         have x6 := x6t0.s 1 (by simp) (.slice B6 n6 c6)
         simp only [List.set_cons_succ, List.set_cons_zero, Nat.zero_add] at x6 x6q0 x6q1
         have g6 := (And.intro ((s6.cel Z 0 0 rfl).1) (And.intro ((s6.cel Z 0 1 rfl).1) (And.intro ((s6.cel Y 0 0 rfl).1) (And.intro ((s6.cel Y 0 1 rfl).1) (And.intro ((s6.cel Y 0 2 rfl).1) (And.intro ((s6.cel Y 0 3 rfl).1) (And.intro ((s6.cel Y 0 4 rfl).1) (And.intro ((s6.cel Y 0 5 rfl).1) (And.intro ((s6.cel Y 0 6 rfl).1) (And.intro ((s6.cel Y 0 7 rfl).1) ((s6.cel Y 0 8 rfl).1)))))))))))
         simp only [Nat.zero_add, Nat.add_zero] at g6
         have g6x := (And.intro ((x6.cel Z 0 0 rfl).1) (And.intro ((x6.cel Z 0 1 rfl).1) (And.intro ((x6.cel Y 0 0 rfl).1) (And.intro ((x6.cel Y 0 1 rfl).1) (And.intro ((x6.cel Y 0 2 rfl).1) (And.intro ((x6.cel Y 0 3 rfl).1) (And.intro ((x6.cel Y 0 4 rfl).1) (And.intro ((x6.cel Y 0 5 rfl).1) (And.intro ((x6.cel Y 0 6 rfl).1) (And.intro ((x6.cel Y 0 7 rfl).1) ((x6.cel Y 0 8 rfl).1)))))))))))
         simp only [Nat.zero_add, Nat.add_zero] at g6x
         have xv6q0 := x6.cel V 0 0 rfl
         have xv6t0 := (x6.pc V 0).s0 (.int .i64 q.n)
         have xv6q1 := xv6t0.c 1 rfl
         have xv6t1 := xv6t0.s 1 (by simp) (.int .u64 q.d)
         have xv6q2 := xv6t1.c 2 rfl
         have xv6t2 := xv6t1.s 2 (by simp) (.int .u64 q.a)
         have xv6q3 := xv6t2.c 3 rfl
         have xv6t3 := xv6t2.s 3 (by simp) (.int .u64 q.u)
         have xv6q4 := xv6t3.c 4 rfl
         have xv6t4 := xv6t3.s 4 (by simp) (.bool q.rdy)
         have xv6q5 := xv6t4.c 5 rfl
         have xv6t5 := xv6t4.s 5 (by simp) (.int .i64 q.fet)
         have xv6q6 := xv6t5.c 6 rfl
         have xv6t6 := xv6t5.s 6 (by simp) (.int .i64 UP)
         have xv6q7 := xv6t6.c 7 rfl
         have xv6t7 := xv6t6.s 7 (by simp) (.bool q.ev)
         have xv6q8 := xv6t7.c 8 rfl
         have xv6 := xv6t7.s 8 (by simp) (.bool q.ind)
         simp only [List.set_cons_succ, List.set_cons_zero, Nat.zero_add] at xv6 xv6q0 xv6q1 xv6q2 xv6q3 xv6q4 xv6q5 xv6q6 xv6q7 xv6q8
         have g6xv := (And.intro ((xv6.cel Z 0 0 rfl).1) (And.intro ((xv6.cel Z 0 1 rfl).1) (And.intro ((xv6.cel Y 0 0 rfl).1) (And.intro ((xv6.cel Y 0 1 rfl).1) (And.intro ((xv6.cel Y 0 2 rfl).1) (And.intro ((xv6.cel Y 0 3 rfl).1) (And.intro ((xv6.cel Y 0 4 rfl).1) (And.intro ((xv6.cel Y 0 5 rfl).1) (And.intro ((xv6.cel Y 0 6 rfl).1) (And.intro ((xv6.cel Y 0 7 rfl).1) ((xv6.cel Y 0 8 rfl).1)))))))))))
         simp only [Nat.zero_add, Nat.add_zero] at g6xv
         have arm : True := trivial))
  all_goals
    have rm7 := aside (show RefM H6 (.agg #[.int .u64 size, .slice B6 n6 c6]) size (retM q m head ct) (L + 400) by rw [← hret.out]; exact rm6.leM (by omega))
    have le7 := aside (show ∀ l c, H l = some c → H6 l = some c from fun l c h => le6 l c (le2 l c h))
    generalize hW : World.setCell (World.setCell (World.setCell _ _ _) _ _) _ _ = w8 at xv6 ⊢
    clear hW g6 g6x g6xv gs s6 x6 s4 s4d rm6 rm2
    have f0 := xv6.c 0 rfl
    have f1 := xv6.c 1 rfl
    have f2 := xv6.c 2 rfl
    have f3 := xv6.c 3 rfl
    have f4 := xv6.c 4 rfl
    have f5 := xv6.c 5 rfl
    have f6 := xv6.c 6 rfl
    have f7 := xv6.c 7 rfl
    have f8 := xv6.c 8 rfl
    simp only [Nat.zero_add] at f0 f1 f2 f3 f4 f5 f6 f7 f8
    have g0 := xv6.cel X 0 0 rfl
    have g1 := xv6.cel X 0 1 rfl
    simp only [Nat.zero_add] at g0 g1
    have kk := aside (k.out w8 H6 B6 n6 c6 le7.out rm7.out xv6.wk)
    clear k le6 le2 xv6
    go_wp2
    refine bodyPost_ret (by simp [results, Try.results109, go_sem, f0.1, f1.1, f2.1, f3.1, f4.1, f5.1, f6.1, f7.1, f8.1, g0.1, g1.1]; try rfl) rfl ?_
    exact kk.out

theorem c_refPassedQ (a b c : Int) (h0 : 0 ≤ a ∧ a ≤ 65535) (h1 : 0 ≤ b ∧ b ≤ 65535) (h2 : 0 ≤ c ∧ c ≤ 65535)
    (k : R (.returned (.bool (decide ((c - a - 1) % 65536 < (c - b) % 65536)))) w) :
    Calls Try.prog 132 #[.int .i64 a, .int .i64 b, .int .i64 c] w R := by
  go_enter Try.func132, Try.ntmps132
  go_wp2
  go_loop [7] (fun v => ∃ i : Int, 0 ≤ i ∧ i ≤ (c - b) % 65536 ∧ v = .int .i64 ((b + i) % 65536) ∧ (i ≤ (a - b) % 65536)) (fun v => ((c - intOf v) % 65536).toNat)
  case atStart => exact ⟨0, by omega, by omega, by simp; omega, by omega⟩
  case round =>
    obtain ⟨i, hi0, hi1, rfl, hi2⟩ := hrel
    by_cases e : (b + i) % 65536 = c
    · have e1 : ((b + i) % 65536 != c) = false := bne_eq_false_iff_eq.2 e
      have K : decide ((c - a - 1) % 65536 < (c - b) % 65536) = false := by simp; omega
      clear e
      go_wp2
      exact ret_b k K
    · by_cases f : (b + i) % 65536 = a
      · have e1 : ((b + i) % 65536 != c) = true := bne_iff_ne.2 e
        have f1 : ((b + i) % 65536 == a) = true := beq_iff_eq.2 f
        have K : decide ((c - a - 1) % 65536 < (c - b) % 65536) = true := by simp; omega
        clear e f
        go_wp2
        exact ret_b k K
      · have e1 : ((b + i) % 65536 != c) = true := bne_iff_ne.2 e
        have f1 : ((b + i) % 65536 == a) = false := beq_eq_false_iff_ne.2 f
        have K : ∃ j, 0 ≤ j ∧ j ≤ (c - b) % 65536 ∧ Value.int .i64 (((b + i) % 65536 + 1) % 65536) = Value.int .i64 ((b + j) % 65536) ∧ j ≤ (a - b) % 65536 :=
          ⟨i + 1, by omega, by omega, by congr 1; omega, by omega⟩
        have M : ((c - intOf (Value.int IntKind.i64 (((b + i) % 65536 + 1) % 65536))) % 65536).toNat < ((c - intOf (Value.int IntKind.i64 ((b + i) % 65536))) % 65536).toNat := by simp [intOf]; omega
        clear e f
        go_wp2
        go_round
        case rel => exact K
        case measure => exact M


set_option maxRecDepth 100000 in
set_option maxHeartbeats 4000000 in
theorem c_refQTells (q : QuM) (s : Sat W0 w H A) (rm : RefM H (.agg #[.int .u64 size, .slice B n0 c0]) size m L) (hL : L ≤ 100000000000) (hz : 0 ≤ size ∧ size ≤ 268435456) (frm : Int) (hf : 0 ≤ frm ∧ frm ≤ 65535) (hv : frm ≠ q.us → q.okP size)
    (k : ∀ w', Sat W0 w' H A → R (.returned (.bool (tellsP q size m frm))) w') :
    Calls Try.prog 107 #[.agg #[.int .u64 size, .slice B n0 c0], .agg #[.int .i64 q.n, .int .u64 q.d, .int .u64 q.a, .int .u64 q.u, .bool q.rdy, .int .i64 q.fet, .int .i64 q.us, .bool q.ev, .bool q.ind], .int .i64 frm] w R := by
  have s1 := (s.alloc (c := [.int .u64 size, .slice B n0 c0]) (t := 28)).alloc (c := [.int .i64 q.n, .int .u64 q.d, .int .u64 q.a, .int .u64 q.u, .bool q.rdy, .int .i64 q.fet, .int .i64 q.us, .bool q.ev, .bool q.ind]) (t := 106)
  obtain ⟨Z, hZ⟩ : ∃ Z, w.heap.size = Z := ⟨_, rfl⟩
  obtain ⟨Y, hY⟩ : ∃ Y, Z + 1 = Y := ⟨_, rfl⟩
  simp only [World.size_alloc, hZ, hY] at s1
  have z0 := s1.cel Z 0 0 rfl
  have z1 := s1.cel Z 0 1 rfl
  simp only [Nat.zero_add] at z0 z1
  have y0 := s1.cel Y 0 0 rfl
  have y1 := s1.cel Y 0 1 rfl
  have y2 := s1.cel Y 0 2 rfl
  have y3 := s1.cel Y 0 3 rfl
  have y4 := s1.cel Y 0 4 rfl
  have y5 := s1.cel Y 0 5 rfl
  have y6 := s1.cel Y 0 6 rfl
  have y7 := s1.cel Y 0 7 rfl
  have y8 := s1.cel Y 0 8 rfl
  simp only [Nat.zero_add] at y0 y1 y2 y3 y4 y5 y6 y7 y8
  by_cases heq : frm = q.us
  · have K := aside (k _ s1.tail1.tail1)
    rw [show tellsP q size m frm = false from if_pos heq] at K
    clear k hv s s1
    have e1 : (frm == q.us) = true := by simp [heq]
    replace heq := aside heq
    go_enter Try.func107, Try.ntmps107
    go_wp2
    exact K.out
  have hv := hv heq
  have hn := QuM.okP_bd hv
  have ha := q.ha
  have ha2 : 0 ≤ q.a ∧ q.a ≤ 4294967295 := by have := hv.2.2.1; unfold hasP at this; omega
  have e1 : (frm == q.us) = false := by simp [heq]
  have hux := q.hus
  have hmb := rm.bd
  cases hev : q.ev with
  | true =>
    have hT : tellsP q size m frm = decide ((q.us - hw size m (q.a + 4 + 2 * q.n) - 1) % 65536 < (q.us - frm) % 65536) := by unfold tellsP; rw [if_neg heq, if_pos hev]
    rw [hT] at k
    have hwb := hw_bd hmb size (q.a + 4 + 2 * q.n)
    obtain ⟨X, hX⟩ : ∃ y, hw size m (q.a + 4 + 2 * q.n) = y := ⟨_, rfl⟩
    rw [hX] at k hwb
    rw [hev] at s1
    have z0 := s1.cel Z 0 0 rfl
    have z1 := s1.cel Z 0 1 rfl
    simp only [Nat.zero_add] at z0 z1
    have y0 := s1.cel Y 0 0 rfl
    have y1 := s1.cel Y 0 1 rfl
    have y2 := s1.cel Y 0 2 rfl
    have y3 := s1.cel Y 0 3 rfl
    have y4 := s1.cel Y 0 4 rfl
    have y5 := s1.cel Y 0 5 rfl
    have y6 := s1.cel Y 0 6 rfl
    have y7 := s1.cel Y 0 7 rfl
    have y8 := s1.cel Y 0 8 rfl
    simp only [Nat.zero_add] at y0 y1 y2 y3 y4 y5 y6 y7 y8
    have sd := s1.drew
    replace k := aside k
    have gd := (And.intro ((sd.cel Z 0 0 rfl).1) (And.intro ((sd.cel Z 0 1 rfl).1) (And.intro ((sd.cel Y 0 0 rfl).1) (And.intro ((sd.cel Y 0 1 rfl).1) (And.intro ((sd.cel Y 0 2 rfl).1) (And.intro ((sd.cel Y 0 3 rfl).1) (And.intro ((sd.cel Y 0 4 rfl).1) (And.intro ((sd.cel Y 0 5 rfl).1) (And.intro ((sd.cel Y 0 6 rfl).1) (And.intro ((sd.cel Y 0 7 rfl).1) ((sd.cel Y 0 8 rfl).1)))))))))))
    simp only [Nat.zero_add, Nat.add_zero] at gd
    clear s
    replace hv := aside hv
    replace heq := aside heq
    replace hT := aside hT
    replace hX := aside hX
    replace rm := aside rm
    replace hmb := aside hmb
    replace hev := aside hev
    go_enter Try.func107, Try.ntmps107
    go_wp2
    go_region_held3 (fun w' => w'.cell? ⟨Z, 0, none⟩ = some (.int .u64 size) ∧ w'.cell? ⟨Z, 1, none⟩ = some (.slice B n0 c0) ∧ w'.cell? ⟨Y, 0, none⟩ = some (.int .i64 q.n) ∧ w'.cell? ⟨Y, 1, none⟩ = some (.int .u64 q.d) ∧ w'.cell? ⟨Y, 2, none⟩ = some (.int .u64 q.a) ∧ w'.cell? ⟨Y, 3, none⟩ = some (.int .u64 q.u) ∧ w'.cell? ⟨Y, 4, none⟩ = some (.bool q.rdy) ∧ w'.cell? ⟨Y, 5, none⟩ = some (.int .i64 q.fet) ∧ w'.cell? ⟨Y, 6, none⟩ = some (.int .i64 q.us) ∧ w'.cell? ⟨Y, 7, none⟩ = some (.bool true) ∧ w'.cell? ⟨Y, 8, none⟩ = some (.bool q.ind))
      (first | with_reducible exact gd | with_reducible exact g3)
      (first
        | (go_at_call 132; refine c_refPassedQ X frm q.us hwb hf hux ?_)
        | (go_at_call 133; with_reducible (refine c_refWanted sd rm.out hL hz q.n q.d q.a q.u ha2 hn ?_); rw [hX.out]; intro w3 s3
           have g3 := (And.intro ((s3.cel Z 0 0 rfl).1) (And.intro ((s3.cel Z 0 1 rfl).1) (And.intro ((s3.cel Y 0 0 rfl).1) (And.intro ((s3.cel Y 0 1 rfl).1) (And.intro ((s3.cel Y 0 2 rfl).1) (And.intro ((s3.cel Y 0 3 rfl).1) (And.intro ((s3.cel Y 0 4 rfl).1) (And.intro ((s3.cel Y 0 5 rfl).1) (And.intro ((s3.cel Y 0 6 rfl).1) (And.intro ((s3.cel Y 0 7 rfl).1) ((s3.cel Y 0 8 rfl).1)))))))))))
           simp only [Nat.zero_add, Nat.add_zero] at g3
           have arm : True := trivial))
    all_goals
      clear s1 sd
      go_wp2
      exact k.out _ s3.tail1.tail1
  | false =>
    have hT : tellsP q size m frm = decide (hw size m q.a % 2 = 0) := by unfold tellsP; rw [if_neg heq, hev]; rfl
    rw [hT] at k
    rw [hev] at s1
    have z0 := s1.cel Z 0 0 rfl
    have z1 := s1.cel Z 0 1 rfl
    simp only [Nat.zero_add] at z0 z1
    have y0 := s1.cel Y 0 0 rfl
    have y1 := s1.cel Y 0 1 rfl
    have y2 := s1.cel Y 0 2 rfl
    have y3 := s1.cel Y 0 3 rfl
    have y4 := s1.cel Y 0 4 rfl
    have y5 := s1.cel Y 0 5 rfl
    have y6 := s1.cel Y 0 6 rfl
    have y7 := s1.cel Y 0 7 rfl
    have y8 := s1.cel Y 0 8 rfl
    simp only [Nat.zero_add] at y0 y1 y2 y3 y4 y5 y6 y7 y8
    have hwb := hw_bd hmb size q.a
    obtain ⟨X, hX⟩ : ∃ y, hw size m q.a = y := ⟨_, rfl⟩
    rw [hX] at k hwb
    have em : X.tmod 2 = X % 2 := Int.tmod_eq_emod_of_nonneg hwb.1
    obtain ⟨P, hP⟩ : ∃ y, X % 2 = y := ⟨_, rfl⟩
    rw [hP] at em k
    replace k := aside k
    clear s
    replace hv := aside hv
    replace heq := aside heq
    replace hT := aside hT
    replace hX := aside hX
    replace rm := aside rm
    replace hmb := aside hmb
    replace hP := aside hP
    replace hev := aside hev
    go_enter Try.func107, Try.ntmps107
    go_wp2_with fail
    refine c_refFlags s1 rm.out hL hz q.n q.d q.a q.u ha ?_
    rw [hX.out]
    intro w3 s3
    clear s1
    go_wp2
    refine ret_b (k.out _ s3.tail1.tail1) ?_
    by_cases hy : P = 0 <;> simp [hy]

set_option maxRecDepth 100000 in
set_option maxHeartbeats 4000000 in
theorem c_refQAsk (q : QuM) (s : Sat W0 w H A) (rm : RefM H (.agg #[.int .u64 size, .slice B n0 c0]) size m L) (hL : L ≤ 80000000000) (hz : 0 ≤ size ∧ size ≤ 268435456) (hv : q.ev = true → q.okP size)
    (k : ∀ w' H' B' n' c', (∀ l c, H l = some c → H' l = some c) → RefM H' (.agg #[.int .u64 size, .slice B' n' c']) size (askM q m) (L + 200) → Sat W0 w' H' A → R (.returned (.agg #[.int .u64 size, .slice B' n' c'])) w') :
    Calls Try.prog 110 #[.agg #[.int .u64 size, .slice B n0 c0], .agg #[.int .i64 q.n, .int .u64 q.d, .int .u64 q.a, .int .u64 q.u, .bool q.rdy, .int .i64 q.fet, .int .i64 q.us, .bool q.ev, .bool q.ind]] w R := by
  have s1 := ((s.alloc (c := [.int .u64 size, .slice B n0 c0]) (t := 28)).alloc (c := [.int .i64 q.n, .int .u64 q.d, .int .u64 q.a, .int .u64 q.u, .bool q.rdy, .int .i64 q.fet, .int .i64 q.us, .bool q.ev, .bool q.ind]) (t := 106)).alloc (c := [.int .u64 0, .slice none 0 0]) (t := 28)
  obtain ⟨Z, hZ⟩ : ∃ Z, w.heap.size = Z := ⟨_, rfl⟩
  obtain ⟨Y, hY⟩ : ∃ Y, Z + 1 = Y := ⟨_, rfl⟩
  obtain ⟨X, hX⟩ : ∃ X, Y + 1 = X := ⟨_, rfl⟩
  simp only [World.size_alloc, hZ, hY, hX] at s1
  have z0 := s1.cel Z 0 0 rfl
  have z1 := s1.cel Z 0 1 rfl
  simp only [Nat.zero_add] at z0 z1
  have y0 := s1.cel Y 0 0 rfl
  have y1 := s1.cel Y 0 1 rfl
  have y2 := s1.cel Y 0 2 rfl
  have y3 := s1.cel Y 0 3 rfl
  have y4 := s1.cel Y 0 4 rfl
  have y5 := s1.cel Y 0 5 rfl
  have y6 := s1.cel Y 0 6 rfl
  have y7 := s1.cel Y 0 7 rfl
  have y8 := s1.cel Y 0 8 rfl
  simp only [Nat.zero_add] at y0 y1 y2 y3 y4 y5 y6 y7 y8
  cases hev : q.ev with
  | false =>
    have s2 := ((s.alloc (c := [.int .u64 size, .slice B n0 c0]) (t := 28)).alloc (c := [.int .i64 q.n, .int .u64 q.d, .int .u64 q.a, .int .u64 q.u, .bool q.rdy, .int .i64 q.fet, .int .i64 q.us, .bool q.ev, .bool q.ind]) (t := 106)).alloc (c := [.int .u64 size, .slice B n0 c0]) (t := 28)
    simp only [World.size_alloc, hZ, hY, hX] at s2
    rw [hev] at s1 s2
    have z0 := s2.cel Z 0 0 rfl
    have z1 := s2.cel Z 0 1 rfl
    simp only [Nat.zero_add] at z0 z1
    have y0 := s2.cel Y 0 0 rfl
    have y1 := s2.cel Y 0 1 rfl
    have y2 := s2.cel Y 0 2 rfl
    have y3 := s2.cel Y 0 3 rfl
    have y4 := s2.cel Y 0 4 rfl
    have y5 := s2.cel Y 0 5 rfl
    have y6 := s2.cel Y 0 6 rfl
    have y7 := s2.cel Y 0 7 rfl
    have y8 := s2.cel Y 0 8 rfl
    simp only [Nat.zero_add] at y0 y1 y2 y3 y4 y5 y6 y7 y8
    have z0 := s1.cel Z 0 0 rfl
    have z1 := s1.cel Z 0 1 rfl
    simp only [Nat.zero_add] at z0 z1
    have y0 := s1.cel Y 0 0 rfl
    have y1 := s1.cel Y 0 1 rfl
    have y2 := s1.cel Y 0 2 rfl
    have y3 := s1.cel Y 0 3 rfl
    have y4 := s1.cel Y 0 4 rfl
    have y5 := s1.cel Y 0 5 rfl
    have y6 := s1.cel Y 0 6 rfl
    have y7 := s1.cel Y 0 7 rfl
    have y8 := s1.cel Y 0 8 rfl
    simp only [Nat.zero_add] at y0 y1 y2 y3 y4 y5 y6 y7 y8
    have K := aside (k _ H B n0 c0 (fun _ _ h => h) (by unfold askM; rw [hev]; exact rm.leM (by omega)) s2.tail1.tail1.tail1)
    have f0 := s2.c 0 rfl
    have f1 := s2.c 1 rfl
    simp only [Nat.zero_add] at f0 f1
    clear s s1 s2 k
    replace hev := aside hev
    replace rm := aside rm
    go_enter Try.func110, Try.ntmps110
    go_wp2
    refine bodyPost_ret (by simp [results, Try.results110, go_sem, f0.1, f1.1]; try rfl) rfl ?_
    exact K.out
  | true =>
    have hv := hv hev
    have hn := QuM.okP_bd hv
    have hu0 := aside (show 0 ≤ q.u ∧ hasP size q.u (8 * q.n + 6) from ⟨q.hu.1, hv.2.2.2⟩)
    have hfx := q.hfet
    have hask := aside (show askM q m = putB m (q.u + 4 + 8 * q.n) (leb q.fet 2) by unfold askM; rw [hev]; rfl)
    rw [hev] at s1
    have z0 := s1.cel Z 0 0 rfl
    have z1 := s1.cel Z 0 1 rfl
    simp only [Nat.zero_add] at z0 z1
    have y0 := s1.cel Y 0 0 rfl
    have y1 := s1.cel Y 0 1 rfl
    have y2 := s1.cel Y 0 2 rfl
    have y3 := s1.cel Y 0 3 rfl
    have y4 := s1.cel Y 0 4 rfl
    have y5 := s1.cel Y 0 5 rfl
    have y6 := s1.cel Y 0 6 rfl
    have y7 := s1.cel Y 0 7 rfl
    have y8 := s1.cel Y 0 8 rfl
    simp only [Nat.zero_add] at y0 y1 y2 y3 y4 y5 y6 y7 y8
    replace k := aside k
    clear s
    replace hv := aside hv
    replace rm := aside rm
    replace hev := aside hev
    go_enter Try.func110, Try.ntmps110
    go_wp2_with fail
    refine c_refRingWant s1 rm.out hL hz q.n q.d q.a q.u q.fet hn hu0.out hfx ?_
    intro w3 H3 B3 n3 c3 le3 rm3 s3
    have x3q0 := s3.cel X 0 0 rfl
    have x3t0 := (s3.pc X 0).s0 (.int .u64 size)
    have x3q1 := x3t0.c 1 rfl
    have x3 := x3t0.s 1 (by simp) (.slice B3 n3 c3)
    simp only [List.set_cons_succ, List.set_cons_zero, Nat.zero_add] at x3 x3q0 x3q1
    have f0 := x3.c 0 rfl
    have f1 := x3.c 1 rfl
    simp only [Nat.zero_add] at f0 f1
    have rm4 := aside (show RefM H3 (.agg #[.int .u64 size, .slice B3 n3 c3]) size (askM q m) (L + 200) by rw [hask.out]; exact rm3)
    replace le3 := aside le3
    clear s1 s3 rm3 z0 z1 y0 y1 y2 y3 y4 y5 y6 y7 y8
    go_wp2
    refine bodyPost_ret (by simp [results, Try.results110, go_sem, f0.1, f1.1]; try rfl) rfl ?_
    exact k.out _ H3 B3 n3 c3 le3.out rm4.out x3.wk
end
end Go.Proofs.Ytippipfogbgemaa

namespace Go.Proofs.Ytippipfogbgemaa
open Go.RowKit
set_option linter.unusedVariables false
set_option linter.unusedSimpArgs false

section
variable {R : Ending → World → Prop} {W0 w : World} {H : Hp} {A F : List Hp} {v : Value} {size : Int} {m : Int → Int} {L : Nat}


set_option maxRecDepth 100000 in
set_option maxHeartbeats 4000000 in
theorem c_refWalk (s : Sat W0 w H A) (rm : RefM H v size m L) (hL : L ≤ 100000000000) (hz : 0 ≤ size ∧ size ≤ 268435456) (N : Nat) (d a' u head : Int) (ind : Bool) (hN : N ≤ 256) (hd : 0 ≤ d ∧ d ≤ 18446744073709551615) (hh : -9223372036854775808 ≤ head ∧ head ≤ 9223372036854775807)
    (k : ∀ e segs ta tl, walkP m size d N head ind = (e, segs, ta, tl) → ∀ w' B n c h, OwnS 3 (.slice B n c) segs.length (encG segs) h → Sat W0 w' H (h :: A) →
      R (.returned (.tuple #[.agg #[.slice B n c, .int .u64 ta, .int .u64 tl], .int .i64 e])) w') :
    Calls Try.prog 28 #[v, .agg #[.int .i64 N, .int .u64 d, .int .u64 a', .int .u64 u], .int .i64 head, .bool ind] w R := by
  obtain ⟨B, n0, c0, rfl⟩ := rm.shapeM
  have s1 := (((s.alloc (c := [.int .u64 size, .slice B n0 c0]) (t := 28)).alloc (c := [.int .i64 N, .int .u64 d, .int .u64 a', .int .u64 u]) (t := 46)).alloc (c := [.slice none 0 0, .int .u64 0, .int .u64 0]) (t := 60)).emp
  obtain ⟨Z, hZ⟩ : ∃ Z, w.heap.size = Z := ⟨_, rfl⟩
  simp only [World.size_alloc] at s1
  rw [hZ] at s1
  have z0 := s1.cel Z 0 0 rfl
  have z1 := s1.cel Z 0 1 rfl
  simp only [Nat.zero_add] at z0 z1
  have l0 := s1.cel (Z+1) 0 0 rfl
  have l1 := s1.cel (Z+1) 0 1 rfl
  simp only [Nat.zero_add] at l0 l1
  clear s
  replace k := aside k
  go_enter Try.func28, Try.ntmps28
  go_wp2_with fail
  refine c_refAlong rm hL hz d N hd hN 0 0 N (segs := []) head s1 (OwnS.nil 3) hh hN (by rw [List.length_nil]; omega) ?_
  intro e a out hE wB d1 d2 d3 d4 v1 h1 hv1 hown s2
  obtain ⟨A1, n1, c1, rfl⟩ := hv1
  have s5 := (s2.alloc (c := [.int .u64 d1, .int .u32 d2, .int .u16 d3, .int .u16 d4]) (t := 169)).alloc (c := [.slice A1 n1 c1, .int .u64 0, .int .u64 0]) (t := 60)
  obtain ⟨Y, hY⟩ : ∃ Y, wB.heap.size = Y := ⟨_, rfl⟩
  simp only [World.size_alloc] at s5
  rw [hY] at s5
  have hlen := aside (alongP_len hE)
  clear s1 s2 z0 z1 l0 l1 hZ
  by_cases he : e = 0
  · subst he
    obtain ⟨own, rfl, rfl, rfl, rfl⟩ := hown rfl
    have b1 := ofB_bdn rm.bd a 8
    have b2 := ofB_bdn rm.bd (a + 8) 4
    have b3 := ofB_bdn rm.bd (a + 12) 2
    obtain ⟨hp1, hp2, hp3⟩ : (0 ≤ w1 m a ∧ w1 m a ≤ 18446744073709551615) ∧ (0 ≤ w2 m a ∧ w2 m a ≤ 4294967295) ∧ (0 ≤ w3 m a ∧ w3 m a ≤ 65535) := by
      simp only [w1, w2, w3]
      omega
    have E1 := fun h4 => walkP_plain (ind := ind) hE h4
    have E2 := fun h4 h1 => walkP_nested (ind := ind) hE h4 h1
    have E3 := fun h4 h1 hb => walkP_bad (ind := ind) hE h4 h1 hb
    have E4 := fun h4 h1 hb hh => walkP_place (ind := ind) hE h4 h1 hb hh
    have E5 := fun h4 h1 hb hh => fun e a segs hE2 => walkP_in (e' := e) (a' := a) (segs' := segs) (ind := ind) hE h4 h1 hb hh hE2
    obtain ⟨x1, hx1⟩ : ∃ y, w1 m a = y := ⟨_, rfl⟩
    obtain ⟨x2, hx2⟩ : ∃ y, w2 m a = y := ⟨_, rfl⟩
    obtain ⟨x3, hx3⟩ : ∃ y, w3 m a = y := ⟨_, rfl⟩
    obtain ⟨x4, hx4⟩ : ∃ y, w4 m a = y := ⟨_, rfl⟩
    rw [hx1] at hp1 E4 E5 s5
    rw [hx2] at hp2 E3 E4 E5 s5
    rw [hx3] at hp3 E1 E2 E3 E4 E5 s5
    rw [hx4] at s5
    rw [hx1, hx2, hx3, hx4]
    have y0 := s5.cel Y 0 0 rfl
    have y1 := s5.cel Y 0 1 rfl
    have y2 := s5.cel Y 0 2 rfl
    have y3 := s5.cel Y 0 3 rfl
    simp only [Nat.zero_add] at y0 y1 y2 y3
    clear hown b1 b2 b3
    replace E1 := aside E1
    replace E2 := aside E2
    replace E3 := aside E3
    replace E4 := aside E4
    replace E5 := aside E5
    replace hx1 := aside hx1
    replace hx2 := aside hx2
    replace hx3 := aside hx3
    replace hx4 := aside hx4
    replace hE := aside hE
    replace own := aside own
    go_wp2_with fail
    refine c_flag s5 x1 x2 x3 x4 4 hp3 (by omega) ?_
    intro wC s6
    clear s5 y0 y1 y2 y3 hY
    have y0 := s6.cel Y 0 0 rfl
    have y1 := s6.cel Y 0 1 rfl
    have y2 := s6.cel Y 0 2 rfl
    have y3 := s6.cel Y 0 3 rfl
    simp only [Nat.zero_add] at y0 y1 y2 y3
    cases c4 : flg x3 4 with
    | false =>
      have hW := aside (E1.out c4)
      clear E1 E2 E3 E4 E5
      have o0 := s6.cel (Y+1) 0 0 rfl
      have o1 := s6.cel (Y+1) 0 1 rfl
      have o2 := s6.cel (Y+1) 0 2 rfl
      simp only [Nat.zero_add] at o0 o1 o2
      replace c4 := aside c4
      have own2 := own.out
      have hn1 : n1 = out.length := by obtain ⟨_, _, _, he, _⟩ := own2; injection he
      replace hn1 := aside hn1
      have K := fun w' => k.out 0 out 0 0 hW.out w' A1 n1 c1 h1 own2
      replace K := aside K
      clear k
      have s8q0 := s6.cel (Z+1+1) 0 0 rfl
      have s8t0 := (s6.pc (Z+1+1) 0).s0 (.slice A1 n1 c1)
      have s8q1 := s8t0.c 1 rfl
      have s8t1 := s8t0.s 1 (by simp) (.int .u64 0)
      have s8q2 := s8t1.c 2 rfl
      have s8 := s8t1.s 2 (by simp) (.int .u64 0)
      simp only [List.set_cons_succ, List.set_cons_zero, Nat.zero_add] at s8 s8q0 s8q1 s8q2
      have f0 := s8.c 0 rfl
      have f1 := s8.c 1 rfl
      have f2 := s8.c 2 rfl
      simp only [Nat.zero_add] at f0 f1 f2
      go_wp2
      refine bodyPost_ret (by simp [results, Try.results28, go_sem, f0.1, f1.1, f2.1]; try rfl) rfl ?_
      exact K.out _ s8.wk
    | true =>
      cases ind with
      | false =>
        have hW := aside (E2.out c4 (.inl rfl))
        clear E1 E2 E3 E4 E5
        replace c4 := aside c4
        have K := fun w' => k.out 153 [] 0 0 hW.out w' none 0 0 empH (OwnS.nil 3)
        replace K := aside K
        clear k
        have s8q0 := s6.cel (Z+1+1) 0 0 rfl
        have s8t0 := (s6.pc (Z+1+1) 0).s0 (.slice none 0 0)
        have s8q1 := s8t0.c 1 rfl
        have s8t1 := s8t0.s 1 (by simp) (.int .u64 0)
        have s8q2 := s8t1.c 2 rfl
        have s8 := s8t1.s 2 (by simp) (.int .u64 0)
        simp only [List.set_cons_succ, List.set_cons_zero, Nat.zero_add] at s8 s8q0 s8q1 s8q2
        have f0 := s8.c 0 rfl
        have f1 := s8.c 1 rfl
        have f2 := s8.c 2 rfl
        simp only [Nat.zero_add] at f0 f1 f2
        go_wp2
        refine bodyPost_ret (by simp [results, Try.results28, go_sem, f0.1, f1.1, f2.1]; try rfl) rfl ?_
        exact K.out _ s8.emp.wk
      | true =>
        go_wp2_with fail
        refine c_flag s6 x1 x2 x3 x4 1 hp3 (by omega) ?_
        intro wD s7
        clear s6 y0 y1 y2 y3
        have y0 := s7.cel Y 0 0 rfl
        have y1 := s7.cel Y 0 1 rfl
        have y2 := s7.cel Y 0 2 rfl
        have y3 := s7.cel Y 0 3 rfl
        simp only [Nat.zero_add] at y0 y1 y2 y3
        cases c1' : flg x3 1 with
        | true =>
          have hW := aside (E2.out c4 (.inr c1'))
          clear E1 E2 E3 E4 E5
          replace c4 := aside c4
          replace c1' := aside c1'
          have K := fun w' => k.out 153 [] 0 0 hW.out w' none 0 0 empH (OwnS.nil 3)
          replace K := aside K
          clear k
          have s8q0 := s7.cel (Z+1+1) 0 0 rfl
          have s8t0 := (s7.pc (Z+1+1) 0).s0 (.slice none 0 0)
          have s8q1 := s8t0.c 1 rfl
          have s8t1 := s8t0.s 1 (by simp) (.int .u64 0)
          have s8q2 := s8t1.c 2 rfl
          have s8 := s8t1.s 2 (by simp) (.int .u64 0)
          simp only [List.set_cons_succ, List.set_cons_zero, Nat.zero_add] at s8 s8q0 s8q1 s8q2
          have f0 := s8.c 0 rfl
          have f1 := s8.c 1 rfl
          have f2 := s8.c 2 rfl
          simp only [Nat.zero_add] at f0 f1 f2
          go_wp2
          refine bodyPost_ret (by simp [results, Try.results28, go_sem, f0.1, f1.1, f2.1]; try rfl) rfl ?_
          exact K.out _ s8.emp.wk
        | false =>
          have cn : ¬ (true = false ∨ flg x3 1 = true) := by rw [c1']; decide
          have F3 := fun hb => E3.out c4 cn hb
          have F4 := fun hb hh => E4.out c4 cn hb hh
          have F5 := fun hb hh => E5.out c4 cn hb hh
          clear E1 E2 E3 E4 E5 cn
          replace F3 := aside F3
          replace F4 := aside F4
          replace F5 := aside F5
          replace c4 := aside c4
          replace c1' := aside c1'
          by_cases hb : badT x2
          · have hW := aside (F3.out hb)
            clear F3 F4 F5
            have hb3 : ¬ x2 % 16 = 0 ∨ (x2 % 16 = 0 ∧ x2 < 16) ∨ (x2 % 16 = 0 ∧ ¬ x2 < 16 ∧ 4096 < x2) := by unfold badT at hb; omega
            clear hb
            obtain ⟨rr, hr⟩ : ∃ rr, x2 % 16 = rr := ⟨_, rfl⟩
            rw [hr] at hb3
            rcases hb3 with hb | ⟨hb, hb2⟩ | ⟨hb, hb2, hb4⟩
            · have q1 : (rr != 0) = true := by simp [hb]
              have K := fun w' => k.out 154 [] 0 0 hW.out w' none 0 0 empH (OwnS.nil 3)
              replace K := aside K
              clear k
              have s8q0 := s7.cel (Z+1+1) 0 0 rfl
              have s8t0 := (s7.pc (Z+1+1) 0).s0 (.slice none 0 0)
              have s8q1 := s8t0.c 1 rfl
              have s8t1 := s8t0.s 1 (by simp) (.int .u64 0)
              have s8q2 := s8t1.c 2 rfl
              have s8 := s8t1.s 2 (by simp) (.int .u64 0)
              simp only [List.set_cons_succ, List.set_cons_zero, Nat.zero_add] at s8 s8q0 s8q1 s8q2
              have f0 := s8.c 0 rfl
              have f1 := s8.c 1 rfl
              have f2 := s8.c 2 rfl
              simp only [Nat.zero_add] at f0 f1 f2
              go_wp2
              refine bodyPost_ret (by simp [results, Try.results28, go_sem, f0.1, f1.1, f2.1]; try rfl) rfl ?_
              exact K.out _ s8.emp.wk
            · have q1 : (rr != 0) = false := by simp [hb]
              have K := fun w' => k.out 154 [] 0 0 hW.out w' none 0 0 empH (OwnS.nil 3)
              replace K := aside K
              clear k
              have s8q0 := s7.cel (Z+1+1) 0 0 rfl
              have s8t0 := (s7.pc (Z+1+1) 0).s0 (.slice none 0 0)
              have s8q1 := s8t0.c 1 rfl
              have s8t1 := s8t0.s 1 (by simp) (.int .u64 0)
              have s8q2 := s8t1.c 2 rfl
              have s8 := s8t1.s 2 (by simp) (.int .u64 0)
              simp only [List.set_cons_succ, List.set_cons_zero, Nat.zero_add] at s8 s8q0 s8q1 s8q2
              have f0 := s8.c 0 rfl
              have f1 := s8.c 1 rfl
              have f2 := s8.c 2 rfl
              simp only [Nat.zero_add] at f0 f1 f2
              go_wp2
              refine bodyPost_ret (by simp [results, Try.results28, go_sem, f0.1, f1.1, f2.1]; try rfl) rfl ?_
              exact K.out _ s8.emp.wk
            · have q1 : (rr != 0) = false := by simp [hb]
              have K := fun w' => k.out 154 [] 0 0 hW.out w' none 0 0 empH (OwnS.nil 3)
              replace K := aside K
              clear k
              have s8q0 := s7.cel (Z+1+1) 0 0 rfl
              have s8t0 := (s7.pc (Z+1+1) 0).s0 (.slice none 0 0)
              have s8q1 := s8t0.c 1 rfl
              have s8t1 := s8t0.s 1 (by simp) (.int .u64 0)
              have s8q2 := s8t1.c 2 rfl
              have s8 := s8t1.s 2 (by simp) (.int .u64 0)
              simp only [List.set_cons_succ, List.set_cons_zero, Nat.zero_add] at s8 s8q0 s8q1 s8q2
              have f0 := s8.c 0 rfl
              have f1 := s8.c 1 rfl
              have f2 := s8.c 2 rfl
              simp only [Nat.zero_add] at f0 f1 f2
              go_wp2
              refine bodyPost_ret (by simp [results, Try.results28, go_sem, f0.1, f1.1, f2.1]; try rfl) rfl ?_
              exact K.out _ s8.emp.wk
          · have hb1 : x2 % 16 = 0 ∧ 16 ≤ x2 ∧ x2 ≤ 4096 := by unfold badT at hb; omega
            obtain ⟨hb1, hb2, hb4⟩ := hb1
            have q1 : (x2 % 16 != 0) = false := by rw [hb1]; rfl
            have e2 : IntKind.u64.wrap x2 = x2 := by rw [wrap_u64]; omega
            have z0 := s7.cel Z 0 0 rfl
            have z1 := s7.cel Z 0 1 rfl
            simp only [Nat.zero_add] at z0 z1
            by_cases hh : hasP size x1 x2
            · have hd := decide_eq_true hh
              have F6 := fun e a segs => F5.out hb hh e a segs
              clear F3 F4 F5
              replace hb := aside hb
              go_wp2_with fail
              refine c_refHas s7 (by omega) _ _ hp1 (by omega) ?_
              rw [hd]
              intro wE s8
              clear s7 y0 y1 y2 y3 z0 z1
              have y0 := s8.cel Y 0 0 rfl
              have y1 := s8.cel Y 0 1 rfl
              have y2 := s8.cel Y 0 2 rfl
              have y3 := s8.cel Y 0 3 rfl
              simp only [Nat.zero_add] at y0 y1 y2 y3
              have z0 := s8.cel Z 0 0 rfl
              have z1 := s8.cel Z 0 1 rfl
              simp only [Nat.zero_add] at z0 z1
              obtain ⟨q, hq⟩ := Int.eq_ofNat_of_zero_le (show 0 ≤ x2 / 16 by omega)
              have hqb : q ≤ 256 := by omega
              have s9 := ((s8.pc (Y+1) 0).s 1 (by simp) (.int .u64 x1)).s 2 (by simp) (.int .u64 x2)
              simp only [List.set_cons_succ, List.set_cons_zero, Nat.zero_add] at s9
              have o0 := s8.cel (Y+1) 0 0 rfl
              have o1 := s8.cel (Y+1) 0 1 rfl
              have o2 := s8.cel (Y+1) 0 2 rfl
              simp only [Nat.zero_add] at o0 o1 o2
              have t0 := s9.cel (Y+1) 0 0 rfl
              have t1 := s9.cel (Y+1) 0 1 rfl
              have t2 := s9.cel (Y+1) 0 2 rfl
              simp only [Nat.zero_add] at t0 t1 t2
              have p0 := s9.cel Z 0 0 rfl
              have p1 := s9.cel Z 0 1 rfl
              simp only [Nat.zero_add] at p0 p1
              have r0 := s9.cel Y 0 0 rfl
              have r1 := s9.cel Y 0 1 rfl
              have r2 := s9.cel Y 0 2 rfl
              have r3 := s9.cel Y 0 3 rfl
              simp only [Nat.zero_add] at r0 r1 r2 r3
              have own2 := own.out
              have hn1 : n1 = out.length := by obtain ⟨_, _, _, he, _⟩ := own2; injection he
              have hsl : out.length ≤ 256 := by have := hlen.out; simp only [List.length_nil] at this; omega
              rw [hq, Int.toNat_natCast] at F6
              have e5 : IntKind.i64.wrap (q : Int) = q := by simp [IntKind.wrap, IntKind.bits, IntKind.signed]; omega
              have s9' := Sat.pull (h := h1) s9
              replace F6 := aside F6
              replace hn1 := aside hn1
              clear s8 hd
              go_wp2_with fail
              refine c_refAlong rm hL hz x1 q hp1 hqb x1 x2 q 0 s9' own2 (by omega) hqb (by omega) ?_
              intro e7 a7 segs7 hE7 wF g1 g2 g3 g4 v7 h7 hv7 hown7 sA
              obtain ⟨A7, n7, c7, rfl⟩ := hv7
              have sB := sA.alloc (c := [.int .u64 g1, .int .u32 g2, .int .u16 g3, .int .u16 g4]) (t := 169)
              obtain ⟨X, hX⟩ : ∃ X, wF.heap.size = X := ⟨_, rfl⟩
              rw [hX] at sB
              clear s9 s9' sA o0 o1 o2 z0 z1 y0 y1 y2 y3 t0 t1 t2 p0 p1 r0 r1 r2 r3
              have sCq0 := sB.cel (Y+1) 0 0 rfl
              have sCt0 := (sB.pc (Y+1) 0).s0 (.slice A7 n7 c7)
              have sCq1 := sCt0.c 1 rfl
              have sCt1 := sCt0.s 1 (by simp) (.int .u64 x1)
              have sCq2 := sCt1.c 2 rfl
              have sC := sCt1.s 2 (by simp) (.int .u64 x2)
              simp only [List.set_cons_succ, List.set_cons_zero, Nat.zero_add] at sC sCq0 sCq1 sCq2
              have y0 := sC.cel X 0 0 rfl
              have y1 := sC.cel X 0 1 rfl
              have y2 := sC.cel X 0 2 rfl
              have y3 := sC.cel X 0 3 rfl
              simp only [Nat.zero_add] at y0 y1 y2 y3
              have hW := F6.out e7 a7 segs7 hE7
              clear F6 sB
              by_cases he7 : e7 = 0
              · subst he7
                obtain ⟨own7, hg1, hg2, hg3, hg4⟩ := hown7 rfl
                have b3 := ofB_bdn rm.bd (a7 + 12) 2
                have hp7 : 0 ≤ g3 ∧ g3 ≤ 65535 := by rw [hg3]; simp only [w3]; omega
                rw [← hg3] at hW
                clear hown7 b3
                replace own7 := aside own7
                replace hg1 := aside hg1
                replace hg2 := aside hg2
                replace hg3 := aside hg3
                replace hg4 := aside hg4
                replace hE7 := aside hE7
                cases c7' : flg g3 4 with
                | true =>
                  rw [c7', if_pos (by simp [outE])] at hW
                  have hW2 : walkP m size d N head true = (153, [], 0, 0) := by rw [hW]; simp [outE]
                  clear hW
                  have hW := aside hW2
                  clear hW2
                  go_wp2_with fail
                  refine c_flag sC g1 g2 g3 g4 4 hp7 (by omega) ?_
                  rw [c7']
                  intro wG sG
                  clear sC y0 y1 y2 y3 sCq0 sCq1 sCq2 hX
                  replace c7' := aside c7'
                  have K := fun w' => k.out 153 [] 0 0 hW.out w' none 0 0 empH (OwnS.nil 3)
                  replace K := aside K
                  clear k
                  have s8q0 := sG.cel (Z+1+1) 0 0 rfl
                  have s8t0 := (sG.pc (Z+1+1) 0).s0 (.slice none 0 0)
                  have s8q1 := s8t0.c 1 rfl
                  have s8t1 := s8t0.s 1 (by simp) (.int .u64 0)
                  have s8q2 := s8t1.c 2 rfl
                  have s8 := s8t1.s 2 (by simp) (.int .u64 0)
                  simp only [List.set_cons_succ, List.set_cons_zero, Nat.zero_add] at s8 s8q0 s8q1 s8q2
                  have f0 := s8.c 0 rfl
                  have f1 := s8.c 1 rfl
                  have f2 := s8.c 2 rfl
                  simp only [Nat.zero_add] at f0 f1 f2
                  go_wp2
                  refine bodyPost_ret (by simp [results, Try.results28, go_sem, f0.1, f1.1, f2.1]; try rfl) rfl ?_
                  exact K.out _ s8.emp.wk
                | false =>
                  rw [c7', if_neg (by simp [outE])] at hW
                  replace hW := aside hW
                  go_wp2_with fail
                  refine c_flag sC g1 g2 g3 g4 4 hp7 (by omega) ?_
                  rw [c7']
                  intro wG sG
                  clear sC y0 y1 y2 y3 sCq0 sCq1 sCq2 hX
                  replace c7' := aside c7'
                  have o0 := sG.cel (Y+1) 0 0 rfl
                  have o1 := sG.cel (Y+1) 0 1 rfl
                  have o2 := sG.cel (Y+1) 0 2 rfl
                  simp only [Nat.zero_add] at o0 o1 o2
                  have K := fun w' => k.out 0 segs7 x1 x2 hW.out w' A7 n7 c7 h7 own7.out
                  replace K := aside K
                  clear k
                  have s8q0 := sG.cel (Z+1+1) 0 0 rfl
                  have s8t0 := (sG.pc (Z+1+1) 0).s0 (.slice A7 n7 c7)
                  have s8q1 := s8t0.c 1 rfl
                  have s8t1 := s8t0.s 1 (by simp) (.int .u64 x1)
                  have s8q2 := s8t1.c 2 rfl
                  have s8 := s8t1.s 2 (by simp) (.int .u64 x2)
                  simp only [List.set_cons_succ, List.set_cons_zero, Nat.zero_add] at s8 s8q0 s8q1 s8q2
                  have f0 := s8.c 0 rfl
                  have f1 := s8.c 1 rfl
                  have f2 := s8.c 2 rfl
                  simp only [Nat.zero_add] at f0 f1 f2
                  go_wp2
                  refine bodyPost_ret (by simp [results, Try.results28, go_sem, f0.1, f1.1, f2.1]; try rfl) rfl ?_
                  exact K.out _ s8.wk
              · have ho : outE false e7 (flg (w3 m a7) 4) = e7 := by unfold outE; rw [if_neg (fun h => he7 h.1)]
                rw [ho, if_pos he7] at hW
                have d1 : (e7 == 0) = false := by rw [beq_eq_false_iff_ne]; exact he7
                have d2 : (e7 != 0) = true := by simp [he7]
                replace hW := aside hW
                clear hown7 he7 ho
                replace hE7 := aside hE7
                have K := fun w' => k.out e7 [] 0 0 hW.out w' none 0 0 empH (OwnS.nil 3)
                replace K := aside K
                clear k
                have s8q0 := sC.cel (Z+1+1) 0 0 rfl
                have s8t0 := (sC.pc (Z+1+1) 0).s0 (.slice none 0 0)
                have s8q1 := s8t0.c 1 rfl
                have s8t1 := s8t0.s 1 (by simp) (.int .u64 0)
                have s8q2 := s8t1.c 2 rfl
                have s8 := s8t1.s 2 (by simp) (.int .u64 0)
                simp only [List.set_cons_succ, List.set_cons_zero, Nat.zero_add] at s8 s8q0 s8q1 s8q2
                have f0 := s8.c 0 rfl
                have f1 := s8.c 1 rfl
                have f2 := s8.c 2 rfl
                simp only [Nat.zero_add] at f0 f1 f2
                go_wp2
                refine bodyPost_ret (by simp [results, Try.results28, go_sem, f0.1, f1.1, f2.1]; try rfl) rfl ?_
                exact K.out _ s8.emp.wk
            · have hd := decide_eq_false hh
              have hW := aside (F4.out hb hh)
              clear F3 F4 F5 hh
              replace hb := aside hb
              go_wp2_with fail
              refine c_refHas s7 (by omega) _ _ hp1 (by omega) ?_
              rw [hd]
              intro wE s8
              clear s7 y0 y1 y2 y3 z0 z1
              have K := fun w' => k.out 21 [] 0 0 hW.out w' none 0 0 empH (OwnS.nil 3)
              replace K := aside K
              clear k
              have s8q0 := s8.cel (Z+1+1) 0 0 rfl
              have s8t0 := (s8.pc (Z+1+1) 0).s0 (.slice none 0 0)
              have s8q1 := s8t0.c 1 rfl
              have s8t1 := s8t0.s 1 (by simp) (.int .u64 0)
              have s8q2 := s8t1.c 2 rfl
              have s8 := s8t1.s 2 (by simp) (.int .u64 0)
              simp only [List.set_cons_succ, List.set_cons_zero, Nat.zero_add] at s8 s8q0 s8q1 s8q2
              have f0 := s8.c 0 rfl
              have f1 := s8.c 1 rfl
              have f2 := s8.c 2 rfl
              simp only [Nat.zero_add] at f0 f1 f2
              go_wp2
              refine bodyPost_ret (by simp [results, Try.results28, go_sem, f0.1, f1.1, f2.1]; try rfl) rfl ?_
              exact K.out _ s8.emp.wk
  · have hW := aside (walkP_err (ind := ind) hE he)
    have d1 : (e == 0) = false := by rw [beq_eq_false_iff_ne]; exact he
    have d2 : (e != 0) = true := by simp [he]
    clear hown he
    replace hE := aside hE
    have K := fun w' => k.out e [] 0 0 hW.out w' none 0 0 empH (OwnS.nil 3)
    replace K := aside K
    clear k
    have s8q0 := s5.cel (Z+1+1) 0 0 rfl
    have s8t0 := (s5.pc (Z+1+1) 0).s0 (.slice none 0 0)
    have s8q1 := s8t0.c 1 rfl
    have s8t1 := s8t0.s 1 (by simp) (.int .u64 0)
    have s8q2 := s8t1.c 2 rfl
    have s8 := s8t1.s 2 (by simp) (.int .u64 0)
    simp only [List.set_cons_succ, List.set_cons_zero, Nat.zero_add] at s8 s8q0 s8q1 s8q2
    have f0 := s8.c 0 rfl
    have f1 := s8.c 1 rfl
    have f2 := s8.c 2 rfl
    simp only [Nat.zero_add] at f0 f1 f2
    go_wp2
    refine bodyPost_ret (by simp [results, Try.results28, go_sem, f0.1, f1.1, f2.1]; try rfl) rfl ?_
    exact K.out _ s8.emp.wk
end
end Go.Proofs.Ytippipfogbgemaa

namespace Go.Proofs.Ytippipfogbgemaa
open Go.RowKit
set_option linter.unusedVariables false
set_option linter.unusedSimpArgs false

/-- the head that the document tells: -1 where there is none -/
def FetchR.hdD (f : FetchR) : Int := if f.got = true then f.hd else -1

section
variable {R : Ending → World → Prop} {W0 w : World} {H : Hp} {A F : List Hp} {v : Value} {size : Int} {m : Int → Int} {L : Nat} {B : Option Addr} {n0 c0 : Nat}


set_option maxRecDepth 100000 in
set_option maxHeartbeats 4000000 in
theorem c_refQFetch (q : QuM) (s : Sat W0 w H A) (rm : RefM H (.agg #[.int .u64 size, .slice B n0 c0]) size m L) (hL : L ≤ 100000000000) (hz : 0 ≤ size ∧ size ≤ 268435456)
    (k : ∀ f, fetchP q size m = f → ∀ w' B n c h, OwnS 3 (.slice B n c) f.segs.length (encG f.segs) h → Sat W0 w' H (h :: A) → R (.returned (.tuple #[.agg #[.int .i64 f.q.n, .int .u64 f.q.d, .int .u64 f.q.a, .int .u64 f.q.u, .bool f.q.rdy, .int .i64 f.q.fet, .int .i64 f.q.us, .bool f.q.ev, .bool f.q.ind], .int .i64 f.hdD, .agg #[.slice B n c, .int .u64 f.ta, .int .u64 f.tl], .bool f.ok, .int .i64 f.e])) w') :
    Calls Try.prog 58 #[.agg #[.int .u64 size, .slice B n0 c0], .agg #[.int .i64 q.n, .int .u64 q.d, .int .u64 q.a, .int .u64 q.u, .bool q.rdy, .int .i64 q.fet, .int .i64 q.us, .bool q.ev, .bool q.ind]] w R := by
  have s1 := ((((s.alloc (c := [.int .u64 size, .slice B n0 c0]) (t := 28)).alloc (c := [.int .i64 q.n, .int .u64 q.d, .int .u64 q.a, .int .u64 q.u, .bool q.rdy, .int .i64 q.fet, .int .i64 q.us, .bool q.ev, .bool q.ind]) (t := 106)).alloc (c := [.int .i64 0, .int .u64 0, .int .u64 0, .int .u64 0, .bool false, .int .i64 0, .int .i64 0, .bool false, .bool false]) (t := 106)).alloc (c := [.slice none 0 0, .int .u64 0, .int .u64 0]) (t := 60)).alloc (c := [.slice none 0 0, .int .u64 0, .int .u64 0]) (t := 60)
  obtain ⟨Z, hZ⟩ : ∃ Z, w.heap.size = Z := ⟨_, rfl⟩
  obtain ⟨Y, hY⟩ : ∃ Y, Z + 1 = Y := ⟨_, rfl⟩
  obtain ⟨X, hX⟩ : ∃ X, Y + 1 = X := ⟨_, rfl⟩
  obtain ⟨V, hV⟩ : ∃ V, X + 1 = V := ⟨_, rfl⟩
  obtain ⟨U, hU⟩ : ∃ U, V + 1 = U := ⟨_, rfl⟩
  simp only [World.size_alloc, hZ, hY, hX, hV, hU] at s1
  have kn : ∀ e, fetchP q size m = .none q e → ∀ w', Sat W0 w' H A → R (.returned (.tuple #[.agg #[.int .i64 q.n, .int .u64 q.d, .int .u64 q.a, .int .u64 q.u, .bool q.rdy, .int .i64 q.fet, .int .i64 q.us, .bool q.ev, .bool q.ind], .int .i64 (-1), .agg #[.slice none 0 0, .int .u64 0, .int .u64 0], .bool false, .int .i64 e])) w' :=
    fun e he w' t => k _ he w' none 0 0 empH (OwnS.nil 3) t.emp
  cases hrd : q.rdy with
  | false =>
    rw [hrd] at s1
    have K := aside (kn 0 (by unfold fetchP; rw [if_pos hrd]))
    rw [hrd] at K
    have y0 := s1.cel Y 0 0 rfl
    have y1 := s1.cel Y 0 1 rfl
    have y2 := s1.cel Y 0 2 rfl
    have y3 := s1.cel Y 0 3 rfl
    have y4 := s1.cel Y 0 4 rfl
    have y5 := s1.cel Y 0 5 rfl
    have y6 := s1.cel Y 0 6 rfl
    have y7 := s1.cel Y 0 7 rfl
    have y8 := s1.cel Y 0 8 rfl
    simp only [Nat.zero_add] at y0 y1 y2 y3 y4 y5 y6 y7 y8
    clear k kn s
    replace hrd := aside hrd
    replace rm := aside rm
    go_enter Try.func58, Try.ntmps58
    go_wp2
    generalize hWA : World.alloc _ _ = w2 at s1 ⊢
    clear hWA y0 y1 y2 y3 y4 y5 y6 y7 y8
    have sd := s1.drew
    have xq0 := s1.cel X 0 0 rfl
    have xt0 := (s1.pc X 0).s0 (.int .i64 q.n)
    have xq1 := xt0.c 1 rfl
    have xt1 := xt0.s 1 (by simp) (.int .u64 q.d)
    have xq2 := xt1.c 2 rfl
    have xt2 := xt1.s 2 (by simp) (.int .u64 q.a)
    have xq3 := xt2.c 3 rfl
    have xt3 := xt2.s 3 (by simp) (.int .u64 q.u)
    have xq4 := xt3.c 4 rfl
    have xt4 := xt3.s 4 (by simp) (.bool false)
    have xq5 := xt4.c 5 rfl
    have xt5 := xt4.s 5 (by simp) (.int .i64 q.fet)
    have xq6 := xt5.c 6 rfl
    have xt6 := xt5.s 6 (by simp) (.int .i64 q.us)
    have xq7 := xt6.c 7 rfl
    have xt7 := xt6.s 7 (by simp) (.bool q.ev)
    have xq8 := xt7.c 8 rfl
    have x := xt7.s 8 (by simp) (.bool q.ind)
    simp only [List.set_cons_succ, List.set_cons_zero, Nat.zero_add] at x xq0 xq1 xq2 xq3 xq4 xq5 xq6 xq7 xq8
    have xvq0 := x.cel V 0 0 rfl
    have xvt0 := (x.pc V 0).s0 (.slice none 0 0)
    have xvq1 := xvt0.c 1 rfl
    have xvt1 := xvt0.s 1 (by simp) (.int .u64 0)
    have xvq2 := xvt1.c 2 rfl
    have xv := xvt1.s 2 (by simp) (.int .u64 0)
    simp only [List.set_cons_succ, List.set_cons_zero, Nat.zero_add] at xv xvq0 xvq1 xvq2
    have xd := x.drew
    have xvd := xv.drew
    have gs := (And.intro ((sd.cel Y 0 0 rfl).1) (And.intro ((sd.cel Y 0 1 rfl).1) (And.intro ((sd.cel Y 0 2 rfl).1) (And.intro ((sd.cel Y 0 3 rfl).1) (And.intro ((sd.cel Y 0 4 rfl).1) (And.intro ((sd.cel Y 0 5 rfl).1) (And.intro ((sd.cel Y 0 6 rfl).1) (And.intro ((sd.cel Y 0 7 rfl).1) (And.intro ((sd.cel Y 0 8 rfl).1) (And.intro ((sd.cel U 0 0 rfl).1) (And.intro ((sd.cel U 0 1 rfl).1) ((sd.cel U 0 2 rfl).1))))))))))))
    simp only [Nat.zero_add, Nat.add_zero] at gs
    have gx := (And.intro ((xd.cel Y 0 0 rfl).1) (And.intro ((xd.cel Y 0 1 rfl).1) (And.intro ((xd.cel Y 0 2 rfl).1) (And.intro ((xd.cel Y 0 3 rfl).1) (And.intro ((xd.cel Y 0 4 rfl).1) (And.intro ((xd.cel Y 0 5 rfl).1) (And.intro ((xd.cel Y 0 6 rfl).1) (And.intro ((xd.cel Y 0 7 rfl).1) (And.intro ((xd.cel Y 0 8 rfl).1) (And.intro ((xd.cel U 0 0 rfl).1) (And.intro ((xd.cel U 0 1 rfl).1) ((xd.cel U 0 2 rfl).1))))))))))))
    simp only [Nat.zero_add, Nat.add_zero] at gx
    have gxv := (And.intro ((xvd.cel Y 0 0 rfl).1) (And.intro ((xvd.cel Y 0 1 rfl).1) (And.intro ((xvd.cel Y 0 2 rfl).1) (And.intro ((xvd.cel Y 0 3 rfl).1) (And.intro ((xvd.cel Y 0 4 rfl).1) (And.intro ((xvd.cel Y 0 5 rfl).1) (And.intro ((xvd.cel Y 0 6 rfl).1) (And.intro ((xvd.cel Y 0 7 rfl).1) (And.intro ((xvd.cel Y 0 8 rfl).1) (And.intro ((xvd.cel U 0 0 rfl).1) (And.intro ((xvd.cel U 0 1 rfl).1) ((xvd.cel U 0 2 rfl).1))))))))))))
    simp only [Nat.zero_add, Nat.add_zero] at gxv
    go_region_held3 (fun w' => w'.cell? ⟨Y, 0, none⟩ = some (.int .i64 q.n) ∧ w'.cell? ⟨Y, 1, none⟩ = some (.int .u64 q.d) ∧ w'.cell? ⟨Y, 2, none⟩ = some (.int .u64 q.a) ∧ w'.cell? ⟨Y, 3, none⟩ = some (.int .u64 q.u) ∧ w'.cell? ⟨Y, 4, none⟩ = some (.bool false) ∧ w'.cell? ⟨Y, 5, none⟩ = some (.int .i64 q.fet) ∧ w'.cell? ⟨Y, 6, none⟩ = some (.int .i64 q.us) ∧ w'.cell? ⟨Y, 7, none⟩ = some (.bool q.ev) ∧ w'.cell? ⟨Y, 8, none⟩ = some (.bool q.ind) ∧ w'.cell? ⟨U, 0, none⟩ = some (.slice none 0 0) ∧ w'.cell? ⟨U, 1, none⟩ = some (.int .u64 0) ∧ w'.cell? ⟨U, 2, none⟩ = some (.int .u64 0))
      (first | with_reducible exact gs | with_reducible exact gx | with_reducible exact gxv) (fail)
    all_goals
      generalize hW : World.drew _ = w8 at xvd ⊢
      clear hW gs gx gxv xd sd x xv s1
      have f0 := xvd.c 0 rfl
      have f1 := xvd.c 1 rfl
      have f2 := xvd.c 2 rfl
      simp only [Nat.zero_add] at f0 f1 f2
      have g0 := xvd.cel X 0 0 rfl
      have g1 := xvd.cel X 0 1 rfl
      have g2 := xvd.cel X 0 2 rfl
      have g3 := xvd.cel X 0 3 rfl
      have g4 := xvd.cel X 0 4 rfl
      have g5 := xvd.cel X 0 5 rfl
      have g6 := xvd.cel X 0 6 rfl
      have g7 := xvd.cel X 0 7 rfl
      have g8 := xvd.cel X 0 8 rfl
      simp only [Nat.zero_add] at g0 g1 g2 g3 g4 g5 g6 g7 g8
      go_wp2
      refine bodyPost_ret (by simp [results, Try.results58, go_sem, f0.1, f1.1, f2.1, g0.1, g1.1, g2.1, g3.1, g4.1, g5.1, g6.1, g7.1, g8.1]; try rfl) rfl ?_
    exact K.out _ xvd.wk
  | true =>
    rw [hrd] at s1
    have hrd' : ¬ q.rdy = false := by rw [hrd]; decide
    have qn := q.hn
    have qd := q.hd
    have qa := q.ha
    have qu := q.hu
    have qf := q.hfet
    rw [hrd] at kn
    have z0 := s1.cel Z 0 0 rfl
    have z1 := s1.cel Z 0 1 rfl
    simp only [Nat.zero_add] at z0 z1
    have y0 := s1.cel Y 0 0 rfl
    have y1 := s1.cel Y 0 1 rfl
    have y2 := s1.cel Y 0 2 rfl
    have y3 := s1.cel Y 0 3 rfl
    have y4 := s1.cel Y 0 4 rfl
    have y5 := s1.cel Y 0 5 rfl
    have y6 := s1.cel Y 0 6 rfl
    have y7 := s1.cel Y 0 7 rfl
    have y8 := s1.cel Y 0 8 rfl
    simp only [Nat.zero_add] at y0 y1 y2 y3 y4 y5 y6 y7 y8
    by_cases hc : chk size q.n q.d q.a q.u ≠ 0
    · have K := aside (kn _ (by unfold fetchP; rw [if_neg hrd', if_pos hc]))
      obtain ⟨C, hC⟩ : ∃ C, chk size q.n q.d q.a q.u = C := ⟨_, rfl⟩
      rw [hC] at K hc
      have hne : (C != 0) = true := by simp [hc]
      clear k kn s hrd'
      replace hC := aside hC
      replace hrd := aside hrd
      replace rm := aside rm
      go_enter Try.func58, Try.ntmps58
      go_wp2_with fail
      refine c_refCheck s1 rm.out hz q.n q.d q.a q.u qn qd qa qu ?_
      rw [hC.out]
      intro w2 s2
      clear s1 y0 y1 y2 y3 y4 y5 y6 y7 y8 z0 z1
      go_wp2
      have sd := s2.drew
      have xq0 := s2.cel X 0 0 rfl
      have xt0 := (s2.pc X 0).s0 (.int .i64 q.n)
      have xq1 := xt0.c 1 rfl
      have xt1 := xt0.s 1 (by simp) (.int .u64 q.d)
      have xq2 := xt1.c 2 rfl
      have xt2 := xt1.s 2 (by simp) (.int .u64 q.a)
      have xq3 := xt2.c 3 rfl
      have xt3 := xt2.s 3 (by simp) (.int .u64 q.u)
      have xq4 := xt3.c 4 rfl
      have xt4 := xt3.s 4 (by simp) (.bool true)
      have xq5 := xt4.c 5 rfl
      have xt5 := xt4.s 5 (by simp) (.int .i64 q.fet)
      have xq6 := xt5.c 6 rfl
      have xt6 := xt5.s 6 (by simp) (.int .i64 q.us)
      have xq7 := xt6.c 7 rfl
      have xt7 := xt6.s 7 (by simp) (.bool q.ev)
      have xq8 := xt7.c 8 rfl
      have x := xt7.s 8 (by simp) (.bool q.ind)
      simp only [List.set_cons_succ, List.set_cons_zero, Nat.zero_add] at x xq0 xq1 xq2 xq3 xq4 xq5 xq6 xq7 xq8
      have xvq0 := x.cel V 0 0 rfl
      have xvt0 := (x.pc V 0).s0 (.slice none 0 0)
      have xvq1 := xvt0.c 1 rfl
      have xvt1 := xvt0.s 1 (by simp) (.int .u64 0)
      have xvq2 := xvt1.c 2 rfl
      have xv := xvt1.s 2 (by simp) (.int .u64 0)
      simp only [List.set_cons_succ, List.set_cons_zero, Nat.zero_add] at xv xvq0 xvq1 xvq2
      have xd := x.drew
      have xvd := xv.drew
      have gs := (And.intro ((sd.cel Y 0 0 rfl).1) (And.intro ((sd.cel Y 0 1 rfl).1) (And.intro ((sd.cel Y 0 2 rfl).1) (And.intro ((sd.cel Y 0 3 rfl).1) (And.intro ((sd.cel Y 0 4 rfl).1) (And.intro ((sd.cel Y 0 5 rfl).1) (And.intro ((sd.cel Y 0 6 rfl).1) (And.intro ((sd.cel Y 0 7 rfl).1) (And.intro ((sd.cel Y 0 8 rfl).1) (And.intro ((sd.cel U 0 0 rfl).1) (And.intro ((sd.cel U 0 1 rfl).1) ((sd.cel U 0 2 rfl).1))))))))))))
      simp only [Nat.zero_add, Nat.add_zero] at gs
      have gx := (And.intro ((xd.cel Y 0 0 rfl).1) (And.intro ((xd.cel Y 0 1 rfl).1) (And.intro ((xd.cel Y 0 2 rfl).1) (And.intro ((xd.cel Y 0 3 rfl).1) (And.intro ((xd.cel Y 0 4 rfl).1) (And.intro ((xd.cel Y 0 5 rfl).1) (And.intro ((xd.cel Y 0 6 rfl).1) (And.intro ((xd.cel Y 0 7 rfl).1) (And.intro ((xd.cel Y 0 8 rfl).1) (And.intro ((xd.cel U 0 0 rfl).1) (And.intro ((xd.cel U 0 1 rfl).1) ((xd.cel U 0 2 rfl).1))))))))))))
      simp only [Nat.zero_add, Nat.add_zero] at gx
      have gxv := (And.intro ((xvd.cel Y 0 0 rfl).1) (And.intro ((xvd.cel Y 0 1 rfl).1) (And.intro ((xvd.cel Y 0 2 rfl).1) (And.intro ((xvd.cel Y 0 3 rfl).1) (And.intro ((xvd.cel Y 0 4 rfl).1) (And.intro ((xvd.cel Y 0 5 rfl).1) (And.intro ((xvd.cel Y 0 6 rfl).1) (And.intro ((xvd.cel Y 0 7 rfl).1) (And.intro ((xvd.cel Y 0 8 rfl).1) (And.intro ((xvd.cel U 0 0 rfl).1) (And.intro ((xvd.cel U 0 1 rfl).1) ((xvd.cel U 0 2 rfl).1))))))))))))
      simp only [Nat.zero_add, Nat.add_zero] at gxv
      go_region_held3 (fun w' => w'.cell? ⟨Y, 0, none⟩ = some (.int .i64 q.n) ∧ w'.cell? ⟨Y, 1, none⟩ = some (.int .u64 q.d) ∧ w'.cell? ⟨Y, 2, none⟩ = some (.int .u64 q.a) ∧ w'.cell? ⟨Y, 3, none⟩ = some (.int .u64 q.u) ∧ w'.cell? ⟨Y, 4, none⟩ = some (.bool true) ∧ w'.cell? ⟨Y, 5, none⟩ = some (.int .i64 q.fet) ∧ w'.cell? ⟨Y, 6, none⟩ = some (.int .i64 q.us) ∧ w'.cell? ⟨Y, 7, none⟩ = some (.bool q.ev) ∧ w'.cell? ⟨Y, 8, none⟩ = some (.bool q.ind) ∧ w'.cell? ⟨U, 0, none⟩ = some (.slice none 0 0) ∧ w'.cell? ⟨U, 1, none⟩ = some (.int .u64 0) ∧ w'.cell? ⟨U, 2, none⟩ = some (.int .u64 0))
        (first | with_reducible exact gs | with_reducible exact gx | with_reducible exact gxv) (fail)
      all_goals
        generalize hW : World.drew _ = w8 at xvd ⊢
        clear hW gs gx gxv xd sd x xv s2
        have f0 := xvd.c 0 rfl
        have f1 := xvd.c 1 rfl
        have f2 := xvd.c 2 rfl
        simp only [Nat.zero_add] at f0 f1 f2
        have g0 := xvd.cel X 0 0 rfl
        have g1 := xvd.cel X 0 1 rfl
        have g2 := xvd.cel X 0 2 rfl
        have g3 := xvd.cel X 0 3 rfl
        have g4 := xvd.cel X 0 4 rfl
        have g5 := xvd.cel X 0 5 rfl
        have g6 := xvd.cel X 0 6 rfl
        have g7 := xvd.cel X 0 7 rfl
        have g8 := xvd.cel X 0 8 rfl
        simp only [Nat.zero_add] at g0 g1 g2 g3 g4 g5 g6 g7 g8
        go_wp2
        refine bodyPost_ret (by simp [results, Try.results58, go_sem, f0.1, f1.1, f2.1, g0.1, g1.1, g2.1, g3.1, g4.1, g5.1, g6.1, g7.1, g8.1]; try rfl) rfl ?_
      exact K.out _ xvd.wk
    · have hv : q.okP size := QuM.okP_chk.2 (Classical.not_not.1 hc)
      have hn := QuM.okP_bd hv
      have ha2 : 0 ≤ q.a ∧ q.a ≤ 4294967295 := by have := hv.2.2.1; unfold hasP at this; omega
      have hmb := rm.bd
      have hO := hw_bd hmb size (q.a + 2)
      have hC : chk size q.n q.d q.a q.u = 0 := Classical.not_not.1 hc
      have hON : offerN q size m = (hw size m (q.a + 2) - q.fet) % 65536 := rfl
      obtain ⟨O, hOe⟩ : ∃ O, hw size m (q.a + 2) = O := ⟨_, rfl⟩
      rw [hOe] at hO hON
      obtain ⟨ON, hONe⟩ : ∃ ON, offerN q size m = ON := ⟨_, rfl⟩
      rw [hONe] at hON
      have hONb : 0 ≤ ON ∧ ON ≤ 65535 := by omega
      have w1 : IntKind.i64.wrap (O + 65536) = O + 65536 := by simp [IntKind.wrap, IntKind.bits, IntKind.signed]; omega
      have w2' : IntKind.i64.wrap (O + 65536 - q.fet) = O + 65536 - q.fet := by simp [IntKind.wrap, IntKind.bits, IntKind.signed]; omega
      have w3' : (O + 65536 - q.fet).tmod 65536 = ON := by rw [Int.tmod_eq_emod_of_nonneg (by omega)]; omega
      have w4' : IntKind.i64.wrap ON = ON := by simp [IntKind.wrap, IntKind.bits, IntKind.signed]; omega
      have kk := aside (show ¬ ON = 0 → ¬ q.n < ON → _ from fun h0 h1 => k ⟨q.fetched, true, headP q size m, (walkQ q size m).2.1, (walkQ q size m).2.2.1, (walkQ q size m).2.2.2, decide ((walkQ q size m).1 = 0), (walkQ q size m).1⟩ (by unfold fetchP; rw [if_neg hrd', if_neg hc, hONe, if_neg h0, if_neg h1]))
      have k0 := aside (show ON = 0 → _ from fun h0 => kn 0 (by unfold fetchP; rw [if_neg hrd', if_neg hc, hONe, if_pos h0]))
      have k1 := aside (show ¬ ON = 0 → q.n < ON → _ from fun h0 h1 => kn 156 (by unfold fetchP; rw [if_neg hrd', if_neg hc, hONe, if_neg h0, if_pos h1]))
      clear k kn s hrd' hc hON
      replace hC := aside hC
      replace hOe := aside hOe
      replace hONe := aside hONe
      replace hv := aside hv
      replace rm := aside rm
      replace hmb := aside hmb
      replace hrd := aside hrd
      go_enter Try.func58, Try.ntmps58
      go_wp2_with fail
      refine c_refCheck s1 rm.out hz q.n q.d q.a q.u qn qd qa qu ?_
      rw [hC.out]
      intro w2 s2
      have s2d := s2.drew
      have gs2 := (And.intro ((s2d.cel Z 0 0 rfl).1) (And.intro ((s2d.cel Z 0 1 rfl).1) (And.intro ((s2d.cel Y 0 0 rfl).1) (And.intro ((s2d.cel Y 0 1 rfl).1) (And.intro ((s2d.cel Y 0 2 rfl).1) (And.intro ((s2d.cel Y 0 3 rfl).1) (And.intro ((s2d.cel Y 0 4 rfl).1) (And.intro ((s2d.cel Y 0 5 rfl).1) (And.intro ((s2d.cel Y 0 6 rfl).1) (And.intro ((s2d.cel Y 0 7 rfl).1) ((s2d.cel Y 0 8 rfl).1)))))))))))
      simp only [Nat.zero_add, Nat.add_zero] at gs2
      clear s1 y0 y1 y2 y3 y4 y5 y6 y7 y8 z0 z1
      go_wp2
      go_region_held3 (fun w' => w'.cell? ⟨Z, 0, none⟩ = some (.int .u64 size) ∧ w'.cell? ⟨Z, 1, none⟩ = some (.slice B n0 c0) ∧ w'.cell? ⟨Y, 0, none⟩ = some (.int .i64 q.n) ∧ w'.cell? ⟨Y, 1, none⟩ = some (.int .u64 q.d) ∧ w'.cell? ⟨Y, 2, none⟩ = some (.int .u64 q.a) ∧ w'.cell? ⟨Y, 3, none⟩ = some (.int .u64 q.u) ∧ w'.cell? ⟨Y, 4, none⟩ = some (.bool true) ∧ w'.cell? ⟨Y, 5, none⟩ = some (.int .i64 q.fet) ∧ w'.cell? ⟨Y, 6, none⟩ = some (.int .i64 q.us) ∧ w'.cell? ⟨Y, 7, none⟩ = some (.bool q.ev) ∧ w'.cell? ⟨Y, 8, none⟩ = some (.bool q.ind))
        (first | with_reducible exact gs2 | with_reducible exact gs3)
        (first
          | (go_at_call 105; with_reducible (refine c_refOffered s2d rm.out hL hz q.n q.d q.a q.u ha2 ?_); rw [hOe.out]; intro w3 s3
             have gs3 := (And.intro ((s3.cel Z 0 0 rfl).1) (And.intro ((s3.cel Z 0 1 rfl).1) (And.intro ((s3.cel Y 0 0 rfl).1) (And.intro ((s3.cel Y 0 1 rfl).1) (And.intro ((s3.cel Y 0 2 rfl).1) (And.intro ((s3.cel Y 0 3 rfl).1) (And.intro ((s3.cel Y 0 4 rfl).1) (And.intro ((s3.cel Y 0 5 rfl).1) (And.intro ((s3.cel Y 0 6 rfl).1) (And.intro ((s3.cel Y 0 7 rfl).1) ((s3.cel Y 0 8 rfl).1)))))))))))
             simp only [Nat.zero_add, Nat.add_zero] at gs3
             have arm : True := trivial))
      all_goals
        clear s2 s2d gs2 gs3
        have z0 := s3.cel Z 0 0 rfl
        have z1 := s3.cel Z 0 1 rfl
        simp only [Nat.zero_add] at z0 z1
        have y0 := s3.cel Y 0 0 rfl
        have y1 := s3.cel Y 0 1 rfl
        have y2 := s3.cel Y 0 2 rfl
        have y3 := s3.cel Y 0 3 rfl
        have y4 := s3.cel Y 0 4 rfl
        have y5 := s3.cel Y 0 5 rfl
        have y6 := s3.cel Y 0 6 rfl
        have y7 := s3.cel Y 0 7 rfl
        have y8 := s3.cel Y 0 8 rfl
        simp only [Nat.zero_add] at y0 y1 y2 y3 y4 y5 y6 y7 y8
        by_cases h0 : ON = 0
        · have K := aside (k0.out h0)
          clear k0 k1 kk
          go_wp2
          have sd := s3.drew
          have xq0 := s3.cel X 0 0 rfl
          have xt0 := (s3.pc X 0).s0 (.int .i64 q.n)
          have xq1 := xt0.c 1 rfl
          have xt1 := xt0.s 1 (by simp) (.int .u64 q.d)
          have xq2 := xt1.c 2 rfl
          have xt2 := xt1.s 2 (by simp) (.int .u64 q.a)
          have xq3 := xt2.c 3 rfl
          have xt3 := xt2.s 3 (by simp) (.int .u64 q.u)
          have xq4 := xt3.c 4 rfl
          have xt4 := xt3.s 4 (by simp) (.bool true)
          have xq5 := xt4.c 5 rfl
          have xt5 := xt4.s 5 (by simp) (.int .i64 q.fet)
          have xq6 := xt5.c 6 rfl
          have xt6 := xt5.s 6 (by simp) (.int .i64 q.us)
          have xq7 := xt6.c 7 rfl
          have xt7 := xt6.s 7 (by simp) (.bool q.ev)
          have xq8 := xt7.c 8 rfl
          have x := xt7.s 8 (by simp) (.bool q.ind)
          simp only [List.set_cons_succ, List.set_cons_zero, Nat.zero_add] at x xq0 xq1 xq2 xq3 xq4 xq5 xq6 xq7 xq8
          have xvq0 := x.cel V 0 0 rfl
          have xvt0 := (x.pc V 0).s0 (.slice none 0 0)
          have xvq1 := xvt0.c 1 rfl
          have xvt1 := xvt0.s 1 (by simp) (.int .u64 0)
          have xvq2 := xvt1.c 2 rfl
          have xv := xvt1.s 2 (by simp) (.int .u64 0)
          simp only [List.set_cons_succ, List.set_cons_zero, Nat.zero_add] at xv xvq0 xvq1 xvq2
          have xd := x.drew
          have xvd := xv.drew
          have gs := (And.intro ((sd.cel Y 0 0 rfl).1) (And.intro ((sd.cel Y 0 1 rfl).1) (And.intro ((sd.cel Y 0 2 rfl).1) (And.intro ((sd.cel Y 0 3 rfl).1) (And.intro ((sd.cel Y 0 4 rfl).1) (And.intro ((sd.cel Y 0 5 rfl).1) (And.intro ((sd.cel Y 0 6 rfl).1) (And.intro ((sd.cel Y 0 7 rfl).1) (And.intro ((sd.cel Y 0 8 rfl).1) (And.intro ((sd.cel U 0 0 rfl).1) (And.intro ((sd.cel U 0 1 rfl).1) ((sd.cel U 0 2 rfl).1))))))))))))
          simp only [Nat.zero_add, Nat.add_zero] at gs
          have gx := (And.intro ((xd.cel Y 0 0 rfl).1) (And.intro ((xd.cel Y 0 1 rfl).1) (And.intro ((xd.cel Y 0 2 rfl).1) (And.intro ((xd.cel Y 0 3 rfl).1) (And.intro ((xd.cel Y 0 4 rfl).1) (And.intro ((xd.cel Y 0 5 rfl).1) (And.intro ((xd.cel Y 0 6 rfl).1) (And.intro ((xd.cel Y 0 7 rfl).1) (And.intro ((xd.cel Y 0 8 rfl).1) (And.intro ((xd.cel U 0 0 rfl).1) (And.intro ((xd.cel U 0 1 rfl).1) ((xd.cel U 0 2 rfl).1))))))))))))
          simp only [Nat.zero_add, Nat.add_zero] at gx
          have gxv := (And.intro ((xvd.cel Y 0 0 rfl).1) (And.intro ((xvd.cel Y 0 1 rfl).1) (And.intro ((xvd.cel Y 0 2 rfl).1) (And.intro ((xvd.cel Y 0 3 rfl).1) (And.intro ((xvd.cel Y 0 4 rfl).1) (And.intro ((xvd.cel Y 0 5 rfl).1) (And.intro ((xvd.cel Y 0 6 rfl).1) (And.intro ((xvd.cel Y 0 7 rfl).1) (And.intro ((xvd.cel Y 0 8 rfl).1) (And.intro ((xvd.cel U 0 0 rfl).1) (And.intro ((xvd.cel U 0 1 rfl).1) ((xvd.cel U 0 2 rfl).1))))))))))))
          simp only [Nat.zero_add, Nat.add_zero] at gxv
          go_region_held3 (fun w' => w'.cell? ⟨Y, 0, none⟩ = some (.int .i64 q.n) ∧ w'.cell? ⟨Y, 1, none⟩ = some (.int .u64 q.d) ∧ w'.cell? ⟨Y, 2, none⟩ = some (.int .u64 q.a) ∧ w'.cell? ⟨Y, 3, none⟩ = some (.int .u64 q.u) ∧ w'.cell? ⟨Y, 4, none⟩ = some (.bool true) ∧ w'.cell? ⟨Y, 5, none⟩ = some (.int .i64 q.fet) ∧ w'.cell? ⟨Y, 6, none⟩ = some (.int .i64 q.us) ∧ w'.cell? ⟨Y, 7, none⟩ = some (.bool q.ev) ∧ w'.cell? ⟨Y, 8, none⟩ = some (.bool q.ind) ∧ w'.cell? ⟨U, 0, none⟩ = some (.slice none 0 0) ∧ w'.cell? ⟨U, 1, none⟩ = some (.int .u64 0) ∧ w'.cell? ⟨U, 2, none⟩ = some (.int .u64 0))
            (first | with_reducible exact gs | with_reducible exact gx | with_reducible exact gxv) (fail)
          all_goals
            generalize hW : World.drew _ = w8 at xvd ⊢
            clear hW gs gx gxv xd sd x xv s3
            have f0 := xvd.c 0 rfl
            have f1 := xvd.c 1 rfl
            have f2 := xvd.c 2 rfl
            simp only [Nat.zero_add] at f0 f1 f2
            have g0 := xvd.cel X 0 0 rfl
            have g1 := xvd.cel X 0 1 rfl
            have g2 := xvd.cel X 0 2 rfl
            have g3 := xvd.cel X 0 3 rfl
            have g4 := xvd.cel X 0 4 rfl
            have g5 := xvd.cel X 0 5 rfl
            have g6 := xvd.cel X 0 6 rfl
            have g7 := xvd.cel X 0 7 rfl
            have g8 := xvd.cel X 0 8 rfl
            simp only [Nat.zero_add] at g0 g1 g2 g3 g4 g5 g6 g7 g8
            go_wp2
            refine bodyPost_ret (by simp [results, Try.results58, go_sem, f0.1, f1.1, f2.1, g0.1, g1.1, g2.1, g3.1, g4.1, g5.1, g6.1, g7.1, g8.1]; try rfl) rfl ?_
          exact K.out _ xvd.wk
        by_cases h1 : q.n < ON
        · have K := aside (k1.out h0 h1)
          clear k0 k1 kk
          go_wp2
          have sd := s3.drew
          have xq0 := s3.cel X 0 0 rfl
          have xt0 := (s3.pc X 0).s0 (.int .i64 q.n)
          have xq1 := xt0.c 1 rfl
          have xt1 := xt0.s 1 (by simp) (.int .u64 q.d)
          have xq2 := xt1.c 2 rfl
          have xt2 := xt1.s 2 (by simp) (.int .u64 q.a)
          have xq3 := xt2.c 3 rfl
          have xt3 := xt2.s 3 (by simp) (.int .u64 q.u)
          have xq4 := xt3.c 4 rfl
          have xt4 := xt3.s 4 (by simp) (.bool true)
          have xq5 := xt4.c 5 rfl
          have xt5 := xt4.s 5 (by simp) (.int .i64 q.fet)
          have xq6 := xt5.c 6 rfl
          have xt6 := xt5.s 6 (by simp) (.int .i64 q.us)
          have xq7 := xt6.c 7 rfl
          have xt7 := xt6.s 7 (by simp) (.bool q.ev)
          have xq8 := xt7.c 8 rfl
          have x := xt7.s 8 (by simp) (.bool q.ind)
          simp only [List.set_cons_succ, List.set_cons_zero, Nat.zero_add] at x xq0 xq1 xq2 xq3 xq4 xq5 xq6 xq7 xq8
          have xvq0 := x.cel V 0 0 rfl
          have xvt0 := (x.pc V 0).s0 (.slice none 0 0)
          have xvq1 := xvt0.c 1 rfl
          have xvt1 := xvt0.s 1 (by simp) (.int .u64 0)
          have xvq2 := xvt1.c 2 rfl
          have xv := xvt1.s 2 (by simp) (.int .u64 0)
          simp only [List.set_cons_succ, List.set_cons_zero, Nat.zero_add] at xv xvq0 xvq1 xvq2
          have xd := x.drew
          have xvd := xv.drew
          have gs := (And.intro ((sd.cel Y 0 0 rfl).1) (And.intro ((sd.cel Y 0 1 rfl).1) (And.intro ((sd.cel Y 0 2 rfl).1) (And.intro ((sd.cel Y 0 3 rfl).1) (And.intro ((sd.cel Y 0 4 rfl).1) (And.intro ((sd.cel Y 0 5 rfl).1) (And.intro ((sd.cel Y 0 6 rfl).1) (And.intro ((sd.cel Y 0 7 rfl).1) (And.intro ((sd.cel Y 0 8 rfl).1) (And.intro ((sd.cel U 0 0 rfl).1) (And.intro ((sd.cel U 0 1 rfl).1) ((sd.cel U 0 2 rfl).1))))))))))))
          simp only [Nat.zero_add, Nat.add_zero] at gs
          have gx := (And.intro ((xd.cel Y 0 0 rfl).1) (And.intro ((xd.cel Y 0 1 rfl).1) (And.intro ((xd.cel Y 0 2 rfl).1) (And.intro ((xd.cel Y 0 3 rfl).1) (And.intro ((xd.cel Y 0 4 rfl).1) (And.intro ((xd.cel Y 0 5 rfl).1) (And.intro ((xd.cel Y 0 6 rfl).1) (And.intro ((xd.cel Y 0 7 rfl).1) (And.intro ((xd.cel Y 0 8 rfl).1) (And.intro ((xd.cel U 0 0 rfl).1) (And.intro ((xd.cel U 0 1 rfl).1) ((xd.cel U 0 2 rfl).1))))))))))))
          simp only [Nat.zero_add, Nat.add_zero] at gx
          have gxv := (And.intro ((xvd.cel Y 0 0 rfl).1) (And.intro ((xvd.cel Y 0 1 rfl).1) (And.intro ((xvd.cel Y 0 2 rfl).1) (And.intro ((xvd.cel Y 0 3 rfl).1) (And.intro ((xvd.cel Y 0 4 rfl).1) (And.intro ((xvd.cel Y 0 5 rfl).1) (And.intro ((xvd.cel Y 0 6 rfl).1) (And.intro ((xvd.cel Y 0 7 rfl).1) (And.intro ((xvd.cel Y 0 8 rfl).1) (And.intro ((xvd.cel U 0 0 rfl).1) (And.intro ((xvd.cel U 0 1 rfl).1) ((xvd.cel U 0 2 rfl).1))))))))))))
          simp only [Nat.zero_add, Nat.add_zero] at gxv
          go_region_held3 (fun w' => w'.cell? ⟨Y, 0, none⟩ = some (.int .i64 q.n) ∧ w'.cell? ⟨Y, 1, none⟩ = some (.int .u64 q.d) ∧ w'.cell? ⟨Y, 2, none⟩ = some (.int .u64 q.a) ∧ w'.cell? ⟨Y, 3, none⟩ = some (.int .u64 q.u) ∧ w'.cell? ⟨Y, 4, none⟩ = some (.bool true) ∧ w'.cell? ⟨Y, 5, none⟩ = some (.int .i64 q.fet) ∧ w'.cell? ⟨Y, 6, none⟩ = some (.int .i64 q.us) ∧ w'.cell? ⟨Y, 7, none⟩ = some (.bool q.ev) ∧ w'.cell? ⟨Y, 8, none⟩ = some (.bool q.ind) ∧ w'.cell? ⟨U, 0, none⟩ = some (.slice none 0 0) ∧ w'.cell? ⟨U, 1, none⟩ = some (.int .u64 0) ∧ w'.cell? ⟨U, 2, none⟩ = some (.int .u64 0))
            (first | with_reducible exact gs | with_reducible exact gx | with_reducible exact gxv) (fail)
          all_goals
            generalize hW : World.drew _ = w8 at xvd ⊢
            clear hW gs gx gxv xd sd x xv s3
            have f0 := xvd.c 0 rfl
            have f1 := xvd.c 1 rfl
            have f2 := xvd.c 2 rfl
            simp only [Nat.zero_add] at f0 f1 f2
            have g0 := xvd.cel X 0 0 rfl
            have g1 := xvd.cel X 0 1 rfl
            have g2 := xvd.cel X 0 2 rfl
            have g3 := xvd.cel X 0 3 rfl
            have g4 := xvd.cel X 0 4 rfl
            have g5 := xvd.cel X 0 5 rfl
            have g6 := xvd.cel X 0 6 rfl
            have g7 := xvd.cel X 0 7 rfl
            have g8 := xvd.cel X 0 8 rfl
            simp only [Nat.zero_add] at g0 g1 g2 g3 g4 g5 g6 g7 g8
            go_wp2
            refine bodyPost_ret (by simp [results, Try.results58, go_sem, f0.1, f1.1, f2.1, g0.1, g1.1, g2.1, g3.1, g4.1, g5.1, g6.1, g7.1, g8.1]; try rfl) rfl ?_
          exact K.out _ xvd.wk
        replace kk := aside (kk.out h0 (by omega))
        clear k0 k1
        have hHb := hw_bd hmb.out size (q.a + 4 + 2 * (q.fet % q.n))
        have hHD := aside (show headP q size m = hw size m (q.a + 4 + 2 * (q.fet % q.n)) from rfl)
        obtain ⟨HD, hHe⟩ : ∃ y, hw size m (q.a + 4 + 2 * (q.fet % q.n)) = y := ⟨_, rfl⟩
        rw [hHe] at hHb hHD
        replace hHe := aside hHe
        obtain ⟨N, hN⟩ : ∃ N : Nat, q.n = N := ⟨q.n.toNat, by omega⟩
        have hNb : N ≤ 256 := by omega
        replace hN := aside hN
        go_wp2_with fail
        refine c_refHead s3 rm.out hL hz q.n q.d q.a q.u q.fet ha2 hn qf ?_
        rw [hHe.out]
        intro w4 s4
        clear s3 z0 z1 y0 y1 y2 y3 y4 y5 y6 y7 y8
        have z0 := s4.cel Z 0 0 rfl
        have z1 := s4.cel Z 0 1 rfl
        simp only [Nat.zero_add] at z0 z1
        have y0 := s4.cel Y 0 0 rfl
        have y1 := s4.cel Y 0 1 rfl
        have y2 := s4.cel Y 0 2 rfl
        have y3 := s4.cel Y 0 3 rfl
        have y4 := s4.cel Y 0 4 rfl
        have y5 := s4.cel Y 0 5 rfl
        have y6 := s4.cel Y 0 6 rfl
        have y7 := s4.cel Y 0 7 rfl
        have y8 := s4.cel Y 0 8 rfl
        simp only [Nat.zero_add] at y0 y1 y2 y3 y4 y5 y6 y7 y8
        rw [hN.out] at y0
        have hup := up16_bd q.fet
        have e1 : IntKind.i64.wrap (q.fet + 1) = q.fet + 1 := by simp [IntKind.wrap, IntKind.bits, IntKind.signed]; omega
        have e2 : (q.fet + 1).tmod 65536 = up16 q.fet := by rw [Int.tmod_eq_emod_of_nonneg (by omega)]; rfl
        have s5 := (Sat.pc s4 Y 0).s 5 (by simp) (.int .i64 (up16 q.fet))
        simp only [List.set_cons_succ, List.set_cons_zero, Nat.zero_add] at s5
        obtain ⟨w5, hw5⟩ : ∃ y, w4.setCell ⟨Y, 5, none⟩ (.int .i64 (up16 q.fet)) = y := ⟨_, rfl⟩
        obtain ⟨UP, hUP⟩ : ∃ y, up16 q.fet = y := ⟨_, rfl⟩
        rw [hUP] at hup e2 hw5 s5
        rw [hw5] at s5
        have p0 := (s5.cel Y 0 0 rfl)
        rw [hN.out] at p0
        have v0 := s5.cel Z 0 0 rfl
        have v1 := s5.cel Z 0 1 rfl
        simp only [Nat.zero_add] at v0 v1
        have p1 := s5.cel Y 0 1 rfl
        have p2 := s5.cel Y 0 2 rfl
        have p3 := s5.cel Y 0 3 rfl
        have p4 := s5.cel Y 0 4 rfl
        have p5 := s5.cel Y 0 5 rfl
        have p6 := s5.cel Y 0 6 rfl
        have p7 := s5.cel Y 0 7 rfl
        have p8 := s5.cel Y 0 8 rfl
        simp only [Nat.zero_add] at p1 p2 p3 p4 p5 p6 p7 p8
        simp only [Nat.zero_add] at p0
        have hhd : -9223372036854775808 ≤ HD ∧ HD ≤ 9223372036854775807 := by omega
        replace hUP := aside hUP
        go_wp2_with fail
        refine c_refWalk s5 rm.out hL hz N q.d q.a q.u HD q.ind hNb qd hhd ?_
        intro e segs ta tl hwk w6 B6 n6 c6 h6 own6 s6
        have s7 := s6.alloc (c := [.slice B6 n6 c6, .int .u64 ta, .int .u64 tl]) (t := 60)
        obtain ⟨T, hT⟩ : ∃ T, w6.heap.size = T := ⟨_, rfl⟩
        rw [hT] at s7
        have hNN : q.n.toNat = N := by have := hN.out; omega
        have hwq : walkQ q size m = (e, segs, ta, tl) := by unfold walkQ; rw [hNN, hHD.out]; exact hwk
        have kk2 := kk.out
        rw [hwq, hHD.out] at kk2
        replace kk2 := aside kk2
        have own7 := aside own6
        have hrd2 := hrd.out
        have hUP2 := hUP.out
        clear kk hwk hwq s4 s5 s6 hw5 own6 z0 z1 y0 y1 y2 y3 y4 y5 y6 y7 y8 v0 v1 p0 p1 p2 p3 p4 p5 p6 p7 p8
        replace hrd2 := aside hrd2
        replace hUP2 := aside hUP2
        go_wp2
        generalize hWA : World.alloc w6 _ = w7 at s7 ⊢
        clear hWA
        have sd := s7.drew
        have xq0 := s7.cel X 0 0 rfl
        have xt0 := (s7.pc X 0).s0 (.int .i64 q.n)
        have xq1 := xt0.c 1 rfl
        have xt1 := xt0.s 1 (by simp) (.int .u64 q.d)
        have xq2 := xt1.c 2 rfl
        have xt2 := xt1.s 2 (by simp) (.int .u64 q.a)
        have xq3 := xt2.c 3 rfl
        have xt3 := xt2.s 3 (by simp) (.int .u64 q.u)
        have xq4 := xt3.c 4 rfl
        have xt4 := xt3.s 4 (by simp) (.bool true)
        have xq5 := xt4.c 5 rfl
        have xt5 := xt4.s 5 (by simp) (.int .i64 UP)
        have xq6 := xt5.c 6 rfl
        have xt6 := xt5.s 6 (by simp) (.int .i64 q.us)
        have xq7 := xt6.c 7 rfl
        have xt7 := xt6.s 7 (by simp) (.bool q.ev)
        have xq8 := xt7.c 8 rfl
        have x := xt7.s 8 (by simp) (.bool q.ind)
        simp only [List.set_cons_succ, List.set_cons_zero, Nat.zero_add] at x xq0 xq1 xq2 xq3 xq4 xq5 xq6 xq7 xq8
        have xvq0 := x.cel V 0 0 rfl
        have xvt0 := (x.pc V 0).s0 (.slice B6 n6 c6)
        have xvq1 := xvt0.c 1 rfl
        have xvt1 := xvt0.s 1 (by simp) (.int .u64 ta)
        have xvq2 := xvt1.c 2 rfl
        have xv := xvt1.s 2 (by simp) (.int .u64 tl)
        simp only [List.set_cons_succ, List.set_cons_zero, Nat.zero_add] at xv xvq0 xvq1 xvq2
        have xd := x.drew
        have xvd := xv.drew
        have gs := (And.intro ((sd.cel Y 0 0 rfl).1) (And.intro ((sd.cel Y 0 1 rfl).1) (And.intro ((sd.cel Y 0 2 rfl).1) (And.intro ((sd.cel Y 0 3 rfl).1) (And.intro ((sd.cel Y 0 4 rfl).1) (And.intro ((sd.cel Y 0 5 rfl).1) (And.intro ((sd.cel Y 0 6 rfl).1) (And.intro ((sd.cel Y 0 7 rfl).1) (And.intro ((sd.cel Y 0 8 rfl).1) (And.intro ((sd.cel T 0 0 rfl).1) (And.intro ((sd.cel T 0 1 rfl).1) ((sd.cel T 0 2 rfl).1))))))))))))
        simp only [Nat.zero_add, Nat.add_zero] at gs
        have gx := (And.intro ((xd.cel Y 0 0 rfl).1) (And.intro ((xd.cel Y 0 1 rfl).1) (And.intro ((xd.cel Y 0 2 rfl).1) (And.intro ((xd.cel Y 0 3 rfl).1) (And.intro ((xd.cel Y 0 4 rfl).1) (And.intro ((xd.cel Y 0 5 rfl).1) (And.intro ((xd.cel Y 0 6 rfl).1) (And.intro ((xd.cel Y 0 7 rfl).1) (And.intro ((xd.cel Y 0 8 rfl).1) (And.intro ((xd.cel T 0 0 rfl).1) (And.intro ((xd.cel T 0 1 rfl).1) ((xd.cel T 0 2 rfl).1))))))))))))
        simp only [Nat.zero_add, Nat.add_zero] at gx
        have gxv := (And.intro ((xvd.cel Y 0 0 rfl).1) (And.intro ((xvd.cel Y 0 1 rfl).1) (And.intro ((xvd.cel Y 0 2 rfl).1) (And.intro ((xvd.cel Y 0 3 rfl).1) (And.intro ((xvd.cel Y 0 4 rfl).1) (And.intro ((xvd.cel Y 0 5 rfl).1) (And.intro ((xvd.cel Y 0 6 rfl).1) (And.intro ((xvd.cel Y 0 7 rfl).1) (And.intro ((xvd.cel Y 0 8 rfl).1) (And.intro ((xvd.cel T 0 0 rfl).1) (And.intro ((xvd.cel T 0 1 rfl).1) ((xvd.cel T 0 2 rfl).1))))))))))))
        simp only [Nat.zero_add, Nat.add_zero] at gxv
        go_region_held3 (fun w' => w'.cell? ⟨Y, 0, none⟩ = some (.int .i64 q.n) ∧ w'.cell? ⟨Y, 1, none⟩ = some (.int .u64 q.d) ∧ w'.cell? ⟨Y, 2, none⟩ = some (.int .u64 q.a) ∧ w'.cell? ⟨Y, 3, none⟩ = some (.int .u64 q.u) ∧ w'.cell? ⟨Y, 4, none⟩ = some (.bool true) ∧ w'.cell? ⟨Y, 5, none⟩ = some (.int .i64 UP) ∧ w'.cell? ⟨Y, 6, none⟩ = some (.int .i64 q.us) ∧ w'.cell? ⟨Y, 7, none⟩ = some (.bool q.ev) ∧ w'.cell? ⟨Y, 8, none⟩ = some (.bool q.ind) ∧ w'.cell? ⟨T, 0, none⟩ = some (.slice B6 n6 c6) ∧ w'.cell? ⟨T, 1, none⟩ = some (.int .u64 ta) ∧ w'.cell? ⟨T, 2, none⟩ = some (.int .u64 tl))
          (first | with_reducible exact gs | with_reducible exact gx | with_reducible exact gxv) (fail)
        all_goals
          generalize hW : World.drew _ = w8 at xvd ⊢
          clear hW gs gx gxv xd sd x xv s7
          have f0 := xvd.c 0 rfl
          have f1 := xvd.c 1 rfl
          have f2 := xvd.c 2 rfl
          simp only [Nat.zero_add] at f0 f1 f2
          have g0 := xvd.cel X 0 0 rfl
          have g1 := xvd.cel X 0 1 rfl
          have g2 := xvd.cel X 0 2 rfl
          have g3 := xvd.cel X 0 3 rfl
          have g4 := xvd.cel X 0 4 rfl
          have g5 := xvd.cel X 0 5 rfl
          have g6 := xvd.cel X 0 6 rfl
          have g7 := xvd.cel X 0 7 rfl
          have g8 := xvd.cel X 0 8 rfl
          simp only [Nat.zero_add] at g0 g1 g2 g3 g4 g5 g6 g7 g8
          go_wp2
          refine bodyPost_ret (by simp [results, Try.results58, go_sem, f0.1, f1.1, f2.1, g0.1, g1.1, g2.1, g3.1, g4.1, g5.1, g6.1, g7.1, g8.1]; try rfl) rfl ?_
          have kk3 := kk2.out w8 B6 n6 c6 h6 own7.out xvd.wk
          simp only [QuM.fetched, FetchR.hdD, if_true] at kk3
          rw [hUP2.out, hrd2.out] at kk3
          have hde : (e == 0) = decide (e = 0) := by by_cases he : e = 0 <;> simp [he]
          first | exact kk3 | (rw [hde]; exact kk3) | (simpa using kk3)
end
end Go.Proofs.Ytippipfogbgemaa

namespace Go.Proofs.Ytippipfogbgemaa
open Go.RowKit
set_option linter.unusedVariables false
set_option linter.unusedSimpArgs false

section
variable {R : Ending → World → Prop} {W0 w : World} {H : Hp} {A F : List Hp}

set_option maxRecDepth 100000 in
set_option maxHeartbeats 4000000 in
theorem c_sameC (s : Sat W0 w H A) {B D : Option Addr} {n c m c2 : Nat} {segs : List SegM} {ta tl : Int} (hk : ∀ w', Sat W0 w' H A → ∃ h1 h2, Holds w' h1 ∧ Holds w' h2 ∧ Rd segE 3 h1 (.slice B n c) segs ∧ Rd segE 3 h2 (.slice D m c2) segs) (k : ∀ w', Sat W0 w' H A → R (.returned (.bool true)) w') :
    Calls Try.prog 59 #[.agg #[.slice B n c, .int .u64 ta, .int .u64 tl], .agg #[.slice D m c2, .int .u64 ta, .int .u64 tl]] w R := by
  have s1 := (s.alloc (c := [.slice B n c, .int .u64 ta, .int .u64 tl]) (t := 60)).alloc (c := [.slice D m c2, .int .u64 ta, .int .u64 tl]) (t := 60)
  obtain ⟨Z, hZ⟩ : ∃ Z, w.heap.size = Z := ⟨_, rfl⟩
  simp only [World.size_alloc] at s1
  rw [hZ] at s1
  have hnm : n = segs.length ∧ m = segs.length ∧ segs.length ≤ 9223372036854775807 := by
    obtain ⟨h1, h2, _, _, r1, r2⟩ := hk _ s
    obtain ⟨a1, a2, a3, _⟩ := r1.seg
    obtain ⟨b1, _⟩ := r2.seg
    omega
  obtain ⟨rfl, rfl, hsl⟩ := hnm
  have hat : ∀ i (hi : i < segs.length), ∃ b o b2 o2, B = some ⟨b, o, none⟩ ∧ D = some ⟨b2, o2, none⟩ := fun i hi => by
    obtain ⟨h1, h2, _, _, r1, r2⟩ := hk _ s
    obtain ⟨b, o, e, _⟩ := r1.seg.2.2.2 i hi
    obtain ⟨b2, o2, e2, _⟩ := r2.seg.2.2.2 i hi
    exact ⟨b, o, b2, o2, e, e2⟩
  replace k := aside k
  replace hat := aside hat
  replace hk := aside hk
  clear s
  have y0 := s1.cel Z 0 0 rfl
  have y1 := s1.cel Z 0 1 rfl
  have y2 := s1.cel Z 0 2 rfl
  simp only [Nat.zero_add] at y0 y1 y2
  have z0 := s1.cel (Z+1) 0 0 rfl
  have z1 := s1.cel (Z+1) 0 1 rfl
  have z2 := s1.cel (Z+1) 0 2 rfl
  simp only [Nat.zero_add] at z0 z1 z2
  go_enter Try.func59, Try.ntmps59
  go_wp2
  clear y0 y1 y2 z0 z1 z2
  go_loopg [5] segs.length (fun q v5 w' => ∃ i : Nat, q + i = segs.length ∧ v5 = .int .i64 i ∧ Sat W0 w' H (cellsH ⟨Z + 1, 0, none⟩ [.slice D segs.length c2, .int .u64 ta, .int .u64 tl] :: cellsH ⟨Z, 0, none⟩ [.slice B segs.length c, .int .u64 ta, .int .u64 tl] :: A))
  case atStart => exact ⟨0, rfl, rfl, s1⟩
  clear s1
  case round =>
    obtain ⟨i, hq, rfl, t⟩ := hrel
    have y0 := t.cel Z 0 0 rfl
    have y1 := t.cel Z 0 1 rfl
    have y2 := t.cel Z 0 2 rfl
    simp only [Nat.zero_add] at y0 y1 y2
    have z0 := t.cel (Z+1) 0 0 rfl
    have z1 := t.cel (Z+1) 0 1 rfl
    have z2 := t.cel (Z+1) 0 2 rfl
    simp only [Nat.zero_add] at z0 z1 z2
    by_cases hi : i < segs.length
    · obtain ⟨b, o, b2, o2, rfl, rfl⟩ := hat.out i hi
      obtain ⟨h1, h2, H1, H2, r1, r2⟩ := hk.out _ t.tail1.tail1
      obtain ⟨b', o', e, ⟨_, g1⟩, ⟨_, g2⟩, ⟨_, g3⟩⟩ := r1.seg.2.2.2 i hi
      obtain ⟨b2', o2', e2, ⟨_, g4⟩, ⟨_, g5⟩, ⟨_, g6⟩⟩ := r2.seg.2.2.2 i hi
      injection e with e
      injection e with e1 e3
      subst e1 e3
      injection e2 with e2
      injection e2 with e1 e3
      subst e1 e3
      have q1 := Holds.cell H1 ⟨_, g1⟩
      have q2 := Holds.cell H1 ⟨_, g2⟩
      have q3 := Holds.cell H1 ⟨_, g3⟩
      have q4 := Holds.cell H2 ⟨_, g4⟩
      have q5 := Holds.cell H2 ⟨_, g5⟩
      have q6 := Holds.cell H2 ⟨_, g6⟩
      generalize segs[i].1 = X1 at q1 q4
      generalize segs[i].2.1 = X2 at q2 q5
      generalize segs[i].2.2 = X3 at q3 q6
      have i1 : (0 : Int) ≤ i ∧ (i : Int) < segs.length := by omega
      clear g1 g2 g3 g4 g5 g6 H1 H2 r1 r2
      replace hq := aside hq
      go_wp2
      go_quiet (fail)
      go_wp2
      go_roundg (gk - 1)
      case measure => have := hq.out; omega
      case rel => exact ⟨i + 1, by have := hq.out; omega, by go_num, t.drewN _⟩
    · obtain rfl : i = segs.length := by omega
      go_wp2
      exact k.out _ t.tail1.tail1

set_option maxRecDepth 100000 in
set_option maxHeartbeats 4000000 in
theorem c_is (s : Sat W0 w H A) {B D : Option Addr} {n c m c2 : Nat} {segs : List SegM} {ta tl : Int} (hk : ∀ w', Sat W0 w' H A → ∃ h1 h2, Holds w' h1 ∧ Holds w' h2 ∧ Rd segE 3 h1 (.slice B n c) segs ∧ Rd segE 3 h2 (.slice D m c2) segs) (k : ∀ w', Sat W0 w' H A → R (.returned (.bool true)) w') :
    Calls Try.prog 29 #[.agg #[.slice B n c, .int .u64 ta, .int .u64 tl], .agg #[.slice D m c2, .int .u64 ta, .int .u64 tl]] w R := by
  have s1 := (s.alloc (c := [.slice B n c, .int .u64 ta, .int .u64 tl]) (t := 56)).alloc (c := [.slice D m c2, .int .u64 ta, .int .u64 tl]) (t := 60)
  obtain ⟨Z, hZ⟩ : ∃ Z, w.heap.size = Z := ⟨_, rfl⟩
  simp only [World.size_alloc] at s1
  rw [hZ] at s1
  replace k := aside k
  clear s
  have y0 := s1.cel Z 0 0 rfl
  have y1 := s1.cel Z 0 1 rfl
  have y2 := s1.cel Z 0 2 rfl
  simp only [Nat.zero_add] at y0 y1 y2
  have z0 := s1.cel (Z+1) 0 0 rfl
  have z1 := s1.cel (Z+1) 0 1 rfl
  have z2 := s1.cel (Z+1) 0 2 rfl
  simp only [Nat.zero_add] at z0 z1 z2
  go_enter Try.func29, Try.ntmps29
  go_wp2_with fail
  refine c_sameC s1 (fun w' t => hk w' t.tail1.tail1) ?_
  intro w2 s2
  clear y0 y1 y2 z0 z1 z2
  go_wp2
  exact k.out _ s2.tail1.tail1
end
end Go.Proofs.Ytippipfogbgemaa
