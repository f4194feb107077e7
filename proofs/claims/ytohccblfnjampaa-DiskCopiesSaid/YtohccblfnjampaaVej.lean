/-
  DISK's laws: a script played at both (vireolaw13.played); DiskPlays returns true for every script.
-/
import Derived.Test.YtohccblfnjampaaVei
namespace Go.Proofs.Ytohccblfnjampaa
open Go.RowKit
set_option linter.unusedVariables false

theorem RefD.shape {H : Hp} {v : Value} {C : Nat} {m : Int → Int} {lk : Bool} {f q fl : Int} (r : RefD H v C m lk f q fl) : ∃ B N c lk' f' q' fl', v = .agg #[.slice B N c, .bool lk', .int .u64 f', .int .u64 q', .int .u64 fl'] := by
  obtain ⟨B, N, c, rfl, _⟩ := r.open_
  exact ⟨B, N, c, _, _, _, _, rfl⟩

section
variable {R : Ending → World → Prop} {W0 w : World} {H : Hp} {A F : List Hp} {b : Nat} {d : DiskG} {v : Value} {C : Nat}
theorem c_lawDDoV (s : Sat W0 w H A) [fr : FrK (κ := Addr) (ρ := fun _ => DiskG) diskL ⟨b, 0, none⟩ A d F] (rf : RefD H v C d.mem d.locked d.fault d.reqs d.flushes) (hC : (C : Int) = d.count) (hC2 : C ≤ 64) (op : OpD) (hsm : op.small) {dv : Value} (rd : Rd u8E 1 H dv op.data)
    (k : ∀ w' H' v' d', (∀ l c, H l = some c → H' l = some c) → DiskG.Kin d d' → RefD H' v' C d'.mem d'.locked d'.fault d'.reqs d'.flushes → Sat W0 w' H' (diskL ⟨b, 0, none⟩ d' ++ F) → R (.returned (.tuple #[v', .bool true])) w') :
    Calls Try.prog 67 #[.pointer (some ⟨b, 0, none⟩), v, .agg #[.int .i64 op.kind, .int .u64 op.at', .int .i64 op.n, dv]] w R := c_lawDDo s rf hC hC2 op hsm rd k
end

section
variable {R : Ending → World → Prop} {W0 w : World} {H : Hp} {A : List Hp}

set_option maxRecDepth 100000 in
set_option maxHeartbeats 4000000 in
theorem c_lawDPlayed (s : Sat W0 w H A) (l : Bool) {v0 : Value} {os : List OpD} (rd : Rd opdE 4 H v0 os)
    (k1 : ∀ w' H' B N c lk f q fl, (∀ l c, H l = some c → H' l = some c) → Sat W0 w' H' A → R (.returned (.tuple #[.pointer none, .agg #[.slice B N c, .bool lk, .int .u64 f, .int .u64 q, .int .u64 fl], .bool true])) w')
    (k2 : ∀ w' H' v' b (d : DiskG), (∀ l c, H l = some c → H' l = some c) → d.count = 4 ∧ d.locked = l → RefD H' v' 4 d.mem d.locked d.fault d.reqs d.flushes → Sat W0 w' H' (diskL ⟨b, 0, none⟩ d ++ A) → R (.returned (.tuple #[.pointer (some ⟨b, 0, none⟩), v', .bool true])) w') :
    Calls Try.prog 25 #[.bool l, v0] w R := by
  obtain ⟨D, dc, rfl, rd⟩ := rd.open_
  obtain ⟨A', c', hv, hc, hc2, hat⟩ := id rd
  injection hv with ea eb ec
  subst ea ec
  have hlen : (os.length : Int) ≤ 9223372036854775807 := by omega
  have s1 := s.alloc (c := [.slice none 0 0, .bool false, .int .u64 0, .int .u64 0, .int .u64 0]) (t := 51)
  obtain ⟨Z, hZ⟩ : ∃ Z, w.heap.size = Z := ⟨_, rfl⟩
  rw [hZ] at s1
  go_enter Try.func25, Try.ntmps25
  go_wp2_with fail
  refine c_diskNew s1 4 l (by omega) ?_
  intro w2 b mb s2
  go_wp2_with fail
  refine c_refNewD s2 4 (by omega) l ?_
  intro w3 H3 v3 le3 rf3 s3
  obtain ⟨B, N, c, lk, f, q, fl, rfl⟩ := rf3.shape
  have s4 := s3.alloc (c := [.slice B N c, .bool lk, .int .u64 f, .int .u64 q, .int .u64 fl]) (t := 51)
  obtain ⟨Y, hY⟩ : ∃ Y, w3.heap.size = Y := ⟨_, rfl⟩
  rw [hY] at s4
  obtain ⟨d0, hd0⟩ : ∃ d0, d0 = DiskG.new 4 l mb (by omega) := ⟨_, rfl⟩
  rw [← hd0] at s4
  have rf4 : RefD H3 (.agg #[.slice B N c, .bool lk, .int .u64 f, .int .u64 q, .int .u64 fl]) 4 d0.mem d0.locked d0.fault d0.reqs d0.flushes := by rw [hd0]; exact rf3
  have hc4 : d0.count = 4 ∧ d0.locked = l := by rw [hd0]; exact ⟨rfl, rfl⟩
  clear s1 s2 s3 s hd0 rf3
  go_wp2
  go_loopg [10] os.length (fun q' v10 w' => ∃ (i : Nat) (H' : Hp) (d : DiskG) (B : Option Addr) (N c : Nat) (lk : Bool) (f q fl : Int), q' + i = os.length ∧ i ≤ 12 ∧ v10 = .int .i64 i ∧ (∀ l c, H l = some c → H' l = some c) ∧ Aside (d.count = 4 ∧ d.locked = l) ∧ RefD H' (.agg #[.slice B N c, .bool lk, .int .u64 f, .int .u64 q, .int .u64 fl]) 4 d.mem d.locked d.fault d.reqs d.flushes ∧
    Sat W0 w' H' (diskL ⟨b, 0, none⟩ d ++ (cellsH ⟨Y, 0, none⟩ [.slice B N c, .bool lk, .int .u64 f, .int .u64 q, .int .u64 fl] :: cellsH ⟨Z, 0, none⟩ [.slice none 0 0, .bool false, .int .u64 0, .int .u64 0, .int .u64 0] :: A)))
  case atStart => exact ⟨0, H3, d0, B, N, c, lk, f, q, fl, by simp, by omega, rfl, le3, hc4, rf4, s4.wk⟩
  clear s4 rf4 hc4
  case round =>
    obtain ⟨i, H', d, B, N, c, lk, f, q, fl, hq, hi12, rfl, le, hc4, rf, s'⟩ := hrel
    have y0 := s'.cel Y 0 0 rfl
    have y1 := s'.cel Y 0 1 rfl
    have y2 := s'.cel Y 0 2 rfl
    have y3 := s'.cel Y 0 3 rfl
    have y4 := s'.cel Y 0 4 rfl
    simp only [Nat.zero_add] at y0 y1 y2 y3 y4
    have z0 := s'.cel Z 0 0 rfl
    have z1 := s'.cel Z 0 1 rfl
    have z2 := s'.cel Z 0 2 rfl
    have z3 := s'.cel Z 0 3 rfl
    have z4 := s'.cel Z 0 4 rfl
    simp only [Nat.zero_add] at z0 z1 z2 z3 z4
    by_cases hi : i < os.length ∧ i < 12
    · obtain ⟨hi1, hi2⟩ := hi
      obtain ⟨bb, ob, vs, rfl, ⟨dv, rfl, rdv⟩, _, hcell⟩ := hat i os[i] (by simp [hi1])
      have hcl := fun j u hu => (hcell j u hu).imp fun fr hf => le _ _ hf
      have rdv' := rdv.mono u8E_mono le
      have x0 := s'.ro.cell (hcl 0 _ rfl)
      have x1 := s'.ro.cell (hcl 1 _ rfl)
      have x2 := s'.ro.cell (hcl 2 _ rfl)
      have x3 := s'.ro.cell (hcl 3 _ rfl)
      generalize os[i] = op at *
      rw [Nat.add_zero] at x0
      obtain ⟨E, ec, rfl, rdw⟩ := rdv'.open_
      clear hcell hat rd rdv
      go_wp2_with fail
      refine c_smallD s' op rdw ?_
      intro w6 s6
      by_cases hsm : op.small
      · rw [decide_eq_true hsm]
        have s6d := s6.drew
        have s6a := s6.alloc (c := [.slice none 0 0, .bool false, .int .u64 0, .int .u64 0, .int .u64 0]) (t := 51)
        obtain ⟨Q, hQ⟩ : ∃ Q, w6.heap.size = Q := ⟨_, rfl⟩
        rw [hQ] at s6a
        have s6e := s6a.drew
        have s6f := s6d.alloc (c := [.slice none 0 0, .bool false, .int .u64 0, .int .u64 0, .int .u64 0]) (t := 51)
        simp only [show ∀ w : World, w.drew.heap = w.heap from fun _ => rfl, hQ] at s6f
        have g6d := And.intro ((s6d.cel Y 0 0 rfl).1) (And.intro ((s6d.cel Y 0 1 rfl).1) (And.intro ((s6d.cel Y 0 2 rfl).1) (And.intro ((s6d.cel Y 0 3 rfl).1) (And.intro ((s6d.cel Y 0 4 rfl).1) (And.intro (s6d.ro.cell (hcl 0 _ rfl)) (And.intro (s6d.ro.cell (hcl 1 _ rfl)) (And.intro (s6d.ro.cell (hcl 2 _ rfl)) (s6d.ro.cell (hcl 3 _ rfl)))))))))
        simp only [Nat.zero_add, Nat.add_zero] at g6d
        have g6e := And.intro ((s6e.cel Y 0 0 rfl).1) (And.intro ((s6e.cel Y 0 1 rfl).1) (And.intro ((s6e.cel Y 0 2 rfl).1) (And.intro ((s6e.cel Y 0 3 rfl).1) (And.intro ((s6e.cel Y 0 4 rfl).1) (And.intro (s6e.ro.cell (hcl 0 _ rfl)) (And.intro (s6e.ro.cell (hcl 1 _ rfl)) (And.intro (s6e.ro.cell (hcl 2 _ rfl)) (s6e.ro.cell (hcl 3 _ rfl)))))))))
        simp only [Nat.zero_add, Nat.add_zero] at g6e
        have g6f := And.intro ((s6f.cel Y 0 0 rfl).1) (And.intro ((s6f.cel Y 0 1 rfl).1) (And.intro ((s6f.cel Y 0 2 rfl).1) (And.intro ((s6f.cel Y 0 3 rfl).1) (And.intro ((s6f.cel Y 0 4 rfl).1) (And.intro (s6f.ro.cell (hcl 0 _ rfl)) (And.intro (s6f.ro.cell (hcl 1 _ rfl)) (And.intro (s6f.ro.cell (hcl 2 _ rfl)) (s6f.ro.cell (hcl 3 _ rfl)))))))))
        simp only [Nat.zero_add, Nat.add_zero] at g6f
        clear s' y0 y1 y2 y3 y4 x0 x1 x2 x3
        have hc4n : ((4 : Nat) : Int) = d.count := by rw [hc4.out.1]; rfl
        replace hc4n := aside hc4n
        have h64 : 4 ≤ 64 := by omega
        go_wp2
        go_region_held3 (fun w' => w'.cell? ⟨Y, 0, none⟩ = some (.slice B N c) ∧ w'.cell? ⟨Y, 1, none⟩ = some (.bool lk) ∧ w'.cell? ⟨Y, 2, none⟩ = some (.int .u64 f) ∧ w'.cell? ⟨Y, 3, none⟩ = some (.int .u64 q) ∧ w'.cell? ⟨Y, 4, none⟩ = some (.int .u64 fl) ∧ w'.cell? ⟨bb, ob + i * 4, none⟩ = some (.int .i64 op.kind) ∧ w'.cell? ⟨bb, ob + i * 4 + 1, none⟩ = some (.int .u64 op.at') ∧ w'.cell? ⟨bb, ob + i * 4 + 2, none⟩ = some (.int .i64 op.n) ∧ w'.cell? ⟨bb, ob + i * 4 + 3, none⟩ = some (.slice E op.data.length ec))
          (first
            | with_reducible exact g6d
            | with_reducible exact g8
            | with_reducible exact g7a
            | with_reducible exact g7
            | with_reducible exact g6e
            | with_reducible exact g6f)
          (first
            | (go_at_call 67; with_reducible (refine c_lawDDoV s6d rf hc4n.out h64 op hsm rdw ?_); intro w7 H7 v7 d7 le7 hc7 rf7 s7; obtain ⟨B7, N7, c7, lk7, f7, q7, fl7, rfl⟩ := rf7.shape
               have g7 := And.intro ((s7.cel Y 0 0 rfl).1) (And.intro ((s7.cel Y 0 1 rfl).1) (And.intro ((s7.cel Y 0 2 rfl).1) (And.intro ((s7.cel Y 0 3 rfl).1) (And.intro ((s7.cel Y 0 4 rfl).1) (And.intro (s7.ro.cell ((hcl 0 _ rfl).imp fun fr hf => le7 _ _ hf)) (And.intro (s7.ro.cell ((hcl 1 _ rfl).imp fun fr hf => le7 _ _ hf)) (And.intro (s7.ro.cell ((hcl 2 _ rfl).imp fun fr hf => le7 _ _ hf)) (s7.ro.cell ((hcl 3 _ rfl).imp fun fr hf => le7 _ _ hf)))))))))
               simp only [Nat.zero_add, Nat.add_zero] at g7
               have s7a := s7.alloc (c := [.slice none 0 0, .bool false, .int .u64 0, .int .u64 0, .int .u64 0]) (t := 51)
               have g7a := And.intro ((s7a.cel Y 0 0 rfl).1) (And.intro ((s7a.cel Y 0 1 rfl).1) (And.intro ((s7a.cel Y 0 2 rfl).1) (And.intro ((s7a.cel Y 0 3 rfl).1) (And.intro ((s7a.cel Y 0 4 rfl).1) (And.intro (s7a.ro.cell ((hcl 0 _ rfl).imp fun fr hf => le7 _ _ hf)) (And.intro (s7a.ro.cell ((hcl 1 _ rfl).imp fun fr hf => le7 _ _ hf)) (And.intro (s7a.ro.cell ((hcl 2 _ rfl).imp fun fr hf => le7 _ _ hf)) (s7a.ro.cell ((hcl 3 _ rfl).imp fun fr hf => le7 _ _ hf)))))))))
               simp only [Nat.zero_add, Nat.add_zero] at g7a
               have s8 := s7.alloc (c := [.slice B7 N7 c7, .bool lk7, .int .u64 f7, .int .u64 q7, .int .u64 fl7]) (t := 51)
               have g8 := And.intro ((s8.cel Y 0 0 rfl).1) (And.intro ((s8.cel Y 0 1 rfl).1) (And.intro ((s8.cel Y 0 2 rfl).1) (And.intro ((s8.cel Y 0 3 rfl).1) (And.intro ((s8.cel Y 0 4 rfl).1) (And.intro (s8.ro.cell ((hcl 0 _ rfl).imp fun fr hf => le7 _ _ hf)) (And.intro (s8.ro.cell ((hcl 1 _ rfl).imp fun fr hf => le7 _ _ hf)) (And.intro (s8.ro.cell ((hcl 2 _ rfl).imp fun fr hf => le7 _ _ hf)) (s8.ro.cell ((hcl 3 _ rfl).imp fun fr hf => le7 _ _ hf)))))))))
               simp only [Nat.zero_add, Nat.add_zero] at g8
               have arm : True := trivial)
            | (go_at_call 67; (first | with_reducible (refine c_lawDDoV s6e rf hc4n.out h64 op hsm rdw ?_) | with_reducible (refine c_lawDDoV s6f rf hc4n.out h64 op hsm rdw ?_)); intro w7 H7 v7 d7 le7 hc7 rf7 s7; obtain ⟨B7, N7, c7, lk7, f7, q7, fl7, rfl⟩ := rf7.shape
               have g7 := And.intro ((s7.cel Y 0 0 rfl).1) (And.intro ((s7.cel Y 0 1 rfl).1) (And.intro ((s7.cel Y 0 2 rfl).1) (And.intro ((s7.cel Y 0 3 rfl).1) (And.intro ((s7.cel Y 0 4 rfl).1) (And.intro (s7.ro.cell ((hcl 0 _ rfl).imp fun fr hf => le7 _ _ hf)) (And.intro (s7.ro.cell ((hcl 1 _ rfl).imp fun fr hf => le7 _ _ hf)) (And.intro (s7.ro.cell ((hcl 2 _ rfl).imp fun fr hf => le7 _ _ hf)) (s7.ro.cell ((hcl 3 _ rfl).imp fun fr hf => le7 _ _ hf)))))))))
               simp only [Nat.zero_add, Nat.add_zero] at g7
               have s8q0 := s7.cel Q 0 0 rfl
               have s8t0 := (Sat.pull (h := cellsH ⟨Q, 0, none⟩ [.slice none 0 0, .bool false, .int .u64 0, .int .u64 0, .int .u64 0]) s7).s0 (.slice B7 N7 c7)
               have s8q1 := s8t0.c 1 rfl
               have s8t1 := s8t0.s 1 (by simp) (.bool lk7)
               have s8q2 := s8t1.c 2 rfl
               have s8t2 := s8t1.s 2 (by simp) (.int .u64 f7)
               have s8q3 := s8t2.c 3 rfl
               have s8t3 := s8t2.s 3 (by simp) (.int .u64 q7)
               have s8q4 := s8t3.c 4 rfl
               have s8 := s8t3.s 4 (by simp) (.int .u64 fl7)
               simp only [List.set_cons_succ, List.set_cons_zero, Nat.zero_add] at s8 s8q0 s8q1 s8q2 s8q3 s8q4
               have g8 := And.intro ((s8.cel Y 0 0 rfl).1) (And.intro ((s8.cel Y 0 1 rfl).1) (And.intro ((s8.cel Y 0 2 rfl).1) (And.intro ((s8.cel Y 0 3 rfl).1) (And.intro ((s8.cel Y 0 4 rfl).1) (And.intro (s8.ro.cell ((hcl 0 _ rfl).imp fun fr hf => le7 _ _ hf)) (And.intro (s8.ro.cell ((hcl 1 _ rfl).imp fun fr hf => le7 _ _ hf)) (And.intro (s8.ro.cell ((hcl 2 _ rfl).imp fun fr hf => le7 _ _ hf)) (s8.ro.cell ((hcl 3 _ rfl).imp fun fr hf => le7 _ _ hf)))))))))
               simp only [Nat.zero_add, Nat.add_zero] at g8
               have arm : True := trivial))
        · obtain ⟨P, hP⟩ : ∃ P, w7.heap.size = P := ⟨_, rfl⟩
          rw [hP] at s8
          try simp only [hP]
          generalize hW8 : World.alloc w7 _ = w8 at s8 ⊢
          clear hW8
          have b0 := s8.cel P 0 0 rfl
          have b1 := s8.cel P 0 1 rfl
          have b2 := s8.cel P 0 2 rfl
          have b3 := s8.cel P 0 3 rfl
          have b4 := s8.cel P 0 4 rfl
          simp only [Nat.zero_add] at b0 b1 b2 b3 b4
          have s9q0 := s8.cel Y 0 0 rfl
          have s9t0 := (Sat.pull (h := cellsH ⟨Y, 0, none⟩ [.slice B N c, .bool lk, .int .u64 f, .int .u64 q, .int .u64 fl]) s8).s0 (.slice B7 N7 c7)
          have s9q1 := s9t0.c 1 rfl
          have s9t1 := s9t0.s 1 (by simp) (.bool lk7)
          have s9q2 := s9t1.c 2 rfl
          have s9t2 := s9t1.s 2 (by simp) (.int .u64 f7)
          have s9q3 := s9t2.c 3 rfl
          have s9t3 := s9t2.s 3 (by simp) (.int .u64 q7)
          have s9q4 := s9t3.c 4 rfl
          have s9 := s9t3.s 4 (by simp) (.int .u64 fl7)
          simp only [List.set_cons_succ, List.set_cons_zero, Nat.zero_add] at s9 s9q0 s9q1 s9q2 s9q3 s9q4
          have hc8 := aside (show d7.count = 4 ∧ d7.locked = l from ⟨hc7.1.trans hc4.out.1, hc7.2.trans hc4.out.2⟩)
          clear s8 s7 s6 s6a s6d s6e s6f
          go_wp2
          go_roundg (gk - 1)
          case measure => omega
          case rel => exact ⟨i + 1, H7, d7, B7, N7, c7, lk7, f7, q7, fl7, by omega, by omega, by go_num, fun l c h => le7 _ _ (le l c h), hc8, rf7, s9.wk⟩
        · skip
          generalize hW8 : World.setCell (World.setCell (World.setCell (World.setCell (World.setCell w7 _ _) _ _) _ _) _ _) _ _ = w8 at s8 ⊢
          clear hW8
          have b0 := s8.cel Q 0 0 rfl
          have b1 := s8.cel Q 0 1 rfl
          have b2 := s8.cel Q 0 2 rfl
          have b3 := s8.cel Q 0 3 rfl
          have b4 := s8.cel Q 0 4 rfl
          simp only [Nat.zero_add] at b0 b1 b2 b3 b4
          have s9q0 := s8.cel Y 0 0 rfl
          have s9t0 := (Sat.pull (h := cellsH ⟨Y, 0, none⟩ [.slice B N c, .bool lk, .int .u64 f, .int .u64 q, .int .u64 fl]) s8).s0 (.slice B7 N7 c7)
          have s9q1 := s9t0.c 1 rfl
          have s9t1 := s9t0.s 1 (by simp) (.bool lk7)
          have s9q2 := s9t1.c 2 rfl
          have s9t2 := s9t1.s 2 (by simp) (.int .u64 f7)
          have s9q3 := s9t2.c 3 rfl
          have s9t3 := s9t2.s 3 (by simp) (.int .u64 q7)
          have s9q4 := s9t3.c 4 rfl
          have s9 := s9t3.s 4 (by simp) (.int .u64 fl7)
          simp only [List.set_cons_succ, List.set_cons_zero, Nat.zero_add] at s9 s9q0 s9q1 s9q2 s9q3 s9q4
          have hc8 := aside (show d7.count = 4 ∧ d7.locked = l from ⟨hc7.1.trans hc4.out.1, hc7.2.trans hc4.out.2⟩)
          clear s8 s7 s6 s6a s6d s6e s6f
          go_wp2
          go_roundg (gk - 1)
          case measure => omega
          case rel => exact ⟨i + 1, H7, d7, B7, N7, c7, lk7, f7, q7, fl7, by omega, by omega, by go_num, fun l c h => le7 _ _ (le l c h), hc8, rf7, s9.wk⟩
      · rw [decide_eq_false hsm]
        clear s' y0 y1 y2 y3 y4 z0 z1 z2 z3 z4
        have y0 := s6.cel Y 0 0 rfl
        have y1 := s6.cel Y 0 1 rfl
        have y2 := s6.cel Y 0 2 rfl
        have y3 := s6.cel Y 0 3 rfl
        have y4 := s6.cel Y 0 4 rfl
        simp only [Nat.zero_add] at y0 y1 y2 y3 y4
        have s7q0 := s6.cel Z 0 0 rfl
        have s7t0 := (Sat.pull (h := cellsH ⟨Z, 0, none⟩ [.slice none 0 0, .bool false, .int .u64 0, .int .u64 0, .int .u64 0]) s6).s0 (.slice B N c)
        have s7q1 := s7t0.c 1 rfl
        have s7t1 := s7t0.s 1 (by simp) (.bool lk)
        have s7q2 := s7t1.c 2 rfl
        have s7t2 := s7t1.s 2 (by simp) (.int .u64 f)
        have s7q3 := s7t2.c 3 rfl
        have s7t3 := s7t2.s 3 (by simp) (.int .u64 q)
        have s7q4 := s7t3.c 4 rfl
        have s7 := s7t3.s 4 (by simp) (.int .u64 fl)
        simp only [List.set_cons_succ, List.set_cons_zero, Nat.zero_add] at s7 s7q0 s7q1 s7q2 s7q3 s7q4
        have f0 := s7.c 0 rfl
        have f1 := s7.c 1 rfl
        have f2 := s7.c 2 rfl
        have f3 := s7.c 3 rfl
        have f4 := s7.c 4 rfl
        simp only [Nat.zero_add] at f0 f1 f2 f3 f4
        go_wp2
        go_region_law (fail)
        all_goals
          try simp only [Act.put, List.getElem_toArray, List.getElem_cons_succ, List.getElem_cons_zero, List.setIfInBounds_toArray, List.set_cons_succ, List.set_cons_zero]
          go_wp2
          refine bodyPost_ret (by simp [results, Try.results25, go_sem, f0.1, f1.1, f2.1, f3.1, f4.1]; try rfl) rfl ?_
          exact k1 _ H' _ _ _ _ _ _ _ le s7.drew.wk
    · clear hat rd
      have s7q0 := s'.cel Z 0 0 rfl
      have s7t0 := (Sat.pull (h := cellsH ⟨Z, 0, none⟩ [.slice none 0 0, .bool false, .int .u64 0, .int .u64 0, .int .u64 0]) s').s0 (.slice B N c)
      have s7q1 := s7t0.c 1 rfl
      have s7t1 := s7t0.s 1 (by simp) (.bool lk)
      have s7q2 := s7t1.c 2 rfl
      have s7t2 := s7t1.s 2 (by simp) (.int .u64 f)
      have s7q3 := s7t2.c 3 rfl
      have s7t3 := s7t2.s 3 (by simp) (.int .u64 q)
      have s7q4 := s7t3.c 4 rfl
      have s7 := s7t3.s 4 (by simp) (.int .u64 fl)
      simp only [List.set_cons_succ, List.set_cons_zero, Nat.zero_add] at s7 s7q0 s7q1 s7q2 s7q3 s7q4
      have f0 := s7.c 0 rfl
      have f1 := s7.c 1 rfl
      have f2 := s7.c 2 rfl
      have f3 := s7.c 3 rfl
      have f4 := s7.c 4 rfl
      simp only [Nat.zero_add] at f0 f1 f2 f3 f4
      by_cases hx : (i : Int) < os.length
      all_goals
        go_wp2
        go_region_law (fail)
        all_goals
          try simp only [Act.put, List.getElem_toArray, List.getElem_cons_succ, List.getElem_cons_zero, List.setIfInBounds_toArray, List.set_cons_succ, List.set_cons_zero]
          go_wp2
          refine bodyPost_ret (by simp [results, Try.results25, go_sem, f0.1, f1.1, f2.1, f3.1, f4.1]; try rfl) rfl ?_
          exact k2 _ H' _ b d le hc4.out rf s7.drew.wk
end

set_option maxRecDepth 100000 in
set_option maxHeartbeats 4000000 in
theorem law_DiskPlays (W : World) {v0 v1 : Value} {l : Bool} {os : List OpD} (e0 : boolE (look W) l [v0]) (e1 : sliceE opdE 4 (look W) os [v1]) :
    Calls Try.prog 4 #[v0, v1] W fun e w' => e = .returned (.bool true) ∧ Below W.heap.size W w' := by
  obtain rfl : v0 = _ := List.cons.inj e0 |>.1
  clear e0
  obtain ⟨_, hv1, e1⟩ := e1
  obtain rfl := (List.cons.inj hv1).1
  clear hv1
  go_enter Try.func4, Try.ntmps4
  go_wp2_with fail
  refine c_diskAwake (Sat.start W) ?_; intro w1 s1
  go_wp2_with fail
  refine c_lawDPlayed s1 l e1 ?_ ?_
  · intro w2 H2 B N c lk f q fl le s2
    have s3 := s2.alloc (c := [.slice B N c, .bool lk, .int .u64 f, .int .u64 q, .int .u64 fl]) (t := 51)
    go_wp2
    go_ret
    exact ⟨rfl, s3.below⟩
  · intro w2 H2 v2 b d le hc rf s2
    obtain ⟨B, N, c, lk, f, q, fl, rfl⟩ := rf.shape
    have s3 := s2.alloc (c := [.slice B N c, .bool lk, .int .u64 f, .int .u64 q, .int .u64 fl]) (t := 51)
    obtain ⟨Y, hY⟩ : ∃ Y, w2.heap.size = Y := ⟨_, rfl⟩
    rw [hY] at s3
    have y0 := s3.cel Y 0 0 rfl
    have y1 := s3.cel Y 0 1 rfl
    have y2 := s3.cel Y 0 2 rfl
    have y3 := s3.cel Y 0 3 rfl
    have y4 := s3.cel Y 0 4 rfl
    simp only [Nat.zero_add] at y0 y1 y2 y3 y4
    clear s1 s2
    go_wp2_with fail
    refine c_lawDSame s3 rf (by rw [hc.1]; rfl) (by omega) ?_
    intro w4 s4
    go_wp2
    go_ret
    exact ⟨rfl, s4.below⟩
end Go.Proofs.Ytohccblfnjampaa
