/-
  DISK's laws: one call at both (vireolaw13.do): Read.
-/
import Derived.Test.YtohccblfnjampaaVeg

namespace Go.Proofs.Ytohccblfnjampaa
open Go.RowKit
set_option linter.unusedVariables false

section
variable {R : Ending → World → Prop} {W0 w : World} {H : Hp} {A F : List Hp} {b : Nat} {d : DiskG} {v : Value} {C : Nat}

set_option maxRecDepth 100000 in
set_option maxHeartbeats 4000000 in
theorem c_lawDDo0 (s : Sat W0 w H A) [fr : FrK (κ := Addr) (ρ := fun _ => DiskG) diskL ⟨b, 0, none⟩ A d F] (rf : RefD H v C d.mem d.locked d.fault d.reqs d.flushes) (hC : (C : Int) = d.count) (hC2 : C ≤ 64) (op : OpD) (hsm : op.small) {dv : Value} (rd : Rd u8E 1 H dv op.data) (hk : op.kind = 0)
    (k : ∀ w' H' v' d', (∀ l c, H l = some c → H' l = some c) → DiskG.Kin d d' → RefD H' v' C d'.mem d'.locked d'.fault d'.reqs d'.flushes → Sat W0 w' H' (diskL ⟨b, 0, none⟩ d' ++ F) → R (.returned (.tuple #[v', .bool true])) w') :
    Calls Try.prog 67 #[.pointer (some ⟨b, 0, none⟩), v, .agg (op.vals dv).toArray] w R := by
  have s0 := s.front (mk := diskL) (k := ⟨b, 0, none⟩)
  obtain ⟨E, ec, rfl, rd⟩ := rd.open_
  have hdb := rd.bytes
  have hfa := d.hfault
  obtain ⟨B, N, c, rfl, hN, rdb⟩ := rf.open_
  replace hN := aside hN
  obtain ⟨lk, hlk⟩ : ∃ y, d.locked = y := ⟨_, rfl⟩
  obtain ⟨f, hff⟩ : ∃ y, d.fault = y := ⟨_, rfl⟩
  obtain ⟨q, hqf⟩ : ∃ y, d.reqs = y := ⟨_, rfl⟩
  obtain ⟨fl, hflf⟩ : ∃ y, d.flushes = y := ⟨_, rfl⟩
  rw [hlk, hff, hqf, hflf] at rf ⊢
  rw [hff] at hfa
  obtain ⟨kind, at', n, data, hkk, ha, hn⟩ := op
  simp only [OpD.vals, OpD.small] at *
  have s3 := ((s0.alloc (c := [.slice B N c, .bool lk, .int .u64 f, .int .u64 q, .int .u64 fl]) (t := 51)).alloc (c := [.int .i64 kind, .int .u64 at', .int .i64 n, .slice E data.length ec]) (t := 71)).alloc (c := [.slice none 0 0, .bool false, .int .u64 0, .int .u64 0, .int .u64 0]) (t := 51)
  simp only [World.size_alloc] at s3
  obtain ⟨X, hX⟩ : ∃ X, w.heap.size = X := ⟨_, rfl⟩
  rw [hX] at s3
  have hdl : (data.length : Int) ≤ 512 := by omega
  subst hk
  have p0 := s3.cel X 0 0 rfl
  have p1 := s3.cel X 0 1 rfl
  have p2 := s3.cel X 0 2 rfl
  have p3 := s3.cel X 0 3 rfl
  have p4 := s3.cel X 0 4 rfl
  simp only [Nat.zero_add] at p0 p1 p2 p3 p4
  have y0 := s3.cel (X + 1) 0 0 rfl
  have y1 := s3.cel (X + 1) 0 1 rfl
  have y2 := s3.cel (X + 1) 0 2 rfl
  have y3 := s3.cel (X + 1) 0 3 rfl
  simp only [Nat.zero_add] at y0 y1 y2 y3
  have en : IntKind.u64.wrap n = n := by rw [wrap_u64]; omega
  have hnb := aside (show 0 ≤ n ∧ n ≤ 18446744073709551615 by omega)
  have hcode : (if d.fault = 1 then (133 : Int) else pieceC d.count at' n) = rdD C f at' n := by unfold rdD; rw [hff, hC]
  clear s s0 fr hsm
  go_enter Try.func67, Try.ntmps67
  go_wp2_with fail
  refine c_refReadD s3 rf (by omega) hfa at' n ha hnb.out ?_ ?_
  · intro hcd w4 B4 N4 c4 rf4 s4
    obtain ⟨g, hg⟩ : ∃ y, nextF f = y := ⟨_, rfl⟩
    obtain ⟨qq, hqq⟩ : ∃ y, upQ q = y := ⟨_, rfl⟩
    obtain ⟨fl4, hfl4⟩ : ∃ y, fl = y := ⟨_, rfl⟩
    rw [hg, hqq, hfl4] at rf4 ⊢
    obtain ⟨cd, hcdd⟩ : ∃ y, rdD C f at' n = y := ⟨_, rfl⟩
    have hbad : d.fault = 1 ∨ pieceC d.count at' n ≠ 0 := by
      by_cases h1 : d.fault = 1
      · exact .inl h1
      · right; rw [if_neg h1] at hcode; rw [hcode]; exact hcd
    rw [hcdd] at hcode ⊢
    have ecd : (cd == cd) = true := by simp
    replace hcode := aside hcode
    clear hcd hcdd
    have s5 := s4.alloc (c := [.slice B4 N4 c4, .bool lk, .int .u64 g, .int .u64 qq, .int .u64 fl4]) (t := 51)
    obtain ⟨Y, hY⟩ : ∃ Y, w4.heap.size = Y := ⟨_, rfl⟩
    rw [hY] at s5
    clear s3 p0 p1 p2 p3 p4 y0 y1 y2 y3
    have y0 := s5.cel (X + 1) 0 0 rfl
    have y1 := s5.cel (X + 1) 0 1 rfl
    have y2 := s5.cel (X + 1) 0 2 rfl
    have y3 := s5.cel (X + 1) 0 3 rfl
    simp only [Nat.zero_add] at y0 y1 y2 y3
    go_wp2_with fail
    try simp only [hY]
    generalize hW5 : World.alloc w4 _ = w5 at s5 y0 y1 y2 y3 ⊢
    clear s4 hW5
    refine c_diskReadBad s5 at' n ha hnb.out hbad ?_
    intro w6 s6
    rw [hcode.out]
    clear s5 y0 y1 y2 y3
    go_wp2
    have s6d := s6.drew
    have f5 := And.intro ((s6d.cel Y 0 0 rfl).1) (And.intro ((s6d.cel Y 0 1 rfl).1) (And.intro ((s6d.cel Y 0 2 rfl).1) (And.intro ((s6d.cel Y 0 3 rfl).1) ((s6d.cel Y 0 4 rfl).1))))
    simp only [Nat.zero_add] at f5
    go_region_held3 (fun w' => w'.cell? ⟨Y, 0, none⟩ = some (.slice B4 N4 c4) ∧ w'.cell? ⟨Y, 1, none⟩ = some (.bool lk) ∧ w'.cell? ⟨Y, 2, none⟩ = some (.int .u64 g) ∧ w'.cell? ⟨Y, 3, none⟩ = some (.int .u64 qq) ∧ w'.cell? ⟨Y, 4, none⟩ = some (.int .u64 fl4))
      (first
        | with_reducible exact f5
        | with_reducible exact f9
        | with_reducible exact f7)
      (first
        | (go_at_call 44; refine c_Bytes s6d.ro s6d.ro (Rd.nil (h := H)) (Rd.nil (h := H)) ?_; intro n8; rw [decide_eq_true rfl]; have s7 := s6d.drewN n8; generalize World.drewN _ n8 = w7 at s7 ⊢
           have f7 := And.intro ((s7.cel Y 0 0 rfl).1) (And.intro ((s7.cel Y 0 1 rfl).1) (And.intro ((s7.cel Y 0 2 rfl).1) (And.intro ((s7.cel Y 0 3 rfl).1) ((s7.cel Y 0 4 rfl).1))))
           simp only [Nat.zero_add] at f7
           have s9q0 := s7.cel (X + 1 + 1) 0 0 rfl
           have s9t0 := (Sat.pull (h := cellsH ⟨(X + 1 + 1), 0, none⟩ [.slice none 0 0, .bool false, .int .u64 0, .int .u64 0, .int .u64 0]) s7).s0 (.slice B4 N4 c4)
           have s9q1 := s9t0.c 1 rfl
           have s9t1 := s9t0.s 1 (by simp) (.bool lk)
           have s9q2 := s9t1.c 2 rfl
           have s9t2 := s9t1.s 2 (by simp) (.int .u64 g)
           have s9q3 := s9t2.c 3 rfl
           have s9t3 := s9t2.s 3 (by simp) (.int .u64 qq)
           have s9q4 := s9t3.c 4 rfl
           have s9 := s9t3.s 4 (by simp) (.int .u64 fl4)
           simp only [List.set_cons_succ, List.set_cons_zero, Nat.zero_add] at s9 s9q0 s9q1 s9q2 s9q3 s9q4
           have f9 := And.intro ((s9.cel Y 0 0 rfl).1) (And.intro ((s9.cel Y 0 1 rfl).1) (And.intro ((s9.cel Y 0 2 rfl).1) (And.intro ((s9.cel Y 0 3 rfl).1) ((s9.cel Y 0 4 rfl).1))))
           simp only [Nat.zero_add] at f9
           have arm : True := trivial))
    all_goals
      have f0 := s9.c 0 rfl
      have f1 := s9.c 1 rfl
      have f2 := s9.c 2 rfl
      have f3 := s9.c 3 rfl
      have f4 := s9.c 4 rfl
      simp only [Nat.zero_add] at f0 f1 f2 f3 f4
      go_wp2
      refine bodyPost_ret (by simp [results, Try.results67, go_sem, f0.1, f1.1, f2.1, f3.1, f4.1]; try rfl) rfl ?_
      exact k _ H _ d.asked (fun _ _ h => h) ⟨rfl, rfl⟩ (by
        show RefD H _ C d.mem d.locked (nextF d.fault) (upQ d.reqs) d.flushes
        rw [hlk, hff, hqf, hflf, hg, hqq, hfl4]; exact rf4) s9.wk
  · intro hcd w4 B4 N4 c4 v5 h5 rf4 own5 s4
    obtain ⟨O5, oc5, osp5, rfl, _⟩ := id own5
    obtain ⟨g, hg⟩ : ∃ y, nextF f = y := ⟨_, rfl⟩
    obtain ⟨qq, hqq⟩ : ∃ y, upQ q = y := ⟨_, rfl⟩
    obtain ⟨fl4, hfl4⟩ : ∃ y, fl = y := ⟨_, rfl⟩
    rw [hg, hqq, hfl4] at rf4 ⊢
    have hf1 : d.fault ≠ 1 := fun h => by rw [if_pos h, hcd] at hcode; cases hcode
    have hp0 : pieceC d.count at' n = 0 := by rw [if_neg hf1, hcd] at hcode; exact hcode
    clear hcd hcode
    have s5 := s4.alloc (c := [.slice B4 N4 c4, .bool lk, .int .u64 g, .int .u64 qq, .int .u64 fl4]) (t := 51)
    obtain ⟨Y, hY⟩ : ∃ Y, w4.heap.size = Y := ⟨_, rfl⟩
    rw [hY] at s5
    clear s3 p0 p1 p2 p3 p4 y0 y1 y2 y3
    have y0 := s5.cel (X + 1) 0 0 rfl
    have y1 := s5.cel (X + 1) 0 1 rfl
    have y2 := s5.cel (X + 1) 0 2 rfl
    have y3 := s5.cel (X + 1) 0 3 rfl
    simp only [Nat.zero_add] at y0 y1 y2 y3
    go_wp2_with fail
    try simp only [hY]
    generalize hW5 : World.alloc w4 _ = w5 at s5 y0 y1 y2 y3 ⊢
    clear s4 hW5
    refine c_diskReadOk s5 at' n ha hnb.out hf1 hp0 ?_
    intro w6 v6 h6 own6 s6
    obtain ⟨O6, oc6, osp6, rfl, _⟩ := id own6
    have bdd := rdB_bd d.hmem (512 * at') n.toNat
    obtain ⟨RB, hRB⟩ : ∃ y, rdB d.mem (512 * at') n.toNat = y := ⟨_, rfl⟩
    rw [hRB] at own5 own6 bdd
    have r6 := own6.rd bdd
    have r5 := own5.rd bdd
    clear s5 y0 y1 y2 y3
    go_wp2
    have s6d := s6.drew
    have f5 := And.intro ((s6d.cel Y 0 0 rfl).1) (And.intro ((s6d.cel Y 0 1 rfl).1) (And.intro ((s6d.cel Y 0 2 rfl).1) (And.intro ((s6d.cel Y 0 3 rfl).1) ((s6d.cel Y 0 4 rfl).1))))
    simp only [Nat.zero_add] at f5
    go_region_held3 (fun w' => w'.cell? ⟨Y, 0, none⟩ = some (.slice B4 N4 c4) ∧ w'.cell? ⟨Y, 1, none⟩ = some (.bool lk) ∧ w'.cell? ⟨Y, 2, none⟩ = some (.int .u64 g) ∧ w'.cell? ⟨Y, 3, none⟩ = some (.int .u64 qq) ∧ w'.cell? ⟨Y, 4, none⟩ = some (.int .u64 fl4))
      (first
        | with_reducible exact f5
        | with_reducible exact f9
        | with_reducible exact f7)
      (first
        | (go_at_call 44; refine c_Bytes (Sat.pull (h := h6) s6d).head (Sat.pull (h := h5) s6d).head r6 r5 ?_; intro n8; rw [decide_eq_true rfl]; have s7 := s6d.drewN n8; generalize World.drewN _ n8 = w7 at s7 ⊢
           have f7 := And.intro ((s7.cel Y 0 0 rfl).1) (And.intro ((s7.cel Y 0 1 rfl).1) (And.intro ((s7.cel Y 0 2 rfl).1) (And.intro ((s7.cel Y 0 3 rfl).1) ((s7.cel Y 0 4 rfl).1))))
           simp only [Nat.zero_add] at f7
           have s9q0 := s7.cel (X + 1 + 1) 0 0 rfl
           have s9t0 := (Sat.pull (h := cellsH ⟨(X + 1 + 1), 0, none⟩ [.slice none 0 0, .bool false, .int .u64 0, .int .u64 0, .int .u64 0]) s7).s0 (.slice B4 N4 c4)
           have s9q1 := s9t0.c 1 rfl
           have s9t1 := s9t0.s 1 (by simp) (.bool lk)
           have s9q2 := s9t1.c 2 rfl
           have s9t2 := s9t1.s 2 (by simp) (.int .u64 g)
           have s9q3 := s9t2.c 3 rfl
           have s9t3 := s9t2.s 3 (by simp) (.int .u64 qq)
           have s9q4 := s9t3.c 4 rfl
           have s9 := s9t3.s 4 (by simp) (.int .u64 fl4)
           simp only [List.set_cons_succ, List.set_cons_zero, Nat.zero_add] at s9 s9q0 s9q1 s9q2 s9q3 s9q4
           have f9 := And.intro ((s9.cel Y 0 0 rfl).1) (And.intro ((s9.cel Y 0 1 rfl).1) (And.intro ((s9.cel Y 0 2 rfl).1) (And.intro ((s9.cel Y 0 3 rfl).1) ((s9.cel Y 0 4 rfl).1))))
           simp only [Nat.zero_add] at f9
           have arm : True := trivial))
    all_goals
      have f0 := s9.c 0 rfl
      have f1 := s9.c 1 rfl
      have f2 := s9.c 2 rfl
      have f3 := s9.c 3 rfl
      have f4 := s9.c 4 rfl
      simp only [Nat.zero_add] at f0 f1 f2 f3 f4
      go_wp2
      refine bodyPost_ret (by simp [results, Try.results67, go_sem, f0.1, f1.1, f2.1, f3.1, f4.1]; try rfl) rfl ?_
      exact k _ H _ d.asked (fun _ _ h => h) ⟨rfl, rfl⟩ (by
        show RefD H _ C d.mem d.locked (nextF d.fault) (upQ d.reqs) d.flushes
        rw [hlk, hff, hqf, hflf, hg, hqq, hfl4]; exact rf4) s9.wk
end
end Go.Proofs.Ytohccblfnjampaa
