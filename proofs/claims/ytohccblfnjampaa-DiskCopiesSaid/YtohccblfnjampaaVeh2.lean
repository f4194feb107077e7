/-
  DISK's laws: one call at both (vireolaw13.do): Flush.
-/
import Derived.Test.YtohccblfnjampaaVeg

namespace Go.Proofs.Ytohccblfnjampaa
open Go.RowKit
set_option linter.unusedVariables false

section
variable {R : Ending → World → Prop} {W0 w : World} {H : Hp} {A F : List Hp} {b : Nat} {d : DiskG} {v : Value} {C : Nat}

set_option maxRecDepth 100000 in
set_option maxHeartbeats 4000000 in
theorem c_lawDDo2 (s : Sat W0 w H A) [fr : FrK (κ := Addr) (ρ := fun _ => DiskG) diskL ⟨b, 0, none⟩ A d F] (rf : RefD H v C d.mem d.locked d.fault d.reqs d.flushes) (hC : (C : Int) = d.count) (hC2 : C ≤ 64) (op : OpD) (hsm : op.small) {dv : Value} (rd : Rd u8E 1 H dv op.data) (hk : op.kind = 2)
    (k : ∀ w' H' v' d', (∀ l c, H l = some c → H' l = some c) → DiskG.Kin d d' → RefD H' v' C d'.mem d'.locked d'.fault d'.reqs d'.flushes → Sat W0 w' H' (diskL ⟨b, 0, none⟩ d' ++ F) → R (.returned (.tuple #[v', .bool true])) w') :
    Calls Try.prog 67 #[.pointer (some ⟨b, 0, none⟩), v, .agg (op.vals dv).toArray] w R := by
  have s0 := s.front (mk := diskL) (k := ⟨b, 0, none⟩)
  obtain ⟨E, ec, rfl, rd⟩ := rd.open_
  have hdb := rd.bytes
  have hfa := d.hfault
  obtain ⟨B, N, c, rfl, hN, rdb⟩ := rf.open_
  replace hN := aside hN
  obtain ⟨lk, hlk⟩ : ∃ y, d.locked = y := ⟨_, rfl⟩
  obtain ⟨f, hff⟩ : ∃ y, d.fault = y := ⟨_, rfl⟩
  obtain ⟨q, hqf⟩ : ∃ y, d.reqs = y := ⟨_, rfl⟩
  obtain ⟨fl, hflf⟩ : ∃ y, d.flushes = y := ⟨_, rfl⟩
  rw [hlk, hff, hqf, hflf] at rf ⊢
  rw [hff] at hfa
  obtain ⟨kind, at', n, data, hkk, ha, hn⟩ := op
  simp only [OpD.vals, OpD.small] at *
  have s3 := ((s0.alloc (c := [.slice B N c, .bool lk, .int .u64 f, .int .u64 q, .int .u64 fl]) (t := 51)).alloc (c := [.int .i64 kind, .int .u64 at', .int .i64 n, .slice E data.length ec]) (t := 71)).alloc (c := [.slice none 0 0, .bool false, .int .u64 0, .int .u64 0, .int .u64 0]) (t := 51)
  simp only [World.size_alloc] at s3
  obtain ⟨X, hX⟩ : ∃ X, w.heap.size = X := ⟨_, rfl⟩
  rw [hX] at s3
  have hdl : (data.length : Int) ≤ 512 := by omega
  subst hk
  have p0 := s3.cel X 0 0 rfl
  have p1 := s3.cel X 0 1 rfl
  have p2 := s3.cel X 0 2 rfl
  have p3 := s3.cel X 0 3 rfl
  have p4 := s3.cel X 0 4 rfl
  simp only [Nat.zero_add] at p0 p1 p2 p3 p4
  have y0 := s3.cel (X + 1) 0 0 rfl
  have y1 := s3.cel (X + 1) 0 1 rfl
  have y2 := s3.cel (X + 1) 0 2 rfl
  have y3 := s3.cel (X + 1) 0 3 rfl
  simp only [Nat.zero_add] at y0 y1 y2 y3
  have eC := aside hC
  clear s s0 fr hsm hC hN
  go_enter Try.func67, Try.ntmps67
  go_wp2_with fail
  refine c_refFlushD s3 rf hfa ?_ ?_
  · intro hf1 w4 v4 rf4 s4
    obtain ⟨sl4, rfl, rd4⟩ := id rf4
    obtain ⟨B4, c4, rfl, rd4⟩ := rd4.open_
    rw [rdB_len] at rf4 ⊢
    obtain ⟨N4, hN4⟩ : ∃ N4, 512 * C = N4 := ⟨_, rfl⟩
    obtain ⟨g, hg⟩ : ∃ y, nextF f = y := ⟨_, rfl⟩
    obtain ⟨qq, hqq⟩ : ∃ y, upQ q = y := ⟨_, rfl⟩
    obtain ⟨fl4, hfl4⟩ : ∃ y, fl = y := ⟨_, rfl⟩
    rw [hN4, hg, hqq, hfl4] at rf4 ⊢
    have s5 := s4.alloc (c := [.slice B4 N4 c4, .bool lk, .int .u64 g, .int .u64 qq, .int .u64 fl4]) (t := 51)
    obtain ⟨Y, hY⟩ : ∃ Y, w4.heap.size = Y := ⟨_, rfl⟩
    rw [hY] at s5
    clear s3 p0 p1 p2 p3 p4 y0 y1 y2 y3 rd4
    go_wp2
    try simp only [hY]
    generalize hW5 : World.alloc w4 _ = w5 at s5 ⊢
    clear s4 hW5
    have s5d := s5.drew
    have f5 := And.intro ((s5d.cel Y 0 0 rfl).1) (And.intro ((s5d.cel Y 0 1 rfl).1) (And.intro ((s5d.cel Y 0 2 rfl).1) (And.intro ((s5d.cel Y 0 3 rfl).1) ((s5d.cel Y 0 4 rfl).1))))
    simp only [Nat.zero_add] at f5
    have hf1d : d.fault = 1 := by rw [hff]; exact hf1
    go_region_held3 (fun w' => w'.cell? ⟨Y, 0, none⟩ = some (.slice B4 N4 c4) ∧ w'.cell? ⟨Y, 1, none⟩ = some (.bool lk) ∧ w'.cell? ⟨Y, 2, none⟩ = some (.int .u64 g) ∧ w'.cell? ⟨Y, 3, none⟩ = some (.int .u64 qq) ∧ w'.cell? ⟨Y, 4, none⟩ = some (.int .u64 fl4))
      (first
        | with_reducible exact f5
        | with_reducible exact f7
        | with_reducible exact f6)
      (first
        | (go_at_call 75; refine c_diskFlush s5.drew ?_ (fun h => absurd hf1d h); intro _ w6 s6
           have f6 := And.intro ((s6.cel Y 0 0 rfl).1) (And.intro ((s6.cel Y 0 1 rfl).1) (And.intro ((s6.cel Y 0 2 rfl).1) (And.intro ((s6.cel Y 0 3 rfl).1) ((s6.cel Y 0 4 rfl).1))))
           simp only [Nat.zero_add] at f6
           have s7q0 := s6.cel (X + 1 + 1) 0 0 rfl
           have s7t0 := (Sat.pull (h := cellsH ⟨(X + 1 + 1), 0, none⟩ [.slice none 0 0, .bool false, .int .u64 0, .int .u64 0, .int .u64 0]) s6).s0 (.slice B4 N4 c4)
           have s7q1 := s7t0.c 1 rfl
           have s7t1 := s7t0.s 1 (by simp) (.bool lk)
           have s7q2 := s7t1.c 2 rfl
           have s7t2 := s7t1.s 2 (by simp) (.int .u64 g)
           have s7q3 := s7t2.c 3 rfl
           have s7t3 := s7t2.s 3 (by simp) (.int .u64 qq)
           have s7q4 := s7t3.c 4 rfl
           have s7 := s7t3.s 4 (by simp) (.int .u64 fl4)
           simp only [List.set_cons_succ, List.set_cons_zero, Nat.zero_add] at s7 s7q0 s7q1 s7q2 s7q3 s7q4
           have f7 := And.intro ((s7.cel Y 0 0 rfl).1) (And.intro ((s7.cel Y 0 1 rfl).1) (And.intro ((s7.cel Y 0 2 rfl).1) (And.intro ((s7.cel Y 0 3 rfl).1) ((s7.cel Y 0 4 rfl).1))))
           simp only [Nat.zero_add] at f7
           have arm : True := trivial))
    all_goals
      have f0 := s7.c 0 rfl
      have f1 := s7.c 1 rfl
      have f2 := s7.c 2 rfl
      have f3 := s7.c 3 rfl
      have f4 := s7.c 4 rfl
      simp only [Nat.zero_add] at f0 f1 f2 f3 f4
      go_wp2
      refine bodyPost_ret (by simp [results, Try.results67, go_sem, f0.1, f1.1, f2.1, f3.1, f4.1]; try rfl) rfl ?_
      exact k _ _ _ d.asked (fun _ _ h => h) ⟨rfl, rfl⟩ (by
        show RefD H _ C d.mem d.locked (nextF d.fault) (upQ d.reqs) (d.flushes)
        rw [hlk, hff, hqf, hflf, hg, hqq, hfl4]; exact rf4) s7.wk
  · intro hf1 w4 v4 rf4 s4
    obtain ⟨sl4, rfl, rd4⟩ := id rf4
    obtain ⟨B4, c4, rfl, rd4⟩ := rd4.open_
    rw [rdB_len] at rf4 ⊢
    obtain ⟨N4, hN4⟩ : ∃ N4, 512 * C = N4 := ⟨_, rfl⟩
    obtain ⟨g, hg⟩ : ∃ y, nextF f = y := ⟨_, rfl⟩
    obtain ⟨qq, hqq⟩ : ∃ y, upQ q = y := ⟨_, rfl⟩
    obtain ⟨fl4, hfl4⟩ : ∃ y, upQ fl = y := ⟨_, rfl⟩
    rw [hN4, hg, hqq, hfl4] at rf4 ⊢
    have s5 := s4.alloc (c := [.slice B4 N4 c4, .bool lk, .int .u64 g, .int .u64 qq, .int .u64 fl4]) (t := 51)
    obtain ⟨Y, hY⟩ : ∃ Y, w4.heap.size = Y := ⟨_, rfl⟩
    rw [hY] at s5
    clear s3 p0 p1 p2 p3 p4 y0 y1 y2 y3 rd4
    go_wp2
    try simp only [hY]
    generalize hW5 : World.alloc w4 _ = w5 at s5 ⊢
    clear s4 hW5
    have s5d := s5.drew
    have f5 := And.intro ((s5d.cel Y 0 0 rfl).1) (And.intro ((s5d.cel Y 0 1 rfl).1) (And.intro ((s5d.cel Y 0 2 rfl).1) (And.intro ((s5d.cel Y 0 3 rfl).1) ((s5d.cel Y 0 4 rfl).1))))
    simp only [Nat.zero_add] at f5
    have hf1d : d.fault ≠ 1 := by rw [hff]; exact hf1
    go_region_held3 (fun w' => w'.cell? ⟨Y, 0, none⟩ = some (.slice B4 N4 c4) ∧ w'.cell? ⟨Y, 1, none⟩ = some (.bool lk) ∧ w'.cell? ⟨Y, 2, none⟩ = some (.int .u64 g) ∧ w'.cell? ⟨Y, 3, none⟩ = some (.int .u64 qq) ∧ w'.cell? ⟨Y, 4, none⟩ = some (.int .u64 fl4))
      (first
        | with_reducible exact f5
        | with_reducible exact f7
        | with_reducible exact f6)
      (first
        | (go_at_call 75; refine c_diskFlush s5.drew (fun h => absurd h hf1d) ?_; intro _ w6 s6
           have f6 := And.intro ((s6.cel Y 0 0 rfl).1) (And.intro ((s6.cel Y 0 1 rfl).1) (And.intro ((s6.cel Y 0 2 rfl).1) (And.intro ((s6.cel Y 0 3 rfl).1) ((s6.cel Y 0 4 rfl).1))))
           simp only [Nat.zero_add] at f6
           have s7q0 := s6.cel (X + 1 + 1) 0 0 rfl
           have s7t0 := (Sat.pull (h := cellsH ⟨(X + 1 + 1), 0, none⟩ [.slice none 0 0, .bool false, .int .u64 0, .int .u64 0, .int .u64 0]) s6).s0 (.slice B4 N4 c4)
           have s7q1 := s7t0.c 1 rfl
           have s7t1 := s7t0.s 1 (by simp) (.bool lk)
           have s7q2 := s7t1.c 2 rfl
           have s7t2 := s7t1.s 2 (by simp) (.int .u64 g)
           have s7q3 := s7t2.c 3 rfl
           have s7t3 := s7t2.s 3 (by simp) (.int .u64 qq)
           have s7q4 := s7t3.c 4 rfl
           have s7 := s7t3.s 4 (by simp) (.int .u64 fl4)
           simp only [List.set_cons_succ, List.set_cons_zero, Nat.zero_add] at s7 s7q0 s7q1 s7q2 s7q3 s7q4
           have f7 := And.intro ((s7.cel Y 0 0 rfl).1) (And.intro ((s7.cel Y 0 1 rfl).1) (And.intro ((s7.cel Y 0 2 rfl).1) (And.intro ((s7.cel Y 0 3 rfl).1) ((s7.cel Y 0 4 rfl).1))))
           simp only [Nat.zero_add] at f7
           have arm : True := trivial))
    all_goals
      have f0 := s7.c 0 rfl
      have f1 := s7.c 1 rfl
      have f2 := s7.c 2 rfl
      have f3 := s7.c 3 rfl
      have f4 := s7.c 4 rfl
      simp only [Nat.zero_add] at f0 f1 f2 f3 f4
      go_wp2
      refine bodyPost_ret (by simp [results, Try.results67, go_sem, f0.1, f1.1, f2.1, f3.1, f4.1]; try rfl) rfl ?_
      exact k _ _ _ d.asked.flushed (fun _ _ h => h) ⟨rfl, rfl⟩ (by
        show RefD H _ C d.mem d.locked (nextF d.fault) (upQ d.reqs) (upQ d.flushes)
        rw [hlk, hff, hqf, hflf, hg, hqq, hfl4]; exact rf4) s7.wk
end
end Go.Proofs.Ytohccblfnjampaa
