/-
  DISK's laws: one call at both (vireolaw13.do): Fail.
-/
import Derived.Test.YtohccblfnjampaaVeg

namespace Go.Proofs.Ytohccblfnjampaa
open Go.RowKit
set_option linter.unusedVariables false

section
variable {R : Ending → World → Prop} {W0 w : World} {H : Hp} {A F : List Hp} {b : Nat} {d : DiskG} {v : Value} {C : Nat}

set_option maxRecDepth 100000 in
set_option maxHeartbeats 4000000 in
theorem c_lawDDo3 (s : Sat W0 w H A) [fr : FrK (κ := Addr) (ρ := fun _ => DiskG) diskL ⟨b, 0, none⟩ A d F] (rf : RefD H v C d.mem d.locked d.fault d.reqs d.flushes) (hC : (C : Int) = d.count) (hC2 : C ≤ 64) (op : OpD) (hsm : op.small) {dv : Value} (rd : Rd u8E 1 H dv op.data) (hk : op.kind = 3)
    (k : ∀ w' H' v' d', (∀ l c, H l = some c → H' l = some c) → DiskG.Kin d d' → RefD H' v' C d'.mem d'.locked d'.fault d'.reqs d'.flushes → Sat W0 w' H' (diskL ⟨b, 0, none⟩ d' ++ F) → R (.returned (.tuple #[v', .bool true])) w') :
    Calls Try.prog 67 #[.pointer (some ⟨b, 0, none⟩), v, .agg (op.vals dv).toArray] w R := by
  have s0 := s.front (mk := diskL) (k := ⟨b, 0, none⟩)
  obtain ⟨E, ec, rfl, rd⟩ := rd.open_
  have hdb := rd.bytes
  have hfa := d.hfault
  obtain ⟨B, N, c, rfl, hN, rdb⟩ := rf.open_
  replace hN := aside hN
  obtain ⟨lk, hlk⟩ : ∃ y, d.locked = y := ⟨_, rfl⟩
  obtain ⟨f, hff⟩ : ∃ y, d.fault = y := ⟨_, rfl⟩
  obtain ⟨q, hqf⟩ : ∃ y, d.reqs = y := ⟨_, rfl⟩
  obtain ⟨fl, hflf⟩ : ∃ y, d.flushes = y := ⟨_, rfl⟩
  rw [hlk, hff, hqf, hflf] at rf ⊢
  rw [hff] at hfa
  obtain ⟨kind, at', n, data, hkk, ha, hn⟩ := op
  simp only [OpD.vals, OpD.small] at *
  have s3 := ((s0.alloc (c := [.slice B N c, .bool lk, .int .u64 f, .int .u64 q, .int .u64 fl]) (t := 51)).alloc (c := [.int .i64 kind, .int .u64 at', .int .i64 n, .slice E data.length ec]) (t := 71)).alloc (c := [.slice none 0 0, .bool false, .int .u64 0, .int .u64 0, .int .u64 0]) (t := 51)
  simp only [World.size_alloc] at s3
  obtain ⟨X, hX⟩ : ∃ X, w.heap.size = X := ⟨_, rfl⟩
  rw [hX] at s3
  have hdl : (data.length : Int) ≤ 512 := by omega
  subst hk
  have p0 := s3.cel X 0 0 rfl
  have p1 := s3.cel X 0 1 rfl
  have p2 := s3.cel X 0 2 rfl
  have p3 := s3.cel X 0 3 rfl
  have p4 := s3.cel X 0 4 rfl
  simp only [Nat.zero_add] at p0 p1 p2 p3 p4
  have y0 := s3.cel (X + 1) 0 0 rfl
  have y1 := s3.cel (X + 1) 0 1 rfl
  have y2 := s3.cel (X + 1) 0 2 rfl
  have y3 := s3.cel (X + 1) 0 3 rfl
  simp only [Nat.zero_add] at y0 y1 y2 y3
  clear s s0 fr hsm hC
  go_enter Try.func67, Try.ntmps67
  go_wp2_with fail
  refine c_diskFail s3 at' ha ?_
  intro w4 s4
  have p0 := s4.cel X 0 0 rfl
  have p1 := s4.cel X 0 1 rfl
  have p2 := s4.cel X 0 2 rfl
  have p3 := s4.cel X 0 3 rfl
  have p4 := s4.cel X 0 4 rfl
  simp only [Nat.zero_add] at p0 p1 p2 p3 p4
  have y0 := s4.cel (X + 1) 0 0 rfl
  have y1 := s4.cel (X + 1) 0 1 rfl
  have y2 := s4.cel (X + 1) 0 2 rfl
  have y3 := s4.cel (X + 1) 0 3 rfl
  simp only [Nat.zero_add] at y0 y1 y2 y3
  have s5 := (Sat.pull (h := cellsH ⟨X, 0, none⟩ [.slice B N c, .bool lk, .int .u64 f, .int .u64 q, .int .u64 fl]) s4).s 2 (by simp) (.int .u64 at')
  simp only [List.set_cons_succ, List.set_cons_zero, Nat.zero_add] at s5
  have s7q0 := s5.cel (X + 1 + 1) 0 0 rfl
  have s7t0 := (Sat.pull (h := cellsH ⟨(X + 1 + 1), 0, none⟩ [.slice none 0 0, .bool false, .int .u64 0, .int .u64 0, .int .u64 0]) s5).s0 (.slice B N c)
  have s7q1 := s7t0.c 1 rfl
  have s7t1 := s7t0.s 1 (by simp) (.bool lk)
  have s7q2 := s7t1.c 2 rfl
  have s7t2 := s7t1.s 2 (by simp) (.int .u64 at')
  have s7q3 := s7t2.c 3 rfl
  have s7t3 := s7t2.s 3 (by simp) (.int .u64 q)
  have s7q4 := s7t3.c 4 rfl
  have s7 := s7t3.s 4 (by simp) (.int .u64 fl)
  simp only [List.set_cons_succ, List.set_cons_zero, Nat.zero_add] at s7 s7q0 s7q1 s7q2 s7q3 s7q4
  have f0 := s7.c 0 rfl
  have f1 := s7.c 1 rfl
  have f2 := s7.c 2 rfl
  have f3 := s7.c 3 rfl
  have f4 := s7.c 4 rfl
  simp only [Nat.zero_add] at f0 f1 f2 f3 f4
  have K := k _ H (.agg #[.slice B N c, .bool lk, .int .u64 at', .int .u64 q, .int .u64 fl]) (d.failing at' ha) (fun _ _ h => h) ⟨rfl, rfl⟩ (by
    show RefD H _ C d.mem d.locked at' d.reqs d.flushes
    rw [hlk, hqf, hflf]
    exact ⟨_, rfl, by rw [← hN.out]; exact rdb⟩) s7.wk
  clear s3 s4 s5 s7 k
  go_wp2
  refine bodyPost_ret (by simp [results, Try.results67, go_sem, f0.1, f1.1, f2.1, f3.1, f4.1]; try rfl) rfl ?_
  exact K
end
end Go.Proofs.Ytohccblfnjampaa
