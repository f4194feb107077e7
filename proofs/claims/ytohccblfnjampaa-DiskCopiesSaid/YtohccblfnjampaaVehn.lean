/-
  DISK's laws: one call at both (vireolaw13.do): any other.
-/
import Derived.Test.YtohccblfnjampaaVeg

namespace Go.Proofs.Ytohccblfnjampaa
open Go.RowKit
set_option linter.unusedVariables false

section
variable {R : Ending → World → Prop} {W0 w : World} {H : Hp} {A F : List Hp} {b : Nat} {d : DiskG} {v : Value} {C : Nat}

set_option maxRecDepth 100000 in
set_option maxHeartbeats 4000000 in
theorem c_lawDDoN (s : Sat W0 w H A) [fr : FrK (κ := Addr) (ρ := fun _ => DiskG) diskL ⟨b, 0, none⟩ A d F] (rf : RefD H v C d.mem d.locked d.fault d.reqs d.flushes) (hC : (C : Int) = d.count) (hC2 : C ≤ 64) (op : OpD) (hsm : op.small) {dv : Value} (rd : Rd u8E 1 H dv op.data) (hk0 : op.kind ≠ 0) (hk1 : op.kind ≠ 1) (hk2 : op.kind ≠ 2) (hk3 : op.kind ≠ 3) (hk4 : op.kind ≠ 4)
    (k : ∀ w' H' v' d', (∀ l c, H l = some c → H' l = some c) → DiskG.Kin d d' → RefD H' v' C d'.mem d'.locked d'.fault d'.reqs d'.flushes → Sat W0 w' H' (diskL ⟨b, 0, none⟩ d' ++ F) → R (.returned (.tuple #[v', .bool true])) w') :
    Calls Try.prog 67 #[.pointer (some ⟨b, 0, none⟩), v, .agg (op.vals dv).toArray] w R := by
  have s0 := s.front (mk := diskL) (k := ⟨b, 0, none⟩)
  obtain ⟨E, ec, rfl, rd⟩ := rd.open_
  have hdb := rd.bytes
  have hfa := d.hfault
  obtain ⟨B, N, c, rfl, hN, rdb⟩ := rf.open_
  replace hN := aside hN
  obtain ⟨lk, hlk⟩ : ∃ y, d.locked = y := ⟨_, rfl⟩
  obtain ⟨f, hff⟩ : ∃ y, d.fault = y := ⟨_, rfl⟩
  obtain ⟨q, hqf⟩ : ∃ y, d.reqs = y := ⟨_, rfl⟩
  obtain ⟨fl, hflf⟩ : ∃ y, d.flushes = y := ⟨_, rfl⟩
  rw [hlk, hff, hqf, hflf] at rf ⊢
  rw [hff] at hfa
  obtain ⟨kind, at', n, data, hkk, ha, hn⟩ := op
  simp only [OpD.vals, OpD.small] at *
  have s3 := ((s0.alloc (c := [.slice B N c, .bool lk, .int .u64 f, .int .u64 q, .int .u64 fl]) (t := 51)).alloc (c := [.int .i64 kind, .int .u64 at', .int .i64 n, .slice E data.length ec]) (t := 71)).alloc (c := [.slice none 0 0, .bool false, .int .u64 0, .int .u64 0, .int .u64 0]) (t := 51)
  simp only [World.size_alloc] at s3
  obtain ⟨X, hX⟩ : ∃ X, w.heap.size = X := ⟨_, rfl⟩
  rw [hX] at s3
  have hdl : (data.length : Int) ≤ 512 := by omega
  have s8 := ((s0.alloc (c := [.slice B N c, .bool lk, .int .u64 f, .int .u64 q, .int .u64 fl]) (t := 51)).alloc (c := [.int .i64 kind, .int .u64 at', .int .i64 n, .slice E data.length ec]) (t := 71)).alloc (c := [.slice B N c, .bool lk, .int .u64 f, .int .u64 q, .int .u64 fl]) (t := 51)
  simp only [World.size_alloc] at s8
  rw [hX] at s8
  have e0 : (kind == 0) = false := by simp [hk0]
  have e1 : (kind == 1) = false := by simp [hk1]
  have e2 : (kind == 2) = false := by simp [hk2]
  have e3 : (kind == 3) = false := by simp [hk3]
  have e4 : (kind == 4) = false := by simp [hk4]
  have y0 := s3.cel (X + 1) 0 0 rfl
  have y1 := s3.cel (X + 1) 0 1 rfl
  have y2 := s3.cel (X + 1) 0 2 rfl
  have y3 := s3.cel (X + 1) 0 3 rfl
  simp only [Nat.zero_add] at y0 y1 y2 y3
  have f0 := s8.c 0 rfl
  have f1 := s8.c 1 rfl
  have f2 := s8.c 2 rfl
  have f3 := s8.c 3 rfl
  have f4 := s8.c 4 rfl
  simp only [Nat.zero_add] at f0 f1 f2 f3 f4
  have K := k _ H _ d (fun _ _ h => h) ⟨rfl, rfl⟩ (by rw [hlk, hff, hqf, hflf]; exact rf) s8.wk
  clear s8 s3 s s0 fr k hsm hk0 hk1 hk2 hk3 hk4 hC
  go_enter Try.func67, Try.ntmps67
  go_wp2
  refine bodyPost_ret (by simp [results, Try.results67, go_sem, f0.1, f1.1, f2.1, f3.1, f4.1]; try rfl) rfl ?_
  exact K
end
end Go.Proofs.Ytohccblfnjampaa
