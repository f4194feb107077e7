/-
  DISK's laws: one call at both (vireolaw13.do): Fill.
-/
import Derived.Test.YtohccblfnjampaaVeg

namespace Go.Proofs.Ytohccblfnjampaa
open Go.RowKit
set_option linter.unusedVariables false

section
variable {R : Ending → World → Prop} {W0 w : World} {H : Hp} {A F : List Hp} {b : Nat} {d : DiskG} {v : Value} {C : Nat}

set_option maxRecDepth 100000 in
set_option maxHeartbeats 4000000 in
theorem c_lawDDo4 (s : Sat W0 w H A) [fr : FrK (κ := Addr) (ρ := fun _ => DiskG) diskL ⟨b, 0, none⟩ A d F] (rf : RefD H v C d.mem d.locked d.fault d.reqs d.flushes) (hC : (C : Int) = d.count) (hC2 : C ≤ 64) (op : OpD) (hsm : op.small) {dv : Value} (rd : Rd u8E 1 H dv op.data) (hk : op.kind = 4)
    (k : ∀ w' H' v' d', (∀ l c, H l = some c → H' l = some c) → DiskG.Kin d d' → RefD H' v' C d'.mem d'.locked d'.fault d'.reqs d'.flushes → Sat W0 w' H' (diskL ⟨b, 0, none⟩ d' ++ F) → R (.returned (.tuple #[v', .bool true])) w') :
    Calls Try.prog 67 #[.pointer (some ⟨b, 0, none⟩), v, .agg (op.vals dv).toArray] w R := by
  have s0 := s.front (mk := diskL) (k := ⟨b, 0, none⟩)
  obtain ⟨E, ec, rfl, rd⟩ := rd.open_
  have hdb := rd.bytes
  have hfa := d.hfault
  obtain ⟨B, N, c, rfl, hN, rdb⟩ := rf.open_
  replace hN := aside hN
  obtain ⟨lk, hlk⟩ : ∃ y, d.locked = y := ⟨_, rfl⟩
  obtain ⟨f, hff⟩ : ∃ y, d.fault = y := ⟨_, rfl⟩
  obtain ⟨q, hqf⟩ : ∃ y, d.reqs = y := ⟨_, rfl⟩
  obtain ⟨fl, hflf⟩ : ∃ y, d.flushes = y := ⟨_, rfl⟩
  rw [hlk, hff, hqf, hflf] at rf ⊢
  rw [hff] at hfa
  obtain ⟨kind, at', n, data, hkk, ha, hn⟩ := op
  simp only [OpD.vals, OpD.small] at *
  have s3 := ((s0.alloc (c := [.slice B N c, .bool lk, .int .u64 f, .int .u64 q, .int .u64 fl]) (t := 51)).alloc (c := [.int .i64 kind, .int .u64 at', .int .i64 n, .slice E data.length ec]) (t := 71)).alloc (c := [.slice none 0 0, .bool false, .int .u64 0, .int .u64 0, .int .u64 0]) (t := 51)
  simp only [World.size_alloc] at s3
  obtain ⟨X, hX⟩ : ∃ X, w.heap.size = X := ⟨_, rfl⟩
  rw [hX] at s3
  have hdl : (data.length : Int) ≤ 512 := by omega
  subst hk
  have p0 := s3.cel X 0 0 rfl
  have p1 := s3.cel X 0 1 rfl
  have p2 := s3.cel X 0 2 rfl
  have p3 := s3.cel X 0 3 rfl
  have p4 := s3.cel X 0 4 rfl
  simp only [Nat.zero_add] at p0 p1 p2 p3 p4
  have y0 := s3.cel (X + 1) 0 0 rfl
  have y1 := s3.cel (X + 1) 0 1 rfl
  have y2 := s3.cel (X + 1) 0 2 rfl
  have y3 := s3.cel (X + 1) 0 3 rfl
  simp only [Nat.zero_add] at y0 y1 y2 y3
  have hm := aside (show n.toNat * data.length ≤ 4096 by
    obtain ⟨h1, h2, h3, h4⟩ := hsm
    obtain ⟨N0, rfl⟩ := Int.eq_ofNat_of_zero_le h1
    rw [Int.toNat_natCast]; rw [← Int.natCast_mul] at h4; omega)
  have hn2 := aside (show 0 ≤ n ∧ n ≤ 2048 from ⟨hsm.1, hsm.2.1⟩)
  have hob := overL_bd hdb n.toNat
  obtain ⟨OV, hOV⟩ : ∃ y, overL data n.toNat = y := ⟨_, rfl⟩
  have hOl := aside (show OV.length ≤ 4096 by rw [← hOV, overL_len]; exact hm.out)
  rw [hOV] at hob
  replace hOV := aside hOV
  clear s s0 fr hsm
  go_enter Try.func67, Try.ntmps67
  go_wp2_with fail
  refine c_over s3 4 at' n hn2.out rd hm.out ?_
  intro w4 v4 h4 own4 s4
  rw [hOV.out] at own4
  have s4f := s4.freeze
  have rd4 := (own4.rd hob).mono u8E_mono (Sat.frozenD s4)
  obtain ⟨O4, oc4, e4, rd4⟩ := rd4.open_
  subst e4
  go_wp2_with fail
  refine c_diskFill s4f rd4 (by have := hOl.out; omega) ?_
  intro w5 d5 lk5 hm5 s5
  have rf5 := rf.mono (un_leftD (h := h4))
  clear s3 p0 p1 p2 p3 p4 y0 y1 y2 y3 s4 s4f own4
  go_wp2
  have s5d := s5.drew
  have f5 := And.intro ((s5d.cel X 0 0 rfl).1) (And.intro ((s5d.cel X 0 1 rfl).1) (And.intro ((s5d.cel X 0 2 rfl).1) (And.intro ((s5d.cel X 0 3 rfl).1) (And.intro ((s5d.cel X 0 4 rfl).1) (And.intro ((s5d.cel (X + 1) 0 0 rfl).1) (And.intro ((s5d.cel (X + 1) 0 1 rfl).1) (And.intro ((s5d.cel (X + 1) 0 2 rfl).1) ((s5d.cel (X + 1) 0 3 rfl).1))))))))
  simp only [Nat.zero_add] at f5
  have hopl := aside hOl.out
  go_region_held3 (fun w' => w'.cell? ⟨X, 0, none⟩ = some (.slice B N c) ∧ w'.cell? ⟨X, 1, none⟩ = some (.bool lk) ∧ w'.cell? ⟨X, 2, none⟩ = some (.int .u64 f) ∧ w'.cell? ⟨X, 3, none⟩ = some (.int .u64 q) ∧ w'.cell? ⟨X, 4, none⟩ = some (.int .u64 fl) ∧ w'.cell? ⟨X + 1, 0, none⟩ = some (.int .i64 4) ∧ w'.cell? ⟨X + 1, 1, none⟩ = some (.int .u64 at') ∧ w'.cell? ⟨X + 1, 2, none⟩ = some (.int .i64 n) ∧ w'.cell? ⟨X + 1, 3, none⟩ = some (.slice E data.length ec))
    (first
      | with_reducible exact f5
      | with_reducible exact f9
      | with_reducible exact f8
      | with_reducible exact f7)
    (first
      | (go_at_call 106; have hs := s7f; refine c_refFillD s7f (rf5.mono (un_leftD (h := h7))) (by omega) rd7 (by have := hOl.out; omega) ?_; intro w8 H8 B8 N8 c8 le8 rf8 s8
         have f8 := And.intro ((s8.cel X 0 0 rfl).1) (And.intro ((s8.cel X 0 1 rfl).1) (And.intro ((s8.cel X 0 2 rfl).1) (And.intro ((s8.cel X 0 3 rfl).1) (And.intro ((s8.cel X 0 4 rfl).1) (And.intro ((s8.cel (X + 1) 0 0 rfl).1) (And.intro ((s8.cel (X + 1) 0 1 rfl).1) (And.intro ((s8.cel (X + 1) 0 2 rfl).1) ((s8.cel (X + 1) 0 3 rfl).1))))))))
         simp only [Nat.zero_add] at f8
         have s9q0 := s8.cel (X + 1 + 1) 0 0 rfl
         have s9t0 := (Sat.pull (h := cellsH ⟨(X + 1 + 1), 0, none⟩ [.slice none 0 0, .bool false, .int .u64 0, .int .u64 0, .int .u64 0]) s8).s0 (.slice B8 N8 c8)
         have s9q1 := s9t0.c 1 rfl
         have s9t1 := s9t0.s 1 (by simp) (.bool lk)
         have s9q2 := s9t1.c 2 rfl
         have s9t2 := s9t1.s 2 (by simp) (.int .u64 f)
         have s9q3 := s9t2.c 3 rfl
         have s9t3 := s9t2.s 3 (by simp) (.int .u64 q)
         have s9q4 := s9t3.c 4 rfl
         have s9 := s9t3.s 4 (by simp) (.int .u64 fl)
         simp only [List.set_cons_succ, List.set_cons_zero, Nat.zero_add] at s9 s9q0 s9q1 s9q2 s9q3 s9q4
         have f9 := And.intro ((s9.cel X 0 0 rfl).1) (And.intro ((s9.cel X 0 1 rfl).1) (And.intro ((s9.cel X 0 2 rfl).1) (And.intro ((s9.cel X 0 3 rfl).1) (And.intro ((s9.cel X 0 4 rfl).1) (And.intro ((s9.cel (X + 1) 0 0 rfl).1) (And.intro ((s9.cel (X + 1) 0 1 rfl).1) (And.intro ((s9.cel (X + 1) 0 2 rfl).1) ((s9.cel (X + 1) 0 3 rfl).1))))))))
         simp only [Nat.zero_add] at f9
         have arm : True := trivial)
      | (go_at_call 41; refine c_over s5d 4 at' n hn2.out (rd.mono u8E_mono (un_leftD (h := h4))) hm.out ?_; intro w7 v7 h7 own7 s7
         rw [hOV.out] at own7
         have s7f := s7.freeze
         have rd7 := (own7.rd hob).mono u8E_mono (Sat.frozenD s7)
         obtain ⟨O7, oc7, e7, rd7⟩ := rd7.open_
         subst e7
         have f7 := And.intro ((s7f.cel X 0 0 rfl).1) (And.intro ((s7f.cel X 0 1 rfl).1) (And.intro ((s7f.cel X 0 2 rfl).1) (And.intro ((s7f.cel X 0 3 rfl).1) (And.intro ((s7f.cel X 0 4 rfl).1) (And.intro ((s7f.cel (X + 1) 0 0 rfl).1) (And.intro ((s7f.cel (X + 1) 0 1 rfl).1) (And.intro ((s7f.cel (X + 1) 0 2 rfl).1) ((s7f.cel (X + 1) 0 3 rfl).1))))))))
         simp only [Nat.zero_add] at f7
         have arm : True := trivial))
  all_goals
    have f0 := s9.c 0 rfl
    have f1 := s9.c 1 rfl
    have f2 := s9.c 2 rfl
    have f3 := s9.c 3 rfl
    have f4 := s9.c 4 rfl
    simp only [Nat.zero_add] at f0 f1 f2 f3 f4
    go_wp2
    refine bodyPost_ret (by simp [results, Try.results67, go_sem, f0.1, f1.1, f2.1, f3.1, f4.1]; try rfl) rfl ?_
    exact k _ H8 _ d5 (fun l c h => le8 l c (un_leftD l c (un_leftD l c h))) ⟨lk5.count, lk5.locked⟩ (by
      rw [lk5.locked, lk5.fault, lk5.reqs, lk5.flushes, hlk, hff, hqf, hflf]
      exact rf8.same (fun x hx => hm5 x (by rw [← hC]; exact hx))) s9.wk
end
end Go.Proofs.Ytohccblfnjampaa
