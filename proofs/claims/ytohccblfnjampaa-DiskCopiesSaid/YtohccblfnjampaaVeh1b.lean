/-
  DISK's laws: one call at both (vireolaw13.do): Write, refused.
-/
import Derived.Test.YtohccblfnjampaaVeg

namespace Go.Proofs.Ytohccblfnjampaa
open Go.RowKit
set_option linter.unusedVariables false

section
variable {R : Ending → World → Prop} {W0 w : World} {H : Hp} {A F : List Hp} {b : Nat} {d : DiskG} {v : Value} {C : Nat}

set_option maxRecDepth 100000 in
set_option maxHeartbeats 4000000 in
theorem c_lawDDo1b (s : Sat W0 w H A) [fr : FrK (κ := Addr) (ρ := fun _ => DiskG) diskL ⟨b, 0, none⟩ A d F] (rf : RefD H v C d.mem d.locked d.fault d.reqs d.flushes) (hC : (C : Int) = d.count) (hC2 : C ≤ 64) (op : OpD) (hsm : op.small) {dv : Value} (rd : Rd u8E 1 H dv op.data) (hk : op.kind = 1) (hw : wrD C d.locked d.fault op.at' (overL op.data op.n.toNat).length ≠ 0)
    (k : ∀ w' H' v' d', (∀ l c, H l = some c → H' l = some c) → DiskG.Kin d d' → RefD H' v' C d'.mem d'.locked d'.fault d'.reqs d'.flushes → Sat W0 w' H' (diskL ⟨b, 0, none⟩ d' ++ F) → R (.returned (.tuple #[v', .bool true])) w') :
    Calls Try.prog 67 #[.pointer (some ⟨b, 0, none⟩), v, .agg (op.vals dv).toArray] w R := by
  have s0 := s.front (mk := diskL) (k := ⟨b, 0, none⟩)
  obtain ⟨E, ec, rfl, rd⟩ := rd.open_
  have hdb := rd.bytes
  have hfa := d.hfault
  obtain ⟨B, N, c, rfl, hN, rdb⟩ := rf.open_
  replace hN := aside hN
  obtain ⟨lk, hlk⟩ : ∃ y, d.locked = y := ⟨_, rfl⟩
  obtain ⟨f, hff⟩ : ∃ y, d.fault = y := ⟨_, rfl⟩
  obtain ⟨q, hqf⟩ : ∃ y, d.reqs = y := ⟨_, rfl⟩
  obtain ⟨fl, hflf⟩ : ∃ y, d.flushes = y := ⟨_, rfl⟩
  rw [hlk, hff, hqf, hflf] at rf ⊢
  have hcode : wrC d op.at' (overL op.data op.n.toNat).length = wrD C lk f op.at' (overL op.data op.n.toNat).length := by unfold wrC wrD; rw [hlk, hff, hC]
  rw [hlk, hff] at hw
  rw [hff] at hfa
  obtain ⟨kind, at', n, data, hkk, ha, hn⟩ := op
  simp only [OpD.vals, OpD.small] at *
  have s3 := ((s0.alloc (c := [.slice B N c, .bool lk, .int .u64 f, .int .u64 q, .int .u64 fl]) (t := 51)).alloc (c := [.int .i64 kind, .int .u64 at', .int .i64 n, .slice E data.length ec]) (t := 71)).alloc (c := [.slice none 0 0, .bool false, .int .u64 0, .int .u64 0, .int .u64 0]) (t := 51)
  simp only [World.size_alloc] at s3
  obtain ⟨X, hX⟩ : ∃ X, w.heap.size = X := ⟨_, rfl⟩
  rw [hX] at s3
  have hdl : (data.length : Int) ≤ 512 := by omega
  subst hk
  have p0 := s3.cel X 0 0 rfl
  have p1 := s3.cel X 0 1 rfl
  have p2 := s3.cel X 0 2 rfl
  have p3 := s3.cel X 0 3 rfl
  have p4 := s3.cel X 0 4 rfl
  simp only [Nat.zero_add] at p0 p1 p2 p3 p4
  have y0 := s3.cel (X + 1) 0 0 rfl
  have y1 := s3.cel (X + 1) 0 1 rfl
  have y2 := s3.cel (X + 1) 0 2 rfl
  have y3 := s3.cel (X + 1) 0 3 rfl
  simp only [Nat.zero_add] at y0 y1 y2 y3
  have hm := aside (show n.toNat * data.length ≤ 4096 by
    obtain ⟨h1, h2, h3, h4⟩ := hsm
    obtain ⟨N0, rfl⟩ := Int.eq_ofNat_of_zero_le h1
    rw [Int.toNat_natCast]; rw [← Int.natCast_mul] at h4; omega)
  have hn2 := aside (show 0 ≤ n ∧ n ≤ 2048 from ⟨hsm.1, hsm.2.1⟩)
  have hob := overL_bd hdb n.toNat
  have hOl0 : (overL data n.toNat).length ≤ 4096 := by rw [overL_len]; exact hm.out
  obtain ⟨OV, hOV⟩ : ∃ y, overL data n.toNat = y := ⟨_, rfl⟩
  rw [hOV] at hob hcode hw hOl0
  have hOl := aside hOl0
  replace hOV := aside hOV
  obtain ⟨g, hg⟩ : ∃ y, nextF f = y := ⟨_, rfl⟩
  obtain ⟨qq, hqq⟩ : ∃ y, upQ q = y := ⟨_, rfl⟩
  obtain ⟨cd, hcd⟩ : ∃ y, wrD C lk f at' OV.length = y := ⟨_, rfl⟩
  have ecd : (cd == cd) = true := by simp
  have hwc : wrC d at' OV.length ≠ 0 := by rw [hcode]; exact hw
  rw [hcd] at hcode
  replace hcd := aside hcd
  replace hwc := aside hwc
  replace hw := aside hw
  replace hcode := aside hcode
  replace hg := aside hg
  replace hqq := aside hqq
  have hfaA := aside hfa
  have haA := aside ha
  have s3a := s3.alloc (c := [.slice none 0 0, .bool false, .int .u64 0, .int .u64 0, .int .u64 0]) (t := 51)
  simp only [World.size_alloc, hX] at s3a
  clear s s0 fr hsm hOl0
  go_enter Try.func67, Try.ntmps67
  go_wp2
  have s3d := s3.drew
  have s3e := s3a.drew
  have s3f := s3d.alloc (c := [.slice none 0 0, .bool false, .int .u64 0, .int .u64 0, .int .u64 0]) (t := 51)
  simp only [World.size_alloc, show ∀ w : World, w.drew.heap = w.heap from fun _ => rfl, hX] at s3f
  have f3d := And.intro ((s3d.cel X 0 0 rfl).1) (And.intro ((s3d.cel X 0 1 rfl).1) (And.intro ((s3d.cel X 0 2 rfl).1) (And.intro ((s3d.cel X 0 3 rfl).1) (And.intro ((s3d.cel X 0 4 rfl).1) (And.intro ((s3d.cel (X + 1) 0 0 rfl).1) (And.intro ((s3d.cel (X + 1) 0 1 rfl).1) (And.intro ((s3d.cel (X + 1) 0 2 rfl).1) ((s3d.cel (X + 1) 0 3 rfl).1))))))))
  simp only [Nat.zero_add] at f3d
  have f3e := And.intro ((s3e.cel X 0 0 rfl).1) (And.intro ((s3e.cel X 0 1 rfl).1) (And.intro ((s3e.cel X 0 2 rfl).1) (And.intro ((s3e.cel X 0 3 rfl).1) (And.intro ((s3e.cel X 0 4 rfl).1) (And.intro ((s3e.cel (X + 1) 0 0 rfl).1) (And.intro ((s3e.cel (X + 1) 0 1 rfl).1) (And.intro ((s3e.cel (X + 1) 0 2 rfl).1) ((s3e.cel (X + 1) 0 3 rfl).1))))))))
  simp only [Nat.zero_add] at f3e
  have f3f := And.intro ((s3f.cel X 0 0 rfl).1) (And.intro ((s3f.cel X 0 1 rfl).1) (And.intro ((s3f.cel X 0 2 rfl).1) (And.intro ((s3f.cel X 0 3 rfl).1) (And.intro ((s3f.cel X 0 4 rfl).1) (And.intro ((s3f.cel (X + 1) 0 0 rfl).1) (And.intro ((s3f.cel (X + 1) 0 1 rfl).1) (And.intro ((s3f.cel (X + 1) 0 2 rfl).1) ((s3f.cel (X + 1) 0 3 rfl).1))))))))
  simp only [Nat.zero_add] at f3f
  clear p0 p1 p2 p3 p4 y0 y1 y2 y3
  go_region_held3 (fun w' => w'.cell? ⟨X, 0, none⟩ = some (.slice B N c) ∧ w'.cell? ⟨X, 1, none⟩ = some (.bool lk) ∧ w'.cell? ⟨X, 2, none⟩ = some (.int .u64 f) ∧ w'.cell? ⟨X, 3, none⟩ = some (.int .u64 q) ∧ w'.cell? ⟨X, 4, none⟩ = some (.int .u64 fl) ∧ w'.cell? ⟨X + 1, 0, none⟩ = some (.int .i64 1) ∧ w'.cell? ⟨X + 1, 1, none⟩ = some (.int .u64 at') ∧ w'.cell? ⟨X + 1, 2, none⟩ = some (.int .i64 n) ∧ w'.cell? ⟨X + 1, 3, none⟩ = some (.slice E data.length ec))
    (first
      | with_reducible exact f3d
      | with_reducible exact f10
      | with_reducible exact f8a
      | with_reducible exact f8
      | with_reducible exact f7a
      | with_reducible exact f7
      | with_reducible exact f3e
      | with_reducible exact f3f)
    (first
      | (go_at_call 103; have hs := s7a; with_reducible (refine c_refWriteD s7a (rf.mono (un_leftD (h := h7))) (by omega) hfaA.out at' haA.out rd7 (by have := hOl.out; omega) ?_ (fun h => absurd h hw.out)); intro _ w8 B8 N8 c8 rf8 s8; rw [hg.out, hqq.out, hcd.out]; rw [hg.out, hqq.out] at rf8; obtain ⟨Q, hQ⟩ : ∃ Q, w7.heap.size = Q := ⟨_, rfl⟩; rw [hQ] at s8
         have f8 := And.intro ((s8.cel X 0 0 rfl).1) (And.intro ((s8.cel X 0 1 rfl).1) (And.intro ((s8.cel X 0 2 rfl).1) (And.intro ((s8.cel X 0 3 rfl).1) (And.intro ((s8.cel X 0 4 rfl).1) (And.intro ((s8.cel (X + 1) 0 0 rfl).1) (And.intro ((s8.cel (X + 1) 0 1 rfl).1) (And.intro ((s8.cel (X + 1) 0 2 rfl).1) ((s8.cel (X + 1) 0 3 rfl).1))))))))
         simp only [Nat.zero_add] at f8
         have s10q0 := s8.cel Q 0 0 rfl
         have s10t0 := (Sat.pull (h := cellsH ⟨Q, 0, none⟩ [.slice none 0 0, .bool false, .int .u64 0, .int .u64 0, .int .u64 0]) s8).s0 (.slice B8 N8 c8)
         have s10q1 := s10t0.c 1 rfl
         have s10t1 := s10t0.s 1 (by simp) (.bool lk)
         have s10q2 := s10t1.c 2 rfl
         have s10t2 := s10t1.s 2 (by simp) (.int .u64 g)
         have s10q3 := s10t2.c 3 rfl
         have s10t3 := s10t2.s 3 (by simp) (.int .u64 qq)
         have s10q4 := s10t3.c 4 rfl
         have s10 := s10t3.s 4 (by simp) (.int .u64 fl)
         simp only [List.set_cons_succ, List.set_cons_zero, Nat.zero_add] at s10 s10q0 s10q1 s10q2 s10q3 s10q4
         have f10 := And.intro ((s10.cel X 0 0 rfl).1) (And.intro ((s10.cel X 0 1 rfl).1) (And.intro ((s10.cel X 0 2 rfl).1) (And.intro ((s10.cel X 0 3 rfl).1) (And.intro ((s10.cel X 0 4 rfl).1) (And.intro ((s10.cel (X + 1) 0 0 rfl).1) (And.intro ((s10.cel (X + 1) 0 1 rfl).1) (And.intro ((s10.cel (X + 1) 0 2 rfl).1) ((s10.cel (X + 1) 0 3 rfl).1))))))))
         simp only [Nat.zero_add] at f10
         have armC : True := trivial)
      | (go_at_call 103; have hs := s7f; with_reducible (refine c_refWriteD s7f (rf.mono (un_leftD (h := h7))) (by omega) hfaA.out at' haA.out rd7 (by have := hOl.out; omega) ?_ (fun h => absurd h hw.out)); intro _ w8 B8 N8 c8 rf8 s8; rw [hg.out, hqq.out, hcd.out]; rw [hg.out, hqq.out] at rf8
         have f8 := And.intro ((s8.cel X 0 0 rfl).1) (And.intro ((s8.cel X 0 1 rfl).1) (And.intro ((s8.cel X 0 2 rfl).1) (And.intro ((s8.cel X 0 3 rfl).1) (And.intro ((s8.cel X 0 4 rfl).1) (And.intro ((s8.cel (X + 1) 0 0 rfl).1) (And.intro ((s8.cel (X + 1) 0 1 rfl).1) (And.intro ((s8.cel (X + 1) 0 2 rfl).1) ((s8.cel (X + 1) 0 3 rfl).1))))))))
         simp only [Nat.zero_add] at f8
         have s10q0 := s8.cel (X + 1 + 1 + 1) 0 0 rfl
         have s10t0 := (Sat.pull (h := cellsH ⟨(X + 1 + 1 + 1), 0, none⟩ [.slice none 0 0, .bool false, .int .u64 0, .int .u64 0, .int .u64 0]) s8).s0 (.slice B8 N8 c8)
         have s10q1 := s10t0.c 1 rfl
         have s10t1 := s10t0.s 1 (by simp) (.bool lk)
         have s10q2 := s10t1.c 2 rfl
         have s10t2 := s10t1.s 2 (by simp) (.int .u64 g)
         have s10q3 := s10t2.c 3 rfl
         have s10t3 := s10t2.s 3 (by simp) (.int .u64 qq)
         have s10q4 := s10t3.c 4 rfl
         have s10 := s10t3.s 4 (by simp) (.int .u64 fl)
         simp only [List.set_cons_succ, List.set_cons_zero, Nat.zero_add] at s10 s10q0 s10q1 s10q2 s10q3 s10q4
         have f10 := And.intro ((s10.cel X 0 0 rfl).1) (And.intro ((s10.cel X 0 1 rfl).1) (And.intro ((s10.cel X 0 2 rfl).1) (And.intro ((s10.cel X 0 3 rfl).1) (And.intro ((s10.cel X 0 4 rfl).1) (And.intro ((s10.cel (X + 1) 0 0 rfl).1) (And.intro ((s10.cel (X + 1) 0 1 rfl).1) (And.intro ((s10.cel (X + 1) 0 2 rfl).1) ((s10.cel (X + 1) 0 3 rfl).1))))))))
         simp only [Nat.zero_add] at f10
         have armB : True := trivial)
      | (go_at_call 103; have hs := s7f; with_reducible (refine c_refWriteD s7f (rf.mono (un_leftD (h := h7))) (by omega) hfaA.out at' haA.out rd7 (by have := hOl.out; omega) ?_ (fun h => absurd h hw.out)); intro _ w8 B8 N8 c8 rf8 s8; rw [hg.out, hqq.out, hcd.out]; rw [hg.out, hqq.out] at rf8
         have f8 := And.intro ((s8.cel X 0 0 rfl).1) (And.intro ((s8.cel X 0 1 rfl).1) (And.intro ((s8.cel X 0 2 rfl).1) (And.intro ((s8.cel X 0 3 rfl).1) (And.intro ((s8.cel X 0 4 rfl).1) (And.intro ((s8.cel (X + 1) 0 0 rfl).1) (And.intro ((s8.cel (X + 1) 0 1 rfl).1) (And.intro ((s8.cel (X + 1) 0 2 rfl).1) ((s8.cel (X + 1) 0 3 rfl).1))))))))
         simp only [Nat.zero_add] at f8
         have s8a := s8.alloc (c := [.slice none 0 0, .bool false, .int .u64 0, .int .u64 0, .int .u64 0]) (t := 51)
         have f8a := And.intro ((s8a.cel X 0 0 rfl).1) (And.intro ((s8a.cel X 0 1 rfl).1) (And.intro ((s8a.cel X 0 2 rfl).1) (And.intro ((s8a.cel X 0 3 rfl).1) (And.intro ((s8a.cel X 0 4 rfl).1) (And.intro ((s8a.cel (X + 1) 0 0 rfl).1) (And.intro ((s8a.cel (X + 1) 0 1 rfl).1) (And.intro ((s8a.cel (X + 1) 0 2 rfl).1) ((s8a.cel (X + 1) 0 3 rfl).1))))))))
         simp only [Nat.zero_add] at f8a
         have s10 := s8.alloc (c := [.slice B8 N8 c8, .bool lk, .int .u64 g, .int .u64 qq, .int .u64 fl]) (t := 51)
         have f10 := And.intro ((s10.cel X 0 0 rfl).1) (And.intro ((s10.cel X 0 1 rfl).1) (And.intro ((s10.cel X 0 2 rfl).1) (And.intro ((s10.cel X 0 3 rfl).1) (And.intro ((s10.cel X 0 4 rfl).1) (And.intro ((s10.cel (X + 1) 0 0 rfl).1) (And.intro ((s10.cel (X + 1) 0 1 rfl).1) (And.intro ((s10.cel (X + 1) 0 2 rfl).1) ((s10.cel (X + 1) 0 3 rfl).1))))))))
         simp only [Nat.zero_add] at f10
         have armA : True := trivial)
      | (go_at_call 41; with_reducible (refine c_over s3d 1 at' n hn2.out rd hm.out ?_); intro w7 v7 h7 own7 s7
         rw [hOV.out] at own7
         have s7f := s7.freeze
         have rd7 := (own7.rd hob).mono u8E_mono (Sat.frozenD s7)
         obtain ⟨O7, oc7, e7, rd7⟩ := rd7.open_
         subst e7
         have f7 := And.intro ((s7f.cel X 0 0 rfl).1) (And.intro ((s7f.cel X 0 1 rfl).1) (And.intro ((s7f.cel X 0 2 rfl).1) (And.intro ((s7f.cel X 0 3 rfl).1) (And.intro ((s7f.cel X 0 4 rfl).1) (And.intro ((s7f.cel (X + 1) 0 0 rfl).1) (And.intro ((s7f.cel (X + 1) 0 1 rfl).1) (And.intro ((s7f.cel (X + 1) 0 2 rfl).1) ((s7f.cel (X + 1) 0 3 rfl).1))))))))
         simp only [Nat.zero_add] at f7
         have s7a := s7f.alloc (c := [.slice none 0 0, .bool false, .int .u64 0, .int .u64 0, .int .u64 0]) (t := 51)
         have f7a := And.intro ((s7a.cel X 0 0 rfl).1) (And.intro ((s7a.cel X 0 1 rfl).1) (And.intro ((s7a.cel X 0 2 rfl).1) (And.intro ((s7a.cel X 0 3 rfl).1) (And.intro ((s7a.cel X 0 4 rfl).1) (And.intro ((s7a.cel (X + 1) 0 0 rfl).1) (And.intro ((s7a.cel (X + 1) 0 1 rfl).1) (And.intro ((s7a.cel (X + 1) 0 2 rfl).1) ((s7a.cel (X + 1) 0 3 rfl).1))))))))
         simp only [Nat.zero_add] at f7a
         have arm : True := trivial)
      | (go_at_call 41; with_reducible (refine c_over s3e 1 at' n hn2.out rd hm.out ?_); intro w7 v7 h7 own7 s7
         rw [hOV.out] at own7
         have s7f := s7.freeze
         have rd7 := (own7.rd hob).mono u8E_mono (Sat.frozenD s7)
         obtain ⟨O7, oc7, e7, rd7⟩ := rd7.open_
         subst e7
         have f7 := And.intro ((s7f.cel X 0 0 rfl).1) (And.intro ((s7f.cel X 0 1 rfl).1) (And.intro ((s7f.cel X 0 2 rfl).1) (And.intro ((s7f.cel X 0 3 rfl).1) (And.intro ((s7f.cel X 0 4 rfl).1) (And.intro ((s7f.cel (X + 1) 0 0 rfl).1) (And.intro ((s7f.cel (X + 1) 0 1 rfl).1) (And.intro ((s7f.cel (X + 1) 0 2 rfl).1) ((s7f.cel (X + 1) 0 3 rfl).1))))))))
         simp only [Nat.zero_add] at f7
         have arm : True := trivial)
      | (go_at_call 41; with_reducible (refine c_over s3f 1 at' n hn2.out rd hm.out ?_); intro w7 v7 h7 own7 s7
         rw [hOV.out] at own7
         have s7f := s7.freeze
         have rd7 := (own7.rd hob).mono u8E_mono (Sat.frozenD s7)
         obtain ⟨O7, oc7, e7, rd7⟩ := rd7.open_
         subst e7
         have f7 := And.intro ((s7f.cel X 0 0 rfl).1) (And.intro ((s7f.cel X 0 1 rfl).1) (And.intro ((s7f.cel X 0 2 rfl).1) (And.intro ((s7f.cel X 0 3 rfl).1) (And.intro ((s7f.cel X 0 4 rfl).1) (And.intro ((s7f.cel (X + 1) 0 0 rfl).1) (And.intro ((s7f.cel (X + 1) 0 1 rfl).1) (And.intro ((s7f.cel (X + 1) 0 2 rfl).1) ((s7f.cel (X + 1) 0 3 rfl).1))))))))
         simp only [Nat.zero_add] at f7
         have arm : True := trivial))
  · obtain ⟨Y, hY⟩ : ∃ Y, w8.heap.size = Y := ⟨_, rfl⟩
    rw [hY] at s10
    try simp only [hY]
    generalize hW : World.alloc w8 _ = w10 at s10 ⊢
    clear hW
    have rf8' := rf8
    have s10d := s10.drew
    have f10d := And.intro ((s10d.cel Y 0 0 rfl).1) (And.intro ((s10d.cel Y 0 1 rfl).1) (And.intro ((s10d.cel Y 0 2 rfl).1) (And.intro ((s10d.cel Y 0 3 rfl).1) (And.intro ((s10d.cel Y 0 4 rfl).1) (And.intro ((s10d.cel (X + 1) 0 0 rfl).1) (And.intro ((s10d.cel (X + 1) 0 1 rfl).1) (And.intro ((s10d.cel (X + 1) 0 2 rfl).1) ((s10d.cel (X + 1) 0 3 rfl).1))))))))
    simp only [Nat.zero_add] at f10d
    clear s3 s3a s3d s3e s3f s7 s8
    have hleH : ∀ l c, H l = some c → (un H h7) l = some c := un_leftD
    go_wp2
    go_region_held3 (fun w' => w'.cell? ⟨Y, 0, none⟩ = some (.slice B8 N8 c8) ∧ w'.cell? ⟨Y, 1, none⟩ = some (.bool lk) ∧ w'.cell? ⟨Y, 2, none⟩ = some (.int .u64 g) ∧ w'.cell? ⟨Y, 3, none⟩ = some (.int .u64 qq) ∧ w'.cell? ⟨Y, 4, none⟩ = some (.int .u64 fl) ∧ w'.cell? ⟨X + 1, 0, none⟩ = some (.int .i64 1) ∧ w'.cell? ⟨X + 1, 1, none⟩ = some (.int .u64 at') ∧ w'.cell? ⟨X + 1, 2, none⟩ = some (.int .i64 n) ∧ w'.cell? ⟨X + 1, 3, none⟩ = some (.slice E data.length ec))
      (first
        | with_reducible exact f10d
        | with_reducible exact f13
        | with_reducible exact f12
        | with_reducible exact f11)
      (first
        | (go_at_call 42; have hs := s11f; refine c_diskWriteBad s11f at' haA.out rd11 hwc.out ?_; intro w12 s12; rw [hcode.out]
           have f12 := And.intro ((s12.cel Y 0 0 rfl).1) (And.intro ((s12.cel Y 0 1 rfl).1) (And.intro ((s12.cel Y 0 2 rfl).1) (And.intro ((s12.cel Y 0 3 rfl).1) (And.intro ((s12.cel Y 0 4 rfl).1) (And.intro ((s12.cel (X + 1) 0 0 rfl).1) (And.intro ((s12.cel (X + 1) 0 1 rfl).1) (And.intro ((s12.cel (X + 1) 0 2 rfl).1) ((s12.cel (X + 1) 0 3 rfl).1))))))))
           simp only [Nat.zero_add] at f12
           have s13q0 := s12.cel (X + 1 + 1) 0 0 rfl
           have s13t0 := (Sat.pull (h := cellsH ⟨(X + 1 + 1), 0, none⟩ [.slice none 0 0, .bool false, .int .u64 0, .int .u64 0, .int .u64 0]) s12).s0 (.slice B8 N8 c8)
           have s13q1 := s13t0.c 1 rfl
           have s13t1 := s13t0.s 1 (by simp) (.bool lk)
           have s13q2 := s13t1.c 2 rfl
           have s13t2 := s13t1.s 2 (by simp) (.int .u64 g)
           have s13q3 := s13t2.c 3 rfl
           have s13t3 := s13t2.s 3 (by simp) (.int .u64 qq)
           have s13q4 := s13t3.c 4 rfl
           have s13 := s13t3.s 4 (by simp) (.int .u64 fl)
           simp only [List.set_cons_succ, List.set_cons_zero, Nat.zero_add] at s13 s13q0 s13q1 s13q2 s13q3 s13q4
           have f13 := And.intro ((s13.cel Y 0 0 rfl).1) (And.intro ((s13.cel Y 0 1 rfl).1) (And.intro ((s13.cel Y 0 2 rfl).1) (And.intro ((s13.cel Y 0 3 rfl).1) (And.intro ((s13.cel Y 0 4 rfl).1) (And.intro ((s13.cel (X + 1) 0 0 rfl).1) (And.intro ((s13.cel (X + 1) 0 1 rfl).1) (And.intro ((s13.cel (X + 1) 0 2 rfl).1) ((s13.cel (X + 1) 0 3 rfl).1))))))))
           simp only [Nat.zero_add] at f13
           have arm : True := trivial)
        | (go_at_call 41; refine c_over s10d 1 at' n hn2.out (rd.mono u8E_mono hleH) hm.out ?_; intro w11 v11 h11 own11 s11
           rw [hOV.out] at own11
           have s11f := s11.freeze
           have rd11 := (own11.rd hob).mono u8E_mono (Sat.frozenD s11)
           obtain ⟨O11, oc11, e11, rd11⟩ := rd11.open_
           subst e11
           have f11 := And.intro ((s11f.cel Y 0 0 rfl).1) (And.intro ((s11f.cel Y 0 1 rfl).1) (And.intro ((s11f.cel Y 0 2 rfl).1) (And.intro ((s11f.cel Y 0 3 rfl).1) (And.intro ((s11f.cel Y 0 4 rfl).1) (And.intro ((s11f.cel (X + 1) 0 0 rfl).1) (And.intro ((s11f.cel (X + 1) 0 1 rfl).1) (And.intro ((s11f.cel (X + 1) 0 2 rfl).1) ((s11f.cel (X + 1) 0 3 rfl).1))))))))
           simp only [Nat.zero_add] at f11
           have arm : True := trivial))
    all_goals
      have f0 := s13.c 0 rfl
      have f1 := s13.c 1 rfl
      have f2 := s13.c 2 rfl
      have f3 := s13.c 3 rfl
      have f4 := s13.c 4 rfl
      simp only [Nat.zero_add] at f0 f1 f2 f3 f4
      go_wp2
      refine bodyPost_ret (by simp [results, Try.results67, go_sem, f0.1, f1.1, f2.1, f3.1, f4.1]; try rfl) rfl ?_
      exact k _ _ _ d.asked (fun l c h => un_leftD l c (hleH l c h)) ⟨rfl, rfl⟩ (by
        show RefD _ _ C d.mem d.locked (nextF d.fault) (upQ d.reqs) d.flushes
        rw [hlk, hff, hqf, hflf, hg.out, hqq.out]; exact rf8'.mono un_leftD) s13.wk
  · skip
    generalize hW : World.setCell (World.setCell (World.setCell (World.setCell (World.setCell w8 _ _) _ _) _ _) _ _) _ _ = w10 at s10 ⊢
    clear hW
    have rf8' := rf8
    have s10d := s10.drew
    have f10d := And.intro ((s10d.cel Q 0 0 rfl).1) (And.intro ((s10d.cel Q 0 1 rfl).1) (And.intro ((s10d.cel Q 0 2 rfl).1) (And.intro ((s10d.cel Q 0 3 rfl).1) (And.intro ((s10d.cel Q 0 4 rfl).1) (And.intro ((s10d.cel (X + 1) 0 0 rfl).1) (And.intro ((s10d.cel (X + 1) 0 1 rfl).1) (And.intro ((s10d.cel (X + 1) 0 2 rfl).1) ((s10d.cel (X + 1) 0 3 rfl).1))))))))
    simp only [Nat.zero_add] at f10d
    clear s3 s3a s3d s3e s3f s7 s8
    have hleH : ∀ l c, H l = some c → (un H h7) l = some c := un_leftD
    go_wp2
    go_region_held3 (fun w' => w'.cell? ⟨Q, 0, none⟩ = some (.slice B8 N8 c8) ∧ w'.cell? ⟨Q, 1, none⟩ = some (.bool lk) ∧ w'.cell? ⟨Q, 2, none⟩ = some (.int .u64 g) ∧ w'.cell? ⟨Q, 3, none⟩ = some (.int .u64 qq) ∧ w'.cell? ⟨Q, 4, none⟩ = some (.int .u64 fl) ∧ w'.cell? ⟨X + 1, 0, none⟩ = some (.int .i64 1) ∧ w'.cell? ⟨X + 1, 1, none⟩ = some (.int .u64 at') ∧ w'.cell? ⟨X + 1, 2, none⟩ = some (.int .i64 n) ∧ w'.cell? ⟨X + 1, 3, none⟩ = some (.slice E data.length ec))
      (first
        | with_reducible exact f10d
        | with_reducible exact f13
        | with_reducible exact f12
        | with_reducible exact f11)
      (first
        | (go_at_call 42; have hs := s11f; refine c_diskWriteBad s11f at' haA.out rd11 hwc.out ?_; intro w12 s12; rw [hcode.out]
           have f12 := And.intro ((s12.cel Q 0 0 rfl).1) (And.intro ((s12.cel Q 0 1 rfl).1) (And.intro ((s12.cel Q 0 2 rfl).1) (And.intro ((s12.cel Q 0 3 rfl).1) (And.intro ((s12.cel Q 0 4 rfl).1) (And.intro ((s12.cel (X + 1) 0 0 rfl).1) (And.intro ((s12.cel (X + 1) 0 1 rfl).1) (And.intro ((s12.cel (X + 1) 0 2 rfl).1) ((s12.cel (X + 1) 0 3 rfl).1))))))))
           simp only [Nat.zero_add] at f12
           have s13q0 := s12.cel (X + 1 + 1) 0 0 rfl
           have s13t0 := (Sat.pull (h := cellsH ⟨(X + 1 + 1), 0, none⟩ [.slice none 0 0, .bool false, .int .u64 0, .int .u64 0, .int .u64 0]) s12).s0 (.slice B8 N8 c8)
           have s13q1 := s13t0.c 1 rfl
           have s13t1 := s13t0.s 1 (by simp) (.bool lk)
           have s13q2 := s13t1.c 2 rfl
           have s13t2 := s13t1.s 2 (by simp) (.int .u64 g)
           have s13q3 := s13t2.c 3 rfl
           have s13t3 := s13t2.s 3 (by simp) (.int .u64 qq)
           have s13q4 := s13t3.c 4 rfl
           have s13 := s13t3.s 4 (by simp) (.int .u64 fl)
           simp only [List.set_cons_succ, List.set_cons_zero, Nat.zero_add] at s13 s13q0 s13q1 s13q2 s13q3 s13q4
           have f13 := And.intro ((s13.cel Q 0 0 rfl).1) (And.intro ((s13.cel Q 0 1 rfl).1) (And.intro ((s13.cel Q 0 2 rfl).1) (And.intro ((s13.cel Q 0 3 rfl).1) (And.intro ((s13.cel Q 0 4 rfl).1) (And.intro ((s13.cel (X + 1) 0 0 rfl).1) (And.intro ((s13.cel (X + 1) 0 1 rfl).1) (And.intro ((s13.cel (X + 1) 0 2 rfl).1) ((s13.cel (X + 1) 0 3 rfl).1))))))))
           simp only [Nat.zero_add] at f13
           have arm : True := trivial)
        | (go_at_call 41; refine c_over s10d 1 at' n hn2.out (rd.mono u8E_mono hleH) hm.out ?_; intro w11 v11 h11 own11 s11
           rw [hOV.out] at own11
           have s11f := s11.freeze
           have rd11 := (own11.rd hob).mono u8E_mono (Sat.frozenD s11)
           obtain ⟨O11, oc11, e11, rd11⟩ := rd11.open_
           subst e11
           have f11 := And.intro ((s11f.cel Q 0 0 rfl).1) (And.intro ((s11f.cel Q 0 1 rfl).1) (And.intro ((s11f.cel Q 0 2 rfl).1) (And.intro ((s11f.cel Q 0 3 rfl).1) (And.intro ((s11f.cel Q 0 4 rfl).1) (And.intro ((s11f.cel (X + 1) 0 0 rfl).1) (And.intro ((s11f.cel (X + 1) 0 1 rfl).1) (And.intro ((s11f.cel (X + 1) 0 2 rfl).1) ((s11f.cel (X + 1) 0 3 rfl).1))))))))
           simp only [Nat.zero_add] at f11
           have arm : True := trivial))
    all_goals
      have f0 := s13.c 0 rfl
      have f1 := s13.c 1 rfl
      have f2 := s13.c 2 rfl
      have f3 := s13.c 3 rfl
      have f4 := s13.c 4 rfl
      simp only [Nat.zero_add] at f0 f1 f2 f3 f4
      go_wp2
      refine bodyPost_ret (by simp [results, Try.results67, go_sem, f0.1, f1.1, f2.1, f3.1, f4.1]; try rfl) rfl ?_
      exact k _ _ _ d.asked (fun l c h => un_leftD l c (hleH l c h)) ⟨rfl, rfl⟩ (by
        show RefD _ _ C d.mem d.locked (nextF d.fault) (upQ d.reqs) d.flushes
        rw [hlk, hff, hqf, hflf, hg.out, hqq.out]; exact rf8'.mono un_leftD) s13.wk
  · skip
    generalize hW : World.setCell (World.setCell (World.setCell (World.setCell (World.setCell w8 _ _) _ _) _ _) _ _) _ _ = w10 at s10 ⊢
    clear hW
    have rf8' := rf8
    have s10d := s10.drew
    have f10d := And.intro ((s10d.cel (X + 1 + 1 + 1) 0 0 rfl).1) (And.intro ((s10d.cel (X + 1 + 1 + 1) 0 1 rfl).1) (And.intro ((s10d.cel (X + 1 + 1 + 1) 0 2 rfl).1) (And.intro ((s10d.cel (X + 1 + 1 + 1) 0 3 rfl).1) (And.intro ((s10d.cel (X + 1 + 1 + 1) 0 4 rfl).1) (And.intro ((s10d.cel (X + 1) 0 0 rfl).1) (And.intro ((s10d.cel (X + 1) 0 1 rfl).1) (And.intro ((s10d.cel (X + 1) 0 2 rfl).1) ((s10d.cel (X + 1) 0 3 rfl).1))))))))
    simp only [Nat.zero_add] at f10d
    clear s3 s3a s3d s3e s3f s7 s8
    have hleH : ∀ l c, H l = some c → (un H h7) l = some c := un_leftD
    go_wp2
    go_region_held3 (fun w' => w'.cell? ⟨X + 1 + 1 + 1, 0, none⟩ = some (.slice B8 N8 c8) ∧ w'.cell? ⟨X + 1 + 1 + 1, 1, none⟩ = some (.bool lk) ∧ w'.cell? ⟨X + 1 + 1 + 1, 2, none⟩ = some (.int .u64 g) ∧ w'.cell? ⟨X + 1 + 1 + 1, 3, none⟩ = some (.int .u64 qq) ∧ w'.cell? ⟨X + 1 + 1 + 1, 4, none⟩ = some (.int .u64 fl) ∧ w'.cell? ⟨X + 1, 0, none⟩ = some (.int .i64 1) ∧ w'.cell? ⟨X + 1, 1, none⟩ = some (.int .u64 at') ∧ w'.cell? ⟨X + 1, 2, none⟩ = some (.int .i64 n) ∧ w'.cell? ⟨X + 1, 3, none⟩ = some (.slice E data.length ec))
      (first
        | with_reducible exact f10d
        | with_reducible exact f13
        | with_reducible exact f12
        | with_reducible exact f11)
      (first
        | (go_at_call 42; have hs := s11f; refine c_diskWriteBad s11f at' haA.out rd11 hwc.out ?_; intro w12 s12; rw [hcode.out]
           have f12 := And.intro ((s12.cel (X + 1 + 1 + 1) 0 0 rfl).1) (And.intro ((s12.cel (X + 1 + 1 + 1) 0 1 rfl).1) (And.intro ((s12.cel (X + 1 + 1 + 1) 0 2 rfl).1) (And.intro ((s12.cel (X + 1 + 1 + 1) 0 3 rfl).1) (And.intro ((s12.cel (X + 1 + 1 + 1) 0 4 rfl).1) (And.intro ((s12.cel (X + 1) 0 0 rfl).1) (And.intro ((s12.cel (X + 1) 0 1 rfl).1) (And.intro ((s12.cel (X + 1) 0 2 rfl).1) ((s12.cel (X + 1) 0 3 rfl).1))))))))
           simp only [Nat.zero_add] at f12
           have s13q0 := s12.cel (X + 1 + 1) 0 0 rfl
           have s13t0 := (Sat.pull (h := cellsH ⟨(X + 1 + 1), 0, none⟩ [.slice none 0 0, .bool false, .int .u64 0, .int .u64 0, .int .u64 0]) s12).s0 (.slice B8 N8 c8)
           have s13q1 := s13t0.c 1 rfl
           have s13t1 := s13t0.s 1 (by simp) (.bool lk)
           have s13q2 := s13t1.c 2 rfl
           have s13t2 := s13t1.s 2 (by simp) (.int .u64 g)
           have s13q3 := s13t2.c 3 rfl
           have s13t3 := s13t2.s 3 (by simp) (.int .u64 qq)
           have s13q4 := s13t3.c 4 rfl
           have s13 := s13t3.s 4 (by simp) (.int .u64 fl)
           simp only [List.set_cons_succ, List.set_cons_zero, Nat.zero_add] at s13 s13q0 s13q1 s13q2 s13q3 s13q4
           have f13 := And.intro ((s13.cel (X + 1 + 1 + 1) 0 0 rfl).1) (And.intro ((s13.cel (X + 1 + 1 + 1) 0 1 rfl).1) (And.intro ((s13.cel (X + 1 + 1 + 1) 0 2 rfl).1) (And.intro ((s13.cel (X + 1 + 1 + 1) 0 3 rfl).1) (And.intro ((s13.cel (X + 1 + 1 + 1) 0 4 rfl).1) (And.intro ((s13.cel (X + 1) 0 0 rfl).1) (And.intro ((s13.cel (X + 1) 0 1 rfl).1) (And.intro ((s13.cel (X + 1) 0 2 rfl).1) ((s13.cel (X + 1) 0 3 rfl).1))))))))
           simp only [Nat.zero_add] at f13
           have arm : True := trivial)
        | (go_at_call 41; refine c_over s10d 1 at' n hn2.out (rd.mono u8E_mono hleH) hm.out ?_; intro w11 v11 h11 own11 s11
           rw [hOV.out] at own11
           have s11f := s11.freeze
           have rd11 := (own11.rd hob).mono u8E_mono (Sat.frozenD s11)
           obtain ⟨O11, oc11, e11, rd11⟩ := rd11.open_
           subst e11
           have f11 := And.intro ((s11f.cel (X + 1 + 1 + 1) 0 0 rfl).1) (And.intro ((s11f.cel (X + 1 + 1 + 1) 0 1 rfl).1) (And.intro ((s11f.cel (X + 1 + 1 + 1) 0 2 rfl).1) (And.intro ((s11f.cel (X + 1 + 1 + 1) 0 3 rfl).1) (And.intro ((s11f.cel (X + 1 + 1 + 1) 0 4 rfl).1) (And.intro ((s11f.cel (X + 1) 0 0 rfl).1) (And.intro ((s11f.cel (X + 1) 0 1 rfl).1) (And.intro ((s11f.cel (X + 1) 0 2 rfl).1) ((s11f.cel (X + 1) 0 3 rfl).1))))))))
           simp only [Nat.zero_add] at f11
           have arm : True := trivial))
    all_goals
      have f0 := s13.c 0 rfl
      have f1 := s13.c 1 rfl
      have f2 := s13.c 2 rfl
      have f3 := s13.c 3 rfl
      have f4 := s13.c 4 rfl
      simp only [Nat.zero_add] at f0 f1 f2 f3 f4
      go_wp2
      refine bodyPost_ret (by simp [results, Try.results67, go_sem, f0.1, f1.1, f2.1, f3.1, f4.1]; try rfl) rfl ?_
      exact k _ _ _ d.asked (fun l c h => un_leftD l c (hleH l c h)) ⟨rfl, rfl⟩ (by
        show RefD _ _ C d.mem d.locked (nextF d.fault) (upQ d.reqs) d.flushes
        rw [hlk, hff, hqf, hflf, hg.out, hqq.out]; exact rf8'.mono un_leftD) s13.wk
end
end Go.Proofs.Ytohccblfnjampaa
