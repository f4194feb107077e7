/-
  VMMIO: the law's Same: registers alike.
-/
import Derived.Test.YtiibiamobkhlbaaUMc
import Derived.Test.YtiibiamobkhlbaaG7
import Derived.Deep.RegionHeld3
import Derived.BigQuiet
import Derived.Test.YtiibiamobkhlbaaUOq
import Derived.Test.YtiibiamobkhlbaaUOl
import Derived.Laws.StructEq
set_option linter.unusedVariables false
set_option linter.unusedSimpArgs false
namespace Go.Proofs.Ytiibiamobkhlbaa
open Go.RowKit
set_option linter.unusedVariables false
set_option linter.unusedSimpArgs false

section
variable {R : Ending → World → Prop} {W0 w : World} {H : Hp} {A F : List Hp}

set_option maxRecDepth 100000 in
set_option maxHeartbeats 4000000 in
theorem c_regSame (s : Sat W0 w H A) {rb : Nat} {p : RegP} [fr : FrK (κ := Nat) (ρ := fun _ => RegP) regL rb A p F] {v : Value} (rf : RefR H v p.g) (k : ∀ w', Sat W0 w' H (regL rb p ++ F) → R (.returned (.bool true)) w') :
    Calls Try.prog 113 #[.pointer (some ⟨rb, 0, none⟩), v] w R := by
  have s0 := s.front (mk := regL) (k := rb)
  obtain ⟨g, qb, cq, spv, sph, own, hcq⟩ := p
  obtain ⟨Q, qc, S, sn, sc, rfl, rdq, rds⟩ := rf
  obtain ⟨SA, SC, rfl, hsp1, hsp2⟩ := own.shp
  have rdp := aside (own.rd g.hsp)
  obtain ⟨_, hqc, hqc2, gq⟩ := rdq.qu
  obtain ⟨id, off, agr, ds, rs, qsl, bits, pend, gen, qs, sp, hid, hoff, hagr, hds, hrs, hqsl, hbits, hpend, hgen, hsp⟩ := g
  simp only [regL, RegM.vals, RegM.dvals] at *
  have s1 : Sat W0 _ H (cellsH ⟨w.heap.size, 0, none⟩ [.int .u32 id, .int .u32 ds, .int .u32 rs, .int .u32 qsl, .int .u32 bits, .int .u32 pend, .int .u32 gen, .int .u64 off, .int .u64 agr, .slice Q qs.length qc, .slice S sn sc] :: cellsH ⟨rb, 0, none⟩ [.int .u32 id, .int .u64 off, .int .u64 agr, .int .u32 ds, .int .u32 rs, .int .u32 qsl, .slice (some ⟨qb, 0, none⟩) qs.length cq, .int .u32 bits, .int .u32 pend, .int .u32 gen, .slice SA sp.length SC] :: sph :: (qsH qb 0 qs ++ F)) := s0.alloc (t := 123)
  obtain ⟨Z, hZ⟩ : ∃ Z, w.heap.size = Z := ⟨_, rfl⟩
  rw [hZ] at s1
  obtain ⟨N, hN⟩ : ∃ N, qs.length = N := ⟨_, rfl⟩
  have hcq1 : qs.length ≤ cq := hcq.1
  have hcq3 : cq ≤ 9223372036854775807 := hcq.2
  clear fr
  rw [hN] at s1 hqc hcq1 ⊢
  have z0 := s1.cel Z 0 0 rfl
  have z1 := s1.cel Z 0 1 rfl
  have z2 := s1.cel Z 0 2 rfl
  have z3 := s1.cel Z 0 3 rfl
  have z4 := s1.cel Z 0 4 rfl
  have z5 := s1.cel Z 0 5 rfl
  have z6 := s1.cel Z 0 6 rfl
  have z7 := s1.cel Z 0 7 rfl
  have z8 := s1.cel Z 0 8 rfl
  have z9 := s1.cel Z 0 9 rfl
  have z10 := s1.cel Z 0 10 rfl
  simp only [Nat.zero_add] at z0 z1 z2 z3 z4 z5 z6 z7 z8 z9 z10
  have g0 := s1.cel rb 0 0 rfl
  have g1 := s1.cel rb 0 1 rfl
  have g2 := s1.cel rb 0 2 rfl
  have g3 := s1.cel rb 0 3 rfl
  have g4 := s1.cel rb 0 4 rfl
  have g5 := s1.cel rb 0 5 rfl
  have g6 := s1.cel rb 0 6 rfl
  have g7 := s1.cel rb 0 7 rfl
  have g8 := s1.cel rb 0 8 rfl
  have g9 := s1.cel rb 0 9 rfl
  have g10 := s1.cel rb 0 10 rfl
  simp only [Nat.zero_add] at g0 g1 g2 g3 g4 g5 g6 g7 g8 g9 g10
  have hdec : decide (sp = sp) = true := decide_eq_true rfl
  replace k := aside k
  have hN9 : (N : Int) ≤ 9223372036854775807 := by omega
  clear s s0 own rdq hsp1 hsp2 hcq
  clear hid hoff hagr hds hrs hqsl hbits hpend hgen
  replace hN := aside hN
  replace gq := aside gq
  replace rds := aside rds
  replace hqc := aside hqc
  replace hcq1 := aside hcq1
  replace hcq3 := aside hcq3
  go_enter Try.func113, Try.ntmps113
  go_wp2
  refine wp_region_quiet_lit (by kernel_rfl) (lexB_fast (by kernel_rfl) (by kernel_rfl) (by kernel_rfl)) ?_
  repeat (go_big_quiet_step ((go_at_call 104; exact Calls.quiet_of (v := .bool true) (c_Bytes (h1 := sph) (h2 := H) (Sat.pull (h := sph) (s1.drewN _)).head (s1.drewN _).ro rdp.out rds.out (fun n => ⟨by simp, n, rfl⟩)))))
  refine wpQuiet_nil ?_
  intro _ hwq
  obtain ⟨nq, hwq2⟩ := hwq
  subst hwq2
  have s2 := s1.drewN nq
  generalize World.drewN _ nq = w2 at s2 ⊢
  clear s1 z0 z1 z2 z3 z4 z5 z6 z7 z8 z9 z10 g0 g1 g2 g3 g4 g5 g6 g7 g8 g9 g10
  go_wp2
  go_loopg [5] N (fun p v5 w' => ∃ i : Nat, p + i = N ∧ v5 = .int .i64 i ∧ Sat W0 w' H (cellsH ⟨Z, 0, none⟩ [.int .u32 id, .int .u32 ds, .int .u32 rs, .int .u32 qsl, .int .u32 bits, .int .u32 pend, .int .u32 gen, .int .u64 off, .int .u64 agr, .slice Q N qc, .slice S sn sc] :: cellsH ⟨rb, 0, none⟩ [.int .u32 id, .int .u64 off, .int .u64 agr, .int .u32 ds, .int .u32 rs, .int .u32 qsl, .slice (some ⟨qb, 0, none⟩) N cq, .int .u32 bits, .int .u32 pend, .int .u32 gen, .slice SA sp.length SC] :: sph :: (qsH qb 0 qs ++ F)))
  case atStart => exact ⟨0, by omega, rfl, s2⟩
  clear s2
  case round =>
    obtain ⟨i, hp, rfl, t⟩ := hrel
    have g6 := t.cel rb 0 6 rfl
    simp only [Nat.zero_add] at g6
    by_cases hi : i < N
    · have hi2 : (i : Int) < N := by omega
      have i1 : (0 : Int) ≤ i ∧ (i : Int) < N := by omega
      obtain ⟨q, hq⟩ : ∃ q, qs[i]? = some q := ⟨_, List.getElem?_eq_getElem (by have := hN.out; omega)⟩
      obtain ⟨b', o', rfl, hc⟩ := gq.out i q hq
      have hm := qsH_mem (qb := qb) (o := 0) hq
      have hF : ∀ w', Sat W0 w' H (cellsH ⟨Z, 0, none⟩ [.int .u32 id, .int .u32 ds, .int .u32 rs, .int .u32 qsl, .int .u32 bits, .int .u32 pend, .int .u32 gen, .int .u64 off, .int .u64 agr, .slice (some ⟨b', o', none⟩) N qc, .slice S sn sc] :: cellsH ⟨rb, 0, none⟩ [.int .u32 id, .int .u64 off, .int .u64 agr, .int .u32 ds, .int .u32 rs, .int .u32 qsl, .slice (some ⟨qb, 0, none⟩) N cq, .int .u32 bits, .int .u32 pend, .int .u32 gen, .slice SA sp.length SC] :: sph :: (qsH qb 0 qs ++ F)) → (w'.cell? ⟨rb, 6, none⟩ = some (.slice (some ⟨qb, 0, none⟩) N cq) ∧ w'.cell? ⟨Z, 9, none⟩ = some (.slice (some ⟨b', o', none⟩) N qc)) ∧ (w'.cell? ⟨qb, i * 9, none⟩ = some (.int .i64 q.n) ∧ w'.cell? ⟨qb, i * 9 + 1, none⟩ = some (.int .u64 q.d) ∧ w'.cell? ⟨qb, i * 9 + 2, none⟩ = some (.int .u64 q.a) ∧ w'.cell? ⟨qb, i * 9 + 3, none⟩ = some (.int .u64 q.u) ∧ w'.cell? ⟨qb, i * 9 + 4, none⟩ = some (.bool q.rdy) ∧ w'.cell? ⟨qb, i * 9 + 5, none⟩ = some (.int .u16 q.fet) ∧ w'.cell? ⟨qb, i * 9 + 6, none⟩ = some (.int .u16 q.us) ∧ w'.cell? ⟨qb, i * 9 + 7, none⟩ = some (.bool q.ev) ∧ w'.cell? ⟨qb, i * 9 + 8, none⟩ = some (.bool q.ind)) ∧ w'.cell? ⟨b', o' + i * 9, none⟩ = some (.int .i64 q.n) ∧ w'.cell? ⟨b', o' + i * 9 + 1, none⟩ = some (.int .u64 q.d) ∧ w'.cell? ⟨b', o' + i * 9 + 2, none⟩ = some (.int .u64 q.a) ∧ w'.cell? ⟨b', o' + i * 9 + 3, none⟩ = some (.int .u64 q.u) ∧ w'.cell? ⟨b', o' + i * 9 + 4, none⟩ = some (.bool q.rdy) ∧ w'.cell? ⟨b', o' + i * 9 + 5, none⟩ = some (.int .i64 q.fet) ∧ w'.cell? ⟨b', o' + i * 9 + 6, none⟩ = some (.int .i64 q.us) ∧ w'.cell? ⟨b', o' + i * 9 + 7, none⟩ = some (.bool q.ev) ∧ w'.cell? ⟨b', o' + i * 9 + 8, none⟩ = some (.bool q.ind) := fun w' t => by
        have hmm : cellsH ⟨qb, 0 + i * 9, none⟩ q.vals ∈ _ :=
          List.mem_cons_of_mem (cellsH ⟨Z, 0, none⟩ [.int .u32 id, .int .u32 ds, .int .u32 rs, .int .u32 qsl, .int .u32 bits, .int .u32 pend, .int .u32 gen, .int .u64 off, .int .u64 agr, .slice (some ⟨b', o', none⟩) N qc, .slice S sn sc]) (List.mem_cons_of_mem (cellsH ⟨rb, 0, none⟩ [.int .u32 id, .int .u64 off, .int .u64 agr, .int .u32 ds, .int .u32 rs, .int .u32 qsl, .slice (some ⟨qb, 0, none⟩) N cq, .int .u32 bits, .int .u32 pend, .int .u32 gen, .slice SA sp.length SC]) (List.mem_cons_of_mem sph (List.mem_append_left F hm)))
        have c := fun (j : Nat) (u : Value) (hu : q.vals[j]? = some u) => (t.cells hmm hu).1
        simp only [Nat.zero_add] at c
        have d := fun (j : Nat) (u : Value) (hu : ([.int .i64 q.n, .int .u64 q.d, .int .u64 q.a, .int .u64 q.u, .bool q.rdy, .int .i64 q.fet, .int .i64 q.us, .bool q.ev, .bool q.ind])[j]? = some u) => t.ro.cell (hc j u hu)
        exact ⟨⟨(t.cel rb 0 6 rfl).1, (t.cel Z 0 9 rfl).1⟩, ⟨c 0 _ rfl, c 1 _ rfl, c 2 _ rfl, c 3 _ rfl, c 4 _ rfl, c 5 _ rfl, c 6 _ rfl, c 7 _ rfl, c 8 _ rfl⟩, d 0 _ rfl, d 1 _ rfl, d 2 _ rfl, d 3 _ rfl, d 4 _ rfl, d 5 _ rfl, d 6 _ rfl, d 7 _ rfl, d 8 _ rfl⟩
      have td := t.drew
      have gd := hF _ td
      have hp2 := aside (show gk - 1 + (i + 1) = N ∧ gk - 1 < gk by omega)
      replace hF := aside hF
      replace hq := aside hq
      replace hm := aside hm
      replace hc := aside hc
      clear hp
      go_wp2
      refine wp_region_L [] (fun w' => (w'.cell? ⟨rb, 6, none⟩ = some (.slice (some ⟨qb, 0, none⟩) N cq) ∧ w'.cell? ⟨Z, 9, none⟩ = some (.slice (some ⟨b', o', none⟩) N qc)) ∧ (w'.cell? ⟨qb, i * 9, none⟩ = some (.int .i64 q.n) ∧ w'.cell? ⟨qb, i * 9 + 1, none⟩ = some (.int .u64 q.d) ∧ w'.cell? ⟨qb, i * 9 + 2, none⟩ = some (.int .u64 q.a) ∧ w'.cell? ⟨qb, i * 9 + 3, none⟩ = some (.int .u64 q.u) ∧ w'.cell? ⟨qb, i * 9 + 4, none⟩ = some (.bool q.rdy) ∧ w'.cell? ⟨qb, i * 9 + 5, none⟩ = some (.int .u16 q.fet) ∧ w'.cell? ⟨qb, i * 9 + 6, none⟩ = some (.int .u16 q.us) ∧ w'.cell? ⟨qb, i * 9 + 7, none⟩ = some (.bool q.ev) ∧ w'.cell? ⟨qb, i * 9 + 8, none⟩ = some (.bool q.ind)) ∧ w'.cell? ⟨b', o' + i * 9, none⟩ = some (.int .i64 q.n) ∧ w'.cell? ⟨b', o' + i * 9 + 1, none⟩ = some (.int .u64 q.d) ∧ w'.cell? ⟨b', o' + i * 9 + 2, none⟩ = some (.int .u64 q.a) ∧ w'.cell? ⟨b', o' + i * 9 + 3, none⟩ = some (.int .u64 q.u) ∧ w'.cell? ⟨b', o' + i * 9 + 4, none⟩ = some (.bool q.rdy) ∧ w'.cell? ⟨b', o' + i * 9 + 5, none⟩ = some (.int .i64 q.fet) ∧ w'.cell? ⟨b', o' + i * 9 + 6, none⟩ = some (.int .i64 q.us) ∧ w'.cell? ⟨b', o' + i * 9 + 7, none⟩ = some (.bool q.ev) ∧ w'.cell? ⟨b', o' + i * 9 + 8, none⟩ = some (.bool q.ind)) (by kernel_rfl) gd (fun hHeld => ?_)
      refine wpAnyL_pure (i := 0) (v := ?_) rfl (by kernel_rfl) (by kernel_rfl) (by kernel_rfl) (by kernel_rfl) (by rfl) (fun _ _ _ h => h) (Or.inl ⟨by rfl, ?_⟩) (fun _ => by assumption) ?_
      rotate_left
      · (intro w hSw; go_simp; try with_reducible rfl)
      try simp only [Act.put, List.getElem_toArray, List.getElem_cons_succ, List.getElem_cons_zero, List.setIfInBounds_toArray, List.set_cons_zero, List.set_cons_succ]
      refine wpAnyL_pure (i := 1) (v := ?_) rfl (by kernel_rfl) (by kernel_rfl) (by kernel_rfl) (by kernel_rfl) (by rfl) (fun _ _ _ h => h) (Or.inl ⟨by rfl, ?_⟩) (fun _ => by assumption) ?_
      rotate_left
      · (intro w hSw; go_simp; try with_reducible rfl)
      try simp only [Act.put, List.getElem_toArray, List.getElem_cons_succ, List.getElem_cons_zero, List.setIfInBounds_toArray, List.set_cons_zero, List.set_cons_succ]
      refine wpAnyL_pure (i := 2) (v := ?_) rfl (by kernel_rfl) (by kernel_rfl) (by kernel_rfl) (by kernel_rfl) (by rfl) (fun _ _ _ h => h) (Or.inl ⟨by rfl, ?_⟩) (fun _ => by assumption) ?_
      rotate_left
      · (intro w hSw; go_simp; try with_reducible rfl)
      try simp only [Act.put, List.getElem_toArray, List.getElem_cons_succ, List.getElem_cons_zero, List.setIfInBounds_toArray, List.set_cons_zero, List.set_cons_succ]
      refine wpAnyL_load (i := 3) (v := ?_) rfl (by kernel_rfl) (by kernel_rfl) (by kernel_rfl) (by kernel_rfl) (by rfl) (by kernel_rfl) (fun _ _ _ h => h) (by assumption) (Or.inl ⟨by rfl, ?_⟩) ?_
      rotate_left
      · (intro w hSw; (try dsimp only at hSw); go_simp; try with_reducible rfl)
      try simp only [Act.put, List.getElem_toArray, List.getElem_cons_succ, List.getElem_cons_zero, List.setIfInBounds_toArray, List.set_cons_zero, List.set_cons_succ]
      refine wpAnyL_pure (i := 4) (v := ?_) rfl (by kernel_rfl) (by kernel_rfl) (by kernel_rfl) (by kernel_rfl) (by rfl) (fun _ _ _ h => h) (Or.inl ⟨by rfl, ?_⟩) (fun _ => by assumption) ?_
      rotate_left
      · (intro w hSw; go_simp; try with_reducible rfl)
      try simp only [Act.put, List.getElem_toArray, List.getElem_cons_succ, List.getElem_cons_zero, List.setIfInBounds_toArray, List.set_cons_zero, List.set_cons_succ]
      refine wpAnyL_pure (i := 5) (v := ?_) rfl (by kernel_rfl) (by kernel_rfl) (by kernel_rfl) (by kernel_rfl) (by rfl) (fun _ _ _ h => h) (Or.inl ⟨by rfl, ?_⟩) (fun _ => by assumption) ?_
      rotate_left
      · (intro w hSw; go_simp; try with_reducible rfl)
      try simp only [Act.put, List.getElem_toArray, List.getElem_cons_succ, List.getElem_cons_zero, List.setIfInBounds_toArray, List.set_cons_zero, List.set_cons_succ]
      refine wpAnyL_load (i := 6) (v := ?_) rfl (by kernel_rfl) (by kernel_rfl) (by kernel_rfl) (by kernel_rfl) (by rfl) (by kernel_rfl) (fun _ _ _ h => h) (by assumption) (Or.inl ⟨by rfl, ?_⟩) ?_
      rotate_left
      · (intro w hSw; (try dsimp only at hSw); go_simp; try with_reducible rfl)
      try simp only [Act.put, List.getElem_toArray, List.getElem_cons_succ, List.getElem_cons_zero, List.setIfInBounds_toArray, List.set_cons_zero, List.set_cons_succ]
      refine wpAnyL_pure (i := 7) (v := ?_) rfl (by kernel_rfl) (by kernel_rfl) (by kernel_rfl) (by kernel_rfl) (by rfl) (fun _ _ _ h => h) (Or.inl ⟨by rfl, ?_⟩) (fun _ => by assumption) ?_
      rotate_left
      · (intro w hSw; go_simp; try with_reducible rfl)
      try simp only [Act.put, List.getElem_toArray, List.getElem_cons_succ, List.getElem_cons_zero, List.setIfInBounds_toArray, List.set_cons_zero, List.set_cons_succ]
      refine wpAnyL_load (i := 8) (v := ?_) rfl (by kernel_rfl) (by kernel_rfl) (by kernel_rfl) (by kernel_rfl) (by rfl) (by kernel_rfl) (fun _ _ _ h => h) (by assumption) (Or.inl ⟨by rfl, ?_⟩) ?_
      rotate_left
      · (intro w hSw; (try dsimp only at hSw); go_simp; try with_reducible rfl)
      try simp only [Act.put, List.getElem_toArray, List.getElem_cons_succ, List.getElem_cons_zero, List.setIfInBounds_toArray, List.set_cons_zero, List.set_cons_succ]
      refine wpAnyL_pure (i := 9) (v := ?_) rfl (by kernel_rfl) (by kernel_rfl) (by kernel_rfl) (by kernel_rfl) (by rfl) (fun _ _ _ h => h) (Or.inl ⟨by rfl, ?_⟩) (fun _ => by assumption) ?_
      rotate_left
      · (intro w hSw; go_simp; try with_reducible rfl)
      try simp only [Act.put, List.getElem_toArray, List.getElem_cons_succ, List.getElem_cons_zero, List.setIfInBounds_toArray, List.set_cons_zero, List.set_cons_succ]
      refine wpAnyL_pure (i := 10) (v := ?_) rfl (by kernel_rfl) (by kernel_rfl) (by kernel_rfl) (by kernel_rfl) (by rfl) (fun _ _ _ h => h) (Or.inl ⟨by rfl, ?_⟩) (fun _ => by assumption) ?_
      rotate_left
      · (intro w hSw; go_simp; try with_reducible rfl)
      try simp only [Act.put, List.getElem_toArray, List.getElem_cons_succ, List.getElem_cons_zero, List.setIfInBounds_toArray, List.set_cons_zero, List.set_cons_succ]
      refine wpAnyL_load (i := 11) (v := ?_) rfl (by kernel_rfl) (by kernel_rfl) (by kernel_rfl) (by kernel_rfl) (by rfl) (by kernel_rfl) (fun _ _ _ h => h) (by assumption) (Or.inl ⟨by rfl, ?_⟩) ?_
      rotate_left
      · (intro w hSw; (try dsimp only at hSw); go_simp; try with_reducible rfl)
      try simp only [Act.put, List.getElem_toArray, List.getElem_cons_succ, List.getElem_cons_zero, List.setIfInBounds_toArray, List.set_cons_zero, List.set_cons_succ]
      refine wpAnyL_ready (rs := [12]) (by kernel_rfl) (by simp) ?_
      refine AllReadyL.cons rfl (fun K hK => ?_) AllReadyL.nil
      try simp only [List.getElem_toArray, List.getElem_cons_succ, List.getElem_cons_zero]
      rw [if_pos (by rfl)]
      go_simp
      refine c_lawOf q td ?_
      intro wA sA
      go_wp2_with fail
      refine hK.out _ _ (hF.out _ sA) (fun hHeld => ?_)
      clear hK K
      try simp only [Act.put, List.getElem_toArray, List.getElem_cons_succ, List.getElem_cons_zero, List.setIfInBounds_toArray, List.set_cons_zero, List.set_cons_succ]
      refine wpAnyL_pure (i := 13) (v := ?_) rfl (by kernel_rfl) (by kernel_rfl) (by kernel_rfl) (by kernel_rfl) (by rfl) (fun _ _ _ h => h) (Or.inl ⟨by rfl, ?_⟩) (fun _ => by assumption) ?_
      rotate_left
      · (intro w hSw; go_simp; try with_reducible rfl)
      try simp only [Act.put, List.getElem_toArray, List.getElem_cons_succ, List.getElem_cons_zero, List.setIfInBounds_toArray, List.set_cons_zero, List.set_cons_succ]
      refine wpAnyL_done (by kernel_rfl) ?_ _
      clear td gd t g6 hHeld
      go_wp2
      go_roundg (gk - 1)
      case measure => exact hp2.out.2
      case rel => exact ⟨i + 1, hp2.out.1, by go_num, sA⟩
    · obtain rfl : i = N := by omega
      go_wp2
      exact k.out _ (by rw [hN.out]; exact t.tail1)
end
end Go.Proofs.Ytiibiamobkhlbaa
