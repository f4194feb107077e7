/-
  PLIC, the document's: Lines, Load.
-/
import Derived.Test.YtohccblfnjampaaPx
import Derived.Deep.RegionHeld3
namespace Go.Proofs.Ytohccblfnjampaa
open Go.RowKit
set_option linter.unusedVariables false
set_option linter.unusedSimpArgs false

theorem wp_storeS {P : Program} {o : Oper} {a : Act} {K : Act → World → Prop} {Q : Exit → Act → World → Prop} {W0 w : World} {H : Hp} {F : List Hp}
    (ty : TypeId) (x y : Operand) (ho : o.op = .store ty x y) (b f : Nat) {vs us : List Value} (hx : a.eval x = .pointer (some ⟨b, f, none⟩)) (hy : a.eval y = .agg us.toArray)
    (s : Sat W0 w H (cellsH ⟨b, 0, none⟩ vs :: F)) (hl : f + us.length ≤ vs.length) (hi : (P.info? ty).map (·.size) = some us.length) (h1 : ∀ v ∈ us, v.oneCell' = true)
    (h : ∀ w', Sat W0 w' H (cellsH ⟨b, 0, none⟩ (setR vs f us) :: F) → K (a.put o.dst undef) w') : Oper.wp P o a w K Q := by
  refine wp_store_mid ty x y ho b f us.toArray hx hy (fun j hj => ?_) (by rw [List.size_toArray]; exact hi) (all_oneCell_toArray h1) ?_
  · rw [List.size_toArray] at hj
    have := s.c (f + j) (List.getElem?_eq_getElem (by omega))
    simp only [Nat.zero_add] at this
    exact ⟨by rw [this.1]; rfl, this.2⟩
  · exact h _ (Sat.setCells us f _ _ s hl)

section
variable {R : Ending → World → Prop} {W0 w : World} {H : Hp} {A F : List Hp} {s : PlS}


set_option maxRecDepth 100000 in
set_option maxHeartbeats 4000000 in
theorem c_rpLoad (t : Sat W0 w H A) (a n : Int) (ha : 0 ≤ a ∧ a ≤ 18446744073709551615) (hn : -9223372036854775808 ≤ n ∧ n ≤ 9223372036854775807)
    (k : ∀ w', Sat W0 w' H A → R (.returned (.tuple #[.agg (s.load a n).1.ref.toArray, .int .u64 (s.load a n).2.1, .bool (s.load a n).2.2])) w') :
    Calls Try.prog 117 #[.agg s.ref.toArray, .int .u64 a, .int .i64 n] w R := by
  have t1 := (t.alloc (c := s.ref) (t := 104)).alloc (c := plZero) (t := 104)
  rw [plZero_eq] at t1
  obtain ⟨Z, hZ⟩ : ∃ Z, w.heap.size = Z := ⟨_, rfl⟩
  simp only [World.size_alloc] at t1
  rw [hZ] at t1
  obtain ⟨LZ, hLZ⟩ : ∃ L, plZero = L := ⟨_, rfl⟩
  have hlz : LZ.length = 194 := by rw [← hLZ]; exact plZero_len
  rw [hLZ] at t1
  replace t1 := t1.swap
  replace hlz := aside hlz
  replace hLZ := aside hLZ
  obtain ⟨L, hL⟩ : ∃ L, s.ref = L := ⟨_, rfl⟩
  by_cases hm : mayP a n
  · obtain ⟨rfl, hm4, hlt⟩ := id hm
    have hmd : decide (mayP a 4) = true := decide_eq_true hm
    have hgl := s.r_size
    have hgn := s.ref_len
    have hgo := s.r_one
    by_cases h1 : a < 128
    · have e : s.load a 4 = (s, s.p (a / 4).toNat, true) := by unfold PlS.load; rw [if_neg (not_not_intro hm), if_pos h1]
      rw [e] at k
      clear e
      obtain ⟨j, hj⟩ := Int.eq_ofNat_of_zero_le (show 0 ≤ a / 4 by omega)
      rw [hj, Int.toNat_natCast] at k
      have hy1 := s.rP (i := j) (by omega)
      have i1 : (0 : Int) ≤ j ∧ (j : Int) < 32 := by omega
      have hp := s.p_bd j
      obtain ⟨P, hP⟩ : ∃ P, s.p j = P := ⟨_, rfl⟩
      rw [hP] at hp hy1 k
      rw [hL] at t1 hgl hgn hgo hy1 k ⊢
      have e9 : IntKind.u64.wrap P = P := by rw [wrap_u64]; omega
      have hj2 : IntKind.u64.wrap (a.tdiv 4) = j := by rw [Int.tdiv_eq_ediv_of_nonneg ha.1, hj, wrap_u64]; omega
      replace k := aside k
      clear t
      replace hL := aside hL
      replace hgl := aside hgl
      replace hgn := aside hgn
      replace hgo := aside hgo
      replace hmd := aside hmd
      replace hy1 := aside hy1
      replace hP := aside hP
      replace hm := aside hm
      go_enter Try.func117, Try.ntmps117
      go_wp2_with fail
      refine c_r12May a 4 (by omega) (by omega) ?_
      rw [hmd.out]
      go_wp2
      have t2 := t1.drew
      have y1 := (t2.c j hy1.out).1
      simp only [Nat.zero_add] at y1
      refine wp_region_held_drew (S := fun w' => w'.rangeAt Z 0 L ∧ w'.cell? ⟨Z, j, none⟩ = some (.int .i64 P)) (by kernel_rfl) ⟨fun j v hv => (t2.c j hv).1, y1⟩ (fun hHeld => ?_)
      refine wpAnyH_take (i := 0) rfl (by kernel_rfl) (by kernel_rfl) (by kernel_rfl) (fun _ _ _ h => h) (yieldsIf_load_mid (by rfl) _ _ rfl Z 0 rfl L _ (fun w hSw => hSw.1) Try.underlying104 rfl hgl.out) (by assumption) ?_
      try simp only [Act.put, List.getElem_toArray, List.getElem_cons_succ, List.getElem_cons_zero, List.setIfInBounds_toArray, List.set_cons_zero, List.set_cons_succ]
      refine wpAnyH_take (i := 1) (v := ?_) rfl (by kernel_rfl) (by kernel_rfl) (by kernel_rfl) (fun _ _ _ h => h) (Or.inl ⟨by rfl, ?_⟩) (by assumption) ?_
      rotate_left
      · (intro w hSw; (try dsimp only at hSw); go_simp; try with_reducible rfl)
      try simp only [Act.put, List.getElem_toArray, List.getElem_cons_succ, List.getElem_cons_zero, List.setIfInBounds_toArray, List.set_cons_zero, List.set_cons_succ]
      refine wpAnyH_take (i := 2) (v := ?_) rfl (by kernel_rfl) (by kernel_rfl) (by kernel_rfl) (fun _ _ _ h => h) (Or.inl ⟨by rfl, ?_⟩) (by assumption) ?_
      rotate_left
      · (intro w hSw; (try dsimp only at hSw); go_simp; try with_reducible rfl)
      try simp only [Act.put, List.getElem_toArray, List.getElem_cons_succ, List.getElem_cons_zero, List.setIfInBounds_toArray, List.set_cons_zero, List.set_cons_succ]
      refine wpAnyH_take (i := 3) (v := ?_) rfl (by kernel_rfl) (by kernel_rfl) (by kernel_rfl) (fun _ _ _ h => h) (Or.inl ⟨by rfl, ?_⟩) (by assumption) ?_
      rotate_left
      · (intro w hSw; (try dsimp only at hSw); go_simp; try with_reducible rfl)
      try simp only [Act.put, List.getElem_toArray, List.getElem_cons_succ, List.getElem_cons_zero, List.setIfInBounds_toArray, List.set_cons_zero, List.set_cons_succ]
      refine wpAnyH_take (i := 4) (v := ?_) rfl (by kernel_rfl) (by kernel_rfl) (by kernel_rfl) (fun _ _ _ h => h) (Or.inl ⟨by rfl, ?_⟩) (by assumption) ?_
      rotate_left
      · (intro w hSw; (try dsimp only at hSw); go_simp; try with_reducible rfl)
      try simp only [Act.put, List.getElem_toArray, List.getElem_cons_succ, List.getElem_cons_zero, List.setIfInBounds_toArray, List.set_cons_zero, List.set_cons_succ]
      refine wpAnyH_take (i := 5) (v := ?_) rfl (by kernel_rfl) (by kernel_rfl) (by kernel_rfl) (fun _ _ _ h => h) (Or.inl ⟨by rfl, ?_⟩) (by assumption) ?_
      rotate_left
      · (intro w hSw; (try dsimp only at hSw); go_simp; try with_reducible rfl)
      try simp only [Act.put, List.getElem_toArray, List.getElem_cons_succ, List.getElem_cons_zero, List.setIfInBounds_toArray, List.set_cons_zero, List.set_cons_succ]
      refine wpAnyH_take (i := 6) (v := ?_) rfl (by kernel_rfl) (by kernel_rfl) (by kernel_rfl) (fun _ _ _ h => h) (Or.inl ⟨by rfl, ?_⟩) (by assumption) ?_
      rotate_left
      · (intro w hSw; (try dsimp only at hSw); go_simp; try with_reducible rfl)
      try simp only [Act.put, List.getElem_toArray, List.getElem_cons_succ, List.getElem_cons_zero, List.setIfInBounds_toArray, List.set_cons_zero, List.set_cons_succ]
      refine wpAnyH_ready (rs := [7]) (by kernel_rfl) (by simp) ?_
      refine AllReadyH.cons rfl (fun K hK => ?_) AllReadyH.nil
      try simp only [List.getElem_toArray, List.getElem_cons_succ, List.getElem_cons_zero]
      rw [if_pos (by rfl)]
      refine wp_storeS 104 (.tmp 6) (.tmp 19) rfl (Z + 1) 0 rfl rfl t2.swap (by rw [hlz.out, hgn.out]; decide) hgl.out hgo.out ?_
      intro w5 t5
      rw [setR_all (by rw [hlz.out, hgn.out])] at t5
      refine hK.out _ _ ⟨fun j v hv => (t5.swap.c j hv).1, by have := (t5.swap.c j hy1.out).1; rwa [Nat.zero_add] at this⟩ (fun hHeld => ?_)
      clear hK K
      refine wpAnyH_take (i := 8) (v := ?_) rfl (by kernel_rfl) (by kernel_rfl) (by kernel_rfl) (fun _ _ _ h => h) (Or.inl ⟨by rfl, ?_⟩) (by assumption) ?_
      rotate_left
      · (intro w hSw; (try dsimp only at hSw); go_simp; try with_reducible rfl)
      try simp only [Act.put, List.getElem_toArray, List.getElem_cons_succ, List.getElem_cons_zero, List.setIfInBounds_toArray, List.set_cons_zero, List.set_cons_succ]
      refine wpAnyH_take (i := 9) (v := ?_) rfl (by kernel_rfl) (by kernel_rfl) (by kernel_rfl) (fun _ _ _ h => h) (Or.inl ⟨by rfl, ?_⟩) (by assumption) ?_
      rotate_left
      · (intro w hSw; (try dsimp only at hSw); go_simp; try with_reducible rfl)
      try simp only [Act.put, List.getElem_toArray, List.getElem_cons_succ, List.getElem_cons_zero, List.setIfInBounds_toArray, List.set_cons_zero, List.set_cons_succ]
      refine wpAnyH_done (by kernel_rfl) ?_ _
      go_wp2
      refine bodyPost_ret (results_S3 Try.results117 _ (Z + 1) rfl rfl rfl t5 Try.underlying104 rfl hgl.out) rfl ?_
      exact k.out _ t5.wk
    by_cases hh : a = 4096
    · subst hh
      have e : s.load 4096 4 = (s, wn s.waits, true) := by unfold PlS.load; rw [if_neg (not_not_intro hm)]; rfl
      rw [e] at k
      clear e
      have hP := trivial
      obtain ⟨P, hPP⟩ : ∃ P, wn s.waits = P := ⟨_, rfl⟩
      obtain ⟨M, hM⟩ : ∃ M, mk32 s.waits = M := ⟨_, rfl⟩
      have hmz : (Try.prog.info? 100).map (·.size) = some M.length := by rw [← hM, mk32_len]; exact mk_size
      have hrg : ∀ w' : World, w'.rangeAt Z 0 L → w'.rangeAt Z 64 M := fun w' h j v hv => by
        have hj : j < 32 := by have := (List.getElem?_eq_some_iff.1 hv).1; rw [← hM, mk32_len] at this; exact this
        rw [← hM, mk32_at _ hj] at hv
        have h2 := h (64 + j) v (by rw [← hL, s.rW hj]; exact hv)
        rwa [Nat.zero_add] at h2
      rw [hL] at t1 hgl hgn hgo
      rw [hPP] at k
      rw [hL] at k ⊢
      replace k := aside k
      clear hP
      have hP := hPP
      clear t hPP
      replace hL := aside hL
      replace hgl := aside hgl
      replace hgn := aside hgn
      replace hgo := aside hgo
      replace hmd := aside hmd
      replace hP := aside hP
      replace hM := aside hM
      replace hmz := aside hmz
      replace hm := aside hm
      go_enter Try.func117, Try.ntmps117
      go_wp2_with fail
      refine c_r12May 4096 4 (by omega) (by omega) ?_
      rw [hmd.out]
      go_wp2
      have t2 := t1.drew
      refine wp_region_held_drew (S := fun w' => w'.rangeAt Z 0 L ∧ w'.rangeAt Z 64 M) (by kernel_rfl) ⟨fun j v hv => (t2.c j hv).1, hrg _ fun j v hv => (t2.c j hv).1⟩ (fun hHeld => ?_)
      refine wpAnyH_take (i := 0) rfl (by kernel_rfl) (by kernel_rfl) (by kernel_rfl) (fun _ _ _ h => h) (yieldsIf_load_mid (by rfl) _ _ rfl Z 0 rfl L _ (fun w hSw => hSw.1) Try.underlying104 rfl hgl.out) (by assumption) ?_
      try simp only [Act.put, List.getElem_toArray, List.getElem_cons_succ, List.getElem_cons_zero, List.setIfInBounds_toArray, List.set_cons_zero, List.set_cons_succ]
      refine wpAnyH_take (i := 1) (v := ?_) rfl (by kernel_rfl) (by kernel_rfl) (by kernel_rfl) (fun _ _ _ h => h) (Or.inl ⟨by rfl, ?_⟩) (by assumption) ?_
      rotate_left
      · (intro w hSw; (try dsimp only at hSw); go_simp; try with_reducible rfl)
      try simp only [Act.put, List.getElem_toArray, List.getElem_cons_succ, List.getElem_cons_zero, List.setIfInBounds_toArray, List.set_cons_zero, List.set_cons_succ]
      refine wpAnyH_take (i := 2) rfl (by kernel_rfl) (by kernel_rfl) (by kernel_rfl) (fun _ _ _ h => h) (yieldsIf_load_mid (by rfl) _ _ rfl Z 64 rfl M _ (fun w hSw => hSw.2) Try.underlying100 rfl hmz.out) (by assumption) ?_
      try simp only [Act.put, List.getElem_toArray, List.getElem_cons_succ, List.getElem_cons_zero, List.setIfInBounds_toArray, List.set_cons_zero, List.set_cons_succ]
      refine wpAnyH_ready (rs := [3]) (by kernel_rfl) (by simp) ?_
      refine AllReadyH.cons rfl (fun K hK => ?_) AllReadyH.nil
      try simp only [List.getElem_toArray, List.getElem_cons_succ, List.getElem_cons_zero]
      rw [if_pos (by rfl)]
      go_simp
      rw [← hM.out]
      refine c_r12Word t2 s.waits ?_
      rw [hP.out]
      intro w4 t4
      go_wp2_with fail
      refine hK.out _ _ ⟨fun j v hv => (t4.c j hv).1, hrg _ fun j v hv => (t4.c j hv).1⟩ (fun hHeld => ?_)
      clear hK K
      try simp only [Act.put, List.getElem_toArray, List.getElem_cons_succ, List.getElem_cons_zero, List.setIfInBounds_toArray, List.set_cons_zero, List.set_cons_succ]
      refine wpAnyH_ready (rs := [4]) (by kernel_rfl) (by simp) ?_
      refine AllReadyH.cons rfl (fun K hK => ?_) AllReadyH.nil
      try simp only [List.getElem_toArray, List.getElem_cons_succ, List.getElem_cons_zero]
      rw [if_pos (by rfl)]
      refine wp_storeS 104 (.tmp 6) (.tmp 29) rfl (Z + 1) 0 rfl rfl t4.swap (by rw [hlz.out, hgn.out]; decide) hgl.out hgo.out ?_
      intro w5 t5
      rw [setR_all (by rw [hlz.out, hgn.out])] at t5
      refine hK.out _ _ ⟨fun j v hv => (t5.swap.c j hv).1, hrg _ fun j v hv => (t5.swap.c j hv).1⟩ (fun hHeld => ?_)
      clear hK K
      refine wpAnyH_take (i := 5) (v := ?_) rfl (by kernel_rfl) (by kernel_rfl) (by kernel_rfl) (fun _ _ _ h => h) (Or.inl ⟨by rfl, ?_⟩) (by assumption) ?_
      rotate_left
      · (intro w hSw; (try dsimp only at hSw); go_simp; try with_reducible rfl)
      try simp only [Act.put, List.getElem_toArray, List.getElem_cons_succ, List.getElem_cons_zero, List.setIfInBounds_toArray, List.set_cons_zero, List.set_cons_succ]
      refine wpAnyH_take (i := 6) (v := ?_) rfl (by kernel_rfl) (by kernel_rfl) (by kernel_rfl) (fun _ _ _ h => h) (Or.inl ⟨by rfl, ?_⟩) (by assumption) ?_
      rotate_left
      · (intro w hSw; (try dsimp only at hSw); go_simp; try with_reducible rfl)
      try simp only [Act.put, List.getElem_toArray, List.getElem_cons_succ, List.getElem_cons_zero, List.setIfInBounds_toArray, List.set_cons_zero, List.set_cons_succ]
      refine wpAnyH_done (by kernel_rfl) ?_ _
      go_wp2
      refine bodyPost_ret (results_S3 Try.results117 _ (Z + 1) rfl rfl rfl t5 Try.underlying104 rfl hgl.out) rfl ?_
      exact k.out _ t5.wk
    have h2 := hh
    clear hh
    by_cases hh : a = 8192
    · subst hh
      have e : s.load 8192 4 = (s, wn (s.lets 0), true) := by unfold PlS.load; rw [if_neg (not_not_intro hm)]; rfl
      rw [e] at k
      clear e
      have hP := trivial
      obtain ⟨P, hPP⟩ : ∃ P, wn (s.lets 0) = P := ⟨_, rfl⟩
      obtain ⟨M, hM⟩ : ∃ M, mk32 (s.lets 0) = M := ⟨_, rfl⟩
      have hmz : (Try.prog.info? 100).map (·.size) = some M.length := by rw [← hM, mk32_len]; exact mk_size
      have hrg : ∀ w' : World, w'.rangeAt Z 0 L → w'.rangeAt Z 128 M := fun w' h j v hv => by
        have hj : j < 32 := by have := (List.getElem?_eq_some_iff.1 hv).1; rw [← hM, mk32_len] at this; exact this
        rw [← hM, mk32_at _ hj] at hv
        have h2 := h (128 + j) v (by rw [← hL, s.rL (c := 0) (by omega) hj]; exact hv)
        rwa [Nat.zero_add] at h2
      rw [hL] at t1 hgl hgn hgo
      rw [hPP] at k
      rw [hL] at k ⊢
      replace k := aside k
      clear hP
      have hP := hPP
      clear t hPP
      replace hL := aside hL
      replace hgl := aside hgl
      replace hgn := aside hgn
      replace hgo := aside hgo
      replace hmd := aside hmd
      replace hP := aside hP
      replace hM := aside hM
      replace hmz := aside hmz
      replace hm := aside hm
      have hq0 : IntKind.u64.wrap ((IntKind.u64.wrap 0).tdiv 128) = 0 := by decide
      go_enter Try.func117, Try.ntmps117
      go_wp2_with fail
      refine c_r12May 8192 4 (by omega) (by omega) ?_
      rw [hmd.out]
      go_wp2
      have t2 := t1.drew
      refine wp_region_held_drew (S := fun w' => w'.rangeAt Z 0 L ∧ w'.rangeAt Z 128 M) (by kernel_rfl) ⟨fun j v hv => (t2.c j hv).1, hrg _ fun j v hv => (t2.c j hv).1⟩ (fun hHeld => ?_)
      refine wpAnyH_take (i := 0) rfl (by kernel_rfl) (by kernel_rfl) (by kernel_rfl) (fun _ _ _ h => h) (yieldsIf_load_mid (by rfl) _ _ rfl Z 0 rfl L _ (fun w hSw => hSw.1) Try.underlying104 rfl hgl.out) (by assumption) ?_
      try simp only [Act.put, List.getElem_toArray, List.getElem_cons_succ, List.getElem_cons_zero, List.setIfInBounds_toArray, List.set_cons_zero, List.set_cons_succ]
      refine wpAnyH_take (i := 1) (v := ?_) rfl (by kernel_rfl) (by kernel_rfl) (by kernel_rfl) (fun _ _ _ h => h) (Or.inl ⟨by rfl, ?_⟩) (by assumption) ?_
      rotate_left
      · (intro w hSw; (try dsimp only at hSw); go_simp; try with_reducible rfl)
      try simp only [Act.put, List.getElem_toArray, List.getElem_cons_succ, List.getElem_cons_zero, List.setIfInBounds_toArray, List.set_cons_zero, List.set_cons_succ]
      refine wpAnyH_take (i := 2) (v := ?_) rfl (by kernel_rfl) (by kernel_rfl) (by kernel_rfl) (fun _ _ _ h => h) (Or.inl ⟨by rfl, ?_⟩) (by assumption) ?_
      rotate_left
      · (intro w hSw; (try dsimp only at hSw); go_simp; try with_reducible rfl)
      try simp only [Act.put, List.getElem_toArray, List.getElem_cons_succ, List.getElem_cons_zero, List.setIfInBounds_toArray, List.set_cons_zero, List.set_cons_succ]
      refine wpAnyH_take (i := 3) (v := ?_) rfl (by kernel_rfl) (by kernel_rfl) (by kernel_rfl) (fun _ _ _ h => h) (Or.inl ⟨by rfl, ?_⟩) (by assumption) ?_
      rotate_left
      · (intro w hSw; (try dsimp only at hSw); go_simp; try with_reducible rfl)
      try simp only [Act.put, List.getElem_toArray, List.getElem_cons_succ, List.getElem_cons_zero, List.setIfInBounds_toArray, List.set_cons_zero, List.set_cons_succ]
      refine wpAnyH_take (i := 4) (v := ?_) rfl (by kernel_rfl) (by kernel_rfl) (by kernel_rfl) (fun _ _ _ h => h) (Or.inl ⟨by rfl, ?_⟩) (by assumption) ?_
      rotate_left
      · (intro w hSw; (try dsimp only at hSw); go_simp; try with_reducible rfl)
      try simp only [Act.put, List.getElem_toArray, List.getElem_cons_succ, List.getElem_cons_zero, List.setIfInBounds_toArray, List.set_cons_zero, List.set_cons_succ]
      refine wpAnyH_take (i := 5) (v := ?_) rfl (by kernel_rfl) (by kernel_rfl) (by kernel_rfl) (fun _ _ _ h => h) (Or.inl ⟨by rfl, ?_⟩) (by assumption) ?_
      rotate_left
      · (intro w hSw; (try dsimp only at hSw); go_simp; try with_reducible rfl)
      try simp only [Act.put, List.getElem_toArray, List.getElem_cons_succ, List.getElem_cons_zero, List.setIfInBounds_toArray, List.set_cons_zero, List.set_cons_succ]
      refine wpAnyH_take (i := 6) rfl (by kernel_rfl) (by kernel_rfl) (by kernel_rfl) (fun _ _ _ h => h) (yieldsIf_load_mid (by rfl) _ _ rfl Z 128 rfl M _ (fun w hSw => hSw.2) Try.underlying100 rfl hmz.out) (by assumption) ?_
      try simp only [Act.put, List.getElem_toArray, List.getElem_cons_succ, List.getElem_cons_zero, List.setIfInBounds_toArray, List.set_cons_zero, List.set_cons_succ]
      refine wpAnyH_ready (rs := [7]) (by kernel_rfl) (by simp) ?_
      refine AllReadyH.cons rfl (fun K hK => ?_) AllReadyH.nil
      try simp only [List.getElem_toArray, List.getElem_cons_succ, List.getElem_cons_zero]
      rw [if_pos (by rfl)]
      go_simp
      rw [← hM.out]
      refine c_r12Word t2 (s.lets 0) ?_
      rw [hP.out]
      intro w4 t4
      go_wp2_with fail
      refine hK.out _ _ ⟨fun j v hv => (t4.c j hv).1, hrg _ fun j v hv => (t4.c j hv).1⟩ (fun hHeld => ?_)
      clear hK K
      try simp only [Act.put, List.getElem_toArray, List.getElem_cons_succ, List.getElem_cons_zero, List.setIfInBounds_toArray, List.set_cons_zero, List.set_cons_succ]
      refine wpAnyH_ready (rs := [8]) (by kernel_rfl) (by simp) ?_
      refine AllReadyH.cons rfl (fun K hK => ?_) AllReadyH.nil
      try simp only [List.getElem_toArray, List.getElem_cons_succ, List.getElem_cons_zero]
      rw [if_pos (by rfl)]
      refine wp_storeS 104 (.tmp 6) (.tmp 40) rfl (Z + 1) 0 rfl rfl t4.swap (by rw [hlz.out, hgn.out]; decide) hgl.out hgo.out ?_
      intro w5 t5
      rw [setR_all (by rw [hlz.out, hgn.out])] at t5
      refine hK.out _ _ ⟨fun j v hv => (t5.swap.c j hv).1, hrg _ fun j v hv => (t5.swap.c j hv).1⟩ (fun hHeld => ?_)
      clear hK K
      refine wpAnyH_take (i := 9) (v := ?_) rfl (by kernel_rfl) (by kernel_rfl) (by kernel_rfl) (fun _ _ _ h => h) (Or.inl ⟨by rfl, ?_⟩) (by assumption) ?_
      rotate_left
      · (intro w hSw; (try dsimp only at hSw); go_simp; try with_reducible rfl)
      try simp only [Act.put, List.getElem_toArray, List.getElem_cons_succ, List.getElem_cons_zero, List.setIfInBounds_toArray, List.set_cons_zero, List.set_cons_succ]
      refine wpAnyH_take (i := 10) (v := ?_) rfl (by kernel_rfl) (by kernel_rfl) (by kernel_rfl) (fun _ _ _ h => h) (Or.inl ⟨by rfl, ?_⟩) (by assumption) ?_
      rotate_left
      · (intro w hSw; (try dsimp only at hSw); go_simp; try with_reducible rfl)
      try simp only [Act.put, List.getElem_toArray, List.getElem_cons_succ, List.getElem_cons_zero, List.setIfInBounds_toArray, List.set_cons_zero, List.set_cons_succ]
      refine wpAnyH_done (by kernel_rfl) ?_ _
      go_wp2
      refine bodyPost_ret (results_S3 Try.results117 _ (Z + 1) rfl rfl rfl t5 Try.underlying104 rfl hgl.out) rfl ?_
      exact k.out _ t5.wk
    have h3 := hh
    clear hh
    by_cases hh : a = 8320
    · subst hh
      have e : s.load 8320 4 = (s, wn (s.lets 1), true) := by unfold PlS.load; rw [if_neg (not_not_intro hm)]; rfl
      rw [e] at k
      clear e
      have hP := trivial
      obtain ⟨P, hPP⟩ : ∃ P, wn (s.lets 1) = P := ⟨_, rfl⟩
      obtain ⟨M, hM⟩ : ∃ M, mk32 (s.lets 1) = M := ⟨_, rfl⟩
      have hmz : (Try.prog.info? 100).map (·.size) = some M.length := by rw [← hM, mk32_len]; exact mk_size
      have hrg : ∀ w' : World, w'.rangeAt Z 0 L → w'.rangeAt Z 160 M := fun w' h j v hv => by
        have hj : j < 32 := by have := (List.getElem?_eq_some_iff.1 hv).1; rw [← hM, mk32_len] at this; exact this
        rw [← hM, mk32_at _ hj] at hv
        have h2 := h (160 + j) v (by rw [← hL, s.rL (c := 1) (by omega) hj]; exact hv)
        rwa [Nat.zero_add] at h2
      rw [hL] at t1 hgl hgn hgo
      rw [hPP] at k
      rw [hL] at k ⊢
      replace k := aside k
      clear hP
      have hP := hPP
      clear t hPP
      replace hL := aside hL
      replace hgl := aside hgl
      replace hgn := aside hgn
      replace hgo := aside hgo
      replace hmd := aside hmd
      replace hP := aside hP
      replace hM := aside hM
      replace hmz := aside hmz
      replace hm := aside hm
      have hq0 : IntKind.u64.wrap ((IntKind.u64.wrap 128).tdiv 128) = 1 := by decide
      go_enter Try.func117, Try.ntmps117
      go_wp2_with fail
      refine c_r12May 8320 4 (by omega) (by omega) ?_
      rw [hmd.out]
      go_wp2
      have t2 := t1.drew
      refine wp_region_held_drew (S := fun w' => w'.rangeAt Z 0 L ∧ w'.rangeAt Z 160 M) (by kernel_rfl) ⟨fun j v hv => (t2.c j hv).1, hrg _ fun j v hv => (t2.c j hv).1⟩ (fun hHeld => ?_)
      refine wpAnyH_take (i := 0) rfl (by kernel_rfl) (by kernel_rfl) (by kernel_rfl) (fun _ _ _ h => h) (yieldsIf_load_mid (by rfl) _ _ rfl Z 0 rfl L _ (fun w hSw => hSw.1) Try.underlying104 rfl hgl.out) (by assumption) ?_
      try simp only [Act.put, List.getElem_toArray, List.getElem_cons_succ, List.getElem_cons_zero, List.setIfInBounds_toArray, List.set_cons_zero, List.set_cons_succ]
      refine wpAnyH_take (i := 1) (v := ?_) rfl (by kernel_rfl) (by kernel_rfl) (by kernel_rfl) (fun _ _ _ h => h) (Or.inl ⟨by rfl, ?_⟩) (by assumption) ?_
      rotate_left
      · (intro w hSw; (try dsimp only at hSw); go_simp; try with_reducible rfl)
      try simp only [Act.put, List.getElem_toArray, List.getElem_cons_succ, List.getElem_cons_zero, List.setIfInBounds_toArray, List.set_cons_zero, List.set_cons_succ]
      refine wpAnyH_take (i := 2) (v := ?_) rfl (by kernel_rfl) (by kernel_rfl) (by kernel_rfl) (fun _ _ _ h => h) (Or.inl ⟨by rfl, ?_⟩) (by assumption) ?_
      rotate_left
      · (intro w hSw; (try dsimp only at hSw); go_simp; try with_reducible rfl)
      try simp only [Act.put, List.getElem_toArray, List.getElem_cons_succ, List.getElem_cons_zero, List.setIfInBounds_toArray, List.set_cons_zero, List.set_cons_succ]
      refine wpAnyH_take (i := 3) (v := ?_) rfl (by kernel_rfl) (by kernel_rfl) (by kernel_rfl) (fun _ _ _ h => h) (Or.inl ⟨by rfl, ?_⟩) (by assumption) ?_
      rotate_left
      · (intro w hSw; (try dsimp only at hSw); go_simp; try with_reducible rfl)
      try simp only [Act.put, List.getElem_toArray, List.getElem_cons_succ, List.getElem_cons_zero, List.setIfInBounds_toArray, List.set_cons_zero, List.set_cons_succ]
      refine wpAnyH_take (i := 4) (v := ?_) rfl (by kernel_rfl) (by kernel_rfl) (by kernel_rfl) (fun _ _ _ h => h) (Or.inl ⟨by rfl, ?_⟩) (by assumption) ?_
      rotate_left
      · (intro w hSw; (try dsimp only at hSw); go_simp; try with_reducible rfl)
      try simp only [Act.put, List.getElem_toArray, List.getElem_cons_succ, List.getElem_cons_zero, List.setIfInBounds_toArray, List.set_cons_zero, List.set_cons_succ]
      refine wpAnyH_take (i := 5) (v := ?_) rfl (by kernel_rfl) (by kernel_rfl) (by kernel_rfl) (fun _ _ _ h => h) (Or.inl ⟨by rfl, ?_⟩) (by assumption) ?_
      rotate_left
      · (intro w hSw; (try dsimp only at hSw); go_simp; try with_reducible rfl)
      try simp only [Act.put, List.getElem_toArray, List.getElem_cons_succ, List.getElem_cons_zero, List.setIfInBounds_toArray, List.set_cons_zero, List.set_cons_succ]
      refine wpAnyH_take (i := 6) rfl (by kernel_rfl) (by kernel_rfl) (by kernel_rfl) (fun _ _ _ h => h) (yieldsIf_load_mid (by rfl) _ _ rfl Z 160 rfl M _ (fun w hSw => hSw.2) Try.underlying100 rfl hmz.out) (by assumption) ?_
      try simp only [Act.put, List.getElem_toArray, List.getElem_cons_succ, List.getElem_cons_zero, List.setIfInBounds_toArray, List.set_cons_zero, List.set_cons_succ]
      refine wpAnyH_ready (rs := [7]) (by kernel_rfl) (by simp) ?_
      refine AllReadyH.cons rfl (fun K hK => ?_) AllReadyH.nil
      try simp only [List.getElem_toArray, List.getElem_cons_succ, List.getElem_cons_zero]
      rw [if_pos (by rfl)]
      go_simp
      rw [← hM.out]
      refine c_r12Word t2 (s.lets 1) ?_
      rw [hP.out]
      intro w4 t4
      go_wp2_with fail
      refine hK.out _ _ ⟨fun j v hv => (t4.c j hv).1, hrg _ fun j v hv => (t4.c j hv).1⟩ (fun hHeld => ?_)
      clear hK K
      try simp only [Act.put, List.getElem_toArray, List.getElem_cons_succ, List.getElem_cons_zero, List.setIfInBounds_toArray, List.set_cons_zero, List.set_cons_succ]
      refine wpAnyH_ready (rs := [8]) (by kernel_rfl) (by simp) ?_
      refine AllReadyH.cons rfl (fun K hK => ?_) AllReadyH.nil
      try simp only [List.getElem_toArray, List.getElem_cons_succ, List.getElem_cons_zero]
      rw [if_pos (by rfl)]
      refine wp_storeS 104 (.tmp 6) (.tmp 40) rfl (Z + 1) 0 rfl rfl t4.swap (by rw [hlz.out, hgn.out]; decide) hgl.out hgo.out ?_
      intro w5 t5
      rw [setR_all (by rw [hlz.out, hgn.out])] at t5
      refine hK.out _ _ ⟨fun j v hv => (t5.swap.c j hv).1, hrg _ fun j v hv => (t5.swap.c j hv).1⟩ (fun hHeld => ?_)
      clear hK K
      refine wpAnyH_take (i := 9) (v := ?_) rfl (by kernel_rfl) (by kernel_rfl) (by kernel_rfl) (fun _ _ _ h => h) (Or.inl ⟨by rfl, ?_⟩) (by assumption) ?_
      rotate_left
      · (intro w hSw; (try dsimp only at hSw); go_simp; try with_reducible rfl)
      try simp only [Act.put, List.getElem_toArray, List.getElem_cons_succ, List.getElem_cons_zero, List.setIfInBounds_toArray, List.set_cons_zero, List.set_cons_succ]
      refine wpAnyH_take (i := 10) (v := ?_) rfl (by kernel_rfl) (by kernel_rfl) (by kernel_rfl) (fun _ _ _ h => h) (Or.inl ⟨by rfl, ?_⟩) (by assumption) ?_
      rotate_left
      · (intro w hSw; (try dsimp only at hSw); go_simp; try with_reducible rfl)
      try simp only [Act.put, List.getElem_toArray, List.getElem_cons_succ, List.getElem_cons_zero, List.setIfInBounds_toArray, List.set_cons_zero, List.set_cons_succ]
      refine wpAnyH_done (by kernel_rfl) ?_ _
      go_wp2
      refine bodyPost_ret (results_S3 Try.results117 _ (Z + 1) rfl rfl rfl t5 Try.underlying104 rfl hgl.out) rfl ?_
      exact k.out _ t5.wk
    have h4 := hh
    clear hh
    by_cases hh : a = 2097152
    · subst hh
      have e : s.load 2097152 4 = (s, s.least 0, true) := by unfold PlS.load; rw [if_neg (not_not_intro hm)]; rfl
      rw [e] at k
      clear e
      have hy1 := s.rE (c := 0) (by omega)
      have hp := s.least_bd 0
      obtain ⟨P, hP⟩ : ∃ P, s.least 0 = P := ⟨_, rfl⟩
      rw [hP] at hp hy1 k
      rw [hL] at t1 hgl hgn hgo hy1 k ⊢
      have e9 : IntKind.u64.wrap P = P := by rw [wrap_u64]; omega
      replace k := aside k
      clear t
      replace hL := aside hL
      replace hgl := aside hgl
      replace hgn := aside hgn
      replace hgo := aside hgo
      replace hmd := aside hmd
      replace hy1 := aside hy1
      replace hP := aside hP
      replace hm := aside hm
      have hq0 : IntKind.u64.wrap ((IntKind.u64.wrap (4096 * 0)).tdiv 4096) = 0 := by decide
      simp only [Int.mul_zero, Int.mul_one] at hq0
      go_enter Try.func117, Try.ntmps117
      go_wp2_with fail
      refine c_r12May 2097152 4 (by omega) (by omega) ?_
      rw [hmd.out]
      go_wp2
      have t2 := t1.drew
      have y1 := (t2.c 192 hy1.out).1
      simp only [Nat.zero_add] at y1
      refine wp_region_held_drew (S := fun w' => w'.rangeAt Z 0 L ∧ w'.cell? ⟨Z, 192, none⟩ = some (.int .i64 P)) (by kernel_rfl) ⟨fun j v hv => (t2.c j hv).1, y1⟩ (fun hHeld => ?_)
      refine wpAnyH_take (i := 0) rfl (by kernel_rfl) (by kernel_rfl) (by kernel_rfl) (fun _ _ _ h => h) (yieldsIf_load_mid (by rfl) _ _ rfl Z 0 rfl L _ (fun w hSw => hSw.1) Try.underlying104 rfl hgl.out) (by assumption) ?_
      try simp only [Act.put, List.getElem_toArray, List.getElem_cons_succ, List.getElem_cons_zero, List.setIfInBounds_toArray, List.set_cons_zero, List.set_cons_succ]
      refine wpAnyH_take (i := 1) (v := ?_) rfl (by kernel_rfl) (by kernel_rfl) (by kernel_rfl) (fun _ _ _ h => h) (Or.inl ⟨by rfl, ?_⟩) (by assumption) ?_
      rotate_left
      · (intro w hSw; (try dsimp only at hSw); go_simp; try with_reducible rfl)
      try simp only [Act.put, List.getElem_toArray, List.getElem_cons_succ, List.getElem_cons_zero, List.setIfInBounds_toArray, List.set_cons_zero, List.set_cons_succ]
      refine wpAnyH_take (i := 2) (v := ?_) rfl (by kernel_rfl) (by kernel_rfl) (by kernel_rfl) (fun _ _ _ h => h) (Or.inl ⟨by rfl, ?_⟩) (by assumption) ?_
      rotate_left
      · (intro w hSw; (try dsimp only at hSw); go_simp; try with_reducible rfl)
      try simp only [Act.put, List.getElem_toArray, List.getElem_cons_succ, List.getElem_cons_zero, List.setIfInBounds_toArray, List.set_cons_zero, List.set_cons_succ]
      refine wpAnyH_take (i := 3) (v := ?_) rfl (by kernel_rfl) (by kernel_rfl) (by kernel_rfl) (fun _ _ _ h => h) (Or.inl ⟨by rfl, ?_⟩) (by assumption) ?_
      rotate_left
      · (intro w hSw; (try dsimp only at hSw); go_simp; try with_reducible rfl)
      try simp only [Act.put, List.getElem_toArray, List.getElem_cons_succ, List.getElem_cons_zero, List.setIfInBounds_toArray, List.set_cons_zero, List.set_cons_succ]
      refine wpAnyH_take (i := 4) (v := ?_) rfl (by kernel_rfl) (by kernel_rfl) (by kernel_rfl) (fun _ _ _ h => h) (Or.inl ⟨by rfl, ?_⟩) (by assumption) ?_
      rotate_left
      · (intro w hSw; (try dsimp only at hSw); go_simp; try with_reducible rfl)
      try simp only [Act.put, List.getElem_toArray, List.getElem_cons_succ, List.getElem_cons_zero, List.setIfInBounds_toArray, List.set_cons_zero, List.set_cons_succ]
      refine wpAnyH_take (i := 5) (v := ?_) rfl (by kernel_rfl) (by kernel_rfl) (by kernel_rfl) (fun _ _ _ h => h) (Or.inl ⟨by rfl, ?_⟩) (by assumption) ?_
      rotate_left
      · (intro w hSw; (try dsimp only at hSw); go_simp; try with_reducible rfl)
      try simp only [Act.put, List.getElem_toArray, List.getElem_cons_succ, List.getElem_cons_zero, List.setIfInBounds_toArray, List.set_cons_zero, List.set_cons_succ]
      refine wpAnyH_take (i := 6) (v := ?_) rfl (by kernel_rfl) (by kernel_rfl) (by kernel_rfl) (fun _ _ _ h => h) (Or.inl ⟨by rfl, ?_⟩) (by assumption) ?_
      rotate_left
      · (intro w hSw; (try dsimp only at hSw); go_simp; try with_reducible rfl)
      try simp only [Act.put, List.getElem_toArray, List.getElem_cons_succ, List.getElem_cons_zero, List.setIfInBounds_toArray, List.set_cons_zero, List.set_cons_succ]
      refine wpAnyH_take (i := 7) (v := ?_) rfl (by kernel_rfl) (by kernel_rfl) (by kernel_rfl) (fun _ _ _ h => h) (Or.inl ⟨by rfl, ?_⟩) (by assumption) ?_
      rotate_left
      · (intro w hSw; (try dsimp only at hSw); go_simp; try with_reducible rfl)
      try simp only [Act.put, List.getElem_toArray, List.getElem_cons_succ, List.getElem_cons_zero, List.setIfInBounds_toArray, List.set_cons_zero, List.set_cons_succ]
      refine wpAnyH_ready (rs := [8]) (by kernel_rfl) (by simp) ?_
      refine AllReadyH.cons rfl (fun K hK => ?_) AllReadyH.nil
      try simp only [List.getElem_toArray, List.getElem_cons_succ, List.getElem_cons_zero]
      rw [if_pos (by rfl)]
      refine wp_storeS 104 (.tmp 6) (.tmp 55) rfl (Z + 1) 0 rfl rfl t2.swap (by rw [hlz.out, hgn.out]; decide) hgl.out hgo.out ?_
      intro w5 t5
      rw [setR_all (by rw [hlz.out, hgn.out])] at t5
      refine hK.out _ _ ⟨fun j v hv => (t5.swap.c j hv).1, by have := (t5.swap.c 192 hy1.out).1; rwa [Nat.zero_add] at this⟩ (fun hHeld => ?_)
      clear hK K
      refine wpAnyH_take (i := 9) (v := ?_) rfl (by kernel_rfl) (by kernel_rfl) (by kernel_rfl) (fun _ _ _ h => h) (Or.inl ⟨by rfl, ?_⟩) (by assumption) ?_
      rotate_left
      · (intro w hSw; (try dsimp only at hSw); go_simp; try with_reducible rfl)
      try simp only [Act.put, List.getElem_toArray, List.getElem_cons_succ, List.getElem_cons_zero, List.setIfInBounds_toArray, List.set_cons_zero, List.set_cons_succ]
      refine wpAnyH_take (i := 10) (v := ?_) rfl (by kernel_rfl) (by kernel_rfl) (by kernel_rfl) (fun _ _ _ h => h) (Or.inl ⟨by rfl, ?_⟩) (by assumption) ?_
      rotate_left
      · (intro w hSw; (try dsimp only at hSw); go_simp; try with_reducible rfl)
      try simp only [Act.put, List.getElem_toArray, List.getElem_cons_succ, List.getElem_cons_zero, List.setIfInBounds_toArray, List.set_cons_zero, List.set_cons_succ]
      refine wpAnyH_done (by kernel_rfl) ?_ _
      go_wp2
      refine bodyPost_ret (results_S3 Try.results117 _ (Z + 1) rfl rfl rfl t5 Try.underlying104 rfl hgl.out) rfl ?_
      exact k.out _ t5.wk
    have h5 := hh
    clear hh
    by_cases hh : a = 2101248
    · subst hh
      have e : s.load 2101248 4 = (s, s.least 1, true) := by unfold PlS.load; rw [if_neg (not_not_intro hm)]; rfl
      rw [e] at k
      clear e
      have hy1 := s.rE (c := 1) (by omega)
      have hp := s.least_bd 1
      obtain ⟨P, hP⟩ : ∃ P, s.least 1 = P := ⟨_, rfl⟩
      rw [hP] at hp hy1 k
      rw [hL] at t1 hgl hgn hgo hy1 k ⊢
      have e9 : IntKind.u64.wrap P = P := by rw [wrap_u64]; omega
      replace k := aside k
      clear t
      replace hL := aside hL
      replace hgl := aside hgl
      replace hgn := aside hgn
      replace hgo := aside hgo
      replace hmd := aside hmd
      replace hy1 := aside hy1
      replace hP := aside hP
      replace hm := aside hm
      have hq0 : IntKind.u64.wrap ((IntKind.u64.wrap (4096 * 1)).tdiv 4096) = 1 := by decide
      simp only [Int.mul_zero, Int.mul_one] at hq0
      go_enter Try.func117, Try.ntmps117
      go_wp2_with fail
      refine c_r12May 2101248 4 (by omega) (by omega) ?_
      rw [hmd.out]
      go_wp2
      have t2 := t1.drew
      have y1 := (t2.c 193 hy1.out).1
      simp only [Nat.zero_add] at y1
      refine wp_region_held_drew (S := fun w' => w'.rangeAt Z 0 L ∧ w'.cell? ⟨Z, 193, none⟩ = some (.int .i64 P)) (by kernel_rfl) ⟨fun j v hv => (t2.c j hv).1, y1⟩ (fun hHeld => ?_)
      refine wpAnyH_take (i := 0) rfl (by kernel_rfl) (by kernel_rfl) (by kernel_rfl) (fun _ _ _ h => h) (yieldsIf_load_mid (by rfl) _ _ rfl Z 0 rfl L _ (fun w hSw => hSw.1) Try.underlying104 rfl hgl.out) (by assumption) ?_
      try simp only [Act.put, List.getElem_toArray, List.getElem_cons_succ, List.getElem_cons_zero, List.setIfInBounds_toArray, List.set_cons_zero, List.set_cons_succ]
      refine wpAnyH_take (i := 1) (v := ?_) rfl (by kernel_rfl) (by kernel_rfl) (by kernel_rfl) (fun _ _ _ h => h) (Or.inl ⟨by rfl, ?_⟩) (by assumption) ?_
      rotate_left
      · (intro w hSw; (try dsimp only at hSw); go_simp; try with_reducible rfl)
      try simp only [Act.put, List.getElem_toArray, List.getElem_cons_succ, List.getElem_cons_zero, List.setIfInBounds_toArray, List.set_cons_zero, List.set_cons_succ]
      refine wpAnyH_take (i := 2) (v := ?_) rfl (by kernel_rfl) (by kernel_rfl) (by kernel_rfl) (fun _ _ _ h => h) (Or.inl ⟨by rfl, ?_⟩) (by assumption) ?_
      rotate_left
      · (intro w hSw; (try dsimp only at hSw); go_simp; try with_reducible rfl)
      try simp only [Act.put, List.getElem_toArray, List.getElem_cons_succ, List.getElem_cons_zero, List.setIfInBounds_toArray, List.set_cons_zero, List.set_cons_succ]
      refine wpAnyH_take (i := 3) (v := ?_) rfl (by kernel_rfl) (by kernel_rfl) (by kernel_rfl) (fun _ _ _ h => h) (Or.inl ⟨by rfl, ?_⟩) (by assumption) ?_
      rotate_left
      · (intro w hSw; (try dsimp only at hSw); go_simp; try with_reducible rfl)
      try simp only [Act.put, List.getElem_toArray, List.getElem_cons_succ, List.getElem_cons_zero, List.setIfInBounds_toArray, List.set_cons_zero, List.set_cons_succ]
      refine wpAnyH_take (i := 4) (v := ?_) rfl (by kernel_rfl) (by kernel_rfl) (by kernel_rfl) (fun _ _ _ h => h) (Or.inl ⟨by rfl, ?_⟩) (by assumption) ?_
      rotate_left
      · (intro w hSw; (try dsimp only at hSw); go_simp; try with_reducible rfl)
      try simp only [Act.put, List.getElem_toArray, List.getElem_cons_succ, List.getElem_cons_zero, List.setIfInBounds_toArray, List.set_cons_zero, List.set_cons_succ]
      refine wpAnyH_take (i := 5) (v := ?_) rfl (by kernel_rfl) (by kernel_rfl) (by kernel_rfl) (fun _ _ _ h => h) (Or.inl ⟨by rfl, ?_⟩) (by assumption) ?_
      rotate_left
      · (intro w hSw; (try dsimp only at hSw); go_simp; try with_reducible rfl)
      try simp only [Act.put, List.getElem_toArray, List.getElem_cons_succ, List.getElem_cons_zero, List.setIfInBounds_toArray, List.set_cons_zero, List.set_cons_succ]
      refine wpAnyH_take (i := 6) (v := ?_) rfl (by kernel_rfl) (by kernel_rfl) (by kernel_rfl) (fun _ _ _ h => h) (Or.inl ⟨by rfl, ?_⟩) (by assumption) ?_
      rotate_left
      · (intro w hSw; (try dsimp only at hSw); go_simp; try with_reducible rfl)
      try simp only [Act.put, List.getElem_toArray, List.getElem_cons_succ, List.getElem_cons_zero, List.setIfInBounds_toArray, List.set_cons_zero, List.set_cons_succ]
      refine wpAnyH_take (i := 7) (v := ?_) rfl (by kernel_rfl) (by kernel_rfl) (by kernel_rfl) (fun _ _ _ h => h) (Or.inl ⟨by rfl, ?_⟩) (by assumption) ?_
      rotate_left
      · (intro w hSw; (try dsimp only at hSw); go_simp; try with_reducible rfl)
      try simp only [Act.put, List.getElem_toArray, List.getElem_cons_succ, List.getElem_cons_zero, List.setIfInBounds_toArray, List.set_cons_zero, List.set_cons_succ]
      refine wpAnyH_ready (rs := [8]) (by kernel_rfl) (by simp) ?_
      refine AllReadyH.cons rfl (fun K hK => ?_) AllReadyH.nil
      try simp only [List.getElem_toArray, List.getElem_cons_succ, List.getElem_cons_zero]
      rw [if_pos (by rfl)]
      refine wp_storeS 104 (.tmp 6) (.tmp 55) rfl (Z + 1) 0 rfl rfl t2.swap (by rw [hlz.out, hgn.out]; decide) hgl.out hgo.out ?_
      intro w5 t5
      rw [setR_all (by rw [hlz.out, hgn.out])] at t5
      refine hK.out _ _ ⟨fun j v hv => (t5.swap.c j hv).1, by have := (t5.swap.c 193 hy1.out).1; rwa [Nat.zero_add] at this⟩ (fun hHeld => ?_)
      clear hK K
      refine wpAnyH_take (i := 9) (v := ?_) rfl (by kernel_rfl) (by kernel_rfl) (by kernel_rfl) (fun _ _ _ h => h) (Or.inl ⟨by rfl, ?_⟩) (by assumption) ?_
      rotate_left
      · (intro w hSw; (try dsimp only at hSw); go_simp; try with_reducible rfl)
      try simp only [Act.put, List.getElem_toArray, List.getElem_cons_succ, List.getElem_cons_zero, List.setIfInBounds_toArray, List.set_cons_zero, List.set_cons_succ]
      refine wpAnyH_take (i := 10) (v := ?_) rfl (by kernel_rfl) (by kernel_rfl) (by kernel_rfl) (fun _ _ _ h => h) (Or.inl ⟨by rfl, ?_⟩) (by assumption) ?_
      rotate_left
      · (intro w hSw; (try dsimp only at hSw); go_simp; try with_reducible rfl)
      try simp only [Act.put, List.getElem_toArray, List.getElem_cons_succ, List.getElem_cons_zero, List.setIfInBounds_toArray, List.set_cons_zero, List.set_cons_succ]
      refine wpAnyH_done (by kernel_rfl) ?_ _
      go_wp2
      refine bodyPost_ret (results_S3 Try.results117 _ (Z + 1) rfl rfl rfl t5 Try.underlying104 rfl hgl.out) rfl ?_
      exact k.out _ t5.wk
    have h6 := hh
    clear hh
    by_cases hh : a = 2097156
    · subst hh
      have e : s.load 2097156 4 = ((s.take 0).1, ((s.take 0).2 : Int), true) := by unfold PlS.load; rw [if_neg (not_not_intro hm)]; rfl
      rw [e] at k
      clear e
      have hp : (s.take 0).2 ≤ 31 := by have := s.best_le 0; unfold PlS.take; split <;> (try split) <;> simp <;> first | exact this | omega
      have hsl := hgl
      clear hgl hgn hgo
      have hgl := (s.take 0).1.r_size
      have hgn := (s.take 0).1.ref_len
      have hgo := (s.take 0).1.r_one
      obtain ⟨G, hG⟩ : ∃ G, (s.take 0).1.ref = G := ⟨_, rfl⟩
      rw [hG] at hgl hgn hgo k
      obtain ⟨q, hq⟩ : ∃ q, (s.take 0).2 = q := ⟨_, rfl⟩
      rw [hq] at hp k
      rw [hL] at t1 hsl ⊢
      replace k := aside k
      clear t
      replace hG := aside hG
      replace hgl := aside hgl
      replace hgn := aside hgn
      replace hgo := aside hgo
      replace hmd := aside hmd
      replace hsl := aside hsl
      replace hm := aside hm
      go_enter Try.func117, Try.ntmps117
      go_wp2_with fail
      refine c_r12May 2097156 4 (by omega) (by omega) ?_
      rw [hmd.out]
      go_wp2_with (refine wpList_loadS rfl 104 (.tmp 3) rfl Z 0 rfl t1 Try.underlying104 rfl hsl.out ?_)
      go_wp2_with fail
      rw [← hL] at t1 ⊢
      refine c_rpTake t1 0 (by omega) ?_
      rw [hq, hG.out]
      intro w2 t3
      rw [hL] at t3
      clear t1 hZ
      have t4 := t3.alloc (c := plZero) (t := 104)
      rw [plZero_eq, hLZ.out] at t4
      obtain ⟨Y, hY⟩ : ∃ Y, w2.heap.size = Y := ⟨_, rfl⟩
      rw [hY] at t4
      clear t3
      replace hL := aside hL
      replace hq := aside hq
      go_wp2_with (first
        | (refine wpList_storeS rfl 104 (.tmp 9) (.tmp 77) rfl Y 0 rfl rfl t4 (by rw [hlz.out, hgn.out]; decide) hgl.out hgo.out ?_; intro w6 t6; rw [setR_all (by rw [hlz.out, hgn.out])] at t6)
        | (refine wpList_loadS rfl 104 (.tmp 9) rfl Y 0 rfl t6 Try.underlying104 rfl hgl.out ?_)
        | (refine wpList_storeS rfl 104 (.tmp 6) (.tmp 79) rfl (Z + 1) 0 rfl rfl (Sat.pull (h := cellsH ⟨Z + 1, 0, none⟩ LZ) t6) (by rw [hlz.out, hgn.out]; decide) hgl.out hgo.out ?_; intro w9 t9; rw [setR_all (by rw [hlz.out, hgn.out])] at t9))
      refine bodyPost_ret (results_S3 Try.results117 _ (Z + 1) rfl rfl rfl t9 Try.underlying104 rfl hgl.out) rfl ?_
      exact k.out _ t9.wk
    have h7 := hh
    clear hh
    by_cases hh : a = 2101252
    · subst hh
      have e : s.load 2101252 4 = ((s.take 1).1, ((s.take 1).2 : Int), true) := by unfold PlS.load; rw [if_neg (not_not_intro hm)]; rfl
      rw [e] at k
      clear e
      have hp : (s.take 1).2 ≤ 31 := by have := s.best_le 1; unfold PlS.take; split <;> (try split) <;> simp <;> first | exact this | omega
      have hsl := hgl
      clear hgl hgn hgo
      have hgl := (s.take 1).1.r_size
      have hgn := (s.take 1).1.ref_len
      have hgo := (s.take 1).1.r_one
      obtain ⟨G, hG⟩ : ∃ G, (s.take 1).1.ref = G := ⟨_, rfl⟩
      rw [hG] at hgl hgn hgo k
      obtain ⟨q, hq⟩ : ∃ q, (s.take 1).2 = q := ⟨_, rfl⟩
      rw [hq] at hp k
      rw [hL] at t1 hsl ⊢
      replace k := aside k
      clear t
      replace hG := aside hG
      replace hgl := aside hgl
      replace hgn := aside hgn
      replace hgo := aside hgo
      replace hmd := aside hmd
      replace hsl := aside hsl
      replace hm := aside hm
      go_enter Try.func117, Try.ntmps117
      go_wp2_with fail
      refine c_r12May 2101252 4 (by omega) (by omega) ?_
      rw [hmd.out]
      go_wp2_with (refine wpList_loadS rfl 104 (.tmp 3) rfl Z 0 rfl t1 Try.underlying104 rfl hsl.out ?_)
      go_wp2_with fail
      rw [← hL] at t1 ⊢
      refine c_rpTake t1 1 (by omega) ?_
      rw [hq, hG.out]
      intro w2 t3
      rw [hL] at t3
      clear t1 hZ
      have t4 := t3.alloc (c := plZero) (t := 104)
      rw [plZero_eq, hLZ.out] at t4
      obtain ⟨Y, hY⟩ : ∃ Y, w2.heap.size = Y := ⟨_, rfl⟩
      rw [hY] at t4
      clear t3
      replace hL := aside hL
      replace hq := aside hq
      go_wp2_with (first
        | (refine wpList_storeS rfl 104 (.tmp 9) (.tmp 77) rfl Y 0 rfl rfl t4 (by rw [hlz.out, hgn.out]; decide) hgl.out hgo.out ?_; intro w6 t6; rw [setR_all (by rw [hlz.out, hgn.out])] at t6)
        | (refine wpList_loadS rfl 104 (.tmp 9) rfl Y 0 rfl t6 Try.underlying104 rfl hgl.out ?_)
        | (refine wpList_storeS rfl 104 (.tmp 6) (.tmp 79) rfl (Z + 1) 0 rfl rfl (Sat.pull (h := cellsH ⟨Z + 1, 0, none⟩ LZ) t6) (by rw [hlz.out, hgn.out]; decide) hgl.out hgo.out ?_; intro w9 t9; rw [setR_all (by rw [hlz.out, hgn.out])] at t9))
      refine bodyPost_ret (results_S3 Try.results117 _ (Z + 1) rfl rfl rfl t9 Try.underlying104 rfl hgl.out) rfl ?_
      exact k.out _ t9.wk
    · have e : s.load a 4 = (s, 0, true) := by
        unfold PlS.load; rw [if_neg (not_not_intro hm), if_neg h1, if_neg h2, if_neg h3, if_neg h4, if_neg h5, if_neg h6, if_neg h7, if_neg hh]
      rw [e] at k
      clear e
      rw [hL] at t1 hgl hgn hgo k ⊢
      replace k := aside k
      have d2 : (a == 4096) = false := by rw [beq_eq_false_iff_ne]; exact h2
      have d3 : (a == 8192) = false := by rw [beq_eq_false_iff_ne]; exact h3
      have d4 : (a == 8320) = false := by rw [beq_eq_false_iff_ne]; exact h4
      have d5 : (a == 2097152) = false := by rw [beq_eq_false_iff_ne]; exact h5
      have d6 : (a == 2101248) = false := by rw [beq_eq_false_iff_ne]; exact h6
      have d7 : (a == 2097156) = false := by rw [beq_eq_false_iff_ne]; exact h7
      have d8 : (a == 2101252) = false := by rw [beq_eq_false_iff_ne]; exact hh
      clear t h2 h3 h4 h5 h6 h7 hh
      replace hL := aside hL
      replace hgl := aside hgl
      replace hgn := aside hgn
      replace hgo := aside hgo
      replace hmd := aside hmd
      replace hm := aside hm
      go_enter Try.func117, Try.ntmps117
      go_wp2_with fail
      refine c_r12May a 4 (by omega) (by omega) ?_
      rw [hmd.out]
      go_wp2_with (first
        | (refine wpList_loadS rfl 104 (.tmp 3) rfl Z 0 rfl t1 Try.underlying104 rfl hgl.out ?_)
        | (refine wpList_storeS rfl 104 (.tmp 6) (.tmp 82) rfl (Z + 1) 0 rfl rfl t1.swap (by rw [hlz.out, hgn.out]; decide) hgl.out hgo.out ?_; intro w9 t9; rw [setR_all (by rw [hlz.out, hgn.out])] at t9))
      refine bodyPost_ret (results_S3 Try.results117 _ (Z + 1) rfl rfl rfl t9 Try.underlying104 rfl hgl.out) rfl ?_
      exact k.out _ t9.wk
  · have e : s.load a n = (s, 0, false) := by unfold PlS.load; rw [if_pos hm]
    rw [e] at k
    clear e
    have hgl := s.r_size
    have hgn := s.ref_len
    have hgo := s.r_one
    rw [hL] at t1 hgl hgn hgo k ⊢
    replace k := aside k
    have hmd : decide (mayP a n) = false := decide_eq_false hm
    clear t hm
    replace hL := aside hL
    replace hgl := aside hgl
    replace hgn := aside hgn
    replace hgo := aside hgo
    replace hmd := aside hmd
    go_enter Try.func117, Try.ntmps117
    go_wp2_with fail
    refine c_r12May a n (by omega) (by omega) ?_
    rw [hmd.out]
    go_wp2_with (first
      | (refine wpList_loadS rfl 104 (.tmp 3) rfl Z 0 rfl t1 Try.underlying104 rfl hgl.out ?_)
      | (refine wpList_storeS rfl 104 (.tmp 6) (.tmp 15) rfl (Z + 1) 0 rfl rfl t1.swap (by rw [hlz.out, hgn.out]; decide) hgl.out hgo.out ?_; intro w9 t9; rw [setR_all (by rw [hlz.out, hgn.out])] at t9))
    refine bodyPost_ret (results_S3 Try.results117 _ (Z + 1) rfl rfl rfl t9 Try.underlying104 rfl hgl.out) rfl ?_
    exact k.out _ t9.wk
end
end Go.Proofs.Ytohccblfnjampaa
