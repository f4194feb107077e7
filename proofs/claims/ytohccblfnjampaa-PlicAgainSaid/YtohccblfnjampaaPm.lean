/-
  PLIC: two states compared.
-/
import Derived.Test.YtohccblfnjampaaPl
namespace Go.Proofs.Ytohccblfnjampaa
open Go.RowKit
set_option linter.unusedVariables false
set_option linter.unusedSimpArgs false

set_option maxRecDepth 100000 in
theorem plc_size : (Try.prog.info? 98).map (·.size) = some 39 := by kernel_rfl

section
variable {R : Ending → World → Prop} {W0 w : World} {H : Hp} {A F : List Hp} {s : PlS}


set_option maxRecDepth 100000 in
set_option maxHeartbeats 4000000 in
theorem c_plSame (t : Sat W0 w H A) (k : ∀ w', Sat W0 w' H A → R (.returned (.bool true)) w') :
    Calls Try.prog 96 #[.agg s.enc.toArray, .agg s.ref.toArray] w R := by
  have t1 := (t.alloc (c := s.enc) (t := 98)).alloc (c := s.ref) (t := 104)
  obtain ⟨Z, hZ⟩ : ∃ Z, w.heap.size = Z := ⟨_, rfl⟩
  simp only [World.size_alloc] at t1
  rw [hZ] at t1
  have hP : ∀ i, i < 32 → s.ref[i]? = some (.int .i64 (s.p i)) := fun i h => s.rP h
  have hE : ∀ i, i < 32 → s.enc[i]? = some (.int .u32 (s.p i)) := fun i h => s.enc_p h
  have hpb := s.p_bd
  have hsl := s.r_size
  have eH := s.eH
  have eW := s.eW
  have eS := s.eS
  obtain ⟨XH, hXH⟩ : ∃ x, wn s.high = x := ⟨_, rfl⟩
  obtain ⟨XW, hXW⟩ : ∃ x, wn s.waits = x := ⟨_, rfl⟩
  obtain ⟨XS, hXS⟩ : ∃ x, wn s.serving = x := ⟨_, rfl⟩
  rw [hXH] at eH
  rw [hXW] at eW
  rw [hXS] at eS
  obtain ⟨MH, hMH⟩ : ∃ x, mk32 s.high = x := ⟨_, rfl⟩
  obtain ⟨MW, hMW⟩ : ∃ x, mk32 s.waits = x := ⟨_, rfl⟩
  obtain ⟨MS, hMS⟩ : ∃ x, mk32 s.serving = x := ⟨_, rfl⟩
  have zH : (Try.prog.info? 100).map (·.size) = some MH.length := by rw [← hMH, mk32_len]; exact mk_size
  have zW : (Try.prog.info? 100).map (·.size) = some MW.length := by rw [← hMW, mk32_len]; exact mk_size
  have zS : (Try.prog.info? 100).map (·.size) = some MS.length := by rw [← hMS, mk32_len]; exact mk_size
  have rH : ∀ w' : World, w'.rangeAt (Z + 1) 0 s.ref → w'.rangeAt (Z + 1) 32 MH := fun w' h j v hv => by
    have hj : j < 32 := by have := (List.getElem?_eq_some_iff.1 hv).1; rw [← hMH, mk32_len] at this; exact this
    rw [← hMH, mk32_at _ hj] at hv
    have h2 := h (32 + j) v (by rw [s.rH hj]; exact hv)
    rwa [Nat.zero_add] at h2
  have rW : ∀ w' : World, w'.rangeAt (Z + 1) 0 s.ref → w'.rangeAt (Z + 1) 64 MW := fun w' h j v hv => by
    have hj : j < 32 := by have := (List.getElem?_eq_some_iff.1 hv).1; rw [← hMW, mk32_len] at this; exact this
    rw [← hMW, mk32_at _ hj] at hv
    have h2 := h (64 + j) v (by rw [s.rW hj]; exact hv)
    rwa [Nat.zero_add] at h2
  have rS : ∀ w' : World, w'.rangeAt (Z + 1) 0 s.ref → w'.rangeAt (Z + 1) 96 MS := fun w' h j v hv => by
    have hj : j < 32 := by have := (List.getElem?_eq_some_iff.1 hv).1; rw [← hMS, mk32_len] at this; exact this
    rw [← hMS, mk32_at _ hj] at hv
    have h2 := h (96 + j) v (by rw [s.rS hj]; exact hv)
    rwa [Nat.zero_add] at h2
  have bH := wn_bd s.high
  have bW := wn_bd s.waits
  have bS := wn_bd s.serving
  rw [hXH] at bH
  rw [hXW] at bW
  rw [hXS] at bS
  have lR : ∀ c, c < 2 → ∀ w' : World, w'.rangeAt (Z + 1) 0 s.ref → w'.rangeAt (Z + 1) (128 + c * 32) (mk32 (s.lets c)) := fun c hc w' h j v hv => by
    have hj : j < 32 := by have := (List.getElem?_eq_some_iff.1 hv).1; rw [mk32_len] at this; exact this
    rw [mk32_at _ hj] at hv
    have h2 := h (128 + c * 32 + j) v (by rw [s.rL hc hj]; exact hv)
    rwa [Nat.zero_add] at h2
  have lE : ∀ c, c < 2 → s.enc[35 + c]? = some (.int .u32 (wn (s.lets c))) := fun c hc => s.eLc hc
  have lF : ∀ c, c < 2 → s.enc[37 + c]? = some (.int .u32 (s.least c)) := fun c hc => s.eEc hc
  have lG : ∀ c, c < 2 → s.ref[192 + c]? = some (.int .i64 (s.least c)) := fun c hc => s.rE hc
  have hlb := s.least_bd
  obtain ⟨L, hL⟩ : ∃ L, s.ref = L := ⟨_, rfl⟩
  obtain ⟨C, hC⟩ : ∃ C, s.enc = C := ⟨_, rfl⟩
  rw [hL] at t1 hP hsl rH rW rS lR lG ⊢
  rw [hC] at t1 hE eH eW eS lE lF ⊢
  obtain ⟨p, hp⟩ : ∃ p, s.p = p := ⟨_, rfl⟩
  rw [hp] at hP hE hpb
  replace k := aside k
  clear t
  replace hL := aside hL
  replace hC := aside hC
  replace hp := aside hp
  replace hP := aside hP
  replace hE := aside hE
  replace hpb := aside hpb
  replace hsl := aside hsl
  replace eH := aside eH
  replace eW := aside eW
  replace eS := aside eS
  replace hXH := aside hXH
  replace hXW := aside hXW
  replace hXS := aside hXS
  replace hMH := aside hMH
  replace hMW := aside hMW
  replace hMS := aside hMS
  replace zH := aside zH
  replace zW := aside zW
  replace zS := aside zS
  replace rH := aside rH
  replace rW := aside rW
  replace rS := aside rS
  replace lR := aside lR
  replace lE := aside lE
  replace lF := aside lF
  replace lG := aside lG
  replace hlb := aside hlb
  go_enter Try.func96, Try.ntmps96
  go_wp2
  go_loopg [5] 32 (fun q v5 w' => ∃ n : Nat, q + n = 32 ∧ v5 = .int .i64 n ∧ Sat W0 w' H (cellsH ⟨Z + 1, 0, none⟩ L :: cellsH ⟨Z, 0, none⟩ C :: A))
  case atStart => exact ⟨0, rfl, rfl, t1⟩
  clear t1
  case round =>
    obtain ⟨n, hq, rfl, t⟩ := hrel
    by_cases hn : n < 32
    · have y1 := (t.c n (hP.out n hn)).1
      have y2 := (t.swap.c n (hE.out n hn)).1
      simp only [Nat.zero_add] at y1 y2
      have i1 : (0 : Int) ≤ n ∧ (n : Int) < 32 := by omega
      have hb := hpb.out n
      obtain ⟨P, hPP⟩ : ∃ P, p n = P := ⟨_, rfl⟩
      rw [hPP] at hb y1 y2
      have e9 : IntKind.i64.wrap P = P := by simp [IntKind.wrap, IntKind.bits, IntKind.signed]; omega
      replace hq := aside hq
      replace hPP := aside hPP
      go_wp2
      go_quiet (fail)
      go_wp2
      go_roundg (gk - 1)
      case measure => have := hq.out; omega
      case rel => exact ⟨n + 1, by have := hq.out; omega, by go_num, t.drewN _⟩
    · obtain rfl : n = 32 := by omega
      clear hq hn
      go_wp2
      have t2 := t.drew
      have y1 := (t2.swap.c 32 eH.out).1
      have y2 := (t2.swap.c 33 eW.out).1
      have y3 := (t2.swap.c 34 eS.out).1
      simp only [Nat.zero_add] at y1 y2 y3
      have e1 : IntKind.u64.wrap XH = XH := by rw [wrap_u64]; omega
      have e2 : IntKind.u64.wrap XW = XW := by rw [wrap_u64]; omega
      have e3 : IntKind.u64.wrap XS = XS := by rw [wrap_u64]; omega
      have hu := Try.underlying100
      have zH2 := zH.out
      have zW2 := zW.out
      have zS2 := zS.out
      have hAll : ∀ w', Sat W0 w' H (cellsH ⟨Z + 1, 0, none⟩ L :: cellsH ⟨Z, 0, none⟩ C :: A) → w'.rangeAt (Z + 1) 32 MH ∧ w'.rangeAt (Z + 1) 64 MW ∧ w'.rangeAt (Z + 1) 96 MS ∧ w'.cell? ⟨Z, 32, none⟩ = some (.int .u32 XH) ∧ w'.cell? ⟨Z, 33, none⟩ = some (.int .u32 XW) ∧ w'.cell? ⟨Z, 34, none⟩ = some (.int .u32 XS) := fun w' t' => by
        have z1 := (t'.swap.c 32 eH.out).1
        have z2 := (t'.swap.c 33 eW.out).1
        have z3 := (t'.swap.c 34 eS.out).1
        simp only [Nat.zero_add] at z1 z2 z3
        exact ⟨rH.out _ fun j v hv => (t'.c j hv).1, rW.out _ fun j v hv => (t'.c j hv).1, rS.out _ fun j v hv => (t'.c j hv).1, z1, z2, z3⟩
      have g2 := hAll _ t2
      replace hAll := aside hAll
      refine wp_region_held_drew (S := fun w' => w'.rangeAt (Z + 1) 32 MH ∧ w'.rangeAt (Z + 1) 64 MW ∧ w'.rangeAt (Z + 1) 96 MS ∧ w'.cell? ⟨Z, 32, none⟩ = some (.int .u32 XH) ∧ w'.cell? ⟨Z, 33, none⟩ = some (.int .u32 XW) ∧ w'.cell? ⟨Z, 34, none⟩ = some (.int .u32 XS)) (by kernel_rfl) g2 (fun hHeld => ?_)
      refine wpAnyH_take (i := 0) (v := ?_) rfl (by kernel_rfl) (by kernel_rfl) (by kernel_rfl) (fun _ _ _ h => h) (Or.inl ⟨by rfl, ?_⟩) (by assumption) ?_
      rotate_left
      · (intro w hSw; (try dsimp only at hSw); go_simp; try with_reducible rfl)
      try simp only [Act.put, List.getElem_toArray, List.getElem_cons_succ, List.getElem_cons_zero, List.setIfInBounds_toArray, List.set_cons_zero, List.set_cons_succ]
      refine wpAnyH_take (i := 1) (v := ?_) rfl (by kernel_rfl) (by kernel_rfl) (by kernel_rfl) (fun _ _ _ h => h) (Or.inl ⟨by rfl, ?_⟩) (by assumption) ?_
      rotate_left
      · (intro w hSw; (try dsimp only at hSw); go_simp; try with_reducible rfl)
      try simp only [Act.put, List.getElem_toArray, List.getElem_cons_succ, List.getElem_cons_zero, List.setIfInBounds_toArray, List.set_cons_zero, List.set_cons_succ]
      refine wpAnyH_take (i := 2) (v := ?_) rfl (by kernel_rfl) (by kernel_rfl) (by kernel_rfl) (fun _ _ _ h => h) (Or.inl ⟨by rfl, ?_⟩) (by assumption) ?_
      rotate_left
      · (intro w hSw; (try dsimp only at hSw); go_simp; try with_reducible rfl)
      try simp only [Act.put, List.getElem_toArray, List.getElem_cons_succ, List.getElem_cons_zero, List.setIfInBounds_toArray, List.set_cons_zero, List.set_cons_succ]
      refine wpAnyH_take (i := 3) (v := ?_) rfl (by kernel_rfl) (by kernel_rfl) (by kernel_rfl) (fun _ _ _ h => h) (Or.inl ⟨by rfl, ?_⟩) (by assumption) ?_
      rotate_left
      · (intro w hSw; (try dsimp only at hSw); go_simp; try with_reducible rfl)
      try simp only [Act.put, List.getElem_toArray, List.getElem_cons_succ, List.getElem_cons_zero, List.setIfInBounds_toArray, List.set_cons_zero, List.set_cons_succ]
      refine wpAnyH_take (i := 4) rfl (by kernel_rfl) (by kernel_rfl) (by kernel_rfl) (fun _ _ _ h => h) (yieldsIf_load_mid (by rfl) _ _ rfl (Z + 1) 32 rfl MH _ (fun w hSw => hSw.1) Try.underlying100 rfl zH2) (by assumption) ?_
      try simp only [Act.put, List.getElem_toArray, List.getElem_cons_succ, List.getElem_cons_zero, List.setIfInBounds_toArray, List.set_cons_zero, List.set_cons_succ]
      refine wpAnyH_ready (rs := [5]) (by kernel_rfl) (by simp) ?_
      refine AllReadyH.cons rfl (fun K hK => ?_) AllReadyH.nil
      try simp only [List.getElem_toArray, List.getElem_cons_succ, List.getElem_cons_zero]
      rw [if_pos (by rfl)]
      go_simp
      refine c_r12WordL t2 s.high hMH.out hXH.out ?_
      intro w3 t3
      go_wp2_with fail
      refine hK.out _ _ (hAll.out _ t3) (fun hHeld => ?_)
      clear hK K
      try simp only [Act.put, List.getElem_toArray, List.getElem_cons_succ, List.getElem_cons_zero, List.setIfInBounds_toArray, List.set_cons_zero, List.set_cons_succ]
      refine wpAnyH_take (i := 6) (v := ?_) rfl (by kernel_rfl) (by kernel_rfl) (by kernel_rfl) (fun _ _ _ h => h) (Or.inl ⟨by rfl, ?_⟩) (by assumption) ?_
      rotate_left
      · (intro w hSw; (try dsimp only at hSw); go_simp; try with_reducible rfl)
      try simp only [Act.put, List.getElem_toArray, List.getElem_cons_succ, List.getElem_cons_zero, List.setIfInBounds_toArray, List.set_cons_zero, List.set_cons_succ]
      refine wpAnyH_take (i := 7) (v := ?_) rfl (by kernel_rfl) (by kernel_rfl) (by kernel_rfl) (fun _ _ _ h => h) (Or.inl ⟨by rfl, ?_⟩) (by assumption) ?_
      rotate_left
      · (intro w hSw; (try dsimp only at hSw); go_simp; try with_reducible rfl)
      try simp only [Act.put, List.getElem_toArray, List.getElem_cons_succ, List.getElem_cons_zero, List.setIfInBounds_toArray, List.set_cons_zero, List.set_cons_succ]
      refine wpAnyH_take (i := 8) (v := ?_) rfl (by kernel_rfl) (by kernel_rfl) (by kernel_rfl) (fun _ _ _ h => h) (Or.inl ⟨by rfl, ?_⟩) (by assumption) ?_
      rotate_left
      · (intro w hSw; (try dsimp only at hSw); go_simp; try with_reducible rfl)
      try simp only [Act.put, List.getElem_toArray, List.getElem_cons_succ, List.getElem_cons_zero, List.setIfInBounds_toArray, List.set_cons_zero, List.set_cons_succ]
      refine wpAnyH_take (i := 9) (v := ?_) rfl (by kernel_rfl) (by kernel_rfl) (by kernel_rfl) (fun _ _ _ h => h) (Or.inl ⟨by rfl, ?_⟩) (by assumption) ?_
      rotate_left
      · (intro w hSw; (try dsimp only at hSw); go_simp; try with_reducible rfl)
      try simp only [Act.put, List.getElem_toArray, List.getElem_cons_succ, List.getElem_cons_zero, List.setIfInBounds_toArray, List.set_cons_zero, List.set_cons_succ]
      refine wpAnyH_take (i := 10) (v := ?_) rfl (by kernel_rfl) (by kernel_rfl) (by kernel_rfl) (fun _ _ _ h => h) (Or.inl ⟨by rfl, ?_⟩) (by assumption) ?_
      rotate_left
      · (intro w hSw; (try dsimp only at hSw); go_simp; try with_reducible rfl)
      try simp only [Act.put, List.getElem_toArray, List.getElem_cons_succ, List.getElem_cons_zero, List.setIfInBounds_toArray, List.set_cons_zero, List.set_cons_succ]
      refine wpAnyH_take (i := 11) (v := ?_) rfl (by kernel_rfl) (by kernel_rfl) (by kernel_rfl) (fun _ _ _ h => h) (Or.inl ⟨by rfl, ?_⟩) (by assumption) ?_
      rotate_left
      · (intro w hSw; (try dsimp only at hSw); go_simp; try with_reducible rfl)
      try simp only [Act.put, List.getElem_toArray, List.getElem_cons_succ, List.getElem_cons_zero, List.setIfInBounds_toArray, List.set_cons_zero, List.set_cons_succ]
      refine wpAnyH_take (i := 12) rfl (by kernel_rfl) (by kernel_rfl) (by kernel_rfl) (fun _ _ _ h => h) (yieldsIf_load_mid (by rfl) _ _ rfl (Z + 1) 64 rfl MW _ (fun w hSw => hSw.2.1) Try.underlying100 rfl zW2) (by assumption) ?_
      try simp only [Act.put, List.getElem_toArray, List.getElem_cons_succ, List.getElem_cons_zero, List.setIfInBounds_toArray, List.set_cons_zero, List.set_cons_succ]
      refine wpAnyH_ready (rs := [13]) (by kernel_rfl) (by simp) ?_
      refine AllReadyH.cons rfl (fun K hK => ?_) AllReadyH.nil
      try simp only [List.getElem_toArray, List.getElem_cons_succ, List.getElem_cons_zero]
      rw [if_pos (by rfl)]
      go_simp
      refine c_r12WordL t3 s.waits hMW.out hXW.out ?_
      intro w4 t4
      go_wp2_with fail
      refine hK.out _ _ (hAll.out _ t4) (fun hHeld => ?_)
      clear hK K
      try simp only [Act.put, List.getElem_toArray, List.getElem_cons_succ, List.getElem_cons_zero, List.setIfInBounds_toArray, List.set_cons_zero, List.set_cons_succ]
      refine wpAnyH_take (i := 14) (v := ?_) rfl (by kernel_rfl) (by kernel_rfl) (by kernel_rfl) (fun _ _ _ h => h) (Or.inl ⟨by rfl, ?_⟩) (by assumption) ?_
      rotate_left
      · (intro w hSw; (try dsimp only at hSw); go_simp; try with_reducible rfl)
      try simp only [Act.put, List.getElem_toArray, List.getElem_cons_succ, List.getElem_cons_zero, List.setIfInBounds_toArray, List.set_cons_zero, List.set_cons_succ]
      refine wpAnyH_take (i := 15) (v := ?_) rfl (by kernel_rfl) (by kernel_rfl) (by kernel_rfl) (fun _ _ _ h => h) (Or.inl ⟨by rfl, ?_⟩) (by assumption) ?_
      rotate_left
      · (intro w hSw; (try dsimp only at hSw); go_simp; try with_reducible rfl)
      try simp only [Act.put, List.getElem_toArray, List.getElem_cons_succ, List.getElem_cons_zero, List.setIfInBounds_toArray, List.set_cons_zero, List.set_cons_succ]
      refine wpAnyH_take (i := 16) (v := ?_) rfl (by kernel_rfl) (by kernel_rfl) (by kernel_rfl) (fun _ _ _ h => h) (Or.inl ⟨by rfl, ?_⟩) (by assumption) ?_
      rotate_left
      · (intro w hSw; (try dsimp only at hSw); go_simp; try with_reducible rfl)
      try simp only [Act.put, List.getElem_toArray, List.getElem_cons_succ, List.getElem_cons_zero, List.setIfInBounds_toArray, List.set_cons_zero, List.set_cons_succ]
      refine wpAnyH_take (i := 17) (v := ?_) rfl (by kernel_rfl) (by kernel_rfl) (by kernel_rfl) (fun _ _ _ h => h) (Or.inl ⟨by rfl, ?_⟩) (by assumption) ?_
      rotate_left
      · (intro w hSw; (try dsimp only at hSw); go_simp; try with_reducible rfl)
      try simp only [Act.put, List.getElem_toArray, List.getElem_cons_succ, List.getElem_cons_zero, List.setIfInBounds_toArray, List.set_cons_zero, List.set_cons_succ]
      refine wpAnyH_take (i := 18) (v := ?_) rfl (by kernel_rfl) (by kernel_rfl) (by kernel_rfl) (fun _ _ _ h => h) (Or.inl ⟨by rfl, ?_⟩) (by assumption) ?_
      rotate_left
      · (intro w hSw; (try dsimp only at hSw); go_simp; try with_reducible rfl)
      try simp only [Act.put, List.getElem_toArray, List.getElem_cons_succ, List.getElem_cons_zero, List.setIfInBounds_toArray, List.set_cons_zero, List.set_cons_succ]
      refine wpAnyH_take (i := 19) (v := ?_) rfl (by kernel_rfl) (by kernel_rfl) (by kernel_rfl) (fun _ _ _ h => h) (Or.inl ⟨by rfl, ?_⟩) (by assumption) ?_
      rotate_left
      · (intro w hSw; (try dsimp only at hSw); go_simp; try with_reducible rfl)
      try simp only [Act.put, List.getElem_toArray, List.getElem_cons_succ, List.getElem_cons_zero, List.setIfInBounds_toArray, List.set_cons_zero, List.set_cons_succ]
      refine wpAnyH_take (i := 20) (v := ?_) rfl (by kernel_rfl) (by kernel_rfl) (by kernel_rfl) (fun _ _ _ h => h) (Or.inl ⟨by rfl, ?_⟩) (by assumption) ?_
      rotate_left
      · (intro w hSw; (try dsimp only at hSw); go_simp; try with_reducible rfl)
      try simp only [Act.put, List.getElem_toArray, List.getElem_cons_succ, List.getElem_cons_zero, List.setIfInBounds_toArray, List.set_cons_zero, List.set_cons_succ]
      refine wpAnyH_take (i := 21) rfl (by kernel_rfl) (by kernel_rfl) (by kernel_rfl) (fun _ _ _ h => h) (yieldsIf_load_mid (by rfl) _ _ rfl (Z + 1) 96 rfl MS _ (fun w hSw => hSw.2.2.1) Try.underlying100 rfl zS2) (by assumption) ?_
      try simp only [Act.put, List.getElem_toArray, List.getElem_cons_succ, List.getElem_cons_zero, List.setIfInBounds_toArray, List.set_cons_zero, List.set_cons_succ]
      refine wpAnyH_ready (rs := [22]) (by kernel_rfl) (by simp) ?_
      refine AllReadyH.cons rfl (fun K hK => ?_) AllReadyH.nil
      try simp only [List.getElem_toArray, List.getElem_cons_succ, List.getElem_cons_zero]
      rw [if_pos (by rfl)]
      go_simp
      refine c_r12WordL t4 s.serving hMS.out hXS.out ?_
      intro w5 t5
      go_wp2_with fail
      refine hK.out _ _ (hAll.out _ t5) (fun hHeld => ?_)
      clear hK K
      try simp only [Act.put, List.getElem_toArray, List.getElem_cons_succ, List.getElem_cons_zero, List.setIfInBounds_toArray, List.set_cons_zero, List.set_cons_succ]
      refine wpAnyH_take (i := 23) (v := ?_) rfl (by kernel_rfl) (by kernel_rfl) (by kernel_rfl) (fun _ _ _ h => h) (Or.inl ⟨by rfl, ?_⟩) (by assumption) ?_
      rotate_left
      · (intro w hSw; (try dsimp only at hSw); go_simp; try with_reducible rfl)
      try simp only [Act.put, List.getElem_toArray, List.getElem_cons_succ, List.getElem_cons_zero, List.setIfInBounds_toArray, List.set_cons_zero, List.set_cons_succ]
      refine wpAnyH_take (i := 24) (v := ?_) rfl (by kernel_rfl) (by kernel_rfl) (by kernel_rfl) (fun _ _ _ h => h) (Or.inl ⟨by rfl, ?_⟩) (by assumption) ?_
      rotate_left
      · (intro w hSw; (try dsimp only at hSw); go_simp; try with_reducible rfl)
      try simp only [Act.put, List.getElem_toArray, List.getElem_cons_succ, List.getElem_cons_zero, List.setIfInBounds_toArray, List.set_cons_zero, List.set_cons_succ]
      refine wpAnyH_done (by kernel_rfl) ?_ _
      clear t t2 t3 t4 g2 hAll y1 y2 y3 hHeld
      go_wp2
      go_loopg [6] 2 (fun q v6 w' => ∃ n : Nat, q + n = 2 ∧ v6 = .int .i64 n ∧ Sat W0 w' H (cellsH ⟨Z + 1, 0, none⟩ L :: cellsH ⟨Z, 0, none⟩ C :: A))
      case atStart => exact ⟨0, rfl, rfl, t5⟩
      clear t5
      case round =>
        obtain ⟨n, hq, rfl, t⟩ := hrel
        by_cases hn : n < 2
        · have t2 := t.drew
          have hML := lR.out n hn
          have hE1 := lE.out n hn
          have hE2 := lF.out n hn
          have hG1 := lG.out n hn
          have hb := hlb.out n
          have hwb := wn_bd (s.lets n)
          obtain ⟨M, hM⟩ : ∃ M, mk32 (s.lets n) = M := ⟨_, rfl⟩
          obtain ⟨X, hX⟩ : ∃ X, wn (s.lets n) = X := ⟨_, rfl⟩
          obtain ⟨E, hEE⟩ : ∃ E, s.least n = E := ⟨_, rfl⟩
          rw [hM] at hML
          rw [hX] at hE1 hwb
          rw [hEE] at hE2 hG1 hb
          have zM : (Try.prog.info? 100).map (·.size) = some M.length := by rw [← hM, mk32_len]; exact mk_size
          have e1 : IntKind.u64.wrap X = X := by rw [wrap_u64]; omega
          have e2 : IntKind.i64.wrap E = E := by simp [IntKind.wrap, IntKind.bits, IntKind.signed]; omega
          have i1 : (0 : Int) ≤ n ∧ (n : Int) < 2 := by omega
          have hAll : ∀ w', Sat W0 w' H (cellsH ⟨Z + 1, 0, none⟩ L :: cellsH ⟨Z, 0, none⟩ C :: A) → w'.rangeAt (Z + 1) (128 + n * 32) M ∧ w'.cell? ⟨Z, 35 + n, none⟩ = some (.int .u32 X) ∧ w'.cell? ⟨Z, 37 + n, none⟩ = some (.int .u32 E) ∧ w'.cell? ⟨Z + 1, 192 + n, none⟩ = some (.int .i64 E) := fun w' t' => by
            have z1 := (t'.swap.c (35 + n) hE1).1
            have z2 := (t'.swap.c (37 + n) hE2).1
            have z3 := (t'.c (192 + n) hG1).1
            simp only [Nat.zero_add] at z1 z2 z3
            exact ⟨hML _ fun j v hv => (t'.c j hv).1, z1, z2, z3⟩
          have g2 := hAll _ t2
          replace hAll := aside hAll
          replace hq := aside hq
          replace hM := aside hM
          replace hX := aside hX
          replace hEE := aside hEE
          replace hE1 := aside hE1
          replace hE2 := aside hE2
          replace hG1 := aside hG1
          replace hML := aside hML
          go_wp2
          refine wp_region_held_drew (S := fun w' => w'.rangeAt (Z + 1) (128 + n * 32) M ∧ w'.cell? ⟨Z, 35 + n, none⟩ = some (.int .u32 X) ∧ w'.cell? ⟨Z, 37 + n, none⟩ = some (.int .u32 E) ∧ w'.cell? ⟨Z + 1, 192 + n, none⟩ = some (.int .i64 E)) (by kernel_rfl) g2 (fun hHeld => ?_)
          refine wpAnyH_take (i := 0) (v := ?_) rfl (by kernel_rfl) (by kernel_rfl) (by kernel_rfl) (fun _ _ _ h => h) (Or.inl ⟨by rfl, ?_⟩) (by assumption) ?_
          rotate_left
          · (intro w hSw; (try dsimp only at hSw); go_simp; try with_reducible rfl)
          try simp only [Act.put, List.getElem_toArray, List.getElem_cons_succ, List.getElem_cons_zero, List.setIfInBounds_toArray, List.set_cons_zero, List.set_cons_succ]
          refine wpAnyH_take (i := 1) (v := ?_) rfl (by kernel_rfl) (by kernel_rfl) (by kernel_rfl) (fun _ _ _ h => h) (Or.inl ⟨by rfl, ?_⟩) (by assumption) ?_
          rotate_left
          · (intro w hSw; (try dsimp only at hSw); go_simp; try with_reducible rfl)
          try simp only [Act.put, List.getElem_toArray, List.getElem_cons_succ, List.getElem_cons_zero, List.setIfInBounds_toArray, List.set_cons_zero, List.set_cons_succ]
          refine wpAnyH_take (i := 2) (v := ?_) rfl (by kernel_rfl) (by kernel_rfl) (by kernel_rfl) (fun _ _ _ h => h) (Or.inl ⟨by rfl, ?_⟩) (by assumption) ?_
          rotate_left
          · (intro w hSw; (try dsimp only at hSw); go_simp; try with_reducible rfl)
          try simp only [Act.put, List.getElem_toArray, List.getElem_cons_succ, List.getElem_cons_zero, List.setIfInBounds_toArray, List.set_cons_zero, List.set_cons_succ]
          refine wpAnyH_take (i := 3) (v := ?_) rfl (by kernel_rfl) (by kernel_rfl) (by kernel_rfl) (fun _ _ _ h => h) (Or.inl ⟨by rfl, ?_⟩) (by assumption) ?_
          rotate_left
          · (intro w hSw; (try dsimp only at hSw); go_simp; try with_reducible rfl)
          try simp only [Act.put, List.getElem_toArray, List.getElem_cons_succ, List.getElem_cons_zero, List.setIfInBounds_toArray, List.set_cons_zero, List.set_cons_succ]
          refine wpAnyH_take (i := 4) (v := ?_) rfl (by kernel_rfl) (by kernel_rfl) (by kernel_rfl) (fun _ _ _ h => h) (Or.inl ⟨by rfl, ?_⟩) (by assumption) ?_
          rotate_left
          · (intro w hSw; (try dsimp only at hSw); go_simp; try with_reducible rfl)
          try simp only [Act.put, List.getElem_toArray, List.getElem_cons_succ, List.getElem_cons_zero, List.setIfInBounds_toArray, List.set_cons_zero, List.set_cons_succ]
          refine wpAnyH_take (i := 5) (v := ?_) rfl (by kernel_rfl) (by kernel_rfl) (by kernel_rfl) (fun _ _ _ h => h) (Or.inl ⟨by rfl, ?_⟩) (by assumption) ?_
          rotate_left
          · (intro w hSw; (try dsimp only at hSw); go_simp; try with_reducible rfl)
          try simp only [Act.put, List.getElem_toArray, List.getElem_cons_succ, List.getElem_cons_zero, List.setIfInBounds_toArray, List.set_cons_zero, List.set_cons_succ]
          refine wpAnyH_take (i := 6) (v := ?_) rfl (by kernel_rfl) (by kernel_rfl) (by kernel_rfl) (fun _ _ _ h => h) (Or.inl ⟨by rfl, ?_⟩) (by assumption) ?_
          rotate_left
          · (intro w hSw; (try dsimp only at hSw); go_simp; try with_reducible rfl)
          try simp only [Act.put, List.getElem_toArray, List.getElem_cons_succ, List.getElem_cons_zero, List.setIfInBounds_toArray, List.set_cons_zero, List.set_cons_succ]
          refine wpAnyH_take (i := 7) (v := ?_) rfl (by kernel_rfl) (by kernel_rfl) (by kernel_rfl) (fun _ _ _ h => h) (Or.inl ⟨by rfl, ?_⟩) (by assumption) ?_
          rotate_left
          · (intro w hSw; (try dsimp only at hSw); go_simp; try with_reducible rfl)
          try simp only [Act.put, List.getElem_toArray, List.getElem_cons_succ, List.getElem_cons_zero, List.setIfInBounds_toArray, List.set_cons_zero, List.set_cons_succ]
          refine wpAnyH_take (i := 8) rfl (by kernel_rfl) (by kernel_rfl) (by kernel_rfl) (fun _ _ _ h => h) (yieldsIf_load_mid (by rfl) _ _ rfl (Z + 1) (128 + n * 32) rfl M _ (fun w hSw => hSw.1) Try.underlying100 rfl zM) (by assumption) ?_
          try simp only [Act.put, List.getElem_toArray, List.getElem_cons_succ, List.getElem_cons_zero, List.setIfInBounds_toArray, List.set_cons_zero, List.set_cons_succ]
          refine wpAnyH_ready (rs := [9]) (by kernel_rfl) (by simp) ?_
          refine AllReadyH.cons rfl (fun K hK => ?_) AllReadyH.nil
          try simp only [List.getElem_toArray, List.getElem_cons_succ, List.getElem_cons_zero]
          rw [if_pos (by rfl)]
          go_simp
          refine c_r12WordL t2 (s.lets n) hM.out hX.out ?_
          intro w3 t3
          go_wp2_with fail
          refine hK.out _ _ (hAll.out _ t3) (fun hHeld => ?_)
          clear hK K
          try simp only [Act.put, List.getElem_toArray, List.getElem_cons_succ, List.getElem_cons_zero, List.setIfInBounds_toArray, List.set_cons_zero, List.set_cons_succ]
          refine wpAnyH_take (i := 10) (v := ?_) rfl (by kernel_rfl) (by kernel_rfl) (by kernel_rfl) (fun _ _ _ h => h) (Or.inl ⟨by rfl, ?_⟩) (by assumption) ?_
          rotate_left
          · (intro w hSw; (try dsimp only at hSw); go_simp; try with_reducible rfl)
          try simp only [Act.put, List.getElem_toArray, List.getElem_cons_succ, List.getElem_cons_zero, List.setIfInBounds_toArray, List.set_cons_zero, List.set_cons_succ]
          refine wpAnyH_take (i := 11) (v := ?_) rfl (by kernel_rfl) (by kernel_rfl) (by kernel_rfl) (fun _ _ _ h => h) (Or.inl ⟨by rfl, ?_⟩) (by assumption) ?_
          rotate_left
          · (intro w hSw; (try dsimp only at hSw); go_simp; try with_reducible rfl)
          try simp only [Act.put, List.getElem_toArray, List.getElem_cons_succ, List.getElem_cons_zero, List.setIfInBounds_toArray, List.set_cons_zero, List.set_cons_succ]
          refine wpAnyH_take (i := 12) (v := ?_) rfl (by kernel_rfl) (by kernel_rfl) (by kernel_rfl) (fun _ _ _ h => h) (Or.inl ⟨by rfl, ?_⟩) (by assumption) ?_
          rotate_left
          · (intro w hSw; (try dsimp only at hSw); go_simp; try with_reducible rfl)
          try simp only [Act.put, List.getElem_toArray, List.getElem_cons_succ, List.getElem_cons_zero, List.setIfInBounds_toArray, List.set_cons_zero, List.set_cons_succ]
          refine wpAnyH_take (i := 13) (v := ?_) rfl (by kernel_rfl) (by kernel_rfl) (by kernel_rfl) (fun _ _ _ h => h) (Or.inl ⟨by rfl, ?_⟩) (by assumption) ?_
          rotate_left
          · (intro w hSw; (try dsimp only at hSw); go_simp; try with_reducible rfl)
          try simp only [Act.put, List.getElem_toArray, List.getElem_cons_succ, List.getElem_cons_zero, List.setIfInBounds_toArray, List.set_cons_zero, List.set_cons_succ]
          refine wpAnyH_take (i := 14) (v := ?_) rfl (by kernel_rfl) (by kernel_rfl) (by kernel_rfl) (fun _ _ _ h => h) (Or.inl ⟨by rfl, ?_⟩) (by assumption) ?_
          rotate_left
          · (intro w hSw; (try dsimp only at hSw); go_simp; try with_reducible rfl)
          try simp only [Act.put, List.getElem_toArray, List.getElem_cons_succ, List.getElem_cons_zero, List.setIfInBounds_toArray, List.set_cons_zero, List.set_cons_succ]
          refine wpAnyH_take (i := 15) (v := ?_) rfl (by kernel_rfl) (by kernel_rfl) (by kernel_rfl) (fun _ _ _ h => h) (Or.inl ⟨by rfl, ?_⟩) (by assumption) ?_
          rotate_left
          · (intro w hSw; (try dsimp only at hSw); go_simp; try with_reducible rfl)
          try simp only [Act.put, List.getElem_toArray, List.getElem_cons_succ, List.getElem_cons_zero, List.setIfInBounds_toArray, List.set_cons_zero, List.set_cons_succ]
          refine wpAnyH_take (i := 16) (v := ?_) rfl (by kernel_rfl) (by kernel_rfl) (by kernel_rfl) (fun _ _ _ h => h) (Or.inl ⟨by rfl, ?_⟩) (by assumption) ?_
          rotate_left
          · (intro w hSw; (try dsimp only at hSw); go_simp; try with_reducible rfl)
          try simp only [Act.put, List.getElem_toArray, List.getElem_cons_succ, List.getElem_cons_zero, List.setIfInBounds_toArray, List.set_cons_zero, List.set_cons_succ]
          refine wpAnyH_take (i := 17) (v := ?_) rfl (by kernel_rfl) (by kernel_rfl) (by kernel_rfl) (fun _ _ _ h => h) (Or.inl ⟨by rfl, ?_⟩) (by assumption) ?_
          rotate_left
          · (intro w hSw; (try dsimp only at hSw); go_simp; try with_reducible rfl)
          try simp only [Act.put, List.getElem_toArray, List.getElem_cons_succ, List.getElem_cons_zero, List.setIfInBounds_toArray, List.set_cons_zero, List.set_cons_succ]
          refine wpAnyH_take (i := 18) (v := ?_) rfl (by kernel_rfl) (by kernel_rfl) (by kernel_rfl) (fun _ _ _ h => h) (Or.inl ⟨by rfl, ?_⟩) (by assumption) ?_
          rotate_left
          · (intro w hSw; (try dsimp only at hSw); go_simp; try with_reducible rfl)
          try simp only [Act.put, List.getElem_toArray, List.getElem_cons_succ, List.getElem_cons_zero, List.setIfInBounds_toArray, List.set_cons_zero, List.set_cons_succ]
          refine wpAnyH_take (i := 19) (v := ?_) rfl (by kernel_rfl) (by kernel_rfl) (by kernel_rfl) (fun _ _ _ h => h) (Or.inl ⟨by rfl, ?_⟩) (by assumption) ?_
          rotate_left
          · (intro w hSw; (try dsimp only at hSw); go_simp; try with_reducible rfl)
          try simp only [Act.put, List.getElem_toArray, List.getElem_cons_succ, List.getElem_cons_zero, List.setIfInBounds_toArray, List.set_cons_zero, List.set_cons_succ]
          refine wpAnyH_take (i := 20) (v := ?_) rfl (by kernel_rfl) (by kernel_rfl) (by kernel_rfl) (fun _ _ _ h => h) (Or.inl ⟨by rfl, ?_⟩) (by assumption) ?_
          rotate_left
          · (intro w hSw; (try dsimp only at hSw); go_simp; try with_reducible rfl)
          try simp only [Act.put, List.getElem_toArray, List.getElem_cons_succ, List.getElem_cons_zero, List.setIfInBounds_toArray, List.set_cons_zero, List.set_cons_succ]
          refine wpAnyH_take (i := 21) (v := ?_) rfl (by kernel_rfl) (by kernel_rfl) (by kernel_rfl) (fun _ _ _ h => h) (Or.inl ⟨by rfl, ?_⟩) (by assumption) ?_
          rotate_left
          · (intro w hSw; (try dsimp only at hSw); go_simp; try with_reducible rfl)
          try simp only [Act.put, List.getElem_toArray, List.getElem_cons_succ, List.getElem_cons_zero, List.setIfInBounds_toArray, List.set_cons_zero, List.set_cons_succ]
          refine wpAnyH_take (i := 22) (v := ?_) rfl (by kernel_rfl) (by kernel_rfl) (by kernel_rfl) (fun _ _ _ h => h) (Or.inl ⟨by rfl, ?_⟩) (by assumption) ?_
          rotate_left
          · (intro w hSw; (try dsimp only at hSw); go_simp; try with_reducible rfl)
          try simp only [Act.put, List.getElem_toArray, List.getElem_cons_succ, List.getElem_cons_zero, List.setIfInBounds_toArray, List.set_cons_zero, List.set_cons_succ]
          refine wpAnyH_done (by kernel_rfl) ?_ _
          clear t2 t hAll g2 hHeld
          go_wp2
          go_roundg (gk - 1)
          case measure => have := hq.out; omega
          case rel => exact ⟨n + 1, by have := hq.out; omega, by go_num, t3⟩
        · obtain rfl : n = 2 := by omega
          clear hq hn
          go_wp2
          have t2 := t.drew
          refine wp_region_held_drew (S := fun w' => w'.rangeAt (Z + 1) 0 L) (by kernel_rfl) (fun j v hv => (t2.c j hv).1) (fun hHeld => ?_)
          refine wpAnyH_take (i := 1) rfl (by kernel_rfl) (by kernel_rfl) (by kernel_rfl) (fun _ _ _ h => h) (yieldsIf_load_mid (by rfl) _ _ rfl (Z + 1) 0 rfl L _ (fun w hSw => hSw) Try.underlying104 rfl hsl.out) (by assumption) ?_
          try simp only [Act.put, List.getElem_toArray, List.getElem_cons_succ, List.getElem_cons_zero, List.setIfInBounds_toArray, List.set_cons_zero, List.set_cons_succ]
          refine wpAnyH_ready (rs := [0]) (by kernel_rfl) (by simp) ?_
          refine AllReadyH.cons rfl (fun K hK => ?_) AllReadyH.nil
          try simp only [List.getElem_toArray, List.getElem_cons_succ, List.getElem_cons_zero]
          rw [if_pos (by rfl)]
          go_simp
          have t2e := t2.swap
          rw [← hC.out] at t2e
          refine c_plLines t2e ?_
          intro w3 t3
          go_wp2_with fail
          refine hK.out _ _ (fun j v hv => ((Sat.pull (h := cellsH ⟨Z + 1, 0, none⟩ L) t3).c j hv).1) (fun hHeld => ?_)
          clear hK K
          try simp only [Act.put, List.getElem_toArray, List.getElem_cons_succ, List.getElem_cons_zero, List.setIfInBounds_toArray, List.set_cons_zero, List.set_cons_succ]
          refine wpAnyH_ready (rs := [2]) (by kernel_rfl) (by simp) ?_
          refine AllReadyH.cons rfl (fun K hK => ?_) AllReadyH.nil
          try simp only [List.getElem_toArray, List.getElem_cons_succ, List.getElem_cons_zero]
          rw [if_pos (by rfl)]
          go_simp
          rw [← hL.out]
          refine c_rpLines t3 ?_
          intro w4 t4
          go_wp2_with fail
          refine hK.out _ _ (fun j v hv => ((Sat.pull (h := cellsH ⟨Z + 1, 0, none⟩ L) t4).c j hv).1) (fun hHeld => ?_)
          clear hK K
          try simp only [Act.put, List.getElem_toArray, List.getElem_cons_succ, List.getElem_cons_zero, List.setIfInBounds_toArray, List.set_cons_zero, List.set_cons_succ]
          refine wpAnyH_take (i := 3) (v := ?_) rfl (by kernel_rfl) (by kernel_rfl) (by kernel_rfl) (fun _ _ _ h => h) (Or.inl ⟨by rfl, ?_⟩) (by assumption) ?_
          rotate_left
          · (intro w hSw; (try dsimp only at hSw); go_simp; try with_reducible rfl)
          try simp only [Act.put, List.getElem_toArray, List.getElem_cons_succ, List.getElem_cons_zero, List.setIfInBounds_toArray, List.set_cons_zero, List.set_cons_succ]
          refine wpAnyH_take (i := 4) (v := ?_) rfl (by kernel_rfl) (by kernel_rfl) (by kernel_rfl) (fun _ _ _ h => h) (Or.inl ⟨by rfl, ?_⟩) (by assumption) ?_
          rotate_left
          · (intro w hSw; (try dsimp only at hSw); go_simp; try with_reducible rfl)
          try simp only [Act.put, List.getElem_toArray, List.getElem_cons_succ, List.getElem_cons_zero, List.setIfInBounds_toArray, List.set_cons_zero, List.set_cons_succ]
          refine wpAnyH_done (by kernel_rfl) ?_ _
          go_wp2
          exact ret_b (k.out _ t4.wk) (by simp)
end
end Go.Proofs.Ytohccblfnjampaa
