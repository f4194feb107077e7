/-
  PLIC: a script played at both.
-/
import Derived.Test.YtohccblfnjampaaPo
namespace Go.Proofs.Ytohccblfnjampaa
open Go.RowKit
set_option linter.unusedVariables false
set_option linter.unusedSimpArgs false

section
variable {P : Program} {W0 w : World} {H : Hp} {F : List Hp}
theorem wpList_loadG {ops : Array Oper} {rest : List Oper} {op : Oper} {a : Act} {Q : Exit → Act → World → Prop} (hw : Region.wanted op (yielded ops a.tmps) = true) (ty : TypeId) (x : Operand) (ho : op.op = .load ty x)
    (b o : Nat) (hx : a.eval x = .pointer (some ⟨b, o, none⟩)) {cs : List Value} {d : TypeDesc} (s : Sat W0 w H (cellsH ⟨b, o, none⟩ cs :: F))
    (hu : P.underlying ty = some d) (hd : d.isRow = true) (hi : (P.info? ty).map (·.size) = some cs.length)
    (h : wpList P ops Q rest (a.put op.dst (.agg cs.toArray)) w) : wpList P ops Q (op :: rest) a w :=
  BigFrame.wpList_want hw fun _ hK => wp_load_mid ty x ho b o hx cs d (fun j v hv => (s.c j hv).1) hu hd hi (hK _ _ h)
end

theorem results_SS {P : Program} {W0 w : World} {H : Hp} {F F2 : List Hp} {fn : Func} {p q u : Tmp} {ty ty2 : TypeId} (h : fn.results = #[.cell p ty, .cell q ty2, .tmp u]) (tmps : Array Value) (b c : Nat) {cs ds : List Value} {d d2 : TypeDesc} {x : Value}
    (hp : tmps.getD p undef = .pointer (some ⟨b, 0, none⟩)) (hq : tmps.getD q undef = .pointer (some ⟨c, 0, none⟩)) (hx : tmps.getD u undef = x) (s : Sat W0 w H (cellsH ⟨b, 0, none⟩ cs :: F)) (s2 : Sat W0 w H (cellsH ⟨c, 0, none⟩ ds :: F2))
    (hu : P.underlying ty = some d) (hd : d.isRow = true) (hi : (P.info? ty).map (·.size) = some cs.length) (hu2 : P.underlying ty2 = some d2) (hd2 : d2.isRow = true) (hi2 : (P.info? ty2).map (·.size) = some ds.length) :
    (results fn tmps).run P w = .ok (.tuple #[.agg cs.toArray, .agg ds.toArray, x]) w := by
  have hp' : tmps[p]?.getD undef = .pointer (some ⟨b, 0, none⟩) := by simpa using hp
  have hq' : tmps[q]?.getD undef = .pointer (some ⟨c, 0, none⟩) := by simpa using hq
  have hx' : tmps[u]?.getD undef = x := by simpa using hx
  have hl := run_loadVar_mid (P := P) w b 0 ty cs d (fun j v hv => (s.c j hv).1) hu hd hi
  have hl2 := run_loadVar_mid (P := P) w c 0 ty2 ds d2 (fun j v hv => (s2.c j hv).1) hu2 hd2 hi2
  simp [results, h, hp', hq', hx', asAddr, hl, hl2]

theorem PlS.c_size (s : PlS) : (Try.prog.info? 98).map (·.size) = some s.enc.length := by rw [s.enc_len]; exact plc_size
theorem PlS.c_one (s : PlS) : ∀ v ∈ s.enc, v.oneCell' = true := by
  intro v hv
  unfold PlS.enc at hv
  rcases List.mem_append.1 hv with h | h
  · exact one_map (f := Value.int .u32) (fun _ => rfl) _ v h
  · simp at h; rcases h with rfl | rfl | rfl | rfl | rfl | rfl | rfl <;> rfl

section
variable {R : Ending → World → Prop} {W0 w : World} {H : Hp} {A F : List Hp} {s : PlS} {C L : List Value}

theorem c_plSameL (t : Sat W0 w H A) (hC : s.enc = C) (hL : s.ref = L) (k : ∀ w', Sat W0 w' H A → R (.returned (.bool true)) w') :
    Calls Try.prog 96 #[.agg C.toArray, .agg L.toArray] w R := by
  subst hC hL; exact c_plSame t k
theorem c_plDoL {b o : Nat} {C2 L2 vs : List Value} (t : Sat W0 w H (cellsH ⟨b, o, none⟩ C :: A)) (hC : s.enc = C) (hL : s.ref = L) (q : OpP) (hq : q.vals = vs) (hC2 : (s.step q).enc = C2) (hL2 : (s.step q).ref = L2)
    (k : ∀ w', Sat W0 w' H (cellsH ⟨b, o, none⟩ C2 :: A) → R (.returned (.tuple #[.agg L2.toArray, .bool true])) w') :
    Calls Try.prog 95 #[.pointer (some ⟨b, o, none⟩), .agg L.toArray, .agg vs.toArray] w R := by
  subst hC hL hq hC2 hL2; exact c_plDo t q k


set_option maxRecDepth 100000 in
set_option maxHeartbeats 4000000 in
theorem c_plPlayed {v : Value} {qs : List OpP} (t : Sat W0 w H A) (rq : Rd opPE 6 H v qs) (k : ∀ (S : PlS) w', Sat W0 w' H A → R (.returned (.tuple #[.agg S.enc.toArray, .agg S.ref.toArray, .bool true])) w') :
    Calls Try.prog 53 #[v] w R := by
  obtain ⟨B, c, rfl, hc, hc2, hat⟩ := rq
  have t1 := (((t.alloc (c := pl0.enc) (t := 98)).alloc (c := pl0.ref) (t := 104)).alloc (c := pl0.enc) (t := 98)).alloc (c := pl0.ref) (t := 104)
  rw [pl0_enc, pl0_ref] at t1
  obtain ⟨Z, hZ⟩ : ∃ Z, w.heap.size = Z := ⟨_, rfl⟩
  simp only [World.size_alloc] at t1
  rw [hZ] at t1
  obtain ⟨LZ, hLZ⟩ : ∃ L, pl0.ref = L := ⟨_, rfl⟩
  obtain ⟨CZ, hCZ⟩ : ∃ L, pl0.enc = L := ⟨_, rfl⟩
  have hlz : LZ.length = 194 := by rw [← hLZ]; exact pl0.ref_len
  have hcz : CZ.length = 39 := by rw [← hCZ]; exact pl0.enc_len
  have t2 := t1
  rw [hLZ, hCZ] at t2
  replace k := aside k
  clear t t1
  replace hLZ := aside hLZ
  replace hCZ := aside hCZ
  replace hlz := aside hlz
  replace hcz := aside hcz
  replace hat := aside hat
  go_enter Try.func53, Try.ntmps53
  go_wp2
  go_loopg [7] qs.length (fun q v7 w' => ∃ (n : Nat) (S : PlS), q + n = qs.length ∧ v7 = .int .i64 n ∧ Sat W0 w' H (cellsH ⟨Z + 1 + 1 + 1, 0, none⟩ S.ref :: cellsH ⟨Z + 1 + 1, 0, none⟩ S.enc :: cellsH ⟨Z + 1, 0, none⟩ LZ :: cellsH ⟨Z, 0, none⟩ CZ :: A))
  case atStart => exact ⟨0, pl0, rfl, rfl, by rw [hLZ.out, hCZ.out]; exact t2⟩
  clear t2
  case round =>
    obtain ⟨n, S, hq, rfl, t⟩ := hrel
    have hsl := S.r_size
    have hsn := S.ref_len
    have hso := S.r_one
    have hcl := S.c_size
    have hcn := S.enc_len
    have hco := S.c_one
    obtain ⟨L, hL⟩ : ∃ L, S.ref = L := ⟨_, rfl⟩
    obtain ⟨C, hC⟩ : ∃ L, S.enc = L := ⟨_, rfl⟩
    rw [hL] at t hsl hsn hso
    rw [hC] at t hcl hcn hco
    by_cases hn : n < qs.length ∧ n < 60
    · obtain ⟨q, hqn⟩ : ∃ x, qs[n]? = some x := ⟨_, List.getElem?_eq_getElem hn.1⟩
      obtain ⟨eb, eo, vs, rfl, hvs, hvl, hcell⟩ := hat.out n q hqn
      have hvs2 : q.vals = vs := hvs.symm
      have hce := fun j u hu => Holds.cell t.drew.ro (hcell j u hu)
      have hcf : ∀ w', Sat W0 w' H (cellsH ⟨Z + 1 + 1 + 1, 0, none⟩ L :: cellsH ⟨Z + 1 + 1, 0, none⟩ C :: cellsH ⟨Z + 1, 0, none⟩ LZ :: cellsH ⟨Z, 0, none⟩ CZ :: A) → True := fun _ _ => trivial
      clear hcf
      obtain ⟨kd, qn, qm, qh, qa, qv, b1, b2, b3, b4, b5⟩ := q
      rw [← hvs2] at hce hcell
      simp only [OpP.vals, List.cons_append, List.nil_append, List.singleton_append] at hce hcell
      have g0 := fun w' (hw : Holds w' H) => Holds.cell hw (hcell 0 _ rfl)
      have g1 := fun w' (hw : Holds w' H) => Holds.cell hw (hcell 1 _ rfl)
      have g2 := fun w' (hw : Holds w' H) => Holds.cell hw (hcell 2 _ rfl)
      have g3 := fun w' (hw : Holds w' H) => Holds.cell hw (hcell 3 _ rfl)
      have g4 := fun w' (hw : Holds w' H) => Holds.cell hw (hcell 4 _ rfl)
      have g5 := fun w' (hw : Holds w' H) => Holds.cell hw (hcell 5 _ rfl)
      have hAll : ∀ w', Holds w' H → w'.cell? ⟨eb, eo + n * 6, none⟩ = some (.int .i64 kd) ∧ w'.cell? ⟨eb, eo + n * 6 + 1, none⟩ = some (.int .i64 qn) ∧ w'.cell? ⟨eb, eo + n * 6 + 2, none⟩ = some (.int .i64 qm) ∧ w'.cell? ⟨eb, eo + n * 6 + 3, none⟩ = some (.bool qh) ∧ w'.cell? ⟨eb, eo + n * 6 + 4, none⟩ = some (.int .u64 qa) ∧ w'.cell? ⟨eb, eo + n * 6 + 5, none⟩ = some (.int .u64 qv) := fun w' hw => ⟨g0 w' hw, g1 w' hw, g2 w' hw, g3 w' hw, g4 w' hw, g5 w' hw⟩
      have hv2 : OpP.vals ⟨kd, qn, qm, qh, qa, qv, b1, b2, b3, b4, b5⟩ = [.int .i64 kd, .int .i64 qn, .int .i64 qm, .bool qh, .int .u64 qa, .int .u64 qv] := rfl
      clear hce hcell hvs hvs2 g0 g1 g2 g3 g4 g5 hvl hqn
      obtain ⟨S2, hS2⟩ : ∃ S2, S.step ⟨kd, qn, qm, qh, qa, qv, b1, b2, b3, b4, b5⟩ = S2 := ⟨_, rfl⟩
      have hgl := S2.r_size
      have hgn := S2.ref_len
      have hgo := S2.r_one
      have hdl := S2.c_size
      obtain ⟨G, hG⟩ : ∃ L, S2.ref = L := ⟨_, rfl⟩
      obtain ⟨D, hD⟩ : ∃ L, S2.enc = L := ⟨_, rfl⟩
      have hGd : (S.step ⟨kd, qn, qm, qh, qa, qv, b1, b2, b3, b4, b5⟩).ref = G := by rw [hS2]; exact hG
      have hDd : (S.step ⟨kd, qn, qm, qh, qa, qv, b1, b2, b3, b4, b5⟩).enc = D := by rw [hS2]; exact hD
      rw [hG] at hgl hgn hgo
      rw [hD] at hdl
      have i1 : (0 : Int) ≤ n ∧ (n : Int) < qs.length := by omega
      have i2 : (n : Int) < 60 := by omega
      replace hq := aside hq
      replace hL := aside hL
      replace hC := aside hC
      replace hsl := aside hsl
      replace hsn := aside hsn
      replace hso := aside hso
      replace hcl := aside hcl
      replace hcn := aside hcn
      replace hco := aside hco
      replace hAll := aside hAll
      replace hv2 := aside hv2
      replace hS2 := aside hS2
      replace hgl := aside hgl
      replace hgn := aside hgn
      replace hgo := aside hgo
      replace hdl := aside hdl
      replace hG := aside hG
      replace hD := aside hD
      replace hGd := aside hGd
      replace hDd := aside hDd
      go_wp2
      have t2 := t.drew
      have gg := hAll.out _ t2.ro
      refine wp_region_held_drew (S := fun w' => w'.rangeAt (Z + 1 + 1 + 1) 0 L ∧ w'.cell? ⟨eb, eo + n * 6, none⟩ = some (.int .i64 kd) ∧ w'.cell? ⟨eb, eo + n * 6 + 1, none⟩ = some (.int .i64 qn) ∧ w'.cell? ⟨eb, eo + n * 6 + 2, none⟩ = some (.int .i64 qm) ∧ w'.cell? ⟨eb, eo + n * 6 + 3, none⟩ = some (.bool qh) ∧ w'.cell? ⟨eb, eo + n * 6 + 4, none⟩ = some (.int .u64 qa) ∧ w'.cell? ⟨eb, eo + n * 6 + 5, none⟩ = some (.int .u64 qv)) (by kernel_rfl) ⟨fun j v hv => (t2.c j hv).1, gg⟩ (fun hHeld => ?_)
      refine wpAnyH_take (i := 0) rfl (by kernel_rfl) (by kernel_rfl) (by kernel_rfl) (fun _ _ _ h => h) (yieldsIf_load_mid (by rfl) _ _ rfl (Z + 1 + 1 + 1) 0 rfl L _ (fun w hSw => hSw.1) Try.underlying104 rfl hsl.out) (by assumption) ?_
      try simp only [Act.put, List.getElem_toArray, List.getElem_cons_succ, List.getElem_cons_zero, List.setIfInBounds_toArray, List.set_cons_zero, List.set_cons_succ]
      refine wpAnyH_take (i := 1) (v := ?_) rfl (by kernel_rfl) (by kernel_rfl) (by kernel_rfl) (fun _ _ _ h => h) (Or.inl ⟨by rfl, ?_⟩) (by assumption) ?_
      rotate_left
      · (intro w hSw; (try dsimp only at hSw); go_simp; try with_reducible rfl)
      try simp only [Act.put, List.getElem_toArray, List.getElem_cons_succ, List.getElem_cons_zero, List.setIfInBounds_toArray, List.set_cons_zero, List.set_cons_succ]
      refine wpAnyH_take (i := 2) (v := ?_) rfl (by kernel_rfl) (by kernel_rfl) (by kernel_rfl) (fun _ _ _ h => h) (Or.inl ⟨by rfl, ?_⟩) (by assumption) ?_
      rotate_left
      · (intro w hSw; (try dsimp only at hSw); go_simp; try with_reducible rfl)
      try simp only [Act.put, List.getElem_toArray, List.getElem_cons_succ, List.getElem_cons_zero, List.setIfInBounds_toArray, List.set_cons_zero, List.set_cons_succ]
      refine wpAnyH_take (i := 3) (v := ?_) rfl (by kernel_rfl) (by kernel_rfl) (by kernel_rfl) (fun _ _ _ h => h) (Or.inl ⟨by rfl, ?_⟩) (by assumption) ?_
      rotate_left
      · (intro w hSw; (try dsimp only at hSw); go_simp; try with_reducible rfl)
      try simp only [Act.put, List.getElem_toArray, List.getElem_cons_succ, List.getElem_cons_zero, List.setIfInBounds_toArray, List.set_cons_zero, List.set_cons_succ]
      refine wpAnyH_take (i := 4) (v := ?_) rfl (by kernel_rfl) (by kernel_rfl) (by kernel_rfl) (fun _ _ _ h => h) (Or.inl ⟨by rfl, ?_⟩) (by assumption) ?_
      rotate_left
      · (intro w hSw; (try dsimp only at hSw); go_simp; try with_reducible rfl)
      try simp only [Act.put, List.getElem_toArray, List.getElem_cons_succ, List.getElem_cons_zero, List.setIfInBounds_toArray, List.set_cons_zero, List.set_cons_succ]
      refine wpAnyH_ready (rs := [5, 9]) (by kernel_rfl) (by simp) ?_
      refine AllReadyH.cons rfl (fun K hK => ?_) (AllReadyH.cons rfl (fun K hK => ?_) AllReadyH.nil)
      · try simp only [List.getElem_toArray, List.getElem_cons_succ, List.getElem_cons_zero]
        rw [if_pos (by rfl)]
        go_simp
        refine c_plDoL t2.swap hC.out hL.out _ hv2.out hDd.out hGd.out ?_
        intro w3 t3
        go_wp2_with fail
        refine hK.out _ _ ⟨fun j v hv => (t3.swap.c j hv).1, hAll.out _ t3.ro⟩ (fun hHeld => ?_)
        clear hK K
        try simp only [Act.put, List.getElem_toArray, List.getElem_cons_succ, List.getElem_cons_zero, List.setIfInBounds_toArray, List.set_cons_zero, List.set_cons_succ]
        refine wpAnyH_take (i := 6) (v := ?_) rfl (by kernel_rfl) (by kernel_rfl) (by kernel_rfl) (fun _ _ _ h => h) (Or.inl ⟨by rfl, ?_⟩) (by assumption) ?_
        rotate_left
        · (intro w hSw; (try dsimp only at hSw); go_simp; try with_reducible rfl)
        try simp only [Act.put, List.getElem_toArray, List.getElem_cons_succ, List.getElem_cons_zero, List.setIfInBounds_toArray, List.set_cons_zero, List.set_cons_succ]
        refine wpAnyH_take (i := 7) (v := ?_) rfl (by kernel_rfl) (by kernel_rfl) (by kernel_rfl) (fun _ _ _ h => h) (Or.inl ⟨by rfl, ?_⟩) (by assumption) ?_
        rotate_left
        · (intro w hSw; (try dsimp only at hSw); go_simp; try with_reducible rfl)
        try simp only [Act.put, List.getElem_toArray, List.getElem_cons_succ, List.getElem_cons_zero, List.setIfInBounds_toArray, List.set_cons_zero, List.set_cons_succ]
        refine wpAnyH_take (i := 8) (v := ?_) rfl (by kernel_rfl) (by kernel_rfl) (by kernel_rfl) (fun _ _ _ h => h) (Or.inl ⟨by rfl, ?_⟩) (by assumption) ?_
        rotate_left
        · (intro w hSw; (try dsimp only at hSw); go_simp; try with_reducible rfl)
        try simp only [Act.put, List.getElem_toArray, List.getElem_cons_succ, List.getElem_cons_zero, List.setIfInBounds_toArray, List.set_cons_zero, List.set_cons_succ]
        have t4 := t3.alloc (c := pl0.ref) (t := 104)
        rw [pl0_ref, hLZ.out] at t4
        obtain ⟨Y, hY⟩ : ∃ Y, w3.heap.size = Y := ⟨_, rfl⟩
        rw [hY] at t4
        clear gg t2 t
        refine wpAnyH_ready (rs := [9]) (by kernel_rfl) (by simp) ?_
        refine AllReadyH.cons rfl (fun K hK => ?_) AllReadyH.nil
        try simp only [List.getElem_toArray, List.getElem_cons_succ, List.getElem_cons_zero]
        rw [if_pos (by rfl)]
        go_simp
        refine hK.out _ _ ⟨fun j v hv => ((Sat.pull (h := cellsH ⟨Z + 1 + 1 + 1, 0, none⟩ L) t4).c j hv).1, hAll.out _ t4.ro⟩ (fun hHeld => ?_)
        clear hK K
        try simp only [Act.put, List.getElem_toArray, List.getElem_cons_succ, List.getElem_cons_zero, List.setIfInBounds_toArray, List.set_cons_zero, List.set_cons_succ]
        refine wpAnyH_ready (rs := [10]) (by kernel_rfl) (by simp) ?_
        refine AllReadyH.cons rfl (fun K hK => ?_) AllReadyH.nil
        try simp only [List.getElem_toArray, List.getElem_cons_succ, List.getElem_cons_zero]
        rw [if_pos (by rfl)]
        refine wp_storeS 104 (.tmp 8) (.tmp 27) rfl Y 0 rfl rfl t4 (by rw [hlz.out, hgn.out]; decide) hgl.out hgo.out ?_
        intro w5 t5
        rw [setR_all (by rw [hlz.out, hgn.out])] at t5
        refine hK.out _ _ ⟨fun j v hv => ((Sat.pull (h := cellsH ⟨Z + 1 + 1 + 1, 0, none⟩ L) t5).c j hv).1, hAll.out _ t5.ro⟩ (fun hHeld => ?_)
        clear hK K
        try simp only [Act.put, List.getElem_toArray, List.getElem_cons_succ, List.getElem_cons_zero, List.setIfInBounds_toArray, List.set_cons_zero, List.set_cons_succ]
        refine wpAnyH_take (i := 11) (v := ?_) rfl (by kernel_rfl) (by kernel_rfl) (by kernel_rfl) (fun _ _ _ h => h) (Or.inl ⟨by rfl, ?_⟩) (by assumption) ?_
        rotate_left
        · (intro w hSw; (try dsimp only at hSw); go_simp; try with_reducible rfl)
        try simp only [Act.put, List.getElem_toArray, List.getElem_cons_succ, List.getElem_cons_zero, List.setIfInBounds_toArray, List.set_cons_zero, List.set_cons_succ]
        refine wpAnyH_done (by kernel_rfl) ?_ _
        clear t4 hHeld
        go_wp2_with (first
          | (refine wpList_loadG (by rfl) 98 (.tmp 5) rfl (Z + 1 + 1) 0 rfl (Sat.pull (h := cellsH ⟨Z + 1 + 1, 0, none⟩ D) t5) Try.underlying98 rfl hdl.out ?_)
          | (refine wpList_loadG (by rfl) 104 (.tmp 8) rfl Y 0 rfl t5 Try.underlying104 rfl hgl.out ?_))
        go_wp2_with fail
        refine c_plSameL t5 hD.out hG.out ?_
        intro w6 t6
        clear t5 hY
        go_wp2_with (first
          | (refine wpList_loadS rfl 104 (.tmp 8) rfl Y 0 rfl t6 Try.underlying104 rfl hgl.out ?_)
          | (refine wpList_storeS rfl 104 (.tmp 6) (.tmp 39) rfl (Z + 1 + 1 + 1) 0 rfl rfl (Sat.pull (h := cellsH ⟨Z + 1 + 1 + 1, 0, none⟩ L) t6) (by rw [hsn.out, hgn.out]; decide) hgl.out hgo.out ?_; intro w7 t7; rw [setR_all (by rw [hsn.out, hgn.out])] at t7))
        go_roundg (gk - 1)
        case measure => have := hq.out; omega
        case rel => exact ⟨n + 1, S2, by have := hq.out; omega, by go_num, by rw [hG.out, hD.out]; exact t7.wk⟩
      · try simp only [List.getElem_toArray, List.getElem_cons_succ, List.getElem_cons_zero]
        have t3 := (t.alloc (c := pl0.ref) (t := 104)).drew
        rw [pl0_ref, hLZ.out] at t3
        obtain ⟨Y, hY⟩ : ∃ Y, wr.heap.size = Y := ⟨_, rfl⟩
        rw [hY] at t3
        rw [if_pos (by rfl)]
        go_simp
        refine hK.out _ _ ⟨fun j v hv => ((Sat.pull (h := cellsH ⟨Z + 1 + 1 + 1, 0, none⟩ L) t3).c j hv).1, hAll.out _ t3.ro⟩ (fun hHeld => ?_)
        clear hK K
        try simp only [Act.put, List.getElem_toArray, List.getElem_cons_succ, List.getElem_cons_zero, List.setIfInBounds_toArray, List.set_cons_zero, List.set_cons_succ]
        refine wpAnyH_ready (rs := [5]) (by kernel_rfl) (by simp) ?_
        refine AllReadyH.cons rfl (fun K hK => ?_) AllReadyH.nil
        try simp only [List.getElem_toArray, List.getElem_cons_succ, List.getElem_cons_zero]
        rw [if_pos (by rfl)]
        go_simp
        refine c_plDoL (Sat.pull (h := cellsH ⟨Z + 1 + 1, 0, none⟩ C) t3) hC.out hL.out _ hv2.out hDd.out hGd.out ?_
        intro w4 t4'
        go_wp2_with fail
        have t4 : Sat W0 w4 H (cellsH ⟨Y, 0, none⟩ LZ :: cellsH ⟨Z + 1 + 1, 0, none⟩ D :: cellsH ⟨Z + 1 + 1 + 1, 0, none⟩ L :: cellsH ⟨Z + 1, 0, none⟩ LZ :: cellsH ⟨Z, 0, none⟩ CZ :: A) := t4'.wk
        clear gg t2 t t3 t4'
        refine hK.out _ _ ⟨fun j v hv => ((Sat.pull (h := cellsH ⟨Z + 1 + 1 + 1, 0, none⟩ L) t4).c j hv).1, hAll.out _ t4.ro⟩ (fun hHeld => ?_)
        clear hK K
        try simp only [Act.put, List.getElem_toArray, List.getElem_cons_succ, List.getElem_cons_zero, List.setIfInBounds_toArray, List.set_cons_zero, List.set_cons_succ]
        refine wpAnyH_take (i := 6) (v := ?_) rfl (by kernel_rfl) (by kernel_rfl) (by kernel_rfl) (fun _ _ _ h => h) (Or.inl ⟨by rfl, ?_⟩) (by assumption) ?_
        rotate_left
        · (intro w hSw; (try dsimp only at hSw); go_simp; try with_reducible rfl)
        try simp only [Act.put, List.getElem_toArray, List.getElem_cons_succ, List.getElem_cons_zero, List.setIfInBounds_toArray, List.set_cons_zero, List.set_cons_succ]
        refine wpAnyH_take (i := 7) (v := ?_) rfl (by kernel_rfl) (by kernel_rfl) (by kernel_rfl) (fun _ _ _ h => h) (Or.inl ⟨by rfl, ?_⟩) (by assumption) ?_
        rotate_left
        · (intro w hSw; (try dsimp only at hSw); go_simp; try with_reducible rfl)
        try simp only [Act.put, List.getElem_toArray, List.getElem_cons_succ, List.getElem_cons_zero, List.setIfInBounds_toArray, List.set_cons_zero, List.set_cons_succ]
        refine wpAnyH_take (i := 8) (v := ?_) rfl (by kernel_rfl) (by kernel_rfl) (by kernel_rfl) (fun _ _ _ h => h) (Or.inl ⟨by rfl, ?_⟩) (by assumption) ?_
        rotate_left
        · (intro w hSw; (try dsimp only at hSw); go_simp; try with_reducible rfl)
        try simp only [Act.put, List.getElem_toArray, List.getElem_cons_succ, List.getElem_cons_zero, List.setIfInBounds_toArray, List.set_cons_zero, List.set_cons_succ]
        refine wpAnyH_ready (rs := [10]) (by kernel_rfl) (by simp) ?_
        refine AllReadyH.cons rfl (fun K hK => ?_) AllReadyH.nil
        try simp only [List.getElem_toArray, List.getElem_cons_succ, List.getElem_cons_zero]
        rw [if_pos (by rfl)]
        refine wp_storeS 104 (.tmp 8) (.tmp 27) rfl Y 0 rfl rfl t4 (by rw [hlz.out, hgn.out]; decide) hgl.out hgo.out ?_
        intro w5 t5
        rw [setR_all (by rw [hlz.out, hgn.out])] at t5
        refine hK.out _ _ ⟨fun j v hv => ((Sat.pull (h := cellsH ⟨Z + 1 + 1 + 1, 0, none⟩ L) t5).c j hv).1, hAll.out _ t5.ro⟩ (fun hHeld => ?_)
        clear hK K
        try simp only [Act.put, List.getElem_toArray, List.getElem_cons_succ, List.getElem_cons_zero, List.setIfInBounds_toArray, List.set_cons_zero, List.set_cons_succ]
        refine wpAnyH_take (i := 11) (v := ?_) rfl (by kernel_rfl) (by kernel_rfl) (by kernel_rfl) (fun _ _ _ h => h) (Or.inl ⟨by rfl, ?_⟩) (by assumption) ?_
        rotate_left
        · (intro w hSw; (try dsimp only at hSw); go_simp; try with_reducible rfl)
        try simp only [Act.put, List.getElem_toArray, List.getElem_cons_succ, List.getElem_cons_zero, List.setIfInBounds_toArray, List.set_cons_zero, List.set_cons_succ]
        refine wpAnyH_done (by kernel_rfl) ?_ _
        clear t4 hHeld
        go_wp2_with (first
          | (refine wpList_loadG (by rfl) 98 (.tmp 5) rfl (Z + 1 + 1) 0 rfl (Sat.pull (h := cellsH ⟨Z + 1 + 1, 0, none⟩ D) t5) Try.underlying98 rfl hdl.out ?_)
          | (refine wpList_loadG (by rfl) 104 (.tmp 8) rfl Y 0 rfl t5 Try.underlying104 rfl hgl.out ?_))
        go_wp2_with fail
        refine c_plSameL t5 hD.out hG.out ?_
        intro w6 t6
        clear t5 hY
        go_wp2_with (first
          | (refine wpList_loadS rfl 104 (.tmp 8) rfl Y 0 rfl t6 Try.underlying104 rfl hgl.out ?_)
          | (refine wpList_storeS rfl 104 (.tmp 6) (.tmp 39) rfl (Z + 1 + 1 + 1) 0 rfl rfl (Sat.pull (h := cellsH ⟨Z + 1 + 1 + 1, 0, none⟩ L) t6) (by rw [hsn.out, hgn.out]; decide) hgl.out hgo.out ?_; intro w7 t7; rw [setR_all (by rw [hsn.out, hgn.out])] at t7))
        go_roundg (gk - 1)
        case measure => have := hq.out; omega
        case rel => exact ⟨n + 1, S2, by have := hq.out; omega, by go_num, by rw [hG.out, hD.out]; exact t7.wk⟩
    · have hn2 : (qs.length : Int) ≤ n ∨ (60 : Int) ≤ n := by omega
      clear hn hq hat
      have hko := k.out S
      rw [hL, hC] at hko
      have k2 := aside hko
      clear hko k
      replace hL := aside hL
      replace hC := aside hC
      replace hsl := aside hsl
      replace hsn := aside hsn
      replace hso := aside hso
      replace hcl := aside hcl
      replace hcn := aside hcn
      replace hco := aside hco
      rcases hn2 with hn2 | hn2
      · skip
        go_wp2
        have t2 := t.drew
        have hCr := Sat.pull (h := cellsH ⟨Z + 1 + 1, 0, none⟩ C) t2
        refine wp_region_held_drew (S := fun w' => w'.rangeAt (Z + 1 + 1) 0 C ∧ w'.rangeAt (Z + 1 + 1 + 1) 0 L) (by kernel_rfl) ⟨fun j v hv => (hCr.c j hv).1, fun j v hv => (t2.c j hv).1⟩ (fun hHeld => ?_)
        clear hCr
        refine wpAnyH_take (i := 0) rfl (by kernel_rfl) (by kernel_rfl) (by kernel_rfl) (fun _ _ _ h => h) (yieldsIf_load_mid (by rfl) _ _ rfl (Z + 1 + 1) 0 rfl C _ (fun w hSw => hSw.1) Try.underlying98 rfl hcl.out) (by assumption) ?_
        try simp only [Act.put, List.getElem_toArray, List.getElem_cons_succ, List.getElem_cons_zero, List.setIfInBounds_toArray, List.set_cons_zero, List.set_cons_succ]
        refine wpAnyH_take (i := 1) rfl (by kernel_rfl) (by kernel_rfl) (by kernel_rfl) (fun _ _ _ h => h) (yieldsIf_load_mid (by rfl) _ _ rfl (Z + 1 + 1 + 1) 0 rfl L _ (fun w hSw => hSw.2) Try.underlying104 rfl hsl.out) (by assumption) ?_
        try simp only [Act.put, List.getElem_toArray, List.getElem_cons_succ, List.getElem_cons_zero, List.setIfInBounds_toArray, List.set_cons_zero, List.set_cons_succ]
        refine wpAnyH_ready (rs := [2]) (by kernel_rfl) (by simp) ?_
        refine AllReadyH.cons rfl (fun K hK => ?_) AllReadyH.nil
        try simp only [List.getElem_toArray, List.getElem_cons_succ, List.getElem_cons_zero]
        rw [if_pos (by rfl)]
        refine wp_storeS 98 (.tmp 2) (.tmp 40) rfl Z 0 rfl rfl (Sat.pull (h := cellsH ⟨Z, 0, none⟩ CZ) t2) (by rw [hcz.out, hcn.out]; decide) hcl.out hco.out ?_
        intro w3 t3
        rw [setR_all (by rw [hcz.out, hcn.out])] at t3
        refine hK.out _ _ ⟨fun j v hv => ((Sat.pull (h := cellsH ⟨Z + 1 + 1, 0, none⟩ C) t3).c j hv).1, fun j v hv => ((Sat.pull (h := cellsH ⟨Z + 1 + 1 + 1, 0, none⟩ L) t3).c j hv).1⟩ (fun hHeld => ?_)
        clear hK K
        try simp only [Act.put, List.getElem_toArray, List.getElem_cons_succ, List.getElem_cons_zero, List.setIfInBounds_toArray, List.set_cons_zero, List.set_cons_succ]
        refine wpAnyH_ready (rs := [3]) (by kernel_rfl) (by simp) ?_
        refine AllReadyH.cons rfl (fun K hK => ?_) AllReadyH.nil
        try simp only [List.getElem_toArray, List.getElem_cons_succ, List.getElem_cons_zero]
        rw [if_pos (by rfl)]
        refine wp_storeS 104 (.tmp 3) (.tmp 41) rfl (Z + 1) 0 rfl rfl (Sat.pull (h := cellsH ⟨Z + 1, 0, none⟩ LZ) t3) (by rw [hlz.out, hsn.out]; decide) hsl.out hso.out ?_
        intro w4 t4
        rw [setR_all (by rw [hlz.out, hsn.out])] at t4
        refine hK.out _ _ ⟨fun j v hv => ((Sat.pull (h := cellsH ⟨Z + 1 + 1, 0, none⟩ C) t4).c j hv).1, fun j v hv => ((Sat.pull (h := cellsH ⟨Z + 1 + 1 + 1, 0, none⟩ L) t4).c j hv).1⟩ (fun hHeld => ?_)
        clear hK K
        try simp only [Act.put, List.getElem_toArray, List.getElem_cons_succ, List.getElem_cons_zero, List.setIfInBounds_toArray, List.set_cons_zero, List.set_cons_succ]
        refine wpAnyH_take (i := 4) (v := ?_) rfl (by kernel_rfl) (by kernel_rfl) (by kernel_rfl) (fun _ _ _ h => h) (Or.inl ⟨by rfl, ?_⟩) (by assumption) ?_
        rotate_left
        · (intro w hSw; (try dsimp only at hSw); go_simp; try with_reducible rfl)
        try simp only [Act.put, List.getElem_toArray, List.getElem_cons_succ, List.getElem_cons_zero, List.setIfInBounds_toArray, List.set_cons_zero, List.set_cons_succ]
        refine wpAnyH_done (by kernel_rfl) ?_ _
        go_wp2
        refine bodyPost_ret (results_SS Try.results53 _ Z (Z + 1) rfl rfl rfl (Sat.pull (h := cellsH ⟨Z, 0, none⟩ C) t4) t4 Try.underlying98 rfl hcl.out Try.underlying104 rfl hsl.out) rfl ?_
        exact k2.out _ t4.wk
      · by_cases hn3 : (qs.length : Int) ≤ n
        · clear hn2
          have hn2 := hn3
          clear hn3
          go_wp2
          have t2 := t.drew
          have hCr := Sat.pull (h := cellsH ⟨Z + 1 + 1, 0, none⟩ C) t2
          refine wp_region_held_drew (S := fun w' => w'.rangeAt (Z + 1 + 1) 0 C ∧ w'.rangeAt (Z + 1 + 1 + 1) 0 L) (by kernel_rfl) ⟨fun j v hv => (hCr.c j hv).1, fun j v hv => (t2.c j hv).1⟩ (fun hHeld => ?_)
          clear hCr
          refine wpAnyH_take (i := 0) rfl (by kernel_rfl) (by kernel_rfl) (by kernel_rfl) (fun _ _ _ h => h) (yieldsIf_load_mid (by rfl) _ _ rfl (Z + 1 + 1) 0 rfl C _ (fun w hSw => hSw.1) Try.underlying98 rfl hcl.out) (by assumption) ?_
          try simp only [Act.put, List.getElem_toArray, List.getElem_cons_succ, List.getElem_cons_zero, List.setIfInBounds_toArray, List.set_cons_zero, List.set_cons_succ]
          refine wpAnyH_take (i := 1) rfl (by kernel_rfl) (by kernel_rfl) (by kernel_rfl) (fun _ _ _ h => h) (yieldsIf_load_mid (by rfl) _ _ rfl (Z + 1 + 1 + 1) 0 rfl L _ (fun w hSw => hSw.2) Try.underlying104 rfl hsl.out) (by assumption) ?_
          try simp only [Act.put, List.getElem_toArray, List.getElem_cons_succ, List.getElem_cons_zero, List.setIfInBounds_toArray, List.set_cons_zero, List.set_cons_succ]
          refine wpAnyH_ready (rs := [2]) (by kernel_rfl) (by simp) ?_
          refine AllReadyH.cons rfl (fun K hK => ?_) AllReadyH.nil
          try simp only [List.getElem_toArray, List.getElem_cons_succ, List.getElem_cons_zero]
          rw [if_pos (by rfl)]
          refine wp_storeS 98 (.tmp 2) (.tmp 40) rfl Z 0 rfl rfl (Sat.pull (h := cellsH ⟨Z, 0, none⟩ CZ) t2) (by rw [hcz.out, hcn.out]; decide) hcl.out hco.out ?_
          intro w3 t3
          rw [setR_all (by rw [hcz.out, hcn.out])] at t3
          refine hK.out _ _ ⟨fun j v hv => ((Sat.pull (h := cellsH ⟨Z + 1 + 1, 0, none⟩ C) t3).c j hv).1, fun j v hv => ((Sat.pull (h := cellsH ⟨Z + 1 + 1 + 1, 0, none⟩ L) t3).c j hv).1⟩ (fun hHeld => ?_)
          clear hK K
          try simp only [Act.put, List.getElem_toArray, List.getElem_cons_succ, List.getElem_cons_zero, List.setIfInBounds_toArray, List.set_cons_zero, List.set_cons_succ]
          refine wpAnyH_ready (rs := [3]) (by kernel_rfl) (by simp) ?_
          refine AllReadyH.cons rfl (fun K hK => ?_) AllReadyH.nil
          try simp only [List.getElem_toArray, List.getElem_cons_succ, List.getElem_cons_zero]
          rw [if_pos (by rfl)]
          refine wp_storeS 104 (.tmp 3) (.tmp 41) rfl (Z + 1) 0 rfl rfl (Sat.pull (h := cellsH ⟨Z + 1, 0, none⟩ LZ) t3) (by rw [hlz.out, hsn.out]; decide) hsl.out hso.out ?_
          intro w4 t4
          rw [setR_all (by rw [hlz.out, hsn.out])] at t4
          refine hK.out _ _ ⟨fun j v hv => ((Sat.pull (h := cellsH ⟨Z + 1 + 1, 0, none⟩ C) t4).c j hv).1, fun j v hv => ((Sat.pull (h := cellsH ⟨Z + 1 + 1 + 1, 0, none⟩ L) t4).c j hv).1⟩ (fun hHeld => ?_)
          clear hK K
          try simp only [Act.put, List.getElem_toArray, List.getElem_cons_succ, List.getElem_cons_zero, List.setIfInBounds_toArray, List.set_cons_zero, List.set_cons_succ]
          refine wpAnyH_take (i := 4) (v := ?_) rfl (by kernel_rfl) (by kernel_rfl) (by kernel_rfl) (fun _ _ _ h => h) (Or.inl ⟨by rfl, ?_⟩) (by assumption) ?_
          rotate_left
          · (intro w hSw; (try dsimp only at hSw); go_simp; try with_reducible rfl)
          try simp only [Act.put, List.getElem_toArray, List.getElem_cons_succ, List.getElem_cons_zero, List.setIfInBounds_toArray, List.set_cons_zero, List.set_cons_succ]
          refine wpAnyH_done (by kernel_rfl) ?_ _
          go_wp2
          refine bodyPost_ret (results_SS Try.results53 _ Z (Z + 1) rfl rfl rfl (Sat.pull (h := cellsH ⟨Z, 0, none⟩ C) t4) t4 Try.underlying98 rfl hcl.out Try.underlying104 rfl hsl.out) rfl ?_
          exact k2.out _ t4.wk
        · have hn4 : (n : Int) < qs.length := by omega
          clear hn3
          go_wp2
          have t2 := t.drew
          have hCr := Sat.pull (h := cellsH ⟨Z + 1 + 1, 0, none⟩ C) t2
          refine wp_region_held_drew (S := fun w' => w'.rangeAt (Z + 1 + 1) 0 C ∧ w'.rangeAt (Z + 1 + 1 + 1) 0 L) (by kernel_rfl) ⟨fun j v hv => (hCr.c j hv).1, fun j v hv => (t2.c j hv).1⟩ (fun hHeld => ?_)
          clear hCr
          refine wpAnyH_take (i := 0) rfl (by kernel_rfl) (by kernel_rfl) (by kernel_rfl) (fun _ _ _ h => h) (yieldsIf_load_mid (by rfl) _ _ rfl (Z + 1 + 1) 0 rfl C _ (fun w hSw => hSw.1) Try.underlying98 rfl hcl.out) (by assumption) ?_
          try simp only [Act.put, List.getElem_toArray, List.getElem_cons_succ, List.getElem_cons_zero, List.setIfInBounds_toArray, List.set_cons_zero, List.set_cons_succ]
          refine wpAnyH_take (i := 1) rfl (by kernel_rfl) (by kernel_rfl) (by kernel_rfl) (fun _ _ _ h => h) (yieldsIf_load_mid (by rfl) _ _ rfl (Z + 1 + 1 + 1) 0 rfl L _ (fun w hSw => hSw.2) Try.underlying104 rfl hsl.out) (by assumption) ?_
          try simp only [Act.put, List.getElem_toArray, List.getElem_cons_succ, List.getElem_cons_zero, List.setIfInBounds_toArray, List.set_cons_zero, List.set_cons_succ]
          refine wpAnyH_ready (rs := [2]) (by kernel_rfl) (by simp) ?_
          refine AllReadyH.cons rfl (fun K hK => ?_) AllReadyH.nil
          try simp only [List.getElem_toArray, List.getElem_cons_succ, List.getElem_cons_zero]
          rw [if_pos (by rfl)]
          refine wp_storeS 98 (.tmp 2) (.tmp 40) rfl Z 0 rfl rfl (Sat.pull (h := cellsH ⟨Z, 0, none⟩ CZ) t2) (by rw [hcz.out, hcn.out]; decide) hcl.out hco.out ?_
          intro w3 t3
          rw [setR_all (by rw [hcz.out, hcn.out])] at t3
          refine hK.out _ _ ⟨fun j v hv => ((Sat.pull (h := cellsH ⟨Z + 1 + 1, 0, none⟩ C) t3).c j hv).1, fun j v hv => ((Sat.pull (h := cellsH ⟨Z + 1 + 1 + 1, 0, none⟩ L) t3).c j hv).1⟩ (fun hHeld => ?_)
          clear hK K
          try simp only [Act.put, List.getElem_toArray, List.getElem_cons_succ, List.getElem_cons_zero, List.setIfInBounds_toArray, List.set_cons_zero, List.set_cons_succ]
          refine wpAnyH_ready (rs := [3]) (by kernel_rfl) (by simp) ?_
          refine AllReadyH.cons rfl (fun K hK => ?_) AllReadyH.nil
          try simp only [List.getElem_toArray, List.getElem_cons_succ, List.getElem_cons_zero]
          rw [if_pos (by rfl)]
          refine wp_storeS 104 (.tmp 3) (.tmp 41) rfl (Z + 1) 0 rfl rfl (Sat.pull (h := cellsH ⟨Z + 1, 0, none⟩ LZ) t3) (by rw [hlz.out, hsn.out]; decide) hsl.out hso.out ?_
          intro w4 t4
          rw [setR_all (by rw [hlz.out, hsn.out])] at t4
          refine hK.out _ _ ⟨fun j v hv => ((Sat.pull (h := cellsH ⟨Z + 1 + 1, 0, none⟩ C) t4).c j hv).1, fun j v hv => ((Sat.pull (h := cellsH ⟨Z + 1 + 1 + 1, 0, none⟩ L) t4).c j hv).1⟩ (fun hHeld => ?_)
          clear hK K
          try simp only [Act.put, List.getElem_toArray, List.getElem_cons_succ, List.getElem_cons_zero, List.setIfInBounds_toArray, List.set_cons_zero, List.set_cons_succ]
          refine wpAnyH_take (i := 4) (v := ?_) rfl (by kernel_rfl) (by kernel_rfl) (by kernel_rfl) (fun _ _ _ h => h) (Or.inl ⟨by rfl, ?_⟩) (by assumption) ?_
          rotate_left
          · (intro w hSw; (try dsimp only at hSw); go_simp; try with_reducible rfl)
          try simp only [Act.put, List.getElem_toArray, List.getElem_cons_succ, List.getElem_cons_zero, List.setIfInBounds_toArray, List.set_cons_zero, List.set_cons_succ]
          refine wpAnyH_done (by kernel_rfl) ?_ _
          go_wp2
          refine bodyPost_ret (results_SS Try.results53 _ Z (Z + 1) rfl rfl rfl (Sat.pull (h := cellsH ⟨Z, 0, none⟩ C) t4) t4 Try.underlying98 rfl hcl.out Try.underlying104 rfl hsl.out) rfl ?_
          exact k2.out _ t4.wk
end
end Go.Proofs.Ytohccblfnjampaa
