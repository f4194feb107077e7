/-
  THE LAW PlicFirst: what is claimed comes first by priority and number.
-/
import Derived.Test.YtohccblfnjampaaPt
namespace Go.Proofs.Ytohccblfnjampaa
open Go.RowKit
set_option linter.unusedVariables false
set_option linter.unusedSimpArgs false

theorem bit_eq1 {V : Int} (x : W32) (q : Nat) (hV : wn x = V) : (bits BinOp.and IntKind.u32 (V / 2 ^ q) 1 == 1) = x.getLsbD q := by
  have hb := wn_bd x
  rw [hV] at hb
  rw [and1_32 ⟨Int.ediv_nonneg hb.1 (Int.pow_nonneg (by decide)), Int.le_trans (Int.ediv_le_self _ hb.1) hb.2⟩, ← hV]; exact wn_bit x q
theorem bit_eq0 {V : Int} (x : W32) (q : Nat) (hV : wn x = V) : (bits BinOp.and IntKind.u32 (V / 2 ^ q) 1 == 0) = !x.getLsbD q := by
  rw [← bit_eq1 x q hV]
  have hb := wn_bd x
  rw [hV] at hb
  rw [and1_32 ⟨Int.ediv_nonneg hb.1 (Int.pow_nonneg (by decide)), Int.le_trans (Int.ediv_le_self _ hb.1) hb.2⟩]
  have : V / 2 ^ q % 2 = 0 ∨ V / 2 ^ q % 2 = 1 := by omega
  rcases this with h | h <;> rw [h] <;> rfl
theorem PlS.take_zero (s : PlS) (c : Int) (h : (s.take c).2 = 0) : (s.take c).1 = s := by
  unfold PlS.take at h ⊢
  by_cases hc : 0 ≤ c ∧ c < 2
  · rw [if_pos hc] at h ⊢
    by_cases hb : 0 < s.best c.toNat
    · rw [if_pos hb] at h; simp only at h; omega
    · rw [if_neg hb]
  · rw [if_neg hc]
theorem PlS.take_best (s : PlS) (c : Nat) (hc : c < 2) : (s.take c).2 = s.best c := by
  unfold PlS.take
  rw [if_pos (by omega), Int.toNat_natCast]
  by_cases hb : 0 < s.best c
  · rw [if_pos hb]
  · rw [if_neg hb]; simp only; omega
theorem plc_guard : Try.prog.eqGuardType Try.prog.depth 98 = false := by kernel_rfl



set_option maxRecDepth 100000 in
set_option maxHeartbeats 4000000 in
theorem law_PlicFirst (W : World) {v0 v1 : Value} {qs : List OpP} {c : Int} (e0 : sliceE opPE 6 (look W) qs [v0]) (e1 : intE (look W) c [v1]) :
    Calls Try.prog 11 #[v0, v1] W fun e w' => e = .returned (.bool true) ∧ Below W.heap.size W w' := by
  obtain ⟨h0, hc0, hc1⟩ := e1
  obtain rfl : v1 = _ := List.cons.inj h0 |>.1
  clear h0
  obtain ⟨_, hv0, rq⟩ := e0
  obtain rfl := (List.cons.inj hv0).1
  clear hv0
  go_enter Try.func11, Try.ntmps11
  go_wp2_with fail
  refine c_plAwake (Sat.start W) ?_
  intro w1 t1
  go_wp2_with fail
  refine c_plPlayed t1 rq ?_
  intro S w2 t2
  clear t1
  have t3 := (t2.alloc (c := pl0.enc) (t := 98)).alloc (c := pl0.ref) (t := 104)
  rw [pl0_enc, pl0_ref] at t3
  obtain ⟨Z, hZ⟩ : ∃ Z, w2.heap.size = Z := ⟨_, rfl⟩
  simp only [World.size_alloc] at t3
  rw [hZ] at t3
  have hsl := S.r_size
  have hsn := S.ref_len
  have hso := S.r_one
  have hcl := S.c_size
  have hcn := S.enc_len
  have hco := S.c_one
  have hlz := pl0.ref_len
  have hcz := pl0.enc_len
  obtain ⟨L, hL⟩ : ∃ L, S.ref = L := ⟨_, rfl⟩
  obtain ⟨C, hC⟩ : ∃ L, S.enc = L := ⟨_, rfl⟩
  rw [hL] at hsl hsn hso ⊢
  rw [hC] at hcl hcn hco ⊢
  obtain ⟨LZ, hLZ⟩ : ∃ L, pl0.ref = L := ⟨_, rfl⟩
  obtain ⟨CZ, hCZ⟩ : ∃ L, pl0.enc = L := ⟨_, rfl⟩
  rw [hLZ] at t3 hlz
  rw [hCZ] at t3 hcz
  clear t2
  replace hL := aside hL
  replace hC := aside hC
  replace hsl := aside hsl
  replace hsn := aside hsn
  replace hso := aside hso
  replace hcl := aside hcl
  replace hcn := aside hcn
  replace hco := aside hco
  replace hlz := aside hlz
  replace hcz := aside hcz
  replace hLZ := aside hLZ
  replace hCZ := aside hCZ
  by_cases hcv : c < 0 ∨ 1 < c
  · rcases hcv with hcv | hcv
    all_goals
      go_wp2_with (first
    | (refine wpList_storeS rfl 98 (.tmp 5) (.tmp 16) rfl Z 0 rfl rfl t3.swap (by rw [hcz.out, hcn.out]; decide) hcl.out hco.out ?_; intro w4 t4; rw [setR_all (by rw [hcz.out, hcn.out])] at t4)
    | (refine wpList_storeS rfl 104 (.tmp 6) (.tmp 17) rfl (Z + 1) 0 rfl rfl t4.swap (by rw [hlz.out, hsn.out]; decide) hsl.out hso.out ?_; intro w5 t5; rw [setR_all (by rw [hlz.out, hsn.out])] at t5))
      go_ret
      exact ⟨rfl, t5.below⟩
  · obtain ⟨c, rfl⟩ := Int.eq_ofNat_of_zero_le (show 0 ≤ c by omega)
    have hv0 : ¬ (c : Int) < 0 := by omega
    have hv1 : ¬ 1 < (c : Int) := by omega
    have hc2 : c < 2 := by omega
    clear hcv
    obtain ⟨q, hq⟩ : ∃ q, (S.take c).2 = q := ⟨_, rfl⟩
    have hqb : S.best c = q := by rw [← S.take_best c hc2]; exact hq
    have hIs : IsB (S.waits &&& S.lets c) S.p 1 31 q := by rw [← hqb]; exact bst_is _ _ 31
    obtain ⟨C1, hC1⟩ : ∃ C, (S.take c).1.enc = C := ⟨_, rfl⟩
    have hz : q = 0 → C1 = C := fun h => by rw [← hC1, S.take_zero c (hq.trans h)]; exact hC.out
    have hle : q ≤ 31 := by rw [← hqb]; exact S.best_le c
    have eW : C[33]? = some (.int .u32 (wn S.waits)) := by rw [← hC.out]; exact S.eW
    have eL : C[35 + c]? = some (.int .u32 (wn (S.lets c))) := by rw [← hC.out]; exact S.eLc hc2
    have eP : ∀ i, i < 32 → C[i]? = some (.int .u32 (S.p i)) := fun i h => by rw [← hC.out]; exact S.enc_p h
    have bW := wn_bd S.waits
    have bL := wn_bd (S.lets c)
    have bP := S.p_bd
    have fW := fun n => fun (V : Int) (h : wn S.waits = V) => bit_eq0 S.waits n h
    have fL := fun n => fun (V : Int) (h : wn (S.lets c) = V) => bit_eq0 (S.lets c) n h
    obtain ⟨XW, hXW⟩ : ∃ x, wn S.waits = x := ⟨_, rfl⟩
    obtain ⟨XL, hXL⟩ : ∃ x, wn (S.lets c) = x := ⟨_, rfl⟩
    rw [hXW] at eW bW
    rw [hXL] at eL bL
    have heq : ∀ w, (Op.equalIn 10000 98 (.agg C.toArray) (.agg C.toArray)).run Try.prog w = .ok true w := fun w => by rw [← hC.out]; exact S.eq_self w
    replace hq := aside hq
    replace hqb := aside hqb
    replace hIs := aside hIs
    replace hC1 := aside hC1
    replace hz := aside hz
    replace eW := aside eW
    replace eL := aside eL
    replace eP := aside eP
    replace bP := aside bP
    replace fW := aside fW
    replace fL := aside fL
    replace hXW := aside hXW
    replace hXL := aside hXL
    replace heq := aside heq
    go_wp2_with (first
      | (refine wpList_storeS rfl 98 (.tmp 5) (.tmp 16) rfl Z 0 rfl rfl t3.swap (by rw [hcz.out, hcn.out]; decide) hcl.out hco.out ?_; intro w4 t4; rw [setR_all (by rw [hcz.out, hcn.out])] at t4)
      | (refine wpList_storeS rfl 104 (.tmp 6) (.tmp 17) rfl (Z + 1) 0 rfl rfl t4.swap (by rw [hlz.out, hsn.out]; decide) hsl.out hso.out ?_; intro w5 t5; rw [setR_all (by rw [hlz.out, hsn.out])] at t5; have t6 := t5.alloc (c := pl0.enc) (t := 98); rw [pl0_enc, hCZ.out] at t6; obtain ⟨Y, hY⟩ : ∃ Y, w5.heap.size = Y := ⟨_, rfl⟩; rw [hY] at t6)
      | (refine wpList_loadS rfl 98 (.tmp 5) rfl Z 0 rfl (Sat.pull (h := cellsH ⟨Z, 0, none⟩ C) t5) Try.underlying98 rfl hcl.out ?_)
      | (refine wpList_storeS rfl 98 (.tmp 8) (.tmp 30) rfl Y 0 rfl rfl t6 (by rw [hcz.out, hcn.out]; decide) hcl.out hco.out ?_; intro w7 t7; rw [setR_all (by rw [hcz.out, hcn.out])] at t7; clear t3 t4 t5 t6 hZ hY))
    go_wp2_with fail
    refine c_plTakeL (Sat.pull (h := cellsH ⟨Z, 0, none⟩ C) t7) hC.out c ⟨by omega, by omega⟩ hC1.out hq.out ?_
    intro w8 t8
    clear t7
    have t9 : Sat W w8 (look W) (cellsH ⟨Y, 0, none⟩ C :: cellsH ⟨Z, 0, none⟩ C1 :: []) := t8.wk
    clear t8
    go_wp2
    go_loopg [10] 31 (fun k v10 w' => ∃ n : Nat, k + n = 32 ∧ 1 ≤ n ∧ v10 = .int .i64 n ∧ Sat W w' (look W) (cellsH ⟨Y, 0, none⟩ C :: cellsH ⟨Z, 0, none⟩ C1 :: []))
    case atStart => exact ⟨1, rfl, by omega, rfl, t9⟩
    clear t9
    case round =>
      obtain ⟨n, hq9, hn1, rfl, t⟩ := hrel
      by_cases hn : n < 32
      · have y1 := (t.c 33 eW.out).1
        have y2 := (t.c (35 + c) eL.out).1
        have y3 := (t.c n (eP.out n hn)).1
        have y4 := (t.c q (eP.out q (by omega))).1
        simp only [Nat.zero_add] at y1 y2 y3 y4
        have f1 := fW.out n XW hXW.out
        have f2 := fL.out n XL hXL.out
        have B1 := bW
        have B2 := bL
        have B3 := bP.out n
        have B4 := bP.out q
        have i1 : (0 : Int) ≤ n ∧ (n : Int) < 32 := by omega
        have i2 : (0 : Int) ≤ q ∧ (q : Int) < 32 := by omega
        have i3 : (0 : Int) ≤ c ∧ (c : Int) < 2 := by omega
        have hab : (S.waits &&& S.lets c).getLsbD n = (S.waits.getLsbD n && (S.lets c).getLsbD n) := by rw [BitVec.getLsbD_and]
        have hne : ¬ (S.waits.getLsbD n = true ∧ (S.lets c).getLsbD n = true ∧ 0 < S.p n) → q ≠ n := by
          intro h e
          rcases hIs.out with ⟨e0, _⟩ | ⟨_, _, e1, e2, _⟩
          · omega
          · rw [e, hab, Bool.and_eq_true] at e1
            rw [e] at e2
            exact h ⟨e1.1, e1.2, e2⟩
        obtain ⟨P, hP⟩ : ∃ x, S.p n = x := ⟨_, rfl⟩
        obtain ⟨Q, hQ⟩ : ∃ x, S.p q = x := ⟨_, rfl⟩
        rw [hP] at y3 B3 hne
        rw [hQ] at y4 B4
        replace hq9 := aside hq9
        by_cases hall : S.waits.getLsbD n = true ∧ (S.lets c).getLsbD n = true ∧ 0 < P
        · obtain ⟨a1, a2, a3⟩ := hall
          rw [a1] at f1
          rw [a2] at f2
          have d3 : (P == 0) = false := by rw [beq_eq_false_iff_ne]; omega
          have hfacts : q ≠ 0 ∧ ¬ Q < P ∧ (P = Q → ¬ n < q) := by
            rcases hIs.out with ⟨_, e1⟩ | ⟨e0, _, _, _, e1⟩
            · exact absurd ⟨by rw [hab, a1, a2]; rfl, by rw [hP]; exact a3⟩ (e1 n hn1 (by omega))
            · have := e1 n hn1 (by omega) (by rw [hab, a1, a2]; rfl) (by rw [hP]; exact a3)
              rw [hP, hQ] at this
              exact ⟨by omega, by omega, fun h => by omega⟩
          obtain ⟨b1, b2, b3⟩ := hfacts
          have d4 : ((q : Int) == 0) = false := by rw [beq_eq_false_iff_ne]; omega
          have d5 : decide (Q < P) = false := by simp; omega
          clear hab hne
          by_cases hPQ : P = Q
          · have d6 : (P == Q) = true := by simp [hPQ]
            have d7 : decide (n < q) = false := by have := b3 hPQ; simp; omega
            replace hP := aside hP
            replace hQ := aside hQ
            replace a1 := aside a1
            replace a2 := aside a2
            replace hPQ := aside hPQ
            replace b3 := aside b3
            replace b1 := aside b1
            go_wp2
            go_quiet (fail)
            go_wp2
            go_roundg (gk - 1)
            case measure => have := hq9.out; omega
            case rel => exact ⟨n + 1, by have := hq9.out; omega, by omega, by go_num, t.drewN _⟩
          · have d6 : (P == Q) = false := by rw [beq_eq_false_iff_ne]; exact hPQ
            replace hP := aside hP
            replace hQ := aside hQ
            replace a1 := aside a1
            replace a2 := aside a2
            replace b3 := aside b3
            replace b1 := aside b1
            replace hPQ := aside hPQ
            go_wp2
            go_quiet (fail)
            go_wp2
            go_roundg (gk - 1)
            case measure => have := hq9.out; omega
            case rel => exact ⟨n + 1, by have := hq9.out; omega, by omega, by go_num, t.drewN _⟩
        · have dq : ((q : Int) == n) = false := by have := hne hall; rw [beq_eq_false_iff_ne]; omega
          clear hab hne
          cases a1 : S.waits.getLsbD n with
          | false =>
            rw [a1] at f1
            clear hall
            replace hP := aside hP
            replace hQ := aside hQ
            replace a1 := aside a1
            go_wp2
            go_roundg (gk - 1)
            case measure => have := hq9.out; omega
            case rel => exact ⟨n + 1, by have := hq9.out; omega, by omega, by go_num, t⟩
          | true =>
            rw [a1] at f1
            cases a2 : (S.lets c).getLsbD n with
            | false =>
              rw [a2] at f2
              clear hall
              replace hP := aside hP
              replace hQ := aside hQ
              replace a1 := aside a1
              replace a2 := aside a2
              go_wp2
              go_roundg (gk - 1)
              case measure => have := hq9.out; omega
              case rel => exact ⟨n + 1, by have := hq9.out; omega, by omega, by go_num, t⟩
            | true =>
              rw [a2] at f2
              have hP0 : P = 0 := by
                have : ¬ 0 < P := fun h => hall ⟨a1, a2, h⟩
                omega
              have d3 : (P == 0) = true := by simp [hP0]
              clear hall
              replace hP := aside hP
              replace hQ := aside hQ
              replace a1 := aside a1
              replace a2 := aside a2
              replace hP0 := aside hP0
              go_wp2
              go_roundg (gk - 1)
              case measure => have := hq9.out; omega
              case rel => exact ⟨n + 1, by have := hq9.out; omega, by omega, by go_num, t⟩
      · obtain rfl : n = 32 := by omega
        clear hq9 hn hn1
        by_cases h0 : 0 < q
        · have d0 : decide (0 < q) = true := by simp [h0]
          go_wp2
          go_ret
          exact ⟨rfl, t.below⟩
        · have hz1 := hz.out (by omega)
          subst hz1
          have d0 : decide (0 < q) = false := by simp [h0]
          have hg := plc_guard
          have he2 := heq.out
          go_wp2_with (first
            | (refine wpList_loadG (by rfl) 98 (.tmp 5) rfl Z 0 rfl t.swap Try.underlying98 rfl hcl.out ?_)
            | (refine wpList_loadG (by rfl) 98 (.tmp 8) rfl Y 0 rfl t Try.underlying98 rfl hcl.out ?_))
          go_ret
          exact ⟨rfl, t.below⟩
end Go.Proofs.Ytohccblfnjampaa
