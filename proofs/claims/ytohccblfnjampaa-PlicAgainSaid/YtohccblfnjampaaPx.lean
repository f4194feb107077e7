/-
  PLIC, the document's: Store, Lines.
-/
import Derived.Test.YtohccblfnjampaaPw
import Derived.Test.YtohccblfnjampaaPe
namespace Go.Proofs.Ytohccblfnjampaa
open Go.RowKit
set_option linter.unusedVariables false
set_option linter.unusedSimpArgs false

theorem PlS.l0_ref (s : PlS) (y : W32) : setR s.ref 128 (mk32 y) = PlS.ref { s with lets0 := y } := by rw [s.ref_V]; exact refV_l0 s.plen
theorem PlS.l1_ref (s : PlS) (y : W32) : setR s.ref 160 (mk32 y) = PlS.ref { s with lets1 := y } := by rw [s.ref_V]; exact refV_l1 s.plen
theorem PlS.e0_ref (s : PlS) (v : Int) (hv : 0 ≤ v ∧ v ≤ 7) : s.ref.set 192 (.int .i64 v) = PlS.ref { s with least0 := v, b0 := hv } := by rw [s.ref_V]; exact refV_e0 s.plen
theorem PlS.e1_ref (s : PlS) (v : Int) (hv : 0 ≤ v ∧ v ≤ 7) : s.ref.set 193 (.int .i64 v) = PlS.ref { s with least1 := v, b1 := hv } := by rw [s.ref_V]; exact refV_e1 s.plen

section
variable {R : Ending → World → Prop} {W0 w : World} {H : Hp} {A F : List Hp} {s : PlS}


set_option maxRecDepth 100000 in
set_option maxHeartbeats 4000000 in
theorem c_rpStore (t : Sat W0 w H A) (a n x : Int) (ha : 0 ≤ a ∧ a ≤ 18446744073709551615) (hn : -9223372036854775808 ≤ n ∧ n ≤ 9223372036854775807) (hx : 0 ≤ x ∧ x ≤ 18446744073709551615)
    (k : ∀ w', Sat W0 w' H A → R (.returned (.tuple #[.agg (s.store a n x).1.ref.toArray, .bool (s.store a n x).2])) w') :
    Calls Try.prog 119 #[.agg s.ref.toArray, .int .u64 a, .int .i64 n, .int .u64 x] w R := by
  have t1 := (t.alloc (c := s.ref) (t := 104)).alloc (c := plZero) (t := 104)
  rw [plZero_eq] at t1
  obtain ⟨Z, hZ⟩ : ∃ Z, w.heap.size = Z := ⟨_, rfl⟩
  simp only [World.size_alloc] at t1
  rw [hZ] at t1
  obtain ⟨LZ, hLZ⟩ : ∃ L, plZero = L := ⟨_, rfl⟩
  have hlz : LZ.length = 194 := by rw [← hLZ]; exact plZero_len
  rw [hLZ] at t1
  replace t1 := t1.swap
  replace hlz := aside hlz
  replace hLZ := aside hLZ
  obtain ⟨L, hL⟩ : ∃ L, s.ref = L := ⟨_, rfl⟩
  by_cases hm : mayP a n
  · obtain ⟨rfl, hm4, hlt⟩ := id hm
    have hmd : decide (mayP a 4) = true := decide_eq_true hm
    obtain ⟨V, hV⟩ : ∃ V, x % 4294967296 = V := ⟨_, rfl⟩
    have hVb : 0 ≤ V ∧ V ≤ 4294967295 := by omega
    have hofi : BitVec.ofInt 32 x = BitVec.ofInt 32 V := by
      apply BitVec.eq_of_toNat_eq
      rw [BitVec.toNat_ofInt, BitVec.toNat_ofInt]; omega
    by_cases h1 : 0 < a ∧ a < 128
    · obtain ⟨h1a, h1b⟩ := id h1
      have e : s.store a 4 x = (s.setP (a / 4).toNat (x % 8) (m8 x), true) := by unfold PlS.store; rw [if_neg (not_not_intro hm), if_pos h1]
      rw [e] at k
      clear e
      obtain ⟨j, hj⟩ := Int.eq_ofNat_of_zero_le (show 0 ≤ a / 4 by omega)
      simp only [hj, Int.toNat_natCast] at k
      have y1 := t1.c j (s.rP (by omega))
      simp only [Nat.zero_add] at y1
      have hset := s.sP (i := j) (by omega) (x % 8) (m8 x)
      obtain ⟨S1, hS1⟩ : ∃ S1, s.setP j (x % 8) (m8 x) = S1 := ⟨_, rfl⟩
      rw [hS1, hL] at hset
      rw [hS1] at k
      rw [hL] at y1 ⊢
      have t2 := (t.alloc (c := S1.ref) (t := 104)).alloc (c := plZero) (t := 104)
      rw [plZero_eq] at t2
      simp only [World.size_alloc] at t2
      rw [hZ, hLZ.out] at t2
      replace t2 := t2.swap
      have h8 : V % 8 = x % 8 := by omega
      rw [← h8] at hset
      obtain ⟨q, hq⟩ : ∃ q, V % 8 = q := ⟨_, rfl⟩
      have hqb : 0 ≤ q ∧ q ≤ 7 := by omega
      rw [hq] at hset
      have hgl := S1.r_size
      have hgn := S1.ref_len
      have hgo := S1.r_one
      obtain ⟨G1, hG1⟩ : ∃ G, S1.ref = G := ⟨_, rfl⟩
      rw [hG1] at hgl hgn hgo k
      replace k := aside k
      rw [hG1] at t2 hset
      clear t t1 h8 hofi
      have i1 : (0 : Int) ≤ j ∧ (j : Int) < 32 := by omega
      replace hS1 := aside hS1
      replace hL := aside hL
      replace hG1 := aside hG1
      replace hgl := aside hgl
      replace hgn := aside hgn
      replace hgo := aside hgo
      replace h1 := aside h1
      replace hmd := aside hmd
      go_enter Try.func119, Try.ntmps119
      go_wp2_with fail
      refine c_r12May a 4 (by omega) (by omega) ?_
      rw [hmd.out]
      go_wp2_with (first
        | (refine wpList_loadS rfl 104 (.tmp 4) rfl Z 0 rfl t2 Try.underlying104 rfl hgl.out ?_)
        | (refine wpList_storeS rfl 104 (.tmp 8) (.tmp 80) rfl (Z + 1) 0 rfl rfl t2.swap (by rw [hlz.out, hgn.out]; decide) hgl.out hgo.out ?_; intro w9 t9; rw [setR_all (by rw [hlz.out, hgn.out])] at t9))
      refine bodyPost_ret (results_S2 Try.results119 _ (Z + 1) rfl rfl t9 Try.underlying104 rfl hgl.out) rfl ?_
      exact k.out _ t9.wk
    by_cases hh : a = 8192
    · subst hh
      have e : s.store 8192 4 x = ({ s with lets0 := BitVec.ofInt 32 x &&& ~~~tw 0 }, true) := by unfold PlS.store; rw [if_neg (not_not_intro hm)]; rfl
      rw [e] at k
      clear e
      have hset := s.l0_ref (markW V)
      have hmw : markW V = BitVec.ofInt 32 x &&& ~~~tw 0 := by unfold markW; rw [hofi]
      rw [← hmw] at k
      obtain ⟨S1, hS1⟩ : ∃ S1, ({ s with lets0 := markW V } : PlS) = S1 := ⟨_, rfl⟩
      rw [hS1, hL] at hset
      rw [hS1] at k
      have hLn : L.length = 194 := by rw [← hL]; exact s.ref_len
      have hms : (Try.prog.info? 100).map (·.size) = some (mk32 (markW V)).length := by rw [mk32_len]; exact mk_size
      have hmo := one_mk32 (markW V)
      have hml := mk32_len (markW V)
      obtain ⟨M, hM⟩ : ∃ M, mk32 (markW V) = M := ⟨_, rfl⟩
      rw [hM] at hms hmo hml hset
      rw [hL] at t1 ⊢
      have hgl := S1.r_size
      have hgn := S1.ref_len
      have hgo := S1.r_one
      obtain ⟨G1, hG1⟩ : ∃ G, S1.ref = G := ⟨_, rfl⟩
      rw [hG1] at hgl hgn hgo k
      replace k := aside k
      rw [hG1] at hset
      clear t hofi hmw
      replace hS1 := aside hS1
      replace hL := aside hL
      replace hG1 := aside hG1
      replace hgl := aside hgl
      replace hgn := aside hgn
      replace hgo := aside hgo
      replace h1 := aside h1
      replace hmd := aside hmd
      replace hset := aside hset
      replace hLn := aside hLn
      replace hms := aside hms
      replace hmo := aside hmo
      replace hml := aside hml
      replace hM := aside hM
      go_enter Try.func119, Try.ntmps119
      go_wp2_with fail
      refine c_r12May 8192 4 (by omega) (by omega) ?_
      rw [hmd.out]
      go_wp2_with fail
      refine c_r12Marks t1 V (by omega) ?_
      rw [hM.out]
      intro w2 t3
      clear t1 hZ
      go_wp2_with (first
        | (refine wpList_storeS rfl 100 (.tmp 45) (.tmp 43) rfl Z 128 rfl rfl t3 (by rw [hLn.out, hml.out]; decide) hms.out hmo.out ?_; intro w4 t2; rw [hset.out] at t2)
        | (refine wpList_loadS rfl 104 (.tmp 4) rfl Z 0 rfl t2 Try.underlying104 rfl hgl.out ?_)
        | (refine wpList_storeS rfl 104 (.tmp 8) (.tmp 80) rfl (Z + 1) 0 rfl rfl t2.swap (by rw [hlz.out, hgn.out]; decide) hgl.out hgo.out ?_; intro w9 t9; rw [setR_all (by rw [hlz.out, hgn.out])] at t9))
      refine bodyPost_ret (results_S2 Try.results119 _ (Z + 1) rfl rfl t9 Try.underlying104 rfl hgl.out) rfl ?_
      exact k.out _ t9.wk
    have h3 := hh
    clear hh
    by_cases hh : a = 8320
    · subst hh
      have e : s.store 8320 4 x = ({ s with lets1 := BitVec.ofInt 32 x &&& ~~~tw 0 }, true) := by unfold PlS.store; rw [if_neg (not_not_intro hm)]; rfl
      rw [e] at k
      clear e
      have hset := s.l1_ref (markW V)
      have hmw : markW V = BitVec.ofInt 32 x &&& ~~~tw 0 := by unfold markW; rw [hofi]
      rw [← hmw] at k
      obtain ⟨S1, hS1⟩ : ∃ S1, ({ s with lets1 := markW V } : PlS) = S1 := ⟨_, rfl⟩
      rw [hS1, hL] at hset
      rw [hS1] at k
      have hLn : L.length = 194 := by rw [← hL]; exact s.ref_len
      have hms : (Try.prog.info? 100).map (·.size) = some (mk32 (markW V)).length := by rw [mk32_len]; exact mk_size
      have hmo := one_mk32 (markW V)
      have hml := mk32_len (markW V)
      obtain ⟨M, hM⟩ : ∃ M, mk32 (markW V) = M := ⟨_, rfl⟩
      rw [hM] at hms hmo hml hset
      rw [hL] at t1 ⊢
      have hgl := S1.r_size
      have hgn := S1.ref_len
      have hgo := S1.r_one
      obtain ⟨G1, hG1⟩ : ∃ G, S1.ref = G := ⟨_, rfl⟩
      rw [hG1] at hgl hgn hgo k
      replace k := aside k
      rw [hG1] at hset
      clear t hofi hmw
      replace hS1 := aside hS1
      replace hL := aside hL
      replace hG1 := aside hG1
      replace hgl := aside hgl
      replace hgn := aside hgn
      replace hgo := aside hgo
      replace h1 := aside h1
      replace hmd := aside hmd
      replace hset := aside hset
      replace hLn := aside hLn
      replace hms := aside hms
      replace hmo := aside hmo
      replace hml := aside hml
      replace hM := aside hM
      go_enter Try.func119, Try.ntmps119
      go_wp2_with fail
      refine c_r12May 8320 4 (by omega) (by omega) ?_
      rw [hmd.out]
      go_wp2_with fail
      refine c_r12Marks t1 V (by omega) ?_
      rw [hM.out]
      intro w2 t3
      clear t1 hZ
      go_wp2_with (first
        | (refine wpList_storeS rfl 100 (.tmp 45) (.tmp 43) rfl Z 160 rfl rfl t3 (by rw [hLn.out, hml.out]; decide) hms.out hmo.out ?_; intro w4 t2; rw [hset.out] at t2)
        | (refine wpList_loadS rfl 104 (.tmp 4) rfl Z 0 rfl t2 Try.underlying104 rfl hgl.out ?_)
        | (refine wpList_storeS rfl 104 (.tmp 8) (.tmp 80) rfl (Z + 1) 0 rfl rfl t2.swap (by rw [hlz.out, hgn.out]; decide) hgl.out hgo.out ?_; intro w9 t9; rw [setR_all (by rw [hlz.out, hgn.out])] at t9))
      refine bodyPost_ret (results_S2 Try.results119 _ (Z + 1) rfl rfl t9 Try.underlying104 rfl hgl.out) rfl ?_
      exact k.out _ t9.wk
    have h4 := hh
    clear hh
    by_cases hh : a = 2097152
    · subst hh
      have e : s.store 2097152 4 x = ({ s with least0 := x % 8, b0 := m8 x }, true) := by unfold PlS.store; rw [if_neg (not_not_intro hm)]; rfl
      rw [e] at k
      clear e
      have hset := s.e0_ref (x % 8) (m8 x)
      obtain ⟨S1, hS1⟩ : ∃ S1, ({ s with least0 := x % 8, b0 := m8 x } : PlS) = S1 := ⟨_, rfl⟩
      have y1 := t1.c 192 (s.rE (c := 0) (by omega))
      simp only [Nat.zero_add] at y1
      rw [hS1, hL] at hset
      rw [hS1] at k
      rw [hL] at y1 ⊢
      have t2 := (t.alloc (c := S1.ref) (t := 104)).alloc (c := plZero) (t := 104)
      rw [plZero_eq] at t2
      simp only [World.size_alloc] at t2
      rw [hZ, hLZ.out] at t2
      replace t2 := t2.swap
      have h8 : V % 8 = x % 8 := by omega
      rw [← h8] at hset
      obtain ⟨q, hq⟩ : ∃ q, V % 8 = q := ⟨_, rfl⟩
      have hqb : 0 ≤ q ∧ q ≤ 7 := by omega
      rw [hq] at hset
      have hgl := S1.r_size
      have hgn := S1.ref_len
      have hgo := S1.r_one
      obtain ⟨G1, hG1⟩ : ∃ G, S1.ref = G := ⟨_, rfl⟩
      rw [hG1] at hgl hgn hgo k
      replace k := aside k
      rw [hG1] at t2 hset
      clear t t1 h8 hofi
      replace hS1 := aside hS1
      replace hL := aside hL
      replace hG1 := aside hG1
      replace hgl := aside hgl
      replace hgn := aside hgn
      replace hgo := aside hgo
      replace h1 := aside h1
      replace hmd := aside hmd
      go_enter Try.func119, Try.ntmps119
      go_wp2_with fail
      refine c_r12May 2097152 4 (by omega) (by omega) ?_
      rw [hmd.out]
      go_wp2_with (first
        | (refine wpList_loadS rfl 104 (.tmp 4) rfl Z 0 rfl t2 Try.underlying104 rfl hgl.out ?_)
        | (refine wpList_storeS rfl 104 (.tmp 8) (.tmp 80) rfl (Z + 1) 0 rfl rfl t2.swap (by rw [hlz.out, hgn.out]; decide) hgl.out hgo.out ?_; intro w9 t9; rw [setR_all (by rw [hlz.out, hgn.out])] at t9))
      refine bodyPost_ret (results_S2 Try.results119 _ (Z + 1) rfl rfl t9 Try.underlying104 rfl hgl.out) rfl ?_
      exact k.out _ t9.wk
    have h5 := hh
    clear hh
    by_cases hh : a = 2101248
    · subst hh
      have e : s.store 2101248 4 x = ({ s with least1 := x % 8, b1 := m8 x }, true) := by unfold PlS.store; rw [if_neg (not_not_intro hm)]; rfl
      rw [e] at k
      clear e
      have hset := s.e1_ref (x % 8) (m8 x)
      obtain ⟨S1, hS1⟩ : ∃ S1, ({ s with least1 := x % 8, b1 := m8 x } : PlS) = S1 := ⟨_, rfl⟩
      have y1 := t1.c 193 (s.rE (c := 1) (by omega))
      simp only [Nat.zero_add] at y1
      rw [hS1, hL] at hset
      rw [hS1] at k
      rw [hL] at y1 ⊢
      have t2 := (t.alloc (c := S1.ref) (t := 104)).alloc (c := plZero) (t := 104)
      rw [plZero_eq] at t2
      simp only [World.size_alloc] at t2
      rw [hZ, hLZ.out] at t2
      replace t2 := t2.swap
      have h8 : V % 8 = x % 8 := by omega
      rw [← h8] at hset
      obtain ⟨q, hq⟩ : ∃ q, V % 8 = q := ⟨_, rfl⟩
      have hqb : 0 ≤ q ∧ q ≤ 7 := by omega
      rw [hq] at hset
      have hgl := S1.r_size
      have hgn := S1.ref_len
      have hgo := S1.r_one
      obtain ⟨G1, hG1⟩ : ∃ G, S1.ref = G := ⟨_, rfl⟩
      rw [hG1] at hgl hgn hgo k
      replace k := aside k
      rw [hG1] at t2 hset
      clear t t1 h8 hofi
      replace hS1 := aside hS1
      replace hL := aside hL
      replace hG1 := aside hG1
      replace hgl := aside hgl
      replace hgn := aside hgn
      replace hgo := aside hgo
      replace h1 := aside h1
      replace hmd := aside hmd
      go_enter Try.func119, Try.ntmps119
      go_wp2_with fail
      refine c_r12May 2101248 4 (by omega) (by omega) ?_
      rw [hmd.out]
      go_wp2_with (first
        | (refine wpList_loadS rfl 104 (.tmp 4) rfl Z 0 rfl t2 Try.underlying104 rfl hgl.out ?_)
        | (refine wpList_storeS rfl 104 (.tmp 8) (.tmp 80) rfl (Z + 1) 0 rfl rfl t2.swap (by rw [hlz.out, hgn.out]; decide) hgl.out hgo.out ?_; intro w9 t9; rw [setR_all (by rw [hlz.out, hgn.out])] at t9))
      refine bodyPost_ret (results_S2 Try.results119 _ (Z + 1) rfl rfl t9 Try.underlying104 rfl hgl.out) rfl ?_
      exact k.out _ t9.wk
    have h6 := hh
    clear hh
    by_cases hh : a = 2097156
    · subst hh
      by_cases hv : V < 32
      · have e : s.store 2097156 4 x = (s.done 0 V, true) := by unfold PlS.store; rw [if_neg (not_not_intro hm), if_neg (by omega), if_neg (by omega), if_neg (by omega), if_neg (by omega), if_neg (by omega), if_pos ⟨rfl, by omega⟩, hV]
        rw [e] at k
        clear e
        obtain ⟨S1, hS1⟩ : ∃ S1, s.done 0 V = S1 := ⟨_, rfl⟩
        rw [hS1] at k
        have hsl := s.r_size
        have hLn : L.length = 194 := by rw [← hL]; exact s.ref_len
        rw [hL] at t1 hsl ⊢
        have hgl := S1.r_size
        have hgn := S1.ref_len
        have hgo := S1.r_one
        obtain ⟨G1, hG1⟩ : ∃ G, S1.ref = G := ⟨_, rfl⟩
        rw [hG1] at hgl hgn hgo k
        replace k := aside k
        clear t hofi
        have d1 : decide (V < 32) = true := by simp [hv]
        replace hG1 := aside hG1
        replace hgl := aside hgl
        replace hgn := aside hgn
        replace hgo := aside hgo
        replace h1 := aside h1
        replace hmd := aside hmd
        replace hLn := aside hLn
        replace hsl := aside hsl
        go_enter Try.func119, Try.ntmps119
        go_wp2_with fail
        refine c_r12May 2097156 4 (by omega) (by omega) ?_
        rw [hmd.out]
        go_wp2_with (refine wpList_loadS rfl 104 (.tmp 4) rfl Z 0 rfl t1 Try.underlying104 rfl hsl.out ?_)
        go_wp2_with fail
        rw [← hL] at t1 ⊢
        refine c_rpDone t1 0 V (by omega) (by omega) ?_
        rw [hS1, hG1.out]
        intro w2 t3
        rw [hL] at t3
        clear t1 hZ
        replace hL := aside hL
        replace hS1 := aside hS1
        go_wp2_with (first
          | (refine wpList_storeS rfl 104 (.tmp 4) (.tmp 79) rfl Z 0 rfl rfl t3 (by rw [hLn.out, hgn.out]; decide) hgl.out hgo.out ?_; intro w4 t2; rw [setR_all (by rw [hLn.out, hgn.out])] at t2)
          | (refine wpList_loadS rfl 104 (.tmp 4) rfl Z 0 rfl t2 Try.underlying104 rfl hgl.out ?_)
          | (refine wpList_storeS rfl 104 (.tmp 8) (.tmp 80) rfl (Z + 1) 0 rfl rfl t2.swap (by rw [hlz.out, hgn.out]; decide) hgl.out hgo.out ?_; intro w9 t9; rw [setR_all (by rw [hlz.out, hgn.out])] at t9))
        refine bodyPost_ret (results_S2 Try.results119 _ (Z + 1) rfl rfl t9 Try.underlying104 rfl hgl.out) rfl ?_
        exact k.out _ t9.wk
      · have e : s.store 2097156 4 x = (s, true) := by unfold PlS.store; rw [if_neg (not_not_intro hm), if_neg (by omega), if_neg (by omega), if_neg (by omega), if_neg (by omega), if_neg (by omega), if_neg (by omega), if_neg (by omega)]
        rw [e] at k
        clear e
        obtain ⟨S1, hS1⟩ : ∃ S1, s = S1 := ⟨_, rfl⟩
        rw [hS1] at k
        have t2 := t1
        rw [hS1] at t2 hL
        rw [hS1, hL]
        rw [hL] at t2
        have hgl := S1.r_size
        have hgn := S1.ref_len
        have hgo := S1.r_one
        obtain ⟨G1, hG1⟩ : ∃ G, S1.ref = G := ⟨_, rfl⟩
        rw [hG1] at hgl hgn hgo k
        replace k := aside k
        obtain rfl : G1 = L := by rw [← hG1, hL]
        clear t t1 hofi
        have d1 : decide (V < 32) = false := by simp [hv]
        replace hG1 := aside hG1
        replace hgl := aside hgl
        replace hgn := aside hgn
        replace hgo := aside hgo
        replace h1 := aside h1
        replace hmd := aside hmd
        replace hL := aside hL
        replace hS1 := aside hS1
        go_enter Try.func119, Try.ntmps119
        go_wp2_with fail
        refine c_r12May 2097156 4 (by omega) (by omega) ?_
        rw [hmd.out]
        go_wp2_with (first
          | (refine wpList_loadS rfl 104 (.tmp 4) rfl Z 0 rfl t2 Try.underlying104 rfl hgl.out ?_)
          | (refine wpList_storeS rfl 104 (.tmp 8) (.tmp 80) rfl (Z + 1) 0 rfl rfl t2.swap (by rw [hlz.out, hgn.out]; decide) hgl.out hgo.out ?_; intro w9 t9; rw [setR_all (by rw [hlz.out, hgn.out])] at t9))
        refine bodyPost_ret (results_S2 Try.results119 _ (Z + 1) rfl rfl t9 Try.underlying104 rfl hgl.out) rfl ?_
        exact k.out _ t9.wk
    have h7 := hh
    clear hh
    by_cases hh : a = 2101252
    · subst hh
      by_cases hv : V < 32
      · have e : s.store 2101252 4 x = (s.done 1 V, true) := by unfold PlS.store; rw [if_neg (not_not_intro hm), if_neg (by omega), if_neg (by omega), if_neg (by omega), if_neg (by omega), if_neg (by omega), if_neg (by omega), if_pos ⟨rfl, by omega⟩, hV]
        rw [e] at k
        clear e
        obtain ⟨S1, hS1⟩ : ∃ S1, s.done 1 V = S1 := ⟨_, rfl⟩
        rw [hS1] at k
        have hsl := s.r_size
        have hLn : L.length = 194 := by rw [← hL]; exact s.ref_len
        rw [hL] at t1 hsl ⊢
        have hgl := S1.r_size
        have hgn := S1.ref_len
        have hgo := S1.r_one
        obtain ⟨G1, hG1⟩ : ∃ G, S1.ref = G := ⟨_, rfl⟩
        rw [hG1] at hgl hgn hgo k
        replace k := aside k
        clear t hofi
        have d1 : decide (V < 32) = true := by simp [hv]
        replace hG1 := aside hG1
        replace hgl := aside hgl
        replace hgn := aside hgn
        replace hgo := aside hgo
        replace h1 := aside h1
        replace hmd := aside hmd
        replace hLn := aside hLn
        replace hsl := aside hsl
        go_enter Try.func119, Try.ntmps119
        go_wp2_with fail
        refine c_r12May 2101252 4 (by omega) (by omega) ?_
        rw [hmd.out]
        go_wp2_with (refine wpList_loadS rfl 104 (.tmp 4) rfl Z 0 rfl t1 Try.underlying104 rfl hsl.out ?_)
        go_wp2_with fail
        rw [← hL] at t1 ⊢
        refine c_rpDone t1 1 V (by omega) (by omega) ?_
        rw [hS1, hG1.out]
        intro w2 t3
        rw [hL] at t3
        clear t1 hZ
        replace hL := aside hL
        replace hS1 := aside hS1
        go_wp2_with (first
          | (refine wpList_storeS rfl 104 (.tmp 4) (.tmp 79) rfl Z 0 rfl rfl t3 (by rw [hLn.out, hgn.out]; decide) hgl.out hgo.out ?_; intro w4 t2; rw [setR_all (by rw [hLn.out, hgn.out])] at t2)
          | (refine wpList_loadS rfl 104 (.tmp 4) rfl Z 0 rfl t2 Try.underlying104 rfl hgl.out ?_)
          | (refine wpList_storeS rfl 104 (.tmp 8) (.tmp 80) rfl (Z + 1) 0 rfl rfl t2.swap (by rw [hlz.out, hgn.out]; decide) hgl.out hgo.out ?_; intro w9 t9; rw [setR_all (by rw [hlz.out, hgn.out])] at t9))
        refine bodyPost_ret (results_S2 Try.results119 _ (Z + 1) rfl rfl t9 Try.underlying104 rfl hgl.out) rfl ?_
        exact k.out _ t9.wk
      · have e : s.store 2101252 4 x = (s, true) := by unfold PlS.store; rw [if_neg (not_not_intro hm), if_neg (by omega), if_neg (by omega), if_neg (by omega), if_neg (by omega), if_neg (by omega), if_neg (by omega), if_neg (by omega)]
        rw [e] at k
        clear e
        obtain ⟨S1, hS1⟩ : ∃ S1, s = S1 := ⟨_, rfl⟩
        rw [hS1] at k
        have t2 := t1
        rw [hS1] at t2 hL
        rw [hS1, hL]
        rw [hL] at t2
        have hgl := S1.r_size
        have hgn := S1.ref_len
        have hgo := S1.r_one
        obtain ⟨G1, hG1⟩ : ∃ G, S1.ref = G := ⟨_, rfl⟩
        rw [hG1] at hgl hgn hgo k
        replace k := aside k
        obtain rfl : G1 = L := by rw [← hG1, hL]
        clear t t1 hofi
        have d1 : decide (V < 32) = false := by simp [hv]
        replace hG1 := aside hG1
        replace hgl := aside hgl
        replace hgn := aside hgn
        replace hgo := aside hgo
        replace h1 := aside h1
        replace hmd := aside hmd
        replace hL := aside hL
        replace hS1 := aside hS1
        go_enter Try.func119, Try.ntmps119
        go_wp2_with fail
        refine c_r12May 2101252 4 (by omega) (by omega) ?_
        rw [hmd.out]
        go_wp2_with (first
          | (refine wpList_loadS rfl 104 (.tmp 4) rfl Z 0 rfl t2 Try.underlying104 rfl hgl.out ?_)
          | (refine wpList_storeS rfl 104 (.tmp 8) (.tmp 80) rfl (Z + 1) 0 rfl rfl t2.swap (by rw [hlz.out, hgn.out]; decide) hgl.out hgo.out ?_; intro w9 t9; rw [setR_all (by rw [hlz.out, hgn.out])] at t9))
        refine bodyPost_ret (results_S2 Try.results119 _ (Z + 1) rfl rfl t9 Try.underlying104 rfl hgl.out) rfl ?_
        exact k.out _ t9.wk
    · have e : s.store a 4 x = (s, true) := by
        unfold PlS.store; rw [if_neg (not_not_intro hm), if_neg h1, if_neg h3, if_neg h4, if_neg h5, if_neg h6, if_neg (fun h => h7 h.1), if_neg (fun h => hh h.1)]
      rw [e] at k
      clear e
      obtain ⟨S1, hS1⟩ : ∃ S1, s = S1 := ⟨_, rfl⟩
      rw [hS1] at k
      have t2 := t1
      rw [hS1] at t2 hL
      rw [hS1, hL]
      rw [hL] at t2
      have hgl := S1.r_size
      have hgn := S1.ref_len
      have hgo := S1.r_one
      obtain ⟨G1, hG1⟩ : ∃ G, S1.ref = G := ⟨_, rfl⟩
      rw [hG1] at hgl hgn hgo k
      replace k := aside k
      obtain rfl : G1 = L := by rw [← hG1, hL]
      clear t t1 hofi
      have d3 : (a == 8192) = false := by rw [beq_eq_false_iff_ne]; exact h3
      have d4 : (a == 8320) = false := by rw [beq_eq_false_iff_ne]; exact h4
      have d5 : (a == 2097152) = false := by rw [beq_eq_false_iff_ne]; exact h5
      have d6 : (a == 2101248) = false := by rw [beq_eq_false_iff_ne]; exact h6
      have d7 : (a == 2097156) = false := by rw [beq_eq_false_iff_ne]; exact h7
      have d8 : (a == 2101252) = false := by rw [beq_eq_false_iff_ne]; exact hh
      have h9 : a = 0 ∨ 128 ≤ a := by omega
      clear h1 h3 h4 h5 h6 h7 hh
      replace hG1 := aside hG1
      replace hgl := aside hgl
      replace hgn := aside hgn
      replace hgo := aside hgo
      replace hmd := aside hmd
      replace hL := aside hL
      replace hS1 := aside hS1
      replace hm := aside hm
      rcases h9 with rfl | h9
      · skip
        go_enter Try.func119, Try.ntmps119
        go_wp2_with fail
        refine c_r12May 0 4 (by omega) (by omega) ?_
        rw [hmd.out]
        go_wp2_with (first
          | (refine wpList_loadS rfl 104 (.tmp 4) rfl Z 0 rfl t2 Try.underlying104 rfl hgl.out ?_)
          | (refine wpList_storeS rfl 104 (.tmp 8) (.tmp 80) rfl (Z + 1) 0 rfl rfl t2.swap (by rw [hlz.out, hgn.out]; decide) hgl.out hgo.out ?_; intro w9 t9; rw [setR_all (by rw [hlz.out, hgn.out])] at t9))
        refine bodyPost_ret (results_S2 Try.results119 _ (Z + 1) rfl rfl t9 Try.underlying104 rfl hgl.out) rfl ?_
        exact k.out _ t9.wk
      · skip
        go_enter Try.func119, Try.ntmps119
        go_wp2_with fail
        refine c_r12May a 4 (by omega) (by omega) ?_
        rw [hmd.out]
        go_wp2_with (first
          | (refine wpList_loadS rfl 104 (.tmp 4) rfl Z 0 rfl t2 Try.underlying104 rfl hgl.out ?_)
          | (refine wpList_storeS rfl 104 (.tmp 8) (.tmp 80) rfl (Z + 1) 0 rfl rfl t2.swap (by rw [hlz.out, hgn.out]; decide) hgl.out hgo.out ?_; intro w9 t9; rw [setR_all (by rw [hlz.out, hgn.out])] at t9))
        refine bodyPost_ret (results_S2 Try.results119 _ (Z + 1) rfl rfl t9 Try.underlying104 rfl hgl.out) rfl ?_
        exact k.out _ t9.wk
  · have e : s.store a n x = (s, false) := by unfold PlS.store; rw [if_pos hm]
    rw [e] at k
    clear e
    have hgl := s.r_size
    have hgn := s.ref_len
    have hgo := s.r_one
    rw [hL] at t1 hgl hgn hgo k ⊢
    have t2 := t1
    replace k := aside k
    have hmd : decide (mayP a n) = false := decide_eq_false hm
    clear t hm
    replace hL := aside hL
    replace hgl := aside hgl
    replace hgn := aside hgn
    replace hgo := aside hgo
    replace hmd := aside hmd
    go_enter Try.func119, Try.ntmps119
    go_wp2_with fail
    refine c_r12May a n (by omega) (by omega) ?_
    rw [hmd.out]
    go_wp2_with (first
      | (refine wpList_loadS rfl 104 (.tmp 4) rfl Z 0 rfl t2 Try.underlying104 rfl hgl.out ?_)
      | (refine wpList_storeS rfl 104 (.tmp 8) (.tmp 15) rfl (Z + 1) 0 rfl rfl t2.swap (by rw [hlz.out, hgn.out]; decide) hgl.out hgo.out ?_; intro w9 t9; rw [setR_all (by rw [hlz.out, hgn.out])] at t9))
    refine bodyPost_ret (results_S2 Try.results119 _ (Z + 1) rfl rfl t9 Try.underlying104 rfl hgl.out) rfl ?_
    exact k.out _ t9.wk
end
end Go.Proofs.Ytohccblfnjampaa
