/-
  PLIC, the document's: Line, Take, Done.
-/
import Derived.Test.YtohccblfnjampaaPg
namespace Go.Proofs.Ytohccblfnjampaa
open Go.RowKit
set_option linter.unusedVariables false
set_option linter.unusedSimpArgs false

theorem PlS.raise_ref (s : PlS) (n : Nat) (hn : 1 ≤ n) (h : n < 32) : s.ref.set (32 + n) (.bool true) = (s.raise n hn).ref := by
  rw [s.ref_V]; exact refV_hi s.plen h (mk32_on h)
theorem PlS.lower_ref (s : PlS) (n : Nat) (h : n < 32) : s.ref.set (32 + n) (.bool false) = (s.lower n).ref := by
  rw [s.ref_V]; exact refV_hi s.plen h (mk32_off h)
theorem PlS.serve_ref (s : PlS) (n : Nat) (h : n < 32) : (s.ref.set (64 + n) (.bool false)).set (96 + n) (.bool true) = (s.serve n).ref := by
  rw [s.ref_V, refV_wa s.plen h (mk32_off h), refV_se s.plen h (mk32_on h)]; rfl
theorem PlS.free_ref (s : PlS) (n : Nat) (h : n < 32) : s.ref.set (96 + n) (.bool false) = (s.free n).ref := by
  rw [s.ref_V]; exact refV_se s.plen h (mk32_off h)

section
variable {R : Ending → World → Prop} {W0 w : World} {H : Hp} {A F : List Hp} {s : PlS}



set_option maxRecDepth 100000 in
set_option maxHeartbeats 4000000 in
theorem c_rpLine (t : Sat W0 w H A) (n : Int) (hi : Bool) (hnb : -9223372036854775808 ≤ n ∧ n ≤ 9223372036854775807) (k : ∀ w', Sat W0 w' H A → R (.returned (.agg (s.line n hi).ref.toArray)) w') :
    Calls Try.prog 114 #[.agg s.ref.toArray, .int .i64 n, .bool hi] w R := by
  have t1 := (t.alloc (c := s.ref) (t := 104)).alloc (c := plZero) (t := 104)
  rw [plZero_eq] at t1
  obtain ⟨Z, hZ⟩ : ∃ Z, w.heap.size = Z := ⟨_, rfl⟩
  simp only [World.size_alloc] at t1
  rw [hZ] at t1
  obtain ⟨LZ, hLZ⟩ : ∃ L, plZero = L := ⟨_, rfl⟩
  have hlz : LZ.length = 194 := by rw [← hLZ]; exact plZero_len
  rw [hLZ] at t1
  replace t1 := t1.swap
  replace hlz := aside hlz
  replace hLZ := aside hLZ
  obtain ⟨L, hL⟩ : ∃ L, s.ref = L := ⟨_, rfl⟩
  by_cases hs : 0 < n ∧ n < 32
  · obtain ⟨n, rfl⟩ := Int.eq_ofNat_of_zero_le (by omega : 0 ≤ n)
    have i1 : (0 : Int) ≤ n ∧ (n : Int) < 32 := by omega
    have y1 := t1.c (32 + n) (s.rH (by omega))
    simp only [Nat.zero_add] at y1
    rw [hL] at y1 ⊢
    cases hi with
    | true =>
      have e : s.line n true = (s.raise n (by omega)).gate := by unfold PlS.line; rw [dif_pos hs]; simp
      rw [e] at k
      clear e
      have hset := s.raise_ref n (by omega) (by omega)
      obtain ⟨S1, hS1⟩ : ∃ S1, s.raise n (by omega) = S1 := ⟨_, rfl⟩
      rw [hS1, hL] at hset
      rw [hS1] at k
      have t2 := (t.alloc (c := S1.ref) (t := 104)).alloc (c := plZero) (t := 104)
      rw [plZero_eq] at t2
      simp only [World.size_alloc] at t2
      rw [hZ, hLZ.out] at t2
      replace t2 := t2.swap
      have hsl := S1.r_size
      have hgl := S1.gate.r_size
      have hgn := S1.gate.ref_len
      have hgo := S1.gate.r_one
      obtain ⟨G, hG⟩ : ∃ G, S1.gate.ref = G := ⟨_, rfl⟩
      rw [hG] at hgl hgn hgo k
      obtain ⟨G1, hG1⟩ : ∃ G, S1.ref = G := ⟨_, rfl⟩
      rw [hG1] at t2 hsl hset
      replace k := aside k
      clear t1 t
      replace hS1 := aside hS1
      replace hG1 := aside hG1
      replace hL := aside hL
      replace hsl := aside hsl
      replace hG := aside hG
      replace hgl := aside hgl
      replace hgn := aside hgn
      replace hgo := aside hgo
      go_enter Try.func114, Try.ntmps114
      go_wp2_with (refine wpList_loadS rfl 104 (.tmp 3) rfl Z 0 rfl t2 Try.underlying104 rfl hsl.out ?_)
      go_wp2_with fail
      rw [← hG1.out] at t2 ⊢
      refine c_rpGate t2 ?_
      rw [hG.out]
      intro w3 t3
      clear t2 y1 hset
      go_wp2_with (refine wpList_storeS rfl 104 (.tmp 6) (.tmp 20) rfl (Z + 1) 0 rfl rfl t3.swap (by rw [hlz.out, hgn.out]; decide) hgl.out hgo.out ?_; intro w9 t9; rw [setR_all (by rw [hlz.out, hgn.out])] at t9)
      refine bodyPost_ret (results_S1 Try.results114 _ (Z + 1) rfl t9 Try.underlying104 rfl hgl.out) rfl ?_
      exact k.out _ t9.wk
    | false =>
      have e : s.line n false = s.lower n := by unfold PlS.line; rw [dif_pos hs]; simp
      rw [e] at k
      clear e
      have hset := s.lower_ref n (by omega)
      obtain ⟨S1, hS1⟩ : ∃ S1, s.lower n = S1 := ⟨_, rfl⟩
      rw [hS1, hL] at hset
      rw [hS1] at k
      have t2 := (t.alloc (c := S1.ref) (t := 104)).alloc (c := plZero) (t := 104)
      rw [plZero_eq] at t2
      simp only [World.size_alloc] at t2
      rw [hZ, hLZ.out] at t2
      replace t2 := t2.swap
      have hgl := S1.r_size
      have hgn := S1.ref_len
      have hgo := S1.r_one
      obtain ⟨G1, hG1⟩ : ∃ G, S1.ref = G := ⟨_, rfl⟩
      rw [hG1] at t2 hset hgl hgn hgo k
      replace k := aside k
      clear t1 t
      replace hS1 := aside hS1
      replace hG1 := aside hG1
      replace hL := aside hL
      replace hgl := aside hgl
      replace hgn := aside hgn
      replace hgo := aside hgo
      go_enter Try.func114, Try.ntmps114
      go_wp2_with (first
        | (refine wpList_loadS rfl 104 (.tmp 3) rfl Z 0 rfl t2 Try.underlying104 rfl hgl.out ?_)
        | (refine wpList_storeS rfl 104 (.tmp 6) (.tmp 21) rfl (Z + 1) 0 rfl rfl t2.swap (by rw [hlz.out, hgn.out]; decide) hgl.out hgo.out ?_; intro w9 t9; rw [setR_all (by rw [hlz.out, hgn.out])] at t9))
      refine bodyPost_ret (results_S1 Try.results114 _ (Z + 1) rfl t9 Try.underlying104 rfl hgl.out) rfl ?_
      exact k.out _ t9.wk
  · have e : s.line n hi = s := by unfold PlS.line; rw [dif_neg hs]
    rw [e] at k
    clear e
    have hgl := s.r_size
    have hgn := s.ref_len
    have hgo := s.r_one
    rw [hL] at t1 hgl hgn hgo k ⊢
    replace k := aside k
    clear t
    replace hL := aside hL
    replace hgl := aside hgl
    replace hgn := aside hgn
    replace hgo := aside hgo
    have hs2 : n < 1 ∨ 31 < n := by omega
    clear hs
    rcases hs2 with hs | hs
    all_goals
      go_enter Try.func114, Try.ntmps114
      go_wp2_with (first
        | (refine wpList_loadS rfl 104 (.tmp 3) rfl Z 0 rfl t1 Try.underlying104 rfl hgl.out ?_)
        | (refine wpList_storeS rfl 104 (.tmp 6) (.tmp 13) rfl (Z + 1) 0 rfl rfl t1.swap (by rw [hlz.out, hgn.out]; decide) hgl.out hgo.out ?_; intro w9 t9; rw [setR_all (by rw [hlz.out, hgn.out])] at t9))
      refine bodyPost_ret (results_S1 Try.results114 _ (Z + 1) rfl t9 Try.underlying104 rfl hgl.out) rfl ?_
      exact k.out _ t9.wk

set_option maxRecDepth 100000 in
set_option maxHeartbeats 4000000 in
theorem c_rpTake (t : Sat W0 w H A) (c : Int) (hcb : -9223372036854775808 ≤ c ∧ c ≤ 9223372036854775807) (k : ∀ w', Sat W0 w' H A → R (.returned (.tuple #[.agg (s.take c).1.ref.toArray, .int .i64 (s.take c).2])) w') :
    Calls Try.prog 115 #[.agg s.ref.toArray, .int .i64 c] w R := by
  have t1 := (t.alloc (c := s.ref) (t := 104)).alloc (c := plZero) (t := 104)
  rw [plZero_eq] at t1
  obtain ⟨Z, hZ⟩ : ∃ Z, w.heap.size = Z := ⟨_, rfl⟩
  simp only [World.size_alloc] at t1
  rw [hZ] at t1
  obtain ⟨LZ, hLZ⟩ : ∃ L, plZero = L := ⟨_, rfl⟩
  have hlz : LZ.length = 194 := by rw [← hLZ]; exact plZero_len
  rw [hLZ] at t1
  replace t1 := t1.swap
  replace hlz := aside hlz
  replace hLZ := aside hLZ
  obtain ⟨L, hL⟩ : ∃ L, s.ref = L := ⟨_, rfl⟩
  by_cases hc : 0 ≤ c ∧ c < 2
  · obtain ⟨c, rfl⟩ := Int.eq_ofNat_of_zero_le hc.1
    have i1 : (0 : Int) ≤ c ∧ (c : Int) < 2 := by omega
    have hsl := s.r_size
    by_cases hb : 0 < s.best c
    · have e : s.take c = (s.serve (s.best c), s.best c) := by unfold PlS.take; rw [if_pos hc, Int.toNat_natCast, if_pos hb]
      rw [e] at k
      clear e
      have hle := s.best_le c
      obtain ⟨n, hn⟩ : ∃ n, s.best c = n := ⟨_, rfl⟩
      rw [hn] at hb hle k
      have hset := s.serve_ref n (by omega)
      have hgl := (s.serve n).r_size
      have hgn := (s.serve n).ref_len
      have hgo := (s.serve n).r_one
      have hsn := s.ref_len
      have hy1 := s.rW (i := n) (by omega)
      have hy2 := s.rS (i := n) (by omega)
      obtain ⟨G, hG⟩ : ∃ G, (s.serve n).ref = G := ⟨_, rfl⟩
      rw [hG] at hgl hgn hgo k hset
      rw [hL] at t1 hsl hset hsn hy1 hy2 ⊢
      replace k := aside k
      clear t
      have i2 : (0 : Int) ≤ n ∧ (n : Int) < 32 := by omega
      replace hsl := aside hsl
      replace hG := aside hG
      replace hgl := aside hgl
      replace hgn := aside hgn
      replace hgo := aside hgo
      replace hset := aside hset
      go_enter Try.func115, Try.ntmps115
      go_wp2_with (refine wpList_loadS rfl 104 (.tmp 2) rfl Z 0 rfl t1 Try.underlying104 rfl hsl.out ?_)
      go_wp2_with fail
      rw [← hL] at t1 ⊢
      refine c_rpFirst t1 c (by omega) ?_
      rw [hn]
      intro w3 t3
      rw [hL] at t1 t3
      clear t1 hZ
      have y1 := t3.c (64 + n) hy1
      have y2 := t3.c (96 + n) hy2
      have t4 := t3.s (64 + n) (by rw [hsn]; omega) (.bool false)
      have y3 := t4.c (96 + n) (v := .bool (s.serving.getLsbD n)) (by rw [List.getElem?_set_ne (by omega)]; exact hy2)
      have t5 := t4.s (96 + n) (by rw [List.length_set, hsn]; omega) (.bool true)
      rw [hset.out] at t5
      simp only [Nat.zero_add] at y1 y2 y3 t5
      clear t4 t3
      replace hL := aside hL
      replace hn := aside hn
      replace hy1 := aside hy1
      replace hy2 := aside hy2
      replace hsn := aside hsn
      go_wp2_with (first
        | (refine wpList_loadS rfl 104 (.tmp 2) rfl Z 0 rfl t5 Try.underlying104 rfl hgl.out ?_)
        | (refine wpList_storeS rfl 104 (.tmp 4) (.tmp 25) rfl (Z + 1) 0 rfl rfl t5.swap (by rw [hlz.out, hgn.out]; decide) hgl.out hgo.out ?_; intro w9 t9; rw [setR_all (by rw [hlz.out, hgn.out])] at t9))
      refine bodyPost_ret (results_S2 Try.results115 _ (Z + 1) rfl rfl t9 Try.underlying104 rfl hgl.out) rfl ?_
      exact k.out _ t9.wk
    · have e : s.take c = (s, 0) := by unfold PlS.take; rw [if_pos hc, Int.toNat_natCast, if_neg hb]
      have hz : s.best c = 0 := by omega
      rw [e] at k
      clear e hb
      have hgn := s.ref_len
      have hgo := s.r_one
      rw [hL] at hgn hgo k hsl t1 ⊢
      replace k := aside k
      clear t
      replace hsl := aside hsl
      replace hgn := aside hgn
      replace hgo := aside hgo
      go_enter Try.func115, Try.ntmps115
      go_wp2_with (refine wpList_loadS rfl 104 (.tmp 2) rfl Z 0 rfl t1 Try.underlying104 rfl hsl.out ?_)
      go_wp2_with fail
      rw [← hL] at t1 ⊢
      refine c_rpFirst t1 c (by omega) ?_
      rw [hz]
      intro w3 t3
      rw [hL] at t3
      clear t1 hZ hz
      replace hL := aside hL
      go_wp2_with (first
        | (refine wpList_loadS rfl 104 (.tmp 2) rfl Z 0 rfl t3 Try.underlying104 rfl hsl.out ?_)
        | (refine wpList_storeS rfl 104 (.tmp 4) (.tmp 25) rfl (Z + 1) 0 rfl rfl t3.swap (by rw [hlz.out, hgn.out]; decide) hsl.out hgo.out ?_; intro w9 t9; rw [setR_all (by rw [hlz.out, hgn.out])] at t9))
      refine bodyPost_ret (results_S2 Try.results115 _ (Z + 1) rfl rfl t9 Try.underlying104 rfl hsl.out) rfl ?_
      exact k.out _ t9.wk
  · have e : s.take c = (s, 0) := by unfold PlS.take; rw [if_neg hc]
    rw [e] at k
    clear e
    have hgl := s.r_size
    have hgn := s.ref_len
    have hgo := s.r_one
    rw [hL] at t1 hgl hgn hgo k ⊢
    replace k := aside k
    clear t
    replace hL := aside hL
    replace hgl := aside hgl
    replace hgn := aside hgn
    replace hgo := aside hgo
    have hs2 : c < 0 ∨ 1 < c := by omega
    clear hc
    rcases hs2 with hs | hs
    all_goals
      go_enter Try.func115, Try.ntmps115
      go_wp2_with (first
        | (refine wpList_loadS rfl 104 (.tmp 2) rfl Z 0 rfl t1 Try.underlying104 rfl hgl.out ?_)
        | (refine wpList_storeS rfl 104 (.tmp 4) (.tmp 13) rfl (Z + 1) 0 rfl rfl t1.swap (by rw [hlz.out, hgn.out]; decide) hgl.out hgo.out ?_; intro w9 t9; rw [setR_all (by rw [hlz.out, hgn.out])] at t9))
      refine bodyPost_ret (results_S2 Try.results115 _ (Z + 1) rfl rfl t9 Try.underlying104 rfl hgl.out) rfl ?_
      exact k.out _ t9.wk

set_option maxRecDepth 100000 in
set_option maxHeartbeats 4000000 in
theorem c_rpDone (t : Sat W0 w H A) (c n : Int) (hcb : -9223372036854775808 ≤ c ∧ c ≤ 9223372036854775807) (hnb : -9223372036854775808 ≤ n ∧ n ≤ 9223372036854775807) (k : ∀ w', Sat W0 w' H A → R (.returned (.agg (s.done c n).ref.toArray)) w') :
    Calls Try.prog 116 #[.agg s.ref.toArray, .int .i64 c, .int .i64 n] w R := by
  have t1 := (t.alloc (c := s.ref) (t := 104)).alloc (c := plZero) (t := 104)
  rw [plZero_eq] at t1
  obtain ⟨Z, hZ⟩ : ∃ Z, w.heap.size = Z := ⟨_, rfl⟩
  simp only [World.size_alloc] at t1
  rw [hZ] at t1
  obtain ⟨LZ, hLZ⟩ : ∃ L, plZero = L := ⟨_, rfl⟩
  have hlz : LZ.length = 194 := by rw [← hLZ]; exact plZero_len
  rw [hLZ] at t1
  replace t1 := t1.swap
  replace hlz := aside hlz
  replace hLZ := aside hLZ
  obtain ⟨L, hL⟩ : ∃ L, s.ref = L := ⟨_, rfl⟩
  by_cases hc : (0 ≤ c ∧ c < 2) ∧ (0 < n ∧ n < 32)
  · obtain ⟨c, rfl⟩ := Int.eq_ofNat_of_zero_le hc.1.1
    obtain ⟨n, rfl⟩ := Int.eq_ofNat_of_zero_le (by omega : 0 ≤ n)
    have i1 : (0 : Int) ≤ n ∧ (n : Int) < 32 := by omega
    have i2 : (0 : Int) ≤ c ∧ (c : Int) < 2 := by omega
    have e0 : s.done c n = if (s.lets c).getLsbD n = true then (s.free n).gate else s := by
      unfold PlS.done
      by_cases hb : (s.lets c).getLsbD n = true
      · rw [if_pos ⟨hc.1, hc.2, hb⟩, if_pos hb]; rfl
      · rw [if_neg (fun h => hb h.2.2), if_neg hb]
    rw [e0] at k
    clear e0
    have y1 := t1.c (128 + c * 32 + n) (s.rL (by omega) (by omega))
    have y2 := t1.c (96 + n) (s.rS (i := n) (by omega))
    simp only [Nat.zero_add] at y1 y2
    cases hb : (s.lets c).getLsbD n with
    | true =>
      rw [if_pos hb] at k
      rw [hb] at y1
      have hset := s.free_ref n (by omega)
      obtain ⟨S1, hS1⟩ : ∃ S1, s.free n = S1 := ⟨_, rfl⟩
      rw [hS1, hL] at hset
      rw [hS1] at k
      rw [hL] at y1 y2 ⊢
      have t2 := (t.alloc (c := S1.ref) (t := 104)).alloc (c := plZero) (t := 104)
      rw [plZero_eq] at t2
      simp only [World.size_alloc] at t2
      rw [hZ, hLZ.out] at t2
      replace t2 := t2.swap
      have hsl := S1.r_size
      have hgl := S1.gate.r_size
      have hgn := S1.gate.ref_len
      have hgo := S1.gate.r_one
      obtain ⟨G, hG⟩ : ∃ G, S1.gate.ref = G := ⟨_, rfl⟩
      rw [hG] at hgl hgn hgo k
      obtain ⟨G1, hG1⟩ : ∃ G, S1.ref = G := ⟨_, rfl⟩
      rw [hG1] at t2 hsl hset
      replace k := aside k
      clear t1 t
      replace hS1 := aside hS1
      replace hG1 := aside hG1
      replace hL := aside hL
      replace hsl := aside hsl
      replace hG := aside hG
      replace hgl := aside hgl
      replace hgn := aside hgn
      replace hgo := aside hgo
      replace hb := aside hb
      go_enter Try.func116, Try.ntmps116
      go_wp2_with (refine wpList_loadS rfl 104 (.tmp 3) rfl Z 0 rfl t2 Try.underlying104 rfl hsl.out ?_)
      go_wp2_with fail
      rw [← hG1.out] at t2 ⊢
      refine c_rpGate t2 ?_
      rw [hG.out]
      intro w3 t3
      clear t2 y1 y2 hset
      go_wp2_with (refine wpList_storeS rfl 104 (.tmp 6) (.tmp 35) rfl (Z + 1) 0 rfl rfl t3.swap (by rw [hlz.out, hgn.out]; decide) hgl.out hgo.out ?_; intro w9 t9; rw [setR_all (by rw [hlz.out, hgn.out])] at t9)
      refine bodyPost_ret (results_S1 Try.results116 _ (Z + 1) rfl t9 Try.underlying104 rfl hgl.out) rfl ?_
      exact k.out _ t9.wk
    | false =>
      rw [if_neg (by rw [hb]; decide)] at k
      rw [hb] at y1
      have hgl := s.r_size
      have hgn := s.ref_len
      have hgo := s.r_one
      rw [hL] at t1 y1 y2 hgl hgn hgo k ⊢
      replace k := aside k
      clear t
      replace hL := aside hL
      replace hgl := aside hgl
      replace hgn := aside hgn
      replace hgo := aside hgo
      replace hb := aside hb
      go_enter Try.func116, Try.ntmps116
      go_wp2_with (first
        | (refine wpList_loadS rfl 104 (.tmp 3) rfl Z 0 rfl t1 Try.underlying104 rfl hgl.out ?_)
        | (refine wpList_storeS rfl 104 (.tmp 6) (.tmp 30) rfl (Z + 1) 0 rfl rfl t1.swap (by rw [hlz.out, hgn.out]; decide) hgl.out hgo.out ?_; intro w9 t9; rw [setR_all (by rw [hlz.out, hgn.out])] at t9))
      refine bodyPost_ret (results_S1 Try.results116 _ (Z + 1) rfl t9 Try.underlying104 rfl hgl.out) rfl ?_
      exact k.out _ t9.wk
  · have e : s.done c n = s := by unfold PlS.done; rw [if_neg (fun h => hc ⟨h.1, h.2.1⟩)]
    rw [e] at k
    clear e
    have hgl := s.r_size
    have hgn := s.ref_len
    have hgo := s.r_one
    rw [hL] at t1 hgl hgn hgo k ⊢
    replace k := aside k
    clear t
    replace hL := aside hL
    replace hgl := aside hgl
    replace hgn := aside hgn
    replace hgo := aside hgo
    have hs2 : c < 0 ∨ 1 < c ∨ ((0 ≤ c ∧ c ≤ 1) ∧ n < 1) ∨ ((0 ≤ c ∧ c ≤ 1) ∧ 31 < n) := by omega
    clear hc
    rcases hs2 with hs | hs | hs | hs
    all_goals
      go_enter Try.func116, Try.ntmps116
      go_wp2_with (first
        | (refine wpList_loadS rfl 104 (.tmp 3) rfl Z 0 rfl t1 Try.underlying104 rfl hgl.out ?_)
        | (refine wpList_storeS rfl 104 (.tmp 6) (.tmp 30) rfl (Z + 1) 0 rfl rfl t1.swap (by rw [hlz.out, hgn.out]; decide) hgl.out hgo.out ?_; intro w9 t9; rw [setR_all (by rw [hlz.out, hgn.out])] at t9))
      refine bodyPost_ret (results_S1 Try.results116 _ (Z + 1) rfl t9 Try.underlying104 rfl hgl.out) rfl ?_
      exact k.out _ t9.wk
end
end Go.Proofs.Ytohccblfnjampaa
