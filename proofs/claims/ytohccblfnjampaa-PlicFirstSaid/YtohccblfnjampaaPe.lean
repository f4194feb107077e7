/-
  PLIC, the program's: Load, Store.
-/
import Derived.Test.YtohccblfnjampaaPd
namespace Go.Proofs.Ytohccblfnjampaa
open Go.RowKit
set_option linter.unusedVariables false
set_option linter.unusedSimpArgs false

theorem ctx_no {a f y : Int} (h : a ≠ f) (h2 : a ≠ f + y) : ctxP a f y = -1 := by unfold ctxP; rw [if_neg h, if_neg h2]

section
variable {R : Ending → World → Prop} {W0 w : World} {H : Hp} {A F : List Hp} {b o : Nat} {s : PlS}


set_option maxRecDepth 100000 in
set_option maxHeartbeats 4000000 in
theorem c_plLoad (t : Sat W0 w H (cellsH ⟨b, o, none⟩ s.enc :: F)) (a n : Int) (ha : 0 ≤ a ∧ a ≤ 18446744073709551615) (hn : -9223372036854775808 ≤ n ∧ n ≤ 9223372036854775807)
    (k : ∀ w', Sat W0 w' H (cellsH ⟨b, o, none⟩ (s.load a n).1.enc :: F) → R (.returned (.tuple #[.int .u64 (s.load a n).2.1, .bool (s.load a n).2.2])) w') :
    Calls Try.prog 118 #[.pointer (some ⟨b, o, none⟩), .int .u64 a, .int .i64 n] w R := by
  by_cases hm : mayP a n
  · obtain ⟨rfl, hm4, hlt⟩ := id hm
    by_cases h1 : a < 128
    · have e : s.load a 4 = (s, s.p (a / 4).toNat, true) := by unfold PlS.load; rw [if_neg (not_not_intro hm), if_pos h1]
      rw [e] at k
      replace k := aside k
      obtain ⟨j, hj⟩ := Int.eq_ofNat_of_zero_le (show 0 ≤ a / 4 by omega)
      rw [hj, Int.toNat_natCast] at k
      have y1 := t.ce j (s.enc_p (by omega))
      have i1 : (0 : Int) ≤ j ∧ (j : Int) < 32 := by omega
      have hp := s.p_bd j
      obtain ⟨P, hP⟩ : ∃ P, s.p j = P := ⟨_, rfl⟩
      rw [hP] at hp y1 k
      replace hP := aside hP
      replace e := aside e
      replace hm := aside hm
      go_enter Try.func118, Try.ntmps118
      go_wp2_with fail
      refine c_plMay a 4 (by omega) (by omega) ?_
      rw [decide_eq_true (show mayP a 4 from hm.out)]
      go_wp2
      exact k.out _ t
    by_cases h2 : a = 4096
    · subst h2
      have e : s.load 4096 4 = (s, wn s.waits, true) := by unfold PlS.load; rw [if_neg (not_not_intro hm)]; rfl
      rw [e] at k
      have y1 := t.ce 33 s.eW
      have hp := wn_bd s.waits
      obtain ⟨P, hP⟩ : ∃ P, wn s.waits = P := ⟨_, rfl⟩
      rw [hP] at hp y1 k
      replace k := aside k
      replace hP := aside hP
      replace e := aside e
      replace hm := aside hm
      go_enter Try.func118, Try.ntmps118
      go_wp2_with fail
      refine c_plMay 4096 4 (by omega) (by omega) ?_
      rw [decide_eq_true (show mayP 4096 4 from hm.out)]
      go_wp2
      exact k.out _ t
    by_cases h3 : a = 8192
    · subst h3
      have e : s.load 8192 4 = (s, wn s.lets0, true) := by unfold PlS.load; rw [if_neg (not_not_intro hm)]; rfl
      rw [e] at k
      have y1 := t.ce 35 s.eL0
      have hp := wn_bd s.lets0
      obtain ⟨P, hP⟩ : ∃ P, wn s.lets0 = P := ⟨_, rfl⟩
      rw [hP] at hp y1 k
      replace k := aside k
      replace hP := aside hP
      replace e := aside e
      replace hm := aside hm
      go_enter Try.func118, Try.ntmps118
      go_wp2_with fail
      refine c_plMay 8192 4 (by omega) (by omega) ?_
      rw [decide_eq_true (show mayP 8192 4 from hm.out)]
      go_wp2_with fail
      refine c_plContext 8192 8192 128 (by omega) (by omega) (by omega) ?_
      rw [show ctxP 8192 8192 128 = 0 by decide]
      go_wp2
      exact k.out _ t
    by_cases h4 : a = 8320
    · subst h4
      have e : s.load 8320 4 = (s, wn s.lets1, true) := by unfold PlS.load; rw [if_neg (not_not_intro hm)]; rfl
      rw [e] at k
      have y1 := t.ce 36 s.eL1
      have hp := wn_bd s.lets1
      obtain ⟨P, hP⟩ : ∃ P, wn s.lets1 = P := ⟨_, rfl⟩
      rw [hP] at hp y1 k
      replace k := aside k
      replace hP := aside hP
      replace e := aside e
      replace hm := aside hm
      go_enter Try.func118, Try.ntmps118
      go_wp2_with fail
      refine c_plMay 8320 4 (by omega) (by omega) ?_
      rw [decide_eq_true (show mayP 8320 4 from hm.out)]
      go_wp2_with fail
      refine c_plContext 8320 8192 128 (by omega) (by omega) (by omega) ?_
      rw [show ctxP 8320 8192 128 = 1 by decide]
      go_wp2
      exact k.out _ t
    by_cases h5 : a = 2097152
    · subst h5
      have e : s.load 2097152 4 = (s, s.least0, true) := by unfold PlS.load; rw [if_neg (not_not_intro hm)]; rfl
      rw [e] at k
      have y1 := t.ce 37 s.eE0
      have hp := s.b0
      obtain ⟨P, hP⟩ : ∃ P, s.least0 = P := ⟨_, rfl⟩
      rw [hP] at hp y1 k
      replace k := aside k
      replace hP := aside hP
      replace e := aside e
      replace hm := aside hm
      go_enter Try.func118, Try.ntmps118
      go_wp2_with fail
      refine c_plMay 2097152 4 (by omega) (by omega) ?_
      rw [decide_eq_true (show mayP 2097152 4 from hm.out)]
      go_wp2_with fail
      refine c_plContext 2097152 8192 128 (by omega) (by omega) (by omega) ?_
      rw [show ctxP 2097152 8192 128 = -1 by decide]
      go_wp2_with fail
      refine c_plContext 2097152 2097152 4096 (by omega) (by omega) (by omega) ?_
      rw [show ctxP 2097152 2097152 4096 = 0 by decide]
      go_wp2
      exact k.out _ t
    by_cases h6 : a = 2101248
    · subst h6
      have e : s.load 2101248 4 = (s, s.least1, true) := by unfold PlS.load; rw [if_neg (not_not_intro hm)]; rfl
      rw [e] at k
      have y1 := t.ce 38 s.eE1
      have hp := s.b1
      obtain ⟨P, hP⟩ : ∃ P, s.least1 = P := ⟨_, rfl⟩
      rw [hP] at hp y1 k
      replace k := aside k
      replace hP := aside hP
      replace e := aside e
      replace hm := aside hm
      go_enter Try.func118, Try.ntmps118
      go_wp2_with fail
      refine c_plMay 2101248 4 (by omega) (by omega) ?_
      rw [decide_eq_true (show mayP 2101248 4 from hm.out)]
      go_wp2_with fail
      refine c_plContext 2101248 8192 128 (by omega) (by omega) (by omega) ?_
      rw [show ctxP 2101248 8192 128 = -1 by decide]
      go_wp2_with fail
      refine c_plContext 2101248 2097152 4096 (by omega) (by omega) (by omega) ?_
      rw [show ctxP 2101248 2097152 4096 = 1 by decide]
      go_wp2
      exact k.out _ t
    by_cases h7 : a = 2097156
    · subst h7
      have e : s.load 2097156 4 = ((s.take 0).1, ((s.take 0).2 : Int), true) := by unfold PlS.load; rw [if_neg (not_not_intro hm)]; rfl
      rw [e] at k
      have hp : (s.take 0).2 ≤ 31 := by have := s.best_le 0; unfold PlS.take; split <;> (try split) <;> simp <;> first | exact this | omega
      replace k := aside k
      replace e := aside e
      replace hm := aside hm
      go_enter Try.func118, Try.ntmps118
      go_wp2_with fail
      refine c_plMay 2097156 4 (by omega) (by omega) ?_
      rw [decide_eq_true (show mayP 2097156 4 from hm.out)]
      go_wp2_with fail
      refine c_plContext 2097156 8192 128 (by omega) (by omega) (by omega) ?_
      rw [show ctxP 2097156 8192 128 = -1 by decide]
      go_wp2_with fail
      refine c_plContext 2097156 2097152 4096 (by omega) (by omega) (by omega) ?_
      rw [show ctxP 2097156 2097152 4096 = -1 by decide]
      go_wp2_with fail
      refine c_plContext 2097156 2097156 4096 (by omega) (by omega) (by omega) ?_
      rw [show ctxP 2097156 2097156 4096 = 0 by decide]
      go_wp2_with fail
      refine c_plTake t 0 (by omega) ?_
      intro w1 t1
      go_wp2
      exact k.out _ t1
    by_cases h8 : a = 2101252
    · subst h8
      have e : s.load 2101252 4 = ((s.take 1).1, ((s.take 1).2 : Int), true) := by unfold PlS.load; rw [if_neg (not_not_intro hm)]; rfl
      rw [e] at k
      have hp : (s.take 1).2 ≤ 31 := by have := s.best_le 1; unfold PlS.take; split <;> (try split) <;> simp <;> first | exact this | omega
      replace k := aside k
      replace e := aside e
      replace hm := aside hm
      go_enter Try.func118, Try.ntmps118
      go_wp2_with fail
      refine c_plMay 2101252 4 (by omega) (by omega) ?_
      rw [decide_eq_true (show mayP 2101252 4 from hm.out)]
      go_wp2_with fail
      refine c_plContext 2101252 8192 128 (by omega) (by omega) (by omega) ?_
      rw [show ctxP 2101252 8192 128 = -1 by decide]
      go_wp2_with fail
      refine c_plContext 2101252 2097152 4096 (by omega) (by omega) (by omega) ?_
      rw [show ctxP 2101252 2097152 4096 = -1 by decide]
      go_wp2_with fail
      refine c_plContext 2101252 2097156 4096 (by omega) (by omega) (by omega) ?_
      rw [show ctxP 2101252 2097156 4096 = 1 by decide]
      go_wp2_with fail
      refine c_plTake t 1 (by omega) ?_
      intro w1 t1
      go_wp2
      exact k.out _ t1
    · have e : s.load a 4 = (s, 0, true) := by
        unfold PlS.load; rw [if_neg (not_not_intro hm), if_neg h1, if_neg h2, if_neg h3, if_neg h4, if_neg h5, if_neg h6, if_neg h7, if_neg h8]
      rw [e] at k
      have d : (a == 4096) = false := by rw [beq_eq_false_iff_ne]; exact h2
      replace k := aside k
      replace e := aside e
      replace hm := aside hm
      go_enter Try.func118, Try.ntmps118
      go_wp2_with fail
      refine c_plMay a 4 (by omega) (by omega) ?_
      rw [decide_eq_true (show mayP a 4 from hm.out)]
      go_wp2_with fail
      refine c_plContext a 8192 128 (by omega) (by omega) (by omega) ?_
      rw [show ctxP a 8192 128 = -1 by (exact ctx_no h3 (by omega))]
      go_wp2_with fail
      refine c_plContext a 2097152 4096 (by omega) (by omega) (by omega) ?_
      rw [show ctxP a 2097152 4096 = -1 by (exact ctx_no h5 (by omega))]
      go_wp2_with fail
      refine c_plContext a 2097156 4096 (by omega) (by omega) (by omega) ?_
      rw [show ctxP a 2097156 4096 = -1 by (exact ctx_no h7 (by omega))]
      clear h2 h3 h4 h5 h6 h7 h8
      go_wp2
      exact k.out _ t
  · have e : s.load a n = (s, 0, false) := by unfold PlS.load; rw [if_pos hm]
    rw [e] at k
    replace k := aside k
    clear e
    go_enter Try.func118, Try.ntmps118
    go_wp2_with fail
    refine c_plMay a n ha hn ?_
    rw [decide_eq_false hm]
    clear hm
    go_wp2
    exact k.out _ t

theorem and7_32 {x : Int} (h : 0 ≤ x ∧ x ≤ 4294967295) : bits BinOp.and IntKind.u32 x 7 = x % 8 := by
  obtain ⟨m, rfl⟩ := Int.eq_ofNat_of_zero_le h.1
  show IntKind.u32.wrap ((BitVec.ofInt 32 (m : Int) &&& BitVec.ofInt 32 ((2 ^ 3 - 1 : Nat) : Int)).toNat : Int) = _
  rw [BitVec.ofInt_natCast, BitVec.ofInt_natCast, BitVec.toNat_and, BitVec.toNat_ofNat, BitVec.toNat_ofNat, Nat.mod_eq_of_lt (by omega), Nat.mod_eq_of_lt (by omega), Nat.and_two_pow_sub_one_eq_mod, wrap_u32]
  omega
theorem lets_bits (x : Int) : bits BinOp.andNot IntKind.u32 (IntKind.u32.wrap x) 1 = wn (BitVec.ofInt 32 x &&& ~~~tw 0) := by
  rw [← bits_andNot, wn_wrap, show wn (tw 0) = 1 by decide]
theorem PlS.l0_set (s : PlS) (v : W32) : s.enc.set 35 (.int .u32 (wn v)) = PlS.enc { s with lets0 := v } := (s.enc_set 3 _).trans rfl
theorem PlS.l1_set (s : PlS) (v : W32) : s.enc.set 36 (.int .u32 (wn v)) = PlS.enc { s with lets1 := v } := (s.enc_set 4 _).trans rfl
theorem PlS.e0_set (s : PlS) (v : Int) (hv : 0 ≤ v ∧ v ≤ 7) : s.enc.set 37 (.int .u32 v) = PlS.enc { s with least0 := v, b0 := hv } := (s.enc_set 5 _).trans rfl
theorem PlS.e1_set (s : PlS) (v : Int) (hv : 0 ≤ v ∧ v ≤ 7) : s.enc.set 38 (.int .u32 v) = PlS.enc { s with least1 := v, b1 := hv } := (s.enc_set 6 _).trans rfl

theorem m8 (x : Int) : 0 ≤ x % 8 ∧ x % 8 ≤ 7 := by omega

set_option maxRecDepth 100000 in
set_option maxHeartbeats 4000000 in
theorem c_plStore (t : Sat W0 w H (cellsH ⟨b, o, none⟩ s.enc :: F)) (a n x : Int) (ha : 0 ≤ a ∧ a ≤ 18446744073709551615) (hn : -9223372036854775808 ≤ n ∧ n ≤ 9223372036854775807) (hx : 0 ≤ x ∧ x ≤ 18446744073709551615)
    (k : ∀ w', Sat W0 w' H (cellsH ⟨b, o, none⟩ (s.store a n x).1.enc :: F) → R (.returned (.bool (s.store a n x).2)) w') :
    Calls Try.prog 93 #[.pointer (some ⟨b, o, none⟩), .int .u64 a, .int .i64 n, .int .u64 x] w R := by
  by_cases hm : mayP a n
  · obtain ⟨rfl, hm4, hlt⟩ := id hm
    have hVw : IntKind.u32.wrap x = x % 4294967296 := wrap_u32 x
    have hlb := lets_bits x
    obtain ⟨V, hV⟩ : ∃ V, IntKind.u32.wrap x = V := ⟨_, rfl⟩
    rw [hV] at hVw hlb
    have hVb : 0 ≤ V ∧ V ≤ 4294967295 := by omega
    have h7 := and7_32 hVb
    by_cases h1 : 0 < a ∧ a < 128
    · obtain ⟨h1a, h1b⟩ := id h1
      have e : s.store a 4 x = (s.setP (a / 4).toNat (x % 8) (m8 x), true) := by unfold PlS.store; rw [if_neg (not_not_intro hm), if_pos h1]
      rw [e] at k
      clear e
      obtain ⟨j, hj⟩ := Int.eq_ofNat_of_zero_le (show 0 ≤ a / 4 by omega)
      have y1 := t.c j (s.enc_p (by omega))
      have t2 := t.s j (by rw [s.enc_len]; omega) (.int .u32 (x % 8))
      rw [s.setP_set (by omega) (x % 8) (m8 x)] at t2
      simp only [hj, Int.toNat_natCast] at k
      have h8 : V % 8 = x % 8 := by omega
      rw [h8] at h7
      obtain ⟨q, hq⟩ : ∃ q, x % 8 = q := ⟨_, rfl⟩
      have hqb : 0 ≤ q ∧ q ≤ 7 := by omega
      simp only [hq] at k
      rw [hq] at h7
      simp only [hq] at t2
      have i1 : (0 : Int) ≤ j ∧ (j : Int) < 32 := by omega
      clear hVw h8
      replace hlb := aside hlb
      replace hq := aside hq
      replace h1 := aside h1
      replace k := aside k
      replace hm := aside hm
      go_enter Try.func93, Try.ntmps93
      go_wp2_with fail
      refine c_plMay a 4 (by omega) (by omega) ?_
      rw [decide_eq_true (show mayP a 4 from hm.out)]
      go_wp2_with fail
      refine c_plContext a 8192 128 (by omega) (by omega) (by omega) ?_
      rw [show ctxP a 8192 128 = -1 by (exact ctx_no (by omega) (by omega))]
      go_wp2_with fail
      refine c_plContext a 2097152 4096 (by omega) (by omega) (by omega) ?_
      rw [show ctxP a 2097152 4096 = -1 by (exact ctx_no (by omega) (by omega))]
      go_wp2_with fail
      refine c_plContext a 2097156 4096 (by omega) (by omega) (by omega) ?_
      rw [show ctxP a 2097156 4096 = -1 by (exact ctx_no (by omega) (by omega))]
      go_wp2
      exact k.out _ t2
    by_cases h3 : a = 8192
    · subst h3
      have e : s.store 8192 4 x = ({ s with lets0 := BitVec.ofInt 32 x &&& ~~~tw 0 }, true) := by unfold PlS.store; rw [if_neg (not_not_intro hm)]; rfl
      rw [e] at k
      clear e
      have y1 := t.c 35 s.eL0
      have t2 := t.s 35 (by rw [s.enc_len]; omega) (.int .u32 (wn (BitVec.ofInt 32 x &&& ~~~tw 0)))
      rw [s.l0_set] at t2
      obtain ⟨q, hq⟩ : ∃ q, wn (BitVec.ofInt 32 x &&& ~~~tw 0) = q := ⟨_, rfl⟩
      rw [hq] at hlb t2
      clear hVw h7
      replace hq := aside hq
      replace h1 := aside h1
      replace k := aside k
      replace hm := aside hm
      go_enter Try.func93, Try.ntmps93
      go_wp2_with fail
      refine c_plMay 8192 4 (by omega) (by omega) ?_
      rw [decide_eq_true (show mayP 8192 4 from hm.out)]
      go_wp2_with fail
      refine c_plContext 8192 8192 128 (by omega) (by omega) (by omega) ?_
      rw [show ctxP 8192 8192 128 = 0 by decide]
      go_wp2_with fail
      refine c_plContext 8192 2097152 4096 (by omega) (by omega) (by omega) ?_
      rw [show ctxP 8192 2097152 4096 = -1 by decide]
      go_wp2_with fail
      refine c_plContext 8192 2097156 4096 (by omega) (by omega) (by omega) ?_
      rw [show ctxP 8192 2097156 4096 = -1 by decide]
      go_wp2
      exact k.out _ t2
    by_cases h4 : a = 8320
    · subst h4
      have e : s.store 8320 4 x = ({ s with lets1 := BitVec.ofInt 32 x &&& ~~~tw 0 }, true) := by unfold PlS.store; rw [if_neg (not_not_intro hm)]; rfl
      rw [e] at k
      clear e
      have y1 := t.c 36 s.eL1
      have t2 := t.s 36 (by rw [s.enc_len]; omega) (.int .u32 (wn (BitVec.ofInt 32 x &&& ~~~tw 0)))
      rw [s.l1_set] at t2
      obtain ⟨q, hq⟩ : ∃ q, wn (BitVec.ofInt 32 x &&& ~~~tw 0) = q := ⟨_, rfl⟩
      rw [hq] at hlb t2
      clear hVw h7
      replace hq := aside hq
      replace h1 := aside h1
      replace k := aside k
      replace hm := aside hm
      go_enter Try.func93, Try.ntmps93
      go_wp2_with fail
      refine c_plMay 8320 4 (by omega) (by omega) ?_
      rw [decide_eq_true (show mayP 8320 4 from hm.out)]
      go_wp2_with fail
      refine c_plContext 8320 8192 128 (by omega) (by omega) (by omega) ?_
      rw [show ctxP 8320 8192 128 = 1 by decide]
      go_wp2_with fail
      refine c_plContext 8320 2097152 4096 (by omega) (by omega) (by omega) ?_
      rw [show ctxP 8320 2097152 4096 = -1 by decide]
      go_wp2_with fail
      refine c_plContext 8320 2097156 4096 (by omega) (by omega) (by omega) ?_
      rw [show ctxP 8320 2097156 4096 = -1 by decide]
      go_wp2
      exact k.out _ t2
    by_cases h5 : a = 2097152
    · subst h5
      have e : s.store 2097152 4 x = ({ s with least0 := x % 8, b0 := m8 x }, true) := by unfold PlS.store; rw [if_neg (not_not_intro hm)]; rfl
      rw [e] at k
      clear e
      have y1 := t.c 37 s.eE0
      have t2 := t.s 37 (by rw [s.enc_len]; omega) (.int .u32 (x % 8))
      rw [s.e0_set (x % 8) (m8 x)] at t2
      have h8 : V % 8 = x % 8 := by omega
      rw [h8] at h7
      obtain ⟨q, hq⟩ : ∃ q, x % 8 = q := ⟨_, rfl⟩
      simp only [hq] at k t2 h7
      clear hVw h8
      replace hlb := aside hlb
      replace hq := aside hq
      replace h1 := aside h1
      replace k := aside k
      replace hm := aside hm
      go_enter Try.func93, Try.ntmps93
      go_wp2_with fail
      refine c_plMay 2097152 4 (by omega) (by omega) ?_
      rw [decide_eq_true (show mayP 2097152 4 from hm.out)]
      go_wp2_with fail
      refine c_plContext 2097152 8192 128 (by omega) (by omega) (by omega) ?_
      rw [show ctxP 2097152 8192 128 = -1 by decide]
      go_wp2_with fail
      refine c_plContext 2097152 2097152 4096 (by omega) (by omega) (by omega) ?_
      rw [show ctxP 2097152 2097152 4096 = 0 by decide]
      go_wp2_with fail
      refine c_plContext 2097152 2097156 4096 (by omega) (by omega) (by omega) ?_
      rw [show ctxP 2097152 2097156 4096 = -1 by decide]
      go_wp2
      exact k.out _ t2
    by_cases h6 : a = 2101248
    · subst h6
      have e : s.store 2101248 4 x = ({ s with least1 := x % 8, b1 := m8 x }, true) := by unfold PlS.store; rw [if_neg (not_not_intro hm)]; rfl
      rw [e] at k
      clear e
      have y1 := t.c 38 s.eE1
      have t2 := t.s 38 (by rw [s.enc_len]; omega) (.int .u32 (x % 8))
      rw [s.e1_set (x % 8) (m8 x)] at t2
      have h8 : V % 8 = x % 8 := by omega
      rw [h8] at h7
      obtain ⟨q, hq⟩ : ∃ q, x % 8 = q := ⟨_, rfl⟩
      simp only [hq] at k t2 h7
      clear hVw h8
      replace hlb := aside hlb
      replace hq := aside hq
      replace h1 := aside h1
      replace k := aside k
      replace hm := aside hm
      go_enter Try.func93, Try.ntmps93
      go_wp2_with fail
      refine c_plMay 2101248 4 (by omega) (by omega) ?_
      rw [decide_eq_true (show mayP 2101248 4 from hm.out)]
      go_wp2_with fail
      refine c_plContext 2101248 8192 128 (by omega) (by omega) (by omega) ?_
      rw [show ctxP 2101248 8192 128 = -1 by decide]
      go_wp2_with fail
      refine c_plContext 2101248 2097152 4096 (by omega) (by omega) (by omega) ?_
      rw [show ctxP 2101248 2097152 4096 = 1 by decide]
      go_wp2_with fail
      refine c_plContext 2101248 2097156 4096 (by omega) (by omega) (by omega) ?_
      rw [show ctxP 2101248 2097156 4096 = -1 by decide]
      go_wp2
      exact k.out _ t2
    clear h7 hlb
    by_cases h7 : a = 2097156
    · subst h7
      by_cases hv : V < 32
      · have e : s.store 2097156 4 x = (s.done 0 V, true) := by unfold PlS.store; rw [if_neg (not_not_intro hm), if_neg (by omega), if_neg (by omega), if_neg (by omega), if_neg (by omega), if_neg (by omega), if_pos ⟨rfl, by omega⟩, ← hVw]
        rw [e] at k
        clear e
        clear hVw
        replace h1 := aside h1
        replace k := aside k
        replace hm := aside hm
        go_enter Try.func93, Try.ntmps93
        go_wp2_with fail
        refine c_plMay 2097156 4 (by omega) (by omega) ?_
        rw [decide_eq_true (show mayP 2097156 4 from hm.out)]
        go_wp2_with fail
        refine c_plContext 2097156 8192 128 (by omega) (by omega) (by omega) ?_
        rw [show ctxP 2097156 8192 128 = -1 by decide]
        go_wp2_with fail
        refine c_plContext 2097156 2097152 4096 (by omega) (by omega) (by omega) ?_
        rw [show ctxP 2097156 2097152 4096 = -1 by decide]
        go_wp2_with fail
        refine c_plContext 2097156 2097156 4096 (by omega) (by omega) (by omega) ?_
        rw [show ctxP 2097156 2097156 4096 = 0 by decide]
        go_wp2_with fail
        refine c_plDone t 0 V (by omega) (by omega) ?_
        intro w1 t1
        go_wp2
        exact k.out _ t1
      · have e : s.store 2097156 4 x = (s, true) := by unfold PlS.store; rw [if_neg (not_not_intro hm), if_neg (by omega), if_neg (by omega), if_neg (by omega), if_neg (by omega), if_neg (by omega), if_neg (by omega), if_neg (by omega)]
        rw [e] at k
        clear e
        clear hVw
        replace h1 := aside h1
        replace k := aside k
        replace hm := aside hm
        go_enter Try.func93, Try.ntmps93
        go_wp2_with fail
        refine c_plMay 2097156 4 (by omega) (by omega) ?_
        rw [decide_eq_true (show mayP 2097156 4 from hm.out)]
        go_wp2_with fail
        refine c_plContext 2097156 8192 128 (by omega) (by omega) (by omega) ?_
        rw [show ctxP 2097156 8192 128 = -1 by decide]
        go_wp2_with fail
        refine c_plContext 2097156 2097152 4096 (by omega) (by omega) (by omega) ?_
        rw [show ctxP 2097156 2097152 4096 = -1 by decide]
        go_wp2_with fail
        refine c_plContext 2097156 2097156 4096 (by omega) (by omega) (by omega) ?_
        rw [show ctxP 2097156 2097156 4096 = 0 by decide]
        go_wp2
        exact k.out _ t
    by_cases h8 : a = 2101252
    · subst h8
      by_cases hv : V < 32
      · have e : s.store 2101252 4 x = (s.done 1 V, true) := by unfold PlS.store; rw [if_neg (not_not_intro hm), if_neg (by omega), if_neg (by omega), if_neg (by omega), if_neg (by omega), if_neg (by omega), if_neg (by omega), if_pos ⟨rfl, by omega⟩, ← hVw]
        rw [e] at k
        clear e
        clear hVw
        replace h1 := aside h1
        replace k := aside k
        replace hm := aside hm
        go_enter Try.func93, Try.ntmps93
        go_wp2_with fail
        refine c_plMay 2101252 4 (by omega) (by omega) ?_
        rw [decide_eq_true (show mayP 2101252 4 from hm.out)]
        go_wp2_with fail
        refine c_plContext 2101252 8192 128 (by omega) (by omega) (by omega) ?_
        rw [show ctxP 2101252 8192 128 = -1 by decide]
        go_wp2_with fail
        refine c_plContext 2101252 2097152 4096 (by omega) (by omega) (by omega) ?_
        rw [show ctxP 2101252 2097152 4096 = -1 by decide]
        go_wp2_with fail
        refine c_plContext 2101252 2097156 4096 (by omega) (by omega) (by omega) ?_
        rw [show ctxP 2101252 2097156 4096 = 1 by decide]
        go_wp2_with fail
        refine c_plDone t 1 V (by omega) (by omega) ?_
        intro w1 t1
        go_wp2
        exact k.out _ t1
      · have e : s.store 2101252 4 x = (s, true) := by unfold PlS.store; rw [if_neg (not_not_intro hm), if_neg (by omega), if_neg (by omega), if_neg (by omega), if_neg (by omega), if_neg (by omega), if_neg (by omega), if_neg (by omega)]
        rw [e] at k
        clear e
        clear hVw
        replace h1 := aside h1
        replace k := aside k
        replace hm := aside hm
        go_enter Try.func93, Try.ntmps93
        go_wp2_with fail
        refine c_plMay 2101252 4 (by omega) (by omega) ?_
        rw [decide_eq_true (show mayP 2101252 4 from hm.out)]
        go_wp2_with fail
        refine c_plContext 2101252 8192 128 (by omega) (by omega) (by omega) ?_
        rw [show ctxP 2101252 8192 128 = -1 by decide]
        go_wp2_with fail
        refine c_plContext 2101252 2097152 4096 (by omega) (by omega) (by omega) ?_
        rw [show ctxP 2101252 2097152 4096 = -1 by decide]
        go_wp2_with fail
        refine c_plContext 2101252 2097156 4096 (by omega) (by omega) (by omega) ?_
        rw [show ctxP 2101252 2097156 4096 = 1 by decide]
        go_wp2
        exact k.out _ t
    · have e : s.store a 4 x = (s, true) := by
        unfold PlS.store; rw [if_neg (not_not_intro hm), if_neg h1, if_neg h3, if_neg h4, if_neg h5, if_neg h6, if_neg (fun h => h7 h.1), if_neg (fun h => h8 h.1)]
      rw [e] at k
      clear e
      clear hVw
      have h9 : a = 0 ∨ 128 ≤ a := by omega
      replace h1 := aside h1
      rcases h9 with rfl | h9
      · skip
        replace k := aside k
        replace hm := aside hm
        go_enter Try.func93, Try.ntmps93
        go_wp2_with fail
        refine c_plMay 0 4 (by omega) (by omega) ?_
        rw [decide_eq_true (show mayP 0 4 from hm.out)]
        go_wp2_with fail
        refine c_plContext 0 8192 128 (by omega) (by omega) (by omega) ?_
        rw [show ctxP 0 8192 128 = -1 by decide]
        go_wp2_with fail
        refine c_plContext 0 2097152 4096 (by omega) (by omega) (by omega) ?_
        rw [show ctxP 0 2097152 4096 = -1 by decide]
        go_wp2_with fail
        refine c_plContext 0 2097156 4096 (by omega) (by omega) (by omega) ?_
        rw [show ctxP 0 2097156 4096 = -1 by decide]
        go_wp2
        exact k.out _ t
      · skip
        replace k := aside k
        replace hm := aside hm
        go_enter Try.func93, Try.ntmps93
        go_wp2_with fail
        refine c_plMay a 4 (by omega) (by omega) ?_
        rw [decide_eq_true (show mayP a 4 from hm.out)]
        go_wp2_with fail
        refine c_plContext a 8192 128 (by omega) (by omega) (by omega) ?_
        rw [show ctxP a 8192 128 = -1 by (exact ctx_no h3 (by omega))]
        go_wp2_with fail
        refine c_plContext a 2097152 4096 (by omega) (by omega) (by omega) ?_
        rw [show ctxP a 2097152 4096 = -1 by (exact ctx_no h5 (by omega))]
        go_wp2_with fail
        refine c_plContext a 2097156 4096 (by omega) (by omega) (by omega) ?_
        rw [show ctxP a 2097156 4096 = -1 by (exact ctx_no h7 (by omega))]
        clear h3 h4 h5 h6 h7 h8
        go_wp2
        exact k.out _ t
  · have e : s.store a n x = (s, false) := by unfold PlS.store; rw [if_pos hm]
    rw [e] at k
    replace k := aside k
    clear e
    go_enter Try.func93, Try.ntmps93
    go_wp2_with fail
    refine c_plMay a n ha hn ?_
    rw [decide_eq_false hm]
    clear hm
    go_wp2
    exact k.out _ t
end
end Go.Proofs.Ytohccblfnjampaa
