/-
  PLIC, the program's: over, Lines, may, context.
-/
import Derived.Test.YtohccblfnjampaaPc
namespace Go.Proofs.Ytohccblfnjampaa
open Go.RowKit
set_option linter.unusedVariables false
set_option linter.unusedSimpArgs false

section
variable {R : Ending → World → Prop} {W0 w : World} {H : Hp} {A F : List Hp} {b o : Nat} {s : PlS}

theorem PlS.least_bd (s : PlS) (c : Nat) : 0 ≤ s.least c ∧ s.least c ≤ 7 := by unfold PlS.least; split <;> first | exact s.b0 | exact s.b1

set_option maxRecDepth 100000 in
set_option maxHeartbeats 4000000 in
theorem c_plOver (t : Sat W0 w H (cellsH ⟨b, o, none⟩ s.enc :: F)) (c : Nat) (hc : c < 2) (k : ∀ w', Sat W0 w' H (cellsH ⟨b, o, none⟩ s.enc :: F) → R (.returned (.bool (s.over c))) w') :
    Calls Try.prog 113 #[.pointer (some ⟨b, o, none⟩), .int .i64 c] w R := by
  have hle := s.best_le c
  have hO : s.over c = decide (0 < s.best c ∧ s.least c < s.p (s.best c)) := rfl
  rw [hO] at k
  clear hO
  have i2 : (0 : Int) ≤ c ∧ (c : Int) < 2 := by omega
  have hp := s.p_bd (s.best c)
  have hl := s.least_bd c
  have hc1 := s.eEc hc
  have hc2 := s.enc_p (i := s.best c) (by omega)
  obtain ⟨P, hP⟩ : ∃ P, s.p (s.best c) = P := ⟨_, rfl⟩
  rw [hP] at hp hc2 k
  obtain ⟨L, hL⟩ : ∃ L, s.least c = L := ⟨_, rfl⟩
  rw [hL] at hl hc1 k
  obtain ⟨n, hn⟩ : ∃ n, s.best c = n := ⟨_, rfl⟩
  rw [hn] at hle hc2 k
  replace k := aside k
  replace hP := aside hP
  replace hL := aside hL
  replace hc1 := aside hc1
  replace hc2 := aside hc2
  go_enter Try.func113, Try.ntmps113
  go_wp2_with fail
  refine c_plBest t c (by omega) ?_
  rw [hn]
  intro w1 t1
  have y1 := t1.ce (37 + c) hc1.out
  have y2 := t1.ce n hc2.out
  rw [← Nat.add_assoc] at y1
  have i1 : (0 : Int) ≤ n ∧ (n : Int) < 32 := by omega
  clear t hc
  replace hn := aside hn
  by_cases h1 : 0 < n
  · have d1 : decide (0 < n) = true := by simp [h1]
    by_cases h2 : L < P
    · have d2 : decide (L < P) = true := by simp [h2]
      go_wp2
      go_quiet (fail)
      go_wp2
      exact ret_b (k.out _ (t1.drewN _)) (by simp [h1, h2])
    · have d2 : decide (L < P) = false := by simp [h2]
      go_wp2
      go_quiet (fail)
      go_wp2
      exact ret_b (k.out _ (t1.drewN _)) (by simp [h1, h2])
  · have d1 : decide (0 < n) = false := by simp [h1]
    go_wp2
    go_quiet (fail)
    go_wp2
    exact ret_b (k.out _ (t1.drewN _)) (by simp [h1])


set_option maxRecDepth 100000 in
set_option maxHeartbeats 4000000 in
theorem c_plLines (t : Sat W0 w H (cellsH ⟨b, o, none⟩ s.enc :: F)) (k : ∀ w', Sat W0 w' H (cellsH ⟨b, o, none⟩ s.enc :: F) → R (.returned (.int .u64 s.linesP)) w') :
    Calls Try.prog 94 #[.pointer (some ⟨b, o, none⟩)] w R := by
  have hL : s.linesP = (if s.over 0 then 2048 else 0) + (if s.over 1 then 512 else 0) := rfl
  rw [hL] at k
  clear hL
  have i0 : ∀ w, (Instr.index 102 (.agg #[.int .i64 11, .int .i64 9]) (.int .i64 0)).run Try.prog w = .ok (.int .i64 11) w := fun _ => by kernel_rfl
  have i1 : ∀ w, (Instr.index 102 (.agg #[.int .i64 11, .int .i64 9]) (.int .i64 1)).run Try.prog w = .ok (.int .i64 9) w := fun _ => by kernel_rfl
  have o1 : bits BinOp.or IntKind.u64 0 2048 = 2048 := by decide
  have o2 : bits BinOp.or IntKind.u64 0 512 = 512 := by decide
  have o3 : bits BinOp.or IntKind.u64 2048 512 = 2560 := by decide
  cases hA0 : s.over 0 <;> cases hA1 : s.over 1 <;> rw [hA0, hA1] at k
  · skip
    skip
    replace k := aside (show ∀ w', Sat W0 w' H (cellsH ⟨b, o, none⟩ s.enc :: F) → R (.returned (.int .u64 0)) w' by simpa using k)
    replace hA0 := aside hA0
    replace hA1 := aside hA1
    go_enter Try.func94, Try.ntmps94
    go_wp2
    go_loopg [3, 7] 2 (fun q v3 v7 w' => ((q = 2 ∧ v7 = .int .i64 0 ∧ v3 = .int .u64 0) ∨ (q = 1 ∧ v7 = .int .i64 1 ∧ v3 = .int .u64 0) ∨ (q = 0 ∧ v7 = .int .i64 2 ∧ v3 = .int .u64 0)) ∧ Sat W0 w' H (cellsH ⟨b, o, none⟩ s.enc :: F))
    case atStart => exact ⟨.inl ⟨rfl, rfl, rfl⟩, t⟩
    clear t
    case round =>
      obtain ⟨⟨rfl, rfl, rfl⟩ | ⟨rfl, rfl, rfl⟩ | ⟨rfl, rfl, rfl⟩, t⟩ := hrel
      · go_wp2_with fail
        refine c_plOver t 0 (by omega) ?_
        rw [hA0.out]
        intro w1 t1
        clear t i0 i1
        go_wp2
        go_roundg 1
        case measure => omega
        case rel => exact ⟨.inr (.inl ⟨rfl, rfl, rfl⟩), t1⟩
      · go_wp2_with fail
        refine c_plOver t 1 (by omega) ?_
        rw [hA1.out]
        intro w1 t1
        clear t i0 i1
        go_wp2
        go_roundg 0
        case measure => omega
        case rel => exact ⟨.inr (.inr ⟨rfl, rfl, rfl⟩), t1⟩
      · go_wp2
        exact k.out _ t
  · skip
    skip
    replace k := aside (show ∀ w', Sat W0 w' H (cellsH ⟨b, o, none⟩ s.enc :: F) → R (.returned (.int .u64 512)) w' by simpa using k)
    replace hA0 := aside hA0
    replace hA1 := aside hA1
    go_enter Try.func94, Try.ntmps94
    go_wp2
    go_loopg [3, 7] 2 (fun q v3 v7 w' => ((q = 2 ∧ v7 = .int .i64 0 ∧ v3 = .int .u64 0) ∨ (q = 1 ∧ v7 = .int .i64 1 ∧ v3 = .int .u64 0) ∨ (q = 0 ∧ v7 = .int .i64 2 ∧ v3 = .int .u64 512)) ∧ Sat W0 w' H (cellsH ⟨b, o, none⟩ s.enc :: F))
    case atStart => exact ⟨.inl ⟨rfl, rfl, rfl⟩, t⟩
    clear t
    case round =>
      obtain ⟨⟨rfl, rfl, rfl⟩ | ⟨rfl, rfl, rfl⟩ | ⟨rfl, rfl, rfl⟩, t⟩ := hrel
      · go_wp2_with fail
        refine c_plOver t 0 (by omega) ?_
        rw [hA0.out]
        intro w1 t1
        clear t i0 i1
        go_wp2
        go_roundg 1
        case measure => omega
        case rel => exact ⟨.inr (.inl ⟨rfl, rfl, rfl⟩), t1⟩
      · go_wp2_with fail
        refine c_plOver t 1 (by omega) ?_
        rw [hA1.out]
        intro w1 t1
        clear t i0 i1
        go_wp2
        go_roundg 0
        case measure => omega
        case rel => exact ⟨.inr (.inr ⟨rfl, rfl, rfl⟩), t1⟩
      · go_wp2
        exact k.out _ t
  · skip
    skip
    replace k := aside (show ∀ w', Sat W0 w' H (cellsH ⟨b, o, none⟩ s.enc :: F) → R (.returned (.int .u64 2048)) w' by simpa using k)
    replace hA0 := aside hA0
    replace hA1 := aside hA1
    go_enter Try.func94, Try.ntmps94
    go_wp2
    go_loopg [3, 7] 2 (fun q v3 v7 w' => ((q = 2 ∧ v7 = .int .i64 0 ∧ v3 = .int .u64 0) ∨ (q = 1 ∧ v7 = .int .i64 1 ∧ v3 = .int .u64 2048) ∨ (q = 0 ∧ v7 = .int .i64 2 ∧ v3 = .int .u64 2048)) ∧ Sat W0 w' H (cellsH ⟨b, o, none⟩ s.enc :: F))
    case atStart => exact ⟨.inl ⟨rfl, rfl, rfl⟩, t⟩
    clear t
    case round =>
      obtain ⟨⟨rfl, rfl, rfl⟩ | ⟨rfl, rfl, rfl⟩ | ⟨rfl, rfl, rfl⟩, t⟩ := hrel
      · go_wp2_with fail
        refine c_plOver t 0 (by omega) ?_
        rw [hA0.out]
        intro w1 t1
        clear t i0 i1
        go_wp2
        go_roundg 1
        case measure => omega
        case rel => exact ⟨.inr (.inl ⟨rfl, rfl, rfl⟩), t1⟩
      · go_wp2_with fail
        refine c_plOver t 1 (by omega) ?_
        rw [hA1.out]
        intro w1 t1
        clear t i0 i1
        go_wp2
        go_roundg 0
        case measure => omega
        case rel => exact ⟨.inr (.inr ⟨rfl, rfl, rfl⟩), t1⟩
      · go_wp2
        exact k.out _ t
  · skip
    skip
    replace k := aside (show ∀ w', Sat W0 w' H (cellsH ⟨b, o, none⟩ s.enc :: F) → R (.returned (.int .u64 2560)) w' by simpa using k)
    replace hA0 := aside hA0
    replace hA1 := aside hA1
    go_enter Try.func94, Try.ntmps94
    go_wp2
    go_loopg [3, 7] 2 (fun q v3 v7 w' => ((q = 2 ∧ v7 = .int .i64 0 ∧ v3 = .int .u64 0) ∨ (q = 1 ∧ v7 = .int .i64 1 ∧ v3 = .int .u64 2048) ∨ (q = 0 ∧ v7 = .int .i64 2 ∧ v3 = .int .u64 2560)) ∧ Sat W0 w' H (cellsH ⟨b, o, none⟩ s.enc :: F))
    case atStart => exact ⟨.inl ⟨rfl, rfl, rfl⟩, t⟩
    clear t
    case round =>
      obtain ⟨⟨rfl, rfl, rfl⟩ | ⟨rfl, rfl, rfl⟩ | ⟨rfl, rfl, rfl⟩, t⟩ := hrel
      · go_wp2_with fail
        refine c_plOver t 0 (by omega) ?_
        rw [hA0.out]
        intro w1 t1
        clear t i0 i1
        go_wp2
        go_roundg 1
        case measure => omega
        case rel => exact ⟨.inr (.inl ⟨rfl, rfl, rfl⟩), t1⟩
      · go_wp2_with fail
        refine c_plOver t 1 (by omega) ?_
        rw [hA1.out]
        intro w1 t1
        clear t i0 i1
        go_wp2
        go_roundg 0
        case measure => omega
        case rel => exact ⟨.inr (.inr ⟨rfl, rfl, rfl⟩), t1⟩
      · go_wp2
        exact k.out _ t

set_option maxRecDepth 100000 in
set_option maxHeartbeats 4000000 in
theorem c_plMay (a n : Int) (ha : 0 ≤ a ∧ a ≤ 18446744073709551615) (hn : -9223372036854775808 ≤ n ∧ n ≤ 9223372036854775807) (k : R (.returned (.bool (decide (mayP a n)))) w) :
    Calls Try.prog 111 #[.int .u64 a, .int .i64 n] w R := by
  by_cases h4 : n = 4
  · subst h4
    by_cases h1 : a % 4 = 0
    · skip
      go_enter Try.func111, Try.ntmps111
      go_wp2_with fail
      refine c_Aligned a 4 2 (by decide) (by omega) ha ?_
      rw [decide_eq_true h1]
      go_wp2_with fail
      refine c_Within a 4 0 4194304 ha (by omega) (by omega) (by omega) ?_
      go_wp2
      refine ret_b k ?_
      rw [decide_eq_decide]
      unfold mayP
      omega
    · rw [decide_eq_false (fun h => h1 h.2.1)] at k
      go_enter Try.func111, Try.ntmps111
      go_wp2_with fail
      refine c_Aligned a 4 2 (by decide) (by omega) ha ?_
      rw [decide_eq_false h1]
      go_wp2
      exact k
  · rw [decide_eq_false (fun h => h4 h.1)] at k
    have h5 : (n == 4) = false := by rw [beq_eq_false_iff_ne]; exact h4
    go_enter Try.func111, Try.ntmps111
    go_wp2
    exact k

def ctxP (a f y : Int) : Int := if a = f then 0 else if a = f + y then 1 else -1
set_option maxRecDepth 100000 in
set_option maxHeartbeats 4000000 in
theorem c_plContext (a f y : Int) (ha : 0 ≤ a ∧ a ≤ 18446744073709551615) (hf : 0 ≤ f ∧ f ≤ 10000000) (hy : 0 ≤ y ∧ y ≤ 10000000) (k : R (.returned (.int .i64 (ctxP a f y))) w) :
    Calls Try.prog 112 #[.int .u64 a, .int .u64 f, .int .u64 y] w R := by
  have hC : ctxP a f y = if a = f then 0 else if a = f + y then 1 else -1 := rfl
  replace k := aside k
  replace hC := aside hC
  go_enter Try.func112, Try.ntmps112
  go_wp2
  go_loopg [8] 2 (fun q v8 w' => w' = w ∧ ((q = 2 ∧ v8 = .int .i64 0) ∨ (q = 1 ∧ v8 = .int .i64 1 ∧ a ≠ f) ∨ (q = 0 ∧ v8 = .int .i64 2 ∧ a ≠ f ∧ a ≠ f + y)))
  case atStart => exact ⟨rfl, .inl ⟨rfl, rfl⟩⟩
  case round =>
    obtain ⟨rfl, ⟨rfl, rfl⟩ | ⟨rfl, rfl, h0⟩ | ⟨rfl, rfl, h0, h1⟩⟩ := hrel
    · by_cases h0 : a = f
      · have K := k.out
        rw [hC.out, if_pos h0] at K
        have d : (a == f) = true := by simp [h0]
        go_wp2
        exact K
      · have d : (a == f) = false := by rw [beq_eq_false_iff_ne]; exact h0
        go_wp2
        go_roundg 1
        case measure => omega
        case rel => exact ⟨rfl, .inr (.inl ⟨rfl, rfl, h0⟩)⟩
    · by_cases h1 : a = f + y
      · have K := k.out
        rw [hC.out, if_neg h0, if_pos h1] at K
        have d : (a == f + y) = true := by simp [h1]
        clear h0
        go_wp2
        exact K
      · have d : (a == f + y) = false := by rw [beq_eq_false_iff_ne]; exact h1
        go_wp2
        go_roundg 0
        case measure => omega
        case rel => exact ⟨rfl, .inr (.inr ⟨rfl, rfl, h0, h1⟩)⟩
    · have K := k.out
      rw [hC.out, if_neg h0, if_neg h1] at K
      go_wp2
      exact K
end
end Go.Proofs.Ytohccblfnjampaa
