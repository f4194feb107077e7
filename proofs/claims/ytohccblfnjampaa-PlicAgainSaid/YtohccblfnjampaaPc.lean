/-
  PLIC, the program's: Take, Line, Done, over, Lines, may, context.
-/
import Derived.Test.YtohccblfnjampaaPb
namespace Go.Proofs.Ytohccblfnjampaa
open Go.RowKit
set_option linter.unusedVariables false
set_option linter.unusedSimpArgs false

section
variable {R : Ending → World → Prop} {W0 w : World} {H : Hp} {A F : List Hp} {b o : Nat} {s : PlS}

theorem shl1_32 {n : Nat} (h : n < 32) : (2 : Int) ^ n % 4294967296 = wn (tw n) := by
  rw [tw_wn n h]
  have : (2 : Int) ^ n < 2 ^ 32 := Int.pow_lt_pow_of_lt (by decide) h
  have h0 : (0 : Int) < 2 ^ n := Int.pow_pos (by decide)
  omega

set_option maxRecDepth 100000 in
set_option maxHeartbeats 4000000 in
theorem c_plTake (t : Sat W0 w H (cellsH ⟨b, o, none⟩ s.enc :: F)) (c : Int) (hcb : -9223372036854775808 ≤ c ∧ c ≤ 9223372036854775807) (k : ∀ w', Sat W0 w' H (cellsH ⟨b, o, none⟩ (s.take c).1.enc :: F) → R (.returned (.int .i64 (s.take c).2)) w') :
    Calls Try.prog 54 #[.pointer (some ⟨b, o, none⟩), .int .i64 c] w R := by
  by_cases h0 : 0 ≤ c
  · by_cases h2 : c < 2
    · obtain ⟨c, rfl⟩ := Int.eq_ofNat_of_zero_le h0
      by_cases hb : 0 < s.best c
      · have e : s.take c = (s.serve (s.best c), s.best c) := by unfold PlS.take; rw [if_pos ⟨h0, h2⟩, Int.toNat_natCast, if_pos hb]
        rw [e] at k
        have hle := s.best_le c
        replace k := aside k
        go_enter Try.func54, Try.ntmps54
        go_wp2_with fail
        refine c_plBest t c (by omega) ?_
        intro w1 t1
        clear t
        have y1 := t1.c 33 s.eW
        have y2 := t1.c 34 s.eS
        obtain ⟨n, hn⟩ : ∃ n, s.best c = n := ⟨_, rfl⟩
        rw [hn] at hb hle k ⊢
        have hsh := shl1_32 (n := n) (by omega)
        have e1 := bits_andNot s.waits (tw n)
        have e2 := bits_or s.serving (tw n)
        have t2 := t1.s 33 (by rw [s.enc_len]; omega) (.int .u32 (wn (s.waits &&& ~~~tw n)))
        have y3 := t2.c 34 (v := .int .u32 (wn s.serving)) (by rw [List.getElem?_set_ne (by omega)]; exact s.eS)
        have t3 := t2.s 34 (by rw [List.length_set, s.enc_len]; omega) (.int .u32 (wn (s.serving ||| tw n)))
        rw [s.serve_set] at t3
        obtain ⟨T, hT⟩ : ∃ T, wn (tw n) = T := ⟨_, rfl⟩
        rw [hT] at hsh e1 e2
        obtain ⟨X, hX⟩ : ∃ X, wn s.waits = X := ⟨_, rfl⟩
        obtain ⟨Y, hY⟩ : ∃ Y, wn s.serving = Y := ⟨_, rfl⟩
        obtain ⟨X2, hX2⟩ : ∃ X, wn (s.waits &&& ~~~tw n) = X := ⟨_, rfl⟩
        obtain ⟨Y2, hY2⟩ : ∃ Y, wn (s.serving ||| tw n) = Y := ⟨_, rfl⟩
        rw [hX] at e1 y1
        rw [hY] at e2 y2 y3
        rw [hX2] at e1 t2 t3 y3
        rw [hY2] at e2 t3
        replace hX := aside hX
        replace hY := aside hY
        replace hX2 := aside hX2
        replace hY2 := aside hY2
        replace hT := aside hT
        replace hn := aside hn
        replace e := aside e
        have i1 : (0 : Int) < n := by omega
        go_wp2
        go_region
        all_goals
          go_wp2
          go_region
          all_goals
            go_wp2
            exact k.out _ t3.drew.drew
      · have e : s.take c = (s, 0) := by unfold PlS.take; rw [if_pos ⟨h0, h2⟩, Int.toNat_natCast, if_neg hb]
        have hz : s.best c = 0 := by omega
        rw [e] at k
        replace k := aside k
        go_enter Try.func54, Try.ntmps54
        go_wp2_with fail
        refine c_plBest t c (by omega) ?_
        rw [hz]
        intro w1 t1
        clear t e hz hb
        go_wp2
        exact k.out _ t1
    · have e : s.take c = (s, 0) := by unfold PlS.take; rw [if_neg (by omega)]
      rw [e] at k
      replace k := aside k
      clear e
      go_enter Try.func54, Try.ntmps54
      go_wp2
      exact k.out _ t
  · have e : s.take c = (s, 0) := by unfold PlS.take; rw [if_neg (by omega)]
    rw [e] at k
    replace k := aside k
    clear e
    go_enter Try.func54, Try.ntmps54
    go_wp2
    exact k.out _ t

set_option maxRecDepth 100000 in
set_option maxHeartbeats 4000000 in
theorem c_plLine (t : Sat W0 w H (cellsH ⟨b, o, none⟩ s.enc :: F)) (n : Int) (hi : Bool) (hnb : -9223372036854775808 ≤ n ∧ n ≤ 9223372036854775807) (k : ∀ w', Sat W0 w' H (cellsH ⟨b, o, none⟩ (s.line n hi).enc :: F) → R (.returned (.tuple #[])) w') :
    Calls Try.prog 55 #[.pointer (some ⟨b, o, none⟩), .int .i64 n, .bool hi] w R := by
  by_cases hs : 0 < n ∧ n < 32
  · obtain ⟨n, rfl⟩ := Int.eq_ofNat_of_zero_le (by omega : 0 ≤ n)
    have y1 := t.c 32 s.eH
    have hsh := shl1_32 (n := n) (by omega)
    have i1 : (0 : Int) ≤ n ∧ (n : Int) < 32 := by omega
    cases hi with
    | true =>
      have e : s.line n true = (s.raise n (by omega)).gate := by unfold PlS.line; rw [dif_pos hs]; simp
      rw [e] at k
      have e1 := bits_or s.high (tw n)
      have t2 := t.s 32 (by rw [s.enc_len]; omega) (.int .u32 (wn (s.high ||| tw n)))
      rw [s.raise_set n (by omega)] at t2
      obtain ⟨T, hT⟩ : ∃ T, wn (tw n) = T := ⟨_, rfl⟩
      rw [hT] at hsh e1
      obtain ⟨X, hX⟩ : ∃ X, wn s.high = X := ⟨_, rfl⟩
      obtain ⟨X2, hX2⟩ : ∃ X, wn (s.high ||| tw n) = X := ⟨_, rfl⟩
      rw [hX] at e1 y1
      rw [hX2] at e1 t2
      replace k := aside k
      replace hX := aside hX
      replace hX2 := aside hX2
      replace hT := aside hT
      replace e := aside e
      go_enter Try.func55, Try.ntmps55
      go_wp2_with fail
      refine c_plSource _ hnb ?_
      rw [decide_eq_true hs]
      go_wp2
      go_region
      all_goals
        go_wp2_with fail
        refine c_plGate t2.drew ?_
        intro w3 t3
        clear y1 t t2
        go_wp2
        go_end0
        exact k.out _ t3
    | false =>
      have e : s.line n false = s.lower n := by unfold PlS.line; rw [dif_pos hs]; simp
      rw [e] at k
      have e1 := bits_andNot s.high (tw n)
      have t2 := t.s 32 (by rw [s.enc_len]; omega) (.int .u32 (wn (s.high &&& ~~~tw n)))
      rw [s.lower_set n] at t2
      obtain ⟨T, hT⟩ : ∃ T, wn (tw n) = T := ⟨_, rfl⟩
      rw [hT] at hsh e1
      obtain ⟨X, hX⟩ : ∃ X, wn s.high = X := ⟨_, rfl⟩
      obtain ⟨X2, hX2⟩ : ∃ X, wn (s.high &&& ~~~tw n) = X := ⟨_, rfl⟩
      rw [hX] at e1 y1
      rw [hX2] at e1 t2
      replace k := aside k
      replace hX := aside hX
      replace hX2 := aside hX2
      replace hT := aside hT
      replace e := aside e
      go_enter Try.func55, Try.ntmps55
      go_wp2_with fail
      refine c_plSource _ hnb ?_
      rw [decide_eq_true hs]
      go_wp2
      go_region
      all_goals
        go_wp2
        go_end0
        exact k.out _ t2.drew
  · have e : s.line n hi = s := by unfold PlS.line; rw [dif_neg hs]
    rw [e] at k
    replace k := aside k
    clear e
    go_enter Try.func55, Try.ntmps55
    go_wp2_with fail
    refine c_plSource _ hnb ?_
    rw [decide_eq_false hs]
    clear hs
    go_wp2
    go_end0
    exact k.out _ t

set_option maxRecDepth 100000 in
set_option maxHeartbeats 4000000 in
theorem c_plDone (t : Sat W0 w H (cellsH ⟨b, o, none⟩ s.enc :: F)) (c n : Int) (hcb : -9223372036854775808 ≤ c ∧ c ≤ 9223372036854775807) (hnb : -9223372036854775808 ≤ n ∧ n ≤ 9223372036854775807) (k : ∀ w', Sat W0 w' H (cellsH ⟨b, o, none⟩ (s.done c n).enc :: F) → R (.returned (.tuple #[])) w') :
    Calls Try.prog 56 #[.pointer (some ⟨b, o, none⟩), .int .i64 c, .int .i64 n] w R := by
  by_cases h0 : 0 ≤ c
  · by_cases h2 : c < 2
    · by_cases hs : 0 < n ∧ n < 32
      · obtain ⟨c, rfl⟩ := Int.eq_ofNat_of_zero_le h0
        obtain ⟨n, rfl⟩ := Int.eq_ofNat_of_zero_le (by omega : 0 ≤ n)
        have i1 : (0 : Int) ≤ n ∧ (n : Int) < 32 := by omega
        have i2 : (0 : Int) ≤ c ∧ (c : Int) < 2 := by omega
        have y1 := t.ce (35 + c) (s.eLc (by omega))
        rw [← Nat.add_assoc] at y1
        have hV := wn_bd (s.lets c)
        have hbt := wn_bit (s.lets c) n
        have e0 : s.done c n = if (s.lets c).getLsbD n = true then (s.free n).gate else s := by
          unfold PlS.done
          by_cases hb : (s.lets c).getLsbD n = true
          · rw [if_pos ⟨⟨h0, h2⟩, hs, hb⟩, if_pos hb]; rfl
          · rw [if_neg (fun h => hb h.2.2), if_neg hb]
        rw [e0] at k
        clear e0
        obtain ⟨V, hVV⟩ : ∃ V, wn (s.lets c) = V := ⟨_, rfl⟩
        rw [hVV] at hV hbt y1
        have hgb : 0 ≤ V / 2 ^ n ∧ V / 2 ^ n ≤ 4294967295 :=
          ⟨Int.ediv_nonneg hV.1 (Int.pow_nonneg (by decide)), Int.le_trans (Int.ediv_le_self _ hV.1) hV.2⟩
        have B1 : (bits BinOp.and IntKind.u32 (V / 2 ^ n) 1 == 0) = !(s.lets c).getLsbD n := by
          rw [and1_32 hgb, ← hbt]
          have : V / 2 ^ n % 2 = 0 ∨ V / 2 ^ n % 2 = 1 := by omega
          rcases this with h | h <;> rw [h] <;> rfl
        clear hbt hgb
        replace hVV := aside hVV
        cases hb : (s.lets c).getLsbD n with
        | true =>
          rw [hb] at B1
          rw [if_pos hb] at k
          have y2 := t.c 34 s.eS
          have hsh := shl1_32 (n := n) (by omega)
          have e1 := bits_andNot s.serving (tw n)
          have t2 := t.s 34 (by rw [s.enc_len]; omega) (.int .u32 (wn (s.serving &&& ~~~tw n)))
          rw [s.free_set n] at t2
          obtain ⟨T, hT⟩ : ∃ T, wn (tw n) = T := ⟨_, rfl⟩
          rw [hT] at hsh e1
          obtain ⟨X, hX⟩ : ∃ X, wn s.serving = X := ⟨_, rfl⟩
          obtain ⟨X2, hX2⟩ : ∃ X, wn (s.serving &&& ~~~tw n) = X := ⟨_, rfl⟩
          rw [hX] at e1 y2
          rw [hX2] at e1 t2
          replace k := aside k
          replace hX := aside hX
          replace hX2 := aside hX2
          replace hT := aside hT
          replace hb := aside hb
          go_enter Try.func56, Try.ntmps56
          go_wp2_with fail
          refine c_plSource _ hnb ?_
          rw [decide_eq_true hs]
          go_wp2
          go_region
          all_goals
            go_wp2_with fail
            refine c_plGate t2.drew ?_
            intro w3 t3
            clear y1 y2 t t2
            go_wp2
            go_end0
            exact k.out _ t3
        | false =>
          rw [hb] at B1
          rw [if_neg (by rw [hb]; decide)] at k
          replace k := aside k
          replace hb := aside hb
          go_enter Try.func56, Try.ntmps56
          go_wp2_with fail
          refine c_plSource _ hnb ?_
          rw [decide_eq_true hs]
          go_wp2
          go_end0
          exact k.out _ t
      · have e : s.done c n = s := by unfold PlS.done; rw [if_neg (fun h => hs h.2.1)]
        rw [e] at k
        replace k := aside k
        clear e
        go_enter Try.func56, Try.ntmps56
        go_wp2_with fail
        refine c_plSource _ hnb ?_
        rw [decide_eq_false hs]
        clear hs
        go_wp2
        go_end0
        exact k.out _ t
    · have e : s.done c n = s := by unfold PlS.done; rw [if_neg (fun h => h2 h.1.2)]
      rw [e] at k
      replace k := aside k
      clear e
      go_enter Try.func56, Try.ntmps56
      go_wp2
      go_end0
      exact k.out _ t
  · have e : s.done c n = s := by unfold PlS.done; rw [if_neg (fun h => h0 h.1.1)]
    rw [e] at k
    replace k := aside k
    clear e
    go_enter Try.func56, Try.ntmps56
    go_wp2
    go_end0
    exact k.out _ t
end
end Go.Proofs.Ytohccblfnjampaa
