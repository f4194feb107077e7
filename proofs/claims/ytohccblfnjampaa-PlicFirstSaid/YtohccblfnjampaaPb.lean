/-
  PLIC, the program's: gate, best, over.
-/
import Derived.Test.YtohccblfnjampaaPr
import Derived.Test.YtohccblfnjampaaVm
import Derived.Deep.QuietTactic
import Derived.BigQuiet
import Derived.RegionTactic
import Derived.Deep.LoopGhost
import Derived.Outline
namespace Go.Proofs.Ytohccblfnjampaa
open Go.RowKit
set_option linter.unusedVariables false
set_option linter.unusedSimpArgs false

section
variable {R : Ending → World → Prop} {W0 w : World} {H : Hp} {A F : List Hp} {b o : Nat} {s : PlS}

theorem Sat.ce {vs : List Value} (t : Sat W0 w H (cellsH ⟨b, o, none⟩ vs :: F)) (i : Nat) {v : Value} (h : vs[i]? = some v) : w.cell? ⟨b, o + i, none⟩ = some v := (t.c i h).1
theorem PlS.eH (s : PlS) : s.enc[32]? = some (.int .u32 (wn s.high)) := s.enc_tl 0
theorem PlS.eW (s : PlS) : s.enc[33]? = some (.int .u32 (wn s.waits)) := s.enc_tl 1
theorem PlS.eS (s : PlS) : s.enc[34]? = some (.int .u32 (wn s.serving)) := s.enc_tl 2
theorem PlS.eL0 (s : PlS) : s.enc[35]? = some (.int .u32 (wn s.lets0)) := s.enc_tl 3
theorem PlS.eL1 (s : PlS) : s.enc[36]? = some (.int .u32 (wn s.lets1)) := s.enc_tl 4
theorem PlS.eE0 (s : PlS) : s.enc[37]? = some (.int .u32 s.least0) := s.enc_tl 5
theorem PlS.eE1 (s : PlS) : s.enc[38]? = some (.int .u32 s.least1) := s.enc_tl 6
theorem PlS.eLc (s : PlS) {c : Nat} (hc : c < 2) : s.enc[35 + c]? = some (.int .u32 (wn (s.lets c))) := by
  match c, hc with
  | 0, _ => exact s.eL0
  | 1, _ => exact s.eL1
theorem PlS.eEc (s : PlS) {c : Nat} (hc : c < 2) : s.enc[37 + c]? = some (.int .u32 (s.least c)) := by
  match c, hc with
  | 0, _ => exact s.eE0
  | 1, _ => exact s.eE1

set_option maxRecDepth 100000 in
set_option maxHeartbeats 4000000 in
theorem c_plSource (n : Int) (hn : -9223372036854775808 ≤ n ∧ n ≤ 9223372036854775807) (k : R (.returned (.bool (decide (0 < n ∧ n < 32)))) w) : Calls Try.prog 98 #[.int .i64 n] w R := by
  by_cases h1 : 0 < n
  · by_cases h2 : n < 32
    · rw [decide_eq_true ⟨h1, h2⟩] at k
      go_enter Try.func98, Try.ntmps98
      go_wp2
      exact ret_b k (by first | rfl | (simp; done) | (simp; omega))
    · rw [decide_eq_false (by omega)] at k
      go_enter Try.func98, Try.ntmps98
      go_wp2
      exact ret_b k (by first | rfl | (simp; done) | (simp; omega))
  · rw [decide_eq_false (by omega)] at k
    go_enter Try.func98, Try.ntmps98
    go_wp2
    exact k

set_option maxRecDepth 100000 in
set_option maxHeartbeats 4000000 in
theorem c_plGate (t : Sat W0 w H (cellsH ⟨b, o, none⟩ s.enc :: F)) (k : ∀ w', Sat W0 w' H (cellsH ⟨b, o, none⟩ s.gate.enc :: F) → R (.returned (.tuple #[])) w') :
    Calls Try.prog 99 #[.pointer (some ⟨b, o, none⟩)] w R := by
  have y0 := t.ce 32 s.eH
  have y1 := t.c 33 s.eW
  have y2 := t.ce 34 s.eS
  have e1 := bits_andNot s.high s.serving
  have e2 := bits_or s.waits (s.high &&& ~~~s.serving)
  have t2 := t.s 33 (by rw [s.enc_len]; omega) (.int .u32 (wn (s.waits ||| (s.high &&& ~~~s.serving))))
  rw [s.gate_set] at t2
  obtain ⟨X, hX⟩ : ∃ X, wn s.high = X := ⟨_, rfl⟩
  obtain ⟨Y, hY⟩ : ∃ Y, wn s.serving = Y := ⟨_, rfl⟩
  obtain ⟨V, hV⟩ : ∃ V, wn (s.high &&& ~~~s.serving) = V := ⟨_, rfl⟩
  obtain ⟨T, hT⟩ : ∃ T, wn s.waits = T := ⟨_, rfl⟩
  obtain ⟨U, hU⟩ : ∃ U, wn (s.waits ||| (s.high &&& ~~~s.serving)) = U := ⟨_, rfl⟩
  rw [hX] at y0 e1
  rw [hY] at y2 e1
  rw [hV] at e1 e2
  rw [hT] at y1 e2
  rw [hU] at e2 t2
  replace hX := aside hX
  replace hY := aside hY
  replace hV := aside hV
  replace hT := aside hT
  replace hU := aside hU
  have K := aside (k _ t2.drew)
  clear k t t2
  go_enter Try.func99, Try.ntmps99
  go_wp2
  go_region
  all_goals
    go_end0
    exact K.out

theorem and1_32 {x : Int} (h : 0 ≤ x ∧ x ≤ 4294967295) : bits BinOp.and IntKind.u32 x 1 = x % 2 := by
  obtain ⟨m, rfl⟩ := Int.eq_ofNat_of_zero_le h.1
  show IntKind.u32.wrap ((BitVec.ofInt 32 (m : Int) &&& BitVec.ofInt 32 ((2 ^ 1 - 1 : Nat) : Int)).toNat : Int) = _
  rw [BitVec.ofInt_natCast, BitVec.ofInt_natCast, BitVec.toNat_and, BitVec.toNat_ofNat, BitVec.toNat_ofNat, Nat.mod_eq_of_lt (by omega), Nat.mod_eq_of_lt (by omega), Nat.and_two_pow_sub_one_eq_mod, wrap_u32]
  omega


set_option maxRecDepth 100000 in
set_option maxHeartbeats 4000000 in
theorem c_plBest (t : Sat W0 w H (cellsH ⟨b, o, none⟩ s.enc :: F)) (c : Nat) (hc : c < 2) (k : ∀ w', Sat W0 w' H (cellsH ⟨b, o, none⟩ s.enc :: F) → R (.returned (.int .i64 (s.best c))) w') :
    Calls Try.prog 97 #[.pointer (some ⟨b, o, none⟩), .int .i64 c] w R := by
  have e1 := bits_and s.waits (s.lets c)
  obtain ⟨a, ha⟩ : ∃ a, s.waits &&& s.lets c = a := ⟨_, rfl⟩
  have hB : s.best c = bst a s.p 31 := by unfold PlS.best; rw [ha]
  rw [ha] at e1
  rw [hB] at k
  have hL := s.eLc hc
  have hP : ∀ i, i < 32 → s.enc[i]? = some (.int .u32 (s.p i)) := fun i h => s.enc_p h
  have hW := s.eW
  have hpb := s.p_bd
  have hwb := wn_bd a
  obtain ⟨X, hX⟩ : ∃ X, wn s.waits = X := ⟨_, rfl⟩
  obtain ⟨Y, hY⟩ : ∃ Y, wn (s.lets c) = Y := ⟨_, rfl⟩
  obtain ⟨V, hV⟩ : ∃ V, wn a = V := ⟨_, rfl⟩
  rw [hX] at e1 hW
  rw [hY] at e1 hL
  rw [hV] at e1 hwb
  have hbit : ∀ i : Nat, (V / 2 ^ i % 2 == 1) = a.getLsbD i := fun i => by rw [← hV]; exact wn_bit a i
  obtain ⟨p, hp⟩ : ∃ p, s.p = p := ⟨_, rfl⟩
  rw [hp] at hP hpb k
  obtain ⟨L, hLe⟩ : ∃ L, s.enc = L := ⟨_, rfl⟩
  rw [hLe] at t hL hP hW k
  replace k := aside k
  clear hB
  replace hX := aside hX
  replace hY := aside hY
  replace hV := aside hV
  replace ha := aside ha
  replace hp := aside hp
  replace hLe := aside hLe
  replace hP := aside hP
  replace hpb := aside hpb
  replace hL := aside hL
  replace hW := aside hW
  replace hbit := aside hbit
  go_enter Try.func97, Try.ntmps97
  go_wp2
  go_loopg [5, 6] 31 (fun q v5 v6 w' => ∃ n : Nat, q + n = 32 ∧ 1 ≤ n ∧ v6 = .int .i64 n ∧ v5 = .int .i64 (bst a p (n - 1)) ∧ Sat W0 w' H (cellsH ⟨b, o, none⟩ L :: F))
  case atStart => exact ⟨1, rfl, by omega, rfl, rfl, t⟩
  clear t
  case round =>
    obtain ⟨n, hq, hn1, rfl, rfl, t⟩ := hrel
    by_cases hn : n < 32
    · have hb : bst a p (n - 1) ≤ 31 := by rcases bst_is a p (n - 1) with ⟨h, _⟩ | ⟨_, h, _⟩ <;> omega
      have y1 := t.ce 33 hW.out
      have y2 := t.ce (35 + c) hL.out
      have y3 := t.ce n (hP.out n (by omega))
      have y4 := t.ce (bst a p (n - 1)) (hP.out _ (by omega))
      have hp1 := hpb.out n
      have hp2 := hpb.out (bst a p (n - 1))
      have hS := aside (show bst a p n = if a.getLsbD n = true ∧ 0 < p n ∧ (bst a p (n - 1) = 0 ∨ p (bst a p (n - 1)) < p n) then n else bst a p (n - 1) by
        obtain ⟨j, rfl⟩ : ∃ j, n = j + 1 := ⟨n - 1, by omega⟩
        rfl)
      have hbt := hbit.out n
      obtain ⟨B, hBB⟩ : ∃ B, bst a p (n - 1) = B := ⟨_, rfl⟩
      rw [hBB] at hb y4 hp2 hS ⊢
      rw [← Nat.add_assoc] at y2
      have i1 : (0 : Int) ≤ c ∧ (c : Int) < 2 := by omega
      have i2 : (0 : Int) ≤ n ∧ (n : Int) < 32 := by omega
      have i3 : (0 : Int) ≤ B ∧ (B : Int) < 32 := by omega
      have hgb : 0 ≤ V / 2 ^ n ∧ V / 2 ^ n ≤ 4294967295 :=
        ⟨Int.ediv_nonneg hwb.1 (Int.pow_nonneg (by decide)), Int.le_trans (Int.ediv_le_self _ hwb.1) hwb.2⟩
      have B1 : (bits BinOp.and IntKind.u32 (V / 2 ^ n) 1 == 1) = a.getLsbD n := by rw [and1_32 hgb]; exact hbt
      clear hbt hgb
      replace hBB := aside hBB
      replace hq := aside hq
      cases hbb : a.getLsbD n with
      | false =>
        rw [hbb] at B1 hS
        have hS2 := aside (show bst a p n = B by rw [hS.out, if_neg (by simp)])
        clear hS
        go_wp2
        go_quiet (fail)
        go_wp2
        go_roundg (gk - 1)
        case measure => have := hq.out; omega
        case rel => exact ⟨n + 1, by have := hq.out; omega, by omega, by go_num, by rw [Nat.add_sub_cancel, hS2.out], t.drewN _⟩
      | true =>
        rw [hbb] at B1 hS
        by_cases h1 : 0 < p n
        · by_cases h2 : B = 0
          · have hS2 := aside (show bst a p n = n by rw [hS.out, if_pos ⟨rfl, h1, .inl h2⟩])
            have d1 : decide (0 < p n) = true := by simp [h1]
            have d2 : ((B : Int) == 0) = true := by simp [h2]
            clear hS
            go_wp2
            go_quiet (fail)
            go_wp2
            go_roundg (gk - 1)
            case measure => have := hq.out; omega
            case rel => exact ⟨n + 1, by have := hq.out; omega, by omega, by go_num, by rw [Nat.add_sub_cancel, hS2.out], t.drewN _⟩
          · have d1 : decide (0 < p n) = true := by simp [h1]
            have d2 : ((B : Int) == 0) = false := by rw [beq_eq_false_iff_ne]; omega
            by_cases h3 : p B < p n
            · have hS2 := aside (show bst a p n = n by rw [hS.out, if_pos ⟨rfl, h1, .inr h3⟩])
              have d3 : decide (p B < p n) = true := by simp [h3]
              clear hS
              go_wp2
              go_quiet (fail)
              go_wp2
              go_roundg (gk - 1)
              case measure => have := hq.out; omega
              case rel => exact ⟨n + 1, by have := hq.out; omega, by omega, by go_num, by rw [Nat.add_sub_cancel, hS2.out], t.drewN _⟩
            · have hS2 := aside (show bst a p n = B by rw [hS.out, if_neg (by rintro ⟨_, _, h | h⟩ <;> omega)])
              have d3 : decide (p B < p n) = false := by simp [h3]
              clear hS
              go_wp2
              go_quiet (fail)
              go_wp2
              go_roundg (gk - 1)
              case measure => have := hq.out; omega
              case rel => exact ⟨n + 1, by have := hq.out; omega, by omega, by go_num, by rw [Nat.add_sub_cancel, hS2.out], t.drewN _⟩
        · have hS2 := aside (show bst a p n = B by rw [hS.out, if_neg (fun h => h1 h.2.1)])
          have d1 : decide (0 < p n) = false := by simp [h1]
          clear hS
          go_wp2
          go_quiet (fail)
          go_wp2
          go_roundg (gk - 1)
          case measure => have := hq.out; omega
          case rel => exact ⟨n + 1, by have := hq.out; omega, by omega, by go_num, by rw [Nat.add_sub_cancel, hS2.out], t.drewN _⟩
    · obtain rfl : n = 32 := by omega
      go_wp2
      exact k.out _ t
end
end Go.Proofs.Ytohccblfnjampaa
