/-
  VMMIO: what a device tells of itself: tell, and Load there.
-/
import Derived.Test.YtiibiamobkhlbaaG1
set_option linter.unusedVariables false
set_option linter.unusedSimpArgs false
namespace Go.Proofs.Ytiibiamobkhlbaa
open Go.RowKit
set_option linter.unusedVariables false
set_option linter.unusedSimpArgs false

/-- the space as a memory: 0 where nothing is told -/
def spF (xs : List Int) : Int → Int := fun y => if 0 ≤ y then (xs[y.toNat]?).getD 0 else 0
theorem spF_bd {xs : List Int} (h : ∀ x ∈ xs, 0 ≤ x ∧ x ≤ 255) (y : Int) : 0 ≤ spF xs y ∧ spF xs y ≤ 255 := by
  unfold spF
  split
  · cases hx : xs[y.toNat]? with
    | none => simp
    | some x => exact h x (List.mem_of_getElem? hx)
  · omega
theorem spF_in {xs : List Int} {i : Nat} (h : i < xs.length) : spF xs (i : Int) = xs[i] := by
  unfold spF
  rw [if_pos (by omega), Int.toNat_natCast, List.getElem?_eq_getElem h]; rfl
theorem spF_out {xs : List Int} {y : Int} (h : (xs.length : Int) ≤ y) : spF xs y = 0 := by
  unfold spF
  rw [if_pos (by omega), List.getElem?_eq_none (by omega)]; rfl
/-- may there be such an access, to the space -/
def telOk (a n : Int) : Prop := sizedP n ∧ a % n = 0 ∧ a + n ≤ 3840
instance (a n : Int) : Decidable (telOk a n) := by unfold telOk; infer_instance

section
variable {R : Ending → World → Prop} {W0 w : World} {H : Hp} {A F : List Hp}


set_option maxRecDepth 100000 in
set_option maxHeartbeats 4000000 in
theorem c_tell {rb : Nat} {S : Option Addr} {m c : Nat} {hp : Hp} {xs : List Int} (hc : w.cell? ⟨rb, 10, none⟩ = some (.slice S m c)) (hh : Holds w hp) (rd : Rd u8E 1 hp (.slice S m c) xs) (a n : Int) (h0 : 0 ≤ a ∧ a ≤ 18446744073709551615) (hn : -9223372036854775808 ≤ n ∧ n ≤ 9223372036854775807)
    (kb : ¬ telOk a n → R (.returned (.tuple #[.int .u64 0, .bool false])) w)
    (k : telOk a n → R (.returned (.tuple #[.int .u64 (ofB (rdB (spF xs) a n.toNat)), .bool true])) w) :
    Calls Try.prog 105 #[.pointer (some ⟨rb, 0, none⟩), .int .u64 a, .int .i64 n] w R := by
  obtain ⟨hm, hcap, hcap2, gg⟩ := rd.u8
  have hby := rd.bytes
  subst hm
  obtain ⟨XL, hXL⟩ : ∃ y, xs.length = y := ⟨_, rfl⟩
  rw [hXL] at hc hcap
  have hXL2 : (XL : Int) ≤ 9223372036854775807 := by omega
  have ewX : IntKind.u64.wrap (XL : Int) = XL := by rw [wrap_u64]; omega
  replace kb := aside kb
  replace k := aside k
  replace hXL := aside hXL
  replace hby := aside hby
  replace hcap := aside hcap
  replace hcap2 := aside hcap2
  replace gg := aside gg
  replace rd := aside rd
  go_enter Try.func105, Try.ntmps105
  go_upto_region 1 with fail
  obtain ⟨TB, hTB⟩ : ∃ b, (!decide (telOk a n)) = b := ⟨_, rfl⟩
  go_cut [38] (fun v38 w' => v38 = .bool TB ∧ w' = w)
  case first =>
    by_cases hs : sizedP n
    · rcases hs with rfl | rfl | rfl | rfl
      · have hJ := aside (show (1 : Int) = (2 : Int) ^ 0 by decide)
        by_cases c1 : a % 1 = 0
        · have e1 : decide (0 ≤ a ∧ (1 : Int) ≤ 3840 ∧ a - 0 ≤ 3840 - 1) = decide (telOk a 1) := by
            have : (0 ≤ a ∧ (1 : Int) ≤ 3840 ∧ a - 0 ≤ 3840 - 1) ↔ telOk a 1 := by unfold telOk sizedP; omega
            exact decide_eq_decide.2 this
          obtain ⟨B, hB⟩ : ∃ b, decide (telOk a 1) = b := ⟨_, rfl⟩
          rw [hB] at e1 hTB
          subst hTB
          replace e1 := aside e1
          replace hB := aside hB
          go_wp2_with (first
            | (go_at_call 106; refine c_Aligned a 1 0 hJ.out (by omega) h0 ?_; rw [decide_eq_true c1])
            | (go_at_call 126; refine c_Within a 1 0 3840 h0 (by omega) (by omega) (by omega) ?_; rw [e1.out]))
          go_meet
          exact ⟨rfl, rfl⟩
        · have e1 : decide (telOk a 1) = false := decide_eq_false (fun h => c1 h.2.1)
          rw [e1] at hTB
          subst hTB
          go_wp2_with (go_at_call 106; refine c_Aligned a 1 0 hJ.out (by omega) h0 ?_; rw [decide_eq_false c1])
          go_meet
          exact ⟨rfl, rfl⟩
      · have hJ := aside (show (2 : Int) = (2 : Int) ^ 1 by decide)
        by_cases c1 : a % 2 = 0
        · have e1 : decide (0 ≤ a ∧ (2 : Int) ≤ 3840 ∧ a - 0 ≤ 3840 - 2) = decide (telOk a 2) := by
            have : (0 ≤ a ∧ (2 : Int) ≤ 3840 ∧ a - 0 ≤ 3840 - 2) ↔ telOk a 2 := by unfold telOk sizedP; omega
            exact decide_eq_decide.2 this
          obtain ⟨B, hB⟩ : ∃ b, decide (telOk a 2) = b := ⟨_, rfl⟩
          rw [hB] at e1 hTB
          subst hTB
          replace e1 := aside e1
          replace hB := aside hB
          go_wp2_with (first
            | (go_at_call 106; refine c_Aligned a 2 1 hJ.out (by omega) h0 ?_; rw [decide_eq_true c1])
            | (go_at_call 126; refine c_Within a 2 0 3840 h0 (by omega) (by omega) (by omega) ?_; rw [e1.out]))
          go_meet
          exact ⟨rfl, rfl⟩
        · have e1 : decide (telOk a 2) = false := decide_eq_false (fun h => c1 h.2.1)
          rw [e1] at hTB
          subst hTB
          go_wp2_with (go_at_call 106; refine c_Aligned a 2 1 hJ.out (by omega) h0 ?_; rw [decide_eq_false c1])
          go_meet
          exact ⟨rfl, rfl⟩
      · have hJ := aside (show (4 : Int) = (2 : Int) ^ 2 by decide)
        by_cases c1 : a % 4 = 0
        · have e1 : decide (0 ≤ a ∧ (4 : Int) ≤ 3840 ∧ a - 0 ≤ 3840 - 4) = decide (telOk a 4) := by
            have : (0 ≤ a ∧ (4 : Int) ≤ 3840 ∧ a - 0 ≤ 3840 - 4) ↔ telOk a 4 := by unfold telOk sizedP; omega
            exact decide_eq_decide.2 this
          obtain ⟨B, hB⟩ : ∃ b, decide (telOk a 4) = b := ⟨_, rfl⟩
          rw [hB] at e1 hTB
          subst hTB
          replace e1 := aside e1
          replace hB := aside hB
          go_wp2_with (first
            | (go_at_call 106; refine c_Aligned a 4 2 hJ.out (by omega) h0 ?_; rw [decide_eq_true c1])
            | (go_at_call 126; refine c_Within a 4 0 3840 h0 (by omega) (by omega) (by omega) ?_; rw [e1.out]))
          go_meet
          exact ⟨rfl, rfl⟩
        · have e1 : decide (telOk a 4) = false := decide_eq_false (fun h => c1 h.2.1)
          rw [e1] at hTB
          subst hTB
          go_wp2_with (go_at_call 106; refine c_Aligned a 4 2 hJ.out (by omega) h0 ?_; rw [decide_eq_false c1])
          go_meet
          exact ⟨rfl, rfl⟩
      · have hJ := aside (show (8 : Int) = (2 : Int) ^ 3 by decide)
        by_cases c1 : a % 8 = 0
        · have e1 : decide (0 ≤ a ∧ (8 : Int) ≤ 3840 ∧ a - 0 ≤ 3840 - 8) = decide (telOk a 8) := by
            have : (0 ≤ a ∧ (8 : Int) ≤ 3840 ∧ a - 0 ≤ 3840 - 8) ↔ telOk a 8 := by unfold telOk sizedP; omega
            exact decide_eq_decide.2 this
          obtain ⟨B, hB⟩ : ∃ b, decide (telOk a 8) = b := ⟨_, rfl⟩
          rw [hB] at e1 hTB
          subst hTB
          replace e1 := aside e1
          replace hB := aside hB
          go_wp2_with (first
            | (go_at_call 106; refine c_Aligned a 8 3 hJ.out (by omega) h0 ?_; rw [decide_eq_true c1])
            | (go_at_call 126; refine c_Within a 8 0 3840 h0 (by omega) (by omega) (by omega) ?_; rw [e1.out]))
          go_meet
          exact ⟨rfl, rfl⟩
        · have e1 : decide (telOk a 8) = false := decide_eq_false (fun h => c1 h.2.1)
          rw [e1] at hTB
          subst hTB
          go_wp2_with (go_at_call 106; refine c_Aligned a 8 3 hJ.out (by omega) h0 ?_; rw [decide_eq_false c1])
          go_meet
          exact ⟨rfl, rfl⟩
    · have e1 : decide (telOk a n) = false := decide_eq_false (fun h => hs h.1)
      have h1 : ¬ n = 1 := fun h => hs (.inl h)
      have h2 : ¬ n = 2 := fun h => hs (.inr (.inl h))
      have h4 : ¬ n = 4 := fun h => hs (.inr (.inr (.inl h)))
      have h8 : ¬ n = 8 := fun h => hs (.inr (.inr (.inr h)))
      have f1 : (n != 1) = true := by simp [h1]
      have f2 : (n != 2) = true := by simp [h2]
      have f4 : (n != 4) = true := by simp [h4]
      have f8 : (n != 8) = true := by simp [h8]
      rw [e1] at hTB
      subst hTB
      clear hs
      go_wp2
      go_meet
      exact ⟨rfl, rfl⟩
  case rest =>
    obtain ⟨rfl, rfl⟩ := hcut
    by_cases ht : telOk a n
    · rw [decide_eq_true ht] at hTB
      subst hTB
      have K := aside (k.out ht)
      have hn8 : 1 ≤ n ∧ n ≤ 8 := by have := ht.1; unfold sizedP at this; omega
      have ha3 : a ≤ 3840 := by have := ht.2.2; omega
      obtain ⟨q, rfl⟩ : ∃ q : Nat, n = q := ⟨n.toNat, by omega⟩
      have hq8 : q ≤ 8 := by omega
      have K2 : R (.returned (.tuple #[.int .u64 (ofB (rdB (spF xs) a q)), .bool true])) wc := by have := K.out; rwa [Int.toNat_natCast] at this
      replace K2 := aside K2
      clear K k kb ht
      go_wp2
      go_loopg [8, 40] q (fun p v8 v40 w' => ∃ i : Nat, p + i = q ∧ w' = wc ∧ v8 = .int .u64 (ofB (rdB (spF xs) a i)) ∧ v40 = .int .i64 i)
      case atStart => exact ⟨0, by simp, rfl, rfl, rfl⟩
      case round =>
        obtain ⟨i, hp, rfl, rfl, rfl⟩ := hrel
        by_cases hi : i < q
        · have hi2 : (i : Int) < q := by omega
          have hb := ofB_bd (rdB_bd (spF_bd hby.out) a i)
          rw [rdB_len] at hb
          have hy := spF_bd hby.out (a + i)
          have e1 : IntKind.u64.wrap (i : Int) = i := by rw [wrap_u64]; omega
          have e3 : IntKind.i64.wrap (8 * (i : Int)) = 8 * i := by simp [IntKind.wrap, IntKind.bits, IntKind.signed]; omega
          have hx : ofB (rdB (spF xs) a (i + 1)) = ofB (rdB (spF xs) a i) + 256 ^ i * spF xs (a + i) := by rw [rdB, ofB_snoc, rdB_len]
          obtain ⟨X, hX⟩ : ∃ X, ofB (rdB (spF xs) a i) = X := ⟨_, rfl⟩
          rw [hX] at hx hb ⊢
          obtain ⟨P, hP⟩ : ∃ P : Nat, a + i = P := ⟨(a + i).toNat, by omega⟩
          have e2 : IntKind.u64.wrap (a + (i : Int)) = (P : Int) := by rw [wrap_u64]; omega
          rw [hP] at hx hy
          have hq2 := aside (show gk - 1 + (i + 1) = q ∧ gk - 1 < gk by omega)
          by_cases hin : P < XL
          · have hin2 : (P : Int) < XL := by omega
            have hin3 : (0 : Int) ≤ P ∧ (P : Int) < XL := by omega
            have hil : P < xs.length := by have := hXL.out; omega
            rw [spF_in hil] at hx hy
            obtain ⟨b', o', rfl, hcell⟩ := gg.out P hil
            have c0 := hh.cell hcell.1
            obtain ⟨Y, hY⟩ : ∃ Y, xs[P]'hil = Y := ⟨_, rfl⟩
            rw [hY] at hx hy c0
            have hor := aside (or_step2 X Y i (by omega) hb hy)
            replace hx := aside hx
            replace hY := aside hY
            replace hX := aside hX
            replace hb := aside hb
            replace hP := aside hP
            replace hcell := aside hcell
            clear hp
            have e5 : IntKind.u64.wrap Y = Y := by rw [wrap_u64]; omega
            go_wp2
            go_roundg (gk - 1)
            case measure => exact hq2.out.2
            case rel => exact ⟨i + 1, hq2.out.1, rfl, by rw [hx.out, hor.out], by go_num⟩
          · have hin2 : ¬ (P : Int) < XL := by omega
            rw [spF_out (by have := hXL.out; omega)] at hx
            have hx2 := aside (show ofB (rdB (spF xs) a (i + 1)) = X by rw [hx, Int.mul_zero, Int.add_zero])
            replace hX := aside hX
            replace hb := aside hb
            replace hP := aside hP
            clear hp hx hy
            go_wp2
            go_roundg (gk - 1)
            case measure => exact hq2.out.2
            case rel => exact ⟨i + 1, hq2.out.1, rfl, by rw [hx2.out], by go_num⟩
        · obtain rfl : i = q := by omega
          go_wp2
          exact K2.out
    · rw [decide_eq_false ht] at hTB
      subst hTB
      have K := aside (kb.out ht)
      clear k kb ht
      go_wp2
      exact K.out

set_option maxRecDepth 100000 in
set_option maxHeartbeats 4000000 in
theorem c_regLoadSp {rb : Nat} {S : Option Addr} {m c : Nat} {hp : Hp} {xs : List Int} (hc : w.cell? ⟨rb, 10, none⟩ = some (.slice S m c)) (hh : Holds w hp) (rd : Rd u8E 1 hp (.slice S m c) xs) (a n : Int) (h0 : 256 ≤ a ∧ a ≤ 18446744073709551615) (hn : -9223372036854775808 ≤ n ∧ n ≤ 9223372036854775807)
    (kb : ¬ telOk (a - 256) n → R (.returned (.tuple #[.int .u64 0, .bool false])) w)
    (k : telOk (a - 256) n → R (.returned (.tuple #[.int .u64 (ofB (rdB (spF xs) (a - 256) n.toNat)), .bool true])) w) :
    Calls Try.prog 46 #[.pointer (some ⟨rb, 0, none⟩), .int .u64 a, .int .i64 n] w R := by
  have e1 : IntKind.u64.wrap (a - 256) = a - 256 := by rw [wrap_u64]; omega
  have e2 : ¬ a < 256 := by omega
  obtain ⟨V, hV⟩ : ∃ y, ofB (rdB (spF xs) (a - 256) n.toNat) = y := ⟨_, rfl⟩
  rw [hV] at k
  replace kb := aside kb
  replace k := aside k
  replace hV := aside hV
  replace rd := aside rd
  go_enter Try.func46, Try.ntmps46
  go_wp2_with fail
  refine c_tell hc hh rd.out (a - 256) n (by omega) hn ?_ ?_
  · intro ht
    have K := aside (kb.out ht)
    clear k kb ht
    go_wp2
    exact K.out
  · intro ht
    have K := aside (k.out ht)
    rw [hV.out]
    clear k kb ht
    go_wp2
    exact K.out
end
end Go.Proofs.Ytiibiamobkhlbaa
