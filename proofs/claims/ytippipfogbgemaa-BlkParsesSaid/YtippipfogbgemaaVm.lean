/-
  RAM: the object (its size, its map of pages, what its log holds), and the contracts of what reads and writes its bytes.
-/
import Derived.Test.YtippipfogbgemaaVe
import Derived.Deep.RegionHeld3
import Derived.Laws.BitsAllLaws
import Derived.Carry
namespace Go.Proofs.Ytippipfogbgemaa
open Go.RowKit
set_option linter.unusedVariables false

/-! ### word.Aligned, word.Within -/
section
variable {R : Ending → World → Prop} {w : World}

theorem c_Within (a n b s : Int) (h0 : 0 ≤ a ∧ a ≤ 18446744073709551615) (h1 : 0 ≤ n ∧ n ≤ 18446744073709551615) (h2 : 0 ≤ b ∧ b ≤ 18446744073709551615) (h3 : 0 ≤ s ∧ s ≤ 18446744073709551615)
    (k : R (.returned (.bool (decide (b ≤ a ∧ n ≤ s ∧ a - b ≤ s - n)))) w) : Calls Try.prog 111 #[.int .u64 a, .int .u64 n, .int .u64 b, .int .u64 s] w R := by
  by_cases c1 : a < b
  · go_enter Try.func111, Try.ntmps111
    go_wp2
    exact ret_b k (by simp; omega)
  · by_cases c2 : s < n
    · have c3 : b ≤ a := by omega
      clear c1
      go_enter Try.func111, Try.ntmps111
      go_wp2
      exact ret_b k (by simp; omega)
    · have c3 : b ≤ a := by omega
      have c4 : n ≤ s := by omega
      clear c1 c2
      go_enter Try.func111, Try.ntmps111
      go_wp2
      exact ret_b k (by simp [c3, c4])

theorem and_pow (x : Int) (k : Nat) (hk : k ≤ 63) (h0 : 0 ≤ x ∧ x ≤ 18446744073709551615) : bits .and .u64 x ((2 : Int) ^ k - 1) = x % (2 : Int) ^ k := by
  obtain ⟨m, rfl⟩ := Int.eq_ofNat_of_zero_le h0.1
  have h2 : (2 : Nat) ^ k ≤ 2 ^ 63 := Nat.pow_le_pow_right (by omega) hk
  have hp : 0 < (2 : Nat) ^ k := Nat.two_pow_pos k
  have e : ((2 : Int) ^ k - 1) = ((2 ^ k - 1 : Nat) : Int) := by
    rw [Int.ofNat_sub hp]
    simp
  have e2 : ((2 : Int) ^ k) = ((2 ^ k : Nat) : Int) := by simp
  rw [e, e2, ← Int.natCast_emod]
  show IntKind.u64.wrap ((BitVec.ofInt 64 (m : Int) &&& BitVec.ofInt 64 ((2 ^ k - 1 : Nat) : Int)).toNat : Int) = _
  rw [BitVec.ofInt_natCast, BitVec.ofInt_natCast, BitVec.toNat_and, BitVec.toNat_ofNat, BitVec.toNat_ofNat, Nat.mod_eq_of_lt (by omega), Nat.mod_eq_of_lt (by omega), Nat.and_two_pow_sub_one_eq_mod, wrap_u64]
  have : m % 2 ^ k ≤ m := Nat.mod_le _ _
  omega

theorem c_Aligned (x y : Int) (k : Nat) (hy : y = (2 : Int) ^ k) (hk : k ≤ 63) (h0 : 0 ≤ x ∧ x ≤ 18446744073709551615)
    (kk : R (.returned (.bool (decide (x % y = 0)))) w) : Calls Try.prog 83 #[.int .u64 x, .int .u64 y] w R := by
  have h2 : (2 : Nat) ^ k ≤ 2 ^ 63 := Nat.pow_le_pow_right (by omega) hk
  have hp : 0 < (2 : Nat) ^ k := Nat.two_pow_pos k
  have e2 : ((2 : Int) ^ k) = ((2 ^ k : Nat) : Int) := by simp
  have hy1 : 1 ≤ y := by omega
  have hy2 : y ≤ 9223372036854775808 := by omega
  have hy3 : (y == 0) = false := by rw [beq_eq_false_iff_ne]; omega
  have ha := and_pow x k hk h0
  rw [← hy] at ha
  have K : (bits .and .u64 x (y - 1) == 0) = decide (x % y = 0) := by rw [ha]; rfl
  have HK := aside K
  clear ha hy e2 K
  go_enter Try.func83, Try.ntmps83
  go_wp2
  exact ret_b kk HK.out.symm
end
end Go.Proofs.Ytippipfogbgemaa
