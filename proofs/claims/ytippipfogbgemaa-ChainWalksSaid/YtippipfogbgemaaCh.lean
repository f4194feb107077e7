/-
  CHAIN, the document's: a flag of a descriptor.
-/
import Derived.Test.YtippipfogbgemaaCd
namespace Go.Proofs.Ytippipfogbgemaa
open Go.RowKit
set_option linter.unusedVariables false
set_option linter.unusedSimpArgs false

section
variable {R : Ending → World → Prop} {W0 w : World} {H : Hp} {A F : List Hp}

set_option maxRecDepth 100000 in
set_option maxHeartbeats 4000000 in
theorem c_flag (s : Sat W0 w H A) (x1 x2 x3 x4 n : Int) (h3 : 0 ≤ x3 ∧ x3 ≤ 65535) (hn : n = 1 ∨ n = 2 ∨ n = 4) (k : ∀ w', Sat W0 w' H A → R (.returned (.bool (flg x3 n))) w') :
    Calls Try.prog 77 #[.agg #[.int .u64 x1, .int .u32 x2, .int .u16 x3, .int .u16 x4], .int .u16 n] w R := by
  have s1 := s.alloc (c := [.int .u64 x1, .int .u32 x2, .int .u16 x3, .int .u16 x4]) (t := 169)
  obtain ⟨Z, hZ⟩ : ∃ Z, w.heap.size = Z := ⟨_, rfl⟩
  rw [hZ] at s1
  have z2 := s1.cel Z 0 2 rfl
  simp only [Nat.zero_add] at z2
  clear s
  obtain ⟨q, hq⟩ : ∃ q : Int, x3 / n = q := ⟨_, rfl⟩
  have hqb : 0 ≤ q ∧ q ≤ 65535 := by rcases hn with rfl | rfl | rfl <;> omega
  have t1 : x3.tdiv n = q := by rw [Int.tdiv_eq_ediv_of_nonneg h3.1]; exact hq
  have t2 : q.tmod 2 = q % 2 := Int.tmod_eq_emod_of_nonneg hqb.1
  have t3 : IntKind.u16.wrap q = q := by rw [wrap_u16]; omega
  have n0 : ¬ n = 0 := by omega
  have nb : (n == 0) = false := by simp [n0]
  have K : ∀ w', Sat W0 w' H A → R (.returned (.bool (q % 2 == 1))) w' := by
    intro w' s'
    have := k w' s'
    unfold flg at this
    rwa [hq] at this
  replace K := aside K
  clear k hq hn
  go_enter Try.func77, Try.ntmps77
  go_wp2
  exact K.out _ s1.tail1
end
end Go.Proofs.Ytippipfogbgemaa
