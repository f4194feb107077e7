/-
  Two rows of spans that are alike (vireoref02.Same).
-/
import Derived.Test.YtiibiamobkhlbaaUVsp
set_option linter.unusedVariables false
set_option linter.unusedSimpArgs false
namespace Go.Proofs.Ytiibiamobkhlbaa
open Go.RowKit
set_option linter.unusedVariables false

section
variable {R : Ending → World → Prop} {W0 w : World} {H : Hp} {A F : List Hp}

set_option maxRecDepth 100000 in
set_option maxHeartbeats 4000000 in
/-- two rows of spans that are alike -/
theorem c_Same {h1 h2 : Hp} {a b : Value} {xs : List (Int × Int)} (H1 : Holds w h1) (H2 : Holds w h2) (r1 : Rd spanE 2 h1 a xs) (r2 : Rd spanE 2 h2 b xs)
    (k : ∀ n, R (.returned (.bool true)) (w.drewN n)) :
    Calls Try.prog 39 #[a, b] w R := by
  obtain ⟨A, c, rfl, r1⟩ := r1.open_
  obtain ⟨B, d, rfl, r2⟩ := r2.open_
  obtain ⟨_, hc, hc2, g1⟩ := r1.span
  obtain ⟨_, hd, hd2, g2⟩ := r2.span
  clear r1 r2
  go_enter Try.func39, Try.ntmps39
  go_wp2
  go_loopg [5] xs.length (fun m v w' => ∃ (i n : Nat), m + i = xs.length ∧ v = .int .i64 i ∧ w' = w.drewN n)
  case atStart => exact ⟨0, 0, by simp, rfl, rfl⟩
  case round =>
    obtain ⟨i, n, hm, rfl, rfl⟩ := hrel
    by_cases hi : i < xs.length
    · obtain ⟨ba, oa, rfl, hca, hca2⟩ := g1 i hi
      obtain ⟨bb, ob, rfl, hcb, hcb2⟩ := g2 i hi
      have ca := H1.cell hca
      have ca2 := H1.cell hca2
      have cb := H2.cell hcb
      have cb2 := H2.cell hcb2
      generalize xs[i].1 = x at ca cb
      generalize xs[i].2 = y at ca2 cb2
      clear hca hcb hca2 hcb2 g1 g2
      go_wp2
      go_quiet (fail)
      go_wp2
      go_roundg (gk - 1)
      case measure => omega
      case rel => exact ⟨i + 1, n + nq, by omega, by go_num, rfl⟩
    · go_wp2
      exact k _

end
end Go.Proofs.Ytiibiamobkhlbaa
