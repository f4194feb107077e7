/-
  WHERE TWO MEMORIES DIFFER: what of it is said of two memories of one size (plain).
-/
import Derived.Test.YtiibiamobkhlbaaUWf
set_option linter.unusedVariables false
set_option linter.unusedSimpArgs false
namespace Go.Proofs.Ytiibiamobkhlbaa
open Go.RowKit

theorem RamG.high (d : RamG) (x : Int) (h : 2147483648 + d.size ≤ x) : d.mem x = 0 := by
  have hs := d.hsize
  obtain ⟨k, j, hj, e1, e2, e3⟩ := place_of (size := x - 2147483648 + 1) (a := x) (by omega) (by omega)
  rw [e3]
  exact d.hzero k (fun e he hk => by have := d.hin e he; omega) j hj

theorem RamG.rng {d o : RamG} (h : o.size = d.size) : ∀ x, d.mem x ≠ o.mem x → 2147483648 ≤ x ∧ x < 2147483648 + d.size := fun x hx => by
  constructor
  · refine Int.not_lt.1 fun hl => hx ?_
    rw [d.hlow x hl, o.hlow x hl]
  · refine Int.not_le.1 fun hl => hx ?_
    rw [d.high x hl, o.high x (by rw [h]; exact hl)]

theorem dfrom_nil {f g : Int → Int} {x : Int} {n : Nat} (h : ∀ y, x ≤ y → y < x + n → f y = g y) : dfrom f g x n = [] := by
  rw [List.eq_nil_iff_forall_not_mem]
  intro y hy
  have := mem_dfrom.1 hy
  exact this.2.2 (h y this.1 this.2.1)

theorem difR_same {d o : RamG} (most : Int) (h : d.eqv o) : difR d o most = [] := by
  unfold difR
  have hs := d.hsize
  rw [dfrom_nil (fun y h0 h1 => h y h0 (by omega))]
  rfl

theorem difL_grow {most : Int} : ∀ {ls : List Int} {out : List (Int × Int)}, out.length ≤ (difL most ls out).length
  | [], out => by simp [difL]
  | a :: ls, out => by
    cases he : extS out a with
    | none =>
      by_cases hm : most ≤ (out.length : Int)
      · rw [difL_stop he hm]; exact Nat.le_refl _
      · rw [difL_new he hm]
        have := difL_grow (most := most) (ls := ls) (out := out ++ [(a, 1)])
        simp at this; omega
    | some o =>
      rw [difL_ext he]
      have := difL_grow (most := most) (ls := ls) (out := o)
      rcases List.eq_nil_or_concat out with rfl | ⟨pre, ⟨p, q⟩, rfl⟩
      · rw [extS_nil] at he; cases he
      · rw [List.concat_eq_append, extS_snoc] at he
        split at he
        · obtain rfl := Option.some.inj he
          simp at this ⊢; omega
        · cases he

end Go.Proofs.Ytiibiamobkhlbaa
