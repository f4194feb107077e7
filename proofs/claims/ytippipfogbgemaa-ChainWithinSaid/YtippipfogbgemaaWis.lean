/-
  RAM: two hold the same just if no place is told where they differ (plain).
-/
import Derived.Test.YtippipfogbgemaaWd
import Derived.Test.YtippipfogbgemaaWi
namespace Go.Proofs.Ytippipfogbgemaa
open Go.RowKit

/-- two hold the same just if no place is told where they differ -/
theorem sameR_len {d o : RamG} (h : o.size = d.size) : sameR d o = decide ((difR d o 1).length = 0) := by
  rw [Bool.eq_iff_iff, sameR_iff, decide_eq_true_eq]
  constructor
  · rintro ⟨_, h2⟩
    rw [difR_same 1 h2]; rfl
  · intro h0
    refine ⟨h.symm, fun x hx0 hx1 => ?_⟩
    refine Classical.byContradiction fun hne => ?_
    have hs := d.hsize
    have hm : x ∈ dfrom d.mem o.mem 2147483648 d.size.toNat := mem_dfrom.2 ⟨hx0, by omega, hne⟩
    unfold difR at h0
    cases hl : dfrom d.mem o.mem 2147483648 d.size.toNat with
    | nil => rw [hl] at hm; cases hm
    | cons a ls =>
      rw [hl, difL_new (extS_nil _) (by simp)] at h0
      have := difL_grow (most := 1) (ls := ls) (out := [] ++ [(a, 1)])
      rw [List.nil_append] at h0 this
      rw [List.length_singleton] at this
      omega
end Go.Proofs.Ytippipfogbgemaa
