/-
  RAM: whether two hold the same, as bytes (plain).
-/
import Derived.Test.YtippipfogbgemaaWc
import Derived.Test.YtippipfogbgemaaWe
namespace Go.Proofs.Ytippipfogbgemaa
open Go.RowKit

theorem alikeR_page {d o : RamG} {e : Ent} (h : alikeR d o e) (i : Nat) (hi : i < 4096) : d.mem ((2147483648 + 4096 * e.key + i : Nat) : Int) = o.mem ((2147483648 + 4096 * e.key + i : Nat) : Int) := by
  unfold alikeR at h
  have a := rdB_get d.mem ((2147483648 + 4096 * e.key : Nat) : Int) 4096 i hi
  have b := rdB_get o.mem ((2147483648 + 4096 * e.key : Nat) : Int) 4096 i hi
  rw [h, b] at a
  have := Option.some.inj a
  rw [show ((2147483648 + 4096 * e.key : Nat) : Int) + (i : Int) = ((2147483648 + 4096 * e.key + i : Nat) : Int) by omega] at this
  exact this.symm

theorem sameR_iff {d o : RamG} : sameR d o = true ↔ (d.size = o.size ∧ d.eqv o) := by
  unfold sameR underR
  rw [Bool.and_eq_true, Bool.and_eq_true, decide_eq_true_eq, decide_eq_true_eq, decide_eq_true_eq]
  refine and_congr_right fun hs => ?_
  constructor
  · rintro ⟨h1, h2⟩ x hx0 hx1
    obtain ⟨k, j, hj, _, _, rfl⟩ := place_of hx0 hx1
    by_cases c1 : ∃ e ∈ d.ents, e.key = k
    · obtain ⟨e, he, rfl⟩ := c1
      exact alikeR_page (h1 e he) j hj
    · by_cases c2 : ∃ e ∈ o.ents, e.key = k
      · obtain ⟨e, he, rfl⟩ := c2
        exact (alikeR_page (h2 e he) j hj).symm
      · rw [d.hzero k (fun e he hk => c1 ⟨e, he, hk⟩) j hj, o.hzero k (fun e he hk => c2 ⟨e, he, hk⟩) j hj]
  · intro h
    have one : ∀ (p q : RamG), p.eqv q → ∀ e ∈ p.ents, alikeR p q e := fun p q hh e he => by
      unfold alikeR
      have hk := p.hin e he
      have hz := p.hsize
      refine rdB_same _ _ fun i hi => ?_
      exact hh (((2147483648 + 4096 * e.key : Nat) : Int) + (i : Int)) (by omega) (by omega)
    exact ⟨one d o h, one o d fun x h0 h1 => (h x h0 (by omega)).symm⟩
end Go.Proofs.Ytippipfogbgemaa
