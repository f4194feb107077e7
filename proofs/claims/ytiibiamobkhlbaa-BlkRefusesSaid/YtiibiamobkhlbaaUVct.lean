/-
  DISK: whether two hold the same, as bytes in a row (plain).
-/
import Derived.Test.YtiibiamobkhlbaaUVcs
set_option linter.unusedVariables false
set_option linter.unusedSimpArgs false
namespace Go.Proofs.Ytiibiamobkhlbaa
open Go.RowKit

theorem rdB_eq {m m' : Int → Int} {N : Nat} (h : rdB m 0 N = rdB m' 0 N) (x : Int) (h0 : 0 ≤ x) (h1 : x < N) : m x = m' x := by
  have a := rdB_get m 0 N x.toNat (by omega)
  have b := rdB_get m' 0 N x.toNat (by omega)
  rw [h, b] at a
  have := Option.some.inj a
  rw [show (0 : Int) + (x.toNat : Int) = x by omega] at this
  exact this.symm

theorem alikeAt_sect {d o : DiskG} {e : Ent} (h : alikeAt d o e) (i : Nat) (hi : i < 512) : d.mem ((512 * e.key + i : Nat) : Int) = o.mem ((512 * e.key + i : Nat) : Int) := by
  unfold alikeAt at h
  have a := rdB_get d.mem ((512 * e.key : Nat) : Int) 512 i hi
  have b := rdB_get o.mem ((512 * e.key : Nat) : Int) 512 i hi
  rw [h, b] at a
  have := Option.some.inj a
  rw [show ((512 * e.key : Nat) : Int) + (i : Int) = ((512 * e.key + i : Nat) : Int) by omega] at this
  exact this.symm

theorem sameD_bytes {d o : DiskG} {C : Nat} (hd : (C : Int) = d.count) (ho : (C : Int) = o.count) : sameD d o = decide (rdB d.mem 0 (512 * C) = rdB o.mem 0 (512 * C)) := by
  unfold sameD
  rw [decide_eq_true (show d.count = o.count from hd.symm.trans ho), Bool.true_and]
  unfold underD
  rw [Bool.eq_iff_iff, Bool.and_eq_true, decide_eq_true_eq, decide_eq_true_eq, decide_eq_true_eq]
  constructor
  · rintro ⟨h1, h2⟩
    refine rdB_same 0 _ fun i hi => ?_
    rw [Int.zero_add]
    by_cases c1 : ∃ e ∈ d.ents, e.key = i / 512
    · obtain ⟨e, he, hk⟩ := c1
      have := alikeAt_sect (h1 e he) (i % 512) (Nat.mod_lt _ (by omega))
      rw [hk, Nat.div_add_mod] at this
      exact this
    · by_cases c2 : ∃ e ∈ o.ents, e.key = i / 512
      · obtain ⟨e, he, hk⟩ := c2
        have := alikeAt_sect (h2 e he) (i % 512) (Nat.mod_lt _ (by omega))
        rw [hk, Nat.div_add_mod] at this
        exact this.symm
      · have a := d.hzero (i / 512) (fun e he hk => c1 ⟨e, he, hk⟩) (i % 512) (Nat.mod_lt _ (by omega))
        have b := o.hzero (i / 512) (fun e he hk => c2 ⟨e, he, hk⟩) (i % 512) (Nat.mod_lt _ (by omega))
        rw [Nat.zero_add, Nat.div_add_mod] at a b
        rw [a, b]
  · intro h
    have one : ∀ (p q : DiskG), (C : Int) = p.count → rdB p.mem 0 (512 * C) = rdB q.mem 0 (512 * C) → ∀ e ∈ p.ents, alikeAt p q e := fun p q hp hh e he => by
      unfold alikeAt
      have hk := p.hin e he
      rw [← hp] at hk
      refine (rdB_same _ _ fun i hi => ?_).symm
      exact (rdB_eq hh _ (by omega) (by omega)).symm
    exact ⟨one d o hd h, one o d ho h.symm⟩
end Go.Proofs.Ytiibiamobkhlbaa
