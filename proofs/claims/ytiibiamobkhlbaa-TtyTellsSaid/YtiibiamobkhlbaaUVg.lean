/-
  The document's row of bytes (vireoref14): as a value; Put, Peek, Take.
-/
import Derived.Test.YtiibiamobkhlbaaUVft
import Derived.Test.YtiibiamobkhlbaaG1
set_option linter.unusedVariables false
set_option linter.unusedSimpArgs false
namespace Go.Proofs.Ytiibiamobkhlbaa
open Go.RowKit
set_option linter.unusedVariables false

theorem Sat.frozenG {W0 w : World} {H h : Hp} {A : List Hp} (s : Sat W0 w H (h :: A)) : ∀ l c, h l = some c → un H h l = some c := by
  intro l c e
  rcases (s.each h (List.mem_cons_self ..)).2 l with h1 | h1
  · rw [e] at h1; cases h1
  · simp [un, h1, e]
theorem un_leftG {H h : Hp} : ∀ l c, H l = some c → un H h l = some c := by intro l c e; simp [un, e]

def RefF (H : Hp) (v : Value) (xs : List Int) (room : Nat) (lost taken : Int) : Prop :=
  ∃ sl, v = .agg #[sl, .int .i64 room, .int .u64 lost, .int .u64 taken] ∧ Rd u8E 1 H sl xs
theorem RefF.mono {H H' : Hp} {v : Value} {xs : List Int} {room : Nat} {lost taken : Int} (r : RefF H v xs room lost taken) (le : ∀ l c, H l = some c → H' l = some c) : RefF H' v xs room lost taken := by
  obtain ⟨sl, h1, h2⟩ := r
  exact ⟨sl, h1, h2.mono u8E_mono le⟩
theorem RefF.open_ {H : Hp} {v : Value} {xs : List Int} {room : Nat} {lost taken : Int} (r : RefF H v xs room lost taken) : ∃ B c, v = .agg #[.slice B xs.length c, .int .i64 room, .int .u64 lost, .int .u64 taken] ∧ Rd u8E 1 H (.slice B xs.length c) xs := by
  obtain ⟨sl, rfl, h2⟩ := r
  obtain ⟨B, c, rfl, h3⟩ := h2.open_
  exact ⟨B, c, rfl, h3⟩

theorem Rd.drop8 {H : Hp} {A : Option Addr} {n c : Nat} {xs : List Int} (r : Rd u8E 1 H (.slice A n c) xs) (m : Nat) (hm : m ≤ n) : Rd u8E 1 H (.slice (if c = m then A else A.map (·.add m)) (n - m) (c - m)) (xs.drop m) := by
  obtain ⟨rfl, hc, hc2, g⟩ := r.u8
  refine ⟨_, _, by rw [List.length_drop], by rw [List.length_drop]; omega, by omega, fun i x hx => ?_⟩
  rw [List.getElem?_drop] at hx
  have hlt : m + i < xs.length := by
    rcases Nat.lt_or_ge (m + i) xs.length with h0 | h0
    · exact h0
    · rw [List.getElem?_eq_none h0] at hx; cases hx
  obtain ⟨b, o, rfl, hcell, h0, h1⟩ := g (m + i) hlt
  rw [List.getElem?_eq_getElem hlt] at hx
  obtain rfl := Option.some.inj hx
  refine ⟨b, o + m, [.int .u8 xs[m + i]], ?_, ⟨rfl, h0, h1⟩, rfl, fun j u hu => ?_⟩
  · rw [if_neg (by omega)]
    show some _ = some _
    unfold Addr.add
    by_cases hz : m = 0
    · simp [hz]
    · simp [hz]
  · cases j with
    | succ j => simp at hu
    | zero =>
      simp at hu
      subst hu
      have e : o + m + i * 1 + 0 = o + (m + i) := by omega
      rw [e]; exact hcell

theorem OwnS.rdU {v : Value} {n : Nat} {xs : List Int} {H h : Hp} (own : OwnS 1 v n (xs.map (Value.int .u8)) h) (hx : ∀ x ∈ xs, 0 ≤ x ∧ x ≤ 255) (le : ∀ l c, h l = some c → H l = some c) : Rd u8E 1 H v xs := (own.rd hx).mono u8E_mono le

section
variable {R : Ending → World → Prop} {W0 w : World} {H : Hp} {A F : List Hp} {v : Value} {xs : List Int} {room : Nat} {lost taken : Int}

end
end Go.Proofs.Ytiibiamobkhlbaa
