/-
  WHERE TWO MEMORIES DIFFER, piece by piece (plain): the pieces of a rising row of places.
-/
import Derived.Test.YtippipfogbgemaaVo
namespace Go.Proofs.Ytippipfogbgemaa
open Go.RowKit

/-- alike, byte by byte -/
def RamG.eqv (d o : RamG) : Prop := ∀ x : Int, 2147483648 ≤ x → x - 2147483648 < d.size → d.mem x = o.mem x


/-- a place more: it goes on from the last piece; none: it does not -/
def extS (out : List (Int × Int)) (a : Int) : Option (List (Int × Int)) :=
  match out.getLast? with
  | some s => if s.1 + s.2 = a then some (out.dropLast ++ [(s.1, s.2 + 1)]) else none
  | none => none

def difL (most : Int) : List Int → List (Int × Int) → List (Int × Int)
  | [], out => out
  | a :: ls, out => match extS out a with
    | some o => difL most ls o
    | none => if most ≤ (out.length : Int) then out else difL most ls (out ++ [(a, 1)])

theorem extS_nil (a : Int) : extS [] a = none := rfl
theorem extS_snoc (pre : List (Int × Int)) (p q a : Int) : extS (pre ++ [(p, q)]) a = if p + q = a then some (pre ++ [(p, q + 1)]) else none := by
  simp [extS]

theorem difL_ext {most : Int} {a : Int} {ls : List Int} {out o : List (Int × Int)} (h : extS out a = some o) : difL most (a :: ls) out = difL most ls o := by
  rw [difL, h]
theorem difL_stop {most : Int} {a : Int} {ls : List Int} {out : List (Int × Int)} (h : extS out a = none) (hm : most ≤ (out.length : Int)) : difL most (a :: ls) out = out := by
  rw [difL, h]; exact if_pos hm
theorem difL_new {most : Int} {a : Int} {ls : List Int} {out : List (Int × Int)} (h : extS out a = none) (hm : ¬ most ≤ (out.length : Int)) : difL most (a :: ls) out = difL most ls (out ++ [(a, 1)]) := by
  rw [difL, h]; exact if_neg hm

/-- the places from x on, n of them, where two differ -/
def dfrom (f g : Int → Int) : Int → Nat → List Int
  | _, 0 => []
  | x, n + 1 => if f x = g x then dfrom f g (x + 1) n else x :: dfrom f g (x + 1) n

theorem dfrom_same {f g : Int → Int} {x : Int} {n : Nat} (h : f x = g x) : dfrom f g x (n + 1) = dfrom f g (x + 1) n := by rw [dfrom, if_pos h]
theorem dfrom_other {f g : Int → Int} {x : Int} {n : Nat} (h : f x ≠ g x) : dfrom f g x (n + 1) = x :: dfrom f g (x + 1) n := by rw [dfrom, if_neg h]
theorem dfrom_skip {f g : Int → Int} : ∀ (k : Nat) (x : Int) (n : Nat), (∀ i : Nat, i < k → f (x + i) = g (x + i)) → dfrom f g x (k + n) = dfrom f g (x + k) n
  | 0, x, n, _ => by simp
  | k + 1, x, n, h => by
    have h0 := h 0 (by omega)
    simp only [Int.natCast_zero, Int.add_zero] at h0
    rw [show k + 1 + n = (k + n) + 1 by omega, dfrom_same h0, dfrom_skip k (x + 1) n (fun i hi => by
      have := h (i + 1) (by omega)
      rw [show x + ((i + 1 : Nat) : Int) = x + 1 + (i : Int) by omega] at this
      exact this), show x + 1 + (k : Int) = x + ((k + 1 : Nat) : Int) by omega]
theorem mem_dfrom {f g : Int → Int} : ∀ {n : Nat} {x y : Int}, y ∈ dfrom f g x n ↔ (x ≤ y ∧ y < x + n ∧ f y ≠ g y)
  | 0, x, y => by simp [dfrom]; omega
  | n + 1, x, y => by
    by_cases h : f x = g x
    · rw [dfrom_same h, mem_dfrom]
      constructor
      · rintro ⟨a, b, c⟩; exact ⟨by omega, by omega, c⟩
      · rintro ⟨a, b, c⟩
        have : y ≠ x := fun e => c (e ▸ h)
        exact ⟨by omega, by omega, c⟩
    · rw [dfrom_other h, List.mem_cons, mem_dfrom]
      constructor
      · rintro (rfl | ⟨a, b, c⟩)
        · exact ⟨by omega, by omega, h⟩
        · exact ⟨by omega, by omega, c⟩
      · rintro ⟨a, b, c⟩
        by_cases e : y = x
        · exact .inl e
        · exact .inr ⟨by omega, by omega, c⟩
theorem dfrom_sorted {f g : Int → Int} : ∀ (n : Nat) (x : Int), (dfrom f g x n).Pairwise (· < ·)
  | 0, x => by simp [dfrom]
  | n + 1, x => by
    by_cases h : f x = g x
    · rw [dfrom_same h]; exact dfrom_sorted n (x + 1)
    · rw [dfrom_other h]
      exact List.pairwise_cons.2 ⟨fun y hy => by have := (mem_dfrom.1 hy).1; omega, dfrom_sorted n (x + 1)⟩

/-- two rising rows of the same places are one -/
theorem sorted_unique : ∀ {l m : List Int}, l.Pairwise (· < ·) → m.Pairwise (· < ·) → (∀ x, x ∈ l ↔ x ∈ m) → l = m
  | [], [], _, _, _ => rfl
  | [], y :: m, _, _, h => by have := (h y).2 (by simp); simp at this
  | x :: l, [], _, _, h => by have := (h x).1 (by simp); simp at this
  | x :: l, y :: m, hl, hm, h => by
    obtain ⟨l1, l2⟩ := List.pairwise_cons.1 hl
    obtain ⟨m1, m2⟩ := List.pairwise_cons.1 hm
    have hxy : x = y := by
      rcases List.mem_cons.1 ((h x).1 (by simp)) with e | e
      · exact e
      · rcases List.mem_cons.1 ((h y).2 (by simp)) with e2 | e2
        · exact e2.symm
        · have := m1 x e; have := l1 y e2; omega
    subst hxy
    congr 1
    refine sorted_unique l2 m2 fun z => ?_
    have hz := h z
    simp only [List.mem_cons] at hz
    constructor
    · intro hm2
      rcases hz.1 (.inr hm2) with e | e
      · have := l1 z hm2; omega
      · exact e
    · intro hm2
      rcases hz.2 (.inr hm2) with e | e
      · have := m1 z hm2; omega
      · exact e

/-- what is said of each piece, when it is true of each new one and stays true ls one grows -/
theorem difL_all {most : Int} {P : Int × Int → Prop} : ∀ {ls : List Int} {out : List (Int × Int)}, (∀ s ∈ out, P s) → (∀ a ∈ ls, P (a, 1)) → (∀ a ∈ ls, ∀ p q, P (p, q) → p + q = a → P (p, q + 1)) → ∀ s ∈ difL most ls out, P s
  | [], out, h, _, _ => by simpa [difL] using h
  | a :: ls, out, h, h1, h2 => by
    have t1 : ∀ x ∈ ls, P (x, 1) := fun x hx => h1 x (List.mem_cons_of_mem _ hx)
    have t2 : ∀ x ∈ ls, ∀ p q, P (p, q) → p + q = x → P (p, q + 1) := fun x hx => h2 x (List.mem_cons_of_mem _ hx)
    cases he : extS out a with
    | none =>
      by_cases hm : most ≤ (out.length : Int)
      · rw [difL_stop he hm]; exact h
      · rw [difL_new he hm]
        refine difL_all (fun s hs => ?_) t1 t2
        rcases List.mem_append.1 hs with hs | hs
        · exact h s hs
        · simp at hs; subst hs; exact h1 a (by simp)
    | some o =>
      rw [difL_ext he]
      refine difL_all (fun s hs => ?_) t1 t2
      rcases List.eq_nil_or_concat out with rfl | ⟨pre, ⟨p, q⟩, rfl⟩
      · rw [extS_nil] at he; cases he
      · rw [List.concat_eq_append, extS_snoc] at he
        split at he
        · rename_i hpq
          obtain rfl := Option.some.inj he
          rcases List.mem_append.1 hs with hs | hs
          · exact h s (by rw [List.concat_eq_append]; exact List.mem_append_left _ hs)
          · simp at hs; subst hs
            exact h2 a (by simp) p q (h (p, q) (by simp)) hpq
        · cases he
theorem difL_none {most : Int} (out : List (Int × Int)) : difL most [] out = out := rfl

/-- the pieces lie within bounds -/
def spIn (lo hi : Int) (out : List (Int × Int)) : Prop := ∀ s ∈ out, lo ≤ s.1 ∧ 1 ≤ s.2 ∧ s.1 + s.2 ≤ hi
theorem spIn.snoc {lo hi a : Int} {out : List (Int × Int)} (h : spIn lo hi out) (h0 : lo ≤ a) (h1 : a < hi) : spIn lo hi (out ++ [(a, 1)]) := fun s hs => by
  rcases List.mem_append.1 hs with hs | hs
  · exact h s hs
  · simp at hs; subst hs; exact ⟨h0, by simp, by simp only; omega⟩
theorem spIn.ext {lo hi p q : Int} {pre : List (Int × Int)} (h : spIn lo hi (pre ++ [(p, q)])) (h1 : p + q < hi) : spIn lo hi (pre ++ [(p, q + 1)]) := fun s hs => by
  rcases List.mem_append.1 hs with hs | hs
  · exact h s (List.mem_append_left _ hs)
  · simp at hs; subst hs
    have := h (p, q) (by simp)
    exact ⟨this.1, by simp only at this ⊢; omega, by simp only; omega⟩
theorem difL_in {most lo hi : Int} {ls : List Int} {out : List (Int × Int)} (h : spIn lo hi out) (h1 : ∀ a ∈ ls, lo ≤ a ∧ a < hi) : spIn lo hi (difL most ls out) :=
  difL_all (P := fun s => lo ≤ s.1 ∧ 1 ≤ s.2 ∧ s.1 + s.2 ≤ hi) h (fun a ha => ⟨(h1 a ha).1, by simp, by simp only; have := (h1 a ha).2; omega⟩) fun a ha p q hp hpq => by
    have := h1 a ha
    simp only at hp ⊢
    omega
/-- each place of a piece is one where they differ -/
theorem difL_places {most : Int} {ls : List Int} : ∀ s ∈ difL most ls [], 1 ≤ s.2 ∧ ∀ x, s.1 ≤ x → x < s.1 + s.2 → x ∈ ls :=
  difL_all (P := fun s => 1 ≤ s.2 ∧ ∀ x, s.1 ≤ x → x < s.1 + s.2 → x ∈ ls) (by simp) (fun a ha => ⟨by simp, fun x h0 h1 => by simp only at h0 h1; obtain rfl : x = a := (by omega); exact ha⟩) fun a ha p q hp hpq => by
    refine ⟨by simp only at hp ⊢; omega, fun x h0 h1 => ?_⟩
    simp only at hp h0 h1
    by_cases hx : x = a
    · subst hx; exact ha
    · exact hp.2 x h0 (by omega)
theorem difL_len {most : Int} : ∀ {ls : List Int} {out : List (Int × Int)}, (difL most ls out).length ≤ out.length + ls.length
  | [], out => by simp [difL]
  | a :: ls, out => by
    cases he : extS out a with
    | none =>
      by_cases hm : most ≤ (out.length : Int)
      · rw [difL_stop he hm]; omega
      · rw [difL_new he hm]
        have := difL_len (most := most) (ls := ls) (out := out ++ [(a, 1)])
        simp at this ⊢; omega
    | some o =>
      rw [difL_ext he]
      have := difL_len (most := most) (ls := ls) (out := o)
      rcases List.eq_nil_or_concat out with rfl | ⟨pre, ⟨p, q⟩, rfl⟩
      · rw [extS_nil] at he; cases he
      · rw [List.concat_eq_append, extS_snoc] at he
        split at he
        · obtain rfl := Option.some.inj he
          simp at this ⊢; omega
        · cases he
end Go.Proofs.Ytippipfogbgemaa
