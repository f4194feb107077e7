/-
  CHAIN: what is asked, as an argument; what a walk finds lies in the memory.
-/
import Derived.Test.YtippipfogbgemaaVhl
import Derived.Test.YtippipfogbgemaaCe
namespace Go.Proofs.Ytippipfogbgemaa
open Go.RowKit
set_option linter.unusedVariables false

structure AskM where
  lay : LayM
  head : Int
  ind : Bool
  hhead : -9223372036854775808 ≤ head ∧ head ≤ 9223372036854775807
def AskM.vals (o : AskM) : List Value := o.lay.vals ++ [.int .i64 o.head] ++ [.bool o.ind]
def askE : El AskM := fun _ o vs => vs = o.vals
theorem opn_ask : Opn Try.prog 48 askE :=
  opn_struct Try.underlying48 fun H enc w fuel cs hlen hf => by
    obtain ⟨y0, h0⟩ := hf 0 _ rfl
    obtain ⟨y1, h1⟩ := hf 1 _ rfl
    obtain ⟨y2, h2⟩ := hf 2 _ rfl
    obtain ⟨x0, g0⟩ := opn_lay H enc w fuel _ y0.1 y0.2 h0
    obtain ⟨x1, g1, b1⟩ := opn_i64 Try.underlying3 H enc w fuel _ y1.1 y1.2 h1
    obtain ⟨x2, g2⟩ := opn_bool Try.underlying4 H enc w fuel _ y2.1 y2.2 h2
    have e : Try.prog.cellsOf 48 = 6 := by kernel_rfl
    have e0 : Try.prog.cellsOf 46 = 4 := by kernel_rfl
    have e1 : Try.prog.cellsOf 3 = 1 := by kernel_rfl
    have e2 : Try.prog.cellsOf 4 = 1 := by kernel_rfl
    rw [e] at hlen
    rw [e0] at g0
    replace g0 := (show _ = x0.vals from g0)
    rw [e1] at g1
    rw [e2] at g2
    obtain ⟨c0, c1, c2, c3, c4, c5, rfl⟩ := len6 hlen
    replace g0 : [c0, c1, c2, c3] = x0.vals := g0
    obtain rfl : c4 = .int .i64 x1 := (List.cons.inj g1).1
    obtain rfl : c5 = .bool x2 := (List.cons.inj g2).1
    exact ⟨⟨x0, x1, x2, b1⟩, by show _ = (x0.vals ++ [.int .i64 x1] ++ [.bool x2]); rw [← g0]; rfl⟩

theorem alongP_lies {m : Int → Int} {size t sz : Int} {Q : SegM → Prop} (hQ : ∀ a f, hasP size (w1 m a) (w2 m a) → Q (w1 m a, w2 m a, f)) : ∀ {n : Nat} {i : Int} {segs : List SegM} {e a : Int} {out : List SegM}, alongP m size t sz n i segs = (e, a, out) →
    (∀ x ∈ segs, Q x) → ∀ x ∈ out, Q x
  | 0, i, segs, e, a, out, h, hs => by
    simp only [alongP] at h
    split at h <;> (cases h; exact hs)
  | n + 1, i, segs, e, a, out, h, hs => by
    have hs2 : hasP size (w1 m (atD t i)) (w2 m (atD t i)) → ∀ x ∈ segs ++ [(w1 m (atD t i), w2 m (atD t i), flg (w3 m (atD t i)) 2)], Q x := by
      intro h0 x hx
      rcases List.mem_append.1 hx with h | h
      · exact hs x h
      · rw [List.mem_singleton.1 h]; exact hQ _ _ h0
    rw [alongP] at h
    repeat' split at h
    all_goals first | (cases h; first | exact hs | exact hs2 (by simp_all)) | exact alongP_lies hQ h (hs2 (by simp_all))

/-- what is to be read stands ahead of what is to be written -/
def ordP (l : List SegM) : Prop := ∀ i x y, l[i]? = some x → l[i + 1]? = some y → ¬ (x.2.2 = true ∧ y.2.2 = false)
theorem ordP_snoc {l : List SegM} {x : SegM} (h : ordP l) (hx : ¬ (lastW l = true ∧ x.2.2 = false)) : ordP (l ++ [x]) := by
  intro i y z hy hz
  rcases Nat.lt_or_ge (i + 1) l.length with h1 | h1
  · rw [List.getElem?_append_left (by omega)] at hy
    rw [List.getElem?_append_left h1] at hz
    exact h i y z hy hz
  · have hlt := (List.getElem?_eq_some_iff.1 hz).1
    simp only [List.length_append, List.length_cons, List.length_nil] at hlt
    have e : i + 1 = l.length := by omega
    rw [List.getElem?_append_left (by omega)] at hy
    rw [e, List.getElem?_append_right (Nat.le_refl _), Nat.sub_self] at hz
    obtain rfl : x = z := by simpa using hz
    have : lastW l = y.2.2 := by
      unfold lastW
      rw [List.getLast?_eq_getElem?, show l.length - 1 = i by omega, hy]
      rfl
    rw [this] at hx
    exact hx
theorem alongP_ord {m : Int → Int} {size t sz : Int} : ∀ {n : Nat} {i : Int} {segs : List SegM} {e a : Int} {out : List SegM}, alongP m size t sz n i segs = (e, a, out) → ordP segs → ordP out
  | 0, i, segs, e, a, out, h, hs => by
    simp only [alongP] at h
    split at h <;> (cases h; exact hs)
  | n + 1, i, segs, e, a, out, h, hs => by
    have hs2 : ¬ (lastW segs = true ∧ flg (w3 m (atD t i)) 2 = false) → ordP (segs ++ [(w1 m (atD t i), w2 m (atD t i), flg (w3 m (atD t i)) 2)]) := fun h0 => ordP_snoc hs h0
    rw [alongP] at h
    repeat' split at h
    all_goals first | (cases h; first | exact hs | exact hs2 (by assumption)) | exact alongP_ord h (hs2 (by assumption))

theorem alongP_len4 {m : Int → Int} {size t sz : Int} : ∀ {n : Nat} {i : Int} {segs : List SegM} {e a : Int} {out : List SegM}, alongP m size t sz n i segs = (e, a, out) → e = 0 → flg (w3 m a) 4 = true → out.length + 1 ≤ segs.length + n
  | 0, i, segs, e, a, out, h, he, h4 => by
    simp only [alongP] at h
    split at h <;> (cases h; exact absurd he (by decide))
  | n + 1, i, segs, e, a, out, h, he, h4 => by
    rw [alongP] at h
    repeat' split at h
    all_goals first
      | (have := alongP_len4 h he h4; simp only [List.length_append, List.length_cons, List.length_nil] at this; omega)
      | (cases h; first | exact absurd he (by decide) | omega | simp_all)

theorem walkP_lies {m : Int → Int} {size d head : Int} {n : Nat} {ind : Bool} {e ta tl : Int} {segs : List SegM} (hm : ∀ a, 0 ≤ m a ∧ m a ≤ 255) (h : walkP m size d n head ind = (e, segs, ta, tl)) (hn : n ≤ 256) :
    (∀ x ∈ segs, hasP size x.1 x.2.1 ∧ 0 ≤ x.2.1) ∧ ordP segs ∧ segs.length ≤ 511 ∧ (e ≠ 0 → segs = [] ∧ ta = 0 ∧ tl = 0) ∧ (tl = 0 ∨ ind = true ∧ hasP size ta tl ∧ 0 ≤ tl ∧ tl % 16 = 0) := by
  have hw2 : ∀ a, 0 ≤ w2 m a := fun a => (ofB_bdn hm (a + 8) 4).1
  have hQ : ∀ a (f : Bool), hasP size (w1 m a) (w2 m a) → (fun x : SegM => hasP size x.1 x.2.1 ∧ 0 ≤ x.2.1) (w1 m a, w2 m a, f) := fun a f h => ⟨h, hw2 a⟩
  have h0 : ordP [] := fun i x y hx => by simp at hx
  unfold walkP at h
  rcases hE : alongP m size d n n head [] with ⟨e1, a1, s1⟩
  simp only [hE] at h
  have l1 := alongP_lies (Q := fun x => hasP size x.1 x.2.1 ∧ 0 ≤ x.2.1) hQ hE (by simp)
  have o1 := alongP_ord hE h0
  have n1 := alongP_len hE
  simp only [List.length_nil] at n1
  have hz : ∀ x ∈ ([] : List SegM), hasP size x.1 x.2.1 ∧ 0 ≤ x.2.1 := by simp
  split at h
  · obtain ⟨rfl, rfl, rfl, rfl⟩ : e1 = e ∧ [] = segs ∧ 0 = ta ∧ 0 = tl := by simpa using h
    exact ⟨hz, h0, by simp, fun _ => ⟨rfl, rfl, rfl⟩, .inl rfl⟩
  rename_i he0
  replace he0 := Classical.not_not.1 he0
  split at h
  · obtain ⟨rfl, rfl, rfl, rfl⟩ : 0 = e ∧ s1 = segs ∧ 0 = ta ∧ 0 = tl := by simpa using h
    exact ⟨l1, o1, by omega, fun h => absurd rfl h, .inl rfl⟩
  split at h
  · obtain ⟨rfl, rfl, rfl, rfl⟩ : 153 = e ∧ [] = segs ∧ 0 = ta ∧ 0 = tl := by simpa using h
    exact ⟨hz, h0, by simp, fun _ => ⟨rfl, rfl, rfl⟩, .inl rfl⟩
  rename_i h4 hc
  split at h
  · obtain ⟨rfl, rfl, rfl, rfl⟩ : 154 = e ∧ [] = segs ∧ 0 = ta ∧ 0 = tl := by simpa using h
    exact ⟨hz, h0, by simp, fun _ => ⟨rfl, rfl, rfl⟩, .inl rfl⟩
  rename_i hb
  split at h
  · obtain ⟨rfl, rfl, rfl, rfl⟩ : 21 = e ∧ [] = segs ∧ 0 = ta ∧ 0 = tl := by simpa using h
    exact ⟨hz, h0, by simp, fun _ => ⟨rfl, rfl, rfl⟩, .inl rfl⟩
  rename_i hh
  rcases hE2 : alongP m size (w1 m a1) (w2 m a1 / 16) (w2 m a1 / 16).toNat 0 s1 with ⟨e2, a2, s2⟩
  simp only [hE2] at h
  have l2 := alongP_lies (Q := fun x => hasP size x.1 x.2.1 ∧ 0 ≤ x.2.1) hQ hE2 l1
  have o2 := alongP_ord hE2 o1
  have n2 := alongP_len hE2
  split at h
  · rename_i h7
    obtain ⟨rfl, rfl, rfl, rfl⟩ : outE false e2 (flg (w3 m a2) 4) = e ∧ [] = segs ∧ 0 = ta ∧ 0 = tl := by simpa using h
    exact ⟨hz, h0, by simp, fun _ => ⟨rfl, rfl, rfl⟩, .inl rfl⟩
  · obtain ⟨rfl, rfl, rfl, rfl⟩ : 0 = e ∧ s2 = segs ∧ w1 m a1 = ta ∧ w2 m a1 = tl := by simpa using h
    refine ⟨l2, o2, ?_, fun h => absurd rfl h, .inr ⟨?_, Classical.not_not.1 hh, hw2 a1, ?_⟩⟩
    · have := alongP_len4 hE he0 (by simpa using h4)
      simp only [List.length_nil] at this
      unfold badT at hb; omega
    · cases ind
      · exact absurd (.inl rfl) hc
      · rfl
    · unfold badT at hb; omega
end Go.Proofs.Ytippipfogbgemaa
