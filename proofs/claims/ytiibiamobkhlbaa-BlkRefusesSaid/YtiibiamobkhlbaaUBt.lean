/-
  BLK, plain: where a request's end stands; what leaves the sectors.
-/
import Derived.Test.YtiibiamobkhlbaaG5
set_option linter.unusedVariables false
set_option linter.unusedSimpArgs false
namespace Go.Proofs.Ytiibiamobkhlbaa
open Go.RowKit
set_option linter.unusedVariables false
set_option linter.unusedSimpArgs false

theorem wsum_zero : ∀ {l : List SegM}, (∀ y ∈ l, y.2.2 = true → y.2.1 = 0) → wsum l = 0
  | [], _ => rfl
  | y :: l, h => by
    rw [wsum, wsum_zero (l := l) (fun z hz => h z (List.mem_cons_of_mem _ hz))]
    by_cases hy : y.2.2 = true
    · rw [if_pos hy, h y (List.mem_cons_self ..) hy]; rfl
    · rw [if_neg hy]; rfl
theorem ordP_up {l : List SegM} (h : ordP l) : ∀ (k i : Nat) (x y : SegM), l[i]? = some x → l[i + k]? = some y → x.2.2 = true → y.2.2 = true
  | 0, i, x, y, hx, hy, hw => by
    rw [Nat.add_zero, hx] at hy
    rw [← Option.some.inj hy]; exact hw
  | k + 1, i, x, y, hx, hy, hw => by
    have hlt := (List.getElem?_eq_some_iff.1 hy).1
    have hz : l[i + 1]? = some (l[i + 1]'(by omega)) := List.getElem?_eq_getElem (by omega)
    have h1 := h i x _ hx hz
    cases hzw : (l[i + 1]'(by omega)).2.2 with
    | false => exact absurd ⟨hw, hzw⟩ h1
    | true => exact ordP_up h k (i + 1) _ y hz (by rw [show i + 1 + k = i + (k + 1) by omega]; exact hy) hzw
/-- the last segment that has bytes is one to be written, if any has -/
theorem last_write {l : List SegM} (ho : ordP l) (hw : 1 ≤ wsum l) {j : Nat} {x : SegM} (hx : l[j]? = some x) (hz : ∀ j' y, j < j' → l[j']? = some y → y.2.1 = 0) : x.2.2 = true := by
  cases hxw : x.2.2 with
  | true => rfl
  | false =>
    exfalso
    have := wsum_zero (l := l) (fun y hy hyw => by
      obtain ⟨i, hi⟩ := List.getElem?_of_mem hy
      by_cases hij : i ≤ j
      · have := ordP_up ho (j - i) i y x hi (by rw [show i + (j - i) = j by omega]; exact hx) hyw
        rw [hxw] at this; cases this
      · exact hz i y (by omega) hi)
    omega
theorem scP_none {frm n : Int} {l : List SegM} {beg : Int} {ds : List Int} {m : Int → Int} (h0 : ∀ x ∈ l, x.2.1 = 0) (hf : 0 ≤ frm) (hn : 0 ≤ n) (y : Int) : scP frm n l beg ds m y = m y := by
  by_cases h : scP frm n l beg ds m y = m y
  · exact h
  · exfalso
    obtain ⟨x, hx, _, h1, h2⟩ := scP_in (fun x hx => by rw [h0 x hx]; exact Int.le_refl 0) hf hn h
    rw [h0 x hx] at h2
    omega
theorem scP_last {ST : Int} : ∀ {l : List SegM} {beg : Int} {m : Int → Int} {j : Nat} {x : SegM}, (∀ y ∈ l, 0 ≤ y.2.1) → 0 ≤ beg → l[j]? = some x → 1 ≤ x.2.1 → x.2.2 = true → (∀ j' y, j < j' → l[j']? = some y → y.2.1 = 0) →
    scP (beg + wsum l - 1) 1 l beg [ST] m (x.1 + x.2.1 - 1) = ST
  | [], beg, m, j, x, h0, hb, hx, hl, hw, hz => by simp at hx
  | y :: l, beg, m, 0, x, h0, hb, hx, hl, hw, hz => by
    obtain rfl : y = x := by simpa using hx
    have hzl : ∀ z ∈ l, z.2.1 = 0 := fun z hz' => by
      obtain ⟨i, hi⟩ := List.getElem?_of_mem hz'
      exact hz (i + 1) z (by omega) (by simpa using hi)
    have e : wsum (y :: l) = y.2.1 := by rw [wsum, if_pos hw, wsum_zero (fun z hz' _ => hzl z hz')]; omega
    rw [scP, if_pos hw, scP_none hzl (by rw [e]; omega) (by omega), e]
    have ep : pieceP y beg (beg + y.2.1 - 1) 1 = (y.1 + y.2.1 - 1, 1) := by
      unfold pieceP
      rw [if_neg (by omega)]
      have e1 : max (beg + y.2.1 - 1) beg = beg + y.2.1 - 1 := by omega
      have e2 : min (beg + y.2.1 - 1 + 1) (beg + y.2.1) = beg + y.2.1 := by omega
      rw [e1, e2]
      congr 1 <;> omega
    rw [ep]
    simp only
    unfold putB
    rw [if_pos (by omega), show (y.1 + y.2.1 - 1 - (y.1 + y.2.1 - 1)).toNat = 0 by omega]
    rfl
  | y :: l, beg, m, j + 1, x, h0, hb, hx, hl, hw, hz => by
    have hx' : l[j]? = some x := by simpa using hx
    have h0' : ∀ z ∈ l, 0 ≤ z.2.1 := fun z hz' => h0 z (List.mem_cons_of_mem _ hz')
    have hz' : ∀ j' z, j < j' → l[j']? = some z → z.2.1 = 0 := fun j' z hj hzz => hz (j' + 1) z (by omega) (by simpa using hzz)
    have hws : 1 ≤ wsum l := by
      have hm := List.mem_of_getElem? hx'
      obtain ⟨a, b, rfl⟩ := List.append_of_mem hm
      have hn : ∀ {c : List SegM}, (∀ z ∈ c, 0 ≤ z.2.1) → 0 ≤ wsum c := by
        intro c
        induction c with
        | nil => intro _; exact Int.le_refl 0
        | cons z c ih =>
          intro hc
          have h1 := ih (fun u hu => hc u (List.mem_cons_of_mem _ hu))
          have h2 := hc z (List.mem_cons_self ..)
          rw [wsum]; split <;> omega
      have ha := hn (c := a) (fun z hz => h0' z (List.mem_append_left _ hz))
      have hb := hn (c := b) (fun z hz => h0' z (List.mem_append_right _ (List.mem_cons_of_mem _ hz)))
      rw [wsum_app, wsum, if_pos hw]; omega
    have hy0 := h0 y (List.mem_cons_self ..)
    by_cases hy : y.2.2 = true
    · rw [scP, if_pos hy]
      have e : wsum (y :: l) = y.2.1 + wsum l := by rw [wsum, if_pos hy]
      rw [e]
      have ep : pieceP y beg (beg + (y.2.1 + wsum l) - 1) 1 = (0, 0) := by
        unfold pieceP
        rw [if_pos (by omega)]
      rw [ep]
      simp only [Int.toNat_zero, List.drop_zero, List.take_zero]
      rw [putB_nil, show beg + (y.2.1 + wsum l) - 1 = beg + y.2.1 + wsum l - 1 by omega]
      exact scP_last h0' (by omega) hx' hl hw hz'
    · rw [scP, if_neg hy]
      have e : wsum (y :: l) = wsum l := by rw [wsum, if_neg hy]; omega
      rw [e]
      exact scP_last h0' hb hx' hl hw hz'

theorem logP_nil (o : Option DoneM) : logP [] o = match o with | none => [] | some x => [x] := by cases o <;> rfl
/-- what a chain's use comes to -/
theorem useP_cases (segs : List SegM) (m : Int → Int) (k : DkP) (bs : List Int) :
    ((useP segs m k bs).ct = 0 ∧ (useP segs m k bs).log = none ∧ (useP segs m k bs).dk = k ∧ (useP segs m k bs).mem = m) ∨
    (16 ≤ rsum segs ∧ 1 ≤ wsum segs ∧ ∃ KD SC ST CT m1, 1 ≤ CT ∧ CT ≤ 33554433 ∧ 0 ≤ ST ∧ ST ≤ 2 ∧ (useP segs m k bs).ct = CT ∧ (useP segs m k bs).log = some (KD, SC, ST, CT) ∧ (useP segs m k bs).mem = scP (wsum segs - 1) 1 segs 0 [ST] m1 ∧
      (useP segs m k bs).dk.count = k.count ∧ (ST = 0 ∧ KD = 1 ∨ (useP segs m k bs).dk.mem = k.mem)) := by
  by_cases hf : rsum segs < 16 ∨ wsum segs < 1
  · exact .inl (by rw [useP_few hf]; exact ⟨rfl, rfl, rfl, rfl⟩)
  · refine .inr ⟨by omega, by omega, ?_⟩
    unfold useP
    rw [if_neg hf]
    have hb := reqP_bd segs m k bs (ofB ((gaP 0 16 segs 0 m).take 4)) (ofB (((gaP 0 16 segs 0 m).take 16).drop 8)) (rsum segs - 16) (wsum segs - 1)
    refine ⟨_, _, _, _, _, ?_, ?_, hb.1, hb.2.1, rfl, rfl, rfl, ?_, ?_⟩
    · dsimp only; omega
    · dsimp only; omega
    · unfold reqP
      repeat' split
      all_goals rfl
    · generalize (ofB ((gaP 0 16 segs 0 m).take 4)) = KD
      unfold reqP
      by_cases h1 : KD = 1
      · subst h1
        rw [if_neg (by decide), if_pos rfl]
        repeat' split
        all_goals first | exact .inl ⟨rfl, rfl⟩ | exact .inr rfl
      · right
        rw [if_neg h1]
        repeat' split
        all_goals rfl
end Go.Proofs.Ytiibiamobkhlbaa
