/-
  QUEUE, plain: what a fill, a return, an ask changes.
-/
import Derived.Test.YtiibiamobkhlbaaUQj
import Derived.Test.YtiibiamobkhlbaaG1
import Derived.Test.YtiibiamobkhlbaaG3
set_option linter.unusedVariables false
set_option linter.unusedSimpArgs false
namespace Go.Proofs.Ytiibiamobkhlbaa
open Go.RowKit
set_option linter.unusedVariables false
set_option linter.unusedSimpArgs false

theorem wsum_nn : ∀ {l : List SegM}, (∀ x ∈ l, 0 ≤ x.2.1) → 0 ≤ wsum l
  | [], _ => Int.le_refl 0
  | x :: l, h => by
    have h1 := wsum_nn (l := l) (fun y hy => h y (List.mem_cons_of_mem _ hy))
    have h2 := h x (List.mem_cons_self ..)
    show 0 ≤ (if x.2.2 = true then x.2.1 else 0) + wsum l
    split <;> omega
theorem fillM_in {bt : Int} {segs : List SegM} {m : Int → Int} {y : Int} (h0 : ∀ x ∈ segs, 0 ≤ x.2.1) (h : fillM bt segs m y ≠ m y) : ∃ x ∈ segs, x.2.2 = true ∧ x.1 ≤ y ∧ y < x.1 + x.2.1 := by
  unfold fillM at h
  by_cases hb : 4000 < wsum segs
  · rw [if_pos hb] at h; exact absurd rfl h
  · rw [if_neg hb] at h
    exact scP_in h0 (Int.le_refl 0) (wsum_nn h0) h
theorem retM_in {q : QuM} {m : Int → Int} {hd ct y : Int} (hn : 1 ≤ q.n) (h : retM q m hd ct y ≠ m y) : inUsed q y 1 := by
  unfold inUsed
  have h1 := Int.emod_nonneg q.us (show q.n ≠ 0 by omega)
  have h2 := Int.emod_lt_of_pos q.us (show 0 < q.n by omega)
  by_cases hc : q.u ≤ y ∧ y + 1 ≤ q.u + (8 * q.n + 6)
  · exact hc
  · exfalso
    apply h
    unfold retM
    rw [putB_out _ _ _ _ (by rw [leb_len]; omega), putB_out _ _ _ _ (by rw [List.length_append, leb_len, leb_len]; omega)]
theorem askM_in {q : QuM} {m : Int → Int} {y : Int} (hn : 1 ≤ q.n) (h : askM q m y ≠ m y) : inUsed q y 1 := by
  unfold inUsed
  by_cases hc : q.u ≤ y ∧ y + 1 ≤ q.u + (8 * q.n + 6)
  · exact hc
  · exfalso
    apply h
    unfold askM
    split
    · rw [putB_out _ _ _ _ (by rw [leb_len]; omega)]
    · rfl
theorem scP_bd {frm n : Int} : ∀ {l : List SegM} {beg : Int} {ds : List Int} {m : Int → Int}, (∀ a, 0 ≤ m a ∧ m a ≤ 255) → (∀ x ∈ ds, 0 ≤ x ∧ x ≤ 255) → ∀ a, 0 ≤ scP frm n l beg ds m a ∧ scP frm n l beg ds m a ≤ 255
  | [], beg, ds, m, hm, hd, a => hm a
  | x :: l, beg, ds, m, hm, hd, a => by
    rw [scP]
    split
    · exact scP_bd (putB_bd hm _ (fun z hz => hd z (List.mem_of_mem_take hz))) (fun z hz => hd z (List.mem_of_mem_drop hz)) a
    · exact scP_bd hm hd a
theorem fillM_bd {bt : Int} (hbt : 0 ≤ bt ∧ bt ≤ 255) {segs : List SegM} {m : Int → Int} (hm : ∀ a, 0 ≤ m a ∧ m a ≤ 255) : ∀ a, 0 ≤ fillM bt segs m a ∧ fillM bt segs m a ≤ 255 := by
  intro a
  unfold fillM
  split
  · exact hm a
  · exact scP_bd hm (fun x hx => by rw [List.eq_of_mem_replicate hx]; exact hbt) a
theorem retM_bd {q : QuM} {m : Int → Int} {hd ct : Int} (hm : ∀ a, 0 ≤ m a ∧ m a ≤ 255) : ∀ a, 0 ≤ retM q m hd ct a ∧ retM q m hd ct a ≤ 255 := by
  unfold retM
  refine putB_bd (putB_bd hm _ ?_) _ (leb_bd _ _)
  intro x hx
  rcases List.mem_append.1 hx with h | h
  · exact leb_bd _ _ x h
  · exact leb_bd _ _ x h

/-- what a service of the listing device changes lies in the used area, or in a piece that it lists -/
theorem wr_touch {bt size : Int} (hbt : 0 ≤ bt ∧ bt ≤ 255) : ∀ (n : Nat) (q : QuM) (k : Nat) (ys : List SegM) (m : Int → Int), (∀ a, 0 ≤ m a ∧ m a ≤ 255) →
    (∀ s ∈ ys, s ∈ (serveP (wrDev bt) size n q (k, ys) m).st.2) ∧
    ∀ y, (serveP (wrDev bt) size n q (k, ys) m).mem y ≠ m y → inUsed q y 1 ∨ ∃ s ∈ (serveP (wrDev bt) size n q (k, ys) m).st.2, s.2.2 = true ∧ s.1 ≤ y ∧ y < s.1 + s.2.1
  | 0, q, k, ys, m, hm => ⟨fun s hs => hs, fun y h => absurd rfl h⟩
  | n + 1, q, k, ys, m, hm => by
    by_cases he : (fetchP q size m).e = 0
    · cases ho : (fetchP q size m).ok with
      | false =>
        rw [serveP_no he ho]
        exact ⟨fun s hs => hs, fun y h => absurd rfl h⟩
      | true =>
        cases k with
        | zero =>
          rw [serveP_none he ho rfl]
          exact ⟨fun s hs => hs, fun y h => absurd rfl h⟩
        | succ k =>
          obtain ⟨hq, _, hok, _, _, hwk⟩ := fetchP_ok ho
          have hn := QuM.okP_bd hok
          have hl := walkP_lies hm hwk (by omega)
          have h0 : ∀ x ∈ (fetchP q size m).segs, 0 ≤ x.2.1 := fun x hx => (hl.1 x hx).2
          rw [serveP_some he ho (show wrDev bt (k + 1, ys) m (fetchP q size m).segs = some ((k, ys ++ (fetchP q size m).segs), fillM bt (fetchP q size m).segs m, fillC (fetchP q size m).segs) from rfl), hq]
          obtain ⟨i1, i2⟩ := wr_touch hbt n q.fetched.ret k (ys ++ (fetchP q size m).segs) (retM q.fetched (fillM bt (fetchP q size m).segs m) (fetchP q size m).hd (fillC (fetchP q size m).segs)) (retM_bd (fillM_bd hbt hm))
          refine ⟨fun s hs => i1 s (List.mem_append_left _ hs), fun y h => ?_⟩
          by_cases h1 : (serveP (wrDev bt) size n q.fetched.ret (k, ys ++ (fetchP q size m).segs) (retM q.fetched (fillM bt (fetchP q size m).segs m) (fetchP q size m).hd (fillC (fetchP q size m).segs))).mem y = retM q.fetched (fillM bt (fetchP q size m).segs m) (fetchP q size m).hd (fillC (fetchP q size m).segs) y
          · rw [h1] at h
            by_cases h2 : retM q.fetched (fillM bt (fetchP q size m).segs m) (fetchP q size m).hd (fillC (fetchP q size m).segs) y = fillM bt (fetchP q size m).segs m y
            · rw [h2] at h
              obtain ⟨x, hx, h3⟩ := fillM_in h0 h
              exact .inr ⟨x, i1 x (List.mem_append_right _ hx), h3⟩
            · exact .inl (retM_in (q := q.fetched) hn.1 h2)
          · exact (i2 y h1).elim (fun h3 => .inl h3) .inr
    · rw [serveP_err he]
      exact ⟨fun s hs => hs, fun y h => absurd rfl h⟩
end Go.Proofs.Ytiibiamobkhlbaa
