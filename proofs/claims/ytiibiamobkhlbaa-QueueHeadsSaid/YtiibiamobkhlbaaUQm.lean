/-
  QUEUE, plain: the heads that are told are those that were offered, in order.
-/
import Derived.Test.YtiibiamobkhlbaaUQi
import Derived.Test.YtiibiamobkhlbaaUQk
import Derived.Test.YtiibiamobkhlbaaG1
set_option linter.unusedVariables false
set_option linter.unusedSimpArgs false
namespace Go.Proofs.Ytiibiamobkhlbaa
open Go.RowKit
set_option linter.unusedVariables false
set_option linter.unusedSimpArgs false

theorem rdB_putOH (m : Int → Int) (a b : Int) (bs : List Int) (n : Nat) (h : b + n ≤ a ∨ a + bs.length ≤ b) : rdB (putB m a bs) b n = rdB m b n := by
  refine rdB_same b n fun i hi => ?_
  exact putB_out m a bs _ (by omega)
theorem rdB_putIH (m : Int → Int) (a : Int) (bs : List Int) (n : Nat) (h : n ≤ bs.length) : rdB (putB m a bs) a n = bs.take n := by
  apply List.ext_getElem?
  intro i
  by_cases hi : i < n
  · rw [rdB_get _ _ _ _ hi, List.getElem?_take, if_pos hi, List.getElem?_eq_getElem (by omega)]
    unfold putB
    rw [if_pos (by omega), show (a + (i : Int) - a).toNat = i by omega, List.getElem?_eq_getElem (by omega)]
    rfl
  · rw [List.getElem?_eq_none (by rw [rdB_len]; omega), List.getElem?_eq_none (by rw [List.length_take]; omega)]
theorem hw_same {size : Int} {m m' : Int → Int} {a : Int} (h : ∀ y, a ≤ y → y < a + 2 → m' y = m y) : hw size m' a = hw size m a := by
  unfold hw
  rw [rdB_same a 2 (fun i hi => h (a + i) (by omega) (by omega))]
theorem fetchP_offer {q : QuM} {size : Int} {m : Int → Int} (h : (fetchP q size m).ok = true) : offerN q size m ≠ 0 ∧ offerN q size m ≤ q.n := by
  unfold fetchP at h
  by_cases h1 : q.rdy = false
  · rw [if_pos h1] at h; exact absurd h (by simp [FetchR.none])
  rw [if_neg h1] at h
  by_cases h2 : chk size q.n q.d q.a q.u ≠ 0
  · rw [if_pos h2] at h; exact absurd h (by simp [FetchR.none])
  rw [if_neg h2] at h
  by_cases h3 : offerN q size m = 0
  · rw [if_pos h3] at h; exact absurd h (by simp [FetchR.none])
  rw [if_neg h3] at h
  by_cases h4 : q.n < offerN q size m
  · rw [if_pos h4] at h; exact absurd h (by simp [FetchR.none])
  exact ⟨h3, by omega⟩
theorem powP_dvd {n : Int} (h : powP n) : n ∣ 65536 := by
  obtain ⟨j, hj, rfl⟩ := h
  have : (65536 : Int) = 2 ^ j * 2 ^ (16 - j) := by
    rw [← Int.pow_add, show j + (16 - j) = 16 by omega]; rfl
  exact ⟨_, this⟩

/-- the place in the used ring where the j-th is told -/
def slotQ (q : QuM) (j : Nat) : Int := q.u + 4 + 8 * ((q.us + j) % 65536 % q.n)
theorem slotQ_bd {q : QuM} (h : powP q.n) (j : Nat) : q.u + 4 ≤ slotQ q j ∧ slotQ q j + 8 ≤ q.u + 4 + 8 * q.n := by
  have hn := powP_bd h
  have h1 := Int.emod_nonneg ((q.us + j) % 65536) (show q.n ≠ 0 by omega)
  have h2 := Int.emod_lt_of_pos ((q.us + j) % 65536) (show 0 < q.n by omega)
  unfold slotQ
  omega
theorem slotQ_ne {q : QuM} (h : powP q.n) {i j : Nat} (h1 : j < i) (h2 : (i : Int) - j < q.n) : slotQ q j + 8 ≤ slotQ q i ∨ slotQ q i + 8 ≤ slotQ q j := by
  have hn := powP_bd h
  unfold slotQ
  rw [Int.emod_emod_of_dvd _ (powP_dvd h), Int.emod_emod_of_dvd _ (powP_dvd h)]
  have hne : (q.us + (i : Int)) % q.n ≠ (q.us + (j : Int)) % q.n := by
    intro he
    have h3 := Int.emod_emod_of_dvd
    have h4 : (q.us + (i : Int) - (q.us + (j : Int))) % q.n = 0 := Int.emod_eq_zero_of_dvd (Int.dvd_of_emod_eq_zero (by rw [Int.sub_emod, he, Int.sub_self, Int.zero_emod]))
    rw [show q.us + (i : Int) - (q.us + (j : Int)) = (i : Int) - j by omega, Int.emod_eq_of_lt (by omega) h2] at h4
    omega
  omega

structure HInv (q : QuM) (size : Int) (m0 : Int → Int) (q' : QuM) (hs : List Int) (m' : Int → Int) : Prop where
  kin : QuM.Kin q q'
  us : q'.us = (q.us + hs.length) % 65536
  lst : ∀ j x, hs[j]? = some x → x = headN q size m0 j
  out : ∀ y, ¬ inUsed q y 1 → m' y = m0 y
  tell : ∀ j : Nat, j < hs.length → rdB m' (slotQ q j) 4 = leb (headN q size m0 j) 4
  idx : hs ≠ [] → rdB m' (q.u + 2) 2 = leb q'.us 2
  len : (hs.length : Int) ≤ q.n

theorem head_inv {q : QuM} {size : Int} {m0 : Int → Int} {room : Nat} (hpw : powP q.n) (hap : ∀ y, inAvail q y 1 → ¬ inUsed q y 1) : ∀ (n : Nat) (q' : QuM) (hs : List Int) (m' : Int → Int),
    HInv q size m0 q' hs m' → q'.fet = (q.fet + hs.length) % 65536 → (hs.length : Int) ≤ offerN q size m0 → (0 < hs.length → offerN q size m0 ≤ q.n) →
    HInv q size m0 (serveP (headDev (headN q size m0) room) size n q' hs m').q (serveP (headDev (headN q size m0) room) size n q' hs m').st (serveP (headDev (headN q size m0) room) size n q' hs m').mem
  | 0, q', hs, m', hi, hf, ho, hl => hi
  | n + 1, q', hs, m', hi, hf, ho, hl => by
    have hn := powP_bd hpw
    by_cases he : (fetchP q' size m').e = 0
    · cases hk : (fetchP q' size m').ok with
      | false => rw [serveP_no he hk]; exact hi
      | true =>
        by_cases hr : hs.length = room
        · rw [serveP_none he hk (by unfold headDev; rw [if_pos hr])]; exact hi
        · obtain ⟨hq, _, _, _, hhd, _⟩ := fetchP_ok hk
          obtain ⟨o1, o2⟩ := fetchP_offer hk
          have hav : ∀ y, inAvail q y 1 → m' y = m0 y := fun y h => hi.out y (hap y h)
          have ea : q'.a = q.a := hi.kin.2.2.1
          have en : q'.n = q.n := hi.kin.1
          have eu : q'.u = q.u := hi.kin.2.2.2.1
          have eo : offerN q' size m' = (offerN q size m0 - hs.length) % 65536 := by
            unfold offerN
            rw [ea, hf, hw_same (m := m0) (m' := m') (fun y h1 h2 => hav y (by unfold inAvail; omega))]
            omega
          have eh : headP q' size m' = headN q size m0 hs.length := by
            unfold headP headN
            have h1 := Int.emod_nonneg ((q.fet + (hs.length : Int)) % 65536) (show q.n ≠ 0 by omega)
            have h2 := Int.emod_lt_of_pos ((q.fet + (hs.length : Int)) % 65536) (show 0 < q.n by omega)
            rw [ea, en, hf, hw_same (m := m0) (m' := m') (fun y h3 h4 => hav y (by unfold inAvail; omega))]
          rw [en] at o2
          have hO0 : 0 ≤ offerN q size m0 ∧ offerN q size m0 < 65536 := by unfold offerN; omega
          have hO : (hs.length : Int) + 1 ≤ offerN q size m0 ∧ offerN q size m0 ≤ q.n := by
            rw [eo, Int.emod_eq_of_lt (by omega) (by omega)] at o1 o2
            by_cases h0 : 0 < hs.length
            · exact ⟨by omega, hl h0⟩
            · exact ⟨by omega, by omega⟩
          rw [serveP_some he hk (show headDev (headN q size m0) room hs m' (fetchP q' size m').segs = some (hs ++ [headN q size m0 hs.length], m', 0) by unfold headDev; rw [if_neg hr]), hq, hhd, eh]
          have eus : q'.fetched.us % q'.fetched.n = (q.us + hs.length) % 65536 % q.n := by show q'.us % q'.n = _; rw [hi.us, en]
          have esl : q'.fetched.u + 4 + 8 * (q'.fetched.us % q'.fetched.n) = slotQ q hs.length := by rw [eus]; show q'.u + _ + _ = _; rw [eu]; rfl
          have eM : retM q'.fetched m' (headN q size m0 hs.length) 0 = putB (putB m' (slotQ q hs.length) (leb (headN q size m0 hs.length) 4 ++ leb 0 4)) (q.u + 2) (leb (up16 q'.us) 2) := by
            unfold retM
            rw [esl]
            show putB _ (q'.u + 2) (leb (up16 q'.us) 2) = _
            rw [eu]
          have eus2 : up16 q'.us = (q.us + (hs ++ [headN q size m0 hs.length]).length) % 65536 := by
            unfold up16
            rw [hi.us, List.length_append]
            simp only [List.length_cons, List.length_nil]
            omega
          have hsl := fun j => slotQ_bd hpw (q := q) j
          refine head_inv hpw hap n q'.fetched.ret _ _ ⟨hi.kin.fetched.ret, ?_, ?_, ?_, ?_, ?_, ?_⟩ ?_ ?_ ?_
          · exact eus2
          · intro j x hx
            by_cases hj : j < hs.length
            · rw [List.getElem?_append_left hj] at hx; exact hi.lst j x hx
            · rw [List.getElem?_append_right (by omega)] at hx
              have hj0 : j - hs.length = 0 := by
                rcases Nat.eq_zero_or_pos (j - hs.length) with h | h
                · exact h
                · rw [List.getElem?_eq_none (by simp; omega)] at hx; cases hx
              rw [hj0] at hx
              obtain rfl : j = hs.length := by omega
              exact (Option.some.inj hx).symm
          · intro y hy
            rw [eM]
            have := hsl hs.length
            unfold inUsed at hy
            rw [putB_out _ _ _ _ (by rw [leb_len]; omega), putB_out _ _ _ _ (by rw [List.length_append, leb_len, leb_len]; omega)]
            exact hi.out y (by unfold inUsed; exact hy)
          · intro j hj
            rw [List.length_append] at hj
            simp only [List.length_cons, List.length_nil] at hj
            have b1 := hsl hs.length
            have b2 := hsl j
            rw [eM, rdB_putOH _ _ _ _ _ (by rw [leb_len]; omega)]
            by_cases hj2 : j = hs.length
            · subst hj2
              rw [rdB_putIH _ _ _ _ (by rw [List.length_append, leb_len, leb_len]; omega), List.take_left' (leb_len _ _)]
            · have := slotQ_ne hpw (q := q) (i := hs.length) (j := j) (by omega) (by omega)
              rw [rdB_putOH _ _ _ _ _ (by rw [List.length_append, leb_len, leb_len]; omega)]
              exact hi.tell j (by omega)
          · intro _
            rw [eM]
            have := rdB_putIH (putB m' (slotQ q hs.length) (leb (headN q size m0 hs.length) 4 ++ leb 0 4)) (q.u + 2) (leb (up16 q'.us) 2) 2 (by rw [leb_len]; omega)
            rw [this, List.take_of_length_le (by rw [leb_len]; omega)]
            rfl
          · rw [List.length_append]; simp only [List.length_cons, List.length_nil]; omega
          · show up16 q'.fet = _
            unfold up16
            rw [hf, List.length_append]
            simp only [List.length_cons, List.length_nil]
            omega
          · rw [List.length_append]; simp only [List.length_cons, List.length_nil]; omega
          · intro _; exact hO.2
    · rw [serveP_err he]
      have hk2 := fetchP_kin (q := q') (size := size) (m := m') hi.kin
      exact ⟨hk2.1, by rw [hk2.2]; exact hi.us, hi.lst, hi.out, hi.tell, fun h => by rw [hk2.2]; exact hi.idx h, hi.len⟩

/-- what a service of the listing device leaves in the used area -/
theorem head_end {q : QuM} {size : Int} {m0 : Int → Int} {room : Nat} (hm0 : ∀ a, 0 ≤ m0 a ∧ m0 a ≤ 255) (hpw : powP q.n) (hap : ∀ y, inAvail q y 1 → ¬ inUsed q y 1) {f : ServeR (List Int)} (hf : serveP (headDev (headN q size m0) room) size 65537 q [] m0 = f) :
    (f.q.us - q.us) % 65536 = f.st.length ∧ (f.st.length : Int) ≤ q.n ∧ (∀ j x, f.st[j]? = some x → ofB (rdB (endM f.q f.e f.mem) (slotQ q j) 4) = x ∧ 0 ≤ x ∧ x ≤ 65535) ∧ (f.st.length ≠ 0 → ofB (rdB (endM f.q f.e f.mem) (q.u + 2) 2) = f.q.us) := by
  have hi := head_inv (size := size) (m0 := m0) (room := room) hpw hap 65537 q [] m0 ⟨QuM.Kin.refl q, by have := q.hus; simp; omega, fun j x h => by simp at h, fun _ _ => rfl, fun j h => by simp at h, fun h => absurd rfl h, by have := powP_bd hpw; simp; omega⟩
    (by have := q.hfet; simp; omega) (by unfold offerN; simp; omega) (fun h => by simp at h)
  rw [hf] at hi
  have hn := powP_bd hpw
  have hE : ∀ (a : Int) (k : Nat), a + k ≤ q.u + 4 + 8 * q.n → rdB (endM f.q f.e f.mem) a k = rdB f.mem a k := by
    intro a k h
    unfold endM
    split
    · unfold askM
      split
      · rw [hi.kin.2.2.2.1, hi.kin.1, rdB_putOH _ _ _ _ _ (by omega)]
      · rfl
    · rfl
  refine ⟨?_, hi.len, ?_, ?_⟩
  · rw [hi.us]; have := q.hus; have := hi.len; omega
  · intro j x hx
    have hj : j < f.st.length := (List.getElem?_eq_some_iff.1 hx).1
    have b := slotQ_bd hpw (q := q) j
    have hb := hw_bd hm0 size (q.a + 4 + 2 * (((q.fet + j) % 65536) % q.n))
    rw [hE _ _ (by omega), hi.tell j hj, hi.lst j x hx]
    obtain ⟨K, hK⟩ : ∃ K : Nat, headN q size m0 j = K := ⟨(headN q size m0 j).toNat, by unfold headN; omega⟩
    have hb2 : 0 ≤ headN q size m0 j ∧ headN q size m0 j ≤ 65535 := hb
    refine ⟨?_, hb2⟩
    rw [hK, ofB_leb, Nat.mod_eq_of_lt]
    have e : 256 ^ 4 = 4294967296 := by decide
    omega
  · intro h0
    rw [hE _ _ (by omega), hi.idx (fun h => h0 (by rw [h]; rfl))]
    have := f.q.hus
    obtain ⟨K, hK⟩ : ∃ K : Nat, f.q.us = K := ⟨f.q.us.toNat, by omega⟩
    rw [hK, ofB_leb, Nat.mod_eq_of_lt]
    have e : 256 ^ 2 = 65536 := by decide
    omega
end Go.Proofs.Ytiibiamobkhlbaa
