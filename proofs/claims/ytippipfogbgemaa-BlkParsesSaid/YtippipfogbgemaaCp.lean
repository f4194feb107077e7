/-
  CHAIN: bytes that may be read are gathered.
-/
import Derived.Test.YtippipfogbgemaaCn
namespace Go.Proofs.Ytippipfogbgemaa
open Go.RowKit
set_option linter.unusedVariables false
set_option linter.unusedSimpArgs false

/-- the bytes that are gathered: of the pieces ahead of the first one to be written -/
def gaP (frm n : Int) : List SegM → Int → (Int → Int) → List Int
  | [], _, _ => []
  | x :: l, beg, m => if x.2.2 = true then [] else rdB m (pieceP x beg frm n).1 (pieceP x beg frm n).2.toNat ++ gaP frm n l (beg + x.2.1) m
theorem gaP_bd {frm n : Int} {m : Int → Int} (hm : ∀ a, 0 ≤ m a ∧ m a ≤ 255) : ∀ {l : List SegM} {beg : Int}, ∀ x ∈ gaP frm n l beg m, 0 ≤ x ∧ x ≤ 255
  | [], beg, x, hx => by simp [gaP] at hx
  | y :: l, beg, x, hx => by
    rw [gaP] at hx
    split at hx
    · simp at hx
    · rcases List.mem_append.1 hx with h | h
      · exact rdB_bd hm _ _ x h
      · exact gaP_bd hm x h

section
variable {R : Ending → World → Prop} {W0 w : World} {H : Hp} {A F : List Hp}

set_option maxRecDepth 100000 in
set_option maxHeartbeats 4000000 in
theorem c_gather (s : Sat W0 w H A) {b : Nat} {r : RamG} {l : Option LogG} [fr : FrK (κ := Addr) (ρ := fun _ => RamG × Option LogG) ramL ⟨b, 0, none⟩ A (r, l) F] {B : Option Addr} {n c : Nat} {hp : Hp} {segs : List SegM} (rd : Rd segE 3 hp (.slice B n c) segs)
    (hk : ∀ w', Sat W0 w' H F → Holds w' hp) (hb : segs.length ≤ 511 ∧ ∀ x ∈ segs, hasP r.size x.1 x.2.1 ∧ 0 ≤ x.2.1) (ta tl frm num : Int) (hf : 0 ≤ frm ∧ frm ≤ 18446744073709551615) (hnum : 0 ≤ num ∧ num ≤ 18446744073709551615)
    (kb : ¬ (frm ≤ rsum segs ∧ num ≤ rsum segs - frm) → ∀ w', Sat W0 w' H (ramL ⟨b, 0, none⟩ (r, l) ++ F) → R (.returned (.tuple #[.slice none 0 0, .bool false])) w')
    (k : frm ≤ rsum segs ∧ num ≤ rsum segs - frm → ∀ w' v h l', OwnS 1 v (gaP frm num segs 0 r.mem).length ((gaP frm num segs 0 r.mem).map (Value.int .u8)) h → (l = none → l' = none) → Sat W0 w' H (h :: (ramL ⟨b, 0, none⟩ (r, l') ++ F)) → R (.returned (.tuple #[v, .bool true])) w') :
    Calls Try.prog 95 #[.agg #[.slice B n c, .int .u64 ta, .int .u64 tl], .pointer (some ⟨b, 0, none⟩), .int .u64 frm, .int .u64 num] w R := by
  have hrs := r.hsize
  have hrm := r.hmem
  have hB : segB segs := ⟨hb.1, fun x hx => by have := hb.2 x hx; unfold hasP at this; omega⟩
  have s1 := (s.front (mk := ramL) (k := ⟨b, 0, none⟩)).alloc (c := [.slice B n c, .int .u64 ta, .int .u64 tl]) (t := 56)
  obtain ⟨Z, hZ⟩ : ∃ Z, w.heap.size = Z := ⟨_, rfl⟩
  rw [hZ] at s1
  obtain ⟨hn0, hcap, hcap2, gg⟩ := rd.seg
  obtain ⟨L, hL⟩ : ∃ L, segs.length = L := ⟨_, rfl⟩
  obtain ⟨RS, hRS⟩ : ∃ y, rsum segs = y := ⟨_, rfl⟩
  have hRb : 0 ≤ RS ∧ RS ≤ 137170518016 := by have := hB.sums segs.length; rw [List.take_length, hRS] at this; omega
  obtain rfl : n = L := by omega
  clear hn0
  rw [hRS] at kb k
  replace hL := aside hL
  replace gg : Aside (∀ i (hi : i < n), ∃ b o, B = some ⟨b, o, none⟩ ∧ (∃ fr, hp (.cell b (o + i * 3)) = some (.val (.int .u64 (segs[i]'(by rw [hL.out]; exact hi)).1) fr)) ∧ (∃ fr, hp (.cell b (o + i * 3 + 1)) = some (.val (.int .u64 (segs[i]'(by rw [hL.out]; exact hi)).2.1) fr)) ∧ (∃ fr, hp (.cell b (o + i * 3 + 2)) = some (.val (.bool (segs[i]'(by rw [hL.out]; exact hi)).2.2) fr))) := aside fun i hi => gg i (by rw [hL.out]; exact hi)
  have hL5 : (n : Int) ≤ 511 := by have := hb.1; have := hL.out; omega
  clear s fr
  replace hk := aside hk
  replace hRS := aside hRS
  replace kb := aside kb
  replace k := aside k
  replace hrs := aside hrs
  replace hB := aside hB
  replace hb := aside hb
  replace rd := aside rd
  replace hrm := aside hrm
  have y0 := s1.cel Z 0 0 rfl
  have y1 := s1.cel Z 0 1 rfl
  have y2 := s1.cel Z 0 2 rfl
  simp only [Nat.zero_add] at y0 y1 y2
  have hkz : ∀ (G : List Hp) w', Sat W0 w' H (G ++ F) → Holds w' hp := fun G w' t => hk.out _ (Sat.tail t)
  have hkz1 := aside (show ∀ w', Sat W0 w' H (cellsH ⟨Z, 0, none⟩ [.slice B n c, .int .u64 ta, .int .u64 tl] :: (ramL ⟨b, 0, none⟩ (r, l) ++ F)) → Holds w' hp from fun w' t => hkz _ w' (Sat.tail1 t))
  replace hkz := aside hkz
  go_enter Try.func95, Try.ntmps95
  go_wp2_with fail
  refine c_sizes s1 rd.out hkz1.out hB.out ta tl ?_
  rw [hRS.out]
  obtain ⟨WS, hWS⟩ : ∃ y, wsum segs = y := ⟨_, rfl⟩
  rw [hWS]
  clear hWS
  intro w2 s2
  have y0 := s2.cel Z 0 0 rfl
  have y1 := s2.cel Z 0 1 rfl
  have y2 := s2.cel Z 0 2 rfl
  simp only [Nat.zero_add] at y0 y1 y2
  clear s1
  by_cases c1 : RS < frm
  · go_wp2
    exact kb.out (by omega) _ s2.tail1
  have e1 : IntKind.u64.wrap (RS - frm) = RS - frm := by rw [wrap_u64]; omega
  by_cases c2 : RS - frm < num
  · go_wp2
    exact kb.out (by omega) _ s2.tail1
  replace k := aside (k.out ⟨by omega, by omega⟩)
  clear kb
  obtain ⟨FIN, hFIN⟩ : ∃ FIN, gaP frm num segs 0 r.mem = FIN := ⟨_, rfl⟩
  rw [hFIN] at k
  go_wp2
  clear y0 y1 y2
  go_loopg [12, 13, 38] n (fun q v12 v13 v38 w' => ∃ (i : Nat) (xs : List Int) (h : Hp) (l' : Option LogG), q + i = n ∧ OwnS 1 v12 xs.length (xs.map (Value.int .u8)) h ∧ v13 = .int .u64 (rsum (segs.take i)) ∧ v38 = .int .i64 i ∧ Aside ((xs.length : Int) = dnP frm num (rsum (segs.take i))) ∧ Aside (xs ++ gaP frm num (segs.drop i) (rsum (segs.take i)) r.mem = FIN) ∧ Aside (l = none → l' = none) ∧ Sat W0 w' H (h :: cellsH ⟨Z, 0, none⟩ [.slice B n c, .int .u64 ta, .int .u64 tl] :: (ramL ⟨b, 0, none⟩ (r, l') ++ F)))
  case atStart => exact ⟨0, [], _, l, rfl, OwnS.nil 1, rfl, rfl, aside (by rw [List.take_zero]; unfold dnP; simp only [rsum, List.length_nil]; omega), aside hFIN, aside (fun h => h), s2.emp⟩
  clear s2 hFIN
  case round =>
    obtain ⟨i, xs, h, l', hq, own, rfl, rfl, hp1, hFIN, hr', t⟩ := hrel
    have y0 := t.cel Z 0 0 rfl
    have y1 := t.cel Z 0 1 rfl
    have y2 := t.cel Z 0 2 rfl
    simp only [Nat.zero_add] at y0 y1 y2
    have hs := aside (hB.out.sums i)
    by_cases hi : i < n
    · have hs2 := aside (hB.out.sums (i + 1))
      have hw1 := aside (rsum_one (l := segs) (i := i) (by rw [hL.out]; exact hi))
      have hdr : segs.drop i = (segs[i]'(by rw [hL.out]; exact hi)) :: segs.drop (i + 1) := List.drop_eq_getElem_cons (by rw [hL.out]; exact hi)
      have hseg := aside (hb.out.2 _ (List.getElem_mem (by rw [hL.out]; exact hi : i < segs.length)))
      obtain ⟨b', o', rfl, d0, d1, d2⟩ := gg.out i hi
      have H1 := hkz.out _ _ (Sat.tail1 (Sat.tail1 t))
      have q0 := H1.cell d0
      have q1 := H1.cell d1
      have q2 := H1.cell d2
      have i1 : (0 : Int) ≤ i ∧ (i : Int) < n := by omega
      obtain ⟨⟨k1, k2, k3⟩, hk1⟩ : ∃ y, (segs[i]'(by rw [hL.out]; exact hi)) = y := ⟨_, rfl⟩
      rw [hk1] at q0 q1 q2 hw1 hdr hseg
      rw [hdr] at hFIN
      simp only at q0 q1 q2 hw1 hseg
      obtain ⟨BG, hBG⟩ : ∃ y, rsum (segs.take i) = y := ⟨_, rfl⟩
      rw [hBG] at hw1 hs hp1 hFIN ⊢
      clear hBG hk1 d0 d1 d2 H1 hdr
      have s3 := t.alloc (c := [.int .u64 k1, .int .u64 k2, .bool k3]) (t := 71)
      obtain ⟨V, hV⟩ : ∃ V, wr.heap.size = V := ⟨_, rfl⟩
      rw [hV] at s3
      have m0 := s3.cel V 0 0 rfl
      have m1 := s3.cel V 0 1 rfl
      have m2 := s3.cel V 0 2 rfl
      simp only [Nat.zero_add] at m0 m1 m2
      have hk12 : 0 ≤ k2 ∧ k2 ≤ 268435456 ∧ 0 ≤ k1 ∧ k1 ≤ 1099511627776 := by have h1 := hseg.out; have h2 := hrs.out; unfold hasP at h1; omega
      have hBGb : 0 ≤ BG ∧ BG ≤ 1099511627776 := by have := hs.out; omega
      cases k3 with
      | true =>
        have hX : xs = FIN := by rw [← hFIN.out, gaP, if_pos rfl, List.append_nil]
        subst hX
        clear hs hs2 hw1 t hFIN hp1
        go_wp2
        exact k.out _ _ h l' own hr'.out s3.wk
      | false =>
        have hw2 := aside (show rsum (segs.take (i + 1)) = BG + k2 by rw [hw1.out]; simp)
        have e2 : IntKind.u64.wrap (BG + k2) = BG + k2 := by rw [wrap_u64]; omega
        obtain ⟨hst, hst0⟩ := dnP_step (x := (k1, k2, false)) (frm := frm) (n := num) (beg := BG) (by omega) (by omega) hk12.1
        have hpin := pieceP_in (x := (k1, k2, false)) (frm := frm) (n := num) (beg := BG)
        have hdb := dnP_bd (frm := frm) (n := num) (beg := BG + k2) (by omega)
        simp only at hst hpin
        obtain ⟨P1, hP1⟩ : ∃ y, (pieceP (k1, k2, false) BG frm num).1 = y := ⟨_, rfl⟩
        obtain ⟨q, hP2⟩ : ∃ y : Nat, (pieceP (k1, k2, false) BG frm num).2 = y := ⟨(pieceP (k1, k2, false) BG frm num).2.toNat, by omega⟩
        have hF2 : xs ++ (rdB r.mem P1 q ++ gaP frm num (segs.drop (i + 1)) (BG + k2) r.mem) = FIN := by
          rw [← hFIN.out, gaP, if_neg (by simp), hP1, hP2, Int.toNat_natCast]
        rw [hP1, hP2] at hpin
        rw [hP2] at hst
        have hpq1 := aside (show (xs.length : Int) + q = dnP frm num (BG + k2) by have := hp1.out; omega)
        have hbig := aside (show xs.length + q ≤ 140737488355328 by have := hpq1.out; omega)
        have hhas := aside (show 0 < q → r.has P1 q by
          intro h
          have h1 := hpin (by omega)
          have h2 := hseg.out
          unfold hasP at h2
          unfold RamG.has
          omega)
        have hP1b := aside (show 0 < q → 0 ≤ P1 ∧ P1 ≤ 18446744073709551615 by intro h; have h1 := hpin (by omega); omega)
        have hqb : (q : Int) ≤ 1099511627776 := by omega
        clear hs hs2 hw1 t hpin hst hdb hFIN
        replace hP1 := aside hP1
        replace hP2 := aside hP2
        replace hF2 := aside hF2
        replace hq := aside hq
        go_wp2_with fail
        refine c_chPiece s3 k1 k2 false BG frm num hBGb (by omega) (by omega) ⟨hk12.1, hk12.2.1⟩ hk12.2.2 ?_
        rw [hP1.out, hP2.out]
        intro w4 s4
        have m0 := s4.cel V 0 0 rfl
        have m1 := s4.cel V 0 1 rfl
        have m2 := s4.cel V 0 2 rfl
        simp only [Nat.zero_add] at m0 m1 m2
        clear s3
        by_cases hq0 : q = 0
        · subst hq0
          replace hF2 := aside (show xs ++ gaP frm num (segs.drop (i + 1)) (BG + k2) r.mem = FIN by have := hF2.out; simpa [rdB] using this)
          replace hpq1 := aside (show (xs.length : Int) = dnP frm num (BG + k2) by have := hpq1.out; omega)
          go_wp2
          go_roundg (gk - 1)
          case measure => have := hq.out; omega
          case rel => exact ⟨i + 1, xs, h, l', by have := hq.out; omega, own, by rw [hw2.out], by go_num, by rw [hw2.out]; exact hpq1, by rw [hw2.out]; exact hF2, hr', s4.wk⟩
        · have hq1 : (0 : Int) < q := by omega
          go_wp2_with fail
          refine c_ramRead s4 P1 q (hP1b.out (by omega)) (by omega) ?_ ?_
          · intro h
            exact absurd (hhas.out (by omega)) h
          · intro _ w5 v5 h5 l5 own5 hl5 s5
            rw [Int.toNat_natCast] at own5
            have hln := aside (rdB_len r.mem P1 q)
            have hbd := rdB_bd hrm.out P1 q
            obtain ⟨DS, hDS⟩ : ∃ y, rdB r.mem P1 q = y := ⟨_, rfl⟩
            rw [hDS] at own5 hln hbd hF2
            have own5' : OwnS 1 v5 q (DS.map (Value.int .u8)) h5 := own5
            have rd5 := own5'.rd hbd
            obtain ⟨A5, c5, rfl, rd5⟩ := rd5.open_
            rw [hln.out] at own5 ⊢
            have hr5 := aside (show l = none → l5 = none from fun h => by
              have h1 := hr'.out h
              subst h1
              cases l5 with
              | none => rfl
              | some x => simp [lgs, addR] at hl5)
            have row5 := aside (own5.row0 (Sat.pull (h := h5) s5).head q)
            rw [List.take_of_length_le (by rw [List.length_map, hln.out]; exact Nat.le_refl _)] at row5
            have m0 := s5.cel V 0 0 rfl
            have m1 := s5.cel V 0 1 rfl
            have m2 := s5.cel V 0 2 rfl
            simp only [Nat.zero_add] at m0 m1 m2
            clear s4 hl5 hDS rd5 own5 own5' hbd
            go_wp2_with (at_builtin; refine append8 rfl (.tmp 63) (.tmp 64) rfl rfl own s5 rfl DS hln.out row5.out hbig.out ?_; intro A6 c6 w6 h6 own6 s6; have m3 := s6.cel V 0 1 rfl; simp only [Nat.zero_add] at m3)
            have own7 : OwnS 1 (.slice A6 (xs.length + q) c6) (xs ++ DS).length ((xs ++ DS).map (Value.int .u8)) h6 := by rw [List.length_append, hln.out, List.map_append]; exact own6
            have hp7 := aside (show ((xs ++ DS).length : Int) = dnP frm num (BG + k2) by rw [List.length_append, hln.out]; have := hpq1.out; omega)
            have hF7 := aside (show (xs ++ DS) ++ gaP frm num (segs.drop (i + 1)) (BG + k2) r.mem = FIN by rw [List.append_assoc]; exact hF2.out)
            go_roundg (gk - 1)
            case measure => have := hq.out; omega
            case rel => exact ⟨i + 1, xs ++ DS, h6, l5, by have := hq.out; omega, own7, by rw [hw2.out], by go_num, by rw [hw2.out]; exact hp7, by rw [hw2.out]; exact hF7, hr5, s6.wk⟩
    · obtain rfl : i = n := by omega
      have e1 : segs.drop i = [] := List.drop_eq_nil_of_le (by rw [hL.out]; exact Nat.le_refl _)
      rw [e1] at hFIN
      have hX : xs = FIN := by rw [← hFIN.out, gaP, List.append_nil]
      subst hX
      generalize rsum (segs.take i) = BG at *
      go_wp2
      exact k.out _ _ h l' own hr'.out t.wk
end
end Go.Proofs.Ytippipfogbgemaa
