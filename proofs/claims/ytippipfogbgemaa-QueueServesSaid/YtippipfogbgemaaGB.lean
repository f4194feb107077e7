/-
  CHAIN, the document's: Sizes, and the place of a byte.
  CHAIN, the document's: Scatter, byte by byte: plain.
-/
import Derived.Test.YtippipfogbgemaaG3
import Derived.Test.YtippipfogbgemaaG2
set_option linter.unusedVariables false
set_option linter.unusedSimpArgs false
namespace Go.Proofs.Ytippipfogbgemaa
open Go.RowKit
set_option linter.unusedVariables false
set_option linter.unusedSimpArgs false

/-- the place of the byte number n of those of a kind -/
def placeP (wr : Bool) : List SegM → Int → Int
  | [], _ => 0
  | x :: l, n => if x.2.2 ≠ wr then placeP wr l n else if n < x.2.1 then x.1 + n else placeP wr l (n - x.2.1)
theorem placeP_bd {wr : Bool} : ∀ {l : List SegM} {n : Int}, 0 ≤ n → n ≤ 18446744073709551615 → (∀ x ∈ l, 0 ≤ x.1 ∧ x.1 + x.2.1 ≤ 18446744073709551615 ∧ 0 ≤ x.2.1) → 0 ≤ placeP wr l n ∧ placeP wr l n ≤ 18446744073709551615
  | [], n, h0, h1, h => by simp [placeP]
  | x :: l, n, h0, h1, h => by
    have hx := h x (List.mem_cons_self ..)
    have hl : ∀ y ∈ l, 0 ≤ y.1 ∧ y.1 + y.2.1 ≤ 18446744073709551615 ∧ 0 ≤ y.2.1 := fun y hy => h y (List.mem_cons_of_mem _ hy)
    rw [placeP]
    split
    · exact placeP_bd h0 h1 hl
    · split
      · omega
      · exact placeP_bd (by omega) (by omega) hl

section
variable {R : Ending → World → Prop} {W0 w : World} {H : Hp} {A F : List Hp}


set_option maxRecDepth 100000 in
set_option maxHeartbeats 4000000 in
theorem c_refSizes (s : Sat W0 w H A) {B : Option Addr} {n c : Nat} {hp : Hp} {segs : List SegM} (rd : Rd segE 3 hp (.slice B n c) segs) (hk : ∀ w', Sat W0 w' H A → Holds w' hp) (hb : segB segs) (ta tl : Int)
    (k : ∀ w', Sat W0 w' H A → R (.returned (.tuple #[.int .u64 (rsum segs), .int .u64 (wsum segs)])) w') :
    Calls Try.prog 135 #[.agg #[.slice B n c, .int .u64 ta, .int .u64 tl]] w R := by
  have s1 := s.alloc (c := [.slice B n c, .int .u64 ta, .int .u64 tl]) (t := 60)
  obtain ⟨Z, hZ⟩ : ∃ Z, w.heap.size = Z := ⟨_, rfl⟩
  rw [hZ] at s1
  replace k := aside k
  obtain ⟨rfl, hcap, hcap2, gg⟩ := rd.seg
  obtain ⟨L, hL⟩ : ∃ L, segs.length = L := ⟨_, rfl⟩
  replace hL := aside hL
  replace gg : Aside (∀ i (hi : i < L), ∃ b o, B = some ⟨b, o, none⟩ ∧ (∃ fr, hp (.cell b (o + i * 3)) = some (.val (.int .u64 (segs[i]'(by rw [hL.out]; exact hi)).1) fr)) ∧ (∃ fr, hp (.cell b (o + i * 3 + 1)) = some (.val (.int .u64 (segs[i]'(by rw [hL.out]; exact hi)).2.1) fr)) ∧ (∃ fr, hp (.cell b (o + i * 3 + 2)) = some (.val (.bool (segs[i]'(by rw [hL.out]; exact hi)).2.2) fr))) := aside fun i hi => gg i (by rw [hL.out]; exact hi)
  replace hb := aside hb
  rw [hL.out] at s1 hcap ⊢
  have hL5 : (L : Int) ≤ 511 := by have := hb.out.1; have := hL.out; omega
  clear s rd
  replace hk := aside hk
  have y0 := s1.cel Z 0 0 rfl
  have y1 := s1.cel Z 0 1 rfl
  have y2 := s1.cel Z 0 2 rfl
  simp only [Nat.zero_add] at y0 y1 y2
  go_enter Try.func135, Try.ntmps135
  go_wp2
  clear y0 y1 y2
  go_loopg [4, 5, 6] L (fun q v4 v5 v6 w' => ∃ i : Nat, q + i = L ∧ v4 = .int .u64 (rsum (segs.take i)) ∧ v5 = .int .u64 (wsum (segs.take i)) ∧ v6 = .int .i64 i ∧ Sat W0 w' H (cellsH ⟨Z, 0, none⟩ [.slice B L c, .int .u64 ta, .int .u64 tl] :: A))
  case atStart => exact ⟨0, rfl, rfl, rfl, rfl, s1⟩
  clear s1
  case round =>
    obtain ⟨i, hq, rfl, rfl, rfl, t⟩ := hrel
    have y0 := t.cel Z 0 0 rfl
    simp only [Nat.zero_add] at y0
    have hs := aside (hb.out.sums i)
    by_cases hi : i < L
    · have hs2 := aside (hb.out.sums (i + 1))
      have hr1 := aside (rsum_one (l := segs) (i := i) (by rw [hL.out]; exact hi))
      have hw1 := aside (wsum_one (l := segs) (i := i) (by rw [hL.out]; exact hi))
      obtain ⟨b, o, rfl, d0, d1, d2⟩ := gg.out i hi
      have H1 := hk.out _ t.tail1
      have q1 := H1.cell d1
      have q2 := H1.cell d2
      have i1 : (0 : Int) ≤ i ∧ (i : Int) < L := by omega
      obtain ⟨k2, hk2⟩ : ∃ y, (segs[i]'(by rw [hL.out]; exact hi)).2.1 = y := ⟨_, rfl⟩
      obtain ⟨k3, hk3⟩ : ∃ y, (segs[i]'(by rw [hL.out]; exact hi)).2.2 = y := ⟨_, rfl⟩
      rw [hk2] at q1
      rw [hk3] at q2
      rw [hk2, hk3] at hr1 hw1
      obtain ⟨RS, hRS⟩ : ∃ y, rsum (segs.take i) = y := ⟨_, rfl⟩
      obtain ⟨WS, hWS⟩ : ∃ y, wsum (segs.take i) = y := ⟨_, rfl⟩
      obtain ⟨RS2, hRS2⟩ : ∃ y, rsum (segs.take (i + 1)) = y := ⟨_, rfl⟩
      obtain ⟨WS2, hWS2⟩ : ∃ y, wsum (segs.take (i + 1)) = y := ⟨_, rfl⟩
      rw [hRS] at hr1 hs ⊢
      rw [hWS] at hw1 hs ⊢
      rw [hRS2] at hr1 hs2
      rw [hWS2] at hw1 hs2
      clear hRS hWS hk2 hk3 d0 d1 d2 H1
      cases k3 with
      | true =>
        have e1 : IntKind.u64.wrap (WS + k2) = WS2 := by rw [wrap_u64]; have h1 := hw1.out; have h2 := hs2.out; simp at h1; omega
        have e2 : RS = RS2 := by have h1 := hr1.out; simp at h1; omega
        subst e2
        replace hRS2 := aside hRS2
        replace hWS2 := aside hWS2
        go_wp2
        go_roundg (gk - 1)
        case measure => omega
        case rel => exact ⟨i + 1, by omega, by rw [hRS2.out], by rw [hWS2.out], by go_num, t⟩
      | false =>
        have e1 : IntKind.u64.wrap (RS + k2) = RS2 := by rw [wrap_u64]; have h1 := hr1.out; have h2 := hs2.out; simp at h1; omega
        have e2 : WS = WS2 := by have h1 := hw1.out; simp at h1; omega
        subst e2
        replace hRS2 := aside hRS2
        replace hWS2 := aside hWS2
        go_wp2
        go_roundg (gk - 1)
        case measure => omega
        case rel => exact ⟨i + 1, by omega, by rw [hRS2.out], by rw [hWS2.out], by go_num, t⟩
    · obtain rfl : i = L := by omega
      have e : segs.take i = segs := List.take_of_length_le (by rw [hL.out]; exact Nat.le_refl _)
      rw [e]
      obtain ⟨RS, hRS⟩ : ∃ y, rsum segs = y := ⟨_, rfl⟩
      obtain ⟨WS, hWS⟩ : ∃ y, wsum segs = y := ⟨_, rfl⟩
      rw [hRS, hWS]
      rw [hRS, hWS] at k
      clear e hs
      replace hRS := aside hRS
      replace hWS := aside hWS
      go_wp2
      exact k.out _ t.tail1


set_option maxRecDepth 100000 in
set_option maxHeartbeats 4000000 in
theorem c_refPlace (s : Sat W0 w H A) {B : Option Addr} {n c : Nat} {hp : Hp} {segs : List SegM} (rd : Rd segE 3 hp (.slice B n c) segs) (hk : ∀ w', Sat W0 w' H A → Holds w' hp) (hb : segs.length ≤ 511 ∧ ∀ x ∈ segs, 0 ≤ x.1 ∧ x.1 + x.2.1 ≤ 18446744073709551615 ∧ 0 ≤ x.2.1) (ta tl num : Int) (wx : Bool) (hn : 0 ≤ num ∧ num ≤ 18446744073709551615)
    (k : ∀ w', Sat W0 w' H A → R (.returned (.int .u64 (placeP wx segs num))) w') :
    Calls Try.prog 146 #[.agg #[.slice B n c, .int .u64 ta, .int .u64 tl], .int .u64 num, .bool wx] w R := by
  have s1 := s.alloc (c := [.slice B n c, .int .u64 ta, .int .u64 tl]) (t := 60)
  obtain ⟨Z, hZ⟩ : ∃ Z, w.heap.size = Z := ⟨_, rfl⟩
  rw [hZ] at s1
  obtain ⟨FIN, hFIN⟩ : ∃ y, placeP wx segs num = y := ⟨_, rfl⟩
  rw [hFIN] at k
  replace k := aside k
  replace hFIN := aside hFIN
  obtain ⟨rfl, hcap, hcap2, gg⟩ := rd.seg
  obtain ⟨L, hL⟩ : ∃ L, segs.length = L := ⟨_, rfl⟩
  replace hL := aside hL
  replace gg : Aside (∀ i (hi : i < L), ∃ b o, B = some ⟨b, o, none⟩ ∧ (∃ fr, hp (.cell b (o + i * 3)) = some (.val (.int .u64 (segs[i]'(by rw [hL.out]; exact hi)).1) fr)) ∧ (∃ fr, hp (.cell b (o + i * 3 + 1)) = some (.val (.int .u64 (segs[i]'(by rw [hL.out]; exact hi)).2.1) fr)) ∧ (∃ fr, hp (.cell b (o + i * 3 + 2)) = some (.val (.bool (segs[i]'(by rw [hL.out]; exact hi)).2.2) fr))) := aside fun i hi => gg i (by rw [hL.out]; exact hi)
  replace hb := aside hb
  rw [hL.out] at s1 hcap ⊢
  have hL5 : (L : Int) ≤ 511 := by have := hb.out.1; have := hL.out; omega
  clear s rd
  replace hk := aside hk
  have y0 := s1.cel Z 0 0 rfl
  have y1 := s1.cel Z 0 1 rfl
  have y2 := s1.cel Z 0 2 rfl
  simp only [Nat.zero_add] at y0 y1 y2
  go_enter Try.func146, Try.ntmps146
  go_wp2
  clear y0 y1 y2
  go_loopg [1, 7] L (fun q v1 v7 w' => ∃ (i : Nat) (nn : Int), q + i = L ∧ v1 = .int .u64 nn ∧ v7 = .int .i64 i ∧ 0 ≤ nn ∧ nn ≤ 18446744073709551615 ∧ Aside (placeP wx (segs.drop i) nn = FIN) ∧ Sat W0 w' H (cellsH ⟨Z, 0, none⟩ [.slice B L c, .int .u64 ta, .int .u64 tl] :: A))
  case atStart => exact ⟨0, num, rfl, rfl, rfl, hn.1, hn.2, by rw [List.drop_zero]; exact hFIN, s1⟩
  clear s1 hFIN
  case round =>
    obtain ⟨i, nn, hq, rfl, rfl, hn0, hn1, hF, t⟩ := hrel
    have y0 := t.cel Z 0 0 rfl
    simp only [Nat.zero_add] at y0
    by_cases hi : i < L
    · have hdr : segs.drop i = (segs[i]'(by rw [hL.out]; exact hi)) :: segs.drop (i + 1) := List.drop_eq_getElem_cons (by rw [hL.out]; exact hi)
      have hseg := hb.out.2 _ (List.getElem_mem (by rw [hL.out]; exact hi : i < segs.length))
      obtain ⟨b, o, rfl, d0, d1, d2⟩ := gg.out i hi
      have H1 := hk.out _ t.tail1
      have q0 := H1.cell d0
      have q1 := H1.cell d1
      have q2 := H1.cell d2
      have i1 : (0 : Int) ≤ i ∧ (i : Int) < L := by omega
      obtain ⟨⟨k1, k2, k3⟩, hk1⟩ : ∃ y, (segs[i]'(by rw [hL.out]; exact hi)) = y := ⟨_, rfl⟩
      rw [hk1] at q0 q1 q2 hdr hseg
      rw [hdr] at hF
      simp only at q0 q1 q2 hseg
      have s3 := t.alloc (c := [.int .u64 k1, .int .u64 k2, .bool k3]) (t := 71)
      obtain ⟨V, hV⟩ : ∃ V, wr.heap.size = V := ⟨_, rfl⟩
      rw [hV] at s3
      have m0 := s3.cel V 0 0 rfl
      have m1 := s3.cel V 0 1 rfl
      have m2 := s3.cel V 0 2 rfl
      simp only [Nat.zero_add] at m0 m1 m2
      clear hk1 d0 d1 d2 H1 hdr t
      cases k3 with
      | true =>
        cases wx with
        | true =>
          by_cases hlt : nn < k2
          · have hFe : k1 + nn = FIN := by rw [← hF.out, placeP, if_neg (by simp), if_pos hlt]
            have e1 : IntKind.u64.wrap (k1 + nn) = FIN := by rw [hFe, wrap_u64]; omega
            clear hF hFe
            go_wp2
            exact k.out _ s3.tail1.tail1
          · have hF2 := aside (show placeP _ (segs.drop (i + 1)) (nn - k2) = FIN by rw [← hF.out, placeP, if_neg (by simp), if_neg hlt])
            have e1 : IntKind.u64.wrap (nn - k2) = nn - k2 := by rw [wrap_u64]; omega
            clear hF
            go_wp2
            go_roundg (gk - 1)
            case measure => omega
            case rel => exact ⟨i + 1, nn - k2, by omega, rfl, by go_num, by omega, by omega, hF2, s3.tail1⟩
        | false =>
          have hF2 := aside (show placeP _ (segs.drop (i + 1)) nn = FIN by rw [← hF.out, placeP, if_pos (by simp)])
          clear hF
          go_wp2
          go_roundg (gk - 1)
          case measure => omega
          case rel => exact ⟨i + 1, nn, by omega, rfl, by go_num, hn0, hn1, hF2, s3.tail1⟩
      | false =>
        cases wx with
        | true =>
          have hF2 := aside (show placeP _ (segs.drop (i + 1)) nn = FIN by rw [← hF.out, placeP, if_pos (by simp)])
          clear hF
          go_wp2
          go_roundg (gk - 1)
          case measure => omega
          case rel => exact ⟨i + 1, nn, by omega, rfl, by go_num, hn0, hn1, hF2, s3.tail1⟩
        | false =>
          by_cases hlt : nn < k2
          · have hFe : k1 + nn = FIN := by rw [← hF.out, placeP, if_neg (by simp), if_pos hlt]
            have e1 : IntKind.u64.wrap (k1 + nn) = FIN := by rw [hFe, wrap_u64]; omega
            clear hF hFe
            go_wp2
            exact k.out _ s3.tail1.tail1
          · have hF2 := aside (show placeP _ (segs.drop (i + 1)) (nn - k2) = FIN by rw [← hF.out, placeP, if_neg (by simp), if_neg hlt])
            have e1 : IntKind.u64.wrap (nn - k2) = nn - k2 := by rw [wrap_u64]; omega
            clear hF
            go_wp2
            go_roundg (gk - 1)
            case measure => omega
            case rel => exact ⟨i + 1, nn - k2, by omega, rfl, by go_num, by omega, by omega, hF2, s3.tail1⟩
    · obtain rfl : i = L := by omega
      have e : segs.drop i = [] := List.drop_eq_nil_of_le (by rw [hL.out]; exact Nat.le_refl _)
      have hFe : (0 : Int) = FIN := by rw [← hF.out, e, placeP]
      subst hFe
      clear e hF
      go_wp2
      exact k.out _ t.tail1
end
end Go.Proofs.Ytippipfogbgemaa

namespace Go.Proofs.Ytippipfogbgemaa
open Go.RowKit
set_option linter.unusedVariables false
set_option linter.unusedSimpArgs false

theorem Sat.lessD {W0 w w' : World} {H H' : Hp} {A B : List Hp} (s : Sat W0 w H A) (s' : Sat W0 w' H' B) (le : ∀ l c, H l = some c → H' l = some c) : Sat W0 w' H B :=
  ⟨s'.below, s'.ro.mono le, s.old, s'.apart, fun h hm => ⟨(s'.each h hm).1, fun l => by
    rcases (s'.each h hm).2 l with e | e
    · exact .inl e
    · cases hH : H l with
      | none => exact .inr rfl
      | some c => rw [le l c hH] at e; cases e⟩⟩

theorem putB_app2 (m : Int → Int) (A : Int) (X Y : List Int) : putB (putB m A X) (A + X.length) Y = putB m A (X ++ Y) := by
  funext x
  unfold putB
  by_cases h1 : A + (X.length : Int) ≤ x
  · rw [if_pos h1, if_pos (by omega), if_pos (by omega), List.getElem?_append_right (by omega), show (x - A).toNat - X.length = (x - (A + X.length)).toNat by omega]
    rw [List.getElem?_eq_none (l := X) (by omega)]; rfl
  · rw [if_neg h1]
    by_cases h2 : A ≤ x
    · rw [if_pos h2, if_pos h2, List.getElem?_append_left (by omega)]
    · rw [if_neg h2, if_neg h2]
/-- bytes put one by one -/
def scD (segs : List SegM) : Int → List Int → (Int → Int) → Int → Int
  | _, [], m => m
  | p, d :: ds, m => scD segs (p + 1) ds (putB m (placeP true segs p) [d])
theorem scP_nil {frm n : Int} : ∀ {l : List SegM} {beg : Int} {m : Int → Int}, scP frm n l beg [] m = m
  | [], beg, m => rfl
  | x :: l, beg, m => by
    rw [scP]
    split
    · rw [List.take_nil, List.drop_nil, putB_nil]; exact scP_nil
    · exact scP_nil
theorem scD_skip {x : SegM} {l : List SegM} (hx : ¬ x.2.2 = true) : ∀ {ds : List Int} {p : Int} {m : Int → Int}, scD (x :: l) p ds m = scD l p ds m
  | [], p, m => rfl
  | d :: ds, p, m => by
    rw [scD, scD, placeP, if_pos hx]
    exact scD_skip hx
theorem scD_past {x : SegM} {l : List SegM} (hx : x.2.2 = true) : ∀ {ds : List Int} {p : Int} {m : Int → Int}, x.2.1 ≤ p → scD (x :: l) p ds m = scD l (p - x.2.1) ds m
  | [], p, m, _ => rfl
  | d :: ds, p, m, h => by
    rw [scD, scD, placeP, if_neg (not_not_intro hx), if_neg (by omega), show p - x.2.1 + 1 = p + 1 - x.2.1 by omega]
    exact scD_past hx (by omega)
theorem scD_hit {x : SegM} {l : List SegM} (hx : x.2.2 = true) : ∀ {d1 d2 : List Int} {p : Int} {m : Int → Int}, p + d1.length ≤ x.2.1 → scD (x :: l) p (d1 ++ d2) m = scD (x :: l) (p + d1.length) d2 (putB m (x.1 + p) d1)
  | [], d2, p, m, _ => by simp [putB_nil]
  | d :: d1, d2, p, m, h => by
    have h1 : p + (d1.length + 1 : Nat) ≤ x.2.1 := by simpa using h
    rw [List.cons_append, scD, placeP, if_neg (not_not_intro hx), if_pos (by omega), scD_hit hx (by omega)]
    have e := putB_app2 m (x.1 + p) [d] d1
    rw [show x.1 + p + (([d] : List Int).length : Nat) = x.1 + (p + 1) by simp; omega] at e
    rw [e, show p + 1 + (d1.length : Int) = p + ((d :: d1).length : Nat) by simp; omega]
    rfl
/-- pieces or bytes: the same memory -/
theorem scP_scD {frm n : Int} : ∀ {l : List SegM} {beg : Int} {ds : List Int} {m : Int → Int}, 0 ≤ beg → (∀ x ∈ l, 0 ≤ x.2.1) → (ds.length : Int) = max 0 (frm + n - max frm beg) → max frm beg - beg + ds.length ≤ wsum l ∨ ds = [] →
    scP frm n l beg ds m = scD l (max frm beg - beg) ds m
  | [], beg, ds, m, hb, hl, hd, hw => by
    rcases hw with hw | rfl
    · have h0 : ds = [] := List.eq_nil_of_length_eq_zero (by simp only [wsum] at hw; omega)
      subst h0; rfl
    · rfl
  | x :: l, beg, ds, m, hb, hl, hd, hw => by
    have hx0 := hl x (List.mem_cons_self ..)
    have hl2 : ∀ y ∈ l, 0 ≤ y.2.1 := fun y hy => hl y (List.mem_cons_of_mem _ hy)
    by_cases hnil : ds = []
    · subst hnil; rw [scP_nil]; rfl
    have hpos : 0 < ds.length := List.length_pos_iff.2 hnil
    replace hw := hw.resolve_right hnil
    by_cases hx : x.2.2 = true
    · rw [scP, if_pos hx]
      rw [wsum, if_pos hx] at hw
      by_cases hq : min (frm + n) (beg + x.2.1) ≤ max frm beg
      · have hp : pieceP x beg frm n = (0, 0) := if_pos hq
        rw [hp]
        simp only [Int.toNat_zero, List.drop_zero, List.take_zero, putB_nil]
        rw [scP_scD (by omega) hl2 (by omega) (.inl (by omega)), scD_past hx (by omega)]
        congr 1
        omega
      · have hp : pieceP x beg frm n = (x.1 + max frm beg - beg, min (frm + n) (beg + x.2.1) - max frm beg) := if_neg hq
        rw [hp]
        simp only
        obtain ⟨q, hqe⟩ : ∃ q : Nat, min (frm + n) (beg + x.2.1) - max frm beg = q := ⟨(min (frm + n) (beg + x.2.1) - max frm beg).toNat, by omega⟩
        rw [hqe, Int.toNat_natCast]
        have hql : q ≤ ds.length := by omega
        have htl : (ds.take q).length = q := by rw [List.length_take]; omega
        have hdl : (ds.drop q).length = ds.length - q := List.length_drop
        have e1 : scD (x :: l) (max frm beg - beg) ds m = scD (x :: l) (max frm beg - beg + q) (ds.drop q) (putB m (x.1 + (max frm beg - beg)) (ds.take q)) := by
          have := scD_hit (x := x) (l := l) hx (d1 := ds.take q) (d2 := ds.drop q) (p := max frm beg - beg) (m := m) (by rw [htl]; omega)
          rw [List.take_append_drop, htl] at this
          exact this
        rw [e1, show x.1 + (max frm beg - beg) = x.1 + max frm beg - beg by omega]
        by_cases hd0 : ds.drop q = []
        · rw [hd0, scP_nil]; rfl
        · have hd1 : 0 < (ds.drop q).length := List.length_pos_iff.2 hd0
          rw [scP_scD (by omega) hl2 (by omega) (.inl (by omega)), scD_past hx (by omega)]
          congr 1
          omega
    · rw [scP, if_neg hx, scD_skip hx]
      rw [wsum, if_neg hx] at hw
      exact scP_scD hb hl2 hd (.inl (by omega))
theorem scP_scD0 {frm : Int} {l : List SegM} {ds : List Int} {m : Int → Int} (hf : 0 ≤ frm) (hl : ∀ x ∈ l, 0 ≤ x.2.1) (h : frm ≤ wsum l ∧ (ds.length : Int) ≤ wsum l - frm) : scP frm ds.length l 0 ds m = scD l frm ds m := by
  have := scP_scD (frm := frm) (n := ds.length) (l := l) (beg := 0) (ds := ds) (m := m) (by omega) hl (by omega) (.inl (by omega))
  rw [show max frm 0 - 0 = frm by omega] at this
  exact this
theorem placeP_in : ∀ {l : List SegM} {n : Int}, 0 ≤ n → n < wsum l → (∀ x ∈ l, 0 ≤ x.2.1) → ∃ x ∈ l, x.2.2 = true ∧ x.1 ≤ placeP true l n ∧ placeP true l n < x.1 + x.2.1
  | [], n, h0, h1, hl => by simp only [wsum] at h1; omega
  | x :: l, n, h0, h1, hl => by
    have hl2 : ∀ y ∈ l, 0 ≤ y.2.1 := fun y hy => hl y (List.mem_cons_of_mem _ hy)
    rw [placeP]
    by_cases hx : x.2.2 = true
    · rw [if_neg (not_not_intro hx)]
      rw [wsum, if_pos hx] at h1
      by_cases hn : n < x.2.1
      · rw [if_pos hn]; exact ⟨x, List.mem_cons_self .., hx, by omega, by omega⟩
      · rw [if_neg hn]
        obtain ⟨y, hy, h⟩ := placeP_in (l := l) (n := n - x.2.1) (by omega) (by omega) hl2
        exact ⟨y, List.mem_cons_of_mem _ hy, h⟩
    · rw [if_pos hx]
      rw [wsum, if_neg hx] at h1
      obtain ⟨y, hy, h⟩ := placeP_in (l := l) (n := n) h0 (by omega) hl2
      exact ⟨y, List.mem_cons_of_mem _ hy, h⟩

end Go.Proofs.Ytippipfogbgemaa
