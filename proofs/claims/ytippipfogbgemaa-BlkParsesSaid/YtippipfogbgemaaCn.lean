/-
  CHAIN: bytes are written into what may be written.
-/
import Derived.Test.YtippipfogbgemaaCm
import Derived.Test.YtippipfogbgemaaVz
import Derived.Test.YtippipfogbgemaaCg
namespace Go.Proofs.Ytippipfogbgemaa
open Go.RowKit
set_option linter.unusedVariables false
set_option linter.unusedSimpArgs false

/-- the memory once bytes have been written through segments -/
def scP (frm n : Int) : List SegM → Int → List Int → (Int → Int) → Int → Int
  | [], _, _, m => m
  | x :: l, beg, ds, m =>
    if x.2.2 = true then
      scP frm n l (beg + x.2.1) (ds.drop (pieceP x beg frm n).2.toNat) (putB m (pieceP x beg frm n).1 (ds.take (pieceP x beg frm n).2.toNat))
    else scP frm n l beg ds m
/-- how many bytes lie ahead of a number -/
def dnP (frm n beg : Int) : Int := max 0 (min (frm + n) beg - frm)
theorem dnP_step {x : SegM} {frm n beg : Int} (hf : 0 ≤ frm) (hn : 0 ≤ n) (hl : 0 ≤ x.2.1) : dnP frm n (beg + x.2.1) = dnP frm n beg + (pieceP x beg frm n).2 ∧ 0 ≤ (pieceP x beg frm n).2 := by
  unfold dnP pieceP
  split <;> simp only <;> omega
theorem dnP_bd {frm n beg : Int} (hn : 0 ≤ n) : 0 ≤ dnP frm n beg ∧ dnP frm n beg ≤ n := by unfold dnP; omega
theorem pieceP_in {x : SegM} {frm n beg : Int} (h : 0 < (pieceP x beg frm n).2) : x.1 ≤ (pieceP x beg frm n).1 ∧ (pieceP x beg frm n).1 + (pieceP x beg frm n).2 ≤ x.1 + x.2.1 := by
  unfold pieceP at h ⊢
  split at h
  · simp at h
  · rename_i h1
    rw [if_neg h1]
    simp only
    omega
theorem scP_in {frm n : Int} : ∀ {l : List SegM} {beg : Int} {ds : List Int} {m : Int → Int} {y : Int}, (∀ x ∈ l, 0 ≤ x.2.1) → 0 ≤ frm → 0 ≤ n → scP frm n l beg ds m y ≠ m y → ∃ x ∈ l, x.2.2 = true ∧ x.1 ≤ y ∧ y < x.1 + x.2.1
  | [], beg, ds, m, y, hl, hf, hn, h => absurd rfl h
  | x :: l, beg, ds, m, y, hl, hf, hn, h => by
    rw [scP] at h
    have hl2 : ∀ x ∈ l, 0 ≤ x.2.1 := fun z hz => hl z (List.mem_cons_of_mem _ hz)
    by_cases hx : x.2.2 = true
    · rw [if_pos hx] at h
      by_cases hp : putB m (pieceP x beg frm n).1 (ds.take (pieceP x beg frm n).2.toNat) y = m y
      · rw [← hp] at h
        obtain ⟨z, hz, h1⟩ := scP_in hl2 hf hn h
        exact ⟨z, List.mem_cons_of_mem _ hz, h1⟩
      · refine ⟨x, List.mem_cons_self .., hx, ?_⟩
        have h2 : ¬ (y < (pieceP x beg frm n).1 ∨ (pieceP x beg frm n).1 + (ds.take (pieceP x beg frm n).2.toNat).length ≤ y) := fun h => hp (putB_out _ _ _ _ h)
        have h3 : (ds.take (pieceP x beg frm n).2.toNat).length ≤ (pieceP x beg frm n).2.toNat := by rw [List.length_take]; omega
        have h4 := pieceP_in (x := x) (frm := frm) (n := n) (beg := beg) (by omega)
        omega
    · rw [if_neg hx] at h
      obtain ⟨z, hz, h1⟩ := scP_in hl2 hf hn h
      exact ⟨z, List.mem_cons_of_mem _ hz, h1⟩

section
variable {R : Ending → World → Prop} {W0 w : World} {H : Hp} {A F : List Hp}

set_option maxRecDepth 100000 in
set_option maxHeartbeats 4000000 in
theorem c_scatter (s : Sat W0 w H A) {b : Nat} {r : RamG} {l : Option LogG} [fr : FrK (κ := Addr) (ρ := fun _ => RamG × Option LogG) ramL ⟨b, 0, none⟩ A (r, l) F] {B D : Option Addr} {n c dn dc : Nat} {hp dp : Hp} {segs : List SegM} {ds : List Int} (rd : Rd segE 3 hp (.slice B n c) segs) (rdd : Rd u8E 1 dp (.slice D dn dc) ds)
    (hk : ∀ w', Sat W0 w' H F → Holds w' hp ∧ Holds w' dp) (hb : segs.length ≤ 511 ∧ ∀ x ∈ segs, hasP r.size x.1 x.2.1 ∧ 0 ≤ x.2.1) (ta tl frm : Int) (hf : 0 ≤ frm ∧ frm ≤ 18446744073709551615)
    (kb : ¬ (frm ≤ wsum segs ∧ (ds.length : Int) ≤ wsum segs - frm) → ∀ w', Sat W0 w' H (ramL ⟨b, 0, none⟩ (r, l) ++ F) → R (.returned (.bool false)) w')
    (k : frm ≤ wsum segs ∧ (ds.length : Int) ≤ wsum segs - frm → ∀ w' r' l', r'.mem = scP frm ds.length segs 0 ds r.mem → r'.size = r.size → (l = none → l' = none) → Sat W0 w' H (ramL ⟨b, 0, none⟩ (r', l') ++ F) → R (.returned (.bool true)) w') :
    Calls Try.prog 33 #[.agg #[.slice B n c, .int .u64 ta, .int .u64 tl], .pointer (some ⟨b, 0, none⟩), .int .u64 frm, .slice D dn dc] w R := by
  have hrs := r.hsize
  have hB : segB segs := ⟨hb.1, fun x hx => by have := hb.2 x hx; unfold hasP at this; omega⟩
  have s1 := (s.front (mk := ramL) (k := ⟨b, 0, none⟩)).alloc (c := [.slice B n c, .int .u64 ta, .int .u64 tl]) (t := 56)
  obtain ⟨Z, hZ⟩ : ∃ Z, w.heap.size = Z := ⟨_, rfl⟩
  rw [hZ] at s1
  obtain ⟨hn0, hcap, hcap2, gg⟩ := rd.seg
  obtain ⟨hdn, hdc, hdc2, gd⟩ := rdd.u8
  obtain ⟨L, hL⟩ : ∃ L, segs.length = L := ⟨_, rfl⟩
  obtain ⟨N, hN⟩ : ∃ N, ds.length = N := ⟨_, rfl⟩
  obtain ⟨WS, hWS⟩ : ∃ y, wsum segs = y := ⟨_, rfl⟩
  have hWb : 0 ≤ WS ∧ WS ≤ 137170518016 := by have := hB.sums segs.length; rw [List.take_length, hWS] at this; omega
  have hN2 : (N : Int) ≤ 9223372036854775807 := by omega
  obtain rfl : n = L := by omega
  clear hn0
  obtain rfl : dn = N := by omega
  rw [hWS] at kb k
  have gds : ∀ p q, p + q ≤ dn → 0 < q → ∃ db dO, D = some ⟨db, dO, none⟩ := fun p q h1 h2 => by
    obtain ⟨db, dO, e, _⟩ := gd 0 (by omega)
    exact ⟨db, dO, e⟩
  rw [hN] at k kb
  replace hL := aside hL
  replace gg : Aside (∀ i (hi : i < n), ∃ b o, B = some ⟨b, o, none⟩ ∧ (∃ fr, hp (.cell b (o + i * 3)) = some (.val (.int .u64 (segs[i]'(by rw [hL.out]; exact hi)).1) fr)) ∧ (∃ fr, hp (.cell b (o + i * 3 + 1)) = some (.val (.int .u64 (segs[i]'(by rw [hL.out]; exact hi)).2.1) fr)) ∧ (∃ fr, hp (.cell b (o + i * 3 + 2)) = some (.val (.bool (segs[i]'(by rw [hL.out]; exact hi)).2.2) fr))) := aside fun i hi => gg i (by rw [hL.out]; exact hi)
  have hL5 : (n : Int) ≤ 511 := by have := hb.1; have := hL.out; omega
  clear s fr
  replace hk := aside hk
  replace gds := aside gds
  replace hN := aside hN
  replace hWS := aside hWS
  replace kb := aside kb
  replace k := aside k
  replace hdn := aside hdn
  replace hrs := aside hrs
  replace hB := aside hB
  replace hb := aside hb
  replace rd := aside rd
  replace rdd := aside rdd
  clear gd
  have y0 := s1.cel Z 0 0 rfl
  have y1 := s1.cel Z 0 1 rfl
  have y2 := s1.cel Z 0 2 rfl
  simp only [Nat.zero_add] at y0 y1 y2
  have hkz : ∀ (G : List Hp) w', Sat W0 w' H (G ++ F) → Holds w' hp := fun G w' t => (hk.out _ (Sat.tail t)).1
  have hkz1 : ∀ w', Sat W0 w' H (cellsH ⟨Z, 0, none⟩ [.slice B n c, .int .u64 ta, .int .u64 tl] :: (ramL ⟨b, 0, none⟩ (r, l) ++ F)) → Holds w' hp := fun w' t => hkz _ w' (Sat.tail1 t)
  replace hkz1 := aside hkz1
  clear hkz
  go_enter Try.func33, Try.ntmps33
  go_wp2_with fail
  refine c_sizes s1 rd.out hkz1.out hB.out ta tl ?_
  rw [hWS.out]
  obtain ⟨RS, hRS⟩ : ∃ y, rsum segs = y := ⟨_, rfl⟩
  rw [hRS]
  clear hRS
  intro w2 s2
  have y0 := s2.cel Z 0 0 rfl
  have y1 := s2.cel Z 0 1 rfl
  have y2 := s2.cel Z 0 2 rfl
  simp only [Nat.zero_add] at y0 y1 y2
  clear s1
  by_cases c1 : WS < frm
  · go_wp2
    exact kb.out (by omega) _ s2.tail1
  have e1 : IntKind.u64.wrap (WS - frm) = WS - frm := by rw [wrap_u64]; omega
  by_cases c2 : WS - frm < (dn : Int)
  · go_wp2
    exact kb.out (by omega) _ s2.tail1
  replace k := aside (k.out ⟨by omega, by omega⟩)
  clear kb
  obtain ⟨FIN, hFIN⟩ : ∃ FIN, scP frm dn segs 0 ds r.mem = FIN := ⟨_, rfl⟩
  rw [hFIN] at k
  go_wp2
  clear y0 y1 y2
  go_loopg [12, 13, 39] n (fun q v12 v13 v39 w' => ∃ (i p : Nat) (r' : RamG) (l' : Option LogG), q + i = n ∧ v12 = .int .u64 (wsum (segs.take i)) ∧ v13 = .int .u64 p ∧ v39 = .int .i64 i ∧ Aside ((p : Int) = dnP frm dn (wsum (segs.take i))) ∧ Aside (scP frm dn (segs.drop i) (wsum (segs.take i)) (ds.drop p) r'.mem = FIN) ∧ Aside (r'.size = r.size ∧ (l = none → l' = none)) ∧ Sat W0 w' H (cellsH ⟨Z, 0, none⟩ [.slice B n c, .int .u64 ta, .int .u64 tl] :: (ramL ⟨b, 0, none⟩ (r', l') ++ F)))
  case atStart => exact ⟨0, 0, r, l, rfl, rfl, rfl, rfl, aside (by rw [List.take_zero]; unfold dnP; simp only [wsum]; omega), aside hFIN, aside ⟨rfl, fun h => h⟩, s2⟩
  clear s2 hFIN
  case round =>
    obtain ⟨i, p, r', l', hq, rfl, rfl, rfl, hp1, hFIN, hr', t⟩ := hrel
    have y0 := t.cel Z 0 0 rfl
    have y1 := t.cel Z 0 1 rfl
    have y2 := t.cel Z 0 2 rfl
    simp only [Nat.zero_add] at y0 y1 y2
    have hs := aside (hB.out.sums i)
    by_cases hi : i < n
    · have hs2 := aside (hB.out.sums (i + 1))
      have hw1 := aside (wsum_one (l := segs) (i := i) (by rw [hL.out]; exact hi))
      have hdr : segs.drop i = (segs[i]'(by rw [hL.out]; exact hi)) :: segs.drop (i + 1) := List.drop_eq_getElem_cons (by rw [hL.out]; exact hi)
      have hseg := aside (hb.out.2 _ (List.getElem_mem (by rw [hL.out]; exact hi : i < segs.length)))
      obtain ⟨b', o', rfl, d0, d1, d2⟩ := gg.out i hi
      have H1 := (hk.out _ t.tail1.tail).1
      have q0 := H1.cell d0
      have q1 := H1.cell d1
      have q2 := H1.cell d2
      have i1 : (0 : Int) ≤ i ∧ (i : Int) < n := by omega
      obtain ⟨⟨k1, k2, k3⟩, hk1⟩ : ∃ y, (segs[i]'(by rw [hL.out]; exact hi)) = y := ⟨_, rfl⟩
      rw [hk1] at q0 q1 q2 hw1 hdr hseg
      rw [hdr] at hFIN
      simp only at q0 q1 q2 hw1 hseg
      obtain ⟨BG, hBG⟩ : ∃ y, wsum (segs.take i) = y := ⟨_, rfl⟩
      rw [hBG] at hw1 hs hp1 hFIN ⊢
      clear hBG hk1 d0 d1 d2 H1 hdr
      have s3 := t.alloc (c := [.int .u64 k1, .int .u64 k2, .bool k3]) (t := 71)
      obtain ⟨V, hV⟩ : ∃ V, wr.heap.size = V := ⟨_, rfl⟩
      rw [hV] at s3
      have m0 := s3.cel V 0 0 rfl
      have m1 := s3.cel V 0 1 rfl
      have m2 := s3.cel V 0 2 rfl
      simp only [Nat.zero_add] at m0 m1 m2
      have hk12 : 0 ≤ k2 ∧ k2 ≤ 268435456 ∧ 0 ≤ k1 ∧ k1 ≤ 1099511627776 := by have h1 := hseg.out; have h2 := hrs.out; unfold hasP at h1; omega
      have hBGb : 0 ≤ BG ∧ BG ≤ 1099511627776 := by have := hs.out; omega
      cases k3 with
      | false =>
        have hw2 := aside (show wsum (segs.take (i + 1)) = BG by rw [hw1.out]; simp)
        replace hFIN := aside (show scP frm dn (segs.drop (i + 1)) BG (ds.drop p) r'.mem = FIN by rw [← hFIN.out, scP]; simp)
        clear hs hs2 hw1 t
        go_wp2
        go_roundg (gk - 1)
        case measure => omega
        case rel => exact ⟨i + 1, p, r', l', by omega, by rw [hw2.out], rfl, by go_num, by rw [hw2.out]; exact hp1, by rw [hw2.out]; exact hFIN, hr', s3.wk⟩
      | true =>
        have hw2 := aside (show wsum (segs.take (i + 1)) = BG + k2 by rw [hw1.out]; simp)
        have e2 : IntKind.u64.wrap (BG + k2) = BG + k2 := by rw [wrap_u64]; omega
        obtain ⟨hst, hst0⟩ := dnP_step (x := (k1, k2, true)) (frm := frm) (n := dn) (beg := BG) (by omega) (by omega) hk12.1
        have hpin := pieceP_in (x := (k1, k2, true)) (frm := frm) (n := dn) (beg := BG)
        have hdb := dnP_bd (frm := frm) (n := dn) (beg := BG + k2) (by omega)
        simp only at hst hpin
        obtain ⟨P1, hP1⟩ : ∃ y, (pieceP (k1, k2, true) BG frm dn).1 = y := ⟨_, rfl⟩
        obtain ⟨q, hP2⟩ : ∃ y : Nat, (pieceP (k1, k2, true) BG frm dn).2 = y := ⟨(pieceP (k1, k2, true) BG frm dn).2.toNat, by omega⟩
        have hF2 : scP frm dn (segs.drop (i + 1)) (BG + k2) ((ds.drop p).drop q) (putB r'.mem P1 ((ds.drop p).take q)) = FIN := by
          rw [← hFIN.out, scP, if_pos rfl, hP1, hP2, Int.toNat_natCast]
        rw [hP1, hP2] at hpin
        rw [hP2] at hst
        have hpq : p + q ≤ dn := by have := hp1.out; omega
        obtain ⟨z, hz⟩ : ∃ z : Nat, p + q = z := ⟨_, rfl⟩
        have hpq1 := aside (show (z : Int) = dnP frm dn (BG + k2) by have := hp1.out; omega)
        have e3 : IntKind.u64.wrap ((p : Int) + q) = (z : Int) := by rw [wrap_u64]; omega
        have hhas := aside (show 0 < q → r'.has P1 q by
          intro h
          have h1 := hpin (by omega)
          have h2 := hseg.out
          have h3 := hr'.out.1
          unfold hasP at h2
          unfold RamG.has
          omega)
        have hP1b := aside (show 0 < q → 0 ≤ P1 ∧ P1 ≤ 18446744073709551615 by intro h; have h1 := hpin (by omega); omega)
        clear hs hs2 hw1 t hpin hst hdb hFIN
        replace hP1 := aside hP1
        replace hP2 := aside hP2
        replace hF2 := aside hF2
        replace hq := aside hq
        replace hz := aside hz
        replace hpq := aside hpq
        go_wp2_with fail
        refine c_chPiece s3 k1 k2 true BG frm dn hBGb (by omega) (by omega) ⟨hk12.1, hk12.2.1⟩ hk12.2.2 ?_
        rw [hP1.out, hP2.out]
        intro w4 s4
        have m0 := s4.cel V 0 0 rfl
        have m1 := s4.cel V 0 1 rfl
        have m2 := s4.cel V 0 2 rfl
        simp only [Nat.zero_add] at m0 m1 m2
        clear s3
        by_cases hq0 : q = 0
        · subst hq0
          obtain rfl : p = z := by have := hz.out; omega
          clear e3
          replace hF2 := aside (show scP frm dn (segs.drop (i + 1)) (BG + k2) (ds.drop p) r'.mem = FIN by have := hF2.out; simpa [putB_nil] using this)
          go_wp2
          go_roundg (gk - 1)
          case measure => have := hq.out; omega
          case rel => exact ⟨i + 1, p, r', l', by have := hq.out; omega, by rw [hw2.out], rfl, by go_num, by rw [hw2.out]; exact hpq1, by rw [hw2.out]; exact hF2, hr', s4.wk⟩
        · have hq1 : (0 : Int) < q := by omega
          obtain ⟨db, dO, rfl⟩ := gds.out p q hpq.out (by omega)
          have hzp : p ≤ z ∧ z ≤ dn := by have := hz.out; have := hpq.out; omega
          have rdc := aside (rdd.out.cut8 p z hzp.1 hzp.2)
          have hcp : ¬ (dc = p) := by have := hz.out; have := hpq.out; omega
          have hpd : (p : Int) ≤ (z : Int) ∧ (z : Int) ≤ (dc : Int) := by omega
          have hcut : (ds.take z).drop p = (ds.drop p).take q := by rw [List.drop_take, show z - p = q by have := hz.out; omega]
          have hln := aside (show ((ds.take z).drop p).length = q by rw [List.length_drop, List.length_take, show ds.length = dn from hN.out]; have := hz.out; have := hpq.out; omega)
          have hdd := aside (show ds.drop z = (ds.drop p).drop q by rw [List.drop_drop, hz.out])
          replace hcut := aside hcut
          clear hzp
          go_wp2_with fail
          refine c_ramWrite s4 P1 (hP1b.out (by omega)) rdc.out (fun w' t => (hk.out _ t.tail1.tail1).2) ?_ ?_
          · intro h
            exact absurd (by rw [hln.out]; exact hhas.out (by omega)) h
          · intro _ w5 r5 l5 hm5 hz5 hl5 s5
            have hF3 := aside (show scP frm dn (segs.drop (i + 1)) (BG + k2) (ds.drop z) r5.mem = FIN by rw [hm5, hcut.out, hdd.out]; exact hF2.out)
            have hr5 := aside (show r5.size = r.size ∧ (l = none → l5 = none) from ⟨hz5.trans hr'.out.1, fun h => by
              have h1 := hr'.out.2 h
              subst h1
              cases l5 with
              | none => rfl
              | some x => simp [lgs, addW] at hl5⟩)
            have m0 := s5.cel V 0 0 rfl
            have m1 := s5.cel V 0 1 rfl
            have m2 := s5.cel V 0 2 rfl
            simp only [Nat.zero_add] at m0 m1 m2
            clear s4 hm5 hz5 hl5 hln hdd hcut
            go_wp2
            go_roundg (gk - 1)
            case measure => have := hq.out; omega
            case rel => exact ⟨i + 1, z, r5, l5, by have := hq.out; omega, by rw [hw2.out], rfl, by go_num, by rw [hw2.out]; exact hpq1, by rw [hw2.out]; exact hF3, hr5, s5.wk⟩
    · obtain rfl : i = n := by omega
      have e1 : segs.drop i = [] := List.drop_eq_nil_of_le (by rw [hL.out]; exact Nat.le_refl _)
      rw [e1] at hFIN
      replace hFIN : Aside (r'.mem = FIN) := hFIN
      generalize wsum (segs.take i) = BG at *
      go_wp2
      exact k.out _ r' l' hFIN.out hr'.out.1 hr'.out.2 t.tail1
end
end Go.Proofs.Ytippipfogbgemaa
