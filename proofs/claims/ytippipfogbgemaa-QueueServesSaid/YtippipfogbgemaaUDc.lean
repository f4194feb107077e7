/-
  CHAIN, the document's: Scatter, the walk.
-/
import Derived.Test.YtippipfogbgemaaGB
import Derived.Deep.RegionHeld3
set_option linter.unusedVariables false
set_option linter.unusedSimpArgs false
namespace Go.Proofs.Ytippipfogbgemaa
open Go.RowKit
set_option linter.unusedVariables false
set_option linter.unusedSimpArgs false

section
variable {R : Ending → World → Prop} {W0 w : World} {H : Hp} {A F : List Hp} {v : Value} {size : Int} {m : Int → Int} {L : Nat}


set_option maxRecDepth 100000 in
set_option maxHeartbeats 4000000 in
theorem c_refScatter (s : Sat W0 w H A) (rm : RefM H v size m L) {B D : Option Addr} {n c dn dc : Nat} {hp dp : Hp} {segs : List SegM} {ds : List Int} (rd : Rd segE 3 hp (.slice B n c) segs) (rdd : Rd u8E 1 dp (.slice D dn dc) ds)
    (hk : ∀ w', Sat W0 w' H A → Holds w' hp ∧ Holds w' dp) (hb : segs.length ≤ 511 ∧ ∀ x ∈ segs, hasP size x.1 x.2.1 ∧ 0 ≤ x.2.1) (hL : L + ds.length ≤ 90000000000) (hz : 0 ≤ size ∧ size ≤ 268435456) (ta tl frm : Int) (hf : 0 ≤ frm ∧ frm ≤ 18446744073709551615)
    (kb : ¬ (frm ≤ wsum segs ∧ (ds.length : Int) ≤ wsum segs - frm) → ∀ w', Sat W0 w' H A → R (.returned (.tuple #[v, .bool false])) w')
    (k : frm ≤ wsum segs ∧ (ds.length : Int) ≤ wsum segs - frm → ∀ w' H' v', (∀ l c, H l = some c → H' l = some c) → RefM H' v' size (scP frm ds.length segs 0 ds m) (L + ds.length) → Sat W0 w' H' A → R (.returned (.tuple #[v', .bool true])) w') :
    Calls Try.prog 136 #[v, .agg #[.slice B n c, .int .u64 ta, .int .u64 tl], .int .u64 frm, .slice D dn dc] w R := by
  obtain ⟨B0, n0, c0, rfl⟩ := rm.shapeM
  have hB : segB segs := ⟨hb.1, fun x hx => by have := hb.2 x hx; unfold hasP at this; omega⟩
  have hP : segs.length ≤ 511 ∧ ∀ x ∈ segs, 0 ≤ x.1 ∧ x.1 + x.2.1 ≤ 18446744073709551615 ∧ 0 ≤ x.2.1 := ⟨hb.1, fun x hx => by have := hb.2 x hx; unfold hasP at this; omega⟩
  have hl0 : ∀ x ∈ segs, 0 ≤ x.2.1 := fun x hx => (hb.2 x hx).2
  have s1 := ((s.alloc (c := [.int .u64 size, .slice B0 n0 c0]) (t := 28)).alloc (c := [.slice B n c, .int .u64 ta, .int .u64 tl]) (t := 60)).alloc (c := [.int .u64 0, .slice none 0 0]) (t := 28)
  obtain ⟨Z, hZ⟩ : ∃ Z, w.heap.size = Z := ⟨_, rfl⟩
  obtain ⟨Y, hY⟩ : ∃ Y, Z + 1 = Y := ⟨_, rfl⟩
  obtain ⟨X, hX⟩ : ∃ X, Y + 1 = X := ⟨_, rfl⟩
  simp only [World.size_alloc, hZ, hY, hX] at s1
  have hless := aside (show ∀ w' H' A', Sat W0 w' H' A' → (∀ l c, H l = some c → H' l = some c) → Sat W0 w' H A' from fun w' H' A' t le => Sat.lessD s t le)
  have hk1 := aside (show ∀ w', Sat W0 w' H (cellsH ⟨X, 0, none⟩ [.int .u64 0, .slice none 0 0] :: cellsH ⟨Y, 0, none⟩ [.slice B n c, .int .u64 ta, .int .u64 tl] :: cellsH ⟨Z, 0, none⟩ [.int .u64 size, .slice B0 n0 c0] :: A) → Holds w' hp from fun w' t => (hk _ t.tail1.tail1.tail1).1)
  obtain ⟨hdn, hdc, hdc2, gd⟩ := rdd.u8
  obtain ⟨WS, hWS⟩ : ∃ y, wsum segs = y := ⟨_, rfl⟩
  obtain ⟨RS, hRS⟩ : ∃ y, rsum segs = y := ⟨_, rfl⟩
  have hWb : 0 ≤ WS ∧ WS ≤ 137170518016 := by have := hB.sums segs.length; rw [List.take_length, hWS] at this; omega
  obtain ⟨N, hN⟩ : ∃ N, ds.length = N := ⟨_, rfl⟩
  have hpl : ∀ p : Int, 0 ≤ p → p < WS → hasP size (placeP true segs p) 1 ∧ 0 ≤ placeP true segs p ∧ placeP true segs p ≤ 18446744073709551615 := fun p h0 h1 => by
    obtain ⟨x, hx, _, h2, h3⟩ := placeP_in (l := segs) h0 (by rw [hWS]; exact h1) hl0
    have := (hb.2 x hx).1
    unfold hasP at this ⊢
    omega
  have hsd : frm ≤ WS ∧ (N : Int) ≤ WS - frm → scP frm ds.length segs 0 ds m = scD segs frm ds m := fun h => scP_scD0 hf.1 hl0 (by rw [hWS, hN]; exact h)
  have hbd := rdd.bytes
  rw [hWS, hN] at kb
  rw [hWS, hN] at k
  obtain rfl : dn = N := by omega
  have hdb : (dn : Int) ≤ 9223372036854775807 := by omega
  have hLb : (L : Int) + dn ≤ 90000000000 := by omega
  clear s hdn hl0
  replace k := aside k
  replace kb := aside kb
  replace hWS := aside hWS
  replace hRS := aside hRS
  replace hB := aside hB
  replace hP := aside hP
  replace rd := aside rd
  replace rm := aside rm
  replace hk := aside hk
  replace hpl := aside hpl
  replace hsd := aside hsd
  replace hN := aside hN
  replace hb := aside hb
  replace hL := aside hL
  replace rdd := aside rdd
  replace hbd := aside hbd
  replace gd := aside gd
  have z0 := s1.cel Z 0 0 rfl
  have z1 := s1.cel Z 0 1 rfl
  simp only [Nat.zero_add] at z0 z1
  have y0 := s1.cel Y 0 0 rfl
  have y1 := s1.cel Y 0 1 rfl
  have y2 := s1.cel Y 0 2 rfl
  simp only [Nat.zero_add] at y0 y1 y2
  have x0 := s1.cel X 0 0 rfl
  have x1 := s1.cel X 0 1 rfl
  simp only [Nat.zero_add] at x0 x1
  go_enter Try.func136, Try.ntmps136
  go_wp2_with fail
  refine c_refSizes s1 rd.out hk1.out hB.out ta tl ?_
  rw [hRS.out, hWS.out]
  intro w2 s2
  clear s1 hk1 z0 z1 y0 y1 y2 x0 x1
  by_cases c1 : WS < frm
  · clear k
    replace kb := aside (kb.out (by omega))
    have sX := ((Sat.pc s2 X 0).s0 (.int .u64 size)).s 1 (by simp) (.slice B0 n0 c0)
    simp only [List.set_cons_succ, List.set_cons_zero, Nat.zero_add] at sX
    have f0 := sX.c0
    have f1 := sX.c 1 rfl
    have x0 := (Sat.pc s2 X 0).c0
    have x1 := (Sat.pc s2 X 0).c 1 rfl
    have z0 := (Sat.pc s2 Z 0).c0
    have z1 := (Sat.pc s2 Z 0).c 1 rfl
    simp only [Nat.zero_add] at f0 f1 x0 x1 z0 z1
    go_wp2
    refine bodyPost_ret (by simp [results, Try.results136, go_sem, f0.1, f1.1]; try rfl) rfl ?_
    exact kb.out _ sX.wk
  have e1 : IntKind.u64.wrap (WS - frm) = WS - frm := by rw [wrap_u64]; omega
  have e2 : IntKind.u64.wrap (dn : Int) = dn := by rw [wrap_u64]; omega
  by_cases c2 : WS - frm < (dn : Int)
  · clear k
    replace kb := aside (kb.out (by omega))
    have sX := ((Sat.pc s2 X 0).s0 (.int .u64 size)).s 1 (by simp) (.slice B0 n0 c0)
    simp only [List.set_cons_succ, List.set_cons_zero, Nat.zero_add] at sX
    have f0 := sX.c0
    have f1 := sX.c 1 rfl
    have x0 := (Sat.pc s2 X 0).c0
    have x1 := (Sat.pc s2 X 0).c 1 rfl
    have z0 := (Sat.pc s2 Z 0).c0
    have z1 := (Sat.pc s2 Z 0).c 1 rfl
    simp only [Nat.zero_add] at f0 f1 x0 x1 z0 z1
    go_wp2
    refine bodyPost_ret (by simp [results, Try.results136, go_sem, f0.1, f1.1]; try rfl) rfl ?_
    exact kb.out _ sX.wk
  have hin : frm ≤ WS ∧ (dn : Int) ≤ WS - frm := by omega
  have hsd2 := hsd.out hin
  rw [hN.out] at hsd2
  have k2 := k.out hin
  obtain ⟨FIN, hFIN⟩ : ∃ f, scP frm dn segs 0 ds m = f := ⟨_, rfl⟩
  rw [hFIN] at k2 hsd2
  replace k := aside k2
  clear k2 kb hsd hFIN
  go_wp2
  clear e1 e2
  go_loopg [12] dn (fun q v12 w' => ∃ (i : Nat) (H' : Hp) (m' : Int → Int) (B' : Option Addr) (n' c' : Nat), q + i = dn ∧ v12 = .int .i64 i ∧ Aside (∀ l c, H l = some c → H' l = some c) ∧ Aside (RefM H' (.agg #[.int .u64 size, .slice B' n' c']) size m' (L + i)) ∧ Aside (scD segs (frm + i) (ds.drop i) m' = FIN) ∧
    Sat W0 w' H' (cellsH ⟨Z, 0, none⟩ [.int .u64 size, .slice B' n' c'] :: cellsH ⟨Y, 0, none⟩ [.slice B n c, .int .u64 ta, .int .u64 tl] :: cellsH ⟨X, 0, none⟩ [.int .u64 0, .slice none 0 0] :: A))
  case atStart => exact ⟨0, H, m, B0, n0, c0, by omega, rfl, aside (fun _ _ h => h), by simpa using rm, aside (by simpa using hsd2.symm), s2.wk⟩
  clear s2 hsd2
  case round =>
    obtain ⟨i, H1, m1, B1, n1, c1', hq, rfl, le1, rm1, hF, t⟩ := hrel
    have z0 := t.cel Z 0 0 rfl
    have z1 := t.cel Z 0 1 rfl
    simp only [Nat.zero_add] at z0 z1
    have y0 := t.cel Y 0 0 rfl
    have y1 := t.cel Y 0 1 rfl
    have y2 := t.cel Y 0 2 rfl
    simp only [Nat.zero_add] at y0 y1 y2
    by_cases hi : i < dn
    · have hi2 : (0 : Int) ≤ i ∧ (i : Int) < dn := by omega
      have e3 : IntKind.u64.wrap (frm + i) = frm + i := by rw [wrap_u64]; omega
      have e4 : IntKind.u64.wrap (i : Int) = i := by rw [wrap_u64]; omega
      obtain ⟨db, dO, rfl, gdi⟩ := gd.out i (by rw [hN.out]; exact hi)
      have hHd := aside (fun (w' : World) (A' : List Hp) (t : Sat W0 w' H1 (A' ++ A)) => (hk.out _ (hless.out _ _ _ t.tail le1.out)))
      have hq0 := (hHd.out _ [_, _, _] t).2.cell gdi.1
      have hdr : ds.drop i = (ds[i]'(by rw [hN.out]; exact hi)) :: ds.drop (i + 1) := List.drop_eq_getElem_cons (by rw [hN.out]; exact hi)
      have hxb := hbd.out _ (List.getElem_mem (by rw [hN.out]; exact hi : i < ds.length))
      obtain ⟨x, hx⟩ : ∃ x, ds[i]'(by rw [hN.out]; exact hi) = x := ⟨_, rfl⟩
      rw [hx] at hq0 hdr hxb
      obtain ⟨P, hPe⟩ : ∃ P, placeP true segs (frm + i) = P := ⟨_, rfl⟩
      obtain ⟨hh1, hh2⟩ := hpl.out (frm + i) (by omega) (by omega)
      rw [hPe] at hh1 hh2
      have hF2 := aside (show scD segs (frm + (i + 1 : Nat)) (ds.drop (i + 1)) (putB m1 P [x]) = FIN by
        rw [← hF.out, hdr, scD, hPe, show frm + ((i + 1 : Nat) : Int) = frm + i + 1 by omega])
      have sA := t.drew
      have sB := (t.alloc (c := [.int .u8 x]) (t := 5)).drew
      obtain ⟨V, hV⟩ : ∃ V, wr.heap.size = V := ⟨_, rfl⟩
      rw [hV] at sB
      have yb0 := sB.cel Y 0 0 rfl
      have yb1 := sB.cel Y 0 1 rfl
      have yb2 := sB.cel Y 0 2 rfl
      simp only [Nat.zero_add] at yb0 yb1 yb2
      have zb0 := sB.cel Z 0 0 rfl
      have zb1 := sB.cel Z 0 1 rfl
      simp only [Nat.zero_add] at zb0 zb1
      have hps := aside (show 0 ≤ frm + i ∧ frm + i ≤ 18446744073709551615 by omega)
      have hkA := aside (show ∀ w', Sat W0 w' H1 (cellsH ⟨Z, 0, none⟩ [.int .u64 size, .slice B1 n1 c1'] :: cellsH ⟨Y, 0, none⟩ [.slice B n c, .int .u64 ta, .int .u64 tl] :: cellsH ⟨X, 0, none⟩ [.int .u64 0, .slice none 0 0] :: A) → Holds w' hp from fun w' t => (hHd.out _ [_, _, _] t).1)
      have hkB := aside (show ∀ w', Sat W0 w' H1 (cellsH ⟨V, 0, none⟩ [.int .u8 x] :: cellsH ⟨Z, 0, none⟩ [.int .u64 size, .slice B1 n1 c1'] :: cellsH ⟨Y, 0, none⟩ [.slice B n c, .int .u64 ta, .int .u64 tl] :: cellsH ⟨X, 0, none⟩ [.int .u64 0, .slice none 0 0] :: A) → Holds w' hp from fun w' t => (hHd.out _ [_, _, _, _] t).1)
      have hrx := aside (fun V => (Rd.ofCells (b := V) (o := 0) (c := 1) (xs := [x]) [] (by intro y hy; simp at hy; subst hy; exact hxb) (by simp) (by omega) : Rd u8E 1 (cellsH ⟨V, 0, none⟩ [.int .u8 x]) (.slice (some ⟨V, 0, none⟩) 1 1) [x]))
      have hLi := aside (show L + i + ([x] : List Int).length ≤ 100000000000 by simp; omega)
      have hhx := aside (show hasP size P (([x] : List Int).length : Nat) from hh1)
      replace hPe := aside hPe
      replace hh1 := aside hh1
      replace hh2 := aside hh2
      replace hx := aside hx
      clear hdr hF t hxb
      go_wp2
      go_region_with
        (first
          | (go_at_call 68; have hs := sW; with_reducible (refine c_refWrite hs rm1.out hz P hh2.out rdW hLi.out hkW (fun h => absurd hhx.out h) ?_); intro _ w7 H7 v7 le7 rm7 s7
             obtain ⟨B7, n7, c7, rfl⟩ := rm7.shapeM
             have s8q0 := s7.cel Z 0 0 rfl
             have s8t0 := (s7.pc Z 0).s0 (.int .u64 size)
             have s8q1 := s8t0.c 1 rfl
             have s8 := s8t0.s 1 (by simp) (.slice B7 n7 c7)
             simp only [List.set_cons_succ, List.set_cons_zero, Nat.zero_add] at s8 s8q0 s8q1
             have arm : True := trivial)
          | (go_at_call 146; with_reducible (refine c_refPlace sA rd.out hkA.out hP.out ta tl (frm + i) true hps.out ?_); intro w6 s6
             rw [hPe.out]
             have sW := s6.alloc (c := [.int .u8 x]) (t := 5)
             have zw0 := sW.cel Z 0 0 rfl
             have zw1 := sW.cel Z 0 1 rfl
             simp only [Nat.zero_add] at zw0 zw1
             have rdW := hrx.out w6.heap.size
             have hkW := fun w' (t : Sat W0 w' H1 (cellsH ⟨w6.heap.size, 0, none⟩ [.int .u8 x] :: cellsH ⟨Z, 0, none⟩ [.int .u64 size, .slice B1 n1 c1'] :: cellsH ⟨Y, 0, none⟩ [.slice B n c, .int .u64 ta, .int .u64 tl] :: cellsH ⟨X, 0, none⟩ [.int .u64 0, .slice none 0 0] :: A)) => t.head
             have z0 := s6.cel Z 0 0 rfl
             have z1 := s6.cel Z 0 1 rfl
             simp only [Nat.zero_add] at z0 z1
             have q6 := (hHd.out _ [_, _, _] s6).2.cell gdi.1
             rw [hx.out] at q6
             have arm : True := trivial)
          | (go_at_call 146; with_reducible (refine c_refPlace sB rd.out hkB.out hP.out ta tl (frm + i) true hps.out ?_); intro w6 s6
             rw [hPe.out]
             have sW := s6
             have rdW := hrx.out V
             have hkW := fun w' (t : Sat W0 w' H1 (cellsH ⟨V, 0, none⟩ [.int .u8 x] :: cellsH ⟨Z, 0, none⟩ [.int .u64 size, .slice B1 n1 c1'] :: cellsH ⟨Y, 0, none⟩ [.slice B n c, .int .u64 ta, .int .u64 tl] :: cellsH ⟨X, 0, none⟩ [.int .u64 0, .slice none 0 0] :: A)) => t.head
             have z0 := s6.cel Z 0 0 rfl
             have z1 := s6.cel Z 0 1 rfl
             simp only [Nat.zero_add] at z0 z1
             have q6 := (hHd.out _ [_, _, _, _] s6).2.cell gdi.1
             rw [hx.out] at q6
             have arm : True := trivial))
      all_goals
        have rm8 := aside (rm7.leM (L' := L + (i + 1)) (by simp; omega))
        have le8 := aside (show ∀ l c, H l = some c → H7 l = some c from fun l c h => le7 l c (le1.out l c h))
        have s9 := s8.wk (A := cellsH ⟨Z, 0, none⟩ [.int .u64 size, .slice B7 n7 c7] :: cellsH ⟨Y, 0, none⟩ [.slice B n c, .int .u64 ta, .int .u64 tl] :: cellsH ⟨X, 0, none⟩ [.int .u64 0, .slice none 0 0] :: A)
        clear s8 s7 s6 sW sA sB rm7 le7 rdW hkW yb0 yb1 yb2 zb0 zb1 y0 y1 y2 z0 z1 q6 hq0
        go_wp2
        go_roundg (gk - 1)
        case measure => omega
        case rel => exact ⟨i + 1, H7, _, B7, n7, c7, by omega, by go_num, le8, rm8, hF2, s9⟩
    · obtain rfl : i = dn := by omega
      have hF2 : m1 = FIN := by rw [← hF.out, List.drop_eq_nil_of_le (by rw [hN.out]; exact Nat.le_refl _)]; rfl
      subst hF2
      clear hF
      have sX := ((Sat.pc t X 0).s0 (.int .u64 size)).s 1 (by simp) (.slice B1 n1 c1')
      simp only [List.set_cons_succ, List.set_cons_zero, Nat.zero_add] at sX
      have f0 := sX.c0
      have f1 := sX.c 1 rfl
      have x0 := (Sat.pc t X 0).c0
      have x1 := (Sat.pc t X 0).c 1 rfl
      have z0 := (Sat.pc t Z 0).c0
      have z1 := (Sat.pc t Z 0).c 1 rfl
      simp only [Nat.zero_add] at f0 f1 x0 x1 z0 z1
      go_wp2
      refine bodyPost_ret (by simp [results, Try.results136, go_sem, f0.1, f1.1]; try rfl) rfl ?_
      exact k.out _ H1 _ le1.out rm1.out sX.wk
end
end Go.Proofs.Ytippipfogbgemaa
