/-
  ChainWithin returns true for every memory, layout, head and bytes; no condition.
-/
import Derived.Test.YtippipfogbgemaaCf
import Derived.Test.YtippipfogbgemaaCn
import Derived.Test.YtippipfogbgemaaCo
import Derived.Test.YtippipfogbgemaaVh
import Derived.Test.YtippipfogbgemaaVy
import Derived.Test.YtippipfogbgemaaWb
import Derived.Test.YtippipfogbgemaaWi
import Derived.Test.YtippipfogbgemaaWis
namespace Go.Proofs.Ytippipfogbgemaa
open Go.RowKit
set_option linter.unusedVariables false
set_option linter.unusedSimpArgs false


set_option maxRecDepth 100000 in
set_option maxHeartbeats 4000000 in
theorem law_ChainWithin (W : World) {v0 : Value} {cs1 cs2 : Array Value} {ps : List PutM} {k : AskM} {qw : WriteM} (e0 : sliceE putE 2 (look W) ps [v0]) (e1 : askE (look W) k cs1.toList) (e2 : writeE (look W) qw cs2.toList) :
    Calls Try.prog 7 #[v0, .agg cs1, .agg cs2] W fun e w' => e = .returned (.bool true) ∧ Below W.heap.size W w' := by
  obtain ⟨_, hv0, e0⟩ := e0
  obtain rfl := (List.cons.inj hv0).1
  clear hv0
  have e1q : cs1.toList = k.vals := e1
  obtain rfl : cs1 = k.vals.toArray := by apply Array.ext'; simpa using e1q
  clear e1 e1q
  obtain ⟨⟨n, d, a, u, hn, hd, ha, hu⟩, head, ind, hhead⟩ := k
  obtain ⟨frm, ds, hfrm⟩ := qw
  obtain ⟨dv, e2q, rdd0⟩ := e2
  replace rdd0 : Rd u8E 1 (look W) dv ds := rdd0
  obtain ⟨D, dc, rfl, rdd0⟩ := rdd0.open_
  obtain rfl : cs2 = #[.int .u64 frm, .slice D ds.length dc] := by apply Array.ext'; simpa [WriteM.vals] using e2q
  clear e2q
  simp only [AskM.vals, LayM.vals, List.cons_append, List.nil_append]
  have s0 := ((Sat.start W).alloc (c := [.int .i64 n, .int .u64 d, .int .u64 a, .int .u64 u, .int .i64 head, .bool ind]) (t := 48)).alloc (c := [.int .u64 frm, .slice D ds.length dc]) (t := 74)
  obtain ⟨Z, hZ⟩ : ∃ Z, W.heap.size = Z := ⟨_, rfl⟩
  simp only [World.size_alloc] at s0
  rw [hZ] at s0
  have hdl : (ds.length : Int) ≤ 9223372036854775807 := by obtain ⟨_, h1, h2, _⟩ := rdd0.u8; omega
  obtain ⟨N9, hN9⟩ : ∃ N9, ds.length = N9 := ⟨_, rfl⟩
  rw [hN9] at s0 hdl rdd0 ⊢
  replace rdd0 := aside rdd0
  replace hN9 := aside hN9
  go_enter Try.func7, Try.ntmps7
  go_wp2_with fail
  refine c_chainAwake s0 ?_; intro wA s1
  go_wp2_with fail
  refine c_Memory s1 e0 ?_ ?_
  · intro wB H2 v2 m2 le r2 s2
    obtain ⟨B, n, c, rfl⟩ := r2.shapeM
    have s3 := s2.alloc (c := [.int .u64 8192, .slice B n c]) (t := 28)
    clear s0 s1 s2
    go_wp2
    go_ret
    exact ⟨rfl, hZ ▸ s3.below⟩
  · intro wB H2 v2 b r le hz rm s2
    obtain ⟨B, n0, c, rfl⟩ := rm.shapeM
    have s3 := s2.alloc (c := [.int .u64 8192, .slice B n0 c]) (t := 28)
    obtain ⟨Y, hY⟩ : ∃ Y, wB.heap.size = Y := ⟨_, rfl⟩
    rw [hY] at s3
    have rdd := aside (rdd0.out.mono u8E_mono le)
    have y0 := s3.cel Y 0 0 rfl
    have y1 := s3.cel Y 0 1 rfl
    simp only [Nat.zero_add] at y0 y1
    have z0 := s3.cel Z 0 0 rfl
    have z1 := s3.cel Z 0 1 rfl
    have z2 := s3.cel Z 0 2 rfl
    have z3 := s3.cel Z 0 3 rfl
    have z4 := s3.cel Z 0 4 rfl
    have z5 := s3.cel Z 0 5 rfl
    simp only [Nat.zero_add] at z0 z1 z2 z3 z4 z5
    have v0 := s3.cel (Z+1) 0 0 rfl
    have v1 := s3.cel (Z+1) 0 1 rfl
    simp only [Nat.zero_add] at v0 v1
    clear s1 s2 s0 rdd0
    go_wp2_with fail
    refine c_refCheck s3 rm (by omega) n d a u hn hd ha hu ?_
    intro w4 s4
    by_cases hc : layP n d a u ∧ liesP 8192 n d a u
    · have hc0 : chk 8192 n d a u = 0 := by unfold chk; rw [if_pos hc.1, if_pos hc.2]
      rw [hc0]
      have hnb := powP_bd hc.1.1
      have z0 := s4.cel Z 0 0 rfl
      have z1 := s4.cel Z 0 1 rfl
      have z2 := s4.cel Z 0 2 rfl
      have z3 := s4.cel Z 0 3 rfl
      have z4 := s4.cel Z 0 4 rfl
      have z5 := s4.cel Z 0 5 rfl
      simp only [Nat.zero_add] at z0 z1 z2 z3 z4 z5
      have v0 := s4.cel (Z+1) 0 0 rfl
      have v1 := s4.cel (Z+1) 0 1 rfl
      simp only [Nat.zero_add] at v0 v1
      replace hz := aside hz
      replace hY := aside hY
      clear s3 hc hc0
      by_cases h100 : (100 : Int) < (N9 : Int)
      · go_wp2
        go_ret
        exact ⟨rfl, hZ ▸ s4.below⟩
      obtain ⟨N, rfl⟩ : ∃ N : Nat, n = N := ⟨n.toNat, by omega⟩
      have hN : N ≤ 256 := by omega
      go_wp2_with fail
      refine c_walk s4 N d a u head ind hN hd hhead ?_
      intro e segs ta tl hW w6 v6 h6 l6 own6 hx6 s6
      obtain rfl := hx6.none
      obtain ⟨P1, P2, P3, P4, P5⟩ := walkP_lies r.hmem hW hN
      have rd := own6.rdG
      obtain ⟨A1, c1, rfl, rd⟩ := rd.open_
      obtain ⟨hn0, hcap, hcap2, gg⟩ := rd.seg
      clear hn0
      have s7 := s6.alloc (c := [.slice A1 segs.length c1, .int .u64 ta, .int .u64 tl]) (t := 56)
      obtain ⟨X, hX⟩ : ∃ X, w6.heap.size = X := ⟨_, rfl⟩
      rw [hX] at s7
      obtain ⟨L, hL⟩ : ∃ L, segs.length = L := ⟨_, rfl⟩
      rw [hL] at s7 hcap rd ⊢
      have hL5 : (L : Int) ≤ 511 := by omega
      replace hL := aside hL
      replace gg : Aside (∀ i (hi : i < L), ∃ b o, A1 = some ⟨b, o, none⟩ ∧ (∃ fr, h6 (.cell b (o + i * 3)) = some (.val (.int .u64 (segs[i]'(by rw [hL.out]; exact hi)).1) fr)) ∧ (∃ fr, h6 (.cell b (o + i * 3 + 1)) = some (.val (.int .u64 (segs[i]'(by rw [hL.out]; exact hi)).2.1) fr)) ∧ (∃ fr, h6 (.cell b (o + i * 3 + 2)) = some (.val (.bool (segs[i]'(by rw [hL.out]; exact hi)).2.2) fr))) := aside fun i hi => gg i (by rw [hL.out]; exact hi)
      have hP := aside (show segs.length ≤ 511 ∧ ∀ x ∈ segs, hasP r.size x.1 x.2.1 ∧ 0 ≤ x.2.1 from ⟨P3, P1⟩)
      clear s4 s6 P1 P2 P3 P4 P5 hW hx6 own6
      replace rd := aside rd
      have z0 := s7.cel Z 0 0 rfl
      have z1 := s7.cel Z 0 1 rfl
      have z2 := s7.cel Z 0 2 rfl
      have z3 := s7.cel Z 0 3 rfl
      have z4 := s7.cel Z 0 4 rfl
      have z5 := s7.cel Z 0 5 rfl
      simp only [Nat.zero_add] at z0 z1 z2 z3 z4 z5
      have v0 := s7.cel (Z+1) 0 0 rfl
      have v1 := s7.cel (Z+1) 0 1 rfl
      simp only [Nat.zero_add] at v0 v1
      have x0 := s7.cel X 0 0 rfl
      have x1 := s7.cel X 0 1 rfl
      have x2 := s7.cel X 0 2 rfl
      simp only [Nat.zero_add] at x0 x1 x2
      by_cases he : e = 0
      · subst he
        go_wp2_with fail
        refine c_ramCopy s7 ?_
        intro w8 cp r5 hz5 hm5 s8
        replace hz5 := aside hz5
        replace hm5 := aside hm5
        have z0 := s8.cel Z 0 0 rfl
        have z1 := s8.cel Z 0 1 rfl
        have z2 := s8.cel Z 0 2 rfl
        have z3 := s8.cel Z 0 3 rfl
        have z4 := s8.cel Z 0 4 rfl
        have z5 := s8.cel Z 0 5 rfl
        simp only [Nat.zero_add] at z0 z1 z2 z3 z4 z5
        have v0 := s8.cel (Z+1) 0 0 rfl
        have v1 := s8.cel (Z+1) 0 1 rfl
        simp only [Nat.zero_add] at v0 v1
        have x0 := s8.cel X 0 0 rfl
        have x1 := s8.cel X 0 1 rfl
        have x2 := s8.cel X 0 2 rfl
        simp only [Nat.zero_add] at x0 x1 x2
        clear s7
        go_wp2_with fail
        refine c_scatter s8 rd.out rdd.out (fun w' t => ⟨(Sat.pull (h := h6) t).head, t.ro⟩) hP.out ta tl frm hfrm ?_ ?_
        · intro _ w9 s9
          have s9' : Sat W w9 H2 (ramL ⟨cp, 0, none⟩ (r5, none) ++ (ramL ⟨b, 0, none⟩ (r, none) ++ [])) := s9.wk
          have hD := aside (show difR r5 r 5000 = [] from difR_same 5000 (by unfold RamG.eqv; rw [hm5.out]; intros; rfl))
          clear s8 s9
          go_wp2_with fail
          refine c_ramDiffer s9' hz5.out.symm 5000 (by omega) ?_
          intro w10 v10 h10 own10 s10
          rw [hD.out] at own10
          have rd10 := own10.rdS
          obtain ⟨A10, c10, rfl, rd10⟩ := rd10.open_
          clear s9'
          replace own10 := aside own10
          replace rd10 := aside rd10
          go_wp2
          go_ret
          exact ⟨rfl, hZ ▸ s10.below⟩
        · intro hcond w9 r' l' hm' hz' hl' s9
          obtain rfl := hl' rfl
          have s9' : Sat W w9 H2 (ramL ⟨cp, 0, none⟩ (r5, none) ++ (ramL ⟨b, 0, none⟩ (r', none) ++ (cellsH ⟨X, 0, none⟩ [.slice A1 L c1, .int .u64 ta, .int .u64 tl] :: h6 :: []))) := s9.wk
          have hss : r'.size = r5.size := hz'.trans hz5.out.symm
          obtain ⟨out, hout⟩ : ∃ out, difR r5 r' 5000 = out := ⟨_, rfl⟩
          have hpl := aside (show ∀ s ∈ out, 1 ≤ s.2 ∧ 2147483648 ≤ s.1 ∧ s.1 + s.2 ≤ 4294967296 ∧ ∀ y, s.1 ≤ y → y < s.1 + s.2 → inAny segs y = true from fun s hs => by
            rw [← hout] at hs
            obtain ⟨h1, h2⟩ := difL_places s hs
            have hin : ∀ y, s.1 ≤ y → y < s.1 + s.2 → (2147483648 ≤ y ∧ y < 2147483648 + r5.size) ∧ inAny segs y = true := fun y a b => by
              have h3 := mem_dfrom.1 (h2 y a b)
              have h4 := r5.hsize
              refine ⟨by omega, inAny_true ?_⟩
              have hne := h3.2.2
              rw [hm5.out, hm'] at hne
              exact scP_in (fun x hx => (hP.out.2 x hx).2) hfrm.1 (by omega) (fun h => hne h.symm)
            have h4 := r5.hsize
            have a1 := (hin s.1 (by omega) (by omega)).1
            have a2 := (hin (s.1 + s.2 - 1) (by omega) (by omega)).1
            exact ⟨h1, a1.1, by omega, fun y a b => (hin y a b).2⟩)
          replace hout := aside hout
          replace hm' := aside hm'
          replace hz' := aside hz'
          replace hss := aside hss
          replace hcond := aside hcond
          clear s8 s9 hfrm
          go_wp2_with fail
          refine c_ramDiffer s9' hss.out 5000 (by omega) ?_
          intro w10 v10 h10 own10 s10
          rw [hout.out] at own10
          have rd10 := own10.rdS
          obtain ⟨A10, c10, rfl, rd10⟩ := rd10.open_
          obtain ⟨hn1, hc71, hc72, g10⟩ := rd10.span
          clear hn1
          obtain ⟨M, hM⟩ : ∃ M, out.length = M := ⟨_, rfl⟩
          rw [hM] at hc71 ⊢
          have hM9 : (M : Int) ≤ 9223372036854775807 := by omega
          replace hM := aside hM
          clear s9' own10 rd10 x0 x1 x2 z0 z1 z2 z3 z4 z5 v0 v1 y0 y1
          replace g10 := aside g10
          replace hc71 := aside hc71
          go_wp2
          go_loopg [14] M (fun q v14 w' => ∃ (j : Nat), q + j = M ∧ v14 = .int .i64 j ∧ Sat W w' H2 (h10 :: cellsH ⟨X, 0, none⟩ [.slice A1 L c1, .int .u64 ta, .int .u64 tl] :: h6 :: []))
          case atStart => exact ⟨0, by simp, rfl, s10.wk⟩
          clear s10
          case round =>
            obtain ⟨j, hqj, rfl, s'⟩ := hrel
            by_cases hj : j < M
            · have hj2 : (0 : Int) ≤ j ∧ (j : Int) < M := by omega
              obtain ⟨b7, o7, rfl, hc0, hc1⟩ := g10.out j (by have := hM.out; omega)
              have hp := hpl.out (out[j]'(by have := hM.out; omega)) (List.getElem_mem _)
              have d0 := (Sat.pull (h := h10) s').head.cell hc0
              obtain ⟨p, hp1⟩ : ∃ p, (out[j]'(by have := hM.out; omega)).1 = p := ⟨_, rfl⟩
              obtain ⟨q, hq1⟩ : ∃ q : Nat, (out[j]'(by have := hM.out; omega)).2 = q := ⟨(out[j]'(by have := hM.out; omega)).2.toNat, by omega⟩
              rw [hp1] at d0 hp hc0
              rw [hq1] at hp hc1
              have hpb : 2147483648 ≤ p ∧ p + q ≤ 4294967296 := ⟨hp.2.1, hp.2.2.1⟩
              replace hp := aside hp.2.2.2
              clear hp1 hq1
              obtain ⟨ko, rfl⟩ : ∃ ko : Nat, ko = gk := ⟨_, rfl⟩
              have hqj2 := aside (show ko - 1 + (j + 1) = M ∧ ko - 1 < ko by omega)
              clear hqj
              replace hc0 := aside hc0
              replace hc1 := aside hc1
              go_wp2
              clear d0
              go_loopg [15] q (fun g v15 w' => ∃ (x : Nat) (y : Int), g + x = q ∧ y = p + x ∧ v15 = .int .u64 y ∧ Sat W w' H2 (h10 :: cellsH ⟨X, 0, none⟩ [.slice A1 L c1, .int .u64 ta, .int .u64 tl] :: h6 :: []))
              case atStart => exact ⟨0, p, by simp, by simp, rfl, s'⟩
              clear s'
              case round =>
                obtain ⟨x, y, hqx, hy, rfl, s'⟩ := hrel
                have d0 := (Sat.pull (h := h10) s').head.cell hc0.out
                have d1 := (Sat.pull (h := h10) s').head.cell hc1.out
                have ey : IntKind.u64.wrap (y - p) = x := by rw [wrap_u64]; omega
                have ey1 : IntKind.u64.wrap (y + 1) = y + 1 := by rw [wrap_u64]; omega
                have hyb : 0 ≤ y ∧ y ≤ 4294967296 := by omega
                by_cases hx : x < q
                · have hx2 : (x : Int) < q := by omega
                  have hin := aside (hp.out y (by omega) (by omega))
                  obtain ⟨km, rfl⟩ : ∃ km : Nat, km = gk := ⟨_, rfl⟩
                  have hqx2 := aside (show km - 1 + (x + 1) = q ∧ km - 1 < km by omega)
                  clear hqx
                  replace hy := aside hy
                  replace hpb := aside hpb
                  go_wp2
                  go_quiet (fail)
                  have s2 := s'.drewN nq
                  clear s' d0 d1 ey
                  have x0 := s2.cel X 0 0 rfl
                  have x1 := s2.cel X 0 1 rfl
                  have x2 := s2.cel X 0 2 rfl
                  simp only [Nat.zero_add] at x0 x1 x2
                  go_wp2
                  clear x0 x1 x2
                  go_loopg [16, 17] L (fun g v16 v17 w' => ∃ (e : Nat), g + e = L ∧ v17 = .int .i64 e ∧ v16 = .bool (inAny (segs.take e) y) ∧ Sat W w' H2 (h10 :: cellsH ⟨X, 0, none⟩ [.slice A1 L c1, .int .u64 ta, .int .u64 tl] :: h6 :: []))
                  case atStart => exact ⟨0, by simp, rfl, rfl, s2⟩
                  clear s2
                  case round =>
                    obtain ⟨e, hqk, rfl, rfl, s'⟩ := hrel
                    have x0 := s'.cel X 0 0 rfl
                    have x1 := s'.cel X 0 1 rfl
                    have x2 := s'.cel X 0 2 rfl
                    simp only [Nat.zero_add] at x0 x1 x2
                    by_cases hk : e < L
                    · have i1 : (0 : Int) ≤ e ∧ (e : Int) < L := by omega
                      have hin1 := aside (inAny_one (l := segs) (i := e) y (by rw [hL.out]; exact hk))
                      obtain ⟨b', o', rfl, d0, d1, d2⟩ := gg.out e hk
                      have H1 := (Sat.pull (h := h6) s').head
                      have q0 := H1.cell d0
                      have q1 := H1.cell d1
                      have q2 := H1.cell d2
                      have hseg := (hP.out.2 _ (List.getElem_mem (by rw [hL.out]; exact hk : e < segs.length)))
                      obtain ⟨⟨k1, k2, k3⟩, hk1⟩ : ∃ z, (segs[e]'(by rw [hL.out]; exact hk)) = z := ⟨_, rfl⟩
                      rw [hk1] at q0 q1 q2 hin1 hseg
                      simp only at q0 q1 q2 hin1 hseg
                      have hk12 : 2147483648 ≤ k1 := hseg.1.1
                      obtain ⟨I, hI⟩ : ∃ z, inAny (segs.take e) y = z := ⟨_, rfl⟩
                      rw [hI] at hin1 ⊢
                      clear hI hk1 d0 d1 d2 H1 hseg
                      have s4 := s'.alloc (c := [.int .u64 k1, .int .u64 k2, .bool k3]) (t := 71)
                      obtain ⟨V, hV⟩ : ∃ V, wr.heap.size = V := ⟨_, rfl⟩
                      rw [hV] at s4
                      have m0 := s4.cel V 0 0 rfl
                      have m1 := s4.cel V 0 1 rfl
                      have m2 := s4.cel V 0 2 rfl
                      simp only [Nat.zero_add] at m0 m1 m2
                      clear s'
                      have hqk2 := aside (show gk - 1 + (e + 1) = L ∧ gk - 1 < gk by omega)
                      clear hqk
                      have ez : k1 ≤ y → IntKind.u64.wrap (y - k1) = y - k1 := fun h => by rw [wrap_u64]; omega
                      cases I with
                      | true =>
                        have hin2 := aside (show inAny (segs.take (e + 1)) y = true by rw [hin1.out]; rfl)
                        clear ez
                        go_wp2
                        go_roundg (gk - 1)
                        case measure => exact hqk2.out.2
                        case rel => exact ⟨e + 1, hqk2.out.1, by go_num, by rw [hin2.out], s4.wk⟩
                      | false =>
                        cases k3 with
                        | false =>
                          have hin2 := aside (show inAny (segs.take (e + 1)) y = false by rw [hin1.out]; rfl)
                          clear ez
                          go_wp2
                          go_roundg (gk - 1)
                          case measure => exact hqk2.out.2
                          case rel => exact ⟨e + 1, hqk2.out.1, by go_num, by rw [hin2.out], s4.wk⟩
                        | true =>
                          by_cases h1 : k1 ≤ y
                          · replace ez := ez h1
                            obtain ⟨T, hT⟩ : ∃ T, y - k1 = T := ⟨_, rfl⟩
                            rw [hT] at ez hin1
                            have ez' : IntKind.u64.wrap (y - k1) = T := by rw [hT]; exact ez
                            replace hT := aside hT
                            clear ez
                            by_cases h2 : T < k2
                            · have hin2 := aside (show inAny (segs.take (e + 1)) y = true by rw [hin1.out, decide_eq_true h1, decide_eq_true h2]; rfl)
                              go_wp2
                              go_roundg (gk - 1)
                              case measure => exact hqk2.out.2
                              case rel => exact ⟨e + 1, hqk2.out.1, by go_num, by rw [hin2.out], s4.wk⟩
                            · have hin2 := aside (show inAny (segs.take (e + 1)) y = false by rw [hin1.out, decide_eq_true h1, decide_eq_false h2]; rfl)
                              go_wp2
                              go_roundg (gk - 1)
                              case measure => exact hqk2.out.2
                              case rel => exact ⟨e + 1, hqk2.out.1, by go_num, by rw [hin2.out], s4.wk⟩
                          · have hin2 := aside (show inAny (segs.take (e + 1)) y = false by rw [hin1.out, decide_eq_false h1]; rfl)
                            clear ez
                            go_wp2
                            go_roundg (gk - 1)
                            case measure => exact hqk2.out.2
                            case rel => exact ⟨e + 1, hqk2.out.1, by go_num, by rw [hin2.out], s4.wk⟩
                    · obtain rfl : e = L := by omega
                      have e1 : segs.take e = segs := by rw [← hL.out]; exact List.take_length
                      rw [e1, hin.out]
                      clear e1
                      go_wp2
                      go_roundg (km - 1)
                      case measure => exact hqx2.out.2
                      case rel => exact ⟨x + 1, y + 1, hqx2.out.1, by have := hy.out; omega, by go_num, s'.wk⟩
                · obtain rfl : x = q := by omega
                  go_wp2
                  go_quiet (fail)
                  have s2 := s'.drewN nq
                  clear s' d0 d1 ey
                  go_wp2
                  go_roundg (ko - 1)
                  case measure => exact hqj2.out.2
                  case rel => exact ⟨j + 1, hqj2.out.1, by go_num, s2⟩
            · obtain rfl : j = M := by omega
              go_wp2
              go_ret
              exact ⟨rfl, hZ ▸ s'.below⟩
      · go_wp2
        go_ret
        exact ⟨rfl, hZ ▸ s7.below⟩
    · have hc0 : (chk 8192 n d a u != 0) = true := by
        unfold chk
        by_cases h1 : layP n d a u
        · rw [if_pos h1, if_neg (fun h => hc ⟨h1, h⟩)]; rfl
        · rw [if_neg h1]; rfl
      generalize chk 8192 n d a u = ch at hc0 ⊢
      clear hc
      go_wp2
      go_ret
      exact ⟨rfl, hZ ▸ s4.below⟩
end Go.Proofs.Ytippipfogbgemaa
