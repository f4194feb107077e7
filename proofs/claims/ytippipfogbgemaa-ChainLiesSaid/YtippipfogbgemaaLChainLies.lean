/-
  ChainLies returns true for every memory, layout and head; no condition.
-/
import Derived.Test.YtippipfogbgemaaCf
import Derived.Test.YtippipfogbgemaaCg
import Derived.Test.YtippipfogbgemaaVh
import Derived.Test.YtippipfogbgemaaVy
import Derived.Test.YtippipfogbgemaaWb
import Derived.Test.YtippipfogbgemaaWd
namespace Go.Proofs.Ytippipfogbgemaa
open Go.RowKit
set_option linter.unusedVariables false
set_option linter.unusedSimpArgs false


set_option maxRecDepth 100000 in
set_option maxHeartbeats 4000000 in
theorem law_ChainLies (W : World) {v0 : Value} {cs1 : Array Value} {ps : List PutM} {k : AskM} (e0 : sliceE putE 2 (look W) ps [v0]) (e1 : askE (look W) k cs1.toList) :
    Calls Try.prog 6 #[v0, .agg cs1] W fun e w' => e = .returned (.bool true) ∧ Below W.heap.size W w' := by
  obtain ⟨_, hv0, e0⟩ := e0
  obtain rfl := (List.cons.inj hv0).1
  clear hv0
  have e1q : cs1.toList = k.vals := e1
  obtain rfl : cs1 = k.vals.toArray := by apply Array.ext'; simpa using e1q
  clear e1 e1q
  obtain ⟨⟨n, d, a, u, hn, hd, ha, hu⟩, head, ind, hhead⟩ := k
  simp only [AskM.vals, LayM.vals, List.cons_append, List.nil_append]
  have s0 := (Sat.start W).alloc (c := [.int .i64 n, .int .u64 d, .int .u64 a, .int .u64 u, .int .i64 head, .bool ind]) (t := 48)
  obtain ⟨Z, hZ⟩ : ∃ Z, W.heap.size = Z := ⟨_, rfl⟩
  rw [hZ] at s0
  go_enter Try.func6, Try.ntmps6
  go_wp2_with fail
  refine c_chainAwake s0 ?_; intro wA s1
  go_wp2_with fail
  refine c_Memory s1 e0 ?_ ?_
  · intro wB H2 v2 m2 le r2 s2
    obtain ⟨B, n, c, rfl⟩ := r2.shapeM
    have s3 := s2.alloc (c := [.int .u64 8192, .slice B n c]) (t := 28)
    clear s0 s1 s2
    go_wp2
    go_ret
    exact ⟨rfl, hZ ▸ s3.below⟩
  · intro wB H2 v2 b r le hz rm s2
    obtain ⟨B, n0, c, rfl⟩ := rm.shapeM
    have s3 := s2.alloc (c := [.int .u64 8192, .slice B n0 c]) (t := 28)
    obtain ⟨Y, hY⟩ : ∃ Y, wB.heap.size = Y := ⟨_, rfl⟩
    rw [hY] at s3
    have y0 := s3.cel Y 0 0 rfl
    have y1 := s3.cel Y 0 1 rfl
    simp only [Nat.zero_add] at y0 y1
    have z0 := s3.cel Z 0 0 rfl
    have z1 := s3.cel Z 0 1 rfl
    have z2 := s3.cel Z 0 2 rfl
    have z3 := s3.cel Z 0 3 rfl
    have z4 := s3.cel Z 0 4 rfl
    have z5 := s3.cel Z 0 5 rfl
    simp only [Nat.zero_add] at z0 z1 z2 z3 z4 z5
    clear s1 s2 s0
    go_wp2_with fail
    refine c_refCheck s3 rm (by omega) n d a u hn hd ha hu ?_
    intro w4 s4
    by_cases hc : layP n d a u ∧ liesP 8192 n d a u
    · have hc0 : chk 8192 n d a u = 0 := by unfold chk; rw [if_pos hc.1, if_pos hc.2]
      rw [hc0]
      have hnb := powP_bd hc.1.1
      have z0 := s4.cel Z 0 0 rfl
      have z1 := s4.cel Z 0 1 rfl
      have z2 := s4.cel Z 0 2 rfl
      have z3 := s4.cel Z 0 3 rfl
      have z4 := s4.cel Z 0 4 rfl
      have z5 := s4.cel Z 0 5 rfl
      simp only [Nat.zero_add] at z0 z1 z2 z3 z4 z5
      replace hz := aside hz
      replace hY := aside hY
      clear s3 hc hc0
      obtain ⟨N, rfl⟩ : ∃ N : Nat, n = N := ⟨n.toNat, by omega⟩
      have hN : N ≤ 256 := by omega
      go_wp2_with fail
      refine c_ramCopy s4 ?_
      intro w5 cp r5 hz5 hm5 s5
      have z0 := s5.cel Z 0 0 rfl
      have z1 := s5.cel Z 0 1 rfl
      have z2 := s5.cel Z 0 2 rfl
      have z3 := s5.cel Z 0 3 rfl
      have z4 := s5.cel Z 0 4 rfl
      have z5 := s5.cel Z 0 5 rfl
      simp only [Nat.zero_add] at z0 z1 z2 z3 z4 z5
      replace hz5 := aside hz5
      replace hm5 := aside hm5
      clear s4
      go_wp2_with fail
      refine c_walk s5 N d a u head ind hN hd hhead ?_
      intro e segs ta tl hW w6 v6 h6 l6 own6 hx6 s6
      obtain rfl := hx6.none
      obtain ⟨P1, P2, P3, P4, P5⟩ := walkP_lies r.hmem hW hN
      have rd := own6.rdG
      obtain ⟨A1, c1, rfl, rd⟩ := rd.open_
      obtain ⟨_, hcap, hcap2, gg⟩ := rd.seg
      have s7 := s6.alloc (c := [.slice A1 segs.length c1, .int .u64 ta, .int .u64 tl]) (t := 56)
      obtain ⟨X, hX⟩ : ∃ X, w6.heap.size = X := ⟨_, rfl⟩
      rw [hX] at s7
      have s8 : Sat W _ H2 (ramL ⟨b, 0, none⟩ (r, none) ++ (ramL ⟨cp, 0, none⟩ (r5, none) ++ (cellsH ⟨X, 0, none⟩ [.slice A1 segs.length c1, .int .u64 ta, .int .u64 tl] :: h6 :: cellsH ⟨Y, 0, none⟩ [.int .u64 8192, .slice B n0 c] :: cellsH ⟨Z, 0, none⟩ [.int .i64 N, .int .u64 d, .int .u64 a, .int .u64 u, .int .i64 head, .bool ind] :: []))) := s7.wk
      have hsame := aside (show sameR r r5 = true from sameR_iff.2 ⟨hz5.out.symm, by unfold RamG.eqv; rw [hm5.out]; intros; rfl⟩)
      obtain ⟨L, hL⟩ : ∃ L, segs.length = L := ⟨_, rfl⟩
      replace gg : ∀ i (hi : i < L), ∃ b o, A1 = some ⟨b, o, none⟩ ∧ (∃ fr, h6 (.cell b (o + i * 3)) = some (.val (.int .u64 (segs[i]'(by omega)).1) fr)) ∧ (∃ fr, h6 (.cell b (o + i * 3 + 1)) = some (.val (.int .u64 (segs[i]'(by omega)).2.1) fr)) ∧ (∃ fr, h6 (.cell b (o + i * 3 + 2)) = some (.val (.bool (segs[i]'(by omega)).2.2) fr)) := fun i hi => gg i (by omega)
      have P6 : ∀ i (hi : i < L), hasP 8192 (segs[i]'(by omega)).1 (segs[i]'(by omega)).2.1 ∧ 0 ≤ (segs[i]'(by omega)).2.1 := fun i hi => hz.out ▸ P1 _ (List.getElem_mem _)
      have P8 : e ≠ 0 → L = 0 ∧ ta = 0 ∧ tl = 0 := fun h => by obtain ⟨h1, h2, h3⟩ := P4 h; exact ⟨by rw [← hL, h1]; rfl, h2, h3⟩
      have P9 : tl = 0 ∨ ind = true ∧ hasP 8192 ta tl ∧ 0 ≤ tl := P5.imp id fun h => ⟨h.1, hz.out ▸ h.2.1, h.2.2.1⟩
      have P10 : L ≤ 511 := hL ▸ P3
      rw [hL] at s8 hcap ⊢
      clear s5 s6 s7 P1 P3 P4 P5 hW hx6 own6 rd
      replace P2 := aside P2
      replace P6 := aside P6
      replace P9 := aside P9
      replace gg := aside gg
      go_wp2_with fail
      refine c_ramSame s8 ?_
      intro w9 s9
      rw [hsame.out]
      have y0 := s9.cel Y 0 0 rfl
      have y1 := s9.cel Y 0 1 rfl
      simp only [Nat.zero_add] at y0 y1
      have z0 := s9.cel Z 0 0 rfl
      have z1 := s9.cel Z 0 1 rfl
      have z2 := s9.cel Z 0 2 rfl
      have z3 := s9.cel Z 0 3 rfl
      have z4 := s9.cel Z 0 4 rfl
      have z5 := s9.cel Z 0 5 rfl
      simp only [Nat.zero_add] at z0 z1 z2 z3 z4 z5
      have x0 := s9.cel X 0 0 rfl
      have x1 := s9.cel X 0 1 rfl
      have x2 := s9.cel X 0 2 rfl
      simp only [Nat.zero_add] at x0 x1 x2
      clear s8
      have hL5 : ¬ (511 < (L : Int)) := by omega
      have hl0 : ¬ ((0 : Int) < L) ∨ e = 0 := by
        by_cases he : e = 0
        · exact .inr he
        · exact .inl (by obtain ⟨rfl, _, _⟩ := P8 he; omega)
      by_cases he : e = 0
      · subst he
        clear P8 hl0
        go_wp2
        go_loopg [10, 11] L (fun q v10 v11 w' => ∃ i : Nat, q + i = L ∧ v10 = .int .i64 i ∧ Sat W w' H2 (cellsH ⟨X, 0, none⟩ [.slice A1 L c1, .int .u64 ta, .int .u64 tl] :: h6 :: cellsH ⟨Y, 0, none⟩ [.int .u64 8192, .slice B n0 c] :: cellsH ⟨Z, 0, none⟩ [.int .i64 N, .int .u64 d, .int .u64 a, .int .u64 u, .int .i64 head, .bool ind] :: []))
        case atStart => exact ⟨0, by omega, by go_num, s9.wk⟩
        case round =>
          obtain ⟨i, hq, rfl, s'⟩ := hrel
          clear s9 x0 x1 x2 y0 y1 z0 z1 z2 z3 z4 z5
          have x0 := s'.cel X 0 0 rfl
          have x1 := s'.cel X 0 1 rfl
          have x2 := s'.cel X 0 2 rfl
          simp only [Nat.zero_add] at x0 x1 x2
          have y0 := s'.cel Y 0 0 rfl
          have y1 := s'.cel Y 0 1 rfl
          simp only [Nat.zero_add] at y0 y1
          have z5 := s'.cel Z 0 5 rfl
          simp only [Nat.zero_add] at z5
          by_cases hi : i < L
          · skip
            obtain ⟨bb, ob, rfl, d0, d1, d2⟩ := gg.out i hi
            have hh6 := (Sat.pull (h := h6) s').head
            have q0 := hh6.cell d0
            have q1 := hh6.cell d1
            have q2 := hh6.cell d2
            obtain ⟨hp, hp0⟩ := P6.out i hi
            obtain ⟨k1, hk1⟩ : ∃ y, (segs[i]'(by omega)).1 = y := ⟨_, rfl⟩
            obtain ⟨k2, hk2⟩ : ∃ y, (segs[i]'(by omega)).2.1 = y := ⟨_, rfl⟩
            obtain ⟨k3, hk3⟩ : ∃ y, (segs[i]'(by omega)).2.2 = y := ⟨_, rfl⟩
            rw [hk1] at q0 hp
            rw [hk2] at q1 hp hp0
            rw [hk3] at q2
            have hpb : 2147483648 ≤ k1 ∧ k1 + k2 ≤ 2147483648 + 8192 := hp
            have g1 := aside (show 0 ≤ k1 ∧ k1 ≤ 18446744073709551615 by omega)
            have g2 := aside (show 0 ≤ k2 ∧ k2 ≤ 18446744073709551615 by omega)
            have hdec := aside (show decide (hasP 8192 k1 k2) = true from decide_eq_true hp)
            have hi0 : (i : Int) < (L : Nat) := by omega
            clear hp hpb hp0 d0 d1 d2 hk1 hk2 hh6
            replace hk3 := aside hk3
            have s3 := s'.alloc (c := [.int .u64 k1, .int .u64 k2, .bool k3]) (t := 71)
            obtain ⟨V, hV⟩ : ∃ V, wr.heap.size = V := ⟨_, rfl⟩
            rw [hV] at s3
            have m0 := s3.cel V 0 0 rfl
            have m1 := s3.cel V 0 1 rfl
            have m2 := s3.cel V 0 2 rfl
            simp only [Nat.zero_add] at m0 m1 m2
            have o0 := s3.cel Y 0 0 rfl
            have o1 := s3.cel Y 0 1 rfl
            simp only [Nat.zero_add] at o0 o1
            clear s'
            go_wp2_with fail
            refine c_refHas s3 (by omega) k1 k2 g1.out g2.out ?_
            rw [hdec.out]
            intro wC s4
            have m0 := s4.cel V 0 0 rfl
            have m1 := s4.cel V 0 1 rfl
            have m2 := s4.cel V 0 2 rfl
            simp only [Nat.zero_add] at m0 m1 m2
            have o0 := s4.cel Y 0 0 rfl
            have o1 := s4.cel Y 0 1 rfl
            simp only [Nat.zero_add] at o0 o1
            have x0 := s4.cel X 0 0 rfl
            have x1 := s4.cel X 0 1 rfl
            have x2 := s4.cel X 0 2 rfl
            simp only [Nat.zero_add] at x0 x1 x2
            clear s3 hdec g1 g2 q0 q1 q2 z5
            by_cases hi1 : i = 0
            · have hi2 : ¬ ((0 : Int) < i) := by omega
              go_wp2
              go_roundg (gk - 1)
              case measure => omega
              case rel => exact ⟨i + 1, by omega, by go_num, s4.wk⟩
            · obtain ⟨j, hj⟩ : ∃ j, i = j + 1 := ⟨i - 1, by omega⟩
              have hpj := P2.out j (segs[j]'(by omega)) (segs[i]'(by omega)) (List.getElem?_eq_getElem _) (by rw [← hj]; exact List.getElem?_eq_getElem _)
              obtain ⟨bb2, ob2, hbb, _, _, d2⟩ := gg.out j (by omega)
              injection hbb with hbb
              injection hbb with hb1 hb2
              subst hb1 hb2
              have q2 := (Sat.pull (h := h6) s4).head.cell d2
              obtain ⟨kp, hkp⟩ : ∃ y, (segs[j]'(by omega)).2.2 = y := ⟨_, rfl⟩
              rw [hkp] at q2 hpj
              rw [hk3.out] at hpj
              have hi2 : (0 : Int) < i := by omega
              have ej : IntKind.i64.wrap ((i : Int) - 1) = (j : Int) := by simp [IntKind.wrap, IntKind.bits, IntKind.signed]; omega
              have hj0 : 0 ≤ (j : Int) := by omega
              have hj1 : (j : Int) < (L : Nat) := by omega
              clear d2 hi1
              replace hkp := aside hkp
              replace hj := aside hj
              replace hL := aside hL
              cases kp with
              | false =>
                go_wp2
                go_roundg (gk - 1)
                case measure => omega
                case rel => exact ⟨i + 1, by omega, by go_num, s4.wk⟩
              | true =>
                cases k3 with
                | false => exact absurd ⟨rfl, rfl⟩ hpj
                | true =>
                  go_wp2
                  go_roundg (gk - 1)
                  case measure => omega
                  case rel => exact ⟨i + 1, by omega, by go_num, s4.wk⟩
          · obtain rfl : i = L := by omega
            by_cases ht : tl = 0
            · subst ht
              go_wp2
              go_ret
              exact ⟨rfl, hZ ▸ s'.below⟩
            · obtain ⟨rfl, hp, hp0⟩ := P9.out.resolve_left ht
              have hpb : 2147483648 ≤ ta ∧ ta + tl ≤ 2147483648 + 8192 := hp
              have g1 := aside (show 0 ≤ ta ∧ ta ≤ 18446744073709551615 by omega)
              have g2 := aside (show 0 ≤ tl ∧ tl ≤ 18446744073709551615 by omega)
              have hdec := aside (show decide (hasP 8192 ta tl) = true from decide_eq_true hp)
              clear hp hpb hp0
              go_wp2_with fail
              refine c_refHas s' (by omega) ta tl g1.out g2.out ?_
              rw [hdec.out]
              intro wC s4
              go_wp2
              go_ret
              exact ⟨rfl, hZ ▸ s4.below⟩
      · obtain ⟨rfl, rfl, rfl⟩ := P8 he
        clear P8 hl0
        go_wp2
        go_loopg [10, 11] 0 (fun q v10 v11 w' => ∃ i : Nat, q + i = 0 ∧ v10 = .int .i64 i ∧ Sat W w' H2 (cellsH ⟨X, 0, none⟩ [.slice A1 0 c1, .int .u64 0, .int .u64 0] :: h6 :: cellsH ⟨Y, 0, none⟩ [.int .u64 8192, .slice B n0 c] :: cellsH ⟨Z, 0, none⟩ [.int .i64 N, .int .u64 d, .int .u64 a, .int .u64 u, .int .i64 head, .bool ind] :: []))
        case atStart => exact ⟨0, by omega, by go_num, s9.wk⟩
        case round =>
          obtain ⟨i, hq, rfl, s'⟩ := hrel
          clear s9 x0 x1 x2 y0 y1 z0 z1 z2 z3 z4 z5
          have x0 := s'.cel X 0 0 rfl
          have x1 := s'.cel X 0 1 rfl
          have x2 := s'.cel X 0 2 rfl
          simp only [Nat.zero_add] at x0 x1 x2
          have y0 := s'.cel Y 0 0 rfl
          have y1 := s'.cel Y 0 1 rfl
          simp only [Nat.zero_add] at y0 y1
          have z5 := s'.cel Z 0 5 rfl
          simp only [Nat.zero_add] at z5
          by_cases hi : i < 0
          · skip
            exact absurd hi (by omega)
          · obtain rfl : i = 0 := by omega
            go_wp2
            go_ret
            exact ⟨rfl, hZ ▸ s'.below⟩
    · have hc0 : (chk 8192 n d a u != 0) = true := by
        unfold chk
        by_cases h1 : layP n d a u
        · rw [if_pos h1, if_neg (fun h => hc ⟨h1, h⟩)]; rfl
        · rw [if_neg h1]; rfl
      generalize chk 8192 n d a u = ch at hc0 ⊢
      clear hc
      go_wp2
      go_ret
      exact ⟨rfl, hZ ▸ s4.below⟩
end Go.Proofs.Ytippipfogbgemaa
