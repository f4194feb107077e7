/-
  ChainReads returns true for every memory, layout and head; no condition.
-/
import Derived.Test.YtippipfogbgemaaCf
import Derived.Test.YtippipfogbgemaaCg
import Derived.Test.YtippipfogbgemaaVh
import Derived.Test.YtippipfogbgemaaVy
import Derived.Test.YtippipfogbgemaaVsp
import Derived.Deep.QuietTactic
import Derived.BigQuiet
namespace Go.Proofs.Ytippipfogbgemaa
open Go.RowKit
set_option linter.unusedVariables false
set_option linter.unusedSimpArgs false

section
variable {R : Ending → World → Prop} {W0 w : World} {H : Hp} {A F : List Hp} {b o : Nat}

set_option maxRecDepth 100000 in
set_option maxHeartbeats 4000000 in
theorem c_WatchC {x0 x1 x2 : Value} (s : Sat W0 w H (cellsH ⟨b, o, none⟩ [x0, x1, x2] :: F)) (p : Option Addr) (hx : ∃ q, x2 = .pointer q)
    (k : ∀ w', Sat W0 w' H (cellsH ⟨b, o, none⟩ [x0, x1, .pointer p] :: F) → R (.returned (.tuple #[])) w') :
    Calls Try.prog 30 #[.pointer (some ⟨b, o, none⟩), .pointer p] w R := by
  have c2 := s.c 2 rfl
  have s2 := s.s 2 (by simp) (.pointer p)
  have K := k _ s2
  clear s s2 k
  go_enter Try.func30, Try.ntmps30
  go_wp2
  refine bodyPost_end (results_none rfl _ _ _) rfl ?_
  exact K
end

/-- a place in a table that lies in the memory -/
theorem tblP_in {t sz x : Int} (h : tblP t sz x) (ht : 0 ≤ t) (hz : sz ≤ 65536) (hb : t + 16 * sz ≤ 4294967296) : t ≤ x ∧ IntKind.u64.wrap (x - t) < 16 * sz := by
  obtain ⟨i, h0, h1, rfl⟩ := h
  have e1 : IntKind.u64.wrap i = i := by rw [wrap_u64]; omega
  have e2 : IntKind.u64.wrap (16 * i) = 16 * i := by rw [wrap_u64]; omega
  have e3 : IntKind.u64.wrap (t + 16 * i) = t + 16 * i := by rw [wrap_u64]; omega
  unfold atD
  rw [e1, e2, e3, wrap_u64]
  omega


set_option maxRecDepth 100000 in
set_option maxHeartbeats 4000000 in
theorem law_ChainReads (W : World) {v0 : Value} {cs1 : Array Value} {ps : List PutM} {k : AskM} (e0 : sliceE putE 2 (look W) ps [v0]) (e1 : askE (look W) k cs1.toList) :
    Calls Try.prog 5 #[v0, .agg cs1] W fun e w' => e = .returned (.bool true) ∧ Below W.heap.size W w' := by
  obtain ⟨_, hv0, e0⟩ := e0
  obtain rfl := (List.cons.inj hv0).1
  clear hv0
  have e1q : cs1.toList = k.vals := e1
  obtain rfl : cs1 = k.vals.toArray := by apply Array.ext'; simpa using e1q
  clear e1 e1q
  obtain ⟨⟨n, d, a, u, hn, hd, ha, hu⟩, head, ind, hhead⟩ := k
  simp only [AskM.vals, LayM.vals, List.cons_append, List.nil_append]
  have s0 := (Sat.start W).alloc (c := [.int .i64 n, .int .u64 d, .int .u64 a, .int .u64 u, .int .i64 head, .bool ind]) (t := 48)
  obtain ⟨Z, hZ⟩ : ∃ Z, W.heap.size = Z := ⟨_, rfl⟩
  rw [hZ] at s0
  go_enter Try.func5, Try.ntmps5
  go_wp2_with fail
  refine c_chainAwake s0 ?_; intro wA s1
  go_wp2_with fail
  refine c_Memory s1 e0 ?_ ?_
  · intro wB H2 v2 m2 le r2 s2
    obtain ⟨B, n, c, rfl⟩ := r2.shapeM
    have s3 := s2.alloc (c := [.int .u64 8192, .slice B n c]) (t := 28)
    clear s0 s1 s2
    go_wp2
    go_ret
    exact ⟨rfl, hZ ▸ s3.below⟩
  · intro wB H2 v2 b r le hz rm s2
    obtain ⟨B, n0, c, rfl⟩ := rm.shapeM
    have s3 := s2.alloc (c := [.int .u64 8192, .slice B n0 c]) (t := 28)
    obtain ⟨Y, hY⟩ : ∃ Y, wB.heap.size = Y := ⟨_, rfl⟩
    rw [hY] at s3
    have y0 := s3.cel Y 0 0 rfl
    have y1 := s3.cel Y 0 1 rfl
    simp only [Nat.zero_add] at y0 y1
    have z0 := s3.cel Z 0 0 rfl
    have z1 := s3.cel Z 0 1 rfl
    have z2 := s3.cel Z 0 2 rfl
    have z3 := s3.cel Z 0 3 rfl
    have z4 := s3.cel Z 0 4 rfl
    have z5 := s3.cel Z 0 5 rfl
    simp only [Nat.zero_add] at z0 z1 z2 z3 z4 z5
    clear s1 s2 s0
    go_wp2_with fail
    refine c_refCheck s3 rm (by omega) n d a u hn hd ha hu ?_
    intro w4 s4
    by_cases hc : layP n d a u ∧ liesP 8192 n d a u
    · have hc0 : chk 8192 n d a u = 0 := by unfold chk; rw [if_pos hc.1, if_pos hc.2]
      rw [hc0]
      have hnb := powP_bd hc.1.1
      have z0 := s4.cel Z 0 0 rfl
      have z1 := s4.cel Z 0 1 rfl
      have z2 := s4.cel Z 0 2 rfl
      have z3 := s4.cel Z 0 3 rfl
      have z4 := s4.cel Z 0 4 rfl
      have z5 := s4.cel Z 0 5 rfl
      simp only [Nat.zero_add] at z0 z1 z2 z3 z4 z5
      replace hz := aside hz
      replace hY := aside hY
      have hdl := aside (show 2147483648 ≤ d ∧ d + 16 * n ≤ 2147483648 + 8192 from hc.2.1)
      clear s3 hc hc0
      obtain ⟨N, rfl⟩ : ∃ N : Nat, n = N := ⟨n.toNat, by omega⟩
      have hN : N ≤ 256 := by omega
      have s4b := s4.alloc (c := [.slice none 0 0, .slice none 0 0]) (t := 66)
      obtain ⟨P, hP⟩ : ∃ P, w4.heap.size = P := ⟨_, rfl⟩
      rw [hP] at s4b
      clear s4
      go_wp2_with fail
      simp only [ramL, logL, Option.map_none, List.cons_append, List.nil_append] at s4b
      refine c_WatchC (b := b) (o := 0) (F := _) (Sat.pull (h := cellsH ⟨b, 0, none⟩ [.int .u64 r.size, .map (some r.mb), .pointer none]) s4b) _ ⟨_, rfl⟩ ?_
      intro w5 s5a
      have s5b := s5a.emp.emp
      have s5 : Sat W w5 H2 (ramL ⟨b, 0, none⟩ (r, some ⟨P, 0, .slice none 0 0, empH, [], .slice none 0 0, empH, [], OwnS.nil 2, OwnS.nil 2⟩) ++ (cellsH ⟨Y, 0, none⟩ [.int .u64 8192, .slice B n0 c] :: cellsH ⟨Z, 0, none⟩ [.int .i64 N, .int .u64 d, .int .u64 a, .int .u64 u, .int .i64 head, .bool ind] :: [])) := by
        simp only [ramL, logL, Option.map_some, List.cons_append, List.nil_append]
        exact s5b.wk
      have z0 := s5.cel Z 0 0 rfl
      have z1 := s5.cel Z 0 1 rfl
      have z2 := s5.cel Z 0 2 rfl
      have z3 := s5.cel Z 0 3 rfl
      have z4 := s5.cel Z 0 4 rfl
      have z5 := s5.cel Z 0 5 rfl
      simp only [Nat.zero_add] at z0 z1 z2 z3 z4 z5
      clear s4b s5a s5b
      go_wp2_with fail
      refine c_walk s5 N d a u head ind hN hd hhead ?_
      intro e segs ta tl hW w6 v6 h6 l6 own6 hx6 s6
      obtain ⟨P1, P2, P3, P4, P5⟩ := walkP_lies r.hmem hW hN
      clear P1 P2 P3 P4
      obtain ⟨ex, hl6, hex⟩ := hx6
      cases l6 with
      | none => simp [lgs] at hl6
      | some lg =>
      obtain ⟨pb, po, wsl, wbk, ws, rsl, rbk, rs, hw, hr⟩ := lg
      obtain ⟨⟨rfl, rfl⟩, rfl, rfl⟩ : (pb = P ∧ po = 0) ∧ ws = [] ∧ rs = ex := by
        simp [lgs] at hl6
        exact hl6
      obtain ⟨A1, c1, _, rfl, _⟩ := own6
      obtain ⟨AW, cW, _, rfl, _⟩ := hw
      have rdr := hr.rdS
      obtain ⟨AR, cR, rfl, rdr⟩ := rdr.open_
      obtain ⟨_, hcap, hcap2, gg⟩ := rdr.span
      have s7 := s6.alloc (c := [.slice A1 segs.length c1, .int .u64 ta, .int .u64 tl]) (t := 56)
      obtain ⟨X, hX⟩ : ∃ X, w6.heap.size = X := ⟨_, rfl⟩
      rw [hX] at s7
      simp only [ramL, logL, Option.map_some, List.cons_append, List.nil_append, List.length_nil] at s7
      have z0 := s7.cel Z 0 0 rfl
      have z1 := s7.cel Z 0 1 rfl
      have z2 := s7.cel Z 0 2 rfl
      have z3 := s7.cel Z 0 3 rfl
      have z4 := s7.cel Z 0 4 rfl
      have z5 := s7.cel Z 0 5 rfl
      simp only [Nat.zero_add] at z0 z1 z2 z3 z4 z5
      clear s5 s6 hl6
      go_wp2_with fail
      refine c_refAreas s7 N d a u (by omega) ?_
      intro w8 g s8a
      have s8 : Sat W w8 H2 (cellsH ⟨g, 0, none⟩ (areaVs N d a u) :: cellsH ⟨X, 0, none⟩ [.slice A1 segs.length c1, .int .u64 ta, .int .u64 tl] :: cellsH ⟨pb, 0, none⟩ [.slice AW 0 cW, .slice AR rs.length cR] :: rbk :: []) := s8a.wk
      obtain ⟨L, hL⟩ : ∃ L, rs.length = L := ⟨_, rfl⟩
      obtain ⟨M, hM⟩ : ∃ M : Int, 16 * (N : Int) = M := ⟨_, rfl⟩
      have hcl : ∀ (i : Nat) (x : Int × Int), rs[i]? = some x → x.2 = 16 ∧ ((d ≤ x.1 ∧ IntKind.u64.wrap (x.1 - d) < M) ∨ (e = 0 → ta ≤ x.1 ∧ IntKind.u64.wrap (x.1 - ta) < tl)) := by
        intro i x hx
        obtain ⟨h16, hP⟩ := hex x (List.mem_of_getElem? hx)
        have hdb := hdl.out
        refine ⟨h16, hP.imp (fun h => ?_) (fun h he => ?_)⟩
        · rw [← hM]; exact tblP_in h (by omega) (by omega) (by omega)
        · have h1 := h he
          rcases P5 with h0 | ⟨_, hp, h0, hm16⟩
          · obtain ⟨j, h2, h3, _⟩ := h1; rw [h0] at h3; omega
          · have hpb : 2147483648 ≤ ta ∧ ta + tl ≤ 2147483648 + r.size := hp
            have hrz := hz.out
            have := tblP_in h1 (by omega) (by omega) (by omega)
            rw [show 16 * (tl / 16) = tl by omega] at this
            exact this
      simp only [areaVs] at s8
      rw [hM] at s8
      rw [hL] at s8 hcap
      replace gg : ∀ i (hi : i < L), ∃ b o, AR = some ⟨b, o, none⟩ ∧ (∃ fr, rbk (.cell b (o + i * 2)) = some (.val (.int .u64 (rs[i]'(by omega)).1) fr)) ∧ (∃ fr, rbk (.cell b (o + i * 2 + 1)) = some (.val (.int .u64 (rs[i]'(by omega)).2) fr)) := fun i hi => gg i (by omega)
      clear P5 hex hr rdr hW
      replace hcl := aside hcl
      replace hM := aside hM
      replace hL := aside hL
      replace gg := aside gg
      go_wp2
      go_loopg [11] L (fun q v11 w' => ∃ i : Nat, q + i = L ∧ v11 = .int .i64 i ∧ Sat W w' H2 (cellsH ⟨g, 0, none⟩ [.int .u64 d, .int .u64 M, .int .u64 a, .int .u64 (2 * N + 6), .int .u64 u, .int .u64 (8 * N + 6)] :: cellsH ⟨X, 0, none⟩ [.slice A1 segs.length c1, .int .u64 ta, .int .u64 tl] :: cellsH ⟨pb, 0, none⟩ [.slice AW 0 cW, .slice AR L cR] :: rbk :: []))
      case atStart => exact ⟨0, by omega, by go_num, s8⟩
      case round =>
        obtain ⟨i, hq, rfl, s'⟩ := hrel
        clear s8
        have y0 := s'.cel pb 0 0 rfl
        have y1 := s'.cel pb 0 1 rfl
        simp only [Nat.zero_add] at y0 y1
        by_cases hi : i < L
        · obtain ⟨bb, ob, rfl, d0, d1⟩ := gg.out i hi
          have hh := (Sat.pull (h := rbk) s').head
          have q0 := hh.cell d0
          have q1 := hh.cell d1
          have hx := hcl.out i (rs[i]'(by have := hL.out; omega)) (List.getElem?_eq_getElem _)
          obtain ⟨h16, hx⟩ := hx
          rw [h16] at q1
          obtain ⟨x, hxx⟩ : ∃ y, (rs[i]'(by have := hL.out; omega)).1 = y := ⟨_, rfl⟩
          rw [hxx] at q0 hx
          obtain ⟨xd, hxd⟩ : ∃ y, IntKind.u64.wrap (x - d) = y := ⟨_, rfl⟩
          obtain ⟨xt, hxt⟩ : ∃ y, IntKind.u64.wrap (x - ta) = y := ⟨_, rfl⟩
          rw [hxd, hxt] at hx
          have hi0 : (i : Int) < (L : Nat) := by omega
          have s3 := s'.alloc (c := [.int .u64 x, .int .u64 16]) (t := 54)
          obtain ⟨V, hV⟩ : ∃ V, wr.heap.size = V := ⟨_, rfl⟩
          rw [hV] at s3
          have m0 := s3.cel V 0 0 rfl
          have m1 := s3.cel V 0 1 rfl
          simp only [Nat.zero_add] at m0 m1
          have o0 := s3.cel g 0 0 rfl
          have o1 := s3.cel g 0 1 rfl
          simp only [Nat.zero_add] at o0 o1
          have x1 := s3.cel X 0 1 rfl
          have x2 := s3.cel X 0 2 rfl
          simp only [Nat.zero_add] at x1 x2
          clear s' d0 d1 hh h16
          replace hxx := aside hxx
          by_cases c1 : d ≤ x
          · by_cases c2 : xd < M
            · by_cases c3 : e = 0
              · subst c3
                by_cases c4 : ta ≤ x
                · by_cases c5 : xt < tl
                  · skip
                    clear hx
                    go_wp2
                    go_quiet (fail)
                    have s4 := s3.drewN nq
                    generalize World.drewN _ nq = wD at s4 ⊢
                    clear s3 m0 m1 o0 o1 x1 x2 q0 q1 y0 y1
                    have m0 := s4.cel V 0 0 rfl
                    have m1 := s4.cel V 0 1 rfl
                    simp only [Nat.zero_add] at m0 m1
                    have x1 := s4.cel X 0 1 rfl
                    have x2 := s4.cel X 0 2 rfl
                    simp only [Nat.zero_add] at x1 x2
                    go_wp2
                    go_roundg (gk - 1)
                    case measure => omega
                    case rel => exact ⟨i + 1, by omega, by go_num, s4.wk⟩
                  · skip
                    clear hx
                    go_wp2
                    go_quiet (fail)
                    have s4 := s3.drewN nq
                    generalize World.drewN _ nq = wD at s4 ⊢
                    clear s3 m0 m1 o0 o1 x1 x2 q0 q1 y0 y1
                    have m0 := s4.cel V 0 0 rfl
                    have m1 := s4.cel V 0 1 rfl
                    simp only [Nat.zero_add] at m0 m1
                    have x1 := s4.cel X 0 1 rfl
                    have x2 := s4.cel X 0 2 rfl
                    simp only [Nat.zero_add] at x1 x2
                    go_wp2
                    go_roundg (gk - 1)
                    case measure => omega
                    case rel => exact ⟨i + 1, by omega, by go_num, s4.wk⟩
                · have c4d : decide (ta ≤ x) = false := decide_eq_false c4
                  clear hx
                  go_wp2
                  go_quiet (fail)
                  have s4 := s3.drewN nq
                  generalize World.drewN _ nq = wD at s4 ⊢
                  clear s3 m0 m1 o0 o1 x1 x2 q0 q1 y0 y1
                  have m0 := s4.cel V 0 0 rfl
                  have m1 := s4.cel V 0 1 rfl
                  simp only [Nat.zero_add] at m0 m1
                  have x1 := s4.cel X 0 1 rfl
                  have x2 := s4.cel X 0 2 rfl
                  simp only [Nat.zero_add] at x1 x2
                  go_wp2
                  go_roundg (gk - 1)
                  case measure => omega
                  case rel => exact ⟨i + 1, by omega, by go_num, s4.wk⟩
              · skip
                clear hx
                go_wp2
                go_quiet (fail)
                have s4 := s3.drewN nq
                generalize World.drewN _ nq = wD at s4 ⊢
                clear s3 m0 m1 o0 o1 x1 x2 q0 q1 y0 y1
                have m0 := s4.cel V 0 0 rfl
                have m1 := s4.cel V 0 1 rfl
                simp only [Nat.zero_add] at m0 m1
                have x1 := s4.cel X 0 1 rfl
                have x2 := s4.cel X 0 2 rfl
                simp only [Nat.zero_add] at x1 x2
                go_wp2
                go_roundg (gk - 1)
                case measure => omega
                case rel => exact ⟨i + 1, by omega, by go_num, s4.wk⟩
            · by_cases c3 : e = 0
              · subst c3
                obtain ⟨c4, c5⟩ := hx.resolve_left (fun h => c2 h.2) rfl
                clear hx
                go_wp2
                go_quiet (fail)
                have s4 := s3.drewN nq
                generalize World.drewN _ nq = wD at s4 ⊢
                clear s3 m0 m1 o0 o1 x1 x2 q0 q1 y0 y1
                have m0 := s4.cel V 0 0 rfl
                have m1 := s4.cel V 0 1 rfl
                simp only [Nat.zero_add] at m0 m1
                have x1 := s4.cel X 0 1 rfl
                have x2 := s4.cel X 0 2 rfl
                simp only [Nat.zero_add] at x1 x2
                go_wp2
                go_roundg (gk - 1)
                case measure => omega
                case rel => exact ⟨i + 1, by omega, by go_num, s4.wk⟩
              · skip
                clear hx
                go_wp2
                go_quiet (fail)
                have s4 := s3.drewN nq
                generalize World.drewN _ nq = wD at s4 ⊢
                clear s3 m0 m1 o0 o1 x1 x2 q0 q1 y0 y1
                have m0 := s4.cel V 0 0 rfl
                have m1 := s4.cel V 0 1 rfl
                simp only [Nat.zero_add] at m0 m1
                have x1 := s4.cel X 0 1 rfl
                have x2 := s4.cel X 0 2 rfl
                simp only [Nat.zero_add] at x1 x2
                go_wp2
                go_roundg (gk - 1)
                case measure => omega
                case rel => exact ⟨i + 1, by omega, by go_num, s4.wk⟩
          · have c1d : decide (d ≤ x) = false := decide_eq_false c1
            by_cases c3 : e = 0
            · subst c3
              obtain ⟨c4, c5⟩ := hx.resolve_left (fun h => c1 h.1) rfl
              clear hx
              go_wp2
              go_quiet (fail)
              have s4 := s3.drewN nq
              generalize World.drewN _ nq = wD at s4 ⊢
              clear s3 m0 m1 o0 o1 x1 x2 q0 q1 y0 y1
              have m0 := s4.cel V 0 0 rfl
              have m1 := s4.cel V 0 1 rfl
              simp only [Nat.zero_add] at m0 m1
              have x1 := s4.cel X 0 1 rfl
              have x2 := s4.cel X 0 2 rfl
              simp only [Nat.zero_add] at x1 x2
              go_wp2
              go_roundg (gk - 1)
              case measure => omega
              case rel => exact ⟨i + 1, by omega, by go_num, s4.wk⟩
            · skip
              clear hx
              go_wp2
              go_quiet (fail)
              have s4 := s3.drewN nq
              generalize World.drewN _ nq = wD at s4 ⊢
              clear s3 m0 m1 o0 o1 x1 x2 q0 q1 y0 y1
              have m0 := s4.cel V 0 0 rfl
              have m1 := s4.cel V 0 1 rfl
              simp only [Nat.zero_add] at m0 m1
              have x1 := s4.cel X 0 1 rfl
              have x2 := s4.cel X 0 2 rfl
              simp only [Nat.zero_add] at x1 x2
              go_wp2
              go_roundg (gk - 1)
              case measure => omega
              case rel => exact ⟨i + 1, by omega, by go_num, s4.wk⟩
        · obtain rfl : i = L := by omega
          go_wp2
          go_ret
          exact ⟨rfl, hZ ▸ s'.below⟩
    · have hc0 : (chk 8192 n d a u != 0) = true := by
        unfold chk
        by_cases h1 : layP n d a u
        · rw [if_pos h1, if_neg (fun h => hc ⟨h1, h⟩)]; rfl
        · rw [if_neg h1]; rfl
      generalize chk 8192 n d a u = ch at hc0 ⊢
      clear hc
      go_wp2
      go_ret
      exact ⟨rfl, hZ ▸ s4.below⟩
end Go.Proofs.Ytippipfogbgemaa
