/-
  CHAIN: the whole walk, the code's.
-/
import Derived.Test.YtippipfogbgemaaCd
namespace Go.Proofs.Ytippipfogbgemaa
open Go.RowKit
set_option linter.unusedVariables false
set_option linter.unusedSimpArgs false

section
variable {m : Int → Int} {size d head e a e' a' : Int} {n : Nat} {ind : Bool} {segs segs' : List SegM}
theorem walkP_err (hE : alongP m size d n n head [] = (e, a, segs)) (h : e ≠ 0) : walkP m size d n head ind = (e, [], 0, 0) := by simp only [walkP, hE]; rw [if_pos h]
theorem walkP_plain (hE : alongP m size d n n head [] = (0, a, segs)) (h4 : flg (w3 m a) 4 = false) : walkP m size d n head ind = (0, segs, 0, 0) := by simp only [walkP, hE]; rw [if_neg (by decide), if_pos h4]
theorem walkP_nested (hE : alongP m size d n n head [] = (0, a, segs)) (h4 : flg (w3 m a) 4 = true) (h1 : ind = false ∨ flg (w3 m a) 1 = true) : walkP m size d n head ind = (153, [], 0, 0) := by
  simp only [walkP, hE]; rw [if_neg (by decide), if_neg (by rw [h4]; decide), if_pos h1]
theorem walkP_bad (hE : alongP m size d n n head [] = (0, a, segs)) (h4 : flg (w3 m a) 4 = true) (h1 : ¬ (ind = false ∨ flg (w3 m a) 1 = true)) (hb : badT (w2 m a)) : walkP m size d n head ind = (154, [], 0, 0) := by
  simp only [walkP, hE]; rw [if_neg (by decide), if_neg (by rw [h4]; decide), if_neg h1, if_pos hb]
theorem walkP_place (hE : alongP m size d n n head [] = (0, a, segs)) (h4 : flg (w3 m a) 4 = true) (h1 : ¬ (ind = false ∨ flg (w3 m a) 1 = true)) (hb : ¬ badT (w2 m a)) (hh : ¬ hasP size (w1 m a) (w2 m a)) : walkP m size d n head ind = (21, [], 0, 0) := by
  simp only [walkP, hE]; rw [if_neg (by decide), if_neg (by rw [h4]; decide), if_neg h1, if_neg hb, if_pos hh]
theorem walkP_in (hE : alongP m size d n n head [] = (0, a, segs)) (h4 : flg (w3 m a) 4 = true) (h1 : ¬ (ind = false ∨ flg (w3 m a) 1 = true)) (hb : ¬ badT (w2 m a)) (hh : hasP size (w1 m a) (w2 m a))
    (hE2 : alongP m size (w1 m a) (w2 m a / 16) (w2 m a / 16).toNat 0 segs = (e', a', segs')) :
    walkP m size d n head ind = if outE false e' (flg (w3 m a') 4) ≠ 0 then (outE false e' (flg (w3 m a') 4), [], 0, 0) else (0, segs', w1 m a, w2 m a) := by
  simp only [walkP, hE]; rw [if_neg (by decide), if_neg (by rw [h4]; decide), if_neg h1, if_neg hb, if_neg (not_not_intro hh)]; simp only [hE2]
end

def rdP (e ta tl d : Int) (n : Nat) (a : Int) : Prop := tblP d n a ∨ (e = 0 → tblP ta (tl / 16) a)

section
variable {R : Ending → World → Prop} {W0 w : World} {H : Hp} {A F : List Hp} {b : Nat} {r : RamG} {l : Option LogG}

theorem Sat.walker {p : Nat} {rp : Addr} (s : Sat W0 w H (empH :: cellsH ⟨p, 0, none⟩ [.pointer (some rp), .slice none 0 0, .int .u64 0, .int .u64 0, .bool false, .int .i64 0] :: F)) :
    Sat W0 w H (wkL ⟨p, 0, none⟩ rp ⟨[], 0, 0, false, .slice none 0 0, empH, OwnS.nil 3⟩ ++ F) := s.swap


set_option maxRecDepth 100000 in
set_option maxHeartbeats 4000000 in
theorem c_walk (s : Sat W0 w H A) [fr : FrK (κ := Addr) (ρ := fun _ => RamG × Option LogG) ramL ⟨b, 0, none⟩ A (r, l) F] (N : Nat) (d a' u head : Int) (ind : Bool) (hN : N ≤ 256) (hd : 0 ≤ d ∧ d ≤ 18446744073709551615) (hh : -9223372036854775808 ≤ head ∧ head ≤ 9223372036854775807)
    (k : ∀ e segs ta tl, walkP r.mem r.size d N head ind = (e, segs, ta, tl) → ∀ w' v h l', OwnS 3 v segs.length (encG segs) h → ExtR (rdP e ta tl d N) (lgs l) (lgs l') → Sat W0 w' H (h :: (ramL ⟨b, 0, none⟩ (r, l') ++ F)) →
      R (.returned (.tuple #[.agg #[v, .int .u64 ta, .int .u64 tl], .int .i64 e])) w') :
    Calls Try.prog 27 #[.pointer (some ⟨b, 0, none⟩), .agg #[.int .i64 N, .int .u64 d, .int .u64 a', .int .u64 u], .int .i64 head, .bool ind] w R := by
  have s1 := (((s.front (mk := ramL) (k := ⟨b, 0, none⟩)).alloc (c := [.int .i64 N, .int .u64 d, .int .u64 a', .int .u64 u]) (t := 46)).alloc (c := [.slice none 0 0, .int .u64 0, .int .u64 0]) (t := 56)).alloc
    (c := [.pointer (some ⟨b, 0, none⟩), .slice none 0 0, .int .u64 0, .int .u64 0, .bool false, .int .i64 0]) (t := 167)
  obtain ⟨Z, hZ⟩ : ∃ Z, w.heap.size = Z := ⟨_, rfl⟩
  simp only [World.size_alloc] at s1
  rw [hZ] at s1
  have s2 : Sat W0 _ H (wkL ⟨Z + 1 + 1, 0, none⟩ ⟨b, 0, none⟩ ⟨[], 0, 0, false, .slice none 0 0, empH, OwnS.nil 3⟩ ++ (ramL ⟨b, 0, none⟩ (r, l) ++ (cellsH ⟨Z + 1, 0, none⟩ [.slice none 0 0, .int .u64 0, .int .u64 0] :: cellsH ⟨Z, 0, none⟩ [.int .i64 N, .int .u64 d, .int .u64 a', .int .u64 u] :: F))) := (Sat.walker s1.emp).wk
  clear s fr s1
  have hrb := r.hmem
  have z0 := s2.cel Z 0 0 rfl
  have z1 := s2.cel Z 0 1 rfl
  simp only [Nat.zero_add] at z0 z1
  replace k := aside k
  go_enter Try.func27, Try.ntmps27
  go_wp2_with fail
  refine c_along s2 d head N true hd hN hh (by simp) rfl ?_
  intro e a segs hE wB d1 d2 d3 d4 g l1 e1 he1 hx hseg s4
  obtain rfl : e1 = e := by rw [he1]; simp [outE]
  replace hE : alongP r.mem r.size d N N head [] = (e1, a, segs) := hE
  have hlen := aside (alongP_len hE)
  have h1 : ExtR (tblP d N) (lgs l) (lgs l1) := hx.1
  have h2 : g.ta = 0 := hx.2.1
  have h3 : g.tl = 0 := hx.2.2
  have s5 := s4.alloc (c := [.int .u64 d1, .int .u32 d2, .int .u16 d3, .int .u16 d4]) (t := 169)
  obtain ⟨Y, hY⟩ : ∃ Y, wB.heap.size = Y := ⟨_, rfl⟩
  rw [hY] at s5
  clear s2 s4 z0 z1 hx
  replace h1 := aside h1
  replace he1 := aside he1
  by_cases he : e1 = 0
  · subst he
    obtain ⟨hsg, hwr, rfl, rfl, rfl, rfl⟩ := hseg rfl
    have b1 := ofB_bdn hrb a 8
    have b2 := ofB_bdn hrb (a + 8) 4
    have b3 := ofB_bdn hrb (a + 12) 2
    obtain ⟨hp1, hp2, hp3⟩ : (0 ≤ w1 r.mem a ∧ w1 r.mem a ≤ 18446744073709551615) ∧ (0 ≤ w2 r.mem a ∧ w2 r.mem a ≤ 4294967295) ∧ (0 ≤ w3 r.mem a ∧ w3 r.mem a ≤ 65535) := by
      simp only [w1, w2, w3]
      omega
    have E1 := fun h4 => walkP_plain (ind := ind) hE h4
    have E2 := fun h4 h1 => walkP_nested (ind := ind) hE h4 h1
    have E3 := fun h4 h1 hb => walkP_bad (ind := ind) hE h4 h1 hb
    have E4 := fun h4 h1 hb hh => walkP_place (ind := ind) hE h4 h1 hb hh
    have E5 := fun h4 h1 hb hh => fun e a segs hE2 => walkP_in (e' := e) (a' := a) (segs' := segs) (ind := ind) hE h4 h1 hb hh hE2
    obtain ⟨x1, hx1⟩ : ∃ y, w1 r.mem a = y := ⟨_, rfl⟩
    obtain ⟨x2, hx2⟩ : ∃ y, w2 r.mem a = y := ⟨_, rfl⟩
    obtain ⟨x3, hx3⟩ : ∃ y, w3 r.mem a = y := ⟨_, rfl⟩
    obtain ⟨x4, hx4⟩ : ∃ y, w4 r.mem a = y := ⟨_, rfl⟩
    rw [hx1] at hp1 E4 E5 s5
    rw [hx2] at hp2 E3 E4 E5 s5
    rw [hx3] at hp3 E1 E2 E3 E4 E5 s5
    rw [hx4] at s5
    rw [hx1, hx2, hx3, hx4]
    have B4 : (bits BinOp.and IntKind.u16 x3 4 == 0) = !flg x3 4 := by
      have h9 : (bits BinOp.and IntKind.u16 x3 4 != 0) = flg x3 4 := flg_bits hp3 2 (by omega)
      rw [← h9]; simp [bne]
    have B1 : (bits BinOp.and IntKind.u16 x3 1 != 0) = flg x3 1 := flg_bits hp3 0 (by omega)
    have y0 := s5.cel Y 0 0 rfl
    have y1 := s5.cel Y 0 1 rfl
    have y2 := s5.cel Y 0 2 rfl
    have y3 := s5.cel Y 0 3 rfl
    simp only [Nat.zero_add] at y0 y1 y2 y3
    clear hseg b1 b2 b3
    replace E1 := aside E1
    replace E2 := aside E2
    replace E3 := aside E3
    replace E4 := aside E4
    replace E5 := aside E5
    replace hx1 := aside hx1
    replace hx2 := aside hx2
    replace hx3 := aside hx3
    replace hx4 := aside hx4
    replace hE := aside hE
    replace hsg := aside hsg
    cases c4 : flg x3 4 with
    | false =>
      rw [c4] at B4
      have hW := aside (E1.out c4)
      clear E1 E2 E3 E4 E5 B1
      obtain ⟨segs1, ta1, tl1, wr1, v1, hh1, own1⟩ := g
      simp only at h2 h3 hsg hwr
      obtain rfl : segs1 = segs := hsg.out
      subst h2 h3
      obtain ⟨A1, n1, c1, hv1⟩ : ∃ A n c, v1 = .slice A n c := by obtain ⟨A, c, _, h, _⟩ := own1; exact ⟨A, _, c, h⟩
      subst hv1
      simp only [wkL, List.cons_append, List.nil_append] at s5
      have x1 := s5.cel (Z+1+1) 0 1 rfl
      have x2 := s5.cel (Z+1+1) 0 2 rfl
      have x3 := s5.cel (Z+1+1) 0 3 rfl
      simp only [Nat.zero_add] at x1 x2 x3
      have K := fun w' => k.out 0 _ 0 0 hW.out w' (.slice A1 n1 c1) hh1 l1 own1 (h1.out.mono fun _ h => .inl h)
      replace K := aside K
      clear k hE hsg own1
      have s8q0 := s5.cel (Z+1) 0 0 rfl
      have s8t0 := (s5.pc (Z+1) 0).s0 (.slice A1 n1 c1)
      have s8q1 := s8t0.c 1 rfl
      have s8t1 := s8t0.s 1 (by simp) (.int .u64 0)
      have s8q2 := s8t1.c 2 rfl
      have s8 := s8t1.s 2 (by simp) (.int .u64 0)
      simp only [List.set_cons_succ, List.set_cons_zero, Nat.zero_add] at s8 s8q0 s8q1 s8q2
      have f0 := s8.c 0 rfl
      have f1 := s8.c 1 rfl
      have f2 := s8.c 2 rfl
      simp only [Nat.zero_add] at f0 f1 f2
      go_wp2
      refine bodyPost_ret (by simp [results, Try.results27, go_sem, f0.1, f1.1, f2.1]; try rfl) rfl ?_
      exact K.out _ s8.wk
    | true =>
      rw [c4] at B4
      cases ind with
      | false =>
        have hW := aside (E2.out c4 (.inl rfl))
        clear E1 E2 E3 E4 E5 B1
        have K := fun w' => k.out 153 [] 0 0 hW.out w' (.slice none 0 0) empH l1 (OwnS.nil 3) (h1.out.mono fun _ h => .inl h)
        replace K := aside K
        clear k
        have s8q0 := s5.cel (Z+1) 0 0 rfl
        have s8t0 := (s5.pc (Z+1) 0).s0 (.slice none 0 0)
        have s8q1 := s8t0.c 1 rfl
        have s8t1 := s8t0.s 1 (by simp) (.int .u64 0)
        have s8q2 := s8t1.c 2 rfl
        have s8 := s8t1.s 2 (by simp) (.int .u64 0)
        simp only [List.set_cons_succ, List.set_cons_zero, Nat.zero_add] at s8 s8q0 s8q1 s8q2
        have f0 := s8.c 0 rfl
        have f1 := s8.c 1 rfl
        have f2 := s8.c 2 rfl
        simp only [Nat.zero_add] at f0 f1 f2
        go_wp2
        refine bodyPost_ret (by simp [results, Try.results27, go_sem, f0.1, f1.1, f2.1]; try rfl) rfl ?_
        exact K.out _ s8.emp.wk
      | true =>
        cases c1 : flg x3 1 with
        | true =>
          rw [c1] at B1
          have hW := aside (E2.out c4 (.inr c1))
          clear E1 E2 E3 E4 E5
          have K := fun w' => k.out 153 [] 0 0 hW.out w' (.slice none 0 0) empH l1 (OwnS.nil 3) (h1.out.mono fun _ h => .inl h)
          replace K := aside K
          clear k
          have s8q0 := s5.cel (Z+1) 0 0 rfl
          have s8t0 := (s5.pc (Z+1) 0).s0 (.slice none 0 0)
          have s8q1 := s8t0.c 1 rfl
          have s8t1 := s8t0.s 1 (by simp) (.int .u64 0)
          have s8q2 := s8t1.c 2 rfl
          have s8 := s8t1.s 2 (by simp) (.int .u64 0)
          simp only [List.set_cons_succ, List.set_cons_zero, Nat.zero_add] at s8 s8q0 s8q1 s8q2
          have f0 := s8.c 0 rfl
          have f1 := s8.c 1 rfl
          have f2 := s8.c 2 rfl
          simp only [Nat.zero_add] at f0 f1 f2
          go_wp2
          refine bodyPost_ret (by simp [results, Try.results27, go_sem, f0.1, f1.1, f2.1]; try rfl) rfl ?_
          exact K.out _ s8.emp.wk
        | false =>
          rw [c1] at B1
          have cn : ¬ (true = false ∨ flg x3 1 = true) := by rw [c1]; decide
          have F3 := fun hb => E3.out c4 cn hb
          have F4 := fun hb hh => E4.out c4 cn hb hh
          have F5 := fun hb hh => E5.out c4 cn hb hh
          replace F3 := aside F3
          replace F4 := aside F4
          replace F5 := aside F5
          have hgl := aside (show g.segs.length ≤ 1000 by rw [hsg.out]; have := hlen.out; simp only [List.length_nil] at this; omega)
          have hgw := aside (show g.wr = lastW g.segs by rw [hsg.out]; exact hwr)
          have s6 : Sat W0 _ H (wkL ⟨Z + 1 + 1, 0, none⟩ ⟨b, 0, none⟩ g ++ (ramL ⟨b, 0, none⟩ (r, l1) ++ (cellsH ⟨Y, 0, none⟩ [.int .u64 x1, .int .u32 x2, .int .u16 x3, .int .u16 x4] :: cellsH ⟨Z + 1, 0, none⟩ [.slice none 0 0, .int .u64 0, .int .u64 0] :: cellsH ⟨Z, 0, none⟩ [.int .i64 N, .int .u64 d, .int .u64 a', .int .u64 u] :: F))) := s5.wk
          clear E1 E2 E3 E4 E5 s5 cn hwr h2 h3
          go_wp2_with fail
          refine c_table s6 x1 x2 x3 x4 hp1 hp2 hgl.out hgw.out ?_ ?_ ?_
          · intro hb w7 g7 s7
            have hW := aside (F3.out hb)
            clear F3 F4 F5 s6
            have K := fun w' => k.out 154 [] 0 0 hW.out w' (.slice none 0 0) empH l1 (OwnS.nil 3) (h1.out.mono fun _ h => .inl h)
            replace K := aside K
            clear k
            have s8q0 := s7.cel (Z+1) 0 0 rfl
            have s8t0 := (s7.pc (Z+1) 0).s0 (.slice none 0 0)
            have s8q1 := s8t0.c 1 rfl
            have s8t1 := s8t0.s 1 (by simp) (.int .u64 0)
            have s8q2 := s8t1.c 2 rfl
            have s8 := s8t1.s 2 (by simp) (.int .u64 0)
            simp only [List.set_cons_succ, List.set_cons_zero, Nat.zero_add] at s8 s8q0 s8q1 s8q2
            have f0 := s8.c 0 rfl
            have f1 := s8.c 1 rfl
            have f2 := s8.c 2 rfl
            simp only [Nat.zero_add] at f0 f1 f2
            go_wp2
            refine bodyPost_ret (by simp [results, Try.results27, go_sem, f0.1, f1.1, f2.1]; try rfl) rfl ?_
            exact K.out _ s8.emp.wk
          · intro hb hh w7 g7 s7
            have hW := aside (F4.out hb hh)
            clear F3 F4 F5 s6
            have K := fun w' => k.out 21 [] 0 0 hW.out w' (.slice none 0 0) empH l1 (OwnS.nil 3) (h1.out.mono fun _ h => .inl h)
            replace K := aside K
            clear k
            have s8q0 := s7.cel (Z+1) 0 0 rfl
            have s8t0 := (s7.pc (Z+1) 0).s0 (.slice none 0 0)
            have s8q1 := s8t0.c 1 rfl
            have s8t1 := s8t0.s 1 (by simp) (.int .u64 0)
            have s8q2 := s8t1.c 2 rfl
            have s8 := s8t1.s 2 (by simp) (.int .u64 0)
            simp only [List.set_cons_succ, List.set_cons_zero, Nat.zero_add] at s8 s8q0 s8q1 s8q2
            have f0 := s8.c 0 rfl
            have f1 := s8.c 1 rfl
            have f2 := s8.c 2 rfl
            simp only [Nat.zero_add] at f0 f1 f2
            go_wp2
            refine bodyPost_ret (by simp [results, Try.results27, go_sem, f0.1, f1.1, f2.1]; try rfl) rfl ?_
            exact K.out _ s8.emp.wk
          · intro hb hh e a7 segs7 hE7 w7 g7 l7 e7 he7 hx7 hta htl hs7 s7
            have hW := F5.out hb hh e a7 segs7 (by rw [← hsg.out]; exact hE7)
            rw [← he7] at hW
            have hX7 : ExtR (rdP e7 x1 x2 d N) (lgs l) (lgs l7) := (h1.out.mono fun _ h => .inl h).trans (hx7.mono fun _ h => .inr fun _ => h)
            have hX8 : e7 ≠ 0 → ExtR (rdP e7 0 0 d N) (lgs l) (lgs l7) := fun hn => hX7.mono fun _ h => h.imp id fun _ h0 => absurd h0 hn
            clear F3 F4 F5 s6 hx7 hE7 he7
            by_cases h7 : e7 = 0
            · subst h7
              rw [if_neg (by decide)] at hW
              obtain rfl := hs7 rfl
              obtain ⟨segs1, ta1, tl1, wr1, v1, hh1, own1⟩ := g7
              simp only at hta htl hW hs7
              subst hta htl
              obtain ⟨A1, n1, c1, hv1⟩ : ∃ A n c, v1 = .slice A n c := by obtain ⟨A, c, _, h, _⟩ := own1; exact ⟨A, _, c, h⟩
              subst hv1
              simp only [wkL, List.cons_append, List.nil_append] at s7
              have x1 := s7.cel (Z+1+1) 0 1 rfl
              have x2 := s7.cel (Z+1+1) 0 2 rfl
              have x3 := s7.cel (Z+1+1) 0 3 rfl
              simp only [Nat.zero_add] at x1 x2 x3
              have K := fun w' => k.out 0 _ ta1 tl1 hW w' (.slice A1 n1 c1) hh1 l7 own1 hX7
              replace K := aside K
              replace hW := aside hW
              replace hX7 := aside hX7
              clear k hE hsg own1 hX8 hs7 hgl hgw
              have s8q0 := s7.cel (Z+1) 0 0 rfl
              have s8t0 := (s7.pc (Z+1) 0).s0 (.slice A1 n1 c1)
              have s8q1 := s8t0.c 1 rfl
              have s8t1 := s8t0.s 1 (by simp) (.int .u64 ta1)
              have s8q2 := s8t1.c 2 rfl
              have s8 := s8t1.s 2 (by simp) (.int .u64 tl1)
              simp only [List.set_cons_succ, List.set_cons_zero, Nat.zero_add] at s8 s8q0 s8q1 s8q2
              have f0 := s8.c 0 rfl
              have f1 := s8.c 1 rfl
              have f2 := s8.c 2 rfl
              simp only [Nat.zero_add] at f0 f1 f2
              go_wp2
              refine bodyPost_ret (by simp [results, Try.results27, go_sem, f0.1, f1.1, f2.1]; try rfl) rfl ?_
              exact K.out _ s8.wk
            · rw [if_pos h7] at hW
              have hX9 := aside (hX8 h7)
              replace hW := aside hW
              clear hX8 hX7 hs7
              have K := fun w' => k.out e7 [] 0 0 hW.out w' (.slice none 0 0) empH l7 (OwnS.nil 3) hX9.out
              replace K := aside K
              clear k
              have s8q0 := s7.cel (Z+1) 0 0 rfl
              have s8t0 := (s7.pc (Z+1) 0).s0 (.slice none 0 0)
              have s8q1 := s8t0.c 1 rfl
              have s8t1 := s8t0.s 1 (by simp) (.int .u64 0)
              have s8q2 := s8t1.c 2 rfl
              have s8 := s8t1.s 2 (by simp) (.int .u64 0)
              simp only [List.set_cons_succ, List.set_cons_zero, Nat.zero_add] at s8 s8q0 s8q1 s8q2
              have f0 := s8.c 0 rfl
              have f1 := s8.c 1 rfl
              have f2 := s8.c 2 rfl
              simp only [Nat.zero_add] at f0 f1 f2
              go_wp2
              refine bodyPost_ret (by simp [results, Try.results27, go_sem, f0.1, f1.1, f2.1]; try rfl) rfl ?_
              exact K.out _ s8.emp.wk
  · have hW := aside (walkP_err (ind := ind) hE he)
    clear hseg
    have K := fun w' => k.out e1 [] 0 0 hW.out w' (.slice none 0 0) empH l1 (OwnS.nil 3) (h1.out.mono fun _ h => .inl h)
    replace K := aside K
    clear k
    have s8q0 := s5.cel (Z+1) 0 0 rfl
    have s8t0 := (s5.pc (Z+1) 0).s0 (.slice none 0 0)
    have s8q1 := s8t0.c 1 rfl
    have s8t1 := s8t0.s 1 (by simp) (.int .u64 0)
    have s8q2 := s8t1.c 2 rfl
    have s8 := s8t1.s 2 (by simp) (.int .u64 0)
    simp only [List.set_cons_succ, List.set_cons_zero, Nat.zero_add] at s8 s8q0 s8q1 s8q2
    have f0 := s8.c 0 rfl
    have f1 := s8.c 1 rfl
    have f2 := s8.c 2 rfl
    simp only [Nat.zero_add] at f0 f1 f2
    go_wp2
    refine bodyPost_ret (by simp [results, Try.results27, go_sem, f0.1, f1.1, f2.1]; try rfl) rfl ?_
    exact K.out _ s8.emp.wk
end
end Go.Proofs.Ytippipfogbgemaa
