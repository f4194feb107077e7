/-
  RING: a descriptor of a table, the document's and the code's.
-/
import Derived.Test.YtippipfogbgemaaVj
import Derived.Deep.RegionHeld3
namespace Go.Proofs.Ytippipfogbgemaa
open Go.RowKit
set_option linter.unusedVariables false

theorem rdB_app (m : Int → Int) (a : Int) (i : Nat) : ∀ j, rdB m a (i + j) = rdB m a i ++ rdB m (a + i) j
  | 0 => by simp [rdB]
  | j + 1 => by
    have e : a + (i : Int) + (j : Int) = a + ((i + j : Nat) : Int) := by omega
    rw [show i + (j + 1) = (i + j) + 1 by omega, rdB, rdB, rdB_app m a i j, e, List.append_assoc]

theorem leb_ofB : ∀ (l : List Int), (∀ x ∈ l, 0 ≤ x ∧ x ≤ 255) → leb (ofB l) l.length = l
  | [], _ => rfl
  | x :: l, h => by
    have h1 := h x (List.mem_cons_self ..)
    have ih := leb_ofB l (fun y hy => h y (List.mem_cons_of_mem _ hy))
    have e1 : (x + 256 * ofB l) % 256 = x := by omega
    have e2 : (x + 256 * ofB l) / 256 = ofB l := by omega
    show (ofB (x :: l)) % 256 :: leb (ofB (x :: l) / 256) l.length = x :: l
    rw [show ofB (x :: l) = x + 256 * ofB l from rfl, e1, e2, ih]

theorem Rd.cut8 {H : Hp} {b o c : Nat} {n : Nat} {xs : List Int} (r : Rd u8E 1 H (.slice (some ⟨b, o, none⟩) n c) xs) (i j : Nat) (hij : i ≤ j) (hj : j ≤ n) : Rd u8E 1 H (.slice (some ⟨b, o + i, none⟩) (j - i) (c - i)) ((xs.take j).drop i) := by
  obtain ⟨rfl, hc, hc2, g⟩ := r.u8
  have hl : ((xs.take j).drop i).length = j - i := by rw [List.length_drop, List.length_take]; omega
  refine ⟨_, _, by rw [hl], by rw [hl]; omega, by omega, fun q x hx => ?_⟩
  have hq : q < j - i := by
    rcases Nat.lt_or_ge q (j - i) with h0 | h0
    · exact h0
    · rw [List.getElem?_eq_none (by omega)] at hx; cases hx
  rw [List.getElem?_drop, List.getElem?_take, if_pos (by omega), List.getElem?_eq_getElem (by omega)] at hx
  obtain rfl := Option.some.inj hx
  obtain ⟨b', o', e, hcell, h0, h1⟩ := g (i + q) (by omega)
  injection e with e
  injection e with e1 e2
  subst e1 e2
  refine ⟨b, o + i, _, rfl, ⟨rfl, h0, h1⟩, rfl, fun p u hu => ?_⟩
  cases p with
  | succ p => simp at hu
  | zero =>
    simp at hu
    subst hu
    rw [show o + i + q * 1 + 0 = o + (i + q) by omega]; exact hcell

/-- a descriptor's words -/
def w1 (m : Int → Int) (a : Int) : Int := ofB (rdB m a 8)
def w2 (m : Int → Int) (a : Int) : Int := ofB (rdB m (a + 8) 4)
def w3 (m : Int → Int) (a : Int) : Int := ofB (rdB m (a + 12) 2)
def w4 (m : Int → Int) (a : Int) : Int := ofB (rdB m (a + 14) 2)
def dVals (m : Int → Int) (a : Int) : List Value := [.int .u64 (w1 m a), .int .u32 (w2 m a), .int .u16 (w3 m a), .int .u16 (w4 m a)]
def thereP (size i a : Int) : Prop := 0 ≤ i ∧ i ≤ 255 ∧ hasP size a 16
instance (s i a : Int) : Decidable (thereP s i a) := by unfold thereP; infer_instance

theorem ofB_bdn {m : Int → Int} (hm : ∀ a, 0 ≤ m a ∧ m a ≤ 255) (a : Int) (n : Nat) : 0 ≤ ofB (rdB m a n) ∧ ofB (rdB m a n) < 256 ^ n := by
  have := ofB_bd (rdB_bd hm a n)
  rwa [rdB_len] at this

section
variable {R : Ending → World → Prop} {W0 w : World} {H : Hp} {A F : List Hp} {v : Value} {b : Nat} {r : RamG} {size : Int} {m : Int → Int} {L : Nat}

set_option maxRecDepth 100000 in
set_option maxHeartbeats 4000000 in
theorem c_refDesc (s : Sat W0 w H A) (rm : RefM H v size m L) (hL : L ≤ 1000000) (hz : 0 ≤ size ∧ size ≤ 268435456) (t i at' : Int) (h0 : 0 ≤ t ∧ t ≤ 18446744073709551615) (hi : -9223372036854775808 ≤ i ∧ i ≤ 9223372036854775807) (hat : at' = IntKind.u64.wrap (t + IntKind.u64.wrap (16 * IntKind.u64.wrap i)))
    (kb : ¬ thereP size i at' → ∀ w', Sat W0 w' H A → R (.returned (.tuple #[.agg #[.int .u64 0, .int .u32 0, .int .u16 0, .int .u16 0], .bool false])) w')
    (k : thereP size i at' → ∀ w', Sat W0 w' H A → R (.returned (.tuple #[.agg #[.int .u64 (w1 m at'), .int .u32 (w2 m at'), .int .u16 (w3 m at'), .int .u16 (w4 m at')], .bool true])) w') :
    Calls Try.prog 116 #[v, .int .u64 t, .int .i64 i] w R := by
  obtain ⟨B, n0, c, rfl⟩ := rm.shapeM
  have s1 := (s.alloc (c := [.int .u64 size, .slice B n0 c]) (t := 28)).alloc (c := [.int .u64 0, .int .u32 0, .int .u16 0, .int .u16 0]) (t := 169)
  obtain ⟨Z, hZ⟩ : ∃ Z, w.heap.size = Z := ⟨_, rfl⟩
  rw [World.size_alloc, hZ] at s1
  have y0 := s1.cel Z 0 0 rfl
  have y1 := s1.cel Z 0 1 rfl
  simp only [Nat.zero_add] at y0 y1
  have hbd : 0 ≤ at' ∧ at' ≤ 18446744073709551615 := by rw [hat, wrap_u64]; omega
  clear s
  by_cases hi2 : 0 ≤ i ∧ i ≤ 255
  · obtain ⟨ha, hb⟩ := hi2
    by_cases hh : hasP size at' 16
    · have K := k ⟨ha, hb, hh⟩
      have b1 := ofB_bdn rm.bd at' 8
      have b2 := ofB_bdn rm.bd (at' + 8) 4
      have b3 := ofB_bdn rm.bd (at' + 12) 2
      have b4 := ofB_bdn rm.bd (at' + 14) 2
      simp only [w1, w2, w3, w4] at K
      have c1 : hasP size at' 8 := by unfold hasP at hh ⊢; omega
      have c2 : hasP size (at' + 8) 4 := by unfold hasP at hh ⊢; omega
      have c3 : hasP size (at' + 12) 2 := by unfold hasP at hh ⊢; omega
      have c4 : hasP size (at' + 14) 2 := by unfold hasP at hh ⊢; omega
      have hhb : 2147483648 ≤ at' ∧ at' + 16 ≤ 2147483648 + size := hh
      obtain ⟨a8, ha8⟩ : ∃ y, at' + 8 = y := ⟨_, rfl⟩
      obtain ⟨a12, ha12⟩ : ∃ y, at' + 12 = y := ⟨_, rfl⟩
      obtain ⟨a14, ha14⟩ : ∃ y, at' + 14 = y := ⟨_, rfl⟩
      rw [ha8] at b2 K c2
      rw [ha12] at b3 K c3
      rw [ha14] at b4 K c4
      have g8 : IntKind.u64.wrap (at' + 8) = a8 := by rw [wrap_u64]; omega
      have g12 : IntKind.u64.wrap (at' + 12) = a12 := by rw [wrap_u64]; omega
      have g14 : IntKind.u64.wrap (at' + 14) = a14 := by rw [wrap_u64]; omega
      have l8 := aside (show 0 ≤ a8 ∧ a8 ≤ 18446744073709551615 by omega)
      have l12 := aside (show 0 ≤ a12 ∧ a12 ≤ 18446744073709551615 by omega)
      have l14 := aside (show 0 ≤ a14 ∧ a14 ≤ 18446744073709551615 by omega)
      obtain ⟨x1, hx1⟩ : ∃ y, ofB (rdB m at' 8) = y := ⟨_, rfl⟩
      obtain ⟨x2, hx2⟩ : ∃ y, ofB (rdB m a8 4) = y := ⟨_, rfl⟩
      obtain ⟨x3, hx3⟩ : ∃ y, ofB (rdB m a12 2) = y := ⟨_, rfl⟩
      obtain ⟨x4, hx4⟩ : ∃ y, ofB (rdB m a14 2) = y := ⟨_, rfl⟩
      rw [hx1] at b1 K
      rw [hx2] at b2 K
      rw [hx3] at b3 K
      rw [hx4] at b4 K
      replace hx1 := aside (show (if hasP size at' 8 then ofB (rdB m at' (8 : Int).toNat) else 0) = x1 by rw [if_pos c1]; exact hx1)
      replace hx2 := aside (show (if hasP size a8 4 then ofB (rdB m a8 (4 : Int).toNat) else 0) = x2 by rw [if_pos c2]; exact hx2)
      replace hx3 := aside (show (if hasP size a12 2 then ofB (rdB m a12 (2 : Int).toNat) else 0) = x3 by rw [if_pos c3]; exact hx3)
      replace hx4 := aside (show (if hasP size a14 2 then ofB (rdB m a14 (2 : Int).toNat) else 0) = x4 by rw [if_pos c4]; exact hx4)
      have e2 : IntKind.u32.wrap x2 = x2 := by rw [wrap_u32]; omega
      have e3 : IntKind.u16.wrap x3 = x3 := by rw [wrap_u16]; omega
      have e4 : IntKind.u16.wrap x4 = x4 := by rw [wrap_u16]; omega
      have hat2 : IntKind.u64.wrap (t + 16 * i) = at' := by
        rw [hat]
        have e1 : IntKind.u64.wrap i = i := by rw [wrap_u64]; omega
        have e2 : IntKind.u64.wrap (16 * i) = 16 * i := by rw [wrap_u64]; omega
        rw [e1, e2]
      have hbd2 := aside hbd
      have hz2 := aside hz
      clear k kb c1 c2 c3 c4 hat b1 b2 b3 b4 ha8 ha12 ha14 hhb
      go_enter Try.func116, Try.ntmps116
      go_wp2_with fail
      refine c_refHas s1 (by omega) _ _ hbd (by omega) ?_
      rw [decide_eq_true hh]
      intro w2 s2
      have y0 := s2.cel Z 0 0 rfl
      have y1 := s2.cel Z 0 1 rfl
      simp only [Nat.zero_add] at y0 y1
      clear s1 hbd hz h0 hi hh
      go_wp2
      go_region_held3 (fun w' => w'.cell? ⟨Z, 0, none⟩ = some (.int .u64 size) ∧ w'.cell? ⟨Z, 1, none⟩ = some (.slice B n0 c))
        (first
          | exact ⟨y0.1, y1.1⟩
          | exact ⟨(s8.cel Z 0 0 rfl).1, (s8.cel Z 0 1 rfl).1⟩
          | exact ⟨(s7.cel Z 0 0 rfl).1, (s7.cel Z 0 1 rfl).1⟩
          | exact ⟨(s6.cel Z 0 0 rfl).1, (s6.cel Z 0 1 rfl).1⟩
          | exact ⟨(s5.cel Z 0 0 rfl).1, (s5.cel Z 0 1 rfl).1⟩
          | exact ⟨(s4.cel Z 0 0 rfl).1, (s4.cel Z 0 1 rfl).1⟩)
        (first
          | (go_at_call 100; have hs := s6; refine c_refWord s6 rm hL hz2.out a14 2 l14.out (by omega) ?_; intro w7 s7; rw [hx4.out]
             have q0 := s7.cel (Z + 1) 0 0 rfl
             have s7a := (Sat.pull (h := cellsH ⟨Z + 1, 0, none⟩ [.int .u64 0, .int .u32 0, .int .u16 0, .int .u16 0]) s7).s0 (.int .u64 x1)
             have q1 := s7a.c 1 rfl
             have s7b := s7a.s 1 (by simp) (.int .u32 x2)
             have q2 := s7b.c 2 rfl
             have s7c := s7b.s 2 (by simp) (.int .u16 x3)
             have q3 := s7c.c 3 rfl
             have s8 := s7c.s 3 (by simp) (.int .u16 x4)
             simp only [List.set_cons_succ, List.set_cons_zero, Nat.zero_add] at s8 q0 q1 q2 q3)
          | (go_at_call 100; have hs := s5; refine c_refWord s5 rm hL hz2.out a12 2 l12.out (by omega) ?_; intro w6 s6; rw [hx3.out])
          | (go_at_call 100; have hs := s4; refine c_refWord s4 rm hL hz2.out a8 4 l8.out (by omega) ?_; intro w5 s5; rw [hx2.out])
          | (go_at_call 100; refine c_refWord s2.drew rm hL hz2.out at' 8 hbd2.out (by omega) ?_; intro w4 s4; rw [hx1.out]))
      all_goals
        have f0 := s8.c0
        have f1 := s8.c 1 rfl
        have f2 := s8.c 2 rfl
        have f3 := s8.c 3 rfl
        simp only [Nat.zero_add] at f0 f1 f2 f3
        go_wp2
        refine bodyPost_ret (by simp [results, Try.results116, go_sem, f0.1, f1.1, f2.1, f3.1]; try rfl) rfl ?_
        exact K _ s8.wk
    · have K := kb (fun h => absurd h.2.2 hh)
      have hat2 : IntKind.u64.wrap (t + 16 * i) = at' := by
        rw [hat]
        have e1 : IntKind.u64.wrap i = i := by rw [wrap_u64]; omega
        have e2 : IntKind.u64.wrap (16 * i) = 16 * i := by rw [wrap_u64]; omega
        rw [e1, e2]
      clear k kb hat
      go_enter Try.func116, Try.ntmps116
      go_wp2_with fail
      refine c_refHas s1 (by omega) _ _ hbd (by omega) ?_
      rw [decide_eq_false hh]
      intro w2 s2
      have q0 := s2.cel (Z + 1) 0 0 rfl
      have q1 := s2.cel (Z + 1) 0 1 rfl
      have q2 := s2.cel (Z + 1) 0 2 rfl
      have q3 := s2.cel (Z + 1) 0 3 rfl
      have s8 := ((((Sat.pull (h := cellsH ⟨Z + 1, 0, none⟩ [.int .u64 0, .int .u32 0, .int .u16 0, .int .u16 0]) s2).s0 (.int .u64 0)).s 1 (by simp) (.int .u32 0)).s 2 (by simp) (.int .u16 0)).s 3 (by simp) (.int .u16 0)
      simp only [List.set_cons_succ, List.set_cons_zero, Nat.zero_add] at s8 q0 q1 q2 q3
      have f0 := s8.c0
      have f1 := s8.c 1 rfl
      have f2 := s8.c 2 rfl
      have f3 := s8.c 3 rfl
      simp only [Nat.zero_add] at f0 f1 f2 f3
      clear s1
      go_wp2
      refine bodyPost_ret (by simp [results, Try.results116, go_sem, f0.1, f1.1, f2.1, f3.1]; try rfl) rfl ?_
      exact K _ s8.wk
  · have K := kb (fun h => hi2 ⟨h.1, h.2.1⟩) _ s1.tail1.tail1
    have f0 := s1.cel (Z + 1) 0 0 rfl
    have f1 := s1.cel (Z + 1) 0 1 rfl
    have f2 := s1.cel (Z + 1) 0 2 rfl
    have f3 := s1.cel (Z + 1) 0 3 rfl
    simp only [Nat.zero_add] at f0 f1 f2 f3
    clear k kb hat
    by_cases hneg : i < 0
    · go_enter Try.func116, Try.ntmps116
      go_wp2
      refine bodyPost_ret (by simp [results, Try.results116, go_sem, f0.1, f1.1, f2.1, f3.1]; try rfl) rfl ?_
      exact K
    · have h5 : 255 < i := by omega
      have h6 : 0 ≤ i := by omega
      clear hi2 hneg
      go_enter Try.func116, Try.ntmps116
      go_wp2
      refine bodyPost_ret (by simp [results, Try.results116, go_sem, f0.1, f1.1, f2.1, f3.1]; try rfl) rfl ?_
      exact K
end
end Go.Proofs.Ytippipfogbgemaa
