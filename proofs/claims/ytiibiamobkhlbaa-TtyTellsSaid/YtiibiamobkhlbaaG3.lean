/-
  RING: a descriptor of a table, the document's and the code's.
  RING: a descriptor of a table, the code's.
  RING: a descriptor of a table, the code's, a memory that may be watched; what a walk adds to a log.
  LOGS: what was read and written lies where two conditions say.
  CHAIN: rows of segments, a walker's pieces; a segment is taken.
  CHAIN: how much may be read and written; which part of a segment some bytes are.
  CHAIN: what a walk along a table finds, as a plain function; the code's walk.
  CHAIN: a table of descriptors; the whole walk, the code's.
  CHAIN: the whole walk, the code's.
  CHAIN: what is asked, as an argument; what a walk finds lies in the memory.
  CHAIN: bytes are written into what may be written.
  CHAIN: bytes that may be read are gathered.
-/
import Derived.Test.YtiibiamobkhlbaaG2
import Derived.Deep.RegionHeld3
import Derived.Test.YtiibiamobkhlbaaG1
import Derived.Deep.QuietTactic
import Derived.BigQuiet
import Derived.Deep.LoopGhost
set_option linter.unusedVariables false
set_option linter.unusedSimpArgs false
namespace Go.Proofs.Ytiibiamobkhlbaa
open Go.RowKit
set_option linter.unusedVariables false

theorem rdB_app (m : Int → Int) (a : Int) (i : Nat) : ∀ j, rdB m a (i + j) = rdB m a i ++ rdB m (a + i) j
  | 0 => by simp [rdB]
  | j + 1 => by
    have e : a + (i : Int) + (j : Int) = a + ((i + j : Nat) : Int) := by omega
    rw [show i + (j + 1) = (i + j) + 1 by omega, rdB, rdB, rdB_app m a i j, e, List.append_assoc]

theorem leb_ofB : ∀ (l : List Int), (∀ x ∈ l, 0 ≤ x ∧ x ≤ 255) → leb (ofB l) l.length = l
  | [], _ => rfl
  | x :: l, h => by
    have h1 := h x (List.mem_cons_self ..)
    have ih := leb_ofB l (fun y hy => h y (List.mem_cons_of_mem _ hy))
    have e1 : (x + 256 * ofB l) % 256 = x := by omega
    have e2 : (x + 256 * ofB l) / 256 = ofB l := by omega
    show (ofB (x :: l)) % 256 :: leb (ofB (x :: l) / 256) l.length = x :: l
    rw [show ofB (x :: l) = x + 256 * ofB l from rfl, e1, e2, ih]

theorem Rd.cut8 {H : Hp} {b o c : Nat} {n : Nat} {xs : List Int} (r : Rd u8E 1 H (.slice (some ⟨b, o, none⟩) n c) xs) (i j : Nat) (hij : i ≤ j) (hj : j ≤ n) : Rd u8E 1 H (.slice (some ⟨b, o + i, none⟩) (j - i) (c - i)) ((xs.take j).drop i) := by
  obtain ⟨rfl, hc, hc2, g⟩ := r.u8
  have hl : ((xs.take j).drop i).length = j - i := by rw [List.length_drop, List.length_take]; omega
  refine ⟨_, _, by rw [hl], by rw [hl]; omega, by omega, fun q x hx => ?_⟩
  have hq : q < j - i := by
    rcases Nat.lt_or_ge q (j - i) with h0 | h0
    · exact h0
    · rw [List.getElem?_eq_none (by omega)] at hx; cases hx
  rw [List.getElem?_drop, List.getElem?_take, if_pos (by omega), List.getElem?_eq_getElem (by omega)] at hx
  obtain rfl := Option.some.inj hx
  obtain ⟨b', o', e, hcell, h0, h1⟩ := g (i + q) (by omega)
  injection e with e
  injection e with e1 e2
  subst e1 e2
  refine ⟨b, o + i, _, rfl, ⟨rfl, h0, h1⟩, rfl, fun p u hu => ?_⟩
  cases p with
  | succ p => simp at hu
  | zero =>
    simp at hu
    subst hu
    rw [show o + i + q * 1 + 0 = o + (i + q) by omega]; exact hcell

/-- a descriptor's words -/
def w1 (m : Int → Int) (a : Int) : Int := ofB (rdB m a 8)
def w2 (m : Int → Int) (a : Int) : Int := ofB (rdB m (a + 8) 4)
def w3 (m : Int → Int) (a : Int) : Int := ofB (rdB m (a + 12) 2)
def w4 (m : Int → Int) (a : Int) : Int := ofB (rdB m (a + 14) 2)
def dVals (m : Int → Int) (a : Int) : List Value := [.int .u64 (w1 m a), .int .u32 (w2 m a), .int .u16 (w3 m a), .int .u16 (w4 m a)]
def thereP (size i a : Int) : Prop := 0 ≤ i ∧ i ≤ 255 ∧ hasP size a 16
instance (s i a : Int) : Decidable (thereP s i a) := by unfold thereP; infer_instance

theorem ofB_bdn {m : Int → Int} (hm : ∀ a, 0 ≤ m a ∧ m a ≤ 255) (a : Int) (n : Nat) : 0 ≤ ofB (rdB m a n) ∧ ofB (rdB m a n) < 256 ^ n := by
  have := ofB_bd (rdB_bd hm a n)
  rwa [rdB_len] at this

section
variable {R : Ending → World → Prop} {W0 w : World} {H : Hp} {A F : List Hp} {v : Value} {b : Nat} {r : RamG} {size : Int} {m : Int → Int} {L : Nat}

end
end Go.Proofs.Ytiibiamobkhlbaa

namespace Go.Proofs.Ytiibiamobkhlbaa
open Go.RowKit
set_option linter.unusedVariables false

theorem rdB_cut (m : Int → Int) (a : Int) (i j n : Nat) (hij : i ≤ j) (hj : j ≤ n) : ((rdB m a n).take j).drop i = rdB m (a + i) (j - i) := by
  obtain ⟨p, rfl⟩ : ∃ p, n = j + p := ⟨n - j, by omega⟩
  obtain ⟨q, rfl⟩ : ∃ q, j = i + q := ⟨j - i, by omega⟩
  have e1 := rdB_len m a (i + q)
  have e2 := rdB_len m a i
  rw [rdB_app m a (i + q) p, List.take_left' e1, rdB_app m a i q, List.drop_left' e2, show i + q - i = q by omega]

section
variable {R : Ending → World → Prop} {W0 w : World} {H : Hp} {A F : List Hp} {v : Value} {b : Nat} {r : RamG} {L : Nat}

set_option maxRecDepth 100000 in
set_option maxHeartbeats 4000000 in
theorem c_ringDesc (s : Sat W0 w H A) [fr : FrK (κ := Addr) (ρ := fun _ => RamG × Option LogG) ramL ⟨b, 0, none⟩ A (r, none) F] (t i at' : Int) (h0 : 0 ≤ t ∧ t ≤ 18446744073709551615) (hi : -9223372036854775808 ≤ i ∧ i ≤ 9223372036854775807) (hat : at' = IntKind.u64.wrap (t + IntKind.u64.wrap (16 * IntKind.u64.wrap i)))
    (kb : ¬ thereP r.size i at' → ∀ w', Sat W0 w' H (ramL ⟨b, 0, none⟩ (r, none) ++ F) → R (.returned (.tuple #[.agg #[.int .u64 0, .int .u32 0, .int .u16 0, .int .u16 0], .bool false])) w')
    (k : thereP r.size i at' → ∀ w', Sat W0 w' H (ramL ⟨b, 0, none⟩ (r, none) ++ F) → R (.returned (.tuple #[.agg #[.int .u64 (w1 r.mem at'), .int .u32 (w2 r.mem at'), .int .u16 (w3 r.mem at'), .int .u16 (w4 r.mem at')], .bool true])) w') :
    Calls Try.prog 169 #[.pointer (some ⟨b, 0, none⟩), .int .u64 t, .int .i64 i] w R := by
  have s1 := (s.front (mk := ramL) (k := ⟨b, 0, none⟩)).alloc (c := [.int .u64 0, .int .u32 0, .int .u16 0, .int .u16 0]) (t := 266)
  obtain ⟨Z, hZ⟩ : ∃ Z, w.heap.size = Z := ⟨_, rfl⟩
  rw [hZ] at s1
  have hbd : 0 ≤ at' ∧ at' ≤ 18446744073709551615 := by rw [hat, wrap_u64]; omega
  have hrb := r.hmem
  have hhas := has_iff r at' 16 (by omega)
  clear s fr
  by_cases hi2 : 0 ≤ i ∧ i ≤ 255
  · obtain ⟨ha, hb⟩ := hi2
    have hat2 : IntKind.u64.wrap (t + 16 * i) = at' := by
      rw [hat]
      have e1 : IntKind.u64.wrap i = i := by rw [wrap_u64]; omega
      have e2 : IntKind.u64.wrap (16 * i) = 16 * i := by rw [wrap_u64]; omega
      rw [e1, e2]
    by_cases hh : hasP r.size at' 16
    · have K := k ⟨ha, hb, hh⟩
      have b1 := ofB_bdn hrb at' 8
      have b2 := ofB_bdn hrb (at' + 8) 4
      have b3 := ofB_bdn hrb (at' + 12) 2
      have b4 := ofB_bdn hrb (at' + 14) 2
      simp only [w1, w2, w3, w4] at K
      obtain ⟨x1, hx1⟩ : ∃ y, ofB (rdB r.mem at' 8) = y := ⟨_, rfl⟩
      obtain ⟨x2, hx2⟩ : ∃ y, ofB (rdB r.mem (at' + 8) 4) = y := ⟨_, rfl⟩
      obtain ⟨x3, hx3⟩ : ∃ y, ofB (rdB r.mem (at' + 12) 2) = y := ⟨_, rfl⟩
      obtain ⟨x4, hx4⟩ : ∃ y, ofB (rdB r.mem (at' + 14) 2) = y := ⟨_, rfl⟩
      rw [hx1] at b1 K
      rw [hx2] at b2 K
      rw [hx3] at b3 K
      rw [hx4] at b4 K
      have e2 : IntKind.u32.wrap x2 = x2 := by rw [wrap_u32]; omega
      have e3 : IntKind.u16.wrap x3 = x3 := by rw [wrap_u16]; omega
      have e4 : IntKind.u16.wrap x4 = x4 := by rw [wrap_u16]; omega
      replace hx1 := aside hx1
      replace hx2 := aside hx2
      replace hx3 := aside hx3
      replace hx4 := aside hx4
      clear k kb b1 b2 b3 b4 hat
      go_enter Try.func169, Try.ntmps169
      go_wp2_with fail
      refine c_ramRead s1 at' 16 hbd (by omega) (fun h => absurd (hhas.2 hh) h) ?_
      intro _ w2 v2 h2 l2 own hl s2
      have hn2 : l2 = none := by
        cases l2 with
        | none => rfl
        | some x => simp [lgs, addR] at hl
      subst hn2
      clear hl s1
      obtain ⟨E, cap, rfl, rd2⟩ := (own.rd (rdB_bd hrb _ _)).open_
      rw [rdB_len] at rd2 ⊢
      obtain ⟨_, hcap, hcap2, g⟩ := rd2.u8
      obtain ⟨eb, eo, rfl, _⟩ := g 0 (by rw [rdB_len]; decide)
      have d1 := rd2.cut8 0 8 (by omega) (by decide)
      have d2 := rd2.cut8 8 12 (by omega) (by decide)
      have d3 := rd2.cut8 12 14 (by omega) (by decide)
      have d4 := rd2.cut8 14 16 (by omega) (by decide)
      rw [rdB_cut _ _ _ _ _ (by omega) (by decide)] at d1 d2 d3 d4
      simp only [Nat.sub_zero, Nat.add_zero] at d1 d2 d3 d4
      have m1 : ofB (rdB r.mem (at' + ((0 : Nat) : Int)) 8) = x1 := by rw [← hx1.out]; simp
      have m2 : ofB (rdB r.mem (at' + ((8 : Nat) : Int)) (12 - 8)) = x2 := hx2.out
      have m3 : ofB (rdB r.mem (at' + ((12 : Nat) : Int)) (14 - 12)) = x3 := hx3.out
      have m4 : ofB (rdB r.mem (at' + ((14 : Nat) : Int)) (16 - 14)) = x4 := hx4.out
      replace m1 := aside m1
      replace m2 := aside m2
      replace m3 := aside m3
      replace m4 := aside m4
      have q0 := s2.cel Z 0 0 rfl
      have s7a := (Sat.pull (h := cellsH ⟨Z, 0, none⟩ [.int .u64 0, .int .u32 0, .int .u16 0, .int .u16 0]) s2).s0 (.int .u64 x1)
      have q1 := s7a.c 1 rfl
      have s7b := s7a.s 1 (by simp) (.int .u32 x2)
      have q2 := s7b.c 2 rfl
      have s7c := s7b.s 2 (by simp) (.int .u16 x3)
      have q3 := s7c.c 3 rfl
      have s8 := s7c.s 3 (by simp) (.int .u16 x4)
      simp only [List.set_cons_succ, List.set_cons_zero, Nat.zero_add] at s8 q0 q1 q2 q3
      have hcap16 : 16 ≤ cap := by have : (16 : Int).toNat = 16 := rfl; omega
      have i8 : (8 : Int) ≤ cap := by omega
      have i12 : (12 : Int) ≤ cap := by omega
      have i14 : (14 : Int) ≤ cap := by omega
      have i16 : (16 : Int) ≤ cap := by omega
      have k8 : 8 ≤ cap := by omega
      have k12 : 12 ≤ cap := by omega
      have k14 : 14 ≤ cap := by omega
      have n0 : ¬ cap = 0 := by omega
      have n8 : ¬ cap = 8 := by omega
      have n12 : ¬ cap = 12 := by omega
      have n14 : ¬ cap = 14 := by omega
      change Sat W0 w2 H _ at s2
      rw [show (16 : Int).toNat = 16 from rfl]
      clear g own rd2 hcap hhas hh hbd hrb h0 hi hat2
      go_wp2
      go_region_held3 (fun w' => True) (trivial)
        (first
          | (go_at_call 130; have hs := z3; refine c_wordOf s2.drew.head d4 (by rw [rdB_len]; decide) ?_; rw [m4.out])
          | (go_at_call 130; have hs := z2; refine c_wordOf s2.drew.head d3 (by rw [rdB_len]; decide) ?_; rw [m3.out]; have z3 : True := trivial)
          | (go_at_call 130; have hs := z1; refine c_wordOf s2.drew.head d2 (by rw [rdB_len]; decide) ?_; rw [m2.out]; have z2 : True := trivial)
          | (go_at_call 130; refine c_wordOf s2.drew.head d1 (by rw [rdB_len]; decide) ?_; rw [m1.out]; have z1 : True := trivial))
      all_goals
        have s9 := s8.drew
        have f0 := s9.c0
        have f1 := s9.c 1 rfl
        have f2 := s9.c 2 rfl
        have f3 := s9.c 3 rfl
        simp only [Nat.zero_add] at f0 f1 f2 f3
        go_wp2
        refine bodyPost_ret (by simp [results, Try.results169, go_sem, f0.1, f1.1, f2.1, f3.1]; try rfl) rfl ?_
        exact K _ (s9.wk)
    · have K := kb (fun h => absurd h.2.2 hh)
      have q0 := s1.cel Z 0 0 rfl
      have q1 := s1.cel Z 0 1 rfl
      have q2 := s1.cel Z 0 2 rfl
      have q3 := s1.cel Z 0 3 rfl
      have s8 := ((((Sat.pull (h := cellsH ⟨Z, 0, none⟩ [.int .u64 0, .int .u32 0, .int .u16 0, .int .u16 0]) s1).s0 (.int .u64 0)).s 1 (by simp) (.int .u32 0)).s 2 (by simp) (.int .u16 0)).s 3 (by simp) (.int .u16 0)
      have f0 := s1.cel Z 0 0 rfl
      have f1 := s1.cel Z 0 1 rfl
      have f2 := s1.cel Z 0 2 rfl
      have f3 := s1.cel Z 0 3 rfl
      simp only [List.set_cons_succ, List.set_cons_zero, Nat.zero_add] at s8 q0 q1 q2 q3 f0 f1 f2 f3
      have K := K _ s1.tail1
      clear k kb hat hrb s8
      go_enter Try.func169, Try.ntmps169
      go_wp2_with fail
      refine c_ramRead s1 at' 16 hbd (by omega) ?_ (fun h => absurd (hhas.1 h) hh)
      intro _
      go_wp2
      refine bodyPost_ret (by simp [results, Try.results169, go_sem, f0.1, f1.1, f2.1, f3.1]; try rfl) rfl ?_
      exact K
  · have K := kb (fun h => hi2 ⟨h.1, h.2.1⟩) _ s1.tail1
    have f0 := s1.cel Z 0 0 rfl
    have f1 := s1.cel Z 0 1 rfl
    have f2 := s1.cel Z 0 2 rfl
    have f3 := s1.cel Z 0 3 rfl
    simp only [Nat.zero_add] at f0 f1 f2 f3
    clear k kb hat
    by_cases hneg : i < 0
    · go_enter Try.func169, Try.ntmps169
      go_wp2
      refine bodyPost_ret (by simp [results, Try.results169, go_sem, f0.1, f1.1, f2.1, f3.1]; try rfl) rfl ?_
      exact K
    · have h5 : 256 ≤ i := by omega
      have h6 : 0 ≤ i := by omega
      clear hi2 hneg
      go_enter Try.func169, Try.ntmps169
      go_wp2
      refine bodyPost_ret (by simp [results, Try.results169, go_sem, f0.1, f1.1, f2.1, f3.1]; try rfl) rfl ?_
      exact K
end
end Go.Proofs.Ytiibiamobkhlbaa

namespace Go.Proofs.Ytiibiamobkhlbaa
open Go.RowKit
set_option linter.unusedVariables false

/-- what is read is a row of places with the property P, sixteen bytes each -/
def ExtR (P : Int → Prop) : Option (Addr × List (Int × Int) × List (Int × Int)) → Option (Addr × List (Int × Int) × List (Int × Int)) → Prop
  | none, y => y = none
  | some x, y => ∃ e, y = some (x.1, x.2.1, x.2.2 ++ e) ∧ ∀ q ∈ e, q.2 = 16 ∧ P q.1
theorem ExtR.refl (P : Int → Prop) (x) : ExtR P x x := by
  cases x with
  | none => rfl
  | some x => exact ⟨[], by simp, by simp⟩
theorem ExtR.trans {P : Int → Prop} {x y z} (h : ExtR P x y) (g : ExtR P y z) : ExtR P x z := by
  cases x with
  | none => cases h; exact g
  | some x =>
    obtain ⟨e, rfl, he⟩ := h
    obtain ⟨e', rfl, he'⟩ := g
    refine ⟨e ++ e', by simp, fun q hq => ?_⟩
    rcases List.mem_append.1 hq with h | h
    · exact he q h
    · exact he' q h
theorem ExtR.mono {P Q : Int → Prop} {x y} (h : ExtR P x y) (hPQ : ∀ a, P a → Q a) : ExtR Q x y := by
  cases x with
  | none => exact h
  | some x =>
    obtain ⟨e, rfl, he⟩ := h
    exact ⟨e, rfl, fun q hq => ⟨(he q hq).1, hPQ _ (he q hq).2⟩⟩
theorem ExtR.add {P : Int → Prop} {x} {a : Int} (h : P a) : ExtR P x (addR a 16 x) := by
  cases x with
  | none => rfl
  | some x =>
    by_cases hc : 0 < (16 : Int) ∧ x.2.2.length < 4096
    · exact ⟨[(a, 16)], by simp [addR, hc], by simpa using h⟩
    · exact ⟨[], by simp only [addR, Option.map_some]; rw [if_neg hc]; simp, by simp⟩
theorem ExtR.none {P : Int → Prop} {l : Option LogG} (h : ExtR P (lgs .none) (lgs l)) : l = .none := by
  cases l with
  | none => rfl
  | some x => simp [lgs, ExtR] at h

section
variable {R : Ending → World → Prop} {W0 w : World} {H : Hp} {A F : List Hp} {v : Value} {b : Nat} {r : RamG} {l : Option LogG} {L : Nat}

set_option maxRecDepth 100000 in
set_option maxHeartbeats 4000000 in
theorem c_ringDescG (s : Sat W0 w H A) [fr : FrK (κ := Addr) (ρ := fun _ => RamG × Option LogG) ramL ⟨b, 0, none⟩ A (r, l) F] (t i at' : Int) (h0 : 0 ≤ t ∧ t ≤ 18446744073709551615) (hi : -9223372036854775808 ≤ i ∧ i ≤ 9223372036854775807) (hat : at' = IntKind.u64.wrap (t + IntKind.u64.wrap (16 * IntKind.u64.wrap i)))
    (kb : ¬ thereP r.size i at' → ∀ w', Sat W0 w' H (ramL ⟨b, 0, none⟩ (r, l) ++ F) → R (.returned (.tuple #[.agg #[.int .u64 0, .int .u32 0, .int .u16 0, .int .u16 0], .bool false])) w')
    (k : thereP r.size i at' → ∀ w' l', lgs l' = addR at' 16 (lgs l) → Sat W0 w' H (ramL ⟨b, 0, none⟩ (r, l') ++ F) → R (.returned (.tuple #[.agg #[.int .u64 (w1 r.mem at'), .int .u32 (w2 r.mem at'), .int .u16 (w3 r.mem at'), .int .u16 (w4 r.mem at')], .bool true])) w') :
    Calls Try.prog 169 #[.pointer (some ⟨b, 0, none⟩), .int .u64 t, .int .i64 i] w R := by
  have s1 := (s.front (mk := ramL) (k := ⟨b, 0, none⟩)).alloc (c := [.int .u64 0, .int .u32 0, .int .u16 0, .int .u16 0]) (t := 266)
  obtain ⟨Z, hZ⟩ : ∃ Z, w.heap.size = Z := ⟨_, rfl⟩
  rw [hZ] at s1
  have hbd : 0 ≤ at' ∧ at' ≤ 18446744073709551615 := by rw [hat, wrap_u64]; omega
  have hrb := r.hmem
  have hhas := has_iff r at' 16 (by omega)
  clear s fr
  by_cases hi2 : 0 ≤ i ∧ i ≤ 255
  · obtain ⟨ha, hb⟩ := hi2
    have hat2 : IntKind.u64.wrap (t + 16 * i) = at' := by
      rw [hat]
      have e1 : IntKind.u64.wrap i = i := by rw [wrap_u64]; omega
      have e2 : IntKind.u64.wrap (16 * i) = 16 * i := by rw [wrap_u64]; omega
      rw [e1, e2]
    by_cases hh : hasP r.size at' 16
    · have K := k ⟨ha, hb, hh⟩
      have b1 := ofB_bdn hrb at' 8
      have b2 := ofB_bdn hrb (at' + 8) 4
      have b3 := ofB_bdn hrb (at' + 12) 2
      have b4 := ofB_bdn hrb (at' + 14) 2
      simp only [w1, w2, w3, w4] at K
      obtain ⟨x1, hx1⟩ : ∃ y, ofB (rdB r.mem at' 8) = y := ⟨_, rfl⟩
      obtain ⟨x2, hx2⟩ : ∃ y, ofB (rdB r.mem (at' + 8) 4) = y := ⟨_, rfl⟩
      obtain ⟨x3, hx3⟩ : ∃ y, ofB (rdB r.mem (at' + 12) 2) = y := ⟨_, rfl⟩
      obtain ⟨x4, hx4⟩ : ∃ y, ofB (rdB r.mem (at' + 14) 2) = y := ⟨_, rfl⟩
      rw [hx1] at b1 K
      rw [hx2] at b2 K
      rw [hx3] at b3 K
      rw [hx4] at b4 K
      have e2 : IntKind.u32.wrap x2 = x2 := by rw [wrap_u32]; omega
      have e3 : IntKind.u16.wrap x3 = x3 := by rw [wrap_u16]; omega
      have e4 : IntKind.u16.wrap x4 = x4 := by rw [wrap_u16]; omega
      replace hx1 := aside hx1
      replace hx2 := aside hx2
      replace hx3 := aside hx3
      replace hx4 := aside hx4
      clear k kb b1 b2 b3 b4 hat
      go_enter Try.func169, Try.ntmps169
      go_wp2_with fail
      refine c_ramRead s1 at' 16 hbd (by omega) (fun h => absurd (hhas.2 hh) h) ?_
      intro _ w2 v2 h2 l2 own hl s2
      clear s1
      replace hl := aside hl
      obtain ⟨E, cap, rfl, rd2⟩ := (own.rd (rdB_bd hrb _ _)).open_
      rw [rdB_len] at rd2 ⊢
      obtain ⟨_, hcap, hcap2, g⟩ := rd2.u8
      obtain ⟨eb, eo, rfl, _⟩ := g 0 (by rw [rdB_len]; decide)
      have d1 := rd2.cut8 0 8 (by omega) (by decide)
      have d2 := rd2.cut8 8 12 (by omega) (by decide)
      have d3 := rd2.cut8 12 14 (by omega) (by decide)
      have d4 := rd2.cut8 14 16 (by omega) (by decide)
      rw [rdB_cut _ _ _ _ _ (by omega) (by decide)] at d1 d2 d3 d4
      simp only [Nat.sub_zero, Nat.add_zero] at d1 d2 d3 d4
      have m1 : ofB (rdB r.mem (at' + ((0 : Nat) : Int)) 8) = x1 := by rw [← hx1.out]; simp
      have m2 : ofB (rdB r.mem (at' + ((8 : Nat) : Int)) (12 - 8)) = x2 := hx2.out
      have m3 : ofB (rdB r.mem (at' + ((12 : Nat) : Int)) (14 - 12)) = x3 := hx3.out
      have m4 : ofB (rdB r.mem (at' + ((14 : Nat) : Int)) (16 - 14)) = x4 := hx4.out
      replace m1 := aside m1
      replace m2 := aside m2
      replace m3 := aside m3
      replace m4 := aside m4
      have q0 := s2.cel Z 0 0 rfl
      have s7a := (Sat.pull (h := cellsH ⟨Z, 0, none⟩ [.int .u64 0, .int .u32 0, .int .u16 0, .int .u16 0]) s2).s0 (.int .u64 x1)
      have q1 := s7a.c 1 rfl
      have s7b := s7a.s 1 (by simp) (.int .u32 x2)
      have q2 := s7b.c 2 rfl
      have s7c := s7b.s 2 (by simp) (.int .u16 x3)
      have q3 := s7c.c 3 rfl
      have s8 := s7c.s 3 (by simp) (.int .u16 x4)
      simp only [List.set_cons_succ, List.set_cons_zero, Nat.zero_add] at s8 q0 q1 q2 q3
      have hcap16 : 16 ≤ cap := by have : (16 : Int).toNat = 16 := rfl; omega
      have i8 : (8 : Int) ≤ cap := by omega
      have i12 : (12 : Int) ≤ cap := by omega
      have i14 : (14 : Int) ≤ cap := by omega
      have i16 : (16 : Int) ≤ cap := by omega
      have k8 : 8 ≤ cap := by omega
      have k12 : 12 ≤ cap := by omega
      have k14 : 14 ≤ cap := by omega
      have n0 : ¬ cap = 0 := by omega
      have n8 : ¬ cap = 8 := by omega
      have n12 : ¬ cap = 12 := by omega
      have n14 : ¬ cap = 14 := by omega
      change Sat W0 w2 H _ at s2
      rw [show (16 : Int).toNat = 16 from rfl]
      clear g own rd2 hcap hhas hh hbd hrb h0 hi hat2
      go_wp2
      go_region_held3 (fun w' => True) (trivial)
        (first
          | (go_at_call 130; have hs := z3; refine c_wordOf s2.drew.head d4 (by rw [rdB_len]; decide) ?_; rw [m4.out])
          | (go_at_call 130; have hs := z2; refine c_wordOf s2.drew.head d3 (by rw [rdB_len]; decide) ?_; rw [m3.out]; have z3 : True := trivial)
          | (go_at_call 130; have hs := z1; refine c_wordOf s2.drew.head d2 (by rw [rdB_len]; decide) ?_; rw [m2.out]; have z2 : True := trivial)
          | (go_at_call 130; refine c_wordOf s2.drew.head d1 (by rw [rdB_len]; decide) ?_; rw [m1.out]; have z1 : True := trivial))
      all_goals
        have s9 := s8.drew
        have f0 := s9.c0
        have f1 := s9.c 1 rfl
        have f2 := s9.c 2 rfl
        have f3 := s9.c 3 rfl
        simp only [Nat.zero_add] at f0 f1 f2 f3
        go_wp2
        refine bodyPost_ret (by simp [results, Try.results169, go_sem, f0.1, f1.1, f2.1, f3.1]; try rfl) rfl ?_
        exact K _ l2 hl.out (s9.wk)
    · have K := kb (fun h => absurd h.2.2 hh)
      have q0 := s1.cel Z 0 0 rfl
      have q1 := s1.cel Z 0 1 rfl
      have q2 := s1.cel Z 0 2 rfl
      have q3 := s1.cel Z 0 3 rfl
      have s8 := ((((Sat.pull (h := cellsH ⟨Z, 0, none⟩ [.int .u64 0, .int .u32 0, .int .u16 0, .int .u16 0]) s1).s0 (.int .u64 0)).s 1 (by simp) (.int .u32 0)).s 2 (by simp) (.int .u16 0)).s 3 (by simp) (.int .u16 0)
      have f0 := s1.cel Z 0 0 rfl
      have f1 := s1.cel Z 0 1 rfl
      have f2 := s1.cel Z 0 2 rfl
      have f3 := s1.cel Z 0 3 rfl
      simp only [List.set_cons_succ, List.set_cons_zero, Nat.zero_add] at s8 q0 q1 q2 q3 f0 f1 f2 f3
      have K := K _ s1.tail1
      clear k kb hat hrb s8
      go_enter Try.func169, Try.ntmps169
      go_wp2_with fail
      refine c_ramRead s1 at' 16 hbd (by omega) ?_ (fun h => absurd (hhas.1 h) hh)
      intro _
      go_wp2
      refine bodyPost_ret (by simp [results, Try.results169, go_sem, f0.1, f1.1, f2.1, f3.1]; try rfl) rfl ?_
      exact K
  · have K := kb (fun h => hi2 ⟨h.1, h.2.1⟩) _ s1.tail1
    have f0 := s1.cel Z 0 0 rfl
    have f1 := s1.cel Z 0 1 rfl
    have f2 := s1.cel Z 0 2 rfl
    have f3 := s1.cel Z 0 3 rfl
    simp only [Nat.zero_add] at f0 f1 f2 f3
    clear k kb hat
    by_cases hneg : i < 0
    · go_enter Try.func169, Try.ntmps169
      go_wp2
      refine bodyPost_ret (by simp [results, Try.results169, go_sem, f0.1, f1.1, f2.1, f3.1]; try rfl) rfl ?_
      exact K
    · have h5 : 256 ≤ i := by omega
      have h6 : 0 ≤ i := by omega
      clear hi2 hneg
      go_enter Try.func169, Try.ntmps169
      go_wp2
      refine bodyPost_ret (by simp [results, Try.results169, go_sem, f0.1, f1.1, f2.1, f3.1]; try rfl) rfl ?_
      exact K
end
end Go.Proofs.Ytiibiamobkhlbaa

namespace Go.Proofs.Ytiibiamobkhlbaa
open Go.RowKit
set_option linter.unusedVariables false
set_option linter.unusedSimpArgs false

/-- a log grew by reads with P and writes with Q -/
def LogQ (P Q : Int → Int → Prop) : Option (Addr × List (Int × Int) × List (Int × Int)) → Option (Addr × List (Int × Int) × List (Int × Int)) → Prop
  | none, y => y = none
  | some x, y => ∃ e f, y = some (x.1, x.2.1 ++ e, x.2.2 ++ f) ∧ (∀ q ∈ e, Q q.1 q.2) ∧ ∀ q ∈ f, P q.1 q.2
def noP (_ _ : Int) : Prop := False
/-- a piece lies in a segment of that kind -/
def inSeg (wr : Bool) (segs : List (Int × Int × Bool)) (a n : Int) : Prop := ∃ x ∈ segs, x.2.2 = wr ∧ x.1 ≤ a ∧ a + n ≤ x.1 + x.2.1
theorem LogQ.refl (P Q : Int → Int → Prop) (x) : LogQ P Q x x := by
  cases x with
  | none => rfl
  | some x => exact ⟨[], [], by simp, by simp, by simp⟩
theorem LogQ.trans {P Q : Int → Int → Prop} {x y z} (h : LogQ P Q x y) (g : LogQ P Q y z) : LogQ P Q x z := by
  cases x with
  | none =>
    have hy : y = none := h
    subst hy
    exact g
  | some x =>
    obtain ⟨e, f, rfl, h1, h2⟩ := h
    obtain ⟨e', f', rfl, g1, g2⟩ := g
    refine ⟨e ++ e', f ++ f', by simp [List.append_assoc], fun q hq => ?_, fun q hq => ?_⟩
    · rcases List.mem_append.1 hq with h | h
      · exact h1 q h
      · exact g1 q h
    · rcases List.mem_append.1 hq with h | h
      · exact h2 q h
      · exact g2 q h
theorem LogQ.mono {P Q P' Q' : Int → Int → Prop} {x y} (h : LogQ P Q x y) (hp : ∀ a n, P a n → P' a n) (hq : ∀ a n, Q a n → Q' a n) : LogQ P' Q' x y := by
  cases x with
  | none => exact h
  | some x =>
    obtain ⟨e, f, rfl, h1, h2⟩ := h
    exact ⟨e, f, rfl, fun q hm => hq _ _ (h1 q hm), fun q hm => hp _ _ (h2 q hm)⟩
theorem LogQ.ofR {P : Int → Prop} {P' Q : Int → Int → Prop} {x y} (h : ExtR P x y) (hp : ∀ a, P a → P' a 16) : LogQ P' Q x y := by
  cases x with
  | none => exact h
  | some x =>
    obtain ⟨e, rfl, h1⟩ := h
    exact ⟨[], e, by simp, by simp, fun q hq => by obtain ⟨h2, h3⟩ := h1 q hq; rw [h2]; exact hp _ h3⟩
theorem LogQ.addW {P Q : Int → Int → Prop} {a n : Int} (x) (h : 0 < n → Q a n) : LogQ P Q x (addW a n x) := by
  cases x with
  | none => rfl
  | some x =>
    by_cases hc : 0 < n ∧ x.2.1.length < 4096
    · exact ⟨[(a, n)], [], by simp [Go.Proofs.Ytiibiamobkhlbaa.addW, hc], by simpa using h hc.1, by simp⟩
    · exact ⟨[], [], by simp only [Go.Proofs.Ytiibiamobkhlbaa.addW, Option.map_some, if_neg hc, List.append_nil], by simp, by simp⟩
theorem LogQ.addR {P Q : Int → Int → Prop} {a n : Int} (x) (h : 0 < n → P a n) : LogQ P Q x (addR a n x) := by
  cases x with
  | none => rfl
  | some x =>
    by_cases hc : 0 < n ∧ x.2.2.length < 4096
    · exact ⟨[], [(a, n)], by simp [Go.Proofs.Ytiibiamobkhlbaa.addR, hc], by simp, by simpa using h hc.1⟩
    · exact ⟨[], [], by simp only [Go.Proofs.Ytiibiamobkhlbaa.addR, Option.map_some, if_neg hc, List.append_nil], by simp, by simp⟩
theorem LogQ.none {P Q : Int → Int → Prop} {l l' : Option LogG} (h : LogQ P Q (lgs l) (lgs l')) (hl : l = none) : l' = none := by
  subst hl
  have h1 : lgs l' = Option.none := h
  cases l' with
  | none => rfl
  | some x => simp [lgs] at h1
theorem LogQ.of {P Q : Int → Int → Prop} {x y z} (h : LogQ P Q x y) (e : z = y) : LogQ P Q x z := e ▸ h
theorem inSeg.mono {wr : Bool} {segs : List (Int × Int × Bool)} {a n b m : Int} (h : inSeg wr segs a n) (h1 : a ≤ b) (h2 : b + m ≤ a + n) : inSeg wr segs b m := by
  obtain ⟨x, hx, h3, h4, h5⟩ := h
  exact ⟨x, hx, h3, by omega, by omega⟩
end Go.Proofs.Ytiibiamobkhlbaa

namespace Go.Proofs.Ytiibiamobkhlbaa
open Go.RowKit
set_option linter.unusedVariables false
set_option linter.unusedSimpArgs false

abbrev SegM := Int × Int × Bool
def segE : El SegM := fun _ x vs => vs = [.int .u64 x.1, .int .u64 x.2.1, .bool x.2.2]
def encG (l : List SegM) : List Value := l.flatMap fun x => [.int .u64 x.1, .int .u64 x.2.1, .bool x.2.2]
theorem encG_len (l : List SegM) : (encG l).length = l.length * 3 := by
  induction l with
  | nil => rfl
  | cons x l ih => simp only [encG, List.flatMap_cons, List.length_append, List.length_cons, List.length_nil] at ih ⊢; omega
theorem encG_at {L : List SegM} : ∀ {i : Nat} {x : SegM}, L[i]? = some x → (encG L)[i * 3]? = some (.int .u64 x.1) ∧ (encG L)[i * 3 + 1]? = some (.int .u64 x.2.1) ∧ (encG L)[i * 3 + 2]? = some (.bool x.2.2) := by
  induction L with
  | nil => intro i x h; simp at h
  | cons y ys ih =>
    intro i x h
    cases i with
    | zero => simp at h; subst h; exact ⟨rfl, rfl, rfl⟩
    | succ i =>
      have := ih (i := i) (x := x) (by simpa using h)
      have e : (i + 1) * 3 = i * 3 + 3 := by omega
      rw [e]
      simpa [encG, List.flatMap_cons] using this
theorem OwnS.rdG {v : Value} {xs : List SegM} {h : Hp} (own : OwnS 3 v xs.length (encG xs) h) : Rd segE 3 h v xs := by
  obtain ⟨A, c, spare, rfl, h1, h2, h3, h4, h5, rfl⟩ := own
  refine ⟨A, c, rfl, h1, h2, fun i x hi => ?_⟩
  have hlt : i < xs.length := (List.getElem?_eq_some_iff.1 hi).1
  obtain ⟨b, o, rfl⟩ := h5 (by omega)
  refine ⟨b, o, _, rfl, rfl, rfl, fun j u hu => ⟨false, ?_⟩⟩
  have ha := encG_at hi
  have hl : i * 3 + j < (encG xs).length := by
    rw [h3]
    match j, hu with
    | 0, _ => omega
    | 1, _ => omega
    | 2, _ => omega
    | j + 3, hu => simp at hu
  have h9 := cellsH_at (a := ⟨b, o, none⟩) (vs := encG xs ++ spare) (i := i * 3 + j) (v := u) (by
    rw [List.getElem?_append_left hl]
    match j, hu with
    | 0, hu => simp at hu; subst hu; exact ha.1
    | 1, hu => simp at hu; subst hu; exact ha.2.1
    | 2, hu => simp at hu; subst hu; exact ha.2.2
    | j + 3, hu => simp at hu)
  simpa [Nat.add_assoc, rowH] using h9
theorem Rd.seg {H : Hp} {A : Option Addr} {n c : Nat} {xs : List SegM} (r : Rd segE 3 H (.slice A n c) xs) : n = xs.length ∧ n ≤ c ∧ c ≤ 9223372036854775807 ∧
    ∀ i (hi : i < xs.length), ∃ b o, A = some ⟨b, o, none⟩ ∧ (∃ fr, H (.cell b (o + i * 3)) = some (.val (.int .u64 xs[i].1) fr)) ∧ (∃ fr, H (.cell b (o + i * 3 + 1)) = some (.val (.int .u64 xs[i].2.1) fr)) ∧ (∃ fr, H (.cell b (o + i * 3 + 2)) = some (.val (.bool xs[i].2.2) fr)) := by
  obtain ⟨A', c', hv, hc, hc2, hat⟩ := r
  injection hv with e1 e2 e3
  subst e1 e2 e3
  refine ⟨rfl, hc, hc2, fun i hi => ?_⟩
  obtain ⟨b, o, vs, hA, rfl, _, hcell⟩ := hat i xs[i] (by simp [hi])
  exact ⟨b, o, hA, by simpa using hcell 0 _ rfl, by simpa using hcell 1 _ rfl, by simpa using hcell 2 _ rfl⟩

theorem info_seg : ∃ i, Try.prog.info? 81 = some i ∧ i.zero = some (.agg #[.int .u64 0, .int .u64 0, .bool false]) ∧ i.size = 3 ∧ i.bytes = 24 := by
  have h : (Try.prog.info? 81).map (fun i => (i.zero, i.size, i.bytes)) = some (some (.agg #[.int .u64 0, .int .u64 0, .bool false]), 3, 24) := by kernel_rfl
  cases hi : Try.prog.info? 81 with
  | none => simp [hi] at h
  | some i => simp [hi] at h; exact ⟨i, rfl, h⟩
theorem row_seg {w : World} {a n : Int} {b : Bool} {t : TypeId} : RowR (w.alloc (.cells #[.int .u64 a, .int .u64 n, .bool b] t)) (some ⟨w.heap.size, 0, none⟩) [.int .u64 a, .int .u64 n, .bool b] := by
  intro _
  exact ⟨_, _, rfl, fun j u hu => by rw [Nat.zero_add]; simp [hu]⟩

/-- a walker: its segments, its table, whether the last segment is to be written -/
structure WkG where
  segs : List SegM
  ta : Int
  tl : Int
  wr : Bool
  v : Value
  h : Hp
  own : OwnS 3 v segs.length (encG segs) h
def wkL (p : Addr) (rp : Addr) (g : WkG) : List Hp := [cellsH p [.pointer (some rp), g.v, .int .u64 g.ta, .int .u64 g.tl, .bool g.wr, .int .i64 0], g.h]

/-- a flag of a descriptor -/
def flg (f n : Int) : Bool := f / n % 2 == 1
theorem flg_bits {x : Int} (h : 0 ≤ x ∧ x ≤ 65535) (i : Nat) (hi : i ≤ 2) : (bits BinOp.and IntKind.u16 x ((2 ^ i : Nat) : Int) != 0) = flg x ((2 ^ i : Nat) : Int) := by
  obtain ⟨n, rfl⟩ : ∃ n : Nat, x = n := ⟨x.toNat, by omega⟩
  have e1 : ((BitVec.ofInt 16 (n : Int)) &&& (BitVec.ofInt 16 ((2 ^ i : Nat) : Int))).toNat = n &&& 2 ^ i := by
    have h2 : 2 ^ i < 65536 := by
      have : 2 ^ i ≤ 2 ^ 2 := Nat.pow_le_pow_right (by omega) hi
      omega
    rw [BitVec.toNat_and, BitVec.ofInt_natCast, BitVec.ofInt_natCast, BitVec.toNat_ofNat, BitVec.toNat_ofNat, Nat.mod_eq_of_lt (by omega), Nat.mod_eq_of_lt h2]
  have e2 : bits BinOp.and IntKind.u16 (n : Int) ((2 ^ i : Nat) : Int) = IntKind.u16.wrap (((BitVec.ofInt 16 (n : Int)) &&& (BitVec.ofInt 16 ((2 ^ i : Nat) : Int))).toNat : Int) := rfl
  have e4 : n &&& 2 ^ i = if n / 2 ^ i % 2 = 1 then 2 ^ i else 0 := by
    have e5 : (n / 2 ^ i % 2 = 1) ↔ n.testBit i = true := by rw [Nat.testBit_eq_decide_div_mod_eq]; simp
    apply Nat.eq_of_testBit_eq
    intro j
    rw [Nat.testBit_and, Nat.testBit_two_pow]
    by_cases hij : i = j
    · subst hij
      by_cases ht : n.testBit i = true
      · rw [if_pos (e5.2 ht), ht, Nat.testBit_two_pow]; simp
      · rw [if_neg (fun h => ht (e5.1 h))]; simp [ht]
    · simp only [hij, decide_false, Bool.and_false]
      split
      · rw [Nat.testBit_two_pow]; simp [hij]
      · simp
  rw [e2, e1, e4]
  have hp : 2 ^ i ≤ 4 := by
    have : 2 ^ i ≤ 2 ^ 2 := Nat.pow_le_pow_right (by omega) hi
    omega
  have hp0 : 0 < 2 ^ i := Nat.two_pow_pos i
  unfold flg
  have e3 : ((n : Int) / ((2 ^ i : Nat) : Int) % 2 == 1) = decide (n / 2 ^ i % 2 = 1) := by
    have : (n : Int) / ((2 ^ i : Nat) : Int) % 2 = ((n / 2 ^ i % 2 : Nat) : Int) := by norm_cast
    rw [this]
    by_cases hc : n / 2 ^ i % 2 = 1
    · rw [hc]; rfl
    · rw [decide_eq_false hc, beq_eq_false_iff_ne]; intro h; exact hc (by exact_mod_cast h)
  rw [e3]
  by_cases hc : n / 2 ^ i % 2 = 1
  · rw [decide_eq_true hc, if_pos hc]
    have : ∀ q : Nat, 0 < q → q ≤ 4 → (IntKind.u16.wrap (q : Int) != 0) = true := by
      intro q h0 h1
      rw [wrap_u16, bne_iff_ne]; omega
    exact this _ hp0 hp
  · rw [decide_eq_false hc, if_neg hc]; rfl

section
variable {R : Ending → World → Prop} {W0 w : World} {H : Hp} {A F : List Hp} {b p : Nat} {r : RamG} {l : Option LogG} {g : WkG}


set_option maxRecDepth 100000 in
set_option maxHeartbeats 4000000 in
theorem c_segment (s : Sat W0 w H (wkL ⟨p, 0, none⟩ ⟨b, 0, none⟩ g ++ (ramL ⟨b, 0, none⟩ (r, l) ++ F))) (x1 x2 x3 x4 : Int) (h1 : 0 ≤ x1 ∧ x1 ≤ 18446744073709551615) (h2 : 0 ≤ x2 ∧ x2 ≤ 4294967295) (h3 : 0 ≤ x3 ∧ x3 ≤ 65535) (hl : g.segs.length ≤ 1000000)
    (ka : ¬ hasP r.size x1 x2 → ∀ w', Sat W0 w' H (wkL ⟨p, 0, none⟩ ⟨b, 0, none⟩ g ++ (ramL ⟨b, 0, none⟩ (r, l) ++ F)) → R (.returned (.int .i64 21)) w')
    (kb : hasP r.size x1 x2 → g.wr = true ∧ flg x3 2 = false → ∀ w', Sat W0 w' H (wkL ⟨p, 0, none⟩ ⟨b, 0, none⟩ g ++ (ramL ⟨b, 0, none⟩ (r, l) ++ F)) → R (.returned (.int .i64 155)) w')
    (k : hasP r.size x1 x2 → ¬ (g.wr = true ∧ flg x3 2 = false) → ∀ w' g', g'.segs = g.segs ++ [(x1, x2, flg x3 2)] → g'.wr = flg x3 2 → g'.ta = g.ta → g'.tl = g.tl → Sat W0 w' H (wkL ⟨p, 0, none⟩ ⟨b, 0, none⟩ g' ++ (ramL ⟨b, 0, none⟩ (r, l) ++ F)) → R (.returned (.int .i64 0)) w') :
    Calls Try.prog 170 #[.pointer (some ⟨p, 0, none⟩), .agg #[.int .u64 x1, .int .u32 x2, .int .u16 x3, .int .u16 x4]] w R := by
  have s1 := s.alloc (c := [.int .u64 x1, .int .u32 x2, .int .u16 x3, .int .u16 x4]) (t := 266)
  obtain ⟨Z, hZ⟩ : ∃ Z, w.heap.size = Z := ⟨_, rfl⟩
  rw [hZ] at s1
  clear s
  obtain ⟨segs, ta, tl, wr, v, h, own⟩ := g
  simp only [wkL] at s1 ka kb k hl
  simp only [List.cons_append, List.nil_append] at s1 ka kb k
  have hhas := has_iff r x1 x2 h2.1
  have q1 := aside h1
  have q2 := aside (show 0 ≤ x2 ∧ x2 ≤ 18446744073709551615 by omega)
  have e2 : IntKind.u64.wrap x2 = x2 := by rw [wrap_u64]; omega
  have z0 := s1.cel Z 0 0 rfl
  have z1 := s1.cel Z 0 1 rfl
  have z2 := s1.cel Z 0 2 rfl
  simp only [Nat.zero_add] at z0 z1 z2
  have y0 := s1.cel p 0 0 rfl
  have y1 := s1.cel p 0 1 rfl
  have y4 := s1.cel p 0 4 rfl
  simp only [Nat.zero_add] at y0 y1 y4
  have hb2 : (bits BinOp.and IntKind.u16 x3 2 != 0) = flg x3 2 := flg_bits h3 1 (by omega)
  obtain ⟨B, hB⟩ : ∃ B, flg x3 2 = B := ⟨_, rfl⟩
  rw [hB] at hb2 kb k
  replace hB := aside hB
  by_cases hh : hasP r.size x1 x2
  · have hd : decide (r.has x1 x2) = true := by simp; exact hhas.2 hh
    clear ka hhas
    by_cases hc : wr = true ∧ B = false
    · have K := kb hh hc
      obtain ⟨rfl, rfl⟩ := hc
      clear kb k
      go_enter Try.func170, Try.ntmps170
      go_wp2
      go_quiet ((go_at_call 63; exact Calls.quiet_of_same (v := .bool true) (c_ramHas (s1.drewN _) x1 x2 q1.out q2.out (by rw [hd]; exact ⟨rfl, rfl⟩))))
      go_wp2
      exact (s1.drewN _).wk
    · have K := k hh hc
      clear kb k
      cases wr
      · skip
        obtain ⟨i0, hi, hz, hs1, hb1⟩ := info_seg
        obtain ⟨A1, cap1, sp1, rfl, hcap, hcap2, hl1, hl2, hl3, hl4⟩ := id own
        go_enter Try.func170, Try.ntmps170
        go_wp2
        go_quiet ((go_at_call 63; exact Calls.quiet_of_same (v := .bool true) (c_ramHas (s1.drewN _) x1 x2 q1.out q2.out (by rw [hd]; exact ⟨rfl, rfl⟩))))
        have s2 := s1.drewN nq
        generalize World.drewN _ nq = w1 at s2 ⊢
        clear s1 z0 z1 z2 y0 y1 y4 q1 q2 hd hh
        have s3 := (s2.pc p 0).s 4 (by simp) (.bool B)
        simp only [List.set_cons_succ, List.set_cons_zero, Nat.zero_add] at s3
        have y0 := s2.cel p 0 0 rfl
        have y1 := s2.cel p 0 1 rfl
        have y4 := s2.cel p 0 4 rfl
        simp only [Nat.zero_add] at y0 y1 y4
        go_wp2
        generalize World.setCell w1 ⟨p, 4, none⟩ (.bool B) = w3 at s3 ⊢
        clear s2 y0 y1 y4
        have c0 := s3.cel Z 0 0 rfl
        have c1 := s3.cel Z 0 1 rfl
        have c2 := s3.cel Z 0 2 rfl
        simp only [Nat.zero_add] at c0 c1 c2
        have d0 := s3.cel p 0 0 rfl
        have d1 := s3.cel p 0 1 rfl
        have d4 := s3.cel p 0 4 rfl
        simp only [Nat.zero_add] at d0 d1 d4
        have t0 := s3.alloc (c := [.int .u64 x1, .int .u64 x2, .bool B]) (t := 81)
        have u0 := t0.cel Z 0 0 rfl
        have u1 := t0.cel Z 0 1 rfl
        have u2 := t0.cel Z 0 2 rfl
        simp only [Nat.zero_add] at u0 u1 u2
        have f0 := t0.cel p 0 0 rfl
        have f1 := t0.cel p 0 1 rfl
        have f4 := t0.cel p 0 4 rfl
        simp only [Nat.zero_add] at f0 f1 f4
        go_region_law ((refine step_append rfl (.tmp 40) (.tmp 48) 46 46 81 rfl i0 (.agg #[.int .u64 0, .int .u64 0, .bool false]) 3 24 Try.underlying46 Try.underlying46 hi hz hs1 hb1 rfl (by decide) rfl own (Sat.pull (h := h) (s3.drew.alloc)) rfl (us := [.int .u64 x1, .int .u64 x2, .bool B]) rfl row_seg (by simp [Value.oneCell']) (by omega) (by omega) ?_; intro A2 cap2 w2 h2 ho hs; have e1 := hs.cel p 0 1 rfl; rw [Nat.zero_add] at e1))
        all_goals
          try simp only [Act.put, List.getElem_toArray, List.getElem_cons_succ, List.getElem_cons_zero, List.setIfInBounds_toArray, List.set_cons_succ, List.set_cons_zero]
          go_wp2
          refine K _ ⟨segs ++ [(x1, x2, B)], ta, tl, B, .slice A2 (segs.length + 1) cap2, h2, by simpa [encG, List.flatMap_append] using ho⟩ rfl rfl rfl rfl ?_
          simp only [wkL, List.cons_append, List.nil_append]
          have s9 := (hs.pc p 0).s 1 (by simp) (.slice A2 (segs.length + 1) cap2)
          simp only [List.set_cons_succ, List.set_cons_zero, Nat.zero_add] at s9
          exact s9.wk
      · cases B
        · exact absurd ⟨rfl, rfl⟩ hc
        · skip
          obtain ⟨i0, hi, hz, hs1, hb1⟩ := info_seg
          obtain ⟨A1, cap1, sp1, rfl, hcap, hcap2, hl1, hl2, hl3, hl4⟩ := id own
          go_enter Try.func170, Try.ntmps170
          go_wp2
          go_quiet ((go_at_call 63; exact Calls.quiet_of_same (v := .bool true) (c_ramHas (s1.drewN _) x1 x2 q1.out q2.out (by rw [hd]; exact ⟨rfl, rfl⟩))))
          have s2 := s1.drewN nq
          generalize World.drewN _ nq = w1 at s2 ⊢
          clear s1 z0 z1 z2 y0 y1 y4 q1 q2 hd hh
          have s3 := (s2.pc p 0).s 4 (by simp) (.bool true)
          simp only [List.set_cons_succ, List.set_cons_zero, Nat.zero_add] at s3
          have y0 := s2.cel p 0 0 rfl
          have y1 := s2.cel p 0 1 rfl
          have y4 := s2.cel p 0 4 rfl
          simp only [Nat.zero_add] at y0 y1 y4
          go_wp2
          generalize World.setCell w1 ⟨p, 4, none⟩ (.bool true) = w3 at s3 ⊢
          clear s2 y0 y1 y4
          have c0 := s3.cel Z 0 0 rfl
          have c1 := s3.cel Z 0 1 rfl
          have c2 := s3.cel Z 0 2 rfl
          simp only [Nat.zero_add] at c0 c1 c2
          have d0 := s3.cel p 0 0 rfl
          have d1 := s3.cel p 0 1 rfl
          have d4 := s3.cel p 0 4 rfl
          simp only [Nat.zero_add] at d0 d1 d4
          have t0 := s3.alloc (c := [.int .u64 x1, .int .u64 x2, .bool true]) (t := 81)
          have u0 := t0.cel Z 0 0 rfl
          have u1 := t0.cel Z 0 1 rfl
          have u2 := t0.cel Z 0 2 rfl
          simp only [Nat.zero_add] at u0 u1 u2
          have f0 := t0.cel p 0 0 rfl
          have f1 := t0.cel p 0 1 rfl
          have f4 := t0.cel p 0 4 rfl
          simp only [Nat.zero_add] at f0 f1 f4
          go_region_law ((refine step_append rfl (.tmp 40) (.tmp 48) 46 46 81 rfl i0 (.agg #[.int .u64 0, .int .u64 0, .bool false]) 3 24 Try.underlying46 Try.underlying46 hi hz hs1 hb1 rfl (by decide) rfl own (Sat.pull (h := h) (s3.drew.alloc)) rfl (us := [.int .u64 x1, .int .u64 x2, .bool true]) rfl row_seg (by simp [Value.oneCell']) (by omega) (by omega) ?_; intro A2 cap2 w2 h2 ho hs; have e1 := hs.cel p 0 1 rfl; rw [Nat.zero_add] at e1))
          all_goals
            try simp only [Act.put, List.getElem_toArray, List.getElem_cons_succ, List.getElem_cons_zero, List.setIfInBounds_toArray, List.set_cons_succ, List.set_cons_zero]
            go_wp2
            refine K _ ⟨segs ++ [(x1, x2, true)], ta, tl, true, .slice A2 (segs.length + 1) cap2, h2, by simpa [encG, List.flatMap_append] using ho⟩ rfl rfl rfl rfl ?_
            simp only [wkL, List.cons_append, List.nil_append]
            have s9 := (hs.pc p 0).s 1 (by simp) (.slice A2 (segs.length + 1) cap2)
            simp only [List.set_cons_succ, List.set_cons_zero, Nat.zero_add] at s9
            exact s9.wk
  · have K := ka hh
    have hd : decide (r.has x1 x2) = false := by simp; exact fun h => hh (hhas.1 h)
    clear ka kb k hhas
    go_enter Try.func170, Try.ntmps170
    go_wp2
    go_quiet ((go_at_call 63; exact Calls.quiet_of_same (v := .bool false) (c_ramHas (s1.drewN _) x1 x2 q1.out q2.out (by rw [hd]; exact ⟨rfl, rfl⟩))))
    go_wp2
    exact (s1.drewN _).wk
end
end Go.Proofs.Ytiibiamobkhlbaa

namespace Go.Proofs.Ytiibiamobkhlbaa
open Go.RowKit
set_option linter.unusedVariables false
set_option linter.unusedSimpArgs false

/-- what may be written; what may be read -/
def wsum : List SegM → Int
  | [] => 0
  | x :: l => (if x.2.2 = true then x.2.1 else 0) + wsum l
def rsum : List SegM → Int
  | [] => 0
  | x :: l => (if x.2.2 = true then 0 else x.2.1) + rsum l
theorem wsum_app : ∀ a b : List SegM, wsum (a ++ b) = wsum a + wsum b
  | [], b => by simp [wsum]
  | x :: a, b => by rw [List.cons_append, wsum, wsum, wsum_app a b]; omega
theorem rsum_app : ∀ a b : List SegM, rsum (a ++ b) = rsum a + rsum b
  | [], b => by simp [rsum]
  | x :: a, b => by rw [List.cons_append, rsum, rsum, rsum_app a b]; omega
theorem wsum_one {l : List SegM} {i : Nat} (h : i < l.length) : wsum (l.take (i + 1)) = wsum (l.take i) + (if l[i].2.2 = true then l[i].2.1 else 0) := by
  rw [List.take_succ_eq_append_getElem h, wsum_app]; simp [wsum]
theorem rsum_one {l : List SegM} {i : Nat} (h : i < l.length) : rsum (l.take (i + 1)) = rsum (l.take i) + (if l[i].2.2 = true then 0 else l[i].2.1) := by
  rw [List.take_succ_eq_append_getElem h, rsum_app]; simp [rsum]
theorem wsum_bd : ∀ {l : List SegM}, (∀ x ∈ l, 0 ≤ x.2.1 ∧ x.2.1 ≤ 268435456) → 0 ≤ wsum l ∧ wsum l ≤ 268435456 * l.length
  | [], _ => by simp [wsum]
  | x :: l, h => by
    have h1 := wsum_bd (l := l) fun y hy => h y (List.mem_cons_of_mem _ hy)
    have h2 := h x (List.mem_cons_self ..)
    rw [wsum, List.length_cons]
    split <;> omega
theorem rsum_bd : ∀ {l : List SegM}, (∀ x ∈ l, 0 ≤ x.2.1 ∧ x.2.1 ≤ 268435456) → 0 ≤ rsum l ∧ rsum l ≤ 268435456 * l.length
  | [], _ => by simp [rsum]
  | x :: l, h => by
    have h1 := rsum_bd (l := l) fun y hy => h y (List.mem_cons_of_mem _ hy)
    have h2 := h x (List.mem_cons_self ..)
    rw [rsum, List.length_cons]
    split <;> omega

/-- segments as a walk finds them: few, and none is greater than a memory -/
def segB (l : List SegM) : Prop := l.length ≤ 511 ∧ ∀ x ∈ l, 0 ≤ x.2.1 ∧ x.2.1 ≤ 268435456
theorem segB.sums {l : List SegM} (h : segB l) (i : Nat) : 0 ≤ wsum (l.take i) ∧ wsum (l.take i) ≤ wsum l ∧ 0 ≤ rsum (l.take i) ∧ rsum (l.take i) ≤ rsum l ∧ wsum l ≤ 137170518016 ∧ rsum l ≤ 137170518016 := by
  have h1 := wsum_bd (l := l.take i) fun x hx => h.2 x (List.mem_of_mem_take hx)
  have h2 := rsum_bd (l := l.take i) fun x hx => h.2 x (List.mem_of_mem_take hx)
  have h3 := wsum_bd (l := l.drop i) fun x hx => h.2 x (List.mem_of_mem_drop hx)
  have h4 := rsum_bd (l := l.drop i) fun x hx => h.2 x (List.mem_of_mem_drop hx)
  have h5 := wsum_app (l.take i) (l.drop i)
  have h6 := rsum_app (l.take i) (l.drop i)
  rw [List.take_append_drop] at h5 h6
  have h7 := wsum_bd (l := l) h.2
  have h8 := rsum_bd (l := l) h.2
  have h9 := h.1
  omega

/-- of a segment, which part n bytes from one on are, where it begins at a number -/
def pieceP (x : SegM) (beg frm n : Int) : Int × Int :=
  if min (frm + n) (beg + x.2.1) ≤ max frm beg then (0, 0) else (x.1 + max frm beg - beg, min (frm + n) (beg + x.2.1) - max frm beg)

section
variable {R : Ending → World → Prop} {W0 w : World} {H : Hp} {A F : List Hp}


set_option maxRecDepth 100000 in
set_option maxHeartbeats 4000000 in
theorem c_sizes (s : Sat W0 w H A) {B : Option Addr} {n c : Nat} {hp : Hp} {segs : List SegM} (rd : Rd segE 3 hp (.slice B n c) segs) (hk : ∀ w', Sat W0 w' H A → Holds w' hp) (hb : segB segs) (ta tl : Int)
    (k : ∀ w', Sat W0 w' H A → R (.returned (.tuple #[.int .u64 (rsum segs), .int .u64 (wsum segs)])) w') :
    Calls Try.prog 74 #[.agg #[.slice B n c, .int .u64 ta, .int .u64 tl]] w R := by
  have s1 := s.alloc (c := [.slice B n c, .int .u64 ta, .int .u64 tl]) (t := 50)
  obtain ⟨Z, hZ⟩ : ∃ Z, w.heap.size = Z := ⟨_, rfl⟩
  rw [hZ] at s1
  obtain ⟨rfl, hcap, hcap2, gg⟩ := rd.seg
  obtain ⟨L, hL⟩ : ∃ L, segs.length = L := ⟨_, rfl⟩
  replace k := aside k
  replace hL := aside hL
  replace gg : Aside (∀ i (hi : i < L), ∃ b o, B = some ⟨b, o, none⟩ ∧ (∃ fr, hp (.cell b (o + i * 3)) = some (.val (.int .u64 (segs[i]'(by rw [hL.out]; exact hi)).1) fr)) ∧ (∃ fr, hp (.cell b (o + i * 3 + 1)) = some (.val (.int .u64 (segs[i]'(by rw [hL.out]; exact hi)).2.1) fr)) ∧ (∃ fr, hp (.cell b (o + i * 3 + 2)) = some (.val (.bool (segs[i]'(by rw [hL.out]; exact hi)).2.2) fr))) := aside fun i hi => gg i (by rw [hL.out]; exact hi)
  replace hb := aside hb
  rw [hL.out] at s1 hcap ⊢
  have hL5 : (L : Int) ≤ 511 := by have := hb.out.1; have := hL.out; omega
  clear s rd
  replace hk := aside hk
  have y0 := s1.cel Z 0 0 rfl
  have y1 := s1.cel Z 0 1 rfl
  have y2 := s1.cel Z 0 2 rfl
  simp only [Nat.zero_add] at y0 y1 y2
  go_enter Try.func74, Try.ntmps74
  go_wp2
  clear y0 y1 y2
  go_loopg [4, 5, 11] L (fun q v4 v5 v11 w' => ∃ i : Nat, q + i = L ∧ v4 = .int .u64 (rsum (segs.take i)) ∧ v5 = .int .u64 (wsum (segs.take i)) ∧ v11 = .int .i64 i ∧ Sat W0 w' H (cellsH ⟨Z, 0, none⟩ [.slice B L c, .int .u64 ta, .int .u64 tl] :: A))
  case atStart => exact ⟨0, rfl, rfl, rfl, rfl, s1⟩
  clear s1
  case round =>
    obtain ⟨i, hq, rfl, rfl, rfl, t⟩ := hrel
    have y0 := t.cel Z 0 0 rfl
    have y1 := t.cel Z 0 1 rfl
    have y2 := t.cel Z 0 2 rfl
    simp only [Nat.zero_add] at y0 y1 y2
    have hs := aside (hb.out.sums i)
    by_cases hi : i < L
    · have hs2 := aside (hb.out.sums (i + 1))
      have hr1 := aside (rsum_one (l := segs) (i := i) (by rw [hL.out]; exact hi))
      have hw1 := aside (wsum_one (l := segs) (i := i) (by rw [hL.out]; exact hi))
      obtain ⟨b, o, rfl, d0, d1, d2⟩ := gg.out i hi
      have H1 := hk.out _ t.tail1
      have q0 := H1.cell d0
      have q1 := H1.cell d1
      have q2 := H1.cell d2
      have i1 : (0 : Int) ≤ i ∧ (i : Int) < L := by omega
      obtain ⟨k1, hk1⟩ : ∃ y, (segs[i]'(by rw [hL.out]; exact hi)).1 = y := ⟨_, rfl⟩
      obtain ⟨k2, hk2⟩ : ∃ y, (segs[i]'(by rw [hL.out]; exact hi)).2.1 = y := ⟨_, rfl⟩
      obtain ⟨k3, hk3⟩ : ∃ y, (segs[i]'(by rw [hL.out]; exact hi)).2.2 = y := ⟨_, rfl⟩
      rw [hk1] at q0
      rw [hk2] at q1
      rw [hk3] at q2
      rw [hk2, hk3] at hr1 hw1
      obtain ⟨RS, hRS⟩ : ∃ y, rsum (segs.take i) = y := ⟨_, rfl⟩
      obtain ⟨WS, hWS⟩ : ∃ y, wsum (segs.take i) = y := ⟨_, rfl⟩
      rw [hRS] at hr1 hs ⊢
      rw [hWS] at hw1 hs ⊢
      clear hRS hWS hk1 hk2 hk3 d0 d1 d2 H1
      have s3 := t.alloc (c := [.int .u64 k1, .int .u64 k2, .bool k3]) (t := 81)
      obtain ⟨V, hV⟩ : ∃ V, wr.heap.size = V := ⟨_, rfl⟩
      rw [hV] at s3
      have m0 := s3.cel V 0 0 rfl
      have m1 := s3.cel V 0 1 rfl
      have m2 := s3.cel V 0 2 rfl
      simp only [Nat.zero_add] at m0 m1 m2
      cases k3 with
      | true =>
        have hr3 := aside (show rsum (segs.take (i + 1)) = RS by rw [hr1.out]; simp)
        have hw3 := aside (show wsum (segs.take (i + 1)) = WS + k2 by rw [hw1.out]; simp)
        have e : IntKind.u64.wrap (WS + k2) = WS + k2 := by
          rw [wrap_u64]; have h1 := hs.out; have h2 := hs2.out; have h3 := hw3.out; omega
        clear hs hs2 hr1 hw1
        go_wp2
        go_roundg (gk - 1)
        case measure => omega
        case rel => exact ⟨i + 1, by omega, by rw [hr3.out], by rw [hw3.out], by go_num, s3.wk⟩
      | false =>
        have hr3 := aside (show rsum (segs.take (i + 1)) = RS + k2 by rw [hr1.out]; simp)
        have hw3 := aside (show wsum (segs.take (i + 1)) = WS by rw [hw1.out]; simp)
        have e : IntKind.u64.wrap (RS + k2) = RS + k2 := by
          rw [wrap_u64]; have h1 := hs.out; have h2 := hs2.out; have h3 := hr3.out; omega
        clear hs hs2 hr1 hw1
        go_wp2
        go_roundg (gk - 1)
        case measure => omega
        case rel => exact ⟨i + 1, by omega, by rw [hr3.out], by rw [hw3.out], by go_num, s3.wk⟩
    · obtain rfl : i = L := by omega
      have e1 : segs.take i = segs := by rw [← hL.out]; exact List.take_length
      rw [e1]
      obtain ⟨RS, hRS⟩ : ∃ y, rsum segs = y := ⟨_, rfl⟩
      obtain ⟨WS, hWS⟩ : ∃ y, wsum segs = y := ⟨_, rfl⟩
      rw [hRS, hWS] at k ⊢
      clear hRS hWS e1 hs
      go_wp2
      exact k.out _ t.tail1

set_option maxRecDepth 100000 in
set_option maxHeartbeats 4000000 in
theorem c_chPiece (s : Sat W0 w H A) (a len : Int) (f : Bool) (beg frm n : Int) (hb : 0 ≤ beg ∧ beg ≤ 1099511627776) (hf : 0 ≤ frm ∧ frm ≤ 1099511627776) (hn : 0 ≤ n ∧ n ≤ 1099511627776) (hl : 0 ≤ len ∧ len ≤ 268435456) (ha : 0 ≤ a ∧ a ≤ 1099511627776)
    (k : ∀ w', Sat W0 w' H A → R (.returned (.tuple #[.int .u64 (pieceP (a, len, f) beg frm n).1, .int .u64 (pieceP (a, len, f) beg frm n).2])) w') :
    Calls Try.prog 128 #[.agg #[.int .u64 a, .int .u64 len, .bool f], .int .u64 beg, .int .u64 frm, .int .u64 n] w R := by
  have s1 := s.alloc (c := [.int .u64 a, .int .u64 len, .bool f]) (t := 81)
  obtain ⟨Z, hZ⟩ : ∃ Z, w.heap.size = Z := ⟨_, rfl⟩
  rw [hZ] at s1
  have e1 : IntKind.u64.wrap (frm + n) = frm + n := by rw [wrap_u64]; omega
  have e2 : IntKind.u64.wrap (beg + len) = beg + len := by rw [wrap_u64]; omega
  obtain ⟨lo, hlo⟩ : ∃ y, max frm beg = y := ⟨_, rfl⟩
  obtain ⟨hi, hhi⟩ : ∃ y, min (frm + n) (beg + len) = y := ⟨_, rfl⟩
  simp only [pieceP, hlo, hhi] at k
  have hlo2 : (if frm < beg then beg else frm) = lo := by rw [← hlo]; split <;> omega
  have hhi2 : (if beg + len < frm + n then beg + len else frm + n) = hi := by rw [← hhi]; split <;> omega
  have hlb : beg ≤ lo ∧ lo ≤ 1099511627776 ∧ 0 ≤ hi ∧ hi ≤ 2200000000000 := by omega
  clear hlo hhi
  replace k := aside k
  clear s
  have y0 := s1.cel Z 0 0 rfl
  have y1 := s1.cel Z 0 1 rfl
  have y2 := s1.cel Z 0 2 rfl
  simp only [Nat.zero_add] at y0 y1 y2
  go_enter Try.func128, Try.ntmps128
  go_wp2_with fail
  go_region
  have s2 := s1.drew
  by_cases h : hi ≤ lo
  · rw [if_pos h] at k
    clear hlo2 hhi2 y0 y1 y2 s1
    go_wp2
    exact k.out _ s2.tail1
  · rw [if_neg h] at k
    have e3 : IntKind.u64.wrap (a + lo) = a + lo := by rw [wrap_u64]; omega
    have e4 : IntKind.u64.wrap (a + lo - beg) = a + lo - beg := by rw [wrap_u64]; omega
    have e5 : IntKind.u64.wrap (hi - lo) = hi - lo := by rw [wrap_u64]; omega
    clear hlo2 hhi2 y0 y1 y2 s1
    have y0 := s2.cel Z 0 0 rfl
    have y1 := s2.cel Z 0 1 rfl
    have y2 := s2.cel Z 0 2 rfl
    simp only [Nat.zero_add] at y0 y1 y2
    replace hlb := aside hlb
    go_wp2
    exact k.out _ s2.tail1
end
end Go.Proofs.Ytiibiamobkhlbaa

namespace Go.Proofs.Ytiibiamobkhlbaa
open Go.RowKit
set_option linter.unusedVariables false
set_option linter.unusedSimpArgs false

def atD (t i : Int) : Int := IntKind.u64.wrap (t + IntKind.u64.wrap (16 * IntKind.u64.wrap i))
def lastW (l : List SegM) : Bool := (l.getLast?.map fun x => x.2.2).getD false
theorem lastW_snoc (l : List SegM) (x : SegM) : lastW (l ++ [x]) = x.2.2 := by simp [lastW]

/-- the error's number, the place of the last descriptor, the segments -/
def alongP (m : Int → Int) (size t sz : Int) : Nat → Int → List SegM → Int × Int × List SegM
  | 0, i, segs => if i < 0 ∨ sz ≤ i then (151, 0, segs) else (152, 0, segs)
  | n + 1, i, segs =>
    if i < 0 ∨ sz ≤ i then (151, 0, segs) else
    if ¬ thereP size i (atD t i) then (21, 0, segs) else
    if flg (w3 m (atD t i)) 4 = true then (0, atD t i, segs) else
    if ¬ hasP size (w1 m (atD t i)) (w2 m (atD t i)) then (21, 0, segs) else
    if lastW segs = true ∧ flg (w3 m (atD t i)) 2 = false then (155, 0, segs) else
    if flg (w3 m (atD t i)) 1 = false then (0, atD t i, segs ++ [(w1 m (atD t i), w2 m (atD t i), flg (w3 m (atD t i)) 2)])
    else alongP m size t sz n (w4 m (atD t i)) (segs ++ [(w1 m (atD t i), w2 m (atD t i), flg (w3 m (atD t i)) 2)])

section
variable {m : Int → Int} {size t sz i : Int} {n : Nat} {segs : List SegM}
theorem alongP_out (h : i < 0 ∨ sz ≤ i) : alongP m size t sz n i segs = (151, 0, segs) := by cases n <;> simp only [alongP] <;> rw [if_pos h]
theorem alongP_zero (h : ¬ (i < 0 ∨ sz ≤ i)) : alongP m size t sz 0 i segs = (152, 0, segs) := by simp only [alongP]; rw [if_neg h]
theorem alongP_place (h : ¬ (i < 0 ∨ sz ≤ i)) (h2 : ¬ thereP size i (atD t i)) : alongP m size t sz (n + 1) i segs = (21, 0, segs) := by simp only [alongP]; rw [if_neg h, if_pos h2]
theorem alongP_table (h : ¬ (i < 0 ∨ sz ≤ i)) (h2 : thereP size i (atD t i)) (h3 : flg (w3 m (atD t i)) 4 = true) : alongP m size t sz (n + 1) i segs = (0, atD t i, segs) := by
  simp only [alongP]; rw [if_neg h, if_neg (not_not_intro h2), if_pos h3]
theorem alongP_has (h : ¬ (i < 0 ∨ sz ≤ i)) (h2 : thereP size i (atD t i)) (h3 : flg (w3 m (atD t i)) 4 = false) (h4 : ¬ hasP size (w1 m (atD t i)) (w2 m (atD t i))) : alongP m size t sz (n + 1) i segs = (21, 0, segs) := by
  simp only [alongP]; rw [if_neg h, if_neg (not_not_intro h2), if_neg (by rw [h3]; decide), if_pos h4]
theorem alongP_order (h : ¬ (i < 0 ∨ sz ≤ i)) (h2 : thereP size i (atD t i)) (h3 : flg (w3 m (atD t i)) 4 = false) (h4 : hasP size (w1 m (atD t i)) (w2 m (atD t i))) (h5 : lastW segs = true ∧ flg (w3 m (atD t i)) 2 = false) :
    alongP m size t sz (n + 1) i segs = (155, 0, segs) := by
  simp only [alongP]; rw [if_neg h, if_neg (not_not_intro h2), if_neg (by rw [h3]; decide), if_neg (not_not_intro h4), if_pos h5]
theorem alongP_end (h : ¬ (i < 0 ∨ sz ≤ i)) (h2 : thereP size i (atD t i)) (h3 : flg (w3 m (atD t i)) 4 = false) (h4 : hasP size (w1 m (atD t i)) (w2 m (atD t i))) (h5 : ¬ (lastW segs = true ∧ flg (w3 m (atD t i)) 2 = false)) (h6 : flg (w3 m (atD t i)) 1 = false) :
    alongP m size t sz (n + 1) i segs = (0, atD t i, segs ++ [(w1 m (atD t i), w2 m (atD t i), flg (w3 m (atD t i)) 2)]) := by
  simp only [alongP]; rw [if_neg h, if_neg (not_not_intro h2), if_neg (by rw [h3]; decide), if_neg (not_not_intro h4), if_neg h5, if_pos h6]
theorem alongP_next (h : ¬ (i < 0 ∨ sz ≤ i)) (h2 : thereP size i (atD t i)) (h3 : flg (w3 m (atD t i)) 4 = false) (h4 : hasP size (w1 m (atD t i)) (w2 m (atD t i))) (h5 : ¬ (lastW segs = true ∧ flg (w3 m (atD t i)) 2 = false)) (h6 : flg (w3 m (atD t i)) 1 = true) :
    alongP m size t sz (n + 1) i segs = alongP m size t sz n (w4 m (atD t i)) (segs ++ [(w1 m (atD t i), w2 m (atD t i), flg (w3 m (atD t i)) 2)]) := by
  rw [alongP, if_neg h, if_neg (not_not_intro h2), if_neg (by rw [h3]; decide), if_neg (not_not_intro h4), if_neg h5, if_neg (by rw [h6]; decide)]
end

/-- the number that the code's walk returns: a table within a table is refused at once -/
def outE (outer : Bool) (e : Int) (b4 : Bool) : Int := if e = 0 ∧ outer = false ∧ b4 = true then 153 else e
def tblP (t sz a : Int) : Prop := ∃ i, 0 ≤ i ∧ i < sz ∧ a = atD t i

section
variable {R : Ending → World → Prop} {W0 w : World} {H : Hp} {A F : List Hp} {b p : Nat} {r : RamG} {l : Option LogG} {g0 : WkG}


set_option maxRecDepth 100000 in
set_option maxHeartbeats 4000000 in
theorem c_along (s : Sat W0 w H (wkL ⟨p, 0, none⟩ ⟨b, 0, none⟩ g0 ++ (ramL ⟨b, 0, none⟩ (r, l) ++ F))) (t i0 : Int) (N : Nat) (outer : Bool) (ht : 0 ≤ t ∧ t ≤ 18446744073709551615) (hN : N ≤ 256) (hi0 : -9223372036854775808 ≤ i0 ∧ i0 ≤ 9223372036854775807) (hl : g0.segs.length ≤ 1000) (hwr0 : g0.wr = lastW g0.segs)
    (k : ∀ e a segs, alongP r.mem r.size t N N i0 g0.segs = (e, a, segs) → ∀ w' d1 d2 d3 d4 g' l' e', e' = outE outer e (flg (w3 r.mem a) 4) → ExtR (tblP t N) (lgs l) (lgs l') ∧ g'.ta = g0.ta ∧ g'.tl = g0.tl →
      (e' = 0 → g'.segs = segs ∧ g'.wr = lastW segs ∧ d1 = w1 r.mem a ∧ d2 = w2 r.mem a ∧ d3 = w3 r.mem a ∧ d4 = w4 r.mem a) → Sat W0 w' H (wkL ⟨p, 0, none⟩ ⟨b, 0, none⟩ g' ++ (ramL ⟨b, 0, none⟩ (r, l') ++ F)) →
      R (.returned (.tuple #[.agg #[.int .u64 d1, .int .u32 d2, .int .u16 d3, .int .u16 d4], .int .i64 e'])) w') :
    Calls Try.prog 158 #[.pointer (some ⟨p, 0, none⟩), .int .u64 t, .int .i64 N, .int .i64 i0, .bool outer] w R := by
  have s1 := s.alloc (c := [.int .u64 0, .int .u32 0, .int .u16 0, .int .u16 0]) (t := 266)
  obtain ⟨Z, hZ⟩ : ∃ Z, w.heap.size = Z := ⟨_, rfl⟩
  rw [hZ] at s1
  replace s1 : Sat W0 _ H (wkL ⟨p, 0, none⟩ ⟨b, 0, none⟩ g0 ++ (ramL ⟨b, 0, none⟩ (r, l) ++ (cellsH ⟨Z, 0, none⟩ [.int .u64 0, .int .u32 0, .int .u16 0, .int .u16 0] :: F))) := s1.wk
  clear s
  have hrb := r.hmem
  replace k := aside k
  replace hl := aside hl
  go_enter Try.func158, Try.ntmps158
  go_wp2
  go_loopg [3, 12] N (fun q v3 v12 w' => ∃ (n : Nat) (i : Int) (g : WkG) (l' : Option LogG), q + n = N ∧ (-9223372036854775808 ≤ i ∧ i ≤ 9223372036854775807) ∧ v3 = .int .i64 i ∧ v12 = .int .i64 n ∧ Aside (g.segs.length ≤ 1000 + n ∧ g.wr = lastW g.segs ∧ ExtR (tblP t N) (lgs l) (lgs l') ∧ g.ta = g0.ta ∧ g.tl = g0.tl ∧ alongP r.mem r.size t N N i0 g0.segs = alongP r.mem r.size t N q i g.segs) ∧
    Sat W0 w' H (wkL ⟨p, 0, none⟩ ⟨b, 0, none⟩ g ++ (ramL ⟨b, 0, none⟩ (r, l') ++ (cellsH ⟨Z, 0, none⟩ [.int .u64 0, .int .u32 0, .int .u16 0, .int .u16 0] :: F))))
  case atStart => exact ⟨0, i0, g0, l, by omega, hi0, rfl, rfl, aside ⟨hl.out, hwr0, ExtR.refl _ _, rfl, rfl, rfl⟩, s1⟩
  case round =>
    obtain ⟨n, i, g, l1, hq, hi, rfl, rfl, hg, s'⟩ := hrel
    have sU := s'
    simp only [wkL, List.cons_append, List.nil_append] at sU
    have y0 := sU.cel p 0 0 rfl
    simp only [Nat.zero_add] at y0
    clear sU s1 hwr0
    obtain ⟨q, rfl⟩ : ∃ q : Nat, q = gk := ⟨_, rfl⟩
    by_cases h1 : i < 0
    · have hE : alongP r.mem r.size t N N i0 g0.segs = (151, 0, g.segs) := by rw [hg.out.2.2.2.2.2, alongP_out (.inl h1)]
      have s8q0 := s'.cel Z 0 0 rfl
      have s8t0 := (s'.pc Z 0).s0 (.int .u64 0)
      have s8q1 := s8t0.c 1 rfl
      have s8t1 := s8t0.s 1 (by simp) (.int .u32 0)
      have s8q2 := s8t1.c 2 rfl
      have s8t2 := s8t1.s 2 (by simp) (.int .u16 0)
      have s8q3 := s8t2.c 3 rfl
      have s8 := s8t2.s 3 (by simp) (.int .u16 0)
      simp only [List.set_cons_succ, List.set_cons_zero, Nat.zero_add] at s8 s8q0 s8q1 s8q2 s8q3
      have f0 := s8.c 0 rfl
      have f1 := s8.c 1 rfl
      have f2 := s8.c 2 rfl
      have f3 := s8.c 3 rfl
      simp only [Nat.zero_add] at f0 f1 f2 f3
      have K := fun w' => k.out _ _ _ hE w' 0 0 0 0 g l1 151 (by simp [outE]) ⟨hg.out.2.2.1, hg.out.2.2.2.1, hg.out.2.2.2.2.1⟩ (fun h => absurd h (by decide))
      replace K := aside K
      replace hE := aside hE
      clear k
      go_wp2
      refine bodyPost_ret (by simp [results, Try.results158, go_sem, f0.1, f1.1, f2.1, f3.1]; try rfl) rfl ?_
      exact K.out _ s8.wk
    by_cases h2 : (N : Int) ≤ i
    · have hE : alongP r.mem r.size t N N i0 g0.segs = (151, 0, g.segs) := by rw [hg.out.2.2.2.2.2, alongP_out (.inr h2)]
      have s8q0 := s'.cel Z 0 0 rfl
      have s8t0 := (s'.pc Z 0).s0 (.int .u64 0)
      have s8q1 := s8t0.c 1 rfl
      have s8t1 := s8t0.s 1 (by simp) (.int .u32 0)
      have s8q2 := s8t1.c 2 rfl
      have s8t2 := s8t1.s 2 (by simp) (.int .u16 0)
      have s8q3 := s8t2.c 3 rfl
      have s8 := s8t2.s 3 (by simp) (.int .u16 0)
      simp only [List.set_cons_succ, List.set_cons_zero, Nat.zero_add] at s8 s8q0 s8q1 s8q2 s8q3
      have f0 := s8.c 0 rfl
      have f1 := s8.c 1 rfl
      have f2 := s8.c 2 rfl
      have f3 := s8.c 3 rfl
      simp only [Nat.zero_add] at f0 f1 f2 f3
      have K := fun w' => k.out _ _ _ hE w' 0 0 0 0 g l1 151 (by simp [outE]) ⟨hg.out.2.2.1, hg.out.2.2.2.1, hg.out.2.2.2.2.1⟩ (fun h => absurd h (by decide))
      replace K := aside K
      replace hE := aside hE
      clear k
      go_wp2
      refine bodyPost_ret (by simp [results, Try.results158, go_sem, f0.1, f1.1, f2.1, f3.1]; try rfl) rfl ?_
      exact K.out _ s8.wk
    have h12 := aside (show ¬ (i < 0 ∨ (N : Int) ≤ i) by omega)
    cases q with
    | zero =>
      have hE : alongP r.mem r.size t N N i0 g0.segs = (152, 0, g.segs) := by rw [hg.out.2.2.2.2.2, alongP_zero h12.out]
      obtain rfl : n = N := by omega
      have s8q0 := s'.cel Z 0 0 rfl
      have s8t0 := (s'.pc Z 0).s0 (.int .u64 0)
      have s8q1 := s8t0.c 1 rfl
      have s8t1 := s8t0.s 1 (by simp) (.int .u32 0)
      have s8q2 := s8t1.c 2 rfl
      have s8t2 := s8t1.s 2 (by simp) (.int .u16 0)
      have s8q3 := s8t2.c 3 rfl
      have s8 := s8t2.s 3 (by simp) (.int .u16 0)
      simp only [List.set_cons_succ, List.set_cons_zero, Nat.zero_add] at s8 s8q0 s8q1 s8q2 s8q3
      have f0 := s8.c 0 rfl
      have f1 := s8.c 1 rfl
      have f2 := s8.c 2 rfl
      have f3 := s8.c 3 rfl
      simp only [Nat.zero_add] at f0 f1 f2 f3
      have K := fun w' => k.out _ _ _ hE w' 0 0 0 0 g l1 152 (by simp [outE]) ⟨hg.out.2.2.1, hg.out.2.2.2.1, hg.out.2.2.2.2.1⟩ (fun h => absurd h (by decide))
      replace K := aside K
      replace hE := aside hE
      clear k
      go_wp2
      refine bodyPost_ret (by simp [results, Try.results158, go_sem, f0.1, f1.1, f2.1, f3.1]; try rfl) rfl ?_
      exact K.out _ s8.wk
    | succ q =>
      have hnN : ¬ ((N : Int) ≤ n) := by omega
      obtain ⟨D, hD⟩ : ∃ D, atD t i = D := ⟨_, rfl⟩
      have hD2 := aside hD
      have hDb : 0 ≤ D ∧ D ≤ 18446744073709551615 := by rw [← hD]; unfold atD; rw [wrap_u64]; omega
      replace hDb := aside hDb
      replace hD := aside (show D = IntKind.u64.wrap (t + IntKind.u64.wrap (16 * IntKind.u64.wrap i)) from hD.symm)
      go_wp2_with fail
      refine c_ringDescG s' t i D ht hi hD.out ?_ ?_
      · intro hth w2 s2
        have hE : alongP r.mem r.size t N N i0 g0.segs = (21, 0, g.segs) := by rw [hg.out.2.2.2.2.2, alongP_place h12.out (by rw [hD2.out]; exact hth)]
        have s3 := s2.alloc (c := [.int .u64 0, .int .u32 0, .int .u16 0, .int .u16 0]) (t := 266)
        have s8q0 := s3.cel Z 0 0 rfl
        have s8t0 := (s3.pc Z 0).s0 (.int .u64 0)
        have s8q1 := s8t0.c 1 rfl
        have s8t1 := s8t0.s 1 (by simp) (.int .u32 0)
        have s8q2 := s8t1.c 2 rfl
        have s8t2 := s8t1.s 2 (by simp) (.int .u16 0)
        have s8q3 := s8t2.c 3 rfl
        have s8 := s8t2.s 3 (by simp) (.int .u16 0)
        simp only [List.set_cons_succ, List.set_cons_zero, Nat.zero_add] at s8 s8q0 s8q1 s8q2 s8q3
        have f0 := s8.c 0 rfl
        have f1 := s8.c 1 rfl
        have f2 := s8.c 2 rfl
        have f3 := s8.c 3 rfl
        simp only [Nat.zero_add] at f0 f1 f2 f3
        have K := fun w' => k.out _ _ _ hE w' 0 0 0 0 g l1 21 (by simp [outE]) ⟨hg.out.2.2.1, hg.out.2.2.2.1, hg.out.2.2.2.2.1⟩ (fun h => absurd h (by decide))
        replace K := aside K
        replace hE := aside hE
        clear k
        go_wp2
        refine bodyPost_ret (by simp [results, Try.results158, go_sem, f0.1, f1.1, f2.1, f3.1]; try rfl) rfl ?_
        exact K.out _ s8.wk
      · intro hth wA l2 hl2 s2
        have hX2 : ExtR (tblP t N) (lgs l) (lgs l2) := by
          rw [hl2]
          exact hg.out.2.2.1.trans (ExtR.add ⟨i, by omega, by omega, hD2.out.symm⟩)
        replace hX2 := aside hX2
        obtain ⟨hp1, hp2, hp3, hp4⟩ : (0 ≤ w1 r.mem D ∧ w1 r.mem D ≤ 18446744073709551615) ∧ (0 ≤ w2 r.mem D ∧ w2 r.mem D ≤ 4294967295) ∧ (0 ≤ w3 r.mem D ∧ w3 r.mem D ≤ 65535) ∧ (0 ≤ w4 r.mem D ∧ w4 r.mem D ≤ 65535) := by
          have b1 := ofB_bdn hrb D 8
          have b2 := ofB_bdn hrb (D + 8) 4
          have b3 := ofB_bdn hrb (D + 12) 2
          have b4 := ofB_bdn hrb (D + 14) 2
          simp only [w1, w2, w3, w4]
          omega
        have eT : thereP r.size i (atD t i) := by rw [hD2.out]; exact hth
        have P3 := fun h => alongP_table (m := r.mem) (segs := g.segs) (n := q) h12.out eT h
        have P4 := fun h h4 => alongP_has (m := r.mem) (segs := g.segs) (n := q) h12.out eT h h4
        have P5 := fun h h4 h5 => alongP_order (m := r.mem) (segs := g.segs) (n := q) h12.out eT h h4 h5
        have P6 := fun h h4 h5 h6 => alongP_end (m := r.mem) (segs := g.segs) (n := q) h12.out eT h h4 h5 h6
        have P7 := fun h h4 h5 h6 => alongP_next (m := r.mem) (segs := g.segs) (n := q) h12.out eT h h4 h5 h6
        rw [hD2.out, ← hg.out.2.2.2.2.2] at P3 P4 P5 P6 P7
        obtain ⟨x1, hx1⟩ : ∃ y, w1 r.mem D = y := ⟨_, rfl⟩
        obtain ⟨x2, hx2⟩ : ∃ y, w2 r.mem D = y := ⟨_, rfl⟩
        obtain ⟨x3, hx3⟩ : ∃ y, w3 r.mem D = y := ⟨_, rfl⟩
        obtain ⟨x4, hx4⟩ : ∃ y, w4 r.mem D = y := ⟨_, rfl⟩
        rw [hx1] at hp1 P4 P5 P6 P7
        rw [hx2] at hp2 P4 P5 P6 P7
        rw [hx3] at hp3 P3 P4 P5 P6 P7
        rw [hx4] at hp4 P7
        rw [hx1, hx2, hx3, hx4]
        have B4 : (bits BinOp.and IntKind.u16 x3 4 != 0) = flg x3 4 := flg_bits hp3 2 (by omega)
        have B1 : (bits BinOp.and IntKind.u16 x3 1 == 0) = !flg x3 1 := by
          have h9 : (bits BinOp.and IntKind.u16 x3 1 != 0) = flg x3 1 := flg_bits hp3 0 (by omega)
          rw [← h9]; simp [bne]
        replace P3 := aside P3
        replace P4 := aside P4
        replace P5 := aside P5
        replace P6 := aside P6
        replace P7 := aside P7
        replace hx1 := aside hx1
        replace hx2 := aside hx2
        replace hx3 := aside hx3
        replace hx4 := aside hx4
        replace hg := aside hg
        replace h12 := aside h12
        replace hD := aside hD
        replace hD2 := aside hD2
        replace hDb := aside hDb
        replace hl2 := aside hl2
        clear s'
        have s3 := s2.alloc (c := [.int .u64 x1, .int .u32 x2, .int .u16 x3, .int .u16 x4]) (t := 266)
        obtain ⟨Y, hY⟩ : ∃ Y, wA.heap.size = Y := ⟨_, rfl⟩
        rw [hY] at s3
        have d0 := s3.cel Y 0 0 rfl
        have d1 := s3.cel Y 0 1 rfl
        have d2 := s3.cel Y 0 2 rfl
        have d3 := s3.cel Y 0 3 rfl
        simp only [Nat.zero_add] at d0 d1 d2 d3
        cases c4 : flg x3 4 with
        | true =>
          rw [c4] at B4
          have hE := P3.out c4
          clear P3 P4 P5 P6 P7 B1
          cases outer with
          | false =>
            have s8q0 := s3.cel Z 0 0 rfl
            have s8t0 := (s3.pc Z 0).s0 (.int .u64 0)
            have s8q1 := s8t0.c 1 rfl
            have s8t1 := s8t0.s 1 (by simp) (.int .u32 0)
            have s8q2 := s8t1.c 2 rfl
            have s8t2 := s8t1.s 2 (by simp) (.int .u16 0)
            have s8q3 := s8t2.c 3 rfl
            have s8 := s8t2.s 3 (by simp) (.int .u16 0)
            simp only [List.set_cons_succ, List.set_cons_zero, Nat.zero_add] at s8 s8q0 s8q1 s8q2 s8q3
            have f0 := s8.c 0 rfl
            have f1 := s8.c 1 rfl
            have f2 := s8.c 2 rfl
            have f3 := s8.c 3 rfl
            simp only [Nat.zero_add] at f0 f1 f2 f3
            have K := fun w' => k.out _ _ _ hE w' 0 0 0 0 g l2 153 (by simp [outE, hx3.out, c4]) ⟨hX2.out, hg.out.2.2.2.1, hg.out.2.2.2.2.1⟩ (fun h => absurd h (by decide))
            replace K := aside K
            replace hE := aside hE
            clear k
            go_wp2
            refine bodyPost_ret (by simp [results, Try.results158, go_sem, f0.1, f1.1, f2.1, f3.1]; try rfl) rfl ?_
            exact K.out _ s8.wk
          | true =>
            have s8q0 := s3.cel Z 0 0 rfl
            have s8t0 := (s3.pc Z 0).s0 (.int .u64 x1)
            have s8q1 := s8t0.c 1 rfl
            have s8t1 := s8t0.s 1 (by simp) (.int .u32 x2)
            have s8q2 := s8t1.c 2 rfl
            have s8t2 := s8t1.s 2 (by simp) (.int .u16 x3)
            have s8q3 := s8t2.c 3 rfl
            have s8 := s8t2.s 3 (by simp) (.int .u16 x4)
            simp only [List.set_cons_succ, List.set_cons_zero, Nat.zero_add] at s8 s8q0 s8q1 s8q2 s8q3
            have f0 := s8.c 0 rfl
            have f1 := s8.c 1 rfl
            have f2 := s8.c 2 rfl
            have f3 := s8.c 3 rfl
            simp only [Nat.zero_add] at f0 f1 f2 f3
            have K := fun w' => k.out _ _ _ hE w' x1 x2 x3 x4 g l2 0 (by simp [outE]) ⟨hX2.out, hg.out.2.2.2.1, hg.out.2.2.2.2.1⟩ (fun _ => ⟨rfl, hg.out.2.1, hx1.out.symm, hx2.out.symm, hx3.out.symm, hx4.out.symm⟩)
            replace K := aside K
            replace hE := aside hE
            clear k
            go_wp2
            refine bodyPost_ret (by simp [results, Try.results158, go_sem, f0.1, f1.1, f2.1, f3.1]; try rfl) rfl ?_
            exact K.out _ s8.wk
        | false =>
          rw [c4] at B4
          have s4 : Sat W0 _ H (wkL ⟨p, 0, none⟩ ⟨b, 0, none⟩ g ++ (ramL ⟨b, 0, none⟩ (r, l2) ++ (cellsH ⟨Y, 0, none⟩ [.int .u64 x1, .int .u32 x2, .int .u16 x3, .int .u16 x4] :: cellsH ⟨Z, 0, none⟩ [.int .u64 0, .int .u32 0, .int .u16 0, .int .u16 0] :: F))) := s3.wk
          clear s2 s3 P3
          have hgl := aside (show g.segs.length ≤ 1000000 by have := hg.out.1; omega)
          go_wp2_with fail
          refine c_segment s4 x1 x2 x3 x4 hp1 hp2 hp3 hgl.out ?_ ?_ ?_
          · intro hh w5 s5
            have hE := P4.out c4 hh
            clear P4 P5 P6 P7 B1 s4
            have s8q0 := s5.cel Z 0 0 rfl
            have s8t0 := (s5.pc Z 0).s0 (.int .u64 0)
            have s8q1 := s8t0.c 1 rfl
            have s8t1 := s8t0.s 1 (by simp) (.int .u32 0)
            have s8q2 := s8t1.c 2 rfl
            have s8t2 := s8t1.s 2 (by simp) (.int .u16 0)
            have s8q3 := s8t2.c 3 rfl
            have s8 := s8t2.s 3 (by simp) (.int .u16 0)
            simp only [List.set_cons_succ, List.set_cons_zero, Nat.zero_add] at s8 s8q0 s8q1 s8q2 s8q3
            have f0 := s8.c 0 rfl
            have f1 := s8.c 1 rfl
            have f2 := s8.c 2 rfl
            have f3 := s8.c 3 rfl
            simp only [Nat.zero_add] at f0 f1 f2 f3
            have K := fun w' => k.out _ _ _ hE w' 0 0 0 0 g l2 21 (by simp [outE]) ⟨hX2.out, hg.out.2.2.2.1, hg.out.2.2.2.2.1⟩ (fun h => absurd h (by decide))
            replace K := aside K
            replace hE := aside hE
            clear k
            go_wp2
            refine bodyPost_ret (by simp [results, Try.results158, go_sem, f0.1, f1.1, f2.1, f3.1]; try rfl) rfl ?_
            exact K.out _ s8.wk
          · intro hh hc w5 s5
            have hE := P5.out c4 hh (hg.out.2.1 ▸ hc)
            clear P4 P5 P6 P7 B1 s4
            have s8q0 := s5.cel Z 0 0 rfl
            have s8t0 := (s5.pc Z 0).s0 (.int .u64 0)
            have s8q1 := s8t0.c 1 rfl
            have s8t1 := s8t0.s 1 (by simp) (.int .u32 0)
            have s8q2 := s8t1.c 2 rfl
            have s8t2 := s8t1.s 2 (by simp) (.int .u16 0)
            have s8q3 := s8t2.c 3 rfl
            have s8 := s8t2.s 3 (by simp) (.int .u16 0)
            simp only [List.set_cons_succ, List.set_cons_zero, Nat.zero_add] at s8 s8q0 s8q1 s8q2 s8q3
            have f0 := s8.c 0 rfl
            have f1 := s8.c 1 rfl
            have f2 := s8.c 2 rfl
            have f3 := s8.c 3 rfl
            simp only [Nat.zero_add] at f0 f1 f2 f3
            have K := fun w' => k.out _ _ _ hE w' 0 0 0 0 g l2 155 (by simp [outE]) ⟨hX2.out, hg.out.2.2.2.1, hg.out.2.2.2.2.1⟩ (fun h => absurd h (by decide))
            replace K := aside K
            replace hE := aside hE
            clear k
            go_wp2
            refine bodyPost_ret (by simp [results, Try.results158, go_sem, f0.1, f1.1, f2.1, f3.1]; try rfl) rfl ?_
            exact K.out _ s8.wk
          · intro hh hc w5 g5 hs5 hw5 ht5 hl5 s5
            replace hc : ¬ (lastW g.segs = true ∧ flg x3 2 = false) := hg.out.2.1 ▸ hc
            have d0 := s5.cel Y 0 0 rfl
            have d1 := s5.cel Y 0 1 rfl
            have d2 := s5.cel Y 0 2 rfl
            have d3 := s5.cel Y 0 3 rfl
            simp only [Nat.zero_add] at d0 d1 d2 d3
            cases c1 : flg x3 1 with
            | false =>
              rw [c1] at B1
              have hE := P6.out c4 hh hc c1
              have hY := aside (show g5.segs = g.segs ++ [(x1, x2, flg x3 2)] ∧ g5.wr = lastW (g.segs ++ [(x1, x2, flg x3 2)]) ∧ x1 = w1 r.mem D ∧ x2 = w2 r.mem D ∧ x3 = w3 r.mem D ∧ x4 = w4 r.mem D from ⟨hs5, by rw [hw5, lastW_snoc], hx1.out.symm, hx2.out.symm, hx3.out.symm, hx4.out.symm⟩)
              have hX5 := aside (show ExtR (tblP t N) (lgs l) (lgs l2) ∧ g5.ta = g0.ta ∧ g5.tl = g0.tl from ⟨hX2.out, ht5.trans hg.out.2.2.2.1, hl5.trans hg.out.2.2.2.2.1⟩)
              clear P4 P5 P6 P7 s4 hs5 hw5 ht5 hl5 hc hh
              have s8q0 := s5.cel Z 0 0 rfl
              have s8t0 := (s5.pc Z 0).s0 (.int .u64 x1)
              have s8q1 := s8t0.c 1 rfl
              have s8t1 := s8t0.s 1 (by simp) (.int .u32 x2)
              have s8q2 := s8t1.c 2 rfl
              have s8t2 := s8t1.s 2 (by simp) (.int .u16 x3)
              have s8q3 := s8t2.c 3 rfl
              have s8 := s8t2.s 3 (by simp) (.int .u16 x4)
              simp only [List.set_cons_succ, List.set_cons_zero, Nat.zero_add] at s8 s8q0 s8q1 s8q2 s8q3
              have f0 := s8.c 0 rfl
              have f1 := s8.c 1 rfl
              have f2 := s8.c 2 rfl
              have f3 := s8.c 3 rfl
              simp only [Nat.zero_add] at f0 f1 f2 f3
              have K := fun w' => k.out _ _ _ hE w' x1 x2 x3 x4 g5 l2 0 (by simp [outE, hx3.out, c4]) hX5.out (fun _ => hY.out)
              replace K := aside K
              replace hE := aside hE
              clear k
              go_wp2
              refine bodyPost_ret (by simp [results, Try.results158, go_sem, f0.1, f1.1, f2.1, f3.1]; try rfl) rfl ?_
              exact K.out _ s8.wk
            | true =>
              rw [c1] at B1
              have hE := P7.out c4 hh hc c1
              have hg5 := aside (show g5.segs.length ≤ 1000 + (n + 1) ∧ g5.wr = lastW g5.segs ∧ ExtR (tblP t N) (lgs l) (lgs l2) ∧ g5.ta = g0.ta ∧ g5.tl = g0.tl ∧ alongP r.mem r.size t N N i0 g0.segs = alongP r.mem r.size t N q x4 g5.segs from
                ⟨by rw [hs5, List.length_append]; have := hg.out.1; simp only [List.length_cons, List.length_nil]; omega, by rw [hw5, hs5, lastW_snoc], hX2.out, ht5.trans hg.out.2.2.2.1, hl5.trans hg.out.2.2.2.2.1, by rw [hs5]; exact hE⟩)
              clear P4 P5 P6 P7 s4 hs5 hw5 ht5 hl5 hc hh hE
              go_wp2
              go_roundg q
              case measure => omega
              case rel => exact ⟨n + 1, x4, g5, l2, by omega, by omega, rfl, by go_num, hg5, s5.wk⟩
end
end Go.Proofs.Ytiibiamobkhlbaa

namespace Go.Proofs.Ytiibiamobkhlbaa
open Go.RowKit
set_option linter.unusedVariables false
set_option linter.unusedSimpArgs false

def badT (n : Int) : Prop := n % 16 ≠ 0 ∨ n < 16 ∨ 4096 < n
instance (n : Int) : Decidable (badT n) := by unfold badT; infer_instance

/-- the error's number, the segments, the table -/
def walkP (m : Int → Int) (size d : Int) (n : Nat) (head : Int) (ind : Bool) : Int × List SegM × Int × Int :=
  match alongP m size d n n head [] with
  | (e, a, segs) =>
    if e ≠ 0 then (e, [], 0, 0) else
    if flg (w3 m a) 4 = false then (0, segs, 0, 0) else
    if ind = false ∨ flg (w3 m a) 1 = true then (153, [], 0, 0) else
    if badT (w2 m a) then (154, [], 0, 0) else
    if ¬ hasP size (w1 m a) (w2 m a) then (21, [], 0, 0) else
    match alongP m size (w1 m a) (w2 m a / 16) (w2 m a / 16).toNat 0 segs with
    | (e', a', segs') => if outE false e' (flg (w3 m a') 4) ≠ 0 then (outE false e' (flg (w3 m a') 4), [], 0, 0) else (0, segs', w1 m a, w2 m a)

theorem alongP_len {m : Int → Int} {size t sz : Int} : ∀ {n : Nat} {i : Int} {segs : List SegM} {e a : Int} {out : List SegM}, alongP m size t sz n i segs = (e, a, out) → out.length ≤ segs.length + n
  | 0, i, segs, e, a, out, h => by
    simp only [alongP] at h
    split at h <;> (cases h; omega)
  | n + 1, i, segs, e, a, out, h => by
    rw [alongP] at h
    repeat' split at h
    all_goals first | (cases h; (try simp only [List.length_append, List.length_cons, List.length_nil]); omega) | (have := alongP_len h; simp only [List.length_append, List.length_cons, List.length_nil] at this; omega)

section
variable {R : Ending → World → Prop} {W0 w : World} {H : Hp} {A F : List Hp} {b p : Nat} {r : RamG} {l : Option LogG} {g : WkG}

set_option maxRecDepth 100000 in
set_option maxHeartbeats 4000000 in
theorem c_table (s : Sat W0 w H (wkL ⟨p, 0, none⟩ ⟨b, 0, none⟩ g ++ (ramL ⟨b, 0, none⟩ (r, l) ++ F))) (x1 x2 x3 x4 : Int) (h1 : 0 ≤ x1 ∧ x1 ≤ 18446744073709551615) (h2 : 0 ≤ x2 ∧ x2 ≤ 4294967295) (hl : g.segs.length ≤ 1000) (hwr : g.wr = lastW g.segs)
    (ka : badT x2 → ∀ w' g', Sat W0 w' H (wkL ⟨p, 0, none⟩ ⟨b, 0, none⟩ g' ++ (ramL ⟨b, 0, none⟩ (r, l) ++ F)) → R (.returned (.int .i64 154)) w')
    (kb : ¬ badT x2 → ¬ hasP r.size x1 x2 → ∀ w' g', Sat W0 w' H (wkL ⟨p, 0, none⟩ ⟨b, 0, none⟩ g' ++ (ramL ⟨b, 0, none⟩ (r, l) ++ F)) → R (.returned (.int .i64 21)) w')
    (k : ¬ badT x2 → hasP r.size x1 x2 → ∀ e a segs, alongP r.mem r.size x1 (x2 / 16) (x2 / 16).toNat 0 g.segs = (e, a, segs) → ∀ w' g' l' e', e' = outE false e (flg (w3 r.mem a) 4) → ExtR (tblP x1 (x2 / 16)) (lgs l) (lgs l') → g'.ta = x1 → g'.tl = x2 → (e' = 0 → g'.segs = segs) →
      Sat W0 w' H (wkL ⟨p, 0, none⟩ ⟨b, 0, none⟩ g' ++ (ramL ⟨b, 0, none⟩ (r, l') ++ F)) → R (.returned (.int .i64 e')) w') :
    Calls Try.prog 159 #[.pointer (some ⟨p, 0, none⟩), .agg #[.int .u64 x1, .int .u32 x2, .int .u16 x3, .int .u16 x4]] w R := by
  have s1 := s.alloc (c := [.int .u64 x1, .int .u32 x2, .int .u16 x3, .int .u16 x4]) (t := 266)
  obtain ⟨Z, hZ⟩ : ∃ Z, w.heap.size = Z := ⟨_, rfl⟩
  rw [hZ] at s1
  clear s
  have hhas := has_iff r x1 x2 h2.1
  have q1 := aside h1
  have q2 := aside (show 0 ≤ x2 ∧ x2 ≤ 18446744073709551615 by omega)
  have sU := s1
  simp only [wkL, List.cons_append, List.nil_append] at sU
  have y0 := sU.cel p 0 0 rfl
  simp only [Nat.zero_add] at y0
  have z0 := s1.cel Z 0 0 rfl
  have z1 := s1.cel Z 0 1 rfl
  have z2 := s1.cel Z 0 2 rfl
  simp only [Nat.zero_add] at z0 z1 z2
  obtain ⟨q, hq⟩ : ∃ q : Nat, x2 / 16 = q := ⟨(x2 / 16).toNat, by omega⟩
  obtain ⟨ρ, hρ⟩ : ∃ ρ : Int, x2 % 16 = ρ := ⟨_, rfl⟩
  have t1 : x2.tdiv 16 = q := by rw [Int.tdiv_eq_ediv_of_nonneg h2.1]; exact hq
  have t2 : x2.tmod 16 = ρ := by rw [Int.tmod_eq_emod_of_nonneg h2.1]; exact hρ
  have t3 : IntKind.i64.wrap (q : Int) = q := by simp [IntKind.wrap, IntKind.bits, IntKind.signed]; omega
  have t4 : IntKind.u32.wrap (q : Int) = q := by rw [wrap_u32]; omega
  have e2 : IntKind.u64.wrap x2 = x2 := by rw [wrap_u64]; omega
  rw [hq] at k
  by_cases hbad : badT x2
  · have K := aside (ka hbad)
    have hb : (q : Int) < 1 ∨ (256 < (q : Int)) ∨ ¬ ρ = 0 := by unfold badT at hbad; omega
    clear ka kb k hhas hq hρ sU
    by_cases c1 : (q : Int) < 1
    · skip
      go_enter Try.func159, Try.ntmps159
      go_wp2
      exact K.out _ g s1.wk
    · by_cases c2 : 256 < (q : Int)
      · skip
        go_enter Try.func159, Try.ntmps159
        go_wp2
        exact K.out _ g s1.wk
      · have c3 : ¬ ρ = 0 := by omega
        have c4 : (ρ == 0) = false := by simp [c3]
        go_enter Try.func159, Try.ntmps159
        go_wp2
        exact K.out _ g s1.wk
  · have c1 : ¬ (q : Int) < 1 := by unfold badT at hbad; omega
    have c2 : ¬ 256 < (q : Int) := by unfold badT at hbad; omega
    obtain rfl : ρ = 0 := by unfold badT at hbad; omega
    by_cases hh : hasP r.size x1 x2
    · have hd : decide (r.has x1 x2) = true := by simp; exact hhas.2 hh
      have K := aside (k hbad hh)
      clear ka kb k hhas hq hρ sU
      go_enter Try.func159, Try.ntmps159
      go_wp2
      go_quiet ((go_at_call 63; exact Calls.quiet_of_same (v := .bool true) (c_ramHas (s1.drewN _) x1 x2 q1.out q2.out (by rw [hd]; exact ⟨rfl, rfl⟩))))
      have s2 := s1.drewN nq
      generalize World.drewN _ nq = wA at s2 ⊢
      clear s1 z0 z1 z2 y0
      have z0 := s2.cel Z 0 0 rfl
      have z1 := s2.cel Z 0 1 rfl
      have z2 := s2.cel Z 0 2 rfl
      simp only [Nat.zero_add] at z0 z1 z2
      have sU := s2
      simp only [wkL, List.cons_append, List.nil_append] at sU
      have sV := (((sU.pc p 0).s 2 (by simp) (.int .u64 x1)).s 3 (by simp) (.int .u64 x2))
      simp only [List.set_cons_succ, List.set_cons_zero, Nat.zero_add] at sV
      have y0 := sU.cel p 0 0 rfl
      have y1 := sU.cel p 0 1 rfl
      have y2 := sU.cel p 0 2 rfl
      have y3 := sU.cel p 0 3 rfl
      simp only [Nat.zero_add] at y0 y1 y2 y3
      have s3 : Sat W0 ((wA.setCell ⟨p, 2, none⟩ (.int .u64 x1)).setCell ⟨p, 3, none⟩ (.int .u64 x2)) H (wkL ⟨p, 0, none⟩ ⟨b, 0, none⟩ { g with ta := x1, tl := x2 } ++ (ramL ⟨b, 0, none⟩ (r, l) ++ (cellsH ⟨Z, 0, none⟩ [.int .u64 x1, .int .u32 x2, .int .u16 x3, .int .u16 x4] :: F))) := by
        simp only [wkL, List.cons_append, List.nil_append]
        exact sV.wk
      have u0 := s3.cel Z 0 0 rfl
      have u1 := s3.cel Z 0 1 rfl
      have u2 := s3.cel Z 0 2 rfl
      simp only [Nat.zero_add] at u0 u1 u2
      clear sU sV
      have hl2 := aside hl
      have hw2 := aside hwr
      go_wp2_with fail
      refine c_along s3 x1 0 q false h1 (by omega) (by omega) hl2.out hw2.out ?_
      intro e a segs hE w4 d1 d2 d3 d4 g' l' e' he' hX hseg s4
      replace hE := aside hE
      replace hX := aside hX
      replace hseg := aside hseg
      replace he' := aside he'
      clear s2 s3
      go_wp2
      refine K.out e a segs ?_ _ g' l' e' he'.out hX.out.1 hX.out.2.1 hX.out.2.2 (fun h => (hseg.out h).1) ?_
      · exact hE.out
      · exact (s4.alloc (c := [.int .u64 d1, .int .u32 d2, .int .u16 d3, .int .u16 d4]) (t := 266)).wk
    · have hd : decide (r.has x1 x2) = false := by simp; exact fun h => hh (hhas.1 h)
      have K := aside (kb hbad hh)
      clear ka kb k hhas hq hρ sU
      go_enter Try.func159, Try.ntmps159
      go_wp2
      go_quiet ((go_at_call 63; exact Calls.quiet_of_same (v := .bool false) (c_ramHas (s1.drewN _) x1 x2 q1.out q2.out (by rw [hd]; exact ⟨rfl, rfl⟩))))
      go_wp2
      exact K.out _ g (s1.drewN _).wk
end
end Go.Proofs.Ytiibiamobkhlbaa

namespace Go.Proofs.Ytiibiamobkhlbaa
open Go.RowKit
set_option linter.unusedVariables false
set_option linter.unusedSimpArgs false

section
variable {m : Int → Int} {size d head e a e' a' : Int} {n : Nat} {ind : Bool} {segs segs' : List SegM}
theorem walkP_err (hE : alongP m size d n n head [] = (e, a, segs)) (h : e ≠ 0) : walkP m size d n head ind = (e, [], 0, 0) := by simp only [walkP, hE]; rw [if_pos h]
theorem walkP_plain (hE : alongP m size d n n head [] = (0, a, segs)) (h4 : flg (w3 m a) 4 = false) : walkP m size d n head ind = (0, segs, 0, 0) := by simp only [walkP, hE]; rw [if_neg (by decide), if_pos h4]
theorem walkP_nested (hE : alongP m size d n n head [] = (0, a, segs)) (h4 : flg (w3 m a) 4 = true) (h1 : ind = false ∨ flg (w3 m a) 1 = true) : walkP m size d n head ind = (153, [], 0, 0) := by
  simp only [walkP, hE]; rw [if_neg (by decide), if_neg (by rw [h4]; decide), if_pos h1]
theorem walkP_bad (hE : alongP m size d n n head [] = (0, a, segs)) (h4 : flg (w3 m a) 4 = true) (h1 : ¬ (ind = false ∨ flg (w3 m a) 1 = true)) (hb : badT (w2 m a)) : walkP m size d n head ind = (154, [], 0, 0) := by
  simp only [walkP, hE]; rw [if_neg (by decide), if_neg (by rw [h4]; decide), if_neg h1, if_pos hb]
theorem walkP_place (hE : alongP m size d n n head [] = (0, a, segs)) (h4 : flg (w3 m a) 4 = true) (h1 : ¬ (ind = false ∨ flg (w3 m a) 1 = true)) (hb : ¬ badT (w2 m a)) (hh : ¬ hasP size (w1 m a) (w2 m a)) : walkP m size d n head ind = (21, [], 0, 0) := by
  simp only [walkP, hE]; rw [if_neg (by decide), if_neg (by rw [h4]; decide), if_neg h1, if_neg hb, if_pos hh]
theorem walkP_in (hE : alongP m size d n n head [] = (0, a, segs)) (h4 : flg (w3 m a) 4 = true) (h1 : ¬ (ind = false ∨ flg (w3 m a) 1 = true)) (hb : ¬ badT (w2 m a)) (hh : hasP size (w1 m a) (w2 m a))
    (hE2 : alongP m size (w1 m a) (w2 m a / 16) (w2 m a / 16).toNat 0 segs = (e', a', segs')) :
    walkP m size d n head ind = if outE false e' (flg (w3 m a') 4) ≠ 0 then (outE false e' (flg (w3 m a') 4), [], 0, 0) else (0, segs', w1 m a, w2 m a) := by
  simp only [walkP, hE]; rw [if_neg (by decide), if_neg (by rw [h4]; decide), if_neg h1, if_neg hb, if_neg (not_not_intro hh)]; simp only [hE2]
end

def rdP (e ta tl d : Int) (n : Nat) (a : Int) : Prop := tblP d n a ∨ (e = 0 → tblP ta (tl / 16) a)

section
variable {R : Ending → World → Prop} {W0 w : World} {H : Hp} {A F : List Hp} {b : Nat} {r : RamG} {l : Option LogG}

theorem Sat.walker {p : Nat} {rp : Addr} (s : Sat W0 w H (empH :: cellsH ⟨p, 0, none⟩ [.pointer (some rp), .slice none 0 0, .int .u64 0, .int .u64 0, .bool false, .int .i64 0] :: F)) :
    Sat W0 w H (wkL ⟨p, 0, none⟩ rp ⟨[], 0, 0, false, .slice none 0 0, empH, OwnS.nil 3⟩ ++ F) := s.swap


set_option maxRecDepth 100000 in
set_option maxHeartbeats 4000000 in
theorem c_walk (s : Sat W0 w H A) [fr : FrK (κ := Addr) (ρ := fun _ => RamG × Option LogG) ramL ⟨b, 0, none⟩ A (r, l) F] (N : Nat) (d a' u head : Int) (ind : Bool) (hN : N ≤ 256) (hd : 0 ≤ d ∧ d ≤ 18446744073709551615) (hh : -9223372036854775808 ≤ head ∧ head ≤ 9223372036854775807)
    (k : ∀ e segs ta tl, walkP r.mem r.size d N head ind = (e, segs, ta, tl) → ∀ w' v h l', OwnS 3 v segs.length (encG segs) h → ExtR (rdP e ta tl d N) (lgs l) (lgs l') → Sat W0 w' H (h :: (ramL ⟨b, 0, none⟩ (r, l') ++ F)) →
      R (.returned (.tuple #[.agg #[v, .int .u64 ta, .int .u64 tl], .int .i64 e])) w') :
    Calls Try.prog 124 #[.pointer (some ⟨b, 0, none⟩), .agg #[.int .i64 N, .int .u64 d, .int .u64 a', .int .u64 u], .int .i64 head, .bool ind] w R := by
  have s1 := (((s.front (mk := ramL) (k := ⟨b, 0, none⟩)).alloc (c := [.int .i64 N, .int .u64 d, .int .u64 a', .int .u64 u]) (t := 25)).alloc (c := [.slice none 0 0, .int .u64 0, .int .u64 0]) (t := 50)).alloc
    (c := [.pointer (some ⟨b, 0, none⟩), .slice none 0 0, .int .u64 0, .int .u64 0, .bool false, .int .i64 0]) (t := 264)
  obtain ⟨Z, hZ⟩ : ∃ Z, w.heap.size = Z := ⟨_, rfl⟩
  simp only [World.size_alloc] at s1
  rw [hZ] at s1
  have s2 : Sat W0 _ H (wkL ⟨Z + 1 + 1, 0, none⟩ ⟨b, 0, none⟩ ⟨[], 0, 0, false, .slice none 0 0, empH, OwnS.nil 3⟩ ++ (ramL ⟨b, 0, none⟩ (r, l) ++ (cellsH ⟨Z + 1, 0, none⟩ [.slice none 0 0, .int .u64 0, .int .u64 0] :: cellsH ⟨Z, 0, none⟩ [.int .i64 N, .int .u64 d, .int .u64 a', .int .u64 u] :: F))) := (Sat.walker s1.emp).wk
  clear s fr s1
  have hrb := r.hmem
  have z0 := s2.cel Z 0 0 rfl
  have z1 := s2.cel Z 0 1 rfl
  simp only [Nat.zero_add] at z0 z1
  replace k := aside k
  go_enter Try.func124, Try.ntmps124
  go_wp2_with fail
  refine c_along s2 d head N true hd hN hh (by simp) rfl ?_
  intro e a segs hE wB d1 d2 d3 d4 g l1 e1 he1 hx hseg s4
  obtain rfl : e1 = e := by rw [he1]; simp [outE]
  replace hE : alongP r.mem r.size d N N head [] = (e1, a, segs) := hE
  have hlen := aside (alongP_len hE)
  have h1 : ExtR (tblP d N) (lgs l) (lgs l1) := hx.1
  have h2 : g.ta = 0 := hx.2.1
  have h3 : g.tl = 0 := hx.2.2
  have s5 := s4.alloc (c := [.int .u64 d1, .int .u32 d2, .int .u16 d3, .int .u16 d4]) (t := 266)
  obtain ⟨Y, hY⟩ : ∃ Y, wB.heap.size = Y := ⟨_, rfl⟩
  rw [hY] at s5
  clear s2 s4 z0 z1 hx
  replace h1 := aside h1
  replace he1 := aside he1
  by_cases he : e1 = 0
  · subst he
    obtain ⟨hsg, hwr, rfl, rfl, rfl, rfl⟩ := hseg rfl
    have b1 := ofB_bdn hrb a 8
    have b2 := ofB_bdn hrb (a + 8) 4
    have b3 := ofB_bdn hrb (a + 12) 2
    obtain ⟨hp1, hp2, hp3⟩ : (0 ≤ w1 r.mem a ∧ w1 r.mem a ≤ 18446744073709551615) ∧ (0 ≤ w2 r.mem a ∧ w2 r.mem a ≤ 4294967295) ∧ (0 ≤ w3 r.mem a ∧ w3 r.mem a ≤ 65535) := by
      simp only [w1, w2, w3]
      omega
    have E1 := fun h4 => walkP_plain (ind := ind) hE h4
    have E2 := fun h4 h1 => walkP_nested (ind := ind) hE h4 h1
    have E3 := fun h4 h1 hb => walkP_bad (ind := ind) hE h4 h1 hb
    have E4 := fun h4 h1 hb hh => walkP_place (ind := ind) hE h4 h1 hb hh
    have E5 := fun h4 h1 hb hh => fun e a segs hE2 => walkP_in (e' := e) (a' := a) (segs' := segs) (ind := ind) hE h4 h1 hb hh hE2
    obtain ⟨x1, hx1⟩ : ∃ y, w1 r.mem a = y := ⟨_, rfl⟩
    obtain ⟨x2, hx2⟩ : ∃ y, w2 r.mem a = y := ⟨_, rfl⟩
    obtain ⟨x3, hx3⟩ : ∃ y, w3 r.mem a = y := ⟨_, rfl⟩
    obtain ⟨x4, hx4⟩ : ∃ y, w4 r.mem a = y := ⟨_, rfl⟩
    rw [hx1] at hp1 E4 E5 s5
    rw [hx2] at hp2 E3 E4 E5 s5
    rw [hx3] at hp3 E1 E2 E3 E4 E5 s5
    rw [hx4] at s5
    rw [hx1, hx2, hx3, hx4]
    have B4 : (bits BinOp.and IntKind.u16 x3 4 == 0) = !flg x3 4 := by
      have h9 : (bits BinOp.and IntKind.u16 x3 4 != 0) = flg x3 4 := flg_bits hp3 2 (by omega)
      rw [← h9]; simp [bne]
    have B1 : (bits BinOp.and IntKind.u16 x3 1 != 0) = flg x3 1 := flg_bits hp3 0 (by omega)
    have y0 := s5.cel Y 0 0 rfl
    have y1 := s5.cel Y 0 1 rfl
    have y2 := s5.cel Y 0 2 rfl
    have y3 := s5.cel Y 0 3 rfl
    simp only [Nat.zero_add] at y0 y1 y2 y3
    clear hseg b1 b2 b3
    replace E1 := aside E1
    replace E2 := aside E2
    replace E3 := aside E3
    replace E4 := aside E4
    replace E5 := aside E5
    replace hx1 := aside hx1
    replace hx2 := aside hx2
    replace hx3 := aside hx3
    replace hx4 := aside hx4
    replace hE := aside hE
    replace hsg := aside hsg
    cases c4 : flg x3 4 with
    | false =>
      rw [c4] at B4
      have hW := aside (E1.out c4)
      clear E1 E2 E3 E4 E5 B1
      obtain ⟨segs1, ta1, tl1, wr1, v1, hh1, own1⟩ := g
      simp only at h2 h3 hsg hwr
      obtain rfl : segs1 = segs := hsg.out
      subst h2 h3
      obtain ⟨A1, n1, c1, hv1⟩ : ∃ A n c, v1 = .slice A n c := by obtain ⟨A, c, _, h, _⟩ := own1; exact ⟨A, _, c, h⟩
      subst hv1
      simp only [wkL, List.cons_append, List.nil_append] at s5
      have x1 := s5.cel (Z+1+1) 0 1 rfl
      have x2 := s5.cel (Z+1+1) 0 2 rfl
      have x3 := s5.cel (Z+1+1) 0 3 rfl
      simp only [Nat.zero_add] at x1 x2 x3
      have K := fun w' => k.out 0 _ 0 0 hW.out w' (.slice A1 n1 c1) hh1 l1 own1 (h1.out.mono fun _ h => .inl h)
      replace K := aside K
      clear k hE hsg own1
      have s8q0 := s5.cel (Z+1) 0 0 rfl
      have s8t0 := (s5.pc (Z+1) 0).s0 (.slice A1 n1 c1)
      have s8q1 := s8t0.c 1 rfl
      have s8t1 := s8t0.s 1 (by simp) (.int .u64 0)
      have s8q2 := s8t1.c 2 rfl
      have s8 := s8t1.s 2 (by simp) (.int .u64 0)
      simp only [List.set_cons_succ, List.set_cons_zero, Nat.zero_add] at s8 s8q0 s8q1 s8q2
      have f0 := s8.c 0 rfl
      have f1 := s8.c 1 rfl
      have f2 := s8.c 2 rfl
      simp only [Nat.zero_add] at f0 f1 f2
      go_wp2
      refine bodyPost_ret (by simp [results, Try.results124, go_sem, f0.1, f1.1, f2.1]; try rfl) rfl ?_
      exact K.out _ s8.wk
    | true =>
      rw [c4] at B4
      cases ind with
      | false =>
        have hW := aside (E2.out c4 (.inl rfl))
        clear E1 E2 E3 E4 E5 B1
        have K := fun w' => k.out 153 [] 0 0 hW.out w' (.slice none 0 0) empH l1 (OwnS.nil 3) (h1.out.mono fun _ h => .inl h)
        replace K := aside K
        clear k
        have s8q0 := s5.cel (Z+1) 0 0 rfl
        have s8t0 := (s5.pc (Z+1) 0).s0 (.slice none 0 0)
        have s8q1 := s8t0.c 1 rfl
        have s8t1 := s8t0.s 1 (by simp) (.int .u64 0)
        have s8q2 := s8t1.c 2 rfl
        have s8 := s8t1.s 2 (by simp) (.int .u64 0)
        simp only [List.set_cons_succ, List.set_cons_zero, Nat.zero_add] at s8 s8q0 s8q1 s8q2
        have f0 := s8.c 0 rfl
        have f1 := s8.c 1 rfl
        have f2 := s8.c 2 rfl
        simp only [Nat.zero_add] at f0 f1 f2
        go_wp2
        refine bodyPost_ret (by simp [results, Try.results124, go_sem, f0.1, f1.1, f2.1]; try rfl) rfl ?_
        exact K.out _ s8.emp.wk
      | true =>
        cases c1 : flg x3 1 with
        | true =>
          rw [c1] at B1
          have hW := aside (E2.out c4 (.inr c1))
          clear E1 E2 E3 E4 E5
          have K := fun w' => k.out 153 [] 0 0 hW.out w' (.slice none 0 0) empH l1 (OwnS.nil 3) (h1.out.mono fun _ h => .inl h)
          replace K := aside K
          clear k
          have s8q0 := s5.cel (Z+1) 0 0 rfl
          have s8t0 := (s5.pc (Z+1) 0).s0 (.slice none 0 0)
          have s8q1 := s8t0.c 1 rfl
          have s8t1 := s8t0.s 1 (by simp) (.int .u64 0)
          have s8q2 := s8t1.c 2 rfl
          have s8 := s8t1.s 2 (by simp) (.int .u64 0)
          simp only [List.set_cons_succ, List.set_cons_zero, Nat.zero_add] at s8 s8q0 s8q1 s8q2
          have f0 := s8.c 0 rfl
          have f1 := s8.c 1 rfl
          have f2 := s8.c 2 rfl
          simp only [Nat.zero_add] at f0 f1 f2
          go_wp2
          refine bodyPost_ret (by simp [results, Try.results124, go_sem, f0.1, f1.1, f2.1]; try rfl) rfl ?_
          exact K.out _ s8.emp.wk
        | false =>
          rw [c1] at B1
          have cn : ¬ (true = false ∨ flg x3 1 = true) := by rw [c1]; decide
          have F3 := fun hb => E3.out c4 cn hb
          have F4 := fun hb hh => E4.out c4 cn hb hh
          have F5 := fun hb hh => E5.out c4 cn hb hh
          replace F3 := aside F3
          replace F4 := aside F4
          replace F5 := aside F5
          have hgl := aside (show g.segs.length ≤ 1000 by rw [hsg.out]; have := hlen.out; simp only [List.length_nil] at this; omega)
          have hgw := aside (show g.wr = lastW g.segs by rw [hsg.out]; exact hwr)
          have s6 : Sat W0 _ H (wkL ⟨Z + 1 + 1, 0, none⟩ ⟨b, 0, none⟩ g ++ (ramL ⟨b, 0, none⟩ (r, l1) ++ (cellsH ⟨Y, 0, none⟩ [.int .u64 x1, .int .u32 x2, .int .u16 x3, .int .u16 x4] :: cellsH ⟨Z + 1, 0, none⟩ [.slice none 0 0, .int .u64 0, .int .u64 0] :: cellsH ⟨Z, 0, none⟩ [.int .i64 N, .int .u64 d, .int .u64 a', .int .u64 u] :: F))) := s5.wk
          clear E1 E2 E3 E4 E5 s5 cn hwr h2 h3
          go_wp2_with fail
          refine c_table s6 x1 x2 x3 x4 hp1 hp2 hgl.out hgw.out ?_ ?_ ?_
          · intro hb w7 g7 s7
            have hW := aside (F3.out hb)
            clear F3 F4 F5 s6
            have K := fun w' => k.out 154 [] 0 0 hW.out w' (.slice none 0 0) empH l1 (OwnS.nil 3) (h1.out.mono fun _ h => .inl h)
            replace K := aside K
            clear k
            have s8q0 := s7.cel (Z+1) 0 0 rfl
            have s8t0 := (s7.pc (Z+1) 0).s0 (.slice none 0 0)
            have s8q1 := s8t0.c 1 rfl
            have s8t1 := s8t0.s 1 (by simp) (.int .u64 0)
            have s8q2 := s8t1.c 2 rfl
            have s8 := s8t1.s 2 (by simp) (.int .u64 0)
            simp only [List.set_cons_succ, List.set_cons_zero, Nat.zero_add] at s8 s8q0 s8q1 s8q2
            have f0 := s8.c 0 rfl
            have f1 := s8.c 1 rfl
            have f2 := s8.c 2 rfl
            simp only [Nat.zero_add] at f0 f1 f2
            go_wp2
            refine bodyPost_ret (by simp [results, Try.results124, go_sem, f0.1, f1.1, f2.1]; try rfl) rfl ?_
            exact K.out _ s8.emp.wk
          · intro hb hh w7 g7 s7
            have hW := aside (F4.out hb hh)
            clear F3 F4 F5 s6
            have K := fun w' => k.out 21 [] 0 0 hW.out w' (.slice none 0 0) empH l1 (OwnS.nil 3) (h1.out.mono fun _ h => .inl h)
            replace K := aside K
            clear k
            have s8q0 := s7.cel (Z+1) 0 0 rfl
            have s8t0 := (s7.pc (Z+1) 0).s0 (.slice none 0 0)
            have s8q1 := s8t0.c 1 rfl
            have s8t1 := s8t0.s 1 (by simp) (.int .u64 0)
            have s8q2 := s8t1.c 2 rfl
            have s8 := s8t1.s 2 (by simp) (.int .u64 0)
            simp only [List.set_cons_succ, List.set_cons_zero, Nat.zero_add] at s8 s8q0 s8q1 s8q2
            have f0 := s8.c 0 rfl
            have f1 := s8.c 1 rfl
            have f2 := s8.c 2 rfl
            simp only [Nat.zero_add] at f0 f1 f2
            go_wp2
            refine bodyPost_ret (by simp [results, Try.results124, go_sem, f0.1, f1.1, f2.1]; try rfl) rfl ?_
            exact K.out _ s8.emp.wk
          · intro hb hh e a7 segs7 hE7 w7 g7 l7 e7 he7 hx7 hta htl hs7 s7
            have hW := F5.out hb hh e a7 segs7 (by rw [← hsg.out]; exact hE7)
            rw [← he7] at hW
            have hX7 : ExtR (rdP e7 x1 x2 d N) (lgs l) (lgs l7) := (h1.out.mono fun _ h => .inl h).trans (hx7.mono fun _ h => .inr fun _ => h)
            have hX8 : e7 ≠ 0 → ExtR (rdP e7 0 0 d N) (lgs l) (lgs l7) := fun hn => hX7.mono fun _ h => h.imp id fun _ h0 => absurd h0 hn
            clear F3 F4 F5 s6 hx7 hE7 he7
            by_cases h7 : e7 = 0
            · subst h7
              rw [if_neg (by decide)] at hW
              obtain rfl := hs7 rfl
              obtain ⟨segs1, ta1, tl1, wr1, v1, hh1, own1⟩ := g7
              simp only at hta htl hW hs7
              subst hta htl
              obtain ⟨A1, n1, c1, hv1⟩ : ∃ A n c, v1 = .slice A n c := by obtain ⟨A, c, _, h, _⟩ := own1; exact ⟨A, _, c, h⟩
              subst hv1
              simp only [wkL, List.cons_append, List.nil_append] at s7
              have x1 := s7.cel (Z+1+1) 0 1 rfl
              have x2 := s7.cel (Z+1+1) 0 2 rfl
              have x3 := s7.cel (Z+1+1) 0 3 rfl
              simp only [Nat.zero_add] at x1 x2 x3
              have K := fun w' => k.out 0 _ ta1 tl1 hW w' (.slice A1 n1 c1) hh1 l7 own1 hX7
              replace K := aside K
              replace hW := aside hW
              replace hX7 := aside hX7
              clear k hE hsg own1 hX8 hs7 hgl hgw
              have s8q0 := s7.cel (Z+1) 0 0 rfl
              have s8t0 := (s7.pc (Z+1) 0).s0 (.slice A1 n1 c1)
              have s8q1 := s8t0.c 1 rfl
              have s8t1 := s8t0.s 1 (by simp) (.int .u64 ta1)
              have s8q2 := s8t1.c 2 rfl
              have s8 := s8t1.s 2 (by simp) (.int .u64 tl1)
              simp only [List.set_cons_succ, List.set_cons_zero, Nat.zero_add] at s8 s8q0 s8q1 s8q2
              have f0 := s8.c 0 rfl
              have f1 := s8.c 1 rfl
              have f2 := s8.c 2 rfl
              simp only [Nat.zero_add] at f0 f1 f2
              go_wp2
              refine bodyPost_ret (by simp [results, Try.results124, go_sem, f0.1, f1.1, f2.1]; try rfl) rfl ?_
              exact K.out _ s8.wk
            · rw [if_pos h7] at hW
              have hX9 := aside (hX8 h7)
              replace hW := aside hW
              clear hX8 hX7 hs7
              have K := fun w' => k.out e7 [] 0 0 hW.out w' (.slice none 0 0) empH l7 (OwnS.nil 3) hX9.out
              replace K := aside K
              clear k
              have s8q0 := s7.cel (Z+1) 0 0 rfl
              have s8t0 := (s7.pc (Z+1) 0).s0 (.slice none 0 0)
              have s8q1 := s8t0.c 1 rfl
              have s8t1 := s8t0.s 1 (by simp) (.int .u64 0)
              have s8q2 := s8t1.c 2 rfl
              have s8 := s8t1.s 2 (by simp) (.int .u64 0)
              simp only [List.set_cons_succ, List.set_cons_zero, Nat.zero_add] at s8 s8q0 s8q1 s8q2
              have f0 := s8.c 0 rfl
              have f1 := s8.c 1 rfl
              have f2 := s8.c 2 rfl
              simp only [Nat.zero_add] at f0 f1 f2
              go_wp2
              refine bodyPost_ret (by simp [results, Try.results124, go_sem, f0.1, f1.1, f2.1]; try rfl) rfl ?_
              exact K.out _ s8.emp.wk
  · have hW := aside (walkP_err (ind := ind) hE he)
    clear hseg
    have K := fun w' => k.out e1 [] 0 0 hW.out w' (.slice none 0 0) empH l1 (OwnS.nil 3) (h1.out.mono fun _ h => .inl h)
    replace K := aside K
    clear k
    have s8q0 := s5.cel (Z+1) 0 0 rfl
    have s8t0 := (s5.pc (Z+1) 0).s0 (.slice none 0 0)
    have s8q1 := s8t0.c 1 rfl
    have s8t1 := s8t0.s 1 (by simp) (.int .u64 0)
    have s8q2 := s8t1.c 2 rfl
    have s8 := s8t1.s 2 (by simp) (.int .u64 0)
    simp only [List.set_cons_succ, List.set_cons_zero, Nat.zero_add] at s8 s8q0 s8q1 s8q2
    have f0 := s8.c 0 rfl
    have f1 := s8.c 1 rfl
    have f2 := s8.c 2 rfl
    simp only [Nat.zero_add] at f0 f1 f2
    go_wp2
    refine bodyPost_ret (by simp [results, Try.results124, go_sem, f0.1, f1.1, f2.1]; try rfl) rfl ?_
    exact K.out _ s8.emp.wk
end
end Go.Proofs.Ytiibiamobkhlbaa

namespace Go.Proofs.Ytiibiamobkhlbaa
open Go.RowKit
set_option linter.unusedVariables false

structure AskM where
  lay : LayM
  head : Int
  ind : Bool
  hhead : -9223372036854775808 ≤ head ∧ head ≤ 9223372036854775807
def AskM.vals (o : AskM) : List Value := o.lay.vals ++ [.int .i64 o.head] ++ [.bool o.ind]
def askE : El AskM := fun _ o vs => vs = o.vals
theorem alongP_lies {m : Int → Int} {size t sz : Int} {Q : SegM → Prop} (hQ : ∀ a f, hasP size (w1 m a) (w2 m a) → Q (w1 m a, w2 m a, f)) : ∀ {n : Nat} {i : Int} {segs : List SegM} {e a : Int} {out : List SegM}, alongP m size t sz n i segs = (e, a, out) →
    (∀ x ∈ segs, Q x) → ∀ x ∈ out, Q x
  | 0, i, segs, e, a, out, h, hs => by
    simp only [alongP] at h
    split at h <;> (cases h; exact hs)
  | n + 1, i, segs, e, a, out, h, hs => by
    have hs2 : hasP size (w1 m (atD t i)) (w2 m (atD t i)) → ∀ x ∈ segs ++ [(w1 m (atD t i), w2 m (atD t i), flg (w3 m (atD t i)) 2)], Q x := by
      intro h0 x hx
      rcases List.mem_append.1 hx with h | h
      · exact hs x h
      · rw [List.mem_singleton.1 h]; exact hQ _ _ h0
    rw [alongP] at h
    repeat' split at h
    all_goals first | (cases h; first | exact hs | exact hs2 (by simp_all)) | exact alongP_lies hQ h (hs2 (by simp_all))

/-- what is to be read stands ahead of what is to be written -/
def ordP (l : List SegM) : Prop := ∀ i x y, l[i]? = some x → l[i + 1]? = some y → ¬ (x.2.2 = true ∧ y.2.2 = false)
theorem ordP_snoc {l : List SegM} {x : SegM} (h : ordP l) (hx : ¬ (lastW l = true ∧ x.2.2 = false)) : ordP (l ++ [x]) := by
  intro i y z hy hz
  rcases Nat.lt_or_ge (i + 1) l.length with h1 | h1
  · rw [List.getElem?_append_left (by omega)] at hy
    rw [List.getElem?_append_left h1] at hz
    exact h i y z hy hz
  · have hlt := (List.getElem?_eq_some_iff.1 hz).1
    simp only [List.length_append, List.length_cons, List.length_nil] at hlt
    have e : i + 1 = l.length := by omega
    rw [List.getElem?_append_left (by omega)] at hy
    rw [e, List.getElem?_append_right (Nat.le_refl _), Nat.sub_self] at hz
    obtain rfl : x = z := by simpa using hz
    have : lastW l = y.2.2 := by
      unfold lastW
      rw [List.getLast?_eq_getElem?, show l.length - 1 = i by omega, hy]
      rfl
    rw [this] at hx
    exact hx
theorem alongP_ord {m : Int → Int} {size t sz : Int} : ∀ {n : Nat} {i : Int} {segs : List SegM} {e a : Int} {out : List SegM}, alongP m size t sz n i segs = (e, a, out) → ordP segs → ordP out
  | 0, i, segs, e, a, out, h, hs => by
    simp only [alongP] at h
    split at h <;> (cases h; exact hs)
  | n + 1, i, segs, e, a, out, h, hs => by
    have hs2 : ¬ (lastW segs = true ∧ flg (w3 m (atD t i)) 2 = false) → ordP (segs ++ [(w1 m (atD t i), w2 m (atD t i), flg (w3 m (atD t i)) 2)]) := fun h0 => ordP_snoc hs h0
    rw [alongP] at h
    repeat' split at h
    all_goals first | (cases h; first | exact hs | exact hs2 (by assumption)) | exact alongP_ord h (hs2 (by assumption))

theorem alongP_len4 {m : Int → Int} {size t sz : Int} : ∀ {n : Nat} {i : Int} {segs : List SegM} {e a : Int} {out : List SegM}, alongP m size t sz n i segs = (e, a, out) → e = 0 → flg (w3 m a) 4 = true → out.length + 1 ≤ segs.length + n
  | 0, i, segs, e, a, out, h, he, h4 => by
    simp only [alongP] at h
    split at h <;> (cases h; exact absurd he (by decide))
  | n + 1, i, segs, e, a, out, h, he, h4 => by
    rw [alongP] at h
    repeat' split at h
    all_goals first
      | (have := alongP_len4 h he h4; simp only [List.length_append, List.length_cons, List.length_nil] at this; omega)
      | (cases h; first | exact absurd he (by decide) | omega | simp_all)

theorem walkP_lies {m : Int → Int} {size d head : Int} {n : Nat} {ind : Bool} {e ta tl : Int} {segs : List SegM} (hm : ∀ a, 0 ≤ m a ∧ m a ≤ 255) (h : walkP m size d n head ind = (e, segs, ta, tl)) (hn : n ≤ 256) :
    (∀ x ∈ segs, hasP size x.1 x.2.1 ∧ 0 ≤ x.2.1) ∧ ordP segs ∧ segs.length ≤ 511 ∧ (e ≠ 0 → segs = [] ∧ ta = 0 ∧ tl = 0) ∧ (tl = 0 ∨ ind = true ∧ hasP size ta tl ∧ 0 ≤ tl ∧ tl % 16 = 0) := by
  have hw2 : ∀ a, 0 ≤ w2 m a := fun a => (ofB_bdn hm (a + 8) 4).1
  have hQ : ∀ a (f : Bool), hasP size (w1 m a) (w2 m a) → (fun x : SegM => hasP size x.1 x.2.1 ∧ 0 ≤ x.2.1) (w1 m a, w2 m a, f) := fun a f h => ⟨h, hw2 a⟩
  have h0 : ordP [] := fun i x y hx => by simp at hx
  unfold walkP at h
  rcases hE : alongP m size d n n head [] with ⟨e1, a1, s1⟩
  simp only [hE] at h
  have l1 := alongP_lies (Q := fun x => hasP size x.1 x.2.1 ∧ 0 ≤ x.2.1) hQ hE (by simp)
  have o1 := alongP_ord hE h0
  have n1 := alongP_len hE
  simp only [List.length_nil] at n1
  have hz : ∀ x ∈ ([] : List SegM), hasP size x.1 x.2.1 ∧ 0 ≤ x.2.1 := by simp
  split at h
  · obtain ⟨rfl, rfl, rfl, rfl⟩ : e1 = e ∧ [] = segs ∧ 0 = ta ∧ 0 = tl := by simpa using h
    exact ⟨hz, h0, by simp, fun _ => ⟨rfl, rfl, rfl⟩, .inl rfl⟩
  rename_i he0
  replace he0 := Classical.not_not.1 he0
  split at h
  · obtain ⟨rfl, rfl, rfl, rfl⟩ : 0 = e ∧ s1 = segs ∧ 0 = ta ∧ 0 = tl := by simpa using h
    exact ⟨l1, o1, by omega, fun h => absurd rfl h, .inl rfl⟩
  split at h
  · obtain ⟨rfl, rfl, rfl, rfl⟩ : 153 = e ∧ [] = segs ∧ 0 = ta ∧ 0 = tl := by simpa using h
    exact ⟨hz, h0, by simp, fun _ => ⟨rfl, rfl, rfl⟩, .inl rfl⟩
  rename_i h4 hc
  split at h
  · obtain ⟨rfl, rfl, rfl, rfl⟩ : 154 = e ∧ [] = segs ∧ 0 = ta ∧ 0 = tl := by simpa using h
    exact ⟨hz, h0, by simp, fun _ => ⟨rfl, rfl, rfl⟩, .inl rfl⟩
  rename_i hb
  split at h
  · obtain ⟨rfl, rfl, rfl, rfl⟩ : 21 = e ∧ [] = segs ∧ 0 = ta ∧ 0 = tl := by simpa using h
    exact ⟨hz, h0, by simp, fun _ => ⟨rfl, rfl, rfl⟩, .inl rfl⟩
  rename_i hh
  rcases hE2 : alongP m size (w1 m a1) (w2 m a1 / 16) (w2 m a1 / 16).toNat 0 s1 with ⟨e2, a2, s2⟩
  simp only [hE2] at h
  have l2 := alongP_lies (Q := fun x => hasP size x.1 x.2.1 ∧ 0 ≤ x.2.1) hQ hE2 l1
  have o2 := alongP_ord hE2 o1
  have n2 := alongP_len hE2
  split at h
  · rename_i h7
    obtain ⟨rfl, rfl, rfl, rfl⟩ : outE false e2 (flg (w3 m a2) 4) = e ∧ [] = segs ∧ 0 = ta ∧ 0 = tl := by simpa using h
    exact ⟨hz, h0, by simp, fun _ => ⟨rfl, rfl, rfl⟩, .inl rfl⟩
  · obtain ⟨rfl, rfl, rfl, rfl⟩ : 0 = e ∧ s2 = segs ∧ w1 m a1 = ta ∧ w2 m a1 = tl := by simpa using h
    refine ⟨l2, o2, ?_, fun h => absurd rfl h, .inr ⟨?_, Classical.not_not.1 hh, hw2 a1, ?_⟩⟩
    · have := alongP_len4 hE he0 (by simpa using h4)
      simp only [List.length_nil] at this
      unfold badT at hb; omega
    · cases ind
      · exact absurd (.inl rfl) hc
      · rfl
    · unfold badT at hb; omega
end Go.Proofs.Ytiibiamobkhlbaa

namespace Go.Proofs.Ytiibiamobkhlbaa
open Go.RowKit
set_option linter.unusedVariables false
set_option linter.unusedSimpArgs false

/-- the memory once bytes have been written through segments -/
def scP (frm n : Int) : List SegM → Int → List Int → (Int → Int) → Int → Int
  | [], _, _, m => m
  | x :: l, beg, ds, m =>
    if x.2.2 = true then
      scP frm n l (beg + x.2.1) (ds.drop (pieceP x beg frm n).2.toNat) (putB m (pieceP x beg frm n).1 (ds.take (pieceP x beg frm n).2.toNat))
    else scP frm n l beg ds m
/-- how many bytes lie ahead of a number -/
def dnP (frm n beg : Int) : Int := max 0 (min (frm + n) beg - frm)
theorem dnP_step {x : SegM} {frm n beg : Int} (hf : 0 ≤ frm) (hn : 0 ≤ n) (hl : 0 ≤ x.2.1) : dnP frm n (beg + x.2.1) = dnP frm n beg + (pieceP x beg frm n).2 ∧ 0 ≤ (pieceP x beg frm n).2 := by
  unfold dnP pieceP
  split <;> simp only <;> omega
theorem dnP_bd {frm n beg : Int} (hn : 0 ≤ n) : 0 ≤ dnP frm n beg ∧ dnP frm n beg ≤ n := by unfold dnP; omega
theorem pieceP_in {x : SegM} {frm n beg : Int} (h : 0 < (pieceP x beg frm n).2) : x.1 ≤ (pieceP x beg frm n).1 ∧ (pieceP x beg frm n).1 + (pieceP x beg frm n).2 ≤ x.1 + x.2.1 := by
  unfold pieceP at h ⊢
  split at h
  · simp at h
  · rename_i h1
    rw [if_neg h1]
    simp only
    omega
theorem scP_in {frm n : Int} : ∀ {l : List SegM} {beg : Int} {ds : List Int} {m : Int → Int} {y : Int}, (∀ x ∈ l, 0 ≤ x.2.1) → 0 ≤ frm → 0 ≤ n → scP frm n l beg ds m y ≠ m y → ∃ x ∈ l, x.2.2 = true ∧ x.1 ≤ y ∧ y < x.1 + x.2.1
  | [], beg, ds, m, y, hl, hf, hn, h => absurd rfl h
  | x :: l, beg, ds, m, y, hl, hf, hn, h => by
    rw [scP] at h
    have hl2 : ∀ x ∈ l, 0 ≤ x.2.1 := fun z hz => hl z (List.mem_cons_of_mem _ hz)
    by_cases hx : x.2.2 = true
    · rw [if_pos hx] at h
      by_cases hp : putB m (pieceP x beg frm n).1 (ds.take (pieceP x beg frm n).2.toNat) y = m y
      · rw [← hp] at h
        obtain ⟨z, hz, h1⟩ := scP_in hl2 hf hn h
        exact ⟨z, List.mem_cons_of_mem _ hz, h1⟩
      · refine ⟨x, List.mem_cons_self .., hx, ?_⟩
        have h2 : ¬ (y < (pieceP x beg frm n).1 ∨ (pieceP x beg frm n).1 + (ds.take (pieceP x beg frm n).2.toNat).length ≤ y) := fun h => hp (putB_out _ _ _ _ h)
        have h3 : (ds.take (pieceP x beg frm n).2.toNat).length ≤ (pieceP x beg frm n).2.toNat := by rw [List.length_take]; omega
        have h4 := pieceP_in (x := x) (frm := frm) (n := n) (beg := beg) (by omega)
        omega
    · rw [if_neg hx] at h
      obtain ⟨z, hz, h1⟩ := scP_in hl2 hf hn h
      exact ⟨z, List.mem_cons_of_mem _ hz, h1⟩

section
variable {R : Ending → World → Prop} {W0 w : World} {H : Hp} {A F : List Hp}

set_option maxRecDepth 100000 in
set_option maxHeartbeats 4000000 in
theorem c_scatter (s : Sat W0 w H A) {b : Nat} {r : RamG} {l : Option LogG} [fr : FrK (κ := Addr) (ρ := fun _ => RamG × Option LogG) ramL ⟨b, 0, none⟩ A (r, l) F] {B D : Option Addr} {n c dn dc : Nat} {hp dp : Hp} {segs : List SegM} {ds : List Int} (rd : Rd segE 3 hp (.slice B n c) segs) (rdd : Rd u8E 1 dp (.slice D dn dc) ds)
    (hk : ∀ w', Sat W0 w' H F → Holds w' hp ∧ Holds w' dp) (hb : segs.length ≤ 511 ∧ ∀ x ∈ segs, hasP r.size x.1 x.2.1 ∧ 0 ≤ x.2.1) (ta tl frm : Int) (hf : 0 ≤ frm ∧ frm ≤ 18446744073709551615)
    (kb : ¬ (frm ≤ wsum segs ∧ (ds.length : Int) ≤ wsum segs - frm) → ∀ w', Sat W0 w' H (ramL ⟨b, 0, none⟩ (r, l) ++ F) → R (.returned (.bool false)) w')
    (k : frm ≤ wsum segs ∧ (ds.length : Int) ≤ wsum segs - frm → ∀ w' r' l', r'.mem = scP frm ds.length segs 0 ds r.mem → r'.size = r.size → LogQ noP (inSeg true segs) (lgs l) (lgs l') → Sat W0 w' H (ramL ⟨b, 0, none⟩ (r', l') ++ F) → R (.returned (.bool true)) w') :
    Calls Try.prog 78 #[.agg #[.slice B n c, .int .u64 ta, .int .u64 tl], .pointer (some ⟨b, 0, none⟩), .int .u64 frm, .slice D dn dc] w R := by
  have hrs := r.hsize
  have hB : segB segs := ⟨hb.1, fun x hx => by have := hb.2 x hx; unfold hasP at this; omega⟩
  have s1 := (s.front (mk := ramL) (k := ⟨b, 0, none⟩)).alloc (c := [.slice B n c, .int .u64 ta, .int .u64 tl]) (t := 50)
  obtain ⟨Z, hZ⟩ : ∃ Z, w.heap.size = Z := ⟨_, rfl⟩
  rw [hZ] at s1
  obtain ⟨hn0, hcap, hcap2, gg⟩ := rd.seg
  obtain ⟨hdn, hdc, hdc2, gd⟩ := rdd.u8
  obtain ⟨L, hL⟩ : ∃ L, segs.length = L := ⟨_, rfl⟩
  obtain ⟨N, hN⟩ : ∃ N, ds.length = N := ⟨_, rfl⟩
  obtain ⟨WS, hWS⟩ : ∃ y, wsum segs = y := ⟨_, rfl⟩
  have hWb : 0 ≤ WS ∧ WS ≤ 137170518016 := by have := hB.sums segs.length; rw [List.take_length, hWS] at this; omega
  have hN2 : (N : Int) ≤ 9223372036854775807 := by omega
  obtain rfl : n = L := by omega
  clear hn0
  obtain rfl : dn = N := by omega
  rw [hWS] at kb k
  have gds : ∀ p q, p + q ≤ dn → 0 < q → ∃ db dO, D = some ⟨db, dO, none⟩ := fun p q h1 h2 => by
    obtain ⟨db, dO, e, _⟩ := gd 0 (by omega)
    exact ⟨db, dO, e⟩
  rw [hN] at k kb
  replace hL := aside hL
  replace gg : Aside (∀ i (hi : i < n), ∃ b o, B = some ⟨b, o, none⟩ ∧ (∃ fr, hp (.cell b (o + i * 3)) = some (.val (.int .u64 (segs[i]'(by rw [hL.out]; exact hi)).1) fr)) ∧ (∃ fr, hp (.cell b (o + i * 3 + 1)) = some (.val (.int .u64 (segs[i]'(by rw [hL.out]; exact hi)).2.1) fr)) ∧ (∃ fr, hp (.cell b (o + i * 3 + 2)) = some (.val (.bool (segs[i]'(by rw [hL.out]; exact hi)).2.2) fr))) := aside fun i hi => gg i (by rw [hL.out]; exact hi)
  have hL5 : (n : Int) ≤ 511 := by have := hb.1; have := hL.out; omega
  clear s fr
  replace hk := aside hk
  replace gds := aside gds
  replace hN := aside hN
  replace hWS := aside hWS
  replace kb := aside kb
  replace k := aside k
  replace hdn := aside hdn
  replace hrs := aside hrs
  replace hB := aside hB
  replace hb := aside hb
  replace rd := aside rd
  replace rdd := aside rdd
  clear gd
  have y0 := s1.cel Z 0 0 rfl
  have y1 := s1.cel Z 0 1 rfl
  have y2 := s1.cel Z 0 2 rfl
  simp only [Nat.zero_add] at y0 y1 y2
  have hkz : ∀ (G : List Hp) w', Sat W0 w' H (G ++ F) → Holds w' hp := fun G w' t => (hk.out _ (Sat.tail t)).1
  have hkz1 : ∀ w', Sat W0 w' H (cellsH ⟨Z, 0, none⟩ [.slice B n c, .int .u64 ta, .int .u64 tl] :: (ramL ⟨b, 0, none⟩ (r, l) ++ F)) → Holds w' hp := fun w' t => hkz _ w' (Sat.tail1 t)
  replace hkz1 := aside hkz1
  clear hkz
  go_enter Try.func78, Try.ntmps78
  go_wp2_with fail
  refine c_sizes s1 rd.out hkz1.out hB.out ta tl ?_
  rw [hWS.out]
  obtain ⟨RS, hRS⟩ : ∃ y, rsum segs = y := ⟨_, rfl⟩
  rw [hRS]
  clear hRS
  intro w2 s2
  have y0 := s2.cel Z 0 0 rfl
  have y1 := s2.cel Z 0 1 rfl
  have y2 := s2.cel Z 0 2 rfl
  simp only [Nat.zero_add] at y0 y1 y2
  clear s1
  by_cases c1 : WS < frm
  · go_wp2
    exact kb.out (by omega) _ s2.tail1
  have e1 : IntKind.u64.wrap (WS - frm) = WS - frm := by rw [wrap_u64]; omega
  by_cases c2 : WS - frm < (dn : Int)
  · go_wp2
    exact kb.out (by omega) _ s2.tail1
  replace k := aside (k.out ⟨by omega, by omega⟩)
  clear kb
  obtain ⟨FIN, hFIN⟩ : ∃ FIN, scP frm dn segs 0 ds r.mem = FIN := ⟨_, rfl⟩
  rw [hFIN] at k
  go_wp2
  clear y0 y1 y2
  go_loopg [12, 13, 39] n (fun q v12 v13 v39 w' => ∃ (i p : Nat) (r' : RamG) (l' : Option LogG), q + i = n ∧ v12 = .int .u64 (wsum (segs.take i)) ∧ v13 = .int .u64 p ∧ v39 = .int .i64 i ∧ Aside ((p : Int) = dnP frm dn (wsum (segs.take i))) ∧ Aside (scP frm dn (segs.drop i) (wsum (segs.take i)) (ds.drop p) r'.mem = FIN) ∧ Aside (r'.size = r.size ∧ LogQ noP (inSeg true segs) (lgs l) (lgs l')) ∧ Sat W0 w' H (cellsH ⟨Z, 0, none⟩ [.slice B n c, .int .u64 ta, .int .u64 tl] :: (ramL ⟨b, 0, none⟩ (r', l') ++ F)))
  case atStart => exact ⟨0, 0, r, l, rfl, rfl, rfl, rfl, aside (by rw [List.take_zero]; unfold dnP; simp only [wsum]; omega), aside hFIN, aside ⟨rfl, LogQ.refl _ _ _⟩, s2⟩
  clear s2 hFIN
  case round =>
    obtain ⟨i, p, r', l', hq, rfl, rfl, rfl, hp1, hFIN, hr', t⟩ := hrel
    have y0 := t.cel Z 0 0 rfl
    have y1 := t.cel Z 0 1 rfl
    have y2 := t.cel Z 0 2 rfl
    simp only [Nat.zero_add] at y0 y1 y2
    have hs := aside (hB.out.sums i)
    by_cases hi : i < n
    · have hs2 := aside (hB.out.sums (i + 1))
      have hw1 := aside (wsum_one (l := segs) (i := i) (by rw [hL.out]; exact hi))
      have hdr : segs.drop i = (segs[i]'(by rw [hL.out]; exact hi)) :: segs.drop (i + 1) := List.drop_eq_getElem_cons (by rw [hL.out]; exact hi)
      have hseg := aside (hb.out.2 _ (List.getElem_mem (by rw [hL.out]; exact hi : i < segs.length)))
      have hmem := aside (List.getElem_mem (by rw [hL.out]; exact hi : i < segs.length))
      obtain ⟨b', o', rfl, d0, d1, d2⟩ := gg.out i hi
      have H1 := (hk.out _ t.tail1.tail).1
      have q0 := H1.cell d0
      have q1 := H1.cell d1
      have q2 := H1.cell d2
      have i1 : (0 : Int) ≤ i ∧ (i : Int) < n := by omega
      obtain ⟨⟨k1, k2, k3⟩, hk1⟩ : ∃ y, (segs[i]'(by rw [hL.out]; exact hi)) = y := ⟨_, rfl⟩
      rw [hk1] at q0 q1 q2 hw1 hdr hseg hmem
      rw [hdr] at hFIN
      simp only at q0 q1 q2 hw1 hseg
      obtain ⟨BG, hBG⟩ : ∃ y, wsum (segs.take i) = y := ⟨_, rfl⟩
      rw [hBG] at hw1 hs hp1 hFIN ⊢
      clear hBG hk1 d0 d1 d2 H1 hdr
      have s3 := t.alloc (c := [.int .u64 k1, .int .u64 k2, .bool k3]) (t := 81)
      obtain ⟨V, hV⟩ : ∃ V, wr.heap.size = V := ⟨_, rfl⟩
      rw [hV] at s3
      have m0 := s3.cel V 0 0 rfl
      have m1 := s3.cel V 0 1 rfl
      have m2 := s3.cel V 0 2 rfl
      simp only [Nat.zero_add] at m0 m1 m2
      have hk12 : 0 ≤ k2 ∧ k2 ≤ 268435456 ∧ 0 ≤ k1 ∧ k1 ≤ 1099511627776 := by have h1 := hseg.out; have h2 := hrs.out; unfold hasP at h1; omega
      have hBGb : 0 ≤ BG ∧ BG ≤ 1099511627776 := by have := hs.out; omega
      cases k3 with
      | false =>
        have hw2 := aside (show wsum (segs.take (i + 1)) = BG by rw [hw1.out]; simp)
        replace hFIN := aside (show scP frm dn (segs.drop (i + 1)) BG (ds.drop p) r'.mem = FIN by rw [← hFIN.out, scP]; simp)
        clear hs hs2 hw1 t
        go_wp2
        go_roundg (gk - 1)
        case measure => omega
        case rel => exact ⟨i + 1, p, r', l', by omega, by rw [hw2.out], rfl, by go_num, by rw [hw2.out]; exact hp1, by rw [hw2.out]; exact hFIN, hr', s3.wk⟩
      | true =>
        have hw2 := aside (show wsum (segs.take (i + 1)) = BG + k2 by rw [hw1.out]; simp)
        have e2 : IntKind.u64.wrap (BG + k2) = BG + k2 := by rw [wrap_u64]; omega
        obtain ⟨hst, hst0⟩ := dnP_step (x := (k1, k2, true)) (frm := frm) (n := dn) (beg := BG) (by omega) (by omega) hk12.1
        have hpin := pieceP_in (x := (k1, k2, true)) (frm := frm) (n := dn) (beg := BG)
        have hdb := dnP_bd (frm := frm) (n := dn) (beg := BG + k2) (by omega)
        simp only at hst hpin
        obtain ⟨P1, hP1⟩ : ∃ y, (pieceP (k1, k2, true) BG frm dn).1 = y := ⟨_, rfl⟩
        obtain ⟨q, hP2⟩ : ∃ y : Nat, (pieceP (k1, k2, true) BG frm dn).2 = y := ⟨(pieceP (k1, k2, true) BG frm dn).2.toNat, by omega⟩
        have hF2 : scP frm dn (segs.drop (i + 1)) (BG + k2) ((ds.drop p).drop q) (putB r'.mem P1 ((ds.drop p).take q)) = FIN := by
          rw [← hFIN.out, scP, if_pos rfl, hP1, hP2, Int.toNat_natCast]
        rw [hP1, hP2] at hpin
        rw [hP2] at hst
        have hpq : p + q ≤ dn := by have := hp1.out; omega
        obtain ⟨z, hz⟩ : ∃ z : Nat, p + q = z := ⟨_, rfl⟩
        have hpq1 := aside (show (z : Int) = dnP frm dn (BG + k2) by have := hp1.out; omega)
        have e3 : IntKind.u64.wrap ((p : Int) + q) = (z : Int) := by rw [wrap_u64]; omega
        have hhas := aside (show 0 < q → r'.has P1 q by
          intro h
          have h1 := hpin (by omega)
          have h2 := hseg.out
          have h3 := hr'.out.1
          unfold hasP at h2
          unfold RamG.has
          omega)
        have hinS := aside (show 0 < q → inSeg true segs P1 q from fun h => ⟨_, hmem.out, rfl, (hpin (by omega)).1, (hpin (by omega)).2⟩)
        have hP1b := aside (show 0 < q → 0 ≤ P1 ∧ P1 ≤ 18446744073709551615 by intro h; have h1 := hpin (by omega); omega)
        clear hs hs2 hw1 t hpin hst hdb hFIN
        replace hP1 := aside hP1
        replace hP2 := aside hP2
        replace hF2 := aside hF2
        replace hq := aside hq
        replace hz := aside hz
        replace hpq := aside hpq
        go_wp2_with fail
        refine c_chPiece s3 k1 k2 true BG frm dn hBGb (by omega) (by omega) ⟨hk12.1, hk12.2.1⟩ hk12.2.2 ?_
        rw [hP1.out, hP2.out]
        intro w4 s4
        have m0 := s4.cel V 0 0 rfl
        have m1 := s4.cel V 0 1 rfl
        have m2 := s4.cel V 0 2 rfl
        simp only [Nat.zero_add] at m0 m1 m2
        clear s3
        by_cases hq0 : q = 0
        · subst hq0
          obtain rfl : p = z := by have := hz.out; omega
          clear e3
          replace hF2 := aside (show scP frm dn (segs.drop (i + 1)) (BG + k2) (ds.drop p) r'.mem = FIN by have := hF2.out; simpa [putB_nil] using this)
          go_wp2
          go_roundg (gk - 1)
          case measure => have := hq.out; omega
          case rel => exact ⟨i + 1, p, r', l', by have := hq.out; omega, by rw [hw2.out], rfl, by go_num, by rw [hw2.out]; exact hpq1, by rw [hw2.out]; exact hF2, hr', s4.wk⟩
        · have hq1 : (0 : Int) < q := by omega
          obtain ⟨db, dO, rfl⟩ := gds.out p q hpq.out (by omega)
          have hzp : p ≤ z ∧ z ≤ dn := by have := hz.out; have := hpq.out; omega
          have rdc := aside (rdd.out.cut8 p z hzp.1 hzp.2)
          have hcp : ¬ (dc = p) := by have := hz.out; have := hpq.out; omega
          have hpd : (p : Int) ≤ (z : Int) ∧ (z : Int) ≤ (dc : Int) := by omega
          have hcut : (ds.take z).drop p = (ds.drop p).take q := by rw [List.drop_take, show z - p = q by have := hz.out; omega]
          have hln := aside (show ((ds.take z).drop p).length = q by rw [List.length_drop, List.length_take, show ds.length = dn from hN.out]; have := hz.out; have := hpq.out; omega)
          have hdd := aside (show ds.drop z = (ds.drop p).drop q by rw [List.drop_drop, hz.out])
          replace hcut := aside hcut
          clear hzp
          go_wp2_with fail
          refine c_ramWrite s4 P1 (hP1b.out (by omega)) rdc.out (fun w' t => (hk.out _ t.tail1.tail1).2) ?_ ?_
          · intro h
            exact absurd (by rw [hln.out]; exact hhas.out (by omega)) h
          · intro _ w5 r5 l5 hm5 hz5 hl5 s5
            have hF3 := aside (show scP frm dn (segs.drop (i + 1)) (BG + k2) (ds.drop z) r5.mem = FIN by rw [hm5, hcut.out, hdd.out]; exact hF2.out)
            have hr5 := aside (show r5.size = r.size ∧ LogQ noP (inSeg true segs) (lgs l) (lgs l5) from ⟨hz5.trans hr'.out.1, hr'.out.2.trans (LogQ.of (LogQ.addW _ (fun _ => by rw [hln.out]; exact hinS.out (by omega))) hl5)⟩)
            have m0 := s5.cel V 0 0 rfl
            have m1 := s5.cel V 0 1 rfl
            have m2 := s5.cel V 0 2 rfl
            simp only [Nat.zero_add] at m0 m1 m2
            clear s4 hm5 hz5 hl5 hln hdd hcut
            go_wp2
            go_roundg (gk - 1)
            case measure => have := hq.out; omega
            case rel => exact ⟨i + 1, z, r5, l5, by have := hq.out; omega, by rw [hw2.out], rfl, by go_num, by rw [hw2.out]; exact hpq1, by rw [hw2.out]; exact hF3, hr5, s5.wk⟩
    · obtain rfl : i = n := by omega
      have e1 : segs.drop i = [] := List.drop_eq_nil_of_le (by rw [hL.out]; exact Nat.le_refl _)
      rw [e1] at hFIN
      replace hFIN : Aside (r'.mem = FIN) := hFIN
      generalize wsum (segs.take i) = BG at *
      go_wp2
      exact k.out _ r' l' hFIN.out hr'.out.1 hr'.out.2 t.tail1
end
end Go.Proofs.Ytiibiamobkhlbaa

namespace Go.Proofs.Ytiibiamobkhlbaa
open Go.RowKit
set_option linter.unusedVariables false
set_option linter.unusedSimpArgs false

/-- the bytes that are gathered: of the pieces ahead of the first one to be written -/
def gaP (frm n : Int) : List SegM → Int → (Int → Int) → List Int
  | [], _, _ => []
  | x :: l, beg, m => if x.2.2 = true then [] else rdB m (pieceP x beg frm n).1 (pieceP x beg frm n).2.toNat ++ gaP frm n l (beg + x.2.1) m
theorem gaP_bd {frm n : Int} {m : Int → Int} (hm : ∀ a, 0 ≤ m a ∧ m a ≤ 255) : ∀ {l : List SegM} {beg : Int}, ∀ x ∈ gaP frm n l beg m, 0 ≤ x ∧ x ≤ 255
  | [], beg, x, hx => by simp [gaP] at hx
  | y :: l, beg, x, hx => by
    rw [gaP] at hx
    split at hx
    · simp at hx
    · rcases List.mem_append.1 hx with h | h
      · exact rdB_bd hm _ _ x h
      · exact gaP_bd hm x h

section
variable {R : Ending → World → Prop} {W0 w : World} {H : Hp} {A F : List Hp}

set_option maxRecDepth 100000 in
set_option maxHeartbeats 4000000 in
theorem c_gather (s : Sat W0 w H A) {b : Nat} {r : RamG} {l : Option LogG} [fr : FrK (κ := Addr) (ρ := fun _ => RamG × Option LogG) ramL ⟨b, 0, none⟩ A (r, l) F] {B : Option Addr} {n c : Nat} {hp : Hp} {segs : List SegM} (rd : Rd segE 3 hp (.slice B n c) segs)
    (hk : ∀ w', Sat W0 w' H F → Holds w' hp) (hb : segs.length ≤ 511 ∧ ∀ x ∈ segs, hasP r.size x.1 x.2.1 ∧ 0 ≤ x.2.1) (ta tl frm num : Int) (hf : 0 ≤ frm ∧ frm ≤ 18446744073709551615) (hnum : 0 ≤ num ∧ num ≤ 18446744073709551615)
    (kb : ¬ (frm ≤ rsum segs ∧ num ≤ rsum segs - frm) → ∀ w', Sat W0 w' H (ramL ⟨b, 0, none⟩ (r, l) ++ F) → R (.returned (.tuple #[.slice none 0 0, .bool false])) w')
    (k : frm ≤ rsum segs ∧ num ≤ rsum segs - frm → ∀ w' v h l', OwnS 1 v (gaP frm num segs 0 r.mem).length ((gaP frm num segs 0 r.mem).map (Value.int .u8)) h → LogQ (inSeg false segs) noP (lgs l) (lgs l') → Sat W0 w' H (h :: (ramL ⟨b, 0, none⟩ (r, l') ++ F)) → R (.returned (.tuple #[v, .bool true])) w') :
    Calls Try.prog 75 #[.agg #[.slice B n c, .int .u64 ta, .int .u64 tl], .pointer (some ⟨b, 0, none⟩), .int .u64 frm, .int .u64 num] w R := by
  have hrs := r.hsize
  have hrm := r.hmem
  have hB : segB segs := ⟨hb.1, fun x hx => by have := hb.2 x hx; unfold hasP at this; omega⟩
  have s1 := (s.front (mk := ramL) (k := ⟨b, 0, none⟩)).alloc (c := [.slice B n c, .int .u64 ta, .int .u64 tl]) (t := 50)
  obtain ⟨Z, hZ⟩ : ∃ Z, w.heap.size = Z := ⟨_, rfl⟩
  rw [hZ] at s1
  obtain ⟨hn0, hcap, hcap2, gg⟩ := rd.seg
  obtain ⟨L, hL⟩ : ∃ L, segs.length = L := ⟨_, rfl⟩
  obtain ⟨RS, hRS⟩ : ∃ y, rsum segs = y := ⟨_, rfl⟩
  have hRb : 0 ≤ RS ∧ RS ≤ 137170518016 := by have := hB.sums segs.length; rw [List.take_length, hRS] at this; omega
  obtain rfl : n = L := by omega
  clear hn0
  rw [hRS] at kb k
  replace hL := aside hL
  replace gg : Aside (∀ i (hi : i < n), ∃ b o, B = some ⟨b, o, none⟩ ∧ (∃ fr, hp (.cell b (o + i * 3)) = some (.val (.int .u64 (segs[i]'(by rw [hL.out]; exact hi)).1) fr)) ∧ (∃ fr, hp (.cell b (o + i * 3 + 1)) = some (.val (.int .u64 (segs[i]'(by rw [hL.out]; exact hi)).2.1) fr)) ∧ (∃ fr, hp (.cell b (o + i * 3 + 2)) = some (.val (.bool (segs[i]'(by rw [hL.out]; exact hi)).2.2) fr))) := aside fun i hi => gg i (by rw [hL.out]; exact hi)
  have hL5 : (n : Int) ≤ 511 := by have := hb.1; have := hL.out; omega
  clear s fr
  replace hk := aside hk
  replace hRS := aside hRS
  replace kb := aside kb
  replace k := aside k
  replace hrs := aside hrs
  replace hB := aside hB
  replace hb := aside hb
  replace rd := aside rd
  replace hrm := aside hrm
  have y0 := s1.cel Z 0 0 rfl
  have y1 := s1.cel Z 0 1 rfl
  have y2 := s1.cel Z 0 2 rfl
  simp only [Nat.zero_add] at y0 y1 y2
  have hkz : ∀ (G : List Hp) w', Sat W0 w' H (G ++ F) → Holds w' hp := fun G w' t => hk.out _ (Sat.tail t)
  have hkz1 := aside (show ∀ w', Sat W0 w' H (cellsH ⟨Z, 0, none⟩ [.slice B n c, .int .u64 ta, .int .u64 tl] :: (ramL ⟨b, 0, none⟩ (r, l) ++ F)) → Holds w' hp from fun w' t => hkz _ w' (Sat.tail1 t))
  replace hkz := aside hkz
  go_enter Try.func75, Try.ntmps75
  go_wp2_with fail
  refine c_sizes s1 rd.out hkz1.out hB.out ta tl ?_
  rw [hRS.out]
  obtain ⟨WS, hWS⟩ : ∃ y, wsum segs = y := ⟨_, rfl⟩
  rw [hWS]
  clear hWS
  intro w2 s2
  have y0 := s2.cel Z 0 0 rfl
  have y1 := s2.cel Z 0 1 rfl
  have y2 := s2.cel Z 0 2 rfl
  simp only [Nat.zero_add] at y0 y1 y2
  clear s1
  by_cases c1 : RS < frm
  · go_wp2
    exact kb.out (by omega) _ s2.tail1
  have e1 : IntKind.u64.wrap (RS - frm) = RS - frm := by rw [wrap_u64]; omega
  by_cases c2 : RS - frm < num
  · go_wp2
    exact kb.out (by omega) _ s2.tail1
  replace k := aside (k.out ⟨by omega, by omega⟩)
  clear kb
  obtain ⟨FIN, hFIN⟩ : ∃ FIN, gaP frm num segs 0 r.mem = FIN := ⟨_, rfl⟩
  rw [hFIN] at k
  go_wp2
  clear y0 y1 y2
  go_loopg [12, 13, 38] n (fun q v12 v13 v38 w' => ∃ (i : Nat) (xs : List Int) (h : Hp) (l' : Option LogG), q + i = n ∧ OwnS 1 v12 xs.length (xs.map (Value.int .u8)) h ∧ v13 = .int .u64 (rsum (segs.take i)) ∧ v38 = .int .i64 i ∧ Aside ((xs.length : Int) = dnP frm num (rsum (segs.take i))) ∧ Aside (xs ++ gaP frm num (segs.drop i) (rsum (segs.take i)) r.mem = FIN) ∧ Aside (LogQ (inSeg false segs) noP (lgs l) (lgs l')) ∧ Sat W0 w' H (h :: cellsH ⟨Z, 0, none⟩ [.slice B n c, .int .u64 ta, .int .u64 tl] :: (ramL ⟨b, 0, none⟩ (r, l') ++ F)))
  case atStart => exact ⟨0, [], _, l, rfl, OwnS.nil 1, rfl, rfl, aside (by rw [List.take_zero]; unfold dnP; simp only [rsum, List.length_nil]; omega), aside hFIN, aside (LogQ.refl _ _ _), s2.emp⟩
  clear s2 hFIN
  case round =>
    obtain ⟨i, xs, h, l', hq, own, rfl, rfl, hp1, hFIN, hr', t⟩ := hrel
    have y0 := t.cel Z 0 0 rfl
    have y1 := t.cel Z 0 1 rfl
    have y2 := t.cel Z 0 2 rfl
    simp only [Nat.zero_add] at y0 y1 y2
    have hs := aside (hB.out.sums i)
    by_cases hi : i < n
    · have hs2 := aside (hB.out.sums (i + 1))
      have hw1 := aside (rsum_one (l := segs) (i := i) (by rw [hL.out]; exact hi))
      have hdr : segs.drop i = (segs[i]'(by rw [hL.out]; exact hi)) :: segs.drop (i + 1) := List.drop_eq_getElem_cons (by rw [hL.out]; exact hi)
      have hseg := aside (hb.out.2 _ (List.getElem_mem (by rw [hL.out]; exact hi : i < segs.length)))
      have hmem := aside (List.getElem_mem (by rw [hL.out]; exact hi : i < segs.length))
      obtain ⟨b', o', rfl, d0, d1, d2⟩ := gg.out i hi
      have H1 := hkz.out _ _ (Sat.tail1 (Sat.tail1 t))
      have q0 := H1.cell d0
      have q1 := H1.cell d1
      have q2 := H1.cell d2
      have i1 : (0 : Int) ≤ i ∧ (i : Int) < n := by omega
      obtain ⟨⟨k1, k2, k3⟩, hk1⟩ : ∃ y, (segs[i]'(by rw [hL.out]; exact hi)) = y := ⟨_, rfl⟩
      rw [hk1] at q0 q1 q2 hw1 hdr hseg hmem
      rw [hdr] at hFIN
      simp only at q0 q1 q2 hw1 hseg
      obtain ⟨BG, hBG⟩ : ∃ y, rsum (segs.take i) = y := ⟨_, rfl⟩
      rw [hBG] at hw1 hs hp1 hFIN ⊢
      clear hBG hk1 d0 d1 d2 H1 hdr
      have s3 := t.alloc (c := [.int .u64 k1, .int .u64 k2, .bool k3]) (t := 81)
      obtain ⟨V, hV⟩ : ∃ V, wr.heap.size = V := ⟨_, rfl⟩
      rw [hV] at s3
      have m0 := s3.cel V 0 0 rfl
      have m1 := s3.cel V 0 1 rfl
      have m2 := s3.cel V 0 2 rfl
      simp only [Nat.zero_add] at m0 m1 m2
      have hk12 : 0 ≤ k2 ∧ k2 ≤ 268435456 ∧ 0 ≤ k1 ∧ k1 ≤ 1099511627776 := by have h1 := hseg.out; have h2 := hrs.out; unfold hasP at h1; omega
      have hBGb : 0 ≤ BG ∧ BG ≤ 1099511627776 := by have := hs.out; omega
      cases k3 with
      | true =>
        have hX : xs = FIN := by rw [← hFIN.out, gaP, if_pos rfl, List.append_nil]
        subst hX
        clear hs hs2 hw1 t hFIN hp1
        go_wp2
        exact k.out _ _ h l' own hr'.out s3.wk
      | false =>
        have hw2 := aside (show rsum (segs.take (i + 1)) = BG + k2 by rw [hw1.out]; simp)
        have e2 : IntKind.u64.wrap (BG + k2) = BG + k2 := by rw [wrap_u64]; omega
        obtain ⟨hst, hst0⟩ := dnP_step (x := (k1, k2, false)) (frm := frm) (n := num) (beg := BG) (by omega) (by omega) hk12.1
        have hpin := pieceP_in (x := (k1, k2, false)) (frm := frm) (n := num) (beg := BG)
        have hdb := dnP_bd (frm := frm) (n := num) (beg := BG + k2) (by omega)
        simp only at hst hpin
        obtain ⟨P1, hP1⟩ : ∃ y, (pieceP (k1, k2, false) BG frm num).1 = y := ⟨_, rfl⟩
        obtain ⟨q, hP2⟩ : ∃ y : Nat, (pieceP (k1, k2, false) BG frm num).2 = y := ⟨(pieceP (k1, k2, false) BG frm num).2.toNat, by omega⟩
        have hF2 : xs ++ (rdB r.mem P1 q ++ gaP frm num (segs.drop (i + 1)) (BG + k2) r.mem) = FIN := by
          rw [← hFIN.out, gaP, if_neg (by simp), hP1, hP2, Int.toNat_natCast]
        rw [hP1, hP2] at hpin
        rw [hP2] at hst
        have hpq1 := aside (show (xs.length : Int) + q = dnP frm num (BG + k2) by have := hp1.out; omega)
        have hbig := aside (show xs.length + q ≤ 140737488355328 by have := hpq1.out; omega)
        have hhas := aside (show 0 < q → r.has P1 q by
          intro h
          have h1 := hpin (by omega)
          have h2 := hseg.out
          unfold hasP at h2
          unfold RamG.has
          omega)
        have hinS := aside (show 0 < q → inSeg false segs P1 q from fun h => ⟨_, hmem.out, rfl, (hpin (by omega)).1, (hpin (by omega)).2⟩)
        have hP1b := aside (show 0 < q → 0 ≤ P1 ∧ P1 ≤ 18446744073709551615 by intro h; have h1 := hpin (by omega); omega)
        have hqb : (q : Int) ≤ 1099511627776 := by omega
        clear hs hs2 hw1 t hpin hst hdb hFIN
        replace hP1 := aside hP1
        replace hP2 := aside hP2
        replace hF2 := aside hF2
        replace hq := aside hq
        go_wp2_with fail
        refine c_chPiece s3 k1 k2 false BG frm num hBGb (by omega) (by omega) ⟨hk12.1, hk12.2.1⟩ hk12.2.2 ?_
        rw [hP1.out, hP2.out]
        intro w4 s4
        have m0 := s4.cel V 0 0 rfl
        have m1 := s4.cel V 0 1 rfl
        have m2 := s4.cel V 0 2 rfl
        simp only [Nat.zero_add] at m0 m1 m2
        clear s3
        by_cases hq0 : q = 0
        · subst hq0
          replace hF2 := aside (show xs ++ gaP frm num (segs.drop (i + 1)) (BG + k2) r.mem = FIN by have := hF2.out; simpa [rdB] using this)
          replace hpq1 := aside (show (xs.length : Int) = dnP frm num (BG + k2) by have := hpq1.out; omega)
          go_wp2
          go_roundg (gk - 1)
          case measure => have := hq.out; omega
          case rel => exact ⟨i + 1, xs, h, l', by have := hq.out; omega, own, by rw [hw2.out], by go_num, by rw [hw2.out]; exact hpq1, by rw [hw2.out]; exact hF2, hr', s4.wk⟩
        · have hq1 : (0 : Int) < q := by omega
          go_wp2_with fail
          refine c_ramRead s4 P1 q (hP1b.out (by omega)) (by omega) ?_ ?_
          · intro h
            exact absurd (hhas.out (by omega)) h
          · intro _ w5 v5 h5 l5 own5 hl5 s5
            rw [Int.toNat_natCast] at own5
            have hln := aside (rdB_len r.mem P1 q)
            have hbd := rdB_bd hrm.out P1 q
            obtain ⟨DS, hDS⟩ : ∃ y, rdB r.mem P1 q = y := ⟨_, rfl⟩
            rw [hDS] at own5 hln hbd hF2
            have own5' : OwnS 1 v5 q (DS.map (Value.int .u8)) h5 := own5
            have rd5 := own5'.rd hbd
            obtain ⟨A5, c5, rfl, rd5⟩ := rd5.open_
            rw [hln.out] at own5 ⊢
            have hr5 := aside (show LogQ (inSeg false segs) noP (lgs l) (lgs l5) from hr'.out.trans (LogQ.of (LogQ.addR _ (fun _ => hinS.out (by omega))) hl5))
            have row5 := aside (own5.row0 (Sat.pull (h := h5) s5).head q)
            rw [List.take_of_length_le (by rw [List.length_map, hln.out]; exact Nat.le_refl _)] at row5
            have m0 := s5.cel V 0 0 rfl
            have m1 := s5.cel V 0 1 rfl
            have m2 := s5.cel V 0 2 rfl
            simp only [Nat.zero_add] at m0 m1 m2
            clear s4 hl5 hDS rd5 own5 own5' hbd
            go_wp2_with (at_builtin; refine append8 rfl (.tmp 63) (.tmp 64) rfl rfl own s5 rfl DS hln.out row5.out hbig.out ?_; intro A6 c6 w6 h6 own6 s6; have m3 := s6.cel V 0 1 rfl; simp only [Nat.zero_add] at m3)
            have own7 : OwnS 1 (.slice A6 (xs.length + q) c6) (xs ++ DS).length ((xs ++ DS).map (Value.int .u8)) h6 := by rw [List.length_append, hln.out, List.map_append]; exact own6
            have hp7 := aside (show ((xs ++ DS).length : Int) = dnP frm num (BG + k2) by rw [List.length_append, hln.out]; have := hpq1.out; omega)
            have hF7 := aside (show (xs ++ DS) ++ gaP frm num (segs.drop (i + 1)) (BG + k2) r.mem = FIN by rw [List.append_assoc]; exact hF2.out)
            go_roundg (gk - 1)
            case measure => have := hq.out; omega
            case rel => exact ⟨i + 1, xs ++ DS, h6, l5, by have := hq.out; omega, own7, by rw [hw2.out], by go_num, by rw [hw2.out]; exact hp7, by rw [hw2.out]; exact hF7, hr5, s6.wk⟩
    · obtain rfl : i = n := by omega
      have e1 : segs.drop i = [] := List.drop_eq_nil_of_le (by rw [hL.out]; exact Nat.le_refl _)
      rw [e1] at hFIN
      have hX : xs = FIN := by rw [← hFIN.out, gaP, List.append_nil]
      subst hX
      generalize rsum (segs.take i) = BG at *
      go_wp2
      exact k.out _ _ h l' own hr'.out t.wk
end
end Go.Proofs.Ytiibiamobkhlbaa
