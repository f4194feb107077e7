/-
  RING: a descriptor of a table, the code's, a memory that may be watched; what a walk adds to a log.
-/
import Derived.Test.YtippipfogbgemaaVl
namespace Go.Proofs.Ytippipfogbgemaa
open Go.RowKit
set_option linter.unusedVariables false

/-- what is read is a row of places with the property P, sixteen bytes each -/
def ExtR (P : Int → Prop) : Option (Addr × List (Int × Int) × List (Int × Int)) → Option (Addr × List (Int × Int) × List (Int × Int)) → Prop
  | none, y => y = none
  | some x, y => ∃ e, y = some (x.1, x.2.1, x.2.2 ++ e) ∧ ∀ q ∈ e, q.2 = 16 ∧ P q.1
theorem ExtR.refl (P : Int → Prop) (x) : ExtR P x x := by
  cases x with
  | none => rfl
  | some x => exact ⟨[], by simp, by simp⟩
theorem ExtR.trans {P : Int → Prop} {x y z} (h : ExtR P x y) (g : ExtR P y z) : ExtR P x z := by
  cases x with
  | none => cases h; exact g
  | some x =>
    obtain ⟨e, rfl, he⟩ := h
    obtain ⟨e', rfl, he'⟩ := g
    refine ⟨e ++ e', by simp, fun q hq => ?_⟩
    rcases List.mem_append.1 hq with h | h
    · exact he q h
    · exact he' q h
theorem ExtR.mono {P Q : Int → Prop} {x y} (h : ExtR P x y) (hPQ : ∀ a, P a → Q a) : ExtR Q x y := by
  cases x with
  | none => exact h
  | some x =>
    obtain ⟨e, rfl, he⟩ := h
    exact ⟨e, rfl, fun q hq => ⟨(he q hq).1, hPQ _ (he q hq).2⟩⟩
theorem ExtR.add {P : Int → Prop} {x} {a : Int} (h : P a) : ExtR P x (addR a 16 x) := by
  cases x with
  | none => rfl
  | some x =>
    by_cases hc : 0 < (16 : Int) ∧ x.2.2.length < 4096
    · exact ⟨[(a, 16)], by simp [addR, hc], by simpa using h⟩
    · exact ⟨[], by simp only [addR, Option.map_some]; rw [if_neg hc]; simp, by simp⟩
theorem ExtR.none {P : Int → Prop} {l : Option LogG} (h : ExtR P (lgs .none) (lgs l)) : l = .none := by
  cases l with
  | none => rfl
  | some x => simp [lgs, ExtR] at h

section
variable {R : Ending → World → Prop} {W0 w : World} {H : Hp} {A F : List Hp} {v : Value} {b : Nat} {r : RamG} {l : Option LogG} {L : Nat}

set_option maxRecDepth 100000 in
set_option maxHeartbeats 4000000 in
theorem c_ringDescG (s : Sat W0 w H A) [fr : FrK (κ := Addr) (ρ := fun _ => RamG × Option LogG) ramL ⟨b, 0, none⟩ A (r, l) F] (t i at' : Int) (h0 : 0 ≤ t ∧ t ≤ 18446744073709551615) (hi : -9223372036854775808 ≤ i ∧ i ≤ 9223372036854775807) (hat : at' = IntKind.u64.wrap (t + IntKind.u64.wrap (16 * IntKind.u64.wrap i)))
    (kb : ¬ thereP r.size i at' → ∀ w', Sat W0 w' H (ramL ⟨b, 0, none⟩ (r, l) ++ F) → R (.returned (.tuple #[.agg #[.int .u64 0, .int .u32 0, .int .u16 0, .int .u16 0], .bool false])) w')
    (k : thereP r.size i at' → ∀ w' l', lgs l' = addR at' 16 (lgs l) → Sat W0 w' H (ramL ⟨b, 0, none⟩ (r, l') ++ F) → R (.returned (.tuple #[.agg #[.int .u64 (w1 r.mem at'), .int .u32 (w2 r.mem at'), .int .u16 (w3 r.mem at'), .int .u16 (w4 r.mem at')], .bool true])) w') :
    Calls Try.prog 114 #[.pointer (some ⟨b, 0, none⟩), .int .u64 t, .int .i64 i] w R := by
  have s1 := (s.front (mk := ramL) (k := ⟨b, 0, none⟩)).alloc (c := [.int .u64 0, .int .u32 0, .int .u16 0, .int .u16 0]) (t := 169)
  obtain ⟨Z, hZ⟩ : ∃ Z, w.heap.size = Z := ⟨_, rfl⟩
  rw [hZ] at s1
  have hbd : 0 ≤ at' ∧ at' ≤ 18446744073709551615 := by rw [hat, wrap_u64]; omega
  have hrb := r.hmem
  have hhas := has_iff r at' 16 (by omega)
  clear s fr
  by_cases hi2 : 0 ≤ i ∧ i ≤ 255
  · obtain ⟨ha, hb⟩ := hi2
    have hat2 : IntKind.u64.wrap (t + 16 * i) = at' := by
      rw [hat]
      have e1 : IntKind.u64.wrap i = i := by rw [wrap_u64]; omega
      have e2 : IntKind.u64.wrap (16 * i) = 16 * i := by rw [wrap_u64]; omega
      rw [e1, e2]
    by_cases hh : hasP r.size at' 16
    · have K := k ⟨ha, hb, hh⟩
      have b1 := ofB_bdn hrb at' 8
      have b2 := ofB_bdn hrb (at' + 8) 4
      have b3 := ofB_bdn hrb (at' + 12) 2
      have b4 := ofB_bdn hrb (at' + 14) 2
      simp only [w1, w2, w3, w4] at K
      obtain ⟨x1, hx1⟩ : ∃ y, ofB (rdB r.mem at' 8) = y := ⟨_, rfl⟩
      obtain ⟨x2, hx2⟩ : ∃ y, ofB (rdB r.mem (at' + 8) 4) = y := ⟨_, rfl⟩
      obtain ⟨x3, hx3⟩ : ∃ y, ofB (rdB r.mem (at' + 12) 2) = y := ⟨_, rfl⟩
      obtain ⟨x4, hx4⟩ : ∃ y, ofB (rdB r.mem (at' + 14) 2) = y := ⟨_, rfl⟩
      rw [hx1] at b1 K
      rw [hx2] at b2 K
      rw [hx3] at b3 K
      rw [hx4] at b4 K
      have e2 : IntKind.u32.wrap x2 = x2 := by rw [wrap_u32]; omega
      have e3 : IntKind.u16.wrap x3 = x3 := by rw [wrap_u16]; omega
      have e4 : IntKind.u16.wrap x4 = x4 := by rw [wrap_u16]; omega
      replace hx1 := aside hx1
      replace hx2 := aside hx2
      replace hx3 := aside hx3
      replace hx4 := aside hx4
      clear k kb b1 b2 b3 b4 hat
      go_enter Try.func114, Try.ntmps114
      go_wp2_with fail
      refine c_ramRead s1 at' 16 hbd (by omega) (fun h => absurd (hhas.2 hh) h) ?_
      intro _ w2 v2 h2 l2 own hl s2
      clear s1
      replace hl := aside hl
      obtain ⟨E, cap, rfl, rd2⟩ := (own.rd (rdB_bd hrb _ _)).open_
      rw [rdB_len] at rd2 ⊢
      obtain ⟨_, hcap, hcap2, g⟩ := rd2.u8
      obtain ⟨eb, eo, rfl, _⟩ := g 0 (by rw [rdB_len]; decide)
      have d1 := rd2.cut8 0 8 (by omega) (by decide)
      have d2 := rd2.cut8 8 12 (by omega) (by decide)
      have d3 := rd2.cut8 12 14 (by omega) (by decide)
      have d4 := rd2.cut8 14 16 (by omega) (by decide)
      rw [rdB_cut _ _ _ _ _ (by omega) (by decide)] at d1 d2 d3 d4
      simp only [Nat.sub_zero, Nat.add_zero] at d1 d2 d3 d4
      have m1 : ofB (rdB r.mem (at' + ((0 : Nat) : Int)) 8) = x1 := by rw [← hx1.out]; simp
      have m2 : ofB (rdB r.mem (at' + ((8 : Nat) : Int)) (12 - 8)) = x2 := hx2.out
      have m3 : ofB (rdB r.mem (at' + ((12 : Nat) : Int)) (14 - 12)) = x3 := hx3.out
      have m4 : ofB (rdB r.mem (at' + ((14 : Nat) : Int)) (16 - 14)) = x4 := hx4.out
      replace m1 := aside m1
      replace m2 := aside m2
      replace m3 := aside m3
      replace m4 := aside m4
      have q0 := s2.cel Z 0 0 rfl
      have s7a := (Sat.pull (h := cellsH ⟨Z, 0, none⟩ [.int .u64 0, .int .u32 0, .int .u16 0, .int .u16 0]) s2).s0 (.int .u64 x1)
      have q1 := s7a.c 1 rfl
      have s7b := s7a.s 1 (by simp) (.int .u32 x2)
      have q2 := s7b.c 2 rfl
      have s7c := s7b.s 2 (by simp) (.int .u16 x3)
      have q3 := s7c.c 3 rfl
      have s8 := s7c.s 3 (by simp) (.int .u16 x4)
      simp only [List.set_cons_succ, List.set_cons_zero, Nat.zero_add] at s8 q0 q1 q2 q3
      have hcap16 : 16 ≤ cap := by have : (16 : Int).toNat = 16 := rfl; omega
      have i8 : (8 : Int) ≤ cap := by omega
      have i12 : (12 : Int) ≤ cap := by omega
      have i14 : (14 : Int) ≤ cap := by omega
      have i16 : (16 : Int) ≤ cap := by omega
      have k8 : 8 ≤ cap := by omega
      have k12 : 12 ≤ cap := by omega
      have k14 : 14 ≤ cap := by omega
      have n0 : ¬ cap = 0 := by omega
      have n8 : ¬ cap = 8 := by omega
      have n12 : ¬ cap = 12 := by omega
      have n14 : ¬ cap = 14 := by omega
      change Sat W0 w2 H _ at s2
      rw [show (16 : Int).toNat = 16 from rfl]
      clear g own rd2 hcap hhas hh hbd hrb h0 hi hat2
      go_wp2
      go_region_held3 (fun w' => True) (trivial)
        (first
          | (go_at_call 82; have hs := z3; refine c_wordOf s2.drew.head d4 (by rw [rdB_len]; decide) ?_; rw [m4.out])
          | (go_at_call 82; have hs := z2; refine c_wordOf s2.drew.head d3 (by rw [rdB_len]; decide) ?_; rw [m3.out]; have z3 : True := trivial)
          | (go_at_call 82; have hs := z1; refine c_wordOf s2.drew.head d2 (by rw [rdB_len]; decide) ?_; rw [m2.out]; have z2 : True := trivial)
          | (go_at_call 82; refine c_wordOf s2.drew.head d1 (by rw [rdB_len]; decide) ?_; rw [m1.out]; have z1 : True := trivial))
      all_goals
        have s9 := s8.drew
        have f0 := s9.c0
        have f1 := s9.c 1 rfl
        have f2 := s9.c 2 rfl
        have f3 := s9.c 3 rfl
        simp only [Nat.zero_add] at f0 f1 f2 f3
        go_wp2
        refine bodyPost_ret (by simp [results, Try.results114, go_sem, f0.1, f1.1, f2.1, f3.1]; try rfl) rfl ?_
        exact K _ l2 hl.out (s9.wk)
    · have K := kb (fun h => absurd h.2.2 hh)
      have q0 := s1.cel Z 0 0 rfl
      have q1 := s1.cel Z 0 1 rfl
      have q2 := s1.cel Z 0 2 rfl
      have q3 := s1.cel Z 0 3 rfl
      have s8 := ((((Sat.pull (h := cellsH ⟨Z, 0, none⟩ [.int .u64 0, .int .u32 0, .int .u16 0, .int .u16 0]) s1).s0 (.int .u64 0)).s 1 (by simp) (.int .u32 0)).s 2 (by simp) (.int .u16 0)).s 3 (by simp) (.int .u16 0)
      have f0 := s1.cel Z 0 0 rfl
      have f1 := s1.cel Z 0 1 rfl
      have f2 := s1.cel Z 0 2 rfl
      have f3 := s1.cel Z 0 3 rfl
      simp only [List.set_cons_succ, List.set_cons_zero, Nat.zero_add] at s8 q0 q1 q2 q3 f0 f1 f2 f3
      have K := K _ s1.tail1
      clear k kb hat hrb s8
      go_enter Try.func114, Try.ntmps114
      go_wp2_with fail
      refine c_ramRead s1 at' 16 hbd (by omega) ?_ (fun h => absurd (hhas.1 h) hh)
      intro _
      go_wp2
      refine bodyPost_ret (by simp [results, Try.results114, go_sem, f0.1, f1.1, f2.1, f3.1]; try rfl) rfl ?_
      exact K
  · have K := kb (fun h => hi2 ⟨h.1, h.2.1⟩) _ s1.tail1
    have f0 := s1.cel Z 0 0 rfl
    have f1 := s1.cel Z 0 1 rfl
    have f2 := s1.cel Z 0 2 rfl
    have f3 := s1.cel Z 0 3 rfl
    simp only [Nat.zero_add] at f0 f1 f2 f3
    clear k kb hat
    by_cases hneg : i < 0
    · go_enter Try.func114, Try.ntmps114
      go_wp2
      refine bodyPost_ret (by simp [results, Try.results114, go_sem, f0.1, f1.1, f2.1, f3.1]; try rfl) rfl ?_
      exact K
    · have h5 : 256 ≤ i := by omega
      have h6 : 0 ≤ i := by omega
      clear hi2 hneg
      go_enter Try.func114, Try.ntmps114
      go_wp2
      refine bodyPost_ret (by simp [results, Try.results114, go_sem, f0.1, f1.1, f2.1, f3.1]; try rfl) rfl ?_
      exact K
end
end Go.Proofs.Ytippipfogbgemaa
