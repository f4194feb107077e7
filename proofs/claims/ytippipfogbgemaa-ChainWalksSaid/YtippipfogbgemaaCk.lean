/-
  CHAIN: two chains compared.
-/
import Derived.Test.YtippipfogbgemaaCj
import Derived.Test.YtippipfogbgemaaCg
import Derived.Laws.StructEq
namespace Go.Proofs.Ytippipfogbgemaa
open Go.RowKit
set_option linter.unusedVariables false
set_option linter.unusedSimpArgs false

section
variable {R : Ending → World → Prop} {W0 w : World} {H : Hp} {A F : List Hp}

set_option maxRecDepth 100000 in
set_option maxHeartbeats 4000000 in
theorem c_sameC (s : Sat W0 w H A) {B D : Option Addr} {n c m c2 : Nat} {segs : List SegM} {ta tl : Int} (hk : ∀ w', Sat W0 w' H A → ∃ h1 h2, Holds w' h1 ∧ Holds w' h2 ∧ Rd segE 3 h1 (.slice B n c) segs ∧ Rd segE 3 h2 (.slice D m c2) segs) (k : ∀ w', Sat W0 w' H A → R (.returned (.bool true)) w') :
    Calls Try.prog 59 #[.agg #[.slice B n c, .int .u64 ta, .int .u64 tl], .agg #[.slice D m c2, .int .u64 ta, .int .u64 tl]] w R := by
  have s1 := (s.alloc (c := [.slice B n c, .int .u64 ta, .int .u64 tl]) (t := 60)).alloc (c := [.slice D m c2, .int .u64 ta, .int .u64 tl]) (t := 60)
  obtain ⟨Z, hZ⟩ : ∃ Z, w.heap.size = Z := ⟨_, rfl⟩
  simp only [World.size_alloc] at s1
  rw [hZ] at s1
  have hnm : n = segs.length ∧ m = segs.length ∧ segs.length ≤ 9223372036854775807 := by
    obtain ⟨h1, h2, _, _, r1, r2⟩ := hk _ s
    obtain ⟨a1, a2, a3, _⟩ := r1.seg
    obtain ⟨b1, _⟩ := r2.seg
    omega
  obtain ⟨rfl, rfl, hsl⟩ := hnm
  have hat : ∀ i (hi : i < segs.length), ∃ b o b2 o2, B = some ⟨b, o, none⟩ ∧ D = some ⟨b2, o2, none⟩ := fun i hi => by
    obtain ⟨h1, h2, _, _, r1, r2⟩ := hk _ s
    obtain ⟨b, o, e, _⟩ := r1.seg.2.2.2 i hi
    obtain ⟨b2, o2, e2, _⟩ := r2.seg.2.2.2 i hi
    exact ⟨b, o, b2, o2, e, e2⟩
  replace k := aside k
  replace hat := aside hat
  replace hk := aside hk
  clear s
  have y0 := s1.cel Z 0 0 rfl
  have y1 := s1.cel Z 0 1 rfl
  have y2 := s1.cel Z 0 2 rfl
  simp only [Nat.zero_add] at y0 y1 y2
  have z0 := s1.cel (Z+1) 0 0 rfl
  have z1 := s1.cel (Z+1) 0 1 rfl
  have z2 := s1.cel (Z+1) 0 2 rfl
  simp only [Nat.zero_add] at z0 z1 z2
  go_enter Try.func59, Try.ntmps59
  go_wp2
  clear y0 y1 y2 z0 z1 z2
  go_loopg [5] segs.length (fun q v5 w' => ∃ i : Nat, q + i = segs.length ∧ v5 = .int .i64 i ∧ Sat W0 w' H (cellsH ⟨Z + 1, 0, none⟩ [.slice D segs.length c2, .int .u64 ta, .int .u64 tl] :: cellsH ⟨Z, 0, none⟩ [.slice B segs.length c, .int .u64 ta, .int .u64 tl] :: A))
  case atStart => exact ⟨0, rfl, rfl, s1⟩
  clear s1
  case round =>
    obtain ⟨i, hq, rfl, t⟩ := hrel
    have y0 := t.cel Z 0 0 rfl
    have y1 := t.cel Z 0 1 rfl
    have y2 := t.cel Z 0 2 rfl
    simp only [Nat.zero_add] at y0 y1 y2
    have z0 := t.cel (Z+1) 0 0 rfl
    have z1 := t.cel (Z+1) 0 1 rfl
    have z2 := t.cel (Z+1) 0 2 rfl
    simp only [Nat.zero_add] at z0 z1 z2
    by_cases hi : i < segs.length
    · obtain ⟨b, o, b2, o2, rfl, rfl⟩ := hat.out i hi
      obtain ⟨h1, h2, H1, H2, r1, r2⟩ := hk.out _ t.tail1.tail1
      obtain ⟨b', o', e, ⟨_, g1⟩, ⟨_, g2⟩, ⟨_, g3⟩⟩ := r1.seg.2.2.2 i hi
      obtain ⟨b2', o2', e2, ⟨_, g4⟩, ⟨_, g5⟩, ⟨_, g6⟩⟩ := r2.seg.2.2.2 i hi
      injection e with e
      injection e with e1 e3
      subst e1 e3
      injection e2 with e2
      injection e2 with e1 e3
      subst e1 e3
      have q1 := Holds.cell H1 ⟨_, g1⟩
      have q2 := Holds.cell H1 ⟨_, g2⟩
      have q3 := Holds.cell H1 ⟨_, g3⟩
      have q4 := Holds.cell H2 ⟨_, g4⟩
      have q5 := Holds.cell H2 ⟨_, g5⟩
      have q6 := Holds.cell H2 ⟨_, g6⟩
      generalize segs[i].1 = X1 at q1 q4
      generalize segs[i].2.1 = X2 at q2 q5
      generalize segs[i].2.2 = X3 at q3 q6
      have i1 : (0 : Int) ≤ i ∧ (i : Int) < segs.length := by omega
      clear g1 g2 g3 g4 g5 g6 H1 H2 r1 r2
      replace hq := aside hq
      go_wp2
      go_quiet (fail)
      go_wp2
      go_roundg (gk - 1)
      case measure => have := hq.out; omega
      case rel => exact ⟨i + 1, by have := hq.out; omega, by go_num, t.drewN _⟩
    · obtain rfl : i = segs.length := by omega
      go_wp2
      exact k.out _ t.tail1.tail1

set_option maxRecDepth 100000 in
set_option maxHeartbeats 4000000 in
theorem c_is (s : Sat W0 w H A) {B D : Option Addr} {n c m c2 : Nat} {segs : List SegM} {ta tl : Int} (hk : ∀ w', Sat W0 w' H A → ∃ h1 h2, Holds w' h1 ∧ Holds w' h2 ∧ Rd segE 3 h1 (.slice B n c) segs ∧ Rd segE 3 h2 (.slice D m c2) segs) (k : ∀ w', Sat W0 w' H A → R (.returned (.bool true)) w') :
    Calls Try.prog 29 #[.agg #[.slice B n c, .int .u64 ta, .int .u64 tl], .agg #[.slice D m c2, .int .u64 ta, .int .u64 tl]] w R := by
  have s1 := (s.alloc (c := [.slice B n c, .int .u64 ta, .int .u64 tl]) (t := 56)).alloc (c := [.slice D m c2, .int .u64 ta, .int .u64 tl]) (t := 60)
  obtain ⟨Z, hZ⟩ : ∃ Z, w.heap.size = Z := ⟨_, rfl⟩
  simp only [World.size_alloc] at s1
  rw [hZ] at s1
  replace k := aside k
  clear s
  have y0 := s1.cel Z 0 0 rfl
  have y1 := s1.cel Z 0 1 rfl
  have y2 := s1.cel Z 0 2 rfl
  simp only [Nat.zero_add] at y0 y1 y2
  have z0 := s1.cel (Z+1) 0 0 rfl
  have z1 := s1.cel (Z+1) 0 1 rfl
  have z2 := s1.cel (Z+1) 0 2 rfl
  simp only [Nat.zero_add] at z0 z1 z2
  go_enter Try.func29, Try.ntmps29
  go_wp2_with fail
  refine c_sameC s1 (fun w' t => hk w' t.tail1.tail1) ?_
  intro w2 s2
  clear y0 y1 y2 z0 z1 z2
  go_wp2
  exact k.out _ s2.tail1.tail1
end
end Go.Proofs.Ytippipfogbgemaa
