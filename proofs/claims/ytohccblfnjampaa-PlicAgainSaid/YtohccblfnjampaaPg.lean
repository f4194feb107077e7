/-
  PLIC, the document's: First, Line, Take, Done, Lines.
-/
import Derived.Test.YtohccblfnjampaaPf
import Derived.Deep.QuietTactic
import Derived.BigQuiet
namespace Go.Proofs.Ytohccblfnjampaa
open Go.RowKit
set_option linter.unusedVariables false
set_option linter.unusedSimpArgs false

section
variable {R : Ending → World → Prop} {W0 w : World} {H : Hp} {A F : List Hp} {s : PlS}

set_option maxRecDepth 100000 in
set_option maxHeartbeats 4000000 in
theorem c_rpFirst (t : Sat W0 w H A) (c : Nat) (hc : c < 2) (k : ∀ w', Sat W0 w' H A → R (.returned (.int .i64 (s.best c))) w') :
    Calls Try.prog 127 #[.agg s.ref.toArray, .int .i64 c] w R := by
  have t1 := t.alloc (c := s.ref) (t := 104)
  obtain ⟨Z, hZ⟩ : ∃ Z, w.heap.size = Z := ⟨_, rfl⟩
  rw [hZ] at t1
  obtain ⟨L, hL⟩ : ∃ L, s.ref = L := ⟨_, rfl⟩
  obtain ⟨a, ha⟩ : ∃ a, s.waits &&& s.lets c = a := ⟨_, rfl⟩
  have hB : s.best c = fst a s.p 31 := by unfold PlS.best; rw [ha, fst_end]
  rw [hB] at k
  have hW : ∀ i, i < 32 → L[64 + i]? = some (.bool (s.waits.getLsbD i)) := fun i h => by rw [← hL]; exact s.rW h
  have hLL : ∀ i, i < 32 → L[128 + c * 32 + i]? = some (.bool ((s.lets c).getLsbD i)) := fun i h => by rw [← hL]; exact s.rL hc h
  have hP : ∀ i, i < 32 → L[i]? = some (.int .i64 (s.p i)) := fun i h => by rw [← hL]; exact s.rP h
  have hab : ∀ i, a.getLsbD i = (s.waits.getLsbD i && (s.lets c).getLsbD i) := fun i => by rw [← ha, BitVec.getLsbD_and]
  have hpb := s.p_bd
  obtain ⟨p, hp⟩ : ∃ p, s.p = p := ⟨_, rfl⟩
  rw [hp] at hP hpb k
  rw [hL] at t1 ⊢
  replace k := aside k
  clear hB
  replace hW := aside hW
  replace hLL := aside hLL
  replace hP := aside hP
  replace hpb := aside hpb
  replace hp := aside hp
  replace ha := aside ha
  replace hL := aside hL
  replace hab := aside hab
  go_enter Try.func127, Try.ntmps127
  go_wp2
  go_loopg [5, 6] 31 (fun q v5 v6 w' => ∃ n : Nat, q = n ∧ n ≤ 31 ∧ v6 = .int .i64 n ∧ v5 = .int .i64 (fst a p (31 - n)) ∧ Sat W0 w' H (cellsH ⟨Z, 0, none⟩ L :: A))
  case atStart => exact ⟨31, rfl, by omega, rfl, rfl, t1⟩
  clear t1 t
  case round =>
    obtain ⟨n, hq, hn1, rfl, rfl, t⟩ := hrel
    by_cases hn0 : 1 ≤ n
    · have hb := fst_le a p (31 - n) (by omega)
      have y1 := (t.c (64 + n) (hW.out n (by omega))).1
      have y2 := (t.c (128 + c * 32 + n) (hLL.out n (by omega))).1
      have y3 := (t.c n (hP.out n (by omega))).1
      have y4 := (t.c (fst a p (31 - n)) (hP.out _ (by omega))).1
      simp only [Nat.zero_add] at y1 y2 y3 y4
      have hp1 := hpb.out n
      have hp2 := hpb.out (fst a p (31 - n))
      have hab1 := hab.out n
      have hS : fst a p (31 - n + 1) = if a.getLsbD n = true ∧ 0 < p n ∧ (fst a p (31 - n) = 0 ∨ p (fst a p (31 - n)) ≤ p n) then n else fst a p (31 - n) := by
        show dwn a p (fst a p (31 - n)) (31 - (31 - n)) = _
        rw [show 31 - (31 - n) = n by omega]; rfl
      rw [hab1] at hS
      replace hS := aside hS
      have i1 : (0 : Int) ≤ n ∧ (n : Int) < 32 := by omega
      have i2 : (0 : Int) ≤ c ∧ (c : Int) < 2 := by omega
      have hn : ((n - 1 : Nat) : Int) = (n : Int) - 1 := by omega
      obtain ⟨B, hBB⟩ : ∃ B, fst a p (31 - n) = B := ⟨_, rfl⟩
      rw [hBB] at hb y4 hp2 hS ⊢
      have i3 : (0 : Int) ≤ B ∧ (B : Int) < 32 := by omega
      clear hab1
      replace hBB := aside hBB
      replace hq := aside hq
      replace hn := aside hn
      cases h5 : s.waits.getLsbD n with
      | false =>
        rw [h5] at y1 hS
        have hS2 := aside (show fst a p (31 - n + 1) = B by rw [hS.out, if_neg (by simp)])
        clear hS
        replace h5 := aside h5
        go_wp2
        go_quiet (fail)
        go_wp2
        go_roundg (gk - 1)
        case measure => have := hq.out; omega
        case rel => exact ⟨n - 1, by have := hq.out; omega, by omega, by rw [hn.out], by rw [show 31 - (n - 1) = 31 - n + 1 by omega, hS2.out], t.drewN _⟩
      | true =>
        rw [h5] at y1 hS
        cases h6 : (s.lets c).getLsbD n with
        | false =>
          rw [h6] at y2 hS
          have hS2 := aside (show fst a p (31 - n + 1) = B by rw [hS.out, if_neg (by simp)])
          clear hS
          replace h5 := aside h5
          replace h6 := aside h6
          go_wp2
          go_quiet (fail)
          go_wp2
          go_roundg (gk - 1)
          case measure => have := hq.out; omega
          case rel => exact ⟨n - 1, by have := hq.out; omega, by omega, by rw [hn.out], by rw [show 31 - (n - 1) = 31 - n + 1 by omega, hS2.out], t.drewN _⟩
        | true =>
          rw [h6] at y2 hS
          replace h5 := aside h5
          replace h6 := aside h6
          by_cases h1 : 0 < p n
          · have d1 : decide (0 < p n) = true := by simp [h1]
            by_cases h2 : B = 0
            · have hS2 := aside (show fst a p (31 - n + 1) = n by rw [hS.out, if_pos ⟨rfl, h1, .inl h2⟩])
              have d2 : ((B : Int) == 0) = true := by simp [h2]
              clear hS
              go_wp2
              go_quiet (fail)
              go_wp2
              go_roundg (gk - 1)
              case measure => have := hq.out; omega
              case rel => exact ⟨n - 1, by have := hq.out; omega, by omega, by rw [hn.out], by rw [show 31 - (n - 1) = 31 - n + 1 by omega, hS2.out], t.drewN _⟩
            · have d2 : ((B : Int) == 0) = false := by rw [beq_eq_false_iff_ne]; omega
              by_cases h3 : p B ≤ p n
              · have hS2 := aside (show fst a p (31 - n + 1) = n by rw [hS.out, if_pos ⟨rfl, h1, .inr h3⟩])
                have d3 : decide (p B ≤ p n) = true := by simp [h3]
                clear hS
                go_wp2
                go_quiet (fail)
                go_wp2
                go_roundg (gk - 1)
                case measure => have := hq.out; omega
                case rel => exact ⟨n - 1, by have := hq.out; omega, by omega, by rw [hn.out], by rw [show 31 - (n - 1) = 31 - n + 1 by omega, hS2.out], t.drewN _⟩
              · have hS2 := aside (show fst a p (31 - n + 1) = B by rw [hS.out, if_neg (by rintro ⟨_, _, h | h⟩ <;> omega)])
                have d3 : decide (p B ≤ p n) = false := by simp [h3]
                clear hS
                go_wp2
                go_quiet (fail)
                go_wp2
                go_roundg (gk - 1)
                case measure => have := hq.out; omega
                case rel => exact ⟨n - 1, by have := hq.out; omega, by omega, by rw [hn.out], by rw [show 31 - (n - 1) = 31 - n + 1 by omega, hS2.out], t.drewN _⟩
          · have hS2 := aside (show fst a p (31 - n + 1) = B by rw [hS.out, if_neg (fun h => h1 h.2.1)])
            have d1 : decide (0 < p n) = false := by simp [h1]
            clear hS
            go_wp2
            go_quiet (fail)
            go_wp2
            go_roundg (gk - 1)
            case measure => have := hq.out; omega
            case rel => exact ⟨n - 1, by have := hq.out; omega, by omega, by rw [hn.out], by rw [show 31 - (n - 1) = 31 - n + 1 by omega, hS2.out], t.drewN _⟩
    · obtain rfl : n = 0 := by omega
      go_wp2
      exact k.out _ t.tail1
end
end Go.Proofs.Ytohccblfnjampaa
