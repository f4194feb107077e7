/-
  RAM, the rest: what is written into the log; Store, Read, Write.
-/
import Derived.Test.YtippipfogbgemaaVo
namespace Go.Proofs.Ytippipfogbgemaa
open Go.RowKit
set_option linter.unusedVariables false

section
variable {R : Ending → World → Prop} {W0 w : World} {H : Hp} {A F : List Hp} {b o : Nat} {r : RamG} {l : Option LogG}

/-! ### the log -/
def lgs (l : Option LogG) : Option (Addr × List (Int × Int) × List (Int × Int)) := l.map fun x => (⟨x.pb, x.po, none⟩, x.ws, x.rs)
def addW (a n : Int) (l : Option (Addr × List (Int × Int) × List (Int × Int))) : Option (Addr × List (Int × Int) × List (Int × Int)) := l.map fun x => (x.1, if 0 < n ∧ x.2.1.length < 4096 then x.2.1 ++ [(a, n)] else x.2.1, x.2.2)
def addR (a n : Int) (l : Option (Addr × List (Int × Int) × List (Int × Int))) : Option (Addr × List (Int × Int) × List (Int × Int)) := l.map fun x => (x.1, x.2.1, if 0 < n ∧ x.2.2.length < 4096 then x.2.2 ++ [(a, n)] else x.2.2)

theorem info_span : ∃ i, Try.prog.info? 54 = some i ∧ i.zero = some (.agg #[.int .u64 0, .int .u64 0]) ∧ i.size = 2 ∧ i.bytes = 16 := by
  have h : (Try.prog.info? 54).map (fun i => (i.zero, i.size, i.bytes)) = some (some (.agg #[.int .u64 0, .int .u64 0]), 2, 16) := by kernel_rfl
  cases hi : Try.prog.info? 54 with
  | none => simp [hi] at h
  | some i => simp [hi] at h; exact ⟨i, rfl, h⟩

theorem row_span {w : World} {a n : Int} {t : TypeId} : RowR (w.alloc (.cells #[.int .u64 a, .int .u64 n] t)) (some ⟨w.heap.size, 0, none⟩) [.int .u64 a, .int .u64 n] := by
  intro _
  exact ⟨_, _, rfl, fun j u hu => by rw [Nat.zero_add]; simp [hu]⟩

set_option maxRecDepth 100000 in
set_option maxHeartbeats 4000000 in
theorem c_ramWrote (s : Sat W0 w H A) [fr : FrK (κ := Addr) (ρ := fun _ => RamG × Option LogG) ramL ⟨b, o, none⟩ A (r, l) F] (a n : Int) (h0 : 0 ≤ a ∧ a ≤ 18446744073709551615) (hn : 0 ≤ n ∧ n ≤ 18446744073709551615)
    (k : ∀ w' l', lgs l' = addW a n (lgs l) → Sat W0 w' H (ramL ⟨b, o, none⟩ (r, l') ++ F) → R (.returned (.tuple #[])) w') :
    Calls Try.prog 94 #[.pointer (some ⟨b, o, none⟩), .int .u64 a, .int .u64 n] w R := by
  have s1 := s.front (mk := ramL) (k := ⟨b, o, none⟩)
  have c2 := s1.c 2 rfl
  cases l with
  | none =>
    have K := k w none rfl s1
    clear k s fr s1
    simp only [Option.map_none] at c2
    go_enter Try.func94, Try.ntmps94
    go_wp2
    refine bodyPost_end (results_none rfl _ _ _) rfl ?_
    exact K
  | some lg =>
    simp only [Option.map_some] at c2
    by_cases hn0 : n = 0
    · subst hn0
      have K := k w (some lg) (by simp [lgs, addW]) s1
      clear k s fr s1
      go_enter Try.func94, Try.ntmps94
      go_wp2
      refine bodyPost_end (results_none rfl _ _ _) rfl ?_
      exact K
    · have hp : 0 < n := by omega
      obtain ⟨pb, po, wsl, wbk, ws, rsl, rbk, rs, hw, hr⟩ := lg
      obtain ⟨A1, cap1, sp1, rfl, hcap, hcap2, hl1, hl2, hl3, hl4⟩ := id hw
      simp only [ramL, logL, Option.map_some, List.cons_append, List.nil_append] at s1
      simp only at c2
      have d0 := s1.cel pb po 0 rfl
      rw [Nat.add_zero] at d0
      by_cases hf : ws.length < 4096
      · obtain ⟨i0, hi, hz, hs1, hb1⟩ := info_span
        have hf' : (ws.length : Int) < 4096 := by omega
        have x2 := (s1.alloc (c := [.int .u64 a, .int .u64 n]) (t := 54)).cel b o 2 rfl
        have x0 := (s1.alloc (c := [.int .u64 a, .int .u64 n]) (t := 54)).cel pb po 0 rfl
        rw [Nat.add_zero] at x0
        clear s fr
        go_enter Try.func94, Try.ntmps94
        go_wp2
        go_region_law ((refine step_append rfl (.tmp 36) (.tmp 40) 33 33 54 rfl i0 (.agg #[.int .u64 0, .int .u64 0]) 2 16 Try.underlying33 Try.underlying33 hi hz hs1 hb1 rfl (by decide) rfl hw (Sat.pull (h := wbk) (s1.drew.alloc)) rfl (us := [.int .u64 a, .int .u64 n]) rfl row_span (by simp [Value.oneCell']) (by omega) (by omega) ?_; intro A2 cap2 w2 h2 ho hs; have e2 := hs.cel b o 2 rfl; have e0 := hs.cel pb po 0 rfl; rw [Nat.add_zero] at e0))
        all_goals
          refine bodyPost_end (results_none rfl _ _ _) rfl ?_
          refine k _ (some ⟨pb, po, .slice A2 (ws.length + 1) cap2, h2, ws ++ [(a, n)], rsl, rbk, rs, by simpa [List.flatMap_append] using ho, hr⟩) (by simp [lgs, addW, hp, hf]) ?_
          simp only [ramL, logL, Option.map_some, List.cons_append, List.nil_append]
          exact ((Sat.pull (h := cellsH ⟨pb, po, none⟩ [.slice A1 ws.length cap1, rsl]) hs).s0 _).wk
      · have K := k w (some ⟨pb, po, .slice A1 ws.length cap1, wbk, ws, rsl, rbk, rs, hw, hr⟩) (by simp [lgs, addW, hf]) s1
        have hf' : ¬ ((ws.length : Int) < 4096) := by omega
        clear k s fr s1 hw hr
        go_enter Try.func94, Try.ntmps94
        go_wp2
        refine bodyPost_end (results_none rfl _ _ _) rfl ?_
        exact K
end

end Go.Proofs.Ytippipfogbgemaa
