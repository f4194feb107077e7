/-
  BLK: a request's beginning.
-/
import Derived.Test.YtippipfogbgemaaVj
import Derived.Test.YtippipfogbgemaaVk
namespace Go.Proofs.Ytippipfogbgemaa
open Go.RowKit
set_option linter.unusedVariables false
set_option linter.unusedSimpArgs false

section
variable {R : Ending → World → Prop} {W0 w : World} {H : Hp} {A F : List Hp}

set_option maxRecDepth 100000 in
set_option maxHeartbeats 4000000 in
theorem c_parse (s : Sat W0 w H A) {hp : Hp} {v : Value} {ds : List Int} (hh : ∀ w', Sat W0 w' H A → Holds w' hp) (rd : Rd u8E 1 hp v ds)
    (kb : ds.length < 16 → ∀ w', Sat W0 w' H A → R (.returned (.tuple #[.agg #[.int .u32 0, .int .u64 0], .bool false])) w')
    (k : 16 ≤ ds.length → ∀ w', Sat W0 w' H A → R (.returned (.tuple #[.agg #[.int .u32 (ofB (ds.take 4)), .int .u64 (ofB ((ds.take 16).drop 8))], .bool true])) w') :
    Calls Try.prog 35 #[v] w R := by
  obtain ⟨B, c, rfl, rd⟩ := rd.open_
  obtain ⟨hn, hcap, hcap2, g⟩ := rd.u8
  clear hn
  have hby := rd.bytes
  have s1 := s.alloc (c := [.int .u32 0, .int .u64 0]) (t := 79)
  obtain ⟨Z, hZ⟩ : ∃ Z, w.heap.size = Z := ⟨_, rfl⟩
  rw [hZ] at s1
  obtain ⟨N, hN⟩ : ∃ N, ds.length = N := ⟨_, rfl⟩
  rw [hN] at hcap rd kb k ⊢
  have hN2 : (N : Int) ≤ 9223372036854775807 := by omega
  by_cases h16 : N < 16
  · have K := aside (kb h16 _ s1.tail1)
    have hi : (N : Int) < 16 := by omega
    clear k kb g rd hby
    have f0 := s1.cel Z 0 0 rfl
    have f1 := s1.cel Z 0 1 rfl
    simp only [Nat.zero_add] at f0 f1
    go_enter Try.func35, Try.ntmps35
    go_wp2
    refine bodyPost_ret (by simp [results, Try.results35, go_sem, f0.1, f1.1]; try rfl) rfl ?_
    exact K.out
  · have hi : ¬ ((N : Int) < 16) := by omega
    replace k := aside (k (by omega))
    obtain ⟨b, o, hBe, hrest⟩ := g 0 (by omega)
    clear hrest
    subst hBe
    have d1 := rd.cut8 0 4 (by omega) (by omega)
    have d2 := rd.cut8 8 16 (by omega) (by omega)
    simp only [Nat.sub_zero, Nat.add_zero, List.drop_zero] at d1 d2
    have hl1 := aside (show (ds.take 4).length ≤ 8 by rw [List.length_take]; omega)
    have hl2 := aside (show ((ds.take 16).drop 8).length ≤ 8 by rw [List.length_drop, List.length_take]; omega)
    have b1 := ofB_bd (l := ds.take 4) (fun x hx => hby x (List.mem_of_mem_take hx))
    have b2 : ∀ x ∈ (ds.take 16).drop 8, 0 ≤ x ∧ x ≤ 255 := fun x hx => hby x (List.mem_of_mem_take (List.mem_of_mem_drop hx))
    rw [show (ds.take 4).length = 4 by rw [List.length_take]; omega] at b1
    obtain ⟨D1, hD1⟩ : ∃ y, ds.take 4 = y := ⟨_, rfl⟩
    obtain ⟨D2, hD2⟩ : ∃ y, (ds.take 16).drop 8 = y := ⟨_, rfl⟩
    rw [hD1] at d1 hl1 b1 k
    rw [hD2] at d2 hl2 k
    obtain ⟨x1, hx1⟩ : ∃ y, ofB D1 = y := ⟨_, rfl⟩
    obtain ⟨x2, hx2⟩ : ∃ y, ofB D2 = y := ⟨_, rfl⟩
    rw [hx1] at b1 k
    rw [hx2] at k
    have e1 : IntKind.u32.wrap x1 = x1 := by rw [wrap_u32]; omega
    have i4 : (4 : Int) ≤ c := by omega
    have i16 : (16 : Int) ≤ c := by omega
    have k4 : 4 ≤ c := by omega
    have k16 : 16 ≤ c := by omega
    have n0 : ¬ c = 0 := by omega
    have n8 : ¬ c = 8 := by omega
    clear kb g rd hby b1 b2 hD1 hD2 h16 hN
    replace hx1 := aside hx1
    replace hx2 := aside hx2
    replace d1 := aside d1
    replace d2 := aside d2
    replace hh := aside hh
    go_enter Try.func35, Try.ntmps35
    go_wp2
    generalize hW : w.alloc (Obj.cells #[.int .u32 0, .int .u64 0] 79) = W at s1 ⊢
    have s7a := s1.s0 (.int .u32 x1)
    have s8 := s7a.s 1 (by simp) (.int .u64 x2)
    have q0 := s1.c0
    have q1 := s7a.c 1 rfl
    simp only [List.set_cons_succ, List.set_cons_zero, Nat.zero_add] at s8 q0 q1
    have hW1 := aside (hh.out _ s1.tail1.drew)
    clear hZ hW
    go_region_held3 (fun w' => True) (trivial)
      (first
        | (go_at_call 82; have hs := z1; refine c_wordOf hW1.out d2.out hl2.out ?_; rw [hx2.out]; have z2 : True := trivial)
        | (go_at_call 82; refine c_wordOf hW1.out d1.out hl1.out ?_; rw [hx1.out]; have z1 : True := trivial))
    all_goals
      have s9 := s8.drew
      have f0 := s9.c0
      have f1 := s9.c 1 rfl
      simp only [Nat.zero_add] at f0 f1
      go_wp2
      refine bodyPost_ret (by simp [results, Try.results35, go_sem, f0.1, f1.1]; try rfl) rfl ?_
      exact k.out _ s9.tail1
end
end Go.Proofs.Ytippipfogbgemaa
