/-
  THE DOCUMENT'S MEMORY (vireoref02): sized, Load, Store.
-/
import Derived.Test.YtippipfogbgemaaVt
namespace Go.Proofs.Ytippipfogbgemaa
open Go.RowKit
set_option linter.unusedVariables false

section
variable {R : Ending → World → Prop} {W0 w : World} {H : Hp} {A : List Hp} {v : Value} {size : Int} {m : Int → Int} {L : Nat}

theorem RefM.le (r : RefM H v size m L) {L' : Nat} (h : L ≤ L') : RefM H v size m L' := by
  obtain ⟨sl, bs, h1, h2, h3, h4⟩ := r
  exact ⟨sl, bs, h1, h2, h3, by omega⟩

set_option maxRecDepth 100000 in
set_option maxHeartbeats 4000000 in
theorem c_refSized (n : Int) (k : R (.returned (.bool (decide (sizedP n)))) w) : Calls Try.prog 112 #[.int .i64 n] w R := by
  by_cases h1 : n = 1
  · subst h1
    go_enter Try.func112, Try.ntmps112
    go_wp2
    exact k
  by_cases h2 : n = 2
  · subst h2
    go_enter Try.func112, Try.ntmps112
    go_wp2
    exact k
  by_cases h4 : n = 4
  · subst h4
    go_enter Try.func112, Try.ntmps112
    go_wp2
    exact k
  have e1 : (n == 1) = false := by simp [h1]
  have e2 : (n == 2) = false := by simp [h2]
  have e4 : (n == 4) = false := by simp [h4]
  go_enter Try.func112, Try.ntmps112
  go_wp2
  exact ret_b k (by rw [Bool.eq_iff_iff]; simp [sizedP, h1, h2, h4])

set_option maxRecDepth 100000 in
set_option maxHeartbeats 4000000 in
theorem c_refLoad (s : Sat W0 w H A) (r : RefM H v size m L) (hL : L ≤ 1000000) (hz : 0 ≤ size ∧ size ≤ 268435456) (a n : Int) (h0 : 0 ≤ a ∧ a ≤ 18446744073709551615) (hn : -9223372036854775808 ≤ n ∧ n ≤ 9223372036854775807)
    (kb : ¬ (sizedP n ∧ hasP size a n) → ∀ w', Sat W0 w' H A → R (.returned (.tuple #[.int .u64 0, .bool false])) w')
    (k : (sizedP n ∧ hasP size a n) → ∀ w', Sat W0 w' H A → R (.returned (.tuple #[.int .u64 (ofB (rdB m a n.toNat)), .bool true])) w') : Calls Try.prog 69 #[v, .int .u64 a, .int .i64 n] w R := by
  have hbd := r.bd
  obtain ⟨sl, bs, rfl, rd, rfl, hl⟩ := id r
  have s1 : Sat W0 _ H (cellsH ⟨w.heap.size, 0, none⟩ [.int .u64 size, sl] :: A) := s.alloc (t := 28)
  have c0 := s1.c0
  have c1 := s1.c 1 rfl
  rw [Nat.zero_add] at c1
  by_cases hs : sizedP n
  · have hr : 0 ≤ n ∧ n ≤ 8 := by unfold sizedP at hs; omega
    have hnt : n.toNat ≤ 8 := by omega
    have hu : IntKind.u64.wrap n = n := by rw [wrap_u64]; omega
    by_cases hh : hasP size a n
    · have K := k ⟨hs, hh⟩
      go_enter Try.func69, Try.ntmps69
      go_wp2_with (go_at_call 112; refine c_refSized _ ?_; rw [decide_eq_true hs])
      refine c_refRead s1 r hL hz _ _ h0 (by omega) (fun h => absurd hh h) ?_
      intro _ w2 v2 h2 own s2
      have hrd := own.rd (rdB_bd hbd a n.toNat)
      clear kb k s1 c0 c1 own
      go_wp2_with (go_at_call 36; refine c_refOf s2.head hrd (by rw [rdB_len]; omega) ?_)
      exact s2.tail1.tail1
    · go_enter Try.func69, Try.ntmps69
      go_wp2_with (go_at_call 112; refine c_refSized _ ?_; rw [decide_eq_true hs])
      refine c_refRead s1 r hL hz _ _ h0 (by omega) ?_ (fun h => absurd h hh)
      intro _ w2 s2
      go_wp2_with (go_at_call 36; refine c_refOf (xs := []) s2.head Rd.nil (by simp) ?_)
      exact kb (fun h => hh h.2) _ s2.tail1
  · go_enter Try.func69, Try.ntmps69
    go_wp2_with (go_at_call 112; refine c_refSized _ ?_; rw [decide_eq_false hs])
    exact kb (fun h => hs h.1) _ s1.tail1

set_option maxRecDepth 100000 in
set_option maxHeartbeats 4000000 in
theorem c_refStore (s : Sat W0 w H A) (r : RefM H v size m L) (hL : L ≤ 900000) (hz : 0 ≤ size ∧ size ≤ 268435456) (a n x : Int) (h0 : 0 ≤ a ∧ a ≤ 18446744073709551615) (hn : -9223372036854775808 ≤ n ∧ n ≤ 9223372036854775807) (hx : 0 ≤ x ∧ x ≤ 18446744073709551615)
    (kb : ¬ (sizedP n ∧ hasP size a n) → ∀ w', Sat W0 w' H A → R (.returned (.tuple #[v, .bool false])) w')
    (k : (sizedP n ∧ hasP size a n) → ∀ w' H' v', (∀ l c, H l = some c → H' l = some c) → RefM H' v' size (putB m a (leb x n.toNat)) (L + 8) → Sat W0 w' H' A → R (.returned (.tuple #[v', .bool true])) w') : Calls Try.prog 67 #[v, .int .u64 a, .int .i64 n, .int .u64 x] w R := by
  obtain ⟨sl, bs, rfl, rd, rfl, hl⟩ := id r
  obtain ⟨B0, cb, rfl, rd⟩ := rd.open_
  have s1 : Sat W0 _ H (cellsH ⟨w.heap.size, 0, none⟩ [.int .u64 size, .slice B0 bs.length cb] :: A) := s.alloc (t := 28)
  have s2 := s1.alloc (c := [.int .u64 0, .slice none 0 0]) (t := 28)
  rw [World.size_alloc] at s2
  obtain ⟨X, hX⟩ : ∃ X, w.heap.size = X := ⟨_, rfl⟩
  rw [hX] at s2
  have c0 := s2.cel X 0 0 rfl
  have c1 := s2.cel X 0 1 rfl
  have e0 := s2.cel (X + 1) 0 0 rfl
  have e1 := s2.cel (X + 1) 0 1 rfl
  rw [Nat.zero_add] at c0 c1 e0 e1
  by_cases hs : sizedP n
  · have hr : 0 ≤ n ∧ n ≤ 8 := by unfold sizedP at hs; omega
    obtain ⟨n, rfl⟩ : ∃ m : Nat, n = m := ⟨n.toNat, by omega⟩
    rw [Int.toNat_natCast] at k
    have hn8 : n ≤ 8 := by omega
    go_enter Try.func67, Try.ntmps67
    go_wp2_with (go_at_call 112; refine c_refSized _ ?_; rw [decide_eq_true hs]; generalize World.alloc (World.alloc w _) _ = W at *)
    have hlb : ∀ y ∈ leb x n, 0 ≤ y ∧ y ≤ 255 := leb_bd _ _
    by_cases hh : hasP size a n
    · have K := k ⟨hs, hh⟩
      clear k kb
      go_region_held3 (fun w' => w'.cell? ⟨X, 0, none⟩ = some (.int .u64 size) ∧ w'.cell? ⟨X, 1, none⟩ = some (.slice B0 bs.length cb))
        (first
          | exact ⟨c0.1, c1.1⟩
          | exact ⟨(s3.cel X 0 0 rfl).1, (s3.cel X 0 1 rfl).1⟩
          | exact ⟨(s5.cel X 0 0 rfl).1, (s5.cel X 0 1 rfl).1⟩
          | exact ⟨(s4.cel X 0 0 rfl).1, (s4.cel X 0 1 rfl).1⟩)
        (first
          | (go_at_call 113; refine c_refBytesOf s2.drew x hx _ n rfl (by omega) ?_; intro w3 v3 h3 o3 s3)
          | (go_at_call 68; refine c_refWrite s3 r hz a h0 (o3.rd hlb) (by rw [leb_len]; omega) (fun _ s => s.head) (fun h => absurd (show hasP size a ((leb x n).length : Int) by rw [leb_len]; exact hh) h) ?_; intro _ w4 H4 v4 le4 r4 s4; obtain ⟨sl4, bs4, rfl, rd4, rest⟩ := id r4; obtain ⟨B4, cb4, rfl, rd4⟩ := rd4.open_; have y0 := s4.cel (X + 1) 0 0 rfl; have y1 := s4.cel (X + 1) 0 1 rfl; have y2 := (Sat.s0 (Sat.pull (h := cellsH ⟨X + 1, 0, none⟩ [.int .u64 0, .slice none 0 0]) s4) (.int .u64 size)).c 1 rfl; simp only [Nat.zero_add] at y0 y1 y2; have s5 := (Sat.s0 (Sat.pull (h := cellsH ⟨X + 1, 0, none⟩ [.int .u64 0, .slice none 0 0]) s4) (.int .u64 size)).s 1 (by simp) (.slice B4 bs4.length cb4); simp only [List.set_cons_succ, List.set_cons_zero, Nat.zero_add] at s5))
      all_goals
        have f0 := s5.c0
        have f1 := s5.c 1 rfl
        simp only [Nat.zero_add] at f0 f1
        go_wp2
        refine bodyPost_ret (by simp [results, Try.results67, go_sem, f0.1, f1.1]; try rfl) rfl ?_
        exact K _ _ _ le4 (r4.le (by rw [leb_len]; omega)) s5.tail1.tail1.tail1
    · have K := kb (fun h => hh h.2)
      clear k kb
      go_region_held3 (fun w' => w'.cell? ⟨X, 0, none⟩ = some (.int .u64 size) ∧ w'.cell? ⟨X, 1, none⟩ = some (.slice B0 bs.length cb))
        (first
          | exact ⟨c0.1, c1.1⟩
          | exact ⟨(s3.cel X 0 0 rfl).1, (s3.cel X 0 1 rfl).1⟩
          | exact ⟨(s5.cel X 0 0 rfl).1, (s5.cel X 0 1 rfl).1⟩
          | exact ⟨(s4.cel X 0 0 rfl).1, (s4.cel X 0 1 rfl).1⟩)
        (first
          | (go_at_call 113; refine c_refBytesOf s2.drew x hx _ n rfl (by omega) ?_; intro w3 v3 h3 o3 s3)
          | (go_at_call 68; refine c_refWrite s3 r hz a h0 (o3.rd hlb) (by rw [leb_len]; omega) (fun _ s => s.head) ?_ (fun h => absurd (show hasP size a n by rw [leb_len] at h; exact h) hh); intro _ w4 s4; have y0 := s4.cel (X + 1) 0 0 rfl; have y1 := s4.cel (X + 1) 0 1 rfl; have y2 := (Sat.s0 (Sat.pull (h := cellsH ⟨X + 1, 0, none⟩ [.int .u64 0, .slice none 0 0]) s4) (.int .u64 size)).c 1 rfl; simp only [Nat.zero_add] at y0 y1 y2; have s5 := (Sat.s0 (Sat.pull (h := cellsH ⟨X + 1, 0, none⟩ [.int .u64 0, .slice none 0 0]) s4) (.int .u64 size)).s 1 (by simp) (.slice B0 bs.length cb); simp only [List.set_cons_succ, List.set_cons_zero, Nat.zero_add] at s5))
      all_goals
        have f0 := s5.c0
        have f1 := s5.c 1 rfl
        simp only [Nat.zero_add] at f0 f1
        go_wp2
        refine bodyPost_ret (by simp [results, Try.results67, go_sem, f0.1, f1.1]; try rfl) rfl ?_
        exact K _ s5.tail1.tail1.tail1
  · have s4 := (s2.s0 (.int .u64 size)).s 1 (by simp) (.slice B0 bs.length cb)
    simp only [List.set_cons_succ, List.set_cons_zero] at s4
    have t4 := (s2.s0 (.int .u64 size)).c 1 rfl
    have f0 := s4.c0
    have f1 := s4.c 1 rfl
    simp only [Nat.zero_add] at f1 s4 f0 t4
    have K := kb (fun h => hs h.1) _ s4.tail1.tail1
    clear s4 s2 s1 s k kb
    go_enter Try.func67, Try.ntmps67
    go_wp2_with (go_at_call 112; refine c_refSized _ ?_; rw [decide_eq_false hs]; generalize World.alloc (World.alloc w _) _ = W at *)
    refine bodyPost_ret (by simp [results, Try.results67, go_sem, f0.1, f1.1]; try rfl) rfl ?_
    exact K
end

end Go.Proofs.Ytippipfogbgemaa
