/-
  RAM's laws: a script played at both memories; RamPlays.
-/
import Derived.Test.YtippipfogbgemaaVw
namespace Go.Proofs.Ytippipfogbgemaa
open Go.RowKit
set_option linter.unusedVariables false

section
variable {R : Ending → World → Prop} {W0 w : World} {H : Hp} {A : List Hp}

set_option maxRecDepth 100000 in
set_option maxHeartbeats 4000000 in
theorem c_played (s : Sat W0 w H A) {v0 : Value} {os : List OpM} (rd : Rd opE 5 H v0 os)
    (k1 : ∀ w' H' v' m', (∀ l c, H l = some c → H' l = some c) → RefM H' v' 8192 m' 2000 → Sat W0 w' H' A → R (.returned (.tuple #[.pointer none, v', .bool true])) w')
    (k2 : ∀ w' H' v' b (r : RamG), (∀ l c, H l = some c → H' l = some c) → r.size = 8192 → RefM H' v' 8192 r.mem 2000 → Sat W0 w' H' (ramL ⟨b, 0, none⟩ (r, none) ++ A) → R (.returned (.tuple #[.pointer (some ⟨b, 0, none⟩), v', .bool true])) w') :
    Calls Try.prog 16 #[v0] w R := by
  obtain ⟨D, dc, rfl, rd⟩ := rd.open_
  obtain ⟨A', c', hv, hc, hc2, hat⟩ := id rd
  injection hv with ea eb ec
  subst ea ec
  have hlen : (os.length : Int) ≤ 9223372036854775807 := by omega
  have s1 := s.alloc (c := [.int .u64 0, .slice none 0 0]) (t := 28)
  obtain ⟨Z, hZ⟩ : ∃ Z, w.heap.size = Z := ⟨_, rfl⟩
  rw [hZ] at s1
  go_enter Try.func16, Try.ntmps16
  go_wp2_with fail
  refine c_ramNew2 s1 _ (by omega) ?_; intro w2 b r hz hm s2
  have s3 := s2.alloc (c := [.int .u64 8192, .slice none 0 0]) (t := 28)
  obtain ⟨Y, hY⟩ : ∃ Y, w2.heap.size = Y := ⟨_, rfl⟩
  rw [hY] at s3
  clear s1 s2 s
  go_wp2
  go_loopg [8] os.length (fun q v8 w' => ∃ (i : Nat) (H' : Hp) (r : RamG) (B : Option Addr) (n c : Nat), q + i = os.length ∧ i ≤ 30 ∧ v8 = .int .i64 i ∧ (∀ l c, H l = some c → H' l = some c) ∧ r.size = 8192 ∧ RefM H' (.agg #[.int .u64 8192, .slice B n c]) 8192 r.mem (i * 64) ∧
    Sat W0 w' H' (ramL ⟨b, 0, none⟩ (r, none) ++ (cellsH ⟨Y, 0, none⟩ [.int .u64 8192, .slice B n c] :: cellsH ⟨Z, 0, none⟩ [.int .u64 0, .slice none 0 0] :: A)))
  case atStart => exact ⟨0, H, r, none, 0, 0, by simp, by omega, rfl, fun _ _ h => h, hz, ⟨_, [], rfl, Rd.nil, by rw [hm]; rfl, by simp⟩, s3.wk⟩
  clear s3 hm hz
  case round =>
    obtain ⟨i, H', r, B, n, c, hq, hi30, rfl, le, hz, rm, s'⟩ := hrel
    have y0 := s'.cel Y 0 0 rfl
    have y1 := s'.cel Y 0 1 rfl
    have z0 := s'.cel Z 0 0 rfl
    simp only [Nat.zero_add] at y0 y1 z0
    by_cases hi : i < os.length ∧ i < 30
    · obtain ⟨hi1, hi2⟩ := hi
      obtain ⟨bb, ob, vs, rfl, ⟨dv, rfl, rdv⟩, _, hcell⟩ := hat i os[i] (by simp [hi1])
      have hcl := fun j u hu => (hcell j u hu).imp fun fr hf => le _ _ hf
      have rdv' := rdv.mono u8E_mono le
      have x0 := s'.ro.cell (hcl 0 _ rfl)
      have x1 := s'.ro.cell (hcl 1 _ rfl)
      have x2 := s'.ro.cell (hcl 2 _ rfl)
      have x3 := s'.ro.cell (hcl 3 _ rfl)
      have x4 := s'.ro.cell (hcl 4 _ rfl)
      generalize os[i] = op at *
      rw [Nat.add_zero] at x0
      obtain ⟨E, ec, rfl, rdw⟩ := rdv'.open_
      clear hcell hat rd rdv
      go_wp2_with fail
      refine c_small s' op rdw ?_
      intro w6 s6
      by_cases hsm : op.small
      · rw [decide_eq_true hsm]
        have y0 := s6.cel Y 0 0 rfl
        have y1 := s6.cel Y 0 1 rfl
        simp only [Nat.zero_add] at y0 y1
        have x0 := s6.ro.cell (hcl 0 _ rfl)
        have x1 := s6.ro.cell (hcl 1 _ rfl)
        have x2 := s6.ro.cell (hcl 2 _ rfl)
        have x3 := s6.ro.cell (hcl 3 _ rfl)
        have x4 := s6.ro.cell (hcl 4 _ rfl)
        rw [Nat.add_zero] at x0
        have s6a := s6.alloc (c := [.int .u64 0, .slice none 0 0]) (t := 28)
        obtain ⟨Q, hQ⟩ : ∃ Q, w6.heap.size = Q := ⟨_, rfl⟩
        rw [hQ] at s6a
        clear s'
        go_wp2
        go_region_held3 (fun w' => w'.cell? ⟨Y, 0, none⟩ = some (.int .u64 8192) ∧ w'.cell? ⟨Y, 1, none⟩ = some (.slice B n c) ∧ w'.cell? ⟨bb, ob + i * 5, none⟩ = some (.int .i64 op.kind) ∧ w'.cell? ⟨bb, ob + i * 5 + 1, none⟩ = some (.int .u64 op.at') ∧ w'.cell? ⟨bb, ob + i * 5 + 2, none⟩ = some (.int .i64 op.n) ∧ w'.cell? ⟨bb, ob + i * 5 + 3, none⟩ = some (.int .u64 op.w) ∧ w'.cell? ⟨bb, ob + i * 5 + 4, none⟩ = some (.slice E op.data.length ec))
          (first
            | exact ⟨y0.1, y1.1, x0, x1, x2, x3, x4⟩
            | exact ⟨(s6a.cel Y 0 0 rfl).1, (s6a.cel Y 0 1 rfl).1, s6a.ro.cell (hcl 0 _ rfl), s6a.ro.cell (hcl 1 _ rfl), s6a.ro.cell (hcl 2 _ rfl), s6a.ro.cell (hcl 3 _ rfl), s6a.ro.cell (hcl 4 _ rfl)⟩
            | exact ⟨(s8.cel Y 0 0 rfl).1, (s8.cel Y 0 1 rfl).1, s8.ro.cell ((hcl 0 _ rfl).imp fun fr hf => le7 _ _ hf), s8.ro.cell ((hcl 1 _ rfl).imp fun fr hf => le7 _ _ hf), s8.ro.cell ((hcl 2 _ rfl).imp fun fr hf => le7 _ _ hf), s8.ro.cell ((hcl 3 _ rfl).imp fun fr hf => le7 _ _ hf), s8.ro.cell ((hcl 4 _ rfl).imp fun fr hf => le7 _ _ hf)⟩
            | exact ⟨(s7a.cel Y 0 0 rfl).1, (s7a.cel Y 0 1 rfl).1, s7a.ro.cell ((hcl 0 _ rfl).imp fun fr hf => le7 _ _ hf), s7a.ro.cell ((hcl 1 _ rfl).imp fun fr hf => le7 _ _ hf), s7a.ro.cell ((hcl 2 _ rfl).imp fun fr hf => le7 _ _ hf), s7a.ro.cell ((hcl 3 _ rfl).imp fun fr hf => le7 _ _ hf), s7a.ro.cell ((hcl 4 _ rfl).imp fun fr hf => le7 _ _ hf)⟩
            | exact ⟨(s7.cel Y 0 0 rfl).1, (s7.cel Y 0 1 rfl).1, s7.ro.cell ((hcl 0 _ rfl).imp fun fr hf => le7 _ _ hf), s7.ro.cell ((hcl 1 _ rfl).imp fun fr hf => le7 _ _ hf), s7.ro.cell ((hcl 2 _ rfl).imp fun fr hf => le7 _ _ hf), s7.ro.cell ((hcl 3 _ rfl).imp fun fr hf => le7 _ _ hf), s7.ro.cell ((hcl 4 _ rfl).imp fun fr hf => le7 _ _ hf)⟩)
          (first
            | (go_at_call 21; refine c_do s6.drew (by rw [hz]; exact rm) (by omega) op hsm rdw ?_; intro w7 H7 v7 r7 le7 hz7 rm7 s7; rw [hz7, hz] at rm7; obtain ⟨B7, n7, c7, rfl⟩ := rm7.shape; have s7a := s7.alloc (c := [.int .u64 0, .slice none 0 0]) (t := 28); have s8 := s7.alloc (c := [.int .u64 8192, .slice B7 n7 c7]) (t := 28))
            | (go_at_call 21; refine c_do s6a.drew (by rw [hz]; exact rm) (by omega) op hsm rdw ?_; intro w7 H7 v7 r7 le7 hz7 rm7 s7; rw [hz7, hz] at rm7; obtain ⟨B7, n7, c7, rfl⟩ := rm7.shape; have q0 := s7.cel Q 0 0 rfl; have q1 := (Sat.s0 (Sat.pull (h := cellsH ⟨Q, 0, none⟩ [.int .u64 0, .slice none 0 0]) s7) (.int .u64 8192)).c 1 rfl; have s8 := (Sat.s0 (Sat.pull (h := cellsH ⟨Q, 0, none⟩ [.int .u64 0, .slice none 0 0]) s7) (.int .u64 8192)).s 1 (by simp) (.slice B7 n7 c7); simp only [List.set_cons_succ, List.set_cons_zero, Nat.zero_add] at s8 q0 q1))
        · obtain ⟨P, hP⟩ : ∃ P, w7.heap.size = P := ⟨_, rfl⟩
          rw [hP] at s8
          simp only [hP]
          have b0 := s8.cel P 0 0 rfl
          have b1 := s8.cel P 0 1 rfl
          have u0 := s8.cel Y 0 0 rfl
          have u1 := (Sat.s0 (Sat.pull (h := cellsH ⟨Y, 0, none⟩ [.int .u64 8192, .slice B n c]) s8) (.int .u64 8192)).c 1 rfl
          have s9 := (Sat.s0 (Sat.pull (h := cellsH ⟨Y, 0, none⟩ [.int .u64 8192, .slice B n c]) s8) (.int .u64 8192)).s 1 (by simp) (.slice B7 n7 c7)
          simp only [List.set_cons_succ, List.set_cons_zero, Nat.zero_add] at s9 b0 b1 u0 u1
          have hz8 : r7.size = 8192 := by omega
          have rm8 := rm7.le (show i * 64 + 64 ≤ (i + 1) * 64 by omega)
          generalize hW8 : World.alloc w7 _ = w8 at s8 b0 b1 u0 u1 s9 ⊢
          clear s8 s7 s6 y0 y1 x0 x1 x2 x3 x4 hW8
          go_wp2
          go_roundg (gk - 1)
          case measure => omega
          case rel => exact ⟨i + 1, H7, r7, B7, n7, c7, by omega, by omega, by go_num, fun l c h => le7 _ _ (le l c h), hz8, rm8, s9.wk⟩
        · have b0 := s8.cel Q 0 0 rfl
          have b1 := s8.cel Q 0 1 rfl
          have u0 := s8.cel Y 0 0 rfl
          have u1 := (Sat.s0 (Sat.pull (h := cellsH ⟨Y, 0, none⟩ [.int .u64 8192, .slice B n c]) s8) (.int .u64 8192)).c 1 rfl
          have s9 := (Sat.s0 (Sat.pull (h := cellsH ⟨Y, 0, none⟩ [.int .u64 8192, .slice B n c]) s8) (.int .u64 8192)).s 1 (by simp) (.slice B7 n7 c7)
          simp only [List.set_cons_succ, List.set_cons_zero, Nat.zero_add] at s9 b0 b1 u0 u1
          have hz8 : r7.size = 8192 := by omega
          have rm8 := rm7.le (show i * 64 + 64 ≤ (i + 1) * 64 by omega)
          generalize hW8 : World.setCell (World.setCell w7 _ _) _ _ = w8 at s8 b0 b1 u0 u1 s9 ⊢
          clear s8 s7 s6 y0 y1 x0 x1 x2 x3 x4 hW8
          go_wp2
          go_roundg (gk - 1)
          case measure => omega
          case rel => exact ⟨i + 1, H7, r7, B7, n7, c7, by omega, by omega, by go_num, fun l c h => le7 _ _ (le l c h), hz8, rm8, s9.wk⟩
      · rw [decide_eq_false hsm]
        have y0 := s6.cel Y 0 0 rfl
        have y1 := s6.cel Y 0 1 rfl
        have z0 := s6.cel Z 0 0 rfl
        have z1 := (Sat.s0 (Sat.pull (h := cellsH ⟨Z, 0, none⟩ [.int .u64 0, .slice none 0 0]) s6) (.int .u64 8192)).c 1 rfl
        have s7 := (Sat.s0 (Sat.pull (h := cellsH ⟨Z, 0, none⟩ [.int .u64 0, .slice none 0 0]) s6) (.int .u64 8192)).s 1 (by simp) (.slice B n c)
        simp only [List.set_cons_succ, List.set_cons_zero, Nat.zero_add] at s7 y0 y1 z0 z1
        have f0 := s7.c0
        have f1 := s7.c 1 rfl
        simp only [Nat.zero_add] at f0 f1
        go_wp2
        go_region_law (fail)
        all_goals
          simp only [Act.put, List.getElem_toArray, List.getElem_cons_succ, List.getElem_cons_zero, List.setIfInBounds_toArray, List.set_cons_succ, List.set_cons_zero]
          go_wp2
          refine bodyPost_ret (by simp [results, Try.results16, go_sem, f0.1, f1.1]; try rfl) rfl ?_
          exact k1 _ H' _ r.mem le (rm.le (by omega)) s7.drew.wk
    · have z1 := (Sat.s0 (Sat.pull (h := cellsH ⟨Z, 0, none⟩ [.int .u64 0, .slice none 0 0]) s') (.int .u64 8192)).c 1 rfl
      have s7 := (Sat.s0 (Sat.pull (h := cellsH ⟨Z, 0, none⟩ [.int .u64 0, .slice none 0 0]) s') (.int .u64 8192)).s 1 (by simp) (.slice B n c)
      simp only [List.set_cons_succ, List.set_cons_zero, Nat.zero_add] at s7 z1
      have f0 := s7.c0
      have f1 := s7.c 1 rfl
      simp only [Nat.zero_add] at f0 f1
      clear hat rd
      by_cases hx : (i : Int) < os.length
      all_goals
        go_wp2
        go_region_law (fail)
        all_goals
          simp only [Act.put, List.getElem_toArray, List.getElem_cons_succ, List.getElem_cons_zero, List.setIfInBounds_toArray, List.set_cons_succ, List.set_cons_zero]
          go_wp2
          refine bodyPost_ret (by simp [results, Try.results16, go_sem, f0.1, f1.1]; try rfl) rfl ?_
          exact k2 _ H' _ b r le hz (rm.le (by omega)) s7.drew.wk
end
end Go.Proofs.Ytippipfogbgemaa
