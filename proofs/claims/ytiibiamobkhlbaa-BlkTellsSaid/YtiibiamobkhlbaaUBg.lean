/-
  BLK: the law's disk of four sectors, and the document's.
-/
import Derived.Test.YtiibiamobkhlbaaG4
set_option linter.unusedVariables false
set_option linter.unusedSimpArgs false
namespace Go.Proofs.Ytiibiamobkhlbaa
open Go.RowKit
set_option linter.unusedVariables false
set_option linter.unusedSimpArgs false

def repL (ds : List Int) : Nat → List Int
  | 0 => []
  | n + 1 => repL ds n ++ ds
theorem repL_len (ds : List Int) (n : Nat) : (repL ds n).length = n * ds.length := by
  induction n with
  | zero => simp [repL]
  | succ n ih => rw [repL, List.length_append, ih, Nat.succ_mul]
theorem repL_bd {ds : List Int} (h : ∀ x ∈ ds, 0 ≤ x ∧ x ≤ 255) (n : Nat) : ∀ x ∈ repL ds n, 0 ≤ x ∧ x ≤ 255 := by
  induction n with
  | zero => intro x hx; simp [repL] at hx
  | succ n ih =>
    intro x hx
    rw [repL] at hx
    rcases List.mem_append.1 hx with h1 | h1
    · exact ih x h1
    · exact h x h1

section
variable {R : Ending → World → Prop} {W0 w : World} {H : Hp} {A F : List Hp}


set_option maxRecDepth 100000 in
set_option maxHeartbeats 4000000 in
theorem c_lawDisk (s : Sat W0 w H A) (lk : Bool) {D : Option Addr} {dn dc : Nat} {ds : List Int} (rd : Rd u8E 1 H (.slice D dn dc) ds) (f : Int) (hf : 0 ≤ f ∧ f ≤ 18446744073709551615) (nm : ByteArray) (hnm : nm.size ≤ 9223372036854775807)
    (kb : ∀ w' H' B N c, (∀ l c, H l = some c → H' l = some c) → Sat W0 w' H' A → R (.returned (.tuple #[.pointer none, .agg #[.slice B N c, .bool lk, .int .u64 0, .int .u64 0, .int .u64 0]])) w')
    (k : ds.length ≤ 64 → nm.size ≤ 100 → ∀ w' H' v' b (d : DiskG), (∀ l c, H l = some c → H' l = some c) → d.count = 4 → d.locked = lk → d.fault = f → (∀ x, 0 ≤ x ∧ x < 2048 → d.mem x = putB (fun _ => 0) 0 (padC (repL ds 40)) x) → RefD H' v' 4 (putB (fun _ => 0) 0 (padC (repL ds 40))) lk f 0 0 → Sat W0 w' H' (diskL ⟨b, 0, none⟩ d ++ A) → R (.returned (.tuple #[.pointer (some ⟨b, 0, none⟩), v'])) w') :
    Calls Try.prog 21 #[.agg #[.bool lk, .slice D dn dc, .int .u64 f, .string nm]] w R := by
  have s1 := (s.alloc (c := [.bool lk, .slice D dn dc, .int .u64 f, .string nm]) (t := 59)).alloc (c := [.slice none 0 0, .bool false, .int .u64 0, .int .u64 0, .int .u64 0]) (t := 63)
  obtain ⟨Z, hZ⟩ : ∃ Z, w.heap.size = Z := ⟨_, rfl⟩
  simp only [World.size_alloc] at s1
  rw [hZ] at s1
  obtain ⟨hdn, hcap, hcap2, _⟩ := rd.u8
  have hby := rd.bytes
  have hdn9 : (dn : Int) ≤ 9223372036854775807 := by omega
  have hnm9 : (nm.size : Int) ≤ 9223372036854775807 := by omega
  replace hdn := aside hdn
  replace kb := aside kb
  replace k := aside k
  replace hby := aside hby
  replace rd := aside rd
  have z0 := s1.cel Z 0 0 rfl
  have z1 := s1.cel Z 0 1 rfl
  have z2 := s1.cel Z 0 2 rfl
  have z3 := s1.cel Z 0 3 rfl
  simp only [Nat.zero_add] at z0 z1 z2 z3
  clear s
  go_enter Try.func21, Try.ntmps21
  go_wp2_with fail
  refine c_refNewD s1 4 (by omega) lk ?_
  intro w2 H2 v2 le2 rf2 s2
  obtain ⟨B, N, c, rfl, hN, rdb⟩ := rf2.open_
  have s3 := s2.alloc (c := [.slice B N c, .bool lk, .int .u64 0, .int .u64 0, .int .u64 0]) (t := 63)
  obtain ⟨X, hX⟩ : ∃ X, w2.heap.size = X := ⟨_, rfl⟩
  rw [hX] at s3
  have z0 := s3.cel Z 0 0 rfl
  have z1 := s3.cel Z 0 1 rfl
  have z2 := s3.cel Z 0 2 rfl
  have z3 := s3.cel Z 0 3 rfl
  simp only [Nat.zero_add] at z0 z1 z2 z3
  replace hN := aside hN
  clear rdb s1 s2
  go_wp2_with fail
  refine c_diskNew s3 4 lk (by omega) ?_
  intro w4 b mb s4
  clear s3
  have z0 := s4.cel Z 0 0 rfl
  have z1 := s4.cel Z 0 1 rfl
  have z2 := s4.cel Z 0 2 rfl
  have z3 := s4.cel Z 0 3 rfl
  simp only [Nat.zero_add] at z0 z1 z2 z3
  have x0 := s4.cel X 0 0 rfl
  have x1 := s4.cel X 0 1 rfl
  have x2 := s4.cel X 0 2 rfl
  have x3 := s4.cel X 0 3 rfl
  have x4 := s4.cel X 0 4 rfl
  simp only [Nat.zero_add] at x0 x1 x2 x3 x4
  have y0 := s4.cel (Z+1) 0 0 rfl
  have y1 := s4.cel (Z+1) 0 1 rfl
  have y2 := s4.cel (Z+1) 0 2 rfl
  have y3 := s4.cel (Z+1) 0 3 rfl
  have y4 := s4.cel (Z+1) 0 4 rfl
  simp only [Nat.zero_add] at y0 y1 y2 y3 y4
  by_cases h64 : (64 : Int) < dn
  · skip
    go_wp2
    go_region
    all_goals
      have s8 := (((((Sat.pull (h := cellsH ⟨Z + 1, 0, none⟩ [.slice none 0 0, .bool false, .int .u64 0, .int .u64 0, .int .u64 0]) s4).s0 (.slice B N c)).s 1 (by simp) (.bool lk)).s 2 (by simp) (.int .u64 0)).s 3 (by simp) (.int .u64 0)).s 4 (by simp) (.int .u64 0)
      simp only [List.set_cons_succ, List.set_cons_zero, Nat.zero_add] at s8
      replace s8 := s8.drew
      have f0 := s8.c0
      have f1 := s8.c 1 rfl
      have f2 := s8.c 2 rfl
      have f3 := s8.c 3 rfl
      have f4 := s8.c 4 rfl
      simp only [Nat.zero_add] at f0 f1 f2 f3 f4
      go_wp2
      refine bodyPost_ret (by simp [results, Try.results21, go_sem, f0.1, f1.1, f2.1, f3.1, f4.1]; try rfl) rfl ?_
      exact kb.out _ H2 B N c le2 s8.wk
  by_cases h100 : (100 : Int) < nm.size
  · skip
    go_wp2
    go_region
    all_goals
      have s8 := (((((Sat.pull (h := cellsH ⟨Z + 1, 0, none⟩ [.slice none 0 0, .bool false, .int .u64 0, .int .u64 0, .int .u64 0]) s4).s0 (.slice B N c)).s 1 (by simp) (.bool lk)).s 2 (by simp) (.int .u64 0)).s 3 (by simp) (.int .u64 0)).s 4 (by simp) (.int .u64 0)
      simp only [List.set_cons_succ, List.set_cons_zero, Nat.zero_add] at s8
      replace s8 := s8.drew
      have f0 := s8.c0
      have f1 := s8.c 1 rfl
      have f2 := s8.c 2 rfl
      have f3 := s8.c 3 rfl
      have f4 := s8.c 4 rfl
      simp only [Nat.zero_add] at f0 f1 f2 f3 f4
      go_wp2
      refine bodyPost_ret (by simp [results, Try.results21, go_sem, f0.1, f1.1, f2.1, f3.1, f4.1]; try rfl) rfl ?_
      exact kb.out _ H2 B N c le2 s8.wk
  clear kb
  replace k := aside (k.out (by have := hdn.out; omega) (by omega))
  obtain ⟨d0, hd0⟩ : ∃ d0, DiskG.new 4 lk mb (by omega) = d0 := ⟨_, rfl⟩
  have hd := aside (show d0.count = 4 ∧ d0.locked = lk ∧ d0.mem = (fun _ => 0) from by rw [← hd0]; exact ⟨rfl, rfl, rfl⟩)
  rw [hd0] at s4
  clear hd0
  have rd2 := aside (rd.out.mono u8E_mono le2)
  have hd40 := aside (show ∀ i, i ≤ 40 → (repL ds i).length ≤ 2560 by
    intro i hi
    rw [repL_len]
    have h1 : ds.length ≤ 64 := by have := hdn.out; omega
    calc i * ds.length ≤ 40 * 64 := Nat.mul_le_mul hi h1
      _ = 2560 := rfl)
  go_wp2
  clear z0 z1 z2 z3 x0 x1 x2 x3 x4 y0 y1 y2 y3 y4
  go_loopg [7, 8] 40 (fun q v7 v8 w' => ∃ (i : Nat) (h : Hp), q + i = 40 ∧ v8 = .int .i64 i ∧ OwnS 1 v7 (repL ds i).length ((repL ds i).map (Value.int .u8)) h ∧ Sat W0 w' H2 (h :: (diskL ⟨b, 0, none⟩ d0 ++ (cellsH ⟨X, 0, none⟩ [.slice B N c, .bool lk, .int .u64 0, .int .u64 0, .int .u64 0] :: cellsH ⟨Z + 1, 0, none⟩ [.slice none 0 0, .bool false, .int .u64 0, .int .u64 0, .int .u64 0] :: cellsH ⟨Z, 0, none⟩ [.bool lk, .slice D dn dc, .int .u64 f, .string nm] :: A))))
  case atStart => exact ⟨0, _, rfl, rfl, OwnS.nil 1, s4.emp.wk⟩
  clear s4
  case round =>
    obtain ⟨i, h, hq, rfl, own, s'⟩ := hrel
    have z0 := s'.cel Z 0 0 rfl
    have z1 := s'.cel Z 0 1 rfl
    have z2 := s'.cel Z 0 2 rfl
    have z3 := s'.cel Z 0 3 rfl
    simp only [Nat.zero_add] at z0 z1 z2 z3
    by_cases hi : i < 40
    · have hi2 : (i : Int) < 40 := by omega
      have hr : RowR wr D (ds.map (Value.int .u8)) := by have := Rd.row s'.ro rd2.out ds.length; rwa [List.take_length] at this
      have hbig := aside (show (repL ds i).length + dn ≤ 140737488355328 by have := hd40.out i (by omega); omega)
      replace hr := aside hr
      go_wp2_with (at_builtin; refine append8 rfl (.tmp 37) (.tmp 39) rfl rfl own s' rfl ds hdn.out.symm hr.out hbig.out ?_; intro A6 c6 w6 h6 own6 s6)
      have own7 : OwnS 1 (.slice A6 ((repL ds i).length + dn) c6) (repL ds (i + 1)).length ((repL ds (i + 1)).map (Value.int .u8)) h6 := by
        rw [repL, List.length_append, ← hdn.out, List.map_append]; exact own6
      go_roundg (gk - 1)
      case measure => omega
      case rel => exact ⟨i + 1, h6, by omega, by go_num, own7, s6.wk⟩
    · obtain rfl : i = 40 := by omega
      have hl40 := hd40.out 40 (by omega)
      have hb40 := repL_bd hby.out 40
      obtain ⟨AL, hAL⟩ : ∃ y, repL ds 40 = y := ⟨_, rfl⟩
      rw [hAL] at own hl40 hb40 k
      have s5 := s'.freeze
      have rd7 := (own.rd hb40).mono u8E_mono (Sat.frozenD s')
      have le3 := un_leftD (H := H2) (h := h)
      obtain ⟨H3, hH3⟩ : ∃ H3, un H2 h = H3 := ⟨_, rfl⟩
      rw [hH3] at s5 rd7 le3
      obtain ⟨A7, c7, rfl, rd7⟩ := rd7.open_
      obtain ⟨M, hM⟩ : ∃ M, AL.length = M := ⟨_, rfl⟩
      rw [hM] at rd7 ⊢
      have rf3 := aside (rf2.mono le3)
      replace rd7 := aside rd7
      replace hM := aside hM
      replace hl40 := aside hl40
      clear s' own hH3 z0 z1 z2 z3 hAL hb40
      go_wp2_with fail
      refine c_diskFill s5 rd7.out (by have := hl40.out; omega) ?_
      intro w6 d6 hl6 hm6 s6
      have z0 := s6.cel Z 0 0 rfl
      have z1 := s6.cel Z 0 1 rfl
      have z2 := s6.cel Z 0 2 rfl
      have z3 := s6.cel Z 0 3 rfl
      simp only [Nat.zero_add] at z0 z1 z2 z3
      replace hl6 := aside hl6
      replace hm6 := aside hm6
      clear s5
      go_wp2_with fail
      refine c_diskFail s6 f hf ?_
      intro w7 s7
      have z0 := s7.cel Z 0 0 rfl
      have z1 := s7.cel Z 0 1 rfl
      have z2 := s7.cel Z 0 2 rfl
      have z3 := s7.cel Z 0 3 rfl
      simp only [Nat.zero_add] at z0 z1 z2 z3
      have x0 := s7.cel X 0 0 rfl
      have x1 := s7.cel X 0 1 rfl
      have x2 := s7.cel X 0 2 rfl
      have x3 := s7.cel X 0 3 rfl
      have x4 := s7.cel X 0 4 rfl
      simp only [Nat.zero_add] at x0 x1 x2 x3 x4
      clear s6
      go_wp2_with fail
      refine c_refFillD s7 rf3.out (by omega) rd7.out (by have := hl40.out; omega) ?_
      intro w8 H8 B8 N8 c8 le8 rf8 s8
      have z0 := s8.cel Z 0 0 rfl
      have z1 := s8.cel Z 0 1 rfl
      have z2 := s8.cel Z 0 2 rfl
      have z3 := s8.cel Z 0 3 rfl
      simp only [Nat.zero_add] at z0 z1 z2 z3
      have x0 := s8.cel X 0 0 rfl
      have x1 := s8.cel X 0 1 rfl
      have x2 := s8.cel X 0 2 rfl
      have x3 := s8.cel X 0 3 rfl
      have x4 := s8.cel X 0 4 rfl
      simp only [Nat.zero_add] at x0 x1 x2 x3 x4
      have y0 := s8.cel (Z+1) 0 0 rfl
      have y1 := s8.cel (Z+1) 0 1 rfl
      have y2 := s8.cel (Z+1) 0 2 rfl
      have y3 := s8.cel (Z+1) 0 3 rfl
      have y4 := s8.cel (Z+1) 0 4 rfl
      simp only [Nat.zero_add] at y0 y1 y2 y3 y4
      clear s7
      have s9 := (((((Sat.pull (h := cellsH ⟨X, 0, none⟩ [.slice B N c, .bool lk, .int .u64 0, .int .u64 0, .int .u64 0]) s8).s0 (.slice B8 N8 c8)).s 1 (by simp) (.bool lk)).s 2 (by simp) (.int .u64 0)).s 3 (by simp) (.int .u64 0)).s 4 (by simp) (.int .u64 0)
      have s10 := s9.s 2 (by simp) (.int .u64 f)
      simp only [List.set_cons_succ, List.set_cons_zero, Nat.zero_add] at s9 s10
      have z9 := s9.cel Z 0 2 rfl
      have x9 := s9.c 2 rfl
      simp only [Nat.zero_add] at z9 x9
      have rf9 := aside (show RefD H8 (.agg #[.slice B8 N8 c8, .bool lk, .int .u64 f, .int .u64 0, .int .u64 0]) 4 (putB (fun _ => 0) 0 (padC AL)) lk f 0 0 from by
        obtain ⟨sl, h1, h2⟩ := rf8
        simp at h1
        subst h1
        exact ⟨_, rfl, h2⟩)
      have leA := aside (show ∀ l c, H l = some c → H8 l = some c from fun l c h => le8 l c (le3 l c (le2 l c h)))
      have x0 := s10.cel X 0 0 rfl
      have x1 := s10.cel X 0 1 rfl
      have x2 := s10.cel X 0 2 rfl
      have x3 := s10.cel X 0 3 rfl
      have x4 := s10.cel X 0 4 rfl
      simp only [Nat.zero_add] at x0 x1 x2 x3 x4
      have y0 := s10.cel (Z+1) 0 0 rfl
      have y1 := s10.cel (Z+1) 0 1 rfl
      have y2 := s10.cel (Z+1) 0 2 rfl
      have y3 := s10.cel (Z+1) 0 3 rfl
      have y4 := s10.cel (Z+1) 0 4 rfl
      simp only [Nat.zero_add] at y0 y1 y2 y3 y4
      clear rf8 s8 s9 le8 le3 le2
      go_wp2
      go_region
      all_goals
        have s11 := ((((Sat.pull (h := cellsH ⟨Z + 1, 0, none⟩ [.slice none 0 0, .bool false, .int .u64 0, .int .u64 0, .int .u64 0]) s10).s0 (.slice B8 N8 c8)).s 1 (by simp) (.bool lk)).s 2 (by simp) (.int .u64 f)).s 3 (by simp) (.int .u64 0) |>.s 4 (by simp) (.int .u64 0)
        simp only [List.set_cons_succ, List.set_cons_zero, Nat.zero_add] at s11
        replace s11 := s11.drew
        have f0 := s11.c0
        have f1 := s11.c 1 rfl
        have f2 := s11.c 2 rfl
        have f3 := s11.c 3 rfl
        have f4 := s11.c 4 rfl
        simp only [Nat.zero_add] at f0 f1 f2 f3 f4
        clear s10
        generalize hW9 : World.drew _ = W9 at s11 f0 f1 f2 f3 f4 ⊢
        clear hW9
        go_wp2
        refine bodyPost_ret (by simp [results, Try.results21, go_sem, f0.1, f1.1, f2.1, f3.1, f4.1]; try rfl) rfl ?_
        exact k.out _ H8 _ b (d6.failing f hf) leA.out (hl6.out.count.trans hd.out.1) (hl6.out.locked.trans hd.out.2.1) rfl (fun x hx => by
          have h1 := hm6.out x (by rw [hd.out.1]; omega)
          rw [hd.out.2.2] at h1
          exact h1) rf9.out s11.wk
end
end Go.Proofs.Ytiibiamobkhlbaa
