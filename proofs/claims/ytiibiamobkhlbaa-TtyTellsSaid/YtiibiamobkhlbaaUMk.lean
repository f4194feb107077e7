/-
  TTY: the law's awake.
-/
import Derived.Test.YtiibiamobkhlbaaUMj
import Derived.Test.YtiibiamobkhlbaaG2
set_option linter.unusedVariables false
set_option linter.unusedSimpArgs false
namespace Go.Proofs.Ytiibiamobkhlbaa
open Go.RowKit
set_option linter.unusedVariables false
set_option linter.unusedSimpArgs false

section
variable {R : Ending → World → Prop} {W0 w : World} {H : Hp} {A F : List Hp}
set_option maxRecDepth 100000 in
set_option maxHeartbeats 4000000 in
theorem c_ttyAwake (s : Sat W0 w H A) (k : ∀ w', Sat W0 w' H A → R (.returned (.bool true)) w') : Calls Try.prog 48 #[] w R := by
  replace k := aside k
  go_enter Try.func48, Try.ntmps48
  go_wp2_with fail
  refine c_ramNew2 s _ (by omega) ?_
  intro w1 mb r hz hm s1
  clear s hz hm
  go_wp2_with fail
  refine c_ttyNew s1 mb ?_
  intro w2 tb rb fb p f hp hf1 hf2 hf3 hf4 s2
  clear s1
  have hb : p.g.bits = 0 := by rw [hp]; rfl
  have c0 := (s2.cells (a := ⟨tb, 0, none⟩) (vs := ttyV rb fb mb (.slice none 0 0) 0) (by simp) (i := 0) rfl).1
  have c1 := (s2.cells (a := ⟨tb, 0, none⟩) (vs := ttyV rb fb mb (.slice none 0 0) 0) (by simp) (i := 1) rfl).1
  rw [Nat.zero_add] at c0 c1
  have hmk : (Instr.makeSlice 57 (.int .i64 5000) (.int .i64 5000)).run Try.prog w2 = .ok (.slice (some ⟨w2.heap.size, 0, none⟩) 5000 5000) (w2.alloc (.cells (List.replicate 5000 (Value.int .u8 0)).toArray 5)) :=
    run_make8 .i64 .i64 5000 5000 (by omega) (by omega) (by omega) w2
  obtain ⟨DS, hDS⟩ : ∃ y : List Int, List.replicate 5000 (0 : Int) = y := ⟨_, rfl⟩
  obtain ⟨ZL, hZL⟩ : ∃ y : List Value, List.replicate 5000 (Value.int .u8 0) = y := ⟨_, rfl⟩
  have hDZ : DS.map (Value.int .u8) = ZL := by rw [← hDS, ← hZL, List.map_replicate]
  have hDl : DS.length = 5000 := by rw [← hDS]; exact List.length_replicate
  have hDb : ∀ x ∈ DS, 0 ≤ x ∧ x ≤ 255 := by rw [← hDS]; intro x hx; obtain ⟨_, rfl⟩ := List.mem_replicate.1 hx; omega
  rw [hZL] at hmk
  have s3 : Sat W0 (w2.alloc (.cells ZL.toArray 5)) H (cellsH ⟨w2.heap.size, 0, none⟩ ZL :: _) := s2.alloc
  obtain ⟨Z, hZ⟩ : ∃ Z, w2.heap.size = Z := ⟨_, rfl⟩
  rw [hZ] at s3 hmk
  generalize hW3 : w2.alloc (.cells ZL.toArray 5) = w3 at s3 hmk
  clear hW3
  have own : OwnS 1 (.slice (some ⟨Z, 0, none⟩) DS.length DS.length) DS.length (DS.map (Value.int .u8)) (cellsH ⟨Z, 0, none⟩ ZL) := by
    have := OwnS.made (size := 1) (b := Z) (o := 0) (n := DS.length) (c := DS.length) (vs := DS.map (Value.int .u8)) [] (Nat.le_refl _) (by omega) (by simp) (by simp)
    rw [List.append_nil] at this; rw [← hDZ]; exact this
  have rd := aside (own.rd hDb)
  have s4 := s3.perm (List.perm_append_comm (l₁ := [_]))
  simp only [List.cons_append, List.append_assoc] at s4
  replace hDl := aside hDl
  have hh := s3.head
  replace hp := aside hp
  replace hf1 := aside hf1
  replace hf2 := aside hf2
  replace hf3 := aside hf3
  replace hf4 := aside hf4
  replace hb := aside hb
  replace hDS := aside hDS
  replace hZL := aside hZL
  replace hDZ := aside hDZ
  replace hDb := aside hDb
  replace own := aside own
  replace s2 := aside s2
  replace s3 := aside s3
  replace hZ := aside hZ
  go_wp2_with fail
  refine c_ttyInput c1 ?_
  go_wp2_with fail
  rw [← hDl.out]
  refine c_typeDead s4 hb.out rfl hh rd.out ?_
  intro w5 f' n hn s5
  have hn2 : n = 4096 := by rw [hn, hDl.out, hf1.out]; have := hf2.out; simp only [List.length_nil]; omega
  rw [hn2, show ((4096 : Nat) : Int) = 4096 from rfl]
  clear hn hn2
  go_wp2
  have s6 := s5.perm (B := cellsH ⟨Z, 0, none⟩ ZL :: (cellsH ⟨tb, 0, none⟩ (ttyV rb fb mb (.slice none 0 0) 0) :: (regL rb p ++ (fifoL ⟨fb, 0, none⟩ f' ++ (ramL ⟨mb, 0, none⟩ (r, none) ++ A))))) (by
    have := (List.perm_append_comm (l₁ := [cellsH ⟨Z, 0, none⟩ ZL]) (l₂ := cellsH ⟨tb, 0, none⟩ (ttyV rb fb mb (.slice none 0 0) 0) :: (regL rb p ++ (fifoL ⟨fb, 0, none⟩ f' ++ (ramL ⟨mb, 0, none⟩ (r, none) ++ A))))).symm
    simpa only [List.cons_append, List.nil_append, List.append_assoc] using this)
  exact k.out _ s6.wk
end
end Go.Proofs.Ytiibiamobkhlbaa
