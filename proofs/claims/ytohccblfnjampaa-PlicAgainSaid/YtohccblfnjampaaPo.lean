/-
  PLIC: the page's example; a script played at both.
-/
import Derived.Test.YtohccblfnjampaaPn
namespace Go.Proofs.Ytohccblfnjampaa
open Go.RowKit
set_option linter.unusedVariables false
set_option linter.unusedSimpArgs false

def pl0 : PlS := ⟨List.replicate 32 0, 0, 0, 0, 0, 0, 0, 0, List.length_replicate, fun x hx => by rw [List.eq_of_mem_replicate hx]; omega, by omega, by omega, by decide⟩
def pl1 : PlS := (pl0.store 4 4 1).1
def pl2 : PlS := (pl1.store 8192 4 2).1
def pl3 : PlS := pl2.line 1 true
def pl4 : PlS := (pl3.take 0).1
theorem pl0_st : (pl0.store 4 4 1).2 = true := by kernel_rfl
theorem pl1_st : (pl1.store 8192 4 2).2 = true := by kernel_rfl
theorem pl3_lines : pl3.linesP = 2048 := by kernel_rfl
theorem pl3_take : (pl3.take 0).2 = 1 := by kernel_rfl
theorem pl4_lines : pl4.linesP = 0 := by kernel_rfl
set_option maxRecDepth 100000 in
theorem pl0_enc : pl0.enc.toArray = (#[.int .u32 0, .int .u32 0, .int .u32 0, .int .u32 0, .int .u32 0, .int .u32 0, .int .u32 0, .int .u32 0, .int .u32 0, .int .u32 0, .int .u32 0, .int .u32 0, .int .u32 0, .int .u32 0, .int .u32 0, .int .u32 0, .int .u32 0, .int .u32 0, .int .u32 0, .int .u32 0, .int .u32 0, .int .u32 0, .int .u32 0, .int .u32 0, .int .u32 0, .int .u32 0, .int .u32 0, .int .u32 0, .int .u32 0, .int .u32 0, .int .u32 0, .int .u32 0, .int .u32 0, .int .u32 0, .int .u32 0, .int .u32 0, .int .u32 0, .int .u32 0, .int .u32 0] : Array Value) := by kernel_rfl
set_option maxRecDepth 100000 in
theorem pl0_ref : pl0.ref.toArray = Try.zeroCells104 := by kernel_rfl

section
variable {R : Ending → World → Prop} {W0 w : World} {H : Hp} {A F : List Hp} {s : PlS}

theorem c_plLinesL {b o : Nat} {C : List Value} {x : Int} (t : Sat W0 w H (cellsH ⟨b, o, none⟩ C :: F)) (hC : s.enc = C) (hx : s.linesP = x) (k : ∀ w', Sat W0 w' H (cellsH ⟨b, o, none⟩ C :: F) → R (.returned (.int .u64 x)) w') :
    Calls Try.prog 94 #[.pointer (some ⟨b, o, none⟩)] w R := by
  subst hC hx; exact c_plLines t k
set_option maxRecDepth 100000 in
set_option maxHeartbeats 4000000 in
theorem c_plAwake (t : Sat W0 w H A) (k : ∀ w', Sat W0 w' H A → R (.returned (.bool true)) w') :
    Calls Try.prog 52 #[] w R := by
  have t1 := t.alloc (c := pl0.enc) (t := 98)
  rw [pl0_enc] at t1
  obtain ⟨Z, hZ⟩ : ∃ Z, w.heap.size = Z := ⟨_, rfl⟩
  rw [hZ] at t1
  obtain ⟨C0, hC0⟩ : ∃ C, pl0.enc = C := ⟨_, rfl⟩
  obtain ⟨C1, hC1⟩ : ∃ C, pl1.enc = C := ⟨_, rfl⟩
  obtain ⟨C2, hC2⟩ : ∃ C, pl2.enc = C := ⟨_, rfl⟩
  obtain ⟨C3, hC3⟩ : ∃ C, pl3.enc = C := ⟨_, rfl⟩
  obtain ⟨C4, hC4⟩ : ∃ C, pl4.enc = C := ⟨_, rfl⟩
  rw [hC0] at t1
  replace k := aside k
  clear t
  replace hC0 := aside hC0
  replace hC1 := aside hC1
  replace hC2 := aside hC2
  replace hC3 := aside hC3
  replace hC4 := aside hC4
  go_enter Try.func52, Try.ntmps52
  go_wp2_with fail
  refine c_plStoreL t1 hC0.out 4 4 1 (by omega) (by omega) (by omega) hC1.out pl0_st ?_
  intro w2 t2
  clear t1 hZ
  go_wp2_with fail
  refine c_plStoreL t2 hC1.out 8192 4 2 (by omega) (by omega) (by omega) hC2.out pl1_st ?_
  intro w3 t3
  clear t2
  go_wp2_with fail
  refine c_plLineL t3 hC2.out 1 true (by omega) hC3.out ?_
  intro w4 t4
  clear t3
  go_wp2_with fail
  refine c_plLinesL t4 hC3.out pl3_lines ?_
  intro w5 t5
  clear t4
  go_wp2_with fail
  refine c_plTakeL t5 hC3.out 0 (by omega) hC4.out pl3_take ?_
  intro w6 t6
  clear t5
  go_wp2_with fail
  refine c_plLinesL t6 hC4.out pl4_lines ?_
  intro w7 t7
  clear t6
  go_wp2
  exact k.out _ t7.tail1
end
end Go.Proofs.Ytohccblfnjampaa
