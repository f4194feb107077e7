/-
  VMMIO: registers of two queues as they begin, the program's and the document's.
-/
import Derived.Test.YtiibiamobkhlbaaUMc
import Derived.Deep.RegionHeld3
set_option linter.unusedVariables false
set_option linter.unusedSimpArgs false
namespace Go.Proofs.Ytiibiamobkhlbaa
open Go.RowKit
set_option linter.unusedVariables false
set_option linter.unusedSimpArgs false

def q0M : QuM := ⟨0, 0, 0, 0, false, 0, 0, false, false, by omega, by omega, by omega, by omega, by omega, by omega⟩
theorem q0M_vals : q0M.vals = q0L := rfl
def q0D : List Value := [.int .i64 0, .int .u64 0, .int .u64 0, .int .u64 0, .bool false, .int .i64 0, .int .i64 0, .bool false, .bool false]
def RegM.new (id off n : Nat) (sp : List Int) (h1 : id ≤ 4294967295) (h2 : off ≤ 18446744073709551615) (h3 : ∀ x ∈ sp, 0 ≤ x ∧ x ≤ 255) : RegM :=
  ⟨id, off, 0, 0, 0, 0, 0, 0, 0, List.replicate n q0M, sp, h1, h2, by omega, by omega, by omega, by omega, by omega, by omega, by omega, h3⟩
set_option maxRecDepth 100000 in
theorem or32_put {W : Nat} (h : W ≤ 18446744073709551615) : bits BinOp.or IntKind.u64 W 4294967296 = (putN W 32 1 1 : Nat) := by
  have h1 : (4294967296 : Int) = ((4294967296 : Nat) : Int) := rfl
  rw [h1, u64_or_nat _ _ (by omega) (by omega)]
  refine congrArg (fun n : Nat => (n : Int)) (Nat.eq_of_testBit_eq fun i => ?_)
  rw [putN_bit, Nat.testBit_or, show (4294967296 : Nat) = 2 ^ 32 by decide, Nat.testBit_two_pow]
  by_cases h64 : i < 64
  · rw [decide_eq_true h64, Bool.true_and]
    by_cases h32 : 32 = i
    · subst h32; simp
    · rw [if_neg (by omega), decide_eq_false h32, Bool.or_false]
  · rw [decide_eq_false h64, Bool.false_and, decide_eq_false (by omega), Bool.or_false]
    exact Nat.testBit_lt_two_pow (Nat.lt_of_lt_of_le (by omega : W < 2 ^ 64) (Nat.pow_le_pow_right (by omega) (by omega)))
theorem run_makeQ2 (w : World) : (Instr.makeSlice 112 (.int .i64 2) (.int .i64 2)).run Try.prog w = .ok (.slice (some ⟨w.heap.size, 0, none⟩) 2 2) (w.alloc (.cells #[.int .i64 0, .int .u64 0, .int .u64 0, .int .u64 0, .bool false, .int .u16 0, .int .u16 0, .bool false, .bool false, .int .i64 0, .int .u64 0, .int .u64 0, .int .u64 0, .bool false, .int .u16 0, .int .u16 0, .bool false, .bool false] 40)) := by
  obtain ⟨i0, hi, hz, hs1, hb1⟩ := info_q
  rw [run_make (P := Try.prog) w 112 40 i0 (.agg q0L.toArray) Try.underlying112 hi hz .i64 .i64 2 2 (by omega) (by omega) (by rw [hb1]; omega) (by omega), hs1]
  have e : madeCells (Value.agg q0L.toArray).cells 18 = #[.int .i64 0, .int .u64 0, .int .u64 0, .int .u64 0, .bool false, .int .u16 0, .int .u16 0, .bool false, .bool false, .int .i64 0, .int .u64 0, .int .u64 0, .int .u64 0, .bool false, .int .u16 0, .int .u16 0, .bool false, .bool false] := by kernel_rfl
  rw [show Int.toNat 2 * 9 = 18 from rfl, e]
  rfl
theorem info_qd : ∃ i, Try.prog.info? 27 = some i ∧ i.zero = some (.agg q0D.toArray) ∧ i.size = 9 ∧ i.bytes ≤ 100 := by
  have h : (Try.prog.info? 27).map (fun i => (i.zero, i.size, decide (i.bytes ≤ 100))) = some (some (.agg q0D.toArray), 9, true) := by kernel_rfl
  cases hi : Try.prog.info? 27 with
  | none => simp [hi] at h
  | some i => simp [hi] at h; exact ⟨i, rfl, h⟩
theorem run_makeQD2 (w : World) : (Instr.makeSlice 121 (.int .i64 2) (.int .i64 2)).run Try.prog w = .ok (.slice (some ⟨w.heap.size, 0, none⟩) 2 2) (w.alloc (.cells #[.int .i64 0, .int .u64 0, .int .u64 0, .int .u64 0, .bool false, .int .i64 0, .int .i64 0, .bool false, .bool false, .int .i64 0, .int .u64 0, .int .u64 0, .int .u64 0, .bool false, .int .i64 0, .int .i64 0, .bool false, .bool false] 27)) := by
  obtain ⟨i0, hi, hz, hs1, hb1⟩ := info_qd
  rw [run_make (P := Try.prog) w 121 27 i0 (.agg q0D.toArray) Try.underlying121 hi hz .i64 .i64 2 2 (by omega) (by omega) (by omega) (by omega), hs1]
  have e : madeCells (Value.agg q0D.toArray).cells 18 = #[.int .i64 0, .int .u64 0, .int .u64 0, .int .u64 0, .bool false, .int .i64 0, .int .i64 0, .bool false, .bool false, .int .i64 0, .int .u64 0, .int .u64 0, .int .u64 0, .bool false, .int .i64 0, .int .i64 0, .bool false, .bool false] := by kernel_rfl
  rw [show Int.toNat 2 * 9 = 18 from rfl, e]
  rfl

section
variable {R : Ending → World → Prop} {W0 w : World} {H : Hp} {A F : List Hp}

set_option maxRecDepth 100000 in
set_option maxHeartbeats 4000000 in
theorem c_vmmioNew2 (s : Sat W0 w H A) {id off : Nat} (hid : id ≤ 4294967295) (hoff : off ≤ 18446744073709551615) {hp : Hp} {v : Value} {ds : List Int} (rd : Rd u8E 1 hp v ds) (hh : Holds w hp) (hd : ds.length ≤ 1000) (hds : ∀ x ∈ ds, 0 ≤ x ∧ x ≤ 255) (hpo : putN off 32 1 1 ≤ 18446744073709551615)
    (k : ∀ w' rb (p : RegP), p.g = RegM.new id (putN off 32 1 1) 2 ds hid hpo hds → Sat W0 w' H (regL rb p ++ A) → R (.returned (.pointer (some ⟨rb, 0, none⟩))) w') :
    Calls Try.prog 71 #[.int .u32 id, .int .u64 off, .int .i64 2, v] w R := by
  obtain ⟨B, c, rfl, rd⟩ := rd.open_
  have hr : RowR w B (ds.map (Value.int .u8)) := by have := Rd.row hh rd ds.length; rwa [List.take_length] at this
  clear rd
  have hor := or32_put hoff
  replace k := aside k
  have hmk := run_makeQ2
  have s0 := s.alloc (c := []) (t := 5)
  obtain ⟨OF, hOF⟩ : ∃ y : Int, ((putN off 32 1 1 : Nat) : Int) = y := ⟨_, rfl⟩
  rw [hOF] at hor
  replace hOF := aside hOF
  go_enter Try.func71, Try.ntmps71
  go_wp2_with (at_builtin; refine append8 rfl (.tmp 13) (.tmp 14) rfl rfl (OwnS.zero 1 _) s0.emp rfl ds rfl (rowR_old (f := fun _ => ds.map (Value.int .u8)) (fun _ => hr) 0 _) (by omega) ?_; intro A6 c6 w6 h6 own6 s6)
  rw [Nat.zero_add] at own6
  have s7 := (s6.alloc (c := [.int .u32 id, .int .u64 OF, .int .u64 0, .int .u32 0, .int .u32 0, .int .u32 0, .slice (some ⟨w6.heap.size + 1, 0, none⟩) 2 2, .int .u32 0, .int .u32 0, .int .u32 0, .slice A6 ds.length c6]) (t := 114)).alloc (c := q0L ++ q0L) (t := 40)
  simp only [World.size_alloc] at s7
  have s8 := s7.split
  have s9 : Sat W0 _ H (cellsH ⟨w6.heap.size, 0, none⟩ [.int .u32 id, .int .u64 OF, .int .u64 0, .int .u32 0, .int .u32 0, .int .u32 0, .slice (some ⟨w6.heap.size + 1, 0, none⟩) 2 2, .int .u32 0, .int .u32 0, .int .u32 0, .slice A6 ds.length c6] :: h6 :: cellsH ⟨w6.heap.size + 1, 0, none⟩ q0L :: cellsH ⟨w6.heap.size + 1, 0 + q0L.length, none⟩ q0L :: A) := s8.wk
  obtain rfl := hOF.out
  refine k.out _ w6.heap.size ⟨RegM.new id (putN off 32 1 1) 2 ds hid hpo hds, w6.heap.size + 1, 2, .slice A6 ds.length c6, h6, own6, by simp [RegM.new]⟩ rfl ?_
  exact s9
theorem c_vmmioNew2i (s : Sat W0 w H A) {id off : Nat} {idi offi : Int} (e1 : idi = id) (e2 : offi = off) (hid : id ≤ 4294967295) (hoff : off ≤ 18446744073709551615) {hp : Hp} {v : Value} {ds : List Int} (rd : Rd u8E 1 hp v ds) (hh : Holds w hp) (hd : ds.length ≤ 1000) (hds : ∀ x ∈ ds, 0 ≤ x ∧ x ≤ 255) (hpo : putN off 32 1 1 ≤ 18446744073709551615)
    (k : ∀ w' rb (p : RegP), p.g = RegM.new id (putN off 32 1 1) 2 ds hid hpo hds → Sat W0 w' H (regL rb p ++ A) → R (.returned (.pointer (some ⟨rb, 0, none⟩))) w') :
    Calls Try.prog 71 #[.int .u32 idi, .int .u64 offi, .int .i64 2, v] w R := by
  subst e1 e2
  exact c_vmmioNew2 s hid hoff rd hh hd hds hpo k
end
end Go.Proofs.Ytiibiamobkhlbaa
