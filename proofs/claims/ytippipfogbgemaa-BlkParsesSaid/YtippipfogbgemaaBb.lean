/-
  BLK: a device's registers as they begin.
-/
import Derived.Test.YtippipfogbgemaaVe
namespace Go.Proofs.Ytippipfogbgemaa
open Go.RowKit
set_option linter.unusedVariables false
set_option linter.unusedSimpArgs false

def q0L : List Value := [.int .i64 0, .int .u64 0, .int .u64 0, .int .u64 0, .bool false, .int .u16 0, .int .u16 0, .bool false, .bool false]
theorem info_q : ∃ i, Try.prog.info? 111 = some i ∧ i.zero = some (.agg q0L.toArray) ∧ i.size = 9 ∧ i.bytes = 40 := by
  have h : (Try.prog.info? 111).map (fun i => (i.zero, i.size, i.bytes)) = some (some (.agg q0L.toArray), 9, 40) := by kernel_rfl
  cases hi : Try.prog.info? 111 with
  | none => simp [hi] at h
  | some i => simp [hi] at h; exact ⟨i, rfl, h⟩
theorem run_makeQ (w : World) : (Instr.makeSlice 227 (.int .i64 1) (.int .i64 1)).run Try.prog w = .ok (.slice (some ⟨w.heap.size, 0, none⟩) 1 1) (w.alloc (.cells #[.int .i64 0, .int .u64 0, .int .u64 0, .int .u64 0, .bool false, .int .u16 0, .int .u16 0, .bool false, .bool false] 111)) := by
  obtain ⟨i0, hi, hz, hs1, hb1⟩ := info_q
  rw [run_make (P := Try.prog) w 227 111 i0 (.agg q0L.toArray) Try.underlying227 hi hz .i64 .i64 1 1 (by omega) (by omega) (by rw [hb1]; omega) (by omega), hs1]
  have e : madeCells (Value.agg q0L.toArray).cells 9 = #[.int .i64 0, .int .u64 0, .int .u64 0, .int .u64 0, .bool false, .int .u16 0, .int .u16 0, .bool false, .bool false] := by kernel_rfl
  rw [show Int.toNat 1 * 9 = 9 from rfl, e]
  rfl

section
variable {R : Ending → World → Prop} {W0 w : World} {H : Hp} {A F : List Hp}

set_option maxRecDepth 100000 in
set_option maxHeartbeats 4000000 in
theorem c_vmmioNew (s : Sat W0 w H A) {id off off' : Int} (hoff : bits BinOp.or IntKind.u64 off 4294967296 = off') {hp : Hp} {v : Value} {ds : List Int} (rd : Rd u8E 1 hp v ds) (hh : Holds w hp) (hd : ds.length ≤ 1000)
    (k : ∀ w' rb qb sv h, OwnS 1 sv ds.length (ds.map (Value.int .u8)) h → Sat W0 w' H (cellsH ⟨rb, 0, none⟩ [.int .u32 id, .int .u64 off', .int .u64 0, .int .u32 0, .int .u32 0, .int .u32 0, .slice (some ⟨qb, 0, none⟩) 1 1, .int .u32 0, .int .u32 0, .int .u32 0, sv] :: cellsH ⟨qb, 0, none⟩ q0L :: h :: A) → R (.returned (.pointer (some ⟨rb, 0, none⟩))) w') :
    Calls Try.prog 89 #[.int .u32 id, .int .u64 off, .int .i64 1, v] w R := by
  obtain ⟨B, c, rfl, rd⟩ := rd.open_
  have hr : RowR w B (ds.map (Value.int .u8)) := by have := Rd.row hh rd ds.length; rwa [List.take_length] at this
  clear rd
  replace k := aside k
  have hmk := run_makeQ
  have s0 := s.alloc (c := []) (t := 5)
  go_enter Try.func89, Try.ntmps89
  go_wp2_with (at_builtin; refine append8 rfl (.tmp 13) (.tmp 14) rfl rfl (OwnS.zero 1 _) s0.emp rfl ds rfl (rowR_old (f := fun _ => ds.map (Value.int .u8)) (fun _ => hr) 0 _) (by omega) ?_; intro A6 c6 w6 h6 own6 s6)
  rw [Nat.zero_add] at own6
  have s7 := (s6.alloc (c := [.int .u32 id, .int .u64 off', .int .u64 0, .int .u32 0, .int .u32 0, .int .u32 0, .slice (some ⟨w6.heap.size + 1, 0, none⟩) 1 1, .int .u32 0, .int .u32 0, .int .u32 0, .slice A6 ds.length c6]) (t := 229)).alloc (c := q0L) (t := 111)
  simp only [World.size_alloc] at s7
  exact k.out _ w6.heap.size (w6.heap.size + 1) _ h6 own6 s7.wk
end
end Go.Proofs.Ytippipfogbgemaa
