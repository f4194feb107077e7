/-
  RING: what is told, as an argument.
-/
import Derived.Test.YtohccblfnjampaaVc
import Derived.Test.YtohccblfnjampaaVe
namespace Go.Proofs.Ytohccblfnjampaa
open Go.RowKit
set_option linter.unusedVariables false

structure ToldM where
  kind : Int
  n : Int
  id : Int
  count : Int
  hkind : -9223372036854775808 ≤ kind ∧ kind ≤ 9223372036854775807
  hn : 0 ≤ n ∧ n ≤ 65535
  hid : 0 ≤ id ∧ id ≤ 65535
  hcount : 0 ≤ count ∧ count ≤ 4294967295
def ToldM.vals (o : ToldM) : List Value := [.int .i64 o.kind, .int .u16 o.n, .int .u16 o.id, .int .u32 o.count]
def toldE : El ToldM := fun _ o vs => vs = o.vals
theorem opn_told : Opn Try.prog 118 toldE :=
  opn_struct Try.underlying118 fun H enc w fuel cs hlen hf => by
    obtain ⟨y0, h0⟩ := hf 0 _ rfl
    obtain ⟨y1, h1⟩ := hf 1 _ rfl
    obtain ⟨y2, h2⟩ := hf 2 _ rfl
    obtain ⟨y3, h3⟩ := hf 3 _ rfl
    obtain ⟨x0, g0, b0⟩ := opn_i64 Try.underlying3 H enc w fuel _ y0.1 y0.2 h0
    obtain ⟨x1, g1, b1⟩ := opn_u16 Try.underlying59 H enc w fuel _ y1.1 y1.2 h1
    obtain ⟨x2, g2, b2⟩ := opn_u16 Try.underlying59 H enc w fuel _ y2.1 y2.2 h2
    obtain ⟨x3, g3, b3⟩ := opn_u32 Try.underlying85 H enc w fuel _ y3.1 y3.2 h3
    have e : Try.prog.cellsOf 118 = 4 := by kernel_rfl
    have e0 : Try.prog.cellsOf 3 = 1 := by kernel_rfl
    have e1 : Try.prog.cellsOf 59 = 1 := by kernel_rfl
    have e2 : Try.prog.cellsOf 85 = 1 := by kernel_rfl
    rw [e] at hlen
    rw [e0] at g0
    rw [e1] at g1
    rw [e1] at g2
    rw [e2] at g3
    obtain ⟨c0, c1, c2, c3, rfl⟩ := len4 hlen
    obtain rfl : c0 = .int .i64 x0 := (List.cons.inj g0).1
    obtain rfl : c1 = .int .u16 x1 := (List.cons.inj g1).1
    obtain rfl : c2 = .int .u16 x2 := (List.cons.inj g2).1
    obtain rfl : c3 = .int .u32 x3 := (List.cons.inj g3).1
    exact ⟨⟨x0, x1, x2, x3, b0, b1, b2, b3⟩, rfl⟩
end Go.Proofs.Ytohccblfnjampaa
