/-
  A queue's layout (api.Layout) as it lies.
-/
import Derived.Test.YtippipfogbgemaaVc
import Derived.Test.YtippipfogbgemaaVe
namespace Go.Proofs.Ytippipfogbgemaa
open Go.RowKit
set_option linter.unusedVariables false

structure LayM where
  n : Int
  d : Int
  a : Int
  u : Int
  hn : -9223372036854775808 ≤ n ∧ n ≤ 9223372036854775807
  hd : 0 ≤ d ∧ d ≤ 18446744073709551615
  ha : 0 ≤ a ∧ a ≤ 18446744073709551615
  hu : 0 ≤ u ∧ u ≤ 18446744073709551615
def LayM.vals (l : LayM) : List Value := [.int .i64 l.n, .int .u64 l.d, .int .u64 l.a, .int .u64 l.u]
def layE : El LayM := fun _ l vs => vs = l.vals

theorem opn_lay : Opn Try.prog 46 layE :=
  opn_struct Try.underlying46 fun H enc w fuel cs hlen hf => by
    obtain ⟨y0, h0⟩ := hf 0 _ rfl
    obtain ⟨y1, h1⟩ := hf 1 _ rfl
    obtain ⟨y2, h2⟩ := hf 2 _ rfl
    obtain ⟨y3, h3⟩ := hf 3 _ rfl
    obtain ⟨n, hn, hn1⟩ := opn_i64 Try.underlying3 H enc w fuel _ y0.1 y0.2 h0
    obtain ⟨d, hd, hd1⟩ := opn_u64 Try.underlying25 H enc w fuel _ y1.1 y1.2 h1
    obtain ⟨a, ha, ha1⟩ := opn_u64 Try.underlying25 H enc w fuel _ y2.1 y2.2 h2
    obtain ⟨u, hu, hu1⟩ := opn_u64 Try.underlying25 H enc w fuel _ y3.1 y3.2 h3
    have e : Try.prog.cellsOf 46 = 4 := by kernel_rfl
    have e1 : Try.prog.cellsOf 25 = 1 := by kernel_rfl
    have e2 : Try.prog.cellsOf 3 = 1 := by kernel_rfl
    rw [e] at hlen
    obtain ⟨c0, c1, c2, c3, rfl⟩ := len4 hlen
    rw [e2] at hn
    rw [e1] at hd ha hu
    obtain rfl : c0 = .int .i64 n := (List.cons.inj hn).1
    obtain rfl : c1 = .int .u64 d := (List.cons.inj hd).1
    obtain rfl : c2 = .int .u64 a := (List.cons.inj ha).1
    obtain rfl : c3 = .int .u64 u := (List.cons.inj hu).1
    exact ⟨⟨n, d, a, u, hn1, hd1, ha1, hu1⟩, rfl⟩
end Go.Proofs.Ytippipfogbgemaa
