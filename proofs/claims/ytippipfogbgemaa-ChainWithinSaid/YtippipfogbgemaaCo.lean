/-
  CHAIN: bytes to be written through a chain, as an argument; whether a place lies in what may be written.
-/
import Derived.Test.YtippipfogbgemaaVc
import Derived.Test.YtippipfogbgemaaCm
namespace Go.Proofs.Ytippipfogbgemaa
open Go.RowKit
set_option linter.unusedVariables false

structure WriteM where
  From : Int
  Data : List Int
  hFrom : 0 ≤ From ∧ From ≤ 18446744073709551615
def WriteM.vals (o : WriteM) (DataV : Value): List Value := [.int .u64 o.From, DataV]
def writeE : El WriteM := fun h o vs => ∃ DataV, vs = o.vals DataV ∧ Rd u8E 1 h DataV o.Data
theorem opn_write : Opn Try.prog 74 writeE :=
  opn_struct Try.underlying74 fun H enc w fuel cs hlen hf => by
    obtain ⟨y0, h0⟩ := hf 0 _ rfl
    obtain ⟨y1, h1⟩ := hf 1 _ rfl
    obtain ⟨x0, g0, b0⟩ := opn_u64 Try.underlying25 H enc w fuel _ y0.1 y0.2 h0
    obtain ⟨x1, v1, g1, r1⟩ := opn_slice (size := 1) Try.underlying36 (by kernel_rfl) (by decide) (opn_u8 Try.underlying5) H enc w fuel _ y1.1 y1.2 h1
    have e : Try.prog.cellsOf 74 = 2 := by kernel_rfl
    have e0 : Try.prog.cellsOf 25 = 1 := by kernel_rfl
    have e1 : Try.prog.cellsOf 36 = 1 := by kernel_rfl
    rw [e] at hlen
    rw [e0] at g0
    rw [e1] at g1
    obtain ⟨c0, c1, rfl⟩ := len2 hlen
    obtain rfl : c0 = .int .u64 x0 := (List.cons.inj g0).1
    obtain rfl := (List.cons.inj g1).1
    exact ⟨⟨x0, x1, b0⟩, _, rfl, r1⟩

def inAny (l : List SegM) (y : Int) : Bool := l.any fun x => x.2.2 && (decide (x.1 ≤ y) && decide (y - x.1 < x.2.1))
theorem inAny_one {l : List SegM} {i : Nat} (y : Int) (h : i < l.length) : inAny (l.take (i + 1)) y = (inAny (l.take i) y || (l[i].2.2 && (decide (l[i].1 ≤ y) && decide (y - l[i].1 < l[i].2.1)))) := by
  rw [List.take_succ_eq_append_getElem h]; unfold inAny; rw [List.any_append]; simp only [List.any_cons, List.any_nil, Bool.or_false]
theorem inAny_true {l : List SegM} {y : Int} (h : ∃ x ∈ l, x.2.2 = true ∧ x.1 ≤ y ∧ y < x.1 + x.2.1) : inAny l y = true := by
  obtain ⟨x, hx, h1, h2, h3⟩ := h
  rw [inAny, List.any_eq_true]
  refine ⟨x, hx, ?_⟩
  rw [h1, decide_eq_true h2, decide_eq_true (show y - x.1 < x.2.1 by omega)]
  rfl
end Go.Proofs.Ytippipfogbgemaa
