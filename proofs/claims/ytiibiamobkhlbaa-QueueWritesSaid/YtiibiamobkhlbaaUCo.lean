/-
  CHAIN: bytes to be written through a chain, as an argument; whether a place lies in what may be written.
-/
import Derived.Test.YtiibiamobkhlbaaG1
import Derived.Test.YtiibiamobkhlbaaG3
set_option linter.unusedVariables false
set_option linter.unusedSimpArgs false
namespace Go.Proofs.Ytiibiamobkhlbaa
open Go.RowKit
set_option linter.unusedVariables false

structure WriteM where
  From : Int
  Data : List Int
  hFrom : 0 ≤ From ∧ From ≤ 18446744073709551615
def WriteM.vals (o : WriteM) (DataV : Value): List Value := [.int .u64 o.From, DataV]
def writeE : El WriteM := fun h o vs => ∃ DataV, vs = o.vals DataV ∧ Rd u8E 1 h DataV o.Data
def inAny (l : List SegM) (y : Int) : Bool := l.any fun x => x.2.2 && (decide (x.1 ≤ y) && decide (y - x.1 < x.2.1))
theorem inAny_one {l : List SegM} {i : Nat} (y : Int) (h : i < l.length) : inAny (l.take (i + 1)) y = (inAny (l.take i) y || (l[i].2.2 && (decide (l[i].1 ≤ y) && decide (y - l[i].1 < l[i].2.1)))) := by
  rw [List.take_succ_eq_append_getElem h]; unfold inAny; rw [List.any_append]; simp only [List.any_cons, List.any_nil, Bool.or_false]
theorem inAny_true {l : List SegM} {y : Int} (h : ∃ x ∈ l, x.2.2 = true ∧ x.1 ≤ y ∧ y < x.1 + x.2.1) : inAny l y = true := by
  obtain ⟨x, hx, h1, h2, h3⟩ := h
  rw [inAny, List.any_eq_true]
  refine ⟨x, hx, ?_⟩
  rw [h1, decide_eq_true h2, decide_eq_true (show y - x.1 < x.2.1 by omega)]
  rfl
end Go.Proofs.Ytiibiamobkhlbaa
