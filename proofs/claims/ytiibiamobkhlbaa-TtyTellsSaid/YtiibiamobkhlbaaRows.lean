/-
  No cell of these rows narrows 'for every input' (looked for: loops, veiled, ifaces, maps, wideKeys, modest, calm, conditions, laid).
  DERIVED. THE GIVEN ROWS OF THIS SEAT. 7 by the template 'for every input the law returns true; each argument reads behind the call as it read before'; 0 by the template 'total and deterministic' (their statements: YtiibiamobkhlbaaTotals.lean).
  GIVEN WITH THE SEED: the statements are not yours to turn. If you find one false, say at which input.
  Laid BY PROGRAM, IN A SANDBOX (cutbox-rows.mjs): the forced cells as the released guide's own fill.sh prints them over the translation bc3576cbf065932b… (all of the seat's roots in one cut). By AI agents, Wed Nov 11 2026. No macro, syntax, notation, axiom, sorry.
-/
import Derived.Test.YtiibiamobkhlbaaChecked
import GoSem.Claim
import GoSem.ClaimJoined
import GoSem.ClaimMapViews
import Derived.JoinedTies
import Derived.KernelRfl
namespace Go.Proofs.Ytiibiamobkhlbaa
/- THE CELL 'sum', in the pinned program and in every row, IS THE sha256 OF THE DUMP (.gsa) THAT YtiibiamobkhlbaaProg.lean LOADS. Nothing in Lean hashes anything: it is a label: what it is worth is what the hold of that sum in a sandbox is worth. -/
noncomputable def Try.pinned : Pinned := { name := "ytiibiamobkhlbaa", sum := "bc3576cbf065932bbe8417fe092723a1fd7ef7f1fde2ac4fdbb2a1164ce6908a", checked := Try.checked }
namespace Rows
def none {H : Type} : Left H := { results := [], args := [] }

/-- 'vireolaw17.QueueHeads': WHATEVER THE INPUT: true; the input reads as it did. -/
def queueHeadsSpec : ChangeSpec := { name := "queueHeads", fn := fun _ => fun
  | [d1, d2, d3] => { results := [.lit (.bool true)], args := [d1, d2, d3] }
  | _ => none }
def queueHeadsRow : OpenClaim := { program := "ytiibiamobkhlbaa", sum := "bc3576cbf065932bbe8417fe092723a1fd7ef7f1fde2ac4fdbb2a1164ce6908a", func := "vireo/vireolaw17.QueueHeads", spec := "queueHeads", unfollowed := true, recurses := true, apart := false }
def QueueHeadsSaid : Prop := queueHeadsRow.holds Try.pinned (OpenSpec.ofChange queueHeadsSpec)

/-- ITS FALSE NEIGHBOUR: 'it returns false'. Refute it at one input. -/
def queueHeadsWrong : ChangeSpec := { name := "queueHeads", fn := fun _ => fun
  | [d1, d2, d3] => { results := [.lit (.bool false)], args := [d1, d2, d3] }
  | _ => none }
def QueueHeadsWrongFalsely : Prop := queueHeadsRow.holds Try.pinned (OpenSpec.ofChange queueHeadsWrong)

/-- 'vireolaw19.BlkRefuses': WHATEVER THE INPUT: true; the input reads as it did. -/
def blkRefusesSpec : ChangeSpec := { name := "blkRefuses", fn := fun _ => fun
  | [d1, d2, d3] => { results := [.lit (.bool true)], args := [d1, d2, d3] }
  | _ => none }
def blkRefusesRow : OpenClaim := { program := "ytiibiamobkhlbaa", sum := "bc3576cbf065932bbe8417fe092723a1fd7ef7f1fde2ac4fdbb2a1164ce6908a", func := "vireo/vireolaw19.BlkRefuses", spec := "blkRefuses", apart := false }
def BlkRefusesSaid : Prop := blkRefusesRow.holds Try.pinned (OpenSpec.ofChange blkRefusesSpec)

/-- ITS FALSE NEIGHBOUR: 'it returns false'. Refute it at one input. -/
def blkRefusesWrong : ChangeSpec := { name := "blkRefuses", fn := fun _ => fun
  | [d1, d2, d3] => { results := [.lit (.bool false)], args := [d1, d2, d3] }
  | _ => none }
def BlkRefusesWrongFalsely : Prop := blkRefusesRow.holds Try.pinned (OpenSpec.ofChange blkRefusesWrong)

/-- 'vireolaw17.QueueWrites': WHATEVER THE INPUT: true; the input reads as it did. -/
def queueWritesSpec : ChangeSpec := { name := "queueWrites", fn := fun _ => fun
  | [d1, d2, d3] => { results := [.lit (.bool true)], args := [d1, d2, d3] }
  | _ => none }
def queueWritesRow : OpenClaim := { program := "ytiibiamobkhlbaa", sum := "bc3576cbf065932bbe8417fe092723a1fd7ef7f1fde2ac4fdbb2a1164ce6908a", func := "vireo/vireolaw17.QueueWrites", spec := "queueWrites", unfollowed := true, recurses := true, apart := false }
def QueueWritesSaid : Prop := queueWritesRow.holds Try.pinned (OpenSpec.ofChange queueWritesSpec)

/-- ITS FALSE NEIGHBOUR: 'it returns false'. Refute it at one input. -/
def queueWritesWrong : ChangeSpec := { name := "queueWrites", fn := fun _ => fun
  | [d1, d2, d3] => { results := [.lit (.bool false)], args := [d1, d2, d3] }
  | _ => none }
def QueueWritesWrongFalsely : Prop := queueWritesRow.holds Try.pinned (OpenSpec.ofChange queueWritesWrong)

/-- 'vireolaw17.QueueTells': WHATEVER THE INPUT: true; the input reads as it did. -/
def queueTellsSpec : ChangeSpec := { name := "queueTells", fn := fun _ => fun
  | [d1, d2, d3] => { results := [.lit (.bool true)], args := [d1, d2, d3] }
  | _ => none }
def queueTellsRow : OpenClaim := { program := "ytiibiamobkhlbaa", sum := "bc3576cbf065932bbe8417fe092723a1fd7ef7f1fde2ac4fdbb2a1164ce6908a", func := "vireo/vireolaw17.QueueTells", spec := "queueTells", unfollowed := true, recurses := true, apart := false }
def QueueTellsSaid : Prop := queueTellsRow.holds Try.pinned (OpenSpec.ofChange queueTellsSpec)

/-- ITS FALSE NEIGHBOUR: 'it returns false'. Refute it at one input. -/
def queueTellsWrong : ChangeSpec := { name := "queueTells", fn := fun _ => fun
  | [d1, d2, d3] => { results := [.lit (.bool false)], args := [d1, d2, d3] }
  | _ => none }
def QueueTellsWrongFalsely : Prop := queueTellsRow.holds Try.pinned (OpenSpec.ofChange queueTellsWrong)

/-- 'vireolaw19.BlkUses': WHATEVER THE INPUT: true; the input reads as it did. -/
def blkUsesSpec : ChangeSpec := { name := "blkUses", fn := fun _ => fun
  | [d1, d2, d3] => { results := [.lit (.bool true)], args := [d1, d2, d3] }
  | _ => none }
def blkUsesRow : OpenClaim := { program := "ytiibiamobkhlbaa", sum := "bc3576cbf065932bbe8417fe092723a1fd7ef7f1fde2ac4fdbb2a1164ce6908a", func := "vireo/vireolaw19.BlkUses", spec := "blkUses", apart := false }
def BlkUsesSaid : Prop := blkUsesRow.holds Try.pinned (OpenSpec.ofChange blkUsesSpec)

/-- ITS FALSE NEIGHBOUR: 'it returns false'. Refute it at one input. -/
def blkUsesWrong : ChangeSpec := { name := "blkUses", fn := fun _ => fun
  | [d1, d2, d3] => { results := [.lit (.bool false)], args := [d1, d2, d3] }
  | _ => none }
def BlkUsesWrongFalsely : Prop := blkUsesRow.holds Try.pinned (OpenSpec.ofChange blkUsesWrong)

/-- 'vireolaw19.BlkTells': WHATEVER THE INPUT: true; the input reads as it did. -/
def blkTellsSpec : ChangeSpec := { name := "blkTells", fn := fun _ => fun
  | [d1, d2] => { results := [.lit (.bool true)], args := [d1, d2] }
  | _ => none }
def blkTellsRow : OpenClaim := { program := "ytiibiamobkhlbaa", sum := "bc3576cbf065932bbe8417fe092723a1fd7ef7f1fde2ac4fdbb2a1164ce6908a", func := "vireo/vireolaw19.BlkTells", spec := "blkTells", apart := false }
def BlkTellsSaid : Prop := blkTellsRow.holds Try.pinned (OpenSpec.ofChange blkTellsSpec)

/-- ITS FALSE NEIGHBOUR: 'it returns false'. Refute it at one input. -/
def blkTellsWrong : ChangeSpec := { name := "blkTells", fn := fun _ => fun
  | [d1, d2] => { results := [.lit (.bool false)], args := [d1, d2] }
  | _ => none }
def BlkTellsWrongFalsely : Prop := blkTellsRow.holds Try.pinned (OpenSpec.ofChange blkTellsWrong)

/-- 'vireolaw20.TtyTells': WHATEVER THE INPUT: true; the input reads as it did. -/
def ttyTellsSpec : ChangeSpec := { name := "ttyTells", fn := fun _ => fun
  | [d] => { results := [.lit (.bool true)], args := [d] }
  | _ => none }
def ttyTellsRow : OpenClaim := { program := "ytiibiamobkhlbaa", sum := "bc3576cbf065932bbe8417fe092723a1fd7ef7f1fde2ac4fdbb2a1164ce6908a", func := "vireo/vireolaw20.TtyTells", spec := "ttyTells", unfollowed := true, recurses := true, apart := false }
def TtyTellsSaid : Prop := ttyTellsRow.holds Try.pinned (OpenSpec.ofChange ttyTellsSpec)

/-- ITS FALSE NEIGHBOUR: 'it returns false'. Refute it at one input. -/
def ttyTellsWrong : ChangeSpec := { name := "ttyTells", fn := fun _ => fun
  | [d] => { results := [.lit (.bool false)], args := [d] }
  | _ => none }
def TtyTellsWrongFalsely : Prop := ttyTellsRow.holds Try.pinned (OpenSpec.ofChange ttyTellsWrong)

/- THE SECOND FORM. 'bulk': how many values and letters a reading holds, each counted each time it is reached (what is shared counts as often as it is met; a slice's spare places count too). A statement '..UptoSaid' is the law's where the arguments, and the package variables that the reading takes, are together of bulk at most 1048576: NARROWER than '..Said'. Prove '..Said' where nothing that the law and all that it calls make is longer than what came in: it says more and counts as full. Else prove '..UptoSaid'. A law counts once. -/
mutual
def uptoBulk {H : Type} : DataW H → Nat
  | .lit (.string bytes) => bytes.length + 1
  | .lit _ => 1
  | .nil => 1
  | .ptr d => uptoBulk d + 1
  | .slice elems spare => uptoBulkAll elems + uptoBulkAll spare + 1
  | .agg parts => uptoBulkAll parts + 1
  | .iface _ d => uptoBulk d + 1
  | .map entries => uptoBulkEntries entries + 1
  | .held _ => 1
def uptoBulkAll {H : Type} : List (DataW H) → Nat
  | [] => 0
  | d :: r => uptoBulk d + uptoBulkAll r
def uptoBulkEntries {H : Type} : List (Lit × DataW H) → Nat
  | [] => 0
  | x :: r => uptoBulkEntry x + uptoBulkEntries r
def uptoBulkEntry {H : Type} : Lit × DataW H → Nat
  | (.string bytes, d) => bytes.length + uptoBulk d + 1
  | (_, d) => uptoBulk d + 1
 end
def uptoSmall : (H : Type) → List (DataW H) → Bool := fun _ ds => decide (uptoBulkAll ds ≤ 1048576)
def OpenSpec.upto (s : _root_.Go.ChangeSpec) : _root_.Go.OpenSpec := { _root_.Go.OpenSpec.ofChange s with cond := some uptoSmall }

/-- 'vireolaw17.QueueHeads', WHERE WHAT IT READS IS OF BULK AT MOST 1048576: true; the input reads as it did. -/
def queueHeadsUptoRow : OpenClaim := { program := "ytiibiamobkhlbaa", sum := "bc3576cbf065932bbe8417fe092723a1fd7ef7f1fde2ac4fdbb2a1164ce6908a", func := "vireo/vireolaw17.QueueHeads", spec := "queueHeads", unfollowed := true, recurses := true, apart := false, narrowed := true }
def QueueHeadsUptoSaid : Prop := queueHeadsUptoRow.holds Try.pinned (OpenSpec.upto queueHeadsSpec)

/-- 'vireolaw19.BlkRefuses', WHERE WHAT IT READS IS OF BULK AT MOST 1048576: true; the input reads as it did. -/
def blkRefusesUptoRow : OpenClaim := { program := "ytiibiamobkhlbaa", sum := "bc3576cbf065932bbe8417fe092723a1fd7ef7f1fde2ac4fdbb2a1164ce6908a", func := "vireo/vireolaw19.BlkRefuses", spec := "blkRefuses", apart := false, narrowed := true }
def BlkRefusesUptoSaid : Prop := blkRefusesUptoRow.holds Try.pinned (OpenSpec.upto blkRefusesSpec)

/-- 'vireolaw17.QueueWrites', WHERE WHAT IT READS IS OF BULK AT MOST 1048576: true; the input reads as it did. -/
def queueWritesUptoRow : OpenClaim := { program := "ytiibiamobkhlbaa", sum := "bc3576cbf065932bbe8417fe092723a1fd7ef7f1fde2ac4fdbb2a1164ce6908a", func := "vireo/vireolaw17.QueueWrites", spec := "queueWrites", unfollowed := true, recurses := true, apart := false, narrowed := true }
def QueueWritesUptoSaid : Prop := queueWritesUptoRow.holds Try.pinned (OpenSpec.upto queueWritesSpec)

/-- 'vireolaw17.QueueTells', WHERE WHAT IT READS IS OF BULK AT MOST 1048576: true; the input reads as it did. -/
def queueTellsUptoRow : OpenClaim := { program := "ytiibiamobkhlbaa", sum := "bc3576cbf065932bbe8417fe092723a1fd7ef7f1fde2ac4fdbb2a1164ce6908a", func := "vireo/vireolaw17.QueueTells", spec := "queueTells", unfollowed := true, recurses := true, apart := false, narrowed := true }
def QueueTellsUptoSaid : Prop := queueTellsUptoRow.holds Try.pinned (OpenSpec.upto queueTellsSpec)

/-- 'vireolaw19.BlkUses', WHERE WHAT IT READS IS OF BULK AT MOST 1048576: true; the input reads as it did. -/
def blkUsesUptoRow : OpenClaim := { program := "ytiibiamobkhlbaa", sum := "bc3576cbf065932bbe8417fe092723a1fd7ef7f1fde2ac4fdbb2a1164ce6908a", func := "vireo/vireolaw19.BlkUses", spec := "blkUses", apart := false, narrowed := true }
def BlkUsesUptoSaid : Prop := blkUsesUptoRow.holds Try.pinned (OpenSpec.upto blkUsesSpec)

/-- 'vireolaw19.BlkTells', WHERE WHAT IT READS IS OF BULK AT MOST 1048576: true; the input reads as it did. -/
def blkTellsUptoRow : OpenClaim := { program := "ytiibiamobkhlbaa", sum := "bc3576cbf065932bbe8417fe092723a1fd7ef7f1fde2ac4fdbb2a1164ce6908a", func := "vireo/vireolaw19.BlkTells", spec := "blkTells", apart := false, narrowed := true }
def BlkTellsUptoSaid : Prop := blkTellsUptoRow.holds Try.pinned (OpenSpec.upto blkTellsSpec)

/-- 'vireolaw20.TtyTells', WHERE WHAT IT READS IS OF BULK AT MOST 1048576: true; the input reads as it did. -/
def ttyTellsUptoRow : OpenClaim := { program := "ytiibiamobkhlbaa", sum := "bc3576cbf065932bbe8417fe092723a1fd7ef7f1fde2ac4fdbb2a1164ce6908a", func := "vireo/vireolaw20.TtyTells", spec := "ttyTells", unfollowed := true, recurses := true, apart := false, narrowed := true }
def TtyTellsUptoSaid : Prop := ttyTellsUptoRow.holds Try.pinned (OpenSpec.upto ttyTellsSpec)

end Rows
end Go.Proofs.Ytiibiamobkhlbaa
