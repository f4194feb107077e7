/-
  No cell of these rows narrows 'for every input' (looked for: loops, veiled, ifaces, maps, wideKeys, modest, calm, conditions, laid).
  DERIVED. THE GIVEN ROWS OF THIS SEAT. 12 by the template 'for every input the law returns true; each argument reads behind the call as it read before'; 0 by the template 'total and deterministic' (their statements: YtippipfogbgemaaTotals.lean).
  GIVEN WITH THE SEED: the statements are not yours to turn. If you find one false, say at which input.
  Laid BY PROGRAM, IN A SANDBOX (cutbox-rows.mjs): the forced cells as the released guide's own fill.sh prints them over the translation 7c890eb08f94348c… (all of the seat's roots in one cut). By AI agents, Wed Nov 11 2026. No macro, syntax, notation, axiom, sorry.
-/
import Derived.Test.YtippipfogbgemaaChecked
import GoSem.Claim
import GoSem.ClaimJoined
import GoSem.ClaimMapViews
import Derived.JoinedTies
import Derived.KernelRfl
namespace Go.Proofs.Ytippipfogbgemaa
/- THE CELL 'sum', in the pinned program and in every row, IS THE sha256 OF THE DUMP (.gsa) THAT YtippipfogbgemaaProg.lean LOADS. Nothing in Lean hashes anything: it is a label: what it is worth is what the hold of that sum in a sandbox is worth. -/
noncomputable def Try.pinned : Pinned := { name := "ytippipfogbgemaa", sum := "7c890eb08f94348c2a2c640663573473c00a0996a21b168842da9fb77f3bfdd5", checked := Try.checked }
namespace Rows
def none {H : Type} : Left H := { results := [], args := [] }

/-- 'vireolaw02.RamCopies': WHATEVER THE INPUT: true; the input reads as it did. -/
def ramCopiesSpec : ChangeSpec := { name := "ramCopies", fn := fun _ => fun
  | [d1, d2, d3] => { results := [.lit (.bool true)], args := [d1, d2, d3] }
  | _ => none }
def ramCopiesRow : OpenClaim := { program := "ytippipfogbgemaa", sum := "7c890eb08f94348c2a2c640663573473c00a0996a21b168842da9fb77f3bfdd5", func := "vireo/vireolaw02.RamCopies", spec := "ramCopies", apart := false }
def RamCopiesSaid : Prop := ramCopiesRow.holds Try.pinned (OpenSpec.ofChange ramCopiesSpec)

/-- ITS FALSE NEIGHBOUR: 'it returns false'. Refute it at one input. -/
def ramCopiesWrong : ChangeSpec := { name := "ramCopies", fn := fun _ => fun
  | [d1, d2, d3] => { results := [.lit (.bool false)], args := [d1, d2, d3] }
  | _ => none }
def RamCopiesWrongFalsely : Prop := ramCopiesRow.holds Try.pinned (OpenSpec.ofChange ramCopiesWrong)

/-- 'vireolaw16.ChainWalks': WHATEVER THE INPUT: true; the input reads as it did. -/
def chainWalksSpec : ChangeSpec := { name := "chainWalks", fn := fun _ => fun
  | [d1, d2] => { results := [.lit (.bool true)], args := [d1, d2] }
  | _ => none }
def chainWalksRow : OpenClaim := { program := "ytippipfogbgemaa", sum := "7c890eb08f94348c2a2c640663573473c00a0996a21b168842da9fb77f3bfdd5", func := "vireo/vireolaw16.ChainWalks", spec := "chainWalks", recurses := true, apart := false }
def ChainWalksSaid : Prop := chainWalksRow.holds Try.pinned (OpenSpec.ofChange chainWalksSpec)

/-- ITS FALSE NEIGHBOUR: 'it returns false'. Refute it at one input. -/
def chainWalksWrong : ChangeSpec := { name := "chainWalks", fn := fun _ => fun
  | [d1, d2] => { results := [.lit (.bool false)], args := [d1, d2] }
  | _ => none }
def ChainWalksWrongFalsely : Prop := chainWalksRow.holds Try.pinned (OpenSpec.ofChange chainWalksWrong)

/-- 'vireolaw16.ChainReads': WHATEVER THE INPUT: true; the input reads as it did. -/
def chainReadsSpec : ChangeSpec := { name := "chainReads", fn := fun _ => fun
  | [d1, d2] => { results := [.lit (.bool true)], args := [d1, d2] }
  | _ => none }
def chainReadsRow : OpenClaim := { program := "ytippipfogbgemaa", sum := "7c890eb08f94348c2a2c640663573473c00a0996a21b168842da9fb77f3bfdd5", func := "vireo/vireolaw16.ChainReads", spec := "chainReads", apart := false }
def ChainReadsSaid : Prop := chainReadsRow.holds Try.pinned (OpenSpec.ofChange chainReadsSpec)

/-- ITS FALSE NEIGHBOUR: 'it returns false'. Refute it at one input. -/
def chainReadsWrong : ChangeSpec := { name := "chainReads", fn := fun _ => fun
  | [d1, d2] => { results := [.lit (.bool false)], args := [d1, d2] }
  | _ => none }
def ChainReadsWrongFalsely : Prop := chainReadsRow.holds Try.pinned (OpenSpec.ofChange chainReadsWrong)

/-- 'vireolaw16.ChainLies': WHATEVER THE INPUT: true; the input reads as it did. -/
def chainLiesSpec : ChangeSpec := { name := "chainLies", fn := fun _ => fun
  | [d1, d2] => { results := [.lit (.bool true)], args := [d1, d2] }
  | _ => none }
def chainLiesRow : OpenClaim := { program := "ytippipfogbgemaa", sum := "7c890eb08f94348c2a2c640663573473c00a0996a21b168842da9fb77f3bfdd5", func := "vireo/vireolaw16.ChainLies", spec := "chainLies", apart := false }
def ChainLiesSaid : Prop := chainLiesRow.holds Try.pinned (OpenSpec.ofChange chainLiesSpec)

/-- ITS FALSE NEIGHBOUR: 'it returns false'. Refute it at one input. -/
def chainLiesWrong : ChangeSpec := { name := "chainLies", fn := fun _ => fun
  | [d1, d2] => { results := [.lit (.bool false)], args := [d1, d2] }
  | _ => none }
def ChainLiesWrongFalsely : Prop := chainLiesRow.holds Try.pinned (OpenSpec.ofChange chainLiesWrong)

/-- 'vireolaw16.ChainWithin': WHATEVER THE INPUT: true; the input reads as it did. -/
def chainWithinSpec : ChangeSpec := { name := "chainWithin", fn := fun _ => fun
  | [d1, d2, d3] => { results := [.lit (.bool true)], args := [d1, d2, d3] }
  | _ => none }
def chainWithinRow : OpenClaim := { program := "ytippipfogbgemaa", sum := "7c890eb08f94348c2a2c640663573473c00a0996a21b168842da9fb77f3bfdd5", func := "vireo/vireolaw16.ChainWithin", spec := "chainWithin", apart := false }
def ChainWithinSaid : Prop := chainWithinRow.holds Try.pinned (OpenSpec.ofChange chainWithinSpec)

/-- ITS FALSE NEIGHBOUR: 'it returns false'. Refute it at one input. -/
def chainWithinWrong : ChangeSpec := { name := "chainWithin", fn := fun _ => fun
  | [d1, d2, d3] => { results := [.lit (.bool false)], args := [d1, d2, d3] }
  | _ => none }
def ChainWithinWrongFalsely : Prop := chainWithinRow.holds Try.pinned (OpenSpec.ofChange chainWithinWrong)

/-- 'vireolaw19.BlkParses': WHATEVER THE INPUT: true; the input reads as it did. -/
def blkParsesSpec : ChangeSpec := { name := "blkParses", fn := fun _ => fun
  | [d] => { results := [.lit (.bool true)], args := [d] }
  | _ => none }
def blkParsesRow : OpenClaim := { program := "ytippipfogbgemaa", sum := "7c890eb08f94348c2a2c640663573473c00a0996a21b168842da9fb77f3bfdd5", func := "vireo/vireolaw19.BlkParses", spec := "blkParses", apart := false }
def BlkParsesSaid : Prop := blkParsesRow.holds Try.pinned (OpenSpec.ofChange blkParsesSpec)

/-- ITS FALSE NEIGHBOUR: 'it returns false'. Refute it at one input. -/
def blkParsesWrong : ChangeSpec := { name := "blkParses", fn := fun _ => fun
  | [d] => { results := [.lit (.bool false)], args := [d] }
  | _ => none }
def BlkParsesWrongFalsely : Prop := blkParsesRow.holds Try.pinned (OpenSpec.ofChange blkParsesWrong)

/-- 'vireolaw19.BlkBack': WHATEVER THE INPUT: true; the input reads as it did. -/
def blkBackSpec : ChangeSpec := { name := "blkBack", fn := fun _ => fun
  | [d1, d2, d3] => { results := [.lit (.bool true)], args := [d1, d2, d3] }
  | _ => none }
def blkBackRow : OpenClaim := { program := "ytippipfogbgemaa", sum := "7c890eb08f94348c2a2c640663573473c00a0996a21b168842da9fb77f3bfdd5", func := "vireo/vireolaw19.BlkBack", spec := "blkBack", apart := false }
def BlkBackSaid : Prop := blkBackRow.holds Try.pinned (OpenSpec.ofChange blkBackSpec)

/-- ITS FALSE NEIGHBOUR: 'it returns false'. Refute it at one input. -/
def blkBackWrong : ChangeSpec := { name := "blkBack", fn := fun _ => fun
  | [d1, d2, d3] => { results := [.lit (.bool false)], args := [d1, d2, d3] }
  | _ => none }
def BlkBackWrongFalsely : Prop := blkBackRow.holds Try.pinned (OpenSpec.ofChange blkBackWrong)

/-- 'vireolaw17.QueueHeads': WHATEVER THE INPUT: true; the input reads as it did. -/
def queueHeadsSpec : ChangeSpec := { name := "queueHeads", fn := fun _ => fun
  | [d1, d2, d3] => { results := [.lit (.bool true)], args := [d1, d2, d3] }
  | _ => none }
def queueHeadsRow : OpenClaim := { program := "ytippipfogbgemaa", sum := "7c890eb08f94348c2a2c640663573473c00a0996a21b168842da9fb77f3bfdd5", func := "vireo/vireolaw17.QueueHeads", spec := "queueHeads", unfollowed := true, recurses := true, apart := false }
def QueueHeadsSaid : Prop := queueHeadsRow.holds Try.pinned (OpenSpec.ofChange queueHeadsSpec)

/-- ITS FALSE NEIGHBOUR: 'it returns false'. Refute it at one input. -/
def queueHeadsWrong : ChangeSpec := { name := "queueHeads", fn := fun _ => fun
  | [d1, d2, d3] => { results := [.lit (.bool false)], args := [d1, d2, d3] }
  | _ => none }
def QueueHeadsWrongFalsely : Prop := queueHeadsRow.holds Try.pinned (OpenSpec.ofChange queueHeadsWrong)

/-- 'vireolaw19.BlkRefuses': WHATEVER THE INPUT: true; the input reads as it did. -/
def blkRefusesSpec : ChangeSpec := { name := "blkRefuses", fn := fun _ => fun
  | [d1, d2, d3] => { results := [.lit (.bool true)], args := [d1, d2, d3] }
  | _ => none }
def blkRefusesRow : OpenClaim := { program := "ytippipfogbgemaa", sum := "7c890eb08f94348c2a2c640663573473c00a0996a21b168842da9fb77f3bfdd5", func := "vireo/vireolaw19.BlkRefuses", spec := "blkRefuses", apart := false }
def BlkRefusesSaid : Prop := blkRefusesRow.holds Try.pinned (OpenSpec.ofChange blkRefusesSpec)

/-- ITS FALSE NEIGHBOUR: 'it returns false'. Refute it at one input. -/
def blkRefusesWrong : ChangeSpec := { name := "blkRefuses", fn := fun _ => fun
  | [d1, d2, d3] => { results := [.lit (.bool false)], args := [d1, d2, d3] }
  | _ => none }
def BlkRefusesWrongFalsely : Prop := blkRefusesRow.holds Try.pinned (OpenSpec.ofChange blkRefusesWrong)

/-- 'vireolaw17.QueueFetches': WHATEVER THE INPUT: true; the input reads as it did. -/
def queueFetchesSpec : ChangeSpec := { name := "queueFetches", fn := fun _ => fun
  | [d1, d2] => { results := [.lit (.bool true)], args := [d1, d2] }
  | _ => none }
def queueFetchesRow : OpenClaim := { program := "ytippipfogbgemaa", sum := "7c890eb08f94348c2a2c640663573473c00a0996a21b168842da9fb77f3bfdd5", func := "vireo/vireolaw17.QueueFetches", spec := "queueFetches", unfollowed := true, recurses := true, apart := false }
def QueueFetchesSaid : Prop := queueFetchesRow.holds Try.pinned (OpenSpec.ofChange queueFetchesSpec)

/-- ITS FALSE NEIGHBOUR: 'it returns false'. Refute it at one input. -/
def queueFetchesWrong : ChangeSpec := { name := "queueFetches", fn := fun _ => fun
  | [d1, d2] => { results := [.lit (.bool false)], args := [d1, d2] }
  | _ => none }
def QueueFetchesWrongFalsely : Prop := queueFetchesRow.holds Try.pinned (OpenSpec.ofChange queueFetchesWrong)

/-- 'vireolaw17.QueueServes': WHATEVER THE INPUT: true; the input reads as it did. -/
def queueServesSpec : ChangeSpec := { name := "queueServes", fn := fun _ => fun
  | [d1, d2, d3] => { results := [.lit (.bool true)], args := [d1, d2, d3] }
  | _ => none }
def queueServesRow : OpenClaim := { program := "ytippipfogbgemaa", sum := "7c890eb08f94348c2a2c640663573473c00a0996a21b168842da9fb77f3bfdd5", func := "vireo/vireolaw17.QueueServes", spec := "queueServes", unfollowed := true, recurses := true, apart := false }
def QueueServesSaid : Prop := queueServesRow.holds Try.pinned (OpenSpec.ofChange queueServesSpec)

/-- ITS FALSE NEIGHBOUR: 'it returns false'. Refute it at one input. -/
def queueServesWrong : ChangeSpec := { name := "queueServes", fn := fun _ => fun
  | [d1, d2, d3] => { results := [.lit (.bool false)], args := [d1, d2, d3] }
  | _ => none }
def QueueServesWrongFalsely : Prop := queueServesRow.holds Try.pinned (OpenSpec.ofChange queueServesWrong)

/-- 'vireolaw17.QueueWrites': WHATEVER THE INPUT: true; the input reads as it did. -/
def queueWritesSpec : ChangeSpec := { name := "queueWrites", fn := fun _ => fun
  | [d1, d2, d3] => { results := [.lit (.bool true)], args := [d1, d2, d3] }
  | _ => none }
def queueWritesRow : OpenClaim := { program := "ytippipfogbgemaa", sum := "7c890eb08f94348c2a2c640663573473c00a0996a21b168842da9fb77f3bfdd5", func := "vireo/vireolaw17.QueueWrites", spec := "queueWrites", unfollowed := true, recurses := true, apart := false }
def QueueWritesSaid : Prop := queueWritesRow.holds Try.pinned (OpenSpec.ofChange queueWritesSpec)

/-- ITS FALSE NEIGHBOUR: 'it returns false'. Refute it at one input. -/
def queueWritesWrong : ChangeSpec := { name := "queueWrites", fn := fun _ => fun
  | [d1, d2, d3] => { results := [.lit (.bool false)], args := [d1, d2, d3] }
  | _ => none }
def QueueWritesWrongFalsely : Prop := queueWritesRow.holds Try.pinned (OpenSpec.ofChange queueWritesWrong)

/- THE SECOND FORM. 'bulk': how many values and letters a reading holds, each counted each time it is reached (what is shared counts as often as it is met; a slice's spare places count too). A statement '..UptoSaid' is the law's where the arguments, and the package variables that the reading takes, are together of bulk at most 1048576: NARROWER than '..Said'. Prove '..Said' where nothing that the law and all that it calls make is longer than what came in: it says more and counts as full. Else prove '..UptoSaid'. A law counts once. -/
mutual
def uptoBulk {H : Type} : DataW H → Nat
  | .lit (.string bytes) => bytes.length + 1
  | .lit _ => 1
  | .nil => 1
  | .ptr d => uptoBulk d + 1
  | .slice elems spare => uptoBulkAll elems + uptoBulkAll spare + 1
  | .agg parts => uptoBulkAll parts + 1
  | .iface _ d => uptoBulk d + 1
  | .map entries => uptoBulkEntries entries + 1
  | .held _ => 1
def uptoBulkAll {H : Type} : List (DataW H) → Nat
  | [] => 0
  | d :: r => uptoBulk d + uptoBulkAll r
def uptoBulkEntries {H : Type} : List (Lit × DataW H) → Nat
  | [] => 0
  | x :: r => uptoBulkEntry x + uptoBulkEntries r
def uptoBulkEntry {H : Type} : Lit × DataW H → Nat
  | (.string bytes, d) => bytes.length + uptoBulk d + 1
  | (_, d) => uptoBulk d + 1
 end
def uptoSmall : (H : Type) → List (DataW H) → Bool := fun _ ds => decide (uptoBulkAll ds ≤ 1048576)
def OpenSpec.upto (s : _root_.Go.ChangeSpec) : _root_.Go.OpenSpec := { _root_.Go.OpenSpec.ofChange s with cond := some uptoSmall }

/-- 'vireolaw02.RamCopies', WHERE WHAT IT READS IS OF BULK AT MOST 1048576: true; the input reads as it did. -/
def ramCopiesUptoRow : OpenClaim := { program := "ytippipfogbgemaa", sum := "7c890eb08f94348c2a2c640663573473c00a0996a21b168842da9fb77f3bfdd5", func := "vireo/vireolaw02.RamCopies", spec := "ramCopies", apart := false, narrowed := true }
def RamCopiesUptoSaid : Prop := ramCopiesUptoRow.holds Try.pinned (OpenSpec.upto ramCopiesSpec)

/-- 'vireolaw16.ChainWalks', WHERE WHAT IT READS IS OF BULK AT MOST 1048576: true; the input reads as it did. -/
def chainWalksUptoRow : OpenClaim := { program := "ytippipfogbgemaa", sum := "7c890eb08f94348c2a2c640663573473c00a0996a21b168842da9fb77f3bfdd5", func := "vireo/vireolaw16.ChainWalks", spec := "chainWalks", recurses := true, apart := false, narrowed := true }
def ChainWalksUptoSaid : Prop := chainWalksUptoRow.holds Try.pinned (OpenSpec.upto chainWalksSpec)

/-- 'vireolaw16.ChainReads', WHERE WHAT IT READS IS OF BULK AT MOST 1048576: true; the input reads as it did. -/
def chainReadsUptoRow : OpenClaim := { program := "ytippipfogbgemaa", sum := "7c890eb08f94348c2a2c640663573473c00a0996a21b168842da9fb77f3bfdd5", func := "vireo/vireolaw16.ChainReads", spec := "chainReads", apart := false, narrowed := true }
def ChainReadsUptoSaid : Prop := chainReadsUptoRow.holds Try.pinned (OpenSpec.upto chainReadsSpec)

/-- 'vireolaw16.ChainLies', WHERE WHAT IT READS IS OF BULK AT MOST 1048576: true; the input reads as it did. -/
def chainLiesUptoRow : OpenClaim := { program := "ytippipfogbgemaa", sum := "7c890eb08f94348c2a2c640663573473c00a0996a21b168842da9fb77f3bfdd5", func := "vireo/vireolaw16.ChainLies", spec := "chainLies", apart := false, narrowed := true }
def ChainLiesUptoSaid : Prop := chainLiesUptoRow.holds Try.pinned (OpenSpec.upto chainLiesSpec)

/-- 'vireolaw16.ChainWithin', WHERE WHAT IT READS IS OF BULK AT MOST 1048576: true; the input reads as it did. -/
def chainWithinUptoRow : OpenClaim := { program := "ytippipfogbgemaa", sum := "7c890eb08f94348c2a2c640663573473c00a0996a21b168842da9fb77f3bfdd5", func := "vireo/vireolaw16.ChainWithin", spec := "chainWithin", apart := false, narrowed := true }
def ChainWithinUptoSaid : Prop := chainWithinUptoRow.holds Try.pinned (OpenSpec.upto chainWithinSpec)

/-- 'vireolaw19.BlkParses', WHERE WHAT IT READS IS OF BULK AT MOST 1048576: true; the input reads as it did. -/
def blkParsesUptoRow : OpenClaim := { program := "ytippipfogbgemaa", sum := "7c890eb08f94348c2a2c640663573473c00a0996a21b168842da9fb77f3bfdd5", func := "vireo/vireolaw19.BlkParses", spec := "blkParses", apart := false, narrowed := true }
def BlkParsesUptoSaid : Prop := blkParsesUptoRow.holds Try.pinned (OpenSpec.upto blkParsesSpec)

/-- 'vireolaw19.BlkBack', WHERE WHAT IT READS IS OF BULK AT MOST 1048576: true; the input reads as it did. -/
def blkBackUptoRow : OpenClaim := { program := "ytippipfogbgemaa", sum := "7c890eb08f94348c2a2c640663573473c00a0996a21b168842da9fb77f3bfdd5", func := "vireo/vireolaw19.BlkBack", spec := "blkBack", apart := false, narrowed := true }
def BlkBackUptoSaid : Prop := blkBackUptoRow.holds Try.pinned (OpenSpec.upto blkBackSpec)

/-- 'vireolaw17.QueueHeads', WHERE WHAT IT READS IS OF BULK AT MOST 1048576: true; the input reads as it did. -/
def queueHeadsUptoRow : OpenClaim := { program := "ytippipfogbgemaa", sum := "7c890eb08f94348c2a2c640663573473c00a0996a21b168842da9fb77f3bfdd5", func := "vireo/vireolaw17.QueueHeads", spec := "queueHeads", unfollowed := true, recurses := true, apart := false, narrowed := true }
def QueueHeadsUptoSaid : Prop := queueHeadsUptoRow.holds Try.pinned (OpenSpec.upto queueHeadsSpec)

/-- 'vireolaw19.BlkRefuses', WHERE WHAT IT READS IS OF BULK AT MOST 1048576: true; the input reads as it did. -/
def blkRefusesUptoRow : OpenClaim := { program := "ytippipfogbgemaa", sum := "7c890eb08f94348c2a2c640663573473c00a0996a21b168842da9fb77f3bfdd5", func := "vireo/vireolaw19.BlkRefuses", spec := "blkRefuses", apart := false, narrowed := true }
def BlkRefusesUptoSaid : Prop := blkRefusesUptoRow.holds Try.pinned (OpenSpec.upto blkRefusesSpec)

/-- 'vireolaw17.QueueFetches', WHERE WHAT IT READS IS OF BULK AT MOST 1048576: true; the input reads as it did. -/
def queueFetchesUptoRow : OpenClaim := { program := "ytippipfogbgemaa", sum := "7c890eb08f94348c2a2c640663573473c00a0996a21b168842da9fb77f3bfdd5", func := "vireo/vireolaw17.QueueFetches", spec := "queueFetches", unfollowed := true, recurses := true, apart := false, narrowed := true }
def QueueFetchesUptoSaid : Prop := queueFetchesUptoRow.holds Try.pinned (OpenSpec.upto queueFetchesSpec)

/-- 'vireolaw17.QueueServes', WHERE WHAT IT READS IS OF BULK AT MOST 1048576: true; the input reads as it did. -/
def queueServesUptoRow : OpenClaim := { program := "ytippipfogbgemaa", sum := "7c890eb08f94348c2a2c640663573473c00a0996a21b168842da9fb77f3bfdd5", func := "vireo/vireolaw17.QueueServes", spec := "queueServes", unfollowed := true, recurses := true, apart := false, narrowed := true }
def QueueServesUptoSaid : Prop := queueServesUptoRow.holds Try.pinned (OpenSpec.upto queueServesSpec)

/-- 'vireolaw17.QueueWrites', WHERE WHAT IT READS IS OF BULK AT MOST 1048576: true; the input reads as it did. -/
def queueWritesUptoRow : OpenClaim := { program := "ytippipfogbgemaa", sum := "7c890eb08f94348c2a2c640663573473c00a0996a21b168842da9fb77f3bfdd5", func := "vireo/vireolaw17.QueueWrites", spec := "queueWrites", unfollowed := true, recurses := true, apart := false, narrowed := true }
def QueueWritesUptoSaid : Prop := queueWritesUptoRow.holds Try.pinned (OpenSpec.upto queueWritesSpec)

end Rows
end Go.Proofs.Ytippipfogbgemaa
