/-
  No cell of these rows narrows 'for every input' (looked for: loops, veiled, ifaces, maps, wideKeys, modest, calm, conditions, laid).
  DERIVED. THE GIVEN ROWS OF THIS SEAT. 12 by the template 'for every input the law returns true; each argument reads behind the call as it read before'; 0 by the template 'total and deterministic' (their statements: YtmdhhidcbcgbjaaTotals.lean).
  GIVEN WITH THE SEED: the statements are not yours to turn. If you find one false, say at which input.
  Laid BY PROGRAM, IN A SANDBOX (cutbox-rows.mjs): the forced cells as the released guide's own fill.sh prints them over the translation 3ab0dd855db4864c… (all of the seat's roots in one cut). By AI agents, Wed Nov 11 2026. No macro, syntax, notation, axiom, sorry.
-/
import Derived.Test.YtmdhhidcbcgbjaaChecked
import GoSem.Claim
import GoSem.ClaimJoined
import GoSem.ClaimMapViews
import Derived.JoinedTies
import Derived.KernelRfl
namespace Go.Proofs.Ytmdhhidcbcgbjaa
/- THE CELL 'sum', in the pinned program and in every row, IS THE sha256 OF THE DUMP (.gsa) THAT YtmdhhidcbcgbjaaProg.lean LOADS. Nothing in Lean hashes anything: it is a label: what it is worth is what the hold of that sum in a sandbox is worth. -/
noncomputable def Try.pinned : Pinned := { name := "ytmdhhidcbcgbjaa", sum := "3ab0dd855db4864c2afd6a90ffd1ebe6a9ac1aad89dbb199f7e88723f55936bb", checked := Try.checked }
namespace Rows
def none {H : Type} : Left H := { results := [], args := [] }

/-- 'vireolaw15.RingPassed': WHATEVER THE INPUT: true; the input reads as it did. -/
def ringPassedSpec : ChangeSpec := { name := "ringPassed", fn := fun _ => fun
  | [d1, d2, d3] => { results := [.lit (.bool true)], args := [d1, d2, d3] }
  | _ => none }
def ringPassedRow : OpenClaim := { program := "ytmdhhidcbcgbjaa", sum := "3ab0dd855db4864c2afd6a90ffd1ebe6a9ac1aad89dbb199f7e88723f55936bb", func := "vireo/vireolaw15.RingPassed", spec := "ringPassed", apart := false }
def RingPassedSaid : Prop := ringPassedRow.holds Try.pinned (OpenSpec.ofChange ringPassedSpec)

/-- ITS FALSE NEIGHBOUR: 'it returns false'. Refute it at one input. -/
def ringPassedWrong : ChangeSpec := { name := "ringPassed", fn := fun _ => fun
  | [d1, d2, d3] => { results := [.lit (.bool false)], args := [d1, d2, d3] }
  | _ => none }
def RingPassedWrongFalsely : Prop := ringPassedRow.holds Try.pinned (OpenSpec.ofChange ringPassedWrong)

/-- 'vireolaw14.FifoRooms': WHATEVER THE INPUT: true; the input reads as it did. -/
def fifoRoomsSpec : ChangeSpec := { name := "fifoRooms", fn := fun _ => fun
  | [d] => { results := [.lit (.bool true)], args := [d] }
  | _ => none }
def fifoRoomsRow : OpenClaim := { program := "ytmdhhidcbcgbjaa", sum := "3ab0dd855db4864c2afd6a90ffd1ebe6a9ac1aad89dbb199f7e88723f55936bb", func := "vireo/vireolaw14.FifoRooms", spec := "fifoRooms", apart := false }
def FifoRoomsSaid : Prop := fifoRoomsRow.holds Try.pinned (OpenSpec.ofChange fifoRoomsSpec)

/-- ITS FALSE NEIGHBOUR: 'it returns false'. Refute it at one input. -/
def fifoRoomsWrong : ChangeSpec := { name := "fifoRooms", fn := fun _ => fun
  | [d] => { results := [.lit (.bool false)], args := [d] }
  | _ => none }
def FifoRoomsWrongFalsely : Prop := fifoRoomsRow.holds Try.pinned (OpenSpec.ofChange fifoRoomsWrong)

/-- 'vireolaw15.RingBytes': WHATEVER THE INPUT: true; the input reads as it did. -/
def ringBytesSpec : ChangeSpec := { name := "ringBytes", fn := fun _ => fun
  | [d] => { results := [.lit (.bool true)], args := [d] }
  | _ => none }
def ringBytesRow : OpenClaim := { program := "ytmdhhidcbcgbjaa", sum := "3ab0dd855db4864c2afd6a90ffd1ebe6a9ac1aad89dbb199f7e88723f55936bb", func := "vireo/vireolaw15.RingBytes", spec := "ringBytes", apart := false }
def RingBytesSaid : Prop := ringBytesRow.holds Try.pinned (OpenSpec.ofChange ringBytesSpec)

/-- ITS FALSE NEIGHBOUR: 'it returns false'. Refute it at one input. -/
def ringBytesWrong : ChangeSpec := { name := "ringBytes", fn := fun _ => fun
  | [d] => { results := [.lit (.bool false)], args := [d] }
  | _ => none }
def RingBytesWrongFalsely : Prop := ringBytesRow.holds Try.pinned (OpenSpec.ofChange ringBytesWrong)

/-- 'vireolaw14.FifoOrder': WHATEVER THE INPUT: true; the input reads as it did. -/
def fifoOrderSpec : ChangeSpec := { name := "fifoOrder", fn := fun _ => fun
  | [d1, d2, d3] => { results := [.lit (.bool true)], args := [d1, d2, d3] }
  | _ => none }
def fifoOrderRow : OpenClaim := { program := "ytmdhhidcbcgbjaa", sum := "3ab0dd855db4864c2afd6a90ffd1ebe6a9ac1aad89dbb199f7e88723f55936bb", func := "vireo/vireolaw14.FifoOrder", spec := "fifoOrder", apart := false }
def FifoOrderSaid : Prop := fifoOrderRow.holds Try.pinned (OpenSpec.ofChange fifoOrderSpec)

/-- ITS FALSE NEIGHBOUR: 'it returns false'. Refute it at one input. -/
def fifoOrderWrong : ChangeSpec := { name := "fifoOrder", fn := fun _ => fun
  | [d1, d2, d3] => { results := [.lit (.bool false)], args := [d1, d2, d3] }
  | _ => none }
def FifoOrderWrongFalsely : Prop := fifoOrderRow.holds Try.pinned (OpenSpec.ofChange fifoOrderWrong)

/-- 'vireolaw14.FifoPlays': WHATEVER THE INPUT: true; the input reads as it did. -/
def fifoPlaysSpec : ChangeSpec := { name := "fifoPlays", fn := fun _ => fun
  | [d1, d2] => { results := [.lit (.bool true)], args := [d1, d2] }
  | _ => none }
def fifoPlaysRow : OpenClaim := { program := "ytmdhhidcbcgbjaa", sum := "3ab0dd855db4864c2afd6a90ffd1ebe6a9ac1aad89dbb199f7e88723f55936bb", func := "vireo/vireolaw14.FifoPlays", spec := "fifoPlays", apart := false }
def FifoPlaysSaid : Prop := fifoPlaysRow.holds Try.pinned (OpenSpec.ofChange fifoPlaysSpec)

/-- ITS FALSE NEIGHBOUR: 'it returns false'. Refute it at one input. -/
def fifoPlaysWrong : ChangeSpec := { name := "fifoPlays", fn := fun _ => fun
  | [d1, d2] => { results := [.lit (.bool false)], args := [d1, d2] }
  | _ => none }
def FifoPlaysWrongFalsely : Prop := fifoPlaysRow.holds Try.pinned (OpenSpec.ofChange fifoPlaysWrong)

/-- 'vireolaw14.FifoCopies': WHATEVER THE INPUT: true; the input reads as it did. -/
def fifoCopiesSpec : ChangeSpec := { name := "fifoCopies", fn := fun _ => fun
  | [d1, d2, d3] => { results := [.lit (.bool true)], args := [d1, d2, d3] }
  | _ => none }
def fifoCopiesRow : OpenClaim := { program := "ytmdhhidcbcgbjaa", sum := "3ab0dd855db4864c2afd6a90ffd1ebe6a9ac1aad89dbb199f7e88723f55936bb", func := "vireo/vireolaw14.FifoCopies", spec := "fifoCopies", apart := false }
def FifoCopiesSaid : Prop := fifoCopiesRow.holds Try.pinned (OpenSpec.ofChange fifoCopiesSpec)

/-- ITS FALSE NEIGHBOUR: 'it returns false'. Refute it at one input. -/
def fifoCopiesWrong : ChangeSpec := { name := "fifoCopies", fn := fun _ => fun
  | [d1, d2, d3] => { results := [.lit (.bool false)], args := [d1, d2, d3] }
  | _ => none }
def FifoCopiesWrongFalsely : Prop := fifoCopiesRow.holds Try.pinned (OpenSpec.ofChange fifoCopiesWrong)

/-- 'vireolaw13.DiskSizes': WHATEVER THE INPUT: true; the input reads as it did. -/
def diskSizesSpec : ChangeSpec := { name := "diskSizes", fn := fun _ => fun
  | [d1, d2] => { results := [.lit (.bool true)], args := [d1, d2] }
  | _ => none }
def diskSizesRow : OpenClaim := { program := "ytmdhhidcbcgbjaa", sum := "3ab0dd855db4864c2afd6a90ffd1ebe6a9ac1aad89dbb199f7e88723f55936bb", func := "vireo/vireolaw13.DiskSizes", spec := "diskSizes", apart := false }
def DiskSizesSaid : Prop := diskSizesRow.holds Try.pinned (OpenSpec.ofChange diskSizesSpec)

/-- ITS FALSE NEIGHBOUR: 'it returns false'. Refute it at one input. -/
def diskSizesWrong : ChangeSpec := { name := "diskSizes", fn := fun _ => fun
  | [d1, d2] => { results := [.lit (.bool false)], args := [d1, d2] }
  | _ => none }
def DiskSizesWrongFalsely : Prop := diskSizesRow.holds Try.pinned (OpenSpec.ofChange diskSizesWrong)

/-- 'vireolaw02.RamSizes': WHATEVER THE INPUT: true; the input reads as it did. -/
def ramSizesSpec : ChangeSpec := { name := "ramSizes", fn := fun _ => fun
  | [d1, d2, d3] => { results := [.lit (.bool true)], args := [d1, d2, d3] }
  | _ => none }
def ramSizesRow : OpenClaim := { program := "ytmdhhidcbcgbjaa", sum := "3ab0dd855db4864c2afd6a90ffd1ebe6a9ac1aad89dbb199f7e88723f55936bb", func := "vireo/vireolaw02.RamSizes", spec := "ramSizes", apart := false }
def RamSizesSaid : Prop := ramSizesRow.holds Try.pinned (OpenSpec.ofChange ramSizesSpec)

/-- ITS FALSE NEIGHBOUR: 'it returns false'. Refute it at one input. -/
def ramSizesWrong : ChangeSpec := { name := "ramSizes", fn := fun _ => fun
  | [d1, d2, d3] => { results := [.lit (.bool false)], args := [d1, d2, d3] }
  | _ => none }
def RamSizesWrongFalsely : Prop := ramSizesRow.holds Try.pinned (OpenSpec.ofChange ramSizesWrong)

/-- 'vireolaw15.RingChecks': WHATEVER THE INPUT: true; the input reads as it did. -/
def ringChecksSpec : ChangeSpec := { name := "ringChecks", fn := fun _ => fun
  | [d] => { results := [.lit (.bool true)], args := [d] }
  | _ => none }
def ringChecksRow : OpenClaim := { program := "ytmdhhidcbcgbjaa", sum := "3ab0dd855db4864c2afd6a90ffd1ebe6a9ac1aad89dbb199f7e88723f55936bb", func := "vireo/vireolaw15.RingChecks", spec := "ringChecks", apart := false }
def RingChecksSaid : Prop := ringChecksRow.holds Try.pinned (OpenSpec.ofChange ringChecksSpec)

/-- ITS FALSE NEIGHBOUR: 'it returns false'. Refute it at one input. -/
def ringChecksWrong : ChangeSpec := { name := "ringChecks", fn := fun _ => fun
  | [d] => { results := [.lit (.bool false)], args := [d] }
  | _ => none }
def RingChecksWrongFalsely : Prop := ringChecksRow.holds Try.pinned (OpenSpec.ofChange ringChecksWrong)

/-- 'vireolaw02.RamPlays': WHATEVER THE INPUT: true; the input reads as it did. -/
def ramPlaysSpec : ChangeSpec := { name := "ramPlays", fn := fun _ => fun
  | [d] => { results := [.lit (.bool true)], args := [d] }
  | _ => none }
def ramPlaysRow : OpenClaim := { program := "ytmdhhidcbcgbjaa", sum := "3ab0dd855db4864c2afd6a90ffd1ebe6a9ac1aad89dbb199f7e88723f55936bb", func := "vireo/vireolaw02.RamPlays", spec := "ramPlays", apart := false }
def RamPlaysSaid : Prop := ramPlaysRow.holds Try.pinned (OpenSpec.ofChange ramPlaysSpec)

/-- ITS FALSE NEIGHBOUR: 'it returns false'. Refute it at one input. -/
def ramPlaysWrong : ChangeSpec := { name := "ramPlays", fn := fun _ => fun
  | [d] => { results := [.lit (.bool false)], args := [d] }
  | _ => none }
def RamPlaysWrongFalsely : Prop := ramPlaysRow.holds Try.pinned (OpenSpec.ofChange ramPlaysWrong)

/-- 'vireolaw02.RamBeside': WHATEVER THE INPUT: true; the input reads as it did. -/
def ramBesideSpec : ChangeSpec := { name := "ramBeside", fn := fun _ => fun
  | [d1, d2, d3] => { results := [.lit (.bool true)], args := [d1, d2, d3] }
  | _ => none }
def ramBesideRow : OpenClaim := { program := "ytmdhhidcbcgbjaa", sum := "3ab0dd855db4864c2afd6a90ffd1ebe6a9ac1aad89dbb199f7e88723f55936bb", func := "vireo/vireolaw02.RamBeside", spec := "ramBeside", apart := false }
def RamBesideSaid : Prop := ramBesideRow.holds Try.pinned (OpenSpec.ofChange ramBesideSpec)

/-- ITS FALSE NEIGHBOUR: 'it returns false'. Refute it at one input. -/
def ramBesideWrong : ChangeSpec := { name := "ramBeside", fn := fun _ => fun
  | [d1, d2, d3] => { results := [.lit (.bool false)], args := [d1, d2, d3] }
  | _ => none }
def RamBesideWrongFalsely : Prop := ramBesideRow.holds Try.pinned (OpenSpec.ofChange ramBesideWrong)

/-- 'vireolaw02.RamOwns': WHATEVER THE INPUT: true; the input reads as it did. -/
def ramOwnsSpec : ChangeSpec := { name := "ramOwns", fn := fun _ => fun
  | [d1, d2] => { results := [.lit (.bool true)], args := [d1, d2] }
  | _ => none }
def ramOwnsRow : OpenClaim := { program := "ytmdhhidcbcgbjaa", sum := "3ab0dd855db4864c2afd6a90ffd1ebe6a9ac1aad89dbb199f7e88723f55936bb", func := "vireo/vireolaw02.RamOwns", spec := "ramOwns", apart := false }
def RamOwnsSaid : Prop := ramOwnsRow.holds Try.pinned (OpenSpec.ofChange ramOwnsSpec)

/-- ITS FALSE NEIGHBOUR: 'it returns false'. Refute it at one input. -/
def ramOwnsWrong : ChangeSpec := { name := "ramOwns", fn := fun _ => fun
  | [d1, d2] => { results := [.lit (.bool false)], args := [d1, d2] }
  | _ => none }
def RamOwnsWrongFalsely : Prop := ramOwnsRow.holds Try.pinned (OpenSpec.ofChange ramOwnsWrong)

/- THE SECOND FORM. 'bulk': how many values and letters a reading holds, each counted each time it is reached (what is shared counts as often as it is met; a slice's spare places count too). A statement '..UptoSaid' is the law's where the arguments, and the package variables that the reading takes, are together of bulk at most 1048576: NARROWER than '..Said'. Prove '..Said' where nothing that the law and all that it calls make is longer than what came in: it says more and counts as full. Else prove '..UptoSaid'. A law counts once. -/
mutual
def uptoBulk {H : Type} : DataW H → Nat
  | .lit (.string bytes) => bytes.length + 1
  | .lit _ => 1
  | .nil => 1
  | .ptr d => uptoBulk d + 1
  | .slice elems spare => uptoBulkAll elems + uptoBulkAll spare + 1
  | .agg parts => uptoBulkAll parts + 1
  | .iface _ d => uptoBulk d + 1
  | .map entries => uptoBulkEntries entries + 1
  | .held _ => 1
def uptoBulkAll {H : Type} : List (DataW H) → Nat
  | [] => 0
  | d :: r => uptoBulk d + uptoBulkAll r
def uptoBulkEntries {H : Type} : List (Lit × DataW H) → Nat
  | [] => 0
  | x :: r => uptoBulkEntry x + uptoBulkEntries r
def uptoBulkEntry {H : Type} : Lit × DataW H → Nat
  | (.string bytes, d) => bytes.length + uptoBulk d + 1
  | (_, d) => uptoBulk d + 1
 end
def uptoSmall : (H : Type) → List (DataW H) → Bool := fun _ ds => decide (uptoBulkAll ds ≤ 1048576)
def OpenSpec.upto (s : _root_.Go.ChangeSpec) : _root_.Go.OpenSpec := { _root_.Go.OpenSpec.ofChange s with cond := some uptoSmall }

/-- 'vireolaw15.RingPassed', WHERE WHAT IT READS IS OF BULK AT MOST 1048576: true; the input reads as it did. -/
def ringPassedUptoRow : OpenClaim := { program := "ytmdhhidcbcgbjaa", sum := "3ab0dd855db4864c2afd6a90ffd1ebe6a9ac1aad89dbb199f7e88723f55936bb", func := "vireo/vireolaw15.RingPassed", spec := "ringPassed", apart := false, narrowed := true }
def RingPassedUptoSaid : Prop := ringPassedUptoRow.holds Try.pinned (OpenSpec.upto ringPassedSpec)

/-- 'vireolaw14.FifoRooms', WHERE WHAT IT READS IS OF BULK AT MOST 1048576: true; the input reads as it did. -/
def fifoRoomsUptoRow : OpenClaim := { program := "ytmdhhidcbcgbjaa", sum := "3ab0dd855db4864c2afd6a90ffd1ebe6a9ac1aad89dbb199f7e88723f55936bb", func := "vireo/vireolaw14.FifoRooms", spec := "fifoRooms", apart := false, narrowed := true }
def FifoRoomsUptoSaid : Prop := fifoRoomsUptoRow.holds Try.pinned (OpenSpec.upto fifoRoomsSpec)

/-- 'vireolaw15.RingBytes', WHERE WHAT IT READS IS OF BULK AT MOST 1048576: true; the input reads as it did. -/
def ringBytesUptoRow : OpenClaim := { program := "ytmdhhidcbcgbjaa", sum := "3ab0dd855db4864c2afd6a90ffd1ebe6a9ac1aad89dbb199f7e88723f55936bb", func := "vireo/vireolaw15.RingBytes", spec := "ringBytes", apart := false, narrowed := true }
def RingBytesUptoSaid : Prop := ringBytesUptoRow.holds Try.pinned (OpenSpec.upto ringBytesSpec)

/-- 'vireolaw14.FifoOrder', WHERE WHAT IT READS IS OF BULK AT MOST 1048576: true; the input reads as it did. -/
def fifoOrderUptoRow : OpenClaim := { program := "ytmdhhidcbcgbjaa", sum := "3ab0dd855db4864c2afd6a90ffd1ebe6a9ac1aad89dbb199f7e88723f55936bb", func := "vireo/vireolaw14.FifoOrder", spec := "fifoOrder", apart := false, narrowed := true }
def FifoOrderUptoSaid : Prop := fifoOrderUptoRow.holds Try.pinned (OpenSpec.upto fifoOrderSpec)

/-- 'vireolaw14.FifoPlays', WHERE WHAT IT READS IS OF BULK AT MOST 1048576: true; the input reads as it did. -/
def fifoPlaysUptoRow : OpenClaim := { program := "ytmdhhidcbcgbjaa", sum := "3ab0dd855db4864c2afd6a90ffd1ebe6a9ac1aad89dbb199f7e88723f55936bb", func := "vireo/vireolaw14.FifoPlays", spec := "fifoPlays", apart := false, narrowed := true }
def FifoPlaysUptoSaid : Prop := fifoPlaysUptoRow.holds Try.pinned (OpenSpec.upto fifoPlaysSpec)

/-- 'vireolaw14.FifoCopies', WHERE WHAT IT READS IS OF BULK AT MOST 1048576: true; the input reads as it did. -/
def fifoCopiesUptoRow : OpenClaim := { program := "ytmdhhidcbcgbjaa", sum := "3ab0dd855db4864c2afd6a90ffd1ebe6a9ac1aad89dbb199f7e88723f55936bb", func := "vireo/vireolaw14.FifoCopies", spec := "fifoCopies", apart := false, narrowed := true }
def FifoCopiesUptoSaid : Prop := fifoCopiesUptoRow.holds Try.pinned (OpenSpec.upto fifoCopiesSpec)

/-- 'vireolaw13.DiskSizes', WHERE WHAT IT READS IS OF BULK AT MOST 1048576: true; the input reads as it did. -/
def diskSizesUptoRow : OpenClaim := { program := "ytmdhhidcbcgbjaa", sum := "3ab0dd855db4864c2afd6a90ffd1ebe6a9ac1aad89dbb199f7e88723f55936bb", func := "vireo/vireolaw13.DiskSizes", spec := "diskSizes", apart := false, narrowed := true }
def DiskSizesUptoSaid : Prop := diskSizesUptoRow.holds Try.pinned (OpenSpec.upto diskSizesSpec)

/-- 'vireolaw02.RamSizes', WHERE WHAT IT READS IS OF BULK AT MOST 1048576: true; the input reads as it did. -/
def ramSizesUptoRow : OpenClaim := { program := "ytmdhhidcbcgbjaa", sum := "3ab0dd855db4864c2afd6a90ffd1ebe6a9ac1aad89dbb199f7e88723f55936bb", func := "vireo/vireolaw02.RamSizes", spec := "ramSizes", apart := false, narrowed := true }
def RamSizesUptoSaid : Prop := ramSizesUptoRow.holds Try.pinned (OpenSpec.upto ramSizesSpec)

/-- 'vireolaw15.RingChecks', WHERE WHAT IT READS IS OF BULK AT MOST 1048576: true; the input reads as it did. -/
def ringChecksUptoRow : OpenClaim := { program := "ytmdhhidcbcgbjaa", sum := "3ab0dd855db4864c2afd6a90ffd1ebe6a9ac1aad89dbb199f7e88723f55936bb", func := "vireo/vireolaw15.RingChecks", spec := "ringChecks", apart := false, narrowed := true }
def RingChecksUptoSaid : Prop := ringChecksUptoRow.holds Try.pinned (OpenSpec.upto ringChecksSpec)

/-- 'vireolaw02.RamPlays', WHERE WHAT IT READS IS OF BULK AT MOST 1048576: true; the input reads as it did. -/
def ramPlaysUptoRow : OpenClaim := { program := "ytmdhhidcbcgbjaa", sum := "3ab0dd855db4864c2afd6a90ffd1ebe6a9ac1aad89dbb199f7e88723f55936bb", func := "vireo/vireolaw02.RamPlays", spec := "ramPlays", apart := false, narrowed := true }
def RamPlaysUptoSaid : Prop := ramPlaysUptoRow.holds Try.pinned (OpenSpec.upto ramPlaysSpec)

/-- 'vireolaw02.RamBeside', WHERE WHAT IT READS IS OF BULK AT MOST 1048576: true; the input reads as it did. -/
def ramBesideUptoRow : OpenClaim := { program := "ytmdhhidcbcgbjaa", sum := "3ab0dd855db4864c2afd6a90ffd1ebe6a9ac1aad89dbb199f7e88723f55936bb", func := "vireo/vireolaw02.RamBeside", spec := "ramBeside", apart := false, narrowed := true }
def RamBesideUptoSaid : Prop := ramBesideUptoRow.holds Try.pinned (OpenSpec.upto ramBesideSpec)

/-- 'vireolaw02.RamOwns', WHERE WHAT IT READS IS OF BULK AT MOST 1048576: true; the input reads as it did. -/
def ramOwnsUptoRow : OpenClaim := { program := "ytmdhhidcbcgbjaa", sum := "3ab0dd855db4864c2afd6a90ffd1ebe6a9ac1aad89dbb199f7e88723f55936bb", func := "vireo/vireolaw02.RamOwns", spec := "ramOwns", apart := false, narrowed := true }
def RamOwnsUptoSaid : Prop := ramOwnsUptoRow.holds Try.pinned (OpenSpec.upto ramOwnsSpec)

end Rows
end Go.Proofs.Ytmdhhidcbcgbjaa
