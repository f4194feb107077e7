/-
  No cell of these rows narrows 'for every input' (looked for: loops, veiled, ifaces, maps, wideKeys, modest, calm, conditions, laid).
  DERIVED. THE GIVEN ROWS OF THIS SEAT. 12 by the template 'for every input the law returns true; each argument reads behind the call as it read before'; 0 by the template 'total and deterministic' (their statements: YtohccblfnjampaaTotals.lean).
  GIVEN WITH THE SEED: the statements are not yours to turn. If you find one false, say at which input.
  Laid BY PROGRAM, IN A SANDBOX (cutbox-rows.mjs): the forced cells as the released guide's own fill.sh prints them over the translation ccf92019f81392af… (all of the seat's roots in one cut). By AI agents, Wed Nov 11 2026. No macro, syntax, notation, axiom, sorry.
-/
import Derived.Test.YtohccblfnjampaaChecked
import GoSem.Claim
import GoSem.ClaimJoined
import GoSem.ClaimMapViews
import Derived.JoinedTies
import Derived.KernelRfl
namespace Go.Proofs.Ytohccblfnjampaa
/- THE CELL 'sum', in the pinned program and in every row, IS THE sha256 OF THE DUMP (.gsa) THAT YtohccblfnjampaaProg.lean LOADS. Nothing in Lean hashes anything: it is a label: what it is worth is what the hold of that sum in a sandbox is worth. -/
noncomputable def Try.pinned : Pinned := { name := "ytohccblfnjampaa", sum := "ccf92019f81392afed57f9281c79d652f94a1c890b98fc9978cf532a1d198083", checked := Try.checked }
namespace Rows
def none {H : Type} : Left H := { results := [], args := [] }

/-- 'vireolaw02.RamLogs': WHATEVER THE INPUT: true; the input reads as it did. -/
def ramLogsSpec : ChangeSpec := { name := "ramLogs", fn := fun _ => fun
  | [d] => { results := [.lit (.bool true)], args := [d] }
  | _ => none }
def ramLogsRow : OpenClaim := { program := "ytohccblfnjampaa", sum := "ccf92019f81392afed57f9281c79d652f94a1c890b98fc9978cf532a1d198083", func := "vireo/vireolaw02.RamLogs", spec := "ramLogs", apart := false }
def RamLogsSaid : Prop := ramLogsRow.holds Try.pinned (OpenSpec.ofChange ramLogsSpec)

/-- ITS FALSE NEIGHBOUR: 'it returns false'. Refute it at one input. -/
def ramLogsWrong : ChangeSpec := { name := "ramLogs", fn := fun _ => fun
  | [d] => { results := [.lit (.bool false)], args := [d] }
  | _ => none }
def RamLogsWrongFalsely : Prop := ramLogsRow.holds Try.pinned (OpenSpec.ofChange ramLogsWrong)

/-- 'vireolaw13.DiskPlays': WHATEVER THE INPUT: true; the input reads as it did. -/
def diskPlaysSpec : ChangeSpec := { name := "diskPlays", fn := fun _ => fun
  | [d1, d2] => { results := [.lit (.bool true)], args := [d1, d2] }
  | _ => none }
def diskPlaysRow : OpenClaim := { program := "ytohccblfnjampaa", sum := "ccf92019f81392afed57f9281c79d652f94a1c890b98fc9978cf532a1d198083", func := "vireo/vireolaw13.DiskPlays", spec := "diskPlays", apart := false }
def DiskPlaysSaid : Prop := diskPlaysRow.holds Try.pinned (OpenSpec.ofChange diskPlaysSpec)

/-- ITS FALSE NEIGHBOUR: 'it returns false'. Refute it at one input. -/
def diskPlaysWrong : ChangeSpec := { name := "diskPlays", fn := fun _ => fun
  | [d1, d2] => { results := [.lit (.bool false)], args := [d1, d2] }
  | _ => none }
def DiskPlaysWrongFalsely : Prop := diskPlaysRow.holds Try.pinned (OpenSpec.ofChange diskPlaysWrong)

/-- 'vireolaw15.RingReads': WHATEVER THE INPUT: true; the input reads as it did. -/
def ringReadsSpec : ChangeSpec := { name := "ringReads", fn := fun _ => fun
  | [d1, d2, d3] => { results := [.lit (.bool true)], args := [d1, d2, d3] }
  | _ => none }
def ringReadsRow : OpenClaim := { program := "ytohccblfnjampaa", sum := "ccf92019f81392afed57f9281c79d652f94a1c890b98fc9978cf532a1d198083", func := "vireo/vireolaw15.RingReads", spec := "ringReads", apart := false }
def RingReadsSaid : Prop := ringReadsRow.holds Try.pinned (OpenSpec.ofChange ringReadsSpec)

/-- ITS FALSE NEIGHBOUR: 'it returns false'. Refute it at one input. -/
def ringReadsWrong : ChangeSpec := { name := "ringReads", fn := fun _ => fun
  | [d1, d2, d3] => { results := [.lit (.bool false)], args := [d1, d2, d3] }
  | _ => none }
def RingReadsWrongFalsely : Prop := ringReadsRow.holds Try.pinned (OpenSpec.ofChange ringReadsWrong)

/-- 'vireolaw13.DiskBack': WHATEVER THE INPUT: true; the input reads as it did. -/
def diskBackSpec : ChangeSpec := { name := "diskBack", fn := fun _ => fun
  | [d1, d2] => { results := [.lit (.bool true)], args := [d1, d2] }
  | _ => none }
def diskBackRow : OpenClaim := { program := "ytohccblfnjampaa", sum := "ccf92019f81392afed57f9281c79d652f94a1c890b98fc9978cf532a1d198083", func := "vireo/vireolaw13.DiskBack", spec := "diskBack", apart := false }
def DiskBackSaid : Prop := diskBackRow.holds Try.pinned (OpenSpec.ofChange diskBackSpec)

/-- ITS FALSE NEIGHBOUR: 'it returns false'. Refute it at one input. -/
def diskBackWrong : ChangeSpec := { name := "diskBack", fn := fun _ => fun
  | [d1, d2] => { results := [.lit (.bool false)], args := [d1, d2] }
  | _ => none }
def DiskBackWrongFalsely : Prop := diskBackRow.holds Try.pinned (OpenSpec.ofChange diskBackWrong)

/-- 'vireolaw13.DiskRefuses': WHATEVER THE INPUT: true; the input reads as it did. -/
def diskRefusesSpec : ChangeSpec := { name := "diskRefuses", fn := fun _ => fun
  | [d1, d2, d3] => { results := [.lit (.bool true)], args := [d1, d2, d3] }
  | _ => none }
def diskRefusesRow : OpenClaim := { program := "ytohccblfnjampaa", sum := "ccf92019f81392afed57f9281c79d652f94a1c890b98fc9978cf532a1d198083", func := "vireo/vireolaw13.DiskRefuses", spec := "diskRefuses", apart := false }
def DiskRefusesSaid : Prop := diskRefusesRow.holds Try.pinned (OpenSpec.ofChange diskRefusesSpec)

/-- ITS FALSE NEIGHBOUR: 'it returns false'. Refute it at one input. -/
def diskRefusesWrong : ChangeSpec := { name := "diskRefuses", fn := fun _ => fun
  | [d1, d2, d3] => { results := [.lit (.bool false)], args := [d1, d2, d3] }
  | _ => none }
def DiskRefusesWrongFalsely : Prop := diskRefusesRow.holds Try.pinned (OpenSpec.ofChange diskRefusesWrong)

/-- 'vireolaw15.RingDescs': WHATEVER THE INPUT: true; the input reads as it did. -/
def ringDescsSpec : ChangeSpec := { name := "ringDescs", fn := fun _ => fun
  | [d1, d2, d3] => { results := [.lit (.bool true)], args := [d1, d2, d3] }
  | _ => none }
def ringDescsRow : OpenClaim := { program := "ytohccblfnjampaa", sum := "ccf92019f81392afed57f9281c79d652f94a1c890b98fc9978cf532a1d198083", func := "vireo/vireolaw15.RingDescs", spec := "ringDescs", apart := false }
def RingDescsSaid : Prop := ringDescsRow.holds Try.pinned (OpenSpec.ofChange ringDescsSpec)

/-- ITS FALSE NEIGHBOUR: 'it returns false'. Refute it at one input. -/
def ringDescsWrong : ChangeSpec := { name := "ringDescs", fn := fun _ => fun
  | [d1, d2, d3] => { results := [.lit (.bool false)], args := [d1, d2, d3] }
  | _ => none }
def RingDescsWrongFalsely : Prop := ringDescsRow.holds Try.pinned (OpenSpec.ofChange ringDescsWrong)

/-- 'vireolaw12.PlicPlays': WHATEVER THE INPUT: true; the input reads as it did. -/
def plicPlaysSpec : ChangeSpec := { name := "plicPlays", fn := fun _ => fun
  | [d] => { results := [.lit (.bool true)], args := [d] }
  | _ => none }
def plicPlaysRow : OpenClaim := { program := "ytohccblfnjampaa", sum := "ccf92019f81392afed57f9281c79d652f94a1c890b98fc9978cf532a1d198083", func := "vireo/vireolaw12.PlicPlays", spec := "plicPlays", apart := false }
def PlicPlaysSaid : Prop := plicPlaysRow.holds Try.pinned (OpenSpec.ofChange plicPlaysSpec)

/-- ITS FALSE NEIGHBOUR: 'it returns false'. Refute it at one input. -/
def plicPlaysWrong : ChangeSpec := { name := "plicPlays", fn := fun _ => fun
  | [d] => { results := [.lit (.bool false)], args := [d] }
  | _ => none }
def PlicPlaysWrongFalsely : Prop := plicPlaysRow.holds Try.pinned (OpenSpec.ofChange plicPlaysWrong)

/-- 'vireolaw12.PlicOnce': WHATEVER THE INPUT: true; the input reads as it did. -/
def plicOnceSpec : ChangeSpec := { name := "plicOnce", fn := fun _ => fun
  | [d1, d2] => { results := [.lit (.bool true)], args := [d1, d2] }
  | _ => none }
def plicOnceRow : OpenClaim := { program := "ytohccblfnjampaa", sum := "ccf92019f81392afed57f9281c79d652f94a1c890b98fc9978cf532a1d198083", func := "vireo/vireolaw12.PlicOnce", spec := "plicOnce", apart := false }
def PlicOnceSaid : Prop := plicOnceRow.holds Try.pinned (OpenSpec.ofChange plicOnceSpec)

/-- ITS FALSE NEIGHBOUR: 'it returns false'. Refute it at one input. -/
def plicOnceWrong : ChangeSpec := { name := "plicOnce", fn := fun _ => fun
  | [d1, d2] => { results := [.lit (.bool false)], args := [d1, d2] }
  | _ => none }
def PlicOnceWrongFalsely : Prop := plicOnceRow.holds Try.pinned (OpenSpec.ofChange plicOnceWrong)

/-- 'vireolaw12.PlicFirst': WHATEVER THE INPUT: true; the input reads as it did. -/
def plicFirstSpec : ChangeSpec := { name := "plicFirst", fn := fun _ => fun
  | [d1, d2] => { results := [.lit (.bool true)], args := [d1, d2] }
  | _ => none }
def plicFirstRow : OpenClaim := { program := "ytohccblfnjampaa", sum := "ccf92019f81392afed57f9281c79d652f94a1c890b98fc9978cf532a1d198083", func := "vireo/vireolaw12.PlicFirst", spec := "plicFirst", apart := false }
def PlicFirstSaid : Prop := plicFirstRow.holds Try.pinned (OpenSpec.ofChange plicFirstSpec)

/-- ITS FALSE NEIGHBOUR: 'it returns false'. Refute it at one input. -/
def plicFirstWrong : ChangeSpec := { name := "plicFirst", fn := fun _ => fun
  | [d1, d2] => { results := [.lit (.bool false)], args := [d1, d2] }
  | _ => none }
def PlicFirstWrongFalsely : Prop := plicFirstRow.holds Try.pinned (OpenSpec.ofChange plicFirstWrong)

/-- 'vireolaw12.PlicAgain': WHATEVER THE INPUT: true; the input reads as it did. -/
def plicAgainSpec : ChangeSpec := { name := "plicAgain", fn := fun _ => fun
  | [d1, d2] => { results := [.lit (.bool true)], args := [d1, d2] }
  | _ => none }
def plicAgainRow : OpenClaim := { program := "ytohccblfnjampaa", sum := "ccf92019f81392afed57f9281c79d652f94a1c890b98fc9978cf532a1d198083", func := "vireo/vireolaw12.PlicAgain", spec := "plicAgain", apart := false }
def PlicAgainSaid : Prop := plicAgainRow.holds Try.pinned (OpenSpec.ofChange plicAgainSpec)

/-- ITS FALSE NEIGHBOUR: 'it returns false'. Refute it at one input. -/
def plicAgainWrong : ChangeSpec := { name := "plicAgain", fn := fun _ => fun
  | [d1, d2] => { results := [.lit (.bool false)], args := [d1, d2] }
  | _ => none }
def PlicAgainWrongFalsely : Prop := plicAgainRow.holds Try.pinned (OpenSpec.ofChange plicAgainWrong)

/-- 'vireolaw15.RingWrites': WHATEVER THE INPUT: true; the input reads as it did. -/
def ringWritesSpec : ChangeSpec := { name := "ringWrites", fn := fun _ => fun
  | [d1, d2, d3] => { results := [.lit (.bool true)], args := [d1, d2, d3] }
  | _ => none }
def ringWritesRow : OpenClaim := { program := "ytohccblfnjampaa", sum := "ccf92019f81392afed57f9281c79d652f94a1c890b98fc9978cf532a1d198083", func := "vireo/vireolaw15.RingWrites", spec := "ringWrites", apart := false }
def RingWritesSaid : Prop := ringWritesRow.holds Try.pinned (OpenSpec.ofChange ringWritesSpec)

/-- ITS FALSE NEIGHBOUR: 'it returns false'. Refute it at one input. -/
def ringWritesWrong : ChangeSpec := { name := "ringWrites", fn := fun _ => fun
  | [d1, d2, d3] => { results := [.lit (.bool false)], args := [d1, d2, d3] }
  | _ => none }
def RingWritesWrongFalsely : Prop := ringWritesRow.holds Try.pinned (OpenSpec.ofChange ringWritesWrong)

/-- 'vireolaw13.DiskCopies': WHATEVER THE INPUT: true; the input reads as it did. -/
def diskCopiesSpec : ChangeSpec := { name := "diskCopies", fn := fun _ => fun
  | [d1, d2, d3] => { results := [.lit (.bool true)], args := [d1, d2, d3] }
  | _ => none }
def diskCopiesRow : OpenClaim := { program := "ytohccblfnjampaa", sum := "ccf92019f81392afed57f9281c79d652f94a1c890b98fc9978cf532a1d198083", func := "vireo/vireolaw13.DiskCopies", spec := "diskCopies", apart := false }
def DiskCopiesSaid : Prop := diskCopiesRow.holds Try.pinned (OpenSpec.ofChange diskCopiesSpec)

/-- ITS FALSE NEIGHBOUR: 'it returns false'. Refute it at one input. -/
def diskCopiesWrong : ChangeSpec := { name := "diskCopies", fn := fun _ => fun
  | [d1, d2, d3] => { results := [.lit (.bool false)], args := [d1, d2, d3] }
  | _ => none }
def DiskCopiesWrongFalsely : Prop := diskCopiesRow.holds Try.pinned (OpenSpec.ofChange diskCopiesWrong)

/- THE SECOND FORM. 'bulk': how many values and letters a reading holds, each counted each time it is reached (what is shared counts as often as it is met; a slice's spare places count too). A statement '..UptoSaid' is the law's where the arguments, and the package variables that the reading takes, are together of bulk at most 1048576: NARROWER than '..Said'. Prove '..Said' where nothing that the law and all that it calls make is longer than what came in: it says more and counts as full. Else prove '..UptoSaid'. A law counts once. -/
mutual
def uptoBulk {H : Type} : DataW H → Nat
  | .lit (.string bytes) => bytes.length + 1
  | .lit _ => 1
  | .nil => 1
  | .ptr d => uptoBulk d + 1
  | .slice elems spare => uptoBulkAll elems + uptoBulkAll spare + 1
  | .agg parts => uptoBulkAll parts + 1
  | .iface _ d => uptoBulk d + 1
  | .map entries => uptoBulkEntries entries + 1
  | .held _ => 1
def uptoBulkAll {H : Type} : List (DataW H) → Nat
  | [] => 0
  | d :: r => uptoBulk d + uptoBulkAll r
def uptoBulkEntries {H : Type} : List (Lit × DataW H) → Nat
  | [] => 0
  | x :: r => uptoBulkEntry x + uptoBulkEntries r
def uptoBulkEntry {H : Type} : Lit × DataW H → Nat
  | (.string bytes, d) => bytes.length + uptoBulk d + 1
  | (_, d) => uptoBulk d + 1
 end
def uptoSmall : (H : Type) → List (DataW H) → Bool := fun _ ds => decide (uptoBulkAll ds ≤ 1048576)
def OpenSpec.upto (s : _root_.Go.ChangeSpec) : _root_.Go.OpenSpec := { _root_.Go.OpenSpec.ofChange s with cond := some uptoSmall }

/-- 'vireolaw02.RamLogs', WHERE WHAT IT READS IS OF BULK AT MOST 1048576: true; the input reads as it did. -/
def ramLogsUptoRow : OpenClaim := { program := "ytohccblfnjampaa", sum := "ccf92019f81392afed57f9281c79d652f94a1c890b98fc9978cf532a1d198083", func := "vireo/vireolaw02.RamLogs", spec := "ramLogs", apart := false, narrowed := true }
def RamLogsUptoSaid : Prop := ramLogsUptoRow.holds Try.pinned (OpenSpec.upto ramLogsSpec)

/-- 'vireolaw13.DiskPlays', WHERE WHAT IT READS IS OF BULK AT MOST 1048576: true; the input reads as it did. -/
def diskPlaysUptoRow : OpenClaim := { program := "ytohccblfnjampaa", sum := "ccf92019f81392afed57f9281c79d652f94a1c890b98fc9978cf532a1d198083", func := "vireo/vireolaw13.DiskPlays", spec := "diskPlays", apart := false, narrowed := true }
def DiskPlaysUptoSaid : Prop := diskPlaysUptoRow.holds Try.pinned (OpenSpec.upto diskPlaysSpec)

/-- 'vireolaw15.RingReads', WHERE WHAT IT READS IS OF BULK AT MOST 1048576: true; the input reads as it did. -/
def ringReadsUptoRow : OpenClaim := { program := "ytohccblfnjampaa", sum := "ccf92019f81392afed57f9281c79d652f94a1c890b98fc9978cf532a1d198083", func := "vireo/vireolaw15.RingReads", spec := "ringReads", apart := false, narrowed := true }
def RingReadsUptoSaid : Prop := ringReadsUptoRow.holds Try.pinned (OpenSpec.upto ringReadsSpec)

/-- 'vireolaw13.DiskBack', WHERE WHAT IT READS IS OF BULK AT MOST 1048576: true; the input reads as it did. -/
def diskBackUptoRow : OpenClaim := { program := "ytohccblfnjampaa", sum := "ccf92019f81392afed57f9281c79d652f94a1c890b98fc9978cf532a1d198083", func := "vireo/vireolaw13.DiskBack", spec := "diskBack", apart := false, narrowed := true }
def DiskBackUptoSaid : Prop := diskBackUptoRow.holds Try.pinned (OpenSpec.upto diskBackSpec)

/-- 'vireolaw13.DiskRefuses', WHERE WHAT IT READS IS OF BULK AT MOST 1048576: true; the input reads as it did. -/
def diskRefusesUptoRow : OpenClaim := { program := "ytohccblfnjampaa", sum := "ccf92019f81392afed57f9281c79d652f94a1c890b98fc9978cf532a1d198083", func := "vireo/vireolaw13.DiskRefuses", spec := "diskRefuses", apart := false, narrowed := true }
def DiskRefusesUptoSaid : Prop := diskRefusesUptoRow.holds Try.pinned (OpenSpec.upto diskRefusesSpec)

/-- 'vireolaw15.RingDescs', WHERE WHAT IT READS IS OF BULK AT MOST 1048576: true; the input reads as it did. -/
def ringDescsUptoRow : OpenClaim := { program := "ytohccblfnjampaa", sum := "ccf92019f81392afed57f9281c79d652f94a1c890b98fc9978cf532a1d198083", func := "vireo/vireolaw15.RingDescs", spec := "ringDescs", apart := false, narrowed := true }
def RingDescsUptoSaid : Prop := ringDescsUptoRow.holds Try.pinned (OpenSpec.upto ringDescsSpec)

/-- 'vireolaw12.PlicPlays', WHERE WHAT IT READS IS OF BULK AT MOST 1048576: true; the input reads as it did. -/
def plicPlaysUptoRow : OpenClaim := { program := "ytohccblfnjampaa", sum := "ccf92019f81392afed57f9281c79d652f94a1c890b98fc9978cf532a1d198083", func := "vireo/vireolaw12.PlicPlays", spec := "plicPlays", apart := false, narrowed := true }
def PlicPlaysUptoSaid : Prop := plicPlaysUptoRow.holds Try.pinned (OpenSpec.upto plicPlaysSpec)

/-- 'vireolaw12.PlicOnce', WHERE WHAT IT READS IS OF BULK AT MOST 1048576: true; the input reads as it did. -/
def plicOnceUptoRow : OpenClaim := { program := "ytohccblfnjampaa", sum := "ccf92019f81392afed57f9281c79d652f94a1c890b98fc9978cf532a1d198083", func := "vireo/vireolaw12.PlicOnce", spec := "plicOnce", apart := false, narrowed := true }
def PlicOnceUptoSaid : Prop := plicOnceUptoRow.holds Try.pinned (OpenSpec.upto plicOnceSpec)

/-- 'vireolaw12.PlicFirst', WHERE WHAT IT READS IS OF BULK AT MOST 1048576: true; the input reads as it did. -/
def plicFirstUptoRow : OpenClaim := { program := "ytohccblfnjampaa", sum := "ccf92019f81392afed57f9281c79d652f94a1c890b98fc9978cf532a1d198083", func := "vireo/vireolaw12.PlicFirst", spec := "plicFirst", apart := false, narrowed := true }
def PlicFirstUptoSaid : Prop := plicFirstUptoRow.holds Try.pinned (OpenSpec.upto plicFirstSpec)

/-- 'vireolaw12.PlicAgain', WHERE WHAT IT READS IS OF BULK AT MOST 1048576: true; the input reads as it did. -/
def plicAgainUptoRow : OpenClaim := { program := "ytohccblfnjampaa", sum := "ccf92019f81392afed57f9281c79d652f94a1c890b98fc9978cf532a1d198083", func := "vireo/vireolaw12.PlicAgain", spec := "plicAgain", apart := false, narrowed := true }
def PlicAgainUptoSaid : Prop := plicAgainUptoRow.holds Try.pinned (OpenSpec.upto plicAgainSpec)

/-- 'vireolaw15.RingWrites', WHERE WHAT IT READS IS OF BULK AT MOST 1048576: true; the input reads as it did. -/
def ringWritesUptoRow : OpenClaim := { program := "ytohccblfnjampaa", sum := "ccf92019f81392afed57f9281c79d652f94a1c890b98fc9978cf532a1d198083", func := "vireo/vireolaw15.RingWrites", spec := "ringWrites", apart := false, narrowed := true }
def RingWritesUptoSaid : Prop := ringWritesUptoRow.holds Try.pinned (OpenSpec.upto ringWritesSpec)

/-- 'vireolaw13.DiskCopies', WHERE WHAT IT READS IS OF BULK AT MOST 1048576: true; the input reads as it did. -/
def diskCopiesUptoRow : OpenClaim := { program := "ytohccblfnjampaa", sum := "ccf92019f81392afed57f9281c79d652f94a1c890b98fc9978cf532a1d198083", func := "vireo/vireolaw13.DiskCopies", spec := "diskCopies", apart := false, narrowed := true }
def DiskCopiesUptoSaid : Prop := diskCopiesUptoRow.holds Try.pinned (OpenSpec.upto diskCopiesSpec)

end Rows
end Go.Proofs.Ytohccblfnjampaa
