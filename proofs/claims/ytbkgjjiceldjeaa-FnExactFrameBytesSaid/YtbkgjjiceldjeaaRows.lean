/-
  No cell of these rows narrows 'for every input' (looked for: loops, veiled, ifaces, maps, wideKeys, modest, calm, conditions, laid).
  DERIVED. THE GIVEN ROWS OF THIS SEAT. 13 by the template 'for every input the law returns true; each argument reads behind the call as it read before'; 0 by the template 'total and deterministic' (their statements: YtbkgjjiceldjeaaTotals.lean).
  GIVEN WITH THE SEED: the statements are not yours to turn. If you find one false, say at which input.
  Laid BY PROGRAM, IN A SANDBOX (cutbox-rows.mjs): the forced cells as the released guide's own fill.sh prints them over the translation d107079cc688a6ea… (all of the seat's roots in one cut). By AI agents, Wed Nov 11 2026. No macro, syntax, notation, axiom, sorry.
-/
import Derived.Test.YtbkgjjiceldjeaaChecked
import GoSem.Claim
import GoSem.ClaimJoined
import GoSem.ClaimMapViews
import Derived.JoinedTies
import Derived.KernelRfl
namespace Go.Proofs.Ytbkgjjiceldjeaa
/- THE CELL 'sum', in the pinned program and in every row, IS THE sha256 OF THE DUMP (.gsa) THAT YtbkgjjiceldjeaaProg.lean LOADS. Nothing in Lean hashes anything: it is a label: what it is worth is what the hold of that sum in a sandbox is worth. -/
noncomputable def Try.pinned : Pinned := { name := "ytbkgjjiceldjeaa", sum := "d107079cc688a6ea95ef3ecc885363e236893945f3243293b0da947bd62275df", checked := Try.checked }
namespace Rows
def none {H : Type} : Left H := { results := [], args := [] }

/-- 'laws.FnExactMembersData': WHATEVER THE INPUT: true; the input reads as it did. -/
def fnExactMembersDataSpec : ChangeSpec := { name := "fnExactMembersData", fn := fun _ => fun
  | [d] => { results := [.lit (.bool true)], args := [d] }
  | _ => none }
def fnExactMembersDataRow : OpenClaim := { program := "ytbkgjjiceldjeaa", sum := "d107079cc688a6ea95ef3ecc885363e236893945f3243293b0da947bd62275df", func := "loop.example/g00220/laws.FnExactMembersData", spec := "fnExactMembersData", unfollowed := true, recurses := true, apart := false }
def FnExactMembersDataSaid : Prop := fnExactMembersDataRow.holds Try.pinned (OpenSpec.ofChange fnExactMembersDataSpec)

/-- ITS FALSE NEIGHBOUR: 'it returns false'. Refute it at one input. -/
def fnExactMembersDataWrong : ChangeSpec := { name := "fnExactMembersData", fn := fun _ => fun
  | [d] => { results := [.lit (.bool false)], args := [d] }
  | _ => none }
def FnExactMembersDataWrongFalsely : Prop := fnExactMembersDataRow.holds Try.pinned (OpenSpec.ofChange fnExactMembersDataWrong)

/-- 'laws.FnExactFrameBytes': WHATEVER THE INPUT: true; the input reads as it did. -/
def fnExactFrameBytesSpec : ChangeSpec := { name := "fnExactFrameBytes", fn := fun _ => fun
  | [d] => { results := [.lit (.bool true)], args := [d] }
  | _ => none }
def fnExactFrameBytesRow : OpenClaim := { program := "ytbkgjjiceldjeaa", sum := "d107079cc688a6ea95ef3ecc885363e236893945f3243293b0da947bd62275df", func := "loop.example/g00220/laws.FnExactFrameBytes", spec := "fnExactFrameBytes", apart := false }
def FnExactFrameBytesSaid : Prop := fnExactFrameBytesRow.holds Try.pinned (OpenSpec.ofChange fnExactFrameBytesSpec)

/-- ITS FALSE NEIGHBOUR: 'it returns false'. Refute it at one input. -/
def fnExactFrameBytesWrong : ChangeSpec := { name := "fnExactFrameBytes", fn := fun _ => fun
  | [d] => { results := [.lit (.bool false)], args := [d] }
  | _ => none }
def FnExactFrameBytesWrongFalsely : Prop := fnExactFrameBytesRow.holds Try.pinned (OpenSpec.ofChange fnExactFrameBytesWrong)

/-- 'laws.FnExactCommandBytes': WHATEVER THE INPUT: true; the input reads as it did. -/
def fnExactCommandBytesSpec : ChangeSpec := { name := "fnExactCommandBytes", fn := fun _ => fun
  | [d] => { results := [.lit (.bool true)], args := [d] }
  | _ => none }
def fnExactCommandBytesRow : OpenClaim := { program := "ytbkgjjiceldjeaa", sum := "d107079cc688a6ea95ef3ecc885363e236893945f3243293b0da947bd62275df", func := "loop.example/g00220/laws.FnExactCommandBytes", spec := "fnExactCommandBytes", apart := false }
def FnExactCommandBytesSaid : Prop := fnExactCommandBytesRow.holds Try.pinned (OpenSpec.ofChange fnExactCommandBytesSpec)

/-- ITS FALSE NEIGHBOUR: 'it returns false'. Refute it at one input. -/
def fnExactCommandBytesWrong : ChangeSpec := { name := "fnExactCommandBytes", fn := fun _ => fun
  | [d] => { results := [.lit (.bool false)], args := [d] }
  | _ => none }
def FnExactCommandBytesWrongFalsely : Prop := fnExactCommandBytesRow.holds Try.pinned (OpenSpec.ofChange fnExactCommandBytesWrong)

/-- 'laws.FnMembers': WHATEVER THE INPUT: true; the input reads as it did. -/
def fnMembersSpec : ChangeSpec := { name := "fnMembers", fn := fun _ => fun
  | [d1, d2] => { results := [.lit (.bool true)], args := [d1, d2] }
  | _ => none }
def fnMembersRow : OpenClaim := { program := "ytbkgjjiceldjeaa", sum := "d107079cc688a6ea95ef3ecc885363e236893945f3243293b0da947bd62275df", func := "loop.example/g00220/laws.FnMembers", spec := "fnMembers", unfollowed := true, recurses := true, apart := false }
def FnMembersSaid : Prop := fnMembersRow.holds Try.pinned (OpenSpec.ofChange fnMembersSpec)

/-- ITS FALSE NEIGHBOUR: 'it returns false'. Refute it at one input. -/
def fnMembersWrong : ChangeSpec := { name := "fnMembers", fn := fun _ => fun
  | [d1, d2] => { results := [.lit (.bool false)], args := [d1, d2] }
  | _ => none }
def FnMembersWrongFalsely : Prop := fnMembersRow.holds Try.pinned (OpenSpec.ofChange fnMembersWrong)

/-- 'laws.FnExactEntryBytes': WHATEVER THE INPUT: true; the input reads as it did. -/
def fnExactEntryBytesSpec : ChangeSpec := { name := "fnExactEntryBytes", fn := fun _ => fun
  | [d] => { results := [.lit (.bool true)], args := [d] }
  | _ => none }
def fnExactEntryBytesRow : OpenClaim := { program := "ytbkgjjiceldjeaa", sum := "d107079cc688a6ea95ef3ecc885363e236893945f3243293b0da947bd62275df", func := "loop.example/g00220/laws.FnExactEntryBytes", spec := "fnExactEntryBytes", unfollowed := true, recurses := true, apart := false }
def FnExactEntryBytesSaid : Prop := fnExactEntryBytesRow.holds Try.pinned (OpenSpec.ofChange fnExactEntryBytesSpec)

/-- ITS FALSE NEIGHBOUR: 'it returns false'. Refute it at one input. -/
def fnExactEntryBytesWrong : ChangeSpec := { name := "fnExactEntryBytes", fn := fun _ => fun
  | [d] => { results := [.lit (.bool false)], args := [d] }
  | _ => none }
def FnExactEntryBytesWrongFalsely : Prop := fnExactEntryBytesRow.holds Try.pinned (OpenSpec.ofChange fnExactEntryBytesWrong)

/-- 'laws.FnExactDiskOK': WHATEVER THE INPUT: true; the input reads as it did. -/
def fnExactDiskOKSpec : ChangeSpec := { name := "fnExactDiskOK", fn := fun _ => fun
  | [d] => { results := [.lit (.bool true)], args := [d] }
  | _ => none }
def fnExactDiskOKRow : OpenClaim := { program := "ytbkgjjiceldjeaa", sum := "d107079cc688a6ea95ef3ecc885363e236893945f3243293b0da947bd62275df", func := "loop.example/g00220/laws.FnExactDiskOK", spec := "fnExactDiskOK", apart := false }
def FnExactDiskOKSaid : Prop := fnExactDiskOKRow.holds Try.pinned (OpenSpec.ofChange fnExactDiskOKSpec)

/-- ITS FALSE NEIGHBOUR: 'it returns false'. Refute it at one input. -/
def fnExactDiskOKWrong : ChangeSpec := { name := "fnExactDiskOK", fn := fun _ => fun
  | [d] => { results := [.lit (.bool false)], args := [d] }
  | _ => none }
def FnExactDiskOKWrongFalsely : Prop := fnExactDiskOKRow.holds Try.pinned (OpenSpec.ofChange fnExactDiskOKWrong)

/-- 'laws.FnFrames': WHATEVER THE INPUT: true; the input reads as it did. -/
def fnFramesSpec : ChangeSpec := { name := "fnFrames", fn := fun _ => fun
  | [d1, d2] => { results := [.lit (.bool true)], args := [d1, d2] }
  | _ => none }
def fnFramesRow : OpenClaim := { program := "ytbkgjjiceldjeaa", sum := "d107079cc688a6ea95ef3ecc885363e236893945f3243293b0da947bd62275df", func := "loop.example/g00220/laws.FnFrames", spec := "fnFrames", apart := false }
def FnFramesSaid : Prop := fnFramesRow.holds Try.pinned (OpenSpec.ofChange fnFramesSpec)

/-- ITS FALSE NEIGHBOUR: 'it returns false'. Refute it at one input. -/
def fnFramesWrong : ChangeSpec := { name := "fnFrames", fn := fun _ => fun
  | [d1, d2] => { results := [.lit (.bool false)], args := [d1, d2] }
  | _ => none }
def FnFramesWrongFalsely : Prop := fnFramesRow.holds Try.pinned (OpenSpec.ofChange fnFramesWrong)

/-- 'laws.FnExactDiskUsed': WHATEVER THE INPUT: true; the input reads as it did. -/
def fnExactDiskUsedSpec : ChangeSpec := { name := "fnExactDiskUsed", fn := fun _ => fun
  | [d] => { results := [.lit (.bool true)], args := [d] }
  | _ => none }
def fnExactDiskUsedRow : OpenClaim := { program := "ytbkgjjiceldjeaa", sum := "d107079cc688a6ea95ef3ecc885363e236893945f3243293b0da947bd62275df", func := "loop.example/g00220/laws.FnExactDiskUsed", spec := "fnExactDiskUsed", apart := false }
def FnExactDiskUsedSaid : Prop := fnExactDiskUsedRow.holds Try.pinned (OpenSpec.ofChange fnExactDiskUsedSpec)

/-- ITS FALSE NEIGHBOUR: 'it returns false'. Refute it at one input. -/
def fnExactDiskUsedWrong : ChangeSpec := { name := "fnExactDiskUsed", fn := fun _ => fun
  | [d] => { results := [.lit (.bool false)], args := [d] }
  | _ => none }
def FnExactDiskUsedWrongFalsely : Prop := fnExactDiskUsedRow.holds Try.pinned (OpenSpec.ofChange fnExactDiskUsedWrong)

/-- 'laws.FnExactReadFrames': WHATEVER THE INPUT: true; the input reads as it did. -/
def fnExactReadFramesSpec : ChangeSpec := { name := "fnExactReadFrames", fn := fun _ => fun
  | [d] => { results := [.lit (.bool true)], args := [d] }
  | _ => none }
def fnExactReadFramesRow : OpenClaim := { program := "ytbkgjjiceldjeaa", sum := "d107079cc688a6ea95ef3ecc885363e236893945f3243293b0da947bd62275df", func := "loop.example/g00220/laws.FnExactReadFrames", spec := "fnExactReadFrames", apart := false }
def FnExactReadFramesSaid : Prop := fnExactReadFramesRow.holds Try.pinned (OpenSpec.ofChange fnExactReadFramesSpec)

/-- ITS FALSE NEIGHBOUR: 'it returns false'. Refute it at one input. -/
def fnExactReadFramesWrong : ChangeSpec := { name := "fnExactReadFrames", fn := fun _ => fun
  | [d] => { results := [.lit (.bool false)], args := [d] }
  | _ => none }
def FnExactReadFramesWrongFalsely : Prop := fnExactReadFramesRow.holds Try.pinned (OpenSpec.ofChange fnExactReadFramesWrong)

/-- 'laws.FnExactStateOK': WHATEVER THE INPUT: true; the input reads as it did. -/
def fnExactStateOKSpec : ChangeSpec := { name := "fnExactStateOK", fn := fun _ => fun
  | [d] => { results := [.lit (.bool true)], args := [d] }
  | _ => none }
def fnExactStateOKRow : OpenClaim := { program := "ytbkgjjiceldjeaa", sum := "d107079cc688a6ea95ef3ecc885363e236893945f3243293b0da947bd62275df", func := "loop.example/g00220/laws.FnExactStateOK", spec := "fnExactStateOK", unfollowed := true, recurses := true, apart := false }
def FnExactStateOKSaid : Prop := fnExactStateOKRow.holds Try.pinned (OpenSpec.ofChange fnExactStateOKSpec)

/-- ITS FALSE NEIGHBOUR: 'it returns false'. Refute it at one input. -/
def fnExactStateOKWrong : ChangeSpec := { name := "fnExactStateOK", fn := fun _ => fun
  | [d] => { results := [.lit (.bool false)], args := [d] }
  | _ => none }
def FnExactStateOKWrongFalsely : Prop := fnExactStateOKRow.holds Try.pinned (OpenSpec.ofChange fnExactStateOKWrong)

/-- 'laws.FnExactSameState': WHATEVER THE INPUT: true; the input reads as it did. -/
def fnExactSameStateSpec : ChangeSpec := { name := "fnExactSameState", fn := fun _ => fun
  | [d1, d2] => { results := [.lit (.bool true)], args := [d1, d2] }
  | _ => none }
def fnExactSameStateRow : OpenClaim := { program := "ytbkgjjiceldjeaa", sum := "d107079cc688a6ea95ef3ecc885363e236893945f3243293b0da947bd62275df", func := "loop.example/g00220/laws.FnExactSameState", spec := "fnExactSameState", unfollowed := true, recurses := true, apart := false }
def FnExactSameStateSaid : Prop := fnExactSameStateRow.holds Try.pinned (OpenSpec.ofChange fnExactSameStateSpec)

/-- ITS FALSE NEIGHBOUR: 'it returns false'. Refute it at one input. -/
def fnExactSameStateWrong : ChangeSpec := { name := "fnExactSameState", fn := fun _ => fun
  | [d1, d2] => { results := [.lit (.bool false)], args := [d1, d2] }
  | _ => none }
def FnExactSameStateWrongFalsely : Prop := fnExactSameStateRow.holds Try.pinned (OpenSpec.ofChange fnExactSameStateWrong)

/-- 'laws.FnExactFileData': WHATEVER THE INPUT: true; the input reads as it did. -/
def fnExactFileDataSpec : ChangeSpec := { name := "fnExactFileData", fn := fun _ => fun
  | [d1, d2] => { results := [.lit (.bool true)], args := [d1, d2] }
  | _ => none }
def fnExactFileDataRow : OpenClaim := { program := "ytbkgjjiceldjeaa", sum := "d107079cc688a6ea95ef3ecc885363e236893945f3243293b0da947bd62275df", func := "loop.example/g00220/laws.FnExactFileData", spec := "fnExactFileData", inPlace := ["internal/bytealg.abigen_runtime_cmpstring"], unfollowed := true, recurses := true, apart := false }
def FnExactFileDataSaid : Prop := fnExactFileDataRow.holds Try.pinned (OpenSpec.ofChange fnExactFileDataSpec)

/-- ITS FALSE NEIGHBOUR: 'it returns false'. Refute it at one input. -/
def fnExactFileDataWrong : ChangeSpec := { name := "fnExactFileData", fn := fun _ => fun
  | [d1, d2] => { results := [.lit (.bool false)], args := [d1, d2] }
  | _ => none }
def FnExactFileDataWrongFalsely : Prop := fnExactFileDataRow.holds Try.pinned (OpenSpec.ofChange fnExactFileDataWrong)

/-- 'laws.FnExactStateRecords': WHATEVER THE INPUT: true; the input reads as it did. -/
def fnExactStateRecordsSpec : ChangeSpec := { name := "fnExactStateRecords", fn := fun _ => fun
  | [d1, d2] => { results := [.lit (.bool true)], args := [d1, d2] }
  | _ => none }
def fnExactStateRecordsRow : OpenClaim := { program := "ytbkgjjiceldjeaa", sum := "d107079cc688a6ea95ef3ecc885363e236893945f3243293b0da947bd62275df", func := "loop.example/g00220/laws.FnExactStateRecords", spec := "fnExactStateRecords", unfollowed := true, recurses := true, apart := false }
def FnExactStateRecordsSaid : Prop := fnExactStateRecordsRow.holds Try.pinned (OpenSpec.ofChange fnExactStateRecordsSpec)

/-- ITS FALSE NEIGHBOUR: 'it returns false'. Refute it at one input. -/
def fnExactStateRecordsWrong : ChangeSpec := { name := "fnExactStateRecords", fn := fun _ => fun
  | [d1, d2] => { results := [.lit (.bool false)], args := [d1, d2] }
  | _ => none }
def FnExactStateRecordsWrongFalsely : Prop := fnExactStateRecordsRow.holds Try.pinned (OpenSpec.ofChange fnExactStateRecordsWrong)

/- THE SECOND FORM. 'bulk': how many values and letters a reading holds, each counted each time it is reached (what is shared counts as often as it is met; a slice's spare places count too). A statement '..UptoSaid' is the law's where the arguments, and the package variables that the reading takes, are together of bulk at most 1048576: NARROWER than '..Said'. Prove '..Said' where nothing that the law and all that it calls make is longer than what came in: it says more and counts as full. Else prove '..UptoSaid'. A law counts once. -/
mutual
def uptoBulk {H : Type} : DataW H → Nat
  | .lit (.string bytes) => bytes.length + 1
  | .lit _ => 1
  | .nil => 1
  | .ptr d => uptoBulk d + 1
  | .slice elems spare => uptoBulkAll elems + uptoBulkAll spare + 1
  | .agg parts => uptoBulkAll parts + 1
  | .iface _ d => uptoBulk d + 1
  | .map entries => uptoBulkEntries entries + 1
  | .held _ => 1
def uptoBulkAll {H : Type} : List (DataW H) → Nat
  | [] => 0
  | d :: r => uptoBulk d + uptoBulkAll r
def uptoBulkEntries {H : Type} : List (Lit × DataW H) → Nat
  | [] => 0
  | x :: r => uptoBulkEntry x + uptoBulkEntries r
def uptoBulkEntry {H : Type} : Lit × DataW H → Nat
  | (.string bytes, d) => bytes.length + uptoBulk d + 1
  | (_, d) => uptoBulk d + 1
 end
def uptoSmall : (H : Type) → List (DataW H) → Bool := fun _ ds => decide (uptoBulkAll ds ≤ 1048576)
def OpenSpec.upto (s : _root_.Go.ChangeSpec) : _root_.Go.OpenSpec := { _root_.Go.OpenSpec.ofChange s with cond := some uptoSmall }

/-- 'laws.FnExactMembersData', WHERE WHAT IT READS IS OF BULK AT MOST 1048576: true; the input reads as it did. -/
def fnExactMembersDataUptoRow : OpenClaim := { program := "ytbkgjjiceldjeaa", sum := "d107079cc688a6ea95ef3ecc885363e236893945f3243293b0da947bd62275df", func := "loop.example/g00220/laws.FnExactMembersData", spec := "fnExactMembersData", unfollowed := true, recurses := true, apart := false, narrowed := true }
def FnExactMembersDataUptoSaid : Prop := fnExactMembersDataUptoRow.holds Try.pinned (OpenSpec.upto fnExactMembersDataSpec)

/-- 'laws.FnExactFrameBytes', WHERE WHAT IT READS IS OF BULK AT MOST 1048576: true; the input reads as it did. -/
def fnExactFrameBytesUptoRow : OpenClaim := { program := "ytbkgjjiceldjeaa", sum := "d107079cc688a6ea95ef3ecc885363e236893945f3243293b0da947bd62275df", func := "loop.example/g00220/laws.FnExactFrameBytes", spec := "fnExactFrameBytes", apart := false, narrowed := true }
def FnExactFrameBytesUptoSaid : Prop := fnExactFrameBytesUptoRow.holds Try.pinned (OpenSpec.upto fnExactFrameBytesSpec)

/-- 'laws.FnExactCommandBytes', WHERE WHAT IT READS IS OF BULK AT MOST 1048576: true; the input reads as it did. -/
def fnExactCommandBytesUptoRow : OpenClaim := { program := "ytbkgjjiceldjeaa", sum := "d107079cc688a6ea95ef3ecc885363e236893945f3243293b0da947bd62275df", func := "loop.example/g00220/laws.FnExactCommandBytes", spec := "fnExactCommandBytes", apart := false, narrowed := true }
def FnExactCommandBytesUptoSaid : Prop := fnExactCommandBytesUptoRow.holds Try.pinned (OpenSpec.upto fnExactCommandBytesSpec)

/-- 'laws.FnMembers', WHERE WHAT IT READS IS OF BULK AT MOST 1048576: true; the input reads as it did. -/
def fnMembersUptoRow : OpenClaim := { program := "ytbkgjjiceldjeaa", sum := "d107079cc688a6ea95ef3ecc885363e236893945f3243293b0da947bd62275df", func := "loop.example/g00220/laws.FnMembers", spec := "fnMembers", unfollowed := true, recurses := true, apart := false, narrowed := true }
def FnMembersUptoSaid : Prop := fnMembersUptoRow.holds Try.pinned (OpenSpec.upto fnMembersSpec)

/-- 'laws.FnExactEntryBytes', WHERE WHAT IT READS IS OF BULK AT MOST 1048576: true; the input reads as it did. -/
def fnExactEntryBytesUptoRow : OpenClaim := { program := "ytbkgjjiceldjeaa", sum := "d107079cc688a6ea95ef3ecc885363e236893945f3243293b0da947bd62275df", func := "loop.example/g00220/laws.FnExactEntryBytes", spec := "fnExactEntryBytes", unfollowed := true, recurses := true, apart := false, narrowed := true }
def FnExactEntryBytesUptoSaid : Prop := fnExactEntryBytesUptoRow.holds Try.pinned (OpenSpec.upto fnExactEntryBytesSpec)

/-- 'laws.FnExactDiskOK', WHERE WHAT IT READS IS OF BULK AT MOST 1048576: true; the input reads as it did. -/
def fnExactDiskOKUptoRow : OpenClaim := { program := "ytbkgjjiceldjeaa", sum := "d107079cc688a6ea95ef3ecc885363e236893945f3243293b0da947bd62275df", func := "loop.example/g00220/laws.FnExactDiskOK", spec := "fnExactDiskOK", apart := false, narrowed := true }
def FnExactDiskOKUptoSaid : Prop := fnExactDiskOKUptoRow.holds Try.pinned (OpenSpec.upto fnExactDiskOKSpec)

/-- 'laws.FnFrames', WHERE WHAT IT READS IS OF BULK AT MOST 1048576: true; the input reads as it did. -/
def fnFramesUptoRow : OpenClaim := { program := "ytbkgjjiceldjeaa", sum := "d107079cc688a6ea95ef3ecc885363e236893945f3243293b0da947bd62275df", func := "loop.example/g00220/laws.FnFrames", spec := "fnFrames", apart := false, narrowed := true }
def FnFramesUptoSaid : Prop := fnFramesUptoRow.holds Try.pinned (OpenSpec.upto fnFramesSpec)

/-- 'laws.FnExactDiskUsed', WHERE WHAT IT READS IS OF BULK AT MOST 1048576: true; the input reads as it did. -/
def fnExactDiskUsedUptoRow : OpenClaim := { program := "ytbkgjjiceldjeaa", sum := "d107079cc688a6ea95ef3ecc885363e236893945f3243293b0da947bd62275df", func := "loop.example/g00220/laws.FnExactDiskUsed", spec := "fnExactDiskUsed", apart := false, narrowed := true }
def FnExactDiskUsedUptoSaid : Prop := fnExactDiskUsedUptoRow.holds Try.pinned (OpenSpec.upto fnExactDiskUsedSpec)

/-- 'laws.FnExactReadFrames', WHERE WHAT IT READS IS OF BULK AT MOST 1048576: true; the input reads as it did. -/
def fnExactReadFramesUptoRow : OpenClaim := { program := "ytbkgjjiceldjeaa", sum := "d107079cc688a6ea95ef3ecc885363e236893945f3243293b0da947bd62275df", func := "loop.example/g00220/laws.FnExactReadFrames", spec := "fnExactReadFrames", apart := false, narrowed := true }
def FnExactReadFramesUptoSaid : Prop := fnExactReadFramesUptoRow.holds Try.pinned (OpenSpec.upto fnExactReadFramesSpec)

/-- 'laws.FnExactStateOK', WHERE WHAT IT READS IS OF BULK AT MOST 1048576: true; the input reads as it did. -/
def fnExactStateOKUptoRow : OpenClaim := { program := "ytbkgjjiceldjeaa", sum := "d107079cc688a6ea95ef3ecc885363e236893945f3243293b0da947bd62275df", func := "loop.example/g00220/laws.FnExactStateOK", spec := "fnExactStateOK", unfollowed := true, recurses := true, apart := false, narrowed := true }
def FnExactStateOKUptoSaid : Prop := fnExactStateOKUptoRow.holds Try.pinned (OpenSpec.upto fnExactStateOKSpec)

/-- 'laws.FnExactSameState', WHERE WHAT IT READS IS OF BULK AT MOST 1048576: true; the input reads as it did. -/
def fnExactSameStateUptoRow : OpenClaim := { program := "ytbkgjjiceldjeaa", sum := "d107079cc688a6ea95ef3ecc885363e236893945f3243293b0da947bd62275df", func := "loop.example/g00220/laws.FnExactSameState", spec := "fnExactSameState", unfollowed := true, recurses := true, apart := false, narrowed := true }
def FnExactSameStateUptoSaid : Prop := fnExactSameStateUptoRow.holds Try.pinned (OpenSpec.upto fnExactSameStateSpec)

/-- 'laws.FnExactFileData', WHERE WHAT IT READS IS OF BULK AT MOST 1048576: true; the input reads as it did. -/
def fnExactFileDataUptoRow : OpenClaim := { program := "ytbkgjjiceldjeaa", sum := "d107079cc688a6ea95ef3ecc885363e236893945f3243293b0da947bd62275df", func := "loop.example/g00220/laws.FnExactFileData", spec := "fnExactFileData", inPlace := ["internal/bytealg.abigen_runtime_cmpstring"], unfollowed := true, recurses := true, apart := false, narrowed := true }
def FnExactFileDataUptoSaid : Prop := fnExactFileDataUptoRow.holds Try.pinned (OpenSpec.upto fnExactFileDataSpec)

/-- 'laws.FnExactStateRecords', WHERE WHAT IT READS IS OF BULK AT MOST 1048576: true; the input reads as it did. -/
def fnExactStateRecordsUptoRow : OpenClaim := { program := "ytbkgjjiceldjeaa", sum := "d107079cc688a6ea95ef3ecc885363e236893945f3243293b0da947bd62275df", func := "loop.example/g00220/laws.FnExactStateRecords", spec := "fnExactStateRecords", unfollowed := true, recurses := true, apart := false, narrowed := true }
def FnExactStateRecordsUptoSaid : Prop := fnExactStateRecordsUptoRow.holds Try.pinned (OpenSpec.upto fnExactStateRecordsSpec)

end Rows
end Go.Proofs.Ytbkgjjiceldjeaa
