/-
  NARROWER THAN 'FOR EVERY INPUT', by the rows' own cells (each row's printed sentence says how): FnExactMapOK: loops · FnExactMapRoot: loops · FnExactMapGet: loops · FnExactMapList: loops.
  DERIVED. THE GIVEN ROWS OF THIS SEAT. 9 by the template 'for every input the law returns true; each argument reads behind the call as it read before'; 0 by the template 'total and deterministic' (their statements: YtamjkgbimcpfaaaTotals.lean).
  GIVEN WITH THE SEED: the statements are not yours to turn. If you find one false, say at which input.
  Laid BY PROGRAM, IN A SANDBOX (cutbox-rows.mjs): the forced cells as the released guide's own fill.sh prints them over the translation f1235a1af44696c8… (all of the seat's roots in one cut). By AI agents, Wed Nov 11 2026. No macro, syntax, notation, axiom, sorry.
-/
import Derived.Test.YtamjkgbimcpfaaaChecked
import GoSem.Claim
import GoSem.ClaimJoined
import GoSem.ClaimMapViews
import Derived.JoinedTies
import Derived.KernelRfl
namespace Go.Proofs.Ytamjkgbimcpfaaa
/- THE CELL 'sum', in the pinned program and in every row, IS THE sha256 OF THE DUMP (.gsa) THAT YtamjkgbimcpfaaaProg.lean LOADS. Nothing in Lean hashes anything: it is a label: what it is worth is what the hold of that sum in a sandbox is worth. -/
noncomputable def Try.pinned : Pinned := { name := "ytamjkgbimcpfaaa", sum := "f1235a1af44696c88168bbeb30f36e38c01c5a95df82d6b6b2fced9d74c055aa", checked := Try.checked }
namespace Rows
def none {H : Type} : Left H := { results := [], args := [] }

/-- 'laws.FnExactConsistencyProof': WHATEVER THE INPUT: true; the input reads as it did. -/
def fnExactConsistencyProofSpec : ChangeSpec := { name := "fnExactConsistencyProof", fn := fun _ => fun
  | [d1, d2] => { results := [.lit (.bool true)], args := [d1, d2] }
  | _ => none }
def fnExactConsistencyProofRow : OpenClaim := { program := "ytamjkgbimcpfaaa", sum := "f1235a1af44696c88168bbeb30f36e38c01c5a95df82d6b6b2fced9d74c055aa", func := "loop.example/g00220/laws.FnExactConsistencyProof", spec := "fnExactConsistencyProof", inPlace := ["internal/abi.NoEscape", "internal/bytealg.MakeNoZero"], unfollowed := true, recurses := true, apart := false }
def FnExactConsistencyProofSaid : Prop := fnExactConsistencyProofRow.holds Try.pinned (OpenSpec.ofChange fnExactConsistencyProofSpec)

/-- ITS FALSE NEIGHBOUR: 'it returns false'. Refute it at one input. -/
def fnExactConsistencyProofWrong : ChangeSpec := { name := "fnExactConsistencyProof", fn := fun _ => fun
  | [d1, d2] => { results := [.lit (.bool false)], args := [d1, d2] }
  | _ => none }
def FnExactConsistencyProofWrongFalsely : Prop := fnExactConsistencyProofRow.holds Try.pinned (OpenSpec.ofChange fnExactConsistencyProofWrong)

/-- 'laws.FnPeaks': WHATEVER THE INPUT: true; the input reads as it did. -/
def fnPeaksSpec : ChangeSpec := { name := "fnPeaks", fn := fun _ => fun
  | [d] => { results := [.lit (.bool true)], args := [d] }
  | _ => none }
def fnPeaksRow : OpenClaim := { program := "ytamjkgbimcpfaaa", sum := "f1235a1af44696c88168bbeb30f36e38c01c5a95df82d6b6b2fced9d74c055aa", func := "loop.example/g00220/laws.FnPeaks", spec := "fnPeaks", inPlace := ["internal/abi.NoEscape", "internal/bytealg.MakeNoZero"], unfollowed := true, recurses := true, apart := false }
def FnPeaksSaid : Prop := fnPeaksRow.holds Try.pinned (OpenSpec.ofChange fnPeaksSpec)

/-- ITS FALSE NEIGHBOUR: 'it returns false'. Refute it at one input. -/
def fnPeaksWrong : ChangeSpec := { name := "fnPeaks", fn := fun _ => fun
  | [d] => { results := [.lit (.bool false)], args := [d] }
  | _ => none }
def FnPeaksWrongFalsely : Prop := fnPeaksRow.holds Try.pinned (OpenSpec.ofChange fnPeaksWrong)

/-- 'laws.FnGrowth': WHATEVER THE INPUT: true; the input reads as it did. -/
def fnGrowthSpec : ChangeSpec := { name := "fnGrowth", fn := fun _ => fun
  | [d1, d2] => { results := [.lit (.bool true)], args := [d1, d2] }
  | _ => none }
def fnGrowthRow : OpenClaim := { program := "ytamjkgbimcpfaaa", sum := "f1235a1af44696c88168bbeb30f36e38c01c5a95df82d6b6b2fced9d74c055aa", func := "loop.example/g00220/laws.FnGrowth", spec := "fnGrowth", inPlace := ["internal/abi.NoEscape", "internal/bytealg.MakeNoZero"], unfollowed := true, recurses := true, apart := false }
def FnGrowthSaid : Prop := fnGrowthRow.holds Try.pinned (OpenSpec.ofChange fnGrowthSpec)

/-- ITS FALSE NEIGHBOUR: 'it returns false'. Refute it at one input. -/
def fnGrowthWrong : ChangeSpec := { name := "fnGrowth", fn := fun _ => fun
  | [d1, d2] => { results := [.lit (.bool false)], args := [d1, d2] }
  | _ => none }
def FnGrowthWrongFalsely : Prop := fnGrowthRow.holds Try.pinned (OpenSpec.ofChange fnGrowthWrong)

/-- 'laws.FnMerkle': WHATEVER THE INPUT: true; the input reads as it did. -/
def fnMerkleSpec : ChangeSpec := { name := "fnMerkle", fn := fun _ => fun
  | [d1, d2] => { results := [.lit (.bool true)], args := [d1, d2] }
  | _ => none }
def fnMerkleRow : OpenClaim := { program := "ytamjkgbimcpfaaa", sum := "f1235a1af44696c88168bbeb30f36e38c01c5a95df82d6b6b2fced9d74c055aa", func := "loop.example/g00220/laws.FnMerkle", spec := "fnMerkle", inPlace := ["internal/abi.NoEscape", "internal/bytealg.MakeNoZero"], unfollowed := true, recurses := true, apart := false }
def FnMerkleSaid : Prop := fnMerkleRow.holds Try.pinned (OpenSpec.ofChange fnMerkleSpec)

/-- ITS FALSE NEIGHBOUR: 'it returns false'. Refute it at one input. -/
def fnMerkleWrong : ChangeSpec := { name := "fnMerkle", fn := fun _ => fun
  | [d1, d2] => { results := [.lit (.bool false)], args := [d1, d2] }
  | _ => none }
def FnMerkleWrongFalsely : Prop := fnMerkleRow.holds Try.pinned (OpenSpec.ofChange fnMerkleWrong)

/-- 'laws.FnExactMapOK': WHATEVER THE INPUT: true; the input reads as it did. -/
def fnExactMapOKSpec : ChangeSpec := { name := "fnExactMapOK", fn := fun _ => fun
  | [d] => { results := [.lit (.bool true)], args := [d] }
  | _ => none }
def fnExactMapOKRow : OpenClaim := { program := "ytamjkgbimcpfaaa", sum := "f1235a1af44696c88168bbeb30f36e38c01c5a95df82d6b6b2fced9d74c055aa", func := "loop.example/g00220/laws.FnExactMapOK", spec := "fnExactMapOK", inPlace := ["internal/abi.NoEscape", "internal/bytealg.MakeNoZero"], unfollowed := true, recurses := true, loops := true, apart := false }
def FnExactMapOKSaid : Prop := fnExactMapOKRow.holds Try.pinned (OpenSpec.ofChange fnExactMapOKSpec)

/-- ITS FALSE NEIGHBOUR: 'it returns false'. Refute it at one input. -/
def fnExactMapOKWrong : ChangeSpec := { name := "fnExactMapOK", fn := fun _ => fun
  | [d] => { results := [.lit (.bool false)], args := [d] }
  | _ => none }
def FnExactMapOKWrongFalsely : Prop := fnExactMapOKRow.holds Try.pinned (OpenSpec.ofChange fnExactMapOKWrong)

/-- 'laws.FnExactMapRoot': WHATEVER THE INPUT: true; the input reads as it did. -/
def fnExactMapRootSpec : ChangeSpec := { name := "fnExactMapRoot", fn := fun _ => fun
  | [d] => { results := [.lit (.bool true)], args := [d] }
  | _ => none }
def fnExactMapRootRow : OpenClaim := { program := "ytamjkgbimcpfaaa", sum := "f1235a1af44696c88168bbeb30f36e38c01c5a95df82d6b6b2fced9d74c055aa", func := "loop.example/g00220/laws.FnExactMapRoot", spec := "fnExactMapRoot", inPlace := ["internal/abi.NoEscape", "internal/bytealg.MakeNoZero"], unfollowed := true, recurses := true, loops := true, apart := false }
def FnExactMapRootSaid : Prop := fnExactMapRootRow.holds Try.pinned (OpenSpec.ofChange fnExactMapRootSpec)

/-- ITS FALSE NEIGHBOUR: 'it returns false'. Refute it at one input. -/
def fnExactMapRootWrong : ChangeSpec := { name := "fnExactMapRoot", fn := fun _ => fun
  | [d] => { results := [.lit (.bool false)], args := [d] }
  | _ => none }
def FnExactMapRootWrongFalsely : Prop := fnExactMapRootRow.holds Try.pinned (OpenSpec.ofChange fnExactMapRootWrong)

/-- 'laws.FnExactCheckKey': WHATEVER THE INPUT: true; the input reads as it did. -/
def fnExactCheckKeySpec : ChangeSpec := { name := "fnExactCheckKey", fn := fun _ => fun
  | [d1, d2, d3] => { results := [.lit (.bool true)], args := [d1, d2, d3] }
  | _ => none }
def fnExactCheckKeyRow : OpenClaim := { program := "ytamjkgbimcpfaaa", sum := "f1235a1af44696c88168bbeb30f36e38c01c5a95df82d6b6b2fced9d74c055aa", func := "loop.example/g00220/laws.FnExactCheckKey", spec := "fnExactCheckKey", inPlace := ["internal/abi.NoEscape", "internal/bytealg.MakeNoZero"], unfollowed := true, recurses := true, apart := false }
def FnExactCheckKeySaid : Prop := fnExactCheckKeyRow.holds Try.pinned (OpenSpec.ofChange fnExactCheckKeySpec)

/-- ITS FALSE NEIGHBOUR: 'it returns false'. Refute it at one input. -/
def fnExactCheckKeyWrong : ChangeSpec := { name := "fnExactCheckKey", fn := fun _ => fun
  | [d1, d2, d3] => { results := [.lit (.bool false)], args := [d1, d2, d3] }
  | _ => none }
def FnExactCheckKeyWrongFalsely : Prop := fnExactCheckKeyRow.holds Try.pinned (OpenSpec.ofChange fnExactCheckKeyWrong)

/-- 'laws.FnExactMapGet': WHATEVER THE INPUT: true; the input reads as it did. -/
def fnExactMapGetSpec : ChangeSpec := { name := "fnExactMapGet", fn := fun _ => fun
  | [d1, d2] => { results := [.lit (.bool true)], args := [d1, d2] }
  | _ => none }
def fnExactMapGetRow : OpenClaim := { program := "ytamjkgbimcpfaaa", sum := "f1235a1af44696c88168bbeb30f36e38c01c5a95df82d6b6b2fced9d74c055aa", func := "loop.example/g00220/laws.FnExactMapGet", spec := "fnExactMapGet", inPlace := ["internal/abi.NoEscape", "internal/bytealg.MakeNoZero", "internal/bytealg.abigen_runtime_cmpstring"], unfollowed := true, recurses := true, loops := true, apart := false }
def FnExactMapGetSaid : Prop := fnExactMapGetRow.holds Try.pinned (OpenSpec.ofChange fnExactMapGetSpec)

/-- ITS FALSE NEIGHBOUR: 'it returns false'. Refute it at one input. -/
def fnExactMapGetWrong : ChangeSpec := { name := "fnExactMapGet", fn := fun _ => fun
  | [d1, d2] => { results := [.lit (.bool false)], args := [d1, d2] }
  | _ => none }
def FnExactMapGetWrongFalsely : Prop := fnExactMapGetRow.holds Try.pinned (OpenSpec.ofChange fnExactMapGetWrong)

/-- 'laws.FnExactMapList': WHATEVER THE INPUT: true; the input reads as it did. -/
def fnExactMapListSpec : ChangeSpec := { name := "fnExactMapList", fn := fun _ => fun
  | [d] => { results := [.lit (.bool true)], args := [d] }
  | _ => none }
def fnExactMapListRow : OpenClaim := { program := "ytamjkgbimcpfaaa", sum := "f1235a1af44696c88168bbeb30f36e38c01c5a95df82d6b6b2fced9d74c055aa", func := "loop.example/g00220/laws.FnExactMapList", spec := "fnExactMapList", inPlace := ["internal/abi.NoEscape", "internal/bytealg.MakeNoZero"], unfollowed := true, recurses := true, loops := true, apart := false }
def FnExactMapListSaid : Prop := fnExactMapListRow.holds Try.pinned (OpenSpec.ofChange fnExactMapListSpec)

/-- ITS FALSE NEIGHBOUR: 'it returns false'. Refute it at one input. -/
def fnExactMapListWrong : ChangeSpec := { name := "fnExactMapList", fn := fun _ => fun
  | [d] => { results := [.lit (.bool false)], args := [d] }
  | _ => none }
def FnExactMapListWrongFalsely : Prop := fnExactMapListRow.holds Try.pinned (OpenSpec.ofChange fnExactMapListWrong)

/- THE SECOND FORM. 'bulk': how many values and letters a reading holds, each counted each time it is reached (what is shared counts as often as it is met; a slice's spare places count too). A statement '..UptoSaid' is the law's where the arguments, and the package variables that the reading takes, are together of bulk at most 1048576: NARROWER than '..Said'. Prove '..Said' where nothing that the law and all that it calls make is longer than what came in: it says more and counts as full. Else prove '..UptoSaid'. A law counts once. -/
mutual
def uptoBulk {H : Type} : DataW H → Nat
  | .lit (.string bytes) => bytes.length + 1
  | .lit _ => 1
  | .nil => 1
  | .ptr d => uptoBulk d + 1
  | .slice elems spare => uptoBulkAll elems + uptoBulkAll spare + 1
  | .agg parts => uptoBulkAll parts + 1
  | .iface _ d => uptoBulk d + 1
  | .map entries => uptoBulkEntries entries + 1
  | .held _ => 1
def uptoBulkAll {H : Type} : List (DataW H) → Nat
  | [] => 0
  | d :: r => uptoBulk d + uptoBulkAll r
def uptoBulkEntries {H : Type} : List (Lit × DataW H) → Nat
  | [] => 0
  | x :: r => uptoBulkEntry x + uptoBulkEntries r
def uptoBulkEntry {H : Type} : Lit × DataW H → Nat
  | (.string bytes, d) => bytes.length + uptoBulk d + 1
  | (_, d) => uptoBulk d + 1
 end
def uptoSmall : (H : Type) → List (DataW H) → Bool := fun _ ds => decide (uptoBulkAll ds ≤ 1048576)
def OpenSpec.upto (s : _root_.Go.ChangeSpec) : _root_.Go.OpenSpec := { _root_.Go.OpenSpec.ofChange s with cond := some uptoSmall }

/-- 'laws.FnExactConsistencyProof', WHERE WHAT IT READS IS OF BULK AT MOST 1048576: true; the input reads as it did. -/
def fnExactConsistencyProofUptoRow : OpenClaim := { program := "ytamjkgbimcpfaaa", sum := "f1235a1af44696c88168bbeb30f36e38c01c5a95df82d6b6b2fced9d74c055aa", func := "loop.example/g00220/laws.FnExactConsistencyProof", spec := "fnExactConsistencyProof", inPlace := ["internal/abi.NoEscape", "internal/bytealg.MakeNoZero"], unfollowed := true, recurses := true, apart := false, narrowed := true }
def FnExactConsistencyProofUptoSaid : Prop := fnExactConsistencyProofUptoRow.holds Try.pinned (OpenSpec.upto fnExactConsistencyProofSpec)

/-- 'laws.FnPeaks', WHERE WHAT IT READS IS OF BULK AT MOST 1048576: true; the input reads as it did. -/
def fnPeaksUptoRow : OpenClaim := { program := "ytamjkgbimcpfaaa", sum := "f1235a1af44696c88168bbeb30f36e38c01c5a95df82d6b6b2fced9d74c055aa", func := "loop.example/g00220/laws.FnPeaks", spec := "fnPeaks", inPlace := ["internal/abi.NoEscape", "internal/bytealg.MakeNoZero"], unfollowed := true, recurses := true, apart := false, narrowed := true }
def FnPeaksUptoSaid : Prop := fnPeaksUptoRow.holds Try.pinned (OpenSpec.upto fnPeaksSpec)

/-- 'laws.FnGrowth', WHERE WHAT IT READS IS OF BULK AT MOST 1048576: true; the input reads as it did. -/
def fnGrowthUptoRow : OpenClaim := { program := "ytamjkgbimcpfaaa", sum := "f1235a1af44696c88168bbeb30f36e38c01c5a95df82d6b6b2fced9d74c055aa", func := "loop.example/g00220/laws.FnGrowth", spec := "fnGrowth", inPlace := ["internal/abi.NoEscape", "internal/bytealg.MakeNoZero"], unfollowed := true, recurses := true, apart := false, narrowed := true }
def FnGrowthUptoSaid : Prop := fnGrowthUptoRow.holds Try.pinned (OpenSpec.upto fnGrowthSpec)

/-- 'laws.FnMerkle', WHERE WHAT IT READS IS OF BULK AT MOST 1048576: true; the input reads as it did. -/
def fnMerkleUptoRow : OpenClaim := { program := "ytamjkgbimcpfaaa", sum := "f1235a1af44696c88168bbeb30f36e38c01c5a95df82d6b6b2fced9d74c055aa", func := "loop.example/g00220/laws.FnMerkle", spec := "fnMerkle", inPlace := ["internal/abi.NoEscape", "internal/bytealg.MakeNoZero"], unfollowed := true, recurses := true, apart := false, narrowed := true }
def FnMerkleUptoSaid : Prop := fnMerkleUptoRow.holds Try.pinned (OpenSpec.upto fnMerkleSpec)

/-- 'laws.FnExactMapOK', WHERE WHAT IT READS IS OF BULK AT MOST 1048576: true; the input reads as it did. -/
def fnExactMapOKUptoRow : OpenClaim := { program := "ytamjkgbimcpfaaa", sum := "f1235a1af44696c88168bbeb30f36e38c01c5a95df82d6b6b2fced9d74c055aa", func := "loop.example/g00220/laws.FnExactMapOK", spec := "fnExactMapOK", inPlace := ["internal/abi.NoEscape", "internal/bytealg.MakeNoZero"], unfollowed := true, recurses := true, loops := true, apart := false, narrowed := true }
def FnExactMapOKUptoSaid : Prop := fnExactMapOKUptoRow.holds Try.pinned (OpenSpec.upto fnExactMapOKSpec)

/-- 'laws.FnExactMapRoot', WHERE WHAT IT READS IS OF BULK AT MOST 1048576: true; the input reads as it did. -/
def fnExactMapRootUptoRow : OpenClaim := { program := "ytamjkgbimcpfaaa", sum := "f1235a1af44696c88168bbeb30f36e38c01c5a95df82d6b6b2fced9d74c055aa", func := "loop.example/g00220/laws.FnExactMapRoot", spec := "fnExactMapRoot", inPlace := ["internal/abi.NoEscape", "internal/bytealg.MakeNoZero"], unfollowed := true, recurses := true, loops := true, apart := false, narrowed := true }
def FnExactMapRootUptoSaid : Prop := fnExactMapRootUptoRow.holds Try.pinned (OpenSpec.upto fnExactMapRootSpec)

/-- 'laws.FnExactCheckKey', WHERE WHAT IT READS IS OF BULK AT MOST 1048576: true; the input reads as it did. -/
def fnExactCheckKeyUptoRow : OpenClaim := { program := "ytamjkgbimcpfaaa", sum := "f1235a1af44696c88168bbeb30f36e38c01c5a95df82d6b6b2fced9d74c055aa", func := "loop.example/g00220/laws.FnExactCheckKey", spec := "fnExactCheckKey", inPlace := ["internal/abi.NoEscape", "internal/bytealg.MakeNoZero"], unfollowed := true, recurses := true, apart := false, narrowed := true }
def FnExactCheckKeyUptoSaid : Prop := fnExactCheckKeyUptoRow.holds Try.pinned (OpenSpec.upto fnExactCheckKeySpec)

/-- 'laws.FnExactMapGet', WHERE WHAT IT READS IS OF BULK AT MOST 1048576: true; the input reads as it did. -/
def fnExactMapGetUptoRow : OpenClaim := { program := "ytamjkgbimcpfaaa", sum := "f1235a1af44696c88168bbeb30f36e38c01c5a95df82d6b6b2fced9d74c055aa", func := "loop.example/g00220/laws.FnExactMapGet", spec := "fnExactMapGet", inPlace := ["internal/abi.NoEscape", "internal/bytealg.MakeNoZero", "internal/bytealg.abigen_runtime_cmpstring"], unfollowed := true, recurses := true, loops := true, apart := false, narrowed := true }
def FnExactMapGetUptoSaid : Prop := fnExactMapGetUptoRow.holds Try.pinned (OpenSpec.upto fnExactMapGetSpec)

/-- 'laws.FnExactMapList', WHERE WHAT IT READS IS OF BULK AT MOST 1048576: true; the input reads as it did. -/
def fnExactMapListUptoRow : OpenClaim := { program := "ytamjkgbimcpfaaa", sum := "f1235a1af44696c88168bbeb30f36e38c01c5a95df82d6b6b2fced9d74c055aa", func := "loop.example/g00220/laws.FnExactMapList", spec := "fnExactMapList", inPlace := ["internal/abi.NoEscape", "internal/bytealg.MakeNoZero"], unfollowed := true, recurses := true, loops := true, apart := false, narrowed := true }
def FnExactMapListUptoSaid : Prop := fnExactMapListUptoRow.holds Try.pinned (OpenSpec.upto fnExactMapListSpec)

end Rows
end Go.Proofs.Ytamjkgbimcpfaaa
