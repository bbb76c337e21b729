/-
  No cell of these rows narrows 'for every input' (looked for: loops, veiled, ifaces, maps, wideKeys, modest, calm, conditions, laid).
  DERIVED. THE GIVEN ROWS OF THIS SEAT. 4 by the template 'for every input the law returns true; each argument reads behind the call as it read before'; 0 by the template 'total and deterministic' (their statements: YtfjpkblkdlgaeaaTotals.lean).
  GIVEN WITH THE SEED: the statements are not yours to turn. If you find one false, say at which input.
  Laid BY PROGRAM, IN A SANDBOX (cutbox-rows.mjs): the forced cells as the released guide's own fill.sh prints them over the translation bf1f2e9e27cccf5a… (all of the seat's roots in one cut). By AI agents, Wed Nov 11 2026. No macro, syntax, notation, axiom, sorry.
-/
import Derived.Test.YtfjpkblkdlgaeaaChecked
import GoSem.Claim
import GoSem.ClaimJoined
import GoSem.ClaimMapViews
import Derived.JoinedTies
import Derived.KernelRfl
namespace Go.Proofs.Ytfjpkblkdlgaeaa
/- THE CELL 'sum', in the pinned program and in every row, IS THE sha256 OF THE DUMP (.gsa) THAT YtfjpkblkdlgaeaaProg.lean LOADS. Nothing in Lean hashes anything: it is a label: what it is worth is what the hold of that sum in a sandbox is worth. -/
noncomputable def Try.pinned : Pinned := { name := "ytfjpkblkdlgaeaa", sum := "bf1f2e9e27cccf5a7f122231f23baf818cdadd87bf3bbeb584e4df7b87f04ff6", checked := Try.checked }
namespace Rows
def none {H : Type} : Left H := { results := [], args := [] }

/-- 'laws.FnExactPeaksRoot': WHATEVER THE INPUT: true; the input reads as it did. -/
def fnExactPeaksRootSpec : ChangeSpec := { name := "fnExactPeaksRoot", fn := fun _ => fun
  | [d] => { results := [.lit (.bool true)], args := [d] }
  | _ => none }
def fnExactPeaksRootRow : OpenClaim := { program := "ytfjpkblkdlgaeaa", sum := "bf1f2e9e27cccf5a7f122231f23baf818cdadd87bf3bbeb584e4df7b87f04ff6", func := "loop.example/g00220/laws.FnExactPeaksRoot", spec := "fnExactPeaksRoot", inPlace := ["internal/abi.NoEscape", "internal/bytealg.MakeNoZero"], unfollowed := true, recurses := true, apart := false }
def FnExactPeaksRootSaid : Prop := fnExactPeaksRootRow.holds Try.pinned (OpenSpec.ofChange fnExactPeaksRootSpec)

/-- ITS FALSE NEIGHBOUR: 'it returns false'. Refute it at one input. -/
def fnExactPeaksRootWrong : ChangeSpec := { name := "fnExactPeaksRoot", fn := fun _ => fun
  | [d] => { results := [.lit (.bool false)], args := [d] }
  | _ => none }
def FnExactPeaksRootWrongFalsely : Prop := fnExactPeaksRootRow.holds Try.pinned (OpenSpec.ofChange fnExactPeaksRootWrong)

/-- 'laws.FnExactCommandBytes': WHATEVER THE INPUT: true; the input reads as it did. -/
def fnExactCommandBytesSpec : ChangeSpec := { name := "fnExactCommandBytes", fn := fun _ => fun
  | [d] => { results := [.lit (.bool true)], args := [d] }
  | _ => none }
def fnExactCommandBytesRow : OpenClaim := { program := "ytfjpkblkdlgaeaa", sum := "bf1f2e9e27cccf5a7f122231f23baf818cdadd87bf3bbeb584e4df7b87f04ff6", func := "loop.example/g00220/laws.FnExactCommandBytes", spec := "fnExactCommandBytes", apart := false }
def FnExactCommandBytesSaid : Prop := fnExactCommandBytesRow.holds Try.pinned (OpenSpec.ofChange fnExactCommandBytesSpec)

/-- ITS FALSE NEIGHBOUR: 'it returns false'. Refute it at one input. -/
def fnExactCommandBytesWrong : ChangeSpec := { name := "fnExactCommandBytes", fn := fun _ => fun
  | [d] => { results := [.lit (.bool false)], args := [d] }
  | _ => none }
def FnExactCommandBytesWrongFalsely : Prop := fnExactCommandBytesRow.holds Try.pinned (OpenSpec.ofChange fnExactCommandBytesWrong)

/-- 'laws.FnExactFileData': WHATEVER THE INPUT: true; the input reads as it did. -/
def fnExactFileDataSpec : ChangeSpec := { name := "fnExactFileData", fn := fun _ => fun
  | [d1, d2] => { results := [.lit (.bool true)], args := [d1, d2] }
  | _ => none }
def fnExactFileDataRow : OpenClaim := { program := "ytfjpkblkdlgaeaa", sum := "bf1f2e9e27cccf5a7f122231f23baf818cdadd87bf3bbeb584e4df7b87f04ff6", func := "loop.example/g00220/laws.FnExactFileData", spec := "fnExactFileData", inPlace := ["internal/bytealg.abigen_runtime_cmpstring"], unfollowed := true, recurses := true, apart := false }
def FnExactFileDataSaid : Prop := fnExactFileDataRow.holds Try.pinned (OpenSpec.ofChange fnExactFileDataSpec)

/-- ITS FALSE NEIGHBOUR: 'it returns false'. Refute it at one input. -/
def fnExactFileDataWrong : ChangeSpec := { name := "fnExactFileData", fn := fun _ => fun
  | [d1, d2] => { results := [.lit (.bool false)], args := [d1, d2] }
  | _ => none }
def FnExactFileDataWrongFalsely : Prop := fnExactFileDataRow.holds Try.pinned (OpenSpec.ofChange fnExactFileDataWrong)

/-- 'laws.FnFrames': WHATEVER THE INPUT: true; the input reads as it did. -/
def fnFramesSpec : ChangeSpec := { name := "fnFrames", fn := fun _ => fun
  | [d1, d2] => { results := [.lit (.bool true)], args := [d1, d2] }
  | _ => none }
def fnFramesRow : OpenClaim := { program := "ytfjpkblkdlgaeaa", sum := "bf1f2e9e27cccf5a7f122231f23baf818cdadd87bf3bbeb584e4df7b87f04ff6", func := "loop.example/g00220/laws.FnFrames", spec := "fnFrames", apart := false }
def FnFramesSaid : Prop := fnFramesRow.holds Try.pinned (OpenSpec.ofChange fnFramesSpec)

/-- ITS FALSE NEIGHBOUR: 'it returns false'. Refute it at one input. -/
def fnFramesWrong : ChangeSpec := { name := "fnFrames", fn := fun _ => fun
  | [d1, d2] => { results := [.lit (.bool false)], args := [d1, d2] }
  | _ => none }
def FnFramesWrongFalsely : Prop := fnFramesRow.holds Try.pinned (OpenSpec.ofChange fnFramesWrong)

/- THE SECOND FORM. 'bulk': how many values and letters a reading holds, each counted each time it is reached (what is shared counts as often as it is met; a slice's spare places count too). A statement '..UptoSaid' is the law's where the arguments, and the package variables that the reading takes, are together of bulk at most 1048576: NARROWER than '..Said'. Prove '..Said' where nothing that the law and all that it calls make is longer than what came in: it says more and counts as full. Else prove '..UptoSaid'. A law counts once. -/
mutual
def uptoBulk {H : Type} : DataW H → Nat
  | .lit (.string bytes) => bytes.length + 1
  | .lit _ => 1
  | .nil => 1
  | .ptr d => uptoBulk d + 1
  | .slice elems spare => uptoBulkAll elems + uptoBulkAll spare + 1
  | .agg parts => uptoBulkAll parts + 1
  | .iface _ d => uptoBulk d + 1
  | .map entries => uptoBulkEntries entries + 1
  | .held _ => 1
def uptoBulkAll {H : Type} : List (DataW H) → Nat
  | [] => 0
  | d :: r => uptoBulk d + uptoBulkAll r
def uptoBulkEntries {H : Type} : List (Lit × DataW H) → Nat
  | [] => 0
  | x :: r => uptoBulkEntry x + uptoBulkEntries r
def uptoBulkEntry {H : Type} : Lit × DataW H → Nat
  | (.string bytes, d) => bytes.length + uptoBulk d + 1
  | (_, d) => uptoBulk d + 1
 end
def uptoSmall : (H : Type) → List (DataW H) → Bool := fun _ ds => decide (uptoBulkAll ds ≤ 1048576)
def OpenSpec.upto (s : _root_.Go.ChangeSpec) : _root_.Go.OpenSpec := { _root_.Go.OpenSpec.ofChange s with cond := some uptoSmall }

/-- 'laws.FnExactPeaksRoot', WHERE WHAT IT READS IS OF BULK AT MOST 1048576: true; the input reads as it did. -/
def fnExactPeaksRootUptoRow : OpenClaim := { program := "ytfjpkblkdlgaeaa", sum := "bf1f2e9e27cccf5a7f122231f23baf818cdadd87bf3bbeb584e4df7b87f04ff6", func := "loop.example/g00220/laws.FnExactPeaksRoot", spec := "fnExactPeaksRoot", inPlace := ["internal/abi.NoEscape", "internal/bytealg.MakeNoZero"], unfollowed := true, recurses := true, apart := false, narrowed := true }
def FnExactPeaksRootUptoSaid : Prop := fnExactPeaksRootUptoRow.holds Try.pinned (OpenSpec.upto fnExactPeaksRootSpec)

/-- 'laws.FnExactCommandBytes', WHERE WHAT IT READS IS OF BULK AT MOST 1048576: true; the input reads as it did. -/
def fnExactCommandBytesUptoRow : OpenClaim := { program := "ytfjpkblkdlgaeaa", sum := "bf1f2e9e27cccf5a7f122231f23baf818cdadd87bf3bbeb584e4df7b87f04ff6", func := "loop.example/g00220/laws.FnExactCommandBytes", spec := "fnExactCommandBytes", apart := false, narrowed := true }
def FnExactCommandBytesUptoSaid : Prop := fnExactCommandBytesUptoRow.holds Try.pinned (OpenSpec.upto fnExactCommandBytesSpec)

/-- 'laws.FnExactFileData', WHERE WHAT IT READS IS OF BULK AT MOST 1048576: true; the input reads as it did. -/
def fnExactFileDataUptoRow : OpenClaim := { program := "ytfjpkblkdlgaeaa", sum := "bf1f2e9e27cccf5a7f122231f23baf818cdadd87bf3bbeb584e4df7b87f04ff6", func := "loop.example/g00220/laws.FnExactFileData", spec := "fnExactFileData", inPlace := ["internal/bytealg.abigen_runtime_cmpstring"], unfollowed := true, recurses := true, apart := false, narrowed := true }
def FnExactFileDataUptoSaid : Prop := fnExactFileDataUptoRow.holds Try.pinned (OpenSpec.upto fnExactFileDataSpec)

/-- 'laws.FnFrames', WHERE WHAT IT READS IS OF BULK AT MOST 1048576: true; the input reads as it did. -/
def fnFramesUptoRow : OpenClaim := { program := "ytfjpkblkdlgaeaa", sum := "bf1f2e9e27cccf5a7f122231f23baf818cdadd87bf3bbeb584e4df7b87f04ff6", func := "loop.example/g00220/laws.FnFrames", spec := "fnFrames", apart := false, narrowed := true }
def FnFramesUptoSaid : Prop := fnFramesUptoRow.holds Try.pinned (OpenSpec.upto fnFramesSpec)

end Rows
end Go.Proofs.Ytfjpkblkdlgaeaa
