/-
  No cell of these rows narrows 'for every input' (looked for: loops, veiled, ifaces, maps, wideKeys, modest, calm, conditions, laid).
  DERIVED. THE GIVEN ROWS OF THIS SEAT. 10 by the template 'for every input the law returns true; each argument reads behind the call as it read before'; 0 by the template 'total and deterministic' (their statements: YtpoaapedcmfcfaaTotals.lean).
  GIVEN WITH THE SEED: the statements are not yours to turn. If you find one false, say at which input.
  Laid BY PROGRAM, IN A SANDBOX (cutbox-rows.mjs): the forced cells as the released guide's own fill.sh prints them over the translation 978964e25ac90aab… (all of the seat's roots in one cut). By AI agents, Wed Nov 11 2026. No macro, syntax, notation, axiom, sorry.
-/
import Derived.Test.YtpoaapedcmfcfaaChecked
import GoSem.Claim
import GoSem.ClaimJoined
import GoSem.ClaimMapViews
import Derived.JoinedTies
import Derived.KernelRfl
namespace Go.Proofs.Ytpoaapedcmfcfaa
/- THE CELL 'sum', in the pinned program and in every row, IS THE sha256 OF THE DUMP (.gsa) THAT YtpoaapedcmfcfaaProg.lean LOADS. Nothing in Lean hashes anything: it is a label: what it is worth is what the hold of that sum in a sandbox is worth. -/
noncomputable def Try.pinned : Pinned := { name := "ytpoaapedcmfcfaa", sum := "978964e25ac90aabd365883d2f0ff412043799215d45b2ded90588cfd1d22202", checked := Try.checked }
namespace Rows
def none {H : Type} : Left H := { results := [], args := [] }

/-- 'laws.FnExactHash': WHATEVER THE INPUT: true; the input reads as it did. -/
def fnExactHashSpec : ChangeSpec := { name := "fnExactHash", fn := fun _ => fun
  | [d] => { results := [.lit (.bool true)], args := [d] }
  | _ => none }
def fnExactHashRow : OpenClaim := { program := "ytpoaapedcmfcfaa", sum := "978964e25ac90aabd365883d2f0ff412043799215d45b2ded90588cfd1d22202", func := "loop.example/g00220/laws.FnExactHash", spec := "fnExactHash", inPlace := ["internal/abi.NoEscape", "internal/bytealg.MakeNoZero"], apart := false }
def FnExactHashSaid : Prop := fnExactHashRow.holds Try.pinned (OpenSpec.ofChange fnExactHashSpec)

/-- ITS FALSE NEIGHBOUR: 'it returns false'. Refute it at one input. -/
def fnExactHashWrong : ChangeSpec := { name := "fnExactHash", fn := fun _ => fun
  | [d] => { results := [.lit (.bool false)], args := [d] }
  | _ => none }
def FnExactHashWrongFalsely : Prop := fnExactHashRow.holds Try.pinned (OpenSpec.ofChange fnExactHashWrong)

/-- 'laws.FnExactLeafHash': WHATEVER THE INPUT: true; the input reads as it did. -/
def fnExactLeafHashSpec : ChangeSpec := { name := "fnExactLeafHash", fn := fun _ => fun
  | [d] => { results := [.lit (.bool true)], args := [d] }
  | _ => none }
def fnExactLeafHashRow : OpenClaim := { program := "ytpoaapedcmfcfaa", sum := "978964e25ac90aabd365883d2f0ff412043799215d45b2ded90588cfd1d22202", func := "loop.example/g00220/laws.FnExactLeafHash", spec := "fnExactLeafHash", inPlace := ["internal/abi.NoEscape", "internal/bytealg.MakeNoZero"], apart := false }
def FnExactLeafHashSaid : Prop := fnExactLeafHashRow.holds Try.pinned (OpenSpec.ofChange fnExactLeafHashSpec)

/-- ITS FALSE NEIGHBOUR: 'it returns false'. Refute it at one input. -/
def fnExactLeafHashWrong : ChangeSpec := { name := "fnExactLeafHash", fn := fun _ => fun
  | [d] => { results := [.lit (.bool false)], args := [d] }
  | _ => none }
def FnExactLeafHashWrongFalsely : Prop := fnExactLeafHashRow.holds Try.pinned (OpenSpec.ofChange fnExactLeafHashWrong)

/-- 'laws.FnExactKeyHash': WHATEVER THE INPUT: true; the input reads as it did. -/
def fnExactKeyHashSpec : ChangeSpec := { name := "fnExactKeyHash", fn := fun _ => fun
  | [d] => { results := [.lit (.bool true)], args := [d] }
  | _ => none }
def fnExactKeyHashRow : OpenClaim := { program := "ytpoaapedcmfcfaa", sum := "978964e25ac90aabd365883d2f0ff412043799215d45b2ded90588cfd1d22202", func := "loop.example/g00220/laws.FnExactKeyHash", spec := "fnExactKeyHash", inPlace := ["internal/abi.NoEscape", "internal/bytealg.MakeNoZero"], unfollowed := true, recurses := true, apart := false }
def FnExactKeyHashSaid : Prop := fnExactKeyHashRow.holds Try.pinned (OpenSpec.ofChange fnExactKeyHashSpec)

/-- ITS FALSE NEIGHBOUR: 'it returns false'. Refute it at one input. -/
def fnExactKeyHashWrong : ChangeSpec := { name := "fnExactKeyHash", fn := fun _ => fun
  | [d] => { results := [.lit (.bool false)], args := [d] }
  | _ => none }
def FnExactKeyHashWrongFalsely : Prop := fnExactKeyHashRow.holds Try.pinned (OpenSpec.ofChange fnExactKeyHashWrong)

/-- 'laws.FnExactNodeHash': WHATEVER THE INPUT: true; the input reads as it did. -/
def fnExactNodeHashSpec : ChangeSpec := { name := "fnExactNodeHash", fn := fun _ => fun
  | [d1, d2] => { results := [.lit (.bool true)], args := [d1, d2] }
  | _ => none }
def fnExactNodeHashRow : OpenClaim := { program := "ytpoaapedcmfcfaa", sum := "978964e25ac90aabd365883d2f0ff412043799215d45b2ded90588cfd1d22202", func := "loop.example/g00220/laws.FnExactNodeHash", spec := "fnExactNodeHash", inPlace := ["internal/abi.NoEscape", "internal/bytealg.MakeNoZero"], unfollowed := true, recurses := true, apart := false }
def FnExactNodeHashSaid : Prop := fnExactNodeHashRow.holds Try.pinned (OpenSpec.ofChange fnExactNodeHashSpec)

/-- ITS FALSE NEIGHBOUR: 'it returns false'. Refute it at one input. -/
def fnExactNodeHashWrong : ChangeSpec := { name := "fnExactNodeHash", fn := fun _ => fun
  | [d1, d2] => { results := [.lit (.bool false)], args := [d1, d2] }
  | _ => none }
def FnExactNodeHashWrongFalsely : Prop := fnExactNodeHashRow.holds Try.pinned (OpenSpec.ofChange fnExactNodeHashWrong)

/-- 'laws.FnExactTreeHash': WHATEVER THE INPUT: true; the input reads as it did. -/
def fnExactTreeHashSpec : ChangeSpec := { name := "fnExactTreeHash", fn := fun _ => fun
  | [d] => { results := [.lit (.bool true)], args := [d] }
  | _ => none }
def fnExactTreeHashRow : OpenClaim := { program := "ytpoaapedcmfcfaa", sum := "978964e25ac90aabd365883d2f0ff412043799215d45b2ded90588cfd1d22202", func := "loop.example/g00220/laws.FnExactTreeHash", spec := "fnExactTreeHash", inPlace := ["internal/abi.NoEscape", "internal/bytealg.MakeNoZero"], unfollowed := true, recurses := true, apart := false }
def FnExactTreeHashSaid : Prop := fnExactTreeHashRow.holds Try.pinned (OpenSpec.ofChange fnExactTreeHashSpec)

/-- ITS FALSE NEIGHBOUR: 'it returns false'. Refute it at one input. -/
def fnExactTreeHashWrong : ChangeSpec := { name := "fnExactTreeHash", fn := fun _ => fun
  | [d] => { results := [.lit (.bool false)], args := [d] }
  | _ => none }
def FnExactTreeHashWrongFalsely : Prop := fnExactTreeHashRow.holds Try.pinned (OpenSpec.ofChange fnExactTreeHashWrong)

/-- 'laws.FnExactPeaksRoot': WHATEVER THE INPUT: true; the input reads as it did. -/
def fnExactPeaksRootSpec : ChangeSpec := { name := "fnExactPeaksRoot", fn := fun _ => fun
  | [d] => { results := [.lit (.bool true)], args := [d] }
  | _ => none }
def fnExactPeaksRootRow : OpenClaim := { program := "ytpoaapedcmfcfaa", sum := "978964e25ac90aabd365883d2f0ff412043799215d45b2ded90588cfd1d22202", func := "loop.example/g00220/laws.FnExactPeaksRoot", spec := "fnExactPeaksRoot", inPlace := ["internal/abi.NoEscape", "internal/bytealg.MakeNoZero"], unfollowed := true, recurses := true, apart := false }
def FnExactPeaksRootSaid : Prop := fnExactPeaksRootRow.holds Try.pinned (OpenSpec.ofChange fnExactPeaksRootSpec)

/-- ITS FALSE NEIGHBOUR: 'it returns false'. Refute it at one input. -/
def fnExactPeaksRootWrong : ChangeSpec := { name := "fnExactPeaksRoot", fn := fun _ => fun
  | [d] => { results := [.lit (.bool false)], args := [d] }
  | _ => none }
def FnExactPeaksRootWrongFalsely : Prop := fnExactPeaksRootRow.holds Try.pinned (OpenSpec.ofChange fnExactPeaksRootWrong)

/-- 'laws.FnExactInclusionRoot': WHATEVER THE INPUT: true; the input reads as it did. -/
def fnExactInclusionRootSpec : ChangeSpec := { name := "fnExactInclusionRoot", fn := fun _ => fun
  | [d1, d2, d3, d4] => { results := [.lit (.bool true)], args := [d1, d2, d3, d4] }
  | _ => none }
def fnExactInclusionRootRow : OpenClaim := { program := "ytpoaapedcmfcfaa", sum := "978964e25ac90aabd365883d2f0ff412043799215d45b2ded90588cfd1d22202", func := "loop.example/g00220/laws.FnExactInclusionRoot", spec := "fnExactInclusionRoot", inPlace := ["internal/abi.NoEscape", "internal/bytealg.MakeNoZero"], unfollowed := true, recurses := true, apart := false }
def FnExactInclusionRootSaid : Prop := fnExactInclusionRootRow.holds Try.pinned (OpenSpec.ofChange fnExactInclusionRootSpec)

/-- ITS FALSE NEIGHBOUR: 'it returns false'. Refute it at one input. -/
def fnExactInclusionRootWrong : ChangeSpec := { name := "fnExactInclusionRoot", fn := fun _ => fun
  | [d1, d2, d3, d4] => { results := [.lit (.bool false)], args := [d1, d2, d3, d4] }
  | _ => none }
def FnExactInclusionRootWrongFalsely : Prop := fnExactInclusionRootRow.holds Try.pinned (OpenSpec.ofChange fnExactInclusionRootWrong)

/-- 'laws.FnExactConsistencyRoots': WHATEVER THE INPUT: true; the input reads as it did. -/
def fnExactConsistencyRootsSpec : ChangeSpec := { name := "fnExactConsistencyRoots", fn := fun _ => fun
  | [d1, d2, d3, d4] => { results := [.lit (.bool true)], args := [d1, d2, d3, d4] }
  | _ => none }
def fnExactConsistencyRootsRow : OpenClaim := { program := "ytpoaapedcmfcfaa", sum := "978964e25ac90aabd365883d2f0ff412043799215d45b2ded90588cfd1d22202", func := "loop.example/g00220/laws.FnExactConsistencyRoots", spec := "fnExactConsistencyRoots", inPlace := ["internal/abi.NoEscape", "internal/bytealg.MakeNoZero"], unfollowed := true, recurses := true, apart := false }
def FnExactConsistencyRootsSaid : Prop := fnExactConsistencyRootsRow.holds Try.pinned (OpenSpec.ofChange fnExactConsistencyRootsSpec)

/-- ITS FALSE NEIGHBOUR: 'it returns false'. Refute it at one input. -/
def fnExactConsistencyRootsWrong : ChangeSpec := { name := "fnExactConsistencyRoots", fn := fun _ => fun
  | [d1, d2, d3, d4] => { results := [.lit (.bool false)], args := [d1, d2, d3, d4] }
  | _ => none }
def FnExactConsistencyRootsWrongFalsely : Prop := fnExactConsistencyRootsRow.holds Try.pinned (OpenSpec.ofChange fnExactConsistencyRootsWrong)

/-- 'laws.FnExactInclusionProof': WHATEVER THE INPUT: true; the input reads as it did. -/
def fnExactInclusionProofSpec : ChangeSpec := { name := "fnExactInclusionProof", fn := fun _ => fun
  | [d1, d2] => { results := [.lit (.bool true)], args := [d1, d2] }
  | _ => none }
def fnExactInclusionProofRow : OpenClaim := { program := "ytpoaapedcmfcfaa", sum := "978964e25ac90aabd365883d2f0ff412043799215d45b2ded90588cfd1d22202", func := "loop.example/g00220/laws.FnExactInclusionProof", spec := "fnExactInclusionProof", inPlace := ["internal/abi.NoEscape", "internal/bytealg.MakeNoZero"], unfollowed := true, recurses := true, apart := false }
def FnExactInclusionProofSaid : Prop := fnExactInclusionProofRow.holds Try.pinned (OpenSpec.ofChange fnExactInclusionProofSpec)

/-- ITS FALSE NEIGHBOUR: 'it returns false'. Refute it at one input. -/
def fnExactInclusionProofWrong : ChangeSpec := { name := "fnExactInclusionProof", fn := fun _ => fun
  | [d1, d2] => { results := [.lit (.bool false)], args := [d1, d2] }
  | _ => none }
def FnExactInclusionProofWrongFalsely : Prop := fnExactInclusionProofRow.holds Try.pinned (OpenSpec.ofChange fnExactInclusionProofWrong)

/-- 'laws.FnExactAddPeak': WHATEVER THE INPUT: true; the input reads as it did. -/
def fnExactAddPeakSpec : ChangeSpec := { name := "fnExactAddPeak", fn := fun _ => fun
  | [d1, d2] => { results := [.lit (.bool true)], args := [d1, d2] }
  | _ => none }
def fnExactAddPeakRow : OpenClaim := { program := "ytpoaapedcmfcfaa", sum := "978964e25ac90aabd365883d2f0ff412043799215d45b2ded90588cfd1d22202", func := "loop.example/g00220/laws.FnExactAddPeak", spec := "fnExactAddPeak", inPlace := ["internal/abi.NoEscape", "internal/bytealg.MakeNoZero"], unfollowed := true, recurses := true, apart := false }
def FnExactAddPeakSaid : Prop := fnExactAddPeakRow.holds Try.pinned (OpenSpec.ofChange fnExactAddPeakSpec)

/-- ITS FALSE NEIGHBOUR: 'it returns false'. Refute it at one input. -/
def fnExactAddPeakWrong : ChangeSpec := { name := "fnExactAddPeak", fn := fun _ => fun
  | [d1, d2] => { results := [.lit (.bool false)], args := [d1, d2] }
  | _ => none }
def FnExactAddPeakWrongFalsely : Prop := fnExactAddPeakRow.holds Try.pinned (OpenSpec.ofChange fnExactAddPeakWrong)

/- THE SECOND FORM. 'bulk': how many values and letters a reading holds, each counted each time it is reached (what is shared counts as often as it is met; a slice's spare places count too). A statement '..UptoSaid' is the law's where the arguments, and the package variables that the reading takes, are together of bulk at most 1048576: NARROWER than '..Said'. Prove '..Said' where nothing that the law and all that it calls make is longer than what came in: it says more and counts as full. Else prove '..UptoSaid'. A law counts once. -/
mutual
def uptoBulk {H : Type} : DataW H → Nat
  | .lit (.string bytes) => bytes.length + 1
  | .lit _ => 1
  | .nil => 1
  | .ptr d => uptoBulk d + 1
  | .slice elems spare => uptoBulkAll elems + uptoBulkAll spare + 1
  | .agg parts => uptoBulkAll parts + 1
  | .iface _ d => uptoBulk d + 1
  | .map entries => uptoBulkEntries entries + 1
  | .held _ => 1
def uptoBulkAll {H : Type} : List (DataW H) → Nat
  | [] => 0
  | d :: r => uptoBulk d + uptoBulkAll r
def uptoBulkEntries {H : Type} : List (Lit × DataW H) → Nat
  | [] => 0
  | x :: r => uptoBulkEntry x + uptoBulkEntries r
def uptoBulkEntry {H : Type} : Lit × DataW H → Nat
  | (.string bytes, d) => bytes.length + uptoBulk d + 1
  | (_, d) => uptoBulk d + 1
 end
def uptoSmall : (H : Type) → List (DataW H) → Bool := fun _ ds => decide (uptoBulkAll ds ≤ 1048576)
def OpenSpec.upto (s : _root_.Go.ChangeSpec) : _root_.Go.OpenSpec := { _root_.Go.OpenSpec.ofChange s with cond := some uptoSmall }

/-- 'laws.FnExactHash', WHERE WHAT IT READS IS OF BULK AT MOST 1048576: true; the input reads as it did. -/
def fnExactHashUptoRow : OpenClaim := { program := "ytpoaapedcmfcfaa", sum := "978964e25ac90aabd365883d2f0ff412043799215d45b2ded90588cfd1d22202", func := "loop.example/g00220/laws.FnExactHash", spec := "fnExactHash", inPlace := ["internal/abi.NoEscape", "internal/bytealg.MakeNoZero"], apart := false, narrowed := true }
def FnExactHashUptoSaid : Prop := fnExactHashUptoRow.holds Try.pinned (OpenSpec.upto fnExactHashSpec)

/-- 'laws.FnExactLeafHash', WHERE WHAT IT READS IS OF BULK AT MOST 1048576: true; the input reads as it did. -/
def fnExactLeafHashUptoRow : OpenClaim := { program := "ytpoaapedcmfcfaa", sum := "978964e25ac90aabd365883d2f0ff412043799215d45b2ded90588cfd1d22202", func := "loop.example/g00220/laws.FnExactLeafHash", spec := "fnExactLeafHash", inPlace := ["internal/abi.NoEscape", "internal/bytealg.MakeNoZero"], apart := false, narrowed := true }
def FnExactLeafHashUptoSaid : Prop := fnExactLeafHashUptoRow.holds Try.pinned (OpenSpec.upto fnExactLeafHashSpec)

/-- 'laws.FnExactKeyHash', WHERE WHAT IT READS IS OF BULK AT MOST 1048576: true; the input reads as it did. -/
def fnExactKeyHashUptoRow : OpenClaim := { program := "ytpoaapedcmfcfaa", sum := "978964e25ac90aabd365883d2f0ff412043799215d45b2ded90588cfd1d22202", func := "loop.example/g00220/laws.FnExactKeyHash", spec := "fnExactKeyHash", inPlace := ["internal/abi.NoEscape", "internal/bytealg.MakeNoZero"], unfollowed := true, recurses := true, apart := false, narrowed := true }
def FnExactKeyHashUptoSaid : Prop := fnExactKeyHashUptoRow.holds Try.pinned (OpenSpec.upto fnExactKeyHashSpec)

/-- 'laws.FnExactNodeHash', WHERE WHAT IT READS IS OF BULK AT MOST 1048576: true; the input reads as it did. -/
def fnExactNodeHashUptoRow : OpenClaim := { program := "ytpoaapedcmfcfaa", sum := "978964e25ac90aabd365883d2f0ff412043799215d45b2ded90588cfd1d22202", func := "loop.example/g00220/laws.FnExactNodeHash", spec := "fnExactNodeHash", inPlace := ["internal/abi.NoEscape", "internal/bytealg.MakeNoZero"], unfollowed := true, recurses := true, apart := false, narrowed := true }
def FnExactNodeHashUptoSaid : Prop := fnExactNodeHashUptoRow.holds Try.pinned (OpenSpec.upto fnExactNodeHashSpec)

/-- 'laws.FnExactTreeHash', WHERE WHAT IT READS IS OF BULK AT MOST 1048576: true; the input reads as it did. -/
def fnExactTreeHashUptoRow : OpenClaim := { program := "ytpoaapedcmfcfaa", sum := "978964e25ac90aabd365883d2f0ff412043799215d45b2ded90588cfd1d22202", func := "loop.example/g00220/laws.FnExactTreeHash", spec := "fnExactTreeHash", inPlace := ["internal/abi.NoEscape", "internal/bytealg.MakeNoZero"], unfollowed := true, recurses := true, apart := false, narrowed := true }
def FnExactTreeHashUptoSaid : Prop := fnExactTreeHashUptoRow.holds Try.pinned (OpenSpec.upto fnExactTreeHashSpec)

/-- 'laws.FnExactPeaksRoot', WHERE WHAT IT READS IS OF BULK AT MOST 1048576: true; the input reads as it did. -/
def fnExactPeaksRootUptoRow : OpenClaim := { program := "ytpoaapedcmfcfaa", sum := "978964e25ac90aabd365883d2f0ff412043799215d45b2ded90588cfd1d22202", func := "loop.example/g00220/laws.FnExactPeaksRoot", spec := "fnExactPeaksRoot", inPlace := ["internal/abi.NoEscape", "internal/bytealg.MakeNoZero"], unfollowed := true, recurses := true, apart := false, narrowed := true }
def FnExactPeaksRootUptoSaid : Prop := fnExactPeaksRootUptoRow.holds Try.pinned (OpenSpec.upto fnExactPeaksRootSpec)

/-- 'laws.FnExactInclusionRoot', WHERE WHAT IT READS IS OF BULK AT MOST 1048576: true; the input reads as it did. -/
def fnExactInclusionRootUptoRow : OpenClaim := { program := "ytpoaapedcmfcfaa", sum := "978964e25ac90aabd365883d2f0ff412043799215d45b2ded90588cfd1d22202", func := "loop.example/g00220/laws.FnExactInclusionRoot", spec := "fnExactInclusionRoot", inPlace := ["internal/abi.NoEscape", "internal/bytealg.MakeNoZero"], unfollowed := true, recurses := true, apart := false, narrowed := true }
def FnExactInclusionRootUptoSaid : Prop := fnExactInclusionRootUptoRow.holds Try.pinned (OpenSpec.upto fnExactInclusionRootSpec)

/-- 'laws.FnExactConsistencyRoots', WHERE WHAT IT READS IS OF BULK AT MOST 1048576: true; the input reads as it did. -/
def fnExactConsistencyRootsUptoRow : OpenClaim := { program := "ytpoaapedcmfcfaa", sum := "978964e25ac90aabd365883d2f0ff412043799215d45b2ded90588cfd1d22202", func := "loop.example/g00220/laws.FnExactConsistencyRoots", spec := "fnExactConsistencyRoots", inPlace := ["internal/abi.NoEscape", "internal/bytealg.MakeNoZero"], unfollowed := true, recurses := true, apart := false, narrowed := true }
def FnExactConsistencyRootsUptoSaid : Prop := fnExactConsistencyRootsUptoRow.holds Try.pinned (OpenSpec.upto fnExactConsistencyRootsSpec)

/-- 'laws.FnExactInclusionProof', WHERE WHAT IT READS IS OF BULK AT MOST 1048576: true; the input reads as it did. -/
def fnExactInclusionProofUptoRow : OpenClaim := { program := "ytpoaapedcmfcfaa", sum := "978964e25ac90aabd365883d2f0ff412043799215d45b2ded90588cfd1d22202", func := "loop.example/g00220/laws.FnExactInclusionProof", spec := "fnExactInclusionProof", inPlace := ["internal/abi.NoEscape", "internal/bytealg.MakeNoZero"], unfollowed := true, recurses := true, apart := false, narrowed := true }
def FnExactInclusionProofUptoSaid : Prop := fnExactInclusionProofUptoRow.holds Try.pinned (OpenSpec.upto fnExactInclusionProofSpec)

/-- 'laws.FnExactAddPeak', WHERE WHAT IT READS IS OF BULK AT MOST 1048576: true; the input reads as it did. -/
def fnExactAddPeakUptoRow : OpenClaim := { program := "ytpoaapedcmfcfaa", sum := "978964e25ac90aabd365883d2f0ff412043799215d45b2ded90588cfd1d22202", func := "loop.example/g00220/laws.FnExactAddPeak", spec := "fnExactAddPeak", inPlace := ["internal/abi.NoEscape", "internal/bytealg.MakeNoZero"], unfollowed := true, recurses := true, apart := false, narrowed := true }
def FnExactAddPeakUptoSaid : Prop := fnExactAddPeakUptoRow.holds Try.pinned (OpenSpec.upto fnExactAddPeakSpec)

end Rows
end Go.Proofs.Ytpoaapedcmfcfaa
