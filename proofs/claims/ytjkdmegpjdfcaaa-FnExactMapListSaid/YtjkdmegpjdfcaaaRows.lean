/-
  NARROWER THAN 'FOR EVERY INPUT', by the rows' own cells (each row's printed sentence says how): FnExactMapOK: loops · FnExactMapRoot: loops · FnExactMapList: loops.
  DERIVED. THE GIVEN ROWS OF THIS SEAT. 3 by the template 'for every input the law returns true; each argument reads behind the call as it read before'; 0 by the template 'total and deterministic' (their statements: YtjkdmegpjdfcaaaTotals.lean).
  GIVEN WITH THE SEED: the statements are not yours to turn. If you find one false, say at which input.
  Laid BY PROGRAM, IN A SANDBOX (cutbox-rows.mjs): the forced cells as the released guide's own fill.sh prints them over the translation c2f0b1eeee52aaa7… (all of the seat's roots in one cut). By AI agents, Wed Nov 11 2026. No macro, syntax, notation, axiom, sorry.
-/
import Derived.Test.YtjkdmegpjdfcaaaChecked
import GoSem.Claim
import GoSem.ClaimJoined
import GoSem.ClaimMapViews
import Derived.JoinedTies
import Derived.KernelRfl
namespace Go.Proofs.Ytjkdmegpjdfcaaa
/- THE CELL 'sum', in the pinned program and in every row, IS THE sha256 OF THE DUMP (.gsa) THAT YtjkdmegpjdfcaaaProg.lean LOADS. Nothing in Lean hashes anything: it is a label: what it is worth is what the hold of that sum in a sandbox is worth. -/
noncomputable def Try.pinned : Pinned := { name := "ytjkdmegpjdfcaaa", sum := "c2f0b1eeee52aaa716cce8e13dd118cf706e7fc27c1639874290a77817b00182", checked := Try.checked }
namespace Rows
def none {H : Type} : Left H := { results := [], args := [] }

/-- 'laws.FnExactMapOK': WHATEVER THE INPUT: true; the input reads as it did. -/
def fnExactMapOKSpec : ChangeSpec := { name := "fnExactMapOK", fn := fun _ => fun
  | [d] => { results := [.lit (.bool true)], args := [d] }
  | _ => none }
def fnExactMapOKRow : OpenClaim := { program := "ytjkdmegpjdfcaaa", sum := "c2f0b1eeee52aaa716cce8e13dd118cf706e7fc27c1639874290a77817b00182", func := "loop.example/g00220/laws.FnExactMapOK", spec := "fnExactMapOK", inPlace := ["internal/abi.NoEscape", "internal/bytealg.MakeNoZero"], unfollowed := true, recurses := true, loops := true, apart := false }
def FnExactMapOKSaid : Prop := fnExactMapOKRow.holds Try.pinned (OpenSpec.ofChange fnExactMapOKSpec)

/-- ITS FALSE NEIGHBOUR: 'it returns false'. Refute it at one input. -/
def fnExactMapOKWrong : ChangeSpec := { name := "fnExactMapOK", fn := fun _ => fun
  | [d] => { results := [.lit (.bool false)], args := [d] }
  | _ => none }
def FnExactMapOKWrongFalsely : Prop := fnExactMapOKRow.holds Try.pinned (OpenSpec.ofChange fnExactMapOKWrong)

/-- 'laws.FnExactMapRoot': WHATEVER THE INPUT: true; the input reads as it did. -/
def fnExactMapRootSpec : ChangeSpec := { name := "fnExactMapRoot", fn := fun _ => fun
  | [d] => { results := [.lit (.bool true)], args := [d] }
  | _ => none }
def fnExactMapRootRow : OpenClaim := { program := "ytjkdmegpjdfcaaa", sum := "c2f0b1eeee52aaa716cce8e13dd118cf706e7fc27c1639874290a77817b00182", func := "loop.example/g00220/laws.FnExactMapRoot", spec := "fnExactMapRoot", inPlace := ["internal/abi.NoEscape", "internal/bytealg.MakeNoZero"], unfollowed := true, recurses := true, loops := true, apart := false }
def FnExactMapRootSaid : Prop := fnExactMapRootRow.holds Try.pinned (OpenSpec.ofChange fnExactMapRootSpec)

/-- ITS FALSE NEIGHBOUR: 'it returns false'. Refute it at one input. -/
def fnExactMapRootWrong : ChangeSpec := { name := "fnExactMapRoot", fn := fun _ => fun
  | [d] => { results := [.lit (.bool false)], args := [d] }
  | _ => none }
def FnExactMapRootWrongFalsely : Prop := fnExactMapRootRow.holds Try.pinned (OpenSpec.ofChange fnExactMapRootWrong)

/-- 'laws.FnExactMapList': WHATEVER THE INPUT: true; the input reads as it did. -/
def fnExactMapListSpec : ChangeSpec := { name := "fnExactMapList", fn := fun _ => fun
  | [d] => { results := [.lit (.bool true)], args := [d] }
  | _ => none }
def fnExactMapListRow : OpenClaim := { program := "ytjkdmegpjdfcaaa", sum := "c2f0b1eeee52aaa716cce8e13dd118cf706e7fc27c1639874290a77817b00182", func := "loop.example/g00220/laws.FnExactMapList", spec := "fnExactMapList", inPlace := ["internal/abi.NoEscape", "internal/bytealg.MakeNoZero"], unfollowed := true, recurses := true, loops := true, apart := false }
def FnExactMapListSaid : Prop := fnExactMapListRow.holds Try.pinned (OpenSpec.ofChange fnExactMapListSpec)

/-- ITS FALSE NEIGHBOUR: 'it returns false'. Refute it at one input. -/
def fnExactMapListWrong : ChangeSpec := { name := "fnExactMapList", fn := fun _ => fun
  | [d] => { results := [.lit (.bool false)], args := [d] }
  | _ => none }
def FnExactMapListWrongFalsely : Prop := fnExactMapListRow.holds Try.pinned (OpenSpec.ofChange fnExactMapListWrong)

/- THE SECOND FORM. 'bulk': how many values and letters a reading holds, each counted each time it is reached (what is shared counts as often as it is met; a slice's spare places count too). A statement '..UptoSaid' is the law's where the arguments, and the package variables that the reading takes, are together of bulk at most 1048576: NARROWER than '..Said'. Prove '..Said' where nothing that the law and all that it calls make is longer than what came in: it says more and counts as full. Else prove '..UptoSaid'. A law counts once. -/
mutual
def uptoBulk {H : Type} : DataW H → Nat
  | .lit (.string bytes) => bytes.length + 1
  | .lit _ => 1
  | .nil => 1
  | .ptr d => uptoBulk d + 1
  | .slice elems spare => uptoBulkAll elems + uptoBulkAll spare + 1
  | .agg parts => uptoBulkAll parts + 1
  | .iface _ d => uptoBulk d + 1
  | .map entries => uptoBulkEntries entries + 1
  | .held _ => 1
def uptoBulkAll {H : Type} : List (DataW H) → Nat
  | [] => 0
  | d :: r => uptoBulk d + uptoBulkAll r
def uptoBulkEntries {H : Type} : List (Lit × DataW H) → Nat
  | [] => 0
  | x :: r => uptoBulkEntry x + uptoBulkEntries r
def uptoBulkEntry {H : Type} : Lit × DataW H → Nat
  | (.string bytes, d) => bytes.length + uptoBulk d + 1
  | (_, d) => uptoBulk d + 1
 end
def uptoSmall : (H : Type) → List (DataW H) → Bool := fun _ ds => decide (uptoBulkAll ds ≤ 1048576)
def OpenSpec.upto (s : _root_.Go.ChangeSpec) : _root_.Go.OpenSpec := { _root_.Go.OpenSpec.ofChange s with cond := some uptoSmall }

/-- 'laws.FnExactMapOK', WHERE WHAT IT READS IS OF BULK AT MOST 1048576: true; the input reads as it did. -/
def fnExactMapOKUptoRow : OpenClaim := { program := "ytjkdmegpjdfcaaa", sum := "c2f0b1eeee52aaa716cce8e13dd118cf706e7fc27c1639874290a77817b00182", func := "loop.example/g00220/laws.FnExactMapOK", spec := "fnExactMapOK", inPlace := ["internal/abi.NoEscape", "internal/bytealg.MakeNoZero"], unfollowed := true, recurses := true, loops := true, apart := false, narrowed := true }
def FnExactMapOKUptoSaid : Prop := fnExactMapOKUptoRow.holds Try.pinned (OpenSpec.upto fnExactMapOKSpec)

/-- 'laws.FnExactMapRoot', WHERE WHAT IT READS IS OF BULK AT MOST 1048576: true; the input reads as it did. -/
def fnExactMapRootUptoRow : OpenClaim := { program := "ytjkdmegpjdfcaaa", sum := "c2f0b1eeee52aaa716cce8e13dd118cf706e7fc27c1639874290a77817b00182", func := "loop.example/g00220/laws.FnExactMapRoot", spec := "fnExactMapRoot", inPlace := ["internal/abi.NoEscape", "internal/bytealg.MakeNoZero"], unfollowed := true, recurses := true, loops := true, apart := false, narrowed := true }
def FnExactMapRootUptoSaid : Prop := fnExactMapRootUptoRow.holds Try.pinned (OpenSpec.upto fnExactMapRootSpec)

/-- 'laws.FnExactMapList', WHERE WHAT IT READS IS OF BULK AT MOST 1048576: true; the input reads as it did. -/
def fnExactMapListUptoRow : OpenClaim := { program := "ytjkdmegpjdfcaaa", sum := "c2f0b1eeee52aaa716cce8e13dd118cf706e7fc27c1639874290a77817b00182", func := "loop.example/g00220/laws.FnExactMapList", spec := "fnExactMapList", inPlace := ["internal/abi.NoEscape", "internal/bytealg.MakeNoZero"], unfollowed := true, recurses := true, loops := true, apart := false, narrowed := true }
def FnExactMapListUptoSaid : Prop := fnExactMapListUptoRow.holds Try.pinned (OpenSpec.upto fnExactMapListSpec)

end Rows
end Go.Proofs.Ytjkdmegpjdfcaaa
