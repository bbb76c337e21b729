/-
  No cell of these rows narrows 'for every input' (looked for: loops, veiled, ifaces, maps, wideKeys, modest, calm, conditions, laid).
  DERIVED. THE GIVEN ROWS OF THIS SEAT. 12 by the template 'for every input the law returns true; each argument reads behind the call as it read before'; 0 by the template 'total and deterministic' (their statements: YtdanonhkkdijnaaTotals.lean).
  GIVEN WITH THE SEED: the statements are not yours to turn. If you find one false, say at which input.
  Laid BY PROGRAM, IN A SANDBOX (cutbox-rows.mjs): the forced cells as the released guide's own fill.sh prints them over the translation 38232622924d70e0… (all of the seat's roots in one cut). By AI agents, Wed Nov 11 2026. No macro, syntax, notation, axiom, sorry.
-/
import Derived.Test.YtdanonhkkdijnaaChecked
import GoSem.Claim
import GoSem.ClaimJoined
import GoSem.ClaimMapViews
import Derived.JoinedTies
import Derived.KernelRfl
namespace Go.Proofs.Ytdanonhkkdijnaa
/- THE CELL 'sum', in the pinned program and in every row, IS THE sha256 OF THE DUMP (.gsa) THAT YtdanonhkkdijnaaProg.lean LOADS. Nothing in Lean hashes anything: it is a label: what it is worth is what the hold of that sum in a sandbox is worth. -/
noncomputable def Try.pinned : Pinned := { name := "ytdanonhkkdijnaa", sum := "38232622924d70e071120b21148c5fd160c27fa39fbc7429afbbdc7166458929", checked := Try.checked }
namespace Rows
def none {H : Type} : Left H := { results := [], args := [] }

/-- 'laws.FnExactConstants': WHATEVER THE INPUT: true; the input reads as it did. -/
def fnExactConstantsSpec : ChangeSpec := { name := "fnExactConstants", fn := fun _ => fun
  | [] => { results := [.lit (.bool true)], args := [] }
  | _ => none }
def fnExactConstantsRow : OpenClaim := { program := "ytdanonhkkdijnaa", sum := "38232622924d70e071120b21148c5fd160c27fa39fbc7429afbbdc7166458929", func := "loop.example/g00220/laws.FnExactConstants", spec := "fnExactConstants", apart := false }
def FnExactConstantsSaid : Prop := fnExactConstantsRow.holds Try.pinned (OpenSpec.ofChange fnExactConstantsSpec)

/-- ITS FALSE NEIGHBOUR: 'it returns false'. Refute it at one input. -/
def fnExactConstantsWrong : ChangeSpec := { name := "fnExactConstants", fn := fun _ => fun
  | [] => { results := [.lit (.bool false)], args := [] }
  | _ => none }
def FnExactConstantsWrongFalsely : Prop := fnExactConstantsRow.holds Try.pinned (OpenSpec.ofChange fnExactConstantsWrong)

/-- 'laws.FnExactCodeWord': WHATEVER THE INPUT: true; the input reads as it did. -/
def fnExactCodeWordSpec : ChangeSpec := { name := "fnExactCodeWord", fn := fun _ => fun
  | [d] => { results := [.lit (.bool true)], args := [d] }
  | _ => none }
def fnExactCodeWordRow : OpenClaim := { program := "ytdanonhkkdijnaa", sum := "38232622924d70e071120b21148c5fd160c27fa39fbc7429afbbdc7166458929", func := "loop.example/g00220/laws.FnExactCodeWord", spec := "fnExactCodeWord", apart := false }
def FnExactCodeWordSaid : Prop := fnExactCodeWordRow.holds Try.pinned (OpenSpec.ofChange fnExactCodeWordSpec)

/-- ITS FALSE NEIGHBOUR: 'it returns false'. Refute it at one input. -/
def fnExactCodeWordWrong : ChangeSpec := { name := "fnExactCodeWord", fn := fun _ => fun
  | [d] => { results := [.lit (.bool false)], args := [d] }
  | _ => none }
def FnExactCodeWordWrongFalsely : Prop := fnExactCodeWordRow.holds Try.pinned (OpenSpec.ofChange fnExactCodeWordWrong)

/-- 'laws.FnExactCodeOf': WHATEVER THE INPUT: true; the input reads as it did. -/
def fnExactCodeOfSpec : ChangeSpec := { name := "fnExactCodeOf", fn := fun _ => fun
  | [d] => { results := [.lit (.bool true)], args := [d] }
  | _ => none }
def fnExactCodeOfRow : OpenClaim := { program := "ytdanonhkkdijnaa", sum := "38232622924d70e071120b21148c5fd160c27fa39fbc7429afbbdc7166458929", func := "loop.example/g00220/laws.FnExactCodeOf", spec := "fnExactCodeOf", apart := false }
def FnExactCodeOfSaid : Prop := fnExactCodeOfRow.holds Try.pinned (OpenSpec.ofChange fnExactCodeOfSpec)

/-- ITS FALSE NEIGHBOUR: 'it returns false'. Refute it at one input. -/
def fnExactCodeOfWrong : ChangeSpec := { name := "fnExactCodeOf", fn := fun _ => fun
  | [d] => { results := [.lit (.bool false)], args := [d] }
  | _ => none }
def FnExactCodeOfWrongFalsely : Prop := fnExactCodeOfRow.holds Try.pinned (OpenSpec.ofChange fnExactCodeOfWrong)

/-- 'laws.FnExactNameOK': WHATEVER THE INPUT: true; the input reads as it did. -/
def fnExactNameOKSpec : ChangeSpec := { name := "fnExactNameOK", fn := fun _ => fun
  | [d] => { results := [.lit (.bool true)], args := [d] }
  | _ => none }
def fnExactNameOKRow : OpenClaim := { program := "ytdanonhkkdijnaa", sum := "38232622924d70e071120b21148c5fd160c27fa39fbc7429afbbdc7166458929", func := "loop.example/g00220/laws.FnExactNameOK", spec := "fnExactNameOK", apart := false }
def FnExactNameOKSaid : Prop := fnExactNameOKRow.holds Try.pinned (OpenSpec.ofChange fnExactNameOKSpec)

/-- ITS FALSE NEIGHBOUR: 'it returns false'. Refute it at one input. -/
def fnExactNameOKWrong : ChangeSpec := { name := "fnExactNameOK", fn := fun _ => fun
  | [d] => { results := [.lit (.bool false)], args := [d] }
  | _ => none }
def FnExactNameOKWrongFalsely : Prop := fnExactNameOKRow.holds Try.pinned (OpenSpec.ofChange fnExactNameOKWrong)

/-- 'laws.FnExactSegmentName': WHATEVER THE INPUT: true; the input reads as it did. -/
def fnExactSegmentNameSpec : ChangeSpec := { name := "fnExactSegmentName", fn := fun _ => fun
  | [d] => { results := [.lit (.bool true)], args := [d] }
  | _ => none }
def fnExactSegmentNameRow : OpenClaim := { program := "ytdanonhkkdijnaa", sum := "38232622924d70e071120b21148c5fd160c27fa39fbc7429afbbdc7166458929", func := "loop.example/g00220/laws.FnExactSegmentName", spec := "fnExactSegmentName", recurses := true, apart := false }
def FnExactSegmentNameSaid : Prop := fnExactSegmentNameRow.holds Try.pinned (OpenSpec.ofChange fnExactSegmentNameSpec)

/-- ITS FALSE NEIGHBOUR: 'it returns false'. Refute it at one input. -/
def fnExactSegmentNameWrong : ChangeSpec := { name := "fnExactSegmentName", fn := fun _ => fun
  | [d] => { results := [.lit (.bool false)], args := [d] }
  | _ => none }
def FnExactSegmentNameWrongFalsely : Prop := fnExactSegmentNameRow.holds Try.pinned (OpenSpec.ofChange fnExactSegmentNameWrong)

/-- 'laws.FnExactHashBits': WHATEVER THE INPUT: true; the input reads as it did. -/
def fnExactHashBitsSpec : ChangeSpec := { name := "fnExactHashBits", fn := fun _ => fun
  | [d] => { results := [.lit (.bool true)], args := [d] }
  | _ => none }
def fnExactHashBitsRow : OpenClaim := { program := "ytdanonhkkdijnaa", sum := "38232622924d70e071120b21148c5fd160c27fa39fbc7429afbbdc7166458929", func := "loop.example/g00220/laws.FnExactHashBits", spec := "fnExactHashBits", unfollowed := true, recurses := true, apart := false }
def FnExactHashBitsSaid : Prop := fnExactHashBitsRow.holds Try.pinned (OpenSpec.ofChange fnExactHashBitsSpec)

/-- ITS FALSE NEIGHBOUR: 'it returns false'. Refute it at one input. -/
def fnExactHashBitsWrong : ChangeSpec := { name := "fnExactHashBits", fn := fun _ => fun
  | [d] => { results := [.lit (.bool false)], args := [d] }
  | _ => none }
def FnExactHashBitsWrongFalsely : Prop := fnExactHashBitsRow.holds Try.pinned (OpenSpec.ofChange fnExactHashBitsWrong)

/-- 'laws.FnExactHashText': WHATEVER THE INPUT: true; the input reads as it did. -/
def fnExactHashTextSpec : ChangeSpec := { name := "fnExactHashText", fn := fun _ => fun
  | [d] => { results := [.lit (.bool true)], args := [d] }
  | _ => none }
def fnExactHashTextRow : OpenClaim := { program := "ytdanonhkkdijnaa", sum := "38232622924d70e071120b21148c5fd160c27fa39fbc7429afbbdc7166458929", func := "loop.example/g00220/laws.FnExactHashText", spec := "fnExactHashText", unfollowed := true, recurses := true, apart := false }
def FnExactHashTextSaid : Prop := fnExactHashTextRow.holds Try.pinned (OpenSpec.ofChange fnExactHashTextSpec)

/-- ITS FALSE NEIGHBOUR: 'it returns false'. Refute it at one input. -/
def fnExactHashTextWrong : ChangeSpec := { name := "fnExactHashText", fn := fun _ => fun
  | [d] => { results := [.lit (.bool false)], args := [d] }
  | _ => none }
def FnExactHashTextWrongFalsely : Prop := fnExactHashTextRow.holds Try.pinned (OpenSpec.ofChange fnExactHashTextWrong)

/-- 'laws.FnExactCommandOK': WHATEVER THE INPUT: true; the input reads as it did. -/
def fnExactCommandOKSpec : ChangeSpec := { name := "fnExactCommandOK", fn := fun _ => fun
  | [d] => { results := [.lit (.bool true)], args := [d] }
  | _ => none }
def fnExactCommandOKRow : OpenClaim := { program := "ytdanonhkkdijnaa", sum := "38232622924d70e071120b21148c5fd160c27fa39fbc7429afbbdc7166458929", func := "loop.example/g00220/laws.FnExactCommandOK", spec := "fnExactCommandOK", apart := false }
def FnExactCommandOKSaid : Prop := fnExactCommandOKRow.holds Try.pinned (OpenSpec.ofChange fnExactCommandOKSpec)

/-- ITS FALSE NEIGHBOUR: 'it returns false'. Refute it at one input. -/
def fnExactCommandOKWrong : ChangeSpec := { name := "fnExactCommandOK", fn := fun _ => fun
  | [d] => { results := [.lit (.bool false)], args := [d] }
  | _ => none }
def FnExactCommandOKWrongFalsely : Prop := fnExactCommandOKRow.holds Try.pinned (OpenSpec.ofChange fnExactCommandOKWrong)

/-- 'laws.FnExactCheck32': WHATEVER THE INPUT: true; the input reads as it did. -/
def fnExactCheck32Spec : ChangeSpec := { name := "fnExactCheck32", fn := fun _ => fun
  | [d] => { results := [.lit (.bool true)], args := [d] }
  | _ => none }
def fnExactCheck32Row : OpenClaim := { program := "ytdanonhkkdijnaa", sum := "38232622924d70e071120b21148c5fd160c27fa39fbc7429afbbdc7166458929", func := "loop.example/g00220/laws.FnExactCheck32", spec := "fnExactCheck32", apart := false }
def FnExactCheck32Said : Prop := fnExactCheck32Row.holds Try.pinned (OpenSpec.ofChange fnExactCheck32Spec)

/-- ITS FALSE NEIGHBOUR: 'it returns false'. Refute it at one input. -/
def fnExactCheck32Wrong : ChangeSpec := { name := "fnExactCheck32", fn := fun _ => fun
  | [d] => { results := [.lit (.bool false)], args := [d] }
  | _ => none }
def FnExactCheck32WrongFalsely : Prop := fnExactCheck32Row.holds Try.pinned (OpenSpec.ofChange fnExactCheck32Wrong)

/-- 'laws.FnExactPeaksOK': WHATEVER THE INPUT: true; the input reads as it did. -/
def fnExactPeaksOKSpec : ChangeSpec := { name := "fnExactPeaksOK", fn := fun _ => fun
  | [d] => { results := [.lit (.bool true)], args := [d] }
  | _ => none }
def fnExactPeaksOKRow : OpenClaim := { program := "ytdanonhkkdijnaa", sum := "38232622924d70e071120b21148c5fd160c27fa39fbc7429afbbdc7166458929", func := "loop.example/g00220/laws.FnExactPeaksOK", spec := "fnExactPeaksOK", unfollowed := true, recurses := true, apart := false }
def FnExactPeaksOKSaid : Prop := fnExactPeaksOKRow.holds Try.pinned (OpenSpec.ofChange fnExactPeaksOKSpec)

/-- ITS FALSE NEIGHBOUR: 'it returns false'. Refute it at one input. -/
def fnExactPeaksOKWrong : ChangeSpec := { name := "fnExactPeaksOK", fn := fun _ => fun
  | [d] => { results := [.lit (.bool false)], args := [d] }
  | _ => none }
def FnExactPeaksOKWrongFalsely : Prop := fnExactPeaksOKRow.holds Try.pinned (OpenSpec.ofChange fnExactPeaksOKWrong)

/-- 'laws.FnExactReadMembers': WHATEVER THE INPUT: true; the input reads as it did. -/
def fnExactReadMembersSpec : ChangeSpec := { name := "fnExactReadMembers", fn := fun _ => fun
  | [d] => { results := [.lit (.bool true)], args := [d] }
  | _ => none }
def fnExactReadMembersRow : OpenClaim := { program := "ytdanonhkkdijnaa", sum := "38232622924d70e071120b21148c5fd160c27fa39fbc7429afbbdc7166458929", func := "loop.example/g00220/laws.FnExactReadMembers", spec := "fnExactReadMembers", unfollowed := true, recurses := true, apart := false }
def FnExactReadMembersSaid : Prop := fnExactReadMembersRow.holds Try.pinned (OpenSpec.ofChange fnExactReadMembersSpec)

/-- ITS FALSE NEIGHBOUR: 'it returns false'. Refute it at one input. -/
def fnExactReadMembersWrong : ChangeSpec := { name := "fnExactReadMembers", fn := fun _ => fun
  | [d] => { results := [.lit (.bool false)], args := [d] }
  | _ => none }
def FnExactReadMembersWrongFalsely : Prop := fnExactReadMembersRow.holds Try.pinned (OpenSpec.ofChange fnExactReadMembersWrong)

/-- 'laws.FnExactNewDisk': WHATEVER THE INPUT: true; the input reads as it did. -/
def fnExactNewDiskSpec : ChangeSpec := { name := "fnExactNewDisk", fn := fun _ => fun
  | [d] => { results := [.lit (.bool true)], args := [d] }
  | _ => none }
def fnExactNewDiskRow : OpenClaim := { program := "ytdanonhkkdijnaa", sum := "38232622924d70e071120b21148c5fd160c27fa39fbc7429afbbdc7166458929", func := "loop.example/g00220/laws.FnExactNewDisk", spec := "fnExactNewDisk", apart := false }
def FnExactNewDiskSaid : Prop := fnExactNewDiskRow.holds Try.pinned (OpenSpec.ofChange fnExactNewDiskSpec)

/-- ITS FALSE NEIGHBOUR: 'it returns false'. Refute it at one input. -/
def fnExactNewDiskWrong : ChangeSpec := { name := "fnExactNewDisk", fn := fun _ => fun
  | [d] => { results := [.lit (.bool false)], args := [d] }
  | _ => none }
def FnExactNewDiskWrongFalsely : Prop := fnExactNewDiskRow.holds Try.pinned (OpenSpec.ofChange fnExactNewDiskWrong)

/- THE SECOND FORM. 'bulk': how many values and letters a reading holds, each counted each time it is reached (what is shared counts as often as it is met; a slice's spare places count too). A statement '..UptoSaid' is the law's where the arguments, and the package variables that the reading takes, are together of bulk at most 1048576: NARROWER than '..Said'. Prove '..Said' where nothing that the law and all that it calls make is longer than what came in: it says more and counts as full. Else prove '..UptoSaid'. A law counts once. -/
mutual
def uptoBulk {H : Type} : DataW H → Nat
  | .lit (.string bytes) => bytes.length + 1
  | .lit _ => 1
  | .nil => 1
  | .ptr d => uptoBulk d + 1
  | .slice elems spare => uptoBulkAll elems + uptoBulkAll spare + 1
  | .agg parts => uptoBulkAll parts + 1
  | .iface _ d => uptoBulk d + 1
  | .map entries => uptoBulkEntries entries + 1
  | .held _ => 1
def uptoBulkAll {H : Type} : List (DataW H) → Nat
  | [] => 0
  | d :: r => uptoBulk d + uptoBulkAll r
def uptoBulkEntries {H : Type} : List (Lit × DataW H) → Nat
  | [] => 0
  | x :: r => uptoBulkEntry x + uptoBulkEntries r
def uptoBulkEntry {H : Type} : Lit × DataW H → Nat
  | (.string bytes, d) => bytes.length + uptoBulk d + 1
  | (_, d) => uptoBulk d + 1
 end
def uptoSmall : (H : Type) → List (DataW H) → Bool := fun _ ds => decide (uptoBulkAll ds ≤ 1048576)
def OpenSpec.upto (s : _root_.Go.ChangeSpec) : _root_.Go.OpenSpec := { _root_.Go.OpenSpec.ofChange s with cond := some uptoSmall }

/-- 'laws.FnExactConstants', WHERE WHAT IT READS IS OF BULK AT MOST 1048576: true; the input reads as it did. -/
def fnExactConstantsUptoRow : OpenClaim := { program := "ytdanonhkkdijnaa", sum := "38232622924d70e071120b21148c5fd160c27fa39fbc7429afbbdc7166458929", func := "loop.example/g00220/laws.FnExactConstants", spec := "fnExactConstants", apart := false, narrowed := true }
def FnExactConstantsUptoSaid : Prop := fnExactConstantsUptoRow.holds Try.pinned (OpenSpec.upto fnExactConstantsSpec)

/-- 'laws.FnExactCodeWord', WHERE WHAT IT READS IS OF BULK AT MOST 1048576: true; the input reads as it did. -/
def fnExactCodeWordUptoRow : OpenClaim := { program := "ytdanonhkkdijnaa", sum := "38232622924d70e071120b21148c5fd160c27fa39fbc7429afbbdc7166458929", func := "loop.example/g00220/laws.FnExactCodeWord", spec := "fnExactCodeWord", apart := false, narrowed := true }
def FnExactCodeWordUptoSaid : Prop := fnExactCodeWordUptoRow.holds Try.pinned (OpenSpec.upto fnExactCodeWordSpec)

/-- 'laws.FnExactCodeOf', WHERE WHAT IT READS IS OF BULK AT MOST 1048576: true; the input reads as it did. -/
def fnExactCodeOfUptoRow : OpenClaim := { program := "ytdanonhkkdijnaa", sum := "38232622924d70e071120b21148c5fd160c27fa39fbc7429afbbdc7166458929", func := "loop.example/g00220/laws.FnExactCodeOf", spec := "fnExactCodeOf", apart := false, narrowed := true }
def FnExactCodeOfUptoSaid : Prop := fnExactCodeOfUptoRow.holds Try.pinned (OpenSpec.upto fnExactCodeOfSpec)

/-- 'laws.FnExactNameOK', WHERE WHAT IT READS IS OF BULK AT MOST 1048576: true; the input reads as it did. -/
def fnExactNameOKUptoRow : OpenClaim := { program := "ytdanonhkkdijnaa", sum := "38232622924d70e071120b21148c5fd160c27fa39fbc7429afbbdc7166458929", func := "loop.example/g00220/laws.FnExactNameOK", spec := "fnExactNameOK", apart := false, narrowed := true }
def FnExactNameOKUptoSaid : Prop := fnExactNameOKUptoRow.holds Try.pinned (OpenSpec.upto fnExactNameOKSpec)

/-- 'laws.FnExactSegmentName', WHERE WHAT IT READS IS OF BULK AT MOST 1048576: true; the input reads as it did. -/
def fnExactSegmentNameUptoRow : OpenClaim := { program := "ytdanonhkkdijnaa", sum := "38232622924d70e071120b21148c5fd160c27fa39fbc7429afbbdc7166458929", func := "loop.example/g00220/laws.FnExactSegmentName", spec := "fnExactSegmentName", recurses := true, apart := false, narrowed := true }
def FnExactSegmentNameUptoSaid : Prop := fnExactSegmentNameUptoRow.holds Try.pinned (OpenSpec.upto fnExactSegmentNameSpec)

/-- 'laws.FnExactHashBits', WHERE WHAT IT READS IS OF BULK AT MOST 1048576: true; the input reads as it did. -/
def fnExactHashBitsUptoRow : OpenClaim := { program := "ytdanonhkkdijnaa", sum := "38232622924d70e071120b21148c5fd160c27fa39fbc7429afbbdc7166458929", func := "loop.example/g00220/laws.FnExactHashBits", spec := "fnExactHashBits", unfollowed := true, recurses := true, apart := false, narrowed := true }
def FnExactHashBitsUptoSaid : Prop := fnExactHashBitsUptoRow.holds Try.pinned (OpenSpec.upto fnExactHashBitsSpec)

/-- 'laws.FnExactHashText', WHERE WHAT IT READS IS OF BULK AT MOST 1048576: true; the input reads as it did. -/
def fnExactHashTextUptoRow : OpenClaim := { program := "ytdanonhkkdijnaa", sum := "38232622924d70e071120b21148c5fd160c27fa39fbc7429afbbdc7166458929", func := "loop.example/g00220/laws.FnExactHashText", spec := "fnExactHashText", unfollowed := true, recurses := true, apart := false, narrowed := true }
def FnExactHashTextUptoSaid : Prop := fnExactHashTextUptoRow.holds Try.pinned (OpenSpec.upto fnExactHashTextSpec)

/-- 'laws.FnExactCommandOK', WHERE WHAT IT READS IS OF BULK AT MOST 1048576: true; the input reads as it did. -/
def fnExactCommandOKUptoRow : OpenClaim := { program := "ytdanonhkkdijnaa", sum := "38232622924d70e071120b21148c5fd160c27fa39fbc7429afbbdc7166458929", func := "loop.example/g00220/laws.FnExactCommandOK", spec := "fnExactCommandOK", apart := false, narrowed := true }
def FnExactCommandOKUptoSaid : Prop := fnExactCommandOKUptoRow.holds Try.pinned (OpenSpec.upto fnExactCommandOKSpec)

/-- 'laws.FnExactCheck32', WHERE WHAT IT READS IS OF BULK AT MOST 1048576: true; the input reads as it did. -/
def fnExactCheck32UptoRow : OpenClaim := { program := "ytdanonhkkdijnaa", sum := "38232622924d70e071120b21148c5fd160c27fa39fbc7429afbbdc7166458929", func := "loop.example/g00220/laws.FnExactCheck32", spec := "fnExactCheck32", apart := false, narrowed := true }
def FnExactCheck32UptoSaid : Prop := fnExactCheck32UptoRow.holds Try.pinned (OpenSpec.upto fnExactCheck32Spec)

/-- 'laws.FnExactPeaksOK', WHERE WHAT IT READS IS OF BULK AT MOST 1048576: true; the input reads as it did. -/
def fnExactPeaksOKUptoRow : OpenClaim := { program := "ytdanonhkkdijnaa", sum := "38232622924d70e071120b21148c5fd160c27fa39fbc7429afbbdc7166458929", func := "loop.example/g00220/laws.FnExactPeaksOK", spec := "fnExactPeaksOK", unfollowed := true, recurses := true, apart := false, narrowed := true }
def FnExactPeaksOKUptoSaid : Prop := fnExactPeaksOKUptoRow.holds Try.pinned (OpenSpec.upto fnExactPeaksOKSpec)

/-- 'laws.FnExactReadMembers', WHERE WHAT IT READS IS OF BULK AT MOST 1048576: true; the input reads as it did. -/
def fnExactReadMembersUptoRow : OpenClaim := { program := "ytdanonhkkdijnaa", sum := "38232622924d70e071120b21148c5fd160c27fa39fbc7429afbbdc7166458929", func := "loop.example/g00220/laws.FnExactReadMembers", spec := "fnExactReadMembers", unfollowed := true, recurses := true, apart := false, narrowed := true }
def FnExactReadMembersUptoSaid : Prop := fnExactReadMembersUptoRow.holds Try.pinned (OpenSpec.upto fnExactReadMembersSpec)

/-- 'laws.FnExactNewDisk', WHERE WHAT IT READS IS OF BULK AT MOST 1048576: true; the input reads as it did. -/
def fnExactNewDiskUptoRow : OpenClaim := { program := "ytdanonhkkdijnaa", sum := "38232622924d70e071120b21148c5fd160c27fa39fbc7429afbbdc7166458929", func := "loop.example/g00220/laws.FnExactNewDisk", spec := "fnExactNewDisk", apart := false, narrowed := true }
def FnExactNewDiskUptoSaid : Prop := fnExactNewDiskUptoRow.holds Try.pinned (OpenSpec.upto fnExactNewDiskSpec)

end Rows
end Go.Proofs.Ytdanonhkkdijnaa
