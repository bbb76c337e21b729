/-
  DERIVED. GIVEN WITH THE SEED: THE CARDS: each row of YtfjpkblkdlgaeaaDoorRows.lean that lists a variable, with what it lists TIED to the program's text (the seventh form; the later family's looks); each row that meets fmt, with fmt's text TOLD by the authors' own Lean function (tested against real Go, not proved from fmt's source: count such statements apart). THE CARD IS WHAT COUNTS. Prove the row's statement (the work); the ties are given (YtfjpkblkdlgaeaaDoorTie.lean); close each card by the builder's one call (the guide's Derived/Test/ToyasCard.lean, 'card_holds'). Laid BY PROGRAM, IN A SANDBOX (cutbox-door.mjs). By AI agents, Wed Nov 11 2026. No macro, syntax, notation, axiom, sorry.
-/
import Derived.Test.YtfjpkblkdlgaeaaDoorRows
import GoSem.ClaimSeven
namespace Go.Proofs.YtfjpkblkdlgaeaaDoor
namespace Rows

/-- THE TIED CARD OF 'laws.FnHash'. -/
def fnHashCard : Claim7 := { stood := { row := fnHashRow, standIns := [], harness := (true, "52fddd99afd250e9bf85f9f39111df71fd2d498cb950bab52c25aa794fa6590c"), looks := false }, kinds := [], alts := [], laidByText := true, laidKinds := [.data, .pinned], laidTests := true, laidLooks := .later }
def FnHashCardSaid : Prop := Claim7.holds Tryd.pinned (.plain (OpenSpec.ofChange fnHashSpec)) fnHashCard

/-- THE TIED CARD OF 'laws.FnExactReadHash'. -/
def fnExactReadHashCard : Claim7 := { stood := { row := fnExactReadHashRow, standIns := [], harness := (true, "52fddd99afd250e9bf85f9f39111df71fd2d498cb950bab52c25aa794fa6590c"), looks := false }, kinds := [], alts := [], laidByText := true, laidKinds := [.data, .pinned], laidTests := true, laidLooks := .later }
def FnExactReadHashCardSaid : Prop := Claim7.holds Tryd.pinned (.plain (OpenSpec.ofChange fnExactReadHashSpec)) fnExactReadHashCard

/-- THE SECOND FORM's CARD OF 'laws.FnHash'. -/
def fnHashUptoCard : Claim7 := { stood := { row := fnHashUptoRow, standIns := [], harness := (true, "52fddd99afd250e9bf85f9f39111df71fd2d498cb950bab52c25aa794fa6590c"), looks := false }, kinds := [], alts := [], laidByText := true, laidKinds := [.data, .pinned], laidTests := true, laidLooks := .later }
def FnHashUptoCardSaid : Prop := Claim7.holds Tryd.pinned (.plain (OpenSpec.upto fnHashSpec)) fnHashUptoCard

/-- THE SECOND FORM's CARD OF 'laws.FnExactReadHash'. -/
def fnExactReadHashUptoCard : Claim7 := { stood := { row := fnExactReadHashUptoRow, standIns := [], harness := (true, "52fddd99afd250e9bf85f9f39111df71fd2d498cb950bab52c25aa794fa6590c"), looks := false }, kinds := [], alts := [], laidByText := true, laidKinds := [.data, .pinned], laidTests := true, laidLooks := .later }
def FnExactReadHashUptoCardSaid : Prop := Claim7.holds Tryd.pinned (.plain (OpenSpec.upto fnExactReadHashSpec)) fnExactReadHashUptoCard
end Rows
end Go.Proofs.YtfjpkblkdlgaeaaDoor
