/-
  DERIVED. GIVEN WITH THE SEED: THE CARDS: each row of YtpdhfoegbannkaaDoorRows.lean that lists a variable, with what it lists TIED to the program's text (the seventh form; the later family's looks); each row that meets fmt, with fmt's text TOLD by the authors' own Lean function (tested against real Go, not proved from fmt's source: count such statements apart). THE CARD IS WHAT COUNTS. Prove the row's statement (the work); the ties are given (YtpdhfoegbannkaaDoorTie.lean); close each card by the builder's one call (the guide's Derived/Test/ToyasCard.lean, 'card_holds'). Laid BY PROGRAM, IN A SANDBOX (cutbox-door.mjs). By AI agents, Wed Nov 11 2026. No macro, syntax, notation, axiom, sorry.
-/
import Derived.Test.YtpdhfoegbannkaaDoorRows
import GoSem.ClaimSeven
namespace Go.Proofs.YtpdhfoegbannkaaDoor
namespace Rows

/-- THE TIED CARD OF 'laws.FnExactWalRead'. -/
def fnExactWalReadCard : Claim7 := { stood := { row := fnExactWalReadRow, standIns := [], harness := (true, "1d3632f75dd50dace18484f65fa60f8f54c7ac1a8cee1ed4cf0f6ab4e81d3e94"), looks := false }, kinds := [], alts := [], laidByText := true, laidKinds := [.data, .pinned], laidTests := true, laidLooks := .later }
def FnExactWalReadCardSaid : Prop := Claim7.holds Tryd.pinned (.plain (OpenSpec.ofChange fnExactWalReadSpec)) fnExactWalReadCard

/-- THE TIED CARD OF 'laws.FnExactWalPlan'. -/
def fnExactWalPlanCard : Claim7 := { stood := { row := fnExactWalPlanRow, standIns := [], harness := (true, "1d3632f75dd50dace18484f65fa60f8f54c7ac1a8cee1ed4cf0f6ab4e81d3e94"), looks := false }, kinds := [], alts := [], laidByText := true, laidKinds := [.data, .pinned], laidTests := true, laidLooks := .later }
def FnExactWalPlanCardSaid : Prop := Claim7.holds Tryd.pinned (.plain (OpenSpec.ofChange fnExactWalPlanSpec)) fnExactWalPlanCard

/-- THE TIED CARD OF 'laws.FnExactWalSync'. -/
def fnExactWalSyncCard : Claim7 := { stood := { row := fnExactWalSyncRow, standIns := [], harness := (true, "1d3632f75dd50dace18484f65fa60f8f54c7ac1a8cee1ed4cf0f6ab4e81d3e94"), looks := false }, kinds := [], alts := [], laidByText := true, laidKinds := [.data, .pinned], laidTests := true, laidLooks := .later }
def FnExactWalSyncCardSaid : Prop := Claim7.holds Tryd.pinned (.plain (OpenSpec.ofChange fnExactWalSyncSpec)) fnExactWalSyncCard

/-- THE SECOND FORM's CARD OF 'laws.FnExactWalRead'. -/
def fnExactWalReadUptoCard : Claim7 := { stood := { row := fnExactWalReadUptoRow, standIns := [], harness := (true, "1d3632f75dd50dace18484f65fa60f8f54c7ac1a8cee1ed4cf0f6ab4e81d3e94"), looks := false }, kinds := [], alts := [], laidByText := true, laidKinds := [.data, .pinned], laidTests := true, laidLooks := .later }
def FnExactWalReadUptoCardSaid : Prop := Claim7.holds Tryd.pinned (.plain (OpenSpec.upto fnExactWalReadSpec)) fnExactWalReadUptoCard

/-- THE SECOND FORM's CARD OF 'laws.FnExactWalPlan'. -/
def fnExactWalPlanUptoCard : Claim7 := { stood := { row := fnExactWalPlanUptoRow, standIns := [], harness := (true, "1d3632f75dd50dace18484f65fa60f8f54c7ac1a8cee1ed4cf0f6ab4e81d3e94"), looks := false }, kinds := [], alts := [], laidByText := true, laidKinds := [.data, .pinned], laidTests := true, laidLooks := .later }
def FnExactWalPlanUptoCardSaid : Prop := Claim7.holds Tryd.pinned (.plain (OpenSpec.upto fnExactWalPlanSpec)) fnExactWalPlanUptoCard

/-- THE SECOND FORM's CARD OF 'laws.FnExactWalSync'. -/
def fnExactWalSyncUptoCard : Claim7 := { stood := { row := fnExactWalSyncUptoRow, standIns := [], harness := (true, "1d3632f75dd50dace18484f65fa60f8f54c7ac1a8cee1ed4cf0f6ab4e81d3e94"), looks := false }, kinds := [], alts := [], laidByText := true, laidKinds := [.data, .pinned], laidTests := true, laidLooks := .later }
def FnExactWalSyncUptoCardSaid : Prop := Claim7.holds Tryd.pinned (.plain (OpenSpec.upto fnExactWalSyncSpec)) fnExactWalSyncUptoCard
end Rows
end Go.Proofs.YtpdhfoegbannkaaDoor
