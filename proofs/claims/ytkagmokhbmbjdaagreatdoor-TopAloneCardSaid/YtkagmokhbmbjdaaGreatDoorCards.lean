/-
  DERIVED. GIVEN WITH THE SEED: THE CARDS: each row of YtkagmokhbmbjdaaGreatDoorRows.lean that lists a variable, with what it lists TIED to the program's text (the seventh form; the later family's looks); each row that meets fmt, with fmt's text TOLD by the authors' own Lean function (tested against real Go, not proved from fmt's source: count such statements apart). THE CARD IS WHAT COUNTS. Prove the row's statement (the work); the ties are given (YtkagmokhbmbjdaaGreatDoorTie.lean); close each card by the builder's one call (the guide's Derived/Test/ToyasCard.lean, 'card_holds'). Laid BY PROGRAM, IN A SANDBOX (cutbox-door.mjs). By AI agents, Wed Nov 11 2026. No macro, syntax, notation, axiom, sorry.
-/
import Derived.Test.YtkagmokhbmbjdaaGreatDoorRows
import GoSem.ClaimSeven
namespace Go.Proofs.YtkagmokhbmbjdaaGreatDoor
namespace Rows

/-- THE TIED CARD OF 'dispatchtop.TopTakesBack'. -/
def topTakesBackCard : Claim7 := { stood := { row := topTakesBackRow, standIns := [], harness := (true, "fe42702ee00ab1ddd7329486b538d36e7ff005ac4c944bbd0e67de9cbd8af58c"), looks := true }, kinds := [], alts := [], laidByText := true, laidKinds := [.data, .data, .data, .data, .sentinel, .sentinel, .pinned], laidTests := true, laidLooks := .later }
def TopTakesBackCardSaid : Prop := Claim7.holds Tryz.pinned (.plain (OpenSpec.ofChange topTakesBackSpec)) topTakesBackCard

/-- THE TIED CARD OF 'dispatchtop.TopPlans'. -/
def topPlansCard : Claim7 := { stood := { row := topPlansRow, standIns := [], harness := (true, "fe42702ee00ab1ddd7329486b538d36e7ff005ac4c944bbd0e67de9cbd8af58c"), looks := true }, kinds := [], alts := [], laidByText := true, laidKinds := [.data, .data, .data, .data, .sentinel, .sentinel, .pinned], laidTests := true, laidLooks := .later }
def TopPlansCardSaid : Prop := Claim7.holds Tryz.pinned (.plain (OpenSpec.ofChange topPlansSpec)) topPlansCard

/-- THE TIED CARD OF 'dispatchtop.TopLosses'. -/
def topLossesCard : Claim7 := { stood := { row := topLossesRow, standIns := [], harness := (true, "fe42702ee00ab1ddd7329486b538d36e7ff005ac4c944bbd0e67de9cbd8af58c"), looks := true }, kinds := [], alts := [], laidByText := true, laidKinds := [.data, .data, .data, .data, .sentinel, .sentinel, .pinned], laidTests := true, laidLooks := .later }
def TopLossesCardSaid : Prop := Claim7.holds Tryz.pinned (.plain (OpenSpec.ofChange topLossesSpec)) topLossesCard

/-- THE TIED CARD OF 'dispatchtop.TopAlone'. -/
def topAloneCard : Claim7 := { stood := { row := topAloneRow, standIns := [], harness := (true, "fe42702ee00ab1ddd7329486b538d36e7ff005ac4c944bbd0e67de9cbd8af58c"), looks := true }, kinds := [], alts := [], laidByText := true, laidKinds := [.data, .data, .data, .data, .sentinel, .sentinel, .pinned], laidTests := true, laidLooks := .later }
def TopAloneCardSaid : Prop := Claim7.holds Tryz.pinned (.plain (OpenSpec.ofChange topAloneSpec)) topAloneCard

/-- THE SECOND FORM's CARD OF 'dispatchtop.TopTakesBack'. -/
def topTakesBackUptoCard : Claim7 := { stood := { row := topTakesBackUptoRow, standIns := [], harness := (true, "fe42702ee00ab1ddd7329486b538d36e7ff005ac4c944bbd0e67de9cbd8af58c"), looks := true }, kinds := [], alts := [], laidByText := true, laidKinds := [.data, .data, .data, .data, .sentinel, .sentinel, .pinned], laidTests := true, laidLooks := .later }
def TopTakesBackUptoCardSaid : Prop := Claim7.holds Tryz.pinned (.plain (OpenSpec.upto topTakesBackSpec)) topTakesBackUptoCard

/-- THE SECOND FORM's CARD OF 'dispatchtop.TopPlans'. -/
def topPlansUptoCard : Claim7 := { stood := { row := topPlansUptoRow, standIns := [], harness := (true, "fe42702ee00ab1ddd7329486b538d36e7ff005ac4c944bbd0e67de9cbd8af58c"), looks := true }, kinds := [], alts := [], laidByText := true, laidKinds := [.data, .data, .data, .data, .sentinel, .sentinel, .pinned], laidTests := true, laidLooks := .later }
def TopPlansUptoCardSaid : Prop := Claim7.holds Tryz.pinned (.plain (OpenSpec.upto topPlansSpec)) topPlansUptoCard

/-- THE SECOND FORM's CARD OF 'dispatchtop.TopLosses'. -/
def topLossesUptoCard : Claim7 := { stood := { row := topLossesUptoRow, standIns := [], harness := (true, "fe42702ee00ab1ddd7329486b538d36e7ff005ac4c944bbd0e67de9cbd8af58c"), looks := true }, kinds := [], alts := [], laidByText := true, laidKinds := [.data, .data, .data, .data, .sentinel, .sentinel, .pinned], laidTests := true, laidLooks := .later }
def TopLossesUptoCardSaid : Prop := Claim7.holds Tryz.pinned (.plain (OpenSpec.upto topLossesSpec)) topLossesUptoCard

/-- THE SECOND FORM's CARD OF 'dispatchtop.TopAlone'. -/
def topAloneUptoCard : Claim7 := { stood := { row := topAloneUptoRow, standIns := [], harness := (true, "fe42702ee00ab1ddd7329486b538d36e7ff005ac4c944bbd0e67de9cbd8af58c"), looks := true }, kinds := [], alts := [], laidByText := true, laidKinds := [.data, .data, .data, .data, .sentinel, .sentinel, .pinned], laidTests := true, laidLooks := .later }
def TopAloneUptoCardSaid : Prop := Claim7.holds Tryz.pinned (.plain (OpenSpec.upto topAloneSpec)) topAloneUptoCard
end Rows
end Go.Proofs.YtkagmokhbmbjdaaGreatDoor
