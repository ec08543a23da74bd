/-
  DERIVED. GIVEN WITH THE SEED: THE CARDS: each row of YtgigkennhdolpaaGreatDoorRows.lean that lists a variable, with what it lists TIED to the program's text (the seventh form; the later family's looks); each row that meets fmt, with fmt's text TOLD by the authors' own Lean function (tested against real Go, not proved from fmt's source: count such statements apart). THE CARD IS WHAT COUNTS. Prove the row's statement (the work); the ties are given (YtgigkennhdolpaaGreatDoorTie.lean); close each card by the builder's one call (the guide's Derived/Test/ToyasCard.lean, 'card_holds'). Laid BY PROGRAM, IN A SANDBOX (cutbox-door.mjs). By AI agents, Wed Nov 11 2026. No macro, syntax, notation, axiom, sorry.
-/
import Derived.Test.YtgigkennhdolpaaGreatDoorRows
import GoSem.ClaimSeven
namespace Go.Proofs.YtgigkennhdolpaaGreatDoor
namespace Rows

/-- THE TIED CARD OF 'marcheslaw30.ZoneStill'. -/
def zoneStillCard : Claim7 := { stood := { row := zoneStillRow, standIns := [], harness := (true, "7726481f93d9565440c41e71277077e3c0100d291f011efa2287ee2445602ff5"), looks := true }, kinds := [], alts := [], goes := true, laidByText := true, laidKinds := [.funcs, .data], laidTests := true, laidLooks := .later }
def ZoneStillCardSaid : Prop := Claim7.holds Tryz.pinned (.plain (OpenSpec.ofChange zoneStillSpec)) zoneStillCard

/-- THE TIED CARD OF 'marcheslaw30.ZoneRuns'. -/
def zoneRunsCard : Claim7 := { stood := { row := zoneRunsRow, standIns := [], harness := (true, "7726481f93d9565440c41e71277077e3c0100d291f011efa2287ee2445602ff5"), looks := true }, kinds := [], alts := [], goes := true, laidByText := true, laidKinds := [.funcs, .data], laidTests := true, laidLooks := .later }
def ZoneRunsCardSaid : Prop := Claim7.holds Tryz.pinned (.plain (OpenSpec.ofChange zoneRunsSpec)) zoneRunsCard

/-- THE TIED CARD OF 'marcheslaw30.ZoneSteers'. -/
def zoneSteersCard : Claim7 := { stood := { row := zoneSteersRow, standIns := [], harness := (true, "7726481f93d9565440c41e71277077e3c0100d291f011efa2287ee2445602ff5"), looks := true }, kinds := [], alts := [], goes := true, laidByText := true, laidKinds := [.funcs, .data], laidTests := true, laidLooks := .later }
def ZoneSteersCardSaid : Prop := Claim7.holds Tryz.pinned (.plain (OpenSpec.ofChange zoneSteersSpec)) zoneSteersCard

/-- THE TIED CARD OF 'marcheslaw30.ZoneInputs'. -/
def zoneInputsCard : Claim7 := { stood := { row := zoneInputsRow, standIns := [], harness := (true, "7726481f93d9565440c41e71277077e3c0100d291f011efa2287ee2445602ff5"), looks := true }, kinds := [], alts := [], goes := true, laidByText := true, laidKinds := [.funcs, .data], laidTests := true, laidLooks := .later }
def ZoneInputsCardSaid : Prop := Claim7.holds Tryz.pinned (.plain (OpenSpec.ofChange zoneInputsSpec)) zoneInputsCard

/-- THE TIED CARD OF 'marcheslaw30.ZoneHands'. -/
def zoneHandsCard : Claim7 := { stood := { row := zoneHandsRow, standIns := [], harness := (true, "7726481f93d9565440c41e71277077e3c0100d291f011efa2287ee2445602ff5"), looks := true }, kinds := [], alts := [], goes := true, laidByText := true, laidKinds := [.funcs, .data], laidTests := true, laidLooks := .later }
def ZoneHandsCardSaid : Prop := Claim7.holds Tryz.pinned (.plain (OpenSpec.ofChange zoneHandsSpec)) zoneHandsCard

/-- THE TIED CARD OF 'marcheslaw30.ZoneWrong'. -/
def zoneWrongCard : Claim7 := { stood := { row := zoneWrongRow, standIns := [], harness := (true, "7726481f93d9565440c41e71277077e3c0100d291f011efa2287ee2445602ff5"), looks := true }, kinds := [], alts := [], goes := true, laidByText := true, laidKinds := [.funcs, .data], laidTests := true, laidLooks := .later }
def ZoneWrongCardSaid : Prop := Claim7.holds Tryz.pinned (.plain (OpenSpec.ofChange zoneWrongSpec)) zoneWrongCard

/-- THE TIED CARD OF 'marcheslaw30.ZoneGives'. -/
def zoneGivesCard : Claim7 := { stood := { row := zoneGivesRow, standIns := [], harness := (true, "7726481f93d9565440c41e71277077e3c0100d291f011efa2287ee2445602ff5"), looks := true }, kinds := [], alts := [], goes := true, laidByText := true, laidKinds := [.funcs, .data], laidTests := true, laidLooks := .later }
def ZoneGivesCardSaid : Prop := Claim7.holds Tryz.pinned (.plain (OpenSpec.ofChange zoneGivesSpec)) zoneGivesCard

/-- THE SECOND FORM's CARD OF 'marcheslaw30.ZoneStill'. -/
def zoneStillUptoCard : Claim7 := { stood := { row := zoneStillUptoRow, standIns := [], harness := (true, "7726481f93d9565440c41e71277077e3c0100d291f011efa2287ee2445602ff5"), looks := true }, kinds := [], alts := [], goes := true, laidByText := true, laidKinds := [.funcs, .data], laidTests := true, laidLooks := .later }
def ZoneStillUptoCardSaid : Prop := Claim7.holds Tryz.pinned (.plain (OpenSpec.upto zoneStillSpec)) zoneStillUptoCard

/-- THE SECOND FORM's CARD OF 'marcheslaw30.ZoneRuns'. -/
def zoneRunsUptoCard : Claim7 := { stood := { row := zoneRunsUptoRow, standIns := [], harness := (true, "7726481f93d9565440c41e71277077e3c0100d291f011efa2287ee2445602ff5"), looks := true }, kinds := [], alts := [], goes := true, laidByText := true, laidKinds := [.funcs, .data], laidTests := true, laidLooks := .later }
def ZoneRunsUptoCardSaid : Prop := Claim7.holds Tryz.pinned (.plain (OpenSpec.upto zoneRunsSpec)) zoneRunsUptoCard

/-- THE SECOND FORM's CARD OF 'marcheslaw30.ZoneSteers'. -/
def zoneSteersUptoCard : Claim7 := { stood := { row := zoneSteersUptoRow, standIns := [], harness := (true, "7726481f93d9565440c41e71277077e3c0100d291f011efa2287ee2445602ff5"), looks := true }, kinds := [], alts := [], goes := true, laidByText := true, laidKinds := [.funcs, .data], laidTests := true, laidLooks := .later }
def ZoneSteersUptoCardSaid : Prop := Claim7.holds Tryz.pinned (.plain (OpenSpec.upto zoneSteersSpec)) zoneSteersUptoCard

/-- THE SECOND FORM's CARD OF 'marcheslaw30.ZoneInputs'. -/
def zoneInputsUptoCard : Claim7 := { stood := { row := zoneInputsUptoRow, standIns := [], harness := (true, "7726481f93d9565440c41e71277077e3c0100d291f011efa2287ee2445602ff5"), looks := true }, kinds := [], alts := [], goes := true, laidByText := true, laidKinds := [.funcs, .data], laidTests := true, laidLooks := .later }
def ZoneInputsUptoCardSaid : Prop := Claim7.holds Tryz.pinned (.plain (OpenSpec.upto zoneInputsSpec)) zoneInputsUptoCard

/-- THE SECOND FORM's CARD OF 'marcheslaw30.ZoneHands'. -/
def zoneHandsUptoCard : Claim7 := { stood := { row := zoneHandsUptoRow, standIns := [], harness := (true, "7726481f93d9565440c41e71277077e3c0100d291f011efa2287ee2445602ff5"), looks := true }, kinds := [], alts := [], goes := true, laidByText := true, laidKinds := [.funcs, .data], laidTests := true, laidLooks := .later }
def ZoneHandsUptoCardSaid : Prop := Claim7.holds Tryz.pinned (.plain (OpenSpec.upto zoneHandsSpec)) zoneHandsUptoCard

/-- THE SECOND FORM's CARD OF 'marcheslaw30.ZoneWrong'. -/
def zoneWrongUptoCard : Claim7 := { stood := { row := zoneWrongUptoRow, standIns := [], harness := (true, "7726481f93d9565440c41e71277077e3c0100d291f011efa2287ee2445602ff5"), looks := true }, kinds := [], alts := [], goes := true, laidByText := true, laidKinds := [.funcs, .data], laidTests := true, laidLooks := .later }
def ZoneWrongUptoCardSaid : Prop := Claim7.holds Tryz.pinned (.plain (OpenSpec.upto zoneWrongSpec)) zoneWrongUptoCard

/-- THE SECOND FORM's CARD OF 'marcheslaw30.ZoneGives'. -/
def zoneGivesUptoCard : Claim7 := { stood := { row := zoneGivesUptoRow, standIns := [], harness := (true, "7726481f93d9565440c41e71277077e3c0100d291f011efa2287ee2445602ff5"), looks := true }, kinds := [], alts := [], goes := true, laidByText := true, laidKinds := [.funcs, .data], laidTests := true, laidLooks := .later }
def ZoneGivesUptoCardSaid : Prop := Claim7.holds Tryz.pinned (.plain (OpenSpec.upto zoneGivesSpec)) zoneGivesUptoCard
end Rows
end Go.Proofs.YtgigkennhdolpaaGreatDoor
