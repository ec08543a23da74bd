/-
  DERIVED. GIVEN WITH THE SEED: THE CARDS: each row of YtinefblphbicaaaDoorRows.lean that lists a variable, with what it lists TIED to the program's text (the seventh form; the later family's looks); each row that meets fmt, with fmt's text TOLD by the authors' own Lean function (tested against real Go, not proved from fmt's source: count such statements apart). THE CARD IS WHAT COUNTS. Prove the row's statement (the work); the ties are given (YtinefblphbicaaaDoorTie.lean); close each card by the builder's one call (the guide's Derived/Test/ToyasCard.lean, 'card_holds'). Laid BY PROGRAM, IN A SANDBOX (cutbox-door.mjs). By AI agents, Wed Nov 11 2026. No macro, syntax, notation, axiom, sorry.
-/
import Derived.Test.YtinefblphbicaaaDoorRows
import GoSem.ClaimSeven
namespace Go.Proofs.YtinefblphbicaaaDoor
namespace Rows

/-- THE TIED CARD OF 'marcheslaw38.DefenceBounds'. -/
def defenceBoundsCard : Claim7 := { stood := { row := defenceBoundsRow, standIns := [], harness := (true, "cee33eaf339ec6ed271434a119952cd75efe61c16cf2ed5f362c72f3cba3bc7f"), looks := false }, kinds := [], alts := [], laidByText := true, laidKinds := [.data], laidTests := true, laidLooks := .later }
def DefenceBoundsCardSaid : Prop := Claim7.holds Tryd.pinned (.plain (OpenSpec.ofChange defenceBoundsSpec)) defenceBoundsCard

/-- THE TIED CARD OF 'marcheslaw38.DefenceHonest'. -/
def defenceHonestCard : Claim7 := { stood := { row := defenceHonestRow, standIns := [], harness := (true, "cee33eaf339ec6ed271434a119952cd75efe61c16cf2ed5f362c72f3cba3bc7f"), looks := false }, kinds := [], alts := [], laidByText := true, laidKinds := [.data], laidTests := true, laidLooks := .later }
def DefenceHonestCardSaid : Prop := Claim7.holds Tryd.pinned (.plain (OpenSpec.ofChange defenceHonestSpec)) defenceHonestCard

/-- THE TIED CARD OF 'marcheslaw38.DefenceDiffers'. -/
def defenceDiffersCard : Claim7 := { stood := { row := defenceDiffersRow, standIns := [], harness := (true, "cee33eaf339ec6ed271434a119952cd75efe61c16cf2ed5f362c72f3cba3bc7f"), looks := false }, kinds := [], alts := [], laidByText := true, laidKinds := [.data], laidTests := true, laidLooks := .later }
def DefenceDiffersCardSaid : Prop := Claim7.holds Tryd.pinned (.plain (OpenSpec.ofChange defenceDiffersSpec)) defenceDiffersCard

/-- THE TIED CARD OF 'marcheslaw38.DefenceCalms'. -/
def defenceCalmsCard : Claim7 := { stood := { row := defenceCalmsRow, standIns := [], harness := (true, "cee33eaf339ec6ed271434a119952cd75efe61c16cf2ed5f362c72f3cba3bc7f"), looks := false }, kinds := [], alts := [], laidByText := true, laidKinds := [.data], laidTests := true, laidLooks := .later }
def DefenceCalmsCardSaid : Prop := Claim7.holds Tryd.pinned (.plain (OpenSpec.ofChange defenceCalmsSpec)) defenceCalmsCard

/-- THE TIED CARD OF 'marcheslaw38.DefenceWrong'. -/
def defenceWrongCard : Claim7 := { stood := { row := defenceWrongRow, standIns := [], harness := (true, "cee33eaf339ec6ed271434a119952cd75efe61c16cf2ed5f362c72f3cba3bc7f"), looks := false }, kinds := [], alts := [], laidByText := true, laidKinds := [.data], laidTests := true, laidLooks := .later }
def DefenceWrongCardSaid : Prop := Claim7.holds Tryd.pinned (.plain (OpenSpec.ofChange defenceWrongSpec)) defenceWrongCard

/-- THE SECOND FORM's CARD OF 'marcheslaw38.DefenceBounds'. -/
def defenceBoundsUptoCard : Claim7 := { stood := { row := defenceBoundsUptoRow, standIns := [], harness := (true, "cee33eaf339ec6ed271434a119952cd75efe61c16cf2ed5f362c72f3cba3bc7f"), looks := false }, kinds := [], alts := [], laidByText := true, laidKinds := [.data], laidTests := true, laidLooks := .later }
def DefenceBoundsUptoCardSaid : Prop := Claim7.holds Tryd.pinned (.plain (OpenSpec.upto defenceBoundsSpec)) defenceBoundsUptoCard

/-- THE SECOND FORM's CARD OF 'marcheslaw38.DefenceHonest'. -/
def defenceHonestUptoCard : Claim7 := { stood := { row := defenceHonestUptoRow, standIns := [], harness := (true, "cee33eaf339ec6ed271434a119952cd75efe61c16cf2ed5f362c72f3cba3bc7f"), looks := false }, kinds := [], alts := [], laidByText := true, laidKinds := [.data], laidTests := true, laidLooks := .later }
def DefenceHonestUptoCardSaid : Prop := Claim7.holds Tryd.pinned (.plain (OpenSpec.upto defenceHonestSpec)) defenceHonestUptoCard

/-- THE SECOND FORM's CARD OF 'marcheslaw38.DefenceDiffers'. -/
def defenceDiffersUptoCard : Claim7 := { stood := { row := defenceDiffersUptoRow, standIns := [], harness := (true, "cee33eaf339ec6ed271434a119952cd75efe61c16cf2ed5f362c72f3cba3bc7f"), looks := false }, kinds := [], alts := [], laidByText := true, laidKinds := [.data], laidTests := true, laidLooks := .later }
def DefenceDiffersUptoCardSaid : Prop := Claim7.holds Tryd.pinned (.plain (OpenSpec.upto defenceDiffersSpec)) defenceDiffersUptoCard

/-- THE SECOND FORM's CARD OF 'marcheslaw38.DefenceCalms'. -/
def defenceCalmsUptoCard : Claim7 := { stood := { row := defenceCalmsUptoRow, standIns := [], harness := (true, "cee33eaf339ec6ed271434a119952cd75efe61c16cf2ed5f362c72f3cba3bc7f"), looks := false }, kinds := [], alts := [], laidByText := true, laidKinds := [.data], laidTests := true, laidLooks := .later }
def DefenceCalmsUptoCardSaid : Prop := Claim7.holds Tryd.pinned (.plain (OpenSpec.upto defenceCalmsSpec)) defenceCalmsUptoCard

/-- THE SECOND FORM's CARD OF 'marcheslaw38.DefenceWrong'. -/
def defenceWrongUptoCard : Claim7 := { stood := { row := defenceWrongUptoRow, standIns := [], harness := (true, "cee33eaf339ec6ed271434a119952cd75efe61c16cf2ed5f362c72f3cba3bc7f"), looks := false }, kinds := [], alts := [], laidByText := true, laidKinds := [.data], laidTests := true, laidLooks := .later }
def DefenceWrongUptoCardSaid : Prop := Claim7.holds Tryd.pinned (.plain (OpenSpec.upto defenceWrongSpec)) defenceWrongUptoCard
end Rows
end Go.Proofs.YtinefblphbicaaaDoor
