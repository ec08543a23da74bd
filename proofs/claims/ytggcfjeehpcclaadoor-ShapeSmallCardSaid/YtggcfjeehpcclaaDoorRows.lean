/-
  NARROWER THAN 'FOR EVERY INPUT', by the rows' own cells (each row's printed sentence says how): ShapeMeets: laid · ShapeHas: laid · ShapeSmall: laid · ShapeRuns: laid · ShapeSame: laid · ShapeGrows: laid · ShapePoints: laid · ShapeBounds: laid · ShapeWrong: laid.
  DERIVED. THE GIVEN ROWS OF THIS SEAT. 9 by the template 'for every input the law returns true; each argument reads behind the call as it read before'; 0 by the template 'total and deterministic' (their statements: YtggcfjeehpcclaaDoorTotals.lean).
  GIVEN WITH THE SEED: the statements are not yours to turn. If you find one false, say at which input.
  Laid BY PROGRAM, IN A SANDBOX (cutbox-rows.mjs): the forced cells as the released guide's own fill.sh prints them over the translation 2041bd73a61d3f21… (all of the seat's roots in one cut). By AI agents, Wed Nov 11 2026. No macro, syntax, notation, axiom, sorry.
-/
import Derived.Test.YtggcfjeehpcclaaDoorChecked
import GoSem.Claim
import GoSem.ClaimJoined
import GoSem.ClaimMapViews
import Derived.JoinedTies
import Derived.KernelRfl
namespace Go.Proofs.YtggcfjeehpcclaaDoor
/- THE CELL 'sum', in the pinned program and in every row, IS THE sha256 OF THE DUMP (.gsa) THAT YtggcfjeehpcclaaDoorProg.lean LOADS. Nothing in Lean hashes anything: it is a label: what it is worth is what the hold of that sum in a sandbox is worth. -/
noncomputable def Tryd.pinned : Pinned := { name := "ytggcfjeehpcclaadoor", sum := "2041bd73a61d3f21ff4840917153a324d2f9013ae9afc40a59cc2ef337cacfef", checked := Tryd.checked }
namespace Rows
def none {H : Type} : Left H := { results := [], args := [] }

/- WHAT THE LISTED PACKAGE-LEVEL VARIABLES READ AS WHEN THE CALL BEGINS. Each datum BY PROGRAM (the guide's laid-datum.mjs) off the statement by which the dump's own 'gosem.cut.vars' lays the variable. In a bare row this is a premise. The card (YtggcfjeehpcclaaDoorCards.lean) ties it to the program's text. -/
def laid_marches_shape_rooms {H : Type} : DataW H := .iface "func table" (.agg [.agg [.iface "func" (.lit (.string [109, 97, 114, 99, 104, 101, 115, 47, 115, 104, 97, 112, 101, 46, 98, 111, 120, 101, 115])), .iface "func" (.lit (.string [109, 97, 114, 99, 104, 101, 115, 47, 115, 104, 97, 112, 101, 46, 98, 111, 120, 67, 105, 114, 99, 108, 101]))], .agg [.iface "func" (.lit (.string [109, 97, 114, 99, 104, 101, 115, 47, 115, 104, 97, 112, 101, 46, 99, 105, 114, 99, 108, 101, 66, 111, 120])), .iface "func" (.lit (.string [109, 97, 114, 99, 104, 101, 115, 47, 115, 104, 97, 112, 101, 46, 99, 105, 114, 99, 108, 101, 115]))]])

/-- 'marcheslaw05.ShapeMeets': WHATEVER THE INPUT: true; the input reads as it did. -/
def shapeMeetsSpec : ChangeSpec := { name := "shapeMeets", fn := fun _ => fun
  | [d1, d2] => { results := [.lit (.bool true)], args := [d1, d2] }
  | _ => none }
def shapeMeetsRow : OpenClaim := { program := "ytggcfjeehpcclaadoor", sum := "2041bd73a61d3f21ff4840917153a324d2f9013ae9afc40a59cc2ef337cacfef", func := "marches/marcheslaw05.ShapeMeets", spec := "shapeMeets", unfollowed := true, recurses := true, named := ["marches/shape.rooms"], apart := false, laid := [("marches/shape.rooms", laid_marches_shape_rooms)] }
def ShapeMeetsSaid : Prop := shapeMeetsRow.holds Tryd.pinned (OpenSpec.ofChange shapeMeetsSpec)

/-- ITS FALSE NEIGHBOUR: 'it returns false'. Refute it at one input. -/
def shapeMeetsWrong : ChangeSpec := { name := "shapeMeets", fn := fun _ => fun
  | [d1, d2] => { results := [.lit (.bool false)], args := [d1, d2] }
  | _ => none }
def ShapeMeetsWrongFalsely : Prop := shapeMeetsRow.holds Tryd.pinned (OpenSpec.ofChange shapeMeetsWrong)

/-- 'marcheslaw05.ShapeHas': WHATEVER THE INPUT: true; the input reads as it did. -/
def shapeHasSpec : ChangeSpec := { name := "shapeHas", fn := fun _ => fun
  | [d1, d2] => { results := [.lit (.bool true)], args := [d1, d2] }
  | _ => none }
def shapeHasRow : OpenClaim := { program := "ytggcfjeehpcclaadoor", sum := "2041bd73a61d3f21ff4840917153a324d2f9013ae9afc40a59cc2ef337cacfef", func := "marches/marcheslaw05.ShapeHas", spec := "shapeHas", unfollowed := true, recurses := true, named := ["marches/shape.rooms"], apart := false, laid := [("marches/shape.rooms", laid_marches_shape_rooms)] }
def ShapeHasSaid : Prop := shapeHasRow.holds Tryd.pinned (OpenSpec.ofChange shapeHasSpec)

/-- ITS FALSE NEIGHBOUR: 'it returns false'. Refute it at one input. -/
def shapeHasWrong : ChangeSpec := { name := "shapeHas", fn := fun _ => fun
  | [d1, d2] => { results := [.lit (.bool false)], args := [d1, d2] }
  | _ => none }
def ShapeHasWrongFalsely : Prop := shapeHasRow.holds Tryd.pinned (OpenSpec.ofChange shapeHasWrong)

/-- 'marcheslaw05.ShapeSmall': WHATEVER THE INPUT: true; the input reads as it did. -/
def shapeSmallSpec : ChangeSpec := { name := "shapeSmall", fn := fun _ => fun
  | [] => { results := [.lit (.bool true)], args := [] }
  | _ => none }
def shapeSmallRow : OpenClaim := { program := "ytggcfjeehpcclaadoor", sum := "2041bd73a61d3f21ff4840917153a324d2f9013ae9afc40a59cc2ef337cacfef", func := "marches/marcheslaw05.ShapeSmall", spec := "shapeSmall", unfollowed := true, recurses := true, named := ["marches/shape.rooms"], apart := false, laid := [("marches/shape.rooms", laid_marches_shape_rooms)] }
def ShapeSmallSaid : Prop := shapeSmallRow.holds Tryd.pinned (OpenSpec.ofChange shapeSmallSpec)

/-- ITS FALSE NEIGHBOUR: 'it returns false'. Refute it at one input. -/
def shapeSmallWrong : ChangeSpec := { name := "shapeSmall", fn := fun _ => fun
  | [] => { results := [.lit (.bool false)], args := [] }
  | _ => none }
def ShapeSmallWrongFalsely : Prop := shapeSmallRow.holds Tryd.pinned (OpenSpec.ofChange shapeSmallWrong)

/-- 'marcheslaw05.ShapeRuns': WHATEVER THE INPUT: true; the input reads as it did. -/
def shapeRunsSpec : ChangeSpec := { name := "shapeRuns", fn := fun _ => fun
  | [d1, d2, d3] => { results := [.lit (.bool true)], args := [d1, d2, d3] }
  | _ => none }
def shapeRunsRow : OpenClaim := { program := "ytggcfjeehpcclaadoor", sum := "2041bd73a61d3f21ff4840917153a324d2f9013ae9afc40a59cc2ef337cacfef", func := "marches/marcheslaw05.ShapeRuns", spec := "shapeRuns", unfollowed := true, recurses := true, named := ["marches/shape.rooms"], apart := false, laid := [("marches/shape.rooms", laid_marches_shape_rooms)] }
def ShapeRunsSaid : Prop := shapeRunsRow.holds Tryd.pinned (OpenSpec.ofChange shapeRunsSpec)

/-- ITS FALSE NEIGHBOUR: 'it returns false'. Refute it at one input. -/
def shapeRunsWrong : ChangeSpec := { name := "shapeRuns", fn := fun _ => fun
  | [d1, d2, d3] => { results := [.lit (.bool false)], args := [d1, d2, d3] }
  | _ => none }
def ShapeRunsWrongFalsely : Prop := shapeRunsRow.holds Tryd.pinned (OpenSpec.ofChange shapeRunsWrong)

/-- 'marcheslaw05.ShapeSame': WHATEVER THE INPUT: true; the input reads as it did. -/
def shapeSameSpec : ChangeSpec := { name := "shapeSame", fn := fun _ => fun
  | [d1, d2, d3, d4] => { results := [.lit (.bool true)], args := [d1, d2, d3, d4] }
  | _ => none }
def shapeSameRow : OpenClaim := { program := "ytggcfjeehpcclaadoor", sum := "2041bd73a61d3f21ff4840917153a324d2f9013ae9afc40a59cc2ef337cacfef", func := "marches/marcheslaw05.ShapeSame", spec := "shapeSame", unfollowed := true, recurses := true, named := ["marches/shape.rooms"], apart := false, laid := [("marches/shape.rooms", laid_marches_shape_rooms)] }
def ShapeSameSaid : Prop := shapeSameRow.holds Tryd.pinned (OpenSpec.ofChange shapeSameSpec)

/-- ITS FALSE NEIGHBOUR: 'it returns false'. Refute it at one input. -/
def shapeSameWrong : ChangeSpec := { name := "shapeSame", fn := fun _ => fun
  | [d1, d2, d3, d4] => { results := [.lit (.bool false)], args := [d1, d2, d3, d4] }
  | _ => none }
def ShapeSameWrongFalsely : Prop := shapeSameRow.holds Tryd.pinned (OpenSpec.ofChange shapeSameWrong)

/-- 'marcheslaw05.ShapeGrows': WHATEVER THE INPUT: true; the input reads as it did. -/
def shapeGrowsSpec : ChangeSpec := { name := "shapeGrows", fn := fun _ => fun
  | [d1, d2, d3, d4, d5] => { results := [.lit (.bool true)], args := [d1, d2, d3, d4, d5] }
  | _ => none }
def shapeGrowsRow : OpenClaim := { program := "ytggcfjeehpcclaadoor", sum := "2041bd73a61d3f21ff4840917153a324d2f9013ae9afc40a59cc2ef337cacfef", func := "marches/marcheslaw05.ShapeGrows", spec := "shapeGrows", unfollowed := true, recurses := true, named := ["marches/shape.rooms"], apart := false, laid := [("marches/shape.rooms", laid_marches_shape_rooms)] }
def ShapeGrowsSaid : Prop := shapeGrowsRow.holds Tryd.pinned (OpenSpec.ofChange shapeGrowsSpec)

/-- ITS FALSE NEIGHBOUR: 'it returns false'. Refute it at one input. -/
def shapeGrowsWrong : ChangeSpec := { name := "shapeGrows", fn := fun _ => fun
  | [d1, d2, d3, d4, d5] => { results := [.lit (.bool false)], args := [d1, d2, d3, d4, d5] }
  | _ => none }
def ShapeGrowsWrongFalsely : Prop := shapeGrowsRow.holds Tryd.pinned (OpenSpec.ofChange shapeGrowsWrong)

/-- 'marcheslaw05.ShapePoints': WHATEVER THE INPUT: true; the input reads as it did. -/
def shapePointsSpec : ChangeSpec := { name := "shapePoints", fn := fun _ => fun
  | [d1, d2, d3, d4] => { results := [.lit (.bool true)], args := [d1, d2, d3, d4] }
  | _ => none }
def shapePointsRow : OpenClaim := { program := "ytggcfjeehpcclaadoor", sum := "2041bd73a61d3f21ff4840917153a324d2f9013ae9afc40a59cc2ef337cacfef", func := "marches/marcheslaw05.ShapePoints", spec := "shapePoints", unfollowed := true, recurses := true, named := ["marches/shape.rooms"], apart := false, laid := [("marches/shape.rooms", laid_marches_shape_rooms)] }
def ShapePointsSaid : Prop := shapePointsRow.holds Tryd.pinned (OpenSpec.ofChange shapePointsSpec)

/-- ITS FALSE NEIGHBOUR: 'it returns false'. Refute it at one input. -/
def shapePointsWrong : ChangeSpec := { name := "shapePoints", fn := fun _ => fun
  | [d1, d2, d3, d4] => { results := [.lit (.bool false)], args := [d1, d2, d3, d4] }
  | _ => none }
def ShapePointsWrongFalsely : Prop := shapePointsRow.holds Tryd.pinned (OpenSpec.ofChange shapePointsWrong)

/-- 'marcheslaw05.ShapeBounds': WHATEVER THE INPUT: true; the input reads as it did. -/
def shapeBoundsSpec : ChangeSpec := { name := "shapeBounds", fn := fun _ => fun
  | [d1, d2] => { results := [.lit (.bool true)], args := [d1, d2] }
  | _ => none }
def shapeBoundsRow : OpenClaim := { program := "ytggcfjeehpcclaadoor", sum := "2041bd73a61d3f21ff4840917153a324d2f9013ae9afc40a59cc2ef337cacfef", func := "marches/marcheslaw05.ShapeBounds", spec := "shapeBounds", unfollowed := true, recurses := true, named := ["marches/shape.rooms"], apart := false, laid := [("marches/shape.rooms", laid_marches_shape_rooms)] }
def ShapeBoundsSaid : Prop := shapeBoundsRow.holds Tryd.pinned (OpenSpec.ofChange shapeBoundsSpec)

/-- ITS FALSE NEIGHBOUR: 'it returns false'. Refute it at one input. -/
def shapeBoundsWrong : ChangeSpec := { name := "shapeBounds", fn := fun _ => fun
  | [d1, d2] => { results := [.lit (.bool false)], args := [d1, d2] }
  | _ => none }
def ShapeBoundsWrongFalsely : Prop := shapeBoundsRow.holds Tryd.pinned (OpenSpec.ofChange shapeBoundsWrong)

/-- 'marcheslaw05.ShapeWrong': WHATEVER THE INPUT: true; the input reads as it did. -/
def shapeWrongSpec : ChangeSpec := { name := "shapeWrong", fn := fun _ => fun
  | [d1, d2, d3, d4, d5] => { results := [.lit (.bool true)], args := [d1, d2, d3, d4, d5] }
  | _ => none }
def shapeWrongRow : OpenClaim := { program := "ytggcfjeehpcclaadoor", sum := "2041bd73a61d3f21ff4840917153a324d2f9013ae9afc40a59cc2ef337cacfef", func := "marches/marcheslaw05.ShapeWrong", spec := "shapeWrong", unfollowed := true, recurses := true, named := ["marches/shape.rooms"], apart := false, laid := [("marches/shape.rooms", laid_marches_shape_rooms)] }
def ShapeWrongSaid : Prop := shapeWrongRow.holds Tryd.pinned (OpenSpec.ofChange shapeWrongSpec)

/-- ITS FALSE NEIGHBOUR: 'it returns false'. Refute it at one input. -/
def shapeWrongWrong : ChangeSpec := { name := "shapeWrong", fn := fun _ => fun
  | [d1, d2, d3, d4, d5] => { results := [.lit (.bool false)], args := [d1, d2, d3, d4, d5] }
  | _ => none }
def ShapeWrongWrongFalsely : Prop := shapeWrongRow.holds Tryd.pinned (OpenSpec.ofChange shapeWrongWrong)

/- THE SECOND FORM. 'bulk': how many values and letters a reading holds, each counted each time it is reached (what is shared counts as often as it is met; a slice's spare places count too). A statement '..UptoSaid' is the law's where the arguments, and the package variables that the reading takes, are together of bulk at most 1048576: NARROWER than '..Said'. Prove '..Said' where nothing that the law and all that it calls make is longer than what came in: it says more and counts as full. Else prove '..UptoSaid'. A law counts once. -/
mutual
def uptoBulk {H : Type} : DataW H → Nat
  | .lit (.string bytes) => bytes.length + 1
  | .lit _ => 1
  | .nil => 1
  | .ptr d => uptoBulk d + 1
  | .slice elems spare => uptoBulkAll elems + uptoBulkAll spare + 1
  | .agg parts => uptoBulkAll parts + 1
  | .iface _ d => uptoBulk d + 1
  | .map entries => uptoBulkEntries entries + 1
  | .held _ => 1
def uptoBulkAll {H : Type} : List (DataW H) → Nat
  | [] => 0
  | d :: r => uptoBulk d + uptoBulkAll r
def uptoBulkEntries {H : Type} : List (Lit × DataW H) → Nat
  | [] => 0
  | x :: r => uptoBulkEntry x + uptoBulkEntries r
def uptoBulkEntry {H : Type} : Lit × DataW H → Nat
  | (.string bytes, d) => bytes.length + uptoBulk d + 1
  | (_, d) => uptoBulk d + 1
 end
def uptoSmall : (H : Type) → List (DataW H) → Bool := fun _ ds => decide (uptoBulkAll ds ≤ 1048576)
def OpenSpec.upto (s : _root_.Go.ChangeSpec) : _root_.Go.OpenSpec := { _root_.Go.OpenSpec.ofChange s with cond := some uptoSmall }

/-- 'marcheslaw05.ShapeMeets', WHERE WHAT IT READS IS OF BULK AT MOST 1048576: true; the input reads as it did. -/
def shapeMeetsUptoRow : OpenClaim := { program := "ytggcfjeehpcclaadoor", sum := "2041bd73a61d3f21ff4840917153a324d2f9013ae9afc40a59cc2ef337cacfef", func := "marches/marcheslaw05.ShapeMeets", spec := "shapeMeets", unfollowed := true, recurses := true, named := ["marches/shape.rooms"], apart := false, laid := [("marches/shape.rooms", laid_marches_shape_rooms)], narrowed := true }
def ShapeMeetsUptoSaid : Prop := shapeMeetsUptoRow.holds Tryd.pinned (OpenSpec.upto shapeMeetsSpec)

/-- 'marcheslaw05.ShapeHas', WHERE WHAT IT READS IS OF BULK AT MOST 1048576: true; the input reads as it did. -/
def shapeHasUptoRow : OpenClaim := { program := "ytggcfjeehpcclaadoor", sum := "2041bd73a61d3f21ff4840917153a324d2f9013ae9afc40a59cc2ef337cacfef", func := "marches/marcheslaw05.ShapeHas", spec := "shapeHas", unfollowed := true, recurses := true, named := ["marches/shape.rooms"], apart := false, laid := [("marches/shape.rooms", laid_marches_shape_rooms)], narrowed := true }
def ShapeHasUptoSaid : Prop := shapeHasUptoRow.holds Tryd.pinned (OpenSpec.upto shapeHasSpec)

/-- 'marcheslaw05.ShapeSmall', WHERE WHAT IT READS IS OF BULK AT MOST 1048576: true; the input reads as it did. -/
def shapeSmallUptoRow : OpenClaim := { program := "ytggcfjeehpcclaadoor", sum := "2041bd73a61d3f21ff4840917153a324d2f9013ae9afc40a59cc2ef337cacfef", func := "marches/marcheslaw05.ShapeSmall", spec := "shapeSmall", unfollowed := true, recurses := true, named := ["marches/shape.rooms"], apart := false, laid := [("marches/shape.rooms", laid_marches_shape_rooms)], narrowed := true }
def ShapeSmallUptoSaid : Prop := shapeSmallUptoRow.holds Tryd.pinned (OpenSpec.upto shapeSmallSpec)

/-- 'marcheslaw05.ShapeRuns', WHERE WHAT IT READS IS OF BULK AT MOST 1048576: true; the input reads as it did. -/
def shapeRunsUptoRow : OpenClaim := { program := "ytggcfjeehpcclaadoor", sum := "2041bd73a61d3f21ff4840917153a324d2f9013ae9afc40a59cc2ef337cacfef", func := "marches/marcheslaw05.ShapeRuns", spec := "shapeRuns", unfollowed := true, recurses := true, named := ["marches/shape.rooms"], apart := false, laid := [("marches/shape.rooms", laid_marches_shape_rooms)], narrowed := true }
def ShapeRunsUptoSaid : Prop := shapeRunsUptoRow.holds Tryd.pinned (OpenSpec.upto shapeRunsSpec)

/-- 'marcheslaw05.ShapeSame', WHERE WHAT IT READS IS OF BULK AT MOST 1048576: true; the input reads as it did. -/
def shapeSameUptoRow : OpenClaim := { program := "ytggcfjeehpcclaadoor", sum := "2041bd73a61d3f21ff4840917153a324d2f9013ae9afc40a59cc2ef337cacfef", func := "marches/marcheslaw05.ShapeSame", spec := "shapeSame", unfollowed := true, recurses := true, named := ["marches/shape.rooms"], apart := false, laid := [("marches/shape.rooms", laid_marches_shape_rooms)], narrowed := true }
def ShapeSameUptoSaid : Prop := shapeSameUptoRow.holds Tryd.pinned (OpenSpec.upto shapeSameSpec)

/-- 'marcheslaw05.ShapeGrows', WHERE WHAT IT READS IS OF BULK AT MOST 1048576: true; the input reads as it did. -/
def shapeGrowsUptoRow : OpenClaim := { program := "ytggcfjeehpcclaadoor", sum := "2041bd73a61d3f21ff4840917153a324d2f9013ae9afc40a59cc2ef337cacfef", func := "marches/marcheslaw05.ShapeGrows", spec := "shapeGrows", unfollowed := true, recurses := true, named := ["marches/shape.rooms"], apart := false, laid := [("marches/shape.rooms", laid_marches_shape_rooms)], narrowed := true }
def ShapeGrowsUptoSaid : Prop := shapeGrowsUptoRow.holds Tryd.pinned (OpenSpec.upto shapeGrowsSpec)

/-- 'marcheslaw05.ShapePoints', WHERE WHAT IT READS IS OF BULK AT MOST 1048576: true; the input reads as it did. -/
def shapePointsUptoRow : OpenClaim := { program := "ytggcfjeehpcclaadoor", sum := "2041bd73a61d3f21ff4840917153a324d2f9013ae9afc40a59cc2ef337cacfef", func := "marches/marcheslaw05.ShapePoints", spec := "shapePoints", unfollowed := true, recurses := true, named := ["marches/shape.rooms"], apart := false, laid := [("marches/shape.rooms", laid_marches_shape_rooms)], narrowed := true }
def ShapePointsUptoSaid : Prop := shapePointsUptoRow.holds Tryd.pinned (OpenSpec.upto shapePointsSpec)

/-- 'marcheslaw05.ShapeBounds', WHERE WHAT IT READS IS OF BULK AT MOST 1048576: true; the input reads as it did. -/
def shapeBoundsUptoRow : OpenClaim := { program := "ytggcfjeehpcclaadoor", sum := "2041bd73a61d3f21ff4840917153a324d2f9013ae9afc40a59cc2ef337cacfef", func := "marches/marcheslaw05.ShapeBounds", spec := "shapeBounds", unfollowed := true, recurses := true, named := ["marches/shape.rooms"], apart := false, laid := [("marches/shape.rooms", laid_marches_shape_rooms)], narrowed := true }
def ShapeBoundsUptoSaid : Prop := shapeBoundsUptoRow.holds Tryd.pinned (OpenSpec.upto shapeBoundsSpec)

/-- 'marcheslaw05.ShapeWrong', WHERE WHAT IT READS IS OF BULK AT MOST 1048576: true; the input reads as it did. -/
def shapeWrongUptoRow : OpenClaim := { program := "ytggcfjeehpcclaadoor", sum := "2041bd73a61d3f21ff4840917153a324d2f9013ae9afc40a59cc2ef337cacfef", func := "marches/marcheslaw05.ShapeWrong", spec := "shapeWrong", unfollowed := true, recurses := true, named := ["marches/shape.rooms"], apart := false, laid := [("marches/shape.rooms", laid_marches_shape_rooms)], narrowed := true }
def ShapeWrongUptoSaid : Prop := shapeWrongUptoRow.holds Tryd.pinned (OpenSpec.upto shapeWrongSpec)

end Rows
end Go.Proofs.YtggcfjeehpcclaaDoor
