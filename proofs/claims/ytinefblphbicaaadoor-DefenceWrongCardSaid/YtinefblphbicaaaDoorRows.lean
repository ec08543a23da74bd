/-
  NARROWER THAN 'FOR EVERY INPUT', by the rows' own cells (each row's printed sentence says how): DefenceBounds: laid · DefenceHonest: laid · DefenceDiffers: laid · DefenceCalms: laid · DefenceWrong: laid.
  DERIVED. THE GIVEN ROWS OF THIS SEAT. 5 by the template 'for every input the law returns true; each argument reads behind the call as it read before'; 0 by the template 'total and deterministic' (their statements: YtinefblphbicaaaDoorTotals.lean).
  GIVEN WITH THE SEED: the statements are not yours to turn. If you find one false, say at which input.
  Laid BY PROGRAM, IN A SANDBOX (cutbox-rows.mjs): the forced cells as the released guide's own fill.sh prints them over the translation 0aebfdc7dd6fb9f8… (all of the seat's roots in one cut). By AI agents, Wed Nov 11 2026. No macro, syntax, notation, axiom, sorry.
-/
import Derived.Test.YtinefblphbicaaaDoorChecked
import GoSem.Claim
import GoSem.ClaimJoined
import GoSem.ClaimMapViews
import Derived.JoinedTies
import Derived.KernelRfl
namespace Go.Proofs.YtinefblphbicaaaDoor
/- THE CELL 'sum', in the pinned program and in every row, IS THE sha256 OF THE DUMP (.gsa) THAT YtinefblphbicaaaDoorProg.lean LOADS. Nothing in Lean hashes anything: it is a label: what it is worth is what the hold of that sum in a sandbox is worth. -/
noncomputable def Tryd.pinned : Pinned := { name := "ytinefblphbicaaadoor", sum := "0aebfdc7dd6fb9f8d8e1691dad80bc6b3dca6e4db4099378a4eb4b705167b20b", checked := Tryd.checked }
namespace Rows
def none {H : Type} : Left H := { results := [], args := [] }

/- WHAT THE LISTED PACKAGE-LEVEL VARIABLES READ AS WHEN THE CALL BEGINS. Each datum BY PROGRAM (the guide's laid-datum.mjs) off the statement by which the dump's own 'gosem.cut.vars' lays the variable. In a bare row this is a premise. The card (YtinefblphbicaaaDoorCards.lean) ties it to the program's text. -/
def laid_marches_defence_costs {H : Type} : DataW H := .agg [.lit (.int .i64 0), .lit (.int .i64 0), .lit (.int .i64 2), .lit (.int .i64 5), .lit (.int .i64 10), .lit (.int .i64 10), .lit (.int .i64 2), .lit (.int .i64 20)]

/-- 'marcheslaw38.DefenceBounds': WHATEVER THE INPUT: true; the input reads as it did. -/
def defenceBoundsSpec : ChangeSpec := { name := "defenceBounds", fn := fun _ => fun
  | [d1, d2] => { results := [.lit (.bool true)], args := [d1, d2] }
  | _ => none }
def defenceBoundsRow : OpenClaim := { program := "ytinefblphbicaaadoor", sum := "0aebfdc7dd6fb9f8d8e1691dad80bc6b3dca6e4db4099378a4eb4b705167b20b", func := "marches/marcheslaw38.DefenceBounds", spec := "defenceBounds", unfollowed := true, recurses := true, named := ["marches/defence.costs"], apart := false, laid := [("marches/defence.costs", laid_marches_defence_costs)] }
def DefenceBoundsSaid : Prop := defenceBoundsRow.holds Tryd.pinned (OpenSpec.ofChange defenceBoundsSpec)

/-- ITS FALSE NEIGHBOUR: 'it returns false'. Refute it at one input. -/
def defenceBoundsWrong : ChangeSpec := { name := "defenceBounds", fn := fun _ => fun
  | [d1, d2] => { results := [.lit (.bool false)], args := [d1, d2] }
  | _ => none }
def DefenceBoundsWrongFalsely : Prop := defenceBoundsRow.holds Tryd.pinned (OpenSpec.ofChange defenceBoundsWrong)

/-- 'marcheslaw38.DefenceHonest': WHATEVER THE INPUT: true; the input reads as it did. -/
def defenceHonestSpec : ChangeSpec := { name := "defenceHonest", fn := fun _ => fun
  | [d1, d2] => { results := [.lit (.bool true)], args := [d1, d2] }
  | _ => none }
def defenceHonestRow : OpenClaim := { program := "ytinefblphbicaaadoor", sum := "0aebfdc7dd6fb9f8d8e1691dad80bc6b3dca6e4db4099378a4eb4b705167b20b", func := "marches/marcheslaw38.DefenceHonest", spec := "defenceHonest", unfollowed := true, recurses := true, named := ["marches/defence.costs"], apart := false, laid := [("marches/defence.costs", laid_marches_defence_costs)] }
def DefenceHonestSaid : Prop := defenceHonestRow.holds Tryd.pinned (OpenSpec.ofChange defenceHonestSpec)

/-- ITS FALSE NEIGHBOUR: 'it returns false'. Refute it at one input. -/
def defenceHonestWrong : ChangeSpec := { name := "defenceHonest", fn := fun _ => fun
  | [d1, d2] => { results := [.lit (.bool false)], args := [d1, d2] }
  | _ => none }
def DefenceHonestWrongFalsely : Prop := defenceHonestRow.holds Tryd.pinned (OpenSpec.ofChange defenceHonestWrong)

/-- 'marcheslaw38.DefenceDiffers': WHATEVER THE INPUT: true; the input reads as it did. -/
def defenceDiffersSpec : ChangeSpec := { name := "defenceDiffers", fn := fun _ => fun
  | [d1, d2, d3, d4] => { results := [.lit (.bool true)], args := [d1, d2, d3, d4] }
  | _ => none }
def defenceDiffersRow : OpenClaim := { program := "ytinefblphbicaaadoor", sum := "0aebfdc7dd6fb9f8d8e1691dad80bc6b3dca6e4db4099378a4eb4b705167b20b", func := "marches/marcheslaw38.DefenceDiffers", spec := "defenceDiffers", unfollowed := true, recurses := true, named := ["marches/defence.costs"], apart := false, laid := [("marches/defence.costs", laid_marches_defence_costs)] }
def DefenceDiffersSaid : Prop := defenceDiffersRow.holds Tryd.pinned (OpenSpec.ofChange defenceDiffersSpec)

/-- ITS FALSE NEIGHBOUR: 'it returns false'. Refute it at one input. -/
def defenceDiffersWrong : ChangeSpec := { name := "defenceDiffers", fn := fun _ => fun
  | [d1, d2, d3, d4] => { results := [.lit (.bool false)], args := [d1, d2, d3, d4] }
  | _ => none }
def DefenceDiffersWrongFalsely : Prop := defenceDiffersRow.holds Tryd.pinned (OpenSpec.ofChange defenceDiffersWrong)

/-- 'marcheslaw38.DefenceCalms': WHATEVER THE INPUT: true; the input reads as it did. -/
def defenceCalmsSpec : ChangeSpec := { name := "defenceCalms", fn := fun _ => fun
  | [d1, d2, d3] => { results := [.lit (.bool true)], args := [d1, d2, d3] }
  | _ => none }
def defenceCalmsRow : OpenClaim := { program := "ytinefblphbicaaadoor", sum := "0aebfdc7dd6fb9f8d8e1691dad80bc6b3dca6e4db4099378a4eb4b705167b20b", func := "marches/marcheslaw38.DefenceCalms", spec := "defenceCalms", unfollowed := true, recurses := true, named := ["marches/defence.costs"], apart := false, laid := [("marches/defence.costs", laid_marches_defence_costs)] }
def DefenceCalmsSaid : Prop := defenceCalmsRow.holds Tryd.pinned (OpenSpec.ofChange defenceCalmsSpec)

/-- ITS FALSE NEIGHBOUR: 'it returns false'. Refute it at one input. -/
def defenceCalmsWrong : ChangeSpec := { name := "defenceCalms", fn := fun _ => fun
  | [d1, d2, d3] => { results := [.lit (.bool false)], args := [d1, d2, d3] }
  | _ => none }
def DefenceCalmsWrongFalsely : Prop := defenceCalmsRow.holds Tryd.pinned (OpenSpec.ofChange defenceCalmsWrong)

/-- 'marcheslaw38.DefenceWrong': WHATEVER THE INPUT: true; the input reads as it did. -/
def defenceWrongSpec : ChangeSpec := { name := "defenceWrong", fn := fun _ => fun
  | [d1, d2] => { results := [.lit (.bool true)], args := [d1, d2] }
  | _ => none }
def defenceWrongRow : OpenClaim := { program := "ytinefblphbicaaadoor", sum := "0aebfdc7dd6fb9f8d8e1691dad80bc6b3dca6e4db4099378a4eb4b705167b20b", func := "marches/marcheslaw38.DefenceWrong", spec := "defenceWrong", unfollowed := true, recurses := true, named := ["marches/defence.costs"], apart := false, laid := [("marches/defence.costs", laid_marches_defence_costs)] }
def DefenceWrongSaid : Prop := defenceWrongRow.holds Tryd.pinned (OpenSpec.ofChange defenceWrongSpec)

/-- ITS FALSE NEIGHBOUR: 'it returns false'. Refute it at one input. -/
def defenceWrongWrong : ChangeSpec := { name := "defenceWrong", fn := fun _ => fun
  | [d1, d2] => { results := [.lit (.bool false)], args := [d1, d2] }
  | _ => none }
def DefenceWrongWrongFalsely : Prop := defenceWrongRow.holds Tryd.pinned (OpenSpec.ofChange defenceWrongWrong)

/- THE SECOND FORM. 'bulk': how many values and letters a reading holds, each counted each time it is reached (what is shared counts as often as it is met; a slice's spare places count too). A statement '..UptoSaid' is the law's where the arguments, and the package variables that the reading takes, are together of bulk at most 1048576: NARROWER than '..Said'. Prove '..Said' where nothing that the law and all that it calls make is longer than what came in: it says more and counts as full. Else prove '..UptoSaid'. A law counts once. -/
mutual
def uptoBulk {H : Type} : DataW H → Nat
  | .lit (.string bytes) => bytes.length + 1
  | .lit _ => 1
  | .nil => 1
  | .ptr d => uptoBulk d + 1
  | .slice elems spare => uptoBulkAll elems + uptoBulkAll spare + 1
  | .agg parts => uptoBulkAll parts + 1
  | .iface _ d => uptoBulk d + 1
  | .map entries => uptoBulkEntries entries + 1
  | .held _ => 1
def uptoBulkAll {H : Type} : List (DataW H) → Nat
  | [] => 0
  | d :: r => uptoBulk d + uptoBulkAll r
def uptoBulkEntries {H : Type} : List (Lit × DataW H) → Nat
  | [] => 0
  | x :: r => uptoBulkEntry x + uptoBulkEntries r
def uptoBulkEntry {H : Type} : Lit × DataW H → Nat
  | (.string bytes, d) => bytes.length + uptoBulk d + 1
  | (_, d) => uptoBulk d + 1
 end
def uptoSmall : (H : Type) → List (DataW H) → Bool := fun _ ds => decide (uptoBulkAll ds ≤ 1048576)
def OpenSpec.upto (s : _root_.Go.ChangeSpec) : _root_.Go.OpenSpec := { _root_.Go.OpenSpec.ofChange s with cond := some uptoSmall }

/-- 'marcheslaw38.DefenceBounds', WHERE WHAT IT READS IS OF BULK AT MOST 1048576: true; the input reads as it did. -/
def defenceBoundsUptoRow : OpenClaim := { program := "ytinefblphbicaaadoor", sum := "0aebfdc7dd6fb9f8d8e1691dad80bc6b3dca6e4db4099378a4eb4b705167b20b", func := "marches/marcheslaw38.DefenceBounds", spec := "defenceBounds", unfollowed := true, recurses := true, named := ["marches/defence.costs"], apart := false, laid := [("marches/defence.costs", laid_marches_defence_costs)], narrowed := true }
def DefenceBoundsUptoSaid : Prop := defenceBoundsUptoRow.holds Tryd.pinned (OpenSpec.upto defenceBoundsSpec)

/-- 'marcheslaw38.DefenceHonest', WHERE WHAT IT READS IS OF BULK AT MOST 1048576: true; the input reads as it did. -/
def defenceHonestUptoRow : OpenClaim := { program := "ytinefblphbicaaadoor", sum := "0aebfdc7dd6fb9f8d8e1691dad80bc6b3dca6e4db4099378a4eb4b705167b20b", func := "marches/marcheslaw38.DefenceHonest", spec := "defenceHonest", unfollowed := true, recurses := true, named := ["marches/defence.costs"], apart := false, laid := [("marches/defence.costs", laid_marches_defence_costs)], narrowed := true }
def DefenceHonestUptoSaid : Prop := defenceHonestUptoRow.holds Tryd.pinned (OpenSpec.upto defenceHonestSpec)

/-- 'marcheslaw38.DefenceDiffers', WHERE WHAT IT READS IS OF BULK AT MOST 1048576: true; the input reads as it did. -/
def defenceDiffersUptoRow : OpenClaim := { program := "ytinefblphbicaaadoor", sum := "0aebfdc7dd6fb9f8d8e1691dad80bc6b3dca6e4db4099378a4eb4b705167b20b", func := "marches/marcheslaw38.DefenceDiffers", spec := "defenceDiffers", unfollowed := true, recurses := true, named := ["marches/defence.costs"], apart := false, laid := [("marches/defence.costs", laid_marches_defence_costs)], narrowed := true }
def DefenceDiffersUptoSaid : Prop := defenceDiffersUptoRow.holds Tryd.pinned (OpenSpec.upto defenceDiffersSpec)

/-- 'marcheslaw38.DefenceCalms', WHERE WHAT IT READS IS OF BULK AT MOST 1048576: true; the input reads as it did. -/
def defenceCalmsUptoRow : OpenClaim := { program := "ytinefblphbicaaadoor", sum := "0aebfdc7dd6fb9f8d8e1691dad80bc6b3dca6e4db4099378a4eb4b705167b20b", func := "marches/marcheslaw38.DefenceCalms", spec := "defenceCalms", unfollowed := true, recurses := true, named := ["marches/defence.costs"], apart := false, laid := [("marches/defence.costs", laid_marches_defence_costs)], narrowed := true }
def DefenceCalmsUptoSaid : Prop := defenceCalmsUptoRow.holds Tryd.pinned (OpenSpec.upto defenceCalmsSpec)

/-- 'marcheslaw38.DefenceWrong', WHERE WHAT IT READS IS OF BULK AT MOST 1048576: true; the input reads as it did. -/
def defenceWrongUptoRow : OpenClaim := { program := "ytinefblphbicaaadoor", sum := "0aebfdc7dd6fb9f8d8e1691dad80bc6b3dca6e4db4099378a4eb4b705167b20b", func := "marches/marcheslaw38.DefenceWrong", spec := "defenceWrong", unfollowed := true, recurses := true, named := ["marches/defence.costs"], apart := false, laid := [("marches/defence.costs", laid_marches_defence_costs)], narrowed := true }
def DefenceWrongUptoSaid : Prop := defenceWrongUptoRow.holds Tryd.pinned (OpenSpec.upto defenceWrongSpec)

end Rows
end Go.Proofs.YtinefblphbicaaaDoor
