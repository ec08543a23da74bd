/-
  No cell of these rows narrows 'for every input' (looked for: loops, veiled, ifaces, maps, wideKeys, modest, calm, conditions, laid).
  DERIVED. THE GIVEN ROWS OF THIS SEAT. 7 by the template 'for every input the law returns true; each argument reads behind the call as it read before'; 0 by the template 'total and deterministic' (their statements: YtcbpajkgmpibgaaTotals.lean).
  GIVEN WITH THE SEED: the statements are not yours to turn. If you find one false, say at which input.
  Laid BY PROGRAM, IN A SANDBOX (cutbox-rows.mjs): the forced cells as the released guide's own fill.sh prints them over the translation 8065d86362b7c390… (all of the seat's roots in one cut). By AI agents, Wed Nov 11 2026. No macro, syntax, notation, axiom, sorry.
-/
import Derived.Test.YtcbpajkgmpibgaaChecked
import GoSem.Claim
import GoSem.ClaimJoined
import GoSem.ClaimMapViews
import Derived.JoinedTies
import Derived.KernelRfl
namespace Go.Proofs.Ytcbpajkgmpibgaa
/- THE CELL 'sum', in the pinned program and in every row, IS THE sha256 OF THE DUMP (.gsa) THAT YtcbpajkgmpibgaaProg.lean LOADS. Nothing in Lean hashes anything: it is a label: what it is worth is what the hold of that sum in a sandbox is worth. -/
noncomputable def Try.pinned : Pinned := { name := "ytcbpajkgmpibgaa", sum := "8065d86362b7c390ff47906019ce05cb85d58ddbe611ec612700efe029e1c8fe", checked := Try.checked }
namespace Rows
def none {H : Type} : Left H := { results := [], args := [] }

/-- 'marcheslaw10.CastOrder': WHATEVER THE INPUT: true; the input reads as it did. -/
def castOrderSpec : ChangeSpec := { name := "castOrder", fn := fun _ => fun
  | [d1, d2, d3, d4, d5] => { results := [.lit (.bool true)], args := [d1, d2, d3, d4, d5] }
  | _ => none }
def castOrderRow : OpenClaim := { program := "ytcbpajkgmpibgaa", sum := "8065d86362b7c390ff47906019ce05cb85d58ddbe611ec612700efe029e1c8fe", func := "marches/marcheslaw10.CastOrder", spec := "castOrder", unfollowed := true, recurses := true, apart := false }
def CastOrderSaid : Prop := castOrderRow.holds Try.pinned (OpenSpec.ofChange castOrderSpec)

/-- ITS FALSE NEIGHBOUR: 'it returns false'. Refute it at one input. -/
def castOrderWrong : ChangeSpec := { name := "castOrder", fn := fun _ => fun
  | [d1, d2, d3, d4, d5] => { results := [.lit (.bool false)], args := [d1, d2, d3, d4, d5] }
  | _ => none }
def CastOrderWrongFalsely : Prop := castOrderRow.holds Try.pinned (OpenSpec.ofChange castOrderWrong)

/-- 'marcheslaw10.CastBack': WHATEVER THE INPUT: true; the input reads as it did. -/
def castBackSpec : ChangeSpec := { name := "castBack", fn := fun _ => fun
  | [d1, d2, d3, d4, d5, d6, d7] => { results := [.lit (.bool true)], args := [d1, d2, d3, d4, d5, d6, d7] }
  | _ => none }
def castBackRow : OpenClaim := { program := "ytcbpajkgmpibgaa", sum := "8065d86362b7c390ff47906019ce05cb85d58ddbe611ec612700efe029e1c8fe", func := "marches/marcheslaw10.CastBack", spec := "castBack", unfollowed := true, recurses := true, apart := false }
def CastBackSaid : Prop := castBackRow.holds Try.pinned (OpenSpec.ofChange castBackSpec)

/-- ITS FALSE NEIGHBOUR: 'it returns false'. Refute it at one input. -/
def castBackWrong : ChangeSpec := { name := "castBack", fn := fun _ => fun
  | [d1, d2, d3, d4, d5, d6, d7] => { results := [.lit (.bool false)], args := [d1, d2, d3, d4, d5, d6, d7] }
  | _ => none }
def CastBackWrongFalsely : Prop := castBackRow.holds Try.pinned (OpenSpec.ofChange castBackWrong)

/-- 'marcheslaw10.CastCrossed': WHATEVER THE INPUT: true; the input reads as it did. -/
def castCrossedSpec : ChangeSpec := { name := "castCrossed", fn := fun _ => fun
  | [d1, d2, d3, d4, d5] => { results := [.lit (.bool true)], args := [d1, d2, d3, d4, d5] }
  | _ => none }
def castCrossedRow : OpenClaim := { program := "ytcbpajkgmpibgaa", sum := "8065d86362b7c390ff47906019ce05cb85d58ddbe611ec612700efe029e1c8fe", func := "marches/marcheslaw10.CastCrossed", spec := "castCrossed", unfollowed := true, recurses := true, apart := false }
def CastCrossedSaid : Prop := castCrossedRow.holds Try.pinned (OpenSpec.ofChange castCrossedSpec)

/-- ITS FALSE NEIGHBOUR: 'it returns false'. Refute it at one input. -/
def castCrossedWrong : ChangeSpec := { name := "castCrossed", fn := fun _ => fun
  | [d1, d2, d3, d4, d5] => { results := [.lit (.bool false)], args := [d1, d2, d3, d4, d5] }
  | _ => none }
def CastCrossedWrongFalsely : Prop := castCrossedRow.holds Try.pinned (OpenSpec.ofChange castCrossedWrong)

/-- 'marcheslaw10.CastParts': WHATEVER THE INPUT: true; the input reads as it did. -/
def castPartsSpec : ChangeSpec := { name := "castParts", fn := fun _ => fun
  | [d1, d2, d3, d4, d5] => { results := [.lit (.bool true)], args := [d1, d2, d3, d4, d5] }
  | _ => none }
def castPartsRow : OpenClaim := { program := "ytcbpajkgmpibgaa", sum := "8065d86362b7c390ff47906019ce05cb85d58ddbe611ec612700efe029e1c8fe", func := "marches/marcheslaw10.CastParts", spec := "castParts", unfollowed := true, recurses := true, apart := false }
def CastPartsSaid : Prop := castPartsRow.holds Try.pinned (OpenSpec.ofChange castPartsSpec)

/-- ITS FALSE NEIGHBOUR: 'it returns false'. Refute it at one input. -/
def castPartsWrong : ChangeSpec := { name := "castParts", fn := fun _ => fun
  | [d1, d2, d3, d4, d5] => { results := [.lit (.bool false)], args := [d1, d2, d3, d4, d5] }
  | _ => none }
def CastPartsWrongFalsely : Prop := castPartsRow.holds Try.pinned (OpenSpec.ofChange castPartsWrong)

/-- 'marcheslaw10.CastPoints': WHATEVER THE INPUT: true; the input reads as it did. -/
def castPointsSpec : ChangeSpec := { name := "castPoints", fn := fun _ => fun
  | [d1, d2, d3, d4, d5, d6] => { results := [.lit (.bool true)], args := [d1, d2, d3, d4, d5, d6] }
  | _ => none }
def castPointsRow : OpenClaim := { program := "ytcbpajkgmpibgaa", sum := "8065d86362b7c390ff47906019ce05cb85d58ddbe611ec612700efe029e1c8fe", func := "marches/marcheslaw10.CastPoints", spec := "castPoints", unfollowed := true, recurses := true, apart := false }
def CastPointsSaid : Prop := castPointsRow.holds Try.pinned (OpenSpec.ofChange castPointsSpec)

/-- ITS FALSE NEIGHBOUR: 'it returns false'. Refute it at one input. -/
def castPointsWrong : ChangeSpec := { name := "castPoints", fn := fun _ => fun
  | [d1, d2, d3, d4, d5, d6] => { results := [.lit (.bool false)], args := [d1, d2, d3, d4, d5, d6] }
  | _ => none }
def CastPointsWrongFalsely : Prop := castPointsRow.holds Try.pinned (OpenSpec.ofChange castPointsWrong)

/-- 'marcheslaw10.CastStraight': WHATEVER THE INPUT: true; the input reads as it did. -/
def castStraightSpec : ChangeSpec := { name := "castStraight", fn := fun _ => fun
  | [d1, d2, d3, d4] => { results := [.lit (.bool true)], args := [d1, d2, d3, d4] }
  | _ => none }
def castStraightRow : OpenClaim := { program := "ytcbpajkgmpibgaa", sum := "8065d86362b7c390ff47906019ce05cb85d58ddbe611ec612700efe029e1c8fe", func := "marches/marcheslaw10.CastStraight", spec := "castStraight", unfollowed := true, recurses := true, apart := false }
def CastStraightSaid : Prop := castStraightRow.holds Try.pinned (OpenSpec.ofChange castStraightSpec)

/-- ITS FALSE NEIGHBOUR: 'it returns false'. Refute it at one input. -/
def castStraightWrong : ChangeSpec := { name := "castStraight", fn := fun _ => fun
  | [d1, d2, d3, d4] => { results := [.lit (.bool false)], args := [d1, d2, d3, d4] }
  | _ => none }
def CastStraightWrongFalsely : Prop := castStraightRow.holds Try.pinned (OpenSpec.ofChange castStraightWrong)

/-- 'marcheslaw10.CastWrong': WHATEVER THE INPUT: true; the input reads as it did. -/
def castWrongSpec : ChangeSpec := { name := "castWrong", fn := fun _ => fun
  | [d1, d2, d3, d4] => { results := [.lit (.bool true)], args := [d1, d2, d3, d4] }
  | _ => none }
def castWrongRow : OpenClaim := { program := "ytcbpajkgmpibgaa", sum := "8065d86362b7c390ff47906019ce05cb85d58ddbe611ec612700efe029e1c8fe", func := "marches/marcheslaw10.CastWrong", spec := "castWrong", unfollowed := true, recurses := true, apart := false }
def CastWrongSaid : Prop := castWrongRow.holds Try.pinned (OpenSpec.ofChange castWrongSpec)

/-- ITS FALSE NEIGHBOUR: 'it returns false'. Refute it at one input. -/
def castWrongWrong : ChangeSpec := { name := "castWrong", fn := fun _ => fun
  | [d1, d2, d3, d4] => { results := [.lit (.bool false)], args := [d1, d2, d3, d4] }
  | _ => none }
def CastWrongWrongFalsely : Prop := castWrongRow.holds Try.pinned (OpenSpec.ofChange castWrongWrong)

/- THE SECOND FORM. 'bulk': how many values and letters a reading holds, each counted each time it is reached (what is shared counts as often as it is met; a slice's spare places count too). A statement '..UptoSaid' is the law's where the arguments, and the package variables that the reading takes, are together of bulk at most 1048576: NARROWER than '..Said'. Prove '..Said' where nothing that the law and all that it calls make is longer than what came in: it says more and counts as full. Else prove '..UptoSaid'. A law counts once. -/
mutual
def uptoBulk {H : Type} : DataW H → Nat
  | .lit (.string bytes) => bytes.length + 1
  | .lit _ => 1
  | .nil => 1
  | .ptr d => uptoBulk d + 1
  | .slice elems spare => uptoBulkAll elems + uptoBulkAll spare + 1
  | .agg parts => uptoBulkAll parts + 1
  | .iface _ d => uptoBulk d + 1
  | .map entries => uptoBulkEntries entries + 1
  | .held _ => 1
def uptoBulkAll {H : Type} : List (DataW H) → Nat
  | [] => 0
  | d :: r => uptoBulk d + uptoBulkAll r
def uptoBulkEntries {H : Type} : List (Lit × DataW H) → Nat
  | [] => 0
  | x :: r => uptoBulkEntry x + uptoBulkEntries r
def uptoBulkEntry {H : Type} : Lit × DataW H → Nat
  | (.string bytes, d) => bytes.length + uptoBulk d + 1
  | (_, d) => uptoBulk d + 1
 end
def uptoSmall : (H : Type) → List (DataW H) → Bool := fun _ ds => decide (uptoBulkAll ds ≤ 1048576)
def OpenSpec.upto (s : _root_.Go.ChangeSpec) : _root_.Go.OpenSpec := { _root_.Go.OpenSpec.ofChange s with cond := some uptoSmall }

/-- 'marcheslaw10.CastOrder', WHERE WHAT IT READS IS OF BULK AT MOST 1048576: true; the input reads as it did. -/
def castOrderUptoRow : OpenClaim := { program := "ytcbpajkgmpibgaa", sum := "8065d86362b7c390ff47906019ce05cb85d58ddbe611ec612700efe029e1c8fe", func := "marches/marcheslaw10.CastOrder", spec := "castOrder", unfollowed := true, recurses := true, apart := false, narrowed := true }
def CastOrderUptoSaid : Prop := castOrderUptoRow.holds Try.pinned (OpenSpec.upto castOrderSpec)

/-- 'marcheslaw10.CastBack', WHERE WHAT IT READS IS OF BULK AT MOST 1048576: true; the input reads as it did. -/
def castBackUptoRow : OpenClaim := { program := "ytcbpajkgmpibgaa", sum := "8065d86362b7c390ff47906019ce05cb85d58ddbe611ec612700efe029e1c8fe", func := "marches/marcheslaw10.CastBack", spec := "castBack", unfollowed := true, recurses := true, apart := false, narrowed := true }
def CastBackUptoSaid : Prop := castBackUptoRow.holds Try.pinned (OpenSpec.upto castBackSpec)

/-- 'marcheslaw10.CastCrossed', WHERE WHAT IT READS IS OF BULK AT MOST 1048576: true; the input reads as it did. -/
def castCrossedUptoRow : OpenClaim := { program := "ytcbpajkgmpibgaa", sum := "8065d86362b7c390ff47906019ce05cb85d58ddbe611ec612700efe029e1c8fe", func := "marches/marcheslaw10.CastCrossed", spec := "castCrossed", unfollowed := true, recurses := true, apart := false, narrowed := true }
def CastCrossedUptoSaid : Prop := castCrossedUptoRow.holds Try.pinned (OpenSpec.upto castCrossedSpec)

/-- 'marcheslaw10.CastParts', WHERE WHAT IT READS IS OF BULK AT MOST 1048576: true; the input reads as it did. -/
def castPartsUptoRow : OpenClaim := { program := "ytcbpajkgmpibgaa", sum := "8065d86362b7c390ff47906019ce05cb85d58ddbe611ec612700efe029e1c8fe", func := "marches/marcheslaw10.CastParts", spec := "castParts", unfollowed := true, recurses := true, apart := false, narrowed := true }
def CastPartsUptoSaid : Prop := castPartsUptoRow.holds Try.pinned (OpenSpec.upto castPartsSpec)

/-- 'marcheslaw10.CastPoints', WHERE WHAT IT READS IS OF BULK AT MOST 1048576: true; the input reads as it did. -/
def castPointsUptoRow : OpenClaim := { program := "ytcbpajkgmpibgaa", sum := "8065d86362b7c390ff47906019ce05cb85d58ddbe611ec612700efe029e1c8fe", func := "marches/marcheslaw10.CastPoints", spec := "castPoints", unfollowed := true, recurses := true, apart := false, narrowed := true }
def CastPointsUptoSaid : Prop := castPointsUptoRow.holds Try.pinned (OpenSpec.upto castPointsSpec)

/-- 'marcheslaw10.CastStraight', WHERE WHAT IT READS IS OF BULK AT MOST 1048576: true; the input reads as it did. -/
def castStraightUptoRow : OpenClaim := { program := "ytcbpajkgmpibgaa", sum := "8065d86362b7c390ff47906019ce05cb85d58ddbe611ec612700efe029e1c8fe", func := "marches/marcheslaw10.CastStraight", spec := "castStraight", unfollowed := true, recurses := true, apart := false, narrowed := true }
def CastStraightUptoSaid : Prop := castStraightUptoRow.holds Try.pinned (OpenSpec.upto castStraightSpec)

/-- 'marcheslaw10.CastWrong', WHERE WHAT IT READS IS OF BULK AT MOST 1048576: true; the input reads as it did. -/
def castWrongUptoRow : OpenClaim := { program := "ytcbpajkgmpibgaa", sum := "8065d86362b7c390ff47906019ce05cb85d58ddbe611ec612700efe029e1c8fe", func := "marches/marcheslaw10.CastWrong", spec := "castWrong", unfollowed := true, recurses := true, apart := false, narrowed := true }
def CastWrongUptoSaid : Prop := castWrongUptoRow.holds Try.pinned (OpenSpec.upto castWrongSpec)

end Rows
end Go.Proofs.Ytcbpajkgmpibgaa
