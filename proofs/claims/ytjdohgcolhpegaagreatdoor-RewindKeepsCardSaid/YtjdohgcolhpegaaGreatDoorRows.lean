/-
  NARROWER THAN 'FOR EVERY INPUT', by the rows' own cells (each row's printed sentence says how): RewindShown: laid · RewindHurts: laid · RewindFirst: laid · RewindKeeps: laid · RewindWrong: laid · RewindIgnores: laid.
  DERIVED. THE GIVEN ROWS OF THIS SEAT. 6 by the template 'for every input the law returns true; each argument reads behind the call as it read before'; 0 by the template 'total and deterministic' (their statements: YtjdohgcolhpegaaGreatDoorTotals.lean).
  GIVEN WITH THE SEED: the statements are not yours to turn. If you find one false, say at which input.
  Laid BY PROGRAM, IN A SANDBOX (cutbox-rows.mjs): the forced cells as the released guide's own fill.sh prints them over the translation 458cc9ee95226ae8… (all of the seat's roots in one cut). By AI agents, Wed Nov 11 2026. No macro, syntax, notation, axiom, sorry.
-/
import Derived.Test.YtjdohgcolhpegaaGreatDoorChecked
import GoSem.Claim
import GoSem.ClaimJoined
import GoSem.ClaimMapViews
import Derived.JoinedTies
import Derived.KernelRfl
namespace Go.Proofs.YtjdohgcolhpegaaGreatDoor
/- THE CELL 'sum', in the pinned program and in every row, IS THE sha256 OF THE DUMP (.gsa) THAT YtjdohgcolhpegaaGreatDoorProg.lean LOADS. Nothing in Lean hashes anything: it is a label: what it is worth is what the hold of that sum in a sandbox is worth. -/
noncomputable def Tryz.pinned : Pinned := { name := "ytjdohgcolhpegaagreatdoor", sum := "458cc9ee95226ae8540107464a230272e7f604650b58af0c6353e8c877c5b253", checked := Tryz.checked }
namespace Rows
def none {H : Type} : Left H := { results := [], args := [] }

/- WHAT THE LISTED PACKAGE-LEVEL VARIABLES READ AS WHEN THE CALL BEGINS. Each datum BY PROGRAM (the guide's laid-datum.mjs) off the statement by which the dump's own 'gosem.cut.vars' lays the variable. In a bare row this is a premise. The card (YtjdohgcolhpegaaGreatDoorCards.lean) ties it to the program's text. -/
def laid_marches_store_ranges {H : Type} : DataW H := .agg [.agg [.agg [.lit (.int .i64 0), .lit (.int .i64 0)], .agg [.lit (.int .i64 0), .lit (.int .i64 0)], .agg [.lit (.int .i64 0), .lit (.int .i64 0)], .agg [.lit (.int .i64 0), .lit (.int .i64 0)]], .agg [.agg [.lit (.int .i64 (-1048576)), .lit (.int .i64 1048576)], .agg [.lit (.int .i64 (-1048576)), .lit (.int .i64 1048576)], .agg [.lit (.int .i64 0), .lit (.int .i64 0)], .agg [.lit (.int .i64 0), .lit (.int .i64 0)]], .agg [.agg [.lit (.int .i64 (-4096)), .lit (.int .i64 4096)], .agg [.lit (.int .i64 (-4096)), .lit (.int .i64 4096)], .agg [.lit (.int .i64 0), .lit (.int .i64 0)], .agg [.lit (.int .i64 0), .lit (.int .i64 0)]], .agg [.agg [.lit (.int .i64 1), .lit (.int .i64 16384)], .agg [.lit (.int .i64 1), .lit (.int .i64 16384)], .agg [.lit (.int .i64 0), .lit (.int .i64 1)], .agg [.lit (.int .i64 0), .lit (.int .i64 1)]], .agg [.agg [.lit (.int .i64 1), .lit (.int .i64 8)], .agg [.lit (.int .i64 0), .lit (.int .i64 0)], .agg [.lit (.int .i64 0), .lit (.int .i64 0)], .agg [.lit (.int .i64 0), .lit (.int .i64 0)]], .agg [.agg [.lit (.int .i64 0), .lit (.int .i64 510)], .agg [.lit (.int .i64 0), .lit (.int .i64 0)], .agg [.lit (.int .i64 0), .lit (.int .i64 0)], .agg [.lit (.int .i64 0), .lit (.int .i64 0)]], .agg [.agg [.lit (.int .i64 0), .lit (.int .i64 15)], .agg [.lit (.int .i64 0), .lit (.int .i64 0)], .agg [.lit (.int .i64 0), .lit (.int .i64 0)], .agg [.lit (.int .i64 0), .lit (.int .i64 0)]], .agg [.agg [.lit (.int .i64 (-2147483648)), .lit (.int .i64 2147483647)], .agg [.lit (.int .i64 (-2147483648)), .lit (.int .i64 2147483647)], .agg [.lit (.int .i64 (-2147483648)), .lit (.int .i64 2147483647)], .agg [.lit (.int .i64 (-2147483648)), .lit (.int .i64 2147483647)]], .agg [.agg [.lit (.int .i64 0), .lit (.int .i64 1048576)], .agg [.lit (.int .i64 0), .lit (.int .i64 1048576)], .agg [.lit (.int .i64 0), .lit (.int .i64 0)], .agg [.lit (.int .i64 0), .lit (.int .i64 0)]], .agg [.agg [.lit (.int .i64 0), .lit (.int .i64 2147483647)], .agg [.lit (.int .i64 0), .lit (.int .i64 2147483647)], .agg [.lit (.int .i64 0), .lit (.int .i64 2147483647)], .agg [.lit (.int .i64 0), .lit (.int .i64 2147483647)]], .agg [.agg [.lit (.int .i64 (-2147483648)), .lit (.int .i64 2147483647)], .agg [.lit (.int .i64 (-2147483648)), .lit (.int .i64 2147483647)], .agg [.lit (.int .i64 (-2147483648)), .lit (.int .i64 2147483647)], .agg [.lit (.int .i64 (-2147483648)), .lit (.int .i64 2147483647)]]]

/-- 'marcheslaw29.RewindShown': WHATEVER THE INPUT: true; the input reads as it did. -/
def rewindShownSpec : ChangeSpec := { name := "rewindShown", fn := fun _ => fun
  | [d1, d2, d3, d4, d5] => { results := [.lit (.bool true)], args := [d1, d2, d3, d4, d5] }
  | _ => none }
def rewindShownRow : OpenClaim := { program := "ytjdohgcolhpegaagreatdoor", sum := "458cc9ee95226ae8540107464a230272e7f604650b58af0c6353e8c877c5b253", func := "marches/marcheslaw29.RewindShown", spec := "rewindShown", inPlace := ["slices.overlaps[marches/api.Comp]"], unfollowed := true, recurses := true, named := ["marches/store.ranges"], apart := false, laid := [("marches/store.ranges", laid_marches_store_ranges)] }
def RewindShownSaid : Prop := rewindShownRow.holds Tryz.pinned (OpenSpec.ofChange rewindShownSpec)

/-- ITS FALSE NEIGHBOUR: 'it returns false'. Refute it at one input. -/
def rewindShownWrong : ChangeSpec := { name := "rewindShown", fn := fun _ => fun
  | [d1, d2, d3, d4, d5] => { results := [.lit (.bool false)], args := [d1, d2, d3, d4, d5] }
  | _ => none }
def RewindShownWrongFalsely : Prop := rewindShownRow.holds Tryz.pinned (OpenSpec.ofChange rewindShownWrong)

/-- 'marcheslaw29.RewindHurts': WHATEVER THE INPUT: true; the input reads as it did. -/
def rewindHurtsSpec : ChangeSpec := { name := "rewindHurts", fn := fun _ => fun
  | [d1, d2, d3, d4] => { results := [.lit (.bool true)], args := [d1, d2, d3, d4] }
  | _ => none }
def rewindHurtsRow : OpenClaim := { program := "ytjdohgcolhpegaagreatdoor", sum := "458cc9ee95226ae8540107464a230272e7f604650b58af0c6353e8c877c5b253", func := "marches/marcheslaw29.RewindHurts", spec := "rewindHurts", inPlace := ["slices.overlaps[marches/api.Comp]"], unfollowed := true, recurses := true, named := ["marches/store.ranges"], apart := false, laid := [("marches/store.ranges", laid_marches_store_ranges)] }
def RewindHurtsSaid : Prop := rewindHurtsRow.holds Tryz.pinned (OpenSpec.ofChange rewindHurtsSpec)

/-- ITS FALSE NEIGHBOUR: 'it returns false'. Refute it at one input. -/
def rewindHurtsWrong : ChangeSpec := { name := "rewindHurts", fn := fun _ => fun
  | [d1, d2, d3, d4] => { results := [.lit (.bool false)], args := [d1, d2, d3, d4] }
  | _ => none }
def RewindHurtsWrongFalsely : Prop := rewindHurtsRow.holds Tryz.pinned (OpenSpec.ofChange rewindHurtsWrong)

/-- 'marcheslaw29.RewindFirst': WHATEVER THE INPUT: true; the input reads as it did. -/
def rewindFirstSpec : ChangeSpec := { name := "rewindFirst", fn := fun _ => fun
  | [d1, d2, d3] => { results := [.lit (.bool true)], args := [d1, d2, d3] }
  | _ => none }
def rewindFirstRow : OpenClaim := { program := "ytjdohgcolhpegaagreatdoor", sum := "458cc9ee95226ae8540107464a230272e7f604650b58af0c6353e8c877c5b253", func := "marches/marcheslaw29.RewindFirst", spec := "rewindFirst", inPlace := ["slices.overlaps[marches/api.Comp]"], unfollowed := true, recurses := true, named := ["marches/store.ranges"], apart := false, laid := [("marches/store.ranges", laid_marches_store_ranges)] }
def RewindFirstSaid : Prop := rewindFirstRow.holds Tryz.pinned (OpenSpec.ofChange rewindFirstSpec)

/-- ITS FALSE NEIGHBOUR: 'it returns false'. Refute it at one input. -/
def rewindFirstWrong : ChangeSpec := { name := "rewindFirst", fn := fun _ => fun
  | [d1, d2, d3] => { results := [.lit (.bool false)], args := [d1, d2, d3] }
  | _ => none }
def RewindFirstWrongFalsely : Prop := rewindFirstRow.holds Tryz.pinned (OpenSpec.ofChange rewindFirstWrong)

/-- 'marcheslaw29.RewindKeeps': WHATEVER THE INPUT: true; the input reads as it did. -/
def rewindKeepsSpec : ChangeSpec := { name := "rewindKeeps", fn := fun _ => fun
  | [d1, d2, d3, d4] => { results := [.lit (.bool true)], args := [d1, d2, d3, d4] }
  | _ => none }
def rewindKeepsRow : OpenClaim := { program := "ytjdohgcolhpegaagreatdoor", sum := "458cc9ee95226ae8540107464a230272e7f604650b58af0c6353e8c877c5b253", func := "marches/marcheslaw29.RewindKeeps", spec := "rewindKeeps", inPlace := ["slices.overlaps[marches/api.Comp]"], unfollowed := true, recurses := true, named := ["marches/store.ranges"], apart := false, laid := [("marches/store.ranges", laid_marches_store_ranges)] }
def RewindKeepsSaid : Prop := rewindKeepsRow.holds Tryz.pinned (OpenSpec.ofChange rewindKeepsSpec)

/-- ITS FALSE NEIGHBOUR: 'it returns false'. Refute it at one input. -/
def rewindKeepsWrong : ChangeSpec := { name := "rewindKeeps", fn := fun _ => fun
  | [d1, d2, d3, d4] => { results := [.lit (.bool false)], args := [d1, d2, d3, d4] }
  | _ => none }
def RewindKeepsWrongFalsely : Prop := rewindKeepsRow.holds Tryz.pinned (OpenSpec.ofChange rewindKeepsWrong)

/-- 'marcheslaw29.RewindWrong': WHATEVER THE INPUT: true; the input reads as it did. -/
def rewindWrongSpec : ChangeSpec := { name := "rewindWrong", fn := fun _ => fun
  | [d1, d2] => { results := [.lit (.bool true)], args := [d1, d2] }
  | _ => none }
def rewindWrongRow : OpenClaim := { program := "ytjdohgcolhpegaagreatdoor", sum := "458cc9ee95226ae8540107464a230272e7f604650b58af0c6353e8c877c5b253", func := "marches/marcheslaw29.RewindWrong", spec := "rewindWrong", inPlace := ["slices.overlaps[marches/api.Comp]"], unfollowed := true, recurses := true, named := ["marches/store.ranges"], apart := false, laid := [("marches/store.ranges", laid_marches_store_ranges)] }
def RewindWrongSaid : Prop := rewindWrongRow.holds Tryz.pinned (OpenSpec.ofChange rewindWrongSpec)

/-- ITS FALSE NEIGHBOUR: 'it returns false'. Refute it at one input. -/
def rewindWrongWrong : ChangeSpec := { name := "rewindWrong", fn := fun _ => fun
  | [d1, d2] => { results := [.lit (.bool false)], args := [d1, d2] }
  | _ => none }
def RewindWrongWrongFalsely : Prop := rewindWrongRow.holds Tryz.pinned (OpenSpec.ofChange rewindWrongWrong)

/-- 'marcheslaw29.RewindIgnores': WHATEVER THE INPUT: true; the input reads as it did. -/
def rewindIgnoresSpec : ChangeSpec := { name := "rewindIgnores", fn := fun _ => fun
  | [d1, d2, d3, d4, d5] => { results := [.lit (.bool true)], args := [d1, d2, d3, d4, d5] }
  | _ => none }
def rewindIgnoresRow : OpenClaim := { program := "ytjdohgcolhpegaagreatdoor", sum := "458cc9ee95226ae8540107464a230272e7f604650b58af0c6353e8c877c5b253", func := "marches/marcheslaw29.RewindIgnores", spec := "rewindIgnores", inPlace := ["slices.overlaps[marches/api.Comp]", "slices.overlaps[marches/api.Entity]"], unfollowed := true, recurses := true, named := ["marches/store.ranges"], apart := false, laid := [("marches/store.ranges", laid_marches_store_ranges)] }
def RewindIgnoresSaid : Prop := rewindIgnoresRow.holds Tryz.pinned (OpenSpec.ofChange rewindIgnoresSpec)

/-- ITS FALSE NEIGHBOUR: 'it returns false'. Refute it at one input. -/
def rewindIgnoresWrong : ChangeSpec := { name := "rewindIgnores", fn := fun _ => fun
  | [d1, d2, d3, d4, d5] => { results := [.lit (.bool false)], args := [d1, d2, d3, d4, d5] }
  | _ => none }
def RewindIgnoresWrongFalsely : Prop := rewindIgnoresRow.holds Tryz.pinned (OpenSpec.ofChange rewindIgnoresWrong)

/- THE SECOND FORM. 'bulk': how many values and letters a reading holds, each counted each time it is reached (what is shared counts as often as it is met; a slice's spare places count too). A statement '..UptoSaid' is the law's where the arguments, and the package variables that the reading takes, are together of bulk at most 1048576: NARROWER than '..Said'. Prove '..Said' where nothing that the law and all that it calls make is longer than what came in: it says more and counts as full. Else prove '..UptoSaid'. A law counts once. -/
mutual
def uptoBulk {H : Type} : DataW H → Nat
  | .lit (.string bytes) => bytes.length + 1
  | .lit _ => 1
  | .nil => 1
  | .ptr d => uptoBulk d + 1
  | .slice elems spare => uptoBulkAll elems + uptoBulkAll spare + 1
  | .agg parts => uptoBulkAll parts + 1
  | .iface _ d => uptoBulk d + 1
  | .map entries => uptoBulkEntries entries + 1
  | .held _ => 1
def uptoBulkAll {H : Type} : List (DataW H) → Nat
  | [] => 0
  | d :: r => uptoBulk d + uptoBulkAll r
def uptoBulkEntries {H : Type} : List (Lit × DataW H) → Nat
  | [] => 0
  | x :: r => uptoBulkEntry x + uptoBulkEntries r
def uptoBulkEntry {H : Type} : Lit × DataW H → Nat
  | (.string bytes, d) => bytes.length + uptoBulk d + 1
  | (_, d) => uptoBulk d + 1
 end
def uptoSmall : (H : Type) → List (DataW H) → Bool := fun _ ds => decide (uptoBulkAll ds ≤ 1048576)
def OpenSpec.upto (s : _root_.Go.ChangeSpec) : _root_.Go.OpenSpec := { _root_.Go.OpenSpec.ofChange s with cond := some uptoSmall }

/-- 'marcheslaw29.RewindShown', WHERE WHAT IT READS IS OF BULK AT MOST 1048576: true; the input reads as it did. -/
def rewindShownUptoRow : OpenClaim := { program := "ytjdohgcolhpegaagreatdoor", sum := "458cc9ee95226ae8540107464a230272e7f604650b58af0c6353e8c877c5b253", func := "marches/marcheslaw29.RewindShown", spec := "rewindShown", inPlace := ["slices.overlaps[marches/api.Comp]"], unfollowed := true, recurses := true, named := ["marches/store.ranges"], apart := false, laid := [("marches/store.ranges", laid_marches_store_ranges)], narrowed := true }
def RewindShownUptoSaid : Prop := rewindShownUptoRow.holds Tryz.pinned (OpenSpec.upto rewindShownSpec)

/-- 'marcheslaw29.RewindHurts', WHERE WHAT IT READS IS OF BULK AT MOST 1048576: true; the input reads as it did. -/
def rewindHurtsUptoRow : OpenClaim := { program := "ytjdohgcolhpegaagreatdoor", sum := "458cc9ee95226ae8540107464a230272e7f604650b58af0c6353e8c877c5b253", func := "marches/marcheslaw29.RewindHurts", spec := "rewindHurts", inPlace := ["slices.overlaps[marches/api.Comp]"], unfollowed := true, recurses := true, named := ["marches/store.ranges"], apart := false, laid := [("marches/store.ranges", laid_marches_store_ranges)], narrowed := true }
def RewindHurtsUptoSaid : Prop := rewindHurtsUptoRow.holds Tryz.pinned (OpenSpec.upto rewindHurtsSpec)

/-- 'marcheslaw29.RewindFirst', WHERE WHAT IT READS IS OF BULK AT MOST 1048576: true; the input reads as it did. -/
def rewindFirstUptoRow : OpenClaim := { program := "ytjdohgcolhpegaagreatdoor", sum := "458cc9ee95226ae8540107464a230272e7f604650b58af0c6353e8c877c5b253", func := "marches/marcheslaw29.RewindFirst", spec := "rewindFirst", inPlace := ["slices.overlaps[marches/api.Comp]"], unfollowed := true, recurses := true, named := ["marches/store.ranges"], apart := false, laid := [("marches/store.ranges", laid_marches_store_ranges)], narrowed := true }
def RewindFirstUptoSaid : Prop := rewindFirstUptoRow.holds Tryz.pinned (OpenSpec.upto rewindFirstSpec)

/-- 'marcheslaw29.RewindKeeps', WHERE WHAT IT READS IS OF BULK AT MOST 1048576: true; the input reads as it did. -/
def rewindKeepsUptoRow : OpenClaim := { program := "ytjdohgcolhpegaagreatdoor", sum := "458cc9ee95226ae8540107464a230272e7f604650b58af0c6353e8c877c5b253", func := "marches/marcheslaw29.RewindKeeps", spec := "rewindKeeps", inPlace := ["slices.overlaps[marches/api.Comp]"], unfollowed := true, recurses := true, named := ["marches/store.ranges"], apart := false, laid := [("marches/store.ranges", laid_marches_store_ranges)], narrowed := true }
def RewindKeepsUptoSaid : Prop := rewindKeepsUptoRow.holds Tryz.pinned (OpenSpec.upto rewindKeepsSpec)

/-- 'marcheslaw29.RewindWrong', WHERE WHAT IT READS IS OF BULK AT MOST 1048576: true; the input reads as it did. -/
def rewindWrongUptoRow : OpenClaim := { program := "ytjdohgcolhpegaagreatdoor", sum := "458cc9ee95226ae8540107464a230272e7f604650b58af0c6353e8c877c5b253", func := "marches/marcheslaw29.RewindWrong", spec := "rewindWrong", inPlace := ["slices.overlaps[marches/api.Comp]"], unfollowed := true, recurses := true, named := ["marches/store.ranges"], apart := false, laid := [("marches/store.ranges", laid_marches_store_ranges)], narrowed := true }
def RewindWrongUptoSaid : Prop := rewindWrongUptoRow.holds Tryz.pinned (OpenSpec.upto rewindWrongSpec)

/-- 'marcheslaw29.RewindIgnores', WHERE WHAT IT READS IS OF BULK AT MOST 1048576: true; the input reads as it did. -/
def rewindIgnoresUptoRow : OpenClaim := { program := "ytjdohgcolhpegaagreatdoor", sum := "458cc9ee95226ae8540107464a230272e7f604650b58af0c6353e8c877c5b253", func := "marches/marcheslaw29.RewindIgnores", spec := "rewindIgnores", inPlace := ["slices.overlaps[marches/api.Comp]", "slices.overlaps[marches/api.Entity]"], unfollowed := true, recurses := true, named := ["marches/store.ranges"], apart := false, laid := [("marches/store.ranges", laid_marches_store_ranges)], narrowed := true }
def RewindIgnoresUptoSaid : Prop := rewindIgnoresUptoRow.holds Tryz.pinned (OpenSpec.upto rewindIgnoresSpec)

end Rows
end Go.Proofs.YtjdohgcolhpegaaGreatDoor
