/-
  NARROWER THAN 'FOR EVERY INPUT', by the rows' own cells (each row's printed sentence says how): ZoneGives: laid.
  DERIVED. THE GIVEN ROWS OF THIS SEAT. 1 by the template 'for every input the law returns true; each argument reads behind the call as it read before'; 0 by the template 'total and deterministic' (their statements: YtmdpdknpapjchaaGreatDoorTotals.lean).
  GIVEN WITH THE SEED: the statements are not yours to turn. If you find one false, say at which input.
  Laid BY PROGRAM, IN A SANDBOX (cutbox-rows.mjs): the forced cells as the released guide's own fill.sh prints them over the translation 6602afd13625ae3d… (all of the seat's roots in one cut). By AI agents, Wed Nov 11 2026. No macro, syntax, notation, axiom, sorry.
-/
import Derived.Test.YtmdpdknpapjchaaGreatDoorChecked
import GoSem.Claim
import GoSem.ClaimJoined
import GoSem.ClaimMapViews
import Derived.JoinedTies
import Derived.KernelRfl
namespace Go.Proofs.YtmdpdknpapjchaaGreatDoor
/- THE CELL 'sum', in the pinned program and in every row, IS THE sha256 OF THE DUMP (.gsa) THAT YtmdpdknpapjchaaGreatDoorProg.lean LOADS. Nothing in Lean hashes anything: it is a label: what it is worth is what the hold of that sum in a sandbox is worth. -/
noncomputable def Tryz.pinned : Pinned := { name := "ytmdpdknpapjchaagreatdoor", sum := "6602afd13625ae3dbe473327d08d8d73b1a76e7c5ad3404436703e2c5248b075", checked := Tryz.checked }
namespace Rows
def none {H : Type} : Left H := { results := [], args := [] }

/- WHAT THE LISTED PACKAGE-LEVEL VARIABLES READ AS WHEN THE CALL BEGINS. Each datum BY PROGRAM (the guide's laid-datum.mjs) off the statement by which the dump's own 'gosem.cut.vars' lays the variable. In a bare row this is a premise. The card (YtmdpdknpapjchaaGreatDoorCards.lean) ties it to the program's text. -/
def laid_marches_shape_rooms {H : Type} : DataW H := .iface "func table" (.agg [.agg [.iface "func" (.lit (.string [109, 97, 114, 99, 104, 101, 115, 47, 115, 104, 97, 112, 101, 46, 98, 111, 120, 101, 115])), .iface "func" (.lit (.string [109, 97, 114, 99, 104, 101, 115, 47, 115, 104, 97, 112, 101, 46, 98, 111, 120, 67, 105, 114, 99, 108, 101]))], .agg [.iface "func" (.lit (.string [109, 97, 114, 99, 104, 101, 115, 47, 115, 104, 97, 112, 101, 46, 99, 105, 114, 99, 108, 101, 66, 111, 120])), .iface "func" (.lit (.string [109, 97, 114, 99, 104, 101, 115, 47, 115, 104, 97, 112, 101, 46, 99, 105, 114, 99, 108, 101, 115]))]])
def laid_marches_store_ranges {H : Type} : DataW H := .agg [.agg [.agg [.lit (.int .i64 0), .lit (.int .i64 0)], .agg [.lit (.int .i64 0), .lit (.int .i64 0)], .agg [.lit (.int .i64 0), .lit (.int .i64 0)], .agg [.lit (.int .i64 0), .lit (.int .i64 0)]], .agg [.agg [.lit (.int .i64 (-1048576)), .lit (.int .i64 1048576)], .agg [.lit (.int .i64 (-1048576)), .lit (.int .i64 1048576)], .agg [.lit (.int .i64 0), .lit (.int .i64 0)], .agg [.lit (.int .i64 0), .lit (.int .i64 0)]], .agg [.agg [.lit (.int .i64 (-4096)), .lit (.int .i64 4096)], .agg [.lit (.int .i64 (-4096)), .lit (.int .i64 4096)], .agg [.lit (.int .i64 0), .lit (.int .i64 0)], .agg [.lit (.int .i64 0), .lit (.int .i64 0)]], .agg [.agg [.lit (.int .i64 1), .lit (.int .i64 16384)], .agg [.lit (.int .i64 1), .lit (.int .i64 16384)], .agg [.lit (.int .i64 0), .lit (.int .i64 1)], .agg [.lit (.int .i64 0), .lit (.int .i64 1)]], .agg [.agg [.lit (.int .i64 1), .lit (.int .i64 8)], .agg [.lit (.int .i64 0), .lit (.int .i64 0)], .agg [.lit (.int .i64 0), .lit (.int .i64 0)], .agg [.lit (.int .i64 0), .lit (.int .i64 0)]], .agg [.agg [.lit (.int .i64 0), .lit (.int .i64 510)], .agg [.lit (.int .i64 0), .lit (.int .i64 0)], .agg [.lit (.int .i64 0), .lit (.int .i64 0)], .agg [.lit (.int .i64 0), .lit (.int .i64 0)]], .agg [.agg [.lit (.int .i64 0), .lit (.int .i64 15)], .agg [.lit (.int .i64 0), .lit (.int .i64 0)], .agg [.lit (.int .i64 0), .lit (.int .i64 0)], .agg [.lit (.int .i64 0), .lit (.int .i64 0)]], .agg [.agg [.lit (.int .i64 (-2147483648)), .lit (.int .i64 2147483647)], .agg [.lit (.int .i64 (-2147483648)), .lit (.int .i64 2147483647)], .agg [.lit (.int .i64 (-2147483648)), .lit (.int .i64 2147483647)], .agg [.lit (.int .i64 (-2147483648)), .lit (.int .i64 2147483647)]], .agg [.agg [.lit (.int .i64 0), .lit (.int .i64 1048576)], .agg [.lit (.int .i64 0), .lit (.int .i64 1048576)], .agg [.lit (.int .i64 0), .lit (.int .i64 0)], .agg [.lit (.int .i64 0), .lit (.int .i64 0)]], .agg [.agg [.lit (.int .i64 0), .lit (.int .i64 2147483647)], .agg [.lit (.int .i64 0), .lit (.int .i64 2147483647)], .agg [.lit (.int .i64 0), .lit (.int .i64 2147483647)], .agg [.lit (.int .i64 0), .lit (.int .i64 2147483647)]], .agg [.agg [.lit (.int .i64 (-2147483648)), .lit (.int .i64 2147483647)], .agg [.lit (.int .i64 (-2147483648)), .lit (.int .i64 2147483647)], .agg [.lit (.int .i64 (-2147483648)), .lit (.int .i64 2147483647)], .agg [.lit (.int .i64 (-2147483648)), .lit (.int .i64 2147483647)]]]

/-- 'marcheslaw30.ZoneGives': WHATEVER THE INPUT: true; the input reads as it did. -/
def zoneGivesSpec : ChangeSpec := { name := "zoneGives", fn := fun _ => fun
  | [d1, d2, d3] => { results := [.lit (.bool true)], args := [d1, d2, d3] }
  | _ => none }
def zoneGivesRow : OpenClaim := { program := "ytmdpdknpapjchaagreatdoor", sum := "6602afd13625ae3dbe473327d08d8d73b1a76e7c5ad3404436703e2c5248b075", func := "marches/marcheslaw30.ZoneGives", spec := "zoneGives", inPlace := ["(*sync.WaitGroup).Add", "internal/race.ReleaseMerge", "internal/race.Disable", "internal/race.Enable", "internal/synctest.IsInBubble", "internal/synctest.Associate[sync.WaitGroup]", "sync.fatal", "sync/atomic.OrUint64", "sync/atomic.AddUint64", "internal/race.Read", "sync/atomic.LoadUint64", "sync/atomic.StoreUint64", "internal/synctest.Disassociate[sync.WaitGroup]", "sync.runtime_Semrelease", "(*sync.WaitGroup).Done", "(*sync.WaitGroup).Wait", "internal/race.Acquire", "internal/synctest.IsAssociated[sync.WaitGroup]", "sync/atomic.CompareAndSwapUint64", "internal/race.Write", "sync.runtime_SemacquireWaitGroup", "slices.overlaps[marches/api.Entity]"], unfollowed := true, recurses := true, named := ["marches/store.ranges", "marches/shape.rooms"], leaving := true, apart := false, laid := [("marches/shape.rooms", laid_marches_shape_rooms), ("marches/store.ranges", laid_marches_store_ranges)] }
def ZoneGivesSaid : Prop := zoneGivesRow.holds Tryz.pinned (OpenSpec.ofChange zoneGivesSpec)

/-- ITS FALSE NEIGHBOUR: 'it returns false'. Refute it at one input. -/
def zoneGivesWrong : ChangeSpec := { name := "zoneGives", fn := fun _ => fun
  | [d1, d2, d3] => { results := [.lit (.bool false)], args := [d1, d2, d3] }
  | _ => none }
def ZoneGivesWrongFalsely : Prop := zoneGivesRow.holds Tryz.pinned (OpenSpec.ofChange zoneGivesWrong)

/- THE SECOND FORM. 'bulk': how many values and letters a reading holds, each counted each time it is reached (what is shared counts as often as it is met; a slice's spare places count too). A statement '..UptoSaid' is the law's where the arguments, and the package variables that the reading takes, are together of bulk at most 1048576: NARROWER than '..Said'. Prove '..Said' where nothing that the law and all that it calls make is longer than what came in: it says more and counts as full. Else prove '..UptoSaid'. A law counts once. -/
mutual
def uptoBulk {H : Type} : DataW H → Nat
  | .lit (.string bytes) => bytes.length + 1
  | .lit _ => 1
  | .nil => 1
  | .ptr d => uptoBulk d + 1
  | .slice elems spare => uptoBulkAll elems + uptoBulkAll spare + 1
  | .agg parts => uptoBulkAll parts + 1
  | .iface _ d => uptoBulk d + 1
  | .map entries => uptoBulkEntries entries + 1
  | .held _ => 1
def uptoBulkAll {H : Type} : List (DataW H) → Nat
  | [] => 0
  | d :: r => uptoBulk d + uptoBulkAll r
def uptoBulkEntries {H : Type} : List (Lit × DataW H) → Nat
  | [] => 0
  | x :: r => uptoBulkEntry x + uptoBulkEntries r
def uptoBulkEntry {H : Type} : Lit × DataW H → Nat
  | (.string bytes, d) => bytes.length + uptoBulk d + 1
  | (_, d) => uptoBulk d + 1
 end
def uptoSmall : (H : Type) → List (DataW H) → Bool := fun _ ds => decide (uptoBulkAll ds ≤ 1048576)
def OpenSpec.upto (s : _root_.Go.ChangeSpec) : _root_.Go.OpenSpec := { _root_.Go.OpenSpec.ofChange s with cond := some uptoSmall }

/-- 'marcheslaw30.ZoneGives', WHERE WHAT IT READS IS OF BULK AT MOST 1048576: true; the input reads as it did. -/
def zoneGivesUptoRow : OpenClaim := { program := "ytmdpdknpapjchaagreatdoor", sum := "6602afd13625ae3dbe473327d08d8d73b1a76e7c5ad3404436703e2c5248b075", func := "marches/marcheslaw30.ZoneGives", spec := "zoneGives", inPlace := ["(*sync.WaitGroup).Add", "internal/race.ReleaseMerge", "internal/race.Disable", "internal/race.Enable", "internal/synctest.IsInBubble", "internal/synctest.Associate[sync.WaitGroup]", "sync.fatal", "sync/atomic.OrUint64", "sync/atomic.AddUint64", "internal/race.Read", "sync/atomic.LoadUint64", "sync/atomic.StoreUint64", "internal/synctest.Disassociate[sync.WaitGroup]", "sync.runtime_Semrelease", "(*sync.WaitGroup).Done", "(*sync.WaitGroup).Wait", "internal/race.Acquire", "internal/synctest.IsAssociated[sync.WaitGroup]", "sync/atomic.CompareAndSwapUint64", "internal/race.Write", "sync.runtime_SemacquireWaitGroup", "slices.overlaps[marches/api.Entity]"], unfollowed := true, recurses := true, named := ["marches/store.ranges", "marches/shape.rooms"], leaving := true, apart := false, laid := [("marches/shape.rooms", laid_marches_shape_rooms), ("marches/store.ranges", laid_marches_store_ranges)], narrowed := true }
def ZoneGivesUptoSaid : Prop := zoneGivesUptoRow.holds Tryz.pinned (OpenSpec.upto zoneGivesSpec)

end Rows
end Go.Proofs.YtmdpdknpapjchaaGreatDoor
