/- ShapeRuns: for any two bodies that Made makes, along X or along Y, the statement returns true: a body that is shifted overlaps another one at a run of consecutive shifts, symmetrical about the one at which the middles have the same coordinate. Condition: the table of the four cases is laid as the program's text lays it (the card ties that). -/
import Derived.Test.YtggcfjeehpcclaaDoorX7
import Derived.Test.YtggcfjeehpcclaaDoorL1
import Derived.Test.YtggcfjeehpcclaaDoorCards
import Derived.Test.YtggcfjeehpcclaaDoorTie
namespace Go.Proofs.YtggcfjeehpcclaaDoor
open Go.ChangeShapes Go.WideShapes Go.ChangeAt Go.RowKit

theorem shapeRuns_walk' (x y p q : Int) (r : Bool) (x' y' p' q' : Int) (r' : Bool) (al : Bool) (w : World) (hR : Rooms w) (hx : In64 x) (hy : In64 y) (hp : In64 p) (hq : In64 q) (hx' : In64 x') (hy' : In64 y') (hp' : In64 p') (hq' : In64 q')  :
    Calls Tryd.prog 6 #[.agg #[.int .i64 x, .int .i64 y, .int .i64 p, .int .i64 q, .bool r], .agg #[.int .i64 x', .int .i64 y', .int .i64 p', .int .i64 q', .bool r'], .bool al] w fun e w' => e = .returned (.bool true) ∧ Gr w w' :=
  runs_walk ⟨x, y, p, q, r⟩ ⟨x', y', p', q', r'⟩ al w ⟨hx, hy, hp, hq⟩ ⟨hx', hy', hp', hq'⟩ (grd_of_rooms hR)

set_option maxRecDepth 100000 in
theorem shapeRuns_lifted (os : Os) (started : os.Started) (H : Type) (enc : TypeId × Value → H) :
    ReturnsInHanded {} Tryd.checked os 6 .any (fun w args => (Rows.shapeRunsSpec.pre enc Tryd.prog Tryd.f6 [] false w args ∧ laidMetH Tryd.prog laidRooms w) ∧ sizedMet enc Tryd.prog Tryd.f6 (OpenSpec.ofChange Rows.shapeRunsSpec) false w args)
      (Rows.shapeRunsSpec.post enc Tryd.prog Tryd.f6 false true false false) := by
  refine returnsInHanded_of_change_and (C := Tryd.checked) (X := fun w _ => laidMetH Tryd.prog laidRooms w) (fun _ _ _ hh h => h.of_heap hh) own started (by kernel_rfl) Tryd.func6
    (ChangeSpec.witness_shaped (enc := enc) (C := Tryd.checked) (os := os) (X := fun w _ => laidMetH Tryd.prog laidRooms w) false (World.doorLaid Tryd.prog 16 os) #[.agg #[.int .i64 0, .int .i64 0, .int .i64 0, .int .i64 0, .bool false], .agg #[.int .i64 0, .int .i64 0, .int .i64 0, .int .i64 0, .bool false], .bool false] 8 rfl (World.shaped_of_RefB (by kernel_rfl) (by kernel_rfl)) (by kernel_rfl) (by kernel_rfl) (by kernel_rfl) (door_met os _)) ?_
  intro W base args ds gs before hval0 hW _ _ hL _
  have hval : ∀ (j : Nat) t v, Tryd.f6.params[j]? = some t → args[j]? = some v → Value.okWide Tryd.prog W .any base t v := hval0
  have hW' := hW
  obtain ⟨p, q, hA0, hV, rfl, hfz, hnd⟩ := hW
  have hA : DataW.TrodAll enc Tryd.prog W 0 (fun _ => true) true Tryd.f6.params.toList args.toList ds p := hA0
  rw [Tryd.params6] at hA hval
  obtain ⟨v0, vs0, d0, ds0, p0, q0, hargs, rfl, -, h0, r0⟩ := trodAll_cons hA
  obtain ⟨v1, vs1, d1, ds1, p1, q1, rfl, rfl, -, h1, r1⟩ := trodAll_cons r0
  obtain ⟨v2, vs2, d2, ds2, p2, q2, rfl, rfl, -, h2, r2⟩ := trodAll_cons r1
  obtain ⟨rfl, rfl, -⟩ := trodAll_nil r2
  obtain rfl : args = #[v0, v1, v2] := by cases args; simp_all
  obtain ⟨kx0, ky0, kp0, kq0, kr0, rfl, wx0, wy0, wp0, wq0⟩ := open_form (hval 0 34 v0 rfl rfl) h0
  obtain ⟨kx1, ky1, kp1, kq1, kr1, rfl, wx1, wy1, wp1, wq1⟩ := open_form (hval 1 34 v1 rfl rfl) h1
  obtain ⟨kb2, rfl, -, -⟩ := open_bool Tryd.underlying4 (hval 2 4 v2 rfl rfl) h2
  refine (shapeRuns_walk' kx0 ky0 kp0 kq0 kr0 kx1 ky1 kp1 kq1 kr1 kb2 W (rooms_of_laid hL) wx0 wy0 wp0 wq0 wx1 wy1 wp1 wq1).mono fun e W' ⟨he, hg⟩ => ?_
  subst he
  exact ⟨_, rfl, law_post laidOutProg (by kernel_rfl) rfl Tryd.underlying4 rfl ⟨rfl, rfl, rfl⟩ hW' hg⟩

theorem shapeRuns_said : Rows.ShapeRunsSaid :=
  OpenClaim.holds_of_wide 6 Tryd.f6 rfl rfl rfl rfl rfl rfl rfl ⟨rfl, rfl, rfl, rfl, rfl⟩ rfl rfl rfl rfl rfl (by kernel_rfl) Tryd.func6 (by kernel_rfl)
    (of_decide_eq_true (by kernel_rfl)) (by unfold Func.isWrapper; first | (rw [if_pos (by decide +kernel)]; kernel_rfl) | (rw [if_neg (by decide +kernel)]; exact ⟨rfl, rfl⟩))
    (fun os started H enc _ => shapeRuns_lifted os started H enc)

theorem shapeRuns_card : Rows.ShapeRunsCardSaid :=
  Claim7.holds_tied_plain_at .later [] [.funcs] true (true, "52fdc8f07acd3ba0ce6e1abfa26494d7ffed8dfddb12cc9de8c06834ee21ab88") false
    shapeRuns_said (fun _ h => by cases h) (by kernel_rfl) (fun _ h => by cases h) shapeRuns_row_tie rfl ⟨rfl, rfl⟩ (by kernel_rfl) rfl
    (fun f fn hf hfn => by
      obtain rfl : f = 6 := Option.some.inj ((show Tryd.prog.funcNamed Tryd.f6.name = some 6 by kernel_rfl).symm.trans hf) |>.symm
      obtain rfl : fn = Tryd.f6 := (Option.some.inj (Tryd.func6.symm.trans hfn)).symm
      exact ⟨by kernel_rfl, fun j t ht => by
        have hall : (Tryd.f6.params.toList.all fun u => !Tryd.prog.wantsStandIn u) = true := by kernel_rfl
        have hm : t ∈ Tryd.f6.params.toList := Array.mem_toList_iff.2 (Array.mem_of_getElem? ht)
        exact (show Tryd.prog.wantsStandIn t = false by simpa using List.all_eq_true.1 hall t hm)⟩)
    (by kernel_rfl)
#print axioms shapeRuns_card
end Go.Proofs.YtggcfjeehpcclaaDoor
