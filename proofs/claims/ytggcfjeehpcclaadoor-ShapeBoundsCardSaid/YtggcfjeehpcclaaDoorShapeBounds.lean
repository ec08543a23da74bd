/- ShapeBounds: for two bodies that Made makes the statement returns true: bodies whose bounds do not meet do not meet; two boxes overlap and meet exactly if their bounds do; two circles exactly if the circle with both radii has the middle of the other one. Condition: the table of the four cases is laid as the program's text lays it (the card ties that). -/
import Derived.Test.YtggcfjeehpcclaaDoorNB
import Derived.Test.YtggcfjeehpcclaaDoorL1
import Derived.Test.YtggcfjeehpcclaaDoorCards
import Derived.Test.YtggcfjeehpcclaaDoorTie
namespace Go.Proofs.YtggcfjeehpcclaaDoor
open Go.ChangeShapes Go.WideShapes Go.ChangeAt Go.RowKit

theorem bounds_walk' (x y p q : Int) (r : Bool) (x' y' p' q' : Int) (r' : Bool) (w : World) (hR : Rooms w) (hx : In64 x) (hy : In64 y) (hp : In64 p) (hq : In64 q) (hx' : In64 x') (hy' : In64 y') (hp' : In64 p') (hq' : In64 q') :
    Calls Tryd.prog 10 #[.agg #[.int .i64 x, .int .i64 y, .int .i64 p, .int .i64 q, .bool r], .agg #[.int .i64 x', .int .i64 y', .int .i64 p', .int .i64 q', .bool r']] w fun e w' => e = .returned (.bool true) ∧ Gr w w' :=
  bounds_walk x y p q r x' y' p' q' r' w hR hx hy hp hq hx' hy' hp' hq'

set_option maxRecDepth 100000 in
theorem shapeBounds_lifted (os : Os) (started : os.Started) (H : Type) (enc : TypeId × Value → H) :
    ReturnsInHanded {} Tryd.checked os 10 .any (fun w args => (Rows.shapeBoundsSpec.pre enc Tryd.prog Tryd.f10 [] false w args ∧ laidMetH Tryd.prog laidRooms w) ∧ sizedMet enc Tryd.prog Tryd.f10 (OpenSpec.ofChange Rows.shapeBoundsSpec) false w args)
      (Rows.shapeBoundsSpec.post enc Tryd.prog Tryd.f10 false true false false) := by
  refine returnsInHanded_of_change_and (C := Tryd.checked) (X := fun w _ => laidMetH Tryd.prog laidRooms w) (fun _ _ _ hh h => h.of_heap hh) own started (by kernel_rfl) Tryd.func10
    (ChangeSpec.witness_shaped (enc := enc) (C := Tryd.checked) (os := os) (X := fun w _ => laidMetH Tryd.prog laidRooms w) false (World.doorLaid Tryd.prog 16 os) #[.agg #[.int .i64 0, .int .i64 0, .int .i64 0, .int .i64 0, .bool false], .agg #[.int .i64 0, .int .i64 0, .int .i64 0, .int .i64 0, .bool false]] 8 rfl (World.shaped_of_RefB (by kernel_rfl) (by kernel_rfl)) (by kernel_rfl) (by kernel_rfl) (by kernel_rfl) (door_met os _)) ?_
  intro W base args ds gs before hval0 hW _ _ hL _
  have hval : ∀ (j : Nat) t v, Tryd.f10.params[j]? = some t → args[j]? = some v → Value.okWide Tryd.prog W .any base t v := hval0
  have hW' := hW
  obtain ⟨p, q, hA0, hV, rfl, hfz, hnd⟩ := hW
  have hA : DataW.TrodAll enc Tryd.prog W 0 (fun _ => true) true Tryd.f10.params.toList args.toList ds p := hA0
  rw [Tryd.params10] at hA hval
  obtain ⟨v0, vs0, d0, ds0, p0, q0, hargs, rfl, -, h0, r0⟩ := trodAll_cons hA
  obtain ⟨v1, vs1, d1, ds1, p1, q1, rfl, rfl, -, h1, r1⟩ := trodAll_cons r0
  obtain ⟨rfl, rfl, -⟩ := trodAll_nil r1
  obtain rfl : args = #[v0, v1] := by cases args; simp_all
  obtain ⟨kx0, ky0, kp0, kq0, kr0, rfl, wx0, wy0, wp0, wq0⟩ := open_form (hval 0 34 v0 rfl rfl) h0
  obtain ⟨kx1, ky1, kp1, kq1, kr1, rfl, wx1, wy1, wp1, wq1⟩ := open_form (hval 1 34 v1 rfl rfl) h1
  refine (bounds_walk' kx0 ky0 kp0 kq0 kr0 kx1 ky1 kp1 kq1 kr1 W (rooms_of_laid hL) wx0 wy0 wp0 wq0 wx1 wy1 wp1 wq1).mono fun e W' ⟨he, hg⟩ => ?_
  subst he
  exact ⟨_, rfl, law_post laidOutProg (by kernel_rfl) rfl Tryd.underlying4 rfl ⟨rfl, rfl, rfl⟩ hW' hg⟩

theorem shapeBounds_said : Rows.ShapeBoundsSaid :=
  OpenClaim.holds_of_wide 10 Tryd.f10 rfl rfl rfl rfl rfl rfl rfl ⟨rfl, rfl, rfl, rfl, rfl⟩ rfl rfl rfl rfl rfl (by kernel_rfl) Tryd.func10 (by kernel_rfl)
    (of_decide_eq_true (by kernel_rfl)) (by unfold Func.isWrapper; first | (rw [if_pos (by decide +kernel)]; kernel_rfl) | (rw [if_neg (by decide +kernel)]; exact ⟨rfl, rfl⟩))
    (fun os started H enc _ => shapeBounds_lifted os started H enc)

theorem shapeBounds_card : Rows.ShapeBoundsCardSaid :=
  Claim7.holds_tied_plain_at .later [] [.funcs] true (true, "52fdc8f07acd3ba0ce6e1abfa26494d7ffed8dfddb12cc9de8c06834ee21ab88") false
    shapeBounds_said (fun _ h => by cases h) (by kernel_rfl) (fun _ h => by cases h) shapeBounds_row_tie rfl ⟨rfl, rfl⟩ (by kernel_rfl) rfl
    (fun f fn hf hfn => by
      obtain rfl : f = 10 := Option.some.inj ((show Tryd.prog.funcNamed Tryd.f10.name = some 10 by kernel_rfl).symm.trans hf) |>.symm
      obtain rfl : fn = Tryd.f10 := (Option.some.inj (Tryd.func10.symm.trans hfn)).symm
      exact ⟨by kernel_rfl, fun j t ht => by
        have hall : (Tryd.f10.params.toList.all fun u => !Tryd.prog.wantsStandIn u) = true := by kernel_rfl
        have hm : t ∈ Tryd.f10.params.toList := Array.mem_toList_iff.2 (Array.mem_of_getElem? ht)
        exact (show Tryd.prog.wantsStandIn t = false by simpa using List.all_eq_true.1 hall t hm)⟩)
    (by kernel_rfl)
#print axioms shapeBounds_card
end Go.Proofs.YtggcfjeehpcclaaDoor
