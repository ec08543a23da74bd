/- ShapeHas: for any body and any point the statement returns true: the program's Valid, Bounds and Has return what the reference's return. Condition: the table of the four cases is laid as the program's text lays it (the card ties that). -/
import Derived.Test.YtggcfjeehpcclaaDoorD2
import Derived.Test.YtggcfjeehpcclaaDoorD4
import Derived.Test.YtggcfjeehpcclaaDoorL1
import Derived.Test.YtggcfjeehpcclaaDoorCards
import Derived.Test.YtggcfjeehpcclaaDoorTie
namespace Go.Proofs.YtggcfjeehpcclaaDoor
open Go.ChangeShapes Go.WideShapes Go.ChangeAt Go.RowKit

set_option maxHeartbeats 1000000 in
theorem has_walk (i x y u v p q : Int) (r f : Bool) (px py : Int) (w : World) (hR : Rooms w) (_wx : In64 px) (_wy : In64 py) :
    Calls Tryd.prog 4 #[.agg #[.int .i64 i, .int .i64 x, .int .i64 y, .int .i64 u, .int .i64 v, .int .i64 p, .int .i64 q, .bool r, .bool f], .agg #[.int .i64 px, .int .i64 py]] w fun e w' => e = .returned (.bool true) ∧ Gr w w' := by
  have HR := Lib.hid hR; clear hR
  go_enter Tryd.func4, Tryd.ntmps4
  go_wp2_with fail
  refine (one_true i x y u v p q r f px py _).mono ?_
  rintro e w1 ⟨rfl, hg⟩
  have hg1 : Gr w w1 := (((Gr.refl _).alloc _).alloc _).trans hg
  have HR1 := Lib.hid (HR.out.gr hg1)
  clear hg
  go_wp2_with fail
  refine (awake_true _ HR1.out).mono ?_
  rintro e w3 ⟨rfl, hg3⟩
  go_wp2
  go_ret
  exact ⟨rfl, hg1.trans hg3⟩

set_option maxRecDepth 100000 in
theorem shapeHas_lifted (os : Os) (started : os.Started) (H : Type) (enc : TypeId × Value → H) :
    ReturnsInHanded {} Tryd.checked os 4 .any (fun w args => (Rows.shapeHasSpec.pre enc Tryd.prog Tryd.f4 [] false w args ∧ laidMetH Tryd.prog laidRooms w) ∧ sizedMet enc Tryd.prog Tryd.f4 (OpenSpec.ofChange Rows.shapeHasSpec) false w args)
      (Rows.shapeHasSpec.post enc Tryd.prog Tryd.f4 false true false false) := by
  refine returnsInHanded_of_change_and (C := Tryd.checked) (X := fun w _ => laidMetH Tryd.prog laidRooms w) (fun _ _ _ hh h => h.of_heap hh) own started (by kernel_rfl) Tryd.func4
    (ChangeSpec.witness_shaped (enc := enc) (C := Tryd.checked) (os := os) (X := fun w _ => laidMetH Tryd.prog laidRooms w) false (World.doorLaid Tryd.prog 16 os) #[.agg #[.int .i64 0, .int .i64 0, .int .i64 0, .int .i64 0, .int .i64 0, .int .i64 0, .int .i64 0, .bool false, .bool false], .agg #[.int .i64 0, .int .i64 0]] 8 rfl (World.shaped_of_RefB (by kernel_rfl) (by kernel_rfl)) (by kernel_rfl) (by kernel_rfl) (by kernel_rfl) (door_met os _)) ?_
  intro W base args ds gs before hval0 hW _ _ hL _
  have hval : ∀ (j : Nat) t v, Tryd.f4.params[j]? = some t → args[j]? = some v → Value.okWide Tryd.prog W .any base t v := hval0
  have hW' := hW
  obtain ⟨p, q, hA0, hV, rfl, hfz, hnd⟩ := hW
  have hA : DataW.TrodAll enc Tryd.prog W 0 (fun _ => true) true Tryd.f4.params.toList args.toList ds p := hA0
  rw [Tryd.params4] at hA hval
  obtain ⟨v0, vs0, d0, ds0, p0, q0, hargs, rfl, -, h0, r0⟩ := trodAll_cons hA
  obtain ⟨v1, vs1, d1, ds1, p1, q1, rfl, rfl, -, h1, r1⟩ := trodAll_cons r0
  obtain ⟨rfl, rfl, -⟩ := trodAll_nil r1
  obtain rfl : args = #[v0, v1] := by cases args; simp_all
  obtain ⟨ki0, kx0, ky0, ku0, kv0, kp0, kq0, kr0, kf0, rfl⟩ := open_body (hval 0 25 v0 rfl rfl) h0
  obtain ⟨kx1, ky1, rfl, wx1, wy1⟩ := open_vec (hval 1 23 v1 rfl rfl) h1
  refine (has_walk ki0 kx0 ky0 ku0 kv0 kp0 kq0 kr0 kf0 kx1 ky1 W (rooms_of_laid hL) wx1 wy1).mono fun e W' ⟨he, hg⟩ => ?_
  subst he
  exact ⟨_, rfl, law_post laidOutProg (by kernel_rfl) rfl Tryd.underlying4 rfl ⟨rfl, rfl, rfl⟩ hW' hg⟩

theorem shapeHas_said : Rows.ShapeHasSaid :=
  OpenClaim.holds_of_wide 4 Tryd.f4 rfl rfl rfl rfl rfl rfl rfl ⟨rfl, rfl, rfl, rfl, rfl⟩ rfl rfl rfl rfl rfl (by kernel_rfl) Tryd.func4 (by kernel_rfl)
    (of_decide_eq_true (by kernel_rfl)) (by unfold Func.isWrapper; first | (rw [if_pos (by decide +kernel)]; kernel_rfl) | (rw [if_neg (by decide +kernel)]; exact ⟨rfl, rfl⟩))
    (fun os started H enc _ => shapeHas_lifted os started H enc)

theorem shapeHas_card : Rows.ShapeHasCardSaid :=
  Claim7.holds_tied_plain_at .later [] [.funcs] true (true, "52fdc8f07acd3ba0ce6e1abfa26494d7ffed8dfddb12cc9de8c06834ee21ab88") false
    shapeHas_said (fun _ h => by cases h) (by kernel_rfl) (fun _ h => by cases h) shapeHas_row_tie rfl ⟨rfl, rfl⟩ (by kernel_rfl) rfl
    (fun f fn hf hfn => by
      obtain rfl : f = 4 := Option.some.inj ((show Tryd.prog.funcNamed Tryd.f4.name = some 4 by kernel_rfl).symm.trans hf) |>.symm
      obtain rfl : fn = Tryd.f4 := (Option.some.inj (Tryd.func4.symm.trans hfn)).symm
      exact ⟨by kernel_rfl, fun j t ht => by
        have hall : (Tryd.f4.params.toList.all fun u => !Tryd.prog.wantsStandIn u) = true := by kernel_rfl
        have hm : t ∈ Tryd.f4.params.toList := Array.mem_toList_iff.2 (Array.mem_of_getElem? ht)
        exact (show Tryd.prog.wantsStandIn t = false by simpa using List.all_eq_true.1 hall t hm)⟩)
    (by kernel_rfl)
#print axioms shapeHas_card
end Go.Proofs.YtggcfjeehpcclaaDoor
