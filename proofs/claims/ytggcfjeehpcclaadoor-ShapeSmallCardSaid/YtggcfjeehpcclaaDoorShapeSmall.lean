/- ShapeSmall: the statement returns true (it has no arguments). Condition: the table of the four cases is laid as the program's text lays it (the card ties that). -/
import Derived.Test.YtggcfjeehpcclaaDoorG20
import Derived.Test.YtggcfjeehpcclaaDoorT2
import Derived.Test.YtggcfjeehpcclaaDoorT3
import Derived.Test.YtggcfjeehpcclaaDoorCards
import Derived.Test.YtggcfjeehpcclaaDoorTie
namespace Go.Proofs.YtggcfjeehpcclaaDoor
open Go.ChangeShapes Go.WideShapes Go.ChangeAt Go.RowKit

set_option maxRecDepth 100000 in
theorem shapeSmall_lifted (os : Os) (started : os.Started) (H : Type) (enc : TypeId × Value → H) :
    ReturnsInHanded {} Tryd.checked os 5 .any (fun w args => (Rows.shapeSmallSpec.pre enc Tryd.prog Tryd.f5 [] false w args ∧ laidMetH Tryd.prog laidRooms w) ∧ sizedMet enc Tryd.prog Tryd.f5 (OpenSpec.ofChange Rows.shapeSmallSpec) false w args)
      (Rows.shapeSmallSpec.post enc Tryd.prog Tryd.f5 false true false false) := by
  refine returnsInHanded_of_change_and (C := Tryd.checked) (X := fun w _ => laidMetH Tryd.prog laidRooms w) (fun _ _ _ hh h => h.of_heap hh) own started (by kernel_rfl) Tryd.func5
    (ChangeSpec.witness_shaped (enc := enc) (C := Tryd.checked) (os := os) (X := fun w _ => laidMetH Tryd.prog laidRooms w) false (World.doorLaid Tryd.prog 16 os) #[] 8 rfl (World.shaped_of_RefB (by kernel_rfl) (by kernel_rfl)) (by kernel_rfl) (by kernel_rfl) (by kernel_rfl) (door_met os _)) ?_
  intro W base args ds gs before hval0 hW _ _ hL _
  have hval : ∀ (j : Nat) t v, Tryd.f5.params[j]? = some t → args[j]? = some v → Value.okWide Tryd.prog W .any base t v := hval0
  have hW' := hW
  obtain ⟨p, q, hA0, hV, rfl, hfz, hnd⟩ := hW
  have hA : DataW.TrodAll enc Tryd.prog W 0 (fun _ => true) true Tryd.f5.params.toList args.toList ds p := hA0
  have hx := args_fit (C := cx) (pts := []) (r := .any) (b0 := base) (by kernel_rfl) (fun _ _ _ h1 _ => by simp at h1) hA
  have hc := law_calls (C := cx) (f := 5) (rds0) ⟨[29], [47], [3, 6, 9, 14, 24, 27, 53, 56], 0⟩ follows Tryd.func5 (by kernel_rfl) (grd_of_rooms (rooms_of_laid hL)) rfl hx (fun _ _ => small_walk)
  have e : args.toList.toArray = args := by simp
  rw [e] at hc
  refine hc.mono fun e W' ⟨he, hg⟩ => ?_
  subst he
  obtain rfl : ds = [] := by
    have hlen := trodAll_len (C := cx) hA
    match ds, hlen with
    | [], _ => rfl
  exact ⟨_, rfl, law_post laidOutProg (by kernel_rfl) rfl Tryd.underlying4 rfl ⟨rfl, rfl, rfl⟩ hW' hg⟩

theorem shapeSmall_said : Rows.ShapeSmallSaid :=
  OpenClaim.holds_of_wide 5 Tryd.f5 rfl rfl rfl rfl rfl rfl rfl ⟨rfl, rfl, rfl, rfl, rfl⟩ rfl rfl rfl rfl rfl (by kernel_rfl) Tryd.func5 (by kernel_rfl)
    (of_decide_eq_true (by kernel_rfl)) (by unfold Func.isWrapper; first | (rw [if_pos (by decide +kernel)]; kernel_rfl) | (rw [if_neg (by decide +kernel)]; exact ⟨rfl, rfl⟩))
    (fun os started H enc _ => shapeSmall_lifted os started H enc)

theorem shapeSmall_card : Rows.ShapeSmallCardSaid :=
  Claim7.holds_tied_plain_at .later [] [.funcs] true (true, "52fdc8f07acd3ba0ce6e1abfa26494d7ffed8dfddb12cc9de8c06834ee21ab88") false
    shapeSmall_said (fun _ h => by cases h) (by kernel_rfl) (fun _ h => by cases h) shapeSmall_row_tie rfl ⟨rfl, rfl⟩ (by kernel_rfl) rfl
    (fun f fn hf hfn => by
      obtain rfl : f = 5 := Option.some.inj ((show Tryd.prog.funcNamed Tryd.f5.name = some 5 by kernel_rfl).symm.trans hf) |>.symm
      obtain rfl : fn = Tryd.f5 := (Option.some.inj (Tryd.func5.symm.trans hfn)).symm
      exact ⟨by kernel_rfl, fun j t ht => by
        have hall : (Tryd.f5.params.toList.all fun u => !Tryd.prog.wantsStandIn u) = true := by kernel_rfl
        have hm : t ∈ Tryd.f5.params.toList := Array.mem_toList_iff.2 (Array.mem_of_getElem? ht)
        exact (show Tryd.prog.wantsStandIn t = false by simpa using List.all_eq_true.1 hall t hm)⟩)
    (by kernel_rfl)
#print axioms shapeSmall_card
end Go.Proofs.YtggcfjeehpcclaaDoor
