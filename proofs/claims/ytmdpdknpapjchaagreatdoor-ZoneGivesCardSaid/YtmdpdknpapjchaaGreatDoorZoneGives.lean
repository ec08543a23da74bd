/- ZoneGives: for any zone, any choice of one of its entities and any other entity the statement returns true, whatever the schedule: an entity that is given is in the zone no more, and can be taken again, if it is not outside; then everything is as before; what is taken can be given. Condition: the tables of the ranges of components and of the functions for pairs of bodies are laid as the program's text lays them (the card ties that). -/
import Derived.Test.YtmdpdknpapjchaaGreatDoorM47
import Derived.Test.YtmdpdknpapjchaaGreatDoorCards
import Derived.Test.YtmdpdknpapjchaaGreatDoorTie
set_option linter.all false
namespace Go.Proofs.YtmdpdknpapjchaaGreatDoor
open Go.ChangeShapes Go.WideShapes Go.ChangeAt Go.RowKit

set_option maxRecDepth 100000 in
theorem zoneGives_lifted (os : Os) (started : os.Started) (H : Type) (enc : TypeId × Value → H) :
    ReturnsInLeavingWide {} Tryz.checked os 3 .any (fun w args => (Rows.zoneGivesSpec.pre enc Tryz.prog Tryz.f3 [] false w args ∧ laidMetH Tryz.prog qh w) ∧ sizedMet enc Tryz.prog Tryz.f3 (OpenSpec.ofChange Rows.zoneGivesSpec) false w args)
      (Rows.zoneGivesSpec.post enc Tryz.prog Tryz.f3 false true false false) := by
  refine Am (C := Tryz.checked) (X := fun w _ => laidMetH Tryz.prog qh w) (fun _ _ _ hh h => h.of_heap hh) own started Tryz.func3
    (ChangeSpec.witness_shaped (enc := enc) (C := Tryz.checked) (os := os) (X := fun w _ => laidMetH Tryz.prog qh w) false (World.doorLaid Tryz.prog 281 os) #[.agg #[.int .i64 0, .int .i64 0, .int .i64 0, .int .i64 0, .int .i64 0, .slice none 0 0, .slice none 0 0, .slice none 0 0, .int .u64 0, .int .i64 0, .slice none 0 0, .int .i64 0, .int .i64 0], .int .u8 0, .agg #[.int .i64 0, .slice none 0 0]] 8 rfl (World.shaped_of_RefB (by kernel_rfl) (by kernel_rfl)) (by kernel_rfl) (by kernel_rfl) (by kernel_rfl) (LK os _)) ?_
  intro W base args ds gs before hval0 hW _ _ hL _
  have hval : ∀ (j : Nat) t v, Tryz.f3.params[j]? = some t → args[j]? = some v → Value.okWide Tryz.prog W .any base t v := hval0
  have hW' := hW
  obtain ⟨p, q, hA0, hV, rfl, hfz, hnd⟩ := hW
  have hA : DataW.TrodAll enc Tryz.prog W 0 (fun _ => true) true Tryz.f3.params.toList args.toList ds p := hA0
  have hx := BD (C := cx.par) (pts := [.agg Q7, .int .u8, .agg ptE]) (by kernel_rfl) (fun j t v h1 h2 => hval j t v (by simpa using h1) (by simpa using h2)) hA
  obtain ⟨d0, d1, d2, rfl⟩ : ∃ d0 d1 d2, ds = [d0, d1, d2] := by
    have hlen := qU (C := cx.par) hA
    match ds, hlen with
    | [d0, d1, d2], _ => exact ⟨d0, d1, d2, rfl⟩
  have hr := KB (C := cx.par) (f := 3) (Φ := fun v W' => Rows.zoneGivesSpec.post enc Tryz.prog Tryz.f3 false true false false W args v W') (eC eZ (Yp .u8) eE) ⟨[], [4, 6, 7, 9, 12, 13, 14, 17, 18], [], 0⟩ follows rfl (by kernel_rfl) Tryz.func3 (by kernel_rfl) (Ax hL) rfl hx (fun ⟨z, which, e⟩ ha => by
    obtain ⟨h1, h2, h3, -⟩ := ha
    exact BL eH rfl lI rfl (z, which, e) ⟨Ns h1, h2.2, FV h3.2.1⟩) (fun w' hg => KC Ap (by kernel_rfl) rfl Tryz.underlying4 rfl ⟨rfl, rfl, rfl⟩ hW' hg)
  have e : args.toList.toArray = args := by simp
  rw [e] at hr
  exact hr

set_option maxRecDepth 100000 in
set_option maxHeartbeats 20000000 in
theorem zoneGives_joined : joinedFacts Tryz.prog 3 Tryz.f3 Rows.zoneGivesSpec Rows.zoneGivesRow = true := by
  unfold joinedFacts
  simp only [Bool.and_eq_true]
  repeat' (refine And.intro ?_ ?_)
  all_goals (as_aux_lemma => kernel_rfl)
theorem zoneGives_said : Rows.ZoneGivesSaid :=
  OpenClaim.holds_of_wide_leaving 3 Tryz.f3 rfl rfl rfl rfl rfl rfl rfl ⟨rfl, rfl, rfl, rfl, rfl⟩ rfl rfl rfl rfl rfl (by kernel_rfl) Tryz.func3 zoneGives_joined
    (of_decide_eq_true (by kernel_rfl)) (by unfold Func.isWrapper; first | (rw [if_pos (by decide +kernel)]; kernel_rfl) | (rw [if_neg (by decide +kernel)]; exact ⟨rfl, rfl⟩))
    (fun os started H enc _ => zoneGives_lifted os started H enc)

theorem zoneGives_card : Rows.ZoneGivesCardSaid :=
  Ho .later [.funcs, .data] true (true, "e8adb99752f1a98ee6b30ec216b584e5be09d2996f1f6ee7c184b5c1da5db0da") true
    zoneGives_said (by kernel_rfl) zoneGives_row_tie rfl ⟨rfl, rfl⟩ (by kernel_rfl) rfl
    (fun f fn hf hfn => by
      obtain rfl : f = 3 := Option.some.inj ((show Tryz.prog.funcNamed Tryz.f3.name = some 3 by kernel_rfl).symm.trans hf) |>.symm
      obtain rfl : fn = Tryz.f3 := (Option.some.inj (Tryz.func3.symm.trans hfn)).symm
      exact ⟨by kernel_rfl, fun j t ht => by
        have X8 : (Tryz.f3.params.toList.all fun u => !Tryz.prog.wantsStandIn u) = true := by kernel_rfl
        have hm : t ∈ Tryz.f3.params.toList := Array.mem_toList_iff.2 (Array.mem_of_getElem? ht)
        exact (show Tryz.prog.wantsStandIn t = false by simpa using List.all_eq_true.1 X8 t hm)⟩)
    (by kernel_rfl)
#print axioms zoneGives_card
end Go.Proofs.YtmdpdknpapjchaaGreatDoor

