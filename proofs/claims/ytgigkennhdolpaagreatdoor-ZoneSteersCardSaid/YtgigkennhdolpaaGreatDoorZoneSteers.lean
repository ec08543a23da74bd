/- ZoneSteers: for any zone and any inputs the statement returns true, whatever the schedule: steering changes the speeds of entities of clients alone, to at most 64 units in each direction, and to the speed that was asked for if that is not greater. Condition: the tables of the ranges of components and of the functions for pairs of bodies are laid as the program's text lays them (the card ties that). -/
import Derived.Test.YtgigkennhdolpaaGreatDoorM47
import Derived.Test.YtgigkennhdolpaaGreatDoorM48
import Derived.Test.YtgigkennhdolpaaGreatDoorCards
import Derived.Test.YtgigkennhdolpaaGreatDoorTie
namespace Go.Proofs.YtgigkennhdolpaaGreatDoor
open Go.ChangeShapes Go.WideShapes Go.ChangeAt Go.RowKit

set_option maxRecDepth 100000 in
theorem zoneSteers_lifted (os : Os) (started : os.Started) (H : Type) (enc : TypeId × Value → H) :
    ReturnsInLeavingWide {} Tryz.checked os 5 .any (fun w args => (Rows.zoneSteersSpec.pre enc Tryz.prog Tryz.f5 [] false w args ∧ laidMetH Tryz.prog laidZn w) ∧ sizedMet enc Tryz.prog Tryz.f5 (OpenSpec.ofChange Rows.zoneSteersSpec) false w args)
      (Rows.zoneSteersSpec.post enc Tryz.prog Tryz.f5 false true false false) := by
  refine leaving_and (C := Tryz.checked) (X := fun w _ => laidMetH Tryz.prog laidZn w) (fun _ _ _ hh h => h.of_heap hh) own started Tryz.func5
    (ChangeSpec.witness_shaped (enc := enc) (C := Tryz.checked) (os := os) (X := fun w _ => laidMetH Tryz.prog laidZn w) false (World.doorLaid Tryz.prog 319 os) #[.agg #[.int .i64 0, .int .i64 0, .int .i64 0, .int .i64 0, .int .i64 0, .slice none 0 0, .slice none 0 0, .slice none 0 0, .int .u64 0, .int .i64 0, .slice none 0 0, .int .i64 0, .int .i64 0], .slice none 0 0] 8 rfl (World.shaped_of_RefB (by kernel_rfl) (by kernel_rfl)) (by kernel_rfl) (by kernel_rfl) (by kernel_rfl) (door_met os _)) ?_
  intro W base args ds gs before hval0 hW _ _ hL _
  have hval : ∀ (j : Nat) t v, Tryz.f5.params[j]? = some t → args[j]? = some v → Value.okWide Tryz.prog W .any base t v := hval0
  have hW' := hW
  obtain ⟨p, q, hA0, hV, rfl, hfz, hnd⟩ := hW
  have hA : DataW.TrodAll enc Tryz.prog W 0 (fun _ => true) true Tryz.f5.params.toList args.toList ds p := hA0
  have hx := args_fit (C := cx.par) (pts := [.agg ptZon, .sl 10 ptInp]) (by kernel_rfl) (fun j t v h1 h2 => hval j t v (by simpa using h1) (by simpa using h2)) hA
  obtain ⟨d0, d1, rfl⟩ : ∃ d0 d1, ds = [d0, d1] := by
    have hlen := ot (C := cx.par) hA
    match ds, hlen with
    | [d0, d1], _ => exact ⟨d0, d1, rfl⟩
  have hr := law_runs (C := cx.par) (f := 5) (Φ := fun v W' => Rows.zoneSteersSpec.post enc Tryz.prog Tryz.f5 false true false false W args v W') (aV lJ iQ) ⟨[12], [], [9, 19], 0⟩ follows rfl (by kernel_rfl) Tryz.func5 (by kernel_rfl) (grd_of_laid hL) rfl hx (fun ⟨z, l⟩ ha => by
    obtain ⟨h1, h2, -⟩ := ha
    exact ZSteers_walk bz rfl (z, l) ⟨zon_fit h1, inps_fit h2⟩) (fun w' hg => law_post laidOutProg (by kernel_rfl) rfl Tryz.underlying4 rfl ⟨rfl, rfl, rfl⟩ hW' hg)
  have e : args.toList.toArray = args := by simp
  rw [e] at hr
  exact hr

set_option maxRecDepth 100000 in
set_option maxHeartbeats 20000000 in
theorem zoneSteers_joined : joinedFacts Tryz.prog 5 Tryz.f5 Rows.zoneSteersSpec Rows.zoneSteersRow = true := by
  unfold joinedFacts
  simp only [Bool.and_eq_true]
  repeat' (refine And.intro ?_ ?_)
  all_goals (as_aux_lemma => kernel_rfl)
theorem zoneSteers_said : Rows.ZoneSteersSaid :=
  OpenClaim.holds_of_wide_leaving 5 Tryz.f5 rfl rfl rfl rfl rfl rfl rfl ⟨rfl, rfl, rfl, rfl, rfl⟩ rfl rfl rfl rfl rfl (by kernel_rfl) Tryz.func5 zoneSteers_joined
    (of_decide_eq_true (by kernel_rfl)) (by unfold Func.isWrapper; first | (rw [if_pos (by decide +kernel)]; kernel_rfl) | (rw [if_neg (by decide +kernel)]; exact ⟨rfl, rfl⟩))
    (fun os started H enc _ => zoneSteers_lifted os started H enc)

theorem zoneSteers_card : Rows.ZoneSteersCardSaid :=
  goes_tied .later [.funcs, .data] true (true, "7726481f93d9565440c41e71277077e3c0100d291f011efa2287ee2445602ff5") true
    zoneSteers_said (by kernel_rfl) zoneSteers_row_tie rfl ⟨rfl, rfl⟩ (by kernel_rfl) rfl
    (fun f fn hf hfn => by
      obtain rfl : f = 5 := Option.some.inj ((show Tryz.prog.funcNamed Tryz.f5.name = some 5 by kernel_rfl).symm.trans hf) |>.symm
      obtain rfl : fn = Tryz.f5 := (Option.some.inj (Tryz.func5.symm.trans hfn)).symm
      exact ⟨by kernel_rfl, fun j t ht => by
        have hall : (Tryz.f5.params.toList.all fun u => !Tryz.prog.wantsStandIn u) = true := by kernel_rfl
        have hm : t ∈ Tryz.f5.params.toList := Array.mem_toList_iff.2 (Array.mem_of_getElem? ht)
        exact (show Tryz.prog.wantsStandIn t = false by simpa using List.all_eq_true.1 hall t hm)⟩)
    (by kernel_rfl)
#print axioms zoneSteers_card
end Go.Proofs.YtgigkennhdolpaaGreatDoor

