/- ZoneStill: for any zone the statement returns true, whatever the schedule: a zone whose speeds and pull are 0 and that has no functions stays as it is at a tick, but for its count of ticks. Condition: the tables of the ranges of components and of the functions for pairs of bodies are laid as the program's text lays them (the card ties that). -/
import Derived.Test.YtgigkennhdolpaaGreatDoorM47
import Derived.Test.YtgigkennhdolpaaGreatDoorM49
import Derived.Test.YtgigkennhdolpaaGreatDoorCards
import Derived.Test.YtgigkennhdolpaaGreatDoorTie
namespace Go.Proofs.YtgigkennhdolpaaGreatDoor
open Go.ChangeShapes Go.WideShapes Go.ChangeAt Go.RowKit

set_option maxRecDepth 100000 in
theorem zoneStill_lifted (os : Os) (started : os.Started) (H : Type) (enc : TypeId × Value → H) :
    ReturnsInLeavingWide {} Tryz.checked os 3 .any (fun w args => (Rows.zoneStillSpec.pre enc Tryz.prog Tryz.f3 [] false w args ∧ laidMetH Tryz.prog pG w) ∧ sizedMet enc Tryz.prog Tryz.f3 (OpenSpec.ofChange Rows.zoneStillSpec) false w args)
      (Rows.zoneStillSpec.post enc Tryz.prog Tryz.f3 false true false false) := by
  refine yL (C := Tryz.checked) (X := fun w _ => laidMetH Tryz.prog pG w) (fun _ _ _ hh h => h.of_heap hh) own started Tryz.func3
    (ChangeSpec.witness_shaped (enc := enc) (C := Tryz.checked) (os := os) (X := fun w _ => laidMetH Tryz.prog pG w) false (World.doorLaid Tryz.prog 319 os) #[.agg #[.int .i64 0, .int .i64 0, .int .i64 0, .int .i64 0, .int .i64 0, .slice none 0 0, .slice none 0 0, .slice none 0 0, .int .u64 0, .int .i64 0, .slice none 0 0, .int .i64 0, .int .i64 0]] 8 rfl (World.shaped_of_RefB (by kernel_rfl) (by kernel_rfl)) (by kernel_rfl) (by kernel_rfl) (by kernel_rfl) (J4 os _)) ?_
  intro W base args ds gs before hval0 hW _ _ hL _
  have hval : ∀ (j : Nat) t v, Tryz.f3.params[j]? = some t → args[j]? = some v → Value.okWide Tryz.prog W .any base t v := hval0
  have hW' := hW
  obtain ⟨p, q, hA0, hV, rfl, hfz, hnd⟩ := hW
  have hA : DataW.TrodAll enc Tryz.prog W 0 (fun _ => true) true Tryz.f3.params.toList args.toList ds p := hA0
  have hx := Ac (C := cx.par) (pts := [.agg O4]) (by kernel_rfl) (fun j t v h1 h2 => hval j t v (by simpa using h1) (by simpa using h2)) hA
  obtain ⟨d0, rfl⟩ : ∃ d0, ds = [d0] := by
    have hlen := qk (C := cx.par) hA
    match ds, hlen with
    | [d0], _ => exact ⟨d0, rfl⟩
  have hr := Jg (C := cx.par) (f := 3) (Φ := fun v W' => Rows.zoneStillSpec.post enc Tryz.prog Tryz.f3 false true false false W args v W') (bs iH) ⟨[13], [16], [6, 9], 1⟩ follows rfl (by kernel_rfl) Tryz.func3 (by kernel_rfl) (yV hL) rfl hx (fun z ha => by
    obtain ⟨h1, -⟩ := ha
    exact Ah z (LA h1)) (fun w' hg => Jh yO (by kernel_rfl) rfl Tryz.underlying4 rfl ⟨rfl, rfl, rfl⟩ hW' hg)
  have e : args.toList.toArray = args := by simp
  rw [e] at hr
  exact hr

set_option maxRecDepth 100000 in
set_option maxHeartbeats 20000000 in
theorem zoneStill_joined : joinedFacts Tryz.prog 3 Tryz.f3 Rows.zoneStillSpec Rows.zoneStillRow = true := by
  unfold joinedFacts
  simp only [Bool.and_eq_true]
  repeat' (refine And.intro ?_ ?_)
  all_goals (as_aux_lemma => kernel_rfl)
theorem zoneStill_said : Rows.ZoneStillSaid :=
  OpenClaim.holds_of_wide_leaving 3 Tryz.f3 rfl rfl rfl rfl rfl rfl rfl ⟨rfl, rfl, rfl, rfl, rfl⟩ rfl rfl rfl rfl rfl (by kernel_rfl) Tryz.func3 zoneStill_joined
    (of_decide_eq_true (by kernel_rfl)) (by unfold Func.isWrapper; first | (rw [if_pos (by decide +kernel)]; kernel_rfl) | (rw [if_neg (by decide +kernel)]; exact ⟨rfl, rfl⟩))
    (fun os started H enc _ => zoneStill_lifted os started H enc)

theorem zoneStill_card : Rows.ZoneStillCardSaid :=
  FD .later [.funcs, .data] true (true, "7726481f93d9565440c41e71277077e3c0100d291f011efa2287ee2445602ff5") true
    zoneStill_said (by kernel_rfl) zoneStill_row_tie rfl ⟨rfl, rfl⟩ (by kernel_rfl) rfl
    (fun f fn hf hfn => by
      obtain rfl : f = 3 := Option.some.inj ((show Tryz.prog.funcNamed Tryz.f3.name = some 3 by kernel_rfl).symm.trans hf) |>.symm
      obtain rfl : fn = Tryz.f3 := (Option.some.inj (Tryz.func3.symm.trans hfn)).symm
      exact ⟨by kernel_rfl, fun j t ht => by
        have Vb : (Tryz.f3.params.toList.all fun u => !Tryz.prog.wantsStandIn u) = true := by kernel_rfl
        have hm : t ∈ Tryz.f3.params.toList := Array.mem_toList_iff.2 (Array.mem_of_getElem? ht)
        exact (show Tryz.prog.wantsStandIn t = false by simpa using List.all_eq_true.1 Vb t hm)⟩)
    (by kernel_rfl)
#print axioms zoneStill_card
end Go.Proofs.YtgigkennhdolpaaGreatDoor

