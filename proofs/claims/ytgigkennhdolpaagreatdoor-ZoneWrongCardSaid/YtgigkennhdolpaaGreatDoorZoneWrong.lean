/- ZoneWrong: for any zone, any defect and any number the statement returns true, whatever the schedule: zones with one defect, clients out of range, and the last tick are rejected. Condition: the tables of the ranges of components and of the functions for pairs of bodies are laid as the program's text lays them (the card ties that). -/
import Derived.Test.YtgigkennhdolpaaGreatDoorM46
import Derived.Test.YtgigkennhdolpaaGreatDoorM48
import Derived.Test.YtgigkennhdolpaaGreatDoorCards
import Derived.Test.YtgigkennhdolpaaGreatDoorTie
namespace Go.Proofs.YtgigkennhdolpaaGreatDoor
open Go.ChangeShapes Go.WideShapes Go.ChangeAt Go.RowKit

set_option maxRecDepth 100000 in
theorem zoneWrong_lifted (os : Os) (started : os.Started) (H : Type) (enc : TypeId × Value → H) :
    ReturnsInLeavingWide {} Tryz.checked os 8 .any (fun w args => (Rows.zoneWrongSpec.pre enc Tryz.prog Tryz.f8 [] false w args ∧ laidMetH Tryz.prog pd w) ∧ sizedMet enc Tryz.prog Tryz.f8 (OpenSpec.ofChange Rows.zoneWrongSpec) false w args)
      (Rows.zoneWrongSpec.post enc Tryz.prog Tryz.f8 false true false false) := by
  refine yB (C := Tryz.checked) (X := fun w _ => laidMetH Tryz.prog pd w) (fun _ _ _ hh h => h.of_heap hh) own started Tryz.func8
    (ChangeSpec.witness_shaped (enc := enc) (C := Tryz.checked) (os := os) (X := fun w _ => laidMetH Tryz.prog pd w) false (World.doorLaid Tryz.prog 319 os) #[.agg #[.int .i64 0, .int .i64 0, .int .i64 0, .int .i64 0, .int .i64 0, .slice none 0 0, .slice none 0 0, .slice none 0 0, .int .u64 0, .int .i64 0, .slice none 0 0, .int .i64 0, .int .i64 0], .int .u8 0, .int .i64 0] 8 rfl (World.shaped_of_RefB (by kernel_rfl) (by kernel_rfl)) (by kernel_rfl) (by kernel_rfl) (by kernel_rfl) (Jt os _)) ?_
  intro W base args ds gs before hval0 hW _ _ hL _
  have hval : ∀ (j : Nat) t v, Tryz.f8.params[j]? = some t → args[j]? = some v → Value.okWide Tryz.prog W .any base t v := hval0
  have hW' := hW
  obtain ⟨p, q, hA0, hV, rfl, hfz, hnd⟩ := hW
  have hA : DataW.TrodAll enc Tryz.prog W 0 (fun _ => true) true Tryz.f8.params.toList args.toList ds p := hA0
  have hx := zT (C := cx.par) (pts := [.agg Oo, .int .u8, .int .i64]) (by kernel_rfl) (fun j t v h1 h2 => hval j t v (by simpa using h1) (by simpa using h2)) hA
  obtain ⟨d0, d1, d2, rfl⟩ : ∃ d0 d1 d2, ds = [d0, d1, d2] := by
    have hlen := pW (C := cx.par) hA
    match ds, hlen with
    | [d0, d1, d2], _ => exact ⟨d0, d1, d2, rfl⟩
  have hr := IB (C := cx.par) (f := 8) (Φ := fun v W' => Rows.zoneWrongSpec.post enc Tryz.prog Tryz.f8 false true false false W args v W') (ib dD (VK .u8) (VK .i64)) ⟨[], [13, 14, 18, 19, 36], [], 3⟩ follows rfl (by kernel_rfl) Tryz.func8 (by kernel_rfl) (yN hL) rfl hx (fun ⟨z, XD, n⟩ ha => by
    obtain ⟨h1, h2, -⟩ := ha
    exact zZ (z, XD, n) ⟨KU h1, h2.2⟩) (fun w' hg => IC yE (by kernel_rfl) rfl Tryz.underlying4 rfl ⟨rfl, rfl, rfl⟩ hW' hg)
  have e : args.toList.toArray = args := by simp
  rw [e] at hr
  exact hr

set_option maxRecDepth 100000 in
set_option maxHeartbeats 20000000 in
theorem zoneWrong_joined : joinedFacts Tryz.prog 8 Tryz.f8 Rows.zoneWrongSpec Rows.zoneWrongRow = true := by
  unfold joinedFacts
  simp only [Bool.and_eq_true]
  repeat' (refine And.intro ?_ ?_)
  all_goals (as_aux_lemma => kernel_rfl)
theorem zoneWrong_said : Rows.ZoneWrongSaid :=
  OpenClaim.holds_of_wide_leaving 8 Tryz.f8 rfl rfl rfl rfl rfl rfl rfl ⟨rfl, rfl, rfl, rfl, rfl⟩ rfl rfl rfl rfl rfl (by kernel_rfl) Tryz.func8 zoneWrong_joined
    (of_decide_eq_true (by kernel_rfl)) (by unfold Func.isWrapper; first | (rw [if_pos (by decide +kernel)]; kernel_rfl) | (rw [if_neg (by decide +kernel)]; exact ⟨rfl, rfl⟩))
    (fun os started H enc _ => zoneWrong_lifted os started H enc)

theorem zoneWrong_card : Rows.ZoneWrongCardSaid :=
  E4 .later [.funcs, .data] true (true, "7726481f93d9565440c41e71277077e3c0100d291f011efa2287ee2445602ff5") true
    zoneWrong_said (by kernel_rfl) zoneWrong_row_tie rfl ⟨rfl, rfl⟩ (by kernel_rfl) rfl
    (fun f fn hf Z5 => by
      obtain rfl : f = 8 := Option.some.inj ((show Tryz.prog.funcNamed Tryz.f8.name = some 8 by kernel_rfl).symm.trans hf) |>.symm
      obtain rfl : fn = Tryz.f8 := (Option.some.inj (Tryz.func8.symm.trans Z5)).symm
      exact ⟨by kernel_rfl, fun j t ht => by
        have U1 : (Tryz.f8.params.toList.all fun u => !Tryz.prog.wantsStandIn u) = true := by kernel_rfl
        have hm : t ∈ Tryz.f8.params.toList := Array.mem_toList_iff.2 (Array.mem_of_getElem? ht)
        exact (show Tryz.prog.wantsStandIn t = false by simpa using List.all_eq_true.1 U1 t hm)⟩)
    (by kernel_rfl)
#print axioms zoneWrong_card
end Go.Proofs.YtgigkennhdolpaaGreatDoor

