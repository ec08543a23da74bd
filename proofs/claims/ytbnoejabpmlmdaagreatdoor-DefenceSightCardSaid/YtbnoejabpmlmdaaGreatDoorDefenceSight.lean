/- DefenceSight: for any world, any of its entities and any input the statement returns true: what Blind tells is met by the shot, is not the client's own and not visible, and nothing else is met before it; if nothing is told, but something invisible is met, something visible is met, too. Condition: the tables of the ranges of components and of the costs of flags are laid as the program's text lays them (the card ties that). -/
import Derived.Test.YtbnoejabpmlmdaaGreatDoorM15
import Derived.Test.YtbnoejabpmlmdaaGreatDoorM16
import Derived.Test.YtbnoejabpmlmdaaGreatDoorCards
import Derived.Test.YtbnoejabpmlmdaaGreatDoorTie
namespace Go.Proofs.YtbnoejabpmlmdaaGreatDoor
open Go.ChangeShapes Go.WideShapes Go.ChangeAt Go.RowKit

set_option maxRecDepth 100000 in
theorem defenceSight_lifted (os : Os) (started : os.Started) (H : Type) (enc : TypeId × Value → H) :
    ReturnsInHanded {} Tryz.checked os 3 .any (fun w args => (Rows.defenceSightSpec.pre enc Tryz.prog Tryz.f3 [] false w args ∧ laidMetH Tryz.prog laidSight w) ∧ sizedMet enc Tryz.prog Tryz.f3 (OpenSpec.ofChange Rows.defenceSightSpec) false w args)
      (Rows.defenceSightSpec.post enc Tryz.prog Tryz.f3 false true false false) := by
  refine returnsInHanded_of_change_and (C := Tryz.checked) (X := fun w _ => laidMetH Tryz.prog laidSight w) (fun _ _ _ hh h => h.of_heap hh) own started (by kernel_rfl) Tryz.func3
    (ChangeSpec.witness_shaped (enc := enc) (C := Tryz.checked) (os := os) (X := fun w _ => laidMetH Tryz.prog laidSight w) false (World.doorLaid Tryz.prog 109 os) #[.agg #[.int .i64 0, .slice none 0 0], .int .u8 0, .agg #[.int .i64 0, .int .i64 0, .int .i64 0, .int .i64 0, .int .i64 0, .bool false, .int .i64 0, .int .i64 0, .int .i64 0, .int .i64 0]] 8 rfl (World.shaped_of_RefB (by kernel_rfl) (by kernel_rfl)) (by kernel_rfl) (by kernel_rfl) (by kernel_rfl) (door_met os _)) ?_
  intro W base args ds gs before hval0 hW _ _ hL _
  have hval : ∀ (j : Nat) t v, Tryz.f3.params[j]? = some t → args[j]? = some v → Value.okWide Tryz.prog W .any base t v := hval0
  have hW' := hW
  obtain ⟨p, q, hA0, hV, rfl, hfz, hnd⟩ := hW
  have hA : DataW.TrodAll enc Tryz.prog W 0 (fun _ => true) true Tryz.f3.params.toList args.toList ds p := hA0
  have hx := args_fit (C := cx) (pts := [.agg ptW, .int .u8, .agg [.int .i64, .int .i64, .int .i64, .int .i64, .int .i64, .bool, .int .i64, .int .i64, .int .i64, .int .i64]]) (by kernel_rfl) (fun j t v h1 h2 => hval j t v (by simpa using h1) (by simpa using h2)) hA
  have hc := law_calls (C := cx) (f := 3) (rds3 rdWor (rdI .u8) Df.rdInput) ⟨[], [], [17, 26, 30], 0⟩ follows Tryz.func3 (by kernel_rfl) (grd_of_laid hL) rfl hx (fun ⟨w, x, i⟩ ha => by
    obtain ⟨⟨-, h1, -⟩, ⟨-, h2⟩, -⟩ := ha
    exact sight_walk (w, x, i) ⟨ens_fit h1, h2⟩)
  have e : args.toList.toArray = args := by simp
  rw [e] at hc
  refine hc.mono fun e W' ⟨he, hg⟩ => ?_
  subst he
  obtain ⟨d0, d1, d2, rfl⟩ : ∃ d0 d1 d2, ds = [d0, d1, d2] := by
    have hlen := trodAll_len (C := cx) hA
    match ds, hlen with
    | [d0, d1, d2], _ => exact ⟨d0, d1, d2, rfl⟩
  exact ⟨_, rfl, law_post laidOutProg (by kernel_rfl) rfl Tryz.underlying4 rfl ⟨rfl, rfl, rfl⟩ hW' hg⟩

theorem defenceSight_said : Rows.DefenceSightSaid :=
  OpenClaim.holds_of_wide 3 Tryz.f3 rfl rfl rfl rfl rfl rfl rfl ⟨rfl, rfl, rfl, rfl, rfl⟩ rfl rfl rfl rfl rfl (by kernel_rfl) Tryz.func3 (by kernel_rfl)
    (of_decide_eq_true (by kernel_rfl)) (by unfold Func.isWrapper; first | (rw [if_pos (by decide +kernel)]; kernel_rfl) | (rw [if_neg (by decide +kernel)]; exact ⟨rfl, rfl⟩))
    (fun os started H enc _ => defenceSight_lifted os started H enc)

theorem defenceSight_card : Rows.DefenceSightCardSaid :=
  Claim7.holds_tied_plain_at .later [] [.data, .data] true (true, "04f81eadb4fbf38f8043a93972d08a66bde728474672fa56a1a6d54bf2dddeda") false
    defenceSight_said (fun _ h => by cases h) (by kernel_rfl) (fun _ h => by cases h) defenceSight_row_tie rfl ⟨rfl, rfl⟩ (by kernel_rfl) rfl
    (fun f fn hf hfn => by
      obtain rfl : f = 3 := Option.some.inj ((show Tryz.prog.funcNamed Tryz.f3.name = some 3 by kernel_rfl).symm.trans hf) |>.symm
      obtain rfl : fn = Tryz.f3 := (Option.some.inj (Tryz.func3.symm.trans hfn)).symm
      exact ⟨by kernel_rfl, fun j t ht => by
        have hall : (Tryz.f3.params.toList.all fun u => !Tryz.prog.wantsStandIn u) = true := by kernel_rfl
        have hm : t ∈ Tryz.f3.params.toList := Array.mem_toList_iff.2 (Array.mem_of_getElem? ht)
        exact (show Tryz.prog.wantsStandIn t = false by simpa using List.all_eq_true.1 hall t hm)⟩)
    (by kernel_rfl)
#print axioms defenceSight_card
end Go.Proofs.YtbnoejabpmlmdaaGreatDoor
