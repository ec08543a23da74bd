/- DefenceCalms: for any flags and any two numbers of ticks the statement returns true: points are what was marked, less one for each window that passes, 0 at least; calming in two steps is calming in one; whoever is marked often enough is a suspect, until enough time has passed. Condition: the table of the costs of flags is laid as the program's text lays it (the card ties that). -/
import Derived.Test.YtinefblphbicaaaDoorH24
import Derived.Test.YtinefblphbicaaaDoorH23
import Derived.Test.YtinefblphbicaaaDoorCards
import Derived.Test.YtinefblphbicaaaDoorTie
namespace Go.Proofs.YtinefblphbicaaaDoor
open Go.ChangeShapes Go.WideShapes Go.ChangeAt Go.RowKit

set_option maxRecDepth 100000 in
theorem defenceCalms_lifted (os : Os) (started : os.Started) (H : Type) (enc : TypeId × Value → H) :
    ReturnsInHanded {} Tryd.checked os 6 .any (fun w args => (Rows.defenceCalmsSpec.pre enc Tryd.prog Tryd.f6 [] false w args ∧ laidMetH Tryd.prog laidCosts w) ∧ sizedMet enc Tryd.prog Tryd.f6 (OpenSpec.ofChange Rows.defenceCalmsSpec) false w args)
      (Rows.defenceCalmsSpec.post enc Tryd.prog Tryd.f6 false true false false) := by
  refine returnsInHanded_of_change_and (C := Tryd.checked) (X := fun w _ => laidMetH Tryd.prog laidCosts w) (fun _ _ _ hh h => h.of_heap hh) own started (by kernel_rfl) Tryd.func6
    (ChangeSpec.witness_shaped (enc := enc) (C := Tryd.checked) (os := os) (X := fun w _ => laidMetH Tryd.prog laidCosts w) false (World.doorLaid Tryd.prog 16 os) #[.slice none 0 0, .int .u16 0, .int .u16 0] 8 rfl (World.shaped_of_RefB (by kernel_rfl) (by kernel_rfl)) (by kernel_rfl) (by kernel_rfl) (by kernel_rfl) (door_met os _)) ?_
  intro W base args ds gs before hval0 hW _ _ hL _
  have hval : ∀ (j : Nat) t v, Tryd.f6.params[j]? = some t → args[j]? = some v → Value.okWide Tryd.prog W .any base t v := hval0
  have hW' := hW
  obtain ⟨p, q, hA0, hV, rfl, hfz, hnd⟩ := hW
  have hA : DataW.TrodAll enc Tryd.prog W 0 (fun _ => true) true Tryd.f6.params.toList args.toList ds p := hA0
  have hx := args_fit (C := cx) (pts := [.sl 1 [.int .u8], .int .u16, .int .u16]) (by kernel_rfl) (fun j t v h1 h2 => hval j t v (by simpa using h1) (by simpa using h2)) hA
  have hc := law_calls (C := cx) (f := 6) (rds3 (rdF .u8) (rdI .u16) (rdI .u16)) ⟨[], [7, 17], [4], 8⟩ follows Tryd.func6 (by kernel_rfl) (grd_of_laid hL) rfl hx (fun ⟨M, a, b⟩ ha => by
    obtain ⟨⟨-, h1, h2⟩, ⟨-, h3⟩, ⟨-, h4⟩, -⟩ := ha
    simp only [maxLen] at h1
    exact calms_walk M a b (by omega) (fun i hi => (h2 i hi).1.2) h3 h4)
  have e : args.toList.toArray = args := by simp
  rw [e] at hc
  refine hc.mono fun e W' ⟨he, hg⟩ => ?_
  subst he
  obtain ⟨d0, d1, d2, rfl⟩ : ∃ d0 d1 d2, ds = [d0, d1, d2] := by
    have hlen := trodAll_len (C := cx) hA
    match ds, hlen with
    | [d0, d1, d2], _ => exact ⟨d0, d1, d2, rfl⟩
  exact ⟨_, rfl, law_post laidOutProg (by kernel_rfl) rfl Tryd.underlying4 rfl ⟨rfl, rfl, rfl⟩ hW' hg⟩

theorem defenceCalms_said : Rows.DefenceCalmsSaid :=
  OpenClaim.holds_of_wide 6 Tryd.f6 rfl rfl rfl rfl rfl rfl rfl ⟨rfl, rfl, rfl, rfl, rfl⟩ rfl rfl rfl rfl rfl (by kernel_rfl) Tryd.func6 (by kernel_rfl)
    (of_decide_eq_true (by kernel_rfl)) (by unfold Func.isWrapper; first | (rw [if_pos (by decide +kernel)]; kernel_rfl) | (rw [if_neg (by decide +kernel)]; exact ⟨rfl, rfl⟩))
    (fun os started H enc _ => defenceCalms_lifted os started H enc)

theorem defenceCalms_card : Rows.DefenceCalmsCardSaid :=
  Claim7.holds_tied_plain_at .later [] [.data] true (true, "cee33eaf339ec6ed271434a119952cd75efe61c16cf2ed5f362c72f3cba3bc7f") false
    defenceCalms_said (fun _ h => by cases h) (by kernel_rfl) (fun _ h => by cases h) defenceCalms_row_tie rfl ⟨rfl, rfl⟩ (by kernel_rfl) rfl
    (fun f fn hf hfn => by
      obtain rfl : f = 6 := Option.some.inj ((show Tryd.prog.funcNamed Tryd.f6.name = some 6 by kernel_rfl).symm.trans hf) |>.symm
      obtain rfl : fn = Tryd.f6 := (Option.some.inj (Tryd.func6.symm.trans hfn)).symm
      exact ⟨by kernel_rfl, fun j t ht => by
        have hall : (Tryd.f6.params.toList.all fun u => !Tryd.prog.wantsStandIn u) = true := by kernel_rfl
        have hm : t ∈ Tryd.f6.params.toList := Array.mem_toList_iff.2 (Array.mem_of_getElem? ht)
        exact (show Tryd.prog.wantsStandIn t = false by simpa using List.all_eq_true.1 hall t hm)⟩)
    (by kernel_rfl)
#print axioms defenceCalms_card
end Go.Proofs.YtinefblphbicaaaDoor
