/- DefenceDiffers: for any lists of digests, any place and any change the statement returns true: lists differ at no index exactly if they are equal; the first difference is the same the other way round; whatever stands behind it does not matter. Condition: the table of the costs of flags is laid as the program's text lays it (the card ties that). -/
import Derived.Test.YtinefblphbicaaaDoorH20
import Derived.Test.YtinefblphbicaaaDoorH23
import Derived.Test.YtinefblphbicaaaDoorCards
import Derived.Test.YtinefblphbicaaaDoorTie
namespace Go.Proofs.YtinefblphbicaaaDoor
open Go.ChangeShapes Go.WideShapes Go.ChangeAt Go.RowKit

set_option maxRecDepth 100000 in
theorem defenceDiffers_lifted (os : Os) (started : os.Started) (H : Type) (enc : TypeId × Value → H) :
    ReturnsInHanded {} Tryd.checked os 5 .any (fun w args => (Rows.defenceDiffersSpec.pre enc Tryd.prog Tryd.f5 [] false w args ∧ laidMetH Tryd.prog laidCosts w) ∧ sizedMet enc Tryd.prog Tryd.f5 (OpenSpec.ofChange Rows.defenceDiffersSpec) false w args)
      (Rows.defenceDiffersSpec.post enc Tryd.prog Tryd.f5 false true false false) := by
  refine returnsInHanded_of_change_and (C := Tryd.checked) (X := fun w _ => laidMetH Tryd.prog laidCosts w) (fun _ _ _ hh h => h.of_heap hh) own started (by kernel_rfl) Tryd.func5
    (ChangeSpec.witness_shaped (enc := enc) (C := Tryd.checked) (os := os) (X := fun w _ => laidMetH Tryd.prog laidCosts w) false (World.doorLaid Tryd.prog 16 os) #[.slice none 0 0, .slice none 0 0, .int .u8 0, .int .u64 0] 8 rfl (World.shaped_of_RefB (by kernel_rfl) (by kernel_rfl)) (by kernel_rfl) (by kernel_rfl) (by kernel_rfl) (door_met os _)) ?_
  intro W base args ds gs before hval0 hW _ _ hL _
  have hval : ∀ (j : Nat) t v, Tryd.f5.params[j]? = some t → args[j]? = some v → Value.okWide Tryd.prog W .any base t v := hval0
  have hW' := hW
  obtain ⟨p, q, hA0, hV, rfl, hfz, hnd⟩ := hW
  have hA : DataW.TrodAll enc Tryd.prog W 0 (fun _ => true) true Tryd.f5.params.toList args.toList ds p := hA0
  have hx := args_fit (C := cx) (pts := [.sl 1 [.int .u64], .sl 1 [.int .u64], .int .u8, .int .u64]) (by kernel_rfl) (fun j t v h1 h2 => hval j t v (by simpa using h1) (by simpa using h2)) hA
  have hc := law_calls (C := cx) (f := 5) (rds4 (rdF .u64) (rdF .u64) (rdI .u8) (rdI .u64)) ⟨[1003], [10], [], 0⟩ follows Tryd.func5 (by kernel_rfl) (grd_of_laid hL) rfl hx (fun ⟨L, R, a, b⟩ ha => by
    obtain ⟨⟨-, h1, h2⟩, ⟨-, h3, h4⟩, ⟨-, h5⟩, ⟨-, h6⟩, -⟩ := ha
    simp only [maxLen] at h1 h3
    have h6 : 0 ≤ b ∧ b ≤ 18446744073709551615 := h6
    refine differs_walk L R a b (by omega) (by omega) h5 (by omega) (fun i hi => ?_) fun i hi => ?_
    · have h : 0 ≤ L.g i ∧ L.g i ≤ 18446744073709551615 := (h2 i hi).1.2
      omega
    · have h : 0 ≤ R.g i ∧ R.g i ≤ 18446744073709551615 := (h4 i hi).1.2
      omega)
  have e : args.toList.toArray = args := by simp
  rw [e] at hc
  refine hc.mono fun e W' ⟨he, hg⟩ => ?_
  subst he
  obtain ⟨d0, d1, d2, d3, rfl⟩ : ∃ d0 d1 d2 d3, ds = [d0, d1, d2, d3] := by
    have hlen := trodAll_len (C := cx) hA
    match ds, hlen with
    | [d0, d1, d2, d3], _ => exact ⟨d0, d1, d2, d3, rfl⟩
  exact ⟨_, rfl, law_post laidOutProg (by kernel_rfl) rfl Tryd.underlying4 rfl ⟨rfl, rfl, rfl⟩ hW' hg⟩

theorem defenceDiffers_said : Rows.DefenceDiffersSaid :=
  OpenClaim.holds_of_wide 5 Tryd.f5 rfl rfl rfl rfl rfl rfl rfl ⟨rfl, rfl, rfl, rfl, rfl⟩ rfl rfl rfl rfl rfl (by kernel_rfl) Tryd.func5 (by kernel_rfl)
    (of_decide_eq_true (by kernel_rfl)) (by unfold Func.isWrapper; first | (rw [if_pos (by decide +kernel)]; kernel_rfl) | (rw [if_neg (by decide +kernel)]; exact ⟨rfl, rfl⟩))
    (fun os started H enc _ => defenceDiffers_lifted os started H enc)

theorem defenceDiffers_card : Rows.DefenceDiffersCardSaid :=
  Claim7.holds_tied_plain_at .later [] [.data] true (true, "cee33eaf339ec6ed271434a119952cd75efe61c16cf2ed5f362c72f3cba3bc7f") false
    defenceDiffers_said (fun _ h => by cases h) (by kernel_rfl) (fun _ h => by cases h) defenceDiffers_row_tie rfl ⟨rfl, rfl⟩ (by kernel_rfl) rfl
    (fun f fn hf hfn => by
      obtain rfl : f = 5 := Option.some.inj ((show Tryd.prog.funcNamed Tryd.f5.name = some 5 by kernel_rfl).symm.trans hf) |>.symm
      obtain rfl : fn = Tryd.f5 := (Option.some.inj (Tryd.func5.symm.trans hfn)).symm
      exact ⟨by kernel_rfl, fun j t ht => by
        have hall : (Tryd.f5.params.toList.all fun u => !Tryd.prog.wantsStandIn u) = true := by kernel_rfl
        have hm : t ∈ Tryd.f5.params.toList := Array.mem_toList_iff.2 (Array.mem_of_getElem? ht)
        exact (show Tryd.prog.wantsStandIn t = false by simpa using List.all_eq_true.1 hall t hm)⟩)
    (by kernel_rfl)
#print axioms defenceDiffers_card
end Go.Proofs.YtinefblphbicaaaDoor
