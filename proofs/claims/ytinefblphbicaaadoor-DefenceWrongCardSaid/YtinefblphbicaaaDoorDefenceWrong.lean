/- DefenceWrong: for any way and any integer the statement returns true: watches with one defect, inputs of other clients, times that go back, and flags that there are not are rejected. Condition: the table of the costs of flags is laid as the program's text lays it (the card ties that). -/
import Derived.Test.YtinefblphbicaaaDoorH25
import Derived.Test.YtinefblphbicaaaDoorH23
import Derived.Test.YtinefblphbicaaaDoorCards
import Derived.Test.YtinefblphbicaaaDoorTie
namespace Go.Proofs.YtinefblphbicaaaDoor
open Go.ChangeShapes Go.WideShapes Go.ChangeAt Go.RowKit

set_option maxRecDepth 100000 in
theorem defenceWrong_lifted (os : Os) (started : os.Started) (H : Type) (enc : TypeId × Value → H) :
    ReturnsInHanded {} Tryd.checked os 7 .any (fun w args => (Rows.defenceWrongSpec.pre enc Tryd.prog Tryd.f7 [] false w args ∧ laidMetH Tryd.prog laidCosts w) ∧ sizedMet enc Tryd.prog Tryd.f7 (OpenSpec.ofChange Rows.defenceWrongSpec) false w args)
      (Rows.defenceWrongSpec.post enc Tryd.prog Tryd.f7 false true false false) := by
  refine returnsInHanded_of_change_and (C := Tryd.checked) (X := fun w _ => laidMetH Tryd.prog laidCosts w) (fun _ _ _ hh h => h.of_heap hh) own started (by kernel_rfl) Tryd.func7
    (ChangeSpec.witness_shaped (enc := enc) (C := Tryd.checked) (os := os) (X := fun w _ => laidMetH Tryd.prog laidCosts w) false (World.doorLaid Tryd.prog 16 os) #[.int .u8 0, .int .i64 0] 8 rfl (World.shaped_of_RefB (by kernel_rfl) (by kernel_rfl)) (by kernel_rfl) (by kernel_rfl) (by kernel_rfl) (door_met os _)) ?_
  intro W base args ds gs before hval0 hW _ _ hL _
  have hval : ∀ (j : Nat) t v, Tryd.f7.params[j]? = some t → args[j]? = some v → Value.okWide Tryd.prog W .any base t v := hval0
  have hW' := hW
  obtain ⟨p, q, hA0, hV, rfl, hfz, hnd⟩ := hW
  have hA : DataW.TrodAll enc Tryd.prog W 0 (fun _ => true) true Tryd.f7.params.toList args.toList ds p := hA0
  have hx := args_fit (C := cx) (pts := [.int .u8, .int .i64]) (by kernel_rfl) (fun j t v h1 h2 => hval j t v (by simpa using h1) (by simpa using h2)) hA
  have hc := law_calls (C := cx) (f := 7) (rds2 (rdI .u8) (rdI .i64)) ⟨[], [15, 20], [], 10⟩ follows Tryd.func7 (by kernel_rfl) (grd_of_laid hL) rfl hx (fun ⟨a, b⟩ ha => by
    obtain ⟨⟨-, h1⟩, ⟨-, h2⟩, -⟩ := ha
    exact wrong_walk a b h1 h2)
  have e : args.toList.toArray = args := by simp
  rw [e] at hc
  refine hc.mono fun e W' ⟨he, hg⟩ => ?_
  subst he
  obtain ⟨d0, d1, rfl⟩ : ∃ d0 d1, ds = [d0, d1] := by
    have hlen := trodAll_len (C := cx) hA
    match ds, hlen with
    | [d0, d1], _ => exact ⟨d0, d1, rfl⟩
  exact ⟨_, rfl, law_post laidOutProg (by kernel_rfl) rfl Tryd.underlying4 rfl ⟨rfl, rfl, rfl⟩ hW' hg⟩

theorem defenceWrong_said : Rows.DefenceWrongSaid :=
  OpenClaim.holds_of_wide 7 Tryd.f7 rfl rfl rfl rfl rfl rfl rfl ⟨rfl, rfl, rfl, rfl, rfl⟩ rfl rfl rfl rfl rfl (by kernel_rfl) Tryd.func7 (by kernel_rfl)
    (of_decide_eq_true (by kernel_rfl)) (by unfold Func.isWrapper; first | (rw [if_pos (by decide +kernel)]; kernel_rfl) | (rw [if_neg (by decide +kernel)]; exact ⟨rfl, rfl⟩))
    (fun os started H enc _ => defenceWrong_lifted os started H enc)

theorem defenceWrong_card : Rows.DefenceWrongCardSaid :=
  Claim7.holds_tied_plain_at .later [] [.data] true (true, "cee33eaf339ec6ed271434a119952cd75efe61c16cf2ed5f362c72f3cba3bc7f") false
    defenceWrong_said (fun _ h => by cases h) (by kernel_rfl) (fun _ h => by cases h) defenceWrong_row_tie rfl ⟨rfl, rfl⟩ (by kernel_rfl) rfl
    (fun f fn hf hfn => by
      obtain rfl : f = 7 := Option.some.inj ((show Tryd.prog.funcNamed Tryd.f7.name = some 7 by kernel_rfl).symm.trans hf) |>.symm
      obtain rfl : fn = Tryd.f7 := (Option.some.inj (Tryd.func7.symm.trans hfn)).symm
      exact ⟨by kernel_rfl, fun j t ht => by
        have hall : (Tryd.f7.params.toList.all fun u => !Tryd.prog.wantsStandIn u) = true := by kernel_rfl
        have hm : t ∈ Tryd.f7.params.toList := Array.mem_toList_iff.2 (Array.mem_of_getElem? ht)
        exact (show Tryd.prog.wantsStandIn t = false by simpa using List.all_eq_true.1 hall t hm)⟩)
    (by kernel_rfl)
#print axioms defenceWrong_card
end Go.Proofs.YtinefblphbicaaaDoor
