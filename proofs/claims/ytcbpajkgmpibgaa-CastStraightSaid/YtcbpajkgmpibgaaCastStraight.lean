/- CastStraight: for any form and any numbers the statement returns true: what a segment along X meets, and where. No condition. -/
import Derived.Test.YtcbpajkgmpibgaaC24
import Derived.Test.YtcbpajkgmpibgaaG20
import Derived.Test.YtcbpajkgmpibgaaL0
namespace Go.Proofs.Ytcbpajkgmpibgaa
open Go.ChangeShapes Go.WideShapes Go.ChangeAt Go.RowKit

set_option maxRecDepth 100000 in
theorem castStraight_lifted (os : Os) (started : os.Started) (H : Type) (enc : TypeId × Value → H) :
    ReturnsInHanded {} Try.checked os 8 .any (Rows.castStraightSpec.pre6 enc Try.prog Try.f8 Rows.castStraightRow.domain false) (Rows.castStraightSpec.post enc Try.prog Try.f8 false true false false) := by
  refine returnsInHanded_of_change (C := Try.checked) own started (by kernel_rfl) Try.func8
    (ChangeSpec.witness6 (enc := enc) (C := Try.checked) false ⟨#[], #[.agg #[.int .i8 0, .int .i8 0, .int .u8 0, .int .u8 0, .bool false], .int .i8 0, .int .i8 0, .int .u16 0], []⟩ 8 (by kernel_rfl) (by kernel_rfl) (by kernel_rfl) (by kernel_rfl)) ?_
  intro W base args ds gs before hval0 hW _ _
  have hval : ∀ (j : Nat) t v, Try.f8.params[j]? = some t → args[j]? = some v → Value.okWide Try.prog W .any base t v := hval0
  have hW' := hW
  obtain ⟨p, q, hA0, hV, rfl, hfz, hnd⟩ := hW
  have hA : DataW.TrodAll enc Try.prog W 0 (fun _ => true) true Try.f8.params.toList args.toList ds p := hA0
  have hx := args_fit (C := cx) (pts := [.agg [.int .i8, .int .i8, .int .u8, .int .u8, .bool], .int .i8, .int .i8, .int .u16]) (by kernel_rfl) (fun j t v h1 h2 => hval j t v (by simpa using h1) (by simpa using h2)) hA
  have hc := law_calls (C := cx) (f := 8) (rds4 rdForm (rdI .i8) (rdI .i8) (rdI .u16)) ⟨[], [12], [18], 0⟩ follows Try.func8 (by kernel_rfl) ⟨Nat.zero_le _, fun b sb h => by cases h⟩ rfl hx (fun ⟨f, x, y, l⟩ ha => by
    obtain ⟨⟨⟨-, f1⟩, ⟨-, f2⟩, ⟨-, f3⟩, ⟨-, f4⟩, -⟩, ⟨-, h1⟩, ⟨-, h2⟩, ⟨-, h3⟩, -⟩ := ha
    exact straight_walk f x y l ⟨f1, f2, f3, f4⟩ h1 h2 h3)
  have e : args.toList.toArray = args := by simp
  rw [e] at hc
  refine hc.mono fun e W' ⟨he, hg⟩ => ?_
  subst he
  obtain ⟨d0, d1, d2, d3, rfl⟩ : ∃ d0 d1 d2 d3, ds = [d0, d1, d2, d3] := by
    have hlen := trodAll_len (C := cx) hA
    match ds, hlen with
    | [d0, d1, d2, d3], _ => exact ⟨d0, d1, d2, d3, rfl⟩
  exact ⟨_, rfl, law_post laidOutProg (by kernel_rfl) rfl Try.underlying4 rfl ⟨rfl, rfl, rfl⟩ hW' hg⟩

theorem castStraight_said : Rows.CastStraightSaid :=
  OpenClaim.holds_of_wide 8 Try.f8 rfl rfl rfl rfl rfl rfl rfl ⟨rfl, rfl, rfl, rfl, rfl⟩ rfl rfl rfl rfl rfl (by kernel_rfl) Try.func8 (by kernel_rfl)
    (of_decide_eq_true (by kernel_rfl)) (by unfold Func.isWrapper; first | (rw [if_pos (by decide +kernel)]; kernel_rfl) | (rw [if_neg (by decide +kernel)]; exact ⟨rfl, rfl⟩))
    (fun os started H enc _ => castStraight_lifted os started H enc)
#print axioms castStraight_said
end Go.Proofs.Ytcbpajkgmpibgaa
