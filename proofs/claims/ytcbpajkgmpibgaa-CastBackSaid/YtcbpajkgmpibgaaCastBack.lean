/- CastBack: for any forms and any numbers the statement returns true: a segment and its reverse meet the same bodies, and so do those that are shifted, mirrored or turned. No condition. -/
import Derived.Test.YtcbpajkgmpibgaaC31
import Derived.Test.YtcbpajkgmpibgaaG20
import Derived.Test.YtcbpajkgmpibgaaL0
namespace Go.Proofs.Ytcbpajkgmpibgaa
open Go.ChangeShapes Go.WideShapes Go.ChangeAt Go.RowKit

set_option maxRecDepth 100000 in
theorem castBack_lifted (os : Os) (started : os.Started) (H : Type) (enc : TypeId × Value → H) :
    ReturnsInHanded {} Try.checked os 4 .any (Rows.castBackSpec.pre6 enc Try.prog Try.f4 Rows.castBackRow.domain false) (Rows.castBackSpec.post enc Try.prog Try.f4 false true false false) := by
  refine returnsInHanded_of_change (C := Try.checked) own started (by kernel_rfl) Try.func4
    (ChangeSpec.witness6 (enc := enc) (C := Try.checked) false ⟨#[], #[.slice none 0 0, .int .i8 0, .int .i8 0, .int .i8 0, .int .i8 0, .int .i16 0, .int .i16 0], []⟩ 8 (by kernel_rfl) (by kernel_rfl) (by kernel_rfl) (by kernel_rfl)) ?_
  intro W base args ds gs before hval0 hW _ _
  have hval : ∀ (j : Nat) t v, Try.f4.params[j]? = some t → args[j]? = some v → Value.okWide Try.prog W .any base t v := hval0
  have hW' := hW
  obtain ⟨p, q, hA0, hV, rfl, hfz, hnd⟩ := hW
  have hA : DataW.TrodAll enc Try.prog W 0 (fun _ => true) true Try.f4.params.toList args.toList ds p := hA0
  have hx := args_fit (C := cx) (pts := [.sl 5 [.int .i8, .int .i8, .int .u8, .int .u8, .bool], .int .i8, .int .i8, .int .i8, .int .i8, .int .i16, .int .i16]) (by kernel_rfl) (fun j t v h1 h2 => hval j t v (by simpa using h1) (by simpa using h2)) hA
  have hc := law_calls (C := cx) (f := 4) (rds7 rdForms (rdI .i8) (rdI .i8) (rdI .i8) (rdI .i8) (rdI .i16) (rdI .i16)) ⟨[], [38], [10, 14, 23, 27], 4⟩ follows Try.func4 (by kernel_rfl) ⟨Nat.zero_le _, fun b sb h => by cases h⟩ rfl hx (fun ⟨⟨n, F⟩, x, y, dx, dy, s, t⟩ ha => by
    obtain ⟨⟨-, fa, fb⟩, ⟨-, h1⟩, ⟨-, h2⟩, ⟨-, h3⟩, ⟨-, h4⟩, ⟨-, h5⟩, ⟨-, h6⟩, -⟩ := ha
    have fa : n ≤ maxLen := fa
    have hn : (n : Int) ≤ 9223372036854775807 := by simp only [maxLen] at fa; omega
    have hF : ∀ i, i < madeN n → (F i).Ok := fun i hi => by
      obtain ⟨⟨-, f1⟩, ⟨-, f2⟩, ⟨-, f3⟩, ⟨-, f4⟩, -⟩ := fb i (show i < n by unfold madeN at hi; split at hi <;> omega)
      exact ⟨f1, f2, f3, f4⟩
    exact back_walk n F x y dx dy s t hn hF h1 h2 h3 h4 h5 h6)
  have e : args.toList.toArray = args := by simp
  rw [e] at hc
  refine hc.mono fun e W' ⟨he, hg⟩ => ?_
  subst he
  obtain ⟨d0, d1, d2, d3, d4, d5, d6, rfl⟩ : ∃ d0 d1 d2 d3 d4 d5 d6, ds = [d0, d1, d2, d3, d4, d5, d6] := by
    have hlen := trodAll_len (C := cx) hA
    match ds, hlen with
    | [d0, d1, d2, d3, d4, d5, d6], _ => exact ⟨d0, d1, d2, d3, d4, d5, d6, rfl⟩
  exact ⟨_, rfl, law_post laidOutProg (by kernel_rfl) rfl Try.underlying4 rfl ⟨rfl, rfl, rfl⟩ hW' hg⟩

theorem castBack_said : Rows.CastBackSaid :=
  OpenClaim.holds_of_wide 4 Try.f4 rfl rfl rfl rfl rfl rfl rfl ⟨rfl, rfl, rfl, rfl, rfl⟩ rfl rfl rfl rfl rfl (by kernel_rfl) Try.func4 (by kernel_rfl)
    (of_decide_eq_true (by kernel_rfl)) (by unfold Func.isWrapper; first | (rw [if_pos (by decide +kernel)]; kernel_rfl) | (rw [if_neg (by decide +kernel)]; exact ⟨rfl, rfl⟩))
    (fun os started H enc _ => castBack_lifted os started H enc)
#print axioms castBack_said
end Go.Proofs.Ytcbpajkgmpibgaa
