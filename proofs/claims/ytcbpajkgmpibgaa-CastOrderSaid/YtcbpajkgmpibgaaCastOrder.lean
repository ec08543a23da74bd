/- CastOrder: for any forms and any numbers the statement returns true: Hits has each body that is met once, and orders them rightly. No condition. -/
import Derived.Test.YtcbpajkgmpibgaaC28
import Derived.Test.YtcbpajkgmpibgaaG20
import Derived.Test.YtcbpajkgmpibgaaL0
namespace Go.Proofs.Ytcbpajkgmpibgaa
open Go.ChangeShapes Go.WideShapes Go.ChangeAt Go.RowKit

set_option maxRecDepth 100000 in
theorem castOrder_lifted (os : Os) (started : os.Started) (H : Type) (enc : TypeId × Value → H) :
    ReturnsInHanded {} Try.checked os 3 .any (Rows.castOrderSpec.pre6 enc Try.prog Try.f3 Rows.castOrderRow.domain false) (Rows.castOrderSpec.post enc Try.prog Try.f3 false true false false) := by
  refine returnsInHanded_of_change (C := Try.checked) own started (by kernel_rfl) Try.func3
    (ChangeSpec.witness6 (enc := enc) (C := Try.checked) false ⟨#[], #[.slice none 0 0, .int .i8 0, .int .i8 0, .int .i8 0, .int .i8 0], []⟩ 8 (by kernel_rfl) (by kernel_rfl) (by kernel_rfl) (by kernel_rfl)) ?_
  intro W base args ds gs before hval0 hW _ _
  have hval : ∀ (j : Nat) t v, Try.f3.params[j]? = some t → args[j]? = some v → Value.okWide Try.prog W .any base t v := hval0
  have hW' := hW
  obtain ⟨p, q, hA0, hV, rfl, hfz, hnd⟩ := hW
  have hA : DataW.TrodAll enc Try.prog W 0 (fun _ => true) true Try.f3.params.toList args.toList ds p := hA0
  have hx := args_fit (C := cx) (pts := [.sl 5 [.int .i8, .int .i8, .int .u8, .int .u8, .bool], .int .i8, .int .i8, .int .i8, .int .i8]) (by kernel_rfl) (fun j t v h1 h2 => hval j t v (by simpa using h1) (by simpa using h2)) hA
  have hc := law_calls (C := cx) (f := 3) (rds5 rdForms (rdI .i8) (rdI .i8) (rdI .i8) (rdI .i8)) ⟨[], [], [10, 17, 32, 37, 46], 0⟩ follows Try.func3 (by kernel_rfl) ⟨Nat.zero_le _, fun b sb h => by cases h⟩ rfl hx (fun ⟨⟨n, F⟩, x, y, dx, dy⟩ ha => by
    obtain ⟨⟨-, fa, fb⟩, ⟨-, h1⟩, ⟨-, h2⟩, ⟨-, h3⟩, ⟨-, h4⟩, -⟩ := ha
    have fa : n ≤ maxLen := fa
    have hn : (n : Int) ≤ 9223372036854775807 := by simp only [maxLen] at fa; omega
    have hF : ∀ i, i < madeN n → (F i).Ok := fun i hi => by
      obtain ⟨⟨-, f1⟩, ⟨-, f2⟩, ⟨-, f3⟩, ⟨-, f4⟩, -⟩ := fb i (show i < n by unfold madeN at hi; split at hi <;> omega)
      exact ⟨f1, f2, f3, f4⟩
    exact order_walk n F x y dx dy hn hF h1 h2 h3 h4)
  have e : args.toList.toArray = args := by simp
  rw [e] at hc
  refine hc.mono fun e W' ⟨he, hg⟩ => ?_
  subst he
  obtain ⟨d0, d1, d2, d3, d4, rfl⟩ : ∃ d0 d1 d2 d3 d4, ds = [d0, d1, d2, d3, d4] := by
    have hlen := trodAll_len (C := cx) hA
    match ds, hlen with
    | [d0, d1, d2, d3, d4], _ => exact ⟨d0, d1, d2, d3, d4, rfl⟩
  exact ⟨_, rfl, law_post laidOutProg (by kernel_rfl) rfl Try.underlying4 rfl ⟨rfl, rfl, rfl⟩ hW' hg⟩

theorem castOrder_said : Rows.CastOrderSaid :=
  OpenClaim.holds_of_wide 3 Try.f3 rfl rfl rfl rfl rfl rfl rfl ⟨rfl, rfl, rfl, rfl, rfl⟩ rfl rfl rfl rfl rfl (by kernel_rfl) Try.func3 (by kernel_rfl)
    (of_decide_eq_true (by kernel_rfl)) (by unfold Func.isWrapper; first | (rw [if_pos (by decide +kernel)]; kernel_rfl) | (rw [if_neg (by decide +kernel)]; exact ⟨rfl, rfl⟩))
    (fun os started H enc _ => castOrder_lifted os started H enc)
#print axioms castOrder_said
end Go.Proofs.Ytcbpajkgmpibgaa
