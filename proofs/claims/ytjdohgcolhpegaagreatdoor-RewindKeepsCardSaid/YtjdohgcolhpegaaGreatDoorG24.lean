/- A symbolic executor with lists, 25: calls whose effect is said by hand: a function that inserts, at the end of a list. -/
import Derived.Test.YtjdohgcolhpegaaGreatDoorG23
namespace Go.Proofs.YtjdohgcolhpegaaGreatDoor
open Go.RowKit

def endD {PP : Program} (C : Cx PP) (t : Nat) (H : Heap) (nm : Nat) : List SV → Option DR
  | [x, i, y] => match x, i.int?, y with
    | .g l ep sz 0 n, some (.i64, v), .s m2 sz2 off2 1 c2 => match Nat.ble 1 c2, (match appD C H nm t (.g l ep sz 0 n) (.s m2 sz2 off2 1 c2) with | some r => some r | none => appN C H nm t (.g l ep sz 0 n) (.s m2 sz2 off2 1 c2)) with
      | true, some r => some ⟨some (owed r.ob ∧ v = (n : Int) ∧ (n : Int) ≤ 9223372036854775807), r.v, r.w, r.fr⟩
      | _, _ => none
    | _, _, _ => none
  | _ => none
section
variable {PP : Program} {C : Cx PP} {ρ : Names} {W : World} {H : Heap} {nm : Nat}
theorem endD_ok {t f0 : Nat} (hap : ∀ (W W' : World) (a a2 : Option Addr) (n cap c2 : Nat) (w : Value), n ≤ cap → (n : Int) ≤ 9223372036854775807 → 1 ≤ c2 → (Builtin.append_ #[t, t] t #[.slice a n cap, .slice a2 1 c2]).run C.P W = .ok w W' →
      Calls C.P f0 #[.slice a n cap, .int .i64 n, .slice a2 1 c2] W fun e W'' => e = .returned w ∧ W'' = W')
    (hH : HOk C H ρ W) {al : List SV} {vs : List Value} {r : DR} (hf : r.fr = true → ρ.v nm = none) (hd : denL ρ al vs) (hD : endD C t H nm al = some r) (ho : r.Ob) :
    Calls C.P f0 vs.toArray W fun e W' => ∃ val, e = .returned val ∧ DPost C ρ W nm r val W' := by
  unfold endD at hD
  split at hD
  · rename_i x i y
    split at hD
    · rename_i l ep sz n v m2 sz2 off2 c2 hi
      split at hD
      · rename_i r0 hc hr0
        have hc := Nat.le_of_ble_eq_true hc
        obtain rfl := Option.some.inj hD
        obtain ⟨ho1, ho2, ho3⟩ : owed r0.ob ∧ v = (n : Int) ∧ (n : Int) ≤ 9223372036854775807 := ho
        subst ho2
        have hfr : r0.fr = true := by
          split at hr0
          · rename_i r' hr
            obtain rfl := Option.some.inj hr0
            exact appD_fr hr
          · exact appN_fr hr0
        have hv0 : ρ.v nm = none := hf hfr
        obtain ⟨u1, us1, rfl, d1, e1⟩ := denL_cons hd
        obtain ⟨u2, us2, rfl, d2, e2⟩ := denL_cons e1
        obtain ⟨u3, us3, rfl, d3, e3⟩ := denL_cons e2
        obtain rfl := denL_nil e3
        obtain rfl := SV.int?_den hi d2
        obtain ⟨w, W', k1, k2⟩ : ∃ w W', (Builtin.append_ #[t, t] t #[u1, u3]).run C.P W = .ok w W' ∧ DPost C ρ W nm r0 w W' := by
          split at hr0
          · rename_i r' hr
            obtain rfl := Option.some.inj hr0
            exact app_ok hH hv0 hr ho1 d1 d3
          · exact appN_ok hH hv0 hr0 ho1 d1 d3
        obtain ⟨lv, q1, q2, q3, q4, a', rfl, q6⟩ := d1
        obtain ⟨b, q7, rfl⟩ := d3
        refine (hap W W' a' _ n (lv.cap - 0) c2 w (by omega) ho3 hc k1).mono ?_
        rintro e W2 ⟨rfl, rfl⟩
        exact ⟨w, rfl, k2⟩
      · cases hD
    · cases hD
  · cases hD
/-- The contract of such a function. -/
def conEnd (t f0 : Nat) (en : ∀ (args : Array Value) (w : World), (callFunc f0 args).run C.P w = .ok (.enter f0 args) w)
    (hap : ∀ (W W' : World) (a a2 : Option Addr) (n cap c2 : Nat) (w : Value), n ≤ cap → (n : Int) ≤ 9223372036854775807 → 1 ≤ c2 → (Builtin.append_ #[t, t] t #[.slice a n cap, .slice a2 1 c2]).run C.P W = .ok w W' →
      Calls C.P f0 #[.slice a n cap, .int .i64 n, .slice a2 1 c2] W fun e W'' => e = .returned w ∧ W'' = W') : Con C where
  f := f0
  en := en
  run := fun _ => none
  fresh := false
  own := none
  eff := some (endD C t)
  ok := fun _ _ _ _ _ _ _ _ _ h => by cases h
  effOk := fun g hg ρ W H nm args vs r hH hf hd hD ho => by
    obtain rfl := Option.some.inj hg
    exact endD_ok hap hH hf hd hD ho
end
end Go.Proofs.YtjdohgcolhpegaaGreatDoor
