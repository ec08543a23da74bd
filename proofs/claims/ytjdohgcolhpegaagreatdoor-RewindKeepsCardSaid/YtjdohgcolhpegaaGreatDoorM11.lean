/- interest: sees, Sees. step: first, body. -/
import Derived.Test.YtjdohgcolhpegaaGreatDoorM2
import Derived.Test.YtjdohgcolhpegaaGreatDoorM4
namespace Go.Proofs.YtjdohgcolhpegaaGreatDoor
open Go.RowKit

def Vec.inW (p : Vec) : Prop := (-1048576 ≤ p.x ∧ p.x ≤ 1048576) ∧ -1048576 ≤ p.y ∧ p.y ≤ 1048576
def distF (a b : Vec) : Int := Df.wSat (Df.wFar (Df.wDiff b.x a.x) (Df.wDiff b.y a.y))
theorem far_small {a b : Vec} (ha : a.inW) (hb : b.inW) : (Df.wFar (Df.wDiff b.x a.x) (Df.wDiff b.y a.y)).small := by
  obtain ⟨⟨a1, a2⟩, a3, a4⟩ := ha
  obtain ⟨⟨b1, b2⟩, b3, b4⟩ := hb
  unfold Df.wFar Df.W.small Df.wDiff
  split <;> (dsimp only; omega)
theorem Vec.inW.x {p : Vec} (h : p.inW) : InR p.x := by obtain ⟨⟨a1, a2⟩, a3, a4⟩ := h; unfold InR; omega
theorem Vec.inW.y {p : Vec} (h : p.inW) : InR p.y := by obtain ⟨⟨a1, a2⟩, a3, a4⟩ := h; unfold InR; omega
/-- The point that a closure has captured. -/
def rpV : SV → Vec
  | .rp l _ => Vec.of (.agg l)
  | _ => ⟨0, 0⟩
def kxV : SV → Vec
  | .f _ _ (y :: _) => rpV y
  | _ => ⟨0, 0⟩
/-- Is an entity hidden from a client? -/
def hideB (c : Int) (e : Ent) : Bool := (cmpF e.l 5).2 && decide (¬ bitsI .and .i64 (cmpF e.l 5).1.v0 (IntKind.i64.wrap (1 * 2 ^ min c.toNat 64)) = 0)
def seesF (y : Eye) (e : Ent) : Bool := match ownsF y.client e with
  | true => true
  | false => match hideB y.client e with
    | true => false
    | false => (pointF e).2 && anyN (fun i => decide (distF (pointF e).1 (y.p.v i) ≤ 16384)) 0 y.p.n
def Eye.Ok (y : Eye) : Prop := 0 ≤ y.client ∧ (y.p.n : Int) ≤ bigN ∧ ∀ i, i < y.p.n → (y.p.v i).inW
theorem cmpF_hit {l : Cms} {q : Int} (h : (cmpF l q).2 = true) : ∃ i, i < l.n ∧ (cmpF l q).1 = l.c i ∧ (l.c i).kind = q := by
  unfold cmpF at *
  by_cases hi : ixN (fun i => decide ((l.c i).kind = q)) 0 l.n < l.n
  · have h1 := ixN_hit (g := fun i => decide ((l.c i).kind = q)) (r := l.n) (k := 0) (by omega)
    rw [decide_eq_true hi]
    exact ⟨_, hi, rfl, of_decide_eq_true h1⟩
  · rw [decide_eq_false hi] at h
    cases h
theorem Ent.Right.point {e : Ent} (hr : e.Right) (h : (pointF e).2 = true) : (pointF e).1.inW := by
  have h : (cmpF e.l 1).2 = true := h
  obtain ⟨i, h1, h2, h3⟩ := cmpF_hit h
  have hf := (hr.fits i h1).2.2.1 h3
  have hx : (pointF e).1 = ⟨(e.l.c i).v0, (e.l.c i).v1⟩ := by unfold pointF; rw [h2]
  rw [hx]
  exact ⟨⟨hf.1, hf.2.1⟩, hf.2.2.1, hf.2.2.2.1⟩
theorem eye_ok {w : Wor} {c : Int} (hv : w.Valid) (hc : 0 ≤ c) : (eyeOf w c).Ok := by
  have hlen := filtM_len (f := fun i => (pointF (w.l.e i)).1) (g := fun i => (pointF (w.l.e i)).2 && ownsF c (w.l.e i)) w.l.n
  have hn := hv.len
  refine ⟨hc, ?_, fun i hi => ?_⟩
  · show ((eyesL w.l c w.l.n).length : Int) ≤ bigN
    unfold eyesL bigN
    omega
  · have hi : i < (eyesL w.l c w.l.n).length := hi
    show ((eyesL w.l c w.l.n).getD i ⟨0, 0⟩).inW
    rw [List.getD_eq_getElem?_getD, List.getElem?_eq_getElem hi, Option.getD_some]
    obtain ⟨k, h1, h2, h3⟩ := (filtM_mem (x := (eyesL w.l c w.l.n)[i]) w.l.n).1 (List.getElem_mem hi)
    rw [h2]
    simp only [Bool.and_eq_true] at h3
    exact (hv.right k h1).point h3.1
theorem opB_no {w : Wor} {c : Int} (h : opB w c = false) : 1 ≤ c ∧ c ≤ 8 ∧ w.Valid := by
  unfold opB at h
  simp only [Bool.or_eq_false_iff, Bool.not_eq_false', decide_eq_false_iff_not] at h
  exact ⟨by omega, by omega, Wor.valid_iff.1 h.2⟩
theorem opE_err {w : Wor} {c : Int} : decide (¬ (opE w c).2 = 0) = opB w c := by
  unfold opE
  cases opB w c <;> rfl
def seesE (w : Wor) (c id : Int) : Bool × Int := match opB w c with
  | true => (false, 2)
  | false => match (findE w id).2 with
    | false => (false, 6)
    | true => (seesF (eyeOf w c) (w.l.e (findE w id).1), 0)
end Go.Proofs.YtjdohgcolhpegaaGreatDoor
namespace Go.Proofs.YtjdohgcolhpegaaGreatDoor
open Go.RowKit

set_option maxHeartbeats 2000000 in
set_option maxRecDepth 8000 in
theorem Fc1_walk : ∀ a, conj ((fun a => [∃ q, a.2 = .rp [.v (.int .u8 q)] 0]) a) → evFn (C := cx) [] [] 0 noHow Tryz.f116 ((rds2 rdComp rdX).enc a) fun v H _ => resOut ((fun a => .v (.bool (decide (a.1.kind = rkI a.2)))) a) H v := by
  intro ⟨c, x⟩ hx
  obtain ⟨q, hx⟩ : ∃ q, x = .rp [.v (.int .u8 q)] 0 := hx
  subst hx
  exact rfl
noncomputable def conFc1 : Con cx := walkCon 116 Tryz.call116 (rds2 rdComp rdX) (fun a => [∃ q, a.2 = .rp [.v (.int .u8 q)] 0]) (fun a => .v (.bool (decide (a.1.kind = rkI a.2)))) (fun _ => noHow) [] (fun _ => rfl) follows Tryz.func116 (by kernel_rfl) Fc1_walk
def ixcIxS (l : Cms) (q : Int) : Cut := ⟨Nat, fun k => k ≤ l.n ∧ ixN (fun i => decide ((l.c i).kind = q)) 0 l.n = ixN (fun i => decide ((l.c i).kind = q)) k (l.n - k),
  fun k => ⟨[sl 0 l.sv, sl 1 (.f (.func 116) [] [.rp [.v (.int .u8 q)] 0]), sl 7 (i64 l.n), sl 8 (i64 k)], [], 0, 0, [], []⟩, fun k => l.n - k⟩
set_option maxHeartbeats 2000000 in
set_option maxRecDepth 8000 in
theorem IxS_walk : ∀ a, conj ((fun a => [(a.1.n : Int) ≤ bigN, ∃ q, a.2 = (.f (.func 116) [] [.rp [.v (.int .u8 q)] 0])]) a) → evFn (C := cx) [conFc1] [] 0 ⟨[], [], [2], 0⟩ Tryz.f108 ((rds2 rdCms rdX).enc a) fun v H _ => resOut ((fun a => .v (.int .i64 (ixI (fun i => decide ((a.1.c i).kind = kxI a.2)) a.1.n))) a) H v := by
  intro ⟨l, x⟩ ⟨hm, hx⟩
  obtain ⟨q, hx⟩ : ∃ q, x = (.f (.func 116) [] [.rp [.v (.int .u8 q)] 0]) := hx
  subst hx
  replace hm : (l.n : Int) ≤ 9223372036854775807 := hm
  refine Exists.intro (ixcIxS l q) ?_
  refine And.intro ?_ ?_
  · refine ⟨(0 : Nat), [], [], trivial, ⟨Nat.zero_le _, rfl⟩, ?_⟩
    repeat' (first | (refine And.intro ?_ ?_) | (intro _) | exact rfl)
  refine fun (k : Nat) (hk : k ≤ l.n ∧ ixN (fun i => decide ((l.c i).kind = q)) 0 l.n = ixN (fun i => decide ((l.c i).kind = q)) k (l.n - k)) => ?_
  obtain ⟨k1, k2⟩ := hk
  refine And.intro (fun hb => ?_) (fun hb => ?_)
  · have hb : (k : Int) < l.n := of_decide_eq_true hb
    have e := ixN_step (g := (fun i => decide ((l.c i).kind = q))) (k := k) (n := l.n) (by omega)
    refine And.intro ⟨by omega, by omega⟩ ?_
    refine And.intro ⟨q, rfl⟩ ?_
    refine And.intro (fun hc => ?_) (fun hc => ?_)
    · have hc : (decide ((l.c k).kind = q)) = true := hc
      simp only [hc] at e
      exact ixI_yes (g := (fun i => decide ((l.c i).kind = q))) (n := l.n) (k2.trans e) (by omega)
    · have hc : (decide ((l.c k).kind = q)) = false := hc
      simp only [hc] at e
      refine And.intro (by unfold I64; omega : I64 ((k : Int) + 1)) ?_
      refine ⟨k + 1, [], [], (by show l.n - (k + 1) < l.n - k; omega), ⟨by omega, by rw [k2, e]⟩, ?_⟩
      repeat' (first | (refine And.intro ?_ ?_) | (intro _) | exact rfl)
  · have hb : ¬ (k : Int) < l.n := of_decide_eq_false hb
    refine ixI_none (g := (fun i => decide ((l.c i).kind = q))) (n := l.n) ?_
    rw [k2, show l.n - k = 0 by omega]
    show k = l.n
    omega
noncomputable def conIxS : Con cx := walkCon 108 Tryz.call108 (rds2 rdCms rdX) (fun a => [(a.1.n : Int) ≤ bigN, ∃ q, a.2 = (.f (.func 116) [] [.rp [.v (.int .u8 q)] 0])]) (fun a => .v (.int .i64 (ixI (fun i => decide ((a.1.c i).kind = kxI a.2)) a.1.n))) (fun _ => ⟨[], [], [2], 0⟩) [] (fun _ => rfl) follows Tryz.func108 (by kernel_rfl) IxS_walk
/-- Which of three components there are. -/
def selB (b1 b2 b3 : Bool) : Int → Bool
  | .ofNat 1 => b1
  | .ofNat 3 => b3
  | _ => b2
def outF (b : Bool) (c : Comp) : SV := match b with | true => .rp c.cells 0 | false => .v (.pointer none)
section
variable (b1 b2 b3 : Bool)
set_option maxHeartbeats 2000000 in
set_option maxRecDepth 8000 in
theorem SFirst_walk : ∀ a : Ent × Int, conj [(a.1.l.n : Int) ≤ bigN, selB b1 b2 b3 a.2 = (cmpF a.1.l a.2).2] → evFn (C := cx) [conIxS] [] 0 noHow Tryz.f88 ((rds2 rdEnt (rdI .u8)).enc a) fun v H _ => resOut (outF (selB b1 b2 b3 a.2) (cmpF a.1.l a.2).1) H v := by
  intro ⟨e, q⟩ ⟨hm, hs⟩
  replace hs : selB b1 b2 b3 q = (cmpF e.l q).2 := hs
  rw [hs]
  refine And.intro ⟨fun _ _ => trivial, hm, ⟨q, rfl⟩⟩ ?_
  replace hm : (e.l.n : Int) ≤ 9223372036854775807 := hm
  have hle := ixN_le (g := fun i => decide ((e.l.c i).kind = q)) (r := e.l.n) (k := 0)
  by_cases h : ixN (fun i => decide ((e.l.c i).kind = q)) 0 e.l.n < e.l.n
  · have ei : ixI (fun i => decide ((e.l.c i).kind = q)) e.l.n = (ixN (fun i => decide ((e.l.c i).kind = q)) 0 e.l.n : Nat) := ixI_yes rfl h
    have ec : cmpF e.l q = (e.l.c (ixN (fun i => decide ((e.l.c i).kind = q)) 0 e.l.n), true) := by unfold cmpF; rw [decide_eq_true h]
    simp only [ec]
    refine And.intro (fun hc => ?_) (fun hc => ?_)
    · have hc : decide (ixI (fun i => decide ((e.l.c i).kind = q)) e.l.n < 0) = true := hc
      rw [ei] at hc
      have := of_decide_eq_true hc
      omega
    · refine And.intro (show 0 ≤ ixI (fun i => decide ((e.l.c i).kind = q)) e.l.n ∧ ixI (fun i => decide ((e.l.c i).kind = q)) e.l.n < (e.l.n : Nat) by rw [ei]; omega) ?_
      have et : (ixI (fun i => decide ((e.l.c i).kind = q)) e.l.n).toNat = ixN (fun i => decide ((e.l.c i).kind = q)) 0 e.l.n := by rw [ei]; rfl
      repeat' (first | (refine And.intro ?_ ?_) | (intro _))
      all_goals first | exact rfl | exact congrArg (fun i => (e.l.c i).kind) et.symm | exact congrArg (fun i => (e.l.c i).v0) et.symm | exact congrArg (fun i => (e.l.c i).v1) et.symm | exact congrArg (fun i => (e.l.c i).v2) et.symm | exact congrArg (fun i => (e.l.c i).v3) et.symm
  · have ei : ixI (fun i => decide ((e.l.c i).kind = q)) e.l.n = -1 := ixI_none (by omega)
    have ec : cmpF e.l q = (Comp.no, false) := by unfold cmpF; rw [decide_eq_false h]
    simp only [ec]
    refine And.intro (fun hc => ?_) (fun hc => ?_)
    · repeat' (first | (refine And.intro ?_ ?_) | (intro _) | exact rfl)
    · have hc : decide (ixI (fun i => decide ((e.l.c i).kind = q)) e.l.n < 0) = false := hc
      rw [ei] at hc
      exact absurd hc (by decide)
noncomputable def conSFirst : Con cx := walkCon 88 Tryz.call88 (rds2 rdEnt (rdI .u8)) (fun a => [(a.1.l.n : Int) ≤ bigN, selB b1 b2 b3 a.2 = (cmpF a.1.l a.2).2]) (fun a => outF (selB b1 b2 b3 a.2) (cmpF a.1.l a.2).1) (fun _ => noHow) [] (fun _ => rfl) follows Tryz.func88 (by kernel_rfl) (SFirst_walk b1 b2 b3)
end
/-- A function out of a walk whose contracts depend on what it is handed. -/
def walkConD {α : Type} {Fs : List (FnI cx)} {d : Nat} (Γ : α → List (Con cx)) (f : FuncId) (en : ∀ (args : Array Value) (w : World), (callFunc f args).run cx.P w = .ok (.enter f args) w) (R : Rds α) (pre : α → List Prop) (out : α → SV) (h : α → How) (fl : List Nat) (hfl : ∀ a, (h a).fl = fl) (hm : cx.P.follows .mixedOrders = true) {fn : Func}
    (hf : cx.P.funcs[f]? = some fn) (hB : bodyB fl fn = true) (he : ∀ a, conj (pre a) → evFn (Γ a) Fs d (h a) fn (R.enc a) fun v H _ => resOut (out a) H v) : Con cx :=
  mkCon f en R pre out fun a ze W vs ha hG hz hd => calls_fn (h a) hm hf (by rw [hfl a]; exact hB) hG hz hd (he a ha)
def Body.no : Body := ⟨0, 0, 0, 0, 0, 0, 0, false, false⟩
/-- The body that an entity is. -/
def fixB' (e : Ent) : Bool := decide ((cmpF e.l 3).1.v3 = 1) || !(cmpF e.l 2).2
def bodyV (e : Ent) : Body := match fixB' e with
  | true => ⟨e.iD, (cmpF e.l 1).1.v0, (cmpF e.l 1).1.v1, 0, 0, (cmpF e.l 3).1.v0, (cmpF e.l 3).1.v1, decide ((cmpF e.l 3).1.v2 = 1), true⟩
  | false => ⟨e.iD, (cmpF e.l 1).1.v0, (cmpF e.l 1).1.v1, (cmpF e.l 2).1.v0, (cmpF e.l 2).1.v1, (cmpF e.l 3).1.v0, (cmpF e.l 3).1.v1, decide ((cmpF e.l 3).1.v2 = 1), false⟩
def bodyF (e : Ent) : Body × Bool := match (cmpF e.l 1).2 && (cmpF e.l 3).2 with
  | true => (bodyV e, true)
  | false => (Body.no, false)
set_option maxHeartbeats 2000000 in
set_option maxRecDepth 8000 in
theorem Body_walk : ∀ a : Ent, conj [(a.l.n : Int) ≤ bigN] → evFn (C := cx) [conSFirst (cmpF a.l 1).2 (cmpF a.l 2).2 (cmpF a.l 3).2] [] 0 ⟨[1002], [], [], 0⟩ Tryz.f58 ((rds1 rdEnt).enc a) fun v H _ => resOut (.tup [(bodyF a).1.sv, .v (.bool (bodyF a).2)]) H v := by
  intro e hm
  have h1 : (cmpF e.l 1).2 = (cmpF e.l 1).2 := rfl
  have h2 : (cmpF e.l 2).2 = (cmpF e.l 2).2 := rfl
  have h3 : (cmpF e.l 3).2 = (cmpF e.l 3).2 := rfl
  generalize hb1 : (cmpF e.l 1).2 = b1 at h1 ⊢
  generalize hb2 : (cmpF e.l 2).2 = b2 at h2 ⊢
  generalize hb3 : (cmpF e.l 3).2 = b3 at h3 ⊢
  clear h1 h2 h3
  cases b1 <;> cases b2 <;> cases b3
  · have hF : bodyF e = (Body.no, false) := by unfold bodyF; rw [hb1, hb3]; rfl
    simp only [hF]
    refine And.intro ⟨fun _ _ => trivial, hm, hb1.symm⟩ ?_
    refine And.intro ⟨fun _ _ => trivial, hm, hb3.symm⟩ ?_
    refine And.intro ⟨fun _ _ => trivial, hm, hb2.symm⟩ ?_
    repeat' (first | (refine And.intro ?_ ?_) | (intro _) | exact rfl)
  · have hF : bodyF e = (Body.no, false) := by unfold bodyF; rw [hb1, hb3]; rfl
    simp only [hF]
    refine And.intro ⟨fun _ _ => trivial, hm, hb1.symm⟩ ?_
    refine And.intro ⟨fun _ _ => trivial, hm, hb3.symm⟩ ?_
    refine And.intro ⟨fun _ _ => trivial, hm, hb2.symm⟩ ?_
    repeat' (first | (refine And.intro ?_ ?_) | (intro _) | exact rfl)
  · have hF : bodyF e = (Body.no, false) := by unfold bodyF; rw [hb1, hb3]; rfl
    simp only [hF]
    refine And.intro ⟨fun _ _ => trivial, hm, hb1.symm⟩ ?_
    refine And.intro ⟨fun _ _ => trivial, hm, hb3.symm⟩ ?_
    refine And.intro ⟨fun _ _ => trivial, hm, hb2.symm⟩ ?_
    repeat' (first | (refine And.intro ?_ ?_) | (intro _) | exact rfl)
  · have hF : bodyF e = (Body.no, false) := by unfold bodyF; rw [hb1, hb3]; rfl
    simp only [hF]
    refine And.intro ⟨fun _ _ => trivial, hm, hb1.symm⟩ ?_
    refine And.intro ⟨fun _ _ => trivial, hm, hb3.symm⟩ ?_
    refine And.intro ⟨fun _ _ => trivial, hm, hb2.symm⟩ ?_
    repeat' (first | (refine And.intro ?_ ?_) | (intro _) | exact rfl)
  · have hF : bodyF e = (Body.no, false) := by unfold bodyF; rw [hb1, hb3]; rfl
    simp only [hF]
    refine And.intro ⟨fun _ _ => trivial, hm, hb1.symm⟩ ?_
    refine And.intro ⟨fun _ _ => trivial, hm, hb3.symm⟩ ?_
    refine And.intro ⟨fun _ _ => trivial, hm, hb2.symm⟩ ?_
    repeat' (first | (refine And.intro ?_ ?_) | (intro _) | exact rfl)
  · have hF : bodyF e = (bodyV e, true) := by unfold bodyF; rw [hb1, hb3]; rfl
    simp only [hF]
    refine And.intro ⟨fun _ _ => trivial, hm, hb1.symm⟩ ?_
    refine And.intro ⟨fun _ _ => trivial, hm, hb3.symm⟩ ?_
    refine And.intro ⟨fun _ _ => trivial, hm, hb2.symm⟩ ?_
    refine And.intro (fun hc => ?_) (fun hc => ?_)
    · have hc : (!(decide ((cmpF e.l 3).1.v3 = 1) || true)) = true := hc
      simp at hc
    · have hV : bodyV e = ⟨e.iD, (cmpF e.l 1).1.v0, (cmpF e.l 1).1.v1, 0, 0, (cmpF e.l 3).1.v0, (cmpF e.l 3).1.v1, decide ((cmpF e.l 3).1.v2 = 1), true⟩ := by unfold bodyV fixB'; rw [hb2, Bool.not_false, Bool.or_true]
      simp only [hV]
      repeat' (first | (refine And.intro ?_ ?_) | (intro _) | exact rfl)
      all_goals exact (Bool.or_true _).symm
  · have hF : bodyF e = (Body.no, false) := by unfold bodyF; rw [hb1, hb3]; rfl
    simp only [hF]
    refine And.intro ⟨fun _ _ => trivial, hm, hb1.symm⟩ ?_
    refine And.intro ⟨fun _ _ => trivial, hm, hb3.symm⟩ ?_
    refine And.intro ⟨fun _ _ => trivial, hm, hb2.symm⟩ ?_
    repeat' (first | (refine And.intro ?_ ?_) | (intro _) | exact rfl)
  · have hF : bodyF e = (bodyV e, true) := by unfold bodyF; rw [hb1, hb3]; rfl
    simp only [hF]
    refine And.intro ⟨fun _ _ => trivial, hm, hb1.symm⟩ ?_
    refine And.intro ⟨fun _ _ => trivial, hm, hb3.symm⟩ ?_
    refine And.intro ⟨fun _ _ => trivial, hm, hb2.symm⟩ ?_
    refine And.intro (fun hc => ?_) (fun hc => ?_)
    · have hc : (!(decide ((cmpF e.l 3).1.v3 = 1) || false)) = true := hc
      have hd : decide ((cmpF e.l 3).1.v3 = 1) = false := by simpa using hc
      have hV : bodyV e = ⟨e.iD, (cmpF e.l 1).1.v0, (cmpF e.l 1).1.v1, (cmpF e.l 2).1.v0, (cmpF e.l 2).1.v1, (cmpF e.l 3).1.v0, (cmpF e.l 3).1.v1, decide ((cmpF e.l 3).1.v2 = 1), false⟩ := by unfold bodyV fixB'; rw [hb2, Bool.not_true, hd]; rfl
      simp only [hV]
      repeat' (first | (refine And.intro ?_ ?_) | (intro _) | exact rfl)
      all_goals (refine Eq.trans (b := decide ((cmpF e.l 3).1.v3 = 1) || false) ?_ rfl; rw [hd]; rfl)
    · have hc : (!(decide ((cmpF e.l 3).1.v3 = 1) || false)) = false := hc
      have hd : decide ((cmpF e.l 3).1.v3 = 1) = true := by simpa using hc
      have hV : bodyV e = ⟨e.iD, (cmpF e.l 1).1.v0, (cmpF e.l 1).1.v1, 0, 0, (cmpF e.l 3).1.v0, (cmpF e.l 3).1.v1, decide ((cmpF e.l 3).1.v2 = 1), true⟩ := by unfold bodyV fixB'; rw [hb2, Bool.not_true, hd]; rfl
      simp only [hV]
      repeat' (first | (refine And.intro ?_ ?_) | (intro _) | exact rfl)
      all_goals (refine Eq.trans (b := decide ((cmpF e.l 3).1.v3 = 1) || false) ?_ rfl; rw [hd]; rfl)
noncomputable def conBody : Con cx := walkConD (Fs := []) (d := 0) (fun a : Ent => [conSFirst (cmpF a.l 1).2 (cmpF a.l 2).2 (cmpF a.l 3).2]) 58 Tryz.call58 (rds1 rdEnt) (fun a => [(a.l.n : Int) ≤ bigN]) (fun a => .tup [(bodyF a).1.sv, .v (.bool (bodyF a).2)]) (fun _ => ⟨[1002], [], [], 0⟩) [1002] (fun _ => rfl) follows Tryz.func58 (by kernel_rfl) Body_walk
end Go.Proofs.YtjdohgcolhpegaaGreatDoor
