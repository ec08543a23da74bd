/- A symbolic executor, 16: contracts out of what is proved of calls. -/
import Derived.Test.YtggcfjeehpcclaaDoorS14
namespace Go.Proofs.YtggcfjeehpcclaaDoor
open Go.RowKit

def SV.i64? : SV → Option Int
  | .il n => some n
  | .v (.int .i64 n) => some n
  | _ => none
theorem SV.i64?_den {x : SV} {n : Int} {ρ : Names} (h : x.i64? = some n) : den ρ x = some (.int .i64 n) := by
  unfold SV.i64? at h
  split at h <;> simp_all [den]
def SV.u8? : SV → Option Int
  | .v (.int .u8 n) => some n
  | _ => none
theorem SV.u8?_den {x : SV} {n : Int} {ρ : Names} (h : x.u8? = some n) : den ρ x = some (.int .u8 n) := by
  unfold SV.u8? at h
  split at h <;> simp_all [den]

/-- A contract of a function that only computes (and may make memory that nobody sees). -/
def mkCon {PP : Program} {C : Cx PP} (f : FuncId) (en : ∀ (args : Array Value) (w : World), (callFunc f args).run C.P w = .ok (.enter f args) w) {α : Type} (dec : List SV → Option α) (vals : α → List Value)
    (hdec : ∀ (args : List SV) (x : α) (ρ : Names) (vs : List Value), dec args = some x → denL ρ args = some vs → vs = vals x) (pre : α → Option Prop) (out : α → SV) (val : α → Value) (hout : ∀ (x : α) (ρ : Names), den ρ (out x) = some (val x))
    (h : ∀ (x : α) (W : World), owed (pre x) → C.Grd W → Calls C.P f (vals x).toArray W fun e W' => e = .returned (val x) ∧ Gr W W') : Con C where
  f := f
  en := en
  run := fun _ _ args => match dec args with | some x => some ⟨pre x, out x, none⟩ | none => none
  ok := by
    intro H nm ρ W args vs r hH hd hr ho
    split at hr
    · rename_i x hx
      obtain rfl := Option.some.inj hr
      obtain rfl := hdec args x ρ vs hx hd
      refine (h x W ho hH.grd).mono ?_
      rintro e W' ⟨rfl, hg⟩
      exact ⟨val x, rfl, hg, hout x ρ⟩
    · cases hr

def plain : How := ⟨[], [], [], 0⟩
/-- A function without pointers, shown by computation. -/
theorem pure_ev {PP : Program} {C : Cx PP} {Γ : List (Con C)} {f : FuncId} {fn : Func} {code : Code} {args : List SV} {vs : List Value} {w0 : World} {val : Value} (h : How) (hm : C.P.follows .mixedOrders = true)
    (hf : C.P.funcs[f]? = some fn) (hb : fn.body = some code) (hn : Nat.ble args.length fn.ntmps = true) (hB : codeB h.fl code = true) (hG : C.Grd w0) (hargs : denL noNames args = some vs)
    (he : ev Γ fn.ntmps 0 h code ⟨argSlots 0 args, [], 0, 0, [], []⟩
      (fun e st => match e with | .exit _ => False | .normal => finK C fn.results.toList st (fun v _ => ∀ ρ, den ρ v = some val) | .ret => finK C fn.results.toList st (fun v _ => ∀ ρ, den ρ v = some val))) :
    Calls C.P f vs.toArray w0 fun e W' => e = .returned val ∧ Gr w0 W' :=
  calls_ev h hm hf hb hn hB ⟨fun n sb h => (by cases h), fun i j b h => (by cases h), fun n b h => (by cases h), hG⟩ (fun n b h => by cases h) hargs _ he fun v st u w' hk hd => by
    have := hk hd.ρ
    rw [hd.dv] at this
    exact ⟨by rw [Option.some.inj this], hd.keep.to_gr fun _ => rfl⟩

section
variable {α β γ δ : Type}
def dec0 : List SV → Option Unit
  | [] => some ()
  | _ => none
def dec1 (d : SV → Option α) : List SV → Option α
  | [x] => d x
  | _ => none
def dec2 (d : SV → Option α) (e : SV → Option β) : List SV → Option (α × β)
  | [x, y] => match d x with
    | none => none
    | some a => match e y with
      | none => none
      | some b => some (a, b)
  | _ => none
def dec3 (d : SV → Option α) (e : SV → Option β) (f : SV → Option γ) : List SV → Option (α × β × γ)
  | [x, y, z] => match d x with
    | none => none
    | some a => match e y with
      | none => none
      | some b => match f z with
        | none => none
        | some c => some (a, b, c)
  | _ => none
def dec4 (d : SV → Option α) (e : SV → Option β) (f : SV → Option γ) (g : SV → Option δ) : List SV → Option (α × β × γ × δ)
  | [x, y, z, u] => match d x with
    | none => none
    | some a => match e y with
      | none => none
      | some b => match f z with
        | none => none
        | some c => match g u with
          | none => none
          | some k => some (a, b, c, k)
  | _ => none
/-- A reader of a value reads aright. -/
def Reads (d : SV → Option α) (val : α → Value) : Prop := ∀ (x : SV) (b : α) (ρ : Names) (v : Value), d x = some b → den ρ x = some v → v = val b
theorem reads_int : Reads SV.i64? (fun n => .int .i64 n) := fun x b ρ v h hd => by rw [SV.i64?_den h] at hd; exact (Option.some.inj hd).symm
theorem reads_u8 : Reads SV.u8? (fun n => .int .u8 n) := fun x b ρ v h hd => by rw [SV.u8?_den h] at hd; exact (Option.some.inj hd).symm
theorem reads_bool : Reads SV.bool? (fun n => .bool n) := fun x b ρ v h hd => by rw [SV.bool?_den h] at hd; exact (Option.some.inj hd).symm
variable {d : SV → Option α} {e : SV → Option β} {f : SV → Option γ} {g : SV → Option δ} {va : α → Value} {vb : β → Value} {vc : γ → Value} {vd : δ → Value}
theorem dec0_ok (args : List SV) (b : Unit) (ρ : Names) (vs : List Value) (h : dec0 args = some b) (hd : denL ρ args = some vs) : vs = [] := by
  unfold dec0 at h
  split at h
  · exact denL_nil hd
  · cases h
theorem dec1_ok (hr : Reads d va) (args : List SV) (b : α) (ρ : Names) (vs : List Value) (h : dec1 d args = some b) (hd : denL ρ args = some vs) : vs = [va b] := by
  unfold dec1 at h
  split at h
  · obtain ⟨u, us, rfl, h1, h2⟩ := denL_cons hd
    obtain rfl := denL_nil h2
    rw [hr _ _ _ _ h h1]
  · cases h
theorem dec2_ok (hr : Reads d va) (hs : Reads e vb) (args : List SV) (b : α × β) (ρ : Names) (vs : List Value) (h : dec2 d e args = some b) (hd : denL ρ args = some vs) : vs = [va b.1, vb b.2] := by
  unfold dec2 at h
  split at h
  · split at h
    · cases h
    · rename_i _ x _ h1
      split at h
      · cases h
      · rename_i _ y _ h2
        obtain rfl := Option.some.inj h
        obtain ⟨u, us, rfl, k1, hd⟩ := denL_cons hd
        obtain ⟨u, us, rfl, k2, hd⟩ := denL_cons hd
        obtain rfl := denL_nil hd
        rw [hr _ _ _ _ h1 k1, hs _ _ _ _ h2 k2]
  · cases h
theorem dec3_ok (hr : Reads d va) (hs : Reads e vb) (ht : Reads f vc) (args : List SV) (b : α × β × γ) (ρ : Names) (vs : List Value) (h : dec3 d e f args = some b) (hd : denL ρ args = some vs) : vs = [va b.1, vb b.2.1, vc b.2.2] := by
  unfold dec3 at h
  split at h
  · split at h
    · cases h
    · rename_i _ x _ h1
      split at h
      · cases h
      · rename_i _ y _ h2
        split at h
        · cases h
        · rename_i _ z _ h3
          obtain rfl := Option.some.inj h
          obtain ⟨u, us, rfl, k1, hd⟩ := denL_cons hd
          obtain ⟨u, us, rfl, k2, hd⟩ := denL_cons hd
          obtain ⟨u, us, rfl, k3, hd⟩ := denL_cons hd
          obtain rfl := denL_nil hd
          rw [hr _ _ _ _ h1 k1, hs _ _ _ _ h2 k2, ht _ _ _ _ h3 k3]
  · cases h
theorem dec4_ok (hr : Reads d va) (hs : Reads e vb) (ht : Reads f vc) (hu : Reads g vd) (args : List SV) (b : α × β × γ × δ) (ρ : Names) (vs : List Value) (h : dec4 d e f g args = some b) (hd : denL ρ args = some vs) : vs = [va b.1, vb b.2.1, vc b.2.2.1, vd b.2.2.2] := by
  unfold dec4 at h
  split at h
  · split at h
    · cases h
    · rename_i _ x _ h1
      split at h
      · cases h
      · rename_i _ y _ h2
        split at h
        · cases h
        · rename_i _ z _ h3
          split at h
          · cases h
          · rename_i _ z _ h4
            obtain rfl := Option.some.inj h
            obtain ⟨u, us, rfl, k1, hd⟩ := denL_cons hd
            obtain ⟨u, us, rfl, k2, hd⟩ := denL_cons hd
            obtain ⟨u, us, rfl, k3, hd⟩ := denL_cons hd
            obtain ⟨u, us, rfl, k4, hd⟩ := denL_cons hd
            obtain rfl := denL_nil hd
            rw [hr _ _ _ _ h1 k1, hs _ _ _ _ h2 k2, ht _ _ _ _ h3 k3, hu _ _ _ _ h4 k4]
  · cases h
end
end Go.Proofs.YtggcfjeehpcclaaDoor
