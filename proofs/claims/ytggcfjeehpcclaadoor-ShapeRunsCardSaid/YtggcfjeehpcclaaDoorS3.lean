/- A symbolic executor, 4: loads, fields, aggregates, calls. -/
import Derived.Test.YtggcfjeehpcclaaDoorS2
namespace Go.Proofs.YtggcfjeehpcclaaDoor
open Go.RowKit

/-- What an operand reads as, given that some slots hold some Bools. -/
abbrev OpF := List (Nat × Bool) → Operand → Option SV
def opL (op : OpF) : List Operand → Option (List SV)
  | [] => some []
  | x :: r => match op [] x, opL op r with | some a, some b => some (a :: b) | _, _ => none
def opP (op : OpF) : List (Nat × Operand) → Option (List (Nat × SV))
  | [] => some []
  | (i, x) :: r => match op [] x, opP op r with | some a, some b => some ((i, a) :: b) | _, _ => none

/-- What is known when an operation is done. -/
def DPost (ρ : Names) (nm : Nat) (r : DR) (W : World) (val : Value) (W' : World) : Prop :=
  Gr W W' ∧ match r.b with
    | none => den ρ r.v = some val
    | some sb => ∃ m cs, W.heap.size ≤ m ∧ m < W'.heap.size ∧ denL ρ sb.cs = some cs ∧ Blk W' m cs.toArray sb.t ∧ ∀ ρ' : Names, ρ.le ρ' → ρ' nm = some m → den ρ' r.v = some val

/-- A contract: what a function yields, by computation. -/
structure Con {PP : Program} (C : Cx PP) where
  f : FuncId
  en : ∀ (args : Array Value) (w : World), (callFunc f args).run C.P w = .ok (.enter f args) w
  run : List (Nat × SB) → Nat → List SV → Option DR
  ok : ∀ (H : List (Nat × SB)) (nm : Nat) (ρ : Names) (W : World) (args : List SV) (vs : List Value) (r : DR), HOk C H ρ W → denL ρ args = some vs → run H nm args = some r → r.Ob →
    Calls C.P f vs.toArray W fun e W' => ∃ val, e = .returned val ∧ DPost ρ nm r W val W'
def findC {PP : Program} {C : Cx PP} : List (Con C) → Nat → Option (Con C)
  | [], _ => none
  | c :: r, n => match Nat.beq c.f n with | true => some c | false => findC r n
theorem findC_f {PP : Program} {C : Cx PP} : ∀ {l : List (Con C)} {n : Nat} {c : Con C}, findC l n = some c → c.f = n
  | [], _, _, h => by simp [findC] at h
  | d :: r, n, c, h => by
    simp only [findC] at h
    split at h
    · rename_i hb
      obtain rfl := Option.some.inj h
      exact Nat.eq_of_beq_eq_true hb
    · exact findC_f h

def aggK : TK → Bool
  | .struct _ => true
  | .arr _ _ => true
  | _ => false
def loadC {PP : Program} (C : Cx PP) (cs : List SV) (off : Nat) (t : TypeId) : Option DR :=
  match look C.T t with
  | none => none
  | some ti => match aggK ti.k with
    | true => match takeN ti.sz (cs.drop off) with | some l => some ⟨none, .agg l, none⟩ | none => none
    | false => match cs[off]? with | some c => some ⟨none, c, none⟩ | none => none
def loadD {PP : Program} (C : Cx PP) (H : List (Nat × SB)) (x : SV) (t : TypeId) : Option DR :=
  match x with
  | .p n off => match look H n with | some sb => loadC C sb.cs off t | none => none
  | .v (.pointer (some ⟨b, off, none⟩)) => match look C.G b with | some sb => loadC C sb.cs off t | none => none
  | _ => none
def fieldsK : TK → Option (List (Nat × Nat))
  | .struct fs => some fs
  | _ => none
/-- Where a field lies, and how many cells it has. -/
def fieldD {PP : Program} (C : Cx PP) (s : TypeId) (k : Nat) : Option (Nat × TI) :=
  match look C.T s with
  | none => none
  | some ti => match fieldsK ti.k with
    | none => none
    | some fs => match fs[k]? with
      | none => none
      | some (off, ft) => match look C.T ft with | some fi => some (off, fi) | none => none
def allT {PP : Program} (C : Cx PP) : List (Nat × Nat) → Bool
  | [] => true
  | (_, t) :: r => match look C.T t with | some _ => allT C r | none => false
def cellsOfSV : SV → Option (List SV)
  | .agg l => some l
  | .tup _ => none
  | .v (.agg _) => none
  | .v (.tuple _) => none
  | x => some [x]
def fillD {PP : Program} (C : Cx PP) (s : TypeId) : List SV → List (Nat × SV) → Option (List SV)
  | z, [] => some z
  | z, (i, x) :: r => match fieldD C s i, cellsOfSV x with
    | some (off, fi), some l => match Nat.beq l.length fi.sz, Nat.ble (off + fi.sz) z.length with
      | true, true => match laid (z.take off ++ l ++ z.drop (off + fi.sz)) with | some z' => fillD C s z' r | none => none
      | _, _ => none
    | _, _ => none
def binD (op : BinOp) (x y : SV) : Option DR :=
  match x, y with
  | .il a, .il b => binInt op .i64 true a b
  | x, y => match x.int?, y.int? with
    | some (k, a), some (k', b) => match sameK k k' with | true => binInt op k false a b | false => none
    | _, _ => none
/-- Bools are compared. -/
def boolD {PP : Program} (C : Cx PP) (op : BinOp) (t : TypeId) (x y : SV) : Option DR :=
  match op, x.bool?, y.bool?, look C.T t with
  | .eql, some a, some b, some ti => match ti.k with | .bool => some ⟨none, .v (.bool (a == b)), none⟩ | _ => none
  | .neq, some a, some b, some ti => match ti.k with | .bool => some ⟨none, .v (.bool (a != b)), none⟩ | _ => none
  | _, _, _, _ => none
/-- Are two values equal, field by field? -/
def eqFs {PP : Program} (C : Cx PP) (f : Nat → List SV → List SV → Option Bool) (xs ys : List SV) : List (Nat × Nat) → Option Bool
  | [] => some true
  | (off, ft) :: r => match look C.T ft with
    | none => none
    | some fi => match takeN fi.sz (xs.drop off), takeN fi.sz (ys.drop off) with
      | some x, some y => match f ft x y with
        | none => none
        | some b => match r with
          | [] => some b
          | _ :: _ => match eqFs C f xs ys r with | some c => some (b && c) | none => none
      | _, _ => none
def eqT {PP : Program} (C : Cx PP) : Nat → Nat → List SV → List SV → Option Bool
  | 0, _, _, _ => none
  | k + 1, t, xs, ys => match look C.T t with
    | none => none
    | some ti => match ti.k with
      | .struct fs => match ti.eq with | true => eqFs C (eqT C k) xs ys fs | false => none
      | .int _ => match xs, ys with
        | [x], [y] => match x.int?, y.int? with
          | some (k1, a), some (k2, b) => match sameK k1 k2 with | true => some (decide (a = b)) | false => none
          | _, _ => none
        | _, _ => none
      | .bool => match xs, ys with
        | [x], [y] => match x.bool?, y.bool? with | some a, some b => some (a == b) | _, _ => none
        | _, _ => none
      | _ => none
def aggD {PP : Program} (C : Cx PP) (op : BinOp) (t : TypeId) (x y : SV) : Option DR :=
  match op, x, y with
  | .eql, .agg xs, .agg ys => match look C.T t with
    | some ti => match ti.eq, fieldsK ti.k with
      | true, some _ => match eqT C 4 t xs ys with | some c => some ⟨none, .v (.bool c), none⟩ | none => none
      | _, _ => none
    | none => none
  | .neq, .agg xs, .agg ys => match look C.T t with
    | some ti => match ti.eq, fieldsK ti.k with
      | true, some _ => match eqT C 4 t xs ys with | some c => some ⟨none, .v (.bool (!c)), none⟩ | none => none
      | _, _ => none
    | none => none
  | _, _, _ => none
def unD (op : UnOp) (x : SV) : Option DR :=
  match op, x with
  | .not, .bl b => some ⟨none, .bl (!b), none⟩
  | .not, .v (.bool b) => some ⟨none, .v (.bool (!b)), none⟩
  | .neg, .il n => some ⟨some (InR (-n)), .il (-n), none⟩
  | .neg, .v (.int .i64 n) => some ⟨some (InR (-n)), .v (.int .i64 (-n)), none⟩
  | _, _ => none
def convD {PP : Program} (C : Cx PP) (src dst : TypeId) (x : SV) : Option DR :=
  match look C.T src, look C.T dst with
  | some _, some ti => match ti.k with
    | .int .i64 => match x with
      | .il n => some ⟨some (InR n), .il n, none⟩
      | x => match x.int? with | some (_, n) => some ⟨some (InR n), .v (.int .i64 n), none⟩ | none => none
    | .int k => match x.int? with | some (_, n) => some ⟨none, .v (.int k (k.wrap n)), none⟩ | none => none
    | _ => none
  | _, _ => none
def elemK : TK → Option Nat
  | .sl e => some e
  | _ => none
def repL : Nat → List SV → List SV
  | 0, _ => []
  | n + 1, l => l ++ repL n l
def fillE (sz : Nat) : List SV → List (Nat × SV) → Option (List SV)
  | z, [] => some z
  | z, (i, x) :: r => match cellsOfSV x with
    | some l => match Nat.beq l.length sz, Nat.ble (i * sz + sz) z.length with
      | true, true => match laid (z.take (i * sz) ++ l ++ z.drop (i * sz + sz)) with | some z' => fillE sz z' r | none => none
      | _, _ => none
    | none => none
def buildD {PP : Program} (C : Cx PP) (nm : Nat) (t len : Nat) (ps : List (Nat × SV)) : Option DR :=
  match look C.T t with
  | none => none
  | some ti => match elemK ti.k with
    | none => none
    | some e => match look C.T e with
      | none => none
      | some ei => match Nat.beq (len * ei.sz) 0, Nat.ble (len * ei.sz) 16777216, Nat.beq ei.z.length ei.sz with
        | false, true, true => match fillE ei.sz (repL len ei.z) ps with
          | some l => some ⟨none, .s nm 0 len len, some ⟨l, e⟩⟩
          | none => none
        | _, _, _ => none
/-- The address of an element, at a known place. -/
def elemD {PP : Program} (C : Cx PP) (t : Nat) (x i : SV) : Option DR :=
  match x, i, look C.T t with
  | .s n off len _, .il (.ofNat k), some ti => match elemK ti.k with
    | none => none
    | some e => match look C.T e, Nat.blt k len with
      | some ei, true => some ⟨none, .p n (off + k * ei.sz), none⟩
      | _, _ => none
  | .p n off, .il (.ofNat k), some ti => match ti.k with
    | .arr len e => match look C.T e, Nat.blt k len with
      | some ei, true => some ⟨none, .p n (off + k * ei.sz), none⟩
      | _, _ => none
    | _ => none
  | _, _, _ => none
def lenD {PP : Program} (C : Cx PP) (ats : Array TypeId) (l : List SV) : Option DR :=
  match l, ats.toList with
  | [.s _ _ len _], t :: _ => match look C.T t with
    | some ti => match elemK ti.k with | some _ => some ⟨none, .il (.ofNat len), none⟩ | none => none
    | none => none
  | _, _ => none
/-- The function that is called, what goes ahead of the arguments, what comes behind them. -/
def callee : SV → Option (Nat × List SV × List SV)
  | .v (.func (.func g) ⟨[]⟩ ⟨[]⟩) => some (g, [], [])
  | .f (.func g) first captured => some (g, first, captured)
  | _ => none
def callD {PP : Program} {C : Cx PP} (Γ : List (Con C)) (op : OpF) (H : List (Nat × SB)) (nm : Nat) (c : Call) : Option DR :=
  match c.callee with
  | .value f => match op [] f with
    | some sf => match callee sf, opL op c.args.toList with
      | some (g, first, captured), some args => match findC Γ g with
        | some con => match laid (first ++ args ++ captured) with | some al => con.run H nm al | none => none
        | none => none
      | _, _ => none
    | none => none
  | .builtin .len => match opL op c.args.toList with | some l => lenD C c.argTypes l | none => none
  | .builtin .max => match opL op c.args.toList with
    | some [x, y] => match x.int?, y.int? with
      | some (k, a), some (k', b) => match sameK k k' with | true => some ⟨none, .v (.int k (max a b)), none⟩ | false => none
      | _, _ => none
    | _ => none
  | .builtin .min => match opL op c.args.toList with
    | some [x, y] => match x.int?, y.int? with
      | some (k, a), some (k', b) => match sameK k k' with | true => some ⟨none, .v (.int k (min a b)), none⟩ | false => none
      | _, _ => none
    | _ => none
  | _ => none
def D {PP : Program} {C : Cx PP} (Γ : List (Con C)) (op : OpF) (H : List (Nat × SB)) (nm : Nat) : Op → Option DR
  | .move x => match op [] x with | some v => some ⟨none, v, none⟩ | none => none
  | .assign x => match op [] x with | some v => some ⟨none, v, none⟩ | none => none
  | .pick c x y => match op [] c, c with
    | some (.bl true), _ => match op [] x with | some v => some ⟨none, v, none⟩ | none => none
    | some (.bl false), _ => match op [] y with | some v => some ⟨none, v, none⟩ | none => none
    | some (.v (.bool b)), .tmp t => match op [(t, true)] x, op [(t, false)] y with
      | some u, some v => match pickD b u v with | some z => some ⟨none, z, none⟩ | none => none
      | _, _ => none
    | _, _ => none
  | .alloc t => match look C.T t with | some ti => some ⟨none, .p nm 0, some ⟨ti.z, t⟩⟩ | none => none
  | .box t x => match op [] x with
    | some v => match cellsOfSV v with | some l => some ⟨none, .p nm 0, some ⟨l, t⟩⟩ | none => none
    | none => none
  | .build s parts => match look C.T s, opP op parts.toList with
    | some ti, some ps => match fieldsK ti.k, fillD C s ti.z ps with
      | some fs, some l => match allT C fs with | true => some ⟨none, .agg l, none⟩ | false => none
      | _, _ => none
    | _, _ => none
  | .load t x => match op [] x with | some v => loadD C H v t | none => none
  | .fieldAddr s x k => match op [] x, fieldD C s k with
    | some (.p n off), some (fo, fi) => match fi.sz with | 0 => none | _ + 1 => some ⟨none, .p n (off + fo), none⟩
    | some (.v (.pointer (some ⟨b, off, none⟩))), some (fo, fi) => match fi.sz with | 0 => none | _ + 1 => some ⟨none, .v (.pointer (some ⟨b, off + fo, none⟩)), none⟩
    | _, _ => none
  | .field s x k => match op [] x, fieldD C s k with
    | some (.agg l), some (fo, fi) => match aggK fi.k with
      | true => match takeN fi.sz (l.drop fo) with | some m => some ⟨none, .agg m, none⟩ | none => none
      | false => match l[fo]? with | some c => some ⟨none, c, none⟩ | none => none
    | _, _ => none
  | .binOp o t x y _ => match op [] x, op [] y with
    | some u, some v => match binD o u v with
      | some r => some r
      | none => match boolD C o t u v with | some r => some r | none => aggD C o t u v
    | _, _ => none
  | .unOp o _ x => match op [] x with | some u => unD o u | none => none
  | .extract x k => match op [] x with
    | some (.tup l) => match l[k]? with | some v => some ⟨none, v, none⟩ | none => none
    | _ => none
  | .nilCheck x => match op [] x with
    | some (.p n off) => some ⟨none, .p n off, none⟩
    | _ => none
  | .makeFunc fn first captured => match opL op first.toList, opL op captured.toList with
    | some x, some y => some ⟨none, .f fn x y, none⟩
    | _, _ => none
  | .call c => callD Γ op H nm c
  | .convert src dst x => match op [] x with | some v => convD C src dst v | none => none
  | .buildSlice t len parts => match opP op parts.toList with | some ps => buildD C nm t len ps | none => none
  | .indexAddr t x i => match op [] x, op [] i with | some u, some v => elemD C t u v | _, _ => none
  | _ => none

/-! ### Soundness -/
section
variable {PP : Program} {C : Cx PP} {op : OpF} {a : Act} {ρ : Names}

def OpOk (op : OpF) (a : Act) (ρ : Names) : Prop := ∀ ex x v, op ex x = some v → (∀ p ∈ ex, a.eval (.tmp p.1) = .bool p.2) → den ρ v = some (a.eval x)

theorem opL_ok (h : OpOk op a ρ) : ∀ {l : List Operand} {vs : List SV}, opL op l = some vs → denL ρ vs = some (l.map a.eval)
  | [], vs, e => by
    obtain rfl := Option.some.inj e
    rfl
  | x :: r, vs, e => by
    simp only [opL] at e
    split at e
    · rename_i u v hu hv
      obtain rfl := Option.some.inj e
      exact denL_cons_of (h [] x u hu (fun _ hp => by cases hp)) (opL_ok h hv)
    · cases e

theorem loadC_ok {cs : List SV} {off : Nat} {t : TypeId} {r : DR} {W : World} {b : Nat} {vs : List Value} {x : Operand} {dst : Option Tmp} {ty : TypeId} {pos : String} {after : Array Edge} {guard : Option (Nat × Bool)}
    (h : loadC C cs off t = some r) (hd : denL ρ cs = some vs) (hb : ∀ (i : Nat) (v : Value), vs[i]? = some v → W.cell? ⟨b, i, none⟩ = some v) (hx : a.eval x = .pointer (some ⟨b, off, none⟩)) :
    r.b = none ∧ True ∧ ∃ v, den ρ r.v = some v ∧ (execOp a.eval ⟨dst, .load t x, ty, pos, after, guard⟩).run C.P W = .ok (.value v) W := by
  unfold loadC at h
  split at h
  · cases h
  · rename_i ti hti
    obtain ⟨i, d, z, hi, hdd, hs, hz, hzz, hk⟩ := (C.ty hti).ex
    split at h
    · rename_i hag
      split at h
      · rename_i l hl
        obtain rfl := Option.some.inj h
        obtain ⟨k1, k2⟩ := takeN_den hl (denL_drop off hd)
        refine ⟨rfl, trivial, _, by simp only [den, k1]; rfl, ?_⟩
        have hd1 : (∃ fs, d = .struct fs) ∨ ∃ n e, d = .array n e := by
          cases d <;> cases htk : ti.k <;> simp_all [kindEq, aggK]
        refine ex_loadN hx hi hdd hd1 (by rw [hs, List.length_take]; omega) fun j v hj => ?_
        rw [List.getElem?_take] at hj
        split at hj
        · rw [List.getElem?_drop] at hj
          have e : (⟨b, off, none⟩ : Addr).add j = ⟨b, off + j, none⟩ := by unfold Addr.add; split <;> simp_all
          rw [e]
          exact hb _ _ hj
        · cases hj
      · cases h
    · rename_i hag
      split at h
      · rename_i c hc
        obtain rfl := Option.some.inj h
        obtain ⟨v, hv, hdv⟩ := denL_get hd hc
        refine ⟨rfl, trivial, v, hdv, ?_⟩
        refine ex_load1 hx hdd ?_ ?_ (hb _ _ hv)
        · intro fs e
          subst e
          cases htk : ti.k <;> simp_all [kindEq, aggK]
        · intro n e' e
          subst e
          cases htk : ti.k <;> simp_all [kindEq, aggK]
      · cases h

theorem fieldD_ok {s k off : Nat} {fi : TI} (h : fieldD C s k = some (off, fi)) :
    ∃ (fs : Array Field) (f : Field) (i : TypeInfo) (d : TypeDesc), C.P.underlying s = some (.struct fs) ∧ fs[k]? = some f ∧ f.offset = off ∧ C.P.info? f.type = some i ∧ C.P.underlying f.type = some d ∧ i.size = fi.sz ∧ kindEq d fi.k = true := by
  unfold fieldD at h
  split at h
  · cases h
  · rename_i ti hti
    obtain ⟨i, d, z, hi, hdd, hs, hz, hzz, hk⟩ := (C.ty hti).ex
    split at h
    · cases h
    · rename_i fs hfs
      split at h
      · cases h
      · rename_i fo ft hft
        split at h
        · rename_i fi' hfi
          obtain ⟨rfl, rfl⟩ := Prod.mk.inj (Option.some.inj h)
          obtain ⟨i', d', z', hi', hdd', hs', hz', hzz', hk'⟩ := (C.ty hfi).ex
          cases htk : ti.k with
          | struct l =>
            rw [htk] at hfs hk
            obtain rfl := Option.some.inj hfs
            cases d with
            | struct fs' =>
              have hk2 : (fs'.toList.map fun f => (f.offset, f.type)) = l := by simpa [kindEq] using hk
              rw [← hk2, List.getElem?_map] at hft
              cases hq : fs'.toList[k]? with
              | none => rw [hq] at hft; cases hft
              | some f =>
                rw [hq] at hft
                obtain ⟨e1, e2⟩ := Prod.mk.inj (Option.some.inj hft)
                subst e1 e2
                exact ⟨fs', f, i', d', hdd, by simpa using hq, rfl, hi', hdd', hs', hk'⟩
            | _ => simp [kindEq] at hk
          | _ => rw [htk] at hfs; cases hfs
        · cases h
end
end Go.Proofs.YtggcfjeehpcclaaDoor
