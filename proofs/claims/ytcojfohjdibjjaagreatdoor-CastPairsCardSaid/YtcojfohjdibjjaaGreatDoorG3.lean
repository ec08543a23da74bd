/- A symbolic executor with lists, 4: what an operation yields, by computation. -/
import Derived.Test.YtcojfohjdibjjaaGreatDoorG2
namespace Go.Proofs.YtcojfohjdibjjaaGreatDoor
open Go.RowKit

/-- A value, if there is one. -/
def od : Option SV → Option DR
  | some v => dv v
  | none => none
/-- What an operand reads as, given that some slots hold some Bools. -/
abbrev OpF := List (Nat × Bool) → Operand → Option SV
abbrev Heap := List (Nat × SB)
def opL (op : OpF) : List Operand → Option (List SV)
  | [] => some []
  | x :: r => match op [] x, opL op r with | some a, some b => some (a :: b) | _, _ => none
def opP (op : OpF) : List (Nat × Operand) → Option (List (Nat × SV))
  | [] => some []
  | (i, x) :: r => match op [] x, opP op r with | some a, some b => some ((i, a) :: b) | _, _ => none
def opO (op : OpF) : Option Operand → Option (Option SV)
  | none => some none
  | some x => match op [] x with | some v => some (some v) | none => none

/-- What is known when an operation is done. -/
def DPost {PP : Program} (C : Cx PP) (ρ : Names) (W : World) (nm : Nat) (r : DR) (val : Value) (W' : World) : Prop :=
  ∃ ρ', Eff C ρ W nm (r.w.map Prod.fst) r.fr ρ' W' ∧ (∀ n sb, r.w = some (n, sb) → Cont ρ' W' n sb) ∧ den ρ' r.v val

def onlyZ (z : Nat → Nat → Value → Prop) : Names := ⟨fun _ => none, fun _ => none, fun _ _ => none, z, [], fun _ => False⟩
/-- A list that is new, and that nobody else has: its elements speak of memory z alone. -/
def OwnL (z : Nat → Nat → Value → Prop) (W W' : World) (val : Value) (sz n : Nat) (f : Nat → List SV) (t : TypeId) : Prop :=
  ∃ (a : Option Addr) (cap : Nat) (z2 : Nat → Nat → Value → Prop), (∀ b i c, z2 b i c → z b i c) ∧ val = .slice a n cap ∧ n ≤ cap ∧ (cap ≠ 0 → ∃ (b : Nat) (u : List Value), a = some ⟨b, 0, none⟩ ∧ W.heap.size ≤ b ∧ Blk W' b u.toArray t ∧ u.length = cap * sz ∧ (∀ c ∈ u, c.oneCell' = true) ∧ (∀ i c, ¬ z2 b i c) ∧
    ∀ i, i < n → ∃ us, denL (onlyZ z2) (f i) us ∧ us.length = sz ∧ ∀ k c, us[k]? = some c → u[i * sz + k]? = some c)
def OwnO (z : Nat → Nat → Value → Prop) (W W' : World) (val : Value) (t : TypeId) : SV → Prop
  | .rs sz n f => OwnL z W W' val sz n f t
  | .agg [x, .rs sz n f] => ∃ u v, val = .agg #[u, v] ∧ den noNames x u ∧ OwnL z W W' v sz n f t
  | _ => False
/-- A contract: what a function yields, by computation; what it is handed never changes. -/
structure Con {PP : Program} (C : Cx PP) where
  f : FuncId
  /-- The function that is entered. -/
  e : FuncId := f
  en : ∀ (args : Array Value) (w : World), (callFunc f args).run C.P w = .ok (.enter e args) w
  run : List SV → Option (Option Prop × SV)
  /-- What comes out lies in memory that is new. -/
  fresh : Bool
  /-- What comes out is a list that nobody else has (of this type). -/
  own : Option TypeId
  /-- A walk whose list of contracts begins with this one: numbers wrap in it. -/
  wr : Bool := false
  frz : Bool := false
  /-- What the function does, where it writes what it is handed: said by hand, of the heap, the next name, its arguments. -/
  eff : Option (Heap → Nat → List SV → Option DR) := none
  ok : ∀ (ze : Nat → Nat → Value → Prop) (W : World) (args : List SV) (vs : List Value) (ob : Option Prop) (out : SV), C.Grd W → (∀ b i c, ze b i c → W.cell? ⟨b, i, none⟩ = some c ∧ c.oneCell' = true ∧ plainB W b) → denL (onlyZ ze) args vs → run args = some (ob, out) → owed ob →
    Calls C.P e vs.toArray W fun e' W' => ∃ val z', e' = .returned val ∧ Gr W W' ∧ (∀ b i c, z' b i c → (ze b i c ∨ W.heap.size ≤ b) ∧ W'.cell? ⟨b, i, none⟩ = some c ∧ c.oneCell' = true ∧ plainB W' b) ∧ den (onlyZ z') out val ∧ (fresh = true → ∀ b i c, z' b i c → W.heap.size ≤ b) ∧ (∀ t, own = some t → OwnO z' W W' val t out)
  effOk : ∀ g, eff = some g → ∀ (ρ : Names) (W : World) (H : Heap) (nm : Nat) (args : List SV) (vs : List Value) (r : DR), HOk C H ρ W → (r.fr = true → ρ.v nm = none) → denL ρ args vs → g H nm args = some r → r.Ob →
    Calls C.P e vs.toArray W fun e' W' => ∃ val, e' = .returned val ∧ DPost C ρ W nm r val W' := by intro g h; cases h
def wrapG {PP : Program} {C : Cx PP} : List (Con C) → Bool
  | [] => false
  | c :: _ => c.wr
/-- Are slices that are written out only read? -/
def frzM {PP : Program} {C : Cx PP} : List (Con C) → Bool
  | [] => false
  | c :: _ => c.frz
def findC {PP : Program} {C : Cx PP} : List (Con C) → Nat → Option (Con C)
  | [], _ => none
  | c :: r, n => match Nat.beq c.f n with | true => some c | false => findC r n
theorem findC_f {PP : Program} {C : Cx PP} : ∀ {l : List (Con C)} {n : Nat} {c : Con C}, findC l n = some c → c.f = n
  | [], _, _, h => by simp [findC] at h
  | d :: r, n, c, h => by
    simp only [findC] at h
    split at h
    · rename_i hb
      obtain rfl := Option.some.inj h
      exact Nat.eq_of_beq_eq_true hb
    · exact findC_f h

mutual
/-- Does a value speak of no memory of one's own? -/
def pureS : SV → Bool
  | .v _ => true
  | .il _ _ => true
  | .bl _ => true
  | .p _ _ => false
  | .s _ _ _ _ _ => false
  | .f _ x y => match pureL x with | true => pureL y | false => false
  | .agg l => pureL l
  | .tup l => pureL l
  | .e => true
  | .rs _ _ _ => true
  | .rp _ _ => true
  | .g _ _ _ _ _ => false
  | .gp _ _ _ _ _ => false
  | .m _ => false
  | .kd _ _ _ _ _ => false
  | .kq _ _ _ _ _ => false
def pureL : List SV → Bool
  | [] => true
  | x :: r => match pureS x with | true => pureL r | false => false
end
mutual
/-- .. nor of memory at all? -/
def flatS : SV → Bool
  | .v _ => true
  | .il _ _ => true
  | .bl _ => true
  | .p _ _ => false
  | .s _ _ _ _ _ => false
  | .f _ x y => match flatL x with | true => flatL y | false => false
  | .agg l => flatL l
  | .tup l => flatL l
  | .e => true
  | .rs _ _ _ => false
  | .rp _ _ => false
  | .g _ _ _ _ _ => false
  | .gp _ _ _ _ _ => false
  | .m _ => false
  | .kd _ _ _ _ _ => false
  | .kq _ _ _ _ _ => false
def flatL : List SV → Bool
  | [] => true
  | x :: r => match flatS x with | true => flatL r | false => false
end
/-- Element i of cells that lie in a row. -/
def chunk (l : List SV) (sz i : Nat) : List SV := (l.drop (i * sz)).take sz
/-- A list of lists, all of whose elements are told apart. -/
def nsts (H : Heap) (m e sz : Nat) : Option (Nat × (Nat → List SV) × Nat × Nat × (Nat → Nat × (Nat → List SV)) × TypeId × TypeId) := match look H m with
  | some (.nst e' sz' N h p szk g tk t none) => match Nat.beq e e', Nat.beq sz sz' with | true, true => some (N, h, p, szk, g, tk, t) | _, _ => none
  | _ => none
/-- The lists that its elements have. -/
def kids (H : Heap) (m szk : Nat) : Option (Nat × Nat × Nat × (Nat → List SV) × Nat × (Nat → Nat × (Nat → List SV)) × TypeId × TypeId) := match look H m with
  | some (.nst e sz N h p szk' g tk t none) => match Nat.beq szk szk' with | true => some (e, sz, N, h, p, g, tk, t) | _ => none
  | _ => none
/-- Element i as one reads it. -/
def nstR (h : Nat → List SV) (p szk : Nat) (g : Nat → Nat × (Nat → List SV)) (i : Nat) : List SV := (h i).set p (.rs szk (g i).1 (g i).2)
/-- .. as one has it. -/
def nstO (m : Nat) (h : Nat → List SV) (p szk : Nat) (g : Nat → Nat × (Nat → List SV)) (i : Nat) : List SV := (h i).set p (.kd m i szk 0 (g i).1)
/-- The lists that the elements have, where element i has another one. -/
def altG (i n' : Nat) (f' : Nat → List SV) (g : Nat → Nat × (Nat → List SV)) : Nat → Nat × (Nat → List SV) := fun j => match Nat.beq j i with | true => (n', f') | false => g j
mutual
/-- A value as one reads it that may not write: its memory as it is now. -/
def fzS (rec : List SV → Option (List SV)) (H : Heap) : SV → Option SV
  | .p n off => match look H n with
    | some (.lay cs _) => match rec cs with | some l => some (.rp l off) | none => none
    | _ => none
  | .s n sz off len cap => match look H n with
    | some (.lay cs _) => match rec cs with
      | some l => match Nat.ble (off + len * sz) l.length, Nat.ble len cap with | true, true => some (.rs sz len (fun i => chunk (l.drop off) sz i)) | _, _ => none
      | none => none
    | _ => none
  | .g m e sz off n => match look H m with
    | some (.lst e' sz' _ h _) => match Nat.beq e e', Nat.beq sz sz' with | true, true => some (.rs sz n (fun i => h (off + i))) | _, _ => none
    | some (.nst e' sz' _ h p szk g _ _ none) => match Nat.beq e e', Nat.beq sz sz' with | true, true => some (.rs sz n (fun i => nstR h p szk g (off + i))) | _, _ => none
    | some (.alt e' sz' _ h p szk g _ _ i _ n' f' true) => match Nat.beq e e', Nat.beq sz sz' with | true, true => some (.rs sz n (fun j => nstR h p szk (altG i n' f' g) (off + j))) | _, _ => none
    | _ => none
  | .gp m e sz i off => match look H m with
    | some (.lst e' sz' _ h _) => match Nat.beq e e', Nat.beq sz sz' with | true, true => some (.rp (h i) off) | _, _ => none
    | some (.nst e' sz' _ h p szk g _ _ none) => match Nat.beq e e', Nat.beq sz sz' with | true, true => some (.rp (nstR h p szk g i) off) | _, _ => none
    | _ => none
  | .kd m i sz off n => match kids H m sz with
    | some (_, _, _, _, _, g, _, _) => some (.rs sz n (fun j => (g i).2 (off + j)))
    | none => none
  | .kq m i sz j off => match kids H m sz with
    | some (_, _, _, _, _, g, _, _) => some (.rp ((g i).2 j) off)
    | none => none
  | .f fn x y => match fzL rec H x, fzL rec H y with | some a, some b => some (.f fn a b) | _, _ => none
  | .agg l => match fzL rec H l with | some a => some (.agg a) | none => none
  | .tup l => match fzL rec H l with | some a => some (.tup a) | none => none
  | .m _ => none
  | x => some x
def fzL (rec : List SV → Option (List SV)) (H : Heap) : List SV → Option (List SV)
  | [] => some []
  | x :: r => match fzS rec H x, fzL rec H r with | some a, some b => some (a :: b) | _, _ => none
end
def fzK (H : Heap) : Nat → List SV → Option (List SV)
  | 0 => fzL (fun _ => none) H
  | k + 1 => fzL (fzK H k) H

mutual
/-- A value that lies in memory of one's own, as one reads it. -/
def frS (H : Heap) : SV → Option (SV × List Prop)
  | .s n sz off len cap => match look H n with
    | some (.lay cs _) => match Nat.ble (off + len * sz) cs.length, Nat.ble len cap, flatL cs with | true, true, true => some (.rs sz len (fun i => chunk (cs.drop off) sz i), []) | _, _, _ => none
    | _ => none
  | .g m e sz off n => match look H m with
    | some (.lst e' sz' _ h _) => match Nat.beq e e', Nat.beq sz sz' with | true, true => some (.rs sz n (fun i => h (off + i)), [∀ i, i < n → flatL (h (off + i)) = true]) | _, _ => none
    | some (.nst e' sz' _ h p szk g _ _ none) => match Nat.beq e e', Nat.beq sz sz' with | true, true => some (.rs sz n (fun i => nstR h p szk g (off + i)), [∀ i, i < n → flatL ((h (off + i)).set p .e) = true, ∀ i, i < n → ∀ j, j < (g (off + i)).1 → flatL ((g (off + i)).2 j) = true]) | _, _ => none
    | some (.alt e' sz' _ h p szk g _ _ a _ n' f' true) => match Nat.beq e e', Nat.beq sz sz' with | true, true => some (.rs sz n (fun i => nstR h p szk (altG a n' f' g) (off + i)), [∀ i, i < n → flatL ((h (off + i)).set p .e) = true, ∀ i, i < n → ∀ j, j < (altG a n' f' g (off + i)).1 → flatL ((altG a n' f' g (off + i)).2 j) = true]) | _, _ => none
    | _ => none
  | .agg l => match frL H l with | some (a, ps) => some (.agg a, ps) | none => none
  | .tup l => match frL H l with | some (a, ps) => some (.tup a, ps) | none => none
  | .v x => some (.v x, [])
  | .il k n => some (.il k n, [])
  | .bl b => some (.bl b, [])
  | .e => some (.e, [])
  | .p _ _ => none
  | .gp _ _ _ _ _ => none
  | .kd _ _ _ _ _ => none
  | .kq _ _ _ _ _ => none
  | .f _ _ _ => none
  | .m _ => none
  | .rs _ _ _ => none
  | .rp _ _ => none
def frL (H : Heap) : List SV → Option (List SV × List Prop)
  | [] => some ([], [])
  | x :: r => match frS H x, frL H r with | some (a, ps), some (b, qs) => some (a :: b, ps ++ qs) | _, _ => none
end
def loadC {PP : Program} (C : Cx PP) (cs : List SV) (off : Nat) (t : TypeId) : Option SV :=
  match look C.T t with
  | none => none
  | some ti => match aggK ti.k with
    | true => match takeN ti.sz (cs.drop off) with | some l => some (.agg l) | none => none
    | false => cs[off]?
def lsts (H : Heap) (m e sz : Nat) : Option (Nat × (Nat → List SV) × TypeId) := match look H m with
  | some (.lst e' sz' N h t) => match Nat.beq e e', Nat.beq sz sz' with | true, true => some (N, h, t) | _, _ => none
  | _ => none
def lays (H : Heap) (n : Nat) : Option (List SV × TypeId) := match look H n with | some (.lay cs t) => some (cs, t) | _ => none
def loadD {PP : Program} (C : Cx PP) (H : Heap) (x : SV) (t : TypeId) : Option SV :=
  match x with
  | .p n off => match lays H n with | some (cs, _) => loadC C cs off t | none => none
  | .v (.pointer (some ⟨b, off, none⟩)) => match look C.G b with | some sb => loadC C sb.1 off t | none => none
  | .rp x off => loadC C x off t
  | .gp m e sz i off => match lsts H m e sz with
    | some (_, h, _) => loadC C (h i) off t
    | none => match nsts H m e sz with | some (_, h, p, szk, g, _, _) => loadC C (nstO m h p szk g i) off t | none => none
  | .kq m i sz j off => match kids H m sz with | some (_, _, _, _, _, g, _, _) => loadC C ((g i).2 j) off t | none => none
  | _ => none
def fieldsK : TK → Option (List (Nat × Nat))
  | .struct fs => some fs
  | _ => none
/-- Where a field lies, and how many cells it has. -/
def fieldD {PP : Program} (C : Cx PP) (s : TypeId) (k : Nat) : Option (Nat × TI) :=
  match look C.T s with
  | none => none
  | some ti => match fieldsK ti.k with
    | none => none
    | some fs => match fs[k]? with
      | none => none
      | some (off, ft) => match look C.T ft with | some fi => some (off, fi) | none => none
def fieldAddrD (x : SV) (fo sz : Nat) : Option SV :=
  match sz with
  | 0 => none
  | _ + 1 => match x with
    | .p n off => some (.p n (off + fo))
    | .v (.pointer (some ⟨b, off, none⟩)) => some (.v (.pointer (some ⟨b, off + fo, none⟩)))
    | .rp x off => some (.rp x (off + fo))
    | .gp m e sz i off => some (.gp m e sz i (off + fo))
    | .kq m i sz j off => some (.kq m i sz j (off + fo))
    | _ => none
def allT {PP : Program} (C : Cx PP) : List (Nat × Nat) → Bool
  | [] => true
  | (_, t) :: r => match look C.T t with | some _ => allT C r | none => false
def cellsOfSV : SV → Option (List SV)
  | .agg l => some l
  | .tup _ => none
  | .v (.agg _) => none
  | .v (.tuple _) => none
  | x => some [x]
def oneSV : SV → Bool
  | .agg _ => false
  | .tup _ => false
  | .v (.agg _) => false
  | .v (.tuple _) => false
  | _ => true
def oneL : List SV → Bool
  | [] => true
  | x :: r => match oneSV x with | true => oneL r | false => false
def fillD {PP : Program} (C : Cx PP) (s : TypeId) : List SV → List (Nat × SV) → Option (List SV)
  | z, [] => some z
  | z, (i, x) :: r => match fieldD C s i, cellsOfSV x with
    | some (off, fi), some l => match Nat.beq l.length fi.sz, Nat.ble (off + fi.sz) z.length with
      | true, true => match laid (z.take off ++ l ++ z.drop (off + fi.sz)) with | some z' => fillD C s z' r | none => none
      | _, _ => none
    | _, _ => none
def litOf : SV → Bool
  | .il _ _ => true
  | _ => false
def isSh : BinOp → Bool
  | .shl => true
  | .shr => true
  | _ => false
def binD (op : BinOp) (x y : SV) : Option DR :=
  match x.int?, y.int? with
  | some (k, a), some (k', b) => match isSh op with
    | true => shInt op k (litOf x) (litOf y) a b
    | false => match sameK k k' with | true => binInt op k (litOf x) (litOf y) a b | false => none
  | _, _ => none
def binM (w : Bool) (op : BinOp) (x y : SV) : Option DR :=
  match w with
  | false => binD op x y
  | true => match x.int?, y.int? with
    | some (k, a), some (k', b) => match isSh op with
      | true => shInt op k (litOf x) (litOf y) a b
      | false => match sameK k k' with | true => binIntW op k (litOf x) (litOf y) a b | false => none
    | _, _ => none
/-- Bools are compared. -/
def boolD {PP : Program} (C : Cx PP) (op : BinOp) (t : TypeId) (x y : SV) : Option SV :=
  match op, x.bool?, y.bool?, look C.T t with
  | .eql, some a, some b, some ti => match ti.k with | .bool => some (.v (.bool (a == b))) | _ => none
  | .neq, some a, some b, some ti => match ti.k with | .bool => some (.v (.bool (a != b))) | _ => none
  | _, _, _, _ => none
/-- Are two values equal, field by field? -/
def eqFs {PP : Program} (C : Cx PP) (h : Nat → List SV → List SV → Option Bool) (xs ys : List SV) : List (Nat × Nat) → Option Bool
  | [] => some true
  | (off, ft) :: r => match look C.T ft with
    | none => none
    | some fi => match takeN fi.sz (xs.drop off), takeN fi.sz (ys.drop off) with
      | some x, some y => match h ft x y with
        | none => none
        | some b => match r with
          | [] => some b
          | _ :: _ => match eqFs C h xs ys r with | some c => some (b && c) | none => none
      | _, _ => none
def arrFs (e sz : Nat) : Nat → Nat → List (Nat × Nat)
  | _, 0 => []
  | i, n + 1 => (i * sz, e) :: arrFs e sz (i + 1) n
def eqT {PP : Program} (C : Cx PP) : Nat → Nat → List SV → List SV → Option Bool
  | 0, _, _, _ => none
  | k + 1, t, xs, ys => match look C.T t with
    | none => none
    | some ti => match ti.k with
      | .struct fs => match ti.eq with | true => eqFs C (eqT C k) xs ys fs | false => none
      | .arr n e => match look C.T e with
        | some ei => eqFs C (eqT C k) xs ys (arrFs e ei.sz 0 n)
        | none => none
      | .int _ => match xs, ys with
        | [x], [y] => match x.int?, y.int? with
          | some (k1, a), some (k2, b) => match sameK k1 k2 with | true => some (decide (a = b)) | false => none
          | _, _ => none
        | _, _ => none
      | .bool => match xs, ys with
        | [x], [y] => match x.bool?, y.bool? with | some a, some b => some (a == b) | _, _ => none
        | _, _ => none
      | _ => none
def aggD {PP : Program} (C : Cx PP) (op : BinOp) (t : TypeId) (x y : SV) : Option SV :=
  match op, x, y with
  | .eql, .agg xs, .agg ys => match look C.T t with
    | some ti => match ti.eq, aggK ti.k with
      | true, true => match eqT C 4 t xs ys with | some c => some (.v (.bool c)) | none => none
      | _, _ => none
    | none => none
  | .neq, .agg xs, .agg ys => match look C.T t with
    | some ti => match ti.eq, aggK ti.k with
      | true, true => match eqT C 4 t xs ys with | some c => some (.v (.bool (!c))) | none => none
      | _, _ => none
    | none => none
  | _, _, _ => none
/-- Is a pointer nil? -/
def isNilP : SV → Bool
  | .v (.pointer none) => true
  | _ => false
def ptrNil : SV → Option Bool
  | .v (.pointer none) => some true
  | .rp _ _ => some false
  | .p _ _ => some false
  | .gp _ _ _ _ _ => some false
  | .kq _ _ _ _ _ => some false
  | _ => none
def isPtrK : TK → Bool
  | .ptr _ => true
  | _ => false
/-- A pointer is compared with nil. -/
def ptrD {PP : Program} (C : Cx PP) (op : BinOp) (t : TypeId) (x y : SV) : Option SV :=
  match ptrNil x, isNilP y, look C.T t with
  | some b, true, some ti => match isPtrK ti.k, op with
    | true, .eql => some (.bl b)
    | true, .neq => some (.bl (!b))
    | _, _ => none
  | _, _, _ => none
def unD (op : UnOp) (x : SV) : Option DR :=
  match op, x with
  | .not, .bl b => dv (.bl (!b))
  | .not, .v (.bool b) => dv (.v (.bool (!b)))
  | .neg, x => match x.int? with | some (k, n) => arI k (litOf x) none (-n) | none => none
  | _, _ => none
def convD {PP : Program} (C : Cx PP) (src dst : TypeId) (x : SV) : Option DR :=
  match look C.T src, look C.T dst with
  | some _, some ti => match ti.k with
    | .int k => match x.int? with
      | some (k', n) => match sameK k' .u64, litOf x with
        | true, false => dv (.v (.int k (k.wrap n)))
        | _, _ => arI k (litOf x) none n
      | none => none
    | _ => none
  | _, _ => none
def elemK : TK → Option Nat
  | .sl e => some e
  | _ => none
def repL : Nat → List SV → List SV
  | 0, _ => []
  | n + 1, l => l ++ repL n l
def fillE (sz : Nat) : List SV → List (Nat × SV) → Option (List SV)
  | z, [] => some z
  | z, (i, x) :: r => match cellsOfSV x with
    | some l => match Nat.beq l.length sz, Nat.ble (i * sz + sz) z.length with
      | true, true => match laid (z.take (i * sz) ++ l ++ z.drop (i * sz + sz)) with | some z' => fillE sz z' r | none => none
      | _, _ => none
    | none => none
def buildD {PP : Program} (C : Cx PP) (nm : Nat) (t len : Nat) (ps : List (Nat × SV)) : Option DR :=
  match look C.T t with
  | none => none
  | some ti => match elemK ti.k with
    | none => none
    | some e => match look C.T e with
      | none => none
      | some ei => match len, ps with
        | 0, [] => dv .e
        | _, _ => match Nat.beq (len * ei.sz) 0, Nat.ble (len * ei.sz) 16777216, Nat.beq ei.z.length ei.sz with
          | false, true, true => match fillE ei.sz (repL len ei.z) ps with
            | some l => match oneL l with
              | true => some ⟨none, .s nm ei.sz 0 len len, some (nm, .lay l e), true⟩
              | false => none
            | none => none
          | _, _, _ => none
/-- .. that is only read: under a guard. -/
def buildFD {PP : Program} (C : Cx PP) (t len : Nat) (ps : List (Nat × SV)) : Option DR :=
  match look C.T t with
  | none => none
  | some ti => match elemK ti.k with
    | none => none
    | some e => match look C.T e with
      | none => none
      | some ei => match Nat.beq (len * ei.sz) 0, Nat.ble (len * ei.sz) 16777216, Nat.beq ei.z.length ei.sz with
          | false, true, true => match fillE ei.sz (repL len ei.z) ps with
            | some l => match oneL l, pureL l, Nat.beq l.length (len * ei.sz) with
              | true, true, true => dv (.rs ei.sz len (fun i => chunk l ei.sz i))
              | _, _, _ => none
            | none => none
          | _, _, _ => none
/-- Is there a guard? -/
def fzB : List (Nat × Bool) → Bool
  | [] => false
  | _ :: _ => true
/-- A number that is at hand as a place. -/
def natLit : SV → Option Nat
  | .il _ (.ofNat k) => some k
  | .v (.int _ (.ofNat k)) => some k
  | _ => none
/-- The element's type and its size, of a slice's or an array's type. -/
def elemT {PP : Program} (C : Cx PP) (t : Nat) : Option (Nat × TI) :=
  match look C.T t with
  | none => none
  | some ti => match elemK ti.k with
    | none => none
    | some e => match look C.T e with | some ei => some (e, ei) | none => none
def arrT {PP : Program} (C : Cx PP) (t : Nat) : Option (Nat × Nat × TI) :=
  match look C.T t with
  | none => none
  | some ti => match ti.k with
    | .arr len e => match look C.T e with | some ei => some (len, e, ei) | none => none
    | _ => none
/-- The address of an element. -/
def elemD {PP : Program} (C : Cx PP) (t : Nat) (x i : SV) : Option DR :=
  match x with
  | .s n sz off len _ => match elemT C t, natLit i with
    | some (_, ei), some k => match Nat.blt k len, Nat.beq ei.sz sz with | true, true => dv (.p n (off + k * sz)) | _, _ => none
    | _, _ => none
  | .rs sz n h => match elemT C t, i.int? with
    | some (_, ei), some (_, k) => match Nat.beq ei.sz sz with | true => dvo (0 ≤ k ∧ k < n) (.rp (h k.toNat) 0) | false => none
    | _, _ => none
  | .g m e sz off n => match elemT C t, i.int? with
    | some (_, ei), some (_, k) => match Nat.beq ei.sz sz with | true => dvo (0 ≤ k ∧ k < n) (.gp m e sz (off + k.toNat) 0) | false => none
    | _, _ => none
  | .p n off => match arrT C t, natLit i with
    | some (len, _, ei), some k => match Nat.blt k len with | true => dv (.p n (off + k * ei.sz)) | false => none
    | _, _ => none
  | .rp x off => match arrT C t, natLit i with
    | some (len, _, ei), some k => match Nat.blt k len with | true => dv (.rp x (off + k * ei.sz)) | false => none
    | _, _ => none
  | .gp m e sz j off => match arrT C t, natLit i with
    | some (len, _, ei), some k => match Nat.blt k len with | true => dv (.gp m e sz j (off + k * ei.sz)) | false => none
    | _, _ => none
  | .kd m q sz off n => match elemT C t, i.int? with
    | some (_, ei), some (_, k) => match Nat.beq ei.sz sz with | true => dvo (0 ≤ k ∧ k < n) (.kq m q sz (off + k.toNat) 0) | false => none
    | _, _ => none
  | .kq m q sz j off => match arrT C t, natLit i with
    | some (len, _, ei), some k => match Nat.blt k len with | true => dv (.kq m q sz j (off + k * ei.sz)) | false => none
    | _, _ => none
  | .v (.pointer (some ⟨b, off, none⟩)) => match arrT C t, natLit i with
    | some (len, _, ei), some k => match Nat.blt k len with | true => dv (.v (.pointer (some ⟨b, off + k * ei.sz, none⟩))) | false => none
    | _, _ => none
  | _ => none
/-- An element of an array that is a value. -/
def indexD {PP : Program} (C : Cx PP) (t : Nat) (x i : SV) : Option SV :=
  match x, arrT C t, natLit i with
  | .agg l, some (len, _, ei), some k => match Nat.blt k len, aggK ei.k with
    | true, true => match takeN ei.sz (l.drop (k * ei.sz)) with | some m => some (.agg m) | none => none
    | true, false => l[k * ei.sz]?
    | false, _ => none
  | _, _, _ => none
def lenD {PP : Program} (C : Cx PP) (ats : Array TypeId) (l : List SV) : Option SV :=
  match l, ats.toList with
  | [x], t :: _ => match elemT C t with
    | some _ => match x with
      | .s _ _ _ len _ => some (.il .i64 (.ofNat len))
      | .rs _ n _ => some (.v (.int .i64 n))
      | .g _ _ _ _ n => some (.v (.int .i64 n))
      | .kd _ _ _ _ n => some (.v (.int .i64 n))
      | .e => some (.il .i64 0)
      | .v (.slice none 0 0) => some (.il .i64 0)
      | _ => none
    | none => none
  | _, _ => none
/-- A slice's length and elements, as they are now: of what may be appended. -/
def readS (H : Heap) (sz : Nat) : SV → Option (Nat × (Nat → List SV))
  | .e => some (0, fun _ => [])
  | .v (.slice none 0 0) => some (0, fun _ => [])
  | .rs sz' n h => match Nat.beq sz sz' with | true => some (n, h) | false => none
  | .g m e sz' off n => match lsts H m e sz', Nat.beq sz sz' with | some (_, h, _), true => some (n, fun i => h (off + i)) | _, _ => none
  | .kd m i sz' off n => match kids H m sz', Nat.beq sz sz' with | some (_, _, _, _, _, g, _, _), true => some (n, fun j => (g i).2 (off + j)) | _, _ => none
  | .s n sz' off len cap => match lays H n, Nat.beq sz sz' with
    | some (cs, _), true => match laid ((cs.drop off).take (len * sz)) with
      | some l => match Nat.beq l.length (len * sz), pureL l, len with
        | true, true, 1 => some (1, fun _ => l)
        | true, true, _ => some (len, fun i => chunk l sz i)
        | _, _, _ => none
      | none => none
    | _, _ => none
  | _ => none
def fitO (n bytes : Nat) : Prop := n ≤ maxLen ∧ n * bytes ≤ 140737488355328
/-- Elements, and others behind them. -/
def appF (N : Nat) (h k : Nat → List SV) : Nat → List SV := fun i => jnL (Nat.ble N i) (k (i - N)) (h i)
def appD {PP : Program} (C : Cx PP) (H : Heap) (nm : Nat) (t : Nat) (x y : SV) : Option DR :=
  match elemT C t with
  | none => none
  | some (e, ei) => match Nat.beq ei.sz 0, Nat.beq ei.z.length ei.sz, readS H ei.sz y with
    | false, true, some (m, k) => match x with
      | .e => some ⟨some (fitO m ei.nb), .g nm nm ei.sz 0 m, some (nm, .lst nm ei.sz m k e), true⟩
      | .v (.slice none 0 0) => some ⟨some (fitO m ei.nb), .g nm nm ei.sz 0 m, some (nm, .lst nm ei.sz m k e), true⟩
      | .g l ep sz 0 n => match lsts H l ep sz, Nat.beq ei.sz sz with
        | some (_, h, e'), true => match Nat.beq e e' with
          | true => some ⟨some (fitO (n + m) ei.nb ∧ ∀ i, i < n → ∀ j, alikeL (k j) (h i)), .g l nm sz 0 (n + m), some (l, .lst nm sz (n + m) (appF n h k) e), true⟩
          | false => none
        | _, _ => none
      | _ => none
    | _, _, _ => none
/-- An element that has a list of one's own is put behind the others. -/
def appN {PP : Program} (C : Cx PP) (H : Heap) (nm : Nat) (t : Nat) (x y : SV) : Option DR :=
  match elemT C t with
  | none => none
  | some (e, ei) => match x with
    | .g l ep sz 0 n => match nsts H l ep sz, Nat.beq ei.sz sz, Nat.beq sz 0, Nat.beq ei.z.length ei.sz with
      | some (N, h, p, szk, g, tk, t'), true, false, true => match Nat.beq e t', y with
        | true, .s n2 sz2 off 1 _ => match lays H n2, Nat.beq sz sz2 with
          | some (cs, _), true => match laid ((cs.drop off).take sz) with
            | some c => match Nat.beq c.length sz with
              | true => some ⟨some (fitO (n + 1) ei.nb ∧ n = N), .g l nm sz 0 (n + 1), some (l, .nst nm sz N h p szk g tk t' (some c)), true⟩
              | false => none
            | none => none
          | _, _ => none
        | _, _ => none
      | _, _, _, _ => none
    | _ => none
/-- A new slice of zeroes. -/
def makeD {PP : Program} (C : Cx PP) (nm : Nat) (t : Nat) (x y : SV) : Option DR :=
  match elemT C t, x.int?, y.int? with
  | some (e, ei), some (_, n), some (_, m) => match Nat.beq ei.sz 0, Nat.beq ei.z.length ei.sz with
    | false, true => some ⟨some (0 ≤ n ∧ n ≤ m ∧ fitO m.toNat ei.nb), .g nm nm ei.sz 0 n.toNat, some (nm, .lst nm ei.sz n.toNat (fun _ => ei.z) e), true⟩
    | _, _ => none
  | _, _, _ => none
/-- Is j one of the n places from off on? -/
def insB (off n j : Nat) : Bool := match Nat.ble off j with | true => Nat.blt j (off + n) | false => false
def clearD {PP : Program} (C : Cx PP) (H : Heap) (t : Nat) (x : SV) : Option DR :=
  match elemT C t with
  | none => none
  | some (e, ei) => match x with
    | .e => dv (.tup [])
    | .v (.slice none 0 0) => dv (.tup [])
    | .g m ep sz off n => match lsts H m ep sz, Nat.beq ei.sz sz, Nat.beq ei.z.length ei.sz, Nat.beq sz 0 with
      | some (N, h, e'), true, true, false => match Nat.beq e e' with
        | true => some ⟨some (∀ j, j < N → alikeL ei.z (h j)), .tup [], some (m, .lst ep sz N (fun j => jnL (insB off n j) ei.z (h j)) e'), false⟩
        | false => none
      | _, _, _, _ => none
    | _ => none
/-- Cells that are written over by elements, as far as there are any. -/
def copyL (f : Nat → List SV) (n : Nat) : Nat → Nat → List SV → List SV
  | _, 0, cs => cs
  | _, _ + 1, [] => []
  | i, r + 1, c :: cs => jnL (Nat.blt i n) (f i) [c] ++ copyL f n (i + 1) r cs
def copyA (f : Nat → List SV) : Nat → Nat → List SV → Prop
  | _, 0, _ => True
  | _, _ + 1, [] => True
  | i, r + 1, c :: cs => alikeL (f i) [c] ∧ copyA f (i + 1) r cs
/-- Cells that are copied from one named block to another. -/
def copyD {PP : Program} (C : Cx PP) (H : Heap) (t : Nat) (x y : SV) : Option DR :=
  match elemT C t with
  | none => none
  | some (_, ei) => match Nat.beq ei.sz 1 with
    | false => none
    | true => match x, y with
      | .s _ _ _ _ _, .v (.slice none 0 0) => dv (.il .i64 0)
      | .s m sz off len _, .s m' sz' off' len' _ => match Nat.beq sz 1, Nat.beq sz' 1, lays H m, lays H m' with
        | true, true, some (cs, ty), some (cs', _) => match laid ((cs'.drop off').take (min len' len)) with
          | some l => match Nat.beq l.length (min len' len), Nat.ble (off + l.length) cs.length, laid (cs.take off ++ l ++ cs.drop (off + l.length)) with
            | true, true, some c2 => some ⟨none, .il .i64 l.length, some (m, .lay c2 ty), false⟩
            | _, _, _ => none
          | none => none
        | _, _, _, _ => none
      | .s m sz off len _, .rs sz' n f => match Nat.beq sz 1, Nat.beq sz' 1, lays H m with
        | true, true, some (cs, ty) => match Nat.ble (off + len) cs.length, laid (cs.take off ++ copyL f n 0 len (cs.drop off)) with
          | true, some c2 => some ⟨some (copyA f 0 len (cs.drop off)), .v (.int .i64 (min n len : Nat)), some (m, .lay c2 ty), false⟩
          | _, _ => none
        | _, _, _ => none
      | _, _ => none
/-- Cells that are copied into a list of one's own. -/
def copyG {PP : Program} (C : Cx PP) (H : Heap) (t : Nat) (x y : SV) : Option DR :=
  match elemT C t with
  | none => none
  | some (_, ei) => match Nat.beq ei.sz 1 with
    | false => none
    | true => match x, y with
      | .e, .rs _ _ _ => dv (.il .i64 0)
      | .g m ep sz off n, .rs sz' k f => match lsts H m ep sz, Nat.beq sz 1, Nat.beq sz' 1 with
        | some (N, h, e'), true, true => some ⟨some (∀ j, j < N → alikeL (f (j - off)) (h j)), .v (.int .i64 (min k n : Nat)), some (m, .lst ep sz N (fun j => jnL (insB off (min k n) j) (f (j - off)) (h j)) e'), false⟩
        | _, _, _ => none
      | _, _ => none
/-- The room of a slice that has none. -/
def capD {PP : Program} (C : Cx PP) (ats : Array TypeId) (l : List SV) : Option SV :=
  match l, ats.toList with
  | [x], t :: _ => match elemT C t with
    | some _ => match x with
      | .e => some (.il .i64 0)
      | .v (.slice none 0 0) => some (.il .i64 0)
      | _ => none
    | none => none
  | _, _ => none
/-- The part of a slice. -/
def sliceD {PP : Program} (C : Cx PP) (t : Nat) (x : SV) (low high max : Option SV) : Option DR :=
  match x with
  | .rs sz n h => match elemT C t with
    | some (_, ei) => match Nat.beq ei.sz sz, low, high, max with
      | true, none, some hi, none => match hi.int? with | some (_, b) => dvo (0 ≤ b ∧ b ≤ n) (.rs sz b.toNat h) | none => none
      | true, some lo, none, none => match lo.int? with | some (_, a) => dvo (0 ≤ a ∧ a ≤ n) (.rs sz (n - a.toNat) (fun i => h (a.toNat + i))) | none => none
      | true, some lo, some hi, none => match lo.int?, hi.int? with | some (_, a), some (_, b) => dvo (0 ≤ a ∧ a ≤ b ∧ b ≤ n) (.rs sz (b.toNat - a.toNat) (fun i => h (a.toNat + i))) | _, _ => none
      | true, none, some (.il _ 0), some (.il _ 0) => dv .e
      | true, none, none, none => dv (.rs sz n h)
      | _, _, _, _ => none
    | none => none
  | .g m e sz off n => match elemT C t with
    | some (_, ei) => match Nat.beq ei.sz sz, low, high, max with
      | true, none, some hi, none => match hi.int? with | some (_, b) => dvo (0 ≤ b ∧ b ≤ n) (.g m e sz off b.toNat) | none => none
      | true, some lo, none, none => match lo.int? with | some (_, a) => dvo (0 ≤ a ∧ a ≤ n) (.g m e sz (off + a.toNat) (n - a.toNat)) | none => none
      | true, some lo, some hi, none => match lo.int?, hi.int? with | some (_, a), some (_, b) => dvo (0 ≤ a ∧ a ≤ b ∧ b ≤ n) (.g m e sz (off + a.toNat) (b.toNat - a.toNat)) | _, _ => none
      | true, none, some (.il _ 0), some (.il _ 0) => dv .e
      | true, none, none, none => dv (.g m e sz off n)
      | _, _, _, _ => none
    | none => none
  | .s n sz off len cap => match elemT C t with
    | some (_, ei) => match Nat.beq ei.sz sz, low, high, max with
      | true, none, none, none => dv (.s n sz off len cap)
      | true, none, some (.il _ 0), some (.il _ 0) => dv .e
      | _, _, _, _ => none
    | none => none
  | .p n off => match arrT C t with
    | some (len, _, ei) => match low, high, max, len with
      | none, none, none, _ + 1 => dv (.s n ei.sz off len len)
      | _, _, _, _ => none
    | none => none
  | .e => match elemT C t, low, high, max with
    | some _, none, none, none => dv .e
    | some _, none, some (.il _ 0), some (.il _ 0) => dv .e
    | some _, none, some (.il _ 0), none => dv .e
    | _, _, _, _ => none
  | .v (.slice none 0 0) => match elemT C t, low, high, max with
    | some _, none, none, none => dv .e
    | some _, none, some (.il _ 0), some (.il _ 0) => dv .e
    | some _, none, some (.il _ 0), none => dv .e
    | _, _, _, _ => none
  | _ => none
/-- The function that is called, what goes ahead of the arguments, what comes behind them. -/
def callee : SV → Option (Nat × List SV × List SV)
  | .v (.func (.func g) ⟨[]⟩ ⟨[]⟩) => some (g, [], [])
  | .f (.func g) first captured => some (g, first, captured)
  | _ => none
/-- A contract is used. -/
def useC {PP : Program} {C : Cx PP} (con : Con C) (H : Heap) (nm : Nat) (al : List SV) : Option DR :=
  match con.own with
  | some t => match (match pureL al with | true => some al | false => match con.fresh with | true => fzK H 3 al | false => none) with
    | some al' => match con.run al' with
      | some (ob, out) => match out with
        | .rs sz n f => some ⟨ob, .g nm nm sz 0 n, some (nm, .lst nm sz n f t), true⟩
        | .agg [x, .rs sz n f] => some ⟨ob, .agg [x, .g nm nm sz 0 n], some (nm, .lst nm sz n f t), true⟩
        | _ => none
      | none => none
    | none => none
  | none =>
  match pureL al with
  | true => match con.run al with | some (ob, out) => some ⟨ob, out, none, false⟩ | none => none
  | false => match fzK H 3 al with
    | some al' => match con.run al' with
      | some (ob, out) => match con.fresh with
        | true => some ⟨ob, out, none, false⟩
        | false => match flatS out with | true => some ⟨ob, out, none, false⟩ | false => none
      | none => none
    | none => none
def mm2 (mx : Bool) (x y : SV) : Option SV := match x.int?, y.int? with
  | some (k, a), some (k', b) => match sameK k k' with
    | true => match litOf x, litOf y, mx with
      | true, true, true => some (.il k (max a b))
      | true, true, false => some (.il k (min a b))
      | _, _, true => some (.v (.int k (max a b)))
      | _, _, false => some (.v (.int k (min a b)))
    | false => none
  | _, _ => none
def mmF (mx : Bool) : SV → List SV → Option SV
  | x, [] => some x
  | x, y :: r => match mm2 mx x y with | some z => mmF mx z r | none => none
def mmD (mx : Bool) : List SV → Option SV
  | x :: y :: r => match mm2 mx x y with | some z => mmF mx z r | none => none
  | _ => none
def sameT : List Nat → Option Nat
  | [t, t'] => match Nat.beq t t' with | true => some t | false => none
  | _ => none
def callD {PP : Program} {C : Cx PP} (Γ : List (Con C)) (op : OpF) (H : Heap) (nm : Nat) (c : Call) : Option DR :=
  match c.callee with
  | .value x => match op [] x with
    | some sf => match callee sf, opL op c.args.toList with
      | some (g, first, captured), some args => match findC Γ g with
        | some con => match laid (first ++ args ++ captured) with
          | some al => match con.eff with | some g => g H nm al | none => useC con H nm al
          | none => none
        | none => none
      | _, _ => none
    | none => none
  | .builtin .len => match opL op c.args.toList with | some l => od (lenD C c.argTypes l) | none => none
  | .builtin .max => match opL op c.args.toList with | some l => od (mmD true l) | none => none
  | .builtin .min => match opL op c.args.toList with | some l => od (mmD false l) | none => none
  | .builtin .append => match opL op c.args.toList, sameT c.argTypes.toList with
    | some [x, y], some t => match appD C H nm t x y with | some r => some r | none => appN C H nm t x y
    | _, _ => none
  | .builtin .clear => match opL op c.args.toList, c.argTypes.toList with
    | some [x], [t] => clearD C H t x
    | _, _ => none
  | .builtin .copy => match opL op c.args.toList, c.argTypes.toList with
    | some [x, y], [t, _] => match copyD C H t x y with | some r => some r | none => copyG C H t x y
    | _, _ => none
  | .builtin .cap => match opL op c.args.toList with | some l => od (capD C c.argTypes l) | none => none
  | _ => none
def andQ (a b : Bool) : Bool := match a with | true => b | false => false
/-- A store into a named block. -/
def storeD {PP : Program} (C : Cx PP) (H : Heap) (t : TypeId) (x v : SV) : Option DR :=
  match look C.T t, cellsOfSV v with
  | some ti, some l => match Nat.beq l.length ti.sz, oneL l with
    | true, true => match x with
      | .p n off => match lays H n with
        | some (cs, ty) => match Nat.ble (off + l.length) cs.length with
          | true => match laid (cs.take off ++ l ++ cs.drop (off + l.length)) with
            | some cs' => some ⟨none, .v undef, some (n, .lay cs' ty), false⟩
            | none => none
          | false => none
        | none => none
      | .gp m e sz i off => match lsts H m e sz, pureL l with
        | some (N, h, ty), true => match laid ((h i).take off ++ l ++ (h i).drop (off + l.length)) with
          | some c => match Nat.beq c.length sz, Nat.ble (off + l.length) sz with
            | true, true => some ⟨some (∀ j, j < N → alikeL c (h j)), .v undef, some (m, .lst e sz N (fun j => jnL (Nat.beq j i) c (h j)) ty), false⟩
            | _, _ => none
          | none => none
        | none, _ => match look H m, l with
          | some (.alt e' sz' N h p szk g tk ty a em n' f' false), [.g m2 em2 szk2 0 n2] => match Nat.beq e e', Nat.beq sz sz', Nat.beq off p, Nat.beq m m2, Nat.beq em em2, Nat.beq szk szk2, Nat.ble (p + 1) sz with
            | true, true, true, true, true, true, true => some ⟨some (i = a ∧ n2 = n' ∧ 1 ≤ n'), .v undef, some (m, .alt e sz N h p szk g tk ty a em n' f' true), false⟩
            | _, _, _, _, _, _, _ => none
          | _, _ => none
        | _, _ => none
      | .kq m i sz j off => match kids H m sz, pureL l with
        | some (e, esz, N, h, p, g, tk, ty), true => match laid (((g i).2 j).take off ++ l ++ ((g i).2 j).drop (off + l.length)) with
          | some c => match Nat.beq c.length sz, Nat.ble (off + l.length) sz with
            | true, true => some ⟨some (∀ a, a < N → ∀ b, b < (g a).1 → alikeL c ((g a).2 b)), .v undef, some (m, .nst e esz N h p sz (fun a => ((g a).1, fun b => jnL (andQ (Nat.beq a i) (Nat.beq b j)) c ((g a).2 b))) tk ty none), false⟩
            | _, _ => none
          | none => none
        | _, _ => none
      | _ => none
    | _, _ => none
  | _, _ => none
/-- The kind of a map's keys, its values. -/
def mapT {PP : Program} (C : Cx PP) (t : Nat) : Option (IntKind × TI) :=
  match look C.T t with
  | none => none
  | some ti => match ti.k with
    | .mp k e => match look C.T k, look C.T e with
      | some ki, some ei => match ki.k with | .int kk => some (kk, ei) | _ => none
      | _, _ => none
    | _ => none
def mapNew {PP : Program} (C : Cx PP) (nm t : Nat) : Option DR :=
  match mapT C t with
  | some (kk, ei) => some ⟨none, .m nm, some (nm, .mp kk (aggK ei.k) (fun _ => false) (fun _ => ei.z)), true⟩
  | none => none
def maps (H : Heap) (n : Nat) : Option (IntKind × Bool × (Int → Bool) × (Int → List SV)) := match look H n with | some (.mp k ag has g) => some (k, ag, has, g) | _ => none
def sameAg (a b : Bool) : Bool := match a, b with | true, true => true | false, false => true | _, _ => false
def mapCells (ag : Bool) (v : SV) : Option (List SV) := match ag, v with
  | true, .agg l => some l
  | false, .agg _ => none
  | false, .tup _ => none
  | false, .v (.agg _) => none
  | false, .v (.tuple _) => none
  | false, x => some [x]
  | _, _ => none
def mapSet {PP : Program} (C : Cx PP) (H : Heap) (t : Nat) (x i v : SV) : Option DR :=
  match mapT C t, x with
  | some (kk, ei), .m n => match maps H n, i.int? with
    | some (k, ag, has, g), some (k', q) => match sameK k kk, sameK k' kk, mapCells ag v with
      | true, true, some l => match pureL l with
        | true => some ⟨some (∀ j, alikeL l (g j)), .v undef, some (n, .mp k ag (fun j => decide (j = q) || has j) (fun j => jnL (decide (j = q)) l (g j))), false⟩
        | false => none
      | _, _, _ => none
    | _, _ => none
  | _, _ => none
def mapVal (ag : Bool) (l : List SV) : Option SV := match ag, l with
  | true, l => some (.agg l)
  | false, [x] => some x
  | _, _ => none
def mapGet {PP : Program} (C : Cx PP) (H : Heap) (t : Nat) (x i : SV) (ok : Bool) : Option DR :=
  match mapT C t, x with
  | some (kk, ei), .m n => match maps H n, i.int? with
    | some (k, ag, has, g), some (k', q) => match sameK k kk, sameK k' kk, sameAg ag (aggK ei.k), mapVal ag (jnL (has q) (g q) ei.z) with
      | true, true, true, some v => match ok with
        | true => some ⟨some (alikeL (g q) ei.z), .tup [v, .v (.bool (has q))], none, false⟩
        | false => some ⟨some (alikeL (g q) ei.z), v, none, false⟩
      | _, _, _, _ => none
    | _, _ => none
  | _, _ => none
/-- What is known where a condition's value is literal. -/
def exL (c : Operand) (b : Bool) : List (Nat × Bool) := match c with
  | .tmp t => [(t, b)]
  | _ => []
def D0 {PP : Program} {C : Cx PP} (Γ : List (Con C)) (fz : Bool) (op : OpF) (H : Heap) (nm : Nat) : Op → Option DR
  | .move x => match op [] x with | some v => dv v | none => none
  | .assign x => match op [] x with | some v => dv v | none => none
  | .pick c x y => match op [] c, c with
    | some (.bl true), _ => match op (exL c true) x with | some v => dv v | none => none
    | some (.bl false), _ => match op (exL c false) y with | some v => dv v | none => none
    | some (.v (.bool b)), .tmp t => match op [(t, true)] x, op [(t, false)] y with
      | some u, some v => match pickD b u v with | some z => dv z | none => none
      | _, _ => none
    | _, _ => none
  | .alloc t => match look C.T t with | some ti => some ⟨none, .p nm 0, some (nm, .lay ti.z t), true⟩ | none => none
  | .box t x => match op [] x with
    | some v => match cellsOfSV v with
      | some l => match oneL l with | true => some ⟨none, .p nm 0, some (nm, .lay l t), true⟩ | false => none
      | none => none
    | none => none
  | .build s parts => match look C.T s, opP op parts.toList with
    | some ti, some ps => match ti.k with
      | .struct fs => match fillD C s ti.z ps, allT C fs with | some l, true => dv (.agg l) | _, _ => none
      | .arr _ e => match look C.T e with
        | some ei => match fillE ei.sz ti.z ps with | some l => dv (.agg l) | none => none
        | none => none
      | _ => none
    | _, _ => none
  | .load t x => match op [] x with | some v => od (loadD C H v t) | none => none
  | .store t x y => match op [] x, op [] y with | some u, some v => storeD C H t u v | _, _ => none
  | .fieldAddr s x k => match op [] x, fieldD C s k with
    | some u, some (fo, fi) => od (fieldAddrD u fo fi.sz)
    | _, _ => none
  | .field s x k => match op [] x, fieldD C s k with
    | some (.agg l), some (fo, fi) => match aggK fi.k with
      | true => match takeN fi.sz (l.drop fo) with | some m => dv (.agg m) | none => none
      | false => match l[fo]? with | some c => dv c | none => none
    | _, _ => none
  | .binOp o t x y _ => match op [] x, op [] y with
    | some u, some v => match binM (wrapG Γ) o u v with
      | some r => some r
      | none => match boolD C o t u v with
        | some r => dv r
        | none => match aggD C o t u v with
          | some r => dv r
          | none => od (ptrD C o t u v)
    | _, _ => none
  | .unOp o _ x => match op [] x with | some u => unD o u | none => none
  | .extract x k => match op [] x with
    | some (.tup l) => match l[k]? with | some v => dv v | none => none
    | _ => none
  | .nilCheck x => match op [] x with
    | some (.p n off) => dv (.p n off)
    | some (.rp x off) => dv (.rp x off)
    | some (.gp m e sz i off) => dv (.gp m e sz i off)
    | some (.kq m i sz j off) => dv (.kq m i sz j off)
    | _ => none
  | .makeFunc fn first captured => match opL op first.toList, opL op captured.toList with
    | some x, some y => dv (.f fn x y)
    | _, _ => none
  | .call c => callD Γ op H nm c
  | .convert src dst x => match op [] x with | some v => convD C src dst v | none => none
  | .buildSlice t len parts => match opP op parts.toList with | some ps => (match fz, frzM Γ with | false, false => buildD C nm t len ps | _, _ => buildFD C t len ps) | none => none
  | .makeMap t none => mapNew C nm t
  | .mapUpdate t x i v => match op [] x, op [] i, op [] v with | some x, some i, some v => mapSet C H t x i v | _, _, _ => none
  | .lookup t x i ok => match op [] x, op [] i with | some x, some i => mapGet C H t x i ok | _, _ => none
  | .makeSlice t x y => match op [] x, op [] y with | some u, some v => makeD C nm t u v | _, _ => none
  | .indexAddr t x i => match op [] x, op [] i with | some u, some v => elemD C t u v | _, _ => none
  | .index t x i => match op [] x, op [] i with | some u, some v => od (indexD C t u v) | _, _ => none
  | .slice t x low high max => match op [] x, opO op low, opO op high, opO op max with
    | some u, some a, some b, some c => sliceD C t u a b c
    | _, _, _, _ => none
  | _ => none
/-- What may stand under a guard that is not met, though nothing is known of it. -/
def mayFail : Op → Option SV
  | .slice .. => some .e
  | .indexAddr .. => some (.v (.pointer none))
  | .binOp .eql .. => some (.v (.bool false))
  | .call c => match c.callee with | .builtin .cap => some (.il .i64 0) | _ => none
  | _ => none
def D {PP : Program} {C : Cx PP} (Γ : List (Con C)) (fz : Bool) (op : OpF) (H : Heap) (nm : Nat) (o : Op) : Option DR := match D0 Γ fz op H nm o with
  | some r => some r
  | none => match mayFail o with | some v => dvo False v | none => none

end Go.Proofs.YtcojfohjdibjjaaGreatDoor
