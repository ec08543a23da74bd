/- A symbolic executor, 1: values with named blocks, types, states. -/
import Derived.Test.YtggcfjeehpcclaaDoorA0
namespace Go.Proofs.YtggcfjeehpcclaaDoor
open Go.RowKit

/-- A value: as it stands; a literal; a pointer or slice into a named block; a function value; an aggregate. -/
inductive SV where
  | v (x : Value)
  | il (n : Int)
  | bl (b : Bool)
  | p (n off : Nat)
  | s (n off len cap : Nat)
  | f (fn : Fn) (first captured : List SV)
  | agg (l : List SV)
  | tup (l : List SV)

abbrev Names := Nat → Option Nat

mutual
def den (ρ : Names) : SV → Option Value
  | .v x => some x
  | .il n => some (.int .i64 n)
  | .bl b => some (.bool b)
  | .p n off => match ρ n with | some b => some (.pointer (some ⟨b, off, none⟩)) | none => none
  | .s n off len cap => match ρ n with | some b => some (.slice (some ⟨b, off, none⟩) len cap) | none => none
  | .f fn first captured => match denL ρ first, denL ρ captured with | some x, some y => some (.func fn x.toArray y.toArray) | _, _ => none
  | .agg l => match denL ρ l with | some x => some (.agg x.toArray) | none => none
  | .tup l => match denL ρ l with | some x => some (.tuple x.toArray) | none => none
def denL (ρ : Names) : List SV → Option (List Value)
  | [] => some []
  | x :: r => match den ρ x, denL ρ r with | some a, some b => some (a :: b) | _, _ => none
end

/-- More names. -/
def Names.le (ρ ρ' : Names) : Prop := ∀ n b, ρ n = some b → ρ' n = some b
theorem Names.le.refl (ρ : Names) : ρ.le ρ := fun _ _ h => h
theorem Names.le.trans {a b c : Names} (h : a.le b) (k : b.le c) : a.le c := fun n m x => k n m (h n m x)

mutual
theorem den_le {ρ ρ' : Names} (h : ρ.le ρ') : ∀ (x : SV) (v : Value), den ρ x = some v → den ρ' x = some v
  | .v x, v, e => by simpa [den] using e
  | .il n, v, e => by simpa [den] using e
  | .bl b, v, e => by simpa [den] using e
  | .p n off, v, e => by
    simp only [den] at e ⊢
    cases hn : ρ n with
    | none => rw [hn] at e; cases e
    | some b => rw [hn] at e; rw [h n b hn]; exact e
  | .s n off len cap, v, e => by
    simp only [den] at e ⊢
    cases hn : ρ n with
    | none => rw [hn] at e; cases e
    | some b => rw [hn] at e; rw [h n b hn]; exact e
  | .f fn first captured, v, e => by
    simp only [den] at e ⊢
    cases h1 : denL ρ first with
    | none => rw [h1] at e; cases e
    | some x =>
      cases h2 : denL ρ captured with
      | none => rw [h1, h2] at e; cases e
      | some y => rw [h1, h2] at e; rw [denL_le h first x h1, denL_le h captured y h2]; exact e
  | .agg l, v, e => by
    simp only [den] at e ⊢
    cases h1 : denL ρ l with
    | none => rw [h1] at e; cases e
    | some x => rw [h1] at e; rw [denL_le h l x h1]; exact e
  | .tup l, v, e => by
    simp only [den] at e ⊢
    cases h1 : denL ρ l with
    | none => rw [h1] at e; cases e
    | some x => rw [h1] at e; rw [denL_le h l x h1]; exact e
theorem denL_le {ρ ρ' : Names} (h : ρ.le ρ') : ∀ (l : List SV) (v : List Value), denL ρ l = some v → denL ρ' l = some v
  | [], v, e => by simpa [denL] using e
  | x :: r, v, e => by
    simp only [denL] at e ⊢
    cases h1 : den ρ x with
    | none => rw [h1] at e; cases e
    | some a =>
      cases h2 : denL ρ r with
      | none => rw [h1, h2] at e; cases e
      | some b => rw [h1, h2] at e; rw [den_le h x a h1, denL_le h r b h2]; exact e
end

theorem denL_cons {ρ : Names} {x : SV} {r : List SV} {l : List Value} (h : denL ρ (x :: r) = some l) : ∃ a b, l = a :: b ∧ den ρ x = some a ∧ denL ρ r = some b := by
  simp only [denL] at h
  cases h1 : den ρ x with
  | none => rw [h1] at h; cases h
  | some a =>
    cases h2 : denL ρ r with
    | none => rw [h1, h2] at h; cases h
    | some b => rw [h1, h2] at h; exact ⟨a, b, (Option.some.inj h).symm, rfl, rfl⟩
theorem denL_cons_of {ρ : Names} {x : SV} {r : List SV} {a : Value} {b : List Value} (h : den ρ x = some a) (k : denL ρ r = some b) : denL ρ (x :: r) = some (a :: b) := by
  simp only [denL, h, k]
theorem denL_nil {ρ : Names} {l : List Value} (h : denL ρ [] = some l) : l = [] := (Option.some.inj (by simpa [denL] using h)).symm

theorem denL_get {ρ : Names} : ∀ {l : List SV} {vs : List Value} {i : Nat} {x : SV}, denL ρ l = some vs → l[i]? = some x → ∃ v, vs[i]? = some v ∧ den ρ x = some v
  | [], _, _, _, _, hi => by simp at hi
  | y :: r, vs, 0, x, h, hi => by
    obtain ⟨a, b, rfl, h1, h2⟩ := denL_cons h
    obtain rfl : y = x := by simpa using hi
    exact ⟨a, rfl, h1⟩
  | y :: r, vs, i + 1, x, h, hi => by
    obtain ⟨a, b, rfl, h1, h2⟩ := denL_cons h
    obtain ⟨v, hv, hd⟩ := denL_get h2 (by simpa using hi)
    exact ⟨v, by simpa using hv, hd⟩
theorem denL_length {ρ : Names} : ∀ {l : List SV} {vs : List Value}, denL ρ l = some vs → vs.length = l.length
  | [], vs, h => by rw [denL_nil h]; rfl
  | y :: r, vs, h => by
    obtain ⟨a, b, rfl, h1, h2⟩ := denL_cons h
    simp [denL_length h2]
theorem denL_append {ρ : Names} : ∀ {l m : List SV} {vs us : List Value}, denL ρ l = some vs → denL ρ m = some us → denL ρ (l ++ m) = some (vs ++ us)
  | [], m, vs, us, h, k => by rw [denL_nil h]; exact k
  | y :: r, m, vs, us, h, k => by
    obtain ⟨a, b, rfl, h1, h2⟩ := denL_cons h
    exact denL_cons_of h1 (denL_append h2 k)
theorem denL_set {ρ : Names} : ∀ {l : List SV} {vs : List Value} {i : Nat} {x : SV} {v : Value}, denL ρ l = some vs → den ρ x = some v → denL ρ (l.set i x) = some (vs.set i v)
  | [], vs, i, x, v, h, hx => by rw [denL_nil h]; rfl
  | y :: r, vs, 0, x, v, h, hx => by
    obtain ⟨a, b, rfl, h1, h2⟩ := denL_cons h
    exact denL_cons_of hx h2
  | y :: r, vs, i + 1, x, v, h, hx => by
    obtain ⟨a, b, rfl, h1, h2⟩ := denL_cons h
    exact denL_cons_of h1 (denL_set h2 hx)
theorem denL_drop {ρ : Names} : ∀ {l : List SV} {vs : List Value} (i : Nat), denL ρ l = some vs → denL ρ (l.drop i) = some (vs.drop i)
  | [], vs, i, h => by rw [denL_nil h]; simp [denL]
  | y :: r, vs, 0, h => h
  | y :: r, vs, i + 1, h => by
    obtain ⟨a, b, rfl, h1, h2⟩ := denL_cons h
    exact denL_drop i h2

/-- The first n of a list, with its cells laid out. -/
def takeN : Nat → List SV → Option (List SV)
  | 0, _ => some []
  | _ + 1, [] => none
  | n + 1, x :: r => match takeN n r with | some l => some (x :: l) | none => none
theorem takeN_den {ρ : Names} : ∀ {n : Nat} {l m : List SV} {vs : List Value}, takeN n l = some m → denL ρ l = some vs → denL ρ m = some (vs.take n) ∧ n ≤ vs.length
  | 0, l, m, vs, h, hd => by
    obtain rfl : [] = m := by simpa [takeN] using h
    exact ⟨rfl, by omega⟩
  | n + 1, [], m, vs, h, hd => by simp [takeN] at h
  | n + 1, x :: r, m, vs, h, hd => by
    obtain ⟨a, b, rfl, h1, h2⟩ := denL_cons hd
    simp only [takeN] at h
    cases hr : takeN n r with
    | none => rw [hr] at h; cases h
    | some l =>
      rw [hr] at h
      obtain rfl := Option.some.inj h
      obtain ⟨k1, k2⟩ := takeN_den hr h2
      exact ⟨by simpa using denL_cons_of h1 k1, by simp; omega⟩

/-- A list laid out once more: to be evaluated. -/
def laid : List SV → Option (List SV)
  | [] => some []
  | x :: r => match laid r with | some l => some (x :: l) | none => none
theorem laid_eq : ∀ {l m : List SV}, laid l = some m → m = l
  | [], m, h => by simpa [laid] using h.symm
  | x :: r, m, h => by
    simp only [laid] at h
    cases hr : laid r with
    | none => rw [hr] at h; cases h
    | some l => rw [hr] at h; rw [← Option.some.inj h, laid_eq hr]

/-- The newest entry of a name. -/
def look {α : Type} : List (Nat × α) → Nat → Option α
  | [], _ => none
  | (m, a) :: r, n => match Nat.beq m n with | true => some a | false => look r n
theorem look_cons_eq {α : Type} (l : List (Nat × α)) (n : Nat) (a : α) : look ((n, a) :: l) n = some a := by simp [look]
theorem look_cons_ne {α : Type} (l : List (Nat × α)) {m n : Nat} (a : α) (h : m ≠ n) : look ((m, a) :: l) n = look l n := by
  have : Nat.beq m n = false := by
    cases hb : Nat.beq m n with
    | false => rfl
    | true => exact absurd (Nat.eq_of_beq_eq_true hb) h
  simp [look, this]
theorem look_mem {α : Type} : ∀ {l : List (Nat × α)} {n : Nat} {a : α}, look l n = some a → (n, a) ∈ l
  | [], _, _, h => by simp [look] at h
  | (m, b) :: r, n, a, h => by
    by_cases hm : m = n
    · subst hm
      rw [look_cons_eq] at h
      rw [Option.some.inj h]
      exact List.mem_cons_self
    · rw [look_cons_ne r b hm] at h
      exact List.mem_cons_of_mem _ (look_mem h)

/-! ### Types -/
inductive TK where
  | prim
  | bool
  | int (k : IntKind)
  | struct (fs : List (Nat × Nat))
  | arr (n e : Nat)
  | sl (e : Nat)
structure TI where
  sz : Nat
  k : TK
  z : List SV
  /-- May two of them be compared field by field? -/
  eq : Bool

def zeroEq : Value → SV → Bool
  | .bool a, .bl b => a == b
  | .int k n, .il m => k == .i64 && n == m
  | .int k n, .v (.int k' m) => k == k' && n == m
  | .pointer none, .v (.pointer none) => true
  | .slice none a b, .v (.slice none c d) => a == c && b == d
  | .nilFunc, .v .nilFunc => true
  | .nilIface, .v .nilIface => true
  | _, _ => false
theorem zeroEq_den {ρ : Names} {x : Value} {y : SV} (h : zeroEq x y = true) : den ρ y = some x := by
  unfold zeroEq at h
  split at h <;> simp_all [den]
def zeroEqL : List Value → List SV → Bool
  | [], [] => true
  | x :: r, y :: s => zeroEq x y && zeroEqL r s
  | _, _ => false
theorem zeroEqL_den {ρ : Names} : ∀ {l : List Value} {m : List SV}, zeroEqL l m = true → denL ρ m = some l
  | [], [], _ => rfl
  | [], y :: s, h => by simp [zeroEqL] at h
  | x :: r, [], h => by simp [zeroEqL] at h
  | x :: r, y :: s, h => by
    simp only [zeroEqL, Bool.and_eq_true] at h
    exact denL_cons_of (zeroEq_den h.1) (zeroEqL_den h.2)

def kindEq : TypeDesc → TK → Bool
  | .struct fs, .struct l => (fs.toList.map fun f => (f.offset, f.type)) == l
  | .array n e, .arr n' e' => n == n' && e == e'
  | .slice e, .sl e' => e == e'
  | .struct _, _ => false
  | .array _ _, _ => false
  | .slice _, _ => false
  | .bool, .bool => true
  | .bool, _ => false
  | .int k, .int k' => decide (k = k')
  | .int _, _ => false
  | _, .prim => true
  | _, _ => false
def eqOk (P : Program) (t : Nat) : Bool :=
  !P.stoodInHeld t && !P.eqGuardType P.depth t && (match P.underlying t with | some (.struct fs) => fs.toList.all fun f => f.name != "_" | _ => true)
def chkT (P : Program) (x : Nat × TI) : Bool :=
  match P.info? x.1, P.underlying x.1 with
  | some i, some d => i.size == x.2.sz && (match i.zero with | some z => zeroEqL z.cells.toList x.2.z | none => false) && kindEq d x.2.k && (!x.2.eq || eqOk P x.1)
  | _, _ => false

structure TFacts (P : Program) (t : Nat) (ti : TI) : Prop where
  ex : ∃ i d z, P.info? t = some i ∧ P.underlying t = some d ∧ i.size = ti.sz ∧ i.zero = some z ∧ zeroEqL z.cells.toList ti.z = true ∧ kindEq d ti.k = true
  eq : ti.eq = true → eqOk P t = true
theorem chkT_facts {P : Program} {t : Nat} {ti : TI} (h : chkT P (t, ti) = true) : TFacts P t ti := by
  unfold chkT at h
  split at h
  · rename_i i d hi hd
    simp only [Bool.and_eq_true, beq_iff_eq] at h
    obtain ⟨⟨⟨h1, h2⟩, h3⟩, h4⟩ := h
    cases hz : i.zero with
    | none => rw [hz] at h2; cases h2
    | some z => rw [hz] at h2; exact ⟨⟨i, d, z, hi, hd, h1, hz, h2, h3⟩, fun he => by rw [he] at h4; simpa using h4⟩
  · cases h

/-! ### The heap -/
structure SB where
  cs : List SV
  t : TypeId

/-- What is known of the program: types, the blocks that stand for ever. -/
structure Cx (P : Program) where
  T : List (Nat × TI)
  G : List (Nat × SB)
  gm : Nat
  hT : T.all (chkT P) = true
abbrev Cx.P {PP : Program} (_ : Cx PP) : Program := PP

theorem Cx.ty {PP : Program} (C : Cx PP) {t : Nat} {ti : TI} (h : look C.T t = some ti) : TFacts C.P t ti := chkT_facts (List.all_eq_true.1 C.hT _ (look_mem h))

def noNames : Names := fun _ => none
/-- The blocks that stand for ever, stand. -/
def Cx.Grd {PP : Program} (C : Cx PP) (W : World) : Prop := C.gm ≤ W.heap.size ∧ ∀ b sb, look C.G b = some sb → b < C.gm ∧ ∃ vs, denL noNames sb.cs = some vs ∧ ∀ (i : Nat) (v : Value), vs[i]? = some v → W.cell? ⟨b, i, none⟩ = some v
theorem Cx.Grd.gr {PP : Program} {C : Cx PP} {W W' : World} (h : C.Grd W) (g : Gr W W') : C.Grd W' :=
  ⟨Nat.le_trans h.1 g.size, fun b sb hb => let ⟨h0, vs, h1, h2⟩ := h.2 b sb hb; ⟨h0, vs, h1, fun i v hv => g.cellSome (h2 i v hv)⟩⟩
/-- The named blocks hold what is said of them. -/
structure HOk {PP : Program} (C : Cx PP) (H : List (Nat × SB)) (ρ : Names) (W : World) : Prop where
  blk : ∀ n sb, look H n = some sb → ∃ b vs, ρ n = some b ∧ denL ρ sb.cs = some vs ∧ Blk W b vs.toArray sb.t
  inj : ∀ i j b, ρ i = some b → ρ j = some b → i = j
  low : ∀ n b, ρ n = some b → C.gm ≤ b ∧ b < W.heap.size
  grd : C.Grd W

theorem HOk.gr {PP : Program} {C : Cx PP} {H : List (Nat × SB)} {ρ : Names} {W W' : World} (h : HOk C H ρ W) (g : Gr W W') : HOk C H ρ W' :=
  ⟨fun n sb hn => let ⟨b, vs, h1, h2, h3⟩ := h.blk n sb hn; ⟨b, vs, h1, h2, g.blk h3⟩, h.inj,
   fun n b hn => ⟨(h.low n b hn).1, Nat.lt_of_lt_of_le (h.low n b hn).2 g.size⟩,
   h.grd.gr g⟩
end Go.Proofs.YtggcfjeehpcclaaDoor
