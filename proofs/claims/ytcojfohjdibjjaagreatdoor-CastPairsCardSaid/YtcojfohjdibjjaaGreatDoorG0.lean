/- A symbolic executor with lists, 1: values, named memory, types, states. -/
import Derived.Test.YtcojfohjdibjjaaGreatDoorA0
import Derived.MapKept
namespace Go.Proofs.YtcojfohjdibjjaaGreatDoor
open Go.RowKit

/-- A value: as it stands; a literal; a pointer or slice into a named block; a function value; an aggregate; an empty slice without room; a slice or pointer into memory that never changes; a slice or pointer into a list of one's own; a map of one's own; a slice or pointer into the list that element i of such a list has. -/
inductive SV where
  | v (x : Value)
  | il (k : IntKind) (n : Int)
  | bl (b : Bool)
  | p (n off : Nat)
  | s (n sz off len cap : Nat)
  | f (fn : Fn) (first captured : List SV)
  | agg (l : List SV)
  | tup (l : List SV)
  | e
  | rs (sz n : Nat) (f : Nat → List SV)
  | rp (x : List SV) (off : Nat)
  | g (m e sz off n : Nat)
  | gp (m e sz i off : Nat)
  | m (n : Nat)
  | kd (m i sz off n : Nat)
  | kq (m i sz j off : Nat)

/-- A list of one's own: whose it is, where it lies, its room, its length. -/
structure LV where
  o : Nat
  a : Option Addr
  cap : Nat
  N : Nat
/-- What names mean: blocks, lists; memory that never changes. -/
structure Names where
  n : Nat → Option Nat
  v : Nat → Option LV
  k : Nat → Nat → Option LV
  z : Nat → Nat → Value → Prop
  /-- The deferred calls of the frame that is walked (nothing else reads it). -/
  d : List Deferred
  /-- Blocks that are owned under no name. -/
  o : Nat → Prop
def Names.zo (ρ : Names) : Names := ⟨fun _ => none, fun _ => none, fun _ _ => none, ρ.z, [], fun _ => False⟩
/-- .. as a call that begins has them. -/
def Names.noD (ρ : Names) : Names := ⟨ρ.n, ρ.v, ρ.k, ρ.z, [], fun _ => False⟩

mutual
def den : Names → SV → Value → Prop
  | _, .v x, y => y = x
  | _, .il k n, y => y = .int k n
  | _, .bl b, y => y = .bool b
  | ρ, .p n off, y => ∃ b, ρ.n n = some b ∧ y = .pointer (some ⟨b, off, none⟩)
  | ρ, .s n _ off len cap, y => ∃ b, ρ.n n = some b ∧ y = .slice (some ⟨b, off, none⟩) len cap
  | ρ, .f fn first captured, y => ∃ u w, denL ρ first u ∧ denL ρ captured w ∧ y = .func fn u.toArray w.toArray
  | ρ, .agg l, y => ∃ u, denL ρ l u ∧ y = .agg u.toArray
  | ρ, .tup l, y => ∃ u, denL ρ l u ∧ y = .tuple u.toArray
  | _, .e, y => ∃ a, y = .slice a 0 0
  | ρ, .rs sz n f, y => ∃ a cap, y = .slice a n cap ∧ n ≤ cap ∧ ∀ i, i < n → ∃ b o u, a = some ⟨b, o, none⟩ ∧ denL ρ.zo (f i) u ∧ u.length = sz ∧ ∀ k c, u[k]? = some c → ρ.z b (o + i * sz + k) c
  | ρ, .rp x off, y => ∃ b o u, y = .pointer (some ⟨b, o + off, none⟩) ∧ denL ρ.zo x u ∧ ∀ k c, u[k]? = some c → ρ.z b (o + k) c
  | ρ, .g m e sz off n, y => ∃ l, ρ.v e = some l ∧ l.o = m ∧ off + n ≤ l.N ∧ l.N ≤ l.cap ∧ ∃ a', y = .slice a' n (l.cap - off) ∧ (l.cap - off ≠ 0 → ∃ b, l.a = some ⟨b, 0, none⟩ ∧ a' = some ⟨b, off * sz, none⟩)
  | ρ, .gp m e sz i off, y => ∃ l b, ρ.v e = some l ∧ l.o = m ∧ i < l.N ∧ l.N ≤ l.cap ∧ l.a = some ⟨b, 0, none⟩ ∧ y = .pointer (some ⟨b, i * sz + off, none⟩)
  | ρ, .m n, y => ∃ b, ρ.n n = some b ∧ y = .map (some b)
  | ρ, .kd m i sz off n, y => ∃ l, ρ.k m i = some l ∧ off + n ≤ l.N ∧ l.N ≤ l.cap ∧ ∃ a', y = .slice a' n (l.cap - off) ∧ (l.cap - off ≠ 0 → ∃ b, l.a = some ⟨b, 0, none⟩ ∧ a' = some ⟨b, off * sz, none⟩)
  | ρ, .kq m i sz j off, y => ∃ l b, ρ.k m i = some l ∧ j < l.N ∧ l.N ≤ l.cap ∧ l.a = some ⟨b, 0, none⟩ ∧ y = .pointer (some ⟨b, j * sz + off, none⟩)
def denL : Names → List SV → List Value → Prop
  | _, [], y => y = []
  | ρ, x :: r, y => ∃ a b, y = a :: b ∧ den ρ x a ∧ denL ρ r b
end

/-- More names. -/
structure Names.le (ρ ρ' : Names) : Prop where
  n : ∀ n b, ρ.n n = some b → ρ'.n n = some b
  v : ∀ n b, ρ.v n = some b → ρ'.v n = some b
  k : ∀ n i b, ρ.k n i = some b → ρ'.k n i = some b
  z : ∀ b i c, ρ.z b i c → ρ'.z b i c
theorem Names.le.refl (ρ : Names) : ρ.le ρ := ⟨fun _ _ h => h, fun _ _ h => h, fun _ _ _ h => h, fun _ _ _ h => h⟩
theorem Names.le.trans {a b c : Names} (h : a.le b) (k : b.le c) : a.le c := ⟨fun n m x => k.n n m (h.n n m x), fun n m x => k.v n m (h.v n m x), fun n m y x => k.k n m y (h.k n m y x), fun n m y x => k.z n m y (h.z n m y x)⟩
theorem Names.le.zo {a b : Names} (h : a.le b) : a.zo.le b.zo := ⟨fun _ _ h => (by cases h), fun _ _ h => (by cases h), fun _ _ _ h => (by cases h), h.z⟩
theorem Names.zo_le (a : Names) : a.zo.le a := ⟨fun _ _ h => (by cases h), fun _ _ h => (by cases h), fun _ _ _ h => (by cases h), fun _ _ _ h => h⟩

mutual
theorem den_le {ρ ρ' : Names} (h : ρ.le ρ') : ∀ (x : SV) (v : Value), den ρ x v → den ρ' x v
  | .v x, v, e => e
  | .il k n, v, e => e
  | .bl b, v, e => e
  | .p n off, v, ⟨b, e1, e2⟩ => ⟨b, h.n _ _ e1, e2⟩
  | .s n sz off len cap, v, ⟨b, e1, e2⟩ => ⟨b, h.n _ _ e1, e2⟩
  | .f fn first captured, v, ⟨u, w, e1, e2, e3⟩ => ⟨u, w, denL_le h _ _ e1, denL_le h _ _ e2, e3⟩
  | .agg l, v, ⟨u, e1, e2⟩ => ⟨u, denL_le h _ _ e1, e2⟩
  | .tup l, v, ⟨u, e1, e2⟩ => ⟨u, denL_le h _ _ e1, e2⟩
  | .e, v, e => e
  | .rs sz n f, v, ⟨a, cap, e1, e2, e3⟩ => ⟨a, cap, e1, e2, fun i hi => let ⟨b, o, u, k1, k2, k3, k4⟩ := e3 i hi; ⟨b, o, u, k1, denL_le h.zo _ _ k2, k3, fun k c hc => h.z _ _ _ (k4 k c hc)⟩⟩
  | .rp x off, v, ⟨b, o, u, e1, e2, e3⟩ => ⟨b, o, u, e1, denL_le h.zo _ _ e2, fun k c hc => h.z _ _ _ (e3 k c hc)⟩
  | .g m e sz off n, v, ⟨l, e1, e2⟩ => ⟨l, h.v _ _ e1, e2⟩
  | .gp m e sz i off, v, ⟨l, b, e1, e2⟩ => ⟨l, b, h.v _ _ e1, e2⟩
  | .m n, v, ⟨b, e1, e2⟩ => ⟨b, h.n _ _ e1, e2⟩
  | .kd m i sz off n, v, ⟨l, e1, e2⟩ => ⟨l, h.k _ _ _ e1, e2⟩
  | .kq m i sz j off, v, ⟨l, b, e1, e2⟩ => ⟨l, b, h.k _ _ _ e1, e2⟩
theorem denL_le {ρ ρ' : Names} (h : ρ.le ρ') : ∀ (l : List SV) (v : List Value), denL ρ l v → denL ρ' l v
  | [], v, e => e
  | x :: r, v, ⟨a, b, e1, e2, e3⟩ => ⟨a, b, e1, den_le h x a e2, denL_le h r b e3⟩
end

theorem denL_cons {ρ : Names} {x : SV} {r : List SV} {l : List Value} (h : denL ρ (x :: r) l) : ∃ a b, l = a :: b ∧ den ρ x a ∧ denL ρ r b := h
theorem denL_cons_of {ρ : Names} {x : SV} {r : List SV} {a : Value} {b : List Value} (h : den ρ x a) (k : denL ρ r b) : denL ρ (x :: r) (a :: b) := ⟨a, b, rfl, h, k⟩
theorem denL_nil {ρ : Names} {l : List Value} (h : denL ρ [] l) : l = [] := h

theorem denL_get {ρ : Names} : ∀ {l : List SV} {vs : List Value} {i : Nat} {x : SV}, denL ρ l vs → l[i]? = some x → ∃ v, vs[i]? = some v ∧ den ρ x v
  | [], _, _, _, _, hi => by simp at hi
  | y :: r, vs, 0, x, h, hi => by
    obtain ⟨a, b, rfl, h1, h2⟩ := denL_cons h
    obtain rfl : y = x := by simpa using hi
    exact ⟨a, rfl, h1⟩
  | y :: r, vs, i + 1, x, h, hi => by
    obtain ⟨a, b, rfl, h1, h2⟩ := denL_cons h
    obtain ⟨v, hv, hd⟩ := denL_get h2 (by simpa using hi)
    exact ⟨v, by simpa using hv, hd⟩
theorem denL_length {ρ : Names} : ∀ {l : List SV} {vs : List Value}, denL ρ l vs → vs.length = l.length
  | [], vs, h => by rw [denL_nil h]; rfl
  | y :: r, vs, h => by
    obtain ⟨a, b, rfl, h1, h2⟩ := denL_cons h
    simp [denL_length h2]
theorem denL_append {ρ : Names} : ∀ {l m : List SV} {vs us : List Value}, denL ρ l vs → denL ρ m us → denL ρ (l ++ m) (vs ++ us)
  | [], m, vs, us, h, k => by rw [denL_nil h]; exact k
  | y :: r, m, vs, us, h, k => by
    obtain ⟨a, b, rfl, h1, h2⟩ := denL_cons h
    exact denL_cons_of h1 (denL_append h2 k)
theorem denL_set {ρ : Names} : ∀ {l : List SV} {vs : List Value} {i : Nat} {x : SV} {v : Value}, denL ρ l vs → den ρ x v → denL ρ (l.set i x) (vs.set i v)
  | [], vs, i, x, v, h, hx => by rw [denL_nil h]; rfl
  | y :: r, vs, 0, x, v, h, hx => by
    obtain ⟨a, b, rfl, h1, h2⟩ := denL_cons h
    exact denL_cons_of hx h2
  | y :: r, vs, i + 1, x, v, h, hx => by
    obtain ⟨a, b, rfl, h1, h2⟩ := denL_cons h
    exact denL_cons_of h1 (denL_set h2 hx)
theorem denL_drop {ρ : Names} : ∀ {l : List SV} {vs : List Value} (i : Nat), denL ρ l vs → denL ρ (l.drop i) (vs.drop i)
  | [], vs, i, h => by rw [denL_nil h]; simp [denL]
  | y :: r, vs, 0, h => h
  | y :: r, vs, i + 1, h => by
    obtain ⟨a, b, rfl, h1, h2⟩ := denL_cons h
    exact denL_drop i h2
theorem denL_take {ρ : Names} : ∀ {l : List SV} {vs : List Value} (i : Nat), denL ρ l vs → denL ρ (l.take i) (vs.take i)
  | [], vs, i, h => by rw [denL_nil h]; simp [denL]
  | y :: r, vs, 0, h => by simp [denL]
  | y :: r, vs, i + 1, h => by
    obtain ⟨a, b, rfl, h1, h2⟩ := denL_cons h
    exact denL_cons_of h1 (denL_take i h2)

/-- The first n of a list, with its cells laid out. -/
def takeN : Nat → List SV → Option (List SV)
  | 0, _ => some []
  | _ + 1, [] => none
  | n + 1, x :: r => match takeN n r with | some l => some (x :: l) | none => none
theorem takeN_den {ρ : Names} : ∀ {n : Nat} {l m : List SV} {vs : List Value}, takeN n l = some m → denL ρ l vs → denL ρ m (vs.take n) ∧ n ≤ vs.length
  | 0, l, m, vs, h, hd => by
    obtain rfl : [] = m := by simpa [takeN] using h
    exact ⟨rfl, by omega⟩
  | n + 1, [], m, vs, h, hd => by simp [takeN] at h
  | n + 1, x :: r, m, vs, h, hd => by
    obtain ⟨a, b, rfl, h1, h2⟩ := denL_cons hd
    simp only [takeN] at h
    cases hr : takeN n r with
    | none => rw [hr] at h; cases h
    | some l =>
      rw [hr] at h
      obtain rfl := Option.some.inj h
      obtain ⟨k1, k2⟩ := takeN_den hr h2
      exact ⟨by simpa using denL_cons_of h1 k1, by simp; omega⟩
/-- A list laid out once more: to be evaluated. -/
def laid {α : Type} : List α → Option (List α)
  | [] => some []
  | x :: r => match laid r with | some l => some (x :: l) | none => none
theorem laid_eq {α : Type} : ∀ {l m : List α}, laid l = some m → m = l
  | [], m, h => by simpa [laid] using h.symm
  | x :: r, m, h => by
    simp only [laid] at h
    cases hr : laid r with
    | none => rw [hr] at h; cases h
    | some l => rw [hr] at h; rw [← Option.some.inj h, laid_eq hr]

/-- The newest entry of a name. -/
def look {α : Type} : List (Nat × α) → Nat → Option α
  | [], _ => none
  | (m, a) :: r, n => match Nat.beq m n with | true => some a | false => look r n
theorem look_cons_eq {α : Type} (l : List (Nat × α)) (n : Nat) (a : α) : look ((n, a) :: l) n = some a := by simp [look]
theorem look_cons_ne {α : Type} (l : List (Nat × α)) {m n : Nat} (a : α) (h : m ≠ n) : look ((m, a) :: l) n = look l n := by
  have : Nat.beq m n = false := by
    cases hb : Nat.beq m n with
    | false => rfl
    | true => exact absurd (Nat.eq_of_beq_eq_true hb) h
  simp [look, this]
theorem look_mem {α : Type} : ∀ {l : List (Nat × α)} {n : Nat} {a : α}, look l n = some a → (n, a) ∈ l
  | [], _, _, h => by simp [look] at h
  | (m, b) :: r, n, a, h => by
    by_cases hm : m = n
    · subst hm
      rw [look_cons_eq] at h
      rw [Option.some.inj h]
      exact List.mem_cons_self
    · rw [look_cons_ne r b hm] at h
      exact List.mem_cons_of_mem _ (look_mem h)

/-! ### Types -/
inductive TK where
  | prim
  | bool
  | int (k : IntKind)
  | struct (fs : List (Nat × Nat))
  | arr (n e : Nat)
  | sl (e : Nat)
  | mp (k e : Nat)
  | ptr (e : Nat)
def aggK : TK → Bool
  | .struct _ => true
  | .arr _ _ => true
  | _ => false
/-- Is a value an aggregate, as its kind says? -/
def aggV : Value → Bool
  | .agg _ => true
  | _ => false
structure TI where
  sz : Nat
  /-- How many bytes. -/
  nb : Nat
  k : TK
  z : List SV
  /-- May two of them be compared field by field? -/
  eq : Bool

def zeroEq : Value → SV → Bool
  | .bool a, .bl b => a == b
  | .int k n, .il k' m => k == k' && n == m
  | .pointer none, .v (.pointer none) => true
  | .slice none a b, .v (.slice none c d) => a == c && b == d
  | .nilFunc, .v .nilFunc => true
  | .nilIface, .v .nilIface => true
  | .map none, .v (.map none) => true
  | _, _ => false
theorem zeroEq_den {ρ : Names} {x : Value} {y : SV} (h : zeroEq x y = true) : den ρ y x := by
  unfold zeroEq at h
  split at h <;> simp_all [den]
theorem zeroEq_one {x : Value} {y : SV} (h : zeroEq x y = true) : x.oneCell' = true := by
  unfold zeroEq at h
  split at h <;> first | rfl | cases h
def zeroEqL : List Value → List SV → Bool
  | [], [] => true
  | x :: r, y :: s => zeroEq x y && zeroEqL r s
  | _, _ => false
theorem zeroEqL_den {ρ : Names} : ∀ {l : List Value} {m : List SV}, zeroEqL l m = true → denL ρ m l
  | [], [], _ => rfl
  | [], y :: s, h => by simp [zeroEqL] at h
  | x :: r, [], h => by simp [zeroEqL] at h
  | x :: r, y :: s, h => by
    simp only [zeroEqL, Bool.and_eq_true] at h
    exact denL_cons_of (zeroEq_den h.1) (zeroEqL_den h.2)
theorem zeroEqL_one : ∀ {l : List Value} {m : List SV}, zeroEqL l m = true → ∀ c ∈ l, c.oneCell' = true
  | [], m, _, c, hc => by cases hc
  | x :: r, [], h, _, _ => by simp [zeroEqL] at h
  | x :: r, y :: s, h, c, hc => by
    simp only [zeroEqL, Bool.and_eq_true] at h
    rcases List.mem_cons.1 hc with rfl | hc
    · exact zeroEq_one h.1
    · exact zeroEqL_one h.2 c hc

def kindEq : TypeDesc → TK → Bool
  | .struct fs, .struct l => (fs.toList.map fun f => (f.offset, f.type)) == l
  | .array n e, .arr n' e' => n == n' && e == e'
  | .slice e, .sl e' => e == e'
  | .map k e, .mp k' e' => k == k' && e == e'
  | .pointer e, .ptr e' => e == e'
  | .struct _, _ => false
  | .array _ _, _ => false
  | .slice _, _ => false
  | .bool, .bool => true
  | .bool, _ => false
  | .int k, .int k' => decide (k = k')
  | .int _, _ => false
  | _, .prim => true
  | _, _ => false
def eqOk (P : Program) (t : Nat) : Bool :=
  !P.stoodInHeld t && !P.eqGuardType P.depth t && (match P.underlying t with | some (.struct fs) => fs.toList.all fun f => f.name != "_" | _ => true)
def chkT (P : Program) (x : Nat × TI) : Bool :=
  match P.info? x.1, P.underlying x.1 with
  | some i, some d => i.size == x.2.sz && i.bytes == x.2.nb && (match i.zero with | some z => zeroEqL z.cells.toList x.2.z && (aggV z == aggK x.2.k) | none => false) && kindEq d x.2.k && (!x.2.eq || eqOk P x.1)
  | _, _ => false

structure TFacts (P : Program) (t : Nat) (ti : TI) : Prop where
  ex : ∃ i d z, P.info? t = some i ∧ P.underlying t = some d ∧ i.size = ti.sz ∧ i.zero = some z ∧ zeroEqL z.cells.toList ti.z = true ∧ kindEq d ti.k = true ∧ i.bytes = ti.nb
  eq : ti.eq = true → eqOk P t = true
  ag : ∀ i z, P.info? t = some i → i.zero = some z → aggV z = aggK ti.k
theorem chkT_facts {P : Program} {t : Nat} {ti : TI} (h : chkT P (t, ti) = true) : TFacts P t ti := by
  unfold chkT at h
  split at h
  · rename_i i d hi hd
    simp only [Bool.and_eq_true, beq_iff_eq] at h
    obtain ⟨⟨⟨⟨h1, h5⟩, h2⟩, h3⟩, h4⟩ := h
    cases hz : i.zero with
    | none => rw [hz] at h2; cases h2
    | some z =>
      rw [hz] at h2
      simp only [Bool.and_eq_true, beq_iff_eq] at h2
      exact ⟨⟨i, d, z, hi, hd, h1, hz, h2.1, h3, h5⟩, fun he => by rw [he] at h4; simpa using h4, fun i' z' hi' hz' => by
        rw [hi] at hi'
        obtain rfl := Option.some.inj hi'
        rw [hz] at hz'
        obtain rfl := Option.some.inj hz'
        exact h2.2⟩
  · cases h

/-! ### The heap -/
/-- What a name stands for: a block laid out; a list of one's own (its present age, the cells of an element, its length, its elements, their type); nothing any more; a list each of whose elements has, in one cell, a list of its own (the other cells, that cell's place, these lists' lengths and elements), and perhaps one element more that is not yet told apart; the same, where the list of element i is another one, of the age em, which that element's cell shows (cl) or does not show yet. -/
inductive SB where
  | lay (cs : List SV) (t : TypeId)
  | lst (e sz N : Nat) (f : Nat → List SV) (t : TypeId)
  | gone
  | nst (e sz N : Nat) (f : Nat → List SV) (p szk : Nat) (g : Nat → Nat × (Nat → List SV)) (tk t : TypeId) (last : Option (List SV))
  | mp (k : IntKind) (ag : Bool) (has : Int → Bool) (g : Int → List SV)
  | alt (e sz N : Nat) (f : Nat → List SV) (p szk : Nat) (g : Nat → Nat × (Nat → List SV)) (tk t : TypeId) (i em n' : Nat) (f' : Nat → List SV) (cl : Bool)

/-- What is known of the program: types, the blocks that stand for ever. -/
structure Cx (P : Program) where
  T : List (Nat × TI)
  G : List (Nat × (List SV × TypeId))
  gm : Nat
  hT : T.all (chkT P) = true
abbrev Cx.P {PP : Program} (_ : Cx PP) : Program := PP

theorem Cx.ty {PP : Program} (C : Cx PP) {t : Nat} {ti : TI} (h : look C.T t = some ti) : TFacts C.P t ti := chkT_facts (List.all_eq_true.1 C.hT _ (look_mem h))

def noNames : Names := ⟨fun _ => none, fun _ => none, fun _ _ => none, fun _ _ _ => False, [], fun _ => False⟩
theorem noNames_le (ρ : Names) : noNames.le ρ := ⟨fun _ _ h => (by cases h), fun _ _ h => (by cases h), fun _ _ _ h => (by cases h), fun _ _ _ h => h.elim⟩
/-- The blocks that stand for ever, stand. -/
def Cx.Grd {PP : Program} (C : Cx PP) (W : World) : Prop := C.gm ≤ W.heap.size ∧ ∀ b sb, look C.G b = some sb → b < C.gm ∧ ∃ vs, denL noNames sb.1 vs ∧ ∀ (i : Nat) (v : Value), vs[i]? = some v → W.cell? ⟨b, i, none⟩ = some v
theorem cell_of_heap {W W' : World} {b i : Nat} (h : W'.heap[b]? = W.heap[b]?) : W'.cell? ⟨b, i, none⟩ = W.cell? ⟨b, i, none⟩ := by
  unfold World.cell?; simp only; rw [h]
theorem cell_lt {W : World} {b i : Nat} {v : Value} (h : W.cell? ⟨b, i, none⟩ = some v) : b < W.heap.size := World.block_lt_of_cell? W (⟨b, i, none⟩ : Addr) h
/-- A block of plain cells. -/
def plainB (W : World) (b : Nat) : Prop := ∃ cs t, W.heap[b]? = some (.cells cs t (0, 0))
theorem zc_heap {W W' : World} {b : Nat} {c : Value} (h : W'.heap[b]? = W.heap[b]?) (k : c.oneCell' = true ∧ plainB W b) : c.oneCell' = true ∧ plainB W' b := ⟨k.1, let ⟨cs, t, q⟩ := k.2; ⟨cs, t, h.trans q⟩⟩
theorem zc_gr {W W' : World} {b i : Nat} {c : Value} (g : Gr W W') (hc : W.cell? ⟨b, i, none⟩ = some c) (k : c.oneCell' = true ∧ plainB W b) : c.oneCell' = true ∧ plainB W' b := zc_heap (Below.block g b (cell_lt hc)) k
theorem zc_blk {W : World} {b : Nat} {u : Array Value} {t : TypeId} {c : Value} (h : Blk W b u t) (h1 : c.oneCell' = true) : c.oneCell' = true ∧ plainB W b := ⟨h1, ⟨_, _, h⟩⟩
theorem Cx.Grd.keep {PP : Program} {C : Cx PP} {W W' : World} (h : C.Grd W) (hs : W.heap.size ≤ W'.heap.size) (g : ∀ b, b < C.gm → W'.heap[b]? = W.heap[b]?) : C.Grd W' :=
  ⟨Nat.le_trans h.1 hs, fun b sb hb => let ⟨h0, vs, h1, h2⟩ := h.2 b sb hb; ⟨h0, vs, h1, fun i v hv => (cell_of_heap (g b h0)).trans (h2 i v hv)⟩⟩
theorem Cx.Grd.gr {PP : Program} {C : Cx PP} {W W' : World} (h : C.Grd W) (g : Gr W W') : C.Grd W' := h.keep g.size fun b hb => Below.block g b (Nat.lt_of_lt_of_le hb h.1)

/-- The block b is that of the name n. -/
def Owns (ρ : Names) (n b : Nat) : Prop := ρ.n n = some b ∨ (∃ e l o, ρ.v e = some l ∧ l.o = n ∧ l.cap ≠ 0 ∧ l.a = some ⟨b, o, none⟩) ∨ ∃ i l o, ρ.k n i = some l ∧ l.cap ≠ 0 ∧ l.a = some ⟨b, o, none⟩
/-- Names mean blocks of their own; what never changes stands. -/
structure HB {PP : Program} (C : Cx PP) (ρ : Names) (W : World) : Prop where
  own : ∀ n n' b, Owns ρ n b → Owns ρ n' b → n = n'
  low : ∀ n b, Owns ρ n b → C.gm ≤ b ∧ b < W.heap.size
  zok : ∀ b i c, ρ.z b i c → W.cell? ⟨b, i, none⟩ = some c ∧ c.oneCell' = true ∧ plainB W b
  grd : C.Grd W
/-- A map's value, by its cells. -/
def cellV (ag : Bool) (u : List Value) (v : Value) : Prop := match ag with | true => v = .agg u.toArray | false => u = [v]
structure MapIs (ρ : Names) (k : IntKind) (ag : Bool) (has : Int → Bool) (g : Int → List SV) (es : List MapEntry) : Prop where
  keys : ∀ e ∈ es, ∃ n, e.key = .int k n ∧ has n = true ∧ ∃ u, denL ρ.zo (g n) u ∧ cellV ag u e.val
  yes : ∀ n, has n = true → ∃ e ∈ es, e.key = .int k n
/-- A list lies where it is said, and holds what is said. -/
def ListC (ρ : Names) (W : World) (l : LV) (sz : Nat) (f : Nat → List SV) (t : TypeId) : Prop :=
  l.N ≤ l.cap ∧ (l.cap ≠ 0 → ∃ (b : Nat) (u : List Value), l.a = some ⟨b, 0, none⟩ ∧ Blk W b u.toArray t ∧ u.length = l.cap * sz ∧ (∀ c ∈ u, c.oneCell' = true) ∧ (∀ i c, ¬ ρ.z b i c) ∧
    ∀ i, i < l.N → ∃ us, denL ρ.zo (f i) us ∧ us.length = sz ∧ ∀ k c, us[k]? = some c → u[i * sz + k]? = some c)
def oneO {α : Type} : Option α → Nat
  | none => 0
  | some _ => 1
/-- A list of lists of one's own. -/
structure NstC (ρ : Names) (W : World) (n e sz N : Nat) (f : Nat → List SV) (p szk : Nat) (g : Nat → Nat × (Nat → List SV)) (tk t : TypeId) (last : Option (List SV)) (l : LV) : Prop where
  hv : ρ.v e = some l
  ho : l.o = n
  hN : l.N = N + oneO last
  hle : l.N ≤ l.cap
  row : l.cap ≠ 0 → ∃ (b : Nat) (u : List Value), l.a = some ⟨b, 0, none⟩ ∧ Blk W b u.toArray t ∧ u.length = l.cap * sz ∧ (∀ c ∈ u, c.oneCell' = true) ∧ (∀ i c, ¬ ρ.z b i c) ∧
    (∀ i, i < N → ∃ q us, ρ.k n i = some q ∧ denL ρ.zo ((f i).set p (.v (.slice q.a q.N q.cap))) us ∧ us.length = sz ∧ ∀ k c, us[k]? = some c → u[i * sz + k]? = some c) ∧
    (∀ cs, last = some cs → ∃ us, denL ρ cs us ∧ us.length = sz ∧ ∀ k c, us[k]? = some c → u[N * sz + k]? = some c) ∧
    ∀ i q b', ρ.k n i = some q → q.cap ≠ 0 → q.a = some ⟨b', 0, none⟩ → b' ≠ b
  kid : ∀ i, i < N → ∃ q, ρ.k n i = some q ∧ q.N = (g i).1 ∧ ListC ρ W q szk (g i).2 tk
  no : ∀ i, N ≤ i → ρ.k n i = none
  ne : ∀ i j q r b, ρ.k n i = some q → ρ.k n j = some r → q.cap ≠ 0 → r.cap ≠ 0 → q.a = some ⟨b, 0, none⟩ → r.a = some ⟨b, 0, none⟩ → i = j
/-- What the cell of element j shows. -/
def altS (cl : Bool) (i j : Nat) (l' q : LV) : Value := if cl = true ∧ j = i then .slice l'.a l'.N l'.cap else .slice q.a q.N q.cap
/-- .. one of whose elements has another list. -/
structure AltC (ρ : Names) (W : World) (n e sz N : Nat) (f : Nat → List SV) (p szk : Nat) (g : Nat → Nat × (Nat → List SV)) (tk t : TypeId) (i em n' : Nat) (f' : Nat → List SV) (cl : Bool) (l l' : LV) : Prop where
  hv : ρ.v e = some l
  ho : l.o = n
  hN : l.N = N
  hle : l.N ≤ l.cap
  hi : i < N
  hv' : ρ.v em = some l'
  ho' : l'.o = n
  hN' : l'.N = n'
  new : ListC ρ W l' szk f' tk
  row : l.cap ≠ 0 → ∃ (b : Nat) (u : List Value), l.a = some ⟨b, 0, none⟩ ∧ Blk W b u.toArray t ∧ u.length = l.cap * sz ∧ (∀ c ∈ u, c.oneCell' = true) ∧ (∀ i c, ¬ ρ.z b i c) ∧
    (∀ j, j < N → ∃ q us, ρ.k n j = some q ∧ denL ρ.zo ((f j).set p (.v (altS cl i j l' q))) us ∧ us.length = sz ∧ ∀ k c, us[k]? = some c → u[j * sz + k]? = some c) ∧
    (∀ j q b', ρ.k n j = some q → q.cap ≠ 0 → q.a = some ⟨b', 0, none⟩ → b' ≠ b) ∧ ∀ b', l'.cap ≠ 0 → l'.a = some ⟨b', 0, none⟩ → b' ≠ b
  kid : ∀ j, j < N → j ≠ i → ∃ q, ρ.k n j = some q ∧ q.N = (g j).1 ∧ ListC ρ W q szk (g j).2 tk
/-- What a named block holds. -/
def Cont (ρ : Names) (W : World) (n : Nat) : SB → Prop
  | .lay cs t => ∃ b vs, ρ.n n = some b ∧ denL ρ cs vs ∧ Blk W b vs.toArray t ∧ (∀ c ∈ vs, c.oneCell' = true) ∧ ∀ i c, ¬ ρ.z b i c
  | .lst e sz N f t => ∃ l, ρ.v e = some l ∧ l.o = n ∧ l.N = N ∧ N ≤ l.cap ∧ (l.cap ≠ 0 → ∃ (b : Nat) (u : List Value), l.a = some ⟨b, 0, none⟩ ∧ Blk W b u.toArray t ∧ u.length = l.cap * sz ∧ (∀ c ∈ u, c.oneCell' = true) ∧ (∀ i c, ¬ ρ.z b i c) ∧
      ∀ i, i < N → ∃ us, denL ρ.zo (f i) us ∧ us.length = sz ∧ ∀ k c, us[k]? = some c → u[i * sz + k]? = some c)
  | .gone => True
  | .nst e sz N f p szk g tk t last => ∃ l, NstC ρ W n e sz N f p szk g tk t last l
  | .alt e sz N f p szk g tk t i em n' f' cl => ∃ l l', AltC ρ W n e sz N f p szk g tk t i em n' f' cl l l'
  | .mp k ag has g => ∃ b es cl, ρ.n n = some b ∧ W.heap[b]? = some (.map es cl) ∧ Go.MapKept.Stamped es cl ∧ MapIs ρ k ag has g es.toList
structure HOk {PP : Program} (C : Cx PP) (H : List (Nat × SB)) (ρ : Names) (W : World) : Prop where
  hb : HB C ρ W
  blk : ∀ n sb, look H n = some sb → Cont ρ W n sb

/-- What an operation does to names and memory: nm: the name that it may give; wn: the name whose block it writes. -/
structure Eff {PP : Program} (C : Cx PP) (ρ : Names) (W : World) (nm : Nat) (wn : Option Nat) (fr : Bool) (ρ' : Names) (W' : World) : Prop where
  le : ρ.le ρ'
  nn : ∀ n b, ρ'.n n = some b → ρ.n n = some b ∨ (n = nm ∧ fr = true ∧ wn = some n ∧ W.heap.size ≤ b)
  nv : ∀ e l, ρ'.v e = some l → ρ.v e = some l ∨ (e = nm ∧ fr = true ∧ wn = some l.o ∧ ∀ b o, l.a = some ⟨b, o, none⟩ → l.cap ≠ 0 → Owns ρ l.o b ∨ W.heap.size ≤ b)
  nz : ∀ b i c, ρ'.z b i c → ρ.z b i c ∨ W.heap.size ≤ b
  nk : ∀ m i, ρ'.k m i = ρ.k m i
  os : W'.os = W.os
  tape : W'.tape = W.tape
  output : W'.output = W.output
  size : W.heap.size ≤ W'.heap.size
  block : ∀ b, b < W.heap.size → (∀ n, wn = some n → ¬ Owns ρ n b) → W'.heap[b]? = W.heap[b]?
  hb : HB C ρ' W'

section
variable {PP : Program} {C : Cx PP} {ρ ρ' : Names} {W W' : World} {nm : Nat} {wn : Option Nat} {fr : Bool}
theorem ListC.move {q : LV} {sz : Nat} {f : Nat → List SV} {t : TypeId} (h : ListC ρ W q sz f t) (hz : ∀ l us, denL ρ.zo l us → denL ρ'.zo l us) (hb : ∀ b u t, q.cap ≠ 0 → q.a = some ⟨b, 0, none⟩ → Blk W b u t → Blk W' b u t) (hn : ∀ b, q.cap ≠ 0 → q.a = some ⟨b, 0, none⟩ → (∀ i c, ¬ ρ.z b i c) → ∀ i c, ¬ ρ'.z b i c) : ListC ρ' W' q sz f t :=
  ⟨h.1, fun hc => let ⟨b, u, k1, k2, k3, k4, k5, k6⟩ := h.2 hc; ⟨b, u, k1, hb b _ _ hc k1 k2, k3, k4, hn b hc k1 k5, fun i hi => let ⟨us, q1, q2⟩ := k6 i hi; ⟨us, hz _ _ q1, q2⟩⟩⟩
theorem AltC.move {n e sz N : Nat} {f : Nat → List SV} {p szk : Nat} {g : Nat → Nat × (Nat → List SV)} {tk t : TypeId} {i em n' : Nat} {f' : Nat → List SV} {cl : Bool} {l l' : LV} (h : AltC ρ W n e sz N f p szk g tk t i em n' f' cl l l')
    (hv : ∀ e l, l.o = n → ρ.v e = some l → ρ'.v e = some l) (hk : ∀ j, ρ'.k n j = ρ.k n j) (hz : ∀ l us, denL ρ.zo l us → denL ρ'.zo l us) (hb : ∀ b u t, Owns ρ n b → Blk W b u t → Blk W' b u t) (hn : ∀ b, Owns ρ n b → (∀ i c, ¬ ρ.z b i c) → ∀ i c, ¬ ρ'.z b i c) :
    AltC ρ' W' n e sz N f p szk g tk t i em n' f' cl l l' := by
  have o1 : ∀ b, l.cap ≠ 0 → l.a = some ⟨b, 0, none⟩ → Owns ρ n b := fun b h1 h2 => .inr (.inl ⟨e, l, 0, h.hv, h.ho, h1, h2⟩)
  have o2 : ∀ b, l'.cap ≠ 0 → l'.a = some ⟨b, 0, none⟩ → Owns ρ n b := fun b h1 h2 => .inr (.inl ⟨em, l', 0, h.hv', h.ho', h1, h2⟩)
  have o3 : ∀ j q b, ρ.k n j = some q → q.cap ≠ 0 → q.a = some ⟨b, 0, none⟩ → Owns ρ n b := fun j q b h0 h1 h2 => .inr (.inr ⟨j, q, 0, h0, h1, h2⟩)
  refine ⟨hv _ _ h.ho h.hv, h.ho, h.hN, h.hle, h.hi, hv _ _ h.ho' h.hv', h.ho', h.hN', h.new.move hz (fun b u t h1 h2 => hb b u t (o2 b h1 h2)) (fun b h1 h2 => hn b (o2 b h1 h2)), fun hc => ?_, fun j h1 h2 => ?_⟩
  · obtain ⟨b, u, k1, k2, k3, k4, k5, k6, k7, k8⟩ := h.row hc
    exact ⟨b, u, k1, hb b _ _ (o1 b hc k1) k2, k3, k4, hn b (o1 b hc k1) k5, fun j hj => let ⟨q, us, q1, q2, q3⟩ := k6 j hj; ⟨q, us, (hk j).trans q1, hz _ _ q2, q3⟩, fun j q b' h1 => k7 j q b' ((hk j).symm.trans h1), k8⟩
  · obtain ⟨q, q1, q2, q3⟩ := h.kid j h1 h2
    exact ⟨q, (hk j).trans q1, q2, q3.move hz (fun b u t h1 h2 => hb b u t (o3 j q b q1 h1 h2)) (fun b h1 h2 => hn b (o3 j q b q1 h1 h2))⟩
theorem Cont.owns {n : Nat} {cs : List SV} {t : TypeId} (h : Cont ρ W n (.lay cs t)) : ∃ b, Owns ρ n b := let ⟨b, _, h1, _⟩ := h; ⟨b, .inl h1⟩
/-- What another name's block holds stays. -/
theorem Eff.cont (e : Eff C ρ W nm wn fr ρ' W') (hb : HB C ρ W) {m : Nat} {sb : SB} (h : Cont ρ W m sb) (hm : wn ≠ some m) : Cont ρ' W' m sb := by
  have key : ∀ b, Owns ρ m b → W'.heap[b]? = W.heap[b]? := fun b hbm => e.block b (hb.low m b hbm).2 fun n hn ho => hm (by rw [hn, hb.own n m b ho hbm])
  have nz : ∀ b, Owns ρ m b → (∀ i c, ¬ ρ.z b i c) → ∀ i c, ¬ ρ'.z b i c := fun b hbm hz i c h => by
    rcases e.nz b i c h with h | h
    · exact hz i c h
    · have := (hb.low m b hbm).2; omega
  cases sb with
  | lay cs t =>
    obtain ⟨b, vs, h1, h2, h3, h4, h5⟩ := h
    exact ⟨b, vs, e.le.n _ _ h1, denL_le e.le _ _ h2, (key b (.inl h1)).trans h3, h4, nz b (.inl h1) h5⟩
  | lst ep sz N f t =>
    obtain ⟨l, h1, h2, h3, h4, h5⟩ := h
    refine ⟨l, e.le.v _ _ h1, h2, h3, h4, fun hc => ?_⟩
    obtain ⟨b, u, k1, k2, k3, k4, k5, k6⟩ := h5 hc
    have ho : Owns ρ m b := .inr (.inl ⟨ep, l, 0, h1, h2, hc, k1⟩)
    exact ⟨b, u, k1, (key b ho).trans k2, k3, k4, nz b ho k5, fun i hi => let ⟨us, q1, q2, q3⟩ := k6 i hi; ⟨us, denL_le e.le.zo _ _ q1, q2, q3⟩⟩
  | gone => trivial
  | nst ep sz N f p szk g tk t last =>
    obtain ⟨l, h⟩ := h
    refine ⟨l, e.le.v _ _ h.hv, h.ho, h.hN, h.hle, fun hc => ?_, fun i hi => ?_, fun i hi => (e.nk m i).trans (h.no i hi), fun i j q r b h1 h2 => h.ne i j q r b ((e.nk m i).symm.trans h1) ((e.nk m j).symm.trans h2)⟩
    · obtain ⟨b, u, k1, k2, k3, k4, k5, k6, k7, k8⟩ := h.row hc
      have ho : Owns ρ m b := .inr (.inl ⟨ep, l, 0, h.hv, h.ho, hc, k1⟩)
      exact ⟨b, u, k1, (key b ho).trans k2, k3, k4, nz b ho k5, fun i hi => let ⟨q, us, q1, q2, q3⟩ := k6 i hi; ⟨q, us, e.le.k _ _ _ q1, denL_le e.le.zo _ _ q2, q3⟩,
        fun cs hcs => let ⟨us, q1, q2⟩ := k7 cs hcs; ⟨us, denL_le e.le _ _ q1, q2⟩, fun i q b' h1 => k8 i q b' ((e.nk m i).symm.trans h1)⟩
    · obtain ⟨q, q1, q2, q3, q4⟩ := h.kid i hi
      refine ⟨q, e.le.k _ _ _ q1, q2, q3, fun hc => ?_⟩
      obtain ⟨b, u, k1, k2, k3, k4, k5, k6⟩ := q4 hc
      have ho : Owns ρ m b := .inr (.inr ⟨i, q, 0, q1, hc, k1⟩)
      exact ⟨b, u, k1, (key b ho).trans k2, k3, k4, nz b ho k5, fun i hi => let ⟨us, q1, q2, q3⟩ := k6 i hi; ⟨us, denL_le e.le.zo _ _ q1, q2, q3⟩⟩
  | alt ep sz N f p szk g tk t i em n' f' cl =>
    obtain ⟨l, l', K⟩ := h
    exact ⟨l, l', K.move (fun ep l _ h => e.le.v _ _ h) (fun j => e.nk m j) (fun l us h => denL_le e.le.zo _ _ h) (fun b u t ho h => (key b ho).trans h) (fun b ho h => nz b ho h)⟩
  | mp k ag has g =>
    obtain ⟨b, es, cl, h1, h2, h3, h4⟩ := h
    exact ⟨b, es, cl, e.le.n _ _ h1, (key b (.inl h1)).trans h2, h3, fun x hx => let ⟨n, q1, q2, u, q3, q4⟩ := h4.keys x hx; ⟨n, q1, q2, u, denL_le e.le.zo _ _ q3, q4⟩, h4.yes⟩
/-- Nothing but growth. -/
theorem HB.gr (h : HB C ρ W) (g : Gr W W') : HB C ρ W' :=
  ⟨h.own, fun n b hb => ⟨(h.low n b hb).1, Nat.lt_of_lt_of_le (h.low n b hb).2 g.size⟩, fun b i c hz => ⟨g.cellSome (h.zok b i c hz).1, zc_gr g (h.zok b i c hz).1 (h.zok b i c hz).2⟩, h.grd.gr g⟩
theorem Eff.of_gr (h : HB C ρ W) (g : Gr W W') : Eff C ρ W nm none false ρ W' :=
  ⟨.refl _, fun _ _ h => .inl h, fun _ _ h => .inl h, fun _ _ _ h => .inl h, fun _ _ => rfl, g.os, g.tape, g.output, g.size, fun b hb _ => Below.block g b hb, h.gr g⟩
theorem HOk.gr {H : List (Nat × SB)} (h : HOk C H ρ W) (g : Gr W W') : HOk C H ρ W' :=
  ⟨h.hb.gr g, fun n sb hn => (Eff.of_gr (nm := 0) h.hb g).cont h.hb (h.blk n sb hn) (by simp)⟩
end
end Go.Proofs.YtcojfohjdibjjaaGreatDoor
