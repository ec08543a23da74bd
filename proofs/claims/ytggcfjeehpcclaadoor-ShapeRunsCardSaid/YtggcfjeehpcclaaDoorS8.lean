/- A symbolic executor, 9: states; the operations of a region, by computation. -/
import Derived.Test.YtggcfjeehpcclaaDoorS7
namespace Go.Proofs.YtggcfjeehpcclaaDoor
open Go.RowKit

/-- What a slot holds: since which region and operation, when (guards), and what. -/
structure Slot where
  rg : Nat
  k : Nat
  g : List (Nat × Bool)
  v : SV
structure St where
  sl : List (Nat × Slot)
  H : List (Nat × SB)
  nm : Nat
  rg : Nat
  /-- In a drawn region: the names that are read, the names that are written and by which operation. -/
  rd : List Nat := []
  ws : List (Nat × Nat) := []

def constSV : Value → SV
  | .int .i64 n => .il n
  | .bool b => .bl b
  | x => .v x
theorem constSV_den {ρ : Names} {x : Value} : den ρ (constSV x) = some x := by
  unfold constSV
  split <;> rfl
def sameB : Bool → Bool → Bool
  | true, true => true
  | false, false => true
  | _, _ => false
theorem sameB_eq {a b : Bool} (h : sameB a b = true) : a = b := by cases a <;> cases b <;> first | rfl | cases h
def atomIn (p : Nat × Bool) : List (Nat × Bool) → Bool
  | [] => false
  | q :: r => match Nat.beq p.1 q.1, sameB p.2 q.2 with | true, true => true | _, _ => atomIn p r
theorem atomIn_mem {p : Nat × Bool} : ∀ {l : List (Nat × Bool)}, atomIn p l = true → p ∈ l
  | [], h => by cases h
  | q :: r, h => by
    simp only [atomIn] at h
    split at h
    · rename_i h1 h2
      have e1 := Nat.eq_of_beq_eq_true h1
      have e2 := sameB_eq h2
      have : p = q := Prod.ext e1 e2
      rw [this]; exact List.mem_cons_self
    · exact List.mem_cons_of_mem _ (atomIn_mem h)
def subA : List (Nat × Bool) → List (Nat × Bool) → Bool
  | [], _ => true
  | p :: r, m => match atomIn p m with | true => subA r m | false => false
theorem subA_mem : ∀ {l m : List (Nat × Bool)}, subA l m = true → ∀ p ∈ l, p ∈ m
  | [], m, _, p, hp => by cases hp
  | q :: r, m, h, p, hp => by
    simp only [subA] at h
    split at h
    · rename_i h1
      rcases List.mem_cons.1 hp with rfl | hp
      · exact atomIn_mem h1
      · exact subA_mem h p hp
    · cases h
def waitsOn (o : Oper) (j : Nat) : Bool := o.after.toList.any fun e => Region.binds .any e && Nat.beq e.on j
theorem waitsOn_ok {o : Oper} {j : Nat} (h : waitsOn o j = true) : ∃ e ∈ o.after, Region.binds .any e = true ∧ e.on = j := by
  obtain ⟨e, he, hb⟩ := List.any_eq_true.1 h
  simp only [Bool.and_eq_true] at hb
  exact ⟨e, by simpa using he, hb.1, Nat.eq_of_beq_eq_true hb.2⟩

/-- What an operand of an operation of the region reads as; 'any': in whatever order. -/
def opIn (any : Bool) (heads : List Oper) (rg : Nat) (sl : List (Nat × Slot)) (o : Oper) (gk : List (Nat × Bool)) : OpF := fun ex x =>
  match x with
  | .const v => some (constSV v)
  | .global g => some (.v (.pointer (some ⟨g, 0, none⟩)))
  | .func f => some (.v (.func (.func f) #[] #[]))
  | .tmp t => match look sl t with
    | none => none
    | some s => match Nat.beq s.rg rg with
      | true => match subA s.g (ex ++ gk) with
        | true => match any with
          | true => match waitsOn o s.k with | true => some s.v | false => none
          | false => some s.v
        | false => none
      | false => match s.g with
        | [] => match any with
          | true => match freeOf heads t with | true => some s.v | false => none
          | false => some s.v
        | _ :: _ => none
/-- The guards of an operation, those of its guard among them. -/
def guardOf (any : Bool) (ops : List Oper) (rg : Nat) (sl : List (Nat × Slot)) (o : Oper) : Option (List (Nat × Bool)) :=
  match o.guard with
  | none => some []
  | some (j, pol) => match ops[j]? with
    | none => none
    | some oj => match oj.dst with
      | none => none
      | some t => match look sl t with
        | none => none
        | some s => match Nat.beq s.rg rg, Nat.beq s.k j with
          | true, true => match any with
            | true => match waitsOn o j with | true => some ((t, pol) :: s.g) | false => none
            | false => some ((t, pol) :: s.g)
          | _, _ => none
def gimpP (sl : List (Nat × Slot)) : List (Nat × Bool) → Prop → Prop
  | [], p => p
  | (t, pol) :: r, p => match look sl t with
    | none => gimpP sl r p
    | some s => match s.v.bool? with
      | none => gimpP sl r p
      | some b => b = pol → gimpP sl r p
def gimp (sl : List (Nat × Slot)) (g : List (Nat × Bool)) : Option Prop → Option Prop
  | none => none
  | some p => match g with | [] => some p | _ :: _ => some (gimpP sl g p)
def freshIn (rg : Nat) (sl : List (Nat × Slot)) (d : Nat) : Bool :=
  match look sl d with
  | none => true
  | some s => match Nat.beq s.rg rg with | true => false | false => true
mutual
def namesOf : SV → List Nat
  | .p n _ => [n]
  | .s n _ _ _ => [n]
  | .f _ x y => namesL x ++ namesL y
  | .agg l => namesL l
  | .tup l => namesL l
  | .v _ => []
  | .il _ => []
  | .bl _ => []
def namesL : List SV → List Nat
  | [] => []
  | x :: r => namesOf x ++ namesL r
end
def namesIn (H : List (Nat × SB)) : List Nat → List Nat
  | [] => []
  | n :: r => match look H n with | some sb => namesL sb.cs ++ namesIn H r | none => namesIn H r
/-- The names that can be reached. -/
def reach : Nat → List (Nat × SB) → List Nat → List Nat
  | 0, _, l => l
  | k + 1, H, l => match l with
    | [] => []
    | n :: r => (n :: r) ++ reach k H (namesIn H (n :: r))
def readsOp (op : OpF) (H : List (Nat × SB)) : Op → List Nat
  | .load _ x => match op [] x with | some v => namesOf v | none => []
  | .call c => match c.callee with
    | .value f => match op [] f, opL op c.args.toList with | some sf, some l => reach 3 H (namesOf sf ++ namesL l) | _, _ => []
    | _ => match opL op c.args.toList with | some l => reach 3 H (namesL l) | none => []
  | _ => []
def restrict (H : List (Nat × SB)) : List Nat → List (Nat × SB)
  | [] => []
  | n :: r => match look H n with | some sb => (n, sb) :: restrict H r | none => restrict H r
theorem restrict_look {H : List (Nat × SB)} : ∀ {l : List Nat} {n : Nat} {sb : SB}, look (restrict H l) n = some sb → n ∈ l ∧ look H n = some sb
  | [], n, sb, h => by simp [restrict, look] at h
  | m :: r, n, sb, h => by
    simp only [restrict] at h
    split at h
    · rename_i sb' hsb
      by_cases e : m = n
      · subst e
        rw [look_cons_eq] at h
        rw [Option.some.inj h] at hsb
        exact ⟨List.mem_cons_self, hsb⟩
      · rw [look_cons_ne _ _ e] at h
        have := restrict_look h
        exact ⟨List.mem_cons_of_mem _ this.1, this.2⟩
    · have := restrict_look h
      exact ⟨List.mem_cons_of_mem _ this.1, this.2⟩
/-- Operation i waits for operation j, at once or through others. -/
def ancB (ops : List Oper) : Nat → Nat → Nat → Bool
  | 0, _, _ => false
  | k + 1, i, j => match ops[i]? with
    | none => false
    | some o => waitsOn o j || o.after.toList.any fun e => Region.binds .any e && ancB ops k e.on j
/-- All that has written a name ahead is waited for. -/
def wsOk (ops : List Oper) (i n : Nat) : List (Nat × Nat) → Bool
  | [] => true
  | (m, j) :: r => match Nat.beq m n with
    | true => match ancB ops 4 i j with | true => wsOk ops i n r | false => false
    | false => wsOk ops i n r
def oneSV : SV → Bool
  | .agg _ => false
  | .tup _ => false
  | .v (.agg _) => false
  | .v (.tuple _) => false
  | _ => true
/-- A store into a named block: which, and what it holds then. -/
def storeD {PP : Program} (C : Cx PP) (op : OpF) (H : List (Nat × SB)) : Op → Option (Nat × SB)
  | .store t x y => match op [] x, op [] y, look C.T t with
    | some (.p n off), some v, some ti => match cellsOfSV v, look H n with
      | some l, some sb => match Nat.beq l.length ti.sz, Nat.ble (off + l.length) sb.cs.length, l.all oneSV with
        | true, true, true => match laid (sb.cs.take off ++ l ++ sb.cs.drop (off + l.length)) with
          | some cs => some (n, ⟨cs, sb.t⟩)
          | none => none
        | _, _, _ => none
      | _, _ => none
    | _, _, _ => none
  | _ => none
def laidN : List Nat → Option (List Nat)
  | [] => some []
  | x :: r => match laidN r with | some l => some (x :: l) | none => none
theorem laidN_eq : ∀ {l m : List Nat}, laidN l = some m → m = l
  | [], m, h => by simpa [laidN] using h.symm
  | x :: r, m, h => by
    simp only [laidN] at h
    cases hr : laidN r with
    | none => rw [hr] at h; cases h
    | some l => rw [hr] at h; rw [← Option.some.inj h, laidN_eq hr]
/-- What an operation reads, and all that is read so far. -/
def rdN (any : Bool) (op : OpF) (H : List (Nat × SB)) (o : Op) (rd : List Nat) : Option (List Nat × List Nat) :=
  match any with
  | false => some ([], rd)
  | true => match laidN (readsOp op H o) with
    | none => none
    | some R => match laidN (R ++ rd) with
      | none => none
      | some rd' => some (R, rd')
theorem rdN_ok {op : OpF} {H : List (Nat × SB)} {o : Op} {rd R rd' : List Nat} (h : rdN true op H o rd = some (R, rd')) : rd' = R ++ rd := by
  unfold rdN at h
  simp only at h
  split at h
  · cases h
  · split at h
    · cases h
    · rename_i x hx
      obtain ⟨rfl, rfl⟩ := Prod.mk.inj (Option.some.inj h)
      exact laidN_eq hx
def heapFor (any : Bool) (H Hs : List (Nat × SB)) (R : List Nat) : List (Nat × SB) := match any with | true => restrict H R | false => Hs
def isStore : Op → Bool
  | .store .. => true
  | _ => false
/-- One operation of the region. 'H': the heap that it reads, if in whatever order. -/
def stepIn {PP : Program} {C : Cx PP} (Γ : List (Con C)) (nt : Nat) (any : Bool) (ops heads : List Oper) (H : List (Nat × SB)) (k : Nat) (o : Oper) : St → Option (St × Option Prop)
  | ⟨sl, Hs, nm, rg, rd, ws⟩ => match guardOf any ops rg sl o with
    | none => none
    | some g => match isStore o.op with
      | true => match g, o.dst, storeD C (opIn any heads rg sl o g) Hs o.op with
        | [], none, some (n, sb) => match any with
          | false => some (⟨sl, (n, sb) :: Hs, nm, rg, rd, ws⟩, none)
          | true => match wsOk ops k n ws with
            | true => some (⟨sl, (n, sb) :: Hs, nm, rg, rd, (n, k) :: ws⟩, none)
            | false => none
        | _, _, _ => none
      | false => match rdN any (opIn any heads rg sl o g) H o.op rd with
        | none => none
        | some (R, rd') => match D Γ (opIn any heads rg sl o g) (heapFor any H Hs R) nm o.op with
          | none => none
          | some ⟨ob, v, b⟩ => match o.dst, b with
            | none, none => some (⟨sl, Hs, nm, rg, rd', ws⟩, gimp sl g ob)
            | none, some _ => none
            | some d, b => match Nat.blt d nt, freshIn rg sl d with
              | true, true => match b with
                | none => some (⟨(d, ⟨rg, k, g, v⟩) :: sl, Hs, nm, rg, rd', ws⟩, gimp sl g ob)
                | some sb => match g with
                  | [] => some (⟨(d, ⟨rg, k, [], v⟩) :: sl, (nm, sb) :: Hs, nm + 1, rg, rd', match any with | true => (nm, k) :: ws | false => ws⟩, ob)
                  | _ :: _ => none
              | _, _ => none
def also (p : Option Prop) (q : Prop) : Prop := match p with | none => q | some p => p ∧ q
theorem also_ok {p : Option Prop} {q : Prop} (h : also p q) : owed p ∧ q := by
  cases p with
  | none => exact ⟨trivial, h⟩
  | some p => exact h
/-- Operations one after the other. -/
def evOps (F : Nat → Oper → St → Option (St × Option Prop)) : Nat → List Oper → St → (St → Prop) → Prop
  | _, [], st, K => K st
  | k, o :: r, st, K => match F k o st with
    | none => False
    | some (st', ob) => also ob (evOps F (k + 1) r st' K)

/-- The state ahead of the operation number i. -/
def stAt (F : Nat → Oper → St → Option (St × Option Prop)) (l : List Oper) (st : St) : Nat → St
  | 0 => st
  | i + 1 => match l[i]? with
    | none => stAt F l st i
    | some o => match F i o (stAt F l st i) with
      | none => stAt F l st i
      | some (s, _) => s

theorem evOps_at (F : Nat → Oper → St → Option (St × Option Prop)) {l : List Oper} {st0 : St} {K : St → Prop} : ∀ (r : List Oper) (k : Nat), (∀ j, r[j]? = l[k + j]?) → k + r.length = l.length → evOps F k r (stAt F l st0 k) K →
    (∀ i o, k ≤ i → l[i]? = some o → ∃ ob, F i o (stAt F l st0 i) = some (stAt F l st0 (i + 1), ob) ∧ owed ob) ∧ K (stAt F l st0 l.length)
  | [], k, hr, hk, h => by
    simp only [List.length_nil, Nat.add_zero] at hk
    subst hk
    refine ⟨fun i o hi ho => ?_, h⟩
    have : i < l.length := (List.getElem?_eq_some_iff.1 ho).1
    omega
  | o :: r, k, hr, hk, h => by
    have h0 : l[k]? = some o := by simpa using (hr 0).symm
    simp only [evOps] at h
    split at h
    · cases h
    · rename_i st' ob hF
      obtain ⟨h1, h2⟩ := also_ok h
      have hs : stAt F l st0 (k + 1) = st' := by simp only [stAt, h0, hF]
      rw [← hs] at h2
      obtain ⟨k1, k2⟩ := evOps_at F r (k + 1) (fun j => by have := hr (j + 1); simp only [List.getElem?_cons_succ] at this; rw [this]; congr 1; omega) (by simp at hk; omega) h2
      refine ⟨fun i o' hi ho' => ?_, k2⟩
      rcases Nat.eq_or_lt_of_le hi with rfl | hlt
      · rw [h0] at ho'
        obtain rfl := Option.some.inj ho'
        exact ⟨ob, by rw [hF, hs], h1⟩
      · exact k1 i o' hlt ho'
end Go.Proofs.YtggcfjeehpcclaaDoor
