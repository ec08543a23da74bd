/- A symbolic executor with lists, 12: states; the operations of a region, by computation. -/
import Derived.Test.YtcojfohjdibjjaaGreatDoorG10
namespace Go.Proofs.YtcojfohjdibjjaaGreatDoor
open Go.RowKit

/-- What a slot holds: since which region and operation, when (guards), and what. -/
structure Slot where
  rg : Nat
  k : Nat
  g : List (Nat × Bool)
  v : SV
structure St where
  sl : List (Nat × Slot)
  H : Heap
  nm : Nat
  rg : Nat
  /-- In a drawn region: the names that are read, the names that are written, and by which operation. -/
  rd : List (Nat × Nat) := []
  ws : List (Nat × Nat) := []

def constSV : Value → SV
  | .int k n => .il k n
  | .bool b => .bl b
  | x => .v x
theorem constSV_den {ρ : Names} {x : Value} : den ρ (constSV x) x := by
  unfold constSV
  split <;> rfl
def sameB : Bool → Bool → Bool
  | true, true => true
  | false, false => true
  | _, _ => false
theorem sameB_eq {a b : Bool} (h : sameB a b = true) : a = b := by cases a <;> cases b <;> first | rfl | cases h
def atomIn (p : Nat × Bool) : List (Nat × Bool) → Bool
  | [] => false
  | q :: r => match Nat.beq p.1 q.1, sameB p.2 q.2 with | true, true => true | _, _ => atomIn p r
theorem atomIn_mem {p : Nat × Bool} : ∀ {l : List (Nat × Bool)}, atomIn p l = true → p ∈ l
  | [], h => by cases h
  | q :: r, h => by
    simp only [atomIn] at h
    split at h
    · rename_i h1 h2
      have e1 := Nat.eq_of_beq_eq_true h1
      have e2 := sameB_eq h2
      have : p = q := Prod.ext e1 e2
      rw [this]; exact List.mem_cons_self
    · exact List.mem_cons_of_mem _ (atomIn_mem h)
def subA : List (Nat × Bool) → List (Nat × Bool) → Bool
  | [], _ => true
  | p :: r, m => match atomIn p m with | true => subA r m | false => false
theorem subA_mem : ∀ {l m : List (Nat × Bool)}, subA l m = true → ∀ p ∈ l, p ∈ m
  | [], m, _, p, hp => by cases hp
  | q :: r, m, h, p, hp => by
    simp only [subA] at h
    split at h
    · rename_i h1
      rcases List.mem_cons.1 hp with rfl | hp
      · exact atomIn_mem h1
      · exact subA_mem h p hp
    · cases h
def waitsOn (o : Oper) (j : Nat) : Bool := o.after.toList.any fun e => Region.binds .any e && Nat.beq e.on j
theorem waitsOn_ok {o : Oper} {j : Nat} (h : waitsOn o j = true) : ∃ e ∈ o.after, Region.binds .any e = true ∧ e.on = j := by
  obtain ⟨e, he, hb⟩ := List.any_eq_true.1 h
  simp only [Bool.and_eq_true] at hb
  exact ⟨e, by simpa using he, hb.1, Nat.eq_of_beq_eq_true hb.2⟩

/-- Whatever writes slot t waits on operation k. -/
def freeAt (k t : Nat) : List Oper → Bool
  | [] => true
  | o :: r => match o.dst with
    | none => freeAt k t r
    | some d => match Nat.beq d t with
      | false => freeAt k t r
      | true => match waitsOn o k with | true => freeAt k t r | false => false
theorem freeAt_ok {k t : Nat} : ∀ {l : List Oper}, freeAt k t l = true → ∀ (i : Nat) (o : Oper), l[i]? = some o → o.dst = some t → waitsOn o k = true
  | [], _, i, o, hi, _ => by simp at hi
  | p :: r, h, i, o, hi, hd => by
    cases i with
    | zero =>
      obtain rfl : p = o := by simpa using hi
      simp only [freeAt, hd, Nat.beq_refl] at h
      split at h
      · assumption
      · cases h
    | succ i =>
      refine freeAt_ok (l := r) ?_ i o (by simpa using hi) hd
      simp only [freeAt] at h
      split at h
      · exact h
      · split at h
        · exact h
        · split at h
          · exact h
          · cases h
/-- What an operand of an operation of the region reads as; 'any': in whatever order. -/
def opIn (any : Bool) (heads : List Oper) (k : Nat) (rg : Nat) (sl : List (Nat × Slot)) (o : Oper) (gk : List (Nat × Bool)) : OpF := fun ex x =>
  match x with
  | .const v => some (constSV v)
  | .global g => some (.v (.pointer (some ⟨g, 0, none⟩)))
  | .func f => some (.v (.func (.func f) #[] #[]))
  | .tmp t => match look sl t with
    | none => none
    | some ⟨srg, sk, sg, sv⟩ => match Nat.beq srg rg with
      | true => match subA sg (ex ++ gk) with
        | true => match any with
          | true => match waitsOn o sk with | true => some sv | false => none
          | false => some sv
        | false => none
      | false => match sg with
        | [] => match any with
          | true => match freeAt k t heads with | true => some sv | false => none
          | false => some sv
        | _ :: _ => none
theorem opIn_def {any : Bool} {heads : List Oper} {k rg : Nat} {sl : List (Nat × Slot)} {o : Oper} {gk : List (Nat × Bool)} {ex : List (Nat × Bool)} {x : Operand} : opIn any heads k rg sl o gk ex x = match x with
  | .const v => some (constSV v)
  | .global g => some (.v (.pointer (some ⟨g, 0, none⟩)))
  | .func f => some (.v (.func (.func f) #[] #[]))
  | .tmp t => match look sl t with
    | none => none
    | some s => match Nat.beq s.rg rg with
      | true => match subA s.g (ex ++ gk) with
        | true => match any with
          | true => match waitsOn o s.k with | true => some s.v | false => none
          | false => some s.v
        | false => none
      | false => match s.g with
        | [] => match any with
          | true => match freeAt k t heads with | true => some s.v | false => none
          | false => some s.v
        | _ :: _ => none := by
  cases x with
  | tmp t =>
    simp only [opIn]
    cases look sl t with
    | none => rfl
    | some s => cases s; rfl
  | _ => rfl
/-- The guards of an operation, those of its guard among them. -/
def guardOf (any : Bool) (ops : List Oper) (rg : Nat) (sl : List (Nat × Slot)) (o : Oper) : Option (List (Nat × Bool)) :=
  match o.guard with
  | none => some []
  | some (j, pol) => match ops[j]? with
    | none => none
    | some oj => match oj.dst with
      | none => none
      | some t => match look sl t with
        | none => none
        | some s => match Nat.beq s.rg rg, Nat.beq s.k j with
          | true, true => match any with
            | true => match waitsOn o j with | true => some ((t, pol) :: s.g) | false => none
            | false => some ((t, pol) :: s.g)
          | _, _ => none
def gimpP (sl : List (Nat × Slot)) : List (Nat × Bool) → Prop → Prop
  | [], p => p
  | (t, pol) :: r, p => match look sl t with
    | none => gimpP sl r p
    | some s => match s.v.bool? with
      | none => gimpP sl r p
      | some b => b = pol → gimpP sl r p
def gimp (sl : List (Nat × Slot)) (g : List (Nat × Bool)) : Option Prop → Option Prop
  | none => none
  | some p => match g with | [] => some p | _ :: _ => some (gimpP sl g p)
def freshIn (rg : Nat) (sl : List (Nat × Slot)) (d : Nat) : Bool :=
  match look sl d with
  | none => true
  | some s => match Nat.beq s.rg rg with | true => false | false => true
mutual
def namesOf : SV → List Nat
  | .p n _ => [n]
  | .s n _ _ _ _ => [n]
  | .g m _ _ _ _ => [m]
  | .gp m _ _ _ _ => [m]
  | .kd m _ _ _ _ => [m]
  | .kq m _ _ _ _ => [m]
  | .m n => [n]
  | .f _ x y => namesL x ++ namesL y
  | .agg l => namesL l
  | .tup l => namesL l
  | .v _ => []
  | .il _ _ => []
  | .bl _ => []
  | .e => []
  | .rs _ _ _ => []
  | .rp _ _ => []
def namesL : List SV → List Nat
  | [] => []
  | x :: r => namesOf x ++ namesL r
end
def namesIn (H : Heap) : List Nat → List Nat
  | [] => []
  | n :: r => match look H n with | some (.lay cs _) => namesL cs ++ namesIn H r | _ => namesIn H r
/-- The names that can be reached. -/
def reach : Nat → Heap → List Nat → List Nat
  | 0, _, l => l
  | k + 1, H, l => match l with
    | [] => []
    | n :: r => (n :: r) ++ reach k H (namesIn H (n :: r))
/-- The names that an operation needs. -/
def readsOp (op : OpF) (H : Heap) : Op → List Nat
  | .load _ x => match op [] x with | some v => namesOf v | none => []
  | .store _ x _ => match op [] x with | some v => namesOf v | none => []
  | .lookup _ x _ _ => match op [] x with | some v => namesOf v | none => []
  | .mapUpdate _ x _ _ => match op [] x with | some v => namesOf v | none => []
  | .call c => match c.callee with
    | .value f => match op [] f, opL op c.args.toList with | some sf, some l => reach 4 H (namesOf sf ++ namesL l) | _, _ => []
    | .builtin .append => match opL op c.args.toList with | some l => namesL l | none => []
    | .builtin .clear => match opL op c.args.toList with | some l => namesL l | none => []
    | _ => []
  | _ => []
def restrict (H : Heap) : List Nat → Heap
  | [] => []
  | n :: r => match look H n with | some sb => (n, sb) :: restrict H r | none => restrict H r
theorem restrict_look {H : Heap} : ∀ {l : List Nat} {n : Nat} {sb : SB}, look (restrict H l) n = some sb → n ∈ l ∧ look H n = some sb
  | [], n, sb, h => by simp [restrict, look] at h
  | m :: r, n, sb, h => by
    simp only [restrict] at h
    split at h
    · rename_i sb' hsb
      by_cases e : m = n
      · subst e
        rw [look_cons_eq] at h
        rw [Option.some.inj h] at hsb
        exact ⟨List.mem_cons_self, hsb⟩
      · rw [look_cons_ne _ _ e] at h
        have := restrict_look h
        exact ⟨List.mem_cons_of_mem _ this.1, this.2⟩
    · have := restrict_look h
      exact ⟨List.mem_cons_of_mem _ this.1, this.2⟩
/-- Operation i waits for operation j, at once or through others. -/
def ancB (ops : List Oper) : Nat → Nat → Nat → Bool
  | 0, _, _ => false
  | k + 1, i, j => match ops[i]? with
    | none => false
    | some o => match waitsOn o j with | true => true | false => o.after.toList.any fun e => Region.binds .any e && ancB ops k e.on j
/-- All that has touched a name ahead is waited for. -/
def wsOk (ops : List Oper) (i n : Nat) : List (Nat × Nat) → Bool
  | [] => true
  | (m, j) :: r => match Nat.beq m n with
    | true => match ancB ops 5 i j with | true => wsOk ops i n r | false => false
    | false => wsOk ops i n r
def wsAll (ops : List Oper) (i : Nat) (ws : List (Nat × Nat)) : List Nat → Bool
  | [] => true
  | n :: r => match wsOk ops i n ws with | true => wsAll ops i ws r | false => false
/-- The names that an operation needs, laid out. -/
def rdN (any : Bool) (op : OpF) (H : Heap) (o : Op) : Option (List Nat) :=
  match any with
  | false => some []
  | true => laid (readsOp op H o)
def heapFor (any : Bool) (H : Heap) (R : List Nat) : Heap := match any with | true => restrict H R | false => H
def rdsOk (any : Bool) (ops : List Oper) (k : Nat) (R : List Nat) (ws : List (Nat × Nat)) : Bool := match any with | true => wsAll ops k ws R | false => true
def putH (w : Option (Nat × SB)) (H : Heap) : Heap := match w with | none => H | some x => x :: H
def putN (fr : Bool) (nm : Nat) : Nat := match fr with | true => nm + 1 | false => nm
def putW (any : Bool) (w : Option (Nat × SB)) (k : Nat) (ws : List (Nat × Nat)) : List (Nat × Nat) := match any, w with | true, some (n, _) => (n, k) :: ws | _, _ => ws
def conR (k : Nat) : List Nat → List (Nat × Nat) → List (Nat × Nat)
  | [], l => l
  | n :: r, l => (n, k) :: conR k r l
def putR (any : Bool) (k : Nat) (R : List Nat) (rd : List (Nat × Nat)) : List (Nat × Nat) := match any with | true => conR k R rd | false => rd
/-- May this be written? -/
def wrB (any : Bool) (ops : List Oper) (k : Nat) (g : List (Nat × Bool)) (w : Option (Nat × SB)) (fr : Bool) (nm : Nat) (rd ws : List (Nat × Nat)) : Bool :=
  match w with
  | none => match fr with | true => false | false => true
  | some (n, _) => match g, Nat.blt n (putN fr nm) with
    | [], true => match any with
      | false => true
      | true => match wsOk ops k n ws with | true => wsOk ops k n rd | false => false
    | _, _ => false
def dstB (nt rg : Nat) (sl : List (Nat × Slot)) (o : Oper) : Bool :=
  match o.dst with
  | none => true
  | some d => match isStore o.op, Nat.blt d nt with | false, true => freshIn rg sl d | _, _ => false
def putS (rg k : Nat) (g : List (Nat × Bool)) (v : SV) (dst : Option Nat) (sl : List (Nat × Slot)) : List (Nat × Slot) := match dst with | none => sl | some d => (d, ⟨rg, k, g, v⟩) :: sl
/-- A value that is evaluated when it is matched (two constructors: so that no structure's eta rule passes by the evaluation). -/
inductive Bx (α : Type) where
  | mk (x : α)
  | no
/-- One more, evaluated. -/
def incB (n : Nat) : Bx Nat := match n with | 0 => .mk 1 | m + 1 => .mk (m + 2)
theorem incB_eq {n : Nat} : incB n = .mk (n + 1) := by cases n <;> rfl
def forceN (n : Nat) : Bx Nat := match n with | 0 => .mk 0 | m + 1 => .mk (m + 1)
def forceI (n : Int) : Bx Int := match n with
  | .ofNat m => match forceN m with | .mk m' => .mk (.ofNat m') | .no => .no
  | .negSucc m => match forceN m with | .mk m' => .mk (.negSucc m') | .no => .no
def forceX (x : Value) : Bx SV := match x with
  | .int k n => .mk (.v (.int k n))
  | .bool b => .mk (.v (.bool b))
  | y => .mk (.v y)
mutual
def forceV : SV → Bx SV
  | .v x => forceX x
  | .il k n => match forceI n with | .mk n' => .mk (.il k n') | .no => .no
  | .agg l => match forceL l with | .mk l' => .mk (.agg l') | .no => .no
  | .tup l => match forceL l with | .mk l' => .mk (.tup l') | .no => .no
  | .f fn x y => match forceL x, forceL y with | .mk x', .mk y' => .mk (.f fn x' y') | _, _ => .no
  | .bl b => .mk (.bl b)
  | .p n off => .mk (.p n off)
  | .s n sz off len cap => .mk (.s n sz off len cap)
  | .e => .mk .e
  | .rs sz n h => .mk (.rs sz n h)
  | .rp x off => .mk (.rp x off)
  | .g m e sz off n => .mk (.g m e sz off n)
  | .gp m e sz i off => .mk (.gp m e sz i off)
  | .kd m i sz off n => .mk (.kd m i sz off n)
  | .kq m i sz j off => .mk (.kq m i sz j off)
  | .m n => .mk (.m n)
def forceL : List SV → Bx (List SV)
  | [] => .mk []
  | x :: r => match forceV x, forceL r with | .mk x', .mk r' => .mk (x' :: r') | _, _ => .no
end
theorem forceN_eq {n : Nat} : forceN n = .mk n := by cases n <;> rfl
theorem forceI_eq {n : Int} : forceI n = .mk n := by cases n <;> simp only [forceI, forceN_eq]
theorem forceX_eq {x : Value} : forceX x = .mk (.v x) := by cases x <;> rfl
mutual
theorem forceV_eq : ∀ (x : SV), forceV x = .mk x
  | .v x => forceX_eq
  | .il k n => by simp only [forceV, forceI_eq]
  | .agg l => by simp only [forceV, forceL_eq l]
  | .tup l => by simp only [forceV, forceL_eq l]
  | .f fn x y => by simp only [forceV, forceL_eq x, forceL_eq y]
  | .bl b => rfl
  | .p _ _ => rfl
  | .s _ _ _ _ _ => rfl
  | .e => rfl
  | .rs _ _ _ => rfl
  | .rp _ _ => rfl
  | .g _ _ _ _ _ => rfl
  | .gp _ _ _ _ _ => rfl
  | .kd _ _ _ _ _ => rfl
  | .kq _ _ _ _ _ => rfl
  | .m _ => rfl
theorem forceL_eq : ∀ (x : List SV), forceL x = .mk x
  | [] => rfl
  | x :: r => by simp only [forceL, forceV_eq x, forceL_eq r]
end
def putSf (rg k : Nat) (g : List (Nat × Bool)) (v : SV) (dst : Option Nat) (sl : List (Nat × Slot)) : Bx (List (Nat × Slot)) := match dst with
  | none => .mk sl
  | some d => match forceV v with | .mk v' => .mk ((d, ⟨rg, k, g, v'⟩) :: sl) | .no => .no
def putHf (w : Option (Nat × SB)) (H : Heap) : Bx Heap := match w with
  | none => .mk H
  | some (n, .lay cs t) => match forceL cs with | .mk cs' => .mk ((n, .lay cs' t) :: H) | .no => .no
  | some x => .mk (x :: H)
def putNf (fr : Bool) (nm : Nat) : Bx Nat := match fr with | true => incB nm | false => .mk nm
theorem putSf_eq {rg k : Nat} {g : List (Nat × Bool)} {v : SV} {dst : Option Nat} {sl : List (Nat × Slot)} : putSf rg k g v dst sl = .mk (putS rg k g v dst sl) := by
  cases dst with
  | none => rfl
  | some d => simp only [putSf, forceV_eq]; rfl
theorem putHf_eq {w : Option (Nat × SB)} {H : Heap} : putHf w H = .mk (putH w H) := by
  unfold putHf
  split
  · rfl
  · simp only [forceL_eq]; rfl
  · rfl
theorem putNf_eq {fr : Bool} {nm : Nat} : putNf fr nm = .mk (putN fr nm) := by
  cases fr
  · rfl
  · exact incB_eq
/-- One operation of the region. -/
def stepIn {PP : Program} {C : Cx PP} (Γ : List (Con C)) (nt : Nat) (any : Bool) (ops heads : List Oper) (k : Nat) (o : Oper) : St → Option (St × Option Prop)
  | ⟨sl, H, nm, rg, rd, ws⟩ => match guardOf any ops rg sl o with
    | none => none
    | some g0 => match laid g0 with
      | none => none
      | some g => match rdN any (opIn any heads k rg sl o g) H o.op with
        | none => none
        | some R => match rdsOk any ops k R ws, D Γ (fzB g) (opIn any heads k rg sl o g) (heapFor any H R) nm o.op with
          | true, some ⟨ob, v, w, fr⟩ => match wrB any ops k g w fr nm rd ws, dstB nt rg sl o with
            | true, true => match putSf rg k g v o.dst sl, putHf w H, putNf fr nm with
              | .mk sl', .mk H', .mk nm' => match any with
                | true => match laid (putR true k R rd), laid (putW true w k ws) with
                  | some rd', some ws' => some (⟨sl', H', nm', rg, rd', ws'⟩, gimp sl g ob)
                  | _, _ => none
                | false => some (⟨sl', H', nm', rg, rd, ws⟩, gimp sl g ob)
              | _, _, _ => none
            | _, _ => none
          | _, _ => none
def also (p : Option Prop) (q : Prop) : Prop := match p with | none => q | some p => p ∧ q
theorem also_ok {p : Option Prop} {q : Prop} (h : also p q) : owed p ∧ q := by
  cases p with
  | none => exact ⟨trivial, h⟩
  | some p => exact h
/-- Operations one after the other. -/
def evOps (F : Nat → Oper → St → Option (St × Option Prop)) : Nat → List Oper → St → (St → Prop) → Prop
  | _, [], st, K => K st
  | k, o :: r, st, K => match F k o st with
    | none => False
    | some (st', ob) => match incB k with | .mk k' => also ob (evOps F k' r st' K) | .no => False

/-- The state ahead of the operation number i. -/
def stAt (F : Nat → Oper → St → Option (St × Option Prop)) (l : List Oper) (st : St) : Nat → St
  | 0 => st
  | i + 1 => match l[i]? with
    | none => stAt F l st i
    | some o => match F i o (stAt F l st i) with
      | none => stAt F l st i
      | some (s, _) => s

theorem evOps_at (F : Nat → Oper → St → Option (St × Option Prop)) {l : List Oper} {st0 : St} {K : St → Prop} : ∀ (r : List Oper) (k : Nat), (∀ j, r[j]? = l[k + j]?) → k + r.length = l.length → evOps F k r (stAt F l st0 k) K →
    (∀ i o, k ≤ i → l[i]? = some o → ∃ ob, F i o (stAt F l st0 i) = some (stAt F l st0 (i + 1), ob) ∧ owed ob) ∧ K (stAt F l st0 l.length)
  | [], k, hr, hk, h => by
    simp only [List.length_nil, Nat.add_zero] at hk
    subst hk
    refine ⟨fun i o hi ho => ?_, h⟩
    have : i < l.length := (List.getElem?_eq_some_iff.1 ho).1
    omega
  | o :: r, k, hr, hk, h => by
    have h0 : l[k]? = some o := by simpa using (hr 0).symm
    simp only [evOps, incB_eq] at h
    split at h
    · cases h
    · rename_i st' ob hF
      obtain ⟨h1, h2⟩ := also_ok h
      have hs : stAt F l st0 (k + 1) = st' := by simp only [stAt, h0, hF]
      rw [← hs] at h2
      obtain ⟨k1, k2⟩ := evOps_at F r (k + 1) (fun j => by have := hr (j + 1); simp only [List.getElem?_cons_succ] at this; rw [this]; congr 1; omega) (by simp at hk; omega) h2
      refine ⟨fun i o' hi ho' => ?_, k2⟩
      rcases Nat.eq_or_lt_of_le hi with rfl | hlt
      · rw [h0] at ho'
        obtain rfl := Option.some.inj ho'
        exact ⟨ob, by rw [hF, hs], h1⟩
      · exact k1 i o' hlt ho'
end Go.Proofs.YtcojfohjdibjjaaGreatDoor
