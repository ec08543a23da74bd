/- A symbolic executor with lists, 17: what a state covers; code. -/
import Derived.Test.YtcojfohjdibjjaaGreatDoorG15
namespace Go.Proofs.YtcojfohjdibjjaaGreatDoor
open Go.RowKit

inductive Ex where
  | normal
  | exit (id : Nat)
  | ret
def Ex.to : Ex → Exit
  | .normal => .normal
  | .exit i => .exit i
  | .ret => .ret

/-- An operand between regions. -/
def opOut (sl : List (Nat × Slot)) : Operand → Option SV
  | .const v => some (constSV v)
  | .global g => some (.v (.pointer (some ⟨g, 0, none⟩)))
  | .func f => some (.v (.func (.func f) #[] #[]))
  | .tmp t => match look sl t with
    | none => none
    | some ⟨_, _, g, v⟩ => match g with | [] => some v | _ :: _ => none
theorem opOut_def {sl : List (Nat × Slot)} {x : Operand} : opOut sl x = match x with
  | .const v => some (constSV v)
  | .global g => some (.v (.pointer (some ⟨g, 0, none⟩)))
  | .func f => some (.v (.func (.func f) #[] #[]))
  | .tmp t => match look sl t with
    | none => none
    | some s => match s.g with | [] => some s.v | _ :: _ => none := by
  cases x with
  | tmp t =>
    simp only [opOut]
    cases look sl t with
    | none => rfl
    | some s => cases s; rfl
  | _ => rfl

/-! ### A state is covered by another one -/
def ren : List (Nat × Nat) → Nat → Nat
  | [], n => n
  | (a, b) :: r, n => match Nat.beq a n with | true => b | false => ren r n
/-- Which name becomes o? -/
def invN (σ : List (Nat × Nat)) (o : Nat) : Nat → Option Nat
  | 0 => none
  | k + 1 => match Nat.beq (ren σ k) o with | true => some k | false => invN σ o k
/-- The names below nm, under other names. -/
def cutN (nm : Nat) (σ : List (Nat × Nat)) (ρ : Names) : Names :=
  ⟨fun n => match Nat.blt n nm with | true => ρ.n (ren σ n) | false => none,
   fun e => match Nat.blt e nm with
    | true => match ρ.v (ren σ e) with
      | some l => match invN σ l.o nm with | some o => some ⟨o, l.a, l.cap, l.N⟩ | none => none
      | none => none
    | false => none,
   fun m i => match Nat.blt m nm with | true => ρ.k (ren σ m) i | false => none,
   ρ.z, ρ.d, ρ.o⟩
def nameB (nm : Nat) (σ : List (Nat × Nat)) (n' n : Nat) : Bool := match Nat.blt n' nm with | true => Nat.beq (ren σ n') n | false => false
def eqO (b : Bool) (l : List Prop) : Option (List Prop) := match b with | true => some l | false => none
def vqI (k : IntKind) (a : Int) (x : SV) : Option (List Prop) := match x.int? with | none => none | some (k', b) => eqO (sameK k k') [a = b]
def vqB (a : Bool) (x : SV) : Option (List Prop) := match x.bool? with | none => none | some b => some [a = b]
def vqV (y : Value) : SV → Option (List Prop)
  | .v y' => some [y = y']
  | _ => none
def bothO : Option (List Prop) → Option (List Prop) → Option (List Prop)
  | some a, some b => some (a ++ b)
  | _, _ => none
mutual
/-- What is left to show for the value v, described anew as v'. -/
def vq (nm : Nat) (σ : List (Nat × Nat)) : SV → SV → Option (List Prop)
  | .v (.int k a), x => vqI k a x
  | .il k a, x => vqI k a x
  | .v (.bool a), x => vqB a x
  | .bl a, x => vqB a x
  | .v y, x => vqV y x
  | .p n off, x => match x with
    | .p n' off' => match nameB nm σ n n' with | true => eqO (Nat.beq off off') [] | false => none
    | _ => none
  | .s n sz off len cap, x => match x with
    | .s n' sz' off' len' cap' => match nameB nm σ n n', Nat.beq sz sz', Nat.beq off off', Nat.beq len len' with | true, true, true, true => eqO (Nat.beq cap cap') [] | _, _, _, _ => none
    | _ => none
  | .f fn p q, x => match x with | .f fn' p' q' => bothO (some [fn = fn']) (bothO (vqL nm σ p p') (vqL nm σ q q')) | _ => none
  | .agg l, x => match x with | .agg l' => vqL nm σ l l' | _ => none
  | .tup l, x => match x with | .tup l' => vqL nm σ l l' | _ => none
  | .e, x => match x with | .e => some [] | .v (.slice none 0 0) => some [] | _ => none
  | .rs sz n h, x => match x with
    | .rs sz' n' h' => eqO (Nat.beq sz sz') [n = n', ∀ i, i < n' → conjO (vqL nm σ (h i) (h' i))]
    | .e => some [n = 0]
    | .v (.slice none 0 0) => some [n = 0]
    | _ => none
  | .rp l off, x => match x with | .rp l' off' => bothO (some [off = off']) (vqL nm σ l l') | _ => none
  | .g m e sz off n, x => match x with
    | .g m' e' sz' off' n' => match nameB nm σ m m', nameB nm σ e e' with | true, true => eqO (Nat.beq sz sz') [off = off', n = n'] | _, _ => none
    | _ => none
  | .gp m e sz i off, x => match x with
    | .gp m' e' sz' i' off' => match nameB nm σ m m', nameB nm σ e e' with | true, true => eqO (Nat.beq sz sz') [i = i', off = off'] | _, _ => none
    | _ => none
  | .m n, x => match x with
    | .m n' => match nameB nm σ n n' with | true => some [] | false => none
    | _ => none
  | .kd m i sz off n, x => match x with
    | .kd m' i' sz' off' n' => match nameB nm σ m m' with | true => eqO (Nat.beq sz sz') [i = i', off = off', n = n'] | _ => none
    | _ => none
  | .kq m i sz j off, x => match x with
    | .kq m' i' sz' j' off' => match nameB nm σ m m' with | true => eqO (Nat.beq sz sz') [i = i', j = j', off = off'] | _ => none
    | _ => none
def vqL (nm : Nat) (σ : List (Nat × Nat)) : List SV → List SV → Option (List Prop)
  | [], x => match x with | [] => some [] | _ :: _ => none
  | y :: r, x => match x with | [] => none | x :: s => bothO (vq nm σ y x) (vqL nm σ r s)
end
def vqSl (nm : Nat) (σ : List (Nat × Nat)) (st : St) : List (Nat × Slot) → Option (List Prop)
  | [] => some []
  | (t, s') :: r => match look st.sl t with
    | none => none
    | some s => match s.g, s'.g with | [], [] => bothO (vq nm σ s'.v s.v) (vqSl nm σ st r) | _, _ => none
def vqSB (nm : Nat) (σ : List (Nat × Nat)) (n : Nat) : SB → SB → Option (List Prop)
  | .lay cs t, x => match x with
    | .lay cs' t' => match Nat.beq t t' with | true => vqL nm σ cs cs' | false => none
    | _ => none
  | .lst e sz N h t, x => match x with
    | .lst e' sz' N' h' t' => match nameB nm σ e e', Nat.beq sz sz' with | true, true => eqO (Nat.beq t t') [N = N', ∀ i, i < N' → conjO (vqL nm σ (h i) (h' i))] | _, _ => none
    | _ => none
  | .gone, _ => some []
  | .nst e sz N h p szk g tk t last, x => match x with
    | .nst e' sz' N' h' p' szk' g' tk' t' last' => match last, last', nameB nm σ e e', Nat.beq sz sz', Nat.beq p p', Nat.beq szk szk', Nat.beq tk tk' with
      | none, none, true, true, true, true, true => eqO (Nat.beq t t') [N = N', ∀ i, i < N' → conjO (vqL nm σ ((h i).set p .e) ((h' i).set p .e)), ∀ i, i < N' → (g i).1 = (g' i).1, ∀ i, i < N' → ∀ j, j < (g' i).1 → conjO (vqL nm σ ((g i).2 j) ((g' i).2 j))]
      | _, _, _, _, _, _, _ => none
    | _ => none
  | .mp k ag has g, x => match x with
    | .mp k' ag' has' g' => match sameK k k', sameAg ag ag' with | true, true => some [∀ j, has j = has' j, ∀ j, has' j = true → conjO (vqL nm σ (g j) (g' j))] | _, _ => none
    | _ => none
  | .alt _ _ _ _ _ _ _ _ _ _ _ _ _ _, _ => none
def vqH (nm : Nat) (σ : List (Nat × Nat)) (st : St) : Heap → Option (List Prop)
  | [] => some []
  | (n, sb') :: r => match look st.H (ren σ n), Nat.blt n nm with
    | some sb, true => bothO (vqSB nm σ n sb' sb) (vqH nm σ st r)
    | _, _ => none
def freshB (σ : List (Nat × Nat)) (m : Nat) : Nat → Bool
  | 0 => true
  | k + 1 => match Nat.beq (ren σ k) (ren σ m) with | true => false | false => freshB σ m k
def injB (σ : List (Nat × Nat)) : Nat → Bool
  | 0 => true
  | k + 1 => match freshB σ k k with | true => injB σ k | false => false
def fixB (σ : List (Nat × Nat)) : Nat → Bool
  | 0 => true
  | k + 1 => match Nat.beq (ren σ k) k with | true => fixB σ k | false => false
def rgB (rg : Nat) : List (Nat × Slot) → Bool
  | [] => true
  | (_, s) :: r => match Nat.ble s.rg rg with | true => rgB rg r | false => false
def coverB (nm0 : Nat) (σ : List (Nat × Nat)) (st' : St) : Bool := match Nat.ble nm0 st'.nm, injB σ st'.nm, fixB σ nm0, rgB st'.rg st'.sl with | true, true, true, true => true | _, _, _, _ => false
/-- What a pointer or slice into the block m is when the block does not change any more. -/
def frzP (m : Nat) (sb : SB) (n off : Nat) : SV := match Nat.beq n m, sb with
  | true, .lay cs _ => .rp cs off
  | _, _ => .p n off
def frzB (m : Nat) (sb : SB) (n sz off len cap : Nat) : SV := match Nat.beq n m, sb with
  | true, .lay cs _ => match Nat.ble (off + len * sz) cs.length, Nat.ble len cap with
    | true, true => .rs sz len (fun i => chunk (cs.drop off) sz i)
    | _, _ => .s n sz off len cap
  | _, _ => .s n sz off len cap
def frzG (m : Nat) (sb : SB) (m' e' sz' off n : Nat) : SV := match Nat.beq m' m, sb with
  | true, .lst e sz _ h _ => match Nat.beq e' e, Nat.beq sz' sz with | true, true => .rs sz n (fun i => h (off + i)) | _, _ => .g m' e' sz' off n
  | true, .nst e sz _ h p szk g _ _ none => match Nat.beq e' e, Nat.beq sz' sz with | true, true => .rs sz n (fun i => nstR h p szk g (off + i)) | _, _ => .g m' e' sz' off n
  | _, _ => .g m' e' sz' off n
def frzGP (m : Nat) (sb : SB) (m' e' sz' i off : Nat) : SV := match Nat.beq m' m, sb with
  | true, .lst e sz _ h _ => match Nat.beq e' e, Nat.beq sz' sz with | true, true => .rp (h i) off | _, _ => .gp m' e' sz' i off
  | true, .nst e sz _ h p szk g _ _ none => match Nat.beq e' e, Nat.beq sz' sz with | true, true => .rp (nstR h p szk g i) off | _, _ => .gp m' e' sz' i off
  | _, _ => .gp m' e' sz' i off
def frzK (m : Nat) (sb : SB) (m' i sz' off n : Nat) : SV := match Nat.beq m' m, sb with
  | true, .nst _ _ _ _ _ szk g _ _ none => match Nat.beq sz' szk with | true => .rs szk n (fun j => (g i).2 (off + j)) | _ => .kd m' i sz' off n
  | _, _ => .kd m' i sz' off n
def frzQ (m : Nat) (sb : SB) (m' i sz' j off : Nat) : SV := match Nat.beq m' m, sb with
  | true, .nst _ _ _ _ _ szk g _ _ none => match Nat.beq sz' szk with | true => .rp ((g i).2 j) off | _ => .kq m' i sz' j off
  | _, _ => .kq m' i sz' j off
mutual
/-- Memory of one's own that does not change any more. -/
def frzS (m : Nat) (sb : SB) : SV → SV
  | .g m' e' sz' off n => frzG m sb m' e' sz' off n
  | .gp m' e' sz' i off => frzGP m sb m' e' sz' i off
  | .kd m' i sz' off n => frzK m sb m' i sz' off n
  | .kq m' i sz' j off => frzQ m sb m' i sz' j off
  | .m n => .m n
  | .agg l => .agg (frzL m sb l)
  | .tup l => .tup (frzL m sb l)
  | .f fn x y => .f fn (frzL m sb x) (frzL m sb y)
  | .v x => .v x
  | .il k n => .il k n
  | .bl b => .bl b
  | .p n off => frzP m sb n off
  | .s n sz off len cap => frzB m sb n sz off len cap
  | .e => .e
  | .rs sz n h => .rs sz n h
  | .rp x off => .rp x off
def frzL (m : Nat) (sb : SB) : List SV → List SV
  | [] => []
  | x :: r => frzS m sb x :: frzL m sb r
end
def frzSl (m : Nat) (sb : SB) : List (Nat × Slot) → List (Nat × Slot)
  | [] => []
  | (t, s) :: r => (t, ⟨s.rg, s.k, s.g, frzS m sb s.v⟩) :: frzSl m sb r
def frzSB (m : Nat) (sb : SB) : SB → SB
  | .lay cs t => .lay (frzL m sb cs) t
  | x => x
def frzH (m : Nat) (sb : SB) : Heap → Heap
  | [] => []
  | (n, b) :: r => (n, frzSB m sb b) :: frzH m sb r
def frzOk : SB → Bool
  | .lst _ _ _ _ _ => true
  | .lay cs _ => pureL cs
  | .gone => false
  | .mp _ _ _ _ => false
  | .alt _ _ _ _ _ _ _ _ _ _ _ _ _ _ => false
  | .nst _ _ _ _ _ _ _ _ _ last => match last with | none => true | some _ => false
/-- Before that: an empty slice becomes a list of one's own; a list of one's own does not change any more. -/
inductive Tr where
  | freeze (m : Nat)
  | slot (t sz : Nat) (ty : TypeId)
  | cell (n i sz : Nat) (ty : TypeId)
  /-- .. with an age of its own. -/
  | slot2 (t sz : Nat) (ty : TypeId)
  | cell2 (n i sz : Nat) (ty : TypeId)
  /-- .. a list of lists: the cell that they lie in, their size. -/
  | slotN (t sz p szk : Nat) (tk ty : TypeId)
  | cellN (n i sz p szk : Nat) (tk ty : TypeId)
  /-- The list of the element that was put behind a list of lists becomes its own; whoever else knows it, forgets it. -/
  | absorb (M : Nat)
def emptyS : SV → Bool
  | .e => true
  | .v (.slice none 0 0) => true
  | _ => false
/-- Whoever knows the name m, forgets it. -/
def dropSl (m : Nat) : List (Nat × Slot) → List (Nat × Slot)
  | [] => []
  | (t, s) :: r => match memN m (namesOf s.v) with
    | true => (t, ⟨s.rg, s.k, [(0, true)], .e⟩) :: dropSl m r
    | false => (t, s) :: dropSl m r
def dropSB (m : Nat) : SB → SB
  | .lay cs t => match memN m (namesL cs) with | true => .gone | false => .lay cs t
  | .nst e sz N h p szk g tk t last => match last with
    | none => .nst e sz N h p szk g tk t none
    | some cs => match memN m (namesL cs) with | true => .gone | false => .nst e sz N h p szk g tk t (some cs)
  | x => x
def dropH (m : Nat) : Heap → Heap
  | [] => []
  | (n, b) :: r => (n, dropSB m b) :: dropH m r
/-- One more. -/
def putF {α : Type} (N : Nat) (x : α) (f : Nat → α) : Nat → α := fun i => match Nat.beq i N with | true => x | false => f i
def absorbD (nm0 M : Nat) (H : Heap) : Option (Nat × SB) := match look H M with
  | some (.nst e sz N h p szk g tk t (some cs)) => match cs[p]?, pureL (cs.set p .e) with
    | some (.g m1 e1 szk1 0 n1), true => match look H m1 with
      | some (.lst e1' szk1' _ h1 t1) => match Nat.beq e1 e1', Nat.beq szk1 szk1', Nat.beq szk1 szk, Nat.beq t1 tk, Nat.ble nm0 m1 with
        | true, true, true, true, true => some (m1, .nst e sz (N + 1) (putF N cs h) p szk (putF N (n1, h1) g) tk t none)
        | _, _, _, _, _ => none
      | _ => none
    | _, _ => none
  | _ => none
def tr1 (nm0 : Nat) : Tr → St → St
  | .freeze m, ⟨sl, H, nm, rg, rd, ws⟩ => match look H m with
    | some sb => match frzOk sb with
      | true => ⟨frzSl m sb sl, (m, .gone) :: frzH m sb H, nm, rg, rd, ws⟩
      | false => ⟨sl, H, nm, rg, rd, ws⟩
    | _ => ⟨sl, H, nm, rg, rd, ws⟩
  | .slot t sz ty, ⟨sl, H, nm, rg, rd, ws⟩ => match look sl t with
    | some ⟨r, k, [], v⟩ => match emptyS v, Nat.ble r rg with
      | true, true => ⟨(t, ⟨r, k, [], .g nm nm sz 0 0⟩) :: sl, (nm, .lst nm sz 0 (fun _ => []) ty) :: H, nm + 1, rg, rd, ws⟩
      | _, _ => ⟨sl, H, nm, rg, rd, ws⟩
    | _ => ⟨sl, H, nm, rg, rd, ws⟩
  | .cell n i sz ty, ⟨sl, H, nm, rg, rd, ws⟩ => match look H n with
    | some (.lay cs t) => match cs[i]? with
      | some v => match emptyS v with
        | true => ⟨sl, (n, .lay (cs.set i (.g nm nm sz 0 0)) t) :: (nm, .lst nm sz 0 (fun _ => []) ty) :: H, nm + 1, rg, rd, ws⟩
        | false => ⟨sl, H, nm, rg, rd, ws⟩
      | none => ⟨sl, H, nm, rg, rd, ws⟩
    | _ => ⟨sl, H, nm, rg, rd, ws⟩
  | .slot2 t sz ty, ⟨sl, H, nm, rg, rd, ws⟩ => match look sl t with
    | some ⟨r, k, [], v⟩ => match emptyS v, Nat.ble r rg with
      | true, true => ⟨(t, ⟨r, k, [], .g nm (nm + 1) sz 0 0⟩) :: sl, (nm, .lst (nm + 1) sz 0 (fun _ => []) ty) :: H, nm + 2, rg, rd, ws⟩
      | _, _ => ⟨sl, H, nm, rg, rd, ws⟩
    | _ => ⟨sl, H, nm, rg, rd, ws⟩
  | .cell2 n i sz ty, ⟨sl, H, nm, rg, rd, ws⟩ => match look H n with
    | some (.lay cs t) => match cs[i]? with
      | some v => match emptyS v with
        | true => ⟨sl, (n, .lay (cs.set i (.g nm (nm + 1) sz 0 0)) t) :: (nm, .lst (nm + 1) sz 0 (fun _ => []) ty) :: H, nm + 2, rg, rd, ws⟩
        | false => ⟨sl, H, nm, rg, rd, ws⟩
      | none => ⟨sl, H, nm, rg, rd, ws⟩
    | _ => ⟨sl, H, nm, rg, rd, ws⟩
  | .slotN t sz p szk tk ty, ⟨sl, H, nm, rg, rd, ws⟩ => match look sl t with
    | some ⟨r, k, [], v⟩ => match emptyS v, Nat.ble r rg with
      | true, true => ⟨(t, ⟨r, k, [], .g nm (nm + 1) sz 0 0⟩) :: sl, (nm, .nst (nm + 1) sz 0 (fun _ => []) p szk (fun _ => (0, fun _ => [])) tk ty none) :: H, nm + 2, rg, rd, ws⟩
      | _, _ => ⟨sl, H, nm, rg, rd, ws⟩
    | _ => ⟨sl, H, nm, rg, rd, ws⟩
  | .cellN n i sz p szk tk ty, ⟨sl, H, nm, rg, rd, ws⟩ => match look H n with
    | some (.lay cs t) => match cs[i]? with
      | some v => match emptyS v with
        | true => ⟨sl, (n, .lay (cs.set i (.g nm (nm + 1) sz 0 0)) t) :: (nm, .nst (nm + 1) sz 0 (fun _ => []) p szk (fun _ => (0, fun _ => [])) tk ty none) :: H, nm + 2, rg, rd, ws⟩
        | false => ⟨sl, H, nm, rg, rd, ws⟩
      | none => ⟨sl, H, nm, rg, rd, ws⟩
    | _ => ⟨sl, H, nm, rg, rd, ws⟩
  | .absorb M, ⟨sl, H, nm, rg, rd, ws⟩ => match absorbD nm0 M H with
    | some (m1, sb) => ⟨dropSl m1 sl, (M, sb) :: (m1, .gone) :: dropH m1 H, nm, rg, rd, ws⟩
    | none => ⟨sl, H, nm, rg, rd, ws⟩
def trs (nm0 : Nat) : List Tr → St → St
  | [], st => st
  | t :: r, st => trs nm0 r (tr1 nm0 t st)
/-- The state st is one of those that st' describes. -/
def LeSt (nm0 : Nat) (σ : List (Nat × Nat)) (st' st : St) : Prop := match coverB nm0 σ st' with | true => conjO (bothO (vqSl st'.nm σ st st'.sl) (vqH st'.nm σ st st'.H)) | false => False

/-- Where ways meet; what a loop keeps. -/
structure Cut where
  α : Type
  P : α → Prop
  J : α → St
  μ : α → Nat
/-- A cut is reached. -/
def Cut.at_ (c : Cut) (nm0 : Nat) (st : St) (Q : c.α → Prop) : Prop := ∃ (a : c.α) (σ : List (Nat × Nat)) (t : List Tr), Q a ∧ c.P a ∧ LeSt nm0 σ (c.J a) (trs nm0 t st)
def headId : Code → Option Nat
  | .region id _ _ => some id
  | .seq x _ => headId x
  | .block _ x => headId x
  | .loop x => headId x
  | _ => none
def cutAt (cuts : List Nat) (c : Code) : Bool := match headId c with | none => false | some id => memN id cuts
def thenK (K : Ex → St → Prop) (M : St → Prop) : Ex → St → Prop
  | .normal, st => M st
  | .exit i, st => K (.exit i) st
  | .ret, st => K .ret st
/-- A loop taken apart, round by round. -/
def unr (f : St → (Ex → St → Prop) → Prop) : Nat → St → (Ex → St → Prop) → Prop
  | 0, _, _ => False
  | n + 1, st, K => f st (thenK K fun st' => unr f n st' K)
/-- How code is walked: which drawn regions are taken whole; where ways meet; what loops keep; how many rounds are taken apart. -/
structure How where
  fl : List Nat
  cuts : List Nat
  invs : List Nat
  fu : Nat
def ev {PP : Program} {C : Cx PP} (Γ : List (Con C)) (nt nm0 : Nat) (I : Inl) (inls : List Nat) (h : How) : Code → St → (Ex → St → Prop) → Prop
  | .skip, st, K => K .normal st
  | .region id ops draw, st, K => match memN (5000 + id) h.fl with | true => False | false => evRegion Γ nt I inls (hmode h.fl id) (memN (1000 + id) h.fl) ops draw st (K .normal)
  | .seq x y, st, K => match cutAt h.cuts y with
    | false => ev Γ nt nm0 I inls h x st (thenK K fun st' => ev Γ nt nm0 I inls h y st' K)
    | true => ∃ c : Cut, ev Γ nt nm0 I inls h x st (thenK K fun st' => c.at_ nm0 st' fun _ => True) ∧ ∀ a, c.P a → ev Γ nt nm0 I inls h y (c.J a) K
  | .cond c x y, st, K => match opOut st.sl c with
    | some (.bl true) => match cutAt h.cuts x with
      | false => ev Γ nt nm0 I inls h x st K
      | true => ∃ c : Cut, c.at_ nm0 st (fun _ => True) ∧ ∀ a, c.P a → ev Γ nt nm0 I inls h x (c.J a) K
    | some (.bl false) => ev Γ nt nm0 I inls h y st K
    | some (.v (.bool b)) => match cutAt h.cuts x with
      | false => (b = true → ev Γ nt nm0 I inls h x st K) ∧ (b = false → ev Γ nt nm0 I inls h y st K)
      | true => (b = true → ∃ c : Cut, c.at_ nm0 st (fun _ => True) ∧ ∀ a, c.P a → ev Γ nt nm0 I inls h x (c.J a) K) ∧ (b = false → ev Γ nt nm0 I inls h y st K)
    | _ => False
  | .block id x, st, K => ev Γ nt nm0 I inls h x st fun e st' => match e with
    | .normal => K .normal st'
    | .exit i => match Nat.beq i id with | true => K .normal st' | false => K (.exit i) st'
    | .ret => K .ret st'
  | .loop x, st, K => match cutAt h.invs x with
    | false => unr (fun st K => ev Γ nt nm0 I inls h x st K) h.fu st K
    | true => ∃ c : Cut, c.at_ nm0 st (fun _ => True) ∧ ∀ a, c.P a → ev Γ nt nm0 I inls h x (c.J a) (thenK K fun st' => c.at_ nm0 st' fun b => c.μ b < c.μ a)
  | .exit id, st, K => K (.exit id) st
  | .ret, st, K => K .ret st
  | _, _, _ => False

/-- The drawn regions of a code have their form. -/
def codeB (fl : List Nat) : Code → Bool
  | .region id ops draw => match memN (5000 + id) fl with | true => true | false => regionB (hmode fl id) ops draw && ops.toList.all noDefer
  | .seq x y => codeB fl x && codeB fl y
  | .cond _ x y => codeB fl x && codeB fl y
  | .block _ x => codeB fl x
  | .loop x => codeB fl x
  | _ => true

/-! ### Soundness of covers -/
theorem eqO_some {b : Bool} {l m : List Prop} (h : eqO b l = some m) : b = true ∧ m = l := by
  unfold eqO at h
  split at h
  · exact ⟨rfl, (Option.some.inj h).symm⟩
  · cases h
theorem bothO_some {a b : Option (List Prop)} {l : List Prop} (h : bothO a b = some l) : ∃ p q, a = some p ∧ b = some q ∧ l = p ++ q := by
  unfold bothO at h
  split at h
  · exact ⟨_, _, rfl, rfl, (Option.some.inj h).symm⟩
  · cases h
theorem nameB_ok {nm : Nat} {σ : List (Nat × Nat)} {n' n : Nat} (h : nameB nm σ n' n = true) : n' < nm ∧ ren σ n' = n := by
  unfold nameB at h
  split at h
  · rename_i hb
    rw [Nat.blt_eq] at hb
    exact ⟨hb, Nat.eq_of_beq_eq_true h⟩
  · cases h
theorem invN_some {σ : List (Nat × Nat)} {o m : Nat} : ∀ {k : Nat}, invN σ o k = some m → m < k ∧ ren σ m = o
  | 0, h => by cases h
  | k + 1, h => by
    simp only [invN] at h
    split at h
    · rename_i hb
      obtain rfl := Option.some.inj h
      exact ⟨Nat.lt_succ_self _, Nat.eq_of_beq_eq_true hb⟩
    · have := invN_some h
      exact ⟨by omega, this.2⟩
theorem invN_ex {σ : List (Nat × Nat)} {m : Nat} : ∀ {k : Nat}, m < k → ∃ m', invN σ (ren σ m) k = some m'
  | 0, h => by omega
  | k + 1, h => by
    simp only [invN]
    split
    · exact ⟨k, rfl⟩
    · rename_i hb
      have : m ≠ k := by rintro rfl; rw [Nat.beq_refl] at hb; cases hb
      exact invN_ex (by omega)
def InjS (nm : Nat) (σ : List (Nat × Nat)) : Prop := ∀ i j, i < nm → j < nm → ren σ i = ren σ j → i = j
theorem cutN_n {nm n b : Nat} {σ : List (Nat × Nat)} {ρ : Names} (hn : n < nm) (h : ρ.n (ren σ n) = some b) : (cutN nm σ ρ).n n = some b := by
  have hb : Nat.blt n nm = true := by rw [Nat.blt_eq]; exact hn
  simp only [cutN, hb, h]
theorem cutN_n_some {nm n b : Nat} {σ : List (Nat × Nat)} {ρ : Names} (h : (cutN nm σ ρ).n n = some b) : n < nm ∧ ρ.n (ren σ n) = some b := by
  simp only [cutN] at h
  split at h
  · rename_i hb
    rw [Nat.blt_eq] at hb
    exact ⟨hb, h⟩
  · cases h
theorem cutN_v {nm e m : Nat} {l : LV} {σ : List (Nat × Nat)} {ρ : Names} (hi : InjS nm σ) (he : e < nm) (hm : m < nm) (h : ρ.v (ren σ e) = some l) (ho : l.o = ren σ m) : (cutN nm σ ρ).v e = some ⟨m, l.a, l.cap, l.N⟩ := by
  have hb : Nat.blt e nm = true := by rw [Nat.blt_eq]; exact he
  obtain ⟨m', hm'⟩ := invN_ex (σ := σ) hm
  have hmm : m' = m := by
    obtain ⟨h1, h2⟩ := invN_some hm'
    exact hi m' m h1 hm h2
  subst hmm
  simp only [cutN, hb, h, ho, hm']
theorem cutN_v_some {nm e : Nat} {l : LV} {σ : List (Nat × Nat)} {ρ : Names} (h : (cutN nm σ ρ).v e = some l) : e < nm ∧ l.o < nm ∧ ∃ l0, ρ.v (ren σ e) = some l0 ∧ l0.o = ren σ l.o ∧ l.a = l0.a ∧ l.cap = l0.cap ∧ l.N = l0.N := by
  simp only [cutN] at h
  split at h
  · rename_i hb
    rw [Nat.blt_eq] at hb
    split at h
    · rename_i l0 hl
      split at h
      · rename_i o ho
        obtain rfl := Option.some.inj h
        obtain ⟨h1, h2⟩ := invN_some ho
        exact ⟨hb, h1, l0, hl, h2.symm, rfl, rfl, rfl⟩
      · cases h
    · cases h
  · cases h
theorem cutN_k {nm m i : Nat} {l : LV} {σ : List (Nat × Nat)} {ρ : Names} (hn : m < nm) (h : ρ.k (ren σ m) i = some l) : (cutN nm σ ρ).k m i = some l := by
  have hb : Nat.blt m nm = true := by rw [Nat.blt_eq]; exact hn
  simp only [cutN, hb, h]
theorem cutN_k_some {nm m i : Nat} {l : LV} {σ : List (Nat × Nat)} {ρ : Names} (h : (cutN nm σ ρ).k m i = some l) : m < nm ∧ ρ.k (ren σ m) i = some l := by
  simp only [cutN] at h
  split at h
  · rename_i hb
    rw [Nat.blt_eq] at hb
    exact ⟨hb, h⟩
  · cases h
theorem cutN_owns {nm n b : Nat} {σ : List (Nat × Nat)} {ρ : Names} (h : Owns (cutN nm σ ρ) n b) : n < nm ∧ Owns ρ (ren σ n) b := by
  rcases h with h | ⟨e, l, o, h1, h2, h3, h4⟩ | ⟨i, l, o, h1, h3, h4⟩
  · obtain ⟨k1, k2⟩ := cutN_n_some h
    exact ⟨k1, .inl k2⟩
  · obtain ⟨k1, k2, l0, k3, k4, k5, k6, k7⟩ := cutN_v_some h1
    subst h2
    exact ⟨k2, .inr (.inl ⟨_, l0, o, k3, k4, by rw [← k6]; exact h3, by rw [← k5]; exact h4⟩)⟩
  · obtain ⟨k1, k2⟩ := cutN_k_some h1
    exact ⟨k1, .inr (.inr ⟨i, l, o, k2, h3, h4⟩)⟩
theorem cutN_zo (nm : Nat) (σ : List (Nat × Nat)) (ρ : Names) : (cutN nm σ ρ.zo).le (cutN nm σ ρ).zo :=
  ⟨fun n b h => (by obtain ⟨-, h⟩ := cutN_n_some h; cases h), fun n b h => (by obtain ⟨-, -, l, h, -⟩ := cutN_v_some h; cases h), fun n i b h => (by obtain ⟨-, h⟩ := cutN_k_some h; cases h), fun _ _ _ h => h⟩
theorem vqI_ok {k : IntKind} {a : Int} {x : SV} {l : List Prop} {ρ : Names} {y : Value} (h : vqI k a x = some l) (hc : conj l) (hd : den ρ x y) : y = .int k a := by
  unfold vqI at h
  split at h
  · cases h
  · rename_i k' b hx
    obtain ⟨hk, rfl⟩ := eqO_some h
    have hc : a = b := hc
    rw [SV.int?_den hx hd, hc, sameK_eq hk]
theorem vqB_ok {a : Bool} {x : SV} {l : List Prop} {ρ : Names} {y : Value} (h : vqB a x = some l) (hc : conj l) (hd : den ρ x y) : y = .bool a := by
  unfold vqB at h
  split at h
  · cases h
  · rename_i b hx
    obtain rfl := Option.some.inj h
    have hc : a = b := hc
    rw [SV.bool?_den hx hd, hc]
theorem vqV_ok {z : Value} {x : SV} {l : List Prop} {ρ : Names} {y : Value} (h : vqV z x = some l) (hc : conj l) (hd : den ρ x y) : y = z := by
  unfold vqV at h
  split at h
  · obtain rfl := Option.some.inj h
    have hc : z = _ := hc
    rw [hc]; exact hd
  · cases h
mutual
theorem vq_ok {nm : Nat} {σ : List (Nat × Nat)} (hi : InjS nm σ) : ∀ (v' v : SV) (l : List Prop), vq nm σ v' v = some l → conj l → ∀ (ρ : Names) (y : Value), den ρ v y → den (cutN nm σ ρ) v' y
  | .v z, x, l, h, hc, ρ, y, hd => by
    cases z
    case int k b => exact vqI_ok h hc hd
    case bool b => exact vqB_ok h hc hd
    all_goals exact vqV_ok h hc hd
  | .il k b, x, l, h, hc, ρ, y, hd => vqI_ok h hc hd
  | .bl b, x, l, h, hc, ρ, y, hd => vqB_ok h hc hd
  | .p n off, x, l, h, hc, ρ, y, hd => by
    simp only [vq] at h
    split at h
    · split at h
      · rename_i hn
        obtain ⟨ho, -⟩ := eqO_some h
        have ho := Nat.eq_of_beq_eq_true ho
        obtain ⟨h1, rfl⟩ := nameB_ok hn
        obtain ⟨b, e1, e2⟩ := hd
        exact ⟨b, cutN_n h1 e1, by rw [ho]; exact e2⟩
      · cases h
    · cases h
  | .s n sz off len cap, x, l, h, hc, ρ, y, hd => by
    simp only [vq] at h
    split at h
    · split at h
      · rename_i hn b1 b2 b3
        obtain ⟨b4, -⟩ := eqO_some h
        have b2 := Nat.eq_of_beq_eq_true b2
        have b3 := Nat.eq_of_beq_eq_true b3
        have b4 := Nat.eq_of_beq_eq_true b4
        obtain ⟨h1, rfl⟩ := nameB_ok hn
        obtain ⟨b, e1, e2⟩ := hd
        exact ⟨b, cutN_n h1 e1, by rw [b2, b3, b4]; exact e2⟩
      · cases h
    · cases h
  | .f fn p q, x, l, h, hc, ρ, y, hd => by
    simp only [vq] at h
    split at h
    · obtain ⟨l1, l2, h1, h2, rfl⟩ := bothO_some h
      obtain ⟨l3, l4, h3, h4, rfl⟩ := bothO_some h2
      obtain rfl := Option.some.inj h1
      obtain ⟨c1, c2⟩ := conj_append hc
      obtain ⟨c3, c4⟩ := conj_append c2
      obtain ⟨u, w, e1, e2, e3⟩ := hd
      have c1 : fn = _ := c1
      exact ⟨u, w, vqL_ok hi p _ l3 h3 c3 ρ u e1, vqL_ok hi q _ l4 h4 c4 ρ w e2, by rw [c1]; exact e3⟩
    · cases h
  | .agg m, x, l, h, hc, ρ, y, hd => by
    simp only [vq] at h
    split at h
    · obtain ⟨u, e1, e2⟩ := hd
      exact ⟨u, vqL_ok hi m _ l h hc ρ u e1, e2⟩
    · cases h
  | .tup m, x, l, h, hc, ρ, y, hd => by
    simp only [vq] at h
    split at h
    · obtain ⟨u, e1, e2⟩ := hd
      exact ⟨u, vqL_ok hi m _ l h hc ρ u e1, e2⟩
    · cases h
  | .e, x, l, h, hc, ρ, y, hd => by
    simp only [vq] at h
    split at h
    · exact hd
    · obtain rfl : y = _ := hd
      exact ⟨_, rfl⟩
    · cases h
  | .rs sz n f, x, l, h, hc, ρ, y, hd => by
    simp only [vq] at h
    split at h
    · obtain ⟨hb, rfl⟩ := eqO_some h
      have hb := Nat.eq_of_beq_eq_true hb
      obtain ⟨c1, c2⟩ := conj_cons hc
      subst c1 hb
      obtain ⟨a, cap, e1, e2, e3⟩ := hd
      refine ⟨a, cap, e1, e2, fun i hi' => ?_⟩
      obtain ⟨b, o, u, k1, k2, k3⟩ := e3 i hi'
      have hci := (show ∀ i, i < n → _ from c2) i hi'
      refine ⟨b, o, u, k1, ?_, k3⟩
      generalize hq : vqL nm σ (f i) _ = q at hci
      cases q with
      | none => exact hci.elim
      | some q => exact denL_le (cutN_zo nm σ ρ) _ _ (vqL_ok hi (f i) _ q hq hci ρ.zo u k2)
    · obtain rfl := Option.some.inj h
      have hc : n = 0 := hc
      subst hc
      obtain ⟨a, rfl⟩ := hd
      exact ⟨a, 0, rfl, Nat.le_refl _, fun i hi' => absurd hi' (by omega)⟩
    · obtain rfl := Option.some.inj h
      have hc : n = 0 := hc
      subst hc
      obtain rfl : y = _ := hd
      exact ⟨none, 0, rfl, Nat.le_refl _, fun i hi' => absurd hi' (by omega)⟩
    · cases h
  | .rp m off, x, l, h, hc, ρ, y, hd => by
    simp only [vq] at h
    split at h
    · obtain ⟨l1, l2, h1, h2, rfl⟩ := bothO_some h
      obtain rfl := Option.some.inj h1
      obtain ⟨c1, c2⟩ := conj_append hc
      have c1 : off = _ := c1
      obtain ⟨b, o, u, e1, e2, e3⟩ := hd
      exact ⟨b, o, u, by rw [c1]; exact e1, denL_le (cutN_zo nm σ ρ) _ _ (vqL_ok hi m _ l2 h2 c2 ρ.zo u e2), e3⟩
    · cases h
  | .g m e sz off n, x, l, h, hc, ρ, y, hd => by
    simp only [vq] at h
    split at h
    · split at h
      · rename_i hm he
        obtain ⟨hb, rfl⟩ := eqO_some h
        have hb := Nat.eq_of_beq_eq_true hb
        obtain ⟨c1, c2⟩ := conj_cons hc
        have c2 : n = _ := c2
        subst c1 c2 hb
        obtain ⟨m1, rfl⟩ := nameB_ok hm
        obtain ⟨m2, rfl⟩ := nameB_ok he
        obtain ⟨lv, e1, e2, e3, e4, e5⟩ := hd
        exact ⟨_, cutN_v hi m2 m1 e1 e2, rfl, e3, e4, e5⟩
      · cases h
    · cases h
  | .gp m e sz i off, x, l, h, hc, ρ, y, hd => by
    simp only [vq] at h
    split at h
    · split at h
      · rename_i hm he
        obtain ⟨hb, rfl⟩ := eqO_some h
        have hb := Nat.eq_of_beq_eq_true hb
        obtain ⟨c1, c2⟩ := conj_cons hc
        have c2 : off = _ := c2
        subst c1 c2 hb
        obtain ⟨m1, rfl⟩ := nameB_ok hm
        obtain ⟨m2, rfl⟩ := nameB_ok he
        obtain ⟨lv, b, e1, e2, e3, e4, e5, e6⟩ := hd
        exact ⟨_, b, cutN_v hi m2 m1 e1 e2, rfl, e3, e4, e5, e6⟩
      · cases h
    · cases h
  | .m n, x, l, h, hc, ρ, y, hd => by
    simp only [vq] at h
    split at h
    · split at h
      · rename_i hm
        obtain ⟨m1, rfl⟩ := nameB_ok hm
        obtain ⟨b, e1, e2⟩ := hd
        exact ⟨b, cutN_n m1 e1, e2⟩
      · cases h
    · cases h
  | .kd m i sz off n, x, l, h, hc, ρ, y, hd => by
    simp only [vq] at h
    split at h
    · split at h
      · rename_i hm
        obtain ⟨hb, rfl⟩ := eqO_some h
        have hb := Nat.eq_of_beq_eq_true hb
        obtain ⟨c1, c2⟩ := conj_cons hc
        obtain ⟨c2, c3⟩ := conj_cons c2
        have c3 : n = _ := c3
        subst c1 c2 c3 hb
        obtain ⟨m1, rfl⟩ := nameB_ok hm
        obtain ⟨lv, e1, e2⟩ := hd
        exact ⟨lv, cutN_k m1 e1, e2⟩
      · cases h
    · cases h
  | .kq m i sz j off, x, l, h, hc, ρ, y, hd => by
    simp only [vq] at h
    split at h
    · split at h
      · rename_i hm
        obtain ⟨hb, rfl⟩ := eqO_some h
        have hb := Nat.eq_of_beq_eq_true hb
        obtain ⟨c1, c2⟩ := conj_cons hc
        obtain ⟨c2, c3⟩ := conj_cons c2
        have c3 : off = _ := c3
        subst c1 c2 c3 hb
        obtain ⟨m1, rfl⟩ := nameB_ok hm
        obtain ⟨lv, b, e1, e2⟩ := hd
        exact ⟨lv, b, cutN_k m1 e1, e2⟩
      · cases h
    · cases h
theorem vqL_ok {nm : Nat} {σ : List (Nat × Nat)} (hi : InjS nm σ) : ∀ (v' v : List SV) (l : List Prop), vqL nm σ v' v = some l → conj l → ∀ (ρ : Names) (y : List Value), denL ρ v y → denL (cutN nm σ ρ) v' y
  | [], x, l, h, hc, ρ, y, hd => by
    cases x with
    | nil => exact hd
    | cons _ _ => cases h
  | v' :: r, x, l, h, hc, ρ, y, hd => by
    cases x with
    | nil => cases h
    | cons x s =>
      obtain ⟨l1, l2, h1, h2, rfl⟩ := bothO_some h
      obtain ⟨c1, c2⟩ := conj_append hc
      obtain ⟨a, b, e1, e2, e3⟩ := hd
      exact ⟨a, b, e1, vq_ok hi v' x l1 h1 c1 ρ a e2, vqL_ok hi r s l2 h2 c2 ρ b e3⟩
end
theorem vqSl_ok {nm : Nat} {σ : List (Nat × Nat)} {st : St} : ∀ {l : List (Nat × Slot)} {p : List Prop}, vqSl nm σ st l = some p → conj p → ∀ t s', look l t = some s' → ∃ s q, look st.sl t = some s ∧ s.g = [] ∧ vq nm σ s'.v s.v = some q ∧ conj q
  | [], _, _, _, t, s', h => by cases h
  | (u, x) :: r, p, h, hc, t, s', hs => by
    simp only [vqSl] at h
    split at h
    · cases h
    · rename_i s hl
      split at h
      · rename_i hg _
        obtain ⟨l1, l2, h1, h2, rfl⟩ := bothO_some h
        obtain ⟨c1, c2⟩ := conj_append hc
        by_cases e : u = t
        · subst e
          rw [look_cons_eq] at hs
          obtain rfl := Option.some.inj hs
          exact ⟨s, l1, hl, hg, h1, c1⟩
        · rw [look_cons_ne _ _ e] at hs
          exact vqSl_ok h2 c2 t s' hs
      · cases h
theorem vqH_ok {nm : Nat} {σ : List (Nat × Nat)} {st : St} : ∀ {l : Heap} {p : List Prop}, vqH nm σ st l = some p → conj p → ∀ n sb', look l n = some sb' → n < nm ∧ ∃ sb q, look st.H (ren σ n) = some sb ∧ vqSB nm σ n sb' sb = some q ∧ conj q
  | [], _, _, _, t, s', h => by cases h
  | (u, x) :: r, p, h, hc, t, s', hs => by
    simp only [vqH] at h
    split at h
    · rename_i sb hl hb
      rw [Nat.blt_eq] at hb
      obtain ⟨l1, l2, h1, h2, rfl⟩ := bothO_some h
      obtain ⟨c1, c2⟩ := conj_append hc
      by_cases e : u = t
      · subst e
        rw [look_cons_eq] at hs
        obtain rfl := Option.some.inj hs
        exact ⟨hb, sb, l1, hl, h1, c1⟩
      · rw [look_cons_ne _ _ e] at hs
        exact vqH_ok h2 c2 t s' hs
    · cases h
theorem vqL_set {nm : Nat} {σ : List (Nat × Nat)} (hi : InjS nm σ) {ρ : Names} {z : Value} : ∀ {a b : List SV} {p : Nat} {q : List Prop} {us : List Value}, vqL nm σ (a.set p .e) (b.set p .e) = some q → conj q → denL ρ (b.set p (.v z)) us → denL (cutN nm σ ρ) (a.set p (.v z)) us
  | [], b, p, q, us, h, hc, hd => by
    cases b with
    | nil => exact hd
    | cons y s => cases p <;> cases h
  | x :: r, b, p, q, us, h, hc, hd => by
    cases b with
    | nil => cases p <;> cases h
    | cons y s =>
      cases p with
      | zero =>
        obtain ⟨l1, l2, h1, h2, rfl⟩ := bothO_some h
        obtain ⟨c1, c2⟩ := conj_append hc
        obtain ⟨a, b, e1, e2, e3⟩ := hd
        exact ⟨a, b, e1, e2, vqL_ok hi r s l2 h2 c2 ρ b e3⟩
      | succ p =>
        obtain ⟨l1, l2, h1, h2, rfl⟩ := bothO_some h
        obtain ⟨c1, c2⟩ := conj_append hc
        obtain ⟨a, b, e1, e2, e3⟩ := hd
        exact ⟨a, b, e1, vq_ok hi x y l1 h1 c1 ρ a e2, vqL_set hi h2 c2 e3⟩
theorem vqN_ok {nm n : Nat} {σ : List (Nat × Nat)} (hi : InjS nm σ) (hn : n < nm) {e sz N N' p szk : Nat} {h h' : Nat → List SV} {g g' : Nat → Nat × (Nat → List SV)} {tk t : TypeId} (he : e < nm) {ρ : Names} {W : World} (c1 : N = N') (c2 : ∀ i, i < N' → conjO (vqL nm σ ((h i).set p .e) ((h' i).set p .e)))
    (c3 : ∀ i, i < N' → (g i).1 = (g' i).1) (c4 : ∀ i, i < N' → ∀ j, j < (g' i).1 → conjO (vqL nm σ ((g i).2 j) ((g' i).2 j))) (hd : Cont ρ W (ren σ n) (.nst (ren σ e) sz N' h' p szk g' tk t none)) : Cont (cutN nm σ ρ) W n (.nst e sz N h p szk g tk t none) := by
  subst c1
  obtain ⟨l, K⟩ := hd
  refine ⟨_, cutN_v hi he hn K.hv K.ho, rfl, K.hN, K.hle, fun hcap => ?_, fun i hi' => ?_, fun i hi' => ?_, fun i j q r b h1 h2 => K.ne i j q r b (cutN_k_some h1).2 (cutN_k_some h2).2⟩
  · obtain ⟨b, u, k1, k2, k3, k4, k5, k6, -, k8⟩ := K.row hcap
    refine ⟨b, u, k1, k2, k3, k4, k5, fun i hi' => ?_, (fun cs hcs => by cases hcs), fun i q b' h1 => k8 i q b' (cutN_k_some h1).2⟩
    obtain ⟨q, us, q1, q2, q3⟩ := k6 i hi'
    refine ⟨q, us, cutN_k hn q1, ?_, q3⟩
    have hci := c2 i hi'
    generalize hq : vqL nm σ _ _ = x at hci
    cases x with
    | none => exact hci.elim
    | some x => exact denL_le (cutN_zo nm σ ρ) _ _ (vqL_set hi hq hci q2)
  · obtain ⟨q, q1, q2, q3⟩ := K.kid i hi'
    refine ⟨q, cutN_k hn q1, by rw [c3 i hi']; exact q2, q3.1, fun hc => ?_⟩
    obtain ⟨b, u, k1, k2, k3, k4, k5, k6⟩ := q3.2 hc
    refine ⟨b, u, k1, k2, k3, k4, k5, fun j hj => ?_⟩
    obtain ⟨us, p1, p2⟩ := k6 j hj
    refine ⟨us, ?_, p2⟩
    have hci := c4 i hi' j (by omega)
    generalize hq : vqL nm σ _ _ = x at hci
    cases x with
    | none => exact hci.elim
    | some x => exact denL_le (cutN_zo nm σ ρ) _ _ (vqL_ok hi _ _ x hq hci ρ.zo us p1)
  · cases hk : (cutN nm σ ρ).k n i with
    | none => rfl
    | some l =>
      have := (cutN_k_some hk).2
      rw [K.no i hi'] at this
      cases this
theorem vqSB_ok {nm n : Nat} {σ : List (Nat × Nat)} (hi : InjS nm σ) (hn : n < nm) {sb' sb : SB} {q : List Prop} (h : vqSB nm σ n sb' sb = some q) (hc : conj q) {ρ : Names} {W : World} (hd : Cont ρ W (ren σ n) sb) : Cont (cutN nm σ ρ) W n sb' := by
  cases sb' with
  | gone => trivial
  | alt => simp only [vqSB] at h; cases h
  | mp k ag has g =>
    simp only [vqSB] at h
    split at h
    · split at h
      · rename_i hk ha
        obtain rfl := Option.some.inj h
        obtain rfl := sameK_eq hk
        obtain rfl := sameAg_eq ha
        obtain ⟨c1, c2⟩ := conj_cons hc
        obtain rfl : has = _ := funext c1
        obtain ⟨b, es, cl, h1, h2, h3, h4⟩ := hd
        refine ⟨b, es, cl, cutN_n hn h1, h2, h3, fun x hx => ?_, h4.yes⟩
        obtain ⟨m, q1, q2, u, q3, q4⟩ := h4.keys x hx
        have hci := (show ∀ j, has j = true → _ from c2) m q2
        refine ⟨m, q1, q2, u, ?_, q4⟩
        generalize hq : vqL nm σ (g m) _ = q at hci
        cases q with
        | none => exact hci.elim
        | some q => exact denL_le (cutN_zo nm σ ρ) _ _ (vqL_ok hi (g m) _ q hq hci ρ.zo u q3)
      · cases h
    · cases h
  | lay cs t =>
    simp only [vqSB] at h
    split at h
    · split at h
      · rename_i hb
        have hb := Nat.eq_of_beq_eq_true hb
        subst hb
        obtain ⟨b, vs, h1, h2, h3, h4, h5⟩ := hd
        exact ⟨b, vs, cutN_n hn h1, vqL_ok hi cs _ q h hc ρ vs h2, h3, h4, h5⟩
      · cases h
    · cases h
  | lst e sz N f t =>
    simp only [vqSB] at h
    split at h
    · split at h
      · rename_i he hs
        obtain ⟨hb, rfl⟩ := eqO_some h
        have hb := Nat.eq_of_beq_eq_true hb
        have hs := Nat.eq_of_beq_eq_true hs
        obtain ⟨c1, c2⟩ := conj_cons hc
        subst hb hs c1
        obtain ⟨m2, rfl⟩ := nameB_ok he
        obtain ⟨l, h1, h2, h3, h4, h5⟩ := hd
        refine ⟨_, cutN_v hi m2 hn h1 h2, rfl, h3, h4, fun hcap => ?_⟩
        obtain ⟨b, u, k1, k2, k3, k4, k5, k6⟩ := h5 hcap
        refine ⟨b, u, k1, k2, k3, k4, k5, fun i hi' => ?_⟩
        obtain ⟨us, q1, q2⟩ := k6 i hi'
        have hci := (show ∀ i, i < N → _ from c2) i hi'
        refine ⟨us, ?_, q2⟩
        generalize hq : vqL nm σ (f i) _ = q at hci
        cases q with
        | none => exact hci.elim
        | some q => exact denL_le (cutN_zo nm σ ρ) _ _ (vqL_ok hi (f i) _ q hq hci ρ.zo us q1)
      · cases h
    · cases h
  | nst e sz N f p szk g tk t last =>
    simp only [vqSB] at h
    split at h
    · split at h
      · rename_i hl1 hl2 he hs hp hsk htk
        obtain ⟨hb, rfl⟩ := eqO_some h
        have hb := Nat.eq_of_beq_eq_true hb
        have hs := Nat.eq_of_beq_eq_true hs
        have hp := Nat.eq_of_beq_eq_true hp
        have hsk := Nat.eq_of_beq_eq_true hsk
        have htk := Nat.eq_of_beq_eq_true htk
        obtain ⟨c1, c2⟩ := conj_cons hc
        obtain ⟨c2, c3⟩ := conj_cons c2
        obtain ⟨c3, c4⟩ := conj_cons c3
        subst hb hs hp hsk htk
        obtain ⟨m2, rfl⟩ := nameB_ok he
        exact vqN_ok hi hn m2 c1 c2 c3 c4 hd
      · cases h
    · cases h
theorem freshB_ok {σ : List (Nat × Nat)} {m : Nat} : ∀ {k : Nat}, freshB σ m k = true → ∀ i, i < k → ren σ i ≠ ren σ m
  | 0, _, i, hi => by omega
  | k + 1, h, i, hi => by
    simp only [freshB] at h
    split at h
    · cases h
    · rename_i hb
      rcases Nat.eq_or_lt_of_le (Nat.le_of_lt_succ hi) with rfl | hi
      · intro e; rw [e, Nat.beq_refl] at hb; cases hb
      · exact freshB_ok h i hi
theorem injB_ok {σ : List (Nat × Nat)} : ∀ {k : Nat}, injB σ k = true → ∀ i j, i < k → j < k → ren σ i = ren σ j → i = j
  | 0, _, i, j, hi, _, _ => by omega
  | k + 1, h, i, j, hi, hj, e => by
    simp only [injB] at h
    split at h
    · rename_i hf
      rcases Nat.eq_or_lt_of_le (Nat.le_of_lt_succ hi) with rfl | hi
      · rcases Nat.eq_or_lt_of_le (Nat.le_of_lt_succ hj) with rfl | hj
        · rfl
        · exact absurd e.symm (freshB_ok hf j hj)
      · rcases Nat.eq_or_lt_of_le (Nat.le_of_lt_succ hj) with rfl | hj
        · exact absurd e (freshB_ok hf i hi)
        · exact injB_ok h i j hi hj e
    · cases h
theorem fixB_ok {σ : List (Nat × Nat)} : ∀ {k : Nat}, fixB σ k = true → ∀ i, i < k → ren σ i = i
  | 0, _, i, hi => by omega
  | k + 1, h, i, hi => by
    simp only [fixB] at h
    split at h
    · rename_i hb
      rcases Nat.eq_or_lt_of_le (Nat.le_of_lt_succ hi) with rfl | hi
      · exact Nat.eq_of_beq_eq_true hb
      · exact fixB_ok h i hi
    · cases h
theorem rgB_ok {rg : Nat} : ∀ {l : List (Nat × Slot)}, rgB rg l = true → ∀ t s, look l t = some s → s.rg ≤ rg
  | [], _, t, s, h => by cases h
  | (u, x) :: r, h, t, s, hs => by
    simp only [rgB] at h
    split at h
    · rename_i hb
      by_cases e : u = t
      · subst e
        rw [look_cons_eq] at hs
        obtain rfl := Option.some.inj hs
        exact Nat.le_of_ble_eq_true hb
      · rw [look_cons_ne _ _ e] at hs
        exact rgB_ok h t s hs
    · cases h

section
variable {PP : Program} {C : Cx PP} {Γ : List (Con C)} {nt : Nat} {w0 : World} {ρe : Names} {I : Inl} {inls : List Nat}

/-- What is claimed of code, in the states that are described. -/
def Sat {PP : Program} (C : Cx PP) (M : Mode) (nt : Nat) (w0 : World) (ρe : Names) (c : Code) (st : St) (K : Ex → St → Prop) : Prop :=
  ∀ ρ a W, Rp C nt w0 ρe st ρ a W → c.wpIn M.F 0 C.P (fun e a' W' => ∃ x st' ρ', e = Ex.to x ∧ K x st' ∧ Rp C nt w0 ρe st' ρ' a' W') a W
theorem sat_no {nt : Nat} {w0 : World} {ρe : Names} {K : Ex → St → Prop} : ¬ LetsOut (fun e a' W' => ∃ x st' ρ', e = Ex.to x ∧ K x st' ∧ Rp C nt w0 ρe st' ρ' a' W') := by
  rintro ⟨a, w, x, st', ρ', h, -⟩
  cases x <;> cases h

theorem opOut_ok {st : St} {ρ : Names} {a : Act} {W : World} (h : Rp C nt w0 ρe st ρ a W) {x : Operand} {v : SV} (e : opOut st.sl x = some v) : den ρ v (a.eval x) := by
  rw [opOut_def] at e
  split at e
  · obtain rfl := Option.some.inj e; exact constSV_den
  · obtain rfl := Option.some.inj e; rfl
  · obtain rfl := Option.some.inj e; rfl
  · split at e
    · cases e
    · rename_i s hs
      split at e
      · rename_i hg
        obtain rfl := Option.some.inj e
        obtain ⟨y, h1, h2⟩ := h.slots _ s hs hg
        rw [eval_some h2]; exact h1
      · cases e

/-- What is shown of a description holds of what it covers. -/
theorem LeSt.rp {nm0 : Nat} {σ : List (Nat × Nat)} {st st' : St} {ρ : Names} {a : Act} {W : World} (hdom : ∀ n b, ρe.n n = some b → n < nm0) (hdomv : ∀ e l, ρe.v e = some l → e < nm0 ∧ l.o < nm0) (hdomk : ∀ m i l, ρe.k m i = some l → m < nm0) (h : LeSt nm0 σ st' st) (hr : Rp C nt w0 ρe st ρ a W) : Rp C nt w0 ρe st' (cutN st'.nm σ ρ) a W := by
  unfold LeSt at h
  split at h
  rotate_left
  · exact h.elim
  rename_i h1
  generalize hq : bothO _ _ = q at h
  cases q with
  | none => exact h.elim
  | some q =>
  obtain ⟨l1, l2, h2, h3, rfl⟩ := bothO_some hq
  obtain ⟨d1, d2⟩ := conj_append h
  unfold coverB at h1
  split at h1
  · rename_i c1 c2 c3 c4
    have c1 := Nat.le_of_ble_eq_true c1
    have c2 : InjS st'.nm σ := injB_ok c2
    have c3 := fixB_ok c3
    have c4 := rgB_ok c4
    have hm := hr.base.mem
    refine ⟨⟨⟨⟨fun n n' b k1 k2 => ?_, fun n b k => hm.hb.low _ b (cutN_owns k).2, hm.hb.zok, hm.hb.grd⟩, fun n b k => (cutN_n_some k).1, fun e l k => ⟨(cutN_v_some k).1, (cutN_v_some k).2.1⟩, fun m i l k => (cutN_k_some k).1, ⟨fun n b k => ?_, fun e l k => ?_, fun m i l k => ?_, hm.le.z⟩, fun n b k => ?_, hm.zold, hm.keep⟩, fun n sb hn => ?_, hr.base.sz, hr.base.df⟩, c4, fun t s hs hg => ?_⟩
    · obtain ⟨q1, q2⟩ := cutN_owns k1
      obtain ⟨q3, q4⟩ := cutN_owns k2
      exact c2 n n' q1 q3 (hm.hb.own _ _ b q2 q4)
    · have := hdom n b k
      exact cutN_n (by omega) (by rw [c3 n this]; exact hm.le.n n b k)
    · obtain ⟨q1, q2⟩ := hdomv e l k
      have := cutN_v (nm := st'.nm) (σ := σ) (ρ := ρ) (e := e) (m := l.o) (l := l) c2 (by omega) (by omega) (by rw [c3 e q1]; exact hm.le.v e l k) (by rw [c3 _ q2])
      exact this
    · have := hdomk m i l k
      exact cutN_k (by omega) (by rw [c3 m this]; exact hm.le.k m i l k)
    · exact hm.old _ b (cutN_owns k).2
    · obtain ⟨k1, sb2, q, k2, k3, k4⟩ := vqH_ok h3 d2 n sb hn
      exact vqSB_ok c2 k1 k3 k4 (hr.base.blk _ sb2 k2)
    · obtain ⟨s2, q, k1, k2, k3, k4⟩ := vqSl_ok h2 d1 t s hs
      obtain ⟨x, k5, k6⟩ := hr.slots t s2 k1 k2
      exact ⟨x, vq_ok c2 _ _ q k3 k4 ρ x k5, k6⟩
  · cases h1

theorem set_self {l : List Value} {i : Nat} {y : Value} (h : l[i]? = some y) : l.set i y = l := by
  apply List.ext_getElem?
  intro j
  by_cases e : i = j
  · subst e
    rw [List.getElem?_set_self (List.getElem?_eq_some_iff.1 h).1, h]
  · rw [List.getElem?_set_ne e]
theorem emptyS_ok {v : SV} {ρ : Names} {y : Value} (h : emptyS v = true) (hd : den ρ v y) : ∃ a, y = .slice a 0 0 := by
  unfold emptyS at h
  split at h
  · exact hd
  · exact ⟨_, hd⟩
  · cases h
theorem frzSl_look {m : Nat} {sb : SB} {t : Nat} : ∀ {l : List (Nat × Slot)}, look (frzSl m sb l) t = (look l t).map fun s => ⟨s.rg, s.k, s.g, frzS m sb s.v⟩
  | [] => rfl
  | (u, s) :: r => by
    by_cases he : u = t
    · subst he; simp only [frzSl, look_cons_eq]; rfl
    · simp only [frzSl, look_cons_ne _ _ he]; exact frzSl_look
theorem frzH_look {m : Nat} {sb : SB} {t : Nat} : ∀ {l : Heap}, look (frzH m sb l) t = (look l t).map fun s => frzSB m sb s
  | [] => rfl
  | (u, s) :: r => by
    by_cases he : u = t
    · subst he; simp only [frzH, look_cons_eq]; rfl
    · simp only [frzH, look_cons_ne _ _ he]; exact frzH_look
/-- All of a name's blocks, as they are. -/
def ownZ (ρ : Names) (W : World) (m : Nat) : Nat → Nat → Value → Prop := fun b i c => Owns ρ m b ∧ W.cell? ⟨b, i, none⟩ = some c ∧ c.oneCell' = true ∧ plainB W b
theorem cont_nst_addz {ρ : Names} {W : World} {n e sz N p szk : Nat} {h : Nat → List SV} {g : Nat → Nat × (Nat → List SV)} {tk t : TypeId} {last : Option (List SV)} {Z : Nat → Nat → Value → Prop} (hc : Cont ρ W n (.nst e sz N h p szk g tk t last)) (hz : ∀ b i c, Owns ρ n b → ¬ Z b i c) : Cont (ρ.addz Z) W n (.nst e sz N h p szk g tk t last) := by
  obtain ⟨l, K⟩ := hc
  refine ⟨l, K.hv, K.ho, K.hN, K.hle, fun hcap => ?_, fun i hi => ?_, K.no, K.ne⟩
  · obtain ⟨b, u, k1, k2, k3, k4, k5, k6, k7, k8⟩ := K.row hcap
    exact ⟨b, u, k1, k2, k3, k4, fun i c hz' => by
      rcases hz' with hz' | hz'
      · exact k5 i c hz'
      · exact hz b i c (.inr (.inl ⟨e, l, 0, K.hv, K.ho, hcap, k1⟩)) hz', fun i hi => let ⟨q, us, q1, q2, q3⟩ := k6 i hi; ⟨q, us, q1, denL_le (Names.le.zo Names.le_addz) _ _ q2, q3⟩, fun cs hcs => let ⟨us, q1, q2⟩ := k7 cs hcs; ⟨us, denL_le Names.le_addz _ _ q1, q2⟩, k8⟩
  · obtain ⟨q, q1, q2, q3, q4⟩ := K.kid i hi
    refine ⟨q, q1, q2, q3, fun hcap => ?_⟩
    obtain ⟨b, u, k1, k2, k3, k4, k5, k6⟩ := q4 hcap
    exact ⟨b, u, k1, k2, k3, k4, fun i' c hz' => by
      rcases hz' with hz' | hz'
      · exact k5 i' c hz'
      · exact hz b i' c (.inr (.inr ⟨i, q, 0, q1, hcap, k1⟩)) hz', fun i hi => let ⟨us, q1, q2⟩ := k6 i hi; ⟨us, denL_le (Names.le.zo Names.le_addz) _ _ q1, q2⟩⟩
mutual
theorem frzS_ok {H : Heap} {ρ : Names} {W : World} {m : Nat} {sb : SB} (hH : HOk C H ρ W) (hk : look H m = some sb) (hp : frzOk sb = true) : ∀ (x : SV) (v : Value), den ρ x v → den (ρ.addz (ownZ ρ W m)) (frzS m sb x) v
  | .v _, _, hd => hd
  | .il _ _, _, hd => hd
  | .bl _, _, hd => hd
  | .e, _, hd => hd
  | .m n, v, hd => den_le (ρ := ρ) Names.le_addz (.m n) v hd
  | .rs sz n f, v, hd => den_le (ρ := ρ) Names.le_addz (.rs sz n f) v hd
  | .rp x off, v, hd => den_le (ρ := ρ) Names.le_addz (.rp x off) v hd
  | .agg l, v, ⟨u, e1, e2⟩ => ⟨u, frzL_ok hH hk hp l u e1, e2⟩
  | .tup l, v, ⟨u, e1, e2⟩ => ⟨u, frzL_ok hH hk hp l u e1, e2⟩
  | .f fn x y, v, ⟨u, w, e1, e2, e3⟩ => ⟨u, w, frzL_ok hH hk hp x u e1, frzL_ok hH hk hp y w e2, e3⟩
  | .p n off, v, hd => by
    have hold : den (ρ.addz (ownZ ρ W m)) (.p n off) v := hd
    simp only [frzS]
    unfold frzP
    split
    · rename_i cs t b1
      have b1 := Nat.eq_of_beq_eq_true b1
      subst b1
      obtain ⟨b, e1, e2⟩ := hd
      obtain ⟨b', vs, k1, k2, k3, k4, k5⟩ := hH.blk n _ hk
      rw [e1] at k1
      obtain rfl := Option.some.inj k1
      exact ⟨b, 0, vs, by rw [Nat.zero_add]; exact e2, denL_le (Names.le.zo Names.le_addz) _ _ (pureL_den _ _ hp k2), fun k c hc => .inr ⟨.inl e1, by rw [Nat.zero_add, k3.cell]; simpa using hc, zc_blk k3 (k4 c (List.mem_of_getElem? hc))⟩⟩
    · exact hold
  | .s n sz off len cap, v, hd => by
    have hold : den (ρ.addz (ownZ ρ W m)) (.s n sz off len cap) v := hd
    simp only [frzS]
    unfold frzB
    split
    · rename_i cs t b0
      have b0 := Nat.eq_of_beq_eq_true b0
      subst b0
      split
      · rename_i b1 b2
        have b1 := Nat.le_of_ble_eq_true b1
        have b2 := Nat.le_of_ble_eq_true b2
        obtain ⟨b, e1, e2⟩ := hd
        obtain ⟨b', vs, k1, k2, k3, k4, k5⟩ := hH.blk n _ hk
        rw [e1] at k1
        obtain rfl := Option.some.inj k1
        have hd := denL_le (Names.le.zo Names.le_addz) _ _ (pureL_den _ _ hp k2) (ρ' := (ρ.addz (ownZ ρ W n)).zo)
        have hlen := denL_length hd
        refine ⟨_, _, e2, b2, fun i hi => ⟨b, off, _, rfl, chunk_den sz i (denL_drop off hd), ?_, fun k c hc => ?_⟩⟩
        · have : i * sz + sz ≤ len * sz := by rw [← Nat.succ_mul]; exact Nat.mul_le_mul_right _ hi
          simp only [List.length_take, List.length_drop]
          omega
        · rw [List.getElem?_take] at hc
          split at hc
          · rw [List.getElem?_drop, List.getElem?_drop] at hc
            refine .inr ⟨.inl e1, ?_, zc_blk k3 (k4 c (List.mem_of_getElem? hc))⟩
            rw [k3.cell]
            simpa [Nat.add_assoc] using hc
          · cases hc
      · exact hold
    · exact hold
  | .g m' e' sz' off n, v, hd => by
    simp only [frzS]
    unfold frzG
    split
    · rename_i e sz N h t b1
      have b1 := Nat.eq_of_beq_eq_true b1
      subst b1
      split
      · rename_i b2 b3
        have b2 := Nat.eq_of_beq_eq_true b2
        have b3 := Nat.eq_of_beq_eq_true b3
        subst b2 b3
        obtain ⟨a', cap, e1, e2, e3⟩ := lst_elems hH hk hd
        exact ⟨a', cap, e1, e2, fun i hi => let ⟨b, o, us, k1, k2, k3, k4, k5⟩ := e3 i hi; ⟨b, o, us, k1, denL_le (Names.le.zo Names.le_addz) _ _ k2, k3, fun k c hc => .inr ⟨k5, k4 k c hc⟩⟩⟩
      · exact den_le Names.le_addz _ _ hd
    · rename_i e sz N h p szk g tk t b1
      have b1 := Nat.eq_of_beq_eq_true b1
      subst b1
      split
      · rename_i b2 b3
        have b2 := Nat.eq_of_beq_eq_true b2
        have b3 := Nat.eq_of_beq_eq_true b3
        subst b2 b3
        obtain ⟨a', cap, e1, e2, e3⟩ := nst_elems hH hk hd
        exact ⟨a', cap, e1, e2, fun i hi => let ⟨b, o, us, q, k1, f1, f2, f3, k2, k3, k4, k5⟩ := e3 i hi; ⟨b, o, us, k1, nstR_Z f1 f2 f3 (fun b i c h1 h2 h3 => .inr ⟨h3, h1, h2⟩) (Names.le.zo Names.le_addz) k2, k3, fun k c hc => .inr ⟨k5, k4 k c hc⟩⟩⟩
      · exact den_le Names.le_addz _ _ hd
    · exact den_le Names.le_addz _ _ hd
  | .gp m' e' sz' i off, v, hd => by
    simp only [frzS]
    unfold frzGP
    split
    · rename_i e sz N h t b1
      have b1 := Nat.eq_of_beq_eq_true b1
      subst b1
      split
      · rename_i b2 b3
        have b2 := Nat.eq_of_beq_eq_true b2
        have b3 := Nat.eq_of_beq_eq_true b3
        subst b2 b3
        obtain ⟨b, us, e1, e2, e3, e4, e5⟩ := lst_at hH hk hd
        exact ⟨b, i * sz', us, e1, denL_le (Names.le.zo Names.le_addz) _ _ e2, fun k c hc => .inr ⟨e5, e4 k c hc⟩⟩
      · exact den_le Names.le_addz _ _ hd
    · rename_i e sz N h p szk g tk t b1
      have b1 := Nat.eq_of_beq_eq_true b1
      subst b1
      split
      · rename_i b2 b3
        have b2 := Nat.eq_of_beq_eq_true b2
        have b3 := Nat.eq_of_beq_eq_true b3
        subst b2 b3
        obtain ⟨b, us, q, e1, f1, f2, f3, e2, e3, e4, e5⟩ := nst_at hH hk hd
        exact ⟨b, i * sz', us, e1, nstR_Z f1 f2 f3 (fun b i c h1 h2 h3 => .inr ⟨h3, h1, h2⟩) (Names.le.zo Names.le_addz) e2, fun k c hc => .inr ⟨e5, e4 k c hc⟩⟩
      · exact den_le Names.le_addz _ _ hd
    · exact den_le Names.le_addz _ _ hd
  | .kd m' i sz' off n, v, hd => by
    simp only [frzS]
    unfold frzK
    split
    · rename_i e sz N h p szk g tk t b1
      have b1 := Nat.eq_of_beq_eq_true b1
      subst b1
      split
      · rename_i b2
        have b2 := Nat.eq_of_beq_eq_true b2
        subst b2
        obtain ⟨a', cap, e1, e2, e3⟩ := kid_elems hH hk hd
        exact ⟨a', cap, e1, e2, fun i hi => let ⟨b, o, us, k1, k2, k3, k4, k5⟩ := e3 i hi; ⟨b, o, us, k1, denL_le (Names.le.zo Names.le_addz) _ _ k2, k3, fun k c hc => .inr ⟨k5, k4 k c hc⟩⟩⟩
      · exact den_le Names.le_addz _ _ hd
    · exact den_le Names.le_addz _ _ hd
  | .kq m' i sz' j off, v, hd => by
    simp only [frzS]
    unfold frzQ
    split
    · rename_i e sz N h p szk g tk t b1
      have b1 := Nat.eq_of_beq_eq_true b1
      subst b1
      split
      · rename_i b2
        have b2 := Nat.eq_of_beq_eq_true b2
        subst b2
        obtain ⟨b, us, e1, f1, f2, e2, e3, e4, e5⟩ := kid_at hH hk hd
        exact ⟨b, j * sz', us, e1, denL_le (Names.le.zo Names.le_addz) _ _ e2, fun k c hc => .inr ⟨e5, e4 k c hc⟩⟩
      · exact den_le Names.le_addz _ _ hd
    · exact den_le Names.le_addz _ _ hd
theorem frzL_ok {H : Heap} {ρ : Names} {W : World} {m : Nat} {sb : SB} (hH : HOk C H ρ W) (hk : look H m = some sb) (hp : frzOk sb = true) : ∀ (x : List SV) (v : List Value), denL ρ x v → denL (ρ.addz (ownZ ρ W m)) (frzL m sb x) v
  | [], _, hd => hd
  | x :: r, v, ⟨a, b, e1, e2, e3⟩ => ⟨a, b, e1, frzS_ok hH hk hp x a e2, frzL_ok hH hk hp r b e3⟩
end
/-- The list m1 becomes that of element N of the list M. -/
def Names.absorb (ρ : Names) (M N m1 : Nat) (q : LV) : Names :=
  ⟨fun n => if n = m1 then none else ρ.n n,
   fun e => match ρ.v e with | some l => if l.o = m1 then none else some l | none => none,
   fun m i => if m = M ∧ i = N then some q else if m = m1 then none else ρ.k m i,
   ρ.z, ρ.d, ρ.o⟩
section
variable {ρ : Names} {M N m1 : Nat} {q : LV}
theorem absorb_n {n b : Nat} (hn : n ≠ m1) (h : ρ.n n = some b) : (ρ.absorb M N m1 q).n n = some b := by simp only [Names.absorb, if_neg hn, h]
theorem absorb_v {e : Nat} {l : LV} (hn : l.o ≠ m1) (h : ρ.v e = some l) : (ρ.absorb M N m1 q).v e = some l := by simp only [Names.absorb, h, if_neg hn]
theorem absorb_k {m i : Nat} (hn : m ≠ m1) (hi : ¬ (m = M ∧ i = N)) : (ρ.absorb M N m1 q).k m i = ρ.k m i := by simp only [Names.absorb, if_neg hn, if_neg hi]
theorem absorb_new : (ρ.absorb M N m1 q).k M N = some q := by simp only [Names.absorb, and_self, if_true]
theorem absorb_n_some {n b : Nat} (h : (ρ.absorb M N m1 q).n n = some b) : n ≠ m1 ∧ ρ.n n = some b := by
  simp only [Names.absorb] at h
  split at h
  · cases h
  · rename_i hn; exact ⟨hn, h⟩
theorem absorb_v_some {e : Nat} {l : LV} (h : (ρ.absorb M N m1 q).v e = some l) : l.o ≠ m1 ∧ ρ.v e = some l := by
  simp only [Names.absorb] at h
  split at h
  · rename_i l' hl
    split at h
    · cases h
    · rename_i hn
      obtain rfl := Option.some.inj h
      exact ⟨hn, hl⟩
  · cases h
theorem absorb_k_some {m i : Nat} {l : LV} (h : (ρ.absorb M N m1 q).k m i = some l) : (m = M ∧ i = N ∧ l = q) ∨ (m ≠ m1 ∧ ρ.k m i = some l) := by
  simp only [Names.absorb] at h
  split at h
  · rename_i hm; exact .inl ⟨hm.1, hm.2, (Option.some.inj h).symm⟩
  · split at h
    · cases h
    · rename_i hn; exact .inr ⟨hn, h⟩
theorem absorb_owns {n b : Nat} (h : Owns (ρ.absorb M N m1 q) n b) : (n ≠ m1 ∧ Owns ρ n b) ∨ (n = M ∧ q.cap ≠ 0 ∧ ∃ o, q.a = some ⟨b, o, none⟩) := by
  rcases h with h | ⟨e, l, o, h1, h2, h3, h4⟩ | ⟨i, l, o, h1, h3, h4⟩
  · obtain ⟨k1, k2⟩ := absorb_n_some h
    exact .inl ⟨k1, .inl k2⟩
  · obtain ⟨k1, k2⟩ := absorb_v_some h1
    exact .inl ⟨by rw [← h2]; exact k1, .inr (.inl ⟨e, l, o, k2, h2, h3, h4⟩)⟩
  · rcases absorb_k_some h1 with ⟨rfl, rfl, rfl⟩ | ⟨k1, k2⟩
    · exact .inr ⟨rfl, h3, o, h4⟩
    · exact .inl ⟨k1, .inr (.inr ⟨i, l, o, k2, h3, h4⟩)⟩
theorem memN_no {n : Nat} : ∀ {l : List Nat}, memN n l = false → n ∉ l
  | [], _, h => by cases h
  | m :: r, h, hm => by
    simp only [memN] at h
    split at h
    · cases h
    · rename_i hb
      rcases List.mem_cons.1 hm with rfl | hm
      · rw [Nat.beq_refl] at hb; cases hb
      · exact memN_no h hm
mutual
theorem den_absorb (hM : ρ.k M N = none) : ∀ (x : SV) (v : Value), m1 ∉ namesOf x → den ρ x v → den (ρ.absorb M N m1 q) x v
  | .v _, _, _, hd => hd
  | .il _ _, _, _, hd => hd
  | .bl _, _, _, hd => hd
  | .e, _, _, hd => hd
  | .rs _ _ _, _, _, hd => hd
  | .rp _ _, _, _, hd => hd
  | .p n off, v, hn, ⟨b, e1, e2⟩ => ⟨b, absorb_n (by simpa [namesOf, eq_comm] using hn) e1, e2⟩
  | .s n sz off len cap, v, hn, ⟨b, e1, e2⟩ => ⟨b, absorb_n (by simpa [namesOf, eq_comm] using hn) e1, e2⟩
  | .m n, v, hn, ⟨b, e1, e2⟩ => ⟨b, absorb_n (by simpa [namesOf, eq_comm] using hn) e1, e2⟩
  | .g m e sz off n, v, hn, ⟨l, e1, e2, e3⟩ => ⟨l, absorb_v (by rw [e2]; simpa [namesOf, eq_comm] using hn) e1, e2, e3⟩
  | .gp m e sz i off, v, hn, ⟨l, b, e1, e2, e3⟩ => ⟨l, b, absorb_v (by rw [e2]; simpa [namesOf, eq_comm] using hn) e1, e2, e3⟩
  | .kd m i sz off n, v, hn, ⟨l, e1, e3⟩ => ⟨l, (absorb_k (by simpa [namesOf, eq_comm] using hn) (by rintro ⟨rfl, rfl⟩; rw [hM] at e1; cases e1)).trans e1, e3⟩
  | .kq m i sz j off, v, hn, ⟨l, b, e1, e3⟩ => ⟨l, b, (absorb_k (by simpa [namesOf, eq_comm] using hn) (by rintro ⟨rfl, rfl⟩; rw [hM] at e1; cases e1)).trans e1, e3⟩
  | .f fn x y, v, hn, ⟨u, w, h1, h2, h3⟩ => ⟨u, w, denL_absorb hM x u (fun h => hn (List.mem_append_left _ h)) h1, denL_absorb hM y w (fun h => hn (List.mem_append_right _ h)) h2, h3⟩
  | .agg l, v, hn, ⟨u, h1, h2⟩ => ⟨u, denL_absorb hM l u hn h1, h2⟩
  | .tup l, v, hn, ⟨u, h1, h2⟩ => ⟨u, denL_absorb hM l u hn h1, h2⟩
theorem denL_absorb (hM : ρ.k M N = none) : ∀ (x : List SV) (v : List Value), m1 ∉ namesL x → denL ρ x v → denL (ρ.absorb M N m1 q) x v
  | [], _, _, hd => hd
  | x :: r, v, hn, ⟨u, w, h1, h2, h3⟩ => ⟨u, w, h1, den_absorb hM x u (fun h => hn (List.mem_append_left _ h)) h2, denL_absorb hM r w (fun h => hn (List.mem_append_right _ h)) h3⟩
end
theorem dropSl_look {m t : Nat} : ∀ {l : List (Nat × Slot)}, look (dropSl m l) t = (look l t).map fun s => match memN m (namesOf s.v) with | true => ⟨s.rg, s.k, [(0, true)], .e⟩ | false => s
  | [] => rfl
  | (u, s) :: r => by
    simp only [dropSl]
    by_cases he : u = t
    · subst he
      split <;> rename_i hb <;> rw [look_cons_eq, look_cons_eq] <;> simp only [Option.map_some, hb]
    · split <;> rw [look_cons_ne _ _ he, look_cons_ne _ _ he] <;> exact dropSl_look
theorem dropH_look {m t : Nat} : ∀ {l : Heap}, look (dropH m l) t = (look l t).map (dropSB m)
  | [] => rfl
  | (u, s) :: r => by
    by_cases he : u = t
    · subst he; simp only [dropH, look_cons_eq]; rfl
    · simp only [dropH, look_cons_ne _ _ he]; exact dropH_look
/-- A block that is neither of both stays as it is, or is forgotten. -/
theorem cont_absorb (hM : ρ.k M N = none) {W : World} {n : Nat} {sb : SB} (hn : n ≠ m1) (hnM : n ≠ M) (hc : Cont ρ W n sb) : Cont (ρ.absorb M N m1 q) W n (dropSB m1 sb) := by
  have hk : ∀ i, (ρ.absorb M N m1 q).k n i = ρ.k n i := fun i => absorb_k hn fun h => hnM h.1
  cases sb with
  | gone => trivial
  | alt =>
    obtain ⟨l, l', K⟩ := hc
    exact ⟨l, l', K.move (fun e l ho hv => absorb_v (by rw [ho]; exact hn) hv) hk (fun l us h => h) (fun b u t _ h => h) (fun b _ h => h)⟩
  | lay cs t =>
    simp only [dropSB]
    split
    · trivial
    · rename_i hb
      obtain ⟨b, vs, h1, h2, h3, h4, h5⟩ := hc
      exact ⟨b, vs, absorb_n hn h1, denL_absorb hM _ _ (memN_no hb) h2, h3, h4, h5⟩
  | lst e sz N f t =>
    obtain ⟨l, h1, h2, h3, h4, h5⟩ := hc
    exact ⟨l, absorb_v (by rw [h2]; exact hn) h1, h2, h3, h4, h5⟩
  | mp k ag has g =>
    obtain ⟨b, es, cl, h1, h2, h3, h4⟩ := hc
    exact ⟨b, es, cl, absorb_n hn h1, h2, h3, h4.keys, h4.yes⟩
  | nst e sz N' f p szk g tk t last =>
    have key : ∀ last' : Option (List SV), (∀ cs, last' = some cs → m1 ∉ namesL cs) → last' = last → Cont (ρ.absorb M N m1 q) W n (.nst e sz N' f p szk g tk t last') := by
      intro last' hl e'
      subst e'
      obtain ⟨l, K⟩ := hc
      refine ⟨l, absorb_v (by rw [K.ho]; exact hn) K.hv, K.ho, K.hN, K.hle, fun hcap => ?_, fun i hi => ?_, fun i hi => (hk i).trans (K.no i hi), fun i j q r b h1 h2 => K.ne i j q r b ((hk i).symm.trans h1) ((hk j).symm.trans h2)⟩
      · obtain ⟨b, u, k1, k2, k3, k4, k5, k6, k7, k8⟩ := K.row hcap
        exact ⟨b, u, k1, k2, k3, k4, k5, fun i hi => let ⟨q, us, q1, q2⟩ := k6 i hi; ⟨q, us, (hk i).trans q1, q2⟩, fun cs hcs => let ⟨us, q1, q2⟩ := k7 cs hcs; ⟨us, denL_absorb hM _ _ (hl cs hcs) q1, q2⟩, fun i q b' h1 => k8 i q b' ((hk i).symm.trans h1)⟩
      · obtain ⟨q, q1, q2⟩ := K.kid i hi
        exact ⟨q, (hk i).trans q1, q2⟩
    simp only [dropSB]
    split
    · exact key none (fun cs h => by cases h) rfl
    · split
      · trivial
      · rename_i cs _ hb
        exact key (some cs) (fun cs' h => by obtain rfl := Option.some.inj h; exact memN_no hb) rfl
theorem pure_set {x : SV} {z : Value} : ∀ {l : List SV} {p : Nat} {us : List Value}, l[p]? = some x → us[p]? = some z → pureL (l.set p .e) = true → denL ρ l us → denL ρ.zo (l.set p (.v z)) us
  | [], p, us, h, _, _, _ => by cases h
  | y :: r, 0, us, h, hu, hp, hd => by
    obtain ⟨a, b, rfl, h1, h2⟩ := denL_cons hd
    simp only [List.set_cons_zero, pureL, pureS] at hp
    obtain rfl : a = z := by simpa using hu
    exact ⟨a, b, rfl, rfl, pureL_den _ _ hp h2⟩
  | y :: r, p + 1, us, h, hu, hp, hd => by
    obtain ⟨a, b, rfl, h1, h2⟩ := denL_cons hd
    simp only [List.set_cons_succ, pureL] at hp
    split at hp
    · rename_i hy
      exact ⟨a, b, rfl, pure_den _ _ hy h1, pure_set (x := x) (by simpa using h) (by simpa using hu) hp h2⟩
    · cases hp
theorem putF_eq {α : Type} {N : Nat} {x : α} {f : Nat → α} : putF N x f N = x := by simp only [putF, Nat.beq_refl]
theorem putF_ne {α : Type} {N i : Nat} {x : α} {f : Nat → α} (h : i ≠ N) : putF N x f i = f i := by
  unfold putF
  split
  · rename_i hb; exact absurd (Nat.eq_of_beq_eq_true hb) h
  · rfl
end
theorem absorb_ok {nm0 M m1 nm rg : Nat} {H : Heap} {sb : SB} {sl : List (Nat × Slot)} {rd ws : List (Nat × Nat)} {ρ : Names} {a : Act} {W : World} (hdom : ∀ n b, ρe.n n = some b → n < nm0) (hdomv : ∀ e l, ρe.v e = some l → e < nm0 ∧ l.o < nm0) (hdomk : ∀ m i l, ρe.k m i = some l → m < nm0)
    (h : Rp C nt w0 ρe ⟨sl, H, nm, rg, rd, ws⟩ ρ a W) (hab : absorbD nm0 M H = some (m1, sb)) : ∃ ρ', Rp C nt w0 ρe ⟨dropSl m1 sl, (M, sb) :: (m1, .gone) :: dropH m1 H, nm, rg, rd, ws⟩ ρ' a W := by
  unfold absorbD at hab
  split at hab
  rotate_left
  · cases hab
  rename_i e sz N hh p szk g tk t cs hlM
  split at hab
  rotate_left
  · cases hab
  rename_i mm e1 szk1 n1 hcp hpu
  split at hab
  rotate_left
  · cases hab
  rename_i e1' szk1' N1 h1 t1 hl1
  split at hab
  rotate_left
  · cases hab
  rename_i b1 b2 b3 b4 b5
  have b1 := Nat.eq_of_beq_eq_true b1
  have b2 := Nat.eq_of_beq_eq_true b2
  have b3 := Nat.eq_of_beq_eq_true b3
  have b4 := Nat.eq_of_beq_eq_true b4
  have b5 := Nat.le_of_ble_eq_true b5
  obtain ⟨rfl, rfl⟩ := Prod.mk.inj (Option.some.inj hab)
  subst b1 b2 b3 b4
  have hm := h.base.mem
  have hMm : M ≠ mm := by rintro rfl; rw [hlM] at hl1; cases hl1
  obtain ⟨lM, K⟩ := h.base.blk M _ hlM
  obtain ⟨l1, q1, q2, q3, q4, q5⟩ := h.base.blk mm _ hl1
  have hcap : lM.cap ≠ 0 := by
    have h1 := K.hN
    have h2 := K.hle
    have h3 : lM.N = N + 1 := h1
    omega
  obtain ⟨b, u, k1, k2, k3, k4, k5, k6, k7, k8⟩ := K.row hcap
  obtain ⟨us, r1, r2, r3⟩ := k7 cs rfl
  obtain ⟨z, hz, hdz⟩ := denL_get r1 hcp
  obtain ⟨l1', s1, s2, s3, s4, a', hz', s6⟩ := hdz
  rw [q1] at s1
  obtain rfl := Option.some.inj s1
  simp only [Nat.sub_zero, Nat.zero_add, Nat.zero_mul] at s3 hz' s6
  have hMN : ρ.k M N = none := K.no N (Nat.le_refl _)
  obtain ⟨q, hq⟩ : ∃ q : LV, q = ⟨M, a', l1.cap, n1⟩ := ⟨_, rfl⟩
  have hqa : q.a = a' := by rw [hq]
  have hqc : q.cap = l1.cap := by rw [hq]
  have hqN : q.N = n1 := by rw [hq]
  have hqo : ∀ b2 o, q.cap ≠ 0 → q.a = some ⟨b2, o, none⟩ → Owns ρ mm b2 := fun b2 o h1 h2 => by
    rw [hqc] at h1
    obtain ⟨b3, t1, t2⟩ := s6 h1
    rw [hqa, t2] at h2
    injection h2 with h2
    injection h2 with h2
    subst h2
    exact .inr (.inl ⟨e1, l1, 0, q1, q2, h1, t1⟩)
  have hMown : Owns ρ M b := .inr (.inl ⟨e, lM, 0, K.hv, K.ho, hcap, k1⟩)
  have hMo : lM.o ≠ mm := by rw [K.ho]; exact hMm
  have hkM : ∀ i, i ≠ N → (ρ.absorb M N mm q).k M i = ρ.k M i := fun i hi => absorb_k hMm fun h => hi h.2
  have hMlt : M < nm := by rw [← K.ho]; exact (hm.domv _ _ K.hv).2
  refine ⟨ρ.absorb M N mm q, ⟨⟨⟨fun n n' b2 o1 o2 => ?_, fun n b2 o1 => ?_, hm.hb.zok, hm.hb.grd⟩, fun n b2 hn => hm.dom n b2 (absorb_n_some hn).2, fun e2 l2 hl => hm.domv e2 l2 (absorb_v_some hl).2, fun m i l hl => ?_, ⟨fun n b2 hn => ?_, fun e2 l2 hl => ?_, fun m i l hl => ?_, hm.le.z⟩, fun n b2 o1 => ?_, hm.zold, hm.keep⟩, fun n sb hn => ?_, h.base.sz, h.base.df⟩, fun u s hs => ?_, fun u s hs hg => ?_⟩
  · rcases absorb_owns o1 with ⟨n1, w1⟩ | ⟨w1, c1, o, a1⟩ <;> rcases absorb_owns o2 with ⟨n2, w2⟩ | ⟨w2, c2, o', a2⟩
    · exact hm.hb.own n n' b2 w1 w2
    · exact absurd (hm.hb.own _ _ b2 w1 (hqo b2 o' c2 a2)) n1
    · exact absurd (hm.hb.own _ _ b2 w2 (hqo b2 o c1 a1)) n2
    · rw [w1, w2]
  · rcases absorb_owns o1 with ⟨n1, o1⟩ | ⟨rfl, c1, o, a1⟩
    · exact hm.hb.low n b2 o1
    · exact hm.hb.low _ b2 (hqo b2 o c1 a1)
  · rcases absorb_k_some hl with ⟨rfl, -, -⟩ | ⟨-, hl⟩
    · exact hMlt
    · exact hm.domk m i l hl
  · have := hdom n b2 hn
    exact absorb_n (by omega) (hm.le.n n b2 hn)
  · have := (hdomv e2 l2 hl).2
    exact absorb_v (by omega) (hm.le.v e2 l2 hl)
  · have := hdomk m i l hl
    have h2 := hm.le.k m i l hl
    rw [absorb_k (by omega) (by rintro ⟨rfl, rfl⟩; rw [hMN] at h2; cases h2)]
    exact h2
  · rcases absorb_owns o1 with ⟨n1, o1⟩ | ⟨rfl, c1, o, a1⟩
    · exact hm.old n b2 o1
    · exact hm.old mm b2 (hqo b2 o c1 a1)
  · by_cases eM : M = n
    · subst eM
      simp only [look_cons_eq] at hn
      obtain rfl := Option.some.inj hn
      refine ⟨lM, absorb_v hMo K.hv, K.ho, K.hN, K.hle, fun _ => ⟨b, u, k1, k2, k3, k4, k5, fun i hi => ?_, (fun cs h => by cases h), fun i q' b' hi h1 h2 => ?_⟩, fun i hi => ?_, fun i hi => ?_, fun i j q' r b2 hi hj c1 c2 a1 a2 => ?_⟩
      · by_cases hiN : i = N
        · subst hiN
          refine ⟨q, us, absorb_new, ?_, r2, r3⟩
          rw [putF_eq]
          refine pure_set (ρ := ρ) hcp ?_ hpu r1
          rw [hz, hz', hqa, hqN, hqc]
        · obtain ⟨q', us', t1, t2, t3⟩ := k6 i (by omega)
          exact ⟨q', us', (hkM i hiN).trans t1, by rw [putF_ne hiN]; exact t2, t3⟩
      · rcases absorb_k_some hi with ⟨-, -, rfl⟩ | ⟨-, hi⟩
        · rintro rfl
          exact hMm (hm.hb.own _ _ b' hMown (hqo b' 0 h1 h2))
        · exact k8 i q' b' hi h1 h2
      · by_cases hiN : i = N
        · subst hiN
          refine ⟨q, absorb_new, by rw [putF_eq]; exact hqN, by omega, fun hc => ?_⟩
          obtain ⟨b2, u2, t1, t2, t3, t4, t5, t6⟩ := q5 (by omega)
          obtain ⟨b3, v1, v2⟩ := s6 (by omega)
          rw [t1] at v1
          obtain rfl : b2 = b3 := by injection v1 with v1; injection v1
          rw [putF_eq]
          exact ⟨b2, u2, by rw [hqa]; exact v2, t2, by rw [hqc]; exact t3, t4, t5, fun j hj => t6 j (by omega)⟩
        · obtain ⟨q', t1, t2, t3⟩ := K.kid i (by omega)
          exact ⟨q', (hkM i hiN).trans t1, by rw [putF_ne hiN]; exact t2, by rw [putF_ne hiN]; exact t3⟩
      · rw [hkM i (by omega)]
        exact K.no i (by omega)
      · rcases absorb_k_some hi with ⟨-, e1, w1⟩ | ⟨-, w1⟩ <;> rcases absorb_k_some hj with ⟨-, e2, w2⟩ | ⟨-, w2⟩
        · rw [e1, e2]
        · rw [w1] at c1 a1
          exact absurd (hm.hb.own _ _ b2 (.inr (.inr ⟨j, r, 0, w2, c2, a2⟩)) (hqo b2 0 c1 a1)) hMm
        · rw [w2] at c2 a2
          exact absurd (hm.hb.own _ _ b2 (.inr (.inr ⟨i, q', 0, w1, c1, a1⟩)) (hqo b2 0 c2 a2)) hMm
        · exact K.ne i j q' r b2 w1 w2 c1 c2 a1 a2
    · simp only [look_cons_ne _ _ eM] at hn
      by_cases em : mm = n
      · subst em
        simp only [look_cons_eq] at hn
        obtain rfl := Option.some.inj hn
        trivial
      · simp only [look_cons_ne _ _ em, dropH_look] at hn
        cases hl : look H n with
        | none => rw [hl] at hn; cases hn
        | some sb0 =>
          rw [hl] at hn
          obtain rfl := Option.some.inj hn
          exact cont_absorb hMN (fun e => em e.symm) (fun e => eM e.symm) (h.base.blk n sb0 hl)
  · rw [dropSl_look] at hs
    cases hls : look sl u with
    | none => rw [hls] at hs; cases hs
    | some s0 =>
      rw [hls] at hs
      simp only [Option.map_some] at hs
      have h0 := h.rgs u s0 hls
      split at hs
      · obtain rfl := Option.some.inj hs; exact h0
      · obtain rfl := Option.some.inj hs; exact h0
  · rw [dropSl_look] at hs
    cases hls : look sl u with
    | none => rw [hls] at hs; cases hs
    | some s0 =>
      rw [hls] at hs
      simp only [Option.map_some] at hs
      split at hs
      · obtain rfl := Option.some.inj hs; cases hg
      · rename_i hb
        obtain rfl := Option.some.inj hs
        obtain ⟨x, t1, t2⟩ := h.slots u s0 hls hg
        exact ⟨x, den_absorb hMN _ _ (memN_no hb) t1, t2⟩
theorem tr1_ok {nm0 : Nat} {t : Tr} {st : St} {ρ : Names} {a : Act} {W : World} (hdom : ∀ n b, ρe.n n = some b → n < nm0) (hdomv : ∀ e l, ρe.v e = some l → e < nm0 ∧ l.o < nm0) (hdomk : ∀ m i l, ρe.k m i = some l → m < nm0) (h : Rp C nt w0 ρe st ρ a W) : ∃ ρ', Rp C nt w0 ρe (tr1 nm0 t st) ρ' a W := by
  obtain ⟨sl, H, nm, rg, rd, ws⟩ := st
  have hfree := h.base.mem.free
  have hbirth : ∀ (ad : Option Addr) (sz : Nat) (ty : TypeId), ∃ ρ', ρ.le ρ' ∧ (∀ y, y = Value.slice ad 0 0 → den ρ' (.g nm nm sz 0 0) y) ∧ Base C nt w0 ρe ((nm, .lst nm sz 0 (fun _ => []) ty) :: H) (nm + 1) ρ' a W := by
    intro ad sz ty
    have e := eff_addv (l := ⟨nm, ad, 0, 0⟩) h.base.mem.hb hfree.2 (Gr.refl W) (fun h => absurd rfl h)
    refine ⟨ρ.addv nm ⟨nm, ad, 0, 0⟩, Names.le_addv hfree.2, fun y hy => ⟨_, Names.addv_self, rfl, Nat.le_refl _, Nat.le_refl _, ad, hy, fun h => absurd rfl h⟩, ?_⟩
    have := h.base.done (w := some (nm, .lst nm sz 0 (fun _ => []) ty)) (fr := true) (dst := none) (x := undef) (ρ' := ρ.addv nm ⟨nm, ad, 0, 0⟩) (W' := W) e (fun n sb hn => by
      obtain ⟨rfl, rfl⟩ := Prod.mk.inj (Option.some.inj hn)
      exact ⟨_, Names.addv_self, rfl, rfl, Nat.le_refl _, fun h => absurd rfl h⟩) (fun n sb hn => by
      obtain ⟨rfl, rfl⟩ := Prod.mk.inj (Option.some.inj hn)
      exact Nat.lt_succ_self _)
    exact this
  have hbirth2 : ∀ (ad : Option Addr) (sz : Nat) (ty : TypeId), ∃ ρ', ρ.le ρ' ∧ (∀ y, y = Value.slice ad 0 0 → den ρ' (.g nm (nm + 1) sz 0 0) y) ∧ Base C nt w0 ρe ((nm, .lst (nm + 1) sz 0 (fun _ => []) ty) :: H) (nm + 2) ρ' a W := by
    intro ad sz ty
    have hb1 : Base C nt w0 ρe H (nm + 1) ρ a W := ⟨h.base.mem.up (Nat.le_succ _), h.base.blk, h.base.sz, h.base.df⟩
    have hfree1 := hb1.mem.free
    have e := eff_addv (nm := nm + 1) (l := ⟨nm, ad, 0, 0⟩) hb1.mem.hb hfree1.2 (Gr.refl W) (fun h => absurd rfl h)
    refine ⟨ρ.addv (nm + 1) ⟨nm, ad, 0, 0⟩, Names.le_addv hfree1.2, fun y hy => ⟨_, Names.addv_self, rfl, Nat.le_refl _, Nat.le_refl _, ad, hy, fun h => absurd rfl h⟩, ?_⟩
    have := hb1.done (w := some (nm, .lst (nm + 1) sz 0 (fun _ => []) ty)) (fr := true) (dst := none) (x := undef) (ρ' := ρ.addv (nm + 1) ⟨nm, ad, 0, 0⟩) (W' := W) e (fun n sb hn => by
      obtain ⟨rfl, rfl⟩ := Prod.mk.inj (Option.some.inj hn)
      exact ⟨_, Names.addv_self, rfl, rfl, Nat.le_refl _, fun h => absurd rfl h⟩) (fun n sb hn => by
      obtain ⟨rfl, rfl⟩ := Prod.mk.inj (Option.some.inj hn)
      show nm < nm + 2
      omega)
    exact this
  have hbirthN : ∀ (ad : Option Addr) (sz p szk : Nat) (tk ty : TypeId), ∃ ρ', ρ.le ρ' ∧ (∀ y, y = Value.slice ad 0 0 → den ρ' (.g nm (nm + 1) sz 0 0) y) ∧ Base C nt w0 ρe ((nm, .nst (nm + 1) sz 0 (fun _ => []) p szk (fun _ => (0, fun _ => [])) tk ty none) :: H) (nm + 2) ρ' a W := by
    intro ad sz p szk tk ty
    have hb1 : Base C nt w0 ρe H (nm + 1) ρ a W := ⟨h.base.mem.up (Nat.le_succ _), h.base.blk, h.base.sz, h.base.df⟩
    have hfree1 := hb1.mem.free
    have hk0 : ∀ i, ρ.k nm i = none := fun i => by
      cases hk : ρ.k nm i with
      | none => rfl
      | some l =>
        have : nm < nm := h.base.mem.domk nm i l hk
        omega
    have e := eff_addv (nm := nm + 1) (l := ⟨nm, ad, 0, 0⟩) hb1.mem.hb hfree1.2 (Gr.refl W) (fun h => absurd rfl h)
    refine ⟨ρ.addv (nm + 1) ⟨nm, ad, 0, 0⟩, Names.le_addv hfree1.2, fun y hy => ⟨_, Names.addv_self, rfl, Nat.le_refl _, Nat.le_refl _, ad, hy, fun h => absurd rfl h⟩, ?_⟩
    have := hb1.done (w := some (nm, .nst (nm + 1) sz 0 (fun _ => []) p szk (fun _ => (0, fun _ => [])) tk ty none)) (fr := true) (dst := none) (x := undef) (ρ' := ρ.addv (nm + 1) ⟨nm, ad, 0, 0⟩) (W' := W) e (fun n sb hn => by
      obtain ⟨rfl, rfl⟩ := Prod.mk.inj (Option.some.inj hn)
      exact ⟨_, Names.addv_self, rfl, rfl, Nat.le_refl _, fun h => absurd rfl h, fun i hi => absurd hi (Nat.not_lt_zero i), fun i _ => hk0 i, fun i j q r b h1 => by
        have h1 : ρ.k nm i = some q := h1
        rw [hk0 i] at h1; cases h1⟩) (fun n sb hn => by
      obtain ⟨rfl, rfl⟩ := Prod.mk.inj (Option.some.inj hn)
      show nm < nm + 2
      omega)
    exact this
  cases t with
  | freeze m =>
    simp only [tr1]
    split
    · rename_i sb0 hl
      split
      rotate_left
      · exact ⟨ρ, h⟩
      rename_i hp
      have hH := h.base.hok
      have hm := h.base.mem
      refine ⟨ρ.addz (ownZ ρ W m), ⟨⟨⟨hm.hb.own, hm.hb.low, fun b i c hz => ?_, hm.hb.grd⟩, hm.dom, hm.domv, hm.domk, hm.le.trans Names.le_addz, hm.old, fun b i c hz => ?_, hm.keep⟩, fun n sb hn => ?_, h.base.sz, h.base.df⟩, fun u s hs => ?_, fun u s hs hg => ?_⟩
      · rcases hz with hz | hz
        · exact hm.hb.zok b i c hz
        · exact hz.2
      · rcases hz with hz | hz
        · exact hm.zold b i c hz
        · rcases hm.old m b hz.1 with h1 | h1
          · exact .inr (.inr h1)
          · exact .inr (.inl h1)
      · by_cases e0 : m = n
        · subst e0
          simp only [look_cons_eq] at hn
          obtain rfl := Option.some.inj hn
          trivial
        · simp only [look_cons_ne _ _ e0, frzH_look] at hn
          cases hln : look H n with
          | none => rw [hln] at hn; cases hn
          | some sb0 =>
            rw [hln] at hn
            obtain rfl := Option.some.inj hn
            have hc := h.base.blk n sb0 hln
            cases sb0 with
            | gone => trivial
            | mp k ag has g =>
              obtain ⟨b, es, cl, h1, h2, h3, h4⟩ := hc
              exact ⟨b, es, cl, h1, h2, h3, fun x hx => let ⟨m, q1, q2, u, q3, q4⟩ := h4.keys x hx; ⟨m, q1, q2, u, denL_le (Names.le.zo Names.le_addz) _ _ q3, q4⟩, h4.yes⟩
            | lay cs t =>
              obtain ⟨b, vs, h1, h2, h3, h4, h5⟩ := hc
              exact ⟨b, vs, h1, frzL_ok hH hl hp cs vs h2, h3, h4, fun i c hz => by
                rcases hz with hz | hz
                · exact h5 i c hz
                · exact e0 (hm.hb.own m n b hz.1 (.inl h1))⟩
            | lst e' sz' N' f' t' =>
              obtain ⟨l, h1, h2, h3, h4, h5⟩ := hc
              refine ⟨l, h1, h2, h3, h4, fun hcap => ?_⟩
              obtain ⟨b, u, k1, k2, k3, k4, k5, k6⟩ := h5 hcap
              exact ⟨b, u, k1, k2, k3, k4, fun i c hz => by
                rcases hz with hz | hz
                · exact k5 i c hz
                · exact e0 (hm.hb.own m n b hz.1 (.inr (.inl ⟨e', l, 0, h1, h2, hcap, k1⟩))), fun i hi => let ⟨us, q1, q2⟩ := k6 i hi; ⟨us, denL_le (Names.le.zo Names.le_addz) _ _ q1, q2⟩⟩
            | nst e' sz' N' f' p' szk' g' tk' t' last' => exact cont_nst_addz hc fun b i c ho hz => e0 (hm.hb.own m n b hz.1 ho)
            | alt =>
              obtain ⟨l, l', K⟩ := hc
              refine ⟨l, l', K.move (fun e l ho hv => hv) (fun j => rfl) (fun l us h => denL_le (Names.le.zo Names.le_addz) _ _ h) (fun b u t _ h => h) (fun b ho h i c hz => ?_)⟩
              rcases hz with hz | hz
              · exact h i c hz
              · exact e0 (hm.hb.own m n b hz.1 ho)
      · rw [frzSl_look] at hs
        cases hls : look sl u with
        | none => rw [hls] at hs; cases hs
        | some s0 =>
          rw [hls] at hs
          obtain rfl := Option.some.inj hs
          exact h.rgs u s0 hls
      · rw [frzSl_look] at hs
        cases hls : look sl u with
        | none => rw [hls] at hs; cases hs
        | some s0 =>
          rw [hls] at hs
          obtain rfl := Option.some.inj hs
          obtain ⟨x, q1, q2⟩ := h.slots u s0 hls hg
          exact ⟨x, frzS_ok hH hl hp _ _ q1, q2⟩
    · exact ⟨ρ, h⟩
  | slot t sz ty =>
    simp only [tr1]
    split
    · rename_i r k v hl
      split
      · rename_i he hr
        have hr := Nat.le_of_ble_eq_true hr
        obtain ⟨y, h1, h2⟩ := h.slots t _ hl rfl
        obtain ⟨ad, rfl⟩ := emptyS_ok he h1
        obtain ⟨ρ', k1, k2, k3⟩ := hbirth ad sz ty
        refine ⟨ρ', k3, fun u s hs => ?_, fun u s hs hg => ?_⟩
        · by_cases e : t = u
          · subst e
            simp only [look_cons_eq] at hs
            obtain rfl := Option.some.inj hs
            exact hr
          · simp only [look_cons_ne _ _ e] at hs
            exact h.rgs u s hs
        · by_cases e : t = u
          · subst e
            simp only [look_cons_eq] at hs
            obtain rfl := Option.some.inj hs
            exact ⟨_, k2 _ rfl, h2⟩
          · simp only [look_cons_ne _ _ e] at hs
            obtain ⟨x, q1, q2⟩ := h.slots u s hs hg
            exact ⟨x, den_le k1 _ _ q1, q2⟩
      · exact ⟨ρ, h⟩
    · exact ⟨ρ, h⟩
  | cell n i sz ty =>
    simp only [tr1]
    split
    · rename_i cs t hl
      split
      · rename_i v hv
        split
        · rename_i he
          obtain ⟨b, vs, h1, h2, h3, h4, h5⟩ := h.base.blk n _ hl
          obtain ⟨y, hy, hdy⟩ := denL_get h2 hv
          obtain ⟨ad, rfl⟩ := emptyS_ok he hdy
          obtain ⟨ρ', k1, k2, k3⟩ := hbirth ad sz ty
          refine ⟨ρ', ⟨k3.mem, fun m sb hm => ?_, k3.sz, k3.df⟩, h.rgs, fun u s hs hg => let ⟨x, q1, q2⟩ := h.slots u s hs hg; ⟨x, den_le k1 _ _ q1, q2⟩⟩
          by_cases e : n = m
          · subst e
            simp only [look_cons_eq] at hm
            obtain rfl := Option.some.inj hm
            have hk := k3.blk n (.lay cs t) (by
              have hne : nm ≠ n := by
                rintro rfl
                have : nm < nm := h.base.mem.dom _ b h1
                omega
              rw [look_cons_ne _ _ hne]; exact hl)
            obtain ⟨b', vs', q1, q2, q3, q4, q5⟩ := hk
            have hbb : b' = b := by
              have := k1.n n b h1
              rw [q1] at this
              exact Option.some.inj this
            subst hbb
            have hvs : vs' = vs := by
              have e1 : W.heap[b']? = some (.cells vs'.toArray t (0, 0)) := q3
              have e2 : W.heap[b']? = some (.cells vs.toArray t (0, 0)) := h3
              rw [e1] at e2
              injection e2 with e2
              injection e2 with e2
              simpa using congrArg Array.toList e2
            subst hvs
            refine ⟨b', vs', q1, ?_, q3, q4, q5⟩
            have := denL_set (i := i) q2 (k2 _ rfl)
            rw [set_self hy] at this
            exact this
          · simp only [look_cons_ne _ _ e] at hm
            exact k3.blk m sb hm
        · exact ⟨ρ, h⟩
      · exact ⟨ρ, h⟩
    · exact ⟨ρ, h⟩
  | slot2 t sz ty =>
    simp only [tr1]
    split
    · rename_i r k v hl
      split
      · rename_i he hr
        have hr := Nat.le_of_ble_eq_true hr
        obtain ⟨y, h1, h2⟩ := h.slots t _ hl rfl
        obtain ⟨ad, rfl⟩ := emptyS_ok he h1
        obtain ⟨ρ', k1, k2, k3⟩ := hbirth2 ad sz ty
        refine ⟨ρ', k3, fun u s hs => ?_, fun u s hs hg => ?_⟩
        · by_cases e : t = u
          · subst e
            simp only [look_cons_eq] at hs
            obtain rfl := Option.some.inj hs
            exact hr
          · simp only [look_cons_ne _ _ e] at hs
            exact h.rgs u s hs
        · by_cases e : t = u
          · subst e
            simp only [look_cons_eq] at hs
            obtain rfl := Option.some.inj hs
            exact ⟨_, k2 _ rfl, h2⟩
          · simp only [look_cons_ne _ _ e] at hs
            obtain ⟨x, q1, q2⟩ := h.slots u s hs hg
            exact ⟨x, den_le k1 _ _ q1, q2⟩
      · exact ⟨ρ, h⟩
    · exact ⟨ρ, h⟩
  | cell2 n i sz ty =>
    simp only [tr1]
    split
    · rename_i cs t hl
      split
      · rename_i v hv
        split
        · rename_i he
          obtain ⟨b, vs, h1, h2, h3, h4, h5⟩ := h.base.blk n _ hl
          obtain ⟨y, hy, hdy⟩ := denL_get h2 hv
          obtain ⟨ad, rfl⟩ := emptyS_ok he hdy
          obtain ⟨ρ', k1, k2, k3⟩ := hbirth2 ad sz ty
          refine ⟨ρ', ⟨k3.mem, fun m sb hm => ?_, k3.sz, k3.df⟩, h.rgs, fun u s hs hg => let ⟨x, q1, q2⟩ := h.slots u s hs hg; ⟨x, den_le k1 _ _ q1, q2⟩⟩
          by_cases e : n = m
          · subst e
            simp only [look_cons_eq] at hm
            obtain rfl := Option.some.inj hm
            have hk := k3.blk n (.lay cs t) (by
              have hne : nm ≠ n := by
                rintro rfl
                have : nm < nm := h.base.mem.dom _ b h1
                omega
              rw [look_cons_ne _ _ hne]; exact hl)
            obtain ⟨b', vs', q1, q2, q3, q4, q5⟩ := hk
            have hbb : b' = b := by
              have := k1.n n b h1
              rw [q1] at this
              exact Option.some.inj this
            subst hbb
            have hvs : vs' = vs := by
              have e1 : W.heap[b']? = some (.cells vs'.toArray t (0, 0)) := q3
              have e2 : W.heap[b']? = some (.cells vs.toArray t (0, 0)) := h3
              rw [e1] at e2
              injection e2 with e2
              injection e2 with e2
              simpa using congrArg Array.toList e2
            subst hvs
            refine ⟨b', vs', q1, ?_, q3, q4, q5⟩
            have := denL_set (i := i) q2 (k2 _ rfl)
            rw [set_self hy] at this
            exact this
          · simp only [look_cons_ne _ _ e] at hm
            exact k3.blk m sb hm
        · exact ⟨ρ, h⟩
      · exact ⟨ρ, h⟩
    · exact ⟨ρ, h⟩
  | slotN t sz p szk tk ty =>
    simp only [tr1]
    split
    · rename_i r k v hl
      split
      · rename_i he hr
        have hr := Nat.le_of_ble_eq_true hr
        obtain ⟨y, h1, h2⟩ := h.slots t _ hl rfl
        obtain ⟨ad, rfl⟩ := emptyS_ok he h1
        obtain ⟨ρ', k1, k2, k3⟩ := hbirthN ad sz p szk tk ty
        refine ⟨ρ', k3, fun u s hs => ?_, fun u s hs hg => ?_⟩
        · by_cases e : t = u
          · subst e
            simp only [look_cons_eq] at hs
            obtain rfl := Option.some.inj hs
            exact hr
          · simp only [look_cons_ne _ _ e] at hs
            exact h.rgs u s hs
        · by_cases e : t = u
          · subst e
            simp only [look_cons_eq] at hs
            obtain rfl := Option.some.inj hs
            exact ⟨_, k2 _ rfl, h2⟩
          · simp only [look_cons_ne _ _ e] at hs
            obtain ⟨x, q1, q2⟩ := h.slots u s hs hg
            exact ⟨x, den_le k1 _ _ q1, q2⟩
      · exact ⟨ρ, h⟩
    · exact ⟨ρ, h⟩
  | cellN n i sz p szk tk ty =>
    simp only [tr1]
    split
    · rename_i cs t hl
      split
      · rename_i v hv
        split
        · rename_i he
          obtain ⟨b, vs, h1, h2, h3, h4, h5⟩ := h.base.blk n _ hl
          obtain ⟨y, hy, hdy⟩ := denL_get h2 hv
          obtain ⟨ad, rfl⟩ := emptyS_ok he hdy
          obtain ⟨ρ', k1, k2, k3⟩ := hbirthN ad sz p szk tk ty
          refine ⟨ρ', ⟨k3.mem, fun m sb hm => ?_, k3.sz, k3.df⟩, h.rgs, fun u s hs hg => let ⟨x, q1, q2⟩ := h.slots u s hs hg; ⟨x, den_le k1 _ _ q1, q2⟩⟩
          by_cases e : n = m
          · subst e
            simp only [look_cons_eq] at hm
            obtain rfl := Option.some.inj hm
            have hk := k3.blk n (.lay cs t) (by
              have hne : nm ≠ n := by
                rintro rfl
                have : nm < nm := h.base.mem.dom _ b h1
                omega
              rw [look_cons_ne _ _ hne]; exact hl)
            obtain ⟨b', vs', q1, q2, q3, q4, q5⟩ := hk
            have hbb : b' = b := by
              have := k1.n n b h1
              rw [q1] at this
              exact Option.some.inj this
            subst hbb
            have hvs : vs' = vs := by
              have e1 : W.heap[b']? = some (.cells vs'.toArray t (0, 0)) := q3
              have e2 : W.heap[b']? = some (.cells vs.toArray t (0, 0)) := h3
              rw [e1] at e2
              injection e2 with e2
              injection e2 with e2
              simpa using congrArg Array.toList e2
            subst hvs
            refine ⟨b', vs', q1, ?_, q3, q4, q5⟩
            have := denL_set (i := i) q2 (k2 _ rfl)
            rw [set_self hy] at this
            exact this
          · simp only [look_cons_ne _ _ e] at hm
            exact k3.blk m sb hm
        · exact ⟨ρ, h⟩
      · exact ⟨ρ, h⟩
    · exact ⟨ρ, h⟩
  | absorb M =>
    simp only [tr1]
    split
    · rename_i m1 sb hab
      exact absorb_ok hdom hdomv hdomk h hab
    · exact ⟨ρ, h⟩
theorem trs_ok {nm0 : Nat} {a : Act} {W : World} (hdom : ∀ n b, ρe.n n = some b → n < nm0) (hdomv : ∀ e l, ρe.v e = some l → e < nm0 ∧ l.o < nm0) (hdomk : ∀ m i l, ρe.k m i = some l → m < nm0) : ∀ {t : List Tr} {st : St} {ρ : Names}, Rp C nt w0 ρe st ρ a W → ∃ ρ', Rp C nt w0 ρe (trs nm0 t st) ρ' a W
  | [], st, ρ, h => ⟨ρ, h⟩
  | t :: r, st, ρ, h => by
    obtain ⟨ρ', h'⟩ := tr1_ok (t := t) hdom hdomv hdomk h
    exact trs_ok hdom hdomv hdomk (t := r) (st := tr1 nm0 t st) h'
theorem Cut.at_.rp {c : Cut} {nm0 : Nat} {st : St} {Q : c.α → Prop} {ρ : Names} {a : Act} {W : World} (hdom : ∀ n b, ρe.n n = some b → n < nm0) (hdomv : ∀ e l, ρe.v e = some l → e < nm0 ∧ l.o < nm0) (hdomk : ∀ m i l, ρe.k m i = some l → m < nm0) (h : c.at_ nm0 st Q) (hr : Rp C nt w0 ρe st ρ a W) : ∃ b ρ', Q b ∧ c.P b ∧ Rp C nt w0 ρe (c.J b) ρ' a W := by
  obtain ⟨b, σ, t, hq, hp, hle⟩ := h
  obtain ⟨ρ', hr'⟩ := trs_ok (t := t) hdom hdomv hdomk hr
  exact ⟨b, _, hq, hp, hle.rp hdom hdomv hdomk hr'⟩
theorem least {p : Nat → Prop} (h : ∃ n, p n) : ∃ n, p n ∧ ∀ m, m < n → ¬ p m := by
  obtain ⟨n, hn⟩ := h
  induction n using Nat.strongRecOn with
  | _ n ih =>
    by_cases hm : ∃ m, m < n ∧ p m
    · obtain ⟨m, h1, h2⟩ := hm
      exact ih m h1 h2
    · exact ⟨n, hn, fun m h1 h2 => hm ⟨m, h1, h2⟩⟩
/-- A loop by what it keeps, counted by a number that nobody sees. -/
theorem loop_ghostM {M : Mode} {P : Program} {Q : Exit → Act → World → Prop} {a : Act} {w : World} {c : Code} (I : Nat → Act → World → Prop) (n0 : Nat) (h0 : I n0 a w)
    (round : ∀ n a w, I n a w → c.wpIn M.F 0 P (Exit.then (fun a' w' => ∃ m, m < n ∧ I m a' w') Q) a w) : (Code.loop c).wpIn M.F 0 P Q a w := by
  refine wpIn_loop (fun a w => ∃ n, I n a w) (fun a w => Classical.epsilon fun n => I n a w ∧ ∀ m, m < n → ¬ I m a w) ⟨n0, h0⟩ fun a w h => ?_
  have hs := Classical.epsilon_spec (least h)
  refine wpIn_mono (round _ a w hs.1) ?_
  intro e a' w' hq
  cases e with
  | normal =>
    obtain ⟨m, h1, h2⟩ := hq
    have hs' := Classical.epsilon_spec (least (p := fun n => I n a' w') ⟨m, h2⟩)
    refine ⟨⟨m, h2⟩, ?_⟩
    refine Nat.lt_of_le_of_lt ?_ h1
    exact Nat.le_of_not_lt fun h3 => hs'.2 m h3 h2
  | exit i => exact hq
  | goto i => exact hq
  | ret => exact hq
  | panic ch => exact hq
  | outgrown => exact hq

variable {M : Mode}
theorem sat_mono {c : Code} {st : St} {K K' : Ex → St → Prop} (h : Sat C M nt w0 ρe c st K) (hk : ∀ e st, K e st → K' e st) : Sat C M nt w0 ρe c st K' :=
  fun ρ a W hr => wpIn_mono (h ρ a W hr) fun _ _ _ ⟨x, st', ρ', h1, h2, h3⟩ => ⟨x, st', ρ', h1, hk _ _ h2, h3⟩

theorem sat_seq {x y : Code} {st : St} {K : Ex → St → Prop} {Mid : St → Prop} (hx : Sat C M nt w0 ρe x st (thenK K Mid)) (hy : ∀ st' ρ a W, Mid st' → Rp C nt w0 ρe st' ρ a W → y.wpIn M.F 0 C.P (fun e a' W' => ∃ x st' ρ', e = Ex.to x ∧ K x st' ∧ Rp C nt w0 ρe st' ρ' a' W') a W) : Sat C M nt w0 ρe (.seq x y) st K := by
  intro ρ a W hr
  refine wpIn_seq (wpIn_mono (hx ρ a W hr) ?_)
  rintro e a' W' ⟨x', st', ρ', rfl, hk, hr'⟩
  cases x' with
  | normal => exact hy st' ρ' a' W' hk hr'
  | exit i => exact ⟨.exit i, st', ρ', rfl, hk, hr'⟩
  | ret => exact ⟨.ret, st', ρ', rfl, hk, hr'⟩

theorem sat_unr {x : Code} {f : St → (Ex → St → Prop) → Prop} {K : Ex → St → Prop} (hf : ∀ st K, f st K → Sat C M nt w0 ρe x st K) {n : Nat} {st : St} (h : unr f n st K) : Sat C M nt w0 ρe (.loop x) st K := by
  intro ρ a W hr
  refine loop_ghostM (fun n a W => ∃ st ρ, Rp C nt w0 ρe st ρ a W ∧ unr f n st K) n ⟨st, ρ, hr, h⟩ ?_
  rintro n a W ⟨st, ρ, hr, h⟩
  cases n with
  | zero => exact h.elim
  | succ n =>
    refine wpIn_mono (hf st _ h ρ a W hr) ?_
    rintro e a' W' ⟨x', st', ρ', rfl, hk, hr'⟩
    cases x' with
    | normal => exact ⟨n, Nat.lt_succ_self n, st', ρ', hr', hk⟩
    | exit i => exact ⟨.exit i, st', ρ', rfl, hk, hr'⟩
    | ret => exact ⟨.ret, st', ρ', rfl, hk, hr'⟩

theorem ev_ok {nm0 : Nat} {h : How} (hI : InlOk C I) (hm : C.P.follows .mixedOrders = true) (hdom : ∀ n b, ρe.n n = some b → n < nm0) (hdomv : ∀ e l, ρe.v e = some l → e < nm0 ∧ l.o < nm0) (hdomk : ∀ m i l, ρe.k m i = some l → m < nm0) :
    ∀ (c : Code) (st : St) (K : Ex → St → Prop), codeB h.fl c = true → ev Γ nt nm0 I inls h c st K → Sat C M nt w0 ρe c st K
  | .skip, st, K, hB, he => fun ρ a W hr => wpIn_skip ⟨.normal, st, ρ, rfl, he, hr⟩
  | .region id ops draw, st, K, hB, he => by
    simp only [ev] at he
    simp only [codeB] at hB
    split at he
    · exact he.elim
    · rename_i hq
      rw [hq] at hB
      exact fun ρ a W hr => evRegion_ok hI hm (Bool.and_eq_true_iff.1 hB).2 sat_no (Bool.and_eq_true_iff.1 hB).1 hr he fun st' ρ' a' W' hk hr' => ⟨.normal, st', ρ', rfl, hk, hr'⟩
  | .seq x y, st, K, hB, he => by
    have hB := Bool.and_eq_true_iff.1 hB
    simp only [ev] at he
    split at he
    · exact sat_seq (ev_ok hI hm hdom hdomv hdomk x st _ hB.1 he) fun st' ρ a W hk hr => ev_ok hI hm hdom hdomv hdomk y st' K hB.2 hk ρ a W hr
    · obtain ⟨c, he⟩ := he
      refine sat_seq (ev_ok hI hm hdom hdomv hdomk x st _ hB.1 he.1) fun st' ρ a W hk hr => ?_
      obtain ⟨b, ρ', -, hp, hr'⟩ := hk.rp hdom hdomv hdomk hr
      exact ev_ok hI hm hdom hdomv hdomk y (c.J b) K hB.2 (he.2 b hp) _ a W hr'
  | .cond c x y, st, K, hB, he => fun ρ a W hr => by
    have hB := Bool.and_eq_true_iff.1 hB
    simp only [ev] at he
    split at he
    · rename_i hc
      split at he
      · exact wpIn_cond_true (opOut_ok hr hc) (ev_ok hI hm hdom hdomv hdomk x st K hB.1 he ρ a W hr)
      · obtain ⟨c', he, he2⟩ := he
        obtain ⟨b', ρ', -, hp, hr'⟩ := he.rp hdom hdomv hdomk hr
        exact wpIn_cond_true (opOut_ok hr hc) (ev_ok hI hm hdom hdomv hdomk x (c'.J b') K hB.1 (he2 b' hp) _ a W hr')
    · rename_i hc
      exact wpIn_cond_false (opOut_ok hr hc) (ev_ok hI hm hdom hdomv hdomk y st K hB.2 he ρ a W hr)
    · rename_i b hc
      split at he
      · exact wpIn_cond_split (opOut_ok hr hc) (fun hb => ev_ok hI hm hdom hdomv hdomk x st K hB.1 (he.1 hb) ρ a W hr) (fun hb => ev_ok hI hm hdom hdomv hdomk y st K hB.2 (he.2 hb) ρ a W hr)
      · refine wpIn_cond_split (opOut_ok hr hc) (fun hb => ?_) (fun hb => ev_ok hI hm hdom hdomv hdomk y st K hB.2 (he.2 hb) ρ a W hr)
        obtain ⟨c', hf, he2⟩ := he.1 hb
        obtain ⟨b', ρ', -, hp, hr'⟩ := hf.rp hdom hdomv hdomk hr
        exact ev_ok hI hm hdom hdomv hdomk x (c'.J b') K hB.1 (he2 b' hp) _ a W hr'
    · cases he
  | .block id x, st, K, hB, he => fun ρ a W hr => by
    refine wpIn_block (wpIn_mono (ev_ok hI hm hdom hdomv hdomk x st _ hB he ρ a W hr) ?_)
    rintro e a' W' ⟨x', st', ρ', rfl, hk, hr'⟩
    cases x' with
    | normal => exact ⟨.normal, st', ρ', rfl, hk, hr'⟩
    | ret => exact ⟨.ret, st', ρ', rfl, hk, hr'⟩
    | exit i =>
      show if i = id then _ else _
      simp only at hk
      split at hk
      · rename_i hb
        rw [if_pos (Nat.eq_of_beq_eq_true hb)]
        exact ⟨.normal, st', ρ', rfl, hk, hr'⟩
      · rename_i hb
        rw [if_neg (fun e => by rw [e, Nat.beq_refl] at hb; cases hb)]
        exact ⟨.exit i, st', ρ', rfl, hk, hr'⟩
  | .loop x, st, K, hB, he => by
    simp only [ev] at he
    split at he
    · exact sat_unr (fun st K hh => ev_ok hI hm hdom hdomv hdomk x st K hB hh) he
    · obtain ⟨c, hc0, hround⟩ := he
      intro ρ a W hr
      obtain ⟨b0, ρ0, -, hp0, hr0⟩ := hc0.rp hdom hdomv hdomk hr
      refine loop_ghostM (fun n a W => ∃ b ρ, c.μ b = n ∧ c.P b ∧ Rp C nt w0 ρe (c.J b) ρ a W) _ ⟨b0, ρ0, rfl, hp0, hr0⟩ ?_
      rintro n a W ⟨b, ρ, rfl, hp, hr⟩
      refine wpIn_mono (ev_ok hI hm hdom hdomv hdomk x (c.J b) _ hB (hround b hp) ρ a W hr) ?_
      rintro e a' W' ⟨x', st', ρ', rfl, hk, hr'⟩
      cases x' with
      | normal =>
        obtain ⟨b', ρ'', hlt, hp', hr''⟩ := Cut.at_.rp hdom hdomv hdomk hk hr'
        exact ⟨_, hlt, b', _, rfl, hp', hr''⟩
      | exit i => exact ⟨.exit i, st', ρ', rfl, hk, hr'⟩
      | ret => exact ⟨.ret, st', ρ', rfl, hk, hr'⟩
  | .exit id, st, K, hB, he => fun ρ a W hr => wpIn_exit ⟨.exit id, st, ρ, rfl, he, hr⟩
  | .ret, st, K, hB, he => fun ρ a W hr => wpIn_ret ⟨.ret, st, ρ, rfl, he, hr⟩
  | .rangeFunc .., st, K, hB, he => he.elim
  | .scope _, st, K, hB, he => he.elim
  | .label _, st, K, hB, he => he.elim
  | .goto _, st, K, hB, he => he.elim
  | .refuse _, st, K, hB, he => he.elim
end
end Go.Proofs.YtcojfohjdibjjaaGreatDoor
