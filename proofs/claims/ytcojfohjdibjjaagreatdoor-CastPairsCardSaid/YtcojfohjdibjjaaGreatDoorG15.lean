/- A symbolic executor with lists, 16: regions; calls that are entered. -/
import Derived.Test.YtcojfohjdibjjaaGreatDoorG14
import Derived.LaidEql
import Derived.RangeFuncCalls
import Derived.RangeFuncFrom
import Derived.RangeFuncLeaves
import Derived.OrdersIn
import Derived.TacticsIn
namespace Go.Proofs.YtcojfohjdibjjaaGreatDoor
open Go.RowKit

section
variable {PP : Program} {C : Cx PP} {Γ : List (Con C)} {nt : Nat} {ops : Array Oper} {heads : List Oper} {st0 : St} {S : Nat → St} {w0 : World} {ρe : Names} {ρ0 : Names} {a0 : Act} {W1 : World}

theorem head_done (F : Fixed Γ nt ops.toList heads st0 S) (h0 : RI C nt w0 ρe st0 ρ0 a0 W1) {listed : Array Bool} {ρ : Names} {a : Act} {W : World} (h : HI C nt w0 ρe heads st0 S ρ0 a0 listed ρ a W)
    (hall : ∀ i, i < heads.length → listed.getD i false = true) : RI C nt w0 ρe (S heads.length) ρ a W := by
  have hrg := F.rg heads.length (Nat.le_refl _)
  have hk : ∀ t s, look (S heads.length).sl t = some s → s.rg = st0.rg → listed.getD s.k false = true := fun t s hs hr => hall s.k (F.ins _ (Nat.le_refl _) t s hs hr).1
  refine ⟨⟨h.mem, fun n sb hn => ?_, h.sz, h.df⟩, fun t s hs => ?_, fun t s hs hr hg => ?_, fun t s hs hr => ?_, fun t s hs hr p hp => ?_⟩
  · rcases F.heap _ (Nat.le_refl _) n sb hn with ⟨h1, h2⟩ | ⟨j, hj, hwj, h3⟩
    · exact h.con n sb h1 fun i sb' hi hwi => absurd hwi (h2 i sb' hi)
    · exact h.wr j n sb hj (hall j hj) hwj fun j' sb' h1 h2 h4 => absurd h4 (h3 j' sb' h1 h2)
  · by_cases hr : s.rg = st0.rg
    · omega
    · have := h0.rgs t s (F.out _ (Nat.le_refl _) t s hs hr)
      omega
  · rw [hrg] at hr
    have hs0 := F.out _ (Nat.le_refl _) t s hs hr
    obtain ⟨y, h1, h2⟩ := h0.out t s hs0 hr hg
    refine ⟨y, den_le h.le _ _ h1, ?_⟩
    rw [h.out t ?_]
    · exact h2
    · intro i o hi hd
      exfalso
      obtain ⟨g, r, -, e, -⟩ := F.own hi hd
      rw [hs] at e
      rw [Option.some.inj e] at hr
      exact hr rfl
  · rw [hrg] at hr
    exact h.ins t s hs hr (hk t s hs hr)
  · rw [hrg] at hr
    obtain ⟨s', q1, q2, -⟩ := F.atoms (md := ops) (n := heads.length) rfl s.k t s rfl hs hr p hp
    exact ⟨s', q1, by rw [hrg]; exact q2⟩

theorem head_start (F : Fixed Γ nt ops.toList heads st0 S) (h0 : RI C nt w0 ρe st0 ρ0 a0 W1) {listed : Array Bool} (hl : ∀ i, listed.getD i false = false) : HI C nt w0 ρe heads st0 S ρ0 a0 listed ρ0 a0 W1.drew := by
  have g : Gr W1 W1.drew := (Gr.refl W1).drew
  have h1 := F.nm (i := 0) (j := heads.length) (by omega) (Nat.le_refl _)
  rw [F.s0] at h1
  exact ⟨(h0.base.mem.gr g).up h1, .refl _, fun m b hm => .inl (h0.base.mem.dom m b hm), fun m b hm => .inl (h0.base.mem.domv m b hm).1, fun m sb hm _ => (h0.base.hok.gr g).blk m sb hm,
    (fun i m sb _ h => by rw [hl] at h; cases h), (fun t s _ _ h => by rw [hl] at h; cases h), fun t _ => rfl, h0.base.sz, h0.base.df⟩
end

def memN (n : Nat) : List Nat → Bool
  | [] => false
  | m :: r => match Nat.beq m n with | true => true | false => memN n r
/-- How a call is walked that is entered: the function, its arguments, memory, what is to hold of its result. -/
abbrev Inl := Nat → List SV → Heap → Nat → (SV → Heap → Nat → Prop) → Prop
/-- Such a walk is true. -/
def InlOk {PP : Program} (C : Cx PP) (I : Inl) : Prop :=
  ∀ f args H nm K, I f args H nm K → ∃ g, (∀ (a : Array Value) (w : World), (callFunc f a).run C.P w = .ok (.enter g a) w) ∧ ∀ (ρ : Names) (W : World) (vs : List Value), HOk C H ρ W → (∀ n b, ρ.n n = some b → n < nm) → (∀ e l, ρ.v e = some l → e < nm ∧ l.o < nm) → (∀ m i l, ρ.k m i = some l → m < nm) → denL ρ args vs →
    Calls C.P g vs.toArray W fun e W' => ∃ v val H' nm' ρ', e = .returned val ∧ K v H' nm' ∧ Mem C W ρ.noD nm' ρ' W' ∧ (∀ n sb, look H' n = some sb → Cont ρ' W' n sb) ∧ den ρ' v val
/-- A call that is to be entered. -/
def inlOf (inls : List Nat) (nt : Nat) (ops : List Oper) (st : St) (o : Oper) : Option (Nat × List SV) :=
  match o.op with
  | .call c => match c.callee with
    | .value x => match guardOf false ops st.rg st.sl o, opIn false ops 0 st.rg st.sl o [] [] x, dstB nt st.rg st.sl o with
      | some [], some sf, true => match callee sf, opL (opIn false ops 0 st.rg st.sl o []) c.args.toList with
        | some (g, first, captured), some args => match memN g inls with
          | true => match laid (first ++ args ++ captured) with | some al => some (g, al) | none => none
          | false => none
        | _, _ => none
      | _, _, _ => none
    | _ => none
  | _ => none
def nilLen : SV → Option Nat
  | .kd _ _ _ _ n => some n
  | .e => some 0
  | .rs _ n _ => some n
  | .g _ _ _ _ n => some n
  | _ => none
def nilOp : BinOp → Option Bool
  | .eql => some false
  | .neq => some true
  | _ => none
def isNilS : SV → Bool
  | .v (.slice none 0 0) => true
  | _ => false
/-- Is a slice nil? Its length, and whether the answer is turned. -/
def nilOf {PP : Program} (C : Cx PP) (nt : Nat) (ops : List Oper) (st : St) (o : Oper) : Option (Nat × Bool) :=
  match o.op with
  | .binOp b t x y _ => match nilOp b, elemT C t, guardOf false ops st.rg st.sl o, dstB nt st.rg st.sl o with
    | some neg, some _, some [], true => match opIn false ops 0 st.rg st.sl o [] [] x, opIn false ops 0 st.rg st.sl o [] [] y with
      | some u, some v => match isNilS v, nilLen u with | true, some n => some (n, neg) | _, _ => none
      | _, _ => none
    | _, _, _, _ => none
  | _ => none
/-- Two pointers: what is known of whether they are the same. -/
inductive PC where
  | lit (b : Bool)
  | un (x y : List SV) (i j : Nat)
def hasSl : List SV → Bool
  | [] => false
  | _ :: _ => true
def isLay (H : Heap) (n : Nat) : Bool := match look H n with | some (.lay _ _) => true | _ => false
def ptrPair (H : Heap) : SV → SV → Option PC
  | .p n i, .p m j => match isLay H n, isLay H m with
    | true, true => some (.lit (match Nat.beq n m with | true => Nat.beq i j | false => false))
    | _, _ => none
  | .p n _, .rp y _ => match isLay H n, hasSl y with | true, true => some (.lit false) | _, _ => none
  | .rp x _, .p m _ => match isLay H m, hasSl x with | true, true => some (.lit false) | _, _ => none
  | .rp x i, .rp y j => match hasSl x, hasSl y with | true, true => some (.un x y i j) | _, _ => none
  | .gp m e sz _ _, .rp y _ => match lsts H m e sz, hasSl y with | some _, true => some (.lit false) | _, _ => none
  | _, _ => none
/-- Both describe the same memory. -/
def SameP (x y : List SV) (i j : Nat) : Prop := ∃ (z : Nat → Nat → Value → Prop) (b o p : Nat) (u w : List Value), (∀ b i c d, z b i c → z b i d → c = d) ∧ o + i = p + j ∧ denL (onlyZ z) x u ∧ denL (onlyZ z) y w ∧ (∀ k c, u[k]? = some c → z b (o + k) c) ∧ ∀ k c, w[k]? = some c → z b (p + k) c
def PC.has (b : Bool) : PC → Prop
  | .lit c => b = c
  | .un x y i j => b = true → SameP x y i j
/-- A pointer to something that has cells. -/
def ptrTo {PP : Program} (C : Cx PP) : TK → Bool
  | .ptr e => match look C.T e with | some ti => (match ti.sz with | 0 => false | _ + 1 => true) | none => false
  | _ => false
/-- A comparison of two pointers. -/
def ptrOf {PP : Program} (C : Cx PP) (nt : Nat) (ops : List Oper) (st : St) (o : Oper) : Option (PC × Bool) :=
  match o.op with
  | .binOp b t x y _ => match nilOp b, look C.T t, guardOf false ops st.rg st.sl o, dstB nt st.rg st.sl o with
    | some neg, some ti, some [], true => match ptrTo C ti.k, opIn false ops 0 st.rg st.sl o [] [] x, opIn false ops 0 st.rg st.sl o [] [] y with
      | true, some u, some v => match ptrPair st.H u v with | some p => some (p, neg) | none => none
      | _, _, _ => none
    | _, _, _, _ => none
  | _ => none
/-- What is known of the answer: it, or that it tells the same memory. -/
def ptrK (sl : List (Nat × Slot)) (H : Heap) (nm rg : Nat) (rd ws : List (Nat × Nat)) (k : Nat) (dst : Option Tmp) (neg : Bool) (M : St → Prop) : PC → Prop
  | .lit c => match putSf rg k [] (.bl (c != neg)) dst sl with | .mk sl' => M ⟨sl', H, nm, rg, rd, ws⟩ | .no => False
  | .un x y i j => ∀ b : Bool, (b = true → SameP x y i j) → match putSf rg k [] (.v (.bool (b != neg))) dst sl with | .mk sl' => M ⟨sl', H, nm, rg, rd, ws⟩ | .no => False
/-- One operation. -/
def evOp {PP : Program} {C : Cx PP} (Γ : List (Con C)) (nt : Nat) (I : Inl) (inls : List Nat) (ops : List Oper) (k : Nat) (o : Oper) : St → (St → Prop) → Prop
  | ⟨sl, H, nm, rg, rd, ws⟩, M => match inlOf inls nt ops ⟨sl, H, nm, rg, rd, ws⟩ o with
    | some (f, al) => match forceL al with | .mk al' => (I f al' H nm fun v H nm => match putSf rg k [] v o.dst sl with | .mk sl' => M ⟨sl', H, nm, rg, rd, ws⟩ | .no => False) | .no => False
    | none => match nilOf C nt ops ⟨sl, H, nm, rg, rd, ws⟩ o with
      | some (n, neg) => ∀ b : Bool, (b = true → n = 0) → match putSf rg k [] (.v (.bool (b != neg))) o.dst sl with | .mk sl' => M ⟨sl', H, nm, rg, rd, ws⟩ | .no => False
      | none => match ptrOf C nt ops ⟨sl, H, nm, rg, rd, ws⟩ o with
        | some (p, neg) => ptrK sl H nm rg rd ws k o.dst neg M p
        | none => match stepIn Γ nt false ops ops k o ⟨sl, H, nm, rg, rd, ws⟩ with
          | none => False
          | some (st', ob) => also ob (M st')
/-- What is known of an operation's guard: nothing; it is wanted; it is not; it may be. -/
inductive GD where
  | plain
  | go (t : Nat)
  | skip (g : List (Nat × Bool))
  | both (t j : Nat) (pol b : Bool)
def gdLit (rg : Nat) (sl : List (Nat × Slot)) (t : Nat) : Option Bool :=
  match look sl t with
  | none => none
  | some ⟨srg, _, sg, v⟩ => match Nat.beq srg rg, sg, v with
    | true, [], .bl b => some b
    | _, _, _ => none
def gdOf (ops : List Oper) (rg : Nat) (sl : List (Nat × Slot)) (o : Oper) : GD :=
  match o.guard with
  | none => .plain
  | some (j, pol) => match ops[j]? with
    | none => .plain
    | some oj => match oj.dst with
      | none => .plain
      | some t => match look sl t with
        | none => .plain
        | some ⟨srg, sk, sg, v⟩ => match Nat.beq srg rg, Nat.beq sk j with
          | true, true => match sg with
            | [] => match v with
              | .bl b => match b == pol with | true => .go t | false => .skip [(t, pol)]
              | .v (.bool b) => .both t j pol b
              | _ => .plain
            | (t', pol') :: _ => match gdLit rg sl t' with
              | some b => match b == pol' with | true => .plain | false => .skip [(t', pol')]
              | none => .plain
          | _, _ => .plain
def bare (o : Oper) : Oper := ⟨o.dst, o.op, o.type, o.pos, o.after, none⟩
def evSkip (nt : Nat) (k : Nat) (g : List (Nat × Bool)) (o : Oper) : St → (St → Prop) → Prop
  | ⟨sl, H, nm, rg, rd, ws⟩, M => match dstB nt rg sl o with
    | true => match putSf rg k g (.bl false) o.dst sl with | .mk sl' => M ⟨sl', H, nm, rg, rd, ws⟩ | .no => False
    | false => False
/-- A guard that is met is no guard any more. -/
def dropA (t : Nat) (pol : Bool) : List (Nat × Bool) → List (Nat × Bool)
  | [] => []
  | (t', p') :: r => match Nat.beq t' t, sameB p' pol with | true, true => dropA t pol r | _, _ => (t', p') :: dropA t pol r
def stripS (rg t : Nat) (pol : Bool) : Nat × Slot → Nat × Slot
  | (n, ⟨srg, k, g, v⟩) => match g with
    | [] => (n, ⟨srg, k, [], v⟩)
    | x :: g' => match Nat.beq srg rg with
      | false => (n, ⟨srg, k, x :: g', v⟩)
      | true => (n, ⟨srg, k, dropA t pol (x :: g'), v⟩)
/-- (With what is done handed on: a match on the rest's own result is evaluated over and over.) -/
def ungR (rg t : Nat) (pol : Bool) : List (Nat × Slot) → List (Nat × Slot) → Option (List (Nat × Slot))
  | [], acc => some acc
  | (n, ⟨srg, k, g, v⟩) :: r, acc => match g with
    | [] => ungR rg t pol r ((n, ⟨srg, k, [], v⟩) :: acc)
    | x :: g' => match Nat.beq srg rg with
      | false => ungR rg t pol r ((n, ⟨srg, k, x :: g', v⟩) :: acc)
      | true => match laid (dropA t pol (x :: g')) with
        | some g'' => ungR rg t pol r ((n, ⟨srg, k, g'', v⟩) :: acc)
        | none => none
def revO {α : Type} : List α → List α → Option (List α)
  | [], acc => some acc
  | x :: r, acc => revO r (x :: acc)
def ungSf (rg t : Nat) (pol : Bool) (l : List (Nat × Slot)) : Option (List (Nat × Slot)) := match ungR rg t pol l [] with | some l' => revO l' [] | none => none
theorem ungR_eq {rg t : Nat} {pol : Bool} : ∀ {l acc o : List (Nat × Slot)}, ungR rg t pol l acc = some o → o = (l.map (stripS rg t pol)).reverse ++ acc
  | [], acc, o, h => by
    obtain rfl := Option.some.inj h
    rfl
  | (n, ⟨srg, k, g, v⟩) :: r, acc, o, h => by
    simp only [ungR] at h
    have key : ∀ x, ungR rg t pol r (x :: acc) = some o → x = stripS rg t pol (n, ⟨srg, k, g, v⟩) → o = (((n, ⟨srg, k, g, v⟩) :: r).map (stripS rg t pol)).reverse ++ acc := fun x hx e => by
      rw [ungR_eq hx, e]
      simp
    split at h
    · exact key _ h rfl
    · split at h
      · rename_i hr
        exact key _ h (by simp only [stripS, hr])
      · rename_i hr
        split at h
        · rename_i g'' hl
          refine key _ h ?_
          rw [laid_eq hl]
          simp only [stripS, hr]
        · cases h
theorem revO_eq {α : Type} : ∀ {l acc o : List α}, revO l acc = some o → o = l.reverse ++ acc
  | [], acc, o, h => by
    obtain rfl := Option.some.inj h
    rfl
  | x :: r, acc, o, h => by
    rw [revO_eq (l := r) h]
    simp
theorem ungSf_eq {rg t : Nat} {pol : Bool} {l o : List (Nat × Slot)} (h : ungSf rg t pol l = some o) : o = l.map (stripS rg t pol) := by
  unfold ungSf at h
  split at h
  · rename_i l' hl
    rw [revO_eq h, ungR_eq hl]
    simp
  · cases h
/-- One operation, its guard decided. -/
def evG {PP : Program} {C : Cx PP} (Γ : List (Con C)) (nt : Nat) (I : Inl) (inls : List Nat) (ops : List Oper) (sp : Bool) (k : Nat) (o : Oper) : St → (St → Prop) → Prop
  | ⟨sl, H, nm, rg, rd, ws⟩, M => match sp with
    | false => evOp Γ nt I inls ops k o ⟨sl, H, nm, rg, rd, ws⟩ M
    | true => match gdOf ops rg sl o with
      | .plain => evOp Γ nt I inls ops k o ⟨sl, H, nm, rg, rd, ws⟩ M
      | .go _ => evOp Γ nt I inls ops k (bare o) ⟨sl, H, nm, rg, rd, ws⟩ M
      | .skip g => evSkip nt k g o ⟨sl, H, nm, rg, rd, ws⟩ M
      | .both t j pol b =>
        (b = pol → match putSf rg j [] (.bl pol) (some t) sl with | .mk sl' => (match ungSf rg t pol sl' with | some sl'' => evOp Γ nt I inls ops k (bare o) ⟨sl'', H, nm, rg, rd, ws⟩ M | none => False) | .no => False) ∧
        (b = !pol → match putSf rg j [] (.bl (!pol)) (some t) sl with | .mk sl' => (match ungSf rg t (!pol) sl' with | some sl'' => evSkip nt k [(t, pol)] o ⟨sl'', H, nm, rg, rd, ws⟩ M | none => False) | .no => False)
/-- A row of operations, in its one order. -/
def evSeq {PP : Program} {C : Cx PP} (Γ : List (Con C)) (nt : Nat) (I : Inl) (inls : List Nat) (ops : List Oper) (sp : Bool) : Nat → List Oper → St → (St → Prop) → Prop
  | _, [], st, K => K st
  | k, o :: r, st, K => match incB k with
    | .mk k' => evG Γ nt I inls ops sp k o st fun st' => evSeq Γ nt I inls ops sp k' r st' K
    | .no => False
/-- How far a drawn region's head reaches: 0: to the first store; 1: all; 2: to the first store or call; 10 + n: n operations (10000 * (n + 1) + id). -/
def hnum (id : Nat) : List Nat → Nat
  | [] => 0
  | x :: r => match Nat.ble 10000 x, Nat.beq (x % 10000) id with | true, true => 9 + x / 10000 | _, _ => hnum id r
def hmode (fl : List Nat) (id : Nat) : Nat := match memN id fl with | true => 1 | false => match memN (2000 + id) fl with | true => 2 | false => hnum id fl
def isPlain (full : Nat) : Op → Bool
  | .store .. => match full with | 1 => true | _ => false
  | .mapUpdate .. => false
  | .call c => match full with | 2 => (match c.callee with | .value _ => false | _ => true) | _ => true
  | _ => true
/-- How many operations may come in whatever order. -/
def headLen0 (full : Nat) : List Oper → Nat
  | [] => 0
  | o :: r => match isPlain full o.op with | true => headLen0 full r + 1 | false => 0
def headLen (full : Nat) (l : List Oper) : Nat := match Nat.ble 10 full, Nat.ble (full - 10) l.length with | true, true => full - 10 | _, _ => headLen0 full l
def takeO : Nat → List Oper → List Oper
  | 0, _ => []
  | _, [] => []
  | n + 1, x :: r => x :: takeO n r
theorem takeO_eq : ∀ (n : Nat) (l : List Oper), takeO n l = l.take n
  | 0, l => by simp [takeO]
  | n + 1, [] => by simp [takeO]
  | n + 1, x :: r => by simp [takeO, takeO_eq n r]
def evRegion {PP : Program} {C : Cx PP} (Γ : List (Con C)) (nt : Nat) (I : Inl) (inls : List Nat) (full : Nat) (sp : Bool) (ops : Array Oper) (draw : Bool) : St → (St → Prop) → Prop
  | ⟨sl, H, nm, rg, _, _⟩, K => match draw with
    | false => match incB rg with | .mk rg' => evSeq Γ nt I inls ops.toList sp 0 ops.toList ⟨sl, H, nm, rg', [], []⟩ K | .no => False
    | true => match incB rg with
      | .no => False
      | .mk rg' => evOps (stepIn Γ nt true ops.toList (takeO (headLen full ops.toList) ops.toList)) 0 (takeO (headLen full ops.toList) ops.toList) ⟨sl, H, nm, rg', [], []⟩
          fun st => evSeq Γ nt I inls ops.toList sp (headLen full ops.toList) (ops.toList.drop (headLen full ops.toList)) st K
def regionB (full : Nat) (ops : Array Oper) (draw : Bool) : Bool := match draw with | true => headB ops (headLen full ops.toList) | false => true

section
variable {PP : Program} {C : Cx PP} {Γ : List (Con C)} {nt : Nat} {w0 : World} {ρe ρ : Names} {a : Act} {W : World} {I : Inl} {inls : List Nat}

theorem Rp.enter {sl : List (Nat × Slot)} {H : Heap} {nm rg : Nat} {rd ws : List (Nat × Nat)} (h : Rp C nt w0 ρe ⟨sl, H, nm, rg, rd, ws⟩ ρ a W) : RI C nt w0 ρe ⟨sl, H, nm, rg + 1, [], []⟩ ρ a W := by
  have hne : ∀ t s, look sl t = some s → s.rg ≠ rg + 1 := fun t s hs e => by
    have : s.rg ≤ rg := h.rgs t s hs
    omega
  exact ⟨h.base, fun t s hs => Nat.le_succ_of_le (h.rgs t s hs), fun t s hs _ hg => h.slots t s hs hg, fun t s hs hr => absurd hr (hne t s hs), fun t s hs hr => absurd hr (hne t s hs)⟩
theorem RI.leave {st : St} (h : RI C nt w0 ρe st ρ a W) : Rp C nt w0 ρe st ρ a W :=
  ⟨h.base, h.rgs, fun t s hs hg => by
    by_cases hr : s.rg = st.rg
    · exact (h.ins t s hs hr).1 (by rw [hg]; exact holds_nil a)
    · exact h.out t s hs hr hg⟩


/-- A call that is entered. -/
theorem inl_step {ops : Array Oper} {st : St} {o : Oper} {f k : Nat} {al : List SV} {Q : Exit → Act → World → Prop} (hI : InlOk C I) (h : RI C nt w0 ρe st ρ a W) (hs : inlOf inls nt ops.toList st o = some (f, al)) {M : St → Prop}
    (he : I f al st.H st.nm fun v H nm => M ⟨putS st.rg k [] v o.dst st.sl, H, nm, st.rg, st.rd, st.ws⟩) {K : Act → World → Prop} (hK : ∀ st' ρ' a' W', M st' → RI C nt w0 ρe st' ρ' a' W' → K a' W') :
    if Region.wanted o (yielded ops a.tmps) = true then Oper.wp C.P o a W K Q else K (a.put o.dst undef) W := by
  obtain ⟨dst, oo, ty, pos, after, guard⟩ := o
  unfold inlOf at hs
  split at hs
  · rename_i c hoo
    obtain rfl : oo = .call c := hoo
    split at hs
    · rename_i x hcal
      split at hs
      · rename_i sf hg hsf hdst
        split at hs
        · rename_i g first captured args hcl hargs
          split at hs
          · split at hs
            · rename_i al' hal
              obtain ⟨rfl, rfl⟩ := Prod.mk.inj (Option.some.inj hs)
              obtain rfl := laid_eq hal
              obtain ⟨c1, -, -⟩ := guard_case h hg
              rw [if_pos (c1.2 (holds_nil a))]
              obtain ⟨g', en, hc⟩ := hI _ _ _ _ _ he
              have hop := opIn_ok (heads := ops.toList) (k := 0) (o := ⟨dst, .call c, ty, pos, after, guard⟩) h (holds_nil a)
              obtain ⟨fv, cv, hev, hall⟩ := callee_ok hop hsf hcl hargs
              have hcall := hc ρ W _ h.base.hok h.base.mem.dom h.base.mem.domv h.base.mem.domk hall
              unfold Oper.wp
              rw [ex_call hcal hev en rfl]
              show Calls _ _ _ _ _
              have e : (fv ++ c.args.map a.eval ++ cv).toList.toArray = fv ++ c.args.map a.eval ++ cv := by simp
              rw [e] at hcall
              refine hcall.mono ?_
              rintro e W' ⟨v, val, H', nm', ρ', rfl, hM, hmem, hblk, hden⟩
              refine hK _ ρ' _ W' hM ?_
              obtain ⟨d1, d2⟩ := dstB_ok hdst
              have hb : ∀ dd : Option Nat, Base C nt w0 ρe H' nm' ρ' (a.put dd val) W' := fun dd => ⟨h.base.mem.trans hmem, hblk, by cases dd <;> simp [Act.put, h.base.sz], by cases dd <;> exact h.base.df⟩
              cases dst with
              | none =>
                refine ⟨hb none, h.rgs, fun t s hs hr hg' => ?_, fun t s hs hr => ?_, h.cl⟩
                · obtain ⟨x, h1, h2⟩ := h.out t s hs hr hg'
                  exact ⟨x, den_le hmem.le.unD _ _ h1, h2⟩
                · obtain ⟨h1, h2⟩ := h.ins t s hs hr
                  exact ⟨fun hh => let ⟨x, k1, k2⟩ := h1 hh; ⟨x, den_le hmem.le.unD _ _ k1, k2⟩, h2⟩
              | some d =>
                obtain ⟨hd1, hfr⟩ := d2 d rfl
                have hdl : d < a.tmps.size := by rw [h.base.sz]; exact hd1
                exact h.put hmem.le.unD hfr (fun p hp => by cases hp) ⟨fun _ => ⟨val, hden, put_self hdl⟩, fun hn => absurd (holds_nil _) hn⟩ (hb (some d))
            · cases hs
          · cases hs
        · cases hs
      · cases hs
    · cases hs
  · cases hs

theorem run_nil_slice {P : Program} {w : World} {d : Nat} {t e : TypeId} {ad : Option Addr} {l c : Nat} (ht : P.underlying t = some (.slice e)) : (Op.equalIn (d + 1) t (.slice ad l c) (.slice none 0 0)).run P w = .ok ad.isNone w := by
  cases ad <;> simp [Op.equalIn, run_underlying ht]
theorem nilLen_ok {u : SV} {n : Nat} {y : Value} (h : nilLen u = some n) (hd : den ρ u y) : ∃ a l c, y = .slice a l c ∧ (a = none → n = 0) := by
  unfold nilLen at h
  split at h
  · rename_i m i sz off n'
    obtain rfl := Option.some.inj h
    obtain ⟨l, h1, h3, h4, a', rfl, h6⟩ := hd
    refine ⟨a', _, _, rfl, fun ha => ?_⟩
    rcases Nat.eq_zero_or_pos (l.cap - off) with h0 | h0
    · omega
    · obtain ⟨b, -, k2⟩ := h6 (by omega)
      rw [ha] at k2; cases k2
  · obtain rfl := Option.some.inj h
    obtain ⟨a, rfl⟩ := hd
    exact ⟨a, 0, 0, rfl, fun _ => rfl⟩
  · rename_i sz n' f
    obtain rfl := Option.some.inj h
    obtain ⟨a, cap, rfl, h2, h3⟩ := hd
    refine ⟨a, _, cap, rfl, fun ha => ?_⟩
    rcases Nat.eq_zero_or_pos n' with h0 | h0
    · exact h0
    · obtain ⟨b, o, u, k1, -⟩ := h3 0 h0
      rw [ha] at k1; cases k1
  · rename_i m e sz off n'
    obtain rfl := Option.some.inj h
    obtain ⟨l, h1, h2, h3, h4, a', rfl, h6⟩ := hd
    refine ⟨a', _, _, rfl, fun ha => ?_⟩
    rcases Nat.eq_zero_or_pos (l.cap - off) with h0 | h0
    · omega
    · obtain ⟨b, -, k2⟩ := h6 (by omega)
      rw [ha] at k2; cases k2
  · cases h
theorem isNilS_ok {v : SV} {y : Value} (h : isNilS v = true) (hd : den ρ v y) : y = .slice none 0 0 := by
  unfold isNilS at h
  split at h
  · exact hd
  · cases h
theorem nil_step {ops : Array Oper} {st : St} {o : Oper} {k n : Nat} {neg : Bool} {Q : Exit → Act → World → Prop} (h : RI C nt w0 ρe st ρ a W) (hs : nilOf C nt ops.toList st o = some (n, neg)) {M : St → Prop}
    (he : ∀ b : Bool, (b = true → n = 0) → M ⟨putS st.rg k [] (.v (.bool (b != neg))) o.dst st.sl, st.H, st.nm, st.rg, st.rd, st.ws⟩) {K : Act → World → Prop} (hK : ∀ st' ρ' a' W', M st' → RI C nt w0 ρe st' ρ' a' W' → K a' W') :
    if Region.wanted o (yielded ops a.tmps) = true then Oper.wp C.P o a W K Q else K (a.put o.dst undef) W := by
  obtain ⟨dst, oo, ty, pos, after, guard⟩ := o
  unfold nilOf at hs
  split at hs
  · rename_i bo t x y yt hoo
    obtain rfl : oo = .binOp bo t x y yt := hoo
    split at hs
    · rename_i ng ei hng hei hg hdst
      split at hs
      · rename_i u v hu hv
        split at hs
        · rename_i n' hb hnl
          obtain ⟨rfl, rfl⟩ := Prod.mk.inj (Option.some.inj hs)
          obtain ⟨c1, -, -⟩ := guard_case h hg
          rw [if_pos (c1.2 (holds_nil a))]
          have hop := opIn_ok (heads := ops.toList) (k := 0) (o := ⟨dst, .binOp bo t x y yt, ty, pos, after, guard⟩) h (holds_nil a)
          obtain ⟨ad, l, c, e1, h0⟩ := nilLen_ok hnl (hop.get hu)
          have e2 := isNilS_ok hb (hop.get hv)
          obtain ⟨inf, z, ht, -⟩ := elemT_ok (e := ei.1) (ei := ei.2) hei
          have heq : (Op.equal t (.slice ad l c) (.slice none 0 0)).run C.P W = .ok ad.isNone W := by
            show (Op.equalIn (9999 + 1) t (.slice ad l c) (.slice none 0 0)).run C.P W = _
            exact run_nil_slice ht
          have hrun : (execOp a.eval ⟨dst, .binOp bo t x y yt, ty, pos, after, guard⟩).run C.P W = .ok (.value (.bool (ad.isNone != ng))) W := by
            refine ex_bin ?_ ?_
            · rw [e1, e2]
              unfold eqGuard
              cases bo <;> rfl
            · rw [e1, e2]
              cases bo <;> simp only [nilOp] at hng <;> first
                | (cases hng; done)
                | (obtain rfl := Option.some.inj hng
                   show (do pure (.bool (← Op.equal t (.slice ad l c) (.slice none 0 0))) : Sem Value).run C.P W = _
                   simp only [Sem.run_bind, heq, Result.andThen_ok, Sem.run_pure, Bool.bne_false])
                | (obtain rfl := Option.some.inj hng
                   show (do pure (.bool (!(← Op.equal t (.slice ad l c) (.slice none 0 0)))) : Sem Value).run C.P W = _
                   simp only [Sem.run_bind, heq, Result.andThen_ok, Sem.run_pure, Bool.bne_true])
          refine wp_val hrun (hK _ ρ _ W (he ad.isNone fun hn => h0 (by simpa using hn)) ?_)
          obtain ⟨d1, d2⟩ := dstB_ok hdst
          have hb' : ∀ dd : Option Nat, Base C nt w0 ρe st.H st.nm ρ (a.put dd (.bool (ad.isNone != ng))) W := fun dd => h.base.same (Gr.refl W)
          cases dst with
          | none => exact ⟨hb' none, h.rgs, h.out, h.ins, h.cl⟩
          | some d =>
            obtain ⟨hd1, hfr⟩ := d2 d rfl
            have hdl : d < a.tmps.size := by rw [h.base.sz]; exact hd1
            exact h.put (.refl _) hfr (fun p hp => by cases hp) ⟨fun _ => ⟨_, rfl, put_self hdl⟩, fun hn => absurd (holds_nil _) hn⟩ (hb' (some d))
        · cases hs
      · cases hs
    · cases hs
  · cases hs

theorem hasSl_ok {ρ : Names} : ∀ {x : List SV} {u : List Value}, hasSl x = true → denL ρ x u → ∃ c : Value, u[0]? = some c
  | [], u, h, _ => by cases h
  | x :: r, u, h, hd => by
    obtain ⟨a, b, rfl, h1, h2⟩ := denL_cons hd
    exact ⟨a, rfl⟩
theorem rp_plain {W : World} {ρ : Names} (hb : HB C ρ W) {x : List SV} {i : Nat} {v : Value} (h : hasSl x = true) (hd : den ρ (.rp x i) v) : ∃ b o u, v = .pointer (some ⟨b, o + i, none⟩) ∧ denL ρ.zo x u ∧ (∀ k c, u[k]? = some c → ρ.z b (o + k) c) ∧ plainB W b ∧ ∃ j c, ρ.z b j c := by
  obtain ⟨b, o, u, e, h1, h2⟩ := hd
  obtain ⟨c, h3⟩ := hasSl_ok h h1
  exact ⟨b, o, u, e, h1, h2, (hb.zok b _ c (h2 0 c h3)).2.2, _, c, h2 0 c h3⟩
theorem lay_plain {W : World} {ρ : Names} {H : Heap} (hH : HOk C H ρ W) {n i : Nat} {v : Value} (h : isLay H n = true) (hd : den ρ (.p n i) v) : ∃ b, v = .pointer (some ⟨b, i, none⟩) ∧ ρ.n n = some b ∧ plainB W b ∧ ∀ i c, ¬ ρ.z b i c := by
  unfold isLay at h
  split at h
  · rename_i cs t hl
    obtain ⟨b, e1, e2⟩ := hd
    obtain ⟨b', vs, k1, -, k3, -, k5⟩ := hH.blk n _ hl
    rw [e1] at k1
    obtain rfl := Option.some.inj k1
    exact ⟨b, e2, e1, ⟨_, _, k3⟩, k5⟩
  · cases h
/-- Pointers into plain blocks are compared. -/
theorem run_ptr_eq {P : Program} {w : World} {d : Nat} {t e : TypeId} {ei : TypeInfo} {a b : Addr} (ht : P.underlying t = some (.pointer e)) (hi : P.info? e = some ei) (hs : ei.size ≠ 0) (ha : plainB w a.block) (hb : plainB w b.block) :
    (Op.equalIn (d + 1) t (.pointer (some a)) (.pointer (some b))).run P w = .ok (decide (a = b)) w := by
  obtain ⟨ca, ta, ha⟩ := ha
  obtain ⟨cb, tb, hb⟩ := hb
  by_cases hab : a = b
  · subst hab
    simp [Op.equalIn, run_underlying ht, sizeOf, typeInfo, hi, hs, run_sameAddr_same]
  · simp [Op.equalIn, run_underlying ht, sizeOf, typeInfo, hi, hs, run_sameAddr_other w hab ha hb, hab]
theorem ptr_pair {H : Heap} {W : World} {ρ : Names} (hH : HOk C H ρ W) {u v : SV} {y1 y2 : Value} {p : PC} (h : ptrPair H u v = some p) (h1 : den ρ u y1) (h2 : den ρ v y2) :
    ∃ a b : Addr, y1 = .pointer (some a) ∧ y2 = .pointer (some b) ∧ plainB W a.block ∧ plainB W b.block ∧ p.has (decide (a = b)) := by
  unfold ptrPair at h
  split at h
  · rename_i n i m j
    split at h
    · rename_i k1 k2
      obtain rfl := Option.some.inj h
      obtain ⟨b1, rfl, n1, p1, -⟩ := lay_plain hH k1 h1
      obtain ⟨b2, rfl, n2, p2, -⟩ := lay_plain hH k2 h2
      refine ⟨_, _, rfl, rfl, p1, p2, ?_⟩
      show decide _ = _
      by_cases hnm : n = m
      · subst hnm
        rw [n1] at n2
        obtain rfl := Option.some.inj n2
        simp only [Nat.beq_refl, Addr.mk.injEq, true_and, and_true]
        by_cases hij : i = j
        · subst hij; simp
        · have : Nat.beq i j = false := by
            cases hq : Nat.beq i j with
            | false => rfl
            | true => exact absurd (Nat.eq_of_beq_eq_true hq) hij
          rw [this]; simp [hij]
      · have : Nat.beq n m = false := by
          cases hq : Nat.beq n m with
          | false => rfl
          | true => exact absurd (Nat.eq_of_beq_eq_true hq) hnm
        rw [this]
        have hne : b1 ≠ b2 := fun e => hnm (hH.hb.own n m b1 (.inl n1) (.inl (by rw [e]; exact n2)))
        simp [hne]
    · cases h
  · rename_i n i y j
    split at h
    · rename_i k1 k2
      obtain rfl := Option.some.inj h
      obtain ⟨b1, rfl, n1, p1, q1⟩ := lay_plain hH k1 h1
      obtain ⟨b2, o, u', rfl, -, -, p2, j', c', q2⟩ := rp_plain hH.hb k2 h2
      refine ⟨_, _, rfl, rfl, p1, p2, ?_⟩
      have hne : b1 ≠ b2 := fun e => q1 j' c' (by rw [e]; exact q2)
      show decide _ = false
      simp [hne]
    · cases h
  · rename_i x i m j
    split at h
    · rename_i k1 k2
      obtain rfl := Option.some.inj h
      obtain ⟨b1, rfl, n1, p1, q1⟩ := lay_plain hH k1 h2
      obtain ⟨b2, o, u', rfl, -, -, p2, j', c', q2⟩ := rp_plain hH.hb k2 h1
      refine ⟨_, _, rfl, rfl, p2, p1, ?_⟩
      have hne : b2 ≠ b1 := fun e => q1 j' c' (by rw [← e]; exact q2)
      show decide _ = false
      simp [hne]
    · cases h
  · rename_i x i y j
    split at h
    · rename_i k1 k2
      obtain rfl := Option.some.inj h
      obtain ⟨b1, o1, u1, rfl, d1, z1, p1, -⟩ := rp_plain hH.hb k1 h1
      obtain ⟨b2, o2, u2, rfl, d2, z2, p2, -⟩ := rp_plain hH.hb k2 h2
      refine ⟨_, _, rfl, rfl, p1, p2, fun e => ?_⟩
      have e' := of_decide_eq_true e
      simp only [Addr.mk.injEq, and_true] at e'
      obtain ⟨rfl, e'⟩ := e'
      refine ⟨ρ.z, b1, o1, o2, u1, u2, fun b i c d h1 h2 => ?_, e', d1, d2, z1, z2⟩
      have e1 := (hH.hb.zok b i c h1).1
      have e2 := (hH.hb.zok b i d h2).1
      rw [e1] at e2
      exact Option.some.inj e2
    · cases h
  · rename_i m e sz i off y j
    split at h
    · rename_i r k1 k2
      obtain rfl := Option.some.inj h
      obtain ⟨N, f, ty⟩ := r
      obtain ⟨l, b1, l1, l2, l3, l4, l5, rfl⟩ := h1
      obtain ⟨l', q1, q2, q3, q4, q5⟩ := hH.blk m _ (lsts_ok k1)
      rw [l1] at q1
      obtain rfl := Option.some.inj q1
      obtain ⟨b', u, r1, r2, -, -, r5, -⟩ := q5 (by omega)
      rw [l5] at r1
      obtain rfl : b1 = b' := by injection r1 with r1; injection r1
      obtain ⟨b2, o, u', rfl, -, -, p2, j', c', z2⟩ := rp_plain hH.hb k2 h2
      refine ⟨_, _, rfl, rfl, ⟨_, _, r2⟩, p2, ?_⟩
      have hne : b1 ≠ b2 := fun e => r5 j' c' (by rw [e]; exact z2)
      show decide _ = false
      simp [hne]
    · cases h
  · cases h
theorem ptr_step {ops : Array Oper} {st : St} {o : Oper} {k : Nat} {p : PC} {neg : Bool} {Q : Exit → Act → World → Prop} (h : RI C nt w0 ρe st ρ a W) (hs : ptrOf C nt ops.toList st o = some (p, neg)) {M : St → Prop}
    (he : ptrK st.sl st.H st.nm st.rg st.rd st.ws k o.dst neg M p) {K : Act → World → Prop} (hK : ∀ st' ρ' a' W', M st' → RI C nt w0 ρe st' ρ' a' W' → K a' W') :
    if Region.wanted o (yielded ops a.tmps) = true then Oper.wp C.P o a W K Q else K (a.put o.dst undef) W := by
  obtain ⟨dst, oo, ty, pos, after, guard⟩ := o
  unfold ptrOf at hs
  split at hs
  · rename_i bo t x y yt hoo
    obtain rfl : oo = .binOp bo t x y yt := hoo
    split at hs
    · rename_i ng ti hng hti hg hdst
      split at hs
      · rename_i u v hk hu hv
        split at hs
        · rename_i p' hp
          obtain ⟨rfl, rfl⟩ := Prod.mk.inj (Option.some.inj hs)
          obtain ⟨c1, -, -⟩ := guard_case h hg
          rw [if_pos (c1.2 (holds_nil a))]
          have hop := opIn_ok (heads := ops.toList) (k := 0) (o := ⟨dst, .binOp bo t x y yt, ty, pos, after, guard⟩) h (holds_nil a)
          obtain ⟨a1, a2, e1, e2, p1, p2, hh⟩ := ptr_pair h.base.hok hp (hop.get hu) (hop.get hv)
          obtain ⟨i, d, z, hi, hdd, hss, hz, hzz, hkk, -⟩ := (C.ty hti).ex
          have hd : ∃ e ei, d = .pointer e ∧ C.P.info? e = some ei ∧ ei.size ≠ 0 := by
            unfold ptrTo at hk
            split at hk
            · rename_i e htk
              rw [htk] at hkk
              split at hk
              · rename_i te hte
                obtain ⟨ie, de, ze, hie, -, hse, -⟩ := (C.ty hte).ex
                cases d <;> first | (simp [kindEq] at hkk; done) | skip
                rename_i e'
                obtain rfl : e' = e := by simpa [kindEq] using hkk
                refine ⟨_, ie, rfl, hie, ?_⟩
                rw [hse]
                split at hk
                · cases hk
                · rename_i hz; rw [hz]; omega
              · cases hk
            · cases hk
          obtain ⟨e, ei, rfl, hei, hsz⟩ := hd
          have heq : (Op.equal t (.pointer (some a1)) (.pointer (some a2))).run C.P W = .ok (decide (a1 = a2)) W := by
            show (Op.equalIn (9999 + 1) t (.pointer (some a1)) (.pointer (some a2))).run C.P W = _
            exact run_ptr_eq hdd hei hsz p1 p2
          have hrun : (execOp a.eval ⟨dst, .binOp bo t x y yt, ty, pos, after, guard⟩).run C.P W = .ok (.value (.bool (decide (a1 = a2) != ng))) W := by
            refine ex_bin ?_ ?_
            · rw [e1, e2]; exact guard_ptr
            · rw [e1, e2]
              cases bo <;> simp only [nilOp] at hng <;> first
                | (cases hng; done)
                | (obtain rfl := Option.some.inj hng
                   show (do pure (.bool (← Op.equal t (.pointer (some a1)) (.pointer (some a2)))) : Sem Value).run C.P W = _
                   simp only [Sem.run_bind, heq, Result.andThen_ok, Sem.run_pure, Bool.bne_false])
                | (obtain rfl := Option.some.inj hng
                   show (do pure (.bool (!(← Op.equal t (.pointer (some a1)) (.pointer (some a2))))) : Sem Value).run C.P W = _
                   simp only [Sem.run_bind, heq, Result.andThen_ok, Sem.run_pure, Bool.bne_true])
          obtain ⟨sv, hsv, hM⟩ : ∃ sv : SV, den ρ sv (.bool (decide (a1 = a2) != ng)) ∧ M ⟨putS st.rg k [] sv dst st.sl, st.H, st.nm, st.rg, st.rd, st.ws⟩ := by
            cases p' with
            | lit c =>
              simp only [ptrK, putSf_eq] at he
              have hc : decide (a1 = a2) = c := hh
              exact ⟨.bl (c != ng), by rw [hc]; rfl, he⟩
            | un x y i j =>
              simp only [ptrK, putSf_eq] at he
              exact ⟨.v (.bool (decide (a1 = a2) != ng)), rfl, he _ hh⟩
          refine wp_val hrun (hK _ ρ _ W hM ?_)
          obtain ⟨d1, d2⟩ := dstB_ok hdst
          have hb' : ∀ dd : Option Nat, Base C nt w0 ρe st.H st.nm ρ (a.put dd (.bool (decide (a1 = a2) != ng))) W := fun dd => h.base.same (Gr.refl W)
          cases dst with
          | none => exact ⟨hb' none, h.rgs, h.out, h.ins, h.cl⟩
          | some d =>
            obtain ⟨hd1, hfr⟩ := d2 d rfl
            have hdl : d < a.tmps.size := by rw [h.base.sz]; exact hd1
            exact h.put (.refl _) hfr (fun p hp => by cases hp) ⟨fun _ => ⟨_, hsv, put_self hdl⟩, fun hn => absurd (holds_nil _) hn⟩ (hb' (some d))
        · cases hs
      · cases hs
    · cases hs
  · cases hs

theorem evOp_ok {ops : Array Oper} {Q : Exit → Act → World → Prop} (hI : InlOk C I) {k : Nat} {o : Oper} {st : St} {M : St → Prop} (h : RI C nt w0 ρe st ρ a W) (he : evOp Γ nt I inls ops.toList k o st M)
    {K : Act → World → Prop} (hK : ∀ st' ρ' a' W', M st' → RI C nt w0 ρe st' ρ' a' W' → K a' W') :
    if Region.wanted o (yielded ops a.tmps) = true then Oper.wp C.P o a W K Q else K (a.put o.dst undef) W := by
  obtain ⟨sl, H, nm, rg, rd, ws⟩ := st
  simp only [evOp] at he
  split at he
  · rename_i hs
    simp only [putSf_eq, forceL_eq] at he
    exact inl_step (M := M) hI h hs he hK
  · rename_i hs
    split at he
    · rename_i n neg hs
      simp only [putSf_eq] at he
      exact nil_step (k := k) (M := M) h hs he hK
    · split at he
      · rename_i p neg hs
        exact ptr_step (k := k) (M := M) h hs he hK
      · split at he
        · cases he
        · rename_i st' ob hs
          obtain ⟨h1, h2⟩ := also_ok he
          exact step_seq h hs h1 fun ρ' a' W' h' => hK _ _ _ _ h2 h'
theorem gdLit_ok {st : St} {t : Nat} {b : Bool} (h : RI C nt w0 ρe st ρ a W) (e : gdLit st.rg st.sl t = some b) : a.tmps[t]? = some (.bool b) ∧ ∃ s, look st.sl t = some s ∧ s.rg = st.rg := by
  unfold gdLit at e
  split at e
  · cases e
  · rename_i srg sk sg v hs
    split at e
    · rename_i b' hb
      obtain rfl := Option.some.inj e
      have hr := Nat.eq_of_beq_eq_true hb
      obtain ⟨x, h1, h2⟩ := (h.ins t _ hs hr).1 (holds_nil a)
      obtain rfl : x = .bool b' := h1
      exact ⟨h2, _, hs, hr⟩
    · cases e
def GD.Ok (ops : Array Oper) (a : Act) (st : St) (o : Oper) : GD → Prop
  | .plain => True
  | .go _ => Region.wanted o (yielded ops a.tmps) = true
  | .skip g => ¬ Region.wanted o (yielded ops a.tmps) = true ∧ ¬ holds a g ∧ ∀ p ∈ g, ∃ s', look st.sl p.1 = some s' ∧ s'.rg = st.rg
  | .both t _ pol b => (Region.wanted o (yielded ops a.tmps) = true ↔ b = pol) ∧ a.tmps[t]? = some (.bool b) ∧ ∃ s, look st.sl t = some s ∧ s.rg = st.rg ∧ s.g = []
theorem gdOf_ok {ops : Array Oper} {st : St} {o : Oper} (h : RI C nt w0 ρe st ρ a W) : (gdOf ops.toList st.rg st.sl o).Ok ops a st o := by
  unfold gdOf
  split
  · trivial
  rename_i j pol hg
  split
  · trivial
  rename_i oj hj
  split
  · trivial
  rename_i t ht
  split
  · trivial
  rename_i srg sk sg v hs
  split
  rotate_left
  · trivial
  rename_i hr hk
  have hr := Nat.eq_of_beq_eq_true hr
  have hw := wanted_some (a := a) hg hj ht
  split
  · obtain ⟨x, h1, h2⟩ := (h.ins t _ hs hr).1 (holds_nil a)
    split
    · rename_i b
      obtain rfl : x = .bool b := h1
      split
      · rename_i hb
        exact hw.2 (by rw [h2, eq_of_beq hb])
      · rename_i hb
        have hne : ¬ a.tmps[t]? = some (.bool pol) := fun e => by
          rw [h2] at e
          injection e with e
          injection e with e
          rw [e] at hb
          simp at hb
        refine ⟨fun c => hne (hw.1 c), fun c => hne (c (t, pol) List.mem_cons_self), fun p hp => ?_⟩
        obtain rfl : p = (t, pol) := by simpa using hp
        exact ⟨_, hs, hr⟩
    · rename_i b
      obtain rfl : x = .bool b := h1
      refine ⟨⟨fun c => ?_, fun c => hw.2 (by rw [h2, c])⟩, h2, _, hs, hr, rfl⟩
      have := hw.1 c
      rw [h2] at this
      injection this with e
      injection e with e
    · trivial
  · rename_i t' pol' g'
    split
    · rename_i b hb
      split
      · trivial
      · rename_i hne
        obtain ⟨k1, s', k2, k3⟩ := gdLit_ok h hb
        have hn : ∀ g : List (Nat × Bool), (t', pol') ∈ g → ¬ holds a g := fun g hg c => by
          have := c _ hg
          rw [k1] at this
          injection this with e
          injection e with e
          rw [e] at hne
          simp at hne
        have hu := (h.ins t _ hs hr).2 (hn _ List.mem_cons_self)
        refine ⟨fun c => ?_, hn _ List.mem_cons_self, fun p hp => ?_⟩
        · have := hw.1 c
          rw [hu] at this
          simp [undef] at this
        · obtain rfl : p = (t', pol') := by simpa using hp
          exact ⟨s', k2, k3⟩
    · trivial
theorem bare_wp {P : Program} {o : Oper} {K : Act → World → Prop} {Q : Exit → Act → World → Prop} : Oper.wp P (bare o) a W K Q = Oper.wp P o a W K Q := by
  obtain ⟨dst, op, ty, pos, after, guard⟩ := o
  rfl
theorem evSkip_ok {k : Nat} {g : List (Nat × Bool)} {o : Oper} {st : St} {M : St → Prop} (h : RI C nt w0 ρe st ρ a W) (he : evSkip nt k g o st M) (hn : ¬ holds a g) (hcl : ∀ p ∈ g, ∃ s', look st.sl p.1 = some s' ∧ s'.rg = st.rg)
    {K : Act → World → Prop} (hK : ∀ st' ρ' a' W', M st' → RI C nt w0 ρe st' ρ' a' W' → K a' W') : K (a.put o.dst undef) W := by
  obtain ⟨sl, H, nm, rg, rd, ws⟩ := st
  simp only [evSkip] at he
  split at he
  · rename_i hd
    simp only [putSf_eq] at he
    refine hK _ ρ _ W he ?_
    obtain ⟨d1, d2⟩ := dstB_ok hd
    have hb' : ∀ dd : Option Nat, Base C nt w0 ρe H nm ρ (a.put dd undef) W := fun dd => h.base.same (Gr.refl W)
    cases ho : o.dst with
    | none => exact ⟨hb' none, h.rgs, h.out, h.ins, h.cl⟩
    | some d =>
      obtain ⟨hd1, hfr⟩ := d2 d ho
      have hdl : d < a.tmps.size := by rw [h.base.sz]; exact hd1
      refine h.put (.refl _) hfr hcl ⟨fun hh => absurd ?_ hn, fun _ => put_self hdl⟩ (hb' (some d))
      intro p hp
      obtain ⟨s', k1, k2⟩ := hcl p hp
      have hne : d ≠ p.1 := fun e => freshIn_ok hfr (by rw [e]; exact k1) k2
      rw [← put_other hne (x := undef)]
      exact hh p hp
  · cases he
theorem RI.lit {sl : List (Nat × Slot)} {H : Heap} {nm rg j t : Nat} {rd ws : List (Nat × Nat)} {b : Bool} {s : Slot} (h : RI C nt w0 ρe ⟨sl, H, nm, rg, rd, ws⟩ ρ a W) (hs : look sl t = some s) (hr : s.rg = rg) (hb : a.tmps[t]? = some (.bool b)) :
    RI C nt w0 ρe ⟨(t, ⟨rg, j, [], .bl b⟩) :: sl, H, nm, rg, rd, ws⟩ ρ a W := by
  have hin : ∀ t', (∃ s', look sl t' = some s' ∧ s'.rg = rg) → ∃ s', look ((t, (⟨rg, j, [], .bl b⟩ : Slot)) :: sl) t' = some s' ∧ s'.rg = rg := fun t' ⟨s', k1, k2⟩ => by
    by_cases e : t = t'
    · subst e
      exact ⟨_, look_cons_eq _ _ _, rfl⟩
    · exact ⟨s', by rw [look_cons_ne _ _ e]; exact k1, k2⟩
  refine ⟨h.base, fun t' s' hs' => ?_, fun t' s' hs' hr' hg => ?_, fun t' s' hs' hr' => ?_, fun t' s' hs' hr' p hp => ?_⟩
  · by_cases e : t = t'
    · subst e
      rw [look_cons_eq] at hs'
      obtain rfl := Option.some.inj hs'
      exact Nat.le_refl _
    · rw [look_cons_ne _ _ e] at hs'
      exact h.rgs t' s' hs'
  · by_cases e : t = t'
    · subst e
      rw [look_cons_eq] at hs'
      obtain rfl := Option.some.inj hs'
      exact absurd rfl hr'
    · rw [look_cons_ne _ _ e] at hs'
      exact h.out t' s' hs' hr' hg
  · by_cases e : t = t'
    · subst e
      rw [look_cons_eq] at hs'
      obtain rfl := Option.some.inj hs'
      exact ⟨fun _ => ⟨_, rfl, hb⟩, fun hn => absurd (holds_nil _) hn⟩
    · rw [look_cons_ne _ _ e] at hs'
      exact h.ins t' s' hs' hr'
  · refine hin p.1 ?_
    by_cases e : t = t'
    · subst e
      rw [look_cons_eq] at hs'
      obtain rfl := Option.some.inj hs'
      cases hp
    · rw [look_cons_ne _ _ e] at hs'
      exact h.cl t' s' hs' hr' p hp
theorem dropA_holds {a : Act} {t : Nat} {pol : Bool} (hb : a.tmps[t]? = some (.bool pol)) : ∀ {g : List (Nat × Bool)}, holds a (dropA t pol g) ↔ holds a g
  | [] => Iff.rfl
  | (t', p') :: r => by
    have ih := dropA_holds hb (g := r)
    simp only [dropA]
    split
    · rename_i h1 h2
      obtain rfl := Nat.eq_of_beq_eq_true h1
      have h2 : p' = pol := by cases p' <;> cases pol <;> first | rfl | cases h2
      subst h2
      rw [ih]
      exact ⟨fun h p hp => by
        rcases List.mem_cons.1 hp with rfl | hp
        · exact hb
        · exact h p hp, fun h p hp => h p (List.mem_cons_of_mem _ hp)⟩
    · constructor
      · intro h p hp
        rcases List.mem_cons.1 hp with rfl | hp
        · exact h _ List.mem_cons_self
        · exact (ih.1 fun q hq => h q (List.mem_cons_of_mem _ hq)) p hp
      · intro h p hp
        rcases List.mem_cons.1 hp with rfl | hp
        · exact h _ List.mem_cons_self
        · exact (ih.2 fun q hq => h q (List.mem_cons_of_mem _ hq)) p hp
theorem dropA_sub {t : Nat} {pol : Bool} : ∀ {g : List (Nat × Bool)} {p : Nat × Bool}, p ∈ dropA t pol g → p ∈ g
  | [], p, h => h
  | (t', p') :: r, p, h => by
    simp only [dropA] at h
    split at h
    · exact List.mem_cons_of_mem _ (dropA_sub h)
    · rcases List.mem_cons.1 h with rfl | h
      · exact List.mem_cons_self
      · exact List.mem_cons_of_mem _ (dropA_sub h)
theorem stripS_ok (rg t : Nat) (pol : Bool) (n : Nat) (s : Slot) : ∃ s', stripS rg t pol (n, s) = (n, s') ∧ s'.rg = s.rg ∧ s'.v = s.v ∧ (s'.g = s.g ∨ s.rg = rg ∧ s'.g = dropA t pol s.g) := by
  obtain ⟨srg, k, g, v⟩ := s
  simp only [stripS]
  split
  · exact ⟨_, rfl, rfl, rfl, .inl rfl⟩
  · split
    · exact ⟨_, rfl, rfl, rfl, .inl rfl⟩
    · rename_i hr
      exact ⟨_, rfl, rfl, rfl, .inr ⟨Nat.eq_of_beq_eq_true hr, rfl⟩⟩
theorem strip_look (rg t : Nat) (pol : Bool) (n : Nat) : ∀ (l : List (Nat × Slot)), (look l n = none ∧ look (l.map (stripS rg t pol)) n = none) ∨ ∃ s s', look l n = some s ∧ look (l.map (stripS rg t pol)) n = some s' ∧ s'.rg = s.rg ∧ s'.v = s.v ∧ (s'.g = s.g ∨ s.rg = rg ∧ s'.g = dropA t pol s.g)
  | [] => .inl ⟨rfl, rfl⟩
  | (m, s) :: r => by
    obtain ⟨s', e, h1, h2, h3⟩ := stripS_ok rg t pol m s
    rw [List.map_cons, e]
    by_cases hm : m = n
    · subst hm
      exact .inr ⟨s, s', look_cons_eq _ _ _, look_cons_eq _ _ _, h1, h2, h3⟩
    · rw [look_cons_ne _ _ hm, look_cons_ne _ _ hm]
      exact strip_look rg t pol n r
theorem ungSf_look (rg t : Nat) (pol : Bool) (n : Nat) {l l' : List (Nat × Slot)} (h : ungSf rg t pol l = some l') : (look l n = none ∧ look l' n = none) ∨ ∃ s s', look l n = some s ∧ look l' n = some s' ∧ s'.rg = s.rg ∧ s'.v = s.v ∧ (s'.g = s.g ∨ s.rg = rg ∧ s'.g = dropA t pol s.g) := by
  rw [ungSf_eq h]
  exact strip_look rg t pol n l
theorem RI.strip {sl sl' : List (Nat × Slot)} {H : Heap} {nm rg t : Nat} {rd ws : List (Nat × Nat)} {pol : Bool} (h : RI C nt w0 ρe ⟨sl, H, nm, rg, rd, ws⟩ ρ a W) (hb : a.tmps[t]? = some (.bool pol)) (hu : ungSf rg t pol sl = some sl') :
    RI C nt w0 ρe ⟨sl', H, nm, rg, rd, ws⟩ ρ a W := by
  have key : ∀ {n : Nat} {s' : Slot}, look sl' n = some s' → ∃ s, look sl n = some s ∧ s'.rg = s.rg ∧ s'.v = s.v ∧ (s'.g = s.g ∨ s.rg = rg ∧ s'.g = dropA t pol s.g) := fun {n s'} hs => by
    rcases ungSf_look rg t pol n hu with ⟨-, h2⟩ | ⟨s, s'', k1, k2, k3⟩
    · rw [h2] at hs; cases hs
    · rw [k2] at hs
      obtain rfl := Option.some.inj hs
      exact ⟨s, k1, k3⟩
  refine ⟨h.base, fun n s' hs => ?_, fun n s' hs hr hg => ?_, fun n s' hs hr => ?_, fun n s' hs hr p hp => ?_⟩
  · obtain ⟨s, k1, k2, -⟩ := key hs
    rw [k2]; exact h.rgs n s k1
  · obtain ⟨s, k1, k2, k3, k4⟩ := key hs
    rw [k3]
    rcases k4 with k4 | ⟨k4, -⟩
    · exact h.out n s k1 (by rw [← k2]; exact hr) (by rw [← k4]; exact hg)
    · exact absurd (k2.trans k4) hr
  · obtain ⟨s, k1, k2, k3, k4⟩ := key hs
    have hn := h.ins n s k1 (k2.symm.trans hr)
    rw [k3]
    rcases k4 with k4 | ⟨-, k4⟩
    · rw [k4]; exact hn
    · rw [k4]
      exact ⟨fun hh => hn.1 ((dropA_holds hb).1 hh), fun hh => hn.2 fun c => hh ((dropA_holds hb).2 c)⟩
  · obtain ⟨s, k1, k2, -, k4⟩ := key hs
    have hp' : p ∈ s.g := by
      rcases k4 with k4 | ⟨-, k4⟩
      · rw [← k4]; exact hp
      · rw [k4] at hp; exact dropA_sub hp
    obtain ⟨s0, q1, q2⟩ := h.cl n s k1 (k2.symm.trans hr) p hp'
    rcases ungSf_look rg t pol p.1 hu with ⟨h2, -⟩ | ⟨s1, s2, r1, r2, r3, -⟩
    · rw [q1] at h2; cases h2
    · rw [q1] at r1
      obtain rfl := Option.some.inj r1
      exact ⟨s2, r2, r3.trans q2⟩
theorem evG_ok {ops : Array Oper} {Q : Exit → Act → World → Prop} (hI : InlOk C I) {sp : Bool} {k : Nat} {o : Oper} {st : St} {M : St → Prop} (h : RI C nt w0 ρe st ρ a W) (he : evG Γ nt I inls ops.toList sp k o st M)
    {K : Act → World → Prop} (hK : ∀ st' ρ' a' W', M st' → RI C nt w0 ρe st' ρ' a' W' → K a' W') :
    if Region.wanted o (yielded ops a.tmps) = true then Oper.wp C.P o a W K Q else K (a.put o.dst undef) W := by
  obtain ⟨sl, H, nm, rg, rd, ws⟩ := st
  have hb : ∀ st ρ, RI C nt w0 ρe st ρ a W → evOp Γ nt I inls ops.toList k (bare o) st M → Oper.wp C.P o a W K Q := fun st ρ h he => by
    have := evOp_ok (Q := Q) hI h he hK
    rw [if_pos (wanted_none rfl), bare_wp] at this
    exact this
  cases sp with
  | false => exact evOp_ok hI h he hK
  | true =>
    simp only [evG] at he
    have hd := gdOf_ok (ops := ops) (o := o) h
    have hd : (gdOf ops.toList rg sl o).Ok ops a ⟨sl, H, nm, rg, rd, ws⟩ o := hd
    split at he
    · exact evOp_ok hI h he hK
    · rename_i heq
      rw [heq] at hd
      replace hd : Region.wanted o (yielded ops a.tmps) = true := hd
      rw [if_pos hd]
      exact hb _ _ h he
    · rename_i g heq
      rw [heq] at hd
      rw [if_neg hd.1]
      exact evSkip_ok h he hd.2.1 hd.2.2 hK
    · rename_i t j pol b heq
      rw [heq] at hd
      obtain ⟨d1, d2, s, d3, d4, d5⟩ := hd
      simp only [putSf_eq] at he
      by_cases e : b = pol
      · rw [if_pos (d1.2 e)]
        have he := he.1 e
        split at he
        · rename_i sl'' hu
          have hu : ungSf rg t pol ((t, ⟨rg, j, [], .bl pol⟩) :: sl) = some sl'' := hu
          have d2' : a.tmps[t]? = some (.bool pol) := by rw [← e]; exact d2
          exact hb _ _ ((h.lit (j := j) d3 d4 (b := pol) d2').strip d2' hu) he
        · exact he.elim
      · have e2 : b = !pol := by cases b <;> cases pol <;> first | rfl | exact absurd rfl e
        rw [if_neg fun c => e (d1.1 c)]
        have he := he.2 e2
        split at he
        rotate_left
        · exact he.elim
        rename_i sl'' hu
        have hu : ungSf rg t (!pol) ((t, ⟨rg, j, [], .bl (!pol)⟩) :: sl) = some sl'' := hu
        have d2' : a.tmps[t]? = some (.bool (!pol)) := by rw [← e2]; exact d2
        refine evSkip_ok ((h.lit d3 d4 (b := !pol) (j := j) d2').strip d2' hu) he (fun c => ?_) (fun p hp => ?_) hK
        · have := c (t, pol) List.mem_cons_self
          rw [d2, e2] at this
          cases pol <;> cases this
        · obtain rfl : p = (t, pol) := by simpa using hp
          rcases ungSf_look rg t (!pol) t hu with ⟨h2, -⟩ | ⟨s1, s2, r1, r2, r3, -⟩
          · rw [look_cons_eq] at h2; cases h2
          · rw [look_cons_eq] at r1
            obtain rfl := Option.some.inj r1
            exact ⟨s2, r2, r3⟩
theorem evSeq_ok {ops : Array Oper} {sp : Bool} {Q : Exit → Act → World → Prop} (hI : InlOk C I) {K : St → Prop} (hQ : ∀ st ρ a W, K st → RI C nt w0 ρe st ρ a W → Q .normal a W) :
    ∀ (r : List Oper) (k : Nat) (st : St) (ρ : Names) (a : Act) (W : World), RI C nt w0 ρe st ρ a W → evSeq Γ nt I inls ops.toList sp k r st K → wpList C.P ops Q r a W
  | [], k, st, ρ, a, W, h, he => hQ st ρ a W he h
  | o :: r, k, st, ρ, a, W, h, he => by
    simp only [evSeq, incB_eq] at he
    refine wpList_step fun K' hK' => ?_
    exact evG_ok hI h he fun st' ρ' a' W' hM h' => hK' _ _ (evSeq_ok hI hQ r (k + 1) st' ρ' a' W' h' hM)

/-- Where code is walked: in a function's own frame; in a round of a range over a function. -/
inductive Mode where
  | out
  | rnd (l : Nat)
def Mode.F : Mode → Fence
  | .out => Fence.wide
  | .rnd l => Fence.wide.inRound l
theorem Mode.fn (M : Mode) (f : FuncId) : M.F.fn f := by cases M <;> trivial
theorem Mode.depth (M : Mode) : M.F.depth = none := by cases M <;> rfl
def noDefer (o : Oper) : Bool := match o.op with | .defer _ => false | _ => true
theorem noDefer_ok {o : Oper} (h : noDefer o = true) (c : Call) : o.op ≠ .defer c := by
  intro e
  unfold noDefer at h
  rw [e] at h
  cases h
theorem callsM {M : Mode} {P : Program} {f : FuncId} {args : Array Value} {w : World} {R : Ending → World → Prop} (h : Calls P f args w R) : CallsIn M.F 0 P f args w R := by
  cases M with
  | out => exact callsIn_wide.2 h
  | rnd l => exact CallsIn.inRound l (callsIn_wide.2 h)
theorem operM {M : Mode} {P : Program} {o : Oper} {a : Act} {w : World} {K : Act → World → Prop} {Q : Exit → Act → World → Prop} (hd : noDefer o = true) (h : o.wp P a w K Q) : o.wpIn M.F 0 P a w K Q := by
  refine ⟨fun f _ => M.fn f, ?_⟩
  rw [Oper.semAt_eq _ _ _ (noDefer_ok hd)]
  unfold Oper.wp at h
  generalize (execOp a.eval o).run P w = r at h ⊢
  have hdep : ¬ M.F.depth.isSome = true := by rw [M.depth]; simp
  cases r with
  | ok x w' =>
    cases x with
    | value v => exact h
    | skip => exact h
    | defer d => exact h
    | enter f args =>
      have h : Calls P f args w' _ := h
      exact ⟨fun c => absurd c hdep, (callsM h).mono fun e w'' he => by cases e <;> exact he⟩
    | row row args =>
      have h : Rows P row args w' _ := h
      refine ⟨fun c => absurd c hdep, fun c cs _ => ?_⟩
      obtain ⟨v, w'', h1, h2⟩ := h c cs
      exact ⟨v, w'', h1, by cases M <;> exact stepsIn_wide.2 h2⟩
    | _ => exact h.elim
  | halt x w' => cases x <;> exact h
theorem listM {M : Mode} {P : Program} {ops : Array Oper} {Q : Exit → Act → World → Prop} (hQ : ¬ LetsOut Q) : ∀ {l : List Oper} {a : Act} {w : World}, (∀ o ∈ l, noDefer o = true) → wpList P ops Q l a w → wpListIn M.F 0 P ops Q l a w
  | [], _, _, _, h => h
  | o :: r, a, w, hd, h => by
    simp only [wpList] at h
    simp only [wpListIn]
    split
    · rename_i hw
      rw [if_pos hw] at h
      rcases h with h | h
      · exact Oper.wpIn_mono (fun a' w' h' => listM hQ (fun o ho => hd o (List.mem_cons_of_mem _ ho)) h') (operM (hd o List.mem_cons_self) h)
      · exact absurd h.2 hQ
    · rename_i hw
      rw [if_neg hw] at h
      exact ⟨fun f _ => M.fn f, listM hQ (fun o ho => hd o (List.mem_cons_of_mem _ ho)) h⟩
theorem opM {M : Mode} {P : Program} {ops : Array Oper} {Q : Exit → Act → World → Prop} (hQ : ¬ LetsOut Q) (hd : ∀ o ∈ ops.toList, noDefer o = true) {i : Nat} {K : Act → World → Prop} {a : Act} {w : World} (h : wpOp P ops Q i K a w) : wpOpIn M.F 0 P ops Q i K a w := by
  unfold wpOp at h
  unfold wpOpIn
  split
  · rename_i ho
    rw [ho] at h
    exact h
  · rename_i o ho
    rw [ho] at h
    simp only at h
    split
    · rename_i hw
      rw [if_pos hw] at h
      rcases h with h | h
      · exact operM (hd o (by simpa using Array.mem_of_getElem? ho)) h
      · exact absurd h.2 hQ
    · rename_i hw
      rw [if_neg hw] at h
      exact ⟨fun f _ => M.fn f, h⟩
theorem anyM {M : Mode} {P : Program} {ops : Array Oper} {md : Region.Mode} {Q : Exit → Act → World → Prop} (hQ : ¬ LetsOut Q) (hd : ∀ o ∈ ops.toList, noDefer o = true) : ∀ {r : Nat} {listed : Array Bool} {a : Act} {w : World}, wpAny P md ops Q r listed a w → wpAnyIn M.F 0 P md ops Q r listed a w
  | 0, _, _, _, h => h
  | r + 1, listed, a, w, h => ⟨h.1, fun i hi => wpOpIn_mono (fun a' w' h' => anyM hQ hd h') (opM hQ hd (h.2 i hi))⟩
theorem regionM_list {M : Mode} {P : Program} {id : Nat} {ops : Array Oper} {Q : Exit → Act → World → Prop} {a : Act} {w : World} (hQ : ¬ LetsOut Q) (hd : ops.toList.all noDefer = true) (h : wpList P ops Q ops.toList a w) : (Code.region id ops false).wpIn M.F 0 P Q a w :=
  wpIn_region_list (listM hQ (List.all_eq_true.1 hd) h)
theorem regionM_any {M : Mode} {P : Program} {id : Nat} {ops : Array Oper} {Q : Exit → Act → World → Prop} {a : Act} {w : World} (hQ : ¬ LetsOut Q) (hd : ops.toList.all noDefer = true) (hm : P.follows .mixedOrders = true) (h : wpAny P .any ops Q ops.size (Array.replicate ops.size false) a w.drew) : (Code.region id ops true).wpIn M.F 0 P Q a w :=
  wpIn_region_any hm (anyM hQ (List.all_eq_true.1 hd) h)
theorem regionM_inv {M : Mode} {P : Program} {ops : Array Oper} {Q : Exit → Act → World → Prop} {id n : Nat} {a : Act} {w : World} (hQ : ¬ LetsOut Q) (hd : ops.toList.all noDefer = true) (hm : P.follows .mixedOrders = true) (hB : headB ops n = true) (I : Array Bool → Act → World → Prop)
    (h0 : I (Array.replicate ops.size false) a w.drew)
    (step : ∀ (listed : Array Bool) (a : Act) (W : World) (i : Nat) (o : Oper), HeadInv .any ops n listed → I listed a W → i < n → ops[i]? = some o → listed.getD i false = false →
      (∀ e ∈ o.after, Region.binds .any e = true → listed.getD e.on false = true) → ∀ K : Act → World → Prop, (∀ a' W', I (listed.setIfInBounds i true) a' W' → K a' W') →
      if Region.wanted o (yielded ops a.tmps) = true then Oper.wp P o a W K Q else K (a.put o.dst undef) W)
    (fin : ∀ listed a W, I listed a W → (∀ i, i < n → listed.getD i false = true) → wpList P ops Q (ops.toList.drop n) a W) :
    (Code.region id ops true).wpIn M.F 0 P Q a w := regionM_any hQ hd hm (region_inv hB I h0 step fin)
theorem evRegion_ok {M : Mode} {ops : Array Oper} {full : Nat} {sp draw : Bool} {id : Nat} {Q : Exit → Act → World → Prop} {st : St} {K : St → Prop} (hI : InlOk C I) (hm : C.P.follows .mixedOrders = true) (hd : ops.toList.all noDefer = true) (hQ0 : ¬ LetsOut Q) (hB0 : regionB full ops draw = true) (h : Rp C nt w0 ρe st ρ a W) (he : evRegion Γ nt I inls full sp ops draw st K)
    (hQ : ∀ st ρ a W, K st → Rp C nt w0 ρe st ρ a W → Q .normal a W) : (Code.region id ops draw).wpIn M.F 0 C.P Q a W := by
  obtain ⟨sl, H, nm, rg, rd, ws⟩ := st
  have hi := h.enter
  have hQ' : ∀ st ρ a W, K st → RI C nt w0 ρe st ρ a W → Q .normal a W := fun st ρ a W hk hr => hQ st ρ a W hk hr.leave
  cases draw with
  | false =>
    simp only [evRegion, incB_eq] at he
    exact regionM_list hQ0 hd (evSeq_ok hI hQ' _ _ _ _ _ _ hi he)
  | true =>
    unfold evRegion at he
    simp only [incB_eq] at he
    have hB : headB ops (headLen full ops.toList) = true := hB0
    clear hB0
    rw [takeO_eq] at he
    have hle : headLen full ops.toList ≤ ops.toList.length := by
      generalize ops.toList = l
      have h0 : headLen0 full l ≤ l.length := by
        induction l with
        | nil => simp [headLen0]
        | cons o r ih => simp only [headLen0]; split <;> simp <;> omega
      unfold headLen
      split
      · rename_i hb; exact Nat.le_of_ble_eq_true hb
      · exact h0
    generalize headLen full ops.toList = n at he hB hle
    have hlen : (ops.toList.take n).length = n := by rw [List.length_take]; omega
    obtain ⟨hrun, hK⟩ := evOps_at _ (l := ops.toList.take n) (st0 := ⟨sl, H, nm, rg + 1, [], []⟩) (ops.toList.take n) 0 (fun j => by simp) (by simp) he
    have F : Fixed Γ nt ops.toList (ops.toList.take n) ⟨sl, H, nm, rg + 1, [], []⟩ (stAt (stepIn Γ nt true ops.toList (ops.toList.take n)) (ops.toList.take n) ⟨sl, H, nm, rg + 1, [], []⟩) :=
      ⟨rfl, fun i o ho => hrun i o (Nat.zero_le _) ho, fun t s hs => by
        have : s.rg ≤ rg := h.rgs t s hs
        show s.rg ≠ rg + 1
        omega, fun i o ho => by
        have hl : i < n := by have := (List.getElem?_eq_some_iff.1 ho).1; omega
        rwa [List.getElem?_take_of_lt hl] at ho⟩
    have hid : RI C nt w0 ρe ⟨sl, H, nm, rg + 1, [], []⟩ ρ a W.drew := ⟨hi.base.same (dst := none) (x := undef) ((Gr.refl W).drew), hi.rgs, hi.out, hi.ins, hi.cl⟩
    refine regionM_inv (n := n) hQ0 hd hm hB (fun listed a' W' => ∃ ρ', HI C nt w0 ρe (ops.toList.take n) ⟨sl, H, nm, rg + 1, [], []⟩ (stAt (stepIn Γ nt true ops.toList (ops.toList.take n)) (ops.toList.take n) ⟨sl, H, nm, rg + 1, [], []⟩) ρ a listed ρ' a' W')
      ⟨ρ, head_start F hi (fun i => getD_replicate_false _ i)⟩ ?_ ?_
    · intro listed a' W' i o inv hI' hin ho hu hdep K' hK'
      have hho : (ops.toList.take n)[i]? = some o := by rw [List.getElem?_take_of_lt hin]; simpa using ho
      exact head_step F hlen hid listed a' W' i o inv hI' hin ho hho hu hdep K' hK'
    · intro listed a' W' ⟨ρ', hI'⟩ hall
      exact evSeq_ok hI hQ' _ _ _ ρ' a' W' (head_done F hid hI' (by rw [hlen]; exact hall)) hK
end
end Go.Proofs.YtcojfohjdibjjaaGreatDoor
