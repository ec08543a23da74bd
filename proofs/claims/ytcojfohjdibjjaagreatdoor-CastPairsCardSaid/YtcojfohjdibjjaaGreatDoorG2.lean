/- A symbolic executor with lists, 3: numbers; what an operation yields. -/
import Derived.Test.YtcojfohjdibjjaaGreatDoorG1
namespace Go.Proofs.YtcojfohjdibjjaaGreatDoor
open Go.RowKit

/-- What an operation yields: what is owed, the value, the block that it writes, whether that takes a new name. -/
structure DR where
  ob : Option Prop
  v : SV
  w : Option (Nat × SB)
  fr : Bool

def owed : Option Prop → Prop
  | none => True
  | some p => p
def DR.Ob (r : DR) : Prop := owed r.ob
def dv (v : SV) : Option DR := some ⟨none, v, none, false⟩
def dvo (p : Prop) (v : SV) : Option DR := some ⟨some p, v, none, false⟩

def InR (n : Int) : Prop := -9223372036854775808 ≤ n ∧ n ≤ 9223372036854775807
theorem InR.wrap {n : Int} (h : InR n) : IntKind.i64.wrap n = n := by
  have e1 : ((2 : Int) ^ IntKind.i64.bits) = 18446744073709551616 := by decide
  have e2 : ((2 : Int) ^ (IntKind.i64.bits - 1)) = 9223372036854775808 := by decide
  unfold InR at h
  unfold IntKind.wrap
  rw [e1, e2]
  simp only [IntKind.signed, Bool.true_and, decide_eq_true_eq]
  split <;> omega
/-- Is a number that is written out in range? -/
def inRB : Int → Bool
  | .ofNat m => Nat.ble m 9223372036854775807
  | .negSucc m => Nat.ble m 9223372036854775807
theorem inRB_ok {n : Int} (h : inRB n = true) : InR n := by
  cases n with
  | ofNat m => have := Nat.le_of_ble_eq_true h; unfold InR; simp only [Int.ofNat_eq_natCast]; omega
  | negSucc m => have := Nat.le_of_ble_eq_true h; unfold InR; omega

def SV.int? : SV → Option (IntKind × Int)
  | .il k n => some (k, n)
  | .v (.int k n) => some (k, n)
  | _ => none
theorem SV.int?_den {x : SV} {k : IntKind} {n : Int} {ρ : Names} {y : Value} (h : x.int? = some (k, n)) (hd : den ρ x y) : y = .int k n := by
  unfold SV.int? at h
  split at h
  · obtain ⟨rfl, rfl⟩ := Prod.mk.inj (Option.some.inj h); exact hd
  · obtain ⟨rfl, rfl⟩ := Prod.mk.inj (Option.some.inj h); exact hd
  · cases h
def SV.bool? : SV → Option Bool
  | .bl b => some b
  | .v (.bool b) => some b
  | _ => none
theorem SV.bool?_den {x : SV} {b : Bool} {ρ : Names} {y : Value} (h : x.bool? = some b) (hd : den ρ x y) : y = .bool b := by
  unfold SV.bool? at h
  split at h
  · obtain rfl := Option.some.inj h; exact hd
  · obtain rfl := Option.some.inj h; exact hd
  · cases h
theorem SV.int?_den' {x : SV} {k : IntKind} {n : Int} {ρ : Names} (h : x.int? = some (k, n)) : den ρ x (.int k n) := by
  unfold SV.int? at h
  split at h
  · obtain ⟨rfl, rfl⟩ := Prod.mk.inj (Option.some.inj h); exact rfl
  · obtain ⟨rfl, rfl⟩ := Prod.mk.inj (Option.some.inj h); exact rfl
  · cases h
theorem SV.bool?_den' {x : SV} {b : Bool} {ρ : Names} (h : x.bool? = some b) : den ρ x (.bool b) := by
  unfold SV.bool? at h
  split at h
  · obtain rfl := Option.some.inj h; exact rfl
  · obtain rfl := Option.some.inj h; exact rfl
  · cases h

def isI64 : IntKind → Bool
  | .i64 => true
  | _ => false
theorem isI64_eq {k : IntKind} (h : isI64 k = true) : k = .i64 := by cases k <;> first | rfl | cases h
def sameK : IntKind → IntKind → Bool
  | .i8, .i8 => true | .i16, .i16 => true | .i32, .i32 => true | .i64, .i64 => true
  | .u8, .u8 => true | .u16, .u16 => true | .u32, .u32 => true | .u64, .u64 => true
  | _, _ => false
theorem sameK_eq {k k' : IntKind} (h : sameK k k' = true) : k = k' := by
  cases k <;> cases k' <;> first | rfl | cases h

/-- A number that is computed; 'lit': out of numbers that are written out; 'p': what is owed besides. -/
def arI (k : IntKind) (lit : Bool) (p : Option Prop) (n : Int) : Option DR :=
  match isI64 k, lit, p with
  | true, true, none => match inRB n with | true => dv (.il .i64 n) | false => none
  | true, _, none => dvo (InR n) (.v (.int .i64 n))
  | true, _, some p => dvo (p ∧ InR n) (.v (.int .i64 n))
  | false, true, none => dv (.il k (k.wrap n))
  | false, _, none => dv (.v (.int k (k.wrap n)))
  | false, _, some p => dvo p (.v (.int k (k.wrap n)))
/-- A number that needs no wrapping. -/
def raI (k : IntKind) (lit : Bool) (p : Option Prop) (n : Int) : Option DR :=
  match lit, p with
  | true, none => dv (.il k n)
  | _, none => dv (.v (.int k n))
  | _, some p => dvo p (.v (.int k n))
def cmI (lit : Bool) (b : Bool) : Option DR := match lit with | true => dv (.bl b) | false => dv (.v (.bool b))
def bitsI (op : BinOp) (k : IntKind) (a b : Int) : Int :=
  match op with
  | .and => k.wrap (BitVec.ofInt k.bits a &&& BitVec.ofInt k.bits b).toNat
  | .or => k.wrap (BitVec.ofInt k.bits a ||| BitVec.ofInt k.bits b).toNat
  | .xor => k.wrap (BitVec.ofInt k.bits a ^^^ BitVec.ofInt k.bits b).toNat
  | _ => k.wrap (BitVec.ofInt k.bits a &&& ~~~(BitVec.ofInt k.bits b)).toNat
/-- What is owed for a divisor that may be written out; for a shift. -/
def nzO (l : Bool) (b : Int) : Option Prop := match l with | true => (match b with | .ofNat 0 => some (¬ b = 0) | _ => none) | false => some (¬ b = 0)
def geO (l : Bool) (b : Int) : Option Prop := match l with | true => (match b with | .ofNat _ => none | _ => some (0 ≤ b)) | false => some (0 ≤ b)
theorem nzO_ok {l : Bool} {b : Int} (h : owed (nzO l b)) : ¬ b = 0 := by
  unfold nzO at h
  split at h
  · split at h
    · exact h
    · rename_i hn
      intro e
      subst e
      exact hn rfl
  · exact h
theorem geO_ok {l : Bool} {b : Int} (h : owed (geO l b)) : 0 ≤ b := by
  unfold geO at h
  split at h
  · split at h
    · exact Int.natCast_nonneg _
    · exact h
  · exact h
/-- 'la', 'lb': is it written out? -/
def binInt (op : BinOp) (k : IntKind) (la lb : Bool) (a b : Int) : Option DR :=
  match op with
  | .add => arI k (la && lb) none (a + b)
  | .sub => arI k (la && lb) none (a - b)
  | .mul => arI k (la && lb) none (a * b)
  | .lss => cmI (la && lb) (decide (a < b))
  | .leq => cmI (la && lb) (decide (a ≤ b))
  | .gtr => cmI (la && lb) (decide (b < a))
  | .geq => cmI (la && lb) (decide (b ≤ a))
  | .eql => cmI (la && lb) (decide (a = b))
  | .neq => cmI (la && lb) (decide (¬ a = b))
  | .quo => arI k (la && lb) (nzO lb b) (a.tdiv b)
  | .rem => raI k (la && lb) (nzO lb b) (a.tmod b)
  | .and => raI k false none (bitsI .and k a b)
  | .or => raI k false none (bitsI .or k a b)
  | .xor => raI k false none (bitsI .xor k a b)
  | .andNot => raI k false none (bitsI .andNot k a b)
  | _ => none
def shInt (op : BinOp) (k : IntKind) (la lb : Bool) (a b : Int) : Option DR :=
  match op with
  | .shl => raI k (la && lb) (geO lb b) (k.wrap (a * 2 ^ (min b.toNat k.bits)))
  | .shr => raI k (la && lb) (geO lb b) (a.fdiv (2 ^ (min b.toNat k.bits)))
  | _ => none

theorem dv_ok {v : SV} {r : DR} (h : dv v = some r) : r.w = none ∧ r.fr = false ∧ r.v = v := by obtain rfl := Option.some.inj h; exact ⟨rfl, rfl, rfl⟩
/-- A value that is yielded, and nothing else. -/
def Yields (r : DR) (ρ : Names) (y : Value) : Prop := r.w = none ∧ r.fr = false ∧ den ρ r.v y
theorem arI_ok {k : IntKind} {lit : Bool} {p : Option Prop} {n : Int} {r : DR} {ρ : Names} (h : arI k lit p n = some r) (ho : r.Ob) : owed p ∧ Yields r ρ (.int k (k.wrap n)) := by
  unfold arI at h
  split at h
  · rename_i hk
    obtain rfl := isI64_eq hk
    split at h
    · rename_i hb
      obtain rfl := Option.some.inj h
      exact ⟨trivial, rfl, rfl, by show _ = _; rw [(inRB_ok hb).wrap]⟩
    · cases h
  · rename_i hk _
    obtain rfl := isI64_eq hk
    obtain rfl := Option.some.inj h
    exact ⟨trivial, rfl, rfl, by show _ = _; rw [InR.wrap ho]⟩
  · rename_i hk
    obtain rfl := isI64_eq hk
    obtain rfl := Option.some.inj h
    exact ⟨ho.1, rfl, rfl, by show _ = _; rw [InR.wrap ho.2]⟩
  · obtain rfl := Option.some.inj h
    exact ⟨trivial, rfl, rfl, rfl⟩
  · obtain rfl := Option.some.inj h
    exact ⟨trivial, rfl, rfl, rfl⟩
  · obtain rfl := Option.some.inj h
    exact ⟨ho, rfl, rfl, rfl⟩
theorem raI_ok {k : IntKind} {lit : Bool} {p : Option Prop} {n : Int} {r : DR} {ρ : Names} (h : raI k lit p n = some r) (ho : r.Ob) : owed p ∧ Yields r ρ (.int k n) := by
  unfold raI at h
  split at h
  · obtain rfl := Option.some.inj h
    exact ⟨trivial, rfl, rfl, rfl⟩
  · obtain rfl := Option.some.inj h
    exact ⟨trivial, rfl, rfl, rfl⟩
  · obtain rfl := Option.some.inj h
    exact ⟨ho, rfl, rfl, rfl⟩
theorem cmI_ok {lit : Bool} {c : Bool} {r : DR} {ρ : Names} (h : cmI lit c = some r) : Yields r ρ (.bool c) := by
  unfold cmI at h
  split at h <;> obtain rfl := Option.some.inj h <;> exact ⟨rfl, rfl, rfl⟩
theorem run_bin_int {P : Program} {w : World} {op : BinOp} {t : TypeId} {k : IntKind} {a b : Int} (h1 : op ≠ .shl) (h2 : op ≠ .shr) :
    (binOp op t (.int k a) (.int k b)).run P w = (match op with
      | .add | .sub | .mul => Op.intArith op k a b
      | .quo | .rem => Op.intDiv op k a b
      | .and | .or | .xor | .andNot => Op.intBits op k a b
      | _ => Op.intCmp op a b).run P w := by
  cases op <;> first | exact absurd rfl h1 | exact absurd rfl h2 | simp [binOp]
theorem binInt_ok {P : Program} {w : World} {op : BinOp} {k : IntKind} {la lb : Bool} {a b : Int} {t : TypeId} {r : DR} {ρ : Names} (h : binInt op k la lb a b = some r) (ho : r.Ob) :
    ∃ y, Yields r ρ y ∧ (binOp op t (.int k a) (.int k b)).run P w = .ok y w := by
  unfold binInt at h
  split at h
  · exact ⟨_, (arI_ok h ho).2, by rw [run_bin_int (by decide) (by decide)]; rfl⟩
  · exact ⟨_, (arI_ok h ho).2, by rw [run_bin_int (by decide) (by decide)]; rfl⟩
  · exact ⟨_, (arI_ok h ho).2, by rw [run_bin_int (by decide) (by decide)]; rfl⟩
  · exact ⟨_, cmI_ok h, by rw [run_bin_int (by decide) (by decide)]; rfl⟩
  · exact ⟨_, cmI_ok h, by rw [run_bin_int (by decide) (by decide)]; rfl⟩
  · exact ⟨_, cmI_ok h, by rw [run_bin_int (by decide) (by decide)]; rfl⟩
  · exact ⟨_, cmI_ok h, by rw [run_bin_int (by decide) (by decide)]; rfl⟩
  · exact ⟨_, cmI_ok h, by rw [run_bin_int (by decide) (by decide)]; rfl⟩
  · exact ⟨_, cmI_ok h, by rw [run_bin_int (by decide) (by decide), decide_not]; rfl⟩
  · obtain ⟨h1, h2⟩ := arI_ok (ρ := ρ) h ho
    have h1 := nzO_ok h1
    exact ⟨_, h2, by rw [run_bin_int (by decide) (by decide)]; simp only [Op.intDiv, if_neg h1, Sem.run_pure]⟩
  · obtain ⟨h1, h2⟩ := raI_ok (ρ := ρ) h ho
    have h1 := nzO_ok h1
    exact ⟨_, h2, by rw [run_bin_int (by decide) (by decide)]; simp only [Op.intDiv, if_neg h1, Sem.run_pure]⟩
  · exact ⟨_, (raI_ok h ho).2, by rw [run_bin_int (by decide) (by decide)]; rfl⟩
  · exact ⟨_, (raI_ok h ho).2, by rw [run_bin_int (by decide) (by decide)]; rfl⟩
  · exact ⟨_, (raI_ok h ho).2, by rw [run_bin_int (by decide) (by decide)]; rfl⟩
  · exact ⟨_, (raI_ok h ho).2, by rw [run_bin_int (by decide) (by decide)]; rfl⟩
  · cases h
/-- .. in the mode in which numbers wrap. -/
def binIntW (op : BinOp) (k : IntKind) (la lb : Bool) (a b : Int) : Option DR :=
  match la && lb, op with
  | false, .add => dv (.v (.int k (k.wrap (a + b))))
  | false, .sub => dv (.v (.int k (k.wrap (a - b))))
  | false, .mul => dv (.v (.int k (k.wrap (a * b))))
  | _, _ => binInt op k la lb a b
theorem yieldsW {r : DR} {ρ : Names} {v : Value} (h : dv (.v v) = some r) : Yields r ρ v := by obtain rfl := Option.some.inj h; exact ⟨rfl, rfl, rfl⟩
theorem binIntW_ok {P : Program} {w : World} {op : BinOp} {k : IntKind} {la lb : Bool} {a b : Int} {t : TypeId} {r : DR} {ρ : Names} (h : binIntW op k la lb a b = some r) (ho : r.Ob) :
    ∃ y, Yields r ρ y ∧ (binOp op t (.int k a) (.int k b)).run P w = .ok y w := by
  unfold binIntW at h
  split at h
  · exact ⟨_, yieldsW h, by rw [run_bin_int (by decide) (by decide)]; rfl⟩
  · exact ⟨_, yieldsW h, by rw [run_bin_int (by decide) (by decide)]; rfl⟩
  · exact ⟨_, yieldsW h, by rw [run_bin_int (by decide) (by decide)]; rfl⟩
  · exact binInt_ok h ho
theorem shInt_ok {P : Program} {w : World} {op : BinOp} {k k' : IntKind} {la lb : Bool} {a b : Int} {t : TypeId} {r : DR} {ρ : Names} (h : shInt op k la lb a b = some r) (ho : r.Ob) :
    ∃ y, Yields r ρ y ∧ (binOp op t (.int k a) (.int k' b)).run P w = .ok y w := by
  unfold shInt at h
  split at h
  · obtain ⟨h1, h2⟩ := raI_ok (ρ := ρ) h ho
    have h1 : ¬ b < 0 := by have := geO_ok h1; omega
    exact ⟨_, h2, by simp only [binOp, Op.shift, if_neg h1, Sem.run_pure]⟩
  · obtain ⟨h1, h2⟩ := raI_ok (ρ := ρ) h ho
    have h1 : ¬ b < 0 := by have := geO_ok h1; omega
    exact ⟨_, h2, by simp only [binOp, Op.shift, if_neg h1, Sem.run_pure]⟩
  · cases h

def pickD (b : Bool) (x y : SV) : Option SV :=
  match x, y with
  | .bl true, y => match y.bool? with | some c => some (.v (.bool (b || c))) | none => none
  | x, .bl false => match x.bool? with | some c => some (.v (.bool (b && c))) | none => none
  | x, y => match x.bool?, y.bool? with
    | some c, some d => some (.v (.bool (if b then c else d)))
    | _, _ => match x.int?, y.int? with
      | some (k, m), some (k', n) => match sameK k k' with | true => some (.v (.int k (if b then m else n))) | false => none
      | _, _ => none
theorem pickD_ok {b : Bool} {x y z : SV} {ρ : Names} {u v : Value} (h : pickD b x y = some z) (hx : b = true → den ρ x u) (hy : b = false → den ρ y v) : den ρ z (if b then u else v) := by
  unfold pickD at h
  split at h
  · split at h
    · rename_i c hc
      obtain rfl := Option.some.inj h
      cases b
      · rw [SV.bool?_den hc (hy rfl)]; rfl
      · have : u = .bool true := hx rfl
        rw [this]; rfl
    · cases h
  · split at h
    · rename_i c hc
      obtain rfl := Option.some.inj h
      cases b
      · have : v = .bool false := hy rfl
        rw [this]; rfl
      · rw [SV.bool?_den hc (hx rfl)]; rfl
    · cases h
  · split at h
    · rename_i c d hc hd
      obtain rfl := Option.some.inj h
      cases b
      · rw [SV.bool?_den hd (hy rfl)]; rfl
      · rw [SV.bool?_den hc (hx rfl)]; rfl
    · split at h
      · rename_i k m k' n hm hn
        split at h
        · rename_i hk
          obtain rfl := sameK_eq hk
          obtain rfl := Option.some.inj h
          cases b
          · rw [SV.int?_den hn (hy rfl)]; rfl
          · rw [SV.int?_den hm (hx rfl)]; rfl
        · cases h
      · cases h

/-! ### One of two values, whose forms are alike: y's, if c, else x's. -/
def SV.iv : SV → Int
  | .il _ n => n
  | .v (.int _ n) => n
  | _ => 0
def SV.bv : SV → Bool
  | .bl b => b
  | .v (.bool b) => b
  | _ => false
def SV.rn : SV → Nat
  | .rs _ n _ => n
  | _ => 0
def SV.rf : SV → Nat → List SV
  | .rs _ _ h => h
  | _ => fun _ => []
def SV.al : SV → List SV
  | .agg l => l
  | _ => []
def hdS : List SV → SV
  | x :: _ => x
  | [] => .e
def tlS : List SV → List SV
  | _ :: r => r
  | [] => []
mutual
def jn (c : Bool) : SV → SV → SV
  | .v (.int k b), x => .v (.int k (bif c then b else x.iv))
  | .il k b, x => .v (.int k (bif c then b else x.iv))
  | .v (.bool b), x => .v (.bool (bif c then b else x.bv))
  | .bl b, x => .v (.bool (bif c then b else x.bv))
  | .rs sz n f, x => .rs sz (bif c then n else x.rn) (fun i => jnL c (f i) (x.rf i))
  | .agg l, x => .agg (jnL c l x.al)
  | y, x => bif c then y else x
def jnL (c : Bool) : List SV → List SV → List SV
  | [], _ => []
  | y :: r, x => jn c y (hdS x) :: jnL c r (tlS x)
end
mutual
/-- x has y's form. -/
def alike : SV → SV → Prop
  | .v (.int k _), x => match x.int? with | some (k', _) => k' = k | none => False
  | .il k _, x => match x.int? with | some (k', _) => k' = k | none => False
  | .v (.bool _), x => match x.bool? with | some _ => True | none => False
  | .bl _, x => match x.bool? with | some _ => True | none => False
  | .rs sz _ f, x => match x with
    | .rs sz' n' f' => sz' = sz ∧ ∀ i, i < n' → alikeL (f i) (f' i)
    | .e => True
    | .v (.slice none 0 0) => True
    | _ => False
  | .agg l, x => match x with | .agg m => alikeL l m | _ => False
  | _, _ => True
def alikeL : List SV → List SV → Prop
  | [], x => match x with | [] => True | _ :: _ => False
  | y :: r, x => match x with | [] => False | x :: s => alike y x ∧ alikeL r s
end
mutual
theorem jn_true {ρ : Names} : ∀ (y x : SV) (v : Value), den ρ y v → den ρ (jn true y x) v
  | .v z, x, v, h => by cases z <;> exact h
  | .il k b, x, v, h => h
  | .bl b, x, v, h => h
  | .rs sz n f, x, v, ⟨a, cap, e1, e2, e3⟩ => ⟨a, cap, e1, e2, fun i hi => let ⟨b, o, u, k1, k2, k3⟩ := e3 i hi; ⟨b, o, u, k1, jnL_true (f i) _ u k2, k3⟩⟩
  | .p _ _, x, v, h => h
  | .s _ _ _ _ _, x, v, h => h
  | .f _ _ _, x, v, h => h
  | .agg l, x, v, ⟨u, e1, e2⟩ => ⟨u, jnL_true l _ u e1, e2⟩
  | .tup _, x, v, h => h
  | .e, x, v, h => h
  | .rp _ _, x, v, h => h
  | .g _ _ _ _ _, x, v, h => h
  | .gp _ _ _ _ _, x, v, h => h
  | .kd _ _ _ _ _, x, v, h => h
  | .kq _ _ _ _ _, x, v, h => h
  | .m _, x, v, h => h
theorem jnL_true {ρ : Names} : ∀ (y x : List SV) (v : List Value), denL ρ y v → denL ρ (jnL true y x) v
  | [], x, v, h => h
  | y :: r, x, v, ⟨a, b, e1, e2, e3⟩ => ⟨a, b, e1, jn_true y _ a e2, jnL_true r _ b e3⟩
end
mutual
theorem jn_false {ρ : Names} : ∀ (y x : SV) (v : Value), alike y x → den ρ x v → den ρ (jn false y x) v
  | .v z, x, v, ha, h => by
    cases z
    case int k b =>
      simp only [alike] at ha
      split at ha
      · rename_i k' n hn
        subst ha
        have : x.iv = n := by unfold SV.int? at hn; split at hn <;> first | (obtain ⟨rfl, rfl⟩ := Prod.mk.inj (Option.some.inj hn); rfl) | cases hn
        rw [SV.int?_den hn h]
        show _ = Value.int _ x.iv
        rw [this]
      · exact ha.elim
    case bool b =>
      simp only [alike] at ha
      split at ha
      · rename_i n hn
        have : x.bv = n := by unfold SV.bool? at hn; split at hn <;> first | (obtain rfl := Option.some.inj hn; rfl) | cases hn
        rw [SV.bool?_den hn h]
        show _ = Value.bool x.bv
        rw [this]
      · exact ha.elim
    all_goals exact h
  | .il k b, x, v, ha, h => by
    simp only [alike] at ha
    split at ha
    · rename_i k' n hn
      subst ha
      have : x.iv = n := by unfold SV.int? at hn; split at hn <;> first | (obtain ⟨rfl, rfl⟩ := Prod.mk.inj (Option.some.inj hn); rfl) | cases hn
      rw [SV.int?_den hn h]
      show _ = Value.int _ x.iv
      rw [this]
    · exact ha.elim
  | .bl b, x, v, ha, h => by
    simp only [alike] at ha
    split at ha
    · rename_i n hn
      have : x.bv = n := by unfold SV.bool? at hn; split at hn <;> first | (obtain rfl := Option.some.inj hn; rfl) | cases hn
      rw [SV.bool?_den hn h]
      show _ = Value.bool x.bv
      rw [this]
    · exact ha.elim
  | .rs sz n f, x, v, ha, h => by
    simp only [alike] at ha
    split at ha
    · rename_i sz' n' f'
      obtain ⟨rfl, ha⟩ := ha
      obtain ⟨a, cap, e1, e2, e3⟩ := h
      exact ⟨a, cap, e1, e2, fun i hi => let ⟨b, o, u, k1, k2, k3⟩ := e3 i hi; ⟨b, o, u, k1, jnL_false (f i) _ u (ha i hi) k2, k3⟩⟩
    · obtain ⟨a, rfl⟩ := h
      exact ⟨a, 0, rfl, Nat.le_refl _, fun i hi => absurd hi (Nat.not_lt_zero i)⟩
    · obtain rfl : v = _ := h
      exact ⟨none, 0, rfl, Nat.le_refl _, fun i hi => absurd hi (Nat.not_lt_zero i)⟩
    · exact ha.elim
  | .p _ _, x, v, _, h => h
  | .s _ _ _ _ _, x, v, _, h => h
  | .f _ _ _, x, v, _, h => h
  | .agg l, x, v, ha, h => by
    simp only [alike] at ha
    split at ha
    · obtain ⟨u, e1, e2⟩ := h
      exact ⟨u, jnL_false l _ u ha e1, e2⟩
    · exact ha.elim
  | .tup _, x, v, _, h => h
  | .e, x, v, _, h => h
  | .rp _ _, x, v, _, h => h
  | .g _ _ _ _ _, x, v, _, h => h
  | .gp _ _ _ _ _, x, v, _, h => h
  | .kd _ _ _ _ _, x, v, _, h => h
  | .kq _ _ _ _ _, x, v, _, h => h
  | .m _, x, v, _, h => h
theorem jnL_false {ρ : Names} : ∀ (y x : List SV) (v : List Value), alikeL y x → denL ρ x v → denL ρ (jnL false y x) v
  | [], x, v, ha, h => by
    cases x with
    | nil => exact h
    | cons _ _ => exact ha.elim
  | y :: r, x, v, ha, h => by
    cases x with
    | nil => exact ha.elim
    | cons x s =>
      obtain ⟨a, b, e1, e2, e3⟩ := h
      exact ⟨a, b, e1, jn_false y x a ha.1 e2, jnL_false r s b ha.2 e3⟩
end

/-! ### .. by computation -/
def conj : List Prop → Prop
  | [] => True
  | [p] => p
  | p :: r => p ∧ conj r
theorem conj_cons {p : Prop} {r : List Prop} (h : conj (p :: r)) : p ∧ conj r := by
  cases r with
  | nil => exact ⟨h, trivial⟩
  | cons q r => exact h
theorem conj_append : ∀ {l m : List Prop}, conj (l ++ m) → conj l ∧ conj m
  | [], m, h => ⟨trivial, h⟩
  | p :: r, m, h => by
    obtain ⟨h1, h2⟩ := conj_cons (r := r ++ m) h
    obtain ⟨h3, h4⟩ := conj_append h2
    refine ⟨?_, h4⟩
    cases r with
    | nil => exact h1
    | cons q r => exact ⟨h1, h3⟩
def conjO : Option (List Prop) → Prop
  | some l => conj l
  | none => False
def isInt (k : IntKind) (x : SV) : Option (List Prop) := match x.int? with | none => none | some (k', _) => match sameK k' k with | true => some [] | false => none
def isBool (x : SV) : Option (List Prop) := match x.bool? with | some _ => some [] | none => none
mutual
/-- What is left to show for x to have y's form. -/
def alikeC : SV → SV → Option (List Prop)
  | .v (.int k _), x => isInt k x
  | .il k _, x => isInt k x
  | .v (.bool _), x => isBool x
  | .bl _, x => isBool x
  | .rs sz _ f, x => match x with
    | .rs sz' n' f' => match Nat.beq sz' sz with | true => some [∀ i, i < n' → conjO (alikeCL (f i) (f' i))] | false => none
    | .e => some []
    | .v (.slice none 0 0) => some []
    | _ => none
  | .agg l, x => match x with | .agg m => alikeCL l m | _ => none
  | _, _ => some []
def alikeCL : List SV → List SV → Option (List Prop)
  | [], x => match x with | [] => some [] | _ :: _ => none
  | y :: r, x => match x with
    | [] => none
    | x :: s => match alikeC y x, alikeCL r s with | some a, some b => some (a ++ b) | _, _ => none
end
theorem isInt_ok {k : IntKind} {x : SV} {l : List Prop} (h : isInt k x = some l) : match x.int? with | some (k', _) => k' = k | none => False := by
  unfold isInt at h
  cases hx : x.int? with
  | none => rw [hx] at h; cases h
  | some p =>
    rw [hx] at h
    simp only at h ⊢
    split at h
    · rename_i hk; exact sameK_eq hk
    · cases h
theorem isBool_ok {x : SV} {l : List Prop} (h : isBool x = some l) : match x.bool? with | some _ => True | none => False := by
  unfold isBool at h
  cases hx : x.bool? with
  | none => rw [hx] at h; cases h
  | some p => trivial
mutual
theorem alikeC_ok : ∀ (y x : SV) (l : List Prop), alikeC y x = some l → conj l → alike y x
  | .v z, x, l, h, hc => by
    cases z
    case int k b => exact isInt_ok h
    case bool b => exact isBool_ok h
    all_goals exact trivial
  | .il k b, x, l, h, hc => isInt_ok h
  | .bl b, x, l, h, hc => isBool_ok h
  | .rs sz n f, x, l, h, hc => by
    simp only [alikeC] at h
    split at h
    · rename_i sz' n' f'
      split at h
      · rename_i hb
        have hb := Nat.eq_of_beq_eq_true hb
        obtain rfl := Option.some.inj h
        refine ⟨hb, fun i hi => ?_⟩
        have := hc i hi
        cases hq : alikeCL (f i) (f' i) with
        | none => rw [hq] at this; exact this.elim
        | some q => rw [hq] at this; exact alikeCL_ok _ _ q hq this
      · cases h
    · trivial
    · trivial
    · cases h
  | .agg m, x, l, h, hc => by
    simp only [alikeC] at h
    split at h
    · exact alikeCL_ok _ _ l h hc
    · cases h
  | .p _ _, x, _, _, h => trivial
  | .s _ _ _ _ _, x, _, _, h => trivial
  | .f _ _ _, x, _, _, h => trivial
  | .tup _, x, _, _, h => trivial
  | .e, x, _, _, h => trivial
  | .rp _ _, x, _, _, h => trivial
  | .g _ _ _ _ _, x, _, _, h => trivial
  | .gp _ _ _ _ _, x, _, _, h => trivial
  | .kd _ _ _ _ _, x, _, _, h => trivial
  | .kq _ _ _ _ _, x, _, _, h => trivial
  | .m _, x, _, _, h => trivial
theorem alikeCL_ok : ∀ (y x : List SV) (l : List Prop), alikeCL y x = some l → conj l → alikeL y x
  | [], x, l, h, hc => by
    cases x with
    | nil => trivial
    | cons _ _ => cases h
  | y :: r, x, l, h, hc => by
    cases x with
    | nil => cases h
    | cons x s =>
      simp only [alikeCL] at h
      split at h
      · rename_i a b h1 h2
        obtain rfl := Option.some.inj h
        obtain ⟨c1, c2⟩ := conj_append hc
        exact ⟨alikeC_ok y x a h1 c1, alikeCL_ok r s b h2 c2⟩
      · cases h
end
end Go.Proofs.YtcojfohjdibjjaaGreatDoor
