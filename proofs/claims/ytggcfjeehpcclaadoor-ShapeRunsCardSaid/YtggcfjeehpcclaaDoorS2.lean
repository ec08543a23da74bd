/- A symbolic executor, 3: what an operation yields, by computation. -/
import Derived.Test.YtggcfjeehpcclaaDoorS1
namespace Go.Proofs.YtggcfjeehpcclaaDoor
open Go.RowKit

/-- What an operation yields: what is owed, the value, the block that it makes. -/
structure DR where
  ob : Option Prop
  v : SV
  b : Option SB

def owed : Option Prop → Prop
  | none => True
  | some p => p
def DR.Ob (r : DR) : Prop := owed r.ob

def InR (n : Int) : Prop := -9223372036854775808 ≤ n ∧ n ≤ 9223372036854775807
theorem InR.wrap {n : Int} (h : InR n) : IntKind.i64.wrap n = n := by
  have e1 : ((2 : Int) ^ IntKind.i64.bits) = 18446744073709551616 := by decide
  have e2 : ((2 : Int) ^ (IntKind.i64.bits - 1)) = 9223372036854775808 := by decide
  unfold InR at h
  unfold IntKind.wrap
  rw [e1, e2]
  simp only [IntKind.signed, Bool.true_and, decide_eq_true_eq]
  split <;> omega

def SV.int? : SV → Option (IntKind × Int)
  | .il n => some (.i64, n)
  | .v (.int k n) => some (k, n)
  | _ => none
theorem SV.int?_den {x : SV} {k : IntKind} {n : Int} {ρ : Names} (h : x.int? = some (k, n)) : den ρ x = some (.int k n) := by
  unfold SV.int? at h
  split at h <;> simp_all [den]
def SV.bool? : SV → Option Bool
  | .bl b => some b
  | .v (.bool b) => some b
  | _ => none
theorem SV.bool?_den {x : SV} {b : Bool} {ρ : Names} (h : x.bool? = some b) : den ρ x = some (.bool b) := by
  unfold SV.bool? at h
  split at h <;> simp_all [den]

def arI (k : IntKind) (lit : Bool) (n : Int) : Option DR :=
  match k with
  | .i64 => match lit with | true => some ⟨some (InR n), .il n, none⟩ | false => some ⟨some (InR n), .v (.int .i64 n), none⟩
  | k => some ⟨none, .v (.int k (k.wrap n)), none⟩
def cmI (lit : Bool) (b : Bool) : Option DR := match lit with | true => some ⟨none, .bl b, none⟩ | false => some ⟨none, .v (.bool b), none⟩
def binInt (op : BinOp) (k : IntKind) (lit : Bool) (a b : Int) : Option DR :=
  match op with
  | .add => arI k lit (a + b)
  | .sub => arI k lit (a - b)
  | .mul => arI k lit (a * b)
  | .lss => cmI lit (decide (a < b))
  | .leq => cmI lit (decide (a ≤ b))
  | .gtr => cmI lit (decide (b < a))
  | .geq => cmI lit (decide (b ≤ a))
  | .eql => cmI lit (decide (a = b))
  | .neq => cmI lit (decide (¬ a = b))
  | .quo => match k with | .i64 => some ⟨some (¬ b = 0 ∧ InR (a.tdiv b)), .v (.int .i64 (a.tdiv b)), none⟩ | _ => none
  | .rem => some ⟨some (¬ b = 0), .v (.int k (a.tmod b)), none⟩
  | _ => none
def sameK : IntKind → IntKind → Bool
  | .i8, .i8 => true | .i16, .i16 => true | .i32, .i32 => true | .i64, .i64 => true
  | .u8, .u8 => true | .u16, .u16 => true | .u32, .u32 => true | .u64, .u64 => true
  | _, _ => false
theorem sameK_eq {k k' : IntKind} (h : sameK k k' = true) : k = k' := by
  cases k <;> cases k' <;> first | rfl | cases h

theorem arI_ok {P : Program} {w : World} {op : BinOp} {k : IntKind} {lit : Bool} {n a b : Int} {t : TypeId} {r : DR} {ρ : Names} (h : arI k lit n = some r) (ho : r.Ob) (hr : (binOp op t (.int k a) (.int k b)).run P w = .ok (.int k (k.wrap n)) w) :
    r.b = none ∧ ∃ v, den ρ r.v = some v ∧ (binOp op t (.int k a) (.int k b)).run P w = .ok v w := by
  unfold arI at h
  split at h
  · split at h
    · obtain rfl := Option.some.inj h
      exact ⟨rfl, _, rfl, by rw [hr, InR.wrap ho]⟩
    · obtain rfl := Option.some.inj h
      exact ⟨rfl, _, rfl, by rw [hr, InR.wrap ho]⟩
  · obtain rfl := Option.some.inj h
    exact ⟨rfl, _, rfl, hr⟩
theorem cmI_ok {P : Program} {w : World} {op : BinOp} {lit : Bool} {x y : Value} {c : Bool} {t : TypeId} {r : DR} {ρ : Names} (h : cmI lit c = some r) (hr : (binOp op t x y).run P w = .ok (.bool c) w) :
    r.b = none ∧ ∃ v, den ρ r.v = some v ∧ (binOp op t x y).run P w = .ok v w := by
  unfold cmI at h
  split at h <;> obtain rfl := Option.some.inj h <;> exact ⟨rfl, _, rfl, hr⟩
theorem run_bin_int {P : Program} {w : World} {op : BinOp} {t : TypeId} {k : IntKind} {a b : Int} (h1 : op ≠ .shl) (h2 : op ≠ .shr) :
    (binOp op t (.int k a) (.int k b)).run P w = (match op with
      | .add | .sub | .mul => Op.intArith op k a b
      | .quo | .rem => Op.intDiv op k a b
      | .and | .or | .xor | .andNot => Op.intBits op k a b
      | _ => Op.intCmp op a b).run P w := by
  cases op <;> first | exact absurd rfl h1 | exact absurd rfl h2 | simp [binOp]
theorem binInt_ok {P : Program} {w : World} {op : BinOp} {k : IntKind} {lit : Bool} {a b : Int} {t : TypeId} {r : DR} {ρ : Names} (h : binInt op k lit a b = some r) (ho : r.Ob) :
    r.b = none ∧ ∃ v, den ρ r.v = some v ∧ (binOp op t (.int k a) (.int k b)).run P w = .ok v w := by
  unfold binInt at h
  split at h
  · exact arI_ok h ho (by rw [run_bin_int (by decide) (by decide)]; rfl)
  · exact arI_ok h ho (by rw [run_bin_int (by decide) (by decide)]; rfl)
  · exact arI_ok h ho (by rw [run_bin_int (by decide) (by decide)]; rfl)
  · exact cmI_ok h (by rw [run_bin_int (by decide) (by decide)]; rfl)
  · exact cmI_ok h (by rw [run_bin_int (by decide) (by decide)]; rfl)
  · exact cmI_ok h (by rw [run_bin_int (by decide) (by decide)]; rfl)
  · exact cmI_ok h (by rw [run_bin_int (by decide) (by decide)]; rfl)
  · exact cmI_ok h (by rw [run_bin_int (by decide) (by decide)]; rfl)
  · refine cmI_ok h ?_
    rw [run_bin_int (by decide) (by decide), decide_not]
    rfl
  · split at h
    · obtain rfl := Option.some.inj h
      refine ⟨rfl, _, rfl, ?_⟩
      rw [run_bin_int (by decide) (by decide)]
      simp only [Op.intDiv, if_neg ho.1, Sem.run_pure, InR.wrap ho.2]
    · cases h
  · obtain rfl := Option.some.inj h
    refine ⟨rfl, _, rfl, ?_⟩
    rw [run_bin_int (by decide) (by decide)]
    have ho' : ¬ b = 0 := ho
    simp only [Op.intDiv, if_neg ho', Sem.run_pure]
  · cases h

def pickD (b : Bool) (x y : SV) : Option SV :=
  match x, y with
  | .bl true, y => match y.bool? with | some c => some (.v (.bool (b || c))) | none => none
  | x, .bl false => match x.bool? with | some c => some (.v (.bool (b && c))) | none => none
  | x, y => match x.bool?, y.bool? with
    | some c, some d => some (.v (.bool (if b then c else d)))
    | _, _ => match x.int?, y.int? with
      | some (k, m), some (k', n) => match sameK k k' with | true => some (.v (.int k (if b then m else n))) | false => none
      | _, _ => none
theorem pickD_ok {b : Bool} {x y z : SV} {ρ : Names} {u v : Value} (h : pickD b x y = some z) (hx : b = true → den ρ x = some u) (hy : b = false → den ρ y = some v) : den ρ z = some (if b then u else v) := by
  unfold pickD at h
  split at h
  · split at h
    · rename_i c hc
      obtain rfl := Option.some.inj h
      cases b
      · have := hy rfl
        rw [SV.bool?_den hc] at this
        simpa [den] using this
      · have := hx rfl
        simpa [den] using this
    · cases h
  · split at h
    · rename_i c hc
      obtain rfl := Option.some.inj h
      cases b
      · have := hy rfl
        simpa [den] using this
      · have := hx rfl
        rw [SV.bool?_den hc] at this
        simpa [den] using this
    · cases h
  · split at h
    · rename_i c d hc hd
      obtain rfl := Option.some.inj h
      cases b
      · have := hy rfl
        rw [SV.bool?_den hd] at this
        simpa [den] using this
      · have := hx rfl
        rw [SV.bool?_den hc] at this
        simpa [den] using this
    · split at h
      · rename_i k m k' n hm hn
        split at h
        · rename_i hk
          obtain rfl := sameK_eq hk
          obtain rfl := Option.some.inj h
          cases b
          · have := hy rfl
            rw [SV.int?_den hn] at this
            simpa [den] using this
          · have := hx rfl
            rw [SV.int?_den hm] at this
            simpa [den] using this
        · cases h
      · cases h
end Go.Proofs.YtggcfjeehpcclaaDoor
