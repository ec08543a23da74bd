/- A symbolic executor, 10: operations in a row. -/
import Derived.Test.YtggcfjeehpcclaaDoorS8
namespace Go.Proofs.YtggcfjeehpcclaaDoor
open Go.RowKit

def holds (a : Act) (g : List (Nat × Bool)) : Prop := ∀ p ∈ g, a.tmps[p.1]? = some (.bool p.2)
def SlotNow (ρ : Names) (a : Act) (g : List (Nat × Bool)) (v : SV) (t : Nat) : Prop :=
  (holds a g → ∃ x, den ρ v = some x ∧ a.tmps[t]? = some x) ∧ (¬ holds a g → a.tmps[t]? = some undef)

/-- All that lay in w0, but for the named blocks, is as it was. -/
structure Keep (ρe : Names) (w0 W : World) : Prop where
  os : W.os = w0.os
  tape : W.tape = w0.tape
  output : W.output = w0.output
  size : w0.heap.size ≤ W.heap.size
  block : ∀ b, b < w0.heap.size → (∀ n, ρe n ≠ some b) → W.heap[b]? = w0.heap[b]?
theorem Keep.refl (ρe : Names) (w : World) : Keep ρe w w := ⟨rfl, rfl, rfl, Nat.le_refl _, fun _ _ _ => rfl⟩
theorem Keep.gr {ρe : Names} {w0 W W' : World} (h : Keep ρe w0 W) (g : Gr W W') : Keep ρe w0 W' :=
  ⟨g.os.trans h.os, g.tape.trans h.tape, g.output.trans h.output, Nat.le_trans h.size g.size, fun b hb hn => (Below.block g b (Nat.lt_of_lt_of_le hb h.size)).trans (h.block b hb hn)⟩
theorem Keep.to_gr {ρe : Names} {w0 W : World} (h : Keep ρe w0 W) (hn : ∀ n, ρe n = none) : Gr w0 W :=
  ⟨h.os, h.tape, h.output, h.size, fun b hb => h.block b hb (fun n => by rw [hn n]; simp)⟩

structure Base {PP : Program} (C : Cx PP) (nt : Nat) (w0 : World) (ρe : Names) (H : List (Nat × SB)) (nm : Nat) (ρ : Names) (a : Act) (W : World) : Prop where
  hok : HOk C H ρ W
  dom : ∀ n b, ρ n = some b → n < nm
  le : ρe.le ρ
  old : ∀ n b, ρ n = some b → ρe n = some b ∨ w0.heap.size ≤ b
  keep : Keep ρe w0 W
  sz : a.tmps.size = nt
  df : a.defers = []

/-- Inside a region. -/
structure RI {PP : Program} (C : Cx PP) (nt : Nat) (w0 : World) (ρe : Names) (st : St) (ρ : Names) (a : Act) (W : World) : Prop where
  base : Base C nt w0 ρe st.H st.nm ρ a W
  rgs : ∀ t s, look st.sl t = some s → s.rg ≤ st.rg
  out : ∀ t s, look st.sl t = some s → s.rg ≠ st.rg → s.g = [] → ∃ x, den ρ s.v = some x ∧ a.tmps[t]? = some x
  ins : ∀ t s, look st.sl t = some s → s.rg = st.rg → SlotNow ρ a s.g s.v t
  cl : ∀ t s, look st.sl t = some s → s.rg = st.rg → ∀ p ∈ s.g, ∃ s', look st.sl p.1 = some s' ∧ s'.rg = st.rg
/-- Between regions. -/
structure Rp {PP : Program} (C : Cx PP) (nt : Nat) (w0 : World) (ρe : Names) (st : St) (ρ : Names) (a : Act) (W : World) : Prop where
  base : Base C nt w0 ρe st.H st.nm ρ a W
  rgs : ∀ t s, look st.sl t = some s → s.rg ≤ st.rg
  slots : ∀ t s, look st.sl t = some s → s.g = [] → ∃ x, den ρ s.v = some x ∧ a.tmps[t]? = some x

theorem holds_nil (a : Act) : holds a [] := fun _ h => by cases h
theorem getD_bool {a : Act} {t : Nat} {b : Bool} (h : a.eval (.tmp t) = .bool b) : a.tmps[t]? = some (.bool b) := by
  have h' : a.tmps.getD t undef = .bool b := h
  rcases Nat.lt_or_ge t a.tmps.size with hl | hl
  · simpa [hl] using h'
  · simp [Array.getElem?_eq_none hl, undef] at h'
theorem eval_some {a : Act} {t : Nat} {x : Value} (h : a.tmps[t]? = some x) : a.eval (.tmp t) = x := by
  show a.tmps.getD t undef = x
  simp [h]
theorem SlotNow.of_bool {ρ : Names} {a : Act} {g : List (Nat × Bool)} {v : SV} {t : Nat} {b : Bool} (h : SlotNow ρ a g v t) (hb : a.tmps[t]? = some (.bool b)) : holds a g ∧ ∃ x, den ρ v = some x ∧ a.tmps[t]? = some x := by
  by_cases hh : holds a g
  · exact ⟨hh, h.1 hh⟩
  · have := h.2 hh
    rw [hb] at this
    simp [undef] at this

theorem gimpP_ok {sl : List (Nat × Slot)} {a : Act} {ρ : Names} : ∀ {g : List (Nat × Bool)} {p : Prop}, (∀ q ∈ g, ∀ s, look sl q.1 = some s → ∃ x, den ρ s.v = some x ∧ a.tmps[q.1]? = some x) → holds a g → gimpP sl g p → p
  | [], p, _, _, h => h
  | (t, pol) :: r, p, hs, hh, h => by
    have ih : gimpP sl r p → p := gimpP_ok (fun q hq => hs q (List.mem_cons_of_mem _ hq)) (fun q hq => hh q (List.mem_cons_of_mem _ hq))
    simp only [gimpP] at h
    split at h
    · exact ih h
    · rename_i s hl
      split at h
      · exact ih h
      · rename_i b hb
        refine ih (h ?_)
        obtain ⟨x, h1, h2⟩ := hs (t, pol) List.mem_cons_self s hl
        rw [SV.bool?_den hb] at h1
        have h3 : a.tmps[t]? = some (.bool pol) := hh (t, pol) List.mem_cons_self
        have h4 : a.tmps[t]? = some x := h2
        rw [h3] at h4
        have h5 := (Option.some.inj h1).trans (Option.some.inj h4).symm
        injection h5
theorem gimp_ok {sl : List (Nat × Slot)} {a : Act} {ρ : Names} {g : List (Nat × Bool)} {ob : Option Prop} (hs : ∀ q ∈ g, ∀ s, look sl q.1 = some s → ∃ x, den ρ s.v = some x ∧ a.tmps[q.1]? = some x) (hh : holds a g) (h : owed (gimp sl g ob)) : owed ob := by
  cases ob with
  | none => trivial
  | some p =>
    cases g with
    | nil => exact h
    | cons q r => exact gimpP_ok hs hh h

/-- An operand inside a row of operations. -/
theorem opIn_ok {PP : Program} {C : Cx PP} {nt : Nat} {w0 : World} {ρe : Names} {st : St} {ρ : Names} {a : Act} {W : World} (h : RI C nt w0 ρe st ρ a W) {heads : List Oper} {o : Oper} {gk : List (Nat × Bool)} (hg : holds a gk) :
    OpOk (opIn false heads st.rg st.sl o gk) a ρ := by
  intro ex x v e hex
  unfold opIn at e
  split at e
  · obtain rfl := Option.some.inj e
    exact constSV_den
  · obtain rfl := Option.some.inj e
    rfl
  · obtain rfl := Option.some.inj e
    rfl
  · rename_i t
    split at e
    · cases e
    · rename_i s hl
      split at e
      · rename_i hr
        have hr := Nat.eq_of_beq_eq_true hr
        split at e
        · rename_i hsub
          obtain rfl := Option.some.inj e
          obtain ⟨y, h1, h2⟩ := (h.ins t s hl hr).1 (fun p hp => by
            rcases List.mem_append.1 (subA_mem hsub p hp) with hp | hp
            · exact getD_bool (hex p hp)
            · exact hg p hp)
          rw [eval_some h2]; exact h1
        · cases e
      · rename_i hr
        have hr : s.rg ≠ st.rg := fun e => by rw [e, Nat.beq_refl] at hr; cases hr
        split at e
        · rename_i hgn
          obtain rfl := Option.some.inj e
          obtain ⟨y, h1, h2⟩ := h.out t s hl hr hgn
          rw [eval_some h2]; exact h1
        · cases e

theorem guardOf_ok {any : Bool} {ops : List Oper} {rg : Nat} {sl : List (Nat × Slot)} {o : Oper} {g : List (Nat × Bool)} (h : guardOf any ops rg sl o = some g) :
    (o.guard = none ∧ g = []) ∨ ∃ j pol oj t s, o.guard = some (j, pol) ∧ ops[j]? = some oj ∧ oj.dst = some t ∧ look sl t = some s ∧ s.rg = rg ∧ s.k = j ∧ g = (t, pol) :: s.g ∧ (any = true → waitsOn o j = true) := by
  unfold guardOf at h
  split at h
  · rename_i hg
    exact .inl ⟨hg, (Option.some.inj h).symm⟩
  · rename_i j pol hg
    split at h
    · cases h
    · rename_i oj hoj
      split at h
      · cases h
      · rename_i t ht
        split at h
        · cases h
        · rename_i s hs
          split at h
          · rename_i h1 h2
            have e1 := Nat.eq_of_beq_eq_true h1
            have e2 := Nat.eq_of_beq_eq_true h2
            split at h
            · split at h
              · rename_i hw
                exact .inr ⟨j, pol, oj, t, s, hg, hoj, ht, hs, e1, e2, (Option.some.inj h).symm, fun _ => hw⟩
              · cases h
            · exact .inr ⟨j, pol, oj, t, s, hg, hoj, ht, hs, e1, e2, (Option.some.inj h).symm, fun h => by cases h⟩
          · cases h

theorem wanted_none {o : Oper} {y : Nat → Option Bool} (h : o.guard = none) : Region.wanted o y = true := by simp [Region.wanted, h]
theorem wanted_some {o oj : Oper} {ops : Array Oper} {a : Act} {j t : Nat} {pol : Bool} (h : o.guard = some (j, pol)) (hj : ops.toList[j]? = some oj) (ht : oj.dst = some t) :
    (Region.wanted o (yielded ops a.tmps) = true ↔ a.tmps[t]? = some (.bool pol)) := by
  have hj' : ops[j]? = some oj := by simpa using hj
  simp only [Region.wanted, h, yielded, hj', Option.bind_some, ht, beq_iff_eq]
  constructor
  · intro e
    split at e
    · rename_i b hb
      obtain rfl := Option.some.inj e
      exact hb
    · cases e
  · intro e
    rw [e]

theorem put_self {a : Act} {d : Nat} {x : Value} (h : d < a.tmps.size) : (a.put (some d) x).tmps[d]? = some x := by simp [Act.put, h]
theorem put_other {a : Act} {d t : Nat} {x : Value} (h : d ≠ t) : (a.put (some d) x).tmps[t]? = a.tmps[t]? := by simp [Act.put, h]

theorem freshIn_ok {rg : Nat} {sl : List (Nat × Slot)} {d : Nat} (h : freshIn rg sl d = true) {s : Slot} (hl : look sl d = some s) : s.rg ≠ rg := by
  unfold freshIn at h
  rw [hl] at h
  intro e
  simp only at h
  rw [e, Nat.beq_refl] at h
  cases h

/-- A name is given to a new block. -/
def Names.add (ρ : Names) (n m : Nat) : Names := fun i => if i = n then some m else ρ i
theorem Names.le_add {ρ : Names} {n m : Nat} (h : ρ n = none) : ρ.le (ρ.add n m) := by
  intro i b hb
  unfold Names.add
  rw [if_neg]
  · exact hb
  · rintro rfl; rw [h] at hb; cases hb
end Go.Proofs.YtggcfjeehpcclaaDoor
