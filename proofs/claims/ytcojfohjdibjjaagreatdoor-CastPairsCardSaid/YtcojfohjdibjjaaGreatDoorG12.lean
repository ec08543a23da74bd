/- A symbolic executor with lists, 13: a row of operations, soundness. -/
import Derived.Test.YtcojfohjdibjjaaGreatDoorG11
namespace Go.Proofs.YtcojfohjdibjjaaGreatDoor
open Go.RowKit

def holds (a : Act) (g : List (Nat × Bool)) : Prop := ∀ p ∈ g, a.tmps[p.1]? = some (.bool p.2)
def SlotNow (ρ : Names) (a : Act) (g : List (Nat × Bool)) (v : SV) (t : Nat) : Prop :=
  (holds a g → ∃ x, den ρ v x ∧ a.tmps[t]? = some x) ∧ (¬ holds a g → a.tmps[t]? = some undef)

/-- A block that may be written. -/
def Mine (ρ : Names) (b : Nat) : Prop := (∃ n, Owns ρ n b) ∨ ρ.o b
/-- All that lay in w0, but for the named blocks, is as it was. -/
structure Keep (ρe : Names) (w0 W : World) : Prop where
  os : W.os = w0.os
  tape : W.tape = w0.tape
  output : W.output = w0.output
  size : w0.heap.size ≤ W.heap.size
  block : ∀ b, b < w0.heap.size → ¬ Mine ρe b → W.heap[b]? = w0.heap[b]?
theorem Keep.refl (ρe : Names) (w : World) : Keep ρe w w := ⟨rfl, rfl, rfl, Nat.le_refl _, fun _ _ _ => rfl⟩
theorem Keep.gr {ρe : Names} {w0 W W' : World} (h : Keep ρe w0 W) (g : Gr W W') : Keep ρe w0 W' :=
  ⟨g.os.trans h.os, g.tape.trans h.tape, g.output.trans h.output, Nat.le_trans h.size g.size, fun b hb hn => (Below.block g b (Nat.lt_of_lt_of_le hb h.size)).trans (h.block b hb hn)⟩
theorem Keep.to_gr {ρe : Names} {w0 W : World} (h : Keep ρe w0 W) (hn : ∀ b, ¬ Mine ρe b) : Gr w0 W :=
  ⟨h.os, h.tape, h.output, h.size, fun b hb => h.block b hb (hn b)⟩

theorem Names.le.unD {ρ ρ' : Names} (h : ρ.noD.le ρ') : ρ.le ρ' := ⟨h.n, h.v, h.k, h.z⟩
/-- Names and memory, seen from an older world. -/
structure Mem {PP : Program} (C : Cx PP) (w0 : World) (ρe : Names) (nm : Nat) (ρ : Names) (W : World) : Prop where
  hb : HB C ρ W
  dom : ∀ n b, ρ.n n = some b → n < nm
  domv : ∀ e l, ρ.v e = some l → e < nm ∧ l.o < nm
  domk : ∀ m i l, ρ.k m i = some l → m < nm
  le : ρe.le ρ
  old : ∀ n b, Owns ρ n b → Mine ρe b ∨ w0.heap.size ≤ b
  zold : ∀ b i c, ρ.z b i c → ρe.z b i c ∨ w0.heap.size ≤ b ∨ Mine ρe b
  keep : Keep ρe w0 W
theorem Mem.refl {PP : Program} {C : Cx PP} {ρ : Names} {W : World} {nm : Nat} (hb : HB C ρ W) (dom : ∀ n b, ρ.n n = some b → n < nm) (domv : ∀ e l, ρ.v e = some l → e < nm ∧ l.o < nm) (domk : ∀ m i l, ρ.k m i = some l → m < nm) : Mem C W ρ.noD nm ρ W :=
  ⟨hb, dom, domv, domk, ⟨fun _ _ h => h, fun _ _ h => h, fun _ _ _ h => h, fun _ _ _ h => h⟩, fun n _ h => .inl (.inl ⟨n, h⟩), fun _ _ _ h => .inl h, .refl _ _⟩
theorem Mem.trans {PP : Program} {C : Cx PP} {w0 w1 w2 : World} {ρ0 ρ1 ρ2 : Names} {n1 n2 : Nat} (h : Mem C w0 ρ0 n1 ρ1 w1) (k : Mem C w1 ρ1.noD n2 ρ2 w2) : Mem C w0 ρ0 n2 ρ2 w2 := by
  have hs := h.keep.size
  have hmine : ∀ b, Mine ρ1.noD b → Mine ρ0 b ∨ w0.heap.size ≤ b := fun b hm => by
    rcases hm with ⟨n, hn⟩ | hn
    · exact h.old n b hn
    · exact hn.elim
  refine ⟨k.hb, k.dom, k.domv, k.domk, h.le.trans k.le.unD, fun n b hn => ?_, fun b i c hz => ?_, ⟨k.keep.os.trans h.keep.os, k.keep.tape.trans h.keep.tape, k.keep.output.trans h.keep.output, Nat.le_trans hs k.keep.size, fun b hb hn => ?_⟩⟩
  · rcases k.old n b hn with h1 | h1
    · exact hmine b h1
    · exact .inr (by omega)
  · rcases k.zold b i c hz with h1 | h1 | h1
    · exact h.zold b i c h1
    · exact .inr (.inl (by omega))
    · rcases hmine b h1 with h2 | h2
      · exact .inr (.inr h2)
      · exact .inr (.inl h2)
  · have h1 : ¬ Mine ρ1.noD b := fun ho => by
      rcases hmine b ho with h2 | h2
      · exact hn h2
      · omega
    exact (k.keep.block b (by omega) h1).trans (h.keep.block b hb hn)
theorem Mem.gr {PP : Program} {C : Cx PP} {w0 W W' : World} {ρe ρ : Names} {nm : Nat} (h : Mem C w0 ρe nm ρ W) (g : Gr W W') : Mem C w0 ρe nm ρ W' := ⟨h.hb.gr g, h.dom, h.domv, h.domk, h.le, h.old, h.zold, h.keep.gr g⟩
theorem Mem.eff {PP : Program} {C : Cx PP} {w0 W W' : World} {ρe ρ ρ' : Names} {nm : Nat} {wn : Option Nat} {fr : Bool} (h : Mem C w0 ρe nm ρ W) (e : Eff C ρ W nm wn fr ρ' W') (hw : ∀ n, wn = some n → n < putN fr nm) : Mem C w0 ρe (putN fr nm) ρ' W' := by
  have hle : nm ≤ putN fr nm := by cases fr <;> simp [putN]
  have hs := h.keep.size
  have hown : ∀ n b, Owns ρ' n b → Owns ρ n b ∨ W.heap.size ≤ b := fun n b ho => by
    rcases ho with ho | ⟨ep, l, o, h1, h2, h3, h4⟩ | ⟨i, l, o, h1, h3, h4⟩
    · rcases e.nn n b ho with h1 | ⟨-, -, -, h1⟩
      · exact .inl (.inl h1)
      · exact .inr h1
    · rcases e.nv ep l h1 with k1 | ⟨-, -, k2, k3⟩
      · exact .inl (.inr (.inl ⟨ep, l, o, k1, h2, h3, h4⟩))
      · rw [← h2]; exact k3 b o h4 h3
    · exact .inl (.inr (.inr ⟨i, l, o, (e.nk n i).symm.trans h1, h3, h4⟩))
  refine ⟨e.hb, fun n b hn => ?_, fun ep l hl => ?_, fun m i l hl => Nat.lt_of_lt_of_le (h.domk m i l ((e.nk m i).symm.trans hl)) hle, h.le.trans e.le, fun n b hn => ?_, fun b i c hz => ?_, ⟨e.os.trans h.keep.os, e.tape.trans h.keep.tape, e.output.trans h.keep.output, Nat.le_trans hs e.size, fun b hb hn => ?_⟩⟩
  · rcases e.nn n b hn with h1 | ⟨rfl, h2, -, -⟩
    · have := h.dom n b h1; omega
    · rw [h2]; exact Nat.lt_succ_self _
  · rcases e.nv ep l hl with h1 | ⟨rfl, h2, h3, -⟩
    · have := h.domv ep l h1; omega
    · refine ⟨by rw [h2]; exact Nat.lt_succ_self _, hw _ h3⟩
  · rcases hown n b hn with h1 | h1
    · exact h.old n b h1
    · exact .inr (by omega)
  · rcases e.nz b i c hz with h1 | h1
    · exact h.zold b i c h1
    · exact .inr (.inl (by omega))
  · refine (e.block b (by omega) fun n _ ho => ?_).trans (h.keep.block b hb hn)
    rcases h.old n b ho with h1 | h1
    · exact hn h1
    · omega

structure Base {PP : Program} (C : Cx PP) (nt : Nat) (w0 : World) (ρe : Names) (H : Heap) (nm : Nat) (ρ : Names) (a : Act) (W : World) : Prop where
  mem : Mem C w0 ρe nm ρ W
  blk : ∀ n sb, look H n = some sb → Cont ρ W n sb
  sz : a.tmps.size = nt
  df : a.defers = ρe.d
theorem Base.hok {PP : Program} {C : Cx PP} {nt : Nat} {w0 : World} {ρe : Names} {H : Heap} {nm : Nat} {ρ : Names} {a : Act} {W : World} (h : Base C nt w0 ρe H nm ρ a W) : HOk C H ρ W := ⟨h.mem.hb, h.blk⟩

/-- Inside a region. -/
structure RI {PP : Program} (C : Cx PP) (nt : Nat) (w0 : World) (ρe : Names) (st : St) (ρ : Names) (a : Act) (W : World) : Prop where
  base : Base C nt w0 ρe st.H st.nm ρ a W
  rgs : ∀ t s, look st.sl t = some s → s.rg ≤ st.rg
  out : ∀ t s, look st.sl t = some s → s.rg ≠ st.rg → s.g = [] → ∃ x, den ρ s.v x ∧ a.tmps[t]? = some x
  ins : ∀ t s, look st.sl t = some s → s.rg = st.rg → SlotNow ρ a s.g s.v t
  cl : ∀ t s, look st.sl t = some s → s.rg = st.rg → ∀ p ∈ s.g, ∃ s', look st.sl p.1 = some s' ∧ s'.rg = st.rg
/-- Between regions. -/
structure Rp {PP : Program} (C : Cx PP) (nt : Nat) (w0 : World) (ρe : Names) (st : St) (ρ : Names) (a : Act) (W : World) : Prop where
  base : Base C nt w0 ρe st.H st.nm ρ a W
  rgs : ∀ t s, look st.sl t = some s → s.rg ≤ st.rg
  slots : ∀ t s, look st.sl t = some s → s.g = [] → ∃ x, den ρ s.v x ∧ a.tmps[t]? = some x

theorem holds_nil (a : Act) : holds a [] := fun _ h => by cases h
theorem getD_bool {a : Act} {t : Nat} {b : Bool} (h : a.eval (.tmp t) = .bool b) : a.tmps[t]? = some (.bool b) := by
  have h' : a.tmps.getD t undef = .bool b := h
  rcases Nat.lt_or_ge t a.tmps.size with hl | hl
  · simpa [hl] using h'
  · simp [Array.getElem?_eq_none hl, undef] at h'
theorem eval_some {a : Act} {t : Nat} {x : Value} (h : a.tmps[t]? = some x) : a.eval (.tmp t) = x := by
  show a.tmps.getD t undef = x
  simp [h]
theorem SlotNow.of_bool {ρ : Names} {a : Act} {g : List (Nat × Bool)} {v : SV} {t : Nat} {b : Bool} (h : SlotNow ρ a g v t) (hb : a.tmps[t]? = some (.bool b)) : holds a g ∧ ∃ x, den ρ v x ∧ a.tmps[t]? = some x := by
  by_cases hh : holds a g
  · exact ⟨hh, h.1 hh⟩
  · have := h.2 hh
    rw [hb] at this
    simp [undef] at this

theorem gimpP_ok {sl : List (Nat × Slot)} {a : Act} {ρ : Names} : ∀ {g : List (Nat × Bool)} {p : Prop}, (∀ q ∈ g, ∀ s, look sl q.1 = some s → ∃ x, den ρ s.v x ∧ a.tmps[q.1]? = some x) → holds a g → gimpP sl g p → p
  | [], p, _, _, h => h
  | (t, pol) :: r, p, hs, hh, h => by
    have ih : gimpP sl r p → p := gimpP_ok (fun q hq => hs q (List.mem_cons_of_mem _ hq)) (fun q hq => hh q (List.mem_cons_of_mem _ hq))
    simp only [gimpP] at h
    split at h
    · exact ih h
    · rename_i s hl
      split at h
      · exact ih h
      · rename_i b hb
        refine ih (h ?_)
        obtain ⟨x, h1, h2⟩ := hs (t, pol) List.mem_cons_self s hl
        have h0 := SV.bool?_den hb h1
        have h3 : a.tmps[t]? = some (.bool pol) := hh (t, pol) List.mem_cons_self
        have h4 : a.tmps[t]? = some x := h2
        rw [h3, h0] at h4
        injection h4 with h5
        injection h5 with h5
        exact h5.symm
theorem gimp_ok {sl : List (Nat × Slot)} {a : Act} {ρ : Names} {g : List (Nat × Bool)} {ob : Option Prop} (hs : ∀ q ∈ g, ∀ s, look sl q.1 = some s → ∃ x, den ρ s.v x ∧ a.tmps[q.1]? = some x) (hh : holds a g) (h : owed (gimp sl g ob)) : owed ob := by
  cases ob with
  | none => trivial
  | some p =>
    cases g with
    | nil => exact h
    | cons q r => exact gimpP_ok hs hh h

/-- An operand inside a row of operations. -/
theorem opIn_ok {PP : Program} {C : Cx PP} {nt : Nat} {w0 : World} {ρe : Names} {st : St} {ρ : Names} {a : Act} {W : World} (h : RI C nt w0 ρe st ρ a W) {heads : List Oper} {k : Nat} {o : Oper} {gk : List (Nat × Bool)} (hg : holds a gk) :
    OpOk (opIn false heads k st.rg st.sl o gk) a ρ := by
  intro ex x v e hex
  rw [opIn_def] at e
  split at e
  · obtain rfl := Option.some.inj e
    exact constSV_den
  · obtain rfl := Option.some.inj e
    rfl
  · obtain rfl := Option.some.inj e
    rfl
  · rename_i t
    split at e
    · cases e
    · rename_i s hl
      split at e
      · rename_i hr
        have hr := Nat.eq_of_beq_eq_true hr
        split at e
        · rename_i hsub
          obtain rfl := Option.some.inj e
          obtain ⟨y, h1, h2⟩ := (h.ins t s hl hr).1 (fun p hp => by
            rcases List.mem_append.1 (subA_mem hsub p hp) with hp | hp
            · exact getD_bool (hex p hp)
            · exact hg p hp)
          rw [eval_some h2]; exact h1
        · cases e
      · rename_i hr
        have hr : s.rg ≠ st.rg := fun e => by rw [e, Nat.beq_refl] at hr; cases hr
        split at e
        · rename_i hgn
          obtain rfl := Option.some.inj e
          obtain ⟨y, h1, h2⟩ := h.out t s hl hr hgn
          rw [eval_some h2]; exact h1
        · cases e

theorem guardOf_ok {any : Bool} {ops : List Oper} {rg : Nat} {sl : List (Nat × Slot)} {o : Oper} {g : List (Nat × Bool)} (h : guardOf any ops rg sl o = some g) :
    (o.guard = none ∧ g = []) ∨ ∃ j pol oj t s, o.guard = some (j, pol) ∧ ops[j]? = some oj ∧ oj.dst = some t ∧ look sl t = some s ∧ s.rg = rg ∧ s.k = j ∧ g = (t, pol) :: s.g ∧ (any = true → waitsOn o j = true) := by
  unfold guardOf at h
  split at h
  · rename_i hg
    exact .inl ⟨hg, (Option.some.inj h).symm⟩
  · rename_i j pol hg
    split at h
    · cases h
    · rename_i oj hoj
      split at h
      · cases h
      · rename_i t ht
        split at h
        · cases h
        · rename_i s hs
          split at h
          · rename_i h1 h2
            have e1 := Nat.eq_of_beq_eq_true h1
            have e2 := Nat.eq_of_beq_eq_true h2
            split at h
            · split at h
              · rename_i hw
                exact .inr ⟨j, pol, oj, t, s, hg, hoj, ht, hs, e1, e2, (Option.some.inj h).symm, fun _ => hw⟩
              · cases h
            · exact .inr ⟨j, pol, oj, t, s, hg, hoj, ht, hs, e1, e2, (Option.some.inj h).symm, fun h => by cases h⟩
          · cases h

theorem wanted_none {o : Oper} {y : Nat → Option Bool} (h : o.guard = none) : Region.wanted o y = true := by simp [Region.wanted, h]
theorem wanted_some {o oj : Oper} {ops : Array Oper} {a : Act} {j t : Nat} {pol : Bool} (h : o.guard = some (j, pol)) (hj : ops.toList[j]? = some oj) (ht : oj.dst = some t) :
    (Region.wanted o (yielded ops a.tmps) = true ↔ a.tmps[t]? = some (.bool pol)) := by
  have hj' : ops[j]? = some oj := by simpa using hj
  simp only [Region.wanted, h, yielded, hj', Option.bind_some, ht, beq_iff_eq]
  constructor
  · intro e
    split at e
    · rename_i b hb
      obtain rfl := Option.some.inj e
      exact hb
    · cases e
  · intro e
    rw [e]

theorem put_self {a : Act} {d : Nat} {x : Value} (h : d < a.tmps.size) : (a.put (some d) x).tmps[d]? = some x := by simp [Act.put, h]
theorem put_other {a : Act} {d t : Nat} {x : Value} (h : d ≠ t) : (a.put (some d) x).tmps[t]? = a.tmps[t]? := by simp [Act.put, h]

theorem freshIn_ok {rg : Nat} {sl : List (Nat × Slot)} {d : Nat} (h : freshIn rg sl d = true) {s : Slot} (hl : look sl d = some s) : s.rg ≠ rg := by
  unfold freshIn at h
  rw [hl] at h
  intro e
  simp only at h
  rw [e, Nat.beq_refl] at h
  cases h


section
variable {PP : Program} {C : Cx PP} {Γ : List (Con C)} {nt : Nat} {w0 : World} {ρe ρ : Names} {a : Act} {W : World}

theorem Base.same {H : Heap} {nm : Nat} {dst : Option Nat} {x : Value} {W' : World} (h : Base C nt w0 ρe H nm ρ a W) (g : Gr W W') : Base C nt w0 ρe H nm ρ (a.put dst x) W' :=
  ⟨h.mem.gr g, (h.hok.gr g).blk, by cases dst <;> simp [Act.put, h.sz], by cases dst <;> exact h.df⟩
theorem Mem.free {nm : Nat} (h : Mem C w0 ρe nm ρ W) : ρ.n nm = none ∧ ρ.v nm = none := by
  constructor
  · cases hn : ρ.n nm with
    | none => rfl
    | some b => have := h.dom nm b hn; omega
  · cases hn : ρ.v nm with
    | none => rfl
    | some b => have := (h.domv nm b hn).1; omega
/-- What an operation has done. -/
theorem Base.done {H : Heap} {nm : Nat} {dst : Option Nat} {x : Value} {W' : World} {ρ' : Names} {w : Option (Nat × SB)} {fr : Bool} (h : Base C nt w0 ρe H nm ρ a W) (e : Eff C ρ W nm (w.map Prod.fst) fr ρ' W') (hw : ∀ n sb, w = some (n, sb) → Cont ρ' W' n sb) (hn : ∀ n sb, w = some (n, sb) → n < putN fr nm) :
    Base C nt w0 ρe (putH w H) (putN fr nm) ρ' (a.put dst x) W' := by
  refine ⟨h.mem.eff e fun n hn' => ?_, fun n sb hl => ?_, by cases dst <;> simp [Act.put, h.sz], by cases dst <;> exact h.df⟩
  · cases w with
    | none => cases hn'
    | some w => obtain rfl := Option.some.inj hn'; exact hn w.1 w.2 rfl
  · cases w with
    | none => exact e.cont h.mem.hb (h.blk n sb hl) (by simp)
    | some w =>
      obtain ⟨m, sb'⟩ := w
      by_cases hmn : m = n
      · subst hmn
        have hl : look ((m, sb') :: H) m = some sb := hl
        rw [look_cons_eq] at hl
        obtain rfl := Option.some.inj hl
        exact hw m sb' rfl
      · have hl : look ((m, sb') :: H) n = some sb := hl
        rw [look_cons_ne _ _ hmn] at hl
        exact e.cont h.mem.hb (h.blk n sb hl) (by simp; exact hmn)

theorem RI.put {sl : List (Nat × Slot)} {H H' : Heap} {nm nm' rg k d : Nat} {rd rd' : List (Nat × Nat)} {ws ws' : List (Nat × Nat)} {g : List (Nat × Bool)} {v : SV} {x : Value} {ρ' : Names} {W' : World} (h : RI C nt w0 ρe ⟨sl, H, nm, rg, rd, ws⟩ ρ a W) (hl : ρ.le ρ')
    (hf : freshIn rg sl d = true) (hcl : ∀ p ∈ g, ∃ s', look sl p.1 = some s' ∧ s'.rg = rg) (hv : SlotNow ρ' (a.put (some d) x) g v d) (hb : Base C nt w0 ρe H' nm' ρ' (a.put (some d) x) W') :
    RI C nt w0 ρe ⟨(d, ⟨rg, k, g, v⟩) :: sl, H', nm', rg, rd', ws'⟩ ρ' (a.put (some d) x) W' := by
  have hat : ∀ g' : List (Nat × Bool), (∀ p ∈ g', ∃ s', look sl p.1 = some s' ∧ s'.rg = rg) → (holds (a.put (some d) x) g' ↔ holds a g') := by
    intro g' hg'
    have hne : ∀ p ∈ g', d ≠ p.1 := fun p hp e => by
      obtain ⟨s', h1, h2⟩ := hg' p hp
      exact freshIn_ok hf (by rw [e]; exact h1) h2
    exact ⟨fun hh p hp => by rw [← put_other (hne p hp) (x := x)]; exact hh p hp, fun hh p hp => by rw [put_other (hne p hp)]; exact hh p hp⟩
  refine ⟨hb, fun t s hs => ?_, fun t s hs hr hg => ?_, fun t s hs hr => ?_, fun t s hs hr p hp => ?_⟩
  · by_cases e : d = t
    · subst e
      rw [look_cons_eq] at hs
      obtain rfl := Option.some.inj hs
      exact Nat.le_refl _
    · rw [look_cons_ne _ _ e] at hs
      exact h.rgs t s hs
  · by_cases e : d = t
    · subst e
      rw [look_cons_eq] at hs
      obtain rfl := Option.some.inj hs
      exact absurd rfl hr
    · rw [look_cons_ne _ _ e] at hs
      obtain ⟨y, h1, h2⟩ := h.out t s hs hr hg
      exact ⟨y, den_le hl _ _ h1, by rw [put_other e]; exact h2⟩
  · by_cases e : d = t
    · subst e
      rw [look_cons_eq] at hs
      obtain rfl := Option.some.inj hs
      exact hv
    · rw [look_cons_ne _ _ e] at hs
      obtain ⟨h1, h2⟩ := h.ins t s hs hr
      have hi := hat s.g (h.cl t s hs hr)
      refine ⟨fun hh => ?_, fun hh => ?_⟩
      · obtain ⟨y, h3, h4⟩ := h1 (hi.1 hh)
        exact ⟨y, den_le hl _ _ h3, by rw [put_other e]; exact h4⟩
      · rw [put_other e]; exact h2 fun h' => hh (hi.2 h')
  · have hin : ∃ s', look sl p.1 = some s' ∧ s'.rg = rg := by
      by_cases e : d = t
      · subst e
        rw [look_cons_eq] at hs
        obtain rfl := Option.some.inj hs
        exact hcl p hp
      · rw [look_cons_ne _ _ e] at hs
        exact h.cl t s hs hr p hp
    obtain ⟨s', h1, h2⟩ := hin
    refine ⟨s', ?_, h2⟩
    show look ((d, _) :: sl) p.1 = some s'
    rw [look_cons_ne _ _ fun e => freshIn_ok hf (by rw [e]; exact h1) h2]
    exact h1

/-- The guards of an operation: they hold if it is wanted, and only then; their slots are the region's. -/
theorem guard_case {ops : Array Oper} {st : St} {o : Oper} {g : List (Nat × Bool)} (h : RI C nt w0 ρe st ρ a W) (hg : guardOf false ops.toList st.rg st.sl o = some g) :
    (Region.wanted o (yielded ops a.tmps) = true ↔ holds a g) ∧ (∀ p ∈ g, ∃ s', look st.sl p.1 = some s' ∧ s'.rg = st.rg) ∧
    (holds a g → ∀ q ∈ g, ∀ s, look st.sl q.1 = some s → ∃ x, den ρ s.v x ∧ a.tmps[q.1]? = some x) := by
  have hsl : ∀ q : Nat × Bool, ∀ s, (∃ s', look st.sl q.1 = some s' ∧ s'.rg = st.rg) → look st.sl q.1 = some s → a.tmps[q.1]? = some (.bool q.2) → ∃ x, den ρ s.v x ∧ a.tmps[q.1]? = some x := by
    intro q s ⟨s', h1, h2⟩ hs hb
    rw [h1] at hs
    obtain rfl := Option.some.inj hs
    exact ((h.ins q.1 s' h1 h2).of_bool hb).2
  rcases guardOf_ok hg with ⟨h1, rfl⟩ | ⟨j, pol, oj, t, s, h1, h2, h3, h4, h5, h6, rfl, -⟩
  · exact ⟨⟨fun _ => holds_nil a, fun _ => wanted_none h1⟩, (fun p hp => by cases hp), (fun _ q hq => by cases hq)⟩
  · have hin : ∀ p ∈ (t, pol) :: s.g, ∃ s', look st.sl p.1 = some s' ∧ s'.rg = st.rg := fun p hp => by
      rcases List.mem_cons.1 hp with rfl | hp
      · exact ⟨s, h4, h5⟩
      · exact h.cl t s h4 h5 p hp
    refine ⟨⟨fun hw => ?_, fun hh => (wanted_some h1 h2 h3).2 (hh _ List.mem_cons_self)⟩, hin, fun hh q hq s' hs' => hsl q s' (hin q hq) hs' (hh q hq)⟩
    have hb := (wanted_some h1 h2 h3).1 hw
    have := ((h.ins t s h4 h5).of_bool hb).1
    intro p hp
    rcases List.mem_cons.1 hp with rfl | hp
    · exact hb
    · exact this p hp


/-- What is fixed by one operation's computation. -/
theorem stepIn_facts {any : Bool} {ops heads : List Oper} {k : Nat} {o : Oper} {st st' : St} {ob : Option Prop} (hs : stepIn Γ nt any ops heads k o st = some (st', ob)) :
    ∃ g R r, guardOf any ops st.rg st.sl o = some g ∧ rdN any (opIn any heads k st.rg st.sl o g) st.H o.op = some R ∧ rdsOk any ops k R st.ws = true ∧ D Γ (fzB g) (opIn any heads k st.rg st.sl o g) (heapFor any st.H R) st.nm o.op = some r ∧
      wrB any ops k g r.w r.fr st.nm st.rd st.ws = true ∧ dstB nt st.rg st.sl o = true ∧ st' = ⟨putS st.rg k g r.v o.dst st.sl, putH r.w st.H, putN r.fr st.nm, st.rg, putR any k R st.rd, putW any r.w k st.ws⟩ ∧ ob = gimp st.sl g r.ob := by
  obtain ⟨sl, H, nm, rg, rd, ws⟩ := st
  unfold stepIn at hs
  simp only at hs
  split at hs
  · cases hs
  rename_i g0 hg
  split at hs
  · cases hs
  rename_i g hlg
  obtain rfl := laid_eq hlg
  split at hs
  · cases hs
  rename_i R hR
  split at hs
  · rename_i ob' v w fr hr hD
    split at hs
    · rename_i h1 h2
      rw [putSf_eq, putHf_eq, putNf_eq] at hs
      simp only at hs
      refine ⟨g, R, ⟨ob', v, w, fr⟩, hg, hR, hr, hD, h1, h2, ?_⟩
      cases any with
      | true =>
        simp only at hs
        split at hs
        · rename_i rd' ws' l1 l2
          obtain rfl := laid_eq l1
          obtain rfl := laid_eq l2
          obtain ⟨rfl, rfl⟩ := Prod.mk.inj (Option.some.inj hs)
          exact ⟨rfl, rfl⟩
        · cases hs
      | false =>
        obtain ⟨rfl, rfl⟩ := Prod.mk.inj (Option.some.inj hs)
        exact ⟨rfl, rfl⟩
    · cases hs
  · cases hs
theorem wrB_ok {any : Bool} {ops : List Oper} {k nm : Nat} {g : List (Nat × Bool)} {w : Option (Nat × SB)} {fr : Bool} {rd ws : List (Nat × Nat)} (h : wrB any ops k g w fr nm rd ws = true) :
    (w = none ∧ fr = false) ∨ ∃ n sb, w = some (n, sb) ∧ g = [] ∧ n < putN fr nm ∧ (any = true → wsOk ops k n ws = true ∧ wsOk ops k n rd = true) := by
  unfold wrB at h
  split at h
  · split at h
    · cases h
    · exact .inl ⟨rfl, rfl⟩
  · rename_i n sb
    split at h
    · rename_i hlt
      rw [Nat.blt_eq] at hlt
      refine .inr ⟨n, sb, rfl, rfl, hlt, fun ha => ?_⟩
      subst ha
      simp only at h
      split at h
      · rename_i h1; exact ⟨h1, h⟩
      · cases h
    · cases h
theorem dstB_ok {rg : Nat} {sl : List (Nat × Slot)} {o : Oper} (h : dstB nt rg sl o = true) : (isStore o.op = true → o.dst = none) ∧ ∀ d, o.dst = some d → d < nt ∧ freshIn rg sl d = true := by
  unfold dstB at h
  split at h
  · rename_i hd
    exact ⟨fun _ => hd, fun d hd' => by rw [hd] at hd'; cases hd'⟩
  · rename_i d hd
    split at h
    · rename_i h1 h2
      rw [Nat.blt_eq] at h2
      refine ⟨fun h' => by rw [h1] at h'; (cases h'), fun d' hd' => ?_⟩
      rw [hd] at hd'
      obtain rfl := Option.some.inj hd'
      exact ⟨h2, h⟩
    · cases h

theorem step_seq {ops : Array Oper} {heads : List Oper} {st st' : St} {k : Nat} {o : Oper} {ob : Option Prop} {Q : Exit → Act → World → Prop} (h : RI C nt w0 ρe st ρ a W) (hs : stepIn Γ nt false ops.toList heads k o st = some (st', ob)) (ho : owed ob)
    {K : Act → World → Prop} (hK : ∀ ρ' a' W', RI C nt w0 ρe st' ρ' a' W' → K a' W') : if Region.wanted o (yielded ops a.tmps) = true then Oper.wp C.P o a W K Q else K (a.put o.dst undef) W := by
  obtain ⟨g, R, r, hg, -, -, hD, hwr, hdst, rfl, rfl⟩ := stepIn_facts hs
  obtain ⟨c1, c2, c3⟩ := guard_case h hg
  obtain ⟨d1, d2⟩ := dstB_ok hdst
  obtain ⟨sl, H, nm, rg, rd, ws⟩ := st
  have hD : D Γ (fzB g) (opIn false heads k rg sl o g) H nm o.op = some r := hD
  have hfree := h.base.mem.free
  -- what is left of the state when nothing is done
  have skip : ¬ holds a g → r.w = none ∧ r.fr = false := fun hn => by
    rcases wrB_ok hwr with h1 | ⟨n, sb, -, rfl, -⟩
    · exact h1
    · exact absurd (holds_nil a) hn
  have hwn : ∀ n sb, r.w = some (n, sb) → n < putN r.fr nm := fun n sb hw => by
    rcases wrB_ok hwr with ⟨h1, -⟩ | ⟨n', sb', h1, -, h2, -⟩
    · rw [h1] at hw; cases hw
    · rw [h1] at hw
      obtain ⟨rfl, rfl⟩ := Prod.mk.inj (Option.some.inj hw)
      exact h2
  have done : ∀ val W' ρ', Eff C ρ W nm (r.w.map Prod.fst) r.fr ρ' W' → (∀ n sb, r.w = some (n, sb) → Cont ρ' W' n sb) → (holds a g → den ρ' r.v val) → (¬ holds a g → val = undef) →
      RI C nt w0 ρe ⟨putS rg k g r.v o.dst sl, putH r.w H, putN r.fr nm, rg, putR false k R rd, putW false r.w k ws⟩ ρ' (a.put o.dst val) W' := by
    intro val W' ρ' e hc hv hu
    have hb : ∀ dst, Base C nt w0 ρe (putH r.w H) (putN r.fr nm) ρ' (a.put dst val) W' := fun dst => h.base.done e hc hwn
    cases hd : o.dst with
    | none =>
      refine ⟨hb none, h.rgs, fun t s hs hr hg' => ?_, fun t s hs hr => ?_, h.cl⟩
      · obtain ⟨x, h1, h2⟩ := h.out t s hs hr hg'
        exact ⟨x, den_le e.le _ _ h1, h2⟩
      · obtain ⟨h1, h2⟩ := h.ins t s hs hr
        exact ⟨fun hh => let ⟨x, k1, k2⟩ := h1 hh; ⟨x, den_le e.le _ _ k1, k2⟩, h2⟩
    | some d =>
      obtain ⟨hd1, hfr⟩ := d2 d hd
      have hdl : d < a.tmps.size := by rw [h.base.sz]; exact hd1
      have hat : holds (a.put (some d) val) g ↔ holds a g := by
        have hne : ∀ p ∈ g, d ≠ p.1 := fun p hp e => by
          obtain ⟨s', h1, h2⟩ := c2 p hp
          exact freshIn_ok hfr (by rw [e]; exact h1) h2
        exact ⟨fun hh p hp => by rw [← put_other (hne p hp) (x := val)]; exact hh p hp, fun hh p hp => by rw [put_other (hne p hp)]; exact hh p hp⟩
      exact h.put e.le hfr c2 ⟨fun hh => ⟨val, hv (hat.1 hh), put_self hdl⟩, fun hn => by rw [put_self hdl, hu fun hh => hn (hat.2 hh)]⟩ (hb (some d))
  split
  · rename_i hw
    have hh := c1.1 hw
    refine D_sound (nm := nm) h.base.hok (fun _ => hfree) (opIn_ok h hh) d1 hD (gimp_ok (c3 hh) hh ho) fun val W' hp => ?_
    obtain ⟨ρ', p1, p2, p3⟩ := hp
    exact hK ρ' _ W' (done val W' ρ' p1 p2 (fun _ => p3) fun hn => absurd hh hn)
  · rename_i hw
    have hn : ¬ holds a g := fun hh => hw (c1.2 hh)
    obtain ⟨k1, k2⟩ := skip hn
    have e : Eff C ρ W nm (r.w.map Prod.fst) r.fr ρ W := by rw [k1, k2]; exact Eff.of_gr h.base.mem.hb (Gr.refl W)
    exact hK ρ _ W (done undef W ρ e (fun n sb h => by rw [k1] at h; cases h) (fun hh => absurd hh hn) fun _ => rfl)
end
end Go.Proofs.YtcojfohjdibjjaaGreatDoor
