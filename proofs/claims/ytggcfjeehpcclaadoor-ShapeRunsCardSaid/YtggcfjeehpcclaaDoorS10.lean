/- A symbolic executor, 11: a row of operations, soundness. -/
import Derived.Test.YtggcfjeehpcclaaDoorS9
namespace Go.Proofs.YtggcfjeehpcclaaDoor
open Go.RowKit

section
variable {PP : Program} {C : Cx PP} {Γ : List (Con C)} {nt : Nat} {w0 : World} {ρe ρ : Names} {a : Act} {W : World}

theorem Base.same {H : List (Nat × SB)} {nm : Nat} {dst : Option Nat} {x : Value} {W' : World} (h : Base C nt w0 ρe H nm ρ a W) (g : Gr W W') : Base C nt w0 ρe H nm ρ (a.put dst x) W' :=
  ⟨h.hok.gr g, h.dom, h.le, h.old, h.keep.gr g, by cases dst <;> simp [Act.put, h.sz], by cases dst <;> exact h.df⟩
theorem Names.add_self (ρ : Names) (n m : Nat) : (ρ.add n m) n = some m := by simp [Names.add]
theorem Names.add_ne (ρ : Names) {n m i : Nat} (h : i ≠ n) : (ρ.add n m) i = ρ i := by simp [Names.add, h]
theorem Base.free {H : List (Nat × SB)} {nm : Nat} (h : Base C nt w0 ρe H nm ρ a W) : ρ nm = none := by
  cases hn : ρ nm with
  | none => rfl
  | some b => have := h.dom nm b hn; omega
theorem HOk.add {H : List (Nat × SB)} {nm m : Nat} {sb : SB} {cs : List Value} {W' : World} (h : HOk C H ρ W) (hf : ρ nm = none) (g : Gr W W') (hm : W.heap.size ≤ m) (hm' : m < W'.heap.size) (hgm : C.gm ≤ m)
    (hd : denL ρ sb.cs = some cs) (hb : Blk W' m cs.toArray sb.t) : HOk C ((nm, sb) :: H) (ρ.add nm m) W' := by
  have hl := Names.le_add (m := m) hf
  have h' := h.gr g
  refine ⟨fun n s hn => ?_, fun i j b hi hj => ?_, fun n b hn => ?_, h'.grd⟩
  · by_cases e : nm = n
    · subst e
      rw [look_cons_eq] at hn
      obtain rfl := Option.some.inj hn
      exact ⟨m, cs, Names.add_self _ _ _, denL_le hl _ _ hd, hb⟩
    · rw [look_cons_ne _ _ e] at hn
      obtain ⟨b, vs, h1, h2, h3⟩ := h'.blk n s hn
      exact ⟨b, vs, hl n b h1, denL_le hl _ _ h2, h3⟩
  · unfold Names.add at hi hj
    split at hi <;> split at hj
    · omega
    · rename_i h1 h2
      obtain rfl := Option.some.inj hi
      have := (h.low j _ hj).2
      omega
    · rename_i h1 h2
      obtain rfl := Option.some.inj hj
      have := (h.low i _ hi).2
      omega
    · exact h.inj i j b hi hj
  · unfold Names.add at hn
    split at hn
    · obtain rfl := Option.some.inj hn
      exact ⟨hgm, hm'⟩
    · exact h'.low n b hn
theorem Base.birth {H : List (Nat × SB)} {nm m : Nat} {sb : SB} {cs : List Value} {dst : Option Nat} {x : Value} {W' : World} (h : Base C nt w0 ρe H nm ρ a W) (hgm : C.gm ≤ w0.heap.size) (g : Gr W W') (hm : W.heap.size ≤ m) (hm' : m < W'.heap.size)
    (hd : denL ρ sb.cs = some cs) (hb : Blk W' m cs.toArray sb.t) : Base C nt w0 ρe ((nm, sb) :: H) (nm + 1) (ρ.add nm m) (a.put dst x) W' := by
  have hl := Names.le_add (m := m) h.free
  refine ⟨h.hok.add h.free g hm hm' (by have := h.keep.size; omega) hd hb, fun n b hn => ?_, h.le.trans hl, fun n b hn => ?_, h.keep.gr g, by cases dst <;> simp [Act.put, h.sz], by cases dst <;> exact h.df⟩
  · unfold Names.add at hn
    split at hn
    · omega
    · have := h.dom n b hn; omega
  · unfold Names.add at hn
    split at hn
    · obtain rfl := Option.some.inj hn
      exact .inr (by have := h.keep.size; omega)
    · exact h.old n b hn

theorem RI.put {sl : List (Nat × Slot)} {H H' : List (Nat × SB)} {nm nm' rg k d : Nat} {rd rd' : List Nat} {ws ws' : List (Nat × Nat)} {g : List (Nat × Bool)} {v : SV} {x : Value} {ρ' : Names} {W' : World} (h : RI C nt w0 ρe ⟨sl, H, nm, rg, rd, ws⟩ ρ a W) (hl : ρ.le ρ')
    (hf : freshIn rg sl d = true) (hcl : ∀ p ∈ g, ∃ s', look sl p.1 = some s' ∧ s'.rg = rg) (hv : SlotNow ρ' (a.put (some d) x) g v d) (hb : Base C nt w0 ρe H' nm' ρ' (a.put (some d) x) W') :
    RI C nt w0 ρe ⟨(d, ⟨rg, k, g, v⟩) :: sl, H', nm', rg, rd', ws'⟩ ρ' (a.put (some d) x) W' := by
  have hat : ∀ g' : List (Nat × Bool), (∀ p ∈ g', ∃ s', look sl p.1 = some s' ∧ s'.rg = rg) → (holds (a.put (some d) x) g' ↔ holds a g') := by
    intro g' hg'
    have hne : ∀ p ∈ g', d ≠ p.1 := fun p hp e => by
      obtain ⟨s', h1, h2⟩ := hg' p hp
      exact freshIn_ok hf (by rw [e]; exact h1) h2
    exact ⟨fun hh p hp => by rw [← put_other (hne p hp) (x := x)]; exact hh p hp, fun hh p hp => by rw [put_other (hne p hp)]; exact hh p hp⟩
  refine ⟨hb, fun t s hs => ?_, fun t s hs hr hg => ?_, fun t s hs hr => ?_, fun t s hs hr p hp => ?_⟩
  · by_cases e : d = t
    · subst e
      rw [look_cons_eq] at hs
      obtain rfl := Option.some.inj hs
      exact Nat.le_refl _
    · rw [look_cons_ne _ _ e] at hs
      exact h.rgs t s hs
  · by_cases e : d = t
    · subst e
      rw [look_cons_eq] at hs
      obtain rfl := Option.some.inj hs
      exact absurd rfl hr
    · rw [look_cons_ne _ _ e] at hs
      obtain ⟨y, h1, h2⟩ := h.out t s hs hr hg
      exact ⟨y, den_le hl _ _ h1, by rw [put_other e]; exact h2⟩
  · by_cases e : d = t
    · subst e
      rw [look_cons_eq] at hs
      obtain rfl := Option.some.inj hs
      exact hv
    · rw [look_cons_ne _ _ e] at hs
      obtain ⟨h1, h2⟩ := h.ins t s hs hr
      have hi := hat s.g (h.cl t s hs hr)
      refine ⟨fun hh => ?_, fun hh => ?_⟩
      · obtain ⟨y, h3, h4⟩ := h1 (hi.1 hh)
        exact ⟨y, den_le hl _ _ h3, by rw [put_other e]; exact h4⟩
      · rw [put_other e]; exact h2 fun h' => hh (hi.2 h')
  · have hin : ∃ s', look sl p.1 = some s' ∧ s'.rg = rg := by
      by_cases e : d = t
      · subst e
        rw [look_cons_eq] at hs
        obtain rfl := Option.some.inj hs
        exact hcl p hp
      · rw [look_cons_ne _ _ e] at hs
        exact h.cl t s hs hr p hp
    obtain ⟨s', h1, h2⟩ := hin
    refine ⟨s', ?_, h2⟩
    show look ((d, _) :: sl) p.1 = some s'
    rw [look_cons_ne _ _ fun e => freshIn_ok hf (by rw [e]; exact h1) h2]
    exact h1

theorem RI.same {st : St} {W' : World} (h : RI C nt w0 ρe st ρ a W) (g : Gr W W') : RI C nt w0 ρe st ρ a W' :=
  ⟨h.base.same (dst := none) (x := undef) g, h.rgs, h.out, h.ins, h.cl⟩

/-- The guards of an operation: they hold if it is wanted, and only then; their slots are the region's. -/
theorem guard_case {ops : Array Oper} {st : St} {o : Oper} {g : List (Nat × Bool)} (h : RI C nt w0 ρe st ρ a W) (hg : guardOf false ops.toList st.rg st.sl o = some g) :
    (Region.wanted o (yielded ops a.tmps) = true ↔ holds a g) ∧ (∀ p ∈ g, ∃ s', look st.sl p.1 = some s' ∧ s'.rg = st.rg) ∧
    (holds a g → ∀ q ∈ g, ∀ s, look st.sl q.1 = some s → ∃ x, den ρ s.v = some x ∧ a.tmps[q.1]? = some x) := by
  have hsl : ∀ q : Nat × Bool, ∀ s, (∃ s', look st.sl q.1 = some s' ∧ s'.rg = st.rg) → look st.sl q.1 = some s → a.tmps[q.1]? = some (.bool q.2) → ∃ x, den ρ s.v = some x ∧ a.tmps[q.1]? = some x := by
    intro q s ⟨s', h1, h2⟩ hs hb
    rw [h1] at hs
    obtain rfl := Option.some.inj hs
    exact ((h.ins q.1 s' h1 h2).of_bool hb).2
  rcases guardOf_ok hg with ⟨h1, rfl⟩ | ⟨j, pol, oj, t, s, h1, h2, h3, h4, h5, h6, rfl, -⟩
  · exact ⟨⟨fun _ => holds_nil a, fun _ => wanted_none h1⟩, (fun p hp => by cases hp), (fun _ q hq => by cases hq)⟩
  · have hin : ∀ p ∈ (t, pol) :: s.g, ∃ s', look st.sl p.1 = some s' ∧ s'.rg = st.rg := fun p hp => by
      rcases List.mem_cons.1 hp with rfl | hp
      · exact ⟨s, h4, h5⟩
      · exact h.cl t s h4 h5 p hp
    refine ⟨⟨fun hw => ?_, fun hh => (wanted_some h1 h2 h3).2 (hh _ List.mem_cons_self)⟩, hin, fun hh q hq s' hs' => hsl q s' (hin q hq) hs' (hh q hq)⟩
    have hb := (wanted_some h1 h2 h3).1 hw
    have := ((h.ins t s h4 h5).of_bool hb).1
    intro p hp
    rcases List.mem_cons.1 hp with rfl | hp
    · exact hb
    · exact this p hp

/-- What is fixed by one operation's computation. -/
theorem stepIn_facts {any : Bool} {ops heads : List Oper} {H : List (Nat × SB)} {k : Nat} {o : Oper} {st st' : St} {ob : Option Prop} (hs : stepIn Γ nt any ops heads H k o st = some (st', ob)) :
    ∃ g, guardOf any ops st.rg st.sl o = some g ∧ st'.rg = st.rg ∧
      ((g = [] ∧ o.dst = none ∧ ob = none ∧ ∃ n sb, storeD C (opIn any heads st.rg st.sl o g) st.H o.op = some (n, sb) ∧ st'.sl = st.sl ∧ st'.H = (n, sb) :: st.H ∧ st'.nm = st.nm ∧ st'.rd = st.rd ∧ (any = true → st'.ws = (n, k) :: st.ws ∧ wsOk ops k n st.ws = true)) ∨
       ∃ r R, rdN any (opIn any heads st.rg st.sl o g) H o.op st.rd = some (R, st'.rd) ∧ D Γ (opIn any heads st.rg st.sl o g) (heapFor any H st.H R) st.nm o.op = some r ∧
        ((o.dst = none ∧ r.b = none ∧ st'.sl = st.sl ∧ st'.H = st.H ∧ st'.nm = st.nm ∧ st'.ws = st.ws ∧ ob = gimp st.sl g r.ob) ∨
         ∃ d, o.dst = some d ∧ d < nt ∧ freshIn st.rg st.sl d = true ∧ st'.sl = (d, ⟨st.rg, k, g, r.v⟩) :: st.sl ∧
          ((r.b = none ∧ st'.H = st.H ∧ st'.nm = st.nm ∧ st'.ws = st.ws ∧ ob = gimp st.sl g r.ob) ∨
            ∃ sb, r.b = some sb ∧ g = [] ∧ st'.H = (st.nm, sb) :: st.H ∧ st'.nm = st.nm + 1 ∧ (any = true → st'.ws = (st.nm, k) :: st.ws) ∧ ob = r.ob))) := by
  obtain ⟨sl, Hs, nm, rg, rd, ws⟩ := st
  unfold stepIn at hs
  simp only at hs
  split at hs
  · cases hs
  rename_i g hg
  split at hs
  · split at hs
    · rename_i n sb hdst hst
      cases any with
      | false =>
        obtain ⟨rfl, rfl⟩ := Prod.mk.inj (Option.some.inj hs)
        exact ⟨[], hg, rfl, .inl ⟨rfl, hdst, rfl, n, sb, hst, rfl, rfl, rfl, rfl, fun h => by cases h⟩⟩
      | true =>
        simp only at hs
        split at hs
        · rename_i hw
          obtain ⟨rfl, rfl⟩ := Prod.mk.inj (Option.some.inj hs)
          exact ⟨[], hg, rfl, .inl ⟨rfl, hdst, rfl, n, sb, hst, rfl, rfl, rfl, rfl, fun _ => ⟨rfl, hw⟩⟩⟩
        · cases hs
    · cases hs
  · split at hs
    · cases hs
    rename_i R rd' hrd
    split at hs
    · cases hs
    rename_i ob' v b hD
    split at hs
    · rename_i hdst
      obtain ⟨rfl, rfl⟩ := Prod.mk.inj (Option.some.inj hs)
      exact ⟨g, hg, rfl, .inr ⟨_, R, hrd, hD, .inl ⟨hdst, rfl, rfl, rfl, rfl, rfl, rfl⟩⟩⟩
    · cases hs
    · rename_i _ d hdst
      split at hs
      · rename_i hd1 hfr
        rw [Nat.blt_eq] at hd1
        split at hs
        · obtain ⟨rfl, rfl⟩ := Prod.mk.inj (Option.some.inj hs)
          exact ⟨g, hg, rfl, .inr ⟨_, R, hrd, hD, .inr ⟨d, hdst, hd1, hfr, rfl, .inl ⟨rfl, rfl, rfl, rfl, rfl⟩⟩⟩⟩
        · rename_i sb
          split at hs
          · obtain ⟨rfl, rfl⟩ := Prod.mk.inj (Option.some.inj hs)
            exact ⟨[], hg, rfl, .inr ⟨_, R, hrd, hD, .inr ⟨d, hdst, hd1, hfr, rfl, .inr ⟨sb, rfl, rfl, rfl, rfl, fun h => by rw [h], rfl⟩⟩⟩⟩
          · cases hs
      · cases hs

theorem oneSV_ok {x : SV} {v : Value} (h : oneSV x = true) (hd : den ρ x = some v) : v.oneCell' = true := by
  cases x <;> simp only [den] at hd
  case v y =>
    obtain rfl := Option.some.inj hd
    cases y <;> first | rfl | cases h
  case agg => cases h
  case tup => cases h
  all_goals first
    | (obtain rfl := Option.some.inj hd; rfl)
    | (split at hd <;> first | (obtain rfl := Option.some.inj hd; rfl) | cases hd)
theorem oneSV_all : ∀ {l : List SV} {vs : List Value}, l.all oneSV = true → denL ρ l = some vs → ∀ v ∈ vs, v.oneCell' = true
  | [], vs, _, hd, v, hv => by rw [denL_nil hd] at hv; cases hv
  | x :: r, vs, h, hd, v, hv => by
    obtain ⟨a, b, rfl, h1, h2⟩ := denL_cons hd
    simp only [List.all_cons, Bool.and_eq_true] at h
    rcases List.mem_cons.1 hv with rfl | hv
    · exact oneSV_ok h.1 h1
    · exact oneSV_all h.2 h2 v hv

theorem setRow_other {w : World} {g b : Nat} {cs : Array Value} (h : b ≠ g) : (w.setRow g cs).heap[b]? = w.heap[b]? := by
  simp [World.setRow, Array.getElem?_modify, Ne.symm h]
theorem setRow_size {w : World} {g : Nat} {cs : Array Value} : (w.setRow g cs).heap.size = w.heap.size := by simp [World.setRow]
theorem Cx.Grd.store (h : C.Grd W) {b : Nat} {cs : Array Value} (hb : C.gm ≤ b) : C.Grd (W.setRow b cs) := by
  refine ⟨by rw [setRow_size]; exact h.1, fun c s hc => ?_⟩
  obtain ⟨k0, us, k1, k2⟩ := h.2 c s hc
  refine ⟨k0, us, k1, fun i v hv => ?_⟩
  have k3 := k2 i v hv
  have k4 : (W.setRow b cs).heap[c]? = W.heap[c]? := setRow_other (by omega)
  unfold World.cell? at k3 ⊢
  simp only at k3 ⊢
  rw [k4]; exact k3
theorem Keep.store (h : Keep ρe w0 W) {b : Nat} {cs : Array Value} (hb : (∃ n, ρe n = some b) ∨ w0.heap.size ≤ b) : Keep ρe w0 (W.setRow b cs) :=
  ⟨h.os, h.tape, h.output, by rw [setRow_size]; exact h.size, fun c hc hnc => by
    rw [setRow_other]
    · exact h.block c hc hnc
    · rintro rfl
      rcases hb with ⟨n, h1⟩ | h1
      · exact hnc n h1
      · omega⟩

/-- What a named block holds. -/
def Cont (ρ : Names) (W : World) (m : Nat) (sb : SB) : Prop := ∃ b vs, ρ m = some b ∧ denL ρ sb.cs = some vs ∧ Blk W b vs.toArray sb.t
theorem Cont.gr {W' : World} {m : Nat} {sb : SB} (h : Cont ρ W m sb) (g : Gr W W') : Cont ρ W' m sb := let ⟨b, vs, h1, h2, h3⟩ := h; ⟨b, vs, h1, h2, g.blk h3⟩
theorem Cont.le {ρ' : Names} {m : Nat} {sb : SB} (h : Cont ρ W m sb) (g : ρ.le ρ') : Cont ρ' W m sb := let ⟨b, vs, h1, h2, h3⟩ := h; ⟨b, vs, g _ _ h1, denL_le g _ _ h2, h3⟩
theorem Cont.other {m n b : Nat} {sb : SB} {cs : Array Value} (h : Cont ρ W m sb) (inj : ∀ i j b, ρ i = some b → ρ j = some b → i = j) (hn : ρ n = some b) (e : m ≠ n) : Cont ρ (W.setRow b cs) m sb := by
  obtain ⟨c, vs, h1, h2, h3⟩ := h
  exact ⟨c, vs, h1, h2, (setRow_other (fun e2 => e (inj m n b (by rw [← e2]; exact h1) hn))).trans h3⟩

/-- A store, once what is written to is known. -/
theorem storeD_ok {H : List (Nat × SB)} {n : Nat} {sb' : SB} {o : Oper} {op : OpF} {Q : Exit → Act → World → Prop} (hs : storeD C op H o.op = some (n, sb')) (hdst : o.dst = none) :
    ∃ sb, look H n = some sb ∧ ∀ (ρ : Names) (a : Act) (W : World), OpOk op a ρ → Cont ρ W n sb → ∃ b vs', ρ n = some b ∧ denL ρ sb'.cs = some vs' ∧ Blk (W.setRow b vs'.toArray) b vs'.toArray sb'.t ∧ ∀ K : Act → World → Prop, K a (W.setRow b vs'.toArray) → Oper.wp C.P o a W K Q := by
  obtain ⟨dst, oo, ty, pos, after, guard⟩ := o
  obtain rfl : dst = none := hdst
  cases oo <;> simp only [storeD] at hs
  case store t x y =>
    split at hs
    · rename_i n' off v ti hx hy hti
      split at hs
      · rename_i l sb hl hsb
        split at hs
        · rename_i b1 b2 b3
          split at hs
          · rename_i cs hcs
            obtain ⟨rfl, rfl⟩ := Prod.mk.inj (Option.some.inj hs)
            refine ⟨sb, hsb, fun ρ a W hop hct => ?_⟩
            have b1 := Nat.eq_of_beq_eq_true b1
            have b2 := Nat.le_of_ble_eq_true b2
            obtain ⟨b, hb, e⟩ := den_p (hop.get hx)
            have hc := cellsOfSV_ok hl (hop.get hy)
            obtain ⟨b', vs, k1, k2, k3⟩ := hct
            rw [hb] at k1
            obtain rfl := Option.some.inj k1
            obtain ⟨i, d, z, hi, hdd, hsz, hz, hzz, hk⟩ := (C.ty hti).ex
            have hlen := denL_length hc
            have hlen2 := denL_length k2
            have hcl : (a.eval y).cells.toList.length = ti.sz := by rw [hlen, b1]
            have hcl' : (a.eval y).cells.size = ti.sz := by rw [← hcl]; simp
            have hden : denL ρ cs = some (vs.take off ++ (a.eval y).cells.toList ++ vs.drop (off + l.length)) := by
              rw [laid_eq hcs]
              exact denL_append (denL_append (denL_take _ k2) hc) (denL_drop _ k2)
            have hrun : (execOp a.eval ⟨none, .store t x y, ty, pos, after, guard⟩).run C.P W = .ok .skip (W.setRow b (vs.take off ++ (a.eval y).cells.toList ++ vs.drop (off + l.length)).toArray) := by
              have hne : ¬ ((a.eval y).cells.size ≠ i.size) := by rw [hcl', hsz]; simp
              have hst := run_storeCells_at (P := C.P) b off sb.t (a.eval y).cells.toList 0 vs.toArray W k3 (by simp; omega) (oneSV_all b3 hc)
              simp only [execOp, e, Instr.storeAt, Instr.sureAddr, storeVar, sizeOf, typeInfo, Sem.run_bind, Sem.run_pure, run_program, Result.andThen_ok, hi, if_neg hne, hst]
              simp only [Nat.add_zero, hlen]
            refine ⟨b, _, hb, hden, setRow_heap W b _ _ _ _ k3, fun K hK => ?_⟩
            unfold Oper.wp
            rw [hrun]
            exact hK
          · cases hs
        · cases hs
      · cases hs
    · cases hs
  all_goals cases hs

theorem step_seq {ops : Array Oper} {heads : List Oper} {H : List (Nat × SB)} {st st' : St} {k : Nat} {o : Oper} {ob : Option Prop} {Q : Exit → Act → World → Prop} (hgm : C.gm ≤ w0.heap.size) (h : RI C nt w0 ρe st ρ a W) (hs : stepIn Γ nt false ops.toList heads H k o st = some (st', ob)) (ho : owed ob)
    {K : Act → World → Prop} (hK : ∀ ρ' a' W', RI C nt w0 ρe st' ρ' a' W' → K a' W') : if Region.wanted o (yielded ops a.tmps) = true then Oper.wp C.P o a W K Q else K (a.put o.dst undef) W := by
  obtain ⟨g, hg, hrg, hcase⟩ := stepIn_facts hs
  obtain ⟨c1, c2, c3⟩ := guard_case h hg
  obtain ⟨sl, Hs, nm, rg, rd, ws⟩ := st
  obtain ⟨sl', Hs', nm', rg', rd', ws'⟩ := st'
  obtain rfl : rg' = rg := hrg
  rcases hcase with ⟨rfl, hdst, rfl, n, sb', hst, e1, e2, e3, e4, -⟩ | ⟨r, R, -, hD, ⟨hdst, hb, e1, e2, e3, e4, rfl⟩ | ⟨d, hdst, hd1, hfr, e1, ⟨hb, e2, e3, e4, rfl⟩ | ⟨sb, hb, rfl, e2, e3, e4, rfl⟩⟩⟩
  · obtain rfl : sl' = sl := e1
    obtain rfl : Hs' = (n, sb') :: Hs := e2
    obtain rfl : nm' = nm := e3
    rw [if_pos (c1.2 (holds_nil a))]
    obtain ⟨sb, k1, k2⟩ := storeD_ok (Q := Q) hst hdst
    obtain ⟨b, vs', hb, hd, hbl, k3⟩ := k2 ρ a W (opIn_ok h (holds_nil a)) (h.base.hok.blk n sb k1)
    refine k3 K (hK ρ a _ ?_)
    have hcl := h.base.hok.low n b hb
    refine ⟨⟨⟨fun m s hm => ?_, h.base.hok.inj, fun m c hm => by rw [setRow_size]; exact h.base.hok.low m c hm, h.base.hok.grd.store hcl.1⟩, h.base.dom, h.base.le, h.base.old, h.base.keep.store ((h.base.old n b hb).imp (fun h => ⟨n, h⟩) id), h.base.sz, h.base.df⟩, h.rgs, h.out, h.ins, h.cl⟩
    by_cases e : n = m
    · subst e
      simp only [look_cons_eq] at hm
      obtain rfl := Option.some.inj hm
      exact ⟨b, vs', hb, hd, hbl⟩
    · simp only [look_cons_ne _ _ e] at hm
      exact Cont.other (h.base.hok.blk m s hm) h.base.hok.inj hb (Ne.symm e)
  · obtain rfl : sl' = sl := e1
    obtain rfl : Hs' = Hs := e2
    obtain rfl : nm' = nm := e3
    have hI : ∀ W', Gr W W' → RI C nt w0 ρe ⟨sl', Hs', nm', rg', rd', ws'⟩ ρ a W' := fun W' g' => ⟨(h.same g').base, h.rgs, h.out, h.ins, h.cl⟩
    split
    · rename_i hw
      have hh := c1.1 hw
      refine D_sound h.base.hok (opIn_ok h hh) hD (gimp_ok (c3 hh) hh ho) fun val W' hp => ?_
      rw [hdst]
      exact hK ρ a W' (hI W' hp.1)
    · rw [hdst]
      exact hK ρ a W (hI W (Gr.refl W))
  · obtain rfl : sl' = _ := e1
    obtain rfl : Hs' = Hs := e2
    obtain rfl : nm' = nm := e3
    have hdl : d < a.tmps.size := by rw [h.base.sz]; exact hd1
    have hat : ∀ x, (holds (a.put (some d) x) g ↔ holds a g) := by
      intro x
      have hne : ∀ p ∈ g, d ≠ p.1 := fun p hp e => by
        obtain ⟨s', h1, h2⟩ := c2 p hp
        exact freshIn_ok hfr (by rw [e]; exact h1) h2
      exact ⟨fun hh p hp => by rw [← put_other (hne p hp) (x := x)]; exact hh p hp, fun hh p hp => by rw [put_other (hne p hp)]; exact hh p hp⟩
    split
    · rename_i hw
      have hh := c1.1 hw
      refine D_sound h.base.hok (opIn_ok h hh) hD (gimp_ok (c3 hh) hh ho) fun val W' hp => ?_
      obtain ⟨hp1, hp2⟩ := hp
      rw [hb] at hp2
      rw [hdst]
      exact hK ρ _ W' (h.put (Names.le.refl _) hfr c2 ⟨fun _ => ⟨val, hp2, put_self hdl⟩, fun hn => absurd ((hat val).2 hh) hn⟩ (h.base.same hp1))
    · rename_i hw
      rw [hdst]
      exact hK ρ _ W (h.put (Names.le.refl _) hfr c2 ⟨fun hh => absurd (c1.2 ((hat undef).1 hh)) hw, fun _ => put_self hdl⟩ (h.base.same (Gr.refl W)))
  · obtain rfl : sl' = _ := e1
    obtain rfl : Hs' = _ := e2
    obtain rfl : nm' = _ := e3
    have hdl : d < a.tmps.size := by rw [h.base.sz]; exact hd1
    rw [if_pos (c1.2 (holds_nil a))]
    refine D_sound h.base.hok (opIn_ok h (holds_nil a)) hD ho fun val W' hp => ?_
    obtain ⟨hg', hp2⟩ := hp
    rw [hb] at hp2
    obtain ⟨m, cs, p1, p2, p3, p4, p5⟩ := hp2
    rw [hdst]
    have hl := Names.le_add (m := m) h.base.free
    exact hK _ _ W' (h.put hl hfr (fun p hp => by cases hp) ⟨fun _ => ⟨val, p5 _ hl (Names.add_self _ _ _), put_self hdl⟩, fun hn => absurd (holds_nil _) hn⟩ (h.base.birth hgm hg' p1 p2 p3 p4))
end
end Go.Proofs.YtggcfjeehpcclaaDoor
