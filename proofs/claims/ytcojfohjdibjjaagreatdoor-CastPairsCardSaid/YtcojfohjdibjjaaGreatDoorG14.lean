/- A symbolic executor with lists, 15: operations in whatever order, soundness. -/
import Derived.Test.YtcojfohjdibjjaaGreatDoorG13
namespace Go.Proofs.YtcojfohjdibjjaaGreatDoor
open Go.RowKit

section
variable {PP : Program} {C : Cx PP} {Γ : List (Con C)} {nt : Nat} {ops : Array Oper} {heads : List Oper} {st0 : St} {S : Nat → St} {w0 : World} {ρe : Names}

theorem getD_set_self' {listed : Array Bool} {i : Nat} (h : i < listed.size) : (listed.setIfInBounds i true).getD i false = true := by
  simp [h]
theorem Mem.eff2 {w0 W W' : World} {ρe ρ ρ' : Names} {nm nT : Nat} {wn : Option Nat} {fr : Bool} (h : Mem C w0 ρe nT ρ W) (e : Eff C ρ W nm wn fr ρ' W') (hf : fr = true → nm < nT) (hw : ∀ n, wn = some n → n < nT) : Mem C w0 ρe nT ρ' W' := by
  have e' : Eff C ρ W nT wn fr ρ' W' → Mem C w0 ρe (putN fr nT) ρ' W' := fun e' => h.eff e' fun n hn => by
    have := hw n hn
    cases fr <;> simp only [putN] <;> omega
  have hs := h.keep.size
  have hown : ∀ n b, Owns ρ' n b → Owns ρ n b ∨ W.heap.size ≤ b := fun n b ho => by
    rcases ho with ho | ⟨ep, l, o, h1, h2, h3, h4⟩ | ⟨i, l, o, h1, h3, h4⟩
    · rcases e.nn n b ho with h1 | ⟨-, -, -, h1⟩
      · exact .inl (.inl h1)
      · exact .inr h1
    · rcases e.nv ep l h1 with k1 | ⟨-, -, k2, k3⟩
      · exact .inl (.inr (.inl ⟨ep, l, o, k1, h2, h3, h4⟩))
      · rw [← h2]; exact k3 b o h4 h3
    · exact .inl (.inr (.inr ⟨i, l, o, (e.nk n i).symm.trans h1, h3, h4⟩))
  refine ⟨e.hb, fun n b hn => ?_, fun ep l hl => ?_, fun m i l hl => h.domk m i l ((e.nk m i).symm.trans hl), h.le.trans e.le, fun n b hn => ?_, fun b i c hz => ?_, ⟨e.os.trans h.keep.os, e.tape.trans h.keep.tape, e.output.trans h.keep.output, Nat.le_trans hs e.size, fun b hb hn => ?_⟩⟩
  · rcases e.nn n b hn with h1 | ⟨rfl, h2, -, -⟩
    · exact h.dom n b h1
    · exact hf h2
  · rcases e.nv ep l hl with h1 | ⟨rfl, h2, h3, -⟩
    · exact h.domv ep l h1
    · exact ⟨hf h2, hw _ h3⟩
  · rcases hown n b hn with h1 | h1
    · exact h.old n b h1
    · exact .inr (by omega)
  · rcases e.nz b i c hz with h1 | h1
    · exact h.zold b i c h1
    · exact .inr (.inl (by omega))
  · refine (e.block b (by omega) fun n _ ho => ?_).trans (h.keep.block b hb hn)
    rcases h.old n b ho with h1 | h1
    · exact hn h1
    · omega
theorem Mem.up {w0 W : World} {ρe ρ : Names} {n m : Nat} (h : Mem C w0 ρe n ρ W) (hn : n ≤ m) : Mem C w0 ρe m ρ W :=
  ⟨h.hb, fun k b hk => Nat.lt_of_lt_of_le (h.dom k b hk) hn, fun e l hl => ⟨Nat.lt_of_lt_of_le (h.domv e l hl).1 hn, Nat.lt_of_lt_of_le (h.domv e l hl).2 hn⟩, fun m i l hl => Nat.lt_of_lt_of_le (h.domk m i l hl) hn, h.le, h.old, h.zold, h.keep⟩

/-- A name that is meant already when the listed operations are done. -/
def Given (heads : List Oper) (st0 : St) (S : Nat → St) (listed : Array Bool) (m : Nat) : Prop := m < st0.nm ∨ ∃ i, i < heads.length ∧ listed.getD i false = true ∧ (S (i + 1)).nm = (S i).nm + 1 ∧ (S i).nm = m
/-- What holds when the listed operations are done. -/
structure HI (C : Cx PP) (nt : Nat) (w0 : World) (ρe : Names) (heads : List Oper) (st0 : St) (S : Nat → St) (ρ0 : Names) (a0 : Act) (listed : Array Bool) (ρ : Names) (a : Act) (W : World) : Prop where
  mem : Mem C w0 ρe (S heads.length).nm ρ W
  le : ρ0.le ρ
  domn : ∀ m b, ρ.n m = some b → Given heads st0 S listed m
  domv : ∀ m b, ρ.v m = some b → Given heads st0 S listed m
  con : ∀ m sb, look st0.H m = some sb → (∀ i sb', i < heads.length → Wr S i m sb' → listed.getD i false = false) → Cont ρ W m sb
  wr : ∀ i m sb, i < heads.length → listed.getD i false = true → Wr S i m sb → (∀ j sb', i < j → j < heads.length → Wr S j m sb' → listed.getD j false = false) → Cont ρ W m sb
  ins : ∀ t s, look (S heads.length).sl t = some s → s.rg = st0.rg → listed.getD s.k false = true → SlotNow ρ a s.g s.v t
  out : ∀ t, (∀ j oj, heads[j]? = some oj → oj.dst = some t → listed.getD j false = false) → a.tmps[t]? = a0.tmps[t]?
  sz : a.tmps.size = nt
  df : a.defers = ρe.d

variable {ρ0 : Names} {a0 : Act} {W1 : World}

theorem head_step (F : Fixed Γ nt ops.toList heads st0 S) {n : Nat} (hn : heads.length = n) (h0 : RI C nt w0 ρe st0 ρ0 a0 W1) {Q : Exit → Act → World → Prop}
    (listed : Array Bool) (a : Act) (W : World) (i : Nat) (o : Oper) (inv : HeadInv .any ops n listed) (hI : ∃ ρ, HI C nt w0 ρe heads st0 S ρ0 a0 listed ρ a W) (hi : i < n) (ho : ops[i]? = some o) (hho : heads[i]? = some o) (hu' : listed.getD i false = false)
    (hdep : ∀ e ∈ o.after, Region.binds .any e = true → listed.getD e.on false = true) (K : Act → World → Prop) (hK : ∀ a' W', (∃ ρ, HI C nt w0 ρe heads st0 S ρ0 a0 (listed.setIfInBounds i true) ρ a' W') → K a' W') :
    if Region.wanted o (yielded ops a.tmps) = true then Oper.wp C.P o a W K Q else K (a.put o.dst undef) W := by
  obtain ⟨ρ, h⟩ := hI
  subst hn
  have hil : i < listed.size := by rw [inv.size]; exact (Array.getElem?_eq_some_iff.1 ho).1
  obtain ⟨o', g, R, r, hone⟩ := F.one hi
  obtain rfl : o' = o := by have := hone.at_; rw [hho] at this; exact (Option.some.inj this).symm
  have hg := hone.gd
  have hD := hone.d
  have hrdl := hone.rd
  rw [F.rg i (by omega)] at hg hD hrdl
  obtain ⟨d1, d2⟩ := dstB_ok hone.dst
  have hwait : ∀ oo, ops[i]? = some oo → ∀ e ∈ oo.after, Region.binds .any e = true → listed.getD e.on false = true := fun oo hoo => by
    rw [ho] at hoo
    obtain rfl := Option.some.inj hoo
    exact hdep
  have wait : ∀ j, waitsOn o' j = true → listed.getD j false = true := fun j hj => by
    obtain ⟨e, he, hb, hon⟩ := waitsOn_ok hj
    rw [← hon]; exact hdep e he hb
  -- the guards' slots
  have hatoms : ∀ p ∈ g, ∃ s', look (S heads.length).sl p.1 = some s' ∧ s'.rg = st0.rg ∧ s'.k < i ∧ listed.getD s'.k false = true := by
    rcases guardOf_ok hg with ⟨-, rfl⟩ | ⟨j, pol, oj, u, s', e1, e2, e3, e4, e5, e6, rfl, e7⟩
    · intro p hp; cases hp
    · have hs' := F.up (i := i) (by omega) (Nat.le_refl _) e4 e5
      have hl : listed.getD s'.k false = true := by rw [e6]; exact wait j (e7 rfl)
      intro p hp
      rcases List.mem_cons.1 hp with rfl | hp
      · exact ⟨s', hs', e5, (F.ins _ (by omega) u s' e4 e5).1, hl⟩
      · obtain ⟨s2, q1, q2, q4, q3⟩ := F.atoms rfl s'.k u s' rfl hs' e5 p hp
        exact ⟨s2, q1, q2, by have := (F.ins _ (by omega) u s' e4 e5).1; omega, q3 listed inv hl⟩
  have hw : Region.wanted o' (yielded ops a.tmps) = true ↔ holds a g := by
    rcases guardOf_ok hg with ⟨h1, rfl⟩ | ⟨j, pol, oj, u, s', e1, e2, e3, e4, e5, e6, rfl, e7⟩
    · exact ⟨fun _ => holds_nil a, fun _ => wanted_none h1⟩
    · refine ⟨fun hw => ?_, fun hh => (wanted_some e1 e2 e3).2 (hh _ List.mem_cons_self)⟩
      have hb := (wanted_some e1 e2 e3).1 hw
      have hs' := F.up (i := i) (by omega) (Nat.le_refl _) e4 e5
      have hl : listed.getD s'.k false = true := by rw [e6]; exact wait j (e7 rfl)
      have := ((h.ins u s' hs' e5 hl).of_bool hb).1
      intro p hp
      rcases List.mem_cons.1 hp with rfl | hp
      · exact hb
      · exact this p hp
  have hop : holds a g → OpOk (opIn true heads i st0.rg (S i).sl o' g) a ρ := by
    intro hh ex x v e hex
    rw [opIn_def] at e
    split at e
    · obtain rfl := Option.some.inj e
      exact constSV_den
    · obtain rfl := Option.some.inj e
      rfl
    · obtain rfl := Option.some.inj e
      rfl
    · rename_i t
      split at e
      · cases e
      · rename_i s hl
        split at e
        · rename_i hr
          have hr := Nat.eq_of_beq_eq_true hr
          split at e
          · rename_i hsub
            simp only at e
            split at e
            · rename_i hwt
              obtain rfl := Option.some.inj e
              obtain ⟨y, h1, h2⟩ := (h.ins t s (F.up (i := i) (by omega) (Nat.le_refl _) hl hr) hr (wait _ hwt)).1 (fun p hp => by
                rcases List.mem_append.1 (subA_mem hsub p hp) with hp | hp
                · exact getD_bool (hex p hp)
                · exact hh p hp)
              rw [eval_some h2]; exact h1
            · cases e
          · cases e
        · rename_i hr
          have hr : s.rg ≠ st0.rg := fun e => by rw [e, Nat.beq_refl] at hr; cases hr
          split at e
          · rename_i hgn
            simp only at e
            split at e
            · rename_i hfr
              obtain rfl := Option.some.inj e
              obtain ⟨y, h1, h2⟩ := h0.out t s (F.out i (by omega) t s hl hr) hr hgn
              have hno : ∀ j oj, heads[j]? = some oj → oj.dst = some t → listed.getD j false = false := fun j oj hj hdj => by
                obtain ⟨e, he, hb, hon⟩ := waitsOn_ok (freeAt_ok hfr j oj hj hdj)
                cases hlj : listed.getD j false with
                | false => rfl
                | true =>
                  have hjo : ops[j]? = some oj := by simpa using F.hd j oj hj
                  have := inv.closed j oj hjo hlj e he hb
                  rw [hon, hu'] at this
                  cases this
              rw [eval_some ((h.out t hno).trans h2)]
              exact den_le h.le _ _ h1
            · cases e
          · cases e
  have hgi : holds a g → owed r.ob := fun hh => gimp_ok (ρ := ρ) (fun q hq s hs => by
      obtain ⟨s', q1, q2, q4, q3⟩ := hatoms q hq
      have hs2 : s = s' := by
        have := F.early q1 q2 q4 (by omega)
        rw [hs] at this
        exact Option.some.inj this
      subst hs2
      exact ((h.ins q.1 s q1 q2 q3).of_bool (hh q hq)).2) hh hone.ob
  -- what is done stays done
  have hstay : ∀ (ρ' : Names) (d : Nat) (x : Value), o'.dst = some d → ρ.le ρ' → ∀ t s, look (S heads.length).sl t = some s → s.rg = st0.rg → listed.getD s.k false = true → SlotNow ρ' (a.put (some d) x) s.g s.v t := by
    intro ρ' d x hd hl t s hs hr hls
    obtain ⟨g', r', -, e, -⟩ := F.own hho hd
    have hne : ∀ u s', look (S heads.length).sl u = some s' → listed.getD s'.k false = true → d ≠ u := by
      intro u s' hu hls' e2
      subst e2
      rw [e] at hu
      obtain rfl := Option.some.inj hu
      have : listed.getD i false = true := hls'
      rw [hu'] at this
      cases this
    have hat : holds (a.put (some d) x) s.g ↔ holds a s.g := by
      have hq : ∀ p ∈ s.g, d ≠ p.1 := fun p hp => by
        obtain ⟨s', q1, q2, q4, q3⟩ := F.atoms (md := ops) (n := heads.length) rfl s.k t s rfl hs hr p hp
        exact hne p.1 s' q1 (q3 listed inv hls)
      exact ⟨fun hh p hp => by rw [← put_other (hq p hp) (x := x)]; exact hh p hp, fun hh p hp => by rw [put_other (hq p hp)]; exact hh p hp⟩
    obtain ⟨h1, h2⟩ := h.ins t s hs hr hls
    have hdt := hne t s hs hls
    refine ⟨fun hh => ?_, fun hh => ?_⟩
    · obtain ⟨y, h3, h4⟩ := h1 (hat.1 hh)
      exact ⟨y, den_le hl _ _ h3, by rw [put_other hdt]; exact h4⟩
    · rw [put_other hdt]; exact h2 fun h' => hh (hat.2 h')
  have hset : ∀ j, (listed.setIfInBounds i true).getD j false = true → j = i ∨ listed.getD j false = true := fun j hj => by
    by_cases hji : j = i
    · exact .inl hji
    · rw [getD_set_ne false (Ne.symm hji)] at hj
      exact .inr hj
  have hkeep : ∀ j, listed.getD j false = true → (listed.setIfInBounds i true).getD j false = true := fun j hj => getD_set_true hj
  have hmono : ∀ j, (listed.setIfInBounds i true).getD j false = false → listed.getD j false = false := fun j hj => by
    cases hl : listed.getD j false with
    | false => rfl
    | true => rw [hkeep j hl] at hj; cases hj
  have hisz : (listed.setIfInBounds i true).getD i false = true := getD_set_self' hil
  have hatd : ∀ (d : Nat) (x : Value), o'.dst = some d → (holds (a.put (some d) x) g ↔ holds a g) := by
    intro d x hd
    obtain ⟨g', r', -, e, -⟩ := F.own hho hd
    have hq : ∀ p ∈ g, d ≠ p.1 := fun p hp e2 => by
      obtain ⟨s', q1, q2, q4, q3⟩ := hatoms p hp
      rw [← e2, e] at q1
      obtain rfl := Option.some.inj q1
      exact Nat.lt_irrefl _ q4
    exact ⟨fun hh p hp => by rw [← put_other (hq p hp) (x := x)]; exact hh p hp, fun hh p hp => by rw [put_other (hq p hp)]; exact hh p hp⟩
  -- a later operation that is done does not write what this one touches
  have hlaterR : ∀ j m sb', m ∈ R → i < j → j < heads.length → Wr S j m sb' → listed.getD j false = false := by
    intro j m sb' hm hij hj h2
    cases hl : listed.getD j false with
    | false => rfl
    | true =>
      have := F.order rfl inv hij hj (.inr ⟨by rw [hone.rds]; exact conR_mem hm, sb', h2⟩) fun oj hoj e he hb => inv.closed j oj hoj hl e he hb
      rw [hu'] at this; cases this
  have hlaterW : ∀ j m sb sb', Wr S i m sb → i < j → j < heads.length → Wr S j m sb' → listed.getD j false = false := by
    intro j m sb sb' h1 hij hj h2
    cases hl : listed.getD j false with
    | false => rfl
    | true =>
      have := F.order rfl inv hij hj (.inl ⟨⟨sb, h1⟩, .inl ⟨sb', h2⟩⟩) fun oj hoj e he hb => inv.closed j oj hoj hl e he hb
      rw [hu'] at this; cases this
  -- what it touches is what was foretold
  have hcur : ∀ m ∈ R, ∀ sb, look (S i).H m = some sb → Cont ρ W m sb := by
    intro m hm sb hl
    rcases F.heap i (by omega) m sb hl with ⟨q1, q2⟩ | ⟨j, q1, q2, q3⟩
    · refine h.con m sb q1 fun j sb2 hj hwj => ?_
      rcases Nat.lt_trichotomy j i with hl | hl | hl
      · exact absurd hwj (q2 j sb2 hl)
      · rw [hl]; exact hu'
      · exact hlaterR j m sb2 hm hl hj hwj
    · have hlj := F.order rfl inv q1 hi (.inl ⟨⟨sb, q2⟩, .inr ⟨by rw [hone.rds]; exact conR_mem hm, o', g, R, r, hone, hm⟩⟩) hwait
      refine h.wr j m sb (by omega) hlj q2 fun j' sb2 hj' hj2 hwj => ?_
      rcases Nat.lt_trichotomy j' i with hl | hl | hl
      · exact absurd hwj (q3 j' sb2 hj' hl)
      · rw [hl]; exact hu'
      · exact hlaterR j' m sb2 hm hl hj2 hwj
  have hhok : HOk C (restrict (S i).H R) ρ W := ⟨h.mem.hb, fun m sb hm => by
      obtain ⟨h1, h2⟩ := restrict_look hm
      exact hcur m h1 sb h2⟩
  have hnmT : (S (i + 1)).nm ≤ (S heads.length).nm := F.nm (by omega) (Nat.le_refl _)
  -- the new name is free
  have hgiv : r.fr = true → ¬ Given heads st0 S listed (S i).nm := by
    intro hfr hgn
    have hnm := hone.nm
    rw [hfr] at hnm
    have hnm : (S (i + 1)).nm = (S i).nm + 1 := hnm
    rcases hgn with hlt | ⟨j, q2, q3, q4, q5⟩
    · have := F.nm (i := 0) (j := i) (by omega) (by omega)
      rw [F.s0] at this
      omega
    · rcases Nat.lt_trichotomy j i with q | q | q
      · have := F.nm (i := j + 1) (j := i) (by omega) (by omega)
        omega
      · rw [q, hu'] at q3; cases q3
      · have := F.nm (i := i + 1) (j := j) (by omega) (by omega)
        omega
  have hfree : r.fr = true → ρ.n (S i).nm = none ∧ ρ.v (S i).nm = none := fun hfr => by
    constructor
    · cases hq : ρ.n (S i).nm with
      | none => rfl
      | some b => exact absurd (h.domn _ b hq) (hgiv hfr)
    · cases hq : ρ.v (S i).nm with
      | none => rfl
      | some b => exact absurd (h.domv _ b hq) (hgiv hfr)
  -- when it is done
  have done : ∀ val W' ρ', Eff C ρ W (S i).nm (r.w.map Prod.fst) r.fr ρ' W' → (∀ n sb, r.w = some (n, sb) → Cont ρ' W' n sb) → (holds a g → den ρ' r.v val) → (¬ holds a g → val = undef) →
      HI C nt w0 ρe heads st0 S ρ0 a0 (listed.setIfInBounds i true) ρ' (a.put o'.dst val) W' := by
    intro val W' ρ' e hc hv hu
    have hnm := hone.nm
    have hgm : ∀ m, Given heads st0 S listed m → Given heads st0 S (listed.setIfInBounds i true) m := fun m hm => hm.imp id fun ⟨j, q1, q2, q3⟩ => ⟨j, q1, hkeep j q2, q3⟩
    have hgi2 : r.fr = true → Given heads st0 S (listed.setIfInBounds i true) (S i).nm := fun hfr => by
      rw [hfr] at hnm
      exact .inr ⟨i, hi, hisz, hnm, rfl⟩
    have hwsome : ∀ m sb, Wr S i m sb → r.w = some (m, sb) := fun m sb hw => by
      rcases hone.wr with ⟨-, -, k⟩ | ⟨n, sb', k1, k2, -⟩
      · exact absurd hw (k m sb)
      · obtain ⟨rfl, rfl⟩ := hw.uniq k2
        exact k1
    have hother : ∀ m sb, Cont ρ W m sb → (∀ sb', ¬ Wr S i m sb') → Cont ρ' W' m sb := fun m sb hcm hno => by
      refine e.cont h.mem.hb hcm fun hq => ?_
      rcases hone.wr with ⟨k1, -⟩ | ⟨n, sb', k1, k2, -⟩
      · rw [k1] at hq; cases hq
      · rw [k1] at hq
        obtain rfl := Option.some.inj hq
        exact hno sb' k2
    refine ⟨h.mem.eff2 e (fun hfr => ?_) fun n hn => ?_, h.le.trans e.le, fun m b hm => ?_, fun m b hm => ?_, fun m sb hs hno => ?_, fun j m sb hj hlj hwj hno => ?_, fun t s hs hr hls => ?_, fun t ht => ?_, by cases o'.dst <;> simp [Act.put, h.sz], by cases o'.dst <;> exact h.df⟩
    · rw [hfr] at hnm
      have hnm : (S (i + 1)).nm = (S i).nm + 1 := hnm
      omega
    · rcases hone.wr with ⟨k1, -⟩ | ⟨n', sb', k1, -, -, k4, -⟩
      · rw [k1] at hn; cases hn
      · rw [k1] at hn
        obtain rfl := Option.some.inj hn
        rw [← hnm] at k4
        show n' < _
        omega
    · rcases e.nn m b hm with h1 | ⟨rfl, h2, -⟩
      · exact hgm m (h.domn m b h1)
      · exact hgi2 h2
    · rcases e.nv m b hm with h1 | ⟨rfl, h2, -⟩
      · exact hgm m (h.domv m b h1)
      · exact hgi2 h2
    · refine hother m sb (h.con m sb hs fun j s' hj hwj => hmono j (hno j s' hj hwj)) fun sb' hwi => ?_
      have := hno i sb' hi hwi
      rw [hisz] at this; cases this
    · rcases hset j hlj with rfl | hl
      · exact hc m sb (hwsome m sb hwj)
      · refine hother m sb (h.wr j m sb hj hl hwj fun j' s' h1 h2 h3 => hmono j' (hno j' s' h1 h2 h3)) fun sb' hwi => ?_
        rcases Nat.lt_trichotomy j i with q | q | q
        · have := hno i sb' q hi hwi
          rw [hisz] at this; cases this
        · rw [q, hu'] at hl; cases hl
        · rw [hlaterW j m sb' sb hwi q hj hwj] at hl; cases hl
    · cases hd : o'.dst with
      | none =>
        rcases hset s.k hls with e2 | hls
        · obtain ⟨o2, g', r', q1, q2, -⟩ := F.entry hs hr
          rw [e2, hho] at q1
          obtain rfl := Option.some.inj q1
          rw [hd] at q2; cases q2
        · obtain ⟨h1, h2⟩ := h.ins t s hs hr hls
          exact ⟨fun hh => let ⟨x, k1, k2⟩ := h1 hh; ⟨x, den_le e.le _ _ k1, k2⟩, h2⟩
      | some d =>
        rcases hset s.k hls with e2 | hls
        · obtain ⟨o2, g', r', q1, q2, -⟩ := F.entry hs hr
          rw [e2, hho] at q1
          obtain rfl := Option.some.inj q1
          rw [hd] at q2
          obtain rfl := Option.some.inj q2
          have hdl : d < a.tmps.size := by rw [h.sz]; exact (d2 d hd).1
          have hsl := hone.sl
          rw [hd, F.rg i (by omega)] at hsl
          have hs2 : look (S heads.length).sl d = some ⟨st0.rg, i, g, r.v⟩ := F.up (i := i + 1) (by omega) (Nat.le_refl _) (by rw [hsl]; exact look_cons_eq _ _ _) rfl
          rw [hs] at hs2
          obtain rfl := Option.some.inj hs2
          exact ⟨fun hh => ⟨val, hv ((hatd d val hd).1 hh), put_self hdl⟩, fun hn => by rw [put_self hdl, hu fun hh => hn ((hatd d val hd).2 hh)]⟩
        · exact hstay ρ' d val hd e.le t s hs hr hls
    · cases hd : o'.dst with
      | none => exact h.out t fun j oj h1 h2 => hmono j (ht j oj h1 h2)
      | some d =>
        rw [put_other]
        · exact h.out t fun j oj h1 h2 => hmono j (ht j oj h1 h2)
        · rintro rfl
          have := ht i o' hho hd
          rw [hisz] at this; cases this
  split
  · rename_i hww
    have hh := hw.1 hww
    refine D_sound (nm := (S i).nm) hhok hfree (hop hh) d1 hD (hgi hh) fun val W' hp => ?_
    obtain ⟨ρ', p1, p2, p3⟩ := hp
    exact hK _ W' ⟨ρ', done val W' ρ' p1 p2 (fun _ => p3) fun hn => absurd hh hn⟩
  · rename_i hww
    have hn : ¬ holds a g := fun hh => hww (hw.2 hh)
    have hnone : r.w = none ∧ r.fr = false := by
      rcases wrB_ok hone.w with h1 | ⟨n, sb, -, rfl, -⟩
      · exact h1
      · exact absurd (holds_nil a) hn
    have e : Eff C ρ W (S i).nm (r.w.map Prod.fst) r.fr ρ W := by rw [hnone.1, hnone.2]; exact Eff.of_gr h.mem.hb (Gr.refl W)
    exact hK _ W ⟨ρ, done undef W ρ e (fun n sb h => by rw [hnone.1] at h; cases h) (fun hh => absurd hh hn) fun _ => rfl⟩
end
end Go.Proofs.YtcojfohjdibjjaaGreatDoor
