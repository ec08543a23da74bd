/- A symbolic executor, 13: operations in whatever order, soundness. -/
import Derived.Test.YtggcfjeehpcclaaDoorS11
namespace Go.Proofs.YtggcfjeehpcclaaDoor
open Go.RowKit

section
variable {PP : Program} {C : Cx PP} {Γ : List (Con C)} {nt : Nat} {ops : Array Oper} {heads : List Oper} {st0 : St} {S : Nat → St} {w0 : World} {ρe : Names}

theorem HOk.name {H : List (Nat × SB)} {ρ : Names} {W W' : World} {nm m : Nat} (h : HOk C H ρ W) (hf : ρ nm = none) (g : Gr W W') (hm : W.heap.size ≤ m) (hm' : m < W'.heap.size) (hgm : C.gm ≤ m) : HOk C H (ρ.add nm m) W' := by
  have hl := Names.le_add (m := m) hf
  have h' := h.gr g
  refine ⟨fun n s hn => ?_, fun i j b hi hj => ?_, fun n b hn => ?_, h'.grd⟩
  · obtain ⟨b, vs, h1, h2, h3⟩ := h'.blk n s hn
    exact ⟨b, vs, hl n b h1, denL_le hl _ _ h2, h3⟩
  · unfold Names.add at hi hj
    split at hi <;> split at hj
    · omega
    · obtain rfl := Option.some.inj hi
      have := (h.low j _ hj).2
      omega
    · obtain rfl := Option.some.inj hj
      have := (h.low i _ hi).2
      omega
    · exact h.inj i j b hi hj
  · unfold Names.add at hn
    split at hn
    · obtain rfl := Option.some.inj hn
      exact ⟨hgm, hm'⟩
    · exact h'.low n b hn

theorem getD_set_self' {listed : Array Bool} {i : Nat} (h : i < listed.size) : (listed.setIfInBounds i true).getD i false = true := by
  simp [h]
/-- What holds when the listed operations are done. -/
structure HI (C : Cx PP) (nt : Nat) (w0 : World) (ρe : Names) (heads : List Oper) (st0 : St) (S : Nat → St) (ρ0 : Names) (a0 : Act) (W1 : World) (listed : Array Bool) (ρ : Names) (a : Act) (W : World) : Prop where
  inj : ∀ i j b, ρ i = some b → ρ j = some b → i = j
  low : ∀ n b, ρ n = some b → C.gm ≤ b ∧ b < W.heap.size
  grd : C.Grd W
  le : ρ0.le ρ
  dom : ∀ m b, ρ m = some b → ρ0 m = some b ∨ (W1.heap.size ≤ b ∧ ∃ i, i < heads.length ∧ listed.getD i false = true ∧ (S (i + 1)).nm = (S i).nm + 1 ∧ (S i).nm = m)
  con : ∀ m sb, look st0.H m = some sb → (∀ i sb', i < heads.length → Wr S i m sb' → listed.getD i false = false) → Cont ρ W m sb
  wr : ∀ i m sb, i < heads.length → listed.getD i false = true → Wr S i m sb → (∀ j sb', i < j → j < heads.length → Wr S j m sb' → listed.getD j false = false) → Cont ρ W m sb
  keep : Keep ρe w0 W
  size : W1.heap.size ≤ W.heap.size
  ins : ∀ t s, look (S heads.length).sl t = some s → s.rg = st0.rg → listed.getD s.k false = true → SlotNow ρ a s.g s.v t
  out : ∀ t, freeOf heads t = true → a.tmps[t]? = a0.tmps[t]?
  sz : a.tmps.size = nt
  df : a.defers = []

variable {ρ0 : Names} {a0 : Act} {W1 : World}

theorem head_step (F : Fixed Γ nt ops.toList heads st0 S) {n : Nat} (hn : heads.length = n) (h0 : RI C nt w0 ρe st0 ρ0 a0 W1) (hgm : C.gm ≤ w0.heap.size) {Q : Exit → Act → World → Prop}
    (listed : Array Bool) (a : Act) (W : World) (i : Nat) (o : Oper) (inv : HeadInv .any ops n listed) (hI : ∃ ρ, HI C nt w0 ρe heads st0 S ρ0 a0 W1 listed ρ a W) (hi : i < n) (ho : ops[i]? = some o) (hho : heads[i]? = some o) (hu' : listed.getD i false = false)
    (hdep : ∀ e ∈ o.after, Region.binds .any e = true → listed.getD e.on false = true) (K : Act → World → Prop) (hK : ∀ a' W', (∃ ρ, HI C nt w0 ρe heads st0 S ρ0 a0 W1 (listed.setIfInBounds i true) ρ a' W') → K a' W') :
    if Region.wanted o (yielded ops a.tmps) = true then Oper.wp C.P o a W K Q else K (a.put o.dst undef) W := by
  obtain ⟨ρ, h⟩ := hI
  subst hn
  have hil : i < listed.size := by rw [inv.size]; exact (Array.getElem?_eq_some_iff.1 ho).1
  obtain ⟨ob, hrun, hob⟩ := F.run i o hho
  obtain ⟨g, hg, -, hcase⟩ := stepIn_facts hrun
  rw [F.rg i (by omega)] at hg hcase
  have wait : ∀ j, waitsOn o j = true → listed.getD j false = true := fun j hj => by
    obtain ⟨e, he, hb, hon⟩ := waitsOn_ok hj
    rw [← hon]; exact hdep e he hb
  -- the guards' slots
  have hatoms : ∀ p ∈ g, ∃ s', look (S heads.length).sl p.1 = some s' ∧ s'.rg = st0.rg ∧ s'.k < i ∧ listed.getD s'.k false = true := by
    rcases guardOf_ok hg with ⟨-, rfl⟩ | ⟨j, pol, oj, u, s', e1, e2, e3, e4, e5, e6, rfl, e7⟩
    · intro p hp; cases hp
    · have hs' := F.up (i := i) (by omega) (Nat.le_refl _) e4 e5
      have hl : listed.getD s'.k false = true := by rw [e6]; exact wait j (e7 rfl)
      intro p hp
      rcases List.mem_cons.1 hp with rfl | hp
      · exact ⟨s', hs', e5, (F.ins _ (by omega) u s' e4 e5).1, hl⟩
      · obtain ⟨s2, q1, q2, q4, q3⟩ := F.atoms rfl s'.k u s' rfl hs' e5 p hp
        exact ⟨s2, q1, q2, by have := (F.ins _ (by omega) u s' e4 e5).1; omega, q3 listed inv hl⟩
  have hw : Region.wanted o (yielded ops a.tmps) = true ↔ holds a g := by
    rcases guardOf_ok hg with ⟨h1, rfl⟩ | ⟨j, pol, oj, u, s', e1, e2, e3, e4, e5, e6, rfl, e7⟩
    · exact ⟨fun _ => holds_nil a, fun _ => wanted_none h1⟩
    · refine ⟨fun hw => ?_, fun hh => (wanted_some e1 e2 e3).2 (hh _ List.mem_cons_self)⟩
      have hb := (wanted_some e1 e2 e3).1 hw
      have hs' := F.up (i := i) (by omega) (Nat.le_refl _) e4 e5
      have hl : listed.getD s'.k false = true := by rw [e6]; exact wait j (e7 rfl)
      have := ((h.ins u s' hs' e5 hl).of_bool hb).1
      intro p hp
      rcases List.mem_cons.1 hp with rfl | hp
      · exact hb
      · exact this p hp
  have hop : holds a g → OpOk (opIn true heads st0.rg (S i).sl o g) a ρ := by
    intro hh ex x v e hex
    unfold opIn at e
    split at e
    · obtain rfl := Option.some.inj e
      exact constSV_den
    · obtain rfl := Option.some.inj e
      rfl
    · obtain rfl := Option.some.inj e
      rfl
    · rename_i t
      split at e
      · cases e
      · rename_i s hl
        split at e
        · rename_i hr
          have hr := Nat.eq_of_beq_eq_true hr
          split at e
          · rename_i hsub
            simp only at e
            split at e
            · rename_i hwt
              obtain rfl := Option.some.inj e
              obtain ⟨y, h1, h2⟩ := (h.ins t s (F.up (i := i) (by omega) (Nat.le_refl _) hl hr) hr (wait _ hwt)).1 (fun p hp => by
                rcases List.mem_append.1 (subA_mem hsub p hp) with hp | hp
                · exact getD_bool (hex p hp)
                · exact hh p hp)
              rw [eval_some h2]; exact h1
            · cases e
          · cases e
        · rename_i hr
          have hr : s.rg ≠ st0.rg := fun e => by rw [e, Nat.beq_refl] at hr; cases hr
          split at e
          · rename_i hgn
            simp only at e
            split at e
            · rename_i hfr
              obtain rfl := Option.some.inj e
              obtain ⟨y, h1, h2⟩ := h0.out t s (F.out i (by omega) t s hl hr) hr hgn
              rw [eval_some ((h.out t hfr).trans h2)]
              exact den_le h.le _ _ h1
            · cases e
          · cases e
  have hgi : ∀ oo : Option Prop, holds a g → owed (gimp (S i).sl g oo) → owed oo := fun oo hh hq => gimp_ok (ρ := ρ) (fun q hq s hs => by
      obtain ⟨s', q1, q2, q4, q3⟩ := hatoms q hq
      have hs2 : s = s' := by
        have := F.early q1 q2 q4 (by omega)
        rw [hs] at this
        exact Option.some.inj this
      subst hs2
      exact ((h.ins q.1 s q1 q2 q3).of_bool (hh q hq)).2) hh hq
  -- what is done stays done
  have hstay : ∀ (ρ' : Names) (d : Nat) (x : Value), o.dst = some d → ρ.le ρ' → ∀ t s, look (S heads.length).sl t = some s → s.rg = st0.rg → listed.getD s.k false = true → SlotNow ρ' (a.put (some d) x) s.g s.v t := by
    intro ρ' d x hd hl t s hs hr hls
    obtain ⟨g', r', R', -, -, e, -⟩ := F.own hho hd
    have hne : ∀ u s', look (S heads.length).sl u = some s' → listed.getD s'.k false = true → d ≠ u := by
      intro u s' hu hls' e2
      subst e2
      rw [e] at hu
      obtain rfl := Option.some.inj hu
      have : listed.getD i false = true := hls'
      rw [hu'] at this
      cases this
    have hat : holds (a.put (some d) x) s.g ↔ holds a s.g := by
      have hq : ∀ p ∈ s.g, d ≠ p.1 := fun p hp => by
        obtain ⟨s', q1, q2, q4, q3⟩ := F.atoms (md := ops) (n := heads.length) rfl s.k t s rfl hs hr p hp
        exact hne p.1 s' q1 (q3 listed inv hls)
      exact ⟨fun hh p hp => by rw [← put_other (hq p hp) (x := x)]; exact hh p hp, fun hh p hp => by rw [put_other (hq p hp)]; exact hh p hp⟩
    obtain ⟨h1, h2⟩ := h.ins t s hs hr hls
    have hdt := hne t s hs hls
    refine ⟨fun hh => ?_, fun hh => ?_⟩
    · obtain ⟨y, h3, h4⟩ := h1 (hat.1 hh)
      exact ⟨y, den_le hl _ _ h3, by rw [put_other hdt]; exact h4⟩
    · rw [put_other hdt]; exact h2 fun h' => hh (hat.2 h')
  have hset : ∀ j, (listed.setIfInBounds i true).getD j false = true → j = i ∨ listed.getD j false = true := fun j hj => by
    by_cases hji : j = i
    · exact .inl hji
    · rw [getD_set_ne false (Ne.symm hji)] at hj
      exact .inr hj
  have hkeep : ∀ j, listed.getD j false = true → (listed.setIfInBounds i true).getD j false = true := fun j hj => getD_set_true hj
  have hdo : ∀ (d : Nat) (x : Value), o.dst = some d → ∀ t, freeOf heads t = true → (a.put (some d) x).tmps[t]? = a0.tmps[t]? := by
    intro d x hd t ht
    rw [put_other]
    · exact h.out t ht
    · rintro rfl
      have := List.all_eq_true.1 ht o (List.mem_of_getElem? hho)
      rw [hd] at this
      simp at this
  have hatd : ∀ (d : Nat) (x : Value), o.dst = some d → (holds (a.put (some d) x) g ↔ holds a g) := by
    intro d x hd
    obtain ⟨g', r', R', -, -, e, -⟩ := F.own hho hd
    have hq : ∀ p ∈ g, d ≠ p.1 := fun p hp e2 => by
      obtain ⟨s', q1, q2, q4, q3⟩ := hatoms p hp
      rw [← e2, e] at q1
      obtain rfl := Option.some.inj q1
      exact Nat.lt_irrefl _ q4
    exact ⟨fun hh p hp => by rw [← put_other (hq p hp) (x := x)]; exact hh p hp, fun hh p hp => by rw [put_other (hq p hp)]; exact hh p hp⟩
  have hlater : ∀ j m sb sb', Wr S i m sb → i < j → j < heads.length → Wr S j m sb' → listed.getD j false = false := by
    intro j m sb sb' h1 hij hj h2
    cases hl : listed.getD j false with
    | false => rfl
    | true =>
      have := F.order rfl inv hij hj h1 h2 fun oj hoj e he hb => inv.closed j oj hoj hl e he hb
      rw [hu'] at this; cases this
  have hmono : ∀ j, (listed.setIfInBounds i true).getD j false = false → listed.getD j false = false := fun j hj => by
    cases hl : listed.getD j false with
    | false => rfl
    | true => rw [hkeep j hl] at hj; cases hj
  have hisz : (listed.setIfInBounds i true).getD i false = true := getD_set_self' hil
  rcases hcase with ⟨rfl, hd, rfl, n, sb', hst, -, hH, hnm, -, hws⟩ | ⟨r, R, hrd, hD, hcase⟩
  · -- a store
    rw [if_pos (hw.2 (holds_nil a))]
    obtain ⟨sb, k1, k2⟩ := storeD_ok (Q := Q) hst hd
    have hWr : Wr S i n sb' := hH
    have hcur : Cont ρ W n sb := by
      rcases F.heap i (by omega) n sb k1 with ⟨q1, q2⟩ | ⟨j, q1, q2, q3⟩
      · refine h.con n sb q1 fun j sb2 hj hwj => ?_
        rcases Nat.lt_trichotomy j i with hl | hl | hl
        · exact absurd hwj (q2 j sb2 hl)
        · rw [hl]; exact hu'
        · exact hlater j n sb' sb2 hWr hl hj hwj
      · have hlj := F.order rfl inv q1 (by omega) q2 hWr fun oj hoj e he hb => by
          rw [ho] at hoj
          obtain rfl := Option.some.inj hoj
          exact hdep e he hb
        refine h.wr j n sb (by omega) hlj q2 fun j' sb2 hj' hj2 hwj => ?_
        rcases Nat.lt_trichotomy j' i with hl | hl | hl
        · exact absurd hwj (q3 j' sb2 hj' hl)
        · rw [hl]; exact hu'
        · exact hlater j' n sb' sb2 hWr hl hj2 hwj
    obtain ⟨b, vs', hb, hden, hbl, k3⟩ := k2 ρ a W (hop (holds_nil a)) hcur
    refine k3 K (hK a _ ⟨ρ, h.inj, fun m c hm => by rw [setRow_size]; exact h.low m c hm, h.grd.store (h.low n b hb).1, h.le, fun m c hm => (h.dom m c hm).imp id fun ⟨q1, j, q2, q3, q4⟩ => ⟨q1, j, q2, hkeep j q3, q4⟩,
      fun m s hs hno => ?_, fun j m s hj hl hwj hno => ?_, h.keep.store ?_, by rw [setRow_size]; exact h.size, fun t s hs hr hls => ?_, h.out, h.sz, h.df⟩)
    · by_cases e : m = n
      · subst e
        have := hno i sb' (by omega) hWr
        rw [hisz] at this; cases this
      · exact (h.con m s hs fun j s' hj hwj => hmono j (hno j s' hj hwj)).other h.inj hb e
    · rcases hset j hl with rfl | hl
      · obtain ⟨rfl, rfl⟩ := hwj.uniq hWr
        exact ⟨b, vs', hb, hden, hbl⟩
      · by_cases e : m = n
        · subst e
          rcases Nat.lt_trichotomy j i with q | q | q
          · have := hno i sb' q (by omega) hWr
            rw [hisz] at this; cases this
          · rw [q, hu'] at hl; cases hl
          · rw [hlater j m sb' s hWr q hj hwj] at hl; cases hl
        · exact (h.wr j m s hj hl hwj fun j' s' h1 h2 h3 => hmono j' (hno j' s' h1 h2 h3)).other h.inj hb e
    · rcases h.dom n b hb with h1 | ⟨h1, -⟩
      · exact (h0.base.old n b h1).imp (fun h => ⟨n, h⟩) id
      · exact .inr (Nat.le_trans h0.base.keep.size h1)
    · rcases hset s.k hls with e | hls
      · obtain ⟨o', g', r', q1, q2, -⟩ := F.entry hs hr
        rw [e, hho] at q1
        obtain rfl := Option.some.inj q1
        rw [hd] at q2; cases q2
      · exact h.ins t s hs hr hls
  -- an operation that yields
  have hR : ∀ n ∈ R, ∀ j sb, j < heads.length → ¬ Wr S j n sb := by
    intro n hn j sb hj hwj
    have h1 : n ∈ (S (i + 1)).rd := by rw [rdN_ok hrd]; exact List.mem_append.2 (.inl hn)
    exact F.disj n (F.rds (i := i + 1) (by omega) (Nat.le_refl _) h1) j (F.wrs hj (Nat.le_refl _) hwj)
  have hhok : HOk C (restrict st0.H R) ρ W := ⟨fun n sb hn => by
      obtain ⟨h1, h2⟩ := restrict_look hn
      exact h.con n sb h2 fun j sb' hj hwj => absurd hwj (hR n h1 j sb' hj), h.inj, h.low, h.grd⟩
  have hD' : D Γ (opIn true heads st0.rg (S i).sl o g) (restrict st0.H R) (S i).nm o.op = some r := hD
  have hcon : ∀ W', Gr W W' → ∀ m sb, look st0.H m = some sb → (∀ j sb', j < heads.length → Wr S j m sb' → (listed.setIfInBounds i true).getD j false = false) → Cont ρ W' m sb :=
    fun W' g' m sb hs hno => (h.con m sb hs fun j s' hj hwj => hmono j (hno j s' hj hwj)).gr g'
  have hwr : ∀ W', Gr W W' → ∀ j m sb, j ≠ i → j < heads.length → (listed.setIfInBounds i true).getD j false = true → Wr S j m sb → (∀ j' sb', j < j' → j' < heads.length → Wr S j' m sb' → (listed.setIfInBounds i true).getD j' false = false) → Cont ρ W' m sb :=
    fun W' g' j m sb hji hj hl hwj hno => (h.wr j m sb hj ((hset j hl).resolve_left hji) hwj fun j' s' h1 h2 h3 => hmono j' (hno j' s' h1 h2 h3)).gr g'
  rcases hcase with ⟨hd, hb, hS, hH, hnm, -, hob'⟩ | ⟨d, hd, hdn, hf, hsl, hc⟩
  · -- no slot
    rw [hd]
    have hno : ∀ t s, look (S heads.length).sl t = some s → s.rg = st0.rg → s.k ≠ i := fun t s hs hr e => by
      obtain ⟨o', g', r', k1, k2, -⟩ := F.entry hs hr
      rw [e, hho] at k1
      obtain rfl := Option.some.inj k1
      rw [hd] at k2; cases k2
    have hI' : ∀ W', Gr W W' → HI C nt w0 ρe heads st0 S ρ0 a0 W1 (listed.setIfInBounds i true) ρ a W' := fun W' g' =>
      ⟨h.inj, fun m c hm => ⟨(h.low m c hm).1, Nat.lt_of_lt_of_le (h.low m c hm).2 g'.size⟩, h.grd.gr g', h.le, fun m b hm => (h.dom m b hm).imp id fun ⟨q1, j, q2, q3, q4⟩ => ⟨q1, j, q2, hkeep j q3, q4⟩,
        hcon W' g', fun j m sb hj hl hwj hno' => hwr W' g' j m sb (fun e => no_wr hH m sb (e ▸ hwj)) hj hl hwj hno',
        h.keep.gr g', Nat.le_trans h.size g'.size, fun t s hs hr hl => by
          rcases hset s.k hl with e | hl
          · exact absurd e (hno t s hs hr)
          · exact h.ins t s hs hr hl,
        h.out, h.sz, h.df⟩
    split
    · rename_i hww
      have hh := hw.1 hww
      refine D_sound hhok (hop hh) hD' (hgi _ hh (by rw [← hob']; exact hob)) fun val W' hp => ?_
      rw [hd]
      exact hK a W' ⟨ρ, hI' W' hp.1⟩
    · exact hK a W ⟨ρ, hI' W (Gr.refl W)⟩
  · rw [hd]
    have hdl : d < a.tmps.size := by rw [h.sz]; exact hdn
    obtain ⟨g', r', R', f1, f2, f3, f4⟩ := F.own hho hd
    rw [hg] at f1
    obtain rfl := Option.some.inj f1
    have er : r'.v = r.v := by
      rw [hsl] at f4
      injection f4 with f4 _
      have f5 := congrArg Prod.snd f4
      have f6 := congrArg Slot.v f5
      exact f6.symm
    have hown : ∀ t s, look (S heads.length).sl t = some s → s.rg = st0.rg → s.k = i → t = d ∧ s = ⟨st0.rg, i, g, r.v⟩ := fun t s hs hr e => by
      obtain ⟨o', g'', r'', k1, k2, -⟩ := F.entry hs hr
      rw [e, hho] at k1
      obtain rfl := Option.some.inj k1
      rw [hd] at k2
      obtain rfl := Option.some.inj k2
      rw [f3, er] at hs
      exact ⟨rfl, (Option.some.inj hs).symm⟩
    rcases hc with ⟨hb, hH, hnm, -, hob'⟩ | ⟨sb, hb, rfl, hH, hnm, -, hob'⟩
    · have hI' : ∀ x W', Gr W W' → SlotNow ρ (a.put (some d) x) g r.v d → HI C nt w0 ρe heads st0 S ρ0 a0 W1 (listed.setIfInBounds i true) ρ (a.put (some d) x) W' := fun x W' g' hx =>
        ⟨h.inj, fun m c hm => ⟨(h.low m c hm).1, Nat.lt_of_lt_of_le (h.low m c hm).2 g'.size⟩, h.grd.gr g', h.le, fun m b hm => (h.dom m b hm).imp id fun ⟨q1, j, q2, q3, q4⟩ => ⟨q1, j, q2, hkeep j q3, q4⟩,
          hcon W' g', fun j m sb hj hl hwj hno' => hwr W' g' j m sb (fun e => no_wr hH m sb (e ▸ hwj)) hj hl hwj hno',
          h.keep.gr g', Nat.le_trans h.size g'.size, fun t s hs hr hl => by
            rcases hset s.k hl with e | hl
            · obtain ⟨rfl, rfl⟩ := hown t s hs hr e
              exact hx
            · exact hstay ρ d x hd (Names.le.refl _) t s hs hr hl,
          hdo d x hd, by simp [Act.put, h.sz], h.df⟩
      split
      · rename_i hww
        have hh := hw.1 hww
        refine D_sound hhok (hop hh) hD' (hgi _ hh (by rw [← hob']; exact hob)) fun val W' hp => ?_
        obtain ⟨hp1, hp2⟩ := hp
        rw [hb] at hp2
        rw [hd]
        exact hK _ W' ⟨ρ, hI' val W' hp1 ⟨fun _ => ⟨val, hp2, put_self hdl⟩, fun hn => absurd ((hatd d val hd).2 hh) hn⟩⟩
      · rename_i hww
        exact hK _ W ⟨ρ, hI' undef W (Gr.refl W) ⟨fun hh => absurd (hw.2 ((hatd d undef hd).1 hh)) hww, fun _ => put_self hdl⟩⟩
    · have hWr : Wr S i (S i).nm sb := hH
      have hww := hw.2 (holds_nil a)
      rw [if_pos hww]
      refine D_sound hhok (hop (holds_nil a)) hD' (by have := hob; rw [hob'] at this; exact this) fun val W' hp => ?_
      obtain ⟨hp1, hp2⟩ := hp
      rw [hb] at hp2
      obtain ⟨m, cs, p1, p2, p3, p4, p5⟩ := hp2
      rw [hd]
      have hfree : ρ (S i).nm = none := by
        cases hq : ρ (S i).nm with
        | none => rfl
        | some b =>
          rcases h.dom _ b hq with h1 | ⟨-, j, q2, q3, q4, q5⟩
          · have k1 := h0.base.dom _ b h1
            have k2 := F.nm (i := 0) (j := i) (by omega) (by omega)
            rw [F.s0] at k2
            omega
          · rcases Nat.lt_trichotomy j i with q | q | q
            · have := F.nm (i := j + 1) (j := i) (by omega) (by omega)
              omega
            · rw [q, hu'] at q3; cases q3
            · have := F.nm (i := i + 1) (j := j) (by omega) (by omega)
              omega
      have hl := Names.le_add (m := m) hfree
      have hsz0 := h0.base.keep.size
      have hsz1 := h.size
      have hhn := hhok.name hfree hp1 p1 p2 (by omega)
      refine hK _ W' ⟨ρ.add (S i).nm m, hhn.inj, hhn.low, hhn.grd, h.le.trans hl, fun m' b hm => ?_, fun m' s hs hno => (hcon W' hp1 m' s hs hno).le hl, fun j m' s hj hlj hwj hno => ?_, h.keep.gr hp1, Nat.le_trans h.size hp1.size, fun t s hs hr hls => ?_, hdo d val hd, by simp [Act.put, h.sz], h.df⟩
      · unfold Names.add at hm
        split at hm
        · rename_i e
          obtain rfl := Option.some.inj hm
          exact .inr ⟨by omega, i, by omega, hisz, hnm, e.symm⟩
        · exact (h.dom m' b hm).imp id fun ⟨q1, j, q2, q3, q4⟩ => ⟨q1, j, q2, hkeep j q3, q4⟩
      · by_cases e : j = i
        · subst e
          obtain ⟨rfl, rfl⟩ := hwj.uniq hWr
          exact ⟨m, cs, Names.add_self _ _ _, denL_le hl _ _ p3, p4⟩
        · exact (hwr W' hp1 j m' s e hj hlj hwj hno).le hl
      · rcases hset s.k hls with e | hls
        · obtain ⟨rfl, rfl⟩ := hown t s hs hr e
          exact ⟨fun _ => ⟨val, p5 _ hl (Names.add_self _ _ _), put_self hdl⟩, fun hn => absurd (holds_nil _) hn⟩
        · exact hstay _ d val hd hl t s hs hr hls
end
end Go.Proofs.YtggcfjeehpcclaaDoor
