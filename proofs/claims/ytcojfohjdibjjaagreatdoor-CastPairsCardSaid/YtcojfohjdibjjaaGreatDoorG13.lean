/- A symbolic executor with lists, 14: operations in whatever order: what is fixed ahead. -/
import Derived.Test.YtcojfohjdibjjaaGreatDoorG12
namespace Go.Proofs.YtcojfohjdibjjaaGreatDoor
open Go.RowKit

section
variable {PP : Program} {C : Cx PP} {Γ : List (Con C)} {nt : Nat}

/-- What is fixed ahead: the states ahead of each operation. -/
structure Fixed (Γ : List (Con C)) (nt : Nat) (ops heads : List Oper) (st0 : St) (S : Nat → St) : Prop where
  s0 : S 0 = st0
  run : ∀ (i : Nat) (o : Oper), heads[i]? = some o → ∃ ob, stepIn Γ nt true ops heads i o (S i) = some (S (i + 1), ob) ∧ owed ob
  old : ∀ t s, look st0.sl t = some s → s.rg ≠ st0.rg
  hd : ∀ (i : Nat) (o : Oper), heads[i]? = some o → ops[i]? = some o

variable {ops heads : List Oper} {st0 : St} {S : Nat → St}

/-- One operation. -/
structure One (Γ : List (Con C)) (nt : Nat) (ops heads : List Oper) (S : Nat → St) (i : Nat) (o : Oper) (g : List (Nat × Bool)) (R : List Nat) (r : DR) : Prop where
  at_ : heads[i]? = some o
  gd : guardOf true ops (S i).rg (S i).sl o = some g
  rd : laid (readsOp (opIn true heads i (S i).rg (S i).sl o g) (S i).H o.op) = some R
  rok : wsAll ops i (S i).ws R = true
  d : D Γ (fzB g) (opIn true heads i (S i).rg (S i).sl o g) (restrict (S i).H R) (S i).nm o.op = some r
  w : wrB true ops i g r.w r.fr (S i).nm (S i).rd (S i).ws = true
  dst : dstB nt (S i).rg (S i).sl o = true
  sl : (S (i + 1)).sl = putS (S i).rg i g r.v o.dst (S i).sl
  H : (S (i + 1)).H = putH r.w (S i).H
  nm : (S (i + 1)).nm = putN r.fr (S i).nm
  rg : (S (i + 1)).rg = (S i).rg
  rds : (S (i + 1)).rd = conR i R (S i).rd
  ws : (S (i + 1)).ws = putW true r.w i (S i).ws
  ob : owed (gimp (S i).sl g r.ob)
theorem Fixed.one (F : Fixed Γ nt ops heads st0 S) {i : Nat} (hi : i < heads.length) : ∃ o g R r, One Γ nt ops heads S i o g R r := by
  have h0 : heads[i]? = some heads[i] := List.getElem?_eq_getElem hi
  obtain ⟨ob, h1, h2⟩ := F.run i heads[i] h0
  obtain ⟨g, R, r, k1, k2, k3, k4, k5, k6, k7, k8⟩ := stepIn_facts h1
  exact ⟨_, g, R, r, h0, k1, k2, k3, k4, k5, k6, by rw [k7], by rw [k7], by rw [k7], by rw [k7], by rw [k7]; rfl, by rw [k7], by rw [← k8]; exact h2⟩

/-- The slots behind an operation. -/
theorem Fixed.slots (F : Fixed Γ nt ops heads st0 S) {i : Nat} (hi : i < heads.length) : (S (i + 1)).rg = (S i).rg ∧ ∃ o, heads[i]? = some o ∧ ((o.dst = none ∧ (S (i + 1)).sl = (S i).sl) ∨
    ∃ d g v, o.dst = some d ∧ freshIn (S i).rg (S i).sl d = true ∧ guardOf true ops (S i).rg (S i).sl o = some g ∧ (S (i + 1)).sl = (d, ⟨(S i).rg, i, g, v⟩) :: (S i).sl) := by
  obtain ⟨o, g, R, r, h⟩ := F.one hi
  refine ⟨h.rg, o, h.at_, ?_⟩
  cases hd : o.dst with
  | none => exact .inl ⟨rfl, by rw [h.sl, hd]; rfl⟩
  | some d => exact .inr ⟨d, g, r.v, rfl, ((dstB_ok h.dst).2 d hd).2, h.gd, by rw [h.sl, hd]; rfl⟩
theorem Fixed.rg (F : Fixed Γ nt ops heads st0 S) : ∀ i, i ≤ heads.length → (S i).rg = st0.rg
  | 0, _ => by rw [F.s0]
  | i + 1, h => by rw [(F.slots (i := i) (by omega)).1, F.rg i (by omega)]
theorem Fixed.out (F : Fixed Γ nt ops heads st0 S) : ∀ i, i ≤ heads.length → ∀ t s, look (S i).sl t = some s → s.rg ≠ st0.rg → look st0.sl t = some s
  | 0, _, t, s, hs, _ => by rwa [F.s0] at hs
  | i + 1, h, t, s, hs, hr => by
    obtain ⟨-, o, -, ⟨-, h3⟩ | ⟨d, g, r, -, -, -, h3⟩⟩ := F.slots (i := i) (by omega)
    · rw [h3] at hs
      exact F.out i (by omega) t s hs hr
    · rw [h3] at hs
      by_cases e : d = t
      · subst e
        rw [look_cons_eq] at hs
        obtain rfl := Option.some.inj hs
        exact absurd (F.rg i (by omega)) hr
      · rw [look_cons_ne _ _ e] at hs
        exact F.out i (by omega) t s hs hr
theorem Fixed.ins (F : Fixed Γ nt ops heads st0 S) : ∀ i, i ≤ heads.length → ∀ t s, look (S i).sl t = some s → s.rg = st0.rg → s.k < i ∧ ∃ o, heads[s.k]? = some o ∧ o.dst = some t
  | 0, _, t, s, hs, hr => by rw [F.s0] at hs; exact absurd hr (F.old t s hs)
  | i + 1, h, t, s, hs, hr => by
    obtain ⟨-, o, h0, ⟨-, h3⟩ | ⟨d, g, r, hd, -, -, h3⟩⟩ := F.slots (i := i) (by omega)
    · rw [h3] at hs
      obtain ⟨k1, k2⟩ := F.ins i (by omega) t s hs hr
      exact ⟨by omega, k2⟩
    · rw [h3] at hs
      by_cases e : d = t
      · subst e
        rw [look_cons_eq] at hs
        obtain rfl := Option.some.inj hs
        exact ⟨Nat.lt_succ_self _, _, h0, hd⟩
      · rw [look_cons_ne _ _ e] at hs
        obtain ⟨k1, k2⟩ := F.ins i (by omega) t s hs hr
        exact ⟨by omega, k2⟩
theorem Fixed.up1 (F : Fixed Γ nt ops heads st0 S) {i : Nat} (h : i < heads.length) {t : Nat} {s : Slot} (hs : look (S i).sl t = some s) (hr : s.rg = st0.rg) : look (S (i + 1)).sl t = some s := by
  obtain ⟨-, o, h0, ⟨-, h3⟩ | ⟨d, g, r, hd, hf, -, h3⟩⟩ := F.slots h
  · rw [h3]; exact hs
  · rw [h3, look_cons_ne]
    · exact hs
    · rintro rfl
      exact freshIn_ok hf hs (by rw [hr, F.rg i (by omega)])
theorem Fixed.up (F : Fixed Γ nt ops heads st0 S) {i : Nat} : ∀ {j : Nat}, i ≤ j → j ≤ heads.length → ∀ {t : Nat} {s : Slot}, look (S i).sl t = some s → s.rg = st0.rg → look (S j).sl t = some s
  | 0, h, _, t, s, hs, _ => by
    obtain rfl : i = 0 := by omega
    exact hs
  | j + 1, h, hj, t, s, hs, hr => by
    rcases Nat.eq_or_lt_of_le h with rfl | h
    · exact hs
    · exact F.up1 (by omega) (F.up (by omega) (by omega) hs hr) hr
/-- An operation's own slot. -/
theorem Fixed.own (F : Fixed Γ nt ops heads st0 S) {i : Nat} {o : Oper} (ho : heads[i]? = some o) {d : Nat} (hd : o.dst = some d) :
    ∃ g v, guardOf true ops st0.rg (S i).sl o = some g ∧ look (S heads.length).sl d = some ⟨st0.rg, i, g, v⟩ ∧ (S (i + 1)).sl = (d, ⟨st0.rg, i, g, v⟩) :: (S i).sl := by
  have hi : i < heads.length := (List.getElem?_eq_some_iff.1 ho).1
  obtain ⟨-, o', h0, ⟨h3, -⟩ | ⟨d', g, r, hd', hf, k1, h3⟩⟩ := F.slots hi
  · rw [ho] at h0
    obtain rfl := Option.some.inj h0
    rw [hd] at h3; cases h3
  · rw [ho] at h0
    obtain rfl := Option.some.inj h0
    rw [hd] at hd'
    obtain rfl := Option.some.inj hd'
    rw [F.rg i (by omega)] at k1 h3
    exact ⟨g, r, k1, F.up (i := i + 1) (by omega) (Nat.le_refl _) (by rw [h3, look_cons_eq]) rfl, h3⟩
/-- The entry of a slot of the region comes of the operation that it names. -/
theorem Fixed.entry (F : Fixed Γ nt ops heads st0 S) {t : Nat} {s : Slot} (hs : look (S heads.length).sl t = some s) (hr : s.rg = st0.rg) :
    ∃ o g r, heads[s.k]? = some o ∧ o.dst = some t ∧ guardOf true ops st0.rg (S s.k).sl o = some g ∧ s = ⟨st0.rg, s.k, g, r⟩ ∧ (S (s.k + 1)).sl = (t, s) :: (S s.k).sl := by
  obtain ⟨h1, o, h2, h3⟩ := F.ins _ (Nat.le_refl _) t s hs hr
  obtain ⟨g, r, h4, h5, h6⟩ := F.own h2 h3
  rw [hs] at h5
  have h7 := Option.some.inj h5
  rw [← h7] at h6
  exact ⟨o, g, r, h2, h3, h4, h7, h6⟩
theorem Fixed.early (F : Fixed Γ nt ops heads st0 S) {t i : Nat} {s : Slot} (hs : look (S heads.length).sl t = some s) (hr : s.rg = st0.rg) (hi : s.k < i) (hn : i ≤ heads.length) : look (S i).sl t = some s := by
  obtain ⟨o, g, r, h1, h2, h3, h4, h5⟩ := F.entry hs hr
  exact F.up (i := s.k + 1) (by omega) hn (by rw [h5, look_cons_eq]) hr
/-- The guards of an entry lie in the region, at operations that it waits for. -/
theorem Fixed.atoms (F : Fixed Γ nt ops heads st0 S) {md : Array Oper} (hmd : md.toList = ops) {n : Nat} : ∀ (k t : Nat) (s : Slot), s.k = k → look (S heads.length).sl t = some s → s.rg = st0.rg →
    ∀ p ∈ s.g, ∃ s', look (S heads.length).sl p.1 = some s' ∧ s'.rg = st0.rg ∧ s'.k < s.k ∧ ∀ listed : Array Bool, HeadInv .any md n listed → listed.getD s.k false = true → listed.getD s'.k false = true := by
  intro k
  induction k using Nat.strongRecOn with
  | _ k ih =>
    intro t s hk hs hr p hp
    obtain ⟨o, g, r, h1, h2, h3, h4, -⟩ := F.entry hs hr
    have hkl : s.k < heads.length := (F.ins _ (Nat.le_refl _) t s hs hr).1
    have hg : s.g = g := by rw [h4]
    rw [hg] at hp
    rcases guardOf_ok h3 with ⟨-, rfl⟩ | ⟨j, pol, oj, u, s', e1, e2, e3, e4, e5, e6, rfl, e7⟩
    · cases hp
    · have hs' : look (S heads.length).sl u = some s' := F.up (by omega) (Nat.le_refl _) e4 e5
      have hj : s'.k < s.k := (F.ins _ (by omega) u s' e4 e5).1
      have hcl : ∀ listed : Array Bool, HeadInv .any md n listed → listed.getD s.k false = true → listed.getD s'.k false = true := by
        intro listed inv hl
        obtain ⟨e, he, hb, hon⟩ := waitsOn_ok (e7 rfl)
        have ho : md[s.k]? = some o := by
          have := F.hd _ _ h1
          rw [← hmd] at this
          simpa using this
        have := inv.closed s.k o ho hl e he hb
        rw [hon] at this
        rw [e6]; exact this
      rcases List.mem_cons.1 hp with rfl | hp
      · exact ⟨s', hs', e5, hj, hcl⟩
      · obtain ⟨s2, q1, q2, q4, q3⟩ := ih s'.k (by omega) u s' rfl hs' e5 p hp
        exact ⟨s2, q1, q2, by omega, fun listed inv hl => q3 listed inv (hcl listed inv hl)⟩

/-! ### The heap -/
/-- Operation number i writes the block named m. -/
def Wr (S : Nat → St) (i m : Nat) (sb : SB) : Prop := (S (i + 1)).H = (m, sb) :: (S i).H
theorem Wr.uniq {i m m' : Nat} {sb sb' : SB} (h : Wr S i m sb) (h' : Wr S i m' sb') : m = m' ∧ sb = sb' := by
  have e := h.symm.trans h'
  injection e with e
  injection e with e1 e2
  exact ⟨e1, e2⟩
theorem no_wr {i : Nat} (h : (S (i + 1)).H = (S i).H) (m : Nat) (sb : SB) : ¬ Wr S i m sb := fun hw => by
  have := congrArg List.length (h.symm.trans hw)
  simp at this
/-- What an operation writes. -/
theorem One.wr {i : Nat} {o : Oper} {g : List (Nat × Bool)} {R : List Nat} {r : DR} (h : One Γ nt ops heads S i o g R r) : (r.w = none ∧ r.fr = false ∧ ∀ m sb, ¬ Wr S i m sb) ∨
    ∃ n sb, r.w = some (n, sb) ∧ Wr S i n sb ∧ g = [] ∧ n < putN r.fr (S i).nm ∧ wsOk ops i n (S i).ws = true ∧ wsOk ops i n (S i).rd = true := by
  have hH := h.H
  rcases wrB_ok h.w with ⟨h1, h2⟩ | ⟨n, sb, h1, h2, h3, h4⟩
  · rw [h1] at hH
    exact .inl ⟨h1, h2, no_wr hH⟩
  · rw [h1] at hH
    exact .inr ⟨n, sb, h1, hH, h2, h3, (h4 rfl).1, (h4 rfl).2⟩
theorem Fixed.nm (F : Fixed Γ nt ops heads st0 S) {i : Nat} : ∀ {j : Nat}, i ≤ j → j ≤ heads.length → (S i).nm ≤ (S j).nm
  | 0, h, _ => by
    obtain rfl : i = 0 := by omega
    exact Nat.le_refl _
  | j + 1, h, hj => by
    rcases Nat.eq_or_lt_of_le h with rfl | h
    · exact Nat.le_refl _
    · have := F.nm (i := i) (j := j) (by omega) (by omega)
      obtain ⟨o, g, R, r, h1⟩ := F.one (i := j) (by omega)
      rw [h1.nm]
      cases r.fr <;> simp only [putN] <;> omega
theorem conR_mem {k n : Nat} : ∀ {R : List Nat} {l : List (Nat × Nat)}, n ∈ R → (n, k) ∈ conR k R l
  | m :: r, l, h => by
    rcases List.mem_cons.1 h with rfl | h
    · exact List.mem_cons_self
    · exact List.mem_cons_of_mem _ (conR_mem h)
theorem conR_old {k : Nat} {x : Nat × Nat} : ∀ {R : List Nat} {l : List (Nat × Nat)}, x ∈ l → x ∈ conR k R l
  | [], l, h => h
  | m :: r, l, h => List.mem_cons_of_mem _ (conR_old h)
theorem Fixed.wrs (F : Fixed Γ nt ops heads st0 S) {j : Nat} : ∀ {i : Nat}, j < i → i ≤ heads.length → ∀ {m : Nat} {sb : SB}, Wr S j m sb → (m, j) ∈ (S i).ws
  | 0, h, _, m, sb, _ => by omega
  | i + 1, h, hi, m, sb, hw => by
    obtain ⟨o, g, R, r, h1⟩ := F.one (i := i) (by omega)
    have hws := h1.ws
    rcases Nat.eq_or_lt_of_le (Nat.le_of_lt_succ h) with rfl | hlt
    · rcases h1.wr with ⟨-, -, k⟩ | ⟨n, sb', k1, k2, -⟩
      · exact absurd hw (k m sb)
      · rw [hws, k1, (hw.uniq k2).1]
        exact List.mem_cons_self
    · have ih := F.wrs hlt (by omega) hw
      rw [hws]
      cases r.w with
      | none => exact ih
      | some w => exact List.mem_cons_of_mem _ ih
theorem Fixed.rds (F : Fixed Γ nt ops heads st0 S) {x : Nat × Nat} {i : Nat} : ∀ {j : Nat}, i ≤ j → j ≤ heads.length → x ∈ (S i).rd → x ∈ (S j).rd
  | 0, h, _, hx => by
    obtain rfl : i = 0 := by omega
    exact hx
  | j + 1, h, hj, hx => by
    rcases Nat.eq_or_lt_of_le h with rfl | h
    · exact hx
    · have ih := F.rds (i := i) (j := j) (by omega) (by omega) hx
      obtain ⟨o, g, R, r, h1⟩ := F.one (i := j) (by omega)
      rw [h1.rds]
      exact conR_old ih
theorem ancB_ok {md : Array Oper} {n : Nat} {listed : Array Bool} (inv : HeadInv .any md n listed) : ∀ (k i j : Nat), ancB md.toList k i j = true → (∀ o, md[i]? = some o → ∀ e ∈ o.after, Region.binds .any e = true → listed.getD e.on false = true) → listed.getD j false = true
  | 0, i, j, h, _ => by cases h
  | k + 1, i, j, h, hw => by
    simp only [ancB] at h
    split at h
    · cases h
    · rename_i o ho
      have ho' : md[i]? = some o := by simpa using ho
      split at h
      · rename_i hwo
        obtain ⟨e, he, hb, hon⟩ := waitsOn_ok hwo
        rw [← hon]; exact hw o ho' e he hb
      · obtain ⟨e, he, hb⟩ := List.any_eq_true.1 h
        simp only [Bool.and_eq_true] at hb
        have hl := hw o ho' e (by simpa using he) hb.1
        exact ancB_ok inv k e.on j hb.2 fun o' ho'' e' he' hb' => inv.closed e.on o' ho'' hl e' he' hb'
theorem wsOk_ok {l : List Oper} {i n : Nat} : ∀ {ws : List (Nat × Nat)}, wsOk l i n ws = true → ∀ j, (n, j) ∈ ws → ancB l 5 i j = true
  | [], _, j, hj => by cases hj
  | (m, k) :: r, h, j, hj => by
    simp only [wsOk] at h
    split at h
    · split at h
      · rename_i ha
        rcases List.mem_cons.1 hj with e | hj
        · rw [(Prod.mk.inj e).2]; exact ha
        · exact wsOk_ok h j hj
      · cases h
    · rename_i hb
      rcases List.mem_cons.1 hj with e | hj
      · rw [(Prod.mk.inj e).1, Nat.beq_refl] at hb; cases hb
      · exact wsOk_ok h j hj
theorem wsAll_ok {l : List Oper} {i : Nat} {ws : List (Nat × Nat)} : ∀ {R : List Nat}, wsAll l i ws R = true → ∀ n ∈ R, wsOk l i n ws = true
  | [], _, n, hn => by cases hn
  | m :: r, h, n, hn => by
    simp only [wsAll] at h
    split at h
    · rename_i h1
      rcases List.mem_cons.1 hn with rfl | hn
      · exact h1
      · exact wsAll_ok h n hn
    · cases h
/-- Operation j touches a name that i wrote, or writes one that i touched: it waits for i. -/
theorem Fixed.order (F : Fixed Γ nt ops heads st0 S) {md : Array Oper} (hmd : md.toList = ops) {n : Nat} {listed : Array Bool} (inv : HeadInv .any md n listed) {i j m : Nat} (hij : i < j) (hj : j < heads.length)
    (h : (∃ sb, Wr S i m sb) ∧ ((∃ sb, Wr S j m sb) ∨ (m, j) ∈ (S (j + 1)).rd ∧ ∃ o g R r, One Γ nt ops heads S j o g R r ∧ m ∈ R) ∨ (m, i) ∈ (S (i + 1)).rd ∧ ∃ sb, Wr S j m sb)
    (hw : ∀ o, md[j]? = some o → ∀ e ∈ o.after, Region.binds .any e = true → listed.getD e.on false = true) : listed.getD i false = true := by
  subst hmd
  rcases h with ⟨⟨sb, h1⟩, ⟨sb', h2⟩ | ⟨-, o, g, R, r, h2, h3⟩⟩ | ⟨h1, sb', h2⟩
  · have hmem := F.wrs (i := j) hij (by omega) h1
    obtain ⟨o, g, R, r, k1⟩ := F.one hj
    rcases k1.wr with ⟨-, -, k⟩ | ⟨n', sb2, -, k2, -, -, k5, -⟩
    · exact absurd h2 (k m sb')
    · rw [← (h2.uniq k2).1] at k5
      exact ancB_ok inv 5 j i (wsOk_ok k5 i hmem) hw
  · have hmem := F.wrs (i := j) hij (by omega) h1
    exact ancB_ok inv 5 j i (wsOk_ok (wsAll_ok h2.rok m h3) i hmem) hw
  · have hmem := F.rds (i := i + 1) (j := j) hij (by omega) h1
    obtain ⟨o, g, R, r, k1⟩ := F.one hj
    rcases k1.wr with ⟨-, -, k⟩ | ⟨n', sb2, -, k2, -, -, -, k6⟩
    · exact absurd h2 (k m sb')
    · rw [← (h2.uniq k2).1] at k6
      exact ancB_ok inv 5 j i (wsOk_ok k6 i hmem) hw
/-- Where what a name holds comes from. -/
theorem Fixed.heap (F : Fixed Γ nt ops heads st0 S) : ∀ i, i ≤ heads.length → ∀ m sb, look (S i).H m = some sb →
    (look st0.H m = some sb ∧ ∀ j sb', j < i → ¬ Wr S j m sb') ∨ ∃ j, j < i ∧ Wr S j m sb ∧ ∀ j' sb', j < j' → j' < i → ¬ Wr S j' m sb'
  | 0, _, m, sb, h => by rw [F.s0] at h; exact .inl ⟨h, fun j _ hj => by omega⟩
  | i + 1, hi, m, sb, h => by
    have keep : (∀ sb', ¬ Wr S i m sb') → look (S i).H m = some sb → (look st0.H m = some sb ∧ ∀ j sb', j < i + 1 → ¬ Wr S j m sb') ∨ ∃ j, j < i + 1 ∧ Wr S j m sb ∧ ∀ j' sb', j < j' → j' < i + 1 → ¬ Wr S j' m sb' := by
      intro hno hh
      rcases F.heap i (by omega) m sb hh with ⟨h1, h2⟩ | ⟨j, h1, h2, h3⟩
      · refine .inl ⟨h1, fun j sb' hj => ?_⟩
        rcases Nat.eq_or_lt_of_le (Nat.le_of_lt_succ hj) with rfl | hj
        · exact hno sb'
        · exact h2 j sb' hj
      · refine .inr ⟨j, by omega, h2, fun j' sb' hj hj' => ?_⟩
        rcases Nat.eq_or_lt_of_le (Nat.le_of_lt_succ hj') with rfl | hj'
        · exact hno sb'
        · exact h3 j' sb' hj hj'
    obtain ⟨o, g, R, r, h1⟩ := F.one (i := i) (by omega)
    rcases h1.wr with ⟨k1, -, k⟩ | ⟨n, sb2, -, hw, -⟩
    · have hH := h1.H
      rw [k1] at hH
      rw [hH] at h
      exact keep (fun sb' => k m sb') h
    · have h' := h
      rw [show (S (i + 1)).H = (n, sb2) :: (S i).H from hw] at h'
      by_cases e : n = m
      · subst e
        rw [look_cons_eq] at h'
        rw [Option.some.inj h'] at hw
        exact .inr ⟨i, by omega, hw, fun j' _ h1 h2 => by omega⟩
      · rw [look_cons_ne _ _ e] at h'
        exact keep (fun sb' hw' => e (hw.uniq hw').1) h'
end
end Go.Proofs.YtcojfohjdibjjaaGreatDoor
