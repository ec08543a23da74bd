/- A symbolic executor, 12: operations in whatever order: what is fixed ahead. -/
import Derived.Test.YtggcfjeehpcclaaDoorS10
namespace Go.Proofs.YtggcfjeehpcclaaDoor
open Go.RowKit

section
variable {PP : Program} {C : Cx PP} {Γ : List (Con C)} {nt : Nat}

/-- No name that is read is written. -/
def inWs (n : Nat) : List (Nat × Nat) → Bool
  | [] => false
  | (m, _) :: r => match Nat.beq m n with | true => true | false => inWs n r
def disjB : List Nat → List (Nat × Nat) → Bool
  | [], _ => true
  | n :: r, ws => match inWs n ws with | true => false | false => disjB r ws
theorem inWs_ok : ∀ {ws : List (Nat × Nat)} {n j : Nat}, (n, j) ∈ ws → inWs n ws = true
  | [], n, j, h => by cases h
  | (m, i) :: r, n, j, h => by
    simp only [inWs]
    split
    · rfl
    · rename_i hb
      rcases List.mem_cons.1 h with e | h
      · rw [(Prod.mk.inj e).1, Nat.beq_refl] at hb; cases hb
      · exact inWs_ok h
theorem disjB_ok : ∀ {rd : List Nat} {ws : List (Nat × Nat)}, disjB rd ws = true → ∀ n ∈ rd, ∀ j, (n, j) ∉ ws
  | [], ws, _, n, hn, j => by cases hn
  | m :: r, ws, h, n, hn, j => by
    simp only [disjB] at h
    split at h
    · cases h
    · rename_i hb
      rcases List.mem_cons.1 hn with rfl | hn
      · intro hj
        rw [inWs_ok hj] at hb; cases hb
      · exact disjB_ok h n hn j

/-- What is fixed ahead: the states ahead of each operation. -/
structure Fixed (Γ : List (Con C)) (nt : Nat) (ops heads : List Oper) (st0 : St) (S : Nat → St) : Prop where
  s0 : S 0 = st0
  run : ∀ (i : Nat) (o : Oper), heads[i]? = some o → ∃ ob, stepIn Γ nt true ops heads st0.H i o (S i) = some (S (i + 1), ob) ∧ owed ob
  old : ∀ t s, look st0.sl t = some s → s.rg ≠ st0.rg
  hd : ∀ (i : Nat) (o : Oper), heads[i]? = some o → ops[i]? = some o
  nms : ∀ m sb, look st0.H m = some sb → m < st0.nm
  disj : ∀ n ∈ (S heads.length).rd, ∀ j, (n, j) ∉ (S heads.length).ws

variable {ops heads : List Oper} {st0 : St} {S : Nat → St}

/-- The slots behind an operation. -/
theorem Fixed.slots (F : Fixed Γ nt ops heads st0 S) {i : Nat} (hi : i < heads.length) : (S (i + 1)).rg = (S i).rg ∧ ∃ o, heads[i]? = some o ∧ ((o.dst = none ∧ (S (i + 1)).sl = (S i).sl) ∨
    ∃ d g r R, o.dst = some d ∧ freshIn (S i).rg (S i).sl d = true ∧ guardOf true ops (S i).rg (S i).sl o = some g ∧ D Γ (opIn true heads (S i).rg (S i).sl o g) (restrict st0.H R) (S i).nm o.op = some r ∧ (S (i + 1)).sl = (d, ⟨(S i).rg, i, g, r.v⟩) :: (S i).sl) := by
  have h0 : heads[i]? = some heads[i] := List.getElem?_eq_getElem hi
  obtain ⟨ob, h1, -⟩ := F.run i heads[i] h0
  obtain ⟨g, hg, hrg, h2⟩ := stepIn_facts h1
  refine ⟨hrg, _, h0, ?_⟩
  rcases h2 with ⟨-, hd, -, n, sb, -, e, -⟩ | ⟨r, R, -, hD, ⟨hd, -, e, -⟩ | ⟨d, hd, -, hf, e, -⟩⟩
  · exact .inl ⟨hd, e⟩
  · exact .inl ⟨hd, e⟩
  · exact .inr ⟨d, g, r, R, hd, hf, hg, hD, e⟩
theorem Fixed.rg (F : Fixed Γ nt ops heads st0 S) : ∀ i, i ≤ heads.length → (S i).rg = st0.rg
  | 0, _ => by rw [F.s0]
  | i + 1, h => by rw [(F.slots (i := i) (by omega)).1, F.rg i (by omega)]
theorem Fixed.out (F : Fixed Γ nt ops heads st0 S) : ∀ i, i ≤ heads.length → ∀ t s, look (S i).sl t = some s → s.rg ≠ st0.rg → look st0.sl t = some s
  | 0, _, t, s, hs, _ => by rwa [F.s0] at hs
  | i + 1, h, t, s, hs, hr => by
    obtain ⟨-, o, -, ⟨-, h3⟩ | ⟨d, g, r, R, -, -, -, -, h3⟩⟩ := F.slots (i := i) (by omega)
    · rw [h3] at hs
      exact F.out i (by omega) t s hs hr
    · rw [h3] at hs
      by_cases e : d = t
      · subst e
        rw [look_cons_eq] at hs
        obtain rfl := Option.some.inj hs
        exact absurd (F.rg i (by omega)) hr
      · rw [look_cons_ne _ _ e] at hs
        exact F.out i (by omega) t s hs hr
theorem Fixed.ins (F : Fixed Γ nt ops heads st0 S) : ∀ i, i ≤ heads.length → ∀ t s, look (S i).sl t = some s → s.rg = st0.rg → s.k < i ∧ ∃ o, heads[s.k]? = some o ∧ o.dst = some t
  | 0, _, t, s, hs, hr => by rw [F.s0] at hs; exact absurd hr (F.old t s hs)
  | i + 1, h, t, s, hs, hr => by
    obtain ⟨-, o, h0, ⟨-, h3⟩ | ⟨d, g, r, R, hd, -, -, -, h3⟩⟩ := F.slots (i := i) (by omega)
    · rw [h3] at hs
      obtain ⟨k1, k2⟩ := F.ins i (by omega) t s hs hr
      exact ⟨by omega, k2⟩
    · rw [h3] at hs
      by_cases e : d = t
      · subst e
        rw [look_cons_eq] at hs
        obtain rfl := Option.some.inj hs
        exact ⟨Nat.lt_succ_self _, _, h0, hd⟩
      · rw [look_cons_ne _ _ e] at hs
        obtain ⟨k1, k2⟩ := F.ins i (by omega) t s hs hr
        exact ⟨by omega, k2⟩
theorem Fixed.up1 (F : Fixed Γ nt ops heads st0 S) {i : Nat} (h : i < heads.length) {t : Nat} {s : Slot} (hs : look (S i).sl t = some s) (hr : s.rg = st0.rg) : look (S (i + 1)).sl t = some s := by
  obtain ⟨-, o, h0, ⟨-, h3⟩ | ⟨d, g, r, R, hd, hf, -, -, h3⟩⟩ := F.slots h
  · rw [h3]; exact hs
  · rw [h3, look_cons_ne]
    · exact hs
    · rintro rfl
      exact freshIn_ok hf hs (by rw [hr, F.rg i (by omega)])
theorem Fixed.up (F : Fixed Γ nt ops heads st0 S) {i : Nat} : ∀ {j : Nat}, i ≤ j → j ≤ heads.length → ∀ {t : Nat} {s : Slot}, look (S i).sl t = some s → s.rg = st0.rg → look (S j).sl t = some s
  | 0, h, _, t, s, hs, _ => by
    obtain rfl : i = 0 := by omega
    exact hs
  | j + 1, h, hj, t, s, hs, hr => by
    rcases Nat.eq_or_lt_of_le h with rfl | h
    · exact hs
    · exact F.up1 (by omega) (F.up (by omega) (by omega) hs hr) hr
/-- An operation's own slot. -/
theorem Fixed.own (F : Fixed Γ nt ops heads st0 S) {i : Nat} {o : Oper} (ho : heads[i]? = some o) {d : Nat} (hd : o.dst = some d) :
    ∃ g r R, guardOf true ops st0.rg (S i).sl o = some g ∧ D Γ (opIn true heads st0.rg (S i).sl o g) (restrict st0.H R) (S i).nm o.op = some r ∧ look (S heads.length).sl d = some ⟨st0.rg, i, g, r.v⟩ ∧ (S (i + 1)).sl = (d, ⟨st0.rg, i, g, r.v⟩) :: (S i).sl := by
  have hi : i < heads.length := (List.getElem?_eq_some_iff.1 ho).1
  obtain ⟨-, o', h0, ⟨h3, -⟩ | ⟨d', g, r, R, hd', hf, k1, k2, h3⟩⟩ := F.slots hi
  · rw [ho] at h0
    obtain rfl := Option.some.inj h0
    rw [hd] at h3; cases h3
  · rw [ho] at h0
    obtain rfl := Option.some.inj h0
    rw [hd] at hd'
    obtain rfl := Option.some.inj hd'
    rw [F.rg i (by omega)] at k1 k2 h3
    exact ⟨g, r, R, k1, k2, F.up (i := i + 1) (by omega) (Nat.le_refl _) (by rw [h3, look_cons_eq]) rfl, h3⟩
/-- The entry of a slot of the region comes of the operation that it names. -/
theorem Fixed.entry (F : Fixed Γ nt ops heads st0 S) {t : Nat} {s : Slot} (hs : look (S heads.length).sl t = some s) (hr : s.rg = st0.rg) :
    ∃ o g r, heads[s.k]? = some o ∧ o.dst = some t ∧ guardOf true ops st0.rg (S s.k).sl o = some g ∧ s = ⟨st0.rg, s.k, g, r⟩ ∧ (S (s.k + 1)).sl = (t, s) :: (S s.k).sl := by
  obtain ⟨h1, o, h2, h3⟩ := F.ins _ (Nat.le_refl _) t s hs hr
  obtain ⟨g, r, R, h4, -, h5, h6⟩ := F.own h2 h3
  rw [hs] at h5
  have h7 := Option.some.inj h5
  rw [← h7] at h6
  exact ⟨o, g, r.v, h2, h3, h4, h7, h6⟩
theorem Fixed.early (F : Fixed Γ nt ops heads st0 S) {t i : Nat} {s : Slot} (hs : look (S heads.length).sl t = some s) (hr : s.rg = st0.rg) (hi : s.k < i) (hn : i ≤ heads.length) : look (S i).sl t = some s := by
  obtain ⟨o, g, r, h1, h2, h3, h4, h5⟩ := F.entry hs hr
  exact F.up (i := s.k + 1) (by omega) hn (by rw [h5, look_cons_eq]) hr
/-- The guards of an entry lie in the region, at operations that it waits for. -/
theorem Fixed.atoms (F : Fixed Γ nt ops heads st0 S) {md : Array Oper} (hmd : md.toList = ops) {n : Nat} : ∀ (k t : Nat) (s : Slot), s.k = k → look (S heads.length).sl t = some s → s.rg = st0.rg →
    ∀ p ∈ s.g, ∃ s', look (S heads.length).sl p.1 = some s' ∧ s'.rg = st0.rg ∧ s'.k < s.k ∧ ∀ listed : Array Bool, HeadInv .any md n listed → listed.getD s.k false = true → listed.getD s'.k false = true := by
  intro k
  induction k using Nat.strongRecOn with
  | _ k ih =>
    intro t s hk hs hr p hp
    obtain ⟨o, g, r, h1, h2, h3, h4, -⟩ := F.entry hs hr
    have hkl : s.k < heads.length := (F.ins _ (Nat.le_refl _) t s hs hr).1
    have hg : s.g = g := by rw [h4]
    rw [hg] at hp
    rcases guardOf_ok h3 with ⟨-, rfl⟩ | ⟨j, pol, oj, u, s', e1, e2, e3, e4, e5, e6, rfl, e7⟩
    · cases hp
    · have hs' : look (S heads.length).sl u = some s' := F.up (by omega) (Nat.le_refl _) e4 e5
      have hj : s'.k < s.k := (F.ins _ (by omega) u s' e4 e5).1
      have hcl : ∀ listed : Array Bool, HeadInv .any md n listed → listed.getD s.k false = true → listed.getD s'.k false = true := by
        intro listed inv hl
        obtain ⟨e, he, hb, hon⟩ := waitsOn_ok (e7 rfl)
        have ho : md[s.k]? = some o := by
          have := F.hd _ _ h1
          rw [← hmd] at this
          simpa using this
        have := inv.closed s.k o ho hl e he hb
        rw [hon] at this
        rw [e6]; exact this
      rcases List.mem_cons.1 hp with rfl | hp
      · exact ⟨s', hs', e5, hj, hcl⟩
      · obtain ⟨s2, q1, q2, q4, q3⟩ := ih s'.k (by omega) u s' rfl hs' e5 p hp
        exact ⟨s2, q1, q2, by omega, fun listed inv hl => q3 listed inv (hcl listed inv hl)⟩

/-! ### The heap -/
/-- Operation number i writes the block named m. -/
def Wr (S : Nat → St) (i m : Nat) (sb : SB) : Prop := (S (i + 1)).H = (m, sb) :: (S i).H
theorem Wr.uniq {i m m' : Nat} {sb sb' : SB} (h : Wr S i m sb) (h' : Wr S i m' sb') : m = m' ∧ sb = sb' := by
  have e := h.symm.trans h'
  injection e with e
  injection e with e1 e2
  exact ⟨e1, e2⟩
/-- The heap behind an operation: as it was; a new block; a store. -/
theorem Fixed.mem (F : Fixed Γ nt ops heads st0 S) {i : Nat} (hi : i < heads.length) :
    ((S (i + 1)).H = (S i).H ∧ (S (i + 1)).nm = (S i).nm ∧ (S (i + 1)).ws = (S i).ws) ∨
    (∃ sb, Wr S i (S i).nm sb ∧ (S (i + 1)).nm = (S i).nm + 1 ∧ (S (i + 1)).ws = ((S i).nm, i) :: (S i).ws) ∨
    (∃ m sb sb0, Wr S i m sb ∧ (S (i + 1)).nm = (S i).nm ∧ (S (i + 1)).ws = (m, i) :: (S i).ws ∧ wsOk ops i m (S i).ws = true ∧ look (S i).H m = some sb0) := by
  have h0 : heads[i]? = some heads[i] := List.getElem?_eq_getElem hi
  obtain ⟨ob, h1, -⟩ := F.run i heads[i] h0
  obtain ⟨g, hg, hrg, h2⟩ := stepIn_facts h1
  rcases h2 with ⟨-, hd, -, n, sb, hst, -, e1, e2, -, e3⟩ | ⟨r, R, -, hD, ⟨-, -, -, e1, e2, e3, -⟩ | ⟨d, -, -, -, -, ⟨-, e1, e2, e3, -⟩ | ⟨sb, -, -, e1, e2, e3, -⟩⟩⟩
  · obtain ⟨sb0, k1, -⟩ := storeD_ok (C := C) (Q := fun _ _ _ => True) hst hd
    exact .inr (.inr ⟨n, sb, sb0, e1, e2, (e3 rfl).1, (e3 rfl).2, k1⟩)
  · exact .inl ⟨e1, e2, e3⟩
  · exact .inl ⟨e1, e2, e3⟩
  · exact .inr (.inl ⟨sb, e1, e2, e3 rfl⟩)
theorem no_wr {i : Nat} (h : (S (i + 1)).H = (S i).H) (m : Nat) (sb : SB) : ¬ Wr S i m sb := fun hw => by
  have := congrArg List.length (h.symm.trans hw)
  simp at this
theorem Fixed.nm (F : Fixed Γ nt ops heads st0 S) {i : Nat} : ∀ {j : Nat}, i ≤ j → j ≤ heads.length → (S i).nm ≤ (S j).nm
  | 0, h, _ => by
    obtain rfl : i = 0 := by omega
    exact Nat.le_refl _
  | j + 1, h, hj => by
    rcases Nat.eq_or_lt_of_le h with rfl | h
    · exact Nat.le_refl _
    · have := F.nm (i := i) (j := j) (by omega) (by omega)
      rcases F.mem (i := j) (by omega) with ⟨-, h3, -⟩ | ⟨sb, -, h3, -⟩ | ⟨m, sb, sb0, -, h3, -⟩ <;> omega
theorem Fixed.names (F : Fixed Γ nt ops heads st0 S) : ∀ i, i ≤ heads.length → ∀ m sb, look (S i).H m = some sb → m < (S i).nm
  | 0, _, m, sb, h => by rw [F.s0] at h ⊢; exact F.nms m sb h
  | i + 1, hi, m, sb, h => by
    have ih := F.names i (by omega)
    rcases F.mem (i := i) (by omega) with ⟨h1, h3, -⟩ | ⟨sb', h1, h3, -⟩ | ⟨n, sb', sb0, h1, h3, -, -, h5⟩
    · rw [h1] at h; rw [h3]; exact ih m sb h
    · rw [h1] at h; rw [h3]
      by_cases e : (S i).nm = m
      · omega
      · rw [look_cons_ne _ _ e] at h
        have := ih m sb h; omega
    · rw [h1] at h; rw [h3]
      by_cases e : n = m
      · subst e; exact ih n sb0 h5
      · rw [look_cons_ne _ _ e] at h
        exact ih m sb h
theorem Fixed.wrs (F : Fixed Γ nt ops heads st0 S) {j : Nat} : ∀ {i : Nat}, j < i → i ≤ heads.length → ∀ {m : Nat} {sb : SB}, Wr S j m sb → (m, j) ∈ (S i).ws
  | 0, h, _, m, sb, _ => by omega
  | i + 1, h, hi, m, sb, hw => by
    rcases Nat.eq_or_lt_of_le (Nat.le_of_lt_succ h) with rfl | hlt
    · rcases F.mem (i := j) (by omega) with ⟨h1, -⟩ | ⟨sb', h1, -, h4⟩ | ⟨n, sb', sb0, h1, -, h4, -⟩
      · exact absurd hw (no_wr h1 m sb)
      · rw [h4, (hw.uniq h1).1]; exact List.mem_cons_self
      · rw [h4, (hw.uniq h1).1]; exact List.mem_cons_self
    · have ih := F.wrs hlt (by omega) hw
      rcases F.mem (i := i) (by omega) with ⟨-, -, h4⟩ | ⟨sb', -, -, h4⟩ | ⟨n, sb', sb0, -, -, h4, -⟩
      · rw [h4]; exact ih
      · rw [h4]; exact List.mem_cons_of_mem _ ih
      · rw [h4]; exact List.mem_cons_of_mem _ ih
theorem Fixed.rds (F : Fixed Γ nt ops heads st0 S) {i : Nat} : ∀ {j : Nat}, i ≤ j → j ≤ heads.length → ∀ {n : Nat}, n ∈ (S i).rd → n ∈ (S j).rd
  | 0, h, _, n, hn => by
    obtain rfl : i = 0 := by omega
    exact hn
  | j + 1, h, hj, n, hn => by
    rcases Nat.eq_or_lt_of_le h with rfl | h
    · exact hn
    · have ih := F.rds (i := i) (j := j) (by omega) (by omega) hn
      have h0 : heads[j]? = some heads[j] := List.getElem?_eq_getElem (by omega)
      obtain ⟨ob, h1, -⟩ := F.run j heads[j] h0
      obtain ⟨g, hg, hrg, h2⟩ := stepIn_facts h1
      rcases h2 with ⟨-, -, -, m, sb, -, -, -, -, e, -⟩ | ⟨r, R, e, -⟩
      · rw [e]; exact ih
      · rw [rdN_ok e]; exact List.mem_append.2 (.inr ih)
theorem ancB_ok {md : Array Oper} {n : Nat} {listed : Array Bool} (inv : HeadInv .any md n listed) : ∀ (k i j : Nat), ancB md.toList k i j = true → (∀ o, md[i]? = some o → ∀ e ∈ o.after, Region.binds .any e = true → listed.getD e.on false = true) → listed.getD j false = true
  | 0, i, j, h, _ => by cases h
  | k + 1, i, j, h, hw => by
    simp only [ancB] at h
    split at h
    · cases h
    · rename_i o ho
      have ho' : md[i]? = some o := by simpa using ho
      rcases Bool.or_eq_true_iff.1 h with h | h
      · obtain ⟨e, he, hb, hon⟩ := waitsOn_ok h
        rw [← hon]; exact hw o ho' e he hb
      · obtain ⟨e, he, hb⟩ := List.any_eq_true.1 h
        simp only [Bool.and_eq_true] at hb
        have hl := hw o ho' e (by simpa using he) hb.1
        exact ancB_ok inv k e.on j hb.2 fun o' ho'' e' he' hb' => inv.closed e.on o' ho'' hl e' he' hb'
theorem wsOk_ok {l : List Oper} {i n : Nat} : ∀ {ws : List (Nat × Nat)}, wsOk l i n ws = true → ∀ j, (n, j) ∈ ws → ancB l 4 i j = true
  | [], _, j, hj => by cases hj
  | (m, k) :: r, h, j, hj => by
    simp only [wsOk] at h
    split at h
    · split at h
      · rename_i ha
        rcases List.mem_cons.1 hj with e | hj
        · rw [(Prod.mk.inj e).2]; exact ha
        · exact wsOk_ok h j hj
      · cases h
    · rename_i hb
      rcases List.mem_cons.1 hj with e | hj
      · rw [(Prod.mk.inj e).1, Nat.beq_refl] at hb; cases hb
      · exact wsOk_ok h j hj
/-- Two operations that write one block: the later one waits for the earlier one. -/
theorem Fixed.order (F : Fixed Γ nt ops heads st0 S) {md : Array Oper} (hmd : md.toList = ops) {n : Nat} {listed : Array Bool} (inv : HeadInv .any md n listed) {i j m : Nat} {sb sb' : SB} (hij : i < j) (hj : j < heads.length) (h : Wr S i m sb) (h' : Wr S j m sb')
    (hw : ∀ o, md[j]? = some o → ∀ e ∈ o.after, Region.binds .any e = true → listed.getD e.on false = true) : listed.getD i false = true := by
  have hmem := F.wrs (i := j) hij (by omega) h
  rcases F.mem hj with ⟨h1, -⟩ | ⟨sb2, h1, -, -⟩ | ⟨m2, sb2, sb0, h1, -, -, h5, -⟩
  · exact absurd h' (no_wr h1 m sb')
  · exfalso
    have e := (h'.uniq h1).1
    have k1 : look (S (i + 1)).H m = some sb := by rw [h, look_cons_eq]
    have k2 := F.names (i + 1) (by omega) m sb k1
    have k3 := F.nm (i := i + 1) (j := j) (by omega) (by omega)
    omega
  · have e := (h'.uniq h1).1
    subst e
    rw [← hmd] at h5
    exact ancB_ok inv 4 j i (wsOk_ok h5 i hmem) hw
/-- Where what a name holds comes from. -/
theorem Fixed.heap (F : Fixed Γ nt ops heads st0 S) : ∀ i, i ≤ heads.length → ∀ m sb, look (S i).H m = some sb →
    (look st0.H m = some sb ∧ ∀ j sb', j < i → ¬ Wr S j m sb') ∨ ∃ j, j < i ∧ Wr S j m sb ∧ ∀ j' sb', j < j' → j' < i → ¬ Wr S j' m sb'
  | 0, _, m, sb, h => by rw [F.s0] at h; exact .inl ⟨h, fun j _ hj => by omega⟩
  | i + 1, hi, m, sb, h => by
    have keep : (∀ sb', ¬ Wr S i m sb') → look (S i).H m = some sb → (look st0.H m = some sb ∧ ∀ j sb', j < i + 1 → ¬ Wr S j m sb') ∨ ∃ j, j < i + 1 ∧ Wr S j m sb ∧ ∀ j' sb', j < j' → j' < i + 1 → ¬ Wr S j' m sb' := by
      intro hno hh
      rcases F.heap i (by omega) m sb hh with ⟨h1, h2⟩ | ⟨j, h1, h2, h3⟩
      · refine .inl ⟨h1, fun j sb' hj => ?_⟩
        rcases Nat.eq_or_lt_of_le (Nat.le_of_lt_succ hj) with rfl | hj
        · exact hno sb'
        · exact h2 j sb' hj
      · refine .inr ⟨j, by omega, h2, fun j' sb' hj hj' => ?_⟩
        rcases Nat.eq_or_lt_of_le (Nat.le_of_lt_succ hj') with rfl | hj'
        · exact hno sb'
        · exact h3 j' sb' hj hj'
    have wrote : ∀ n sb2, Wr S i n sb2 → (look st0.H m = some sb ∧ ∀ j sb', j < i + 1 → ¬ Wr S j m sb') ∨ ∃ j, j < i + 1 ∧ Wr S j m sb ∧ ∀ j' sb', j < j' → j' < i + 1 → ¬ Wr S j' m sb' := by
      intro n sb2 hw
      have h' := h
      rw [show (S (i + 1)).H = (n, sb2) :: (S i).H from hw] at h'
      by_cases e : n = m
      · subst e
        rw [look_cons_eq] at h'
        rw [Option.some.inj h'] at hw
        exact .inr ⟨i, by omega, hw, fun j' _ h1 h2 => by omega⟩
      · rw [look_cons_ne _ _ e] at h'
        exact keep (fun sb' hw' => e (hw.uniq hw').1) h'
    rcases F.mem (i := i) (by omega) with ⟨h1, -⟩ | ⟨sb2, h1, -⟩ | ⟨m2, sb2, sb0, h1, -⟩
    · rw [h1] at h
      exact keep (fun sb' => no_wr h1 m sb') h
    · exact wrote _ _ h1
    · exact wrote _ _ h1
end
end Go.Proofs.YtggcfjeehpcclaaDoor
