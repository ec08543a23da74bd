/- A symbolic executor with lists, 6: names and memory change; contracts are used. -/
import Derived.Test.YtcojfohjdibjjaaGreatDoorG4
namespace Go.Proofs.YtcojfohjdibjjaaGreatDoor
open Go.RowKit

section
variable {PP : Program} {C : Cx PP} {op : OpF} {a : Act} {ρ : Names} {W W' : World} {H : Heap} {nm : Nat}

/-! ### New names -/
def Names.addn (ρ : Names) (n m : Nat) : Names := ⟨fun i => if i = n then some m else ρ.n i, ρ.v, ρ.k, ρ.z, ρ.d, ρ.o⟩
def Names.addv (ρ : Names) (e : Nat) (l : LV) : Names := ⟨ρ.n, fun i => if i = e then some l else ρ.v i, ρ.k, ρ.z, ρ.d, ρ.o⟩
def Names.addz (ρ : Names) (z : Nat → Nat → Value → Prop) : Names := ⟨ρ.n, ρ.v, ρ.k, fun b i c => ρ.z b i c ∨ z b i c, ρ.d, ρ.o⟩
theorem Names.le_addn {n m : Nat} (h : ρ.n n = none) : ρ.le (ρ.addn n m) := by
  refine ⟨fun i b hb => ?_, fun _ _ h => h, fun _ _ _ h => h, fun _ _ _ h => h⟩
  show (if i = n then some m else ρ.n i) = some b
  rw [if_neg]
  · exact hb
  · rintro rfl; rw [h] at hb; cases hb
theorem Names.le_addv {e : Nat} {l : LV} (h : ρ.v e = none) : ρ.le (ρ.addv e l) := by
  refine ⟨fun _ _ h => h, fun i b hb => ?_, fun _ _ _ h => h, fun _ _ _ h => h⟩
  show (if i = e then some l else ρ.v i) = some b
  rw [if_neg]
  · exact hb
  · rintro rfl; rw [h] at hb; cases hb
theorem Names.le_addz {z : Nat → Nat → Value → Prop} : ρ.le (ρ.addz z) := ⟨fun _ _ h => h, fun _ _ h => h, fun _ _ _ h => h, fun _ _ _ h => .inl h⟩
theorem Names.addn_self {n m : Nat} : (ρ.addn n m).n n = some m := by simp [Names.addn]
theorem Names.addv_self {e : Nat} {l : LV} : (ρ.addv e l).v e = some l := by simp [Names.addv]
theorem owns_addn {n m k b : Nat} (h : Owns (ρ.addn n m) k b) : Owns ρ k b ∨ (k = n ∧ b = m) := by
  rcases h with h | ⟨e, l, o, h1, h2, h3, h4⟩ | h
  · by_cases hk : k = n
    · subst hk
      rw [Names.addn_self] at h
      exact .inr ⟨rfl, (Option.some.inj h).symm⟩
    · simp only [Names.addn, if_neg hk] at h
      exact .inl (.inl h)
  · exact .inl (.inr (.inl ⟨e, l, o, h1, h2, h3, h4⟩))
  · exact .inl (.inr (.inr h))
theorem owns_addv {e k b : Nat} {l : LV} (h : Owns (ρ.addv e l) k b) : Owns ρ k b ∨ (k = l.o ∧ l.cap ≠ 0 ∧ ∃ o, l.a = some ⟨b, o, none⟩) := by
  rcases h with h | ⟨e', l', o, h1, h2, h3, h4⟩ | h
  · exact .inl (.inl h)
  · by_cases he : e' = e
    · subst he
      rw [Names.addv_self] at h1
      obtain rfl := Option.some.inj h1
      exact .inr ⟨h2.symm, h3, o, h4⟩
    · simp only [Names.addv, if_neg he] at h1
      exact .inl (.inr (.inl ⟨e', l', o, h1, h2, h3, h4⟩))
  · exact .inl (.inr (.inr h))

/-- The block m is new. -/
theorem eff_addn {m : Nat} (hb : HB C ρ W) (hf : ρ.n nm = none) (g : Gr W W') (hm : W.heap.size ≤ m) (hm' : m < W'.heap.size) : Eff C ρ W nm (some nm) true (ρ.addn nm m) W' := by
  refine ⟨Names.le_addn hf, fun n b h => ?_, fun _ _ h => .inl h, fun _ _ _ h => .inl h, fun _ _ => rfl, g.os, g.tape, g.output, g.size, fun b hb _ => Below.block g b hb, ?_⟩
  · by_cases hn : n = nm
    · subst hn
      rw [Names.addn_self] at h
      obtain rfl := Option.some.inj h
      exact .inr ⟨rfl, rfl, rfl, hm⟩
    · simp only [Names.addn, if_neg hn] at h
      exact .inl h
  · have h' := hb.gr g
    refine ⟨fun n n' b h1 h2 => ?_, fun n b h => ?_, h'.zok, h'.grd⟩
    · rcases owns_addn h1 with h1 | ⟨h1, k1⟩ <;> rcases owns_addn h2 with h2 | ⟨h2, k2⟩
      · exact hb.own n n' b h1 h2
      · have := (hb.low n b h1).2; omega
      · have := (hb.low n' b h2).2; omega
      · omega
    · rcases owns_addn h with h | ⟨rfl, rfl⟩
      · exact h'.low n b h
      · exact ⟨Nat.le_trans hb.grd.1 hm, hm'⟩
/-- A list whose block is new, or that has none. -/
theorem eff_addv {l : LV} (hb : HB C ρ W) (hf : ρ.v nm = none) (g : Gr W W') (hm : l.cap ≠ 0 → ∀ b o, l.a = some ⟨b, o, none⟩ → W.heap.size ≤ b ∧ b < W'.heap.size) : Eff C ρ W nm (some l.o) true (ρ.addv nm l) W' := by
  refine ⟨Names.le_addv hf, fun _ _ h => .inl h, fun e l' h => ?_, fun _ _ _ h => .inl h, fun _ _ => rfl, g.os, g.tape, g.output, g.size, fun b hb _ => Below.block g b hb, ?_⟩
  · by_cases hn : e = nm
    · subst hn
      rw [Names.addv_self] at h
      obtain rfl := Option.some.inj h
      exact .inr ⟨rfl, rfl, rfl, fun b o h1 h2 => .inr (hm h2 b o h1).1⟩
    · simp only [Names.addv, if_neg hn] at h
      exact .inl h
  · have h' := hb.gr g
    refine ⟨fun n n' b h1 h2 => ?_, fun n b h => ?_, h'.zok, h'.grd⟩
    · rcases owns_addv h1 with h1 | ⟨rfl, h1, o, h3⟩ <;> rcases owns_addv h2 with h2 | ⟨rfl, h2, o', h4⟩
      · exact hb.own n n' b h1 h2
      · have := (hb.low n b h1).2; have := (hm h2 b o' h4).1; omega
      · have := (hb.low n' b h2).2; have := (hm h1 b o h3).1; omega
      · rfl
    · rcases owns_addv h with h | ⟨rfl, h1, o, h3⟩
      · exact h'.low n b h
      · exact ⟨Nat.le_trans hb.grd.1 (hm h1 b o h3).1, (hm h1 b o h3).2⟩
theorem setRow_other' {w : World} {g b : Nat} {cs : Array Value} (h : b ≠ g) : (w.setRow g cs).heap[b]? = w.heap[b]? := by
  simp [World.setRow, Array.getElem?_modify, Ne.symm h]
theorem setRow_size {w : World} {g : Nat} {cs : Array Value} : (w.setRow g cs).heap.size = w.heap.size := by simp [World.setRow]
theorem HB.row {n b : Nat} {cs : Array Value} (hb : HB C ρ W) (ho : Owns ρ n b) (hz : ∀ i c, ¬ ρ.z b i c) : HB C ρ (W.setRow b cs) := by
  have hl := hb.low n b ho
  refine ⟨hb.own, fun n b h => by rw [setRow_size]; exact hb.low n b h, fun b' i c h => ?_, hb.grd.keep (Nat.le_of_eq setRow_size.symm) fun b' hb' => setRow_other' (by omega)⟩
  have hne : b' ≠ b := by rintro rfl; exact hz i c h
  exact ⟨(cell_of_heap (setRow_other' hne)).trans (hb.zok b' i c h).1, zc_heap (setRow_other' hne) (hb.zok b' i c h).2⟩
/-- A block of one's own is written. -/
theorem eff_row {n b : Nat} {cs : Array Value} (hb : HB C ρ W) (ho : Owns ρ n b) (hz : ∀ i c, ¬ ρ.z b i c) : Eff C ρ W nm (some n) false ρ (W.setRow b cs) :=
  ⟨.refl _, fun _ _ h => .inl h, fun _ _ h => .inl h, fun _ _ _ h => .inl h, fun _ _ => rfl, rfl, rfl, rfl, Nat.le_of_eq setRow_size.symm, fun b' _ hn => setRow_other' (by rintro rfl; exact hn n rfl ho), hb.row ho hz⟩
/-- .. and its list gets a new age. -/
theorem eff_rowv {l : LV} {b o : Nat} {cs : Array Value} (hb : HB C ρ W) (hf : ρ.v nm = none) (ho : Owns ρ l.o b) (hz : ∀ i c, ¬ ρ.z b i c) (hl : l.a = some ⟨b, o, none⟩) : Eff C ρ W nm (some l.o) true (ρ.addv nm l) (W.setRow b cs) := by
  have e := eff_row (nm := nm) (cs := cs) hb ho hz
  refine ⟨Names.le_addv hf, fun _ _ h => .inl h, fun e l' h => ?_, fun _ _ _ h => .inl h, fun _ _ => rfl, e.os, e.tape, e.output, e.size, e.block, ?_⟩
  · by_cases hn : e = nm
    · subst hn
      rw [Names.addv_self] at h
      obtain rfl := Option.some.inj h
      refine .inr ⟨rfl, rfl, rfl, fun b' o' h1 h2 => ?_⟩
      rw [hl] at h1
      injection h1 with h1
      injection h1 with h1
      rw [← h1]; exact .inl ho
    · simp only [Names.addv, if_neg hn] at h
      exact .inl h
  · have key : ∀ k c, Owns (ρ.addv nm l) k c → Owns ρ k c := fun k c h => by
      rcases owns_addv h with h | ⟨rfl, h1, o', h3⟩
      · exact h
      · rw [hl] at h3
        injection h3 with h3
        injection h3 with h3
        rw [← h3]; exact ho
    have h' := hb.row (cs := cs) ho hz
    exact ⟨fun n n' b h1 h2 => h'.own n n' b (key _ _ h1) (key _ _ h2), fun n b h => h'.low n b (key _ _ h), h'.zok, h'.grd⟩
/-- A list of one's own that stays where it is gets a new age. -/
theorem eff_samev {l : LV} (hb : HB C ρ W) (hf : ρ.v nm = none) (ho : l.cap ≠ 0 → ∀ b o, l.a = some ⟨b, o, none⟩ → Owns ρ l.o b) : Eff C ρ W nm (some l.o) true (ρ.addv nm l) W := by
  refine ⟨Names.le_addv hf, fun _ _ h => .inl h, fun e l' h => ?_, fun _ _ _ h => .inl h, fun _ _ => rfl, rfl, rfl, rfl, Nat.le_refl _, fun _ _ _ => rfl, ?_⟩
  · by_cases hn : e = nm
    · subst hn
      rw [Names.addv_self] at h
      obtain rfl := Option.some.inj h
      exact .inr ⟨rfl, rfl, rfl, fun b' o' h1 h2 => .inl (ho h2 b' o' h1)⟩
    · simp only [Names.addv, if_neg hn] at h
      exact .inl h
  · have key : ∀ k c, Owns (ρ.addv nm l) k c → Owns ρ k c := fun k c h => by
      rcases owns_addv h with h | ⟨rfl, h1, o', h3⟩
      · exact h
      · exact ho h1 c o' h3
    exact ⟨fun n n' b h1 h2 => hb.own n n' b (key _ _ h1) (key _ _ h2), fun n b h => hb.low n b (key _ _ h), hb.zok, hb.grd⟩

theorem cont_new_lay {m : Nat} {l : List SV} {cs : List Value} {t : TypeId} (hb : HB C ρ W) (hf : ρ.n nm = none) (hm : W.heap.size ≤ m) (hd : denL ρ l cs) (h1 : ∀ c ∈ cs, c.oneCell' = true) (hbl : Blk W' m cs.toArray t) : Cont (ρ.addn nm m) W' nm (.lay l t) :=
  ⟨m, cs, Names.addn_self, denL_le (Names.le_addn hf) _ _ hd, hbl, h1, fun i c hz => by
    have := cell_lt (hb.zok m i c hz).1; omega⟩
/-- A new block, laid out. -/
theorem post_lay {l : List SV} {cs : List Value} {t : TypeId} {v : SV} {y : Value} (hb : HB C ρ W) (hf : ρ.n nm = none) (hd : denL ρ l cs) (h1 : ∀ c ∈ cs, c.oneCell' = true) (hy : den (ρ.addn nm W.heap.size) v y) :
    DPost C ρ W nm ⟨none, v, some (nm, .lay l t), true⟩ y (W.alloc (.cells cs.toArray t)) := by
  have g : Gr W (W.alloc (.cells cs.toArray t)) := (Gr.refl W).alloc _
  refine ⟨ρ.addn nm W.heap.size, eff_addn hb hf g (Nat.le_refl _) (by simp), fun n sb h => ?_, hy⟩
  obtain ⟨rfl, rfl⟩ := Prod.mk.inj (Option.some.inj h)
  exact cont_new_lay hb hf (Nat.le_refl _) hd h1 (Blk.new rfl)

/-! ### What is handed to a contract -/
mutual
theorem pure_den : ∀ (x : SV) (v : Value), pureS x = true → den ρ x v → den ρ.zo x v
  | .v _, _, _, h => h
  | .il _ _, _, _, h => h
  | .bl _, _, _, h => h
  | .f fn x y, v, hp, ⟨u, w, h1, h2, h3⟩ => by
    simp only [pureS] at hp
    split at hp
    · rename_i hx; exact ⟨u, w, pureL_den x u hx h1, pureL_den y w hp h2, h3⟩
    · cases hp
  | .agg l, v, hp, ⟨u, h1, h2⟩ => ⟨u, pureL_den l u hp h1, h2⟩
  | .tup l, v, hp, ⟨u, h1, h2⟩ => ⟨u, pureL_den l u hp h1, h2⟩
  | .e, _, _, h => h
  | .rs _ _ _, _, _, h => h
  | .rp _ _, _, _, h => h
theorem pureL_den : ∀ (x : List SV) (v : List Value), pureL x = true → denL ρ x v → denL ρ.zo x v
  | [], _, _, h => h
  | x :: r, v, hp, ⟨u, w, h1, h2, h3⟩ => by
    simp only [pureL] at hp
    split at hp
    · rename_i hx; exact ⟨u, w, h1, pure_den x u hx h2, pureL_den r w hp h3⟩
    · cases hp
end
mutual
theorem flat_den {ρ' : Names} : ∀ (x : SV) (v : Value), flatS x = true → den ρ x v → den ρ' x v
  | .v _, _, _, h => h
  | .il _ _, _, _, h => h
  | .bl _, _, _, h => h
  | .f fn x y, v, hp, ⟨u, w, h1, h2, h3⟩ => by
    simp only [flatS] at hp
    split at hp
    · rename_i hx; exact ⟨u, w, flatL_den x u hx h1, flatL_den y w hp h2, h3⟩
    · cases hp
  | .agg l, v, hp, ⟨u, h1, h2⟩ => ⟨u, flatL_den l u hp h1, h2⟩
  | .tup l, v, hp, ⟨u, h1, h2⟩ => ⟨u, flatL_den l u hp h1, h2⟩
  | .e, _, _, h => h
theorem flatL_den {ρ' : Names} : ∀ (x : List SV) (v : List Value), flatL x = true → denL ρ x v → denL ρ' x v
  | [], _, _, h => h
  | x :: r, v, hp, ⟨u, w, h1, h2, h3⟩ => by
    simp only [flatL] at hp
    split at hp
    · rename_i hx; exact ⟨u, w, h1, flat_den x u hx h2, flatL_den r w hp h3⟩
    · cases hp
end
/-- All memory as it is. -/
def zW (W : World) : Names := onlyZ fun b i c => W.cell? ⟨b, i, none⟩ = some c ∧ c.oneCell' = true ∧ plainB W b
/-- .. so far as it never changes, or is one's own. -/
def zR (ρ : Names) (W : World) : Names := onlyZ fun b i c => W.cell? ⟨b, i, none⟩ = some c ∧ (c.oneCell' = true ∧ plainB W b) ∧ (ρ.z b i c ∨ ∃ n, Owns ρ n b)
theorem zo_zR (hb : HB C ρ W) : ρ.zo.le (zR ρ W) := ⟨fun _ _ h => (by cases h), fun _ _ h => (by cases h), fun _ _ _ h => (by cases h), fun b i c h => ⟨(hb.zok b i c h).1, (hb.zok b i c h).2, .inl h⟩⟩
theorem zR_zW : (zR ρ W).le (zW W) := ⟨fun _ _ h => (by cases h), fun _ _ h => (by cases h), fun _ _ _ h => (by cases h), fun b i c h => ⟨h.1, h.2.1⟩⟩
theorem chunk_den {l : List SV} {vs : List Value} (sz i : Nat) (h : denL ρ l vs) : denL ρ (chunk l sz i) ((vs.drop (i * sz)).take sz) := denL_take _ (denL_drop _ h)
/-- The elements of a slice of a list of one's own. -/
theorem lst_elems {m e sz N off n : Nat} {h : Nat → List SV} {t : TypeId} (hH : HOk C H ρ W) (hk : look H m = some (.lst e sz N h t)) {v : Value} (hd : den ρ (.g m e sz off n) v) :
    ∃ a' cap, v = .slice a' n cap ∧ n ≤ cap ∧ ∀ i, i < n → ∃ b o us, a' = some ⟨b, o, none⟩ ∧ denL ρ.zo (h (off + i)) us ∧ us.length = sz ∧ (∀ (k : Nat) (c : Value), us[k]? = some c → W.cell? ⟨b, o + i * sz + k, none⟩ = some c ∧ c.oneCell' = true ∧ plainB W b) ∧ Owns ρ m b := by
  obtain ⟨l, h1, ho, h2, h3, a', rfl, h5⟩ := hd
  refine ⟨a', l.cap - off, rfl, by omega, fun i hi => ?_⟩
  obtain ⟨b, k1, rfl⟩ := h5 (by omega)
  obtain ⟨b', us, e1, e2, e3, e4, e5⟩ := lst_at (off := 0) (i := off + i) hH hk ⟨l, b, h1, ho, by omega, h3, k1, rfl⟩
  obtain rfl : b = b' := by injection e1 with e1; injection e1 with e1; injection e1
  refine ⟨b, off * sz, us, rfl, e2, e3, fun k c hc => ?_, e5⟩
  rw [← Nat.add_mul]
  exact e4 k c hc
/-- The elements of a slice of a list of lists. -/
theorem nst_elems {m e sz N p szk off n : Nat} {h : Nat → List SV} {g : Nat → Nat × (Nat → List SV)} {tk t : TypeId} (hH : HOk C H ρ W) (hk : look H m = some (.nst e sz N h p szk g tk t none)) {v : Value} (hd : den ρ (.g m e sz off n) v) :
    ∃ a' cap, v = .slice a' n cap ∧ n ≤ cap ∧ ∀ i, i < n → ∃ b o us q, a' = some ⟨b, o, none⟩ ∧ ρ.k m (off + i) = some q ∧ q.N = (g (off + i)).1 ∧ ListC ρ W q szk (g (off + i)).2 tk ∧ denL ρ.zo ((h (off + i)).set p (.v (.slice q.a q.N q.cap))) us ∧ us.length = sz ∧ (∀ (k : Nat) (c : Value), us[k]? = some c → W.cell? ⟨b, o + i * sz + k, none⟩ = some c ∧ c.oneCell' = true ∧ plainB W b) ∧ Owns ρ m b := by
  obtain ⟨l, h1, ho, h2, h3, a', rfl, h5⟩ := hd
  refine ⟨a', l.cap - off, rfl, by omega, fun i hi => ?_⟩
  obtain ⟨b, k1, rfl⟩ := h5 (by omega)
  obtain ⟨b', us, q, e1, f1, f2, f3, e2, e3, e4, e5⟩ := nst_at (off := 0) (i := off + i) hH hk ⟨l, b, h1, ho, by omega, h3, k1, rfl⟩
  obtain rfl : b = b' := by injection e1 with e1; injection e1 with e1; injection e1
  refine ⟨b, off * sz, us, q, rfl, f1, f2, f3, e2, e3, fun k c hc => ?_, e5⟩
  rw [← Nat.add_mul]
  exact e4 k c hc
/-- The elements of a slice of an element's list. -/
theorem kid_elems {m e sz N p szk i off n : Nat} {h : Nat → List SV} {g : Nat → Nat × (Nat → List SV)} {tk t : TypeId} (hH : HOk C H ρ W) (hk : look H m = some (.nst e sz N h p szk g tk t none)) {v : Value} (hd : den ρ (.kd m i szk off n) v) :
    ∃ a' cap, v = .slice a' n cap ∧ n ≤ cap ∧ ∀ j, j < n → ∃ b o us, a' = some ⟨b, o, none⟩ ∧ denL ρ.zo ((g i).2 (off + j)) us ∧ us.length = szk ∧ (∀ (k : Nat) (c : Value), us[k]? = some c → W.cell? ⟨b, o + j * szk + k, none⟩ = some c ∧ c.oneCell' = true ∧ plainB W b) ∧ Owns ρ m b := by
  obtain ⟨l, h1, h2, h3, a', rfl, h5⟩ := hd
  refine ⟨a', l.cap - off, rfl, by omega, fun j hj => ?_⟩
  obtain ⟨b, k1, rfl⟩ := h5 (by omega)
  obtain ⟨b', us, e1, f1, f2, e2, e3, e4, e5⟩ := kid_at (off := 0) (j := off + j) hH hk ⟨l, b, h1, by omega, h3, k1, rfl⟩
  obtain rfl : b = b' := by injection e1 with e1; injection e1 with e1; injection e1
  refine ⟨b, off * szk, us, rfl, e2, e3, fun k c hc => ?_, e5⟩
  rw [← Nat.add_mul]
  exact e4 k c hc
/-- The list of an element, in memory Z where all is that is one's own. -/
theorem kid_Z {Z : Nat → Nat → Value → Prop} {m i szk n : Nat} {q : LV} {f f' : Nat → List SV} {tk : TypeId} (h1 : ρ.k m i = some q) (h2 : q.N = n) (h3 : ListC ρ W q szk f tk)
    (hZ : ∀ b i c, W.cell? ⟨b, i, none⟩ = some c → (c.oneCell' = true ∧ plainB W b) → Owns ρ m b → Z b i c) (hf : ∀ j, j < n → ∀ us, denL ρ.zo (f j) us → denL (onlyZ Z) (f' j) us) : den (onlyZ Z) (.rs szk n f') (.slice q.a q.N q.cap) := by
  obtain ⟨h3, h4⟩ := h3
  refine ⟨q.a, q.cap, by rw [h2], by omega, fun j hj => ?_⟩
  obtain ⟨b, u, k1, k2, k3, k4, k5, k6⟩ := h4 (by omega)
  obtain ⟨us, p1, p2, p3⟩ := k6 j (by omega)
  refine ⟨b, 0, us, k1, hf j hj us p1, p2, fun k c hc => ?_⟩
  have := p3 k c hc
  rw [Nat.zero_add]
  exact hZ b _ c (by rw [k2.cell]; simpa using this) (zc_blk k2 (k4 c (List.mem_of_getElem? this))) (.inr (.inr ⟨i, q, 0, h1, by omega, k1⟩))
/-- .. of a list that one owns. -/
theorem own_Z {Z : Nat → Nat → Value → Prop} {m szk n : Nat} {q : LV} {f f' : Nat → List SV} {tk : TypeId} (h1 : ∀ b, q.cap ≠ 0 → q.a = some ⟨b, 0, none⟩ → Owns ρ m b) (h2 : q.N = n) (h3 : ListC ρ W q szk f tk)
    (hZ : ∀ b i c, W.cell? ⟨b, i, none⟩ = some c → (c.oneCell' = true ∧ plainB W b) → Owns ρ m b → Z b i c) (hf : ∀ j, j < n → ∀ us, denL ρ.zo (f j) us → denL (onlyZ Z) (f' j) us) : den (onlyZ Z) (.rs szk n f') (.slice q.a q.N q.cap) := by
  obtain ⟨h3, h4⟩ := h3
  refine ⟨q.a, q.cap, by rw [h2], by omega, fun j hj => ?_⟩
  obtain ⟨b, u, k1, k2, k3, k4, k5, k6⟩ := h4 (by omega)
  obtain ⟨us, p1, p2, p3⟩ := k6 j (by omega)
  refine ⟨b, 0, us, k1, hf j hj us p1, p2, fun k c hc => ?_⟩
  have := p3 k c hc
  rw [Nat.zero_add]
  exact hZ b _ c (by rw [k2.cell]; simpa using this) (zc_blk k2 (k4 c (List.mem_of_getElem? this))) (h1 b (by omega) k1)
/-- The elements of a slice of a list of lists one of which is another one. -/
theorem alt_elems {m e sz N p szk off n a em n' : Nat} {h : Nat → List SV} {g : Nat → Nat × (Nat → List SV)} {tk t : TypeId} {f' : Nat → List SV} (hH : HOk C H ρ W) (hk : look H m = some (.alt e sz N h p szk g tk t a em n' f' true)) {v : Value} (hd : den ρ (.g m e sz off n) v) :
    ∃ a' cap, v = .slice a' n cap ∧ n ≤ cap ∧ ∀ i, i < n → ∃ b o us q, a' = some ⟨b, o, none⟩ ∧ (∀ b, q.cap ≠ 0 → q.a = some ⟨b, 0, none⟩ → Owns ρ m b) ∧ q.N = (altG a n' f' g (off + i)).1 ∧ ListC ρ W q szk (altG a n' f' g (off + i)).2 tk ∧ denL ρ.zo ((h (off + i)).set p (.v (.slice q.a q.N q.cap))) us ∧ us.length = sz ∧ (∀ (k : Nat) (c : Value), us[k]? = some c → W.cell? ⟨b, o + i * sz + k, none⟩ = some c ∧ c.oneCell' = true ∧ plainB W b) ∧ Owns ρ m b := by
  obtain ⟨l, h1, ho, h2, h3, a', rfl, h5⟩ := hd
  obtain ⟨l0, l', K⟩ := hH.blk m _ hk
  have k1 := K.hv
  rw [h1] at k1
  obtain rfl := Option.some.inj k1
  have hN : l.N = N := K.hN
  refine ⟨a', l.cap - off, rfl, by omega, fun i hi => ?_⟩
  obtain ⟨b, k1, rfl⟩ := h5 (by omega)
  obtain ⟨b', u, q1, q2, q3, q4, q5, q6, q7, q8⟩ := K.row (by omega)
  rw [k1] at q1
  obtain rfl : b = b' := by injection q1 with q1; injection q1
  obtain ⟨q, us, p0, p1, p2, p3⟩ := q6 (off + i) (by omega)
  have hcell : ∀ (k : Nat) (c : Value), us[k]? = some c → W.cell? ⟨b, off * sz + i * sz + k, none⟩ = some c ∧ c.oneCell' = true ∧ plainB W b := fun k c hc => by
    have := p3 k c hc
    rw [← Nat.add_mul]
    exact ⟨by rw [q2.cell]; simpa using this, zc_blk q2 (q4 c (List.mem_of_getElem? this))⟩
  have hown : Owns ρ m b := .inr (.inl ⟨e, l, 0, h1, ho, by omega, k1⟩)
  by_cases e0 : off + i = a
  · refine ⟨b, off * sz, us, l', rfl, fun b h1 h2 => .inr (.inl ⟨em, l', 0, K.hv', K.ho', h1, h2⟩), ?_, ?_, ?_, p2, hcell, hown⟩
    · rw [show altG a n' f' g (off + i) = (n', f') by unfold altG; rw [e0, Nat.beq_refl]]; exact K.hN'
    · rw [show altG a n' f' g (off + i) = (n', f') by unfold altG; rw [e0, Nat.beq_refl]]; exact K.new
    · unfold altS at p1; rw [if_pos ⟨rfl, e0⟩] at p1; exact p1
  · have hb : Nat.beq (off + i) a = false := by
      cases hb : Nat.beq (off + i) a with
      | false => rfl
      | true => exact absurd (Nat.eq_of_beq_eq_true hb) e0
    obtain ⟨q', r0, r1, r2⟩ := K.kid (off + i) (by omega) e0
    rw [p0] at r0
    obtain rfl := Option.some.inj r0
    refine ⟨b, off * sz, us, q, rfl, fun b h1 h2 => .inr (.inr ⟨_, q, 0, p0, h1, h2⟩), ?_, ?_, ?_, p2, hcell, hown⟩
    · rw [show altG a n' f' g (off + i) = g (off + i) by unfold altG; rw [hb]]; exact r1
    · rw [show altG a n' f' g (off + i) = g (off + i) by unfold altG; rw [hb]]; exact r2
    · unfold altS at p1; rw [if_neg (fun c => e0 c.2)] at p1; exact p1
theorem nstR_Z {Z : Nat → Nat → Value → Prop} {m p szk i : Nat} {q : LV} {h : Nat → List SV} {g : Nat → Nat × (Nat → List SV)} {tk : TypeId} {us : List Value} (h1 : ρ.k m i = some q) (h2 : q.N = (g i).1) (h3 : ListC ρ W q szk (g i).2 tk)
    (hZ : ∀ b i c, W.cell? ⟨b, i, none⟩ = some c → (c.oneCell' = true ∧ plainB W b) → Owns ρ m b → Z b i c) (hle : ρ.zo.le (onlyZ Z)) (hd : denL ρ.zo ((h i).set p (.v (.slice q.a q.N q.cap))) us) : denL (onlyZ Z) (nstR h p szk g i) us :=
  denL_swap (p := 0) (fun v hv => by obtain rfl : v = _ := hv; exact kid_Z h1 h2 h3 hZ fun j _ us hu => denL_le hle _ _ hu) (denL_le hle _ _ hd)
mutual
theorem fzS_ok {rec : List SV → Option (List SV)} (hH : HOk C H ρ W) (hrec : ∀ l l' vs, rec l = some l' → denL ρ l vs → denL (zR ρ W) l' vs) : ∀ (x x' : SV) (v : Value), fzS rec H x = some x' → den ρ x v → den (zR ρ W) x' v
  | .v _, _, _, hx, h => by obtain rfl := Option.some.inj hx; exact h
  | .il _ _, _, _, hx, h => by obtain rfl := Option.some.inj hx; exact h
  | .bl _, _, _, hx, h => by obtain rfl := Option.some.inj hx; exact h
  | .e, _, _, hx, h => by obtain rfl := Option.some.inj hx; exact h
  | .rs sz n f, _, v, hx, h => by obtain rfl := Option.some.inj hx; exact den_le (zo_zR hH.hb) _ _ (pure_den _ _ rfl h)
  | .rp x off, _, v, hx, h => by obtain rfl := Option.some.inj hx; exact den_le (zo_zR hH.hb) _ _ (pure_den _ _ rfl h)
  | .p n off, x', v, hx, h => by
    simp only [fzS] at hx
    split at hx
    · rename_i cs t hl
      split at hx
      · rename_i l hr
        obtain rfl := Option.some.inj hx
        obtain ⟨b, e1, e2⟩ := h
        obtain ⟨b', vs, k1, k2, k3, k4, k5⟩ := hH.blk n _ hl
        rw [e1] at k1
        obtain rfl := Option.some.inj k1
        refine ⟨b, 0, vs, by rw [Nat.zero_add]; exact e2, hrec _ _ _ hr k2, fun k c hc => ⟨?_, zc_blk k3 (k4 c (List.mem_of_getElem? hc)), .inr ⟨n, .inl e1⟩⟩⟩
        rw [Nat.zero_add, k3.cell]; simpa using hc
      · cases hx
    · cases hx
  | .s n sz off len cap, x', v, hx, h => by
    simp only [fzS] at hx
    split at hx
    · rename_i cs t hl
      split at hx
      · rename_i l hr
        split at hx
        · rename_i b1 b2
          have b1 := Nat.le_of_ble_eq_true b1
          have b2 := Nat.le_of_ble_eq_true b2
          obtain rfl := Option.some.inj hx
          obtain ⟨b, e1, e2⟩ := h
          obtain ⟨b', vs, k1, k2, k3, k4, k5⟩ := hH.blk n _ hl
          rw [e1] at k1
          obtain rfl := Option.some.inj k1
          have hd := hrec _ _ _ hr k2
          have hlen := denL_length hd
          refine ⟨_, _, e2, b2, fun i hi => ⟨b, off, _, rfl, chunk_den sz i (denL_drop off hd), ?_, fun k c hc => ?_⟩⟩
          · have : i * sz + sz ≤ len * sz := by rw [← Nat.succ_mul]; exact Nat.mul_le_mul_right _ hi
            simp only [List.length_take, List.length_drop]
            omega
          · rw [List.getElem?_take] at hc
            split at hc
            · rw [List.getElem?_drop, List.getElem?_drop] at hc
              refine ⟨?_, zc_blk k3 (k4 c (List.mem_of_getElem? hc)), .inr ⟨n, .inl e1⟩⟩
              rw [k3.cell]
              simpa [Nat.add_assoc] using hc
            · cases hc
        · cases hx
      · cases hx
    · cases hx
  | .g m e sz off n, x', v, hx, h => by
    simp only [fzS] at hx
    split at hx
    · rename_i e' sz' N hh t hl
      split at hx
      · rename_i b1 b2
        have b1 := Nat.eq_of_beq_eq_true b1
        have b2 := Nat.eq_of_beq_eq_true b2
        subst b1 b2
        obtain rfl := Option.some.inj hx
        obtain ⟨a', cap, e1, e2, e3⟩ := lst_elems hH hl h
        exact ⟨a', cap, e1, e2, fun i hi => let ⟨b, o, us, k1, k2, k3, k4, k5⟩ := e3 i hi; ⟨b, o, us, k1, denL_le (zo_zR hH.hb) _ _ k2, k3, fun k c hc => ⟨(k4 k c hc).1, (k4 k c hc).2, .inr ⟨_, k5⟩⟩⟩⟩
      · cases hx
    · rename_i e' sz' N hh p szk g tk t hl
      split at hx
      · rename_i b1 b2
        have b1 := Nat.eq_of_beq_eq_true b1
        have b2 := Nat.eq_of_beq_eq_true b2
        subst b1 b2
        obtain rfl := Option.some.inj hx
        obtain ⟨a', cap, e1, e2, e3⟩ := nst_elems hH hl h
        exact ⟨a', cap, e1, e2, fun i hi => let ⟨b, o, us, q, k1, f1, f2, f3, k2, k3, k4, k5⟩ := e3 i hi; ⟨b, o, us, k1, nstR_Z f1 f2 f3 (fun b i c h1 h2 h3 => ⟨h1, h2, .inr ⟨_, h3⟩⟩) (zo_zR hH.hb) k2, k3, fun k c hc => ⟨(k4 k c hc).1, (k4 k c hc).2, .inr ⟨_, k5⟩⟩⟩⟩
      · cases hx
    · rename_i e' sz' N hh p szk g tk t a em n' f' hl
      split at hx
      · rename_i b1 b2
        have b1 := Nat.eq_of_beq_eq_true b1
        have b2 := Nat.eq_of_beq_eq_true b2
        subst b1 b2
        obtain rfl := Option.some.inj hx
        obtain ⟨a', cap, e1, e2, e3⟩ := alt_elems hH hl h
        exact ⟨a', cap, e1, e2, fun i hi => let ⟨b, o, us, q, k1, f1, f2, f3, k2, k3, k4, k5⟩ := e3 i hi; ⟨b, o, us, k1, denL_swap (p := 0) (fun v hv => by obtain rfl : v = _ := hv; exact own_Z f1 f2 f3 (fun b i c h1 h2 h3 => ⟨h1, h2, .inr ⟨_, h3⟩⟩) fun j _ us hu => denL_le (zo_zR hH.hb) _ _ hu) (denL_le (zo_zR hH.hb) _ _ k2), k3, fun k c hc => ⟨(k4 k c hc).1, (k4 k c hc).2, .inr ⟨_, k5⟩⟩⟩⟩
      · cases hx
    · cases hx
  | .gp m e sz i off, x', v, hx, h => by
    simp only [fzS] at hx
    split at hx
    · rename_i e' sz' N hh t hl
      split at hx
      · rename_i b1 b2
        have b1 := Nat.eq_of_beq_eq_true b1
        have b2 := Nat.eq_of_beq_eq_true b2
        subst b1 b2
        obtain rfl := Option.some.inj hx
        obtain ⟨b, us, e1, e2, e3, e4, e5⟩ := lst_at hH hl h
        exact ⟨b, i * sz, us, e1, denL_le (zo_zR hH.hb) _ _ e2, fun k c hc => ⟨(e4 k c hc).1, (e4 k c hc).2, .inr ⟨_, e5⟩⟩⟩
      · cases hx
    · rename_i e' sz' N hh p szk g tk t hl
      split at hx
      · rename_i b1 b2
        have b1 := Nat.eq_of_beq_eq_true b1
        have b2 := Nat.eq_of_beq_eq_true b2
        subst b1 b2
        obtain rfl := Option.some.inj hx
        obtain ⟨b, us, q, e1, f1, f2, f3, e2, e3, e4, e5⟩ := nst_at hH hl h
        exact ⟨b, i * sz, us, e1, nstR_Z f1 f2 f3 (fun b i c h1 h2 h3 => ⟨h1, h2, .inr ⟨_, h3⟩⟩) (zo_zR hH.hb) e2, fun k c hc => ⟨(e4 k c hc).1, (e4 k c hc).2, .inr ⟨_, e5⟩⟩⟩
      · cases hx
    · cases hx
  | .kd m i sz off n, x', v, hx, h => by
    simp only [fzS] at hx
    split at hx
    · rename_i e esz N hh p g tk t hl
      obtain rfl := Option.some.inj hx
      obtain ⟨a', cap, e1, e2, e3⟩ := kid_elems hH (kids_ok hl) h
      exact ⟨a', cap, e1, e2, fun i hi => let ⟨b, o, us, k1, k2, k3, k4, k5⟩ := e3 i hi; ⟨b, o, us, k1, denL_le (zo_zR hH.hb) _ _ k2, k3, fun k c hc => ⟨(k4 k c hc).1, (k4 k c hc).2, .inr ⟨_, k5⟩⟩⟩⟩
    · cases hx
  | .kq m i sz j off, x', v, hx, h => by
    simp only [fzS] at hx
    split at hx
    · rename_i e esz N hh p g tk t hl
      obtain rfl := Option.some.inj hx
      obtain ⟨b, us, e1, f1, f2, e2, e3, e4, e5⟩ := kid_at hH (kids_ok hl) h
      exact ⟨b, j * sz, us, e1, denL_le (zo_zR hH.hb) _ _ e2, fun k c hc => ⟨(e4 k c hc).1, (e4 k c hc).2, .inr ⟨_, e5⟩⟩⟩
    · cases hx
  | .f fn x y, x', v, hx, ⟨u, w, h1, h2, h3⟩ => by
    simp only [fzS] at hx
    split at hx
    · rename_i p q hp hq
      obtain rfl := Option.some.inj hx
      exact ⟨u, w, fzL_ok hH hrec x p u hp h1, fzL_ok hH hrec y q w hq h2, h3⟩
    · cases hx
  | .m _, _, _, hx, _ => by cases hx
  | .agg l, x', v, hx, ⟨u, h1, h2⟩ => by
    simp only [fzS] at hx
    split at hx
    · rename_i p hp
      obtain rfl := Option.some.inj hx
      exact ⟨u, fzL_ok hH hrec l p u hp h1, h2⟩
    · cases hx
  | .tup l, x', v, hx, ⟨u, h1, h2⟩ => by
    simp only [fzS] at hx
    split at hx
    · rename_i p hp
      obtain rfl := Option.some.inj hx
      exact ⟨u, fzL_ok hH hrec l p u hp h1, h2⟩
    · cases hx
theorem fzL_ok {rec : List SV → Option (List SV)} (hH : HOk C H ρ W) (hrec : ∀ l l' vs, rec l = some l' → denL ρ l vs → denL (zR ρ W) l' vs) : ∀ (x x' : List SV) (v : List Value), fzL rec H x = some x' → denL ρ x v → denL (zR ρ W) x' v
  | [], _, _, hx, h => by obtain rfl := Option.some.inj hx; exact h
  | x :: r, x', v, hx, ⟨u, w, h1, h2, h3⟩ => by
    simp only [fzL] at hx
    split at hx
    · rename_i p q hp hq
      obtain rfl := Option.some.inj hx
      exact ⟨u, w, h1, fzS_ok hH hrec x p u hp h2, fzL_ok hH hrec r q w hq h3⟩
    · cases hx
end
theorem fzK_ok (hH : HOk C H ρ W) : ∀ (k : Nat) (l l' : List SV) (vs : List Value), fzK H k l = some l' → denL ρ l vs → denL (zR ρ W) l' vs
  | 0, l, l', vs, h, hd => fzL_ok hH (fun _ _ _ h _ => by cases h) l l' vs h hd
  | k + 1, l, l', vs, h, hd => fzL_ok hH (fun l l' vs h hd => fzK_ok hH k l l' vs h hd) l l' vs h hd

theorem flat_set {ρ' : Names} {x y : SV} (hxy : ∀ v, den ρ x v → den ρ' y v) : ∀ {l : List SV} {i : Nat} {us : List Value}, flatL (l.set i .e) = true → denL ρ (l.set i x) us → denL ρ' (l.set i y) us
  | [], i, us, _, h => h
  | z :: r, 0, us, hf, h => by
    obtain ⟨a, b, e, h1, h2⟩ := denL_cons h
    simp only [List.set_cons_zero, flatL, flatS] at hf
    exact ⟨a, b, e, hxy _ h1, flatL_den _ _ hf h2⟩
  | z :: r, i + 1, us, hf, h => by
    obtain ⟨a, b, e, h1, h2⟩ := denL_cons h
    simp only [List.set_cons_succ, flatL] at hf
    split at hf
    · rename_i hz
      exact ⟨a, b, e, flat_den _ _ hz h1, flat_set hxy hf h2⟩
    · cases hf
/-- .. in memory of one's own. -/
def zO (ρ : Names) (W : World) : Names := onlyZ fun b i c => W.cell? ⟨b, i, none⟩ = some c ∧ (c.oneCell' = true ∧ plainB W b) ∧ ∃ n, Owns ρ n b
mutual
theorem frS_ok (hH : HOk C H ρ W) : ∀ (x x' : SV) (ps : List Prop) (v : Value), frS H x = some (x', ps) → conj ps → den ρ x v → den (zO ρ W) x' v
  | .v _, _, _, _, hx, _, h => by obtain ⟨rfl, -⟩ := Prod.mk.inj (Option.some.inj hx); exact h
  | .il _ _, _, _, _, hx, _, h => by obtain ⟨rfl, -⟩ := Prod.mk.inj (Option.some.inj hx); exact h
  | .bl _, _, _, _, hx, _, h => by obtain ⟨rfl, -⟩ := Prod.mk.inj (Option.some.inj hx); exact h
  | .e, _, _, _, hx, _, h => by obtain ⟨rfl, -⟩ := Prod.mk.inj (Option.some.inj hx); exact h
  | .rs sz n f, _, _, v, hx, _, h => by cases hx
  | .rp x off, _, _, v, hx, _, h => by cases hx
  | .p n off, x', _, v, hx, _, h => by cases hx
  | .gp m e sz i off, x', _, v, hx, _, h => by cases hx
  | .f fn x y, x', _, v, hx, _, _ => by cases hx
  | .m _, _, _, _, hx, _, _ => by cases hx
  | .kd _ _ _ _ _, _, _, _, hx, _, _ => by cases hx
  | .kq _ _ _ _ _, _, _, _, hx, _, _ => by cases hx
  | .s n sz off len cap, x', ps, v, hx, _, h => by
    simp only [frS] at hx
    split at hx
    · rename_i cs t hl
      split at hx
      · rename_i b1 b2 b3
        have b1 := Nat.le_of_ble_eq_true b1
        have b2 := Nat.le_of_ble_eq_true b2
        obtain ⟨rfl, -⟩ := Prod.mk.inj (Option.some.inj hx)
        obtain ⟨b, e1, e2⟩ := h
        obtain ⟨b', vs, k1, k2, k3, k4, k5⟩ := hH.blk n _ hl
        rw [e1] at k1
        obtain rfl := Option.some.inj k1
        have hd : denL (zO ρ W).zo cs vs := flatL_den _ _ b3 k2
        have hlen := denL_length hd
        refine ⟨_, _, e2, b2, fun i hi => ⟨b, off, _, rfl, chunk_den sz i (denL_drop off hd), ?_, fun k c hc => ?_⟩⟩
        · have : i * sz + sz ≤ len * sz := by rw [← Nat.succ_mul]; exact Nat.mul_le_mul_right _ hi
          simp only [List.length_take, List.length_drop]
          omega
        · rw [List.getElem?_take] at hc
          split at hc
          · rw [List.getElem?_drop, List.getElem?_drop] at hc
            refine ⟨?_, zc_blk k3 (k4 c (List.mem_of_getElem? hc)), n, .inl e1⟩
            rw [k3.cell]
            simpa [Nat.add_assoc] using hc
          · cases hc
      · cases hx
    · cases hx
  | .g m e sz off n, x', ps, v, hx, hp, h => by
    simp only [frS] at hx
    split at hx
    · rename_i e' sz' N hh t hl
      split at hx
      · rename_i b1 b2
        have b1 := Nat.eq_of_beq_eq_true b1
        have b2 := Nat.eq_of_beq_eq_true b2
        subst b1 b2
        obtain ⟨rfl, rfl⟩ := Prod.mk.inj (Option.some.inj hx)
        have hp : ∀ i, i < n → flatL (hh (off + i)) = true := hp
        obtain ⟨a', cap, e1, e2, e3⟩ := lst_elems hH hl h
        exact ⟨a', cap, e1, e2, fun i hi => let ⟨b, o, us, k1, k2, k3, k4, k5⟩ := e3 i hi; ⟨b, o, us, k1, flatL_den _ _ (hp i hi) k2, k3, fun k c hc => ⟨(k4 k c hc).1, (k4 k c hc).2, _, k5⟩⟩⟩
      · cases hx
    · rename_i e' sz' N hh p szk g tk t hl
      split at hx
      · rename_i b1 b2
        have b1 := Nat.eq_of_beq_eq_true b1
        have b2 := Nat.eq_of_beq_eq_true b2
        subst b1 b2
        obtain ⟨rfl, rfl⟩ := Prod.mk.inj (Option.some.inj hx)
        obtain ⟨hp1, hp2⟩ : (∀ i, i < n → flatL ((hh (off + i)).set p .e) = true) ∧ ∀ i, i < n → ∀ j, j < (g (off + i)).1 → flatL ((g (off + i)).2 j) = true := hp
        obtain ⟨a', cap, e1, e2, e3⟩ := nst_elems hH hl h
        exact ⟨a', cap, e1, e2, fun i hi => let ⟨b, o, us, q, k1, f1, f2, f3, k2, k3, k4, k5⟩ := e3 i hi; ⟨b, o, us, k1, flat_set (fun v hv => by obtain rfl : v = _ := hv; exact kid_Z f1 f2 f3 (fun b i c h1 h2 h3 => ⟨h1, h2, _, h3⟩) fun j hj us hu => flatL_den _ _ (hp2 i hi j hj) hu) (hp1 i hi) k2, k3, fun k c hc => ⟨(k4 k c hc).1, (k4 k c hc).2, _, k5⟩⟩⟩
      · cases hx
    · rename_i e' sz' N hh p szk g tk t a em n' f' hl
      split at hx
      · rename_i b1 b2
        have b1 := Nat.eq_of_beq_eq_true b1
        have b2 := Nat.eq_of_beq_eq_true b2
        subst b1 b2
        obtain ⟨rfl, rfl⟩ := Prod.mk.inj (Option.some.inj hx)
        obtain ⟨hp1, hp2⟩ : (∀ i, i < n → flatL ((hh (off + i)).set p .e) = true) ∧ ∀ i, i < n → ∀ j, j < (altG a n' f' g (off + i)).1 → flatL ((altG a n' f' g (off + i)).2 j) = true := hp
        obtain ⟨a', cap, e1, e2, e3⟩ := alt_elems hH hl h
        exact ⟨a', cap, e1, e2, fun i hi => let ⟨b, o, us, q, k1, f1, f2, f3, k2, k3, k4, k5⟩ := e3 i hi; ⟨b, o, us, k1, flat_set (fun v hv => by obtain rfl : v = _ := hv; exact own_Z f1 f2 f3 (fun b i c h1 h2 h3 => ⟨h1, h2, _, h3⟩) fun j hj us hu => flatL_den _ _ (hp2 i hi j hj) hu) (hp1 i hi) k2, k3, fun k c hc => ⟨(k4 k c hc).1, (k4 k c hc).2, _, k5⟩⟩⟩
      · cases hx
    · cases hx
  | .agg l, x', ps, v, hx, hp, ⟨u, h1, h2⟩ => by
    simp only [frS] at hx
    split at hx
    · rename_i p ps' hq
      obtain ⟨rfl, rfl⟩ := Prod.mk.inj (Option.some.inj hx)
      exact ⟨u, frL_ok hH l p _ u hq hp h1, h2⟩
    · cases hx
  | .tup l, x', ps, v, hx, hp, ⟨u, h1, h2⟩ => by
    simp only [frS] at hx
    split at hx
    · rename_i p ps' hq
      obtain ⟨rfl, rfl⟩ := Prod.mk.inj (Option.some.inj hx)
      exact ⟨u, frL_ok hH l p _ u hq hp h1, h2⟩
    · cases hx
theorem frL_ok (hH : HOk C H ρ W) : ∀ (x x' : List SV) (ps : List Prop) (v : List Value), frL H x = some (x', ps) → conj ps → denL ρ x v → denL (zO ρ W) x' v
  | [], _, _, _, hx, _, h => by obtain ⟨rfl, -⟩ := Prod.mk.inj (Option.some.inj hx); exact h
  | x :: r, x', _, v, hx, hp, ⟨u, w, h1, h2, h3⟩ => by
    simp only [frL] at hx
    split at hx
    · rename_i p ps1 q ps2 hp1 hq1
      obtain ⟨rfl, rfl⟩ := Prod.mk.inj (Option.some.inj hx)
      obtain ⟨c1, c2⟩ := conj_append hp
      exact ⟨u, w, h1, frS_ok hH x p ps1 u hp1 c1 h2, frL_ok hH r q ps2 w hq1 c2 h3⟩
    · cases hx
end
/-- Memory that never changes, found at the same time. -/
theorem eff_addz {W' : World} {ρ' : Names} {wn : Option Nat} {fr : Bool} {z : Nat → Nat → Value → Prop} (e : Eff C ρ W nm wn fr ρ' W') (hz : ∀ b i c, z b i c → (ρ.z b i c ∨ W.heap.size ≤ b) ∧ W'.cell? ⟨b, i, none⟩ = some c ∧ c.oneCell' = true ∧ plainB W' b) : Eff C ρ W nm wn fr (ρ'.addz z) W' :=
  ⟨e.le.trans Names.le_addz, e.nn, e.nv, fun b i c h => by
    rcases h with h | h
    · exact e.nz b i c h
    · exact (hz b i c h).1, e.nk, e.os, e.tape, e.output, e.size, e.block, ⟨e.hb.own, e.hb.low, fun b i c h => by
      rcases h with h | h
      · exact e.hb.zok b i c h
      · exact (hz b i c h).2, e.hb.grd⟩⟩
/-- A list that a call made becomes one's own. -/
theorem own_eff {W' : World} {val : Value} {sz n : Nat} {f : Nat → List SV} {t : TypeId} {z : Nat → Nat → Value → Prop} (hH : HOk C H ρ W) (hf : ρ.v nm = none) (g : Gr W W') (hz : ∀ b i c, z b i c → (ρ.z b i c ∨ W.heap.size ≤ b) ∧ W'.cell? ⟨b, i, none⟩ = some c ∧ c.oneCell' = true ∧ plainB W' b) (h : OwnL z W W' val sz n f t) :
    ∃ ρ', Eff C ρ W nm (some nm) true ρ' W' ∧ Cont ρ' W' nm (.lst nm sz n f t) ∧ den ρ' (.g nm nm sz 0 n) val := by
  obtain ⟨a', cap, z2, hz2, rfl, h1, h2⟩ := h
  refine ⟨(ρ.addv nm ⟨nm, a', cap, n⟩).addz z2, eff_addz (eff_addv (l := ⟨nm, a', cap, n⟩) hH.hb hf g (fun hc b o hb => ?_)) (fun b i c h => hz b i c (hz2 b i c h)), ?_, ⟨nm, a', cap, n⟩, Names.addv_self, rfl, by simp, h1, a', by simp, fun hc => ?_⟩
  · obtain ⟨b', u, k1, k2, k3, -⟩ := h2 hc
    have hb : a' = some ⟨b, o, none⟩ := hb
    rw [k1] at hb
    injection hb with hb
    injection hb with hb
    subst hb
    have k3 : W'.heap[b']? = some (.cells u.toArray t (0, 0)) := k3
    exact ⟨k2, (Array.getElem?_eq_some_iff.1 k3).1⟩
  · refine ⟨_, Names.addv_self, rfl, rfl, h1, fun hc => ?_⟩
    obtain ⟨b', u, k1, k2, k3, k4, k5, k7, k6⟩ := h2 hc
    refine ⟨b', u, k1, k3, k4, k5, fun i c hz => ?_, fun i hi => let ⟨us, q1, q2⟩ := k6 i hi; ⟨us, denL_le (ρ := onlyZ z2) ⟨fun _ _ h => (by cases h), fun _ _ h => (by cases h), fun _ _ _ h => (by cases h), fun b i c h => (Or.inr h : ρ.z b i c ∨ z2 b i c)⟩ _ _ q1, q2⟩⟩
    rcases hz with hz | hz
    · have := cell_lt (hH.hb.zok b' i c hz).1
      omega
    · exact k7 i c hz
  · obtain ⟨b', u, k1, -⟩ := h2 (by simpa using hc)
    exact ⟨b', k1, by rw [k1]; simp⟩
theorem useC_ok (hH : HOk C H ρ W) {con : Con C} {al : List SV} {vs : List Value} {r : DR} (hf : r.fr = true → ρ.v nm = none) (hD : useC con H nm al = some r) (ho : r.Ob) (hd : denL ρ al vs) :
    Calls C.P con.e vs.toArray W fun e W' => ∃ val, e = .returned val ∧ DPost C ρ W nm r val W' := by
  unfold useC at hD
  split at hD
  · rename_i t how
    split at hD
    · rename_i al' hal
      split at hD
      · rename_i ob out hr
        obtain ⟨ze, he1, he2, he3⟩ : ∃ ze : Nat → Nat → Value → Prop, (∀ b i c, ze b i c → W.cell? ⟨b, i, none⟩ = some c ∧ c.oneCell' = true ∧ plainB W b) ∧ denL (onlyZ ze) al' vs ∧ ∀ z' : Nat → Nat → Value → Prop, (∀ b i c, z' b i c → ze b i c ∨ W.heap.size ≤ b) → (con.fresh = true → ∀ b i c, z' b i c → W.heap.size ≤ b) → ∀ b i c, z' b i c → ρ.z b i c ∨ W.heap.size ≤ b := by
          split at hal
          · rename_i hp
            obtain rfl := Option.some.inj hal
            exact ⟨ρ.z, hH.hb.zok, pureL_den _ _ hp hd, fun z' h _ => h⟩
          · split at hal
            · rename_i hfr
              exact ⟨_, fun b i c h => h, denL_le zR_zW _ _ (fzK_ok hH 3 al al' vs hal hd), fun z' _ h b i c hz => .inr (h hfr b i c hz)⟩
            · cases hal
        split at hD
        · rename_i sz n f
          obtain rfl := Option.some.inj hD
          refine (con.ok ze W al' vs ob _ hH.hb.grd he1 he2 hr ho).mono ?_
          rintro e W' ⟨val, z', rfl, g, hz1, -, hz2, hown⟩
          obtain ⟨ρ', e1, e2, e3⟩ := own_eff hH (hf rfl) g (fun b i c h => ⟨he3 z' (fun b i c h => (hz1 b i c h).1) hz2 b i c h, (hz1 b i c h).2⟩) (hown t how)
          exact ⟨_, rfl, ρ', e1, fun m sb hm => by obtain ⟨rfl, rfl⟩ := Prod.mk.inj (Option.some.inj hm); exact e2, e3⟩
        · rename_i x sz n f
          obtain rfl := Option.some.inj hD
          refine (con.ok ze W al' vs ob _ hH.hb.grd he1 he2 hr ho).mono ?_
          rintro e W' ⟨val, z', rfl, g, hz1, -, hz2, hown⟩
          obtain ⟨u, v, rfl, hx, hl⟩ : ∃ u v, val = .agg #[u, v] ∧ den noNames x u ∧ OwnL z' W W' v sz n f t := hown t how
          obtain ⟨ρ', e1, e2, e3⟩ := own_eff hH (hf rfl) g (fun b i c h => ⟨he3 z' (fun b i c h => (hz1 b i c h).1) hz2 b i c h, (hz1 b i c h).2⟩) hl
          exact ⟨_, rfl, ρ', e1, fun m sb hm => by obtain ⟨rfl, rfl⟩ := Prod.mk.inj (Option.some.inj hm); exact e2, [u, v], ⟨u, [v], rfl, den_le (noNames_le _) _ _ hx, v, [], rfl, e3, rfl⟩, rfl⟩
        · cases hD
      · cases hD
    · cases hD
  rename_i hownN
  clear hownN
  split at hD
  · rename_i hp
    split at hD
    · rename_i ob out hr
      obtain rfl := Option.some.inj hD
      refine (con.ok ρ.z W al vs ob out hH.hb.grd hH.hb.zok (pureL_den _ _ hp hd) hr ho).mono ?_
      rintro e W' ⟨val, z', rfl, g, hz, hv, -, -⟩
      refine ⟨val, rfl, ρ.addz z', ⟨Names.le_addz, fun _ _ h => .inl h, fun _ _ h => .inl h, fun b i c h => ?_, fun _ _ => rfl, g.os, g.tape, g.output, g.size, fun b hb _ => Below.block g b hb, ?_⟩, (fun n sb h => by cases h), den_le (ρ := onlyZ z') ⟨fun _ _ h => (by cases h), fun _ _ h => (by cases h), fun _ _ _ h => (by cases h), fun b i c h => (Or.inr h : ρ.z b i c ∨ z' b i c)⟩ _ _ hv⟩
      · rcases h with h | h
        · exact .inl h
        · exact (hz b i c h).1
      · have h' := hH.hb.gr g
        exact ⟨h'.own, h'.low, fun b i c h => by
          rcases h with h | h
          · exact h'.zok b i c h
          · exact (hz b i c h).2, h'.grd⟩
    · cases hD
  · split at hD
    · rename_i al' hal
      split at hD
      · rename_i ob out hr
        split at hD
        · rename_i hfr
          obtain rfl := Option.some.inj hD
          refine (con.ok _ W al' vs ob out hH.hb.grd (fun b i c h => h) (denL_le zR_zW _ _ (fzK_ok hH 3 al al' vs hal hd)) hr ho).mono ?_
          rintro e W' ⟨val, z', rfl, g, hz, hv, hf, -⟩
          refine ⟨val, rfl, ρ.addz z', ⟨Names.le_addz, fun _ _ h => .inl h, fun _ _ h => .inl h, fun b i c h => ?_, fun _ _ => rfl, g.os, g.tape, g.output, g.size, fun b hb _ => Below.block g b hb, ?_⟩, (fun n sb h => by cases h), den_le (ρ := onlyZ z') ⟨fun _ _ h => (by cases h), fun _ _ h => (by cases h), fun _ _ _ h => (by cases h), fun b i c h => (Or.inr h : ρ.z b i c ∨ z' b i c)⟩ _ _ hv⟩
          · rcases h with h | h
            · exact .inl h
            · exact .inr (hf hfr b i c h)
          · have h' := hH.hb.gr g
            exact ⟨h'.own, h'.low, fun b i c h => by
              rcases h with h | h
              · exact h'.zok b i c h
              · exact (hz b i c h).2, h'.grd⟩
        · split at hD
          · rename_i hfl
            obtain rfl := Option.some.inj hD
            refine (con.ok _ W al' vs ob out hH.hb.grd (fun b i c h => h) (denL_le zR_zW _ _ (fzK_ok hH 3 al al' vs hal hd)) hr ho).mono ?_
            rintro e W' ⟨val, z', rfl, g, hz, hv, -, -⟩
            exact ⟨val, rfl, post_gr hH.hb g ⟨rfl, rfl, flat_den _ _ hfl hv⟩⟩
          · cases hD
      · cases hD
    · cases hD
end
end Go.Proofs.YtcojfohjdibjjaaGreatDoor
