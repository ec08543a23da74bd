/- A symbolic executor with lists, 5: soundness of reading and building. -/
import Derived.Test.YtcojfohjdibjjaaGreatDoorG3
namespace Go.Proofs.YtcojfohjdibjjaaGreatDoor
open Go.RowKit

theorem addr_add (b o m : Nat) : (⟨b, o, none⟩ : Addr).add m = ⟨b, o + m, none⟩ := by unfold Addr.add; split <;> simp_all

section
variable {PP : Program} {C : Cx PP} {op : OpF} {a : Act} {ρ : Names} {W : World} {H : Heap} {nm : Nat}

def OpOk (op : OpF) (a : Act) (ρ : Names) : Prop := ∀ ex x v, op ex x = some v → (∀ p ∈ ex, a.eval (.tmp p.1) = .bool p.2) → den ρ v (a.eval x)
theorem OpOk.get (h : OpOk op a ρ) {x : Operand} {v : SV} (e : op [] x = some v) : den ρ v (a.eval x) := h [] x v e fun _ hp => by cases hp
theorem opL_ok (h : OpOk op a ρ) : ∀ {l : List Operand} {vs : List SV}, opL op l = some vs → denL ρ vs (l.map a.eval)
  | [], vs, e => by
    obtain rfl := Option.some.inj e
    rfl
  | x :: r, vs, e => by
    simp only [opL] at e
    split at e
    · rename_i u v hu hv
      obtain rfl := Option.some.inj e
      exact denL_cons_of (h.get hu) (opL_ok h hv)
    · cases e
theorem opL_args (h : OpOk op a ρ) {args : Array Operand} {vs : List SV} (e : opL op args.toList = some vs) : denL ρ vs (args.map a.eval).toList := by
  have := opL_ok h e; simpa using this

theorem post_gr {r : DR} {v : Value} {W' : World} (hb : HB C ρ W) (g : Gr W W') (h : Yields r ρ v) : DPost C ρ W nm r v W' := by
  obtain ⟨h1, h2, h3⟩ := h
  refine ⟨ρ, ?_, ?_, h3⟩
  · rw [h1, h2]; exact Eff.of_gr hb g
  · rw [h1]; intro n sb hn; cases hn
theorem post_same {r : DR} {v : Value} (hb : HB C ρ W) (h : Yields r ρ v) : DPost C ρ W nm r v W := post_gr hb (Gr.refl W) h
theorem yields_dv {v : SV} {r : DR} {y : Value} (h : dv v = some r) (hd : den ρ v y) : Yields r ρ y := by obtain rfl := Option.some.inj h; exact ⟨rfl, rfl, hd⟩
theorem yields_dvo {p : Prop} {v : SV} {r : DR} {y : Value} (h : dvo p v = some r) (hd : den ρ v y) : Yields r ρ y := by obtain rfl := Option.some.inj h; exact ⟨rfl, rfl, hd⟩
theorem dvo_ob {p : Prop} {v : SV} {r : DR} (h : dvo p v = some r) (ho : r.Ob) : p := by obtain rfl := Option.some.inj h; exact ho
theorem od_some {x : Option SV} {r : DR} (h : od x = some r) : ∃ v, x = some v ∧ dv v = some r := by
  cases x with
  | none => cases h
  | some v => exact ⟨v, rfl, h⟩

theorem kind_agg {d : TypeDesc} {k : TK} (hk : kindEq d k = true) (ha : aggK k = true) : (∃ fs, d = .struct fs) ∨ ∃ n e, d = .array n e := by
  cases d <;> cases k <;> simp_all [kindEq, aggK]
theorem kind_one {d : TypeDesc} {k : TK} (hk : kindEq d k = true) (ha : aggK k = false) : (∀ fs, d ≠ .struct fs) ∧ ∀ n e, d ≠ .array n e := by
  refine ⟨fun fs e => ?_, fun n e' e => ?_⟩ <;> subst e <;> cases k <;> simp_all [kindEq, aggK]

theorem loadC_ok {cs : List SV} {off : Nat} {t : TypeId} {v : SV} {b o : Nat} {vs : List Value} {x : Operand} {dst : Option Tmp} {ty : TypeId} {pos : String} {after : Array Edge} {guard : Option (Nat × Bool)}
    (h : loadC C cs off t = some v) (hd : denL ρ cs vs) (hb : ∀ (i : Nat) (c : Value), vs[i]? = some c → W.cell? ⟨b, o + i, none⟩ = some c) (hx : a.eval x = .pointer (some ⟨b, o + off, none⟩)) :
    ∃ u, den ρ v u ∧ (execOp a.eval ⟨dst, .load t x, ty, pos, after, guard⟩).run C.P W = .ok (.value u) W := by
  unfold loadC at h
  split at h
  · cases h
  · rename_i ti hti
    obtain ⟨i, d, z, hi, hdd, hs, hz, hzz, hk, -⟩ := (C.ty hti).ex
    split at h
    · rename_i hag
      split at h
      · rename_i l hl
        obtain rfl := Option.some.inj h
        obtain ⟨k1, k2⟩ := takeN_den hl (denL_drop off hd)
        refine ⟨_, ⟨_, k1, rfl⟩, ?_⟩
        refine ex_loadN hx hi hdd (kind_agg hk hag) (by rw [hs, List.length_take]; omega) fun j v hj => ?_
        rw [List.getElem?_take] at hj
        split at hj
        · rw [List.getElem?_drop] at hj
          rw [addr_add, Nat.add_assoc]
          exact hb _ _ hj
        · cases hj
      · cases h
    · rename_i hag
      obtain ⟨u, hu, hdu⟩ := denL_get hd h
      exact ⟨u, hdu, ex_load1 hx hdd (kind_one hk hag).1 (kind_one hk hag).2 (hb _ _ hu)⟩

theorem lsts_ok {m e sz N : Nat} {h : Nat → List SV} {t : TypeId} (hl : lsts H m e sz = some (N, h, t)) : look H m = some (.lst e sz N h t) := by
  unfold lsts at hl
  split at hl
  · rename_i e' sz' N' h' t' hk
    split at hl
    · rename_i b1 b2
      have b1 := Nat.eq_of_beq_eq_true b1
      have b2 := Nat.eq_of_beq_eq_true b2
      subst b1 b2
      obtain ⟨rfl, h2⟩ := Prod.mk.inj (Option.some.inj hl)
      obtain ⟨rfl, rfl⟩ := Prod.mk.inj h2
      exact hk
    · cases hl
  · cases hl
theorem lays_ok {n : Nat} {cs : List SV} {t : TypeId} (hl : lays H n = some (cs, t)) : look H n = some (.lay cs t) := by
  unfold lays at hl
  split at hl
  · rename_i cs' t' hk
    obtain ⟨rfl, rfl⟩ := Prod.mk.inj (Option.some.inj hl)
    exact hk
  · cases hl
/-- The element of a list of one's own that a pointer shows. -/
theorem lst_at {m e sz N : Nat} {h : Nat → List SV} {t : TypeId} (hH : HOk C H ρ W) (hk : look H m = some (.lst e sz N h t)) {i off : Nat} {v : Value} (hd : den ρ (.gp m e sz i off) v) :
    ∃ b us, v = .pointer (some ⟨b, i * sz + off, none⟩) ∧ denL ρ.zo (h i) us ∧ us.length = sz ∧ (∀ (k : Nat) (c : Value), us[k]? = some c → W.cell? ⟨b, i * sz + k, none⟩ = some c ∧ c.oneCell' = true ∧ plainB W b) ∧ Owns ρ m b := by
  obtain ⟨l, b, h1, ho, h2, h3, h4, rfl⟩ := hd
  obtain ⟨l', k1, k2, k3, k4, k5⟩ := hH.blk m _ hk
  rw [h1] at k1
  obtain rfl := Option.some.inj k1
  obtain ⟨b', u, q1, q2, q3, q4, q5, q6⟩ := k5 (by omega)
  rw [h4] at q1
  obtain rfl : b = b' := by injection q1 with q1; injection q1
  obtain ⟨us, p1, p2, p3⟩ := q6 i (by omega)
  refine ⟨b, us, rfl, p1, p2, fun k c hc => ?_, .inr (.inl ⟨e, l, 0, h1, ho, by omega, h4⟩)⟩
  have := p3 k c hc
  exact ⟨by rw [q2.cell]; simpa using this, zc_blk q2 (q4 c (List.mem_of_getElem? this))⟩

theorem nsts_ok {m e sz N p szk : Nat} {h : Nat → List SV} {g : Nat → Nat × (Nat → List SV)} {tk t : TypeId} (hl : nsts H m e sz = some (N, h, p, szk, g, tk, t)) : look H m = some (.nst e sz N h p szk g tk t none) := by
  unfold nsts at hl
  split at hl
  · rename_i e' sz' N' h' p' szk' g' tk' t' hk
    split at hl
    · rename_i b1 b2
      have b1 := Nat.eq_of_beq_eq_true b1
      have b2 := Nat.eq_of_beq_eq_true b2
      subst b1 b2
      simp only [Option.some.injEq, Prod.mk.injEq] at hl
      obtain ⟨rfl, rfl, rfl, rfl, rfl, rfl, rfl⟩ := hl
      exact hk
    · cases hl
  · cases hl
theorem kids_ok {m e sz N p szk : Nat} {h : Nat → List SV} {g : Nat → Nat × (Nat → List SV)} {tk t : TypeId} (hl : kids H m szk = some (e, sz, N, h, p, g, tk, t)) : look H m = some (.nst e sz N h p szk g tk t none) := by
  unfold kids at hl
  split at hl
  · rename_i e' sz' N' h' p' szk' g' tk' t' hk
    split at hl
    · rename_i b1
      have b1 := Nat.eq_of_beq_eq_true b1
      subst b1
      simp only [Option.some.injEq, Prod.mk.injEq] at hl
      obtain ⟨rfl, rfl, rfl, rfl, rfl, rfl, rfl, rfl⟩ := hl
      exact hk
    · cases hl
  · cases hl
theorem denL_swap {p : Nat} {x y : SV} (hxy : ∀ v, den ρ x v → den ρ y v) : ∀ {l : List SV} {i : Nat} {us : List Value}, denL ρ (l.set i x) us → denL ρ (l.set i y) us
  | [], i, us, h => h
  | z :: r, 0, us, h => let ⟨a, b, e, h1, h2⟩ := denL_cons h; ⟨a, b, e, hxy _ h1, h2⟩
  | z :: r, i + 1, us, h => let ⟨a, b, e, h1, h2⟩ := denL_cons h; ⟨a, b, e, h1, denL_swap (p := p) hxy h2⟩
/-- What the list of an element is as a value. -/
theorem kid_den {m i sz n : Nat} {q : LV} {f : Nat → List SV} {t : TypeId} (h1 : ρ.k m i = some q) (h2 : q.N = n) (h3 : ListC ρ W q sz f t) : den ρ (.kd m i sz 0 n) (.slice q.a q.N q.cap) :=
  ⟨q, h1, by omega, h3.1, q.a, by rw [h2]; rfl, fun hc => let ⟨b, u, k1, _⟩ := h3.2 (by omega); ⟨b, k1, by rw [Nat.zero_mul]; exact k1⟩⟩
/-- The element of a list of lists that a pointer shows. -/
theorem nst_at {m e sz N p szk : Nat} {h : Nat → List SV} {g : Nat → Nat × (Nat → List SV)} {tk t : TypeId} (hH : HOk C H ρ W) (hk : look H m = some (.nst e sz N h p szk g tk t none)) {i off : Nat} {v : Value} (hd : den ρ (.gp m e sz i off) v) :
    ∃ b us q, v = .pointer (some ⟨b, i * sz + off, none⟩) ∧ ρ.k m i = some q ∧ q.N = (g i).1 ∧ ListC ρ W q szk (g i).2 tk ∧ denL ρ.zo ((h i).set p (.v (.slice q.a q.N q.cap))) us ∧ us.length = sz ∧ (∀ (k : Nat) (c : Value), us[k]? = some c → W.cell? ⟨b, i * sz + k, none⟩ = some c ∧ c.oneCell' = true ∧ plainB W b) ∧ Owns ρ m b := by
  obtain ⟨l, b, h1, ho, h2, h3, h4, rfl⟩ := hd
  obtain ⟨l', K⟩ := hH.blk m _ hk
  have k1 := K.hv
  rw [h1] at k1
  obtain rfl := Option.some.inj k1
  obtain ⟨b', u, q1, q2, q3, q4, q5, q6, -, -⟩ := K.row (by omega)
  rw [h4] at q1
  obtain rfl : b = b' := by injection q1 with q1; injection q1
  have hN : l.N = N := K.hN
  obtain ⟨q, us, p0, p1, p2, p3⟩ := q6 i (by omega)
  obtain ⟨q', r0, r1, r2⟩ := K.kid i (by omega)
  rw [p0] at r0
  obtain rfl := Option.some.inj r0
  refine ⟨b, us, q, rfl, p0, r1, r2, p1, p2, fun k c hc => ?_, .inr (.inl ⟨e, l, 0, h1, ho, by omega, h4⟩)⟩
  have := p3 k c hc
  exact ⟨by rw [q2.cell]; simpa using this, zc_blk q2 (q4 c (List.mem_of_getElem? this))⟩
/-- .. with the list that it has as one's own. -/
theorem nstO_den {m p szk n : Nat} {h : Nat → List SV} {g : Nat → Nat × (Nat → List SV)} {tk : TypeId} {i : Nat} {q : LV} {us : List Value} (h1 : ρ.k m i = some q) (h2 : q.N = (g i).1) (h3 : ListC ρ W q szk (g i).2 tk)
    (hd : denL ρ.zo ((h i).set p (.v (.slice q.a q.N q.cap))) us) : denL ρ (nstO m h p szk g i) us :=
  denL_swap (p := n) (fun v hv => by obtain rfl : v = _ := hv; exact kid_den h1 h2 h3) (denL_le ρ.zo_le _ _ hd)
/-- The element of an element's list that a pointer shows. -/
theorem kid_at {m e sz N p szk : Nat} {h : Nat → List SV} {g : Nat → Nat × (Nat → List SV)} {tk t : TypeId} (hH : HOk C H ρ W) (hk : look H m = some (.nst e sz N h p szk g tk t none)) {i j off : Nat} {v : Value} (hd : den ρ (.kq m i szk j off) v) :
    ∃ b us, v = .pointer (some ⟨b, j * szk + off, none⟩) ∧ i < N ∧ j < (g i).1 ∧ denL ρ.zo ((g i).2 j) us ∧ us.length = szk ∧ (∀ (k : Nat) (c : Value), us[k]? = some c → W.cell? ⟨b, j * szk + k, none⟩ = some c ∧ c.oneCell' = true ∧ plainB W b) ∧ Owns ρ m b := by
  obtain ⟨l, b, h1, h2, h3, h4, rfl⟩ := hd
  obtain ⟨l', K⟩ := hH.blk m _ hk
  have hi : i < N := Nat.lt_of_not_le fun h => by rw [K.no i h] at h1; cases h1
  obtain ⟨q, r0, r1, r2, r3⟩ := K.kid i hi
  rw [h1] at r0
  obtain rfl := Option.some.inj r0
  obtain ⟨b', u, q1, q2, q3, q4, q5, q6⟩ := r3 (by omega)
  rw [h4] at q1
  obtain rfl : b = b' := by injection q1 with q1; injection q1
  obtain ⟨us, p1, p2, p3⟩ := q6 j (by omega)
  refine ⟨b, us, rfl, hi, by omega, p1, p2, fun k c hc => ?_, .inr (.inr ⟨i, l, 0, h1, by omega, h4⟩)⟩
  have := p3 k c hc
  exact ⟨by rw [q2.cell]; simpa using this, zc_blk q2 (q4 c (List.mem_of_getElem? this))⟩

theorem loadD_ok (hH : HOk C H ρ W) {x : SV} {t : TypeId} {v : SV} {y : Operand} {dst : Option Tmp} {ty : TypeId} {pos : String} {after : Array Edge} {guard : Option (Nat × Bool)}
    (h : loadD C H x t = some v) (hx : den ρ x (a.eval y)) :
    ∃ u, den ρ v u ∧ (execOp a.eval ⟨dst, .load t y, ty, pos, after, guard⟩).run C.P W = .ok (.value u) W := by
  unfold loadD at h
  split at h
  · split at h
    · rename_i n off _ cs t' hsb
      obtain ⟨b, vs, h1, h2, h3, -⟩ := hH.blk n _ (lays_ok hsb)
      obtain ⟨b', hb', e⟩ := hx
      rw [h1] at hb'
      obtain rfl := Option.some.inj hb'
      exact loadC_ok (o := 0) h h2 (fun i v hv => by rw [Nat.zero_add, h3.cell]; simpa using hv) (by rw [Nat.zero_add]; exact e)
    · cases h
  · split at h
    · rename_i b off _ sb hsb
      obtain ⟨h0, vs, h2, h3⟩ := hH.hb.grd.2 b sb hsb
      exact loadC_ok (o := 0) h (denL_le (noNames_le _) _ _ h2) (fun i v hv => by rw [Nat.zero_add]; exact h3 i v hv) (by rw [Nat.zero_add]; exact hx)
    · cases h
  · rename_i x off
    obtain ⟨b, o, u, e1, e2, e3⟩ := hx
    obtain ⟨v', k1, k2⟩ := loadC_ok (ρ := ρ.zo) (o := o) h e2 (fun i c hc => (hH.hb.zok _ _ _ (e3 i c hc)).1) e1
    exact ⟨v', den_le ρ.zo_le _ _ k1, k2⟩
  · split at h
    · rename_i m e sz i off _ N hh t' hl
      obtain ⟨b, us, e1, e2, e3, e4, -⟩ := lst_at hH (lsts_ok hl) hx
      obtain ⟨v', k1, k2⟩ := loadC_ok (ρ := ρ.zo) (o := i * sz) h e2 (fun i c hc => (e4 i c hc).1) e1
      exact ⟨v', den_le ρ.zo_le _ _ k1, k2⟩
    · split at h
      · rename_i m e sz i off _ _ _ N hh p szk g tk t' hl
        obtain ⟨b, us, q, e1, f1, f2, f3, e2, e3, e4, -⟩ := nst_at hH (nsts_ok hl) hx
        exact loadC_ok (o := i * sz) h (nstO_den (n := 0) f1 f2 f3 e2) (fun i c hc => (e4 i c hc).1) e1
      · cases h
  · split at h
    · rename_i m i sz j off _ e esz N hh p g tk t' hl
      obtain ⟨b, us, e1, f1, f2, e2, e3, e4, -⟩ := kid_at hH (kids_ok hl) hx
      obtain ⟨v', k1, k2⟩ := loadC_ok (ρ := ρ.zo) (o := j * sz) h e2 (fun i c hc => (e4 i c hc).1) e1
      exact ⟨v', den_le ρ.zo_le _ _ k1, k2⟩
    · cases h
  · cases h

theorem fieldD_ok {s k off : Nat} {fi : TI} (h : fieldD C s k = some (off, fi)) :
    ∃ (fs : Array Field) (f : Field) (i : TypeInfo) (d : TypeDesc), C.P.underlying s = some (.struct fs) ∧ fs[k]? = some f ∧ f.offset = off ∧ C.P.info? f.type = some i ∧ C.P.underlying f.type = some d ∧ i.size = fi.sz ∧ kindEq d fi.k = true := by
  unfold fieldD at h
  split at h
  · cases h
  · rename_i ti hti
    obtain ⟨i, d, z, hi, hdd, hs, hz, hzz, hk, -⟩ := (C.ty hti).ex
    split at h
    · cases h
    · rename_i fs hfs
      split at h
      · cases h
      · rename_i fo ft hft
        split at h
        · rename_i fi' hfi
          obtain ⟨rfl, rfl⟩ := Prod.mk.inj (Option.some.inj h)
          obtain ⟨i', d', z', hi', hdd', hs', hz', hzz', hk', -⟩ := (C.ty hfi).ex
          cases htk : ti.k with
          | struct l =>
            rw [htk] at hfs hk
            obtain rfl := Option.some.inj hfs
            cases d with
            | struct fs' =>
              have hk2 : (fs'.toList.map fun f => (f.offset, f.type)) = l := by simpa [kindEq] using hk
              rw [← hk2, List.getElem?_map] at hft
              cases hq : fs'.toList[k]? with
              | none => rw [hq] at hft; cases hft
              | some f =>
                rw [hq] at hft
                obtain ⟨e1, e2⟩ := Prod.mk.inj (Option.some.inj hft)
                subst e1 e2
                exact ⟨fs', f, i', d', hdd, by simpa using hq, rfl, hi', hdd', hs', hk'⟩
            | _ => simp [kindEq] at hk
          | _ => rw [htk] at hfs; cases hfs
        · cases h

theorem foldl_sets : ∀ (vs : List Value) (k off : Nat) (cs : Array Value), off + k + vs.length ≤ cs.size →
    (vs.zipIdx k).foldl (fun (cs : Array Value) (x : Value × Nat) => cs.setIfInBounds (off + x.2) x.1) cs = (cs.toList.take (off + k) ++ vs ++ cs.toList.drop (off + k + vs.length)).toArray
  | [], k, off, cs, h => by simp
  | v :: r, k, off, cs, h => by
    simp only [List.zipIdx_cons, List.foldl_cons]
    rw [foldl_sets r (k + 1) off _ (by simp at h ⊢; omega)]
    congr 1
    simp only [Array.toList_setIfInBounds, List.length_cons] at h ⊢
    apply List.ext_getElem?
    intro j
    have hl : (cs.toList.set (off + k) v).length = cs.size := by simp
    have hl2 : cs.toList.length = cs.size := by simp
    have t1 : (List.take (off + (k + 1)) (cs.toList.set (off + k) v)).length = off + k + 1 := by rw [List.length_take, hl]; omega
    have t2 : (List.take (off + k) cs.toList).length = off + k := by rw [List.length_take, hl2]; omega
    simp only [List.append_assoc]
    rcases Nat.lt_trichotomy j (off + k) with hj | hj | hj
    · rw [List.getElem?_append_left (by omega), List.getElem?_append_left (by omega), List.getElem?_take_of_lt (by omega), List.getElem?_take_of_lt (by omega), List.getElem?_set_ne (by omega)]
    · subst hj
      rw [List.getElem?_append_left (by omega), List.getElem?_take_of_lt (by omega), List.getElem?_set_self (by omega), List.getElem?_append_right (by omega), t2]
      simp
    · obtain ⟨m, rfl⟩ : ∃ m, j = off + k + 1 + m := ⟨j - (off + k + 1), by omega⟩
      rw [List.getElem?_append_right (by omega), t1]
      conv => rhs; rw [List.getElem?_append_right (by omega), t2]
      rw [show off + k + 1 + m - (off + k + 1) = m by omega, show off + k + 1 + m - (off + k) = m + 1 by omega]
      simp only [List.cons_append, List.getElem?_cons_succ]
      rcases Nat.lt_or_ge m r.length with hm | hm
      · rw [List.getElem?_append_left hm, List.getElem?_append_left hm]
      · rw [List.getElem?_append_right hm, List.getElem?_append_right hm, List.getElem?_drop, List.getElem?_drop, List.getElem?_set_ne (by omega)]
        congr 1
        omega

theorem one_cells {x : SV} {v : Value} (hd : den ρ x v) (h1 : ∀ l, x ≠ .agg l) (h2 : ∀ l, x ≠ .tup l) (h3 : ∀ l, x ≠ .v (.agg l)) (h4 : ∀ l, x ≠ .v (.tuple l)) : v.cells = #[v] ∧ v.oneCell' = true := by
  cases x with
  | v y =>
    obtain rfl : v = y := hd
    cases v <;> first | exact ⟨rfl, rfl⟩ | exact absurd rfl (h3 _) | exact absurd rfl (h4 _)
  | il k n => obtain rfl := hd; exact ⟨rfl, rfl⟩
  | bl b => obtain rfl := hd; exact ⟨rfl, rfl⟩
  | p n off => obtain ⟨b, _, rfl⟩ := hd; exact ⟨rfl, rfl⟩
  | s n sz off len cap => obtain ⟨b, _, rfl⟩ := hd; exact ⟨rfl, rfl⟩
  | f fn x y => obtain ⟨b, _, _, _, rfl⟩ := hd; exact ⟨rfl, rfl⟩
  | agg l => exact absurd rfl (h1 _)
  | tup l => exact absurd rfl (h2 _)
  | e => obtain ⟨_, rfl⟩ := hd; exact ⟨rfl, rfl⟩
  | rs sz n h => obtain ⟨_, _, rfl, _⟩ := hd; exact ⟨rfl, rfl⟩
  | rp x off => obtain ⟨_, _, _, rfl, _⟩ := hd; exact ⟨rfl, rfl⟩
  | g m e sz off n => obtain ⟨_, _, _, _, _, _, rfl, _⟩ := hd; exact ⟨rfl, rfl⟩
  | gp m e sz i off => obtain ⟨_, _, _, _, _, _, _, rfl⟩ := hd; exact ⟨rfl, rfl⟩
  | m n => obtain ⟨_, _, rfl⟩ := hd; exact ⟨rfl, rfl⟩
  | kd m i sz off n => obtain ⟨_, _, _, _, _, rfl, _⟩ := hd; exact ⟨rfl, rfl⟩
  | kq m i sz j off => obtain ⟨_, _, _, _, _, _, rfl⟩ := hd; exact ⟨rfl, rfl⟩
theorem cellsOfSV_ok {x : SV} {l : List SV} {v : Value} (h : cellsOfSV x = some l) (hd : den ρ x v) : denL ρ l v.cells.toList := by
  unfold cellsOfSV at h
  split at h
  · obtain rfl := Option.some.inj h
    obtain ⟨u, hu, rfl⟩ := hd
    simpa [Value.cells] using hu
  · cases h
  · cases h
  · cases h
  · rename_i h1 h2 h3 h4
    obtain rfl := Option.some.inj h
    rw [(one_cells hd h1 h2 h3 h4).1]
    exact denL_cons_of hd rfl
theorem oneSV_ok {x : SV} {v : Value} (h : oneSV x = true) (hd : den ρ x v) : v.oneCell' = true := by
  refine (one_cells hd ?_ ?_ ?_ ?_).2 <;> (intro l e; subst e; cases h)
theorem oneL_ok : ∀ {l : List SV} {vs : List Value}, oneL l = true → denL ρ l vs → ∀ v ∈ vs, v.oneCell' = true
  | [], vs, _, hd, v, hv => by rw [denL_nil hd] at hv; cases hv
  | x :: r, vs, h, hd, v, hv => by
    obtain ⟨a, b, rfl, h1, h2⟩ := denL_cons hd
    simp only [oneL] at h
    split at h
    · rename_i hx
      rcases List.mem_cons.1 hv with rfl | hv
      · exact oneSV_ok hx h1
      · exact oneL_ok h h2 v hv
    · cases h

theorem allT_ok : ∀ {l : List (Nat × Nat)}, allT C l = true → ∀ p ∈ l, ∃ i, C.P.info? p.2 = some i
  | [], _, p, hp => by cases hp
  | (o, t) :: r, h, p, hp => by
    simp only [allT] at h
    split at h
    · rename_i ti hti
      obtain ⟨i, d, z, hi, _⟩ := (C.ty hti).ex
      rcases List.mem_cons.1 hp with rfl | hp
      · exact ⟨i, hi⟩
      · exact allT_ok h p hp
    · cases h

theorem run_places {P : Program} {w : World} : ∀ (l : List Field), (∀ f ∈ l, ∃ i, P.info? f.type = some i) →
    (l.mapM fun f => do pure (f.offset, ← sizeOf f.type) : Sem (List (Nat × Nat))).run P w = .ok (l.map fun f => (f.offset, P.cellsOf f.type)) w
  | [], _ => rfl
  | f :: r, h => by
    obtain ⟨i, hi⟩ := h f List.mem_cons_self
    have hs : P.cellsOf f.type = i.size := by simp [Program.cellsOf, hi]
    have := run_places (w := w) r (fun g hg => h g (List.mem_cons_of_mem _ hg))
    simp only [sizeOf, typeInfo] at this
    simp only [List.mapM_cons, Sem.run_bind, sizeOf, typeInfo, run_program, Result.andThen_ok, hi, Sem.run_pure, this, List.map_cons, hs]

theorem ex_build {P : Program} {w : World} {dst : Option Tmp} {ty : TypeId} {pos : String} {after : Array Edge} {guard : Option (Nat × Bool)} {s : TypeId} {parts : Array (Nat × Operand)} {fs : Array Field} {i : TypeInfo} {z : Value} {cs : Array Value}
    (hi : P.info? s = some i) (hz : i.zero = some z) (hd : P.underlying s = some (.struct fs)) (hall : ∀ f ∈ fs.toList, ∃ i, P.info? f.type = some i)
    (hf : Instr.fill (fun k => (fs.toList.map fun f => (f.offset, P.cellsOf f.type))[k]?) z.cells (parts.toList.map fun x => (x.1, a.eval x.2)) = some cs) :
    (execOp a.eval ⟨dst, .build s parts, ty, pos, after, guard⟩).run P w = .ok (.value (.agg cs)) w := by
  simp only [execOp, Instr.build, zeroValue, typeInfo, underlying, Sem.run_bind, run_program, Result.andThen_ok, hi, Sem.run_pure, hz, hd]
  rw [Array.mapM_eq_mapM_toList]
  simp only [Sem.run_map, run_places fs.toList hall, Result.andThen_ok, Array.toList_map]
  have e : (fun x : Nat => ((fs.toList.map fun f => (f.offset, P.cellsOf f.type)).toArray)[x]?) = fun k => (fs.toList.map fun f => (f.offset, P.cellsOf f.type))[k]? := by funext k; simp
  rw [e, hf]
  rfl
theorem ex_buildArr {P : Program} {w : World} {dst : Option Tmp} {ty : TypeId} {pos : String} {after : Array Edge} {guard : Option (Nat × Bool)} {s e : TypeId} {n : Nat} {parts : Array (Nat × Operand)} {i ei : TypeInfo} {z : Value} {cs : Array Value}
    (hi : P.info? s = some i) (hz : i.zero = some z) (hd : P.underlying s = some (.array n e)) (he : P.info? e = some ei)
    (hf : Instr.fill (fun k => some (k * ei.size, ei.size)) z.cells (parts.toList.map fun x => (x.1, a.eval x.2)) = some cs) :
    (execOp a.eval ⟨dst, .build s parts, ty, pos, after, guard⟩).run P w = .ok (.value (.agg cs)) w := by
  simp only [execOp, Instr.build, zeroValue, typeInfo, underlying, sizeOf, Sem.run_bind, run_program, Result.andThen_ok, hi, Sem.run_pure, hz, hd, he, Array.toList_map, hf]

theorem fillD_ok (h : OpOk op a ρ) {s : TypeId} {fs : Array Field} (hd : C.P.underlying s = some (.struct fs)) : ∀ {parts : List (Nat × Operand)} {ps : List (Nat × SV)} {z l : List SV} {zs : List Value}, opP op parts = some ps → fillD C s z ps = some l → denL ρ z zs →
    ∃ ls, denL ρ l ls ∧ Instr.fill (fun k => (fs.toList.map fun f => (f.offset, C.P.cellsOf f.type))[k]?) zs.toArray (parts.map fun x => (x.1, a.eval x.2)) = some ls.toArray
  | [], ps, z, l, zs, hp, hf, hz => by
    obtain rfl := Option.some.inj hp
    obtain rfl := Option.some.inj hf
    exact ⟨zs, hz, rfl⟩
  | (i, x) :: r, ps, z, l, zs, hp, hf, hz => by
    simp only [opP] at hp
    split at hp
    · rename_i u us hu hus
      obtain rfl := Option.some.inj hp
      simp only [fillD] at hf
      split at hf
      · rename_i off fi m hfi hm
        split at hf
        · rename_i b1 b2
          split at hf
          · rename_i z' hz'
            have hx := h [] x u hu (fun _ hp => by cases hp)
            have hc := cellsOfSV_ok hm hx
            obtain ⟨fs', f, i', d', e1, e2, e3, e4, e5, e6, e7⟩ := fieldD_ok hfi
            rw [hd] at e1
            obtain rfl : fs = fs' := by injection e1 with e1; injection e1
            have b1' := Nat.eq_of_beq_eq_true b1
            have b2' := Nat.le_of_ble_eq_true b2
            have hl := denL_length hc
            have hzl := denL_length hz
            have hsz : C.P.cellsOf f.type = fi.sz := by simp [Program.cellsOf, e4, e6]
            have hcs : (a.eval x).cells.size = fi.sz := by rw [← b1', ← hl]; simp
            have hzz : denL ρ z' (zs.take off ++ (a.eval x).cells.toList ++ zs.drop (off + fi.sz)) := by
              rw [laid_eq hz']
              exact denL_append (denL_append (denL_take _ hz) hc) (denL_drop _ hz)
            obtain ⟨ls, k1, k2⟩ := fillD_ok h hd hus hf hzz
            refine ⟨ls, k1, ?_⟩
            simp only [List.map_cons, Instr.fill]
            have e8 : (fs.toList.map fun f => (f.offset, C.P.cellsOf f.type))[i]? = some (off, fi.sz) := by
              rw [List.getElem?_map]
              have : fs.toList[i]? = some f := by simpa using e2
              rw [this]
              simp [e3, hsz]
            rw [e8]
            have hlen : (a.eval x).cells.toList.length = fi.sz := by simpa using hcs
            have hfs := foldl_sets (a.eval x).cells.toList 0 off zs.toArray (by simp; omega)
            rw [hlen] at hfs
            simp only [Nat.add_zero] at hfs
            rw [← k2, ← hfs]
            have hn : ¬ ((a.eval x).cells.size ≠ fi.sz || off + (a.eval x).cells.size > zs.toArray.size) = true := by
              simp only [hcs, List.size_toArray, ne_eq, not_true_eq_false, decide_false, Bool.false_or, decide_eq_true_eq]
              omega
            simp only [if_neg hn]
            congr 1
            simp only [← Array.foldl_toList, Array.toList_zipIdx]
          · cases hf
        · cases hf
      · cases hf
    · cases hp
theorem fillE_ok (h : OpOk op a ρ) {sz : Nat} : ∀ {parts : List (Nat × Operand)} {ps : List (Nat × SV)} {z l : List SV} {zs : List Value}, opP op parts = some ps → fillE sz z ps = some l → denL ρ z zs →
    ∃ ls, denL ρ l ls ∧ Instr.fill (fun i => some (i * sz, sz)) zs.toArray (parts.map fun x => (x.1, a.eval x.2)) = some ls.toArray
  | [], ps, z, l, zs, hp, hf, hz => by
    obtain rfl := Option.some.inj hp
    obtain rfl := Option.some.inj hf
    exact ⟨zs, hz, rfl⟩
  | (i, x) :: r, ps, z, l, zs, hp, hf, hz => by
    simp only [opP] at hp
    split at hp
    · rename_i u us hu hus
      obtain rfl := Option.some.inj hp
      simp only [fillE] at hf
      split at hf
      · rename_i m hm
        split at hf
        · rename_i b1 b2
          split at hf
          · rename_i z' hz'
            have hx := h [] x u hu (fun _ hp => by cases hp)
            have hc := cellsOfSV_ok hm hx
            have b1' := Nat.eq_of_beq_eq_true b1
            have b2' := Nat.le_of_ble_eq_true b2
            have hl := denL_length hc
            have hzl := denL_length hz
            have hcs : (a.eval x).cells.size = sz := by rw [← b1', ← hl]; simp
            have hzz : denL ρ z' (zs.take (i * sz) ++ (a.eval x).cells.toList ++ zs.drop (i * sz + sz)) := by
              rw [laid_eq hz']
              exact denL_append (denL_append (denL_take _ hz) hc) (denL_drop _ hz)
            obtain ⟨ls, k1, k2⟩ := fillE_ok h hus hf hzz
            refine ⟨ls, k1, ?_⟩
            simp only [List.map_cons, Instr.fill]
            have hlen : (a.eval x).cells.toList.length = sz := by simpa using hcs
            have hfs := foldl_sets (a.eval x).cells.toList 0 (i * sz) zs.toArray (by simp; omega)
            rw [hlen] at hfs
            simp only [Nat.add_zero] at hfs
            rw [← k2, ← hfs]
            have hn : ¬ ((a.eval x).cells.size ≠ sz || i * sz + (a.eval x).cells.size > zs.toArray.size) = true := by
              simp only [hcs, List.size_toArray, ne_eq, not_true_eq_false, decide_false, Bool.false_or, decide_eq_true_eq]
              omega
            simp only [if_neg hn]
            congr 1
            simp only [← Array.foldl_toList, Array.toList_zipIdx]
          · cases hf
        · cases hf
      · cases hf
    · cases hp
theorem repL_den {n : Nat} {z : List SV} {zs : List Value} (h : denL ρ z zs) : denL ρ (repL n z) ((List.replicate n zs).flatten) := by
  induction n with
  | zero => rfl
  | succ n ih => simp only [repL, List.replicate_succ, List.flatten_cons]; exact denL_append h ih
theorem flat_get {zs : List Value} (n j : Nat) (hz : 0 < zs.length) (hj : j < n * zs.length) : ((List.replicate n zs).flatten)[j]? = zs[j % zs.length]? := by
  induction n generalizing j with
  | zero => omega
  | succ n ih =>
    simp only [List.replicate_succ, List.flatten_cons]
    rcases Nat.lt_or_ge j zs.length with h | h
    · rw [List.getElem?_append_left h, Nat.mod_eq_of_lt h]
    · rw [List.getElem?_append_right h, ih (j - zs.length) (by rw [Nat.succ_mul] at hj; omega), ← Nat.mod_eq_sub_mod h]
theorem flat_len {zs : List Value} (n : Nat) : ((List.replicate n zs).flatten).length = n * zs.length := by
  induction n with
  | zero => simp
  | succ n ih => simp only [List.replicate_succ, List.flatten_cons, List.length_append, ih, Nat.succ_mul]; omega
theorem ex_buildSlice {P : Program} {w : World} {dst : Option Tmp} {ty : TypeId} {pos : String} {after : Array Edge} {guard : Option (Nat × Bool)} {t e : TypeId} {len : Nat} {parts : Array (Nat × Operand)} {i : TypeInfo} {z : Value} {ls : Array Value}
    (hd : P.underlying t = some (.slice e)) (hi : P.info? e = some i) (hz : i.zero = some z) (h0 : ¬ len * i.size = 0) (h1 : ¬ len * i.size > 2 ^ 24) (hzs : z.cells.size = i.size)
    (hf : Instr.fill (fun k => some (k * i.size, i.size)) ((List.replicate len z.cells.toList).flatten).toArray (parts.toList.map fun x => (x.1, a.eval x.2)) = some ls) :
    (execOp a.eval ⟨dst, .buildSlice t len parts, ty, pos, after, guard⟩).run P w = .ok (.value (.slice (some ⟨w.heap.size, 0, none⟩) len len)) (w.alloc (.cells ls e)) := by
  have harr : (Array.range (len * i.size)).map (fun x => z.cells[x % z.cells.size]!) = ((List.replicate len z.cells.toList).flatten).toArray := by
    apply Array.ext_getElem?
    intro j
    have hpos : 0 < z.cells.toList.length := by
      simp only [Array.length_toList, hzs]
      rcases Nat.eq_zero_or_pos i.size with h | h
      · rw [h] at h0; simp at h0
      · exact h
    rcases Nat.lt_or_ge j (len * i.size) with hj | hj
    · have hm : j % z.cells.size < z.cells.size := Nat.mod_lt _ (by simpa using hpos)
      have := flat_get (zs := z.cells.toList) len j hpos (by simpa [hzs] using hj)
      simp only [List.getElem?_toArray, this]
      simp [hj, hm]
    · rw [Array.getElem?_eq_none (by simpa using hj), Array.getElem?_eq_none (by simp only [List.size_toArray, flat_len]; simpa [hzs] using hj)]
  simp only [execOp, Instr.buildSlice, underlying, sizeOf, zeroValue, typeInfo, Sem.run_bind, run_program, Result.andThen_ok, hd, hi, Sem.run_pure, hz, if_neg h0, if_neg h1, harr, Array.toList_map, hf, newRow, run_newObj]
  rfl
theorem ex_buildSlice0 {P : Program} {w : World} {dst : Option Tmp} {ty : TypeId} {pos : String} {after : Array Edge} {guard : Option (Nat × Bool)} {t e : TypeId} {parts : Array (Nat × Operand)} {i : TypeInfo}
    (hd : P.underlying t = some (.slice e)) (hi : P.info? e = some i) (hp : parts.toList = []) :
    (execOp a.eval ⟨dst, .buildSlice t 0 parts, ty, pos, after, guard⟩).run P w = .ok (.value (.slice (some ⟨w.heap.size, 0, none⟩) 0 0)) (w.alloc (.cells #[] e)) := by
  have h1 : ¬ ((0 : Nat) > 2 ^ 24) := by decide
  have h2 : 0 * i.size = 0 := by omega
  have h3 : (Array.range 0) = #[] := rfl
  have h4 : ∀ q : Nat → Value, Array.map q #[] = #[] := fun q => by simp
  simp only [execOp, Instr.buildSlice, underlying, sizeOf, zeroValue, typeInfo, Sem.run_bind, run_program, Result.andThen_ok, hd, hi, Sem.run_pure, h2, if_neg h1, if_true, Array.toList_map, hp, List.map_nil, Instr.fill, newRow, run_newObj, h3, h4]
  rfl
end
end Go.Proofs.YtcojfohjdibjjaaGreatDoor
