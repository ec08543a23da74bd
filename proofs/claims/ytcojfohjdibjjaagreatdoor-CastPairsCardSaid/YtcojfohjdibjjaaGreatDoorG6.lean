/- A symbolic executor with lists, 7: slices, append, stores. -/
import Derived.Test.YtcojfohjdibjjaaGreatDoorG5
namespace Go.Proofs.YtcojfohjdibjjaaGreatDoor
open Go.RowKit

section
variable {PP : Program} {C : Cx PP} {op : OpF} {a : Act} {ρ : Names} {W W' : World} {H : Heap} {nm : Nat}

/-! ### What is read of a slice -/
def rowC (W : World) (b o n : Nat) : List Value := (List.range n).map fun j => (W.cell? ⟨b, o + j, none⟩).getD undef
theorem rowC_get {b o n j : Nat} {v : Value} (hj : j < n) (h : W.cell? ⟨b, o + j, none⟩ = some v) : (rowC W b o n)[j]? = some v := by
  simp [rowC, List.getElem?_range hj, h]
/-- What elements read as. -/
def Elems (ρ : Names) (sz m : Nat) (k : Nat → List SV) (news : List Value) : Prop := ∀ i, i < m → ∃ us, denL ρ.zo (k i) us ∧ us.length = sz ∧ ∀ (q : Nat) (c : Value), us[q]? = some c → news[i * sz + q]? = some c
theorem row_ok {P : Program} {b o m sz : Nat} {k : Nat → List SV} (hsz : 0 < sz) (h : ∀ i, i < m → ∃ us, denL ρ.zo (k i) us ∧ us.length = sz ∧ ∀ (q : Nat) (c : Value), us[q]? = some c → W.cell? ⟨b, o + i * sz + q, none⟩ = some c ∧ c.oneCell' = true ∧ plainB W b) (len cap : Nat) :
    Firsts P W sz m (.slice (some ⟨b, o, none⟩) len cap) (rowC W b o (m * sz)) ∧ (∀ c ∈ rowC W b o (m * sz), c.oneCell' = true) ∧ Elems ρ sz m k (rowC W b o (m * sz)) := by
  have hall : ∀ j, j < m * sz → ∃ c, W.cell? ⟨b, o + j, none⟩ = some c ∧ c.oneCell' = true ∧ plainB W b := by
    intro j hj
    have h1 : j / sz < m := Nat.div_lt_of_lt_mul (by rw [Nat.mul_comm]; exact hj)
    obtain ⟨us, -, k2, k3⟩ := h (j / sz) h1
    have h2 : j % sz < us.length := by rw [k2]; exact Nat.mod_lt _ hsz
    have h3 := k3 (j % sz) us[j % sz] (by simp [h2])
    have h4 : o + j / sz * sz + j % sz = o + j := by
      have := Nat.div_add_mod' j sz
      omega
    rw [h4] at h3
    exact ⟨_, h3⟩
  refine ⟨firsts_some (by simp [rowC]) fun j u hj => ?_, fun c hc => ?_, fun i hi => ?_⟩
  · have hlt : j < m * sz := by
      have := (List.getElem?_eq_some_iff.1 hj).1
      simpa [rowC] using this
    obtain ⟨c, h1, -⟩ := hall j hlt
    rw [rowC_get hlt h1] at hj
    rw [addr_add, ← Option.some.inj hj]
    exact h1
  · obtain ⟨j, hj⟩ := List.mem_iff_getElem?.1 hc
    have hlt : j < m * sz := by
      have := (List.getElem?_eq_some_iff.1 hj).1
      simpa [rowC] using this
    obtain ⟨c', h1, h2⟩ := hall j hlt
    rw [rowC_get hlt h1] at hj
    rw [← Option.some.inj hj]; exact h2.1
  · obtain ⟨us, k1, k2, k3⟩ := h i hi
    refine ⟨us, k1, k2, fun q c hq => ?_⟩
    have hql : q < sz := by rw [← k2]; exact (List.getElem?_eq_some_iff.1 hq).1
    have hlt : i * sz + q < m * sz := by
      have : i * sz + sz ≤ m * sz := by rw [← Nat.succ_mul]; exact Nat.mul_le_mul_right _ hi
      omega
    exact rowC_get hlt (by rw [← Nat.add_assoc]; exact (k3 q c hq).1)

theorem readS_ok (hH : HOk C H ρ W) {sz m : Nat} {k : Nat → List SV} {y : SV} {v : Value} (hsz : 0 < sz) (h : readS H sz y = some (m, k)) (hd : den ρ y v) :
    ∃ ad c news, v = .slice ad m c ∧ Firsts C.P W sz m v news ∧ (∀ c ∈ news, c.oneCell' = true) ∧ Elems ρ sz m k news := by
  have hnil : ∀ (ad : Option Addr) (c : Nat), Firsts C.P W sz 0 (.slice ad 0 c) [] := fun ad c => by
    cases ad with
    | none => exact firsts_none
    | some ad => exact firsts_some (by simp) fun j u hj => by simp at hj
  have hempty : ∀ (ad : Option Addr) (c : Nat) (k : Nat → List SV), ∃ ad' c' news, Value.slice ad 0 c = .slice ad' 0 c' ∧ Firsts C.P W sz 0 (.slice ad 0 c) news ∧ (∀ c ∈ news, c.oneCell' = true) ∧ Elems ρ sz 0 k news :=
    fun ad c k => ⟨ad, c, [], rfl, hnil ad c, (fun c hc => by cases hc), fun i hi => absurd hi (by omega)⟩
  unfold readS at h
  split at h
  · obtain ⟨rfl, rfl⟩ := Prod.mk.inj (Option.some.inj h)
    obtain ⟨ad, rfl⟩ := hd
    exact hempty ad 0 _
  · obtain ⟨rfl, rfl⟩ := Prod.mk.inj (Option.some.inj h)
    obtain rfl : v = _ := hd
    exact hempty none 0 _
  · split at h
    · rename_i sz' n hh _ hb
      have hb := Nat.eq_of_beq_eq_true hb
      subst hb
      obtain ⟨rfl, rfl⟩ := Prod.mk.inj (Option.some.inj h)
      obtain ⟨ad, cap, rfl, e2, e3⟩ := hd
      rcases Nat.eq_zero_or_pos n with rfl | hn
      · exact hempty ad cap _
      · obtain ⟨b, o, u, rfl, -⟩ := e3 0 hn
        have key := row_ok (P := C.P) (ρ := ρ) (W := W) (b := b) (o := o) (m := n) (k := hh) hsz (fun i hi => by
          obtain ⟨b', o', u', k1, k2, k3, k4⟩ := e3 i hi
          injection k1 with k1
          injection k1 with k1 k1'
          subst k1 k1'
          exact ⟨u', k2, k3, fun q c hc => hH.hb.zok _ _ _ (k4 q c hc)⟩) n cap
        exact ⟨_, _, _, rfl, key⟩
    · cases h
  · split at h
    · rename_i l e sz' off n _ _ N hh t hl hb
      have hb := Nat.eq_of_beq_eq_true hb
      subst hb
      obtain ⟨rfl, rfl⟩ := Prod.mk.inj (Option.some.inj h)
      obtain ⟨ad, cap, rfl, e2, e3⟩ := lst_elems hH (lsts_ok hl) hd
      rcases Nat.eq_zero_or_pos n with rfl | hn
      · exact hempty ad cap _
      · obtain ⟨b, o, u, rfl, -⟩ := e3 0 hn
        have key := row_ok (P := C.P) (ρ := ρ) (W := W) (b := b) (o := o) (m := n) (k := fun i => hh (off + i)) hsz (fun i hi => by
          obtain ⟨b', o', u', k1, k2, k3, k4⟩ := e3 i hi
          injection k1 with k1
          injection k1 with k1 k1'
          subst k1 k1'
          exact ⟨u', k2, k3, k4.1⟩) n cap
        exact ⟨_, _, _, rfl, key⟩
    · cases h
  · split at h
    · rename_i l i sz' off n _ _ e esz N hh p g tk t hl hb
      have hb := Nat.eq_of_beq_eq_true hb
      subst hb
      obtain ⟨rfl, rfl⟩ := Prod.mk.inj (Option.some.inj h)
      obtain ⟨ad, cap, rfl, e2, e3⟩ := kid_elems hH (kids_ok hl) hd
      rcases Nat.eq_zero_or_pos n with rfl | hn
      · exact hempty ad cap _
      · obtain ⟨b, o, u, rfl, -⟩ := e3 0 hn
        have key := row_ok (P := C.P) (ρ := ρ) (W := W) (b := b) (o := o) (m := n) (k := fun j => (g i).2 (off + j)) hsz (fun i hi => by
          obtain ⟨b', o', u', k1, k2, k3, k4⟩ := e3 i hi
          injection k1 with k1
          injection k1 with k1 k1'
          subst k1 k1'
          exact ⟨u', k2, k3, k4.1⟩) n cap
        exact ⟨_, _, _, rfl, key⟩
    · cases h
  · split at h
    · rename_i n sz' off len cap _ _ cs t hl hb
      have hb := Nat.eq_of_beq_eq_true hb
      subst hb
      split at h
      · rename_i l hlaid
        have hl2 := laid_eq hlaid
        obtain ⟨b, e1, rfl⟩ := hd
        obtain ⟨b', vs, k1, k2, k3, k4, k5⟩ := hH.blk n _ (lays_ok hl)
        rw [e1] at k1
        obtain rfl := Option.some.inj k1
        have key : ∀ (k : Nat → List SV), Nat.beq l.length (len * sz) = true → pureL l = true → (∀ i, i < len → k i = chunk l sz i) →
            ∃ ad c news, Value.slice (some ⟨b, off, none⟩) len cap = .slice ad len c ∧ Firsts C.P W sz len (.slice (some ⟨b, off, none⟩) len cap) news ∧ (∀ c ∈ news, c.oneCell' = true) ∧ Elems ρ sz len k news := by
          intro k b1 b2 hk
          have b1 := Nat.eq_of_beq_eq_true b1
          have hdl : denL ρ.zo l ((vs.drop off).take (len * sz)) := pureL_den _ _ b2 (by rw [hl2]; exact denL_take _ (denL_drop _ k2))
          have hlen := denL_length hdl
          rw [b1] at hlen
          refine ⟨_, _, _, rfl, row_ok (P := C.P) (ρ := ρ) (W := W) (b := b) (o := off) (m := len) (k := k) hsz (fun i hi => ?_) len cap⟩
          rw [hk i hi]
          refine ⟨_, chunk_den sz i hdl, ?_, fun q c hq => ?_⟩
          · have : i * sz + sz ≤ len * sz := by rw [← Nat.succ_mul]; exact Nat.mul_le_mul_right _ hi
            rw [List.length_take, List.length_drop, hlen]
            omega
          · rw [List.getElem?_take] at hq
            split at hq
            · rw [List.getElem?_drop, List.getElem?_take] at hq
              split at hq
              · rw [List.getElem?_drop] at hq
                refine ⟨?_, zc_blk k3 (k4 c (List.mem_of_getElem? hq))⟩
                rw [k3.cell]
                simpa [Nat.add_assoc] using hq
              · cases hq
            · cases hq
        split at h
        · have b2 : pureL l = true := by assumption
          have b1 : Nat.beq l.length (1 * sz) = true := by assumption
          obtain ⟨rfl, rfl⟩ := Prod.mk.inj (Option.some.inj h)
          refine key _ b1 b2 fun i hi => ?_
          obtain rfl : i = 0 := by omega
          have b1 := Nat.eq_of_beq_eq_true b1
          simp only [chunk, Nat.zero_mul, List.drop_zero]
          rw [List.take_of_length_le (by omega)]
        · have b2 : pureL l = true := by assumption
          obtain ⟨rfl, rfl⟩ := Prod.mk.inj (Option.some.inj h)
          exact key _ (by assumption) b2 fun i hi => rfl
        · cases h
      · cases h
    · cases h
  · cases h

/-! ### append -/
theorem elemT_ok {t e : Nat} {ei : TI} (h : elemT C t = some (e, ei)) : ∃ i z, C.P.underlying t = some (.slice e) ∧ C.P.info? e = some i ∧ i.size = ei.sz ∧ i.bytes = ei.nb ∧ i.zero = some z ∧ zeroEqL z.cells.toList ei.z = true := by
  unfold elemT at h
  split at h
  · cases h
  · rename_i ti hti
    obtain ⟨i, d, z, hi, hdd, hs, hz, hzz, hk, -⟩ := (C.ty hti).ex
    split at h
    · cases h
    · rename_i e' he
      split at h
      · rename_i ei' hei
        obtain ⟨rfl, rfl⟩ := Prod.mk.inj (Option.some.inj h)
        obtain ⟨i2, d2, z2, hi2, hdd2, hs2, hz2, hzz2, hk2, hb2⟩ := (C.ty hei).ex
        have hd : d = .slice e' := by
          cases htk : ti.k with
          | sl e2 =>
            rw [htk] at he hk
            obtain rfl := Option.some.inj he
            cases d with
            | slice e3 => simp only [kindEq, beq_iff_eq] at hk; rw [hk]
            | _ => simp [kindEq] at hk
          | _ => rw [htk] at he; cases he
        subst hd
        exact ⟨i2, z2, hdd, hi2, hs2, hb2, hz2, hzz2⟩
      · cases h
theorem arrT_ok {t len e : Nat} {ei : TI} (h : arrT C t = some (len, e, ei)) : ∃ i d, C.P.underlying t = some (.array len e) ∧ C.P.info? e = some i ∧ i.size = ei.sz ∧ C.P.underlying e = some d ∧ kindEq d ei.k = true := by
  unfold arrT at h
  split at h
  · cases h
  · rename_i ti hti
    obtain ⟨i, d, z, hi, hdd, hs, hz, hzz, hk, -⟩ := (C.ty hti).ex
    split at h
    · rename_i n e' hk'
      split at h
      · rename_i ei' hei
        obtain ⟨rfl, h2⟩ := Prod.mk.inj (Option.some.inj h)
        obtain ⟨rfl, rfl⟩ := Prod.mk.inj h2
        obtain ⟨i2, d2, z2, hi2, hdd2, hs2, hz2, hzz2, hk2, hb2⟩ := (C.ty hei).ex
        rw [hk'] at hk
        have hd : d = .array n e' := by
          cases d <;> simp [kindEq] at hk
          obtain ⟨rfl, rfl⟩ := hk
          rfl
        subst hd
        exact ⟨i2, d2, hdd, hi2, hs2, hdd2, hk2⟩
      · cases h
    · cases h

theorem fits {n : Nat} {i : TypeInfo} {nb : Nat} (h : fitO n nb) (e : i.bytes = nb) : n ≤ maxLen ∧ n * i.bytes ≤ 140737488355328 := by rw [e]; exact h

theorem zeros_one {z : Value} {l : List SV} {n : Nat} (h : zeroEqL z.cells.toList l = true) : ∀ c ∈ (Builtin.zeroCells z.cells n).toList, c.oneCell' = true := by
  intro c hc
  simp only [Builtin.zeroCells, Array.toList_map, Array.toList_range, List.mem_map, List.mem_range] at hc
  obtain ⟨j, hj, rfl⟩ := hc
  rcases Nat.eq_zero_or_pos z.cells.size with h0 | h0
  · rw [h0] at hj; simp at hj
  · have hm : j % z.cells.size < z.cells.size := Nat.mod_lt _ h0
    rw [getElem!_pos z.cells _ hm]
    exact zeroEqL_one h _ (by simp)
theorem zeros_len (z : Array Value) (n : Nat) : (Builtin.zeroCells z n).toList.length = n * z.size := by simp [Builtin.zeroCells]

/-- A new list that holds what is appended to nothing. -/
theorem app_new (hb : HB C ρ W) (hf : ρ.v nm = none) {t ty e : TypeId} {i : TypeInfo} {z : Value} {ei : TI} (ht : C.P.underlying t = some (.slice e)) (hi : C.P.info? e = some i) (hs : i.size = ei.sz) (hby : i.bytes = ei.nb) (hz : i.zero = some z) (hzz : zeroEqL z.cells.toList ei.z = true) (hzl : ei.z.length = ei.sz)
    {ad ad' : Option Addr} {m c : Nat} {k : Nat → List SV} {news : List Value} (hn : Firsts C.P W ei.sz m (.slice ad' m c) news) (h1 : ∀ c ∈ news, c.oneCell' = true) (hk : Elems ρ ei.sz m k news) (hfit : fitO m ei.nb) :
    ∃ y W', (Builtin.append_ #[t, t] ty #[.slice ad 0 0, .slice ad' m c]).run C.P W = .ok y W' ∧ DPost C ρ W nm ⟨some (fitO m ei.nb), .g nm nm ei.sz 0 m, some (nm, .lst nm ei.sz m k e), true⟩ y W' := by
  have hlen := hn.1
  have hzc : z.cells.size = ei.sz := by
    have := denL_length (zeroEqL_den (ρ := ρ) hzz)
    rw [← hzl, ← this]; simp
  rcases Nat.eq_zero_or_pos m with rfl | hm
  · obtain rfl : news = [] := List.eq_nil_of_length_eq_zero (by simpa using hlen)
    refine ⟨_, W, run_app_nil ht hi (by rw [hs]; exact hn) (Nat.le_refl _), ρ.addv nm ⟨nm, ad, 0, 0⟩, eff_addv (l := ⟨nm, ad, 0, 0⟩) hb hf (Gr.refl W) (fun h => absurd rfl h), fun n sb h => ?_, ?_⟩
    · obtain ⟨rfl, rfl⟩ := Prod.mk.inj (Option.some.inj h)
      exact ⟨_, Names.addv_self, rfl, rfl, Nat.le_refl _, fun h => absurd rfl h⟩
    · exact ⟨_, Names.addv_self, rfl, Nat.le_refl _, Nat.le_refl _, ad, rfl, fun h => absurd rfl h⟩
  · have hnil : Firsts C.P W i.size 0 (.slice ad 0 0) [] := by
      cases ad with
      | none => exact firsts_none
      | some ad => exact firsts_some (by simp) fun j u hj => by simp at hj
    have hf2 := fits (i := i) hfit hby
    have hge := grownCap_ge W (0 + m) 0 e
    have hrun := run_app_grow (P := C.P) (w := W) (ty := ty) (c := c) ht hi hz hnil (by rw [hs]; exact hn) (by omega) (by simpa using hf2.1) (by simpa using hf2.2)
    have g : Gr W (W.drew.alloc (.cells ((#[] : Array Value) ++ news.toArray ++ Builtin.zeroCells z.cells (grownCap W (0 + m) 0 e - (0 + m))) e)) := (Gr.refl W).drew.alloc _
    refine ⟨_, _, hrun, ρ.addv nm ⟨nm, some ⟨W.heap.size, 0, none⟩, grownCap W (0 + m) 0 e, m⟩, eff_addv (l := ⟨nm, some ⟨W.heap.size, 0, none⟩, grownCap W (0 + m) 0 e, m⟩) hb hf g (fun _ b o h => ?_), fun n sb h => ?_, ?_⟩
    · injection h with h
      injection h with h
      subst h
      exact ⟨Nat.le_refl _, by simp⟩
    · obtain ⟨rfl, rfl⟩ := Prod.mk.inj (Option.some.inj h)
      refine ⟨_, Names.addv_self, rfl, rfl, (by show m ≤ grownCap W (0 + m) 0 e; omega), fun _ => ⟨W.heap.size, news ++ (Builtin.zeroCells z.cells (grownCap W (0 + m) 0 e - (0 + m))).toList, rfl, ?_, ?_, ?_, ?_, ?_⟩⟩
      · have : Blk (W.drew.alloc (.cells ((#[] : Array Value) ++ news.toArray ++ Builtin.zeroCells z.cells (grownCap W (0 + m) 0 e - (0 + m))) e)) W.heap.size _ e := Blk.new (w := W.drew) rfl
        have e2 : (news ++ (Builtin.zeroCells z.cells (grownCap W (0 + m) 0 e - (0 + m))).toList).toArray = (#[] : Array Value) ++ news.toArray ++ Builtin.zeroCells z.cells (grownCap W (0 + m) 0 e - (0 + m)) := by
          apply Array.ext'; simp
        rw [e2]; exact this
      · rw [List.length_append, hlen, zeros_len, hzc, ← Nat.add_mul]
        congr 1
        dsimp only
        omega
      · intro c hc
        rcases List.mem_append.1 hc with hc | hc
        · exact h1 c hc
        · exact zeros_one hzz c hc
      · intro i' c hz'
        have := cell_lt (hb.zok _ i' c hz').1; omega
      · intro i' hi'
        obtain ⟨us, k1, k2, k3⟩ := hk i' hi'
        exact ⟨us, k1, k2, fun q c hq => by
          have := k3 q c hq
          rw [List.getElem?_append_left (List.getElem?_eq_some_iff.1 this).1]
          exact this⟩
    · refine ⟨_, Names.addv_self, rfl, by simp, (by show m ≤ grownCap W (0 + m) 0 e; omega), some ⟨W.heap.size, 0, none⟩, by simp, fun _ => ⟨W.heap.size, rfl, by simp⟩⟩

theorem appF_old {n i : Nat} {h k : Nat → List SV} {us : List Value} (hi : i < n) (ha : ∀ j, alikeL (k j) (h i)) (hd : denL ρ (h i) us) : denL ρ (appF n h k i) us := by
  have hb : Nat.ble n i = false := by
    cases hb : Nat.ble n i with
    | false => rfl
    | true => have := Nat.le_of_ble_eq_true hb; omega
  unfold appF
  rw [hb]
  exact jnL_false _ _ _ (ha _) hd
theorem appF_new {n i : Nat} {h k : Nat → List SV} {us : List Value} (hi : n ≤ i) (hd : denL ρ (k (i - n)) us) : denL ρ (appF n h k i) us := by
  have hb : Nat.ble n i = true := Nat.ble_eq_true_of_le hi
  unfold appF
  rw [hb]
  exact jnL_true _ _ _ hd

theorem app_ok (hH : HOk C H ρ W) (hf : ρ.v nm = none) {t ty : TypeId} {x y : SV} {u v : Value} {r : DR} (hD : appD C H nm t x y = some r) (ho : r.Ob) (hx : den ρ x u) (hy : den ρ y v) :
    ∃ w W', (Builtin.append_ #[t, t] ty #[u, v]).run C.P W = .ok w W' ∧ DPost C ρ W nm r w W' := by
  unfold appD at hD
  split at hD
  · cases hD
  rename_i e ei hei
  obtain ⟨i, z, ht, hi, hs, hby, hz, hzz⟩ := elemT_ok hei
  split at hD
  · rename_i m k b0 b1 hr
    have hsz : 0 < ei.sz := by
      rcases Nat.eq_zero_or_pos ei.sz with h | h
      · rw [h] at b0; cases b0
      · exact h
    have hzl := Nat.eq_of_beq_eq_true b1
    have hzc : z.cells.size = ei.sz := by
      have := denL_length (zeroEqL_den (ρ := ρ) hzz)
      rw [← hzl, ← this]; simp
    obtain ⟨ad', c', news, rfl, hn, h1, hk⟩ := readS_ok hH hsz hr hy
    split at hD
    · obtain rfl := Option.some.inj hD
      obtain ⟨ad, rfl⟩ := hx
      exact app_new hH.hb hf ht hi hs hby hz hzz hzl hn h1 hk ho
    · obtain rfl := Option.some.inj hD
      obtain rfl : u = _ := hx
      exact app_new hH.hb hf ht hi hs hby hz hzz hzl hn h1 hk ho
    · rename_i l ep sz n
      split at hD
      · rename_i N h e' hl b2
        have b2 := Nat.eq_of_beq_eq_true b2
        subst b2
        split at hD
        · rename_i b3
          have b3 := Nat.eq_of_beq_eq_true b3
          subst b3
          obtain rfl := Option.some.inj hD
          obtain ⟨hfit, halike⟩ := ho
          have hf2 := fits (i := i) hfit hby
          obtain ⟨lv, p1, po, p2, p3, a', rfl, p5⟩ := hx
          obtain ⟨lv', q1, q2, q3, q4, q5⟩ := hH.blk l _ (lsts_ok hl)
          rw [p1] at q1
          obtain rfl := Option.some.inj q1
          simp only [Nat.sub_zero, Nat.zero_add, Nat.zero_mul] at p2 p5 ⊢
          have hlen := hn.1
          by_cases hc : lv.cap = 0
          · -- no room at all: it was empty
            obtain rfl : n = 0 := by omega
            rw [hc]
            obtain ⟨w, W', k1, ρ', k2, k3, k4⟩ := app_new (ty := ty) (ad := a') hH.hb hf ht hi hs hby hz hzz hzl hn h1 hk (by simpa using hfit)
            rcases Nat.eq_zero_or_pos m with rfl | hm
            · obtain rfl : news = [] := List.eq_nil_of_length_eq_zero (by simpa using hlen)
              refine ⟨_, W, run_app_nil ht hi (by rw [hs]; exact hn) (Nat.le_refl _), ρ.addv nm ⟨l, a', 0, 0⟩, eff_samev (l := ⟨l, a', 0, 0⟩) hH.hb hf (fun h => absurd rfl h), fun n' sb' h' => ?_, ?_⟩
              · obtain ⟨rfl, rfl⟩ := Prod.mk.inj (Option.some.inj h')
                exact ⟨_, Names.addv_self, rfl, rfl, Nat.le_refl _, fun h => absurd rfl h⟩
              · exact ⟨_, Names.addv_self, rfl, Nat.le_refl _, Nat.le_refl _, a', rfl, fun h => absurd rfl h⟩
            · have hnil : Firsts C.P W i.size 0 (.slice a' 0 0) [] := by
                cases a' with
                | none => exact firsts_none
                | some ad => exact firsts_some (by simp) fun j u hj => by simp at hj
              have hge := grownCap_ge W (0 + m) 0 e
              have hrun := run_app_grow (P := C.P) (w := W) (ty := ty) (c := c') ht hi hz hnil (by rw [hs]; exact hn) (by omega) (by simpa using hf2.1) (by simpa using hf2.2)
              have g : Gr W (W.drew.alloc (.cells ((#[] : Array Value) ++ news.toArray ++ Builtin.zeroCells z.cells (grownCap W (0 + m) 0 e - (0 + m))) e)) := (Gr.refl W).drew.alloc _
              refine ⟨_, _, hrun, ρ.addv nm ⟨l, some ⟨W.heap.size, 0, none⟩, grownCap W (0 + m) 0 e, m⟩, eff_addv (l := ⟨l, some ⟨W.heap.size, 0, none⟩, grownCap W (0 + m) 0 e, m⟩) hH.hb hf g (fun _ b o h => ?_), fun n' sb' h' => ?_, ?_⟩
              · injection h with h
                injection h with h
                subst h
                exact ⟨Nat.le_refl _, by simp⟩
              · obtain ⟨rfl, rfl⟩ := Prod.mk.inj (Option.some.inj h')
                refine ⟨_, Names.addv_self, rfl, (by show m = 0 + m; omega), (by show 0 + m ≤ grownCap W (0 + m) 0 e; omega), fun _ => ⟨W.heap.size, news ++ (Builtin.zeroCells z.cells (grownCap W (0 + m) 0 e - (0 + m))).toList, rfl, ?_, ?_, ?_, ?_, ?_⟩⟩
                · have : Blk (W.drew.alloc (.cells ((#[] : Array Value) ++ news.toArray ++ Builtin.zeroCells z.cells (grownCap W (0 + m) 0 e - (0 + m))) e)) W.heap.size _ e := Blk.new (w := W.drew) rfl
                  have e2 : (news ++ (Builtin.zeroCells z.cells (grownCap W (0 + m) 0 e - (0 + m))).toList).toArray = (#[] : Array Value) ++ news.toArray ++ Builtin.zeroCells z.cells (grownCap W (0 + m) 0 e - (0 + m)) := by
                    apply Array.ext'; simp
                  rw [e2]; exact this
                · rw [List.length_append, hlen, zeros_len, hzc, ← Nat.add_mul]
                  congr 1
                  dsimp only
                  omega
                · intro c hc
                  rcases List.mem_append.1 hc with hc | hc
                  · exact h1 c hc
                  · exact zeros_one hzz c hc
                · intro i' c hz'
                  have := cell_lt (hH.hb.zok _ i' c hz').1; omega
                · intro i' hi'
                  obtain ⟨us, k1, k2, k3⟩ := hk i' (by omega)
                  exact ⟨us, appF_new (Nat.zero_le _) (by rw [Nat.sub_zero]; exact k1), k2, fun q c hq => by
                    have := k3 q c hq
                    rw [List.getElem?_append_left (List.getElem?_eq_some_iff.1 this).1]
                    exact this⟩
              · refine ⟨_, Names.addv_self, rfl, by simp, (by show m ≤ grownCap W (0 + m) 0 e; omega), some ⟨W.heap.size, 0, none⟩, by simp, fun _ => ⟨W.heap.size, rfl, by simp⟩⟩
          · obtain ⟨b, hb1, rfl⟩ := p5 hc
            obtain ⟨b', cur, s1, s2, s3, s4, s5, s6⟩ := q5 hc
            rw [hb1] at s1
            obtain rfl : b = b' := by injection s1 with s1; injection s1
            have hown : Owns ρ l b := .inr (.inl ⟨ep, lv, 0, p1, q2, hc, hb1⟩)
            by_cases hroom : n + m ≤ lv.cap
            · -- in place
              have hmul : (n + m) * ei.sz ≤ lv.cap * ei.sz := Nat.mul_le_mul_right _ hroom
              rw [Nat.add_mul] at hmul
              have hrun := run_app_room (P := C.P) (w := W) (ty := ty) (c := c') (sCap := lv.cap) ht hi s2 (by rw [hs]; exact hn) h1 hroom (by rw [hs, hlen]; simp; omega)
              rw [hs, hlen, show cur.toArray.toList = cur by simp] at hrun
              refine ⟨_, _, hrun, ρ.addv nm ⟨l, some ⟨b, 0, none⟩, lv.cap, n + m⟩, eff_rowv (l := ⟨l, some ⟨b, 0, none⟩, lv.cap, n + m⟩) hH.hb hf hown s5 rfl, fun n' sb' h' => ?_, ?_⟩
              · obtain ⟨rfl, rfl⟩ := Prod.mk.inj (Option.some.inj h')
                have hl1 : (cur.take (n * ei.sz)).length = n * ei.sz := by rw [List.length_take]; omega
                refine ⟨_, Names.addv_self, rfl, rfl, hroom, fun _ => ⟨b, _, rfl, setRow_heap W b _ _ _ _ s2, ?_, ?_, s5, fun i' hi' => ?_⟩⟩
                · simp only [List.length_append, List.length_take, List.length_drop, hlen]; omega
                · intro c hc
                  rcases List.mem_append.1 hc with hc | hc
                  · rcases List.mem_append.1 hc with hc | hc
                    · exact s4 c (List.mem_of_mem_take hc)
                    · exact h1 c hc
                  · exact s4 c (List.mem_of_mem_drop hc)
                · rcases Nat.lt_or_ge i' n with hlt | hge
                  · obtain ⟨us, k1, k2, k3⟩ := s6 i' (by omega)
                    refine ⟨us, appF_old hlt (halike i' hlt) k1, k2, fun q c hq => ?_⟩
                    have hql : q < ei.sz := by rw [← k2]; exact (List.getElem?_eq_some_iff.1 hq).1
                    have hmul2 : i' * ei.sz + ei.sz ≤ n * ei.sz := by rw [← Nat.succ_mul]; exact Nat.mul_le_mul_right _ hlt
                    rw [List.append_assoc, List.getElem?_append_left (by omega), List.getElem?_take_of_lt (by omega)]
                    exact k3 q c hq
                  · obtain ⟨us, k1, k2, k3⟩ := hk (i' - n) (by omega)
                    refine ⟨us, appF_new hge k1, k2, fun q c hq => ?_⟩
                    have h3 := k3 q c hq
                    have h4 : i' * ei.sz + q = n * ei.sz + ((i' - n) * ei.sz + q) := by
                      rw [← Nat.add_assoc, ← Nat.add_mul]; congr 2; omega
                    rw [List.append_assoc, List.getElem?_append_right (by omega), hl1, List.getElem?_append_left (by have := (List.getElem?_eq_some_iff.1 h3).1; omega)]
                    rw [h4, Nat.add_sub_cancel_left]
                    exact h3
              · exact ⟨_, Names.addv_self, rfl, by simp, hroom, some ⟨b, 0, none⟩, by simp, fun _ => ⟨b, rfl, by simp⟩⟩
            · -- elsewhere
              have hlo : (cur.take (n * ei.sz)).length = n * ei.sz := by
                have : n * ei.sz ≤ lv.cap * ei.sz := Nat.mul_le_mul_right _ (by omega)
                rw [List.length_take]; omega
              have hold : Firsts C.P W i.size n (.slice (some ⟨b, 0, none⟩) n lv.cap) (cur.take (n * ei.sz)) := firsts_some (by rw [hs]; exact hlo) fun j u hj => by
                rw [addr_add, Nat.zero_add, s2.cell]
                rw [List.getElem?_take] at hj
                split at hj
                · simpa using hj
                · cases hj
              have hge := grownCap_ge W (n + m) lv.cap e
              have hrun := run_app_grow (P := C.P) (w := W) (ty := ty) (c := c') ht hi hz hold (by rw [hs]; exact hn) (by omega) hf2.1 hf2.2
              refine ⟨_, _, hrun, ρ.addv nm ⟨l, some ⟨W.heap.size, 0, none⟩, grownCap W (n + m) lv.cap e, n + m⟩, eff_addv (l := ⟨l, some ⟨W.heap.size, 0, none⟩, grownCap W (n + m) lv.cap e, n + m⟩) hH.hb hf ((Gr.refl W).drew.alloc _) (fun _ b o h => ?_), fun n' sb' h' => ?_, ?_⟩
              · injection h with h
                injection h with h
                subst h
                exact ⟨Nat.le_refl _, by simp⟩
              · obtain ⟨rfl, rfl⟩ := Prod.mk.inj (Option.some.inj h')
                refine ⟨_, Names.addv_self, rfl, rfl, hge, fun _ => ⟨W.heap.size, cur.take (n * ei.sz) ++ news ++ (Builtin.zeroCells z.cells (grownCap W (n + m) lv.cap e - (n + m))).toList, rfl, ?_, ?_, ?_, ?_, fun i' hi' => ?_⟩⟩
                · have : Blk (W.drew.alloc (.cells ((cur.take (n * ei.sz)).toArray ++ news.toArray ++ Builtin.zeroCells z.cells (grownCap W (n + m) lv.cap e - (n + m))) e)) W.heap.size _ e := Blk.new (w := W.drew) rfl
                  have e2 : (cur.take (n * ei.sz) ++ news ++ (Builtin.zeroCells z.cells (grownCap W (n + m) lv.cap e - (n + m))).toList).toArray = (cur.take (n * ei.sz)).toArray ++ news.toArray ++ Builtin.zeroCells z.cells (grownCap W (n + m) lv.cap e - (n + m)) := by
                    apply Array.ext'; simp
                  rw [e2]; exact this
                · rw [List.length_append, List.length_append, hlo, hlen, zeros_len, hzc, ← Nat.add_mul, ← Nat.add_mul]
                  congr 1
                  dsimp only
                  omega
                · intro c hc
                  rcases List.mem_append.1 hc with hc | hc
                  · rcases List.mem_append.1 hc with hc | hc
                    · exact s4 c (List.mem_of_mem_take hc)
                    · exact h1 c hc
                  · exact zeros_one hzz c hc
                · intro i' c hz'
                  have := cell_lt (hH.hb.zok _ i' c hz').1; omega
                · rcases Nat.lt_or_ge i' n with hlt | hge
                  · obtain ⟨us, k1, k2, k3⟩ := s6 i' (by omega)
                    refine ⟨us, appF_old hlt (halike i' hlt) k1, k2, fun q c hq => ?_⟩
                    have hql : q < ei.sz := by rw [← k2]; exact (List.getElem?_eq_some_iff.1 hq).1
                    have hmul2 : i' * ei.sz + ei.sz ≤ n * ei.sz := by rw [← Nat.succ_mul]; exact Nat.mul_le_mul_right _ hlt
                    rw [List.append_assoc, List.getElem?_append_left (by omega), List.getElem?_take_of_lt (by omega)]
                    exact k3 q c hq
                  · obtain ⟨us, k1, k2, k3⟩ := hk (i' - n) (by omega)
                    refine ⟨us, appF_new hge k1, k2, fun q c hq => ?_⟩
                    have h3 := k3 q c hq
                    have h4 : i' * ei.sz + q = n * ei.sz + ((i' - n) * ei.sz + q) := by
                      rw [← Nat.add_assoc, ← Nat.add_mul]; congr 2; omega
                    rw [List.append_assoc, List.getElem?_append_right (by omega), hlo, List.getElem?_append_left (by have := (List.getElem?_eq_some_iff.1 h3).1; omega)]
                    rw [h4, Nat.add_sub_cancel_left]
                    exact h3
              · exact ⟨_, Names.addv_self, rfl, by simp, hge, some ⟨W.heap.size, 0, none⟩, by simp, fun _ => ⟨W.heap.size, rfl, by simp⟩⟩
        · cases hD
      · cases hD
    · cases hD
  · cases hD

theorem ListC.keep {ρ ρ' : Names} {W W' : World} {q : LV} {sz : Nat} {f : Nat → List SV} {t : TypeId} (h : ListC ρ W q sz f t) (hz : ρ'.z = ρ.z) (hb : ∀ b, q.cap ≠ 0 → q.a = some ⟨b, 0, none⟩ → W'.heap[b]? = W.heap[b]?) : ListC ρ' W' q sz f t := by
  have hzo : ρ'.zo = ρ.zo := by unfold Names.zo; rw [hz]
  refine ⟨h.1, fun hc => ?_⟩
  obtain ⟨b, u, k1, k2, k3, k4, k5, k6⟩ := h.2 hc
  exact ⟨b, u, k1, (hb b hc k1).trans k2, k3, k4, by rw [hz]; exact k5, by rw [hzo]; exact k6⟩

theorem appN_ok (hH : HOk C H ρ W) (hf : ρ.v nm = none) {t ty : TypeId} {x y : SV} {u v : Value} {r : DR} (hD : appN C H nm t x y = some r) (ho : r.Ob) (hx : den ρ x u) (hy : den ρ y v) :
    ∃ w W', (Builtin.append_ #[t, t] ty #[u, v]).run C.P W = .ok w W' ∧ DPost C ρ W nm r w W' := by
  unfold appN at hD
  split at hD
  · cases hD
  rename_i e ei hei
  obtain ⟨i, z, ht, hi, hs, hby, hz, hzz⟩ := elemT_ok hei
  split at hD
  · rename_i l ep sz n
    split at hD
    · rename_i N h p szk g tk t' hl b2 b0 b1
      split at hD
      · rename_i n2 sz2 off cap2 b3
        split at hD
        · rename_i cs t2 hl2 b4
          split at hD
          · rename_i c hlc
            split at hD
            · rename_i b5
              obtain rfl := Option.some.inj hD
              obtain ⟨hfit, hnN⟩ := ho
              have b2 := Nat.eq_of_beq_eq_true b2
              have b3 := Nat.eq_of_beq_eq_true b3
              have b4 := Nat.eq_of_beq_eq_true b4
              have b5 := Nat.eq_of_beq_eq_true b5
              subst b2 b3 b4 hnN
              have hsz : 0 < ei.sz := by
                rcases Nat.eq_zero_or_pos ei.sz with h | h
                · rw [h] at b0; cases b0
                · exact h
              have hzl := Nat.eq_of_beq_eq_true b1
              have hzc : z.cells.size = ei.sz := by
                have := denL_length (zeroEqL_den (ρ := ρ) hzz)
                rw [← hzl, ← this]; simp
              have hf2 := fits (i := i) hfit hby
              -- what is appended
              obtain ⟨b', e1, rfl⟩ := hy
              obtain ⟨b'', vs, k1, k2, k3, k4, k5⟩ := hH.blk n2 _ (lays_ok hl2)
              rw [e1] at k1
              obtain rfl := Option.some.inj k1
              have hlc := laid_eq hlc
              obtain ⟨news, hnews⟩ : ∃ news, news = (vs.drop off).take ei.sz := ⟨_, rfl⟩
              have hdc : denL ρ c news := by rw [hlc, hnews]; exact denL_take _ (denL_drop _ k2)
              have hlen : news.length = ei.sz := by rw [denL_length hdc]; exact b5
              have h1 : ∀ c ∈ news, c.oneCell' = true := fun c hc => k4 c (by rw [hnews] at hc; exact List.mem_of_mem_drop (List.mem_of_mem_take hc))
              have hn : Firsts C.P W ei.sz 1 (.slice (some ⟨b', off, none⟩) 1 cap2) news := firsts_some (by omega) fun j u hj => by
                rw [hnews, List.getElem?_take] at hj
                split at hj
                · rw [List.getElem?_drop] at hj
                  rw [addr_add, k3.cell]
                  simpa using hj
                · cases hj
              -- what is there
              obtain ⟨lv, p1, po, p2, p3, a', rfl, p5⟩ := hx
              obtain ⟨lv', K⟩ := hH.blk l _ (nsts_ok hl)
              have q1 := K.hv
              rw [p1] at q1
              obtain rfl := Option.some.inj q1
              have hNl : lv.N = n := K.hN
              simp only [Nat.sub_zero, Nat.zero_add, Nat.zero_mul] at p2 p5 ⊢
              have kidw : ∀ {ρ' : Names} {W' : World}, ρ'.k = ρ.k → ρ'.z = ρ.z → (∀ i q b, ρ.k l i = some q → q.cap ≠ 0 → q.a = some ⟨b, 0, none⟩ → W'.heap[b]? = W.heap[b]?) → ∀ i, i < n → ∃ q, ρ'.k l i = some q ∧ q.N = (g i).1 ∧ ListC ρ' W' q szk (g i).2 tk := by
                intro ρ' W' hk' hz' hh i hi
                obtain ⟨q, q1, q2, q3⟩ := K.kid i hi
                exact ⟨q, by rw [hk']; exact q1, q2, q3.keep hz' fun b hc hb => hh i q b q1 hc hb⟩
              by_cases hroom : n + 1 ≤ lv.cap
              · have hc : lv.cap ≠ 0 := by omega
                obtain ⟨b, hb1, rfl⟩ := p5 hc
                obtain ⟨bb, cur, s1, s2, s3, s4, s5, s6, -, s8⟩ := K.row hc
                rw [hb1] at s1
                obtain rfl : b = bb := by injection s1 with s1; injection s1
                have hown : Owns ρ l b := .inr (.inl ⟨ep, lv, 0, p1, po, hc, hb1⟩)
                have hmul : (n + 1) * ei.sz ≤ lv.cap * ei.sz := Nat.mul_le_mul_right _ hroom
                rw [Nat.add_mul] at hmul
                have hrun := run_app_room (P := C.P) (w := W) (ty := ty) (c := cap2) (sCap := lv.cap) ht hi s2 (by rw [hs]; exact hn) h1 hroom (by rw [hs, hlen]; simp; omega)
                rw [hs, hlen, show cur.toArray.toList = cur by simp] at hrun
                refine ⟨_, _, hrun, ρ.addv nm ⟨l, some ⟨b, 0, none⟩, lv.cap, n + 1⟩, eff_rowv (l := ⟨l, some ⟨b, 0, none⟩, lv.cap, n + 1⟩) hH.hb hf hown s5 rfl, fun n' sb' h' => ?_, ?_⟩
                · obtain ⟨rfl, rfl⟩ := Prod.mk.inj (Option.some.inj h')
                  have hl1 : (cur.take (n * ei.sz)).length = n * ei.sz := by rw [List.length_take]; omega
                  refine ⟨_, Names.addv_self, rfl, rfl, hroom, fun _ => ⟨b, _, rfl, setRow_heap W b _ _ _ _ s2, ?_, ?_, s5, fun i' hi' => ?_, fun cs' hcs => ?_, s8⟩, kidw rfl rfl fun i' q b2 h1 h2 h3 => setRow_other' (s8 i' q b2 h1 h2 h3), K.no, K.ne⟩
                  · simp only [List.length_append, List.length_take, List.length_drop, hlen]; omega
                  · intro c hc
                    rcases List.mem_append.1 hc with hc | hc
                    · rcases List.mem_append.1 hc with hc | hc
                      · exact s4 c (List.mem_of_mem_take hc)
                      · exact h1 c hc
                    · exact s4 c (List.mem_of_mem_drop hc)
                  · obtain ⟨q, us, k0, k1, k2, k3⟩ := s6 i' hi'
                    refine ⟨q, us, k0, k1, k2, fun q c hq => ?_⟩
                    have hql : q < ei.sz := by rw [← k2]; exact (List.getElem?_eq_some_iff.1 hq).1
                    have hmul2 : i' * ei.sz + ei.sz ≤ n * ei.sz := by rw [← Nat.succ_mul]; exact Nat.mul_le_mul_right _ hi'
                    rw [List.append_assoc, List.getElem?_append_left (by omega), List.getElem?_take_of_lt (by omega)]
                    exact k3 q c hq
                  · obtain rfl := Option.some.inj hcs
                    refine ⟨news, denL_le (Names.le_addv hf) _ _ hdc, hlen, fun q c hq => ?_⟩
                    rw [List.append_assoc, List.getElem?_append_right (by omega), hl1, List.getElem?_append_left (by have := (List.getElem?_eq_some_iff.1 hq).1; omega), Nat.add_sub_cancel_left]
                    exact hq
                · exact ⟨_, Names.addv_self, rfl, by simp, hroom, some ⟨b, 0, none⟩, by simp, fun _ => ⟨b, rfl, by simp⟩⟩
              · obtain ⟨old, hold, hone, hrows⟩ : ∃ old, Firsts C.P W ei.sz n (.slice a' n lv.cap) old ∧ (∀ c ∈ old, c.oneCell' = true) ∧ ∀ i, i < n → ∃ q us, ρ.k l i = some q ∧ denL ρ.zo ((h i).set p (.v (.slice q.a q.N q.cap))) us ∧ us.length = ei.sz ∧ ∀ k c, us[k]? = some c → old[i * ei.sz + k]? = some c := by
                  by_cases hc : lv.cap = 0
                  · obtain rfl : n = 0 := by omega
                    refine ⟨[], ?_, (fun c hc => by cases hc), fun i hi => absurd hi (by omega)⟩
                    cases a' with
                    | none => exact firsts_none
                    | some ad => exact firsts_some (by simp) fun j u hj => by simp at hj
                  · obtain ⟨b, hb1, rfl⟩ := p5 hc
                    obtain ⟨bb, cur, s1, s2, s3, s4, s5, s6, -, s8⟩ := K.row hc
                    rw [hb1] at s1
                    obtain rfl : b = bb := by injection s1 with s1; injection s1
                    have hlo : (cur.take (n * ei.sz)).length = n * ei.sz := by
                      have : n * ei.sz ≤ lv.cap * ei.sz := Nat.mul_le_mul_right _ (by omega)
                      rw [List.length_take]; omega
                    refine ⟨cur.take (n * ei.sz), firsts_some hlo fun j u hj => ?_, fun c hc => s4 c (List.mem_of_mem_take hc), fun i' hi' => ?_⟩
                    · rw [addr_add, Nat.zero_add, s2.cell]
                      rw [List.getElem?_take] at hj
                      split at hj
                      · simpa using hj
                      · cases hj
                    · obtain ⟨q, us, k0, k1, k2, k3⟩ := s6 i' hi'
                      refine ⟨q, us, k0, k1, k2, fun q c hq => ?_⟩
                      have hql : q < ei.sz := by rw [← k2]; exact (List.getElem?_eq_some_iff.1 hq).1
                      have hmul2 : i' * ei.sz + ei.sz ≤ n * ei.sz := by rw [← Nat.succ_mul]; exact Nat.mul_le_mul_right _ hi'
                      rw [List.getElem?_take_of_lt (by omega)]
                      exact k3 q c hq
                have hlo := hold.1
                have hge := grownCap_ge W (n + 1) lv.cap e
                have hrun := run_app_grow (P := C.P) (w := W) (ty := ty) (c := cap2) ht hi hz (by rw [hs]; exact hold) (by rw [hs]; exact hn) (by omega) hf2.1 hf2.2
                have g2 : Gr W (W.drew.alloc (.cells (old.toArray ++ news.toArray ++ Builtin.zeroCells z.cells (grownCap W (n + 1) lv.cap e - (n + 1))) e)) := (Gr.refl W).drew.alloc _
                refine ⟨_, _, hrun, ρ.addv nm ⟨l, some ⟨W.heap.size, 0, none⟩, grownCap W (n + 1) lv.cap e, n + 1⟩, eff_addv (l := ⟨l, some ⟨W.heap.size, 0, none⟩, grownCap W (n + 1) lv.cap e, n + 1⟩) hH.hb hf g2 (fun _ b o h => ?_), fun n' sb' h' => ?_, ?_⟩
                · injection h with h
                  injection h with h
                  subst h
                  exact ⟨Nat.le_refl _, by simp⟩
                · obtain ⟨rfl, rfl⟩ := Prod.mk.inj (Option.some.inj h')
                  have kb : ∀ i q b, ρ.k l i = some q → q.cap ≠ 0 → q.a = some ⟨b, 0, none⟩ → b < W.heap.size := fun i q b k1 k2 k3 => (hH.hb.low l b (.inr (.inr ⟨i, q, 0, k1, k2, k3⟩))).2
                  refine ⟨_, Names.addv_self, rfl, rfl, hge, fun _ => ⟨W.heap.size, old ++ news ++ (Builtin.zeroCells z.cells (grownCap W (n + 1) lv.cap e - (n + 1))).toList, rfl, ?_, ?_, ?_, ?_, fun i' hi' => ?_, fun cs' hcs => ?_, fun i' q b2 h1 h2 h3 => ?_⟩, kidw rfl rfl fun i' q b2 h1 h2 h3 => Below.block g2 b2 (kb i' q b2 h1 h2 h3), K.no, K.ne⟩
                  · have : Blk (W.drew.alloc (.cells (old.toArray ++ news.toArray ++ Builtin.zeroCells z.cells (grownCap W (n + 1) lv.cap e - (n + 1))) e)) W.heap.size _ e := Blk.new (w := W.drew) rfl
                    have e2 : (old ++ news ++ (Builtin.zeroCells z.cells (grownCap W (n + 1) lv.cap e - (n + 1))).toList).toArray = old.toArray ++ news.toArray ++ Builtin.zeroCells z.cells (grownCap W (n + 1) lv.cap e - (n + 1)) := by
                      apply Array.ext'; simp
                    rw [e2]; exact this
                  · have e3 : ei.sz = 1 * ei.sz := by omega
                    rw [List.length_append, List.length_append, hlo, hlen, zeros_len, hzc]
                    conv => lhs; lhs; rhs; rw [e3]
                    rw [← Nat.add_mul, ← Nat.add_mul]
                    congr 1
                    dsimp only
                    omega
                  · intro c hc
                    rcases List.mem_append.1 hc with hc | hc
                    · rcases List.mem_append.1 hc with hc | hc
                      · exact hone c hc
                      · exact h1 c hc
                    · exact zeros_one hzz c hc
                  · intro i' c hz'
                    have := cell_lt (hH.hb.zok _ i' c hz').1; omega
                  · obtain ⟨q, us, k0, k1, k2, k3⟩ := hrows i' hi'
                    refine ⟨q, us, k0, k1, k2, fun q c hq => ?_⟩
                    have := k3 q c hq
                    rw [List.append_assoc, List.getElem?_append_left (List.getElem?_eq_some_iff.1 this).1]
                    exact this
                  · obtain rfl := Option.some.inj hcs
                    refine ⟨news, denL_le (Names.le_addv hf) _ _ hdc, hlen, fun q c hq => ?_⟩
                    rw [List.append_assoc, List.getElem?_append_right (by omega), hlo, List.getElem?_append_left (by have := (List.getElem?_eq_some_iff.1 hq).1; omega), Nat.add_sub_cancel_left]
                    exact hq
                  · have := kb i' q b2 h1 h2 h3
                    omega
                · exact ⟨_, Names.addv_self, rfl, by simp, hge, some ⟨W.heap.size, 0, none⟩, by simp, fun _ => ⟨W.heap.size, rfl, by simp⟩⟩
            · cases hD
          · cases hD
        · cases hD
      · cases hD
    · cases hD
  · cases hD
end
end Go.Proofs.YtcojfohjdibjjaaGreatDoor
