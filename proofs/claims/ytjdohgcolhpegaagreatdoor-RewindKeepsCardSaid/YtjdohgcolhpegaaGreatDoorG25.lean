/- A symbolic executor with lists, 26: a call that inserts an element into the list that an element of a list has. -/
import Derived.Test.YtjdohgcolhpegaaGreatDoorG24
namespace Go.Proofs.YtjdohgcolhpegaaGreatDoor
open Go.RowKit

/-- What an insertion of one element (vs) ahead of element i leaves. -/
structure InsR (sz : Nat) (t : TypeId) (W : World) (a : Option Addr) (n cap i : Nat) (vs : List Value) (b' cap' : Nat) (u' : List Value) (W' : World) : Prop where
  ge : n + 1 ≤ cap'
  blk : Blk W' b' u'.toArray t
  len : u'.length = cap' * sz
  one : ∀ c ∈ u', c.oneCell' = true
  new : ∀ (k : Nat) (c : Value), vs[k]? = some c → u'[i * sz + k]? = some c
  old : ∀ (b : Nat) (u : List Value), cap ≠ 0 → a = some ⟨b, 0, none⟩ → Blk W b u.toArray t → (∀ (j k : Nat) (c : Value), j < i → k < sz → u[j * sz + k]? = some c → u'[j * sz + k]? = some c) ∧ ∀ (j k : Nat) (c : Value), i ≤ j → j < n → k < sz → u[j * sz + k]? = some c → u'[(j + 1) * sz + k]? = some c
  os : W'.os = W.os
  tape : W'.tape = W.tape
  output : W'.output = W.output
  size : W.heap.size ≤ W'.heap.size
  plc : (cap ≠ 0 ∧ a = some ⟨b', 0, none⟩ ∧ ∀ x : Nat, x ≠ b' → W'.heap[x]? = W.heap[x]?) ∨ (W.heap.size ≤ b' ∧ ∀ x : Nat, x < W.heap.size → W'.heap[x]? = W.heap[x]?)
/-- The elements then. -/
def insF (k : Nat) (c : List SV) (f : Nat → List SV) : Nat → List SV := fun j => jnL (Nat.beq j k) c (f (cond (Nat.blt j k) j (j - 1)))
def insD {PP : Program} (C : Cx PP) (t : Nat) (H : Heap) (nm : Nat) : List SV → Option DR
  | [.kd m i szk 0 n, iv, .s m2 sz2 off2 1 c2] => match iv.int?, kids H m szk, lays H m2, elemT C t with
    | some (.i64, v), some (e, sz, N, h, p, g, tk, ty), some (cs, _), some (et, ei) => match laid ((cs.drop off2).take szk) with
      | some c => match Nat.beq sz2 szk, Nat.beq c.length szk, pureL c, Nat.ble 1 c2, Nat.beq ei.sz szk, Nat.beq tk et with
        | true, true, true, true, true, true => some ⟨some (0 ≤ v ∧ v ≤ (n : Int) ∧ n = (g i).1 ∧ fitO (n + 1) ei.nb ∧ ∀ j, j < n → alikeL c ((g i).2 j)), .g m nm szk 0 (n + 1), some (m, .alt e sz N h p szk g tk ty i nm (n + 1) (insF v.toNat c (g i).2) false), true⟩
        | _, _, _, _, _, _ => none
      | none => none
    | _, _, _, _ => none
  | _ => none
section
variable {PP : Program} {C : Cx PP} {ρ : Names} {W W' : World} {H : Heap} {nm : Nat}
theorem eff_ins {l : LV} {b : Nat} (hb : HB C ρ W) (hf : ρ.v nm = none) (hl : l.a = some ⟨b, 0, none⟩) (h1 : W'.os = W.os) (h2 : W'.tape = W.tape) (h3 : W'.output = W.output) (hs : W.heap.size ≤ W'.heap.size) (hlt : b < W'.heap.size)
    (hp : (Owns ρ l.o b ∧ (∀ i c, ¬ ρ.z b i c) ∧ ∀ x : Nat, x ≠ b → W'.heap[x]? = W.heap[x]?) ∨ (W.heap.size ≤ b ∧ ∀ x : Nat, x < W.heap.size → W'.heap[x]? = W.heap[x]?)) : Eff C ρ W nm (some l.o) true (ρ.addv nm l) W' := by
  refine ⟨Names.le_addv hf, fun _ _ h => .inl h, fun e l' h => ?_, fun _ _ _ h => .inl h, fun _ _ => rfl, h1, h2, h3, hs, fun x hx hn => ?_, ?_⟩
  · by_cases hn : e = nm
    · subst hn
      rw [Names.addv_self] at h
      obtain rfl := Option.some.inj h
      refine .inr ⟨rfl, rfl, rfl, fun b' o' k1 k2 => ?_⟩
      rw [hl] at k1
      injection k1 with k1
      injection k1 with k1
      rw [← k1]
      rcases hp with hp | hp
      · exact .inl hp.1
      · exact .inr hp.1
    · simp only [Names.addv, if_neg hn] at h
      exact .inl h
  · rcases hp with hp | hp
    · exact hp.2.2 x fun e => hn l.o rfl (e ▸ hp.1)
    · exact hp.2 x hx
  · have key : ∀ x : Nat, x < W.heap.size → (∀ n, Owns ρ n x → n ≠ l.o ∨ x ≠ b) → (x ≠ b ∨ W.heap.size ≤ b) → W'.heap[x]? = W.heap[x]? := fun x hx _ hd => by
      rcases hp with hp | hp
      · rcases hd with hd | hd
        · exact hp.2.2 x hd
        · have := (hb.low _ _ hp.1).2; omega
      · exact hp.2 x hx
    have own' : ∀ k c, Owns (ρ.addv nm l) k c → Owns ρ k c ∨ (k = l.o ∧ c = b) := fun k c h => by
      rcases owns_addv h with h | ⟨rfl, -, o', h3⟩
      · exact .inl h
      · rw [hl] at h3
        injection h3 with h3
        injection h3 with h3
        exact .inr ⟨rfl, h3.symm⟩
    refine ⟨fun n n' c k1 k2 => ?_, fun n c k => ?_, fun x i c k => ?_, ?_⟩
    · rcases own' _ _ k1 with k1 | ⟨rfl, rfl⟩ <;> rcases own' _ _ k2 with k2 | ⟨rfl, e2⟩
      · exact hb.own n n' c k1 k2
      · subst e2
        rcases hp with hp | hp
        · exact hb.own _ _ _ k1 hp.1
        · have := (hb.low _ _ k1).2; omega
      · rcases hp with hp | hp
        · exact hb.own _ _ _ hp.1 k2
        · have := (hb.low _ _ k2).2; omega
      · rfl
    · rcases own' _ _ k with k | ⟨rfl, rfl⟩
      · exact ⟨(hb.low n c k).1, Nat.lt_of_lt_of_le (hb.low n c k).2 hs⟩
      · refine ⟨?_, hlt⟩
        rcases hp with hp | hp
        · exact (hb.low _ _ hp.1).1
        · exact Nat.le_trans hb.grd.1 hp.1
    · have hz := hb.zok x i c k
      have hx := cell_lt hz.1
      refine ⟨(cell_of_heap ?_).trans hz.1, hz.2⟩
      rcases hp with hp | hp
      · exact hp.2.2 x fun e => hp.2.1 i c (e ▸ k)
      · exact hp.2 x hx
    · refine hb.grd.keep hs fun x hx => ?_
      rcases hp with hp | hp
      · have := (hb.low _ _ hp.1).1
        exact hp.2.2 x (by omega)
      · exact hp.2 x (Nat.lt_of_lt_of_le hx hb.grd.1)
/-- The function inserts one element. -/
def InsOk (C : Cx PP) (f0 : Nat) (et : Nat) (ei : TI) : Prop := ∀ (W : World) (a : Option Addr) (n cap i vb voff vc : Nat) (uv vs : List Value) (tv : TypeId), n ≤ cap → i ≤ n → fitO (n + 1) ei.nb → 1 ≤ vc →
  (cap ≠ 0 → ∃ (b : Nat) (u : List Value), a = some ⟨b, 0, none⟩ ∧ Blk W b u.toArray et ∧ u.length = cap * ei.sz ∧ (∀ c ∈ u, c.oneCell' = true) ∧ vb ≠ b) → Blk W vb uv.toArray tv → vs.length = ei.sz → (∀ (j : Nat) (v : Value), vs[j]? = some v → uv[voff + j]? = some v) → (∀ v ∈ vs, v.oneCell' = true) →
  Calls C.P f0 #[.slice a n cap, .int .i64 i, .slice (some ⟨vb, voff, none⟩) 1 vc] W fun e W' => ∃ b' cap' u', e = .returned (.slice (some ⟨b', 0, none⟩) (n + 1) cap') ∧ InsR ei.sz et W a n cap i vs b' cap' u' W'
theorem insD_ok {t f0 et : Nat} {ei : TI} (hT : elemT C t = some (et, ei)) (hap : InsOk C f0 et ei)
    (hH : HOk C H ρ W) {al : List SV} {vs : List Value} {r : DR} (hf : r.fr = true → ρ.v nm = none) (hd : denL ρ al vs) (hD : insD C t H nm al = some r) (ho : r.Ob) :
    Calls C.P f0 vs.toArray W fun e W' => ∃ val, e = .returned val ∧ DPost C ρ W nm r val W' := by
  unfold insD at hD
  split at hD
  · rename_i m i szk n iv m2 sz2 off2 c2
    split at hD
    · rename_i v e sz N h p g tk ty cs t2 et' ei' hi hk hl2 hT'
      rw [hT] at hT'
      obtain ⟨rfl, rfl⟩ := Prod.mk.inj (Option.some.inj hT')
      split at hD
      · rename_i c hlc
        split at hD
        · rename_i b1 b2 b3 b4 b5 b6
          have b1 := Nat.eq_of_beq_eq_true b1
          have b2 := Nat.eq_of_beq_eq_true b2
          have b4 := Nat.le_of_ble_eq_true b4
          have b5 := Nat.eq_of_beq_eq_true b5
          have b6 := Nat.eq_of_beq_eq_true b6
          subst b1 b5 b6
          obtain rfl := Option.some.inj hD
          obtain ⟨hv0, hvn, hn, hfit, hal⟩ : 0 ≤ v ∧ v ≤ (n : Int) ∧ n = (g i).1 ∧ fitO (n + 1) ei.nb ∧ ∀ j, j < n → alikeL c ((g i).2 j) := ho
          have hf0 : ρ.v nm = none := hf rfl
          obtain ⟨u1, us1, rfl, d1, e1⟩ := denL_cons hd
          obtain ⟨u2, us2, rfl, d2, e2⟩ := denL_cons e1
          obtain ⟨u3, us3, rfl, d3, e3⟩ := denL_cons e2
          obtain rfl := denL_nil e3
          obtain rfl := SV.int?_den hi d2
          obtain ⟨k, rfl⟩ : ∃ k : Nat, v = (k : Int) := ⟨v.toNat, by omega⟩
          obtain ⟨l, q1, q2, q3, a', rfl, q5⟩ := d1
          obtain ⟨vb, w1, rfl⟩ := d3
          obtain ⟨vb', uvs, w2, w3, w4, w5, w6⟩ := hH.blk m2 _ (lays_ok hl2)
          rw [w1] at w2
          obtain rfl := Option.some.inj w2
          obtain ⟨lv, K⟩ := hH.blk m _ (kids_ok hk)
          have hiN : i < N := Nat.lt_of_not_le fun h => by rw [K.no i h] at q1; cases q1
          obtain ⟨l0, r0, r1, r2⟩ := K.kid i hiN
          rw [q1] at r0
          obtain rfl := Option.some.inj r0
          simp only [Nat.sub_zero, Nat.zero_add, Nat.zero_mul] at q2 q5 ⊢
          have hlN : l.N = n := by omega
          have hm2 : m2 ≠ m := fun e => by
            have h1 := lays_ok hl2
            have h2 := kids_ok hk
            rw [e, h2] at h1
            cases Option.some.inj h1
          obtain ⟨news, hnews⟩ : ∃ news, news = (uvs.drop off2).take ei.sz := ⟨_, rfl⟩
          have hdc : denL ρ c news := by rw [laid_eq hlc, hnews]; exact denL_take _ (denL_drop _ w3)
          have hlen : news.length = ei.sz := by rw [denL_length hdc]; exact b2
          have h1 : ∀ c ∈ news, c.oneCell' = true := fun c hc => w5 c (by rw [hnews] at hc; exact List.mem_of_mem_drop (List.mem_of_mem_take hc))
          have hnv : ∀ (j : Nat) (v : Value), news[j]? = some v → uvs[off2 + j]? = some v := fun j u hj => by
            rw [hnews, List.getElem?_take] at hj
            split at hj
            · rw [List.getElem?_drop] at hj; exact hj
            · cases hj
          -- the list
          have hrow : l.cap ≠ 0 → ∃ (b : Nat) (u : List Value), a' = some ⟨b, 0, none⟩ ∧ l.a = some ⟨b, 0, none⟩ ∧ Blk W b u.toArray tk ∧ u.length = l.cap * ei.sz ∧ (∀ c ∈ u, c.oneCell' = true) ∧ (∀ i c, ¬ ρ.z b i c) ∧ Owns ρ m b ∧ ∀ i', i' < l.N → ∃ us, denL ρ.zo ((g i).2 i') us ∧ us.length = ei.sz ∧ ∀ k c, us[k]? = some c → u[i' * ei.sz + k]? = some c := fun hc => by
            obtain ⟨b, h1, h2⟩ := q5 hc
            obtain ⟨b', u, s1, s2, s3, s4, s5, s6⟩ := r2.2 hc
            rw [h1] at s1
            obtain rfl : b = b' := by injection s1 with s1; injection s1
            exact ⟨b, u, h2, h1, s2, s3, s4, s5, .inr (.inr ⟨i, l, 0, q1, hc, h1⟩), s6⟩
          refine (hap W a' n l.cap k vb off2 c2 uvs news t2 (by omega) (by omega) hfit b4 (fun hc => ?_) w4 hlen hnv h1).mono ?_
          · obtain ⟨b, u, s1, s2, s3, s4, s5, s6, s7, s8⟩ := hrow hc
            exact ⟨b, u, s1, s3, s4, s5, fun e => hm2 (hH.hb.own m2 m b (by rw [← e]; exact .inl w1) s7)⟩
          rintro ex W' ⟨b', cap', u', rfl, R⟩
          have hb'lt : b' < W'.heap.size := (Array.getElem?_eq_some_iff.1 R.blk).1
          have plc : (Owns ρ m b' ∧ (∀ i c, ¬ ρ.z b' i c) ∧ (l.cap ≠ 0 ∧ l.a = some ⟨b', 0, none⟩) ∧ ∀ x : Nat, x ≠ b' → W'.heap[x]? = W.heap[x]?) ∨ (W.heap.size ≤ b' ∧ ∀ x : Nat, x < W.heap.size → W'.heap[x]? = W.heap[x]?) := by
            rcases R.plc with ⟨p1, p2, p3⟩ | hp
            · obtain ⟨b, u, s1, s2, s3, s4, s5, s6, s7, s8⟩ := hrow p1
              rw [s1] at p2
              obtain rfl : b = b' := by injection p2 with p2; injection p2
              exact .inl ⟨s7, s6, ⟨p1, s2⟩, p3⟩
            · exact .inr hp
          have keep : ∀ x, x < W.heap.size → (l.cap ≠ 0 → l.a = some ⟨x, 0, none⟩ → False) → W'.heap[x]? = W.heap[x]? := fun x hx hne => by
            rcases plc with ⟨-, -, ⟨p1, p2⟩, p3⟩ | hp
            · exact p3 x fun e => hne p1 (by rw [e]; exact p2)
            · exact hp.2 x hx
          have noz : ∀ i c, ¬ ρ.z b' i c := by
            rcases plc with hp | hp
            · exact hp.2.1
            · intro i' c hz'
              have := cell_lt (hH.hb.zok _ i' c hz').1; omega
          have kb : ∀ j q x, ρ.k m j = some q → q.cap ≠ 0 → q.a = some ⟨x, 0, none⟩ → x < W.heap.size := fun j q x k1 k2 k3 => (hH.hb.low m x (.inr (.inr ⟨j, q, 0, k1, k2, k3⟩))).2
          refine ⟨_, rfl, ρ.addv nm ⟨m, some ⟨b', 0, none⟩, cap', n + 1⟩, eff_ins (l := ⟨m, some ⟨b', 0, none⟩, cap', n + 1⟩) (b := b') hH.hb hf0 rfl R.os R.tape R.output R.size hb'lt ?_, fun n' sb' h' => ?_, ?_⟩
          · rcases plc with hp | hp
            · exact .inl ⟨hp.1, hp.2.1, hp.2.2.2⟩
            · exact .inr hp
          · obtain ⟨rfl, rfl⟩ := Prod.mk.inj (Option.some.inj h')
            refine ⟨lv, ⟨m, some ⟨b', 0, none⟩, cap', n + 1⟩, (Names.le_addv hf0).v _ _ K.hv, K.ho, K.hN, K.hle, hiN, Names.addv_self, rfl, rfl, ?_, fun hc => ?_, fun j hj hne => ?_⟩
            · refine ⟨R.ge, fun _ => ⟨b', u', rfl, R.blk, R.len, R.one, noz, fun j hj => ?_⟩⟩
              have hj : j < n + 1 := hj
              show ∃ us, denL ρ.zo (insF (k : Int).toNat c (g i).2 j) us ∧ _
              rw [Int.toNat_natCast]
              unfold insF
              by_cases hjk : j = k
              · rw [hjk, Nat.beq_refl]
                exact ⟨news, jnL_true _ _ _ (pureL_den _ _ b3 hdc), hlen, R.new⟩
              · have hb0 : Nat.beq j k = false := by
                  cases hb : Nat.beq j k with
                  | false => rfl
                  | true => exact absurd (Nat.eq_of_beq_eq_true hb) hjk
                rw [hb0]
                have hc : l.cap ≠ 0 := by omega
                obtain ⟨b, u, s1, s2, s3, s4, s5, s6, s7, s8⟩ := hrow hc
                obtain ⟨o1, o2⟩ := R.old b u hc s1 s3
                by_cases hlt : j < k
                · have hb1 : Nat.blt j k = true := Nat.ble_eq_true_of_le hlt
                  obtain ⟨us, x1, x2, x3⟩ := s8 j (by omega)
                  rw [hb1]
                  exact ⟨us, jnL_false _ _ _ (hal j (by omega)) x1, x2, fun y cc hy => o1 j y cc hlt (by rw [← x2]; exact (List.getElem?_eq_some_iff.1 hy).1) (x3 y cc hy)⟩
                · have hb1 : Nat.blt j k = false := by
                    cases hb : Nat.blt j k with
                    | false => rfl
                    | true => exact absurd (Nat.le_of_ble_eq_true hb) hlt
                  obtain ⟨us, x1, x2, x3⟩ := s8 (j - 1) (by omega)
                  rw [hb1]
                  refine ⟨us, jnL_false _ _ _ (hal (j - 1) (by omega)) x1, x2, fun y cc hy => ?_⟩
                  have := o2 (j - 1) y cc (by omega) (by omega) (by rw [← x2]; exact (List.getElem?_eq_some_iff.1 hy).1) (x3 y cc hy)
                  rw [show j - 1 + 1 = j by omega] at this
                  exact this
            · obtain ⟨b, u, s1, s2, s3, s4, s5, s6, -, s8⟩ := K.row hc
              have hbl : b < W.heap.size := (hH.hb.low m b (.inr (.inl ⟨e, lv, 0, K.hv, K.ho, hc, s1⟩))).2
              refine ⟨b, u, s1, (keep b hbl fun h1 h2 => s8 i l b q1 h1 h2 rfl).trans s2, s3, s4, s5, fun j hj => ?_, s8, fun x _ hx => ?_⟩
              · obtain ⟨q, us, x1, x2, x3, x4⟩ := s6 j hj
                refine ⟨q, us, x1, ?_, x3, x4⟩
                unfold altS
                rw [if_neg fun c => by cases c.1]
                exact x2
              · have hx : (some ⟨b', 0, none⟩ : Option Addr) = some ⟨x, 0, none⟩ := hx
                obtain rfl : b' = x := by injection hx with hx; injection hx
                rcases plc with ⟨-, -, ⟨p1, p2⟩, -⟩ | hp
                · exact s8 i l b' q1 p1 p2
                · omega
            · obtain ⟨q, x1, x2, x3⟩ := K.kid j hj
              exact ⟨q, x1, x2, x3.keep rfl fun x h1 h2 => keep x (kb j q x x1 h1 h2) fun h3 h4 => hne (K.ne j i q l x x1 q1 h1 h3 h2 h4)⟩
          · exact ⟨_, Names.addv_self, rfl, by simp, R.ge, some ⟨b', 0, none⟩, by simp, fun _ => ⟨b', rfl, by simp⟩⟩
        · cases hD
      · cases hD
    · cases hD
  · cases hD
/-- The contract of such a function. -/
def conIns (t f0 : Nat) {et : Nat} {ei : TI} (hT : elemT C t = some (et, ei)) (en : ∀ (args : Array Value) (w : World), (callFunc f0 args).run C.P w = .ok (.enter f0 args) w) (hap : InsOk C f0 et ei) : Con C where
  f := f0
  en := en
  run := fun _ => none
  fresh := false
  own := none
  eff := some (insD C t)
  ok := fun _ _ _ _ _ _ _ _ _ h => by cases h
  effOk := fun g hg ρ W H nm args vs r hH hf hd hD ho => by
    obtain rfl := Option.some.inj hg
    exact insD_ok hT hap hH hf hd hD ho
end
end Go.Proofs.YtjdohgcolhpegaaGreatDoor
