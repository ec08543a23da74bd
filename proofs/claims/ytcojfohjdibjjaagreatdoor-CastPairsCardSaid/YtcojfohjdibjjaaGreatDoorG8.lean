/- A symbolic executor with lists, 9: elements, parts of slices, stores, calls; each operation. -/
import Derived.Test.YtcojfohjdibjjaaGreatDoorG7
namespace Go.Proofs.YtcojfohjdibjjaaGreatDoor
open Go.RowKit

section
variable {PP : Program} {C : Cx PP} {Γ : List (Con C)} {op : OpF} {a : Act} {ρ : Names} {W W' : World} {H : Heap} {nm : Nat} {dst : Option Tmp} {ty : TypeId} {pos : String} {after : Array Edge} {guard : Option (Nat × Bool)}

theorem natLit_den {i : SV} {k : Nat} {y : Value} (h : natLit i = some k) (hd : den ρ i y) : ∃ kk, y = .int kk (k : Int) := by
  unfold natLit at h
  split at h
  · obtain rfl := Option.some.inj h; exact ⟨_, hd⟩
  · obtain rfl := Option.some.inj h; exact ⟨_, hd⟩
  · cases h
theorem elemD_ok (hH : HOk C H ρ W) {t : Nat} {x i : Operand} {u v : SV} {r : DR} (h : elemD C t u v = some r) (ho : r.Ob) (hx : den ρ u (a.eval x)) (hi : den ρ v (a.eval i)) :
    ∃ y, Yields r ρ y ∧ (execOp a.eval ⟨dst, .indexAddr t x i, ty, pos, after, guard⟩).run C.P W = .ok (.value y) W := by
  unfold elemD at h
  split at h
  · rename_i n sz off len cap
    split at h
    · rename_i e ei k hei hk
      split at h
      · rename_i b1 b2
        have b2 := Nat.eq_of_beq_eq_true b2
        rw [Nat.blt_eq] at b1
        obtain ⟨inf, z, ht, hinf, hs, -⟩ := elemT_ok hei
        obtain ⟨b, hb, e1⟩ := hx
        obtain ⟨kk, e2⟩ := natLit_den hk hi
        refine ⟨_, yields_dv h ?_, ex_indexSl e1 e2 ⟨by omega, by omega⟩ ht hinf⟩
        rw [addr_add, Int.toNat_natCast, hs, b2]
        exact ⟨b, hb, rfl⟩
      · cases h
    · cases h
  · rename_i sz n hh
    split at h
    · rename_i e ei kk k hei hk
      split at h
      · rename_i b2
        have b2 := Nat.eq_of_beq_eq_true b2
        obtain ⟨h0, h1⟩ := dvo_ob h ho
        obtain ⟨inf, z, ht, hinf, hs, -⟩ := elemT_ok hei
        obtain ⟨ad, cap, e1, e3, e4⟩ := hx
        obtain ⟨b, o, us, rfl, k2, k3, k4⟩ := e4 k.toNat (by omega)
        have e2 := SV.int?_den hk hi
        refine ⟨_, yields_dvo h ?_, ex_indexSl e1 e2 ⟨h0, h1⟩ ht hinf⟩
        rw [addr_add, hs, b2]
        exact ⟨b, o + k.toNat * sz, us, rfl, k2, k4⟩
      · cases h
    · cases h
  · rename_i m e sz off n
    split at h
    · rename_i et ei kk k hei hk
      split at h
      · rename_i b2
        have b2 := Nat.eq_of_beq_eq_true b2
        obtain ⟨h0, h1⟩ := dvo_ob h ho
        obtain ⟨inf, z, ht, hinf, hs, -⟩ := elemT_ok hei
        obtain ⟨l, p1, po, p2, p3, a', e1, p5⟩ := hx
        obtain ⟨b, q1, rfl⟩ := p5 (by omega)
        have e2 := SV.int?_den hk hi
        refine ⟨_, yields_dvo h ?_, ex_indexSl e1 e2 ⟨h0, h1⟩ ht hinf⟩
        rw [addr_add, hs, b2]
        exact ⟨l, b, p1, po, by omega, p3, q1, by rw [Nat.add_zero, Nat.add_mul]⟩
      · cases h
    · cases h
  · rename_i n off
    split at h
    · rename_i len e ei k hei hk
      split at h
      · rename_i b1
        rw [Nat.blt_eq] at b1
        obtain ⟨inf, d, ht, hinf, hs, -⟩ := arrT_ok hei
        obtain ⟨b, hb, e1⟩ := hx
        obtain ⟨kk, e2⟩ := natLit_den hk hi
        refine ⟨_, yields_dv h ?_, ex_indexArr e1 e2 ⟨by omega, by omega⟩ ht hinf⟩
        rw [addr_add, Int.toNat_natCast, hs]
        exact ⟨b, hb, rfl⟩
      · cases h
    · cases h
  · rename_i xs off
    split at h
    · rename_i len e ei k hei hk
      split at h
      · rename_i b1
        rw [Nat.blt_eq] at b1
        obtain ⟨inf, d, ht, hinf, hs, -⟩ := arrT_ok hei
        obtain ⟨b, o, us, e1, k2, k3⟩ := hx
        obtain ⟨kk, e2⟩ := natLit_den hk hi
        refine ⟨_, yields_dv h ?_, ex_indexArr e1 e2 ⟨by omega, by omega⟩ ht hinf⟩
        rw [addr_add, Int.toNat_natCast, hs]
        exact ⟨b, o, us, by rw [Nat.add_assoc], k2, k3⟩
      · cases h
    · cases h
  · rename_i m e sz j off
    split at h
    · rename_i len et ei k hei hk
      split at h
      · rename_i b1
        rw [Nat.blt_eq] at b1
        obtain ⟨inf, d, ht, hinf, hs, -⟩ := arrT_ok hei
        obtain ⟨l, b, p1, po, p2, p3, p4, e1⟩ := hx
        obtain ⟨kk, e2⟩ := natLit_den hk hi
        refine ⟨_, yields_dv h ?_, ex_indexArr e1 e2 ⟨by omega, by omega⟩ ht hinf⟩
        rw [addr_add, Int.toNat_natCast, hs]
        exact ⟨l, b, p1, po, p2, p3, p4, by rw [Nat.add_assoc]⟩
      · cases h
    · cases h
  · rename_i m q sz off n
    split at h
    · rename_i et ei kk k hei hk
      split at h
      · rename_i b2
        have b2 := Nat.eq_of_beq_eq_true b2
        obtain ⟨h0, h1⟩ := dvo_ob h ho
        obtain ⟨inf, z, ht, hinf, hs, -⟩ := elemT_ok hei
        obtain ⟨l, p1, p2, p3, a', e1, p5⟩ := hx
        obtain ⟨b, q1, rfl⟩ := p5 (by omega)
        have e2 := SV.int?_den hk hi
        refine ⟨_, yields_dvo h ?_, ex_indexSl e1 e2 ⟨h0, h1⟩ ht hinf⟩
        rw [addr_add, hs, b2]
        exact ⟨l, b, p1, by omega, p3, q1, by rw [Nat.add_zero, Nat.add_mul]⟩
      · cases h
    · cases h
  · rename_i m q sz j off
    split at h
    · rename_i len et ei k hei hk
      split at h
      · rename_i b1
        rw [Nat.blt_eq] at b1
        obtain ⟨inf, d, ht, hinf, hs, -⟩ := arrT_ok hei
        obtain ⟨l, b, p1, p2, p3, p4, e1⟩ := hx
        obtain ⟨kk, e2⟩ := natLit_den hk hi
        refine ⟨_, yields_dv h ?_, ex_indexArr e1 e2 ⟨by omega, by omega⟩ ht hinf⟩
        rw [addr_add, Int.toNat_natCast, hs]
        exact ⟨l, b, p1, p2, p3, p4, by rw [Nat.add_assoc]⟩
      · cases h
    · cases h
  · rename_i b off
    split at h
    · rename_i len et ei k hei hk
      split at h
      · rename_i b1
        rw [Nat.blt_eq] at b1
        obtain ⟨inf, d, ht, hinf, hs, -⟩ := arrT_ok hei
        have e1 : a.eval x = _ := hx
        obtain ⟨kk, e2⟩ := natLit_den hk hi
        refine ⟨_, yields_dv h ?_, ex_indexArr e1 e2 ⟨by omega, by omega⟩ ht hinf⟩
        rw [addr_add, Int.toNat_natCast, hs]
        rfl
      · cases h
    · cases h
  · cases h

theorem indexD_ok {t : Nat} {x i : Operand} {u v w : SV} (h : indexD C t u v = some w) (hx : den ρ u (a.eval x)) (hi : den ρ v (a.eval i)) :
    ∃ y, den ρ w y ∧ (execOp a.eval ⟨dst, .index t x i, ty, pos, after, guard⟩).run C.P W = .ok (.value y) W := by
  unfold indexD at h
  split at h
  · rename_i l len e ei k hei hk
    obtain ⟨inf, d, ht, hinf, hs, hde, hke⟩ := arrT_ok hei
    obtain ⟨us, hus, e1⟩ := hx
    obtain ⟨kk, e2⟩ := natLit_den hk hi
    split at h
    · rename_i b1 hag
      rw [Nat.blt_eq] at b1
      split at h
      · rename_i m hm
        obtain rfl := Option.some.inj h
        obtain ⟨k1, k2⟩ := takeN_den hm (denL_drop (k * ei.sz) hus)
        refine ⟨_, ⟨_, k1, rfl⟩, ex_index e1 e2 b1 ht hinf ?_⟩
        rw [run_part_agg hinf hde (kind_agg hke hag), hs]
        rw [List.length_drop] at k2
        congr 2
        apply Array.ext'
        simp [List.take_drop, Nat.add_comm]
      · cases h
    · rename_i b1 hag
      rw [Nat.blt_eq] at b1
      obtain ⟨y, hy, hdy⟩ := denL_get hus h
      exact ⟨y, hdy, ex_index e1 e2 b1 ht hinf (run_part_one hde (kind_one hke hag).1 (kind_one hke hag).2 (by rw [hs]; simpa using hy))⟩
    · cases h
  · cases h

theorem run_len {P : Program} {ats : Array TypeId} {t ty e : TypeId} {b : Option Addr} {len cap : Nat} {w : World} (h : ats[0]? = some t) (hd : P.underlying t = some (.slice e)) :
    (Builtin.len_ ats ty #[.slice b len cap]).run P w = .ok (.int .i64 len) w := by
  unfold Builtin.len_
  rw [h]
  show ((underlying t >>= _).run P w) = _
  simp only [underlying, Sem.run_bind, run_program, Result.andThen_ok, hd, Sem.run_pure, goInt]
  rfl
theorem lenD_ok {ats : Array TypeId} {l : List SV} {w : SV} {vs : List Value} (h : lenD C ats l = some w) (hd : denL ρ l vs) : ∃ y, den ρ w y ∧ (Builtin.len_ ats ty vs.toArray).run C.P W = .ok y W := by
  unfold lenD at h
  split at h
  · rename_i x t ts hts
    split at h
    · rename_i e hei
      obtain ⟨inf, z, ht, -⟩ := elemT_ok (e := e.1) (ei := e.2) hei
      obtain ⟨u, us, rfl, e2, e3⟩ := denL_cons hd
      obtain rfl := denL_nil e3
      have e8 : ats[0]? = some t := by
        have := congrArg (·[0]?) hts
        simpa using this
      split at h
      · obtain rfl := Option.some.inj h
        obtain ⟨b, -, rfl⟩ := e2
        exact ⟨_, rfl, run_len e8 ht⟩
      · obtain rfl := Option.some.inj h
        obtain ⟨b, cap, rfl, -⟩ := e2
        exact ⟨_, rfl, run_len e8 ht⟩
      · obtain rfl := Option.some.inj h
        obtain ⟨l, -, -, -, -, a', rfl, -⟩ := e2
        exact ⟨_, rfl, run_len e8 ht⟩
      · obtain rfl := Option.some.inj h
        obtain ⟨l, -, -, -, a', rfl, -⟩ := e2
        exact ⟨_, rfl, run_len e8 ht⟩
      · obtain rfl := Option.some.inj h
        obtain ⟨b, rfl⟩ := e2
        exact ⟨_, rfl, run_len e8 ht⟩
      · obtain rfl := Option.some.inj h
        obtain rfl : u = _ := e2
        exact ⟨_, rfl, run_len e8 ht⟩
      · cases h
    · cases h
  · cases h
theorem run_cap0 {P : Program} {ats : Array TypeId} {t ty e : TypeId} {b : Option Addr} {w : World} (h : ats[0]? = some t) (hd : P.underlying t = some (.slice e)) :
    (Builtin.cap_ ats ty #[.slice b 0 0]).run P w = .ok (.int .i64 0) w := by
  unfold Builtin.cap_
  rw [h]
  simp [run_underlying hd, goInt]
theorem capD_ok {ats : Array TypeId} {l : List SV} {w : SV} {vs : List Value} (h : capD C ats l = some w) (hd : denL ρ l vs) : ∃ y, den ρ w y ∧ (Builtin.cap_ ats ty vs.toArray).run C.P W = .ok y W := by
  unfold capD at h
  split at h
  · rename_i x t ts hts
    split at h
    · rename_i e hei
      obtain ⟨inf, z, ht, -⟩ := elemT_ok (e := e.1) (ei := e.2) hei
      obtain ⟨u, us, rfl, e2, e3⟩ := denL_cons hd
      obtain rfl := denL_nil e3
      have e8 : ats[0]? = some t := by
        have := congrArg (·[0]?) hts
        simpa using this
      split at h
      · obtain rfl := Option.some.inj h
        obtain ⟨b, rfl⟩ := e2
        exact ⟨_, rfl, run_cap0 e8 ht⟩
      · obtain rfl := Option.some.inj h
        obtain rfl : u = _ := e2
        exact ⟨_, rfl, run_cap0 e8 ht⟩
      · cases h
    · cases h
  · cases h
theorem mm2_ok {mx : Bool} {x y w : SV} {u v : Value} (h : mm2 mx x y = some w) (e2 : den ρ x u) (e5 : den ρ y v) : ∃ z, den ρ w z ∧ (if mx then Builtin.max2 u v else Builtin.min2 u v).run C.P W = .ok z W := by
  unfold mm2 at h
  split at h
  · rename_i k p k' q hp hq
    split at h
    · rename_i hk
      obtain rfl := sameK_eq hk
      obtain rfl := SV.int?_den hp e2
      obtain rfl := SV.int?_den hq e5
      have hmax : (Builtin.max2 (Value.int k p) (.int k q)).run C.P W = .ok (.int k (max p q)) W := by
        simp only [Builtin.max2, Sem.run_pure]
        congr 2
        by_cases hh : q > p
        · rw [if_pos hh]; omega
        · rw [if_neg hh]; omega
      have hmin : (Builtin.min2 (Value.int k p) (.int k q)).run C.P W = .ok (.int k (min p q)) W := by
        simp only [Builtin.min2, Sem.run_pure]
        congr 2
        by_cases hh : q < p
        · rw [if_pos hh]; omega
        · rw [if_neg hh]; omega
      split at h <;> obtain rfl := Option.some.inj h
      · exact ⟨_, rfl, hmax⟩
      · exact ⟨_, rfl, hmin⟩
      · exact ⟨_, rfl, hmax⟩
      · exact ⟨_, rfl, hmin⟩
    · cases h
  · cases h
theorem mmF_ok {mx : Bool} : ∀ {l : List SV} {x w : SV} {u : Value} {vs : List Value}, mmF mx x l = some w → den ρ x u → denL ρ l vs → ∃ y, den ρ w y ∧ (vs.foldlM (fun a b => if mx then Builtin.max2 a b else Builtin.min2 a b) u).run C.P W = .ok y W
  | [], x, w, u, vs, h, hx, hd => by
    obtain rfl := Option.some.inj h
    obtain rfl := denL_nil hd
    exact ⟨u, hx, rfl⟩
  | y :: r, x, w, u, vs, h, hx, hd => by
    obtain ⟨v, vs', rfl, e2, e3⟩ := denL_cons hd
    simp only [mmF] at h
    split at h
    · rename_i z hz
      obtain ⟨z', k1, k2⟩ := mm2_ok (C := C) (W := W) hz hx e2
      obtain ⟨y', k3, k4⟩ := mmF_ok (l := r) h k1 e3
      refine ⟨y', k3, ?_⟩
      rw [List.foldlM_cons]
      simp only [Sem.run_bind, k2, Result.andThen_ok, k4]
    · cases h
theorem mmD_ok {mx : Bool} {l : List SV} {w : SV} {vs : List Value} {ats : Array TypeId} (h : mmD mx l = some w) (hd : denL ρ l vs) : ∃ y, den ρ w y ∧ (if mx then Builtin.max_ ats ty vs.toArray else Builtin.min_ ats ty vs.toArray).run C.P W = .ok y W := by
  unfold mmD at h
  split at h
  · rename_i x y r
    split at h
    · rename_i z hz
      obtain ⟨u, us, rfl, e2, e3⟩ := denL_cons hd
      obtain ⟨v, vs', rfl, e5, e6⟩ := denL_cons e3
      obtain ⟨z', k1, k2⟩ := mm2_ok (C := C) (W := W) hz e2 e5
      obtain ⟨y', k3, k4⟩ := mmF_ok (C := C) (W := W) h k1 e6
      refine ⟨y', k3, ?_⟩
      cases mx with
      | true =>
        simp only [if_true] at k2 k4 ⊢
        simp only [Builtin.max_, List.foldlM_cons, Sem.run_bind, k2, Result.andThen_ok]
        exact k4
      | false =>
        simp only [Bool.false_eq_true, if_false] at k2 k4 ⊢
        simp only [Builtin.min_, List.foldlM_cons, Sem.run_bind, k2, Result.andThen_ok]
        exact k4
    · cases h
  · cases h

/-! ### Parts of slices -/
theorem opO_ok (h : OpOk op a ρ) {x : Option Operand} {v : Option SV} (e : opO op x = some v) : (x = none ∧ v = none) ∨ ∃ o u, x = some o ∧ v = some u ∧ den ρ u (a.eval o) := by
  cases x with
  | none => exact .inl ⟨rfl, (Option.some.inj e).symm⟩
  | some o =>
    simp only [opO] at e
    split at e
    · rename_i u hu
      exact .inr ⟨o, u, rfl, (Option.some.inj e).symm, h.get hu⟩
    · cases e
theorem map_addr {b o m sz cap : Nat} : (if cap = m then some (⟨b, o, none⟩ : Addr) else (some (⟨b, o, none⟩ : Addr)).map (·.add (m * sz))) = if cap = m then some ⟨b, o, none⟩ else some ⟨b, o + m * sz, none⟩ := by
  split
  · rfl
  · rw [Option.map_some, addr_add]
theorem rs_part {sz n : Nat} {hh : Nat → List SV} {ad : Option Addr} {cap l h : Nat} (hlh : l ≤ h) (hn : h ≤ n) (hd : den ρ (.rs sz n hh) (.slice ad n cap)) : den ρ (.rs sz (h - l) fun i => hh (l + i)) (.slice (if cap = l then ad else ad.map (·.add (l * sz))) (h - l) (cap - l)) := by
  obtain ⟨ad', cap', e, hc, h4⟩ := hd
  injection e with e1 e2 e3
  subst e1 e3
  refine ⟨_, _, rfl, by omega, fun i hi => ?_⟩
  obtain ⟨b, o, us, rfl, k2, k3, k4⟩ := h4 (l + i) (by omega)
  refine ⟨b, o + l * sz, us, ?_, k2, k3, fun k c hk => ?_⟩
  · rw [map_addr, if_neg (by omega)]
  · have := k4 k c hk
    rw [Nat.add_mul, ← Nat.add_assoc] at this
    exact this
theorem g_part {m e sz off n : Nat} {ad : Option Addr} {cap l h : Nat} (hlh : l ≤ h) (hn : h ≤ n) (hd : den ρ (.g m e sz off n) (.slice ad n cap)) : den ρ (.g m e sz (off + l) (h - l)) (.slice (if cap = l then ad else ad.map (·.add (l * sz))) (h - l) (cap - l)) := by
  obtain ⟨lv, p1, po, p2, p3, a', e, p5⟩ := hd
  injection e with e1 e2 e3
  subst e1 e3
  refine ⟨lv, p1, po, by omega, p3, _, by rw [Nat.sub_sub], fun hc => ?_⟩
  obtain ⟨b, q1, rfl⟩ := p5 (by omega)
  refine ⟨b, q1, ?_⟩
  rw [map_addr, if_neg (by omega), Nat.add_mul]
theorem sliceD_ok (h : OpOk op a ρ) {t : TypeId} {x : Operand} {low high max : Option Operand} {u : SV} {lo hi mx : Option SV} {r : DR} (hD : sliceD C t u lo hi mx = some r) (ho : r.Ob) (hx : den ρ u (a.eval x))
    (h1 : opO op low = some lo) (h2 : opO op high = some hi) (h3 : opO op max = some mx) :
    ∃ y, Yields r ρ y ∧ (execOp a.eval ⟨dst, .slice t x low high max, ty, pos, after, guard⟩).run C.P W = .ok (.value y) W := by
  have n1 : ∀ {x : Option Operand}, opO op x = some none → x.map a.eval = none := fun {x} hx => by
    rcases opO_ok h hx with ⟨rfl, -⟩ | ⟨o, u, rfl, e, -⟩
    · rfl
    · cases e
  have s1 : ∀ {x : Option Operand} {u : SV} {k : IntKind} {n : Int}, opO op x = some (some u) → u.int? = some (k, n) → x.map a.eval = some (.int k n) := fun {x u k n} hx hu => by
    rcases opO_ok h hx with ⟨-, e⟩ | ⟨o, u', rfl, e, hd⟩
    · cases e
    · obtain rfl := Option.some.inj e
      rw [Option.map_some, SV.int?_den hu hd]
  have z1 : ∀ {x : Option Operand} {k : IntKind}, opO op x = some (some (.il k 0)) → x.map a.eval = some (.int k 0) := fun {x k} hx => s1 hx rfl
  have hnil : ∀ (e : Nat) (inf : TypeInfo) (ad : Option Addr) (n cap : Nat) (k k' : IntKind), C.P.underlying t = some (.slice e) → C.P.info? e = some inf → a.eval x = .slice ad n cap → low.map a.eval = none → high.map a.eval = some (.int k 0) → max.map a.eval = some (.int k' 0) →
      ∃ y, den ρ .e y ∧ (execOp a.eval ⟨dst, .slice t x low high max, ty, pos, after, guard⟩).run C.P W = .ok (.value y) W := by
    intro e inf ad n cap k k' ht hinf e1 q1 q2 q3
    refine ⟨_, ?_, ex_slice (l := 0) (h := 0) (m := 0) e1 ht hinf ?_⟩
    · rw [if_pos rfl]; exact ⟨ad, rfl⟩
    · rw [q1, q2, q3]
      exact run_sliceBounds (.inr ⟨k', 0, rfl, by omega, by omega, rfl⟩) (.inr ⟨k, 0, rfl, by omega, by omega, rfl⟩) (.inl ⟨rfl, rfl⟩)
  unfold sliceD at hD
  split at hD
  · -- what never changes
    rename_i sz n hh
    split at hD
    · rename_i e ei hei
      obtain ⟨inf, z, ht, hinf, hs, -⟩ := elemT_ok hei
      obtain ⟨ad, cap, e1, e3, e4⟩ := hx
      have hx' : den ρ (.rs sz n hh) (.slice ad n cap) := ⟨ad, cap, rfl, e3, e4⟩
      split at hD
      · rename_i b1
        have b1 := Nat.eq_of_beq_eq_true b1
        split at hD
        · rename_i k b hb
          obtain ⟨o1, o2⟩ := dvo_ob hD ho
          refine ⟨_, yields_dvo hD ?_, ex_slice (l := 0) (h := b.toNat) (m := cap) e1 ht hinf ?_⟩
          · have := rs_part (l := 0) (h := b.toNat) (by omega) (by omega) hx'
            simp only [Nat.zero_add] at this
            rw [hs, b1]; exact this
          · rw [n1 h1, s1 h2 hb, n1 h3]
            exact run_sliceBounds (.inl ⟨rfl, rfl⟩) (.inr ⟨k, b, rfl, o1, by omega, rfl⟩) (.inl ⟨rfl, rfl⟩)
        · cases hD
      · rename_i b1
        have b1 := Nat.eq_of_beq_eq_true b1
        split at hD
        · rename_i k b hb
          obtain ⟨o1, o2⟩ := dvo_ob hD ho
          refine ⟨_, yields_dvo hD ?_, ex_slice (l := b.toNat) (h := n) (m := cap) e1 ht hinf ?_⟩
          · have := rs_part (l := b.toNat) (h := n) (by omega) (by omega) hx'
            rw [hs, b1]; exact this
          · rw [s1 h1 hb, n1 h2, n1 h3]
            exact run_sliceBounds (.inl ⟨rfl, rfl⟩) (.inl ⟨rfl, rfl, rfl⟩) (.inr ⟨k, b, rfl, o1, by omega, rfl⟩)
        · cases hD
      · rename_i b1
        have b1 := Nat.eq_of_beq_eq_true b1
        split at hD
        · rename_i k p k' q hp hq
          obtain ⟨o1, o2, o3⟩ := dvo_ob hD ho
          refine ⟨_, yields_dvo hD ?_, ex_slice (l := p.toNat) (h := q.toNat) (m := cap) e1 ht hinf ?_⟩
          · have := rs_part (l := p.toNat) (h := q.toNat) (by omega) (by omega) hx'
            rw [hs, b1]; exact this
          · rw [s1 h1 hp, s1 h2 hq, n1 h3]
            exact run_sliceBounds (.inl ⟨rfl, rfl⟩) (.inr ⟨k', q, rfl, by omega, by omega, rfl⟩) (.inr ⟨k, p, rfl, o1, by omega, rfl⟩)
        · cases hD
      · obtain ⟨y, q1, q2⟩ := hnil e inf ad n cap _ _ ht hinf e1 (n1 h1) (z1 h2) (z1 h3)
        exact ⟨y, yields_dv hD q1, q2⟩
      · rename_i b1
        have b1 := Nat.eq_of_beq_eq_true b1
        refine ⟨_, yields_dv hD ?_, ex_slice (l := 0) (h := n) (m := cap) e1 ht hinf ?_⟩
        · have := rs_part (l := 0) (h := n) (by omega) (by omega) hx'
          simp only [Nat.zero_add] at this
          rw [hs, b1]; exact this
        · rw [n1 h1, n1 h2, n1 h3]
          exact run_sliceBounds (.inl ⟨rfl, rfl⟩) (.inl ⟨rfl, rfl, rfl⟩) (.inl ⟨rfl, rfl⟩)
      · cases hD
    · cases hD
  · -- a list of one's own
    rename_i m e0 sz off n
    split at hD
    · rename_i e ei hei
      obtain ⟨inf, z, ht, hinf, hs, -⟩ := elemT_ok hei
      have hx0 := hx
      obtain ⟨lv, p1, po, p2, p3, ad, e1, p5⟩ := hx
      have hx' : den ρ (.g m e0 sz off n) (.slice ad n (lv.cap - off)) := by rw [← e1]; exact hx0
      have e3 : n ≤ lv.cap - off := by omega
      generalize lv.cap - off = cap at e1 hx' e3
      split at hD
      · rename_i b1
        have b1 := Nat.eq_of_beq_eq_true b1
        split at hD
        · rename_i k b hb
          obtain ⟨o1, o2⟩ := dvo_ob hD ho
          refine ⟨_, yields_dvo hD ?_, ex_slice (l := 0) (h := b.toNat) (m := cap) e1 ht hinf ?_⟩
          · have := g_part (l := 0) (h := b.toNat) (by omega) (by omega) hx'
            rw [hs, b1]; exact this
          · rw [n1 h1, s1 h2 hb, n1 h3]
            exact run_sliceBounds (.inl ⟨rfl, rfl⟩) (.inr ⟨k, b, rfl, o1, by omega, rfl⟩) (.inl ⟨rfl, rfl⟩)
        · cases hD
      · rename_i b1
        have b1 := Nat.eq_of_beq_eq_true b1
        split at hD
        · rename_i k b hb
          obtain ⟨o1, o2⟩ := dvo_ob hD ho
          refine ⟨_, yields_dvo hD ?_, ex_slice (l := b.toNat) (h := n) (m := cap) e1 ht hinf ?_⟩
          · have := g_part (l := b.toNat) (h := n) (by omega) (by omega) hx'
            rw [hs, b1]; exact this
          · rw [s1 h1 hb, n1 h2, n1 h3]
            exact run_sliceBounds (.inl ⟨rfl, rfl⟩) (.inl ⟨rfl, rfl, rfl⟩) (.inr ⟨k, b, rfl, o1, by omega, rfl⟩)
        · cases hD
      · rename_i b1
        have b1 := Nat.eq_of_beq_eq_true b1
        split at hD
        · rename_i k p k' q hp hq
          obtain ⟨o1, o2, o3⟩ := dvo_ob hD ho
          refine ⟨_, yields_dvo hD ?_, ex_slice (l := p.toNat) (h := q.toNat) (m := cap) e1 ht hinf ?_⟩
          · have := g_part (l := p.toNat) (h := q.toNat) (by omega) (by omega) hx'
            rw [hs, b1]; exact this
          · rw [s1 h1 hp, s1 h2 hq, n1 h3]
            exact run_sliceBounds (.inl ⟨rfl, rfl⟩) (.inr ⟨k', q, rfl, by omega, by omega, rfl⟩) (.inr ⟨k, p, rfl, o1, by omega, rfl⟩)
        · cases hD
      · obtain ⟨y, q1, q2⟩ := hnil e inf ad n cap _ _ ht hinf e1 (n1 h1) (z1 h2) (z1 h3)
        exact ⟨y, yields_dv hD q1, q2⟩
      · rename_i b1
        have b1 := Nat.eq_of_beq_eq_true b1
        refine ⟨_, yields_dv hD ?_, ex_slice (l := 0) (h := n) (m := cap) e1 ht hinf ?_⟩
        · have := g_part (l := 0) (h := n) (by omega) (by omega) hx'
          rw [hs, b1]; exact this
        · rw [n1 h1, n1 h2, n1 h3]
          exact run_sliceBounds (.inl ⟨rfl, rfl⟩) (.inl ⟨rfl, rfl, rfl⟩) (.inl ⟨rfl, rfl⟩)
      · cases hD
    · cases hD
  · rename_i n sz off len cap
    split at hD
    · rename_i e ei hei
      obtain ⟨inf, z, ht, hinf, hs, -⟩ := elemT_ok hei
      obtain ⟨b, hb, e1⟩ := hx
      split at hD
      · refine ⟨_, yields_dv hD ?_, ex_slice (l := 0) (h := len) (m := cap) e1 ht hinf ?_⟩
        · refine ⟨b, hb, ?_⟩
          rw [map_addr]
          simp
        · rw [n1 h1, n1 h2, n1 h3]
          exact run_sliceBounds (.inl ⟨rfl, rfl⟩) (.inl ⟨rfl, rfl, rfl⟩) (.inl ⟨rfl, rfl⟩)
      · obtain ⟨y, q1, q2⟩ := hnil e inf _ len cap _ _ ht hinf e1 (n1 h1) (z1 h2) (z1 h3)
        exact ⟨y, yields_dv hD q1, q2⟩
      · cases hD
    · cases hD
  · rename_i n off
    split at hD
    · rename_i len e ei hei
      obtain ⟨inf, d, ht, hinf, hs, -⟩ := arrT_ok hei
      obtain ⟨b, hb, e1⟩ := hx
      split at hD
      · rename_i k
        refine ⟨_, yields_dv hD ?_, ex_sliceArr (l := 0) (h := k + 1) (m := k + 1) e1 ht hinf ?_⟩
        · refine ⟨b, hb, ?_⟩
          rw [if_neg (by omega), addr_add]
          simp
        · rw [n1 h1, n1 h2, n1 h3]
          exact run_sliceBounds (.inl ⟨rfl, rfl⟩) (.inl ⟨rfl, rfl, rfl⟩) (.inl ⟨rfl, rfl⟩)
      · cases hD
    · cases hD
  · split at hD
    · rename_i ei hei
      obtain ⟨inf, z, ht, hinf, hs, -⟩ := elemT_ok (e := ei.1) (ei := ei.2) hei
      obtain ⟨ad, e1⟩ := hx
      refine ⟨_, yields_dv hD ?_, ex_slice (l := 0) (h := 0) (m := 0) e1 ht hinf ?_⟩
      · exact ⟨_, rfl⟩
      · rw [n1 h1, n1 h2, n1 h3]
        exact run_sliceBounds (.inl ⟨rfl, rfl⟩) (.inl ⟨rfl, rfl, rfl⟩) (.inl ⟨rfl, rfl⟩)
    · rename_i ei k k' hei
      obtain ⟨inf, z, ht, hinf, hs, -⟩ := elemT_ok (e := ei.1) (ei := ei.2) hei
      obtain ⟨ad, e1⟩ := hx
      obtain ⟨y, q1, q2⟩ := hnil _ inf ad 0 0 _ _ ht hinf e1 (n1 h1) (z1 h2) (z1 h3)
      exact ⟨y, yields_dv hD q1, q2⟩
    · rename_i ei k hei
      obtain ⟨inf, z, ht, hinf, hs, -⟩ := elemT_ok (e := ei.1) (ei := ei.2) hei
      obtain ⟨ad, e1⟩ := hx
      refine ⟨_, yields_dv hD ?_, ex_slice (l := 0) (h := 0) (m := 0) e1 ht hinf ?_⟩
      · exact ⟨_, rfl⟩
      · rw [n1 h1, z1 h2, n1 h3]
        exact run_sliceBounds (.inl ⟨rfl, rfl⟩) (.inr ⟨_, 0, rfl, by omega, by omega, rfl⟩) (.inl ⟨rfl, rfl⟩)
    · cases hD
  · split at hD
    · rename_i ei hei
      obtain ⟨inf, z, ht, hinf, hs, -⟩ := elemT_ok (e := ei.1) (ei := ei.2) hei
      have e1 : a.eval x = _ := hx
      refine ⟨_, yields_dv hD ?_, ex_slice (l := 0) (h := 0) (m := 0) e1 ht hinf ?_⟩
      · exact ⟨_, rfl⟩
      · rw [n1 h1, n1 h2, n1 h3]
        exact run_sliceBounds (.inl ⟨rfl, rfl⟩) (.inl ⟨rfl, rfl, rfl⟩) (.inl ⟨rfl, rfl⟩)
    · rename_i ei k k' hei
      obtain ⟨inf, z, ht, hinf, hs, -⟩ := elemT_ok (e := ei.1) (ei := ei.2) hei
      have e1 : a.eval x = _ := hx
      obtain ⟨y, q1, q2⟩ := hnil _ inf none 0 0 _ _ ht hinf e1 (n1 h1) (z1 h2) (z1 h3)
      exact ⟨y, yields_dv hD q1, q2⟩
    · rename_i ei k hei
      obtain ⟨inf, z, ht, hinf, hs, -⟩ := elemT_ok (e := ei.1) (ei := ei.2) hei
      have e1 : a.eval x = _ := hx
      refine ⟨_, yields_dv hD ?_, ex_slice (l := 0) (h := 0) (m := 0) e1 ht hinf ?_⟩
      · exact ⟨_, rfl⟩
      · rw [n1 h1, z1 h2, n1 h3]
        exact run_sliceBounds (.inl ⟨rfl, rfl⟩) (.inr ⟨_, 0, rfl, by omega, by omega, rfl⟩) (.inl ⟨rfl, rfl⟩)
    · cases hD
  · cases hD
end
end Go.Proofs.YtcojfohjdibjjaaGreatDoor
