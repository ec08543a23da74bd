/- A symbolic executor with lists, 8: comparisons, numbers, elements, parts of slices, stores. -/
import Derived.Test.YtcojfohjdibjjaaGreatDoorG6
import Derived.ChangeKeysEq
namespace Go.Proofs.YtcojfohjdibjjaaGreatDoor
open Go.RowKit

section
variable {PP : Program} {C : Cx PP} {op : OpF} {a : Act} {ρ : Names} {W W' : World} {H : Heap} {nm : Nat} {dst : Option Tmp} {ty : TypeId} {pos : String} {after : Array Edge} {guard : Option (Nat × Bool)}

theorem binD_ok {o : BinOp} {x y : Operand} {u v : SV} {r : DR} {yt t : TypeId} (h : binD o u v = some r) (ho : r.Ob) (hx : den ρ u (a.eval x)) (hy : den ρ v (a.eval y)) :
    ∃ y', Yields r ρ y' ∧ (execOp a.eval ⟨dst, .binOp o t x y yt, ty, pos, after, guard⟩).run C.P W = .ok (.value y') W := by
  unfold binD at h
  split at h
  · rename_i k p k' q hp hq
    have e1 := SV.int?_den hp hx
    have e2 := SV.int?_den hq hy
    split at h
    · obtain ⟨y', k1, k2⟩ := shInt_ok (P := C.P) (w := W) (t := t) (ρ := ρ) (k' := k') h ho
      exact ⟨y', k1, ex_bin (by rw [e1, e2]; exact guard_int) (by rw [e1, e2]; exact k2)⟩
    · split at h
      · rename_i hk
        obtain rfl := sameK_eq hk
        obtain ⟨y', k1, k2⟩ := binInt_ok (P := C.P) (w := W) (t := t) (ρ := ρ) h ho
        exact ⟨y', k1, ex_bin (by rw [e1, e2]; exact guard_int) (by rw [e1, e2]; exact k2)⟩
      · cases h
  · cases h
theorem binM_ok {m : Bool} {o : BinOp} {x y : Operand} {u v : SV} {r : DR} {yt t : TypeId} (h : binM m o u v = some r) (ho : r.Ob) (hx : den ρ u (a.eval x)) (hy : den ρ v (a.eval y)) :
    ∃ y', Yields r ρ y' ∧ (execOp a.eval ⟨dst, .binOp o t x y yt, ty, pos, after, guard⟩).run C.P W = .ok (.value y') W := by
  unfold binM at h
  split at h
  · exact binD_ok h ho hx hy
  · split at h
    · rename_i k p k' q hp hq
      have e1 := SV.int?_den hp hx
      have e2 := SV.int?_den hq hy
      split at h
      · obtain ⟨y', k1, k2⟩ := shInt_ok (P := C.P) (w := W) (t := t) (ρ := ρ) (k' := k') h ho
        exact ⟨y', k1, ex_bin (by rw [e1, e2]; exact guard_int) (by rw [e1, e2]; exact k2)⟩
      · split at h
        · rename_i hk
          obtain rfl := sameK_eq hk
          obtain ⟨y', k1, k2⟩ := binIntW_ok (P := C.P) (w := W) (t := t) (ρ := ρ) h ho
          exact ⟨y', k1, ex_bin (by rw [e1, e2]; exact guard_int) (by rw [e1, e2]; exact k2)⟩
        · cases h
    · cases h
theorem boolD_ok {o : BinOp} {x y : Operand} {u v w : SV} {yt t : TypeId} (h : boolD C o t u v = some w) (hx : den ρ u (a.eval x)) (hy : den ρ v (a.eval y)) :
    ∃ y', den ρ w y' ∧ (execOp a.eval ⟨dst, .binOp o t x y yt, ty, pos, after, guard⟩).run C.P W = .ok (.value y') W := by
  unfold boolD at h
  split at h
  · rename_i p q ti hp hq hti
    split at h
    · rename_i hk
      obtain rfl := Option.some.inj h
      have e1 := SV.bool?_den hp hx
      have e2 := SV.bool?_den hq hy
      obtain ⟨i, d, z, hi, hdd, hs, hz, hzz, hkk, -⟩ := (C.ty hti).ex
      have hd : d = .bool := by rw [hk] at hkk; cases d <;> first | rfl | simp [kindEq] at hkk
      subst hd
      refine ⟨_, rfl, ex_bin (by rw [e1, e2]; exact guard_bool) ?_⟩
      rw [e1, e2]
      simp only [binOp, Op.equal, Op.maxDepth, Sem.run_bind, run_equalIn_bool' W 9999 t p q hdd, Result.andThen_ok, Sem.run_pure]
    · cases h
  · rename_i p q ti hp hq hti
    split at h
    · rename_i hk
      obtain rfl := Option.some.inj h
      have e1 := SV.bool?_den hp hx
      have e2 := SV.bool?_den hq hy
      obtain ⟨i, d, z, hi, hdd, hs, hz, hzz, hkk, -⟩ := (C.ty hti).ex
      have hd : d = .bool := by rw [hk] at hkk; cases d <;> first | rfl | simp [kindEq] at hkk
      subst hd
      refine ⟨_, rfl, ex_bin (by rw [e1, e2]; exact guard_bool) ?_⟩
      rw [e1, e2]
      simp only [binOp, Op.equal, Op.maxDepth, Sem.run_bind, run_equalIn_bool' W 9999 t p q hdd, Result.andThen_ok, Sem.run_pure]
      rfl
    · cases h
  · cases h

/-- The value that cells make. -/
def valOf (ti : TI) (vs : List Value) : Value := match aggK ti.k with | true => .agg vs.toArray | false => vs.headD undef
theorem run_part_ok {P : Program} {e : TypeId} {i : TypeInfo} {d : TypeDesc} {ti : TI} {vs : List Value} {off : Nat} (hi : P.info? e = some i) (hd : P.underlying e = some d) (hs : i.size = ti.sz) (hk : kindEq d ti.k = true) (hl : ti.sz ≤ (vs.drop off).length) (h1 : aggK ti.k = false → ti.sz = 1) :
    (part e vs.toArray off).run P W = .ok (valOf ti ((vs.drop off).take ti.sz)) W := by
  cases hag : aggK ti.k with
  | true =>
    rw [run_part_agg hi hd (kind_agg hk hag), hs]
    congr 1
    unfold valOf
    rw [hag]
    simp only
    congr 1
    rw [List.length_drop] at hl
    apply Array.ext'
    simp [List.take_drop, Nat.add_comm]
  | false =>
    have hsz := h1 hag
    rw [hsz] at hl ⊢
    cases hv : vs.drop off with
    | nil => rw [hv] at hl; simp at hl
    | cons v r =>
      have hv' : vs[off]? = some v := by
        have := congrArg (·[0]?) hv
        simpa using this
      rw [run_part_one (v := v) hd (kind_one hk hag).1 (kind_one hk hag).2 (by simpa using hv')]
      unfold valOf; rw [hag]; rfl

/-- Parts are compared. -/
def EqOk (C : Cx PP) (ρ : Names) (W : World) (h : Nat → List SV → List SV → Option Bool) (d : Nat) : Prop :=
  ∀ t x y c ti p q, h t x y = some c → look C.T t = some ti → denL ρ x p → denL ρ y q → (aggK ti.k = false → x.length = 1) ∧ (Op.equalIn d t (valOf ti p) (valOf ti q)).run C.P W = .ok c W
theorem eq_step {h : Nat → List SV → List SV → Option Bool} {d : Nat} {xs ys : List SV} {us vs : List Value} (hx : denL ρ xs us) (hy : denL ρ ys vs) (hf : EqOk C ρ W h d) {off ft : Nat} {r : List (Nat × Nat)} {c : Bool} (he : eqFs C h xs ys ((off, ft) :: r) = some c) :
    ∃ b p q fi, look C.T ft = some fi ∧ (part ft us.toArray off).run C.P W = .ok p W ∧ (part ft vs.toArray off).run C.P W = .ok q W ∧ (Op.equalIn d ft p q).run C.P W = .ok b W ∧ ((c = b ∧ r = []) ∨ ∃ c', c = (b && c') ∧ eqFs C h xs ys r = some c') := by
  simp only [eqFs] at he
  split at he
  · cases he
  rename_i fi hfi
  split at he
  · rename_i x y hxt hyt
    split at he
    · cases he
    rename_i b hb
    obtain ⟨i, dd, z, hi, hdd, hs, hz, hzz, hk, -⟩ := (C.ty hfi).ex
    obtain ⟨k1, k2⟩ := takeN_den hxt (denL_drop off hx)
    obtain ⟨k3, k4⟩ := takeN_den hyt (denL_drop off hy)
    obtain ⟨hone, hrun⟩ := hf _ x y b fi _ _ hb hfi k1 k3
    have hsz : aggK fi.k = false → fi.sz = 1 := fun ha => by
      have := hone ha
      rw [← denL_length k1, List.length_take] at this
      omega
    refine ⟨b, _, _, fi, hfi, run_part_ok hi hdd hs hk k2 hsz, run_part_ok hi hdd hs hk k4 hsz, hrun, ?_⟩
    split at he
    · exact .inl ⟨(Option.some.inj he).symm, rfl⟩
    · split at he
      · rename_i c' hc'
        exact .inr ⟨c', (Option.some.inj he).symm, hc'⟩
      · cases he
  · cases he
theorem eqFs_ok {h : Nat → List SV → List SV → Option Bool} {d : Nat} {xs ys : List SV} {us vs : List Value} (hx : denL ρ xs us) (hy : denL ρ ys vs) (hf : EqOk C ρ W h d) :
    ∀ (fs : List Field) (c : Bool), (∀ g ∈ fs, g.name ≠ "_") → eqFs C h xs ys (fs.map fun g => (g.offset, g.type)) = some c → (Op.eqFields d us.toArray vs.toArray fs).run C.P W = .ok c W
  | [], c, _, h => by
    obtain rfl := Option.some.inj h
    rfl
  | g :: r, c, hn, he => by
    obtain ⟨b, p, q, fi, -, k1, k2, k3, k4⟩ := eq_step hx hy hf he
    have hne := hn g List.mem_cons_self
    have hstep : (Op.eqFields d us.toArray vs.toArray (g :: r)).run C.P W = if (!b) = true then .ok false W else (Op.eqFields d us.toArray vs.toArray r).run C.P W := by
      simp only [Op.eqFields, ne_eq, hne, not_false_eq_true, if_true, Sem.run_bind, k1, k2, k3, Result.andThen_ok]
      cases b <;> rfl
    rw [hstep]
    rcases k4 with ⟨rfl, hr⟩ | ⟨c', rfl, hc'⟩
    · have hr : r = [] := by simpa using hr
      subst hr
      cases c <;> rfl
    · have ih := eqFs_ok hx hy hf r c' (fun g' hg' => hn g' (List.mem_cons_of_mem _ hg')) hc'
      cases b
      · rfl
      · simpa using ih
theorem eqItems_ok {h : Nat → List SV → List SV → Option Bool} {d e sz : Nat} {xs ys : List SV} {us vs : List Value} (hx : denL ρ xs us) (hy : denL ρ ys vs) (hf : EqOk C ρ W h d) :
    ∀ (n i : Nat) (c : Bool), eqFs C h xs ys (arrFs e sz i n) = some c → (Op.eqItems d e sz us.toArray vs.toArray (List.range' i n)).run C.P W = .ok c W
  | 0, i, c, h => by
    obtain rfl := Option.some.inj h
    rfl
  | n + 1, i, c, he => by
    simp only [arrFs] at he
    obtain ⟨b, p, q, fi, -, k1, k2, k3, k4⟩ := eq_step hx hy hf he
    have hstep : (Op.eqItems d e sz us.toArray vs.toArray (List.range' i (n + 1))).run C.P W = if (!b) = true then .ok false W else (Op.eqItems d e sz us.toArray vs.toArray (List.range' (i + 1) n)).run C.P W := by
      simp only [List.range'_succ, Op.eqItems, Sem.run_bind, k1, k2, k3, Result.andThen_ok]
      cases b <;> rfl
    rw [hstep]
    rcases k4 with ⟨rfl, hr⟩ | ⟨c', rfl, hc'⟩
    · cases n with
      | zero => cases c <;> rfl
      | succ n => simp [arrFs] at hr
    · have ih := eqItems_ok hx hy hf n (i + 1) c' hc'
      cases b
      · rfl
      · simpa using ih

theorem eqT_ok : ∀ (k d t : Nat) (xs ys : List SV) (c : Bool) (ti : TI) (us vs : List Value), eqT C k t xs ys = some c → look C.T t = some ti → denL ρ xs us → denL ρ ys vs →
    (aggK ti.k = false → xs.length = 1) ∧ (Op.equalIn (d + k) t (valOf ti us) (valOf ti vs)).run C.P W = .ok c W
  | 0, _, _, _, _, _, _, _, _, h, _, _, _ => by cases h
  | k + 1, d, t, xs, ys, c, ti, us, vs, h, hti, hx, hy => by
    simp only [eqT, hti] at h
    obtain ⟨i, dd, z, hi, hdd, hs, hz, hzz, hk, -⟩ := (C.ty hti).ex
    split at h
    · rename_i fs hfs
      split at h
      · rename_i heq
        refine ⟨(fun ha => by rw [hfs] at ha; cases ha), ?_⟩
        have he := (C.ty hti).eq heq
        simp only [eqOk, hdd, Bool.and_eq_true, Bool.not_eq_true'] at he
        rw [hfs] at hk
        cases dd with
        | struct fs' =>
          have hk2 : (fs'.toList.map fun f => (f.offset, f.type)) = fs := by simpa [kindEq] using hk
          have hfo : C.P.fieldsOf t = fs' := by simp [Program.fieldsOf, hdd]
          have hv1 : valOf ti us = .agg us.toArray := by unfold valOf; rw [hfs]; rfl
          have hv2 : valOf ti vs = .agg vs.toArray := by unfold valOf; rw [hfs]; rfl
          rw [hv1, hv2, show d + (k + 1) = (d + k) + 1 from rfl, run_equalIn_struct W (d + k) t _ _ (by rw [hfo]; exact hdd) he.1.1, hfo]
          refine eqFs_ok hx hy (fun t' x y c' ti' p q h1 h2 h3 h4 => eqT_ok k d t' x y c' ti' p q h1 h2 h3 h4) fs'.toList c ?_ (by rw [hk2]; exact h)
          intro g hg
          have := List.all_eq_true.1 he.2 g hg
          simpa using this
        | _ => simp [kindEq] at hk
      · cases h
    · rename_i n e hke
      split at h
      · rename_i ei hei
        refine ⟨(fun ha => by rw [hke] at ha; cases ha), ?_⟩
        obtain ⟨i2, d2, z2, hi2, hdd2, hs2, -⟩ := (C.ty hei).ex
        rw [hke] at hk
        cases dd with
        | array n' e' =>
          simp only [kindEq, Bool.and_eq_true, beq_iff_eq] at hk
          obtain ⟨rfl, rfl⟩ := hk
          have hv1 : valOf ti us = .agg us.toArray := by unfold valOf; rw [hke]; rfl
          have hv2 : valOf ti vs = .agg vs.toArray := by unfold valOf; rw [hke]; rfl
          have hco : C.P.cellsOf e' = ei.sz := by simp [Program.cellsOf, hi2, hs2]
          rw [hv1, hv2, show d + (k + 1) = (d + k) + 1 from rfl, run_equalIn_array W (d + k) _ _ hdd hi2, hco, List.range_eq_range']
          exact eqItems_ok hx hy (fun t' x y c' ti' p q h1 h2 h3 h4 => eqT_ok k d t' x y c' ti' p q h1 h2 h3 h4) n' 0 c h
        | _ => simp [kindEq] at hk
      · cases h
    · rename_i kk hkk
      split at h
      · rename_i x y
        split at h
        · rename_i k1 a k2 b h1 h2
          split at h
          · rename_i hsk
            obtain rfl := sameK_eq hsk
            obtain rfl := Option.some.inj h
            refine ⟨fun _ => rfl, ?_⟩
            obtain ⟨u, us', rfl, e1, e2⟩ := denL_cons hx
            obtain rfl := denL_nil e2
            obtain ⟨v, vs', rfl, e3, e4⟩ := denL_cons hy
            obtain rfl := denL_nil e4
            obtain rfl := SV.int?_den h1 e1
            obtain rfl := SV.int?_den h2 e3
            rw [hkk] at hk
            cases dd with
            | int k' =>
              have hv : ∀ w : Value, valOf ti [w] = w := fun w => by unfold valOf; rw [hkk]; rfl
              rw [hv, hv]
              exact run_equalIn_int W (d + k) t _ _ a b hdd
            | _ => simp [kindEq] at hk
          · cases h
        · cases h
      · cases h
    · rename_i hkk
      split at h
      · rename_i x y
        split at h
        · rename_i a b h1 h2
          obtain rfl := Option.some.inj h
          refine ⟨fun _ => rfl, ?_⟩
          obtain ⟨u, us', rfl, e1, e2⟩ := denL_cons hx
          obtain rfl := denL_nil e2
          obtain ⟨v, vs', rfl, e3, e4⟩ := denL_cons hy
          obtain rfl := denL_nil e4
          obtain rfl := SV.bool?_den h1 e1
          obtain rfl := SV.bool?_den h2 e3
          rw [hkk] at hk
          cases dd with
          | bool =>
            have hv : ∀ w : Value, valOf ti [w] = w := fun w => by unfold valOf; rw [hkk]; rfl
            rw [hv, hv]
            exact run_equalIn_bool' W (d + k) t a b hdd
          | _ => simp [kindEq] at hk
        · cases h
      · cases h
    · cases h

theorem aggD_ok {o : BinOp} {x y : Operand} {u v w : SV} {yt t : TypeId} (h : aggD C o t u v = some w) (hx : den ρ u (a.eval x)) (hy : den ρ v (a.eval y)) :
    ∃ y', den ρ w y' ∧ (execOp a.eval ⟨dst, .binOp o t x y yt, ty, pos, after, guard⟩).run C.P W = .ok (.value y') W := by
  have key : ∀ {xs ys : List SV} {ti : TI} {c : Bool}, look C.T t = some ti → ti.eq = true → aggK ti.k = true → eqT C 4 t xs ys = some c → den ρ (.agg xs) (a.eval x) → den ρ (.agg ys) (a.eval y) →
      ∃ us vs : Array Value, a.eval x = .agg us ∧ a.eval y = .agg vs ∧ (Op.equalIn 10000 t (.agg us) (.agg vs)).run C.P W = .ok c W ∧ C.P.eqGuardType C.P.depth t = false := by
    intro xs ys ti c hti heq hag hc hx hy
    obtain ⟨us, hus, e1⟩ := hx
    obtain ⟨vs, hvs, e2⟩ := hy
    have := (eqT_ok (W := W) 4 9996 t xs ys c ti us vs hc hti hus hvs).2
    have hv : ∀ l : List Value, valOf ti l = .agg l.toArray := fun l => by unfold valOf; rw [hag]
    rw [hv, hv] at this
    have he := (C.ty hti).eq heq
    simp only [eqOk, Bool.and_eq_true, Bool.not_eq_true'] at he
    exact ⟨_, _, e1, e2, this, he.1.2⟩
  unfold aggD at h
  split at h
  · split at h
    · rename_i ti hti
      split at h
      · rename_i heq hag
        split at h
        · rename_i c hc
          obtain rfl := Option.some.inj h
          obtain ⟨us, vs, e1, e2, e3, e4⟩ := key hti heq hag hc hx hy
          refine ⟨_, rfl, ex_bin (by rw [e1, e2]; exact run_eqGuard_agg W _ _ _ _ _ _ e4) ?_⟩
          rw [e1, e2, run_eql_struct, e3]
          rfl
        · cases h
      · cases h
    · cases h
  · split at h
    · rename_i ti hti
      split at h
      · rename_i heq hag
        split at h
        · rename_i c hc
          obtain rfl := Option.some.inj h
          obtain ⟨us, vs, e1, e2, e3, e4⟩ := key hti heq hag hc hx hy
          refine ⟨_, rfl, ex_bin (by rw [e1, e2]; exact run_eqGuard_agg W _ _ _ _ _ _ e4) ?_⟩
          rw [e1, e2, run_neq_struct, e3]
          rfl
        · cases h
      · cases h
    · cases h
  · cases h

theorem guard_ptr {P : Program} {op : BinOp} {t : TypeId} {x y : Operand} {n m : Option Addr} : (eqGuard op t x y (.pointer n) (.pointer m)).run P W = .ok () W := by
  simp only [eqGuard]; split <;> rfl
theorem run_nil_ptr {P : Program} {t e : TypeId} {p : Option Addr} {d : Nat} (ht : P.underlying t = some (.pointer e)) : (Op.equalIn (d + 1) t (.pointer p) (.pointer none)).run P W = .ok p.isNone W := by
  cases p <;> simp [Op.equalIn, run_underlying ht]
theorem isNilP_ok {v : SV} {y : Value} (h : isNilP v = true) (hd : den ρ v y) : y = .pointer none := by
  unfold isNilP at h
  split at h
  · exact hd
  · cases h
theorem ptrNil_ok {v : SV} {y : Value} {b : Bool} (h : ptrNil v = some b) (hd : den ρ v y) : ∃ p, y = .pointer p ∧ p.isNone = b := by
  unfold ptrNil at h
  split at h
  · obtain rfl := Option.some.inj h; exact ⟨none, hd, rfl⟩
  · obtain rfl := Option.some.inj h
    obtain ⟨b, o, u, e, -⟩ := hd
    exact ⟨_, e, rfl⟩
  · obtain rfl := Option.some.inj h
    obtain ⟨b, -, e⟩ := hd
    exact ⟨_, e, rfl⟩
  · obtain rfl := Option.some.inj h
    obtain ⟨l, b, -, -, -, -, -, e⟩ := hd
    exact ⟨_, e, rfl⟩
  · obtain rfl := Option.some.inj h
    obtain ⟨l, b, -, -, -, -, e⟩ := hd
    exact ⟨_, e, rfl⟩
  · cases h
theorem ptrD_ok {o : BinOp} {x y : Operand} {u v w : SV} {yt t : TypeId} (h : ptrD C o t u v = some w) (hx : den ρ u (a.eval x)) (hy : den ρ v (a.eval y)) :
    ∃ y', den ρ w y' ∧ (execOp a.eval ⟨dst, .binOp o t x y yt, ty, pos, after, guard⟩).run C.P W = .ok (.value y') W := by
  unfold ptrD at h
  split at h
  · rename_i b ti hb hn hti
    obtain ⟨p, e1, e3⟩ := ptrNil_ok hb hx
    have e2 := isNilP_ok hn hy
    obtain ⟨i, d, z, hi, hdd, hs, hz, hzz, hkk, -⟩ := (C.ty hti).ex
    have hd : isPtrK ti.k = true → ∃ e, d = .pointer e := by
      intro hk
      cases htk : ti.k <;> rw [htk] at hk <;> first | cases hk | skip
      rw [htk] at hkk
      cases d <;> first | exact ⟨_, rfl⟩ | simp [kindEq] at hkk
    split at h
    · rename_i hk
      obtain rfl := Option.some.inj h
      obtain ⟨e, rfl⟩ := hd hk
      refine ⟨_, rfl, ex_bin (by rw [e1, e2]; exact guard_ptr) ?_⟩
      rw [e1, e2, ← e3]
      simp only [binOp, Op.equal, Op.maxDepth, Sem.run_bind, run_nil_ptr (W := W) (d := 9999) hdd, Result.andThen_ok, Sem.run_pure]
    · rename_i hk
      obtain rfl := Option.some.inj h
      obtain ⟨e, rfl⟩ := hd hk
      refine ⟨_, rfl, ex_bin (by rw [e1, e2]; exact guard_ptr) ?_⟩
      rw [e1, e2, ← e3]
      simp only [binOp, Op.equal, Op.maxDepth, Sem.run_bind, run_nil_ptr (W := W) (d := 9999) hdd, Result.andThen_ok, Sem.run_pure]
    · cases h
  · cases h

theorem unD_ok {o : UnOp} {x : Operand} {u : SV} {r : DR} {t : TypeId} (h : unD o u = some r) (ho : r.Ob) (hx : den ρ u (a.eval x)) :
    ∃ y, Yields r ρ y ∧ (execOp a.eval ⟨dst, .unOp o t x, ty, pos, after, guard⟩).run C.P W = .ok (.value y) W := by
  unfold unD at h
  split at h
  · have e : a.eval x = .bool _ := hx
    exact ⟨_, yields_dv h rfl, ex_un (by rw [e]; rfl)⟩
  · have e : a.eval x = .bool _ := hx
    exact ⟨_, yields_dv h rfl, ex_un (by rw [e]; rfl)⟩
  · split at h
    · rename_i k n hn
      have e := SV.int?_den hn hx
      exact ⟨_, (arI_ok h ho).2, ex_un (by rw [e]; simp only [Op.unary, Op.intArith, Sem.run_pure, Int.zero_sub])⟩
    · cases h
  · cases h

theorem wrap_i64 {n : Int} (h : InR n) : IntKind.i64.wrap n = n := h.wrap
theorem convD_ok {src dst' : TypeId} {x : Operand} {u : SV} {r : DR} (h : convD C src dst' u = some r) (ho : r.Ob) (hx : den ρ u (a.eval x)) :
    ∃ y, Yields r ρ y ∧ (execOp a.eval ⟨dst, .convert src dst' x, ty, pos, after, guard⟩).run C.P W = .ok (.value y) W := by
  unfold convD at h
  split at h
  · rename_i si ti hsi hti
    obtain ⟨i1, d1, z1, -, hd1, -⟩ := (C.ty hsi).ex
    obtain ⟨i2, d2, z2, -, hd2, -, -, -, hk, -⟩ := (C.ty hti).ex
    have key : ∀ (k k' : IntKind) (n : Int), ti.k = .int k → a.eval x = .int k' n → (execOp a.eval ⟨dst, .convert src dst' x, ty, pos, after, guard⟩).run C.P W = .ok (.value (.int k (k.wrap n))) W := by
      intro k k' n hki hxe
      rw [hki] at hk
      cases d2 with
      | int k2 =>
        obtain rfl : k2 = k := of_decide_eq_true hk
        simp only [execOp, hxe, convert, underlying, Sem.run_bind, run_program, Result.andThen_ok, hd1, hd2, Sem.run_pure, Conv.intToInt]
      | _ => simp [kindEq] at hk
    split at h
    · rename_i k hki
      split at h
      · rename_i k' n hn
        have e := SV.int?_den hn hx
        split at h
        · obtain ⟨h1, h2, h3⟩ := dv_ok h
          exact ⟨_, ⟨h1, h2, by rw [h3]; exact rfl⟩, key _ _ _ hki e⟩
        · exact ⟨_, (arI_ok h ho).2, key _ _ _ hki e⟩
      · cases h
    · cases h
  · cases h
end
end Go.Proofs.YtcojfohjdibjjaaGreatDoor
