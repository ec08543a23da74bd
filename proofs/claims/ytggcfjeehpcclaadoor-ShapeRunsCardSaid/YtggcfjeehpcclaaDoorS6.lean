/- A symbolic executor, 7: soundness of one operation, all kinds. -/
import Derived.Test.YtggcfjeehpcclaaDoorS5
namespace Go.Proofs.YtggcfjeehpcclaaDoor
open Go.RowKit

section
variable {PP : Program} {C : Cx PP} {Γ : List (Con C)} {op : OpF} {a : Act} {ρ : Names} {H : List (Nat × SB)} {nm : Nat} {W : World} {K : Act → World → Prop} {Q : Exit → Act → World → Prop}

theorem alloc_post {l : List SV} {cs : List Value} {t : TypeId} (h : denL ρ l = some cs) : DPost ρ nm ⟨none, .p nm 0, some ⟨l, t⟩⟩ W (.pointer (some ⟨W.heap.size, 0, none⟩)) (W.alloc (.cells cs.toArray t)) := by
  refine ⟨(Gr.refl W).alloc _, W.heap.size, cs, Nat.le_refl _, ?_, h, Blk.new rfl, fun ρ' _ h' => by simp [den, h']⟩
  simp

theorem binD_ok {o : BinOp} {x y : Operand} {u v : SV} {r : DR} {dst : Option Tmp} {ty yt t : TypeId} {pos : String} {after : Array Edge} {guard : Option (Nat × Bool)}
    (h : binD o u v = some r) (ho : r.Ob) (hx : den ρ u = some (a.eval x)) (hy : den ρ v = some (a.eval y)) :
    r.b = none ∧ ∃ v, den ρ r.v = some v ∧ (execOp a.eval ⟨dst, .binOp o t x y yt, ty, pos, after, guard⟩).run C.P W = .ok (.value v) W := by
  unfold binD at h
  split at h
  · obtain ⟨k1, v, k2, k3⟩ := binInt_ok (P := C.P) (w := W) (t := t) (ρ := ρ) h ho
    have e1 : a.eval x = .int .i64 _ := (Option.some.inj hx).symm
    have e2 : a.eval y = .int .i64 _ := (Option.some.inj hy).symm
    exact ⟨k1, v, k2, ex_bin (by rw [e1, e2]; exact guard_int) (by rw [e1, e2]; exact k3)⟩
  · split at h
    · rename_i k p k' q hp hq
      split at h
      · rename_i hk
        obtain rfl := sameK_eq hk
        obtain ⟨k1, v, k2, k3⟩ := binInt_ok (P := C.P) (w := W) (t := t) (ρ := ρ) h ho
        rw [SV.int?_den hp] at hx
        rw [SV.int?_den hq] at hy
        have e1 := (Option.some.inj hx).symm
        have e2 := (Option.some.inj hy).symm
        exact ⟨k1, v, k2, ex_bin (by rw [e1, e2]; exact guard_int) (by rw [e1, e2]; exact k3)⟩
      · cases h
    · cases h

theorem boolD_ok {o : BinOp} {x y : Operand} {u v : SV} {r : DR} {dst : Option Tmp} {ty yt t : TypeId} {pos : String} {after : Array Edge} {guard : Option (Nat × Bool)}
    (h : boolD C o t u v = some r) (hx : den ρ u = some (a.eval x)) (hy : den ρ v = some (a.eval y)) :
    r.b = none ∧ ∃ v, den ρ r.v = some v ∧ (execOp a.eval ⟨dst, .binOp o t x y yt, ty, pos, after, guard⟩).run C.P W = .ok (.value v) W := by
  unfold boolD at h
  split at h
  · rename_i p q ti hp hq hti
    split at h
    · rename_i hk
      obtain rfl := Option.some.inj h
      rw [SV.bool?_den hp] at hx
      rw [SV.bool?_den hq] at hy
      have e1 := (Option.some.inj hx).symm
      have e2 := (Option.some.inj hy).symm
      obtain ⟨i, d, z, hi, hdd, hs, hz, hzz, hkk⟩ := (C.ty hti).ex
      have hd : d = .bool := by rw [hk] at hkk; cases d <;> first | rfl | simp [kindEq] at hkk
      subst hd
      refine ⟨rfl, _, rfl, ex_bin (by rw [e1, e2]; exact guard_bool) ?_⟩
      rw [e1, e2]
      simp only [binOp, Op.equal, Op.maxDepth, Sem.run_bind, run_equalIn_bool' W 9999 t p q hdd, Result.andThen_ok, Sem.run_pure]
    · cases h
  · rename_i p q ti hp hq hti
    split at h
    · rename_i hk
      obtain rfl := Option.some.inj h
      rw [SV.bool?_den hp] at hx
      rw [SV.bool?_den hq] at hy
      have e1 := (Option.some.inj hx).symm
      have e2 := (Option.some.inj hy).symm
      obtain ⟨i, d, z, hi, hdd, hs, hz, hzz, hkk⟩ := (C.ty hti).ex
      have hd : d = .bool := by rw [hk] at hkk; cases d <;> first | rfl | simp [kindEq] at hkk
      subst hd
      refine ⟨rfl, _, rfl, ex_bin (by rw [e1, e2]; exact guard_bool) ?_⟩
      rw [e1, e2]
      simp only [binOp, Op.equal, Op.maxDepth, Sem.run_bind, run_equalIn_bool' W 9999 t p q hdd, Result.andThen_ok, Sem.run_pure]
      rfl
    · cases h
  · cases h

/-- The value that cells make. -/
def valOf (ti : TI) (vs : List Value) : Value := match aggK ti.k with | true => .agg vs.toArray | false => vs.headD undef

theorem run_part_ok {P : Program} {e : TypeId} {i : TypeInfo} {d : TypeDesc} {ti : TI} {vs : List Value} {off : Nat} (hi : P.info? e = some i) (hd : P.underlying e = some d) (hs : i.size = ti.sz) (hk : kindEq d ti.k = true) (hl : ti.sz ≤ (vs.drop off).length) (h1 : aggK ti.k = false → ti.sz = 1) :
    (part e vs.toArray off).run P W = .ok (valOf ti ((vs.drop off).take ti.sz)) W := by
  cases hag : aggK ti.k with
  | true =>
    have hd1 : (∃ fs, d = .struct fs) ∨ ∃ n e, d = .array n e := by
      cases d <;> cases htk : ti.k <;> simp_all [kindEq, aggK]
    rw [run_part_agg hi hd hd1, hs]
    congr 1
    unfold valOf
    rw [hag]
    simp only
    congr 1
    rw [List.length_drop] at hl
    apply Array.ext'
    simp [List.take_drop, Nat.add_comm]
  | false =>
    have hsz := h1 hag
    rw [hsz] at hl ⊢
    cases hv : vs.drop off with
    | nil => rw [hv] at hl; simp at hl
    | cons v r =>
      have hv' : vs[off]? = some v := by
        have := congrArg (·[0]?) hv
        simpa using this
      rw [run_part_one (v := v) hd ?_ ?_ (by simpa using hv')]
      · unfold valOf; rw [hag]; rfl
      · intro fs e
        subst e
        cases htk : ti.k <;> simp_all [kindEq, aggK]
      · intro n e' e
        subst e
        cases htk : ti.k <;> simp_all [kindEq, aggK]

theorem eqFs_ok {f : Nat → List SV → List SV → Option Bool} {d : Nat} {xs ys : List SV} {us vs : List Value} (hx : denL ρ xs = some us) (hy : denL ρ ys = some vs)
    (hf : ∀ t x y c ti p q, f t x y = some c → look C.T t = some ti → denL ρ x = some p → denL ρ y = some q → (aggK ti.k = false → x.length = 1) ∧ (Op.equalIn d t (valOf ti p) (valOf ti q)).run C.P W = .ok c W) :
    ∀ (fs : List Field) (c : Bool), (∀ g ∈ fs, g.name ≠ "_") → eqFs C f xs ys (fs.map fun g => (g.offset, g.type)) = some c → (Op.eqFields d us.toArray vs.toArray fs).run C.P W = .ok c W
  | [], c, _, h => by
    obtain rfl := Option.some.inj h
    rfl
  | g :: r, c, hn, h => by
    simp only [List.map_cons, eqFs] at h
    split at h
    · cases h
    rename_i fi hfi
    split at h
    · rename_i x y hxt hyt
      split at h
      · cases h
      rename_i b hb
      obtain ⟨i, dd, z, hi, hdd, hs, hz, hzz, hk⟩ := (C.ty hfi).ex
      obtain ⟨k1, k2⟩ := takeN_den hxt (denL_drop g.offset hx)
      obtain ⟨k3, k4⟩ := takeN_den hyt (denL_drop g.offset hy)
      obtain ⟨hone, hrun⟩ := hf _ x y b fi _ _ hb hfi k1 k3
      have hsz : aggK fi.k = false → fi.sz = 1 := fun ha => by
        have := hone ha
        rw [← denL_length k1, List.length_take] at this
        omega
      have hne := hn g List.mem_cons_self
      have hcont : (c = b ∧ r = []) ∨ ∃ c', c = (b && c') ∧ eqFs C f xs ys (r.map fun g => (g.offset, g.type)) = some c' := by
        split at h
        · rename_i hr
          exact .inl ⟨(Option.some.inj h).symm, by simpa using hr⟩
        · split at h
          · rename_i c' hc'
            exact .inr ⟨c', (Option.some.inj h).symm, hc'⟩
          · cases h
      have hstep : (Op.eqFields d us.toArray vs.toArray (g :: r)).run C.P W = if (!b) = true then .ok false W else (Op.eqFields d us.toArray vs.toArray r).run C.P W := by
        simp only [Op.eqFields, ne_eq, hne, not_false_eq_true, if_true, Sem.run_bind, run_part_ok (P := C.P) (W := W) hi hdd hs hk k2 hsz, run_part_ok (P := C.P) (W := W) hi hdd hs hk k4 hsz, hrun, Result.andThen_ok]
        cases b <;> rfl
      rw [hstep]
      rcases hcont with ⟨rfl, rfl⟩ | ⟨c', rfl, hc'⟩
      · cases c <;> rfl
      · have ih := eqFs_ok hx hy hf r c' (fun g' hg' => hn g' (List.mem_cons_of_mem _ hg')) hc'
        cases b
        · rfl
        · simpa using ih
    · cases h

theorem eqT_ok : ∀ (k d t : Nat) (xs ys : List SV) (c : Bool) (ti : TI) (us vs : List Value), eqT C k t xs ys = some c → look C.T t = some ti → denL ρ xs = some us → denL ρ ys = some vs →
    (aggK ti.k = false → xs.length = 1) ∧ (Op.equalIn (d + k) t (valOf ti us) (valOf ti vs)).run C.P W = .ok c W
  | 0, _, _, _, _, _, _, _, _, h, _, _, _ => by cases h
  | k + 1, d, t, xs, ys, c, ti, us, vs, h, hti, hx, hy => by
    simp only [eqT, hti] at h
    obtain ⟨i, dd, z, hi, hdd, hs, hz, hzz, hk⟩ := (C.ty hti).ex
    split at h
    · rename_i fs hfs
      split at h
      · rename_i heq
        refine ⟨(fun ha => by rw [hfs] at ha; cases ha), ?_⟩
        have he := (C.ty hti).eq heq
        simp only [eqOk, hdd, Bool.and_eq_true, Bool.not_eq_true'] at he
        rw [hfs] at hk
        cases dd with
        | struct fs' =>
          have hk2 : (fs'.toList.map fun f => (f.offset, f.type)) = fs := by simpa [kindEq] using hk
          have hfo : C.P.fieldsOf t = fs' := by simp [Program.fieldsOf, hdd]
          have hv1 : valOf ti us = .agg us.toArray := by unfold valOf; rw [hfs]; rfl
          have hv2 : valOf ti vs = .agg vs.toArray := by unfold valOf; rw [hfs]; rfl
          rw [hv1, hv2, show d + (k + 1) = (d + k) + 1 from rfl, run_equalIn_struct W (d + k) t _ _ (by rw [hfo]; exact hdd) he.1.1, hfo]
          refine eqFs_ok hx hy (fun t' x y c' ti' p q h1 h2 h3 h4 => eqT_ok k d t' x y c' ti' p q h1 h2 h3 h4) fs'.toList c ?_ (by rw [hk2]; exact h)
          intro g hg
          have := List.all_eq_true.1 he.2 g hg
          simpa using this
        | _ => simp [kindEq] at hk
      · cases h
    · rename_i kk hkk
      split at h
      · rename_i x y
        split at h
        · rename_i k1 a k2 b h1 h2
          split at h
          · rename_i hsk
            obtain rfl := sameK_eq hsk
            obtain rfl := Option.some.inj h
            refine ⟨fun _ => rfl, ?_⟩
            obtain ⟨u, us', rfl, e1, e2⟩ := denL_cons hx
            obtain rfl := denL_nil e2
            obtain ⟨v, vs', rfl, e3, e4⟩ := denL_cons hy
            obtain rfl := denL_nil e4
            rw [SV.int?_den h1] at e1
            rw [SV.int?_den h2] at e3
            obtain rfl := Option.some.inj e1
            obtain rfl := Option.some.inj e3
            rw [hkk] at hk
            cases dd with
            | int k' =>
              have hv : ∀ w : Value, valOf ti [w] = w := fun w => by unfold valOf; rw [hkk]; rfl
              rw [hv, hv]
              exact run_equalIn_int W (d + k) t _ _ a b hdd
            | _ => simp [kindEq] at hk
          · cases h
        · cases h
      · cases h
    · rename_i hkk
      split at h
      · rename_i x y
        split at h
        · rename_i a b h1 h2
          obtain rfl := Option.some.inj h
          refine ⟨fun _ => rfl, ?_⟩
          obtain ⟨u, us', rfl, e1, e2⟩ := denL_cons hx
          obtain rfl := denL_nil e2
          obtain ⟨v, vs', rfl, e3, e4⟩ := denL_cons hy
          obtain rfl := denL_nil e4
          rw [SV.bool?_den h1] at e1
          rw [SV.bool?_den h2] at e3
          obtain rfl := Option.some.inj e1
          obtain rfl := Option.some.inj e3
          rw [hkk] at hk
          cases dd with
          | bool =>
            have hv : ∀ w : Value, valOf ti [w] = w := fun w => by unfold valOf; rw [hkk]; rfl
            rw [hv, hv]
            exact run_equalIn_bool' W (d + k) t a b hdd
          | _ => simp [kindEq] at hk
        · cases h
      · cases h
    · cases h

theorem aggD_ok {o : BinOp} {x y : Operand} {u v : SV} {r : DR} {dst : Option Tmp} {ty yt t : TypeId} {pos : String} {after : Array Edge} {guard : Option (Nat × Bool)}
    (h : aggD C o t u v = some r) (hx : den ρ u = some (a.eval x)) (hy : den ρ v = some (a.eval y)) :
    r.b = none ∧ ∃ v, den ρ r.v = some v ∧ (execOp a.eval ⟨dst, .binOp o t x y yt, ty, pos, after, guard⟩).run C.P W = .ok (.value v) W := by
  have key : ∀ {xs ys : List SV} {ti : TI} {c : Bool} {fs : List (Nat × Nat)}, look C.T t = some ti → ti.eq = true → fieldsK ti.k = some fs → eqT C 4 t xs ys = some c → den ρ (.agg xs) = some (a.eval x) → den ρ (.agg ys) = some (a.eval y) →
      ∃ us vs : Array Value, a.eval x = .agg us ∧ a.eval y = .agg vs ∧ (Op.equalIn 10000 t (.agg us) (.agg vs)).run C.P W = .ok c W ∧ C.P.eqGuardType C.P.depth t = false := by
    intro xs ys ti c fs hti heq hfs hc hx hy
    obtain ⟨us, hus, e1⟩ := den_agg hx
    obtain ⟨vs, hvs, e2⟩ := den_agg hy
    have hag : aggK ti.k = true := by cases htk : ti.k <;> rw [htk] at hfs <;> first | rfl | cases hfs
    have := (eqT_ok (W := W) 4 9996 t xs ys c ti us vs hc hti hus hvs).2
    have hv : ∀ l : List Value, valOf ti l = .agg l.toArray := fun l => by unfold valOf; rw [hag]
    rw [hv, hv] at this
    have he := (C.ty hti).eq heq
    simp only [eqOk, Bool.and_eq_true, Bool.not_eq_true'] at he
    exact ⟨_, _, e1, e2, this, he.1.2⟩
  unfold aggD at h
  split at h
  · split at h
    · rename_i ti hti
      split at h
      · rename_i fs heq hfs
        split at h
        · rename_i c hc
          obtain rfl := Option.some.inj h
          obtain ⟨us, vs, e1, e2, e3, e4⟩ := key hti heq hfs hc hx hy
          refine ⟨rfl, _, rfl, ex_bin (by rw [e1, e2]; exact run_eqGuard_agg W _ _ _ _ _ _ e4) ?_⟩
          rw [e1, e2, run_eql_struct, e3]
          rfl
        · cases h
      · cases h
    · cases h
  · split at h
    · rename_i ti hti
      split at h
      · rename_i fs heq hfs
        split at h
        · rename_i c hc
          obtain rfl := Option.some.inj h
          obtain ⟨us, vs, e1, e2, e3, e4⟩ := key hti heq hfs hc hx hy
          refine ⟨rfl, _, rfl, ex_bin (by rw [e1, e2]; exact run_eqGuard_agg W _ _ _ _ _ _ e4) ?_⟩
          rw [e1, e2, run_neq_struct, e3]
          rfl
        · cases h
      · cases h
    · cases h
  · cases h

theorem unD_ok {o : UnOp} {x : Operand} {u : SV} {r : DR} {dst : Option Tmp} {ty t : TypeId} {pos : String} {after : Array Edge} {guard : Option (Nat × Bool)}
    (h : unD o u = some r) (ho : r.Ob) (hx : den ρ u = some (a.eval x)) :
    r.b = none ∧ ∃ v, den ρ r.v = some v ∧ (execOp a.eval ⟨dst, .unOp o t x, ty, pos, after, guard⟩).run C.P W = .ok (.value v) W := by
  unfold unD at h
  split at h
  · obtain rfl := Option.some.inj h
    have e := (Option.some.inj hx).symm
    exact ⟨rfl, _, rfl, ex_un (by rw [e]; rfl)⟩
  · obtain rfl := Option.some.inj h
    have e := (Option.some.inj hx).symm
    exact ⟨rfl, _, rfl, ex_un (by rw [e]; rfl)⟩
  · obtain rfl := Option.some.inj h
    have e := (Option.some.inj hx).symm
    refine ⟨rfl, _, rfl, ex_un (by rw [e]; simp only [Op.unary, Op.intArith, Sem.run_pure, Int.zero_sub, InR.wrap ho])⟩
  · obtain rfl := Option.some.inj h
    have e := (Option.some.inj hx).symm
    refine ⟨rfl, _, rfl, ex_un (by rw [e]; simp only [Op.unary, Op.intArith, Sem.run_pure, Int.zero_sub, InR.wrap ho])⟩
  · cases h

theorem convD_ok {src dst' : TypeId} {x : Operand} {u : SV} {r : DR} {dst : Option Tmp} {ty : TypeId} {pos : String} {after : Array Edge} {guard : Option (Nat × Bool)}
    (h : convD C src dst' u = some r) (ho : r.Ob) (hx : den ρ u = some (a.eval x)) :
    r.b = none ∧ ∃ v, den ρ r.v = some v ∧ (execOp a.eval ⟨dst, .convert src dst' x, ty, pos, after, guard⟩).run C.P W = .ok (.value v) W := by
  unfold convD at h
  split at h
  · rename_i si ti hsi hti
    obtain ⟨i1, d1, z1, -, hd1, -⟩ := (C.ty hsi).ex
    obtain ⟨i2, d2, z2, -, hd2, -, -, -, hk⟩ := (C.ty hti).ex
    have key : ∀ (k k' : IntKind) (n : Int), ti.k = .int k → a.eval x = .int k' n → (execOp a.eval ⟨dst, .convert src dst' x, ty, pos, after, guard⟩).run C.P W = .ok (.value (.int k (k.wrap n))) W := by
      intro k k' n hki hxe
      rw [hki] at hk
      cases d2 with
      | int k2 =>
        obtain rfl : k2 = k := of_decide_eq_true hk
        simp only [execOp, hxe, convert, underlying, Sem.run_bind, run_program, Result.andThen_ok, hd1, hd2, Sem.run_pure, Conv.intToInt]
      | _ => simp [kindEq] at hk
    split at h
    · rename_i hki
      split at h
      · obtain rfl := Option.some.inj h
        have e := (Option.some.inj hx).symm
        exact ⟨rfl, _, rfl, by rw [key _ _ _ hki e, InR.wrap ho]⟩
      · split at h
        · rename_i k' n hn
          obtain rfl := Option.some.inj h
          rw [SV.int?_den hn] at hx
          have e := (Option.some.inj hx).symm
          exact ⟨rfl, _, rfl, by rw [key _ _ _ hki e, InR.wrap ho]⟩
        · cases h
    · rename_i k _ hki
      split at h
      · rename_i k' n hn
        obtain rfl := Option.some.inj h
        rw [SV.int?_den hn] at hx
        have e := (Option.some.inj hx).symm
        exact ⟨rfl, _, rfl, key _ _ _ hki e⟩
      · cases h
    · cases h
  · cases h

theorem den_s {n off len cap : Nat} {v : Value} (h : den ρ (.s n off len cap) = some v) : ∃ b, ρ n = some b ∧ v = .slice (some ⟨b, off, none⟩) len cap := by
  simp only [den] at h
  split at h
  · rename_i b hb; exact ⟨b, hb, (Option.some.inj h).symm⟩
  · cases h
theorem elemK_slice {d : TypeDesc} {k : TK} {e : Nat} (hk : kindEq d k = true) (h : elemK k = some e) : d = .slice e := by
  cases k with
  | sl e' =>
    obtain rfl := Option.some.inj h
    cases d with
    | slice e2 => simp only [kindEq, beq_iff_eq] at hk; rw [hk]
    | _ => simp [kindEq] at hk
  | _ => cases h
theorem buildD_ok (h : OpOk op a ρ) {t len : Nat} {parts : Array (Nat × Operand)} {ps : List (Nat × SV)} {r : DR} {dst : Option Tmp} {ty : TypeId} {pos : String} {after : Array Edge} {guard : Option (Nat × Bool)}
    (hp : opP op parts.toList = some ps) (hD : buildD C nm t len ps = some r) (hK : ∀ val W', DPost ρ nm r W val W' → K (a.put dst val) W') : Oper.wp C.P ⟨dst, .buildSlice t len parts, ty, pos, after, guard⟩ a W K Q := by
  unfold buildD at hD
  split at hD
  · cases hD
  rename_i ti hti
  split at hD
  · cases hD
  rename_i e he
  split at hD
  · cases hD
  rename_i ei hei
  split at hD
  · rename_i b1 b2 b3
    split at hD
    · rename_i l hl
      obtain rfl := Option.some.inj hD
      obtain ⟨i1, d1, z1, -, hd1, -, -, -, hk1⟩ := (C.ty hti).ex
      obtain ⟨i2, d2, z2, hi2, hd2, hs2, hz2, hzz2, -⟩ := (C.ty hei).ex
      obtain rfl := elemK_slice hk1 he
      have hzd := zeroEqL_den (ρ := ρ) hzz2
      have b3' := Nat.eq_of_beq_eq_true b3
      have hzl : z2.cells.size = i2.size := by
        have := denL_length hzd
        rw [hs2, ← b3', ← this]; simp
      obtain ⟨ls, k1, k2⟩ := fillE_ok h hp hl (repL_den (n := len) hzd)
      refine wp_val' (ex_buildSlice (ls := ls.toArray) hd1 hi2 hz2 ?_ ?_ hzl (by rw [hs2]; exact k2)) (hK _ _ ⟨(Gr.refl W).alloc _, W.heap.size, ls, Nat.le_refl _, by simp, k1, Blk.new rfl, fun ρ' _ h' => by simp [den, h']⟩)
      · rw [hs2]; intro e0; rw [e0] at b1; cases b1
      · rw [hs2]
        have := Nat.le_of_ble_eq_true b2
        omega
    · cases hD
  · cases hD
theorem elemD_ok {t : Nat} {x i : Operand} {u v : SV} {r : DR} {dst : Option Tmp} {ty : TypeId} {pos : String} {after : Array Edge} {guard : Option (Nat × Bool)}
    (h : elemD C t u v = some r) (hx : den ρ u = some (a.eval x)) (hi : den ρ v = some (a.eval i)) :
    r.b = none ∧ ∃ v, den ρ r.v = some v ∧ (execOp a.eval ⟨dst, .indexAddr t x i, ty, pos, after, guard⟩).run C.P W = .ok (.value v) W := by
  have hadd : ∀ b o m : Nat, (⟨b, o, none⟩ : Addr).add m = ⟨b, o + m, none⟩ := fun b o m => by unfold Addr.add; split <;> simp_all
  unfold elemD at h
  split at h
  · rename_i n off len cap k ti hti
    split at h
    · cases h
    rename_i e he
    split at h
    · rename_i ei hei hb
      obtain rfl := Option.some.inj h
      rw [Nat.blt_eq] at hb
      obtain ⟨i1, d1, z1, -, hd1, -, -, -, hk1⟩ := (C.ty hti).ex
      obtain ⟨i2, d2, z2, hi2, -, hs2, -⟩ := (C.ty hei).ex
      obtain rfl := elemK_slice hk1 he
      obtain ⟨b, hb1, e1⟩ := den_s hx
      have e2 : a.eval i = .int .i64 (Int.ofNat k) := (Option.some.inj hi).symm
      refine ⟨rfl, _, by simp only [den, hb1]; rfl, ?_⟩
      have hc : (0 : Int) ≤ (k : Int) ∧ (k : Int) < (len : Int) := ⟨by omega, by omega⟩
      have e3 : a.eval i = .int .i64 (k : Int) := e2
      simp only [execOp, e1, e3, Instr.indexAt, asIntOf, underlying, sizeOf, typeInfo, Sem.run_bind, Sem.run_pure, run_program, Result.andThen_ok, hd1, hi2, if_pos hc, hs2, hadd, Int.toNat_natCast]
    · cases h
  · rename_i n off k ti hti
    split at h
    · rename_i len e hk
      split at h
      · rename_i ei hei hb
        obtain rfl := Option.some.inj h
        rw [Nat.blt_eq] at hb
        obtain ⟨i1, d1, z1, -, hd1, -, -, -, hk1⟩ := (C.ty hti).ex
        obtain ⟨i2, d2, z2, hi2, -, hs2, -⟩ := (C.ty hei).ex
        have hd : d1 = .array len e := by
          rw [hk] at hk1
          cases d1 <;> simp [kindEq] at hk1
          obtain ⟨rfl, rfl⟩ := hk1
          rfl
        subst hd
        obtain ⟨b, hb1, e1⟩ := den_p hx
        have e2 : a.eval i = .int .i64 (Int.ofNat k) := (Option.some.inj hi).symm
        refine ⟨rfl, _, by simp only [den, hb1]; rfl, ?_⟩
        have hc : (0 : Int) ≤ (k : Int) ∧ (k : Int) < (len : Int) := ⟨by omega, by omega⟩
        have e3 : a.eval i = .int .i64 (k : Int) := e2
        simp only [execOp, e1, e3, Instr.indexAt, Instr.sureAddr, asIntOf, underlying, sizeOf, typeInfo, Sem.run_bind, Sem.run_pure, run_program, Result.andThen_ok, hd1, hi2, if_pos hc, hs2, hadd, Int.toNat_natCast]
      · cases h
    · cases h
  · cases h

theorem D_sound (hH : HOk C H ρ W) (h : OpOk op a ρ) {o : Oper} {r : DR} (hD : D Γ op H nm o.op = some r) (ho : r.Ob) (hK : ∀ val W', DPost ρ nm r W val W' → K (a.put o.dst val) W') :
    Oper.wp C.P o a W K Q := by
  obtain ⟨dst, oo, ty, pos, after, guard⟩ := o
  cases oo <;> simp only [D] at hD
  case move x =>
    split at hD
    · rename_i v hv
      obtain rfl := Option.some.inj hD
      exact wp_val ex_move (hK _ _ (post_same rfl (h.get hv)))
    · cases hD
  case assign x =>
    split at hD
    · rename_i v hv
      obtain rfl := Option.some.inj hD
      exact wp_val ex_assign (hK _ _ (post_same rfl (h.get hv)))
    · cases hD
  case pick c x y =>
    split at hD
    · rename_i hc
      have e := h.get hc
      split at hD
      · rename_i v hv
        obtain rfl := Option.some.inj hD
        exact wp_val (ex_pick (Option.some.inj e).symm) (hK _ _ (post_same rfl (h.get hv)))
      · cases hD
    · rename_i hc
      have e := h.get hc
      split at hD
      · rename_i v hv
        obtain rfl := Option.some.inj hD
        exact wp_val (ex_pick (Option.some.inj e).symm) (hK _ _ (post_same rfl (h.get hv)))
      · cases hD
    · rename_i b t hc
      have e := (Option.some.inj (h.get hc)).symm
      split at hD
      · rename_i u v hu hv
        split at hD
        · rename_i z hz
          obtain rfl := Option.some.inj hD
          refine wp_val (ex_pick e) (hK _ _ (post_same rfl (pickD_ok hz (fun hb => h _ _ _ hu ?_) (fun hb => h _ _ _ hv ?_))))
          · intro p hp
            obtain rfl := List.mem_singleton.1 hp
            rw [e, hb]
          · intro p hp
            obtain rfl := List.mem_singleton.1 hp
            rw [e, hb]
        · cases hD
      · cases hD
    · cases hD
  case alloc t =>
    split at hD
    · rename_i ti hti
      obtain rfl := Option.some.inj hD
      obtain ⟨i, d, z, hi, hdd, hs, hz, hzz, hk⟩ := (C.ty hti).ex
      exact wp_val' (ex_alloc hi hz) (hK _ _ (by have := alloc_post (nm := nm) (W := W) (t := t) (zeroEqL_den (ρ := ρ) hzz); simpa using this))
    · cases hD
  case box t x =>
    split at hD
    · rename_i v hv
      split at hD
      · rename_i l hl
        obtain rfl := Option.some.inj hD
        exact wp_val' ex_box (hK _ _ (by have := alloc_post (nm := nm) (W := W) (t := t) (cellsOfSV_ok hl (h.get hv)); simpa using this))
      · cases hD
    · cases hD
  case build s parts =>
    split at hD
    · rename_i ti ps hti hps
      split at hD
      · rename_i fs l hfs hl
        split at hD
        · rename_i hall
          obtain rfl := Option.some.inj hD
          obtain ⟨i, d, z, hi, hdd, hs, hz, hzz, hk⟩ := (C.ty hti).ex
          cases htk : ti.k with
          | struct l' =>
            rw [htk] at hfs hk
            obtain rfl := Option.some.inj hfs
            cases d with
            | struct fs' =>
              have hk2 : (fs'.toList.map fun f => (f.offset, f.type)) = l' := by simpa [kindEq] using hk
              obtain ⟨ls, k1, k2⟩ := fillD_ok h hdd hps hl (zeroEqL_den (ρ := ρ) hzz)
              refine wp_val (v := .agg ls.toArray) (ex_build hi hz hdd ?_ (by simpa using k2)) (hK _ _ (post_same rfl (by simp only [den, k1])))
              intro f hf
              exact allT_ok hall (f.offset, f.type) (by rw [← hk2]; exact List.mem_map.2 ⟨f, hf, rfl⟩)
            | _ => simp [kindEq] at hk
          | _ => rw [htk] at hfs; cases hfs
        · cases hD
      · cases hD
    · cases hD
  case load t x =>
    split at hD
    · rename_i v hv
      obtain ⟨k1, v, k2, k3⟩ := loadD_ok (dst := dst) (ty := ty) (pos := pos) (after := after) (guard := guard) hH hD (h.get hv)
      exact wp_val k3 (hK _ _ (post_same k1 k2))
    · cases hD
  case fieldAddr s x k =>
    split at hD
    · rename_i n off fo fi hx hfi
      obtain ⟨fs, f, i, d, e1, e2, e3, e4, e5, e6, e7⟩ := fieldD_ok hfi
      split at hD
      · cases hD
      · rename_i m hm
        obtain rfl := Option.some.inj hD
        obtain ⟨b, hb, e⟩ := den_p (h.get hx)
        refine wp_val (ex_field e e1 e2 e4 (by omega)) (hK _ _ (post_same rfl ?_))
        have e8 : (⟨b, off, none⟩ : Addr).add f.offset = ⟨b, off + fo, none⟩ := by unfold Addr.add; split <;> simp_all
        rw [e8]
        simp only [den, hb]
    · rename_i b off fo fi hx hfi
      obtain ⟨fs, f, i, d, e1, e2, e3, e4, e5, e6, e7⟩ := fieldD_ok hfi
      split at hD
      · cases hD
      · rename_i m hm
        obtain rfl := Option.some.inj hD
        have e := (Option.some.inj (h.get hx)).symm
        refine wp_val (ex_field e e1 e2 e4 (by omega)) (hK _ _ (post_same rfl ?_))
        have e8 : (⟨b, off, none⟩ : Addr).add f.offset = ⟨b, off + fo, none⟩ := by unfold Addr.add; split <;> simp_all
        rw [e8]
        rfl
    · cases hD
  case field s x k =>
    split at hD
    · rename_i l fo fi hx hfi
      obtain ⟨fs, f, i, d, e1, e2, e3, e4, e5, e6, e7⟩ := fieldD_ok hfi
      obtain ⟨vs, hvs, e⟩ := den_agg (h.get hx)
      split at hD
      · rename_i hag
        split at hD
        · rename_i m hm
          obtain rfl := Option.some.inj hD
          obtain ⟨k1, k2⟩ := takeN_den hm (denL_drop fo hvs)
          have hd1 : (∃ fs, d = .struct fs) ∨ ∃ n e, d = .array n e := by
            cases d <;> cases htk : fi.k <;> simp_all [kindEq, aggK]
          refine wp_val (ex_fieldV e e1 e2 (run_part_agg e4 e5 hd1)) (hK _ _ (post_same rfl ?_))
          simp only [den, k1, e3, e6]
          congr 2
          rw [List.length_drop] at k2
          apply Array.ext'
          simp [List.take_drop, Nat.add_comm]
        · cases hD
      · rename_i hag
        split at hD
        · rename_i c hc
          obtain rfl := Option.some.inj hD
          obtain ⟨v, hv, hdv⟩ := denL_get hvs hc
          refine wp_val (ex_fieldV e e1 e2 (run_part_one e5 ?_ ?_ (by simpa [e3] using hv))) (hK _ _ (post_same rfl hdv))
          · intro fs e
            subst e
            cases htk : fi.k <;> simp_all [kindEq, aggK]
          · intro n e' e
            subst e
            cases htk : fi.k <;> simp_all [kindEq, aggK]
        · cases hD
    · cases hD
  case binOp o t x y yt =>
    split at hD
    · rename_i u v hu hv
      split at hD
      · rename_i r' hr'
        obtain rfl := Option.some.inj hD
        obtain ⟨k1, v, k2, k3⟩ := binD_ok (C := C) (W := W) (dst := dst) (ty := ty) (yt := yt) (t := t) (pos := pos) (after := after) (guard := guard) hr' ho (h.get hu) (h.get hv)
        exact wp_val k3 (hK _ _ (post_same k1 k2))
      · split at hD
        · rename_i r' hr'
          obtain rfl := Option.some.inj hD
          obtain ⟨k1, v, k2, k3⟩ := boolD_ok (C := C) (W := W) (dst := dst) (ty := ty) (yt := yt) (t := t) (pos := pos) (after := after) (guard := guard) hr' (h.get hu) (h.get hv)
          exact wp_val k3 (hK _ _ (post_same k1 k2))
        · obtain ⟨k1, v, k2, k3⟩ := aggD_ok (C := C) (W := W) (dst := dst) (ty := ty) (yt := yt) (t := t) (pos := pos) (after := after) (guard := guard) hD (h.get hu) (h.get hv)
          exact wp_val k3 (hK _ _ (post_same k1 k2))
    · cases hD
  case unOp o t x =>
    split at hD
    · rename_i u hu
      obtain ⟨k1, v, k2, k3⟩ := unD_ok (C := C) (W := W) (dst := dst) (ty := ty) (t := t) (pos := pos) (after := after) (guard := guard) hD ho (h.get hu)
      exact wp_val k3 (hK _ _ (post_same k1 k2))
    · cases hD
  case extract x k =>
    split at hD
    · rename_i l hl
      split at hD
      · rename_i v hv
        obtain rfl := Option.some.inj hD
        obtain ⟨vs, hvs, e⟩ := den_tup (h.get hl)
        obtain ⟨u, hu, hdu⟩ := denL_get hvs hv
        exact wp_val (ex_extract e (by simpa using hu)) (hK _ _ (post_same rfl hdu))
      · cases hD
    · cases hD
  case nilCheck x =>
    split at hD
    · rename_i n off hx
      obtain rfl := Option.some.inj hD
      obtain ⟨b, hb, e⟩ := den_p (h.get hx)
      exact wp_val (ex_nilCheck e) (hK _ _ (post_same rfl (by simp only [den, hb])))
    · cases hD
  case makeFunc fn first captured =>
    split at hD
    · rename_i x y hx hy
      obtain rfl := Option.some.inj hD
      refine wp_val ex_makeFunc (hK _ _ (post_same rfl ?_))
      have h1 := opL_args h hx
      have h2 := opL_args h hy
      simp only [den, h1, h2]
    · cases hD
  case call c => exact callD_ok hH h hD ho hK
  case convert src dst' x =>
    split at hD
    · rename_i u hu
      obtain ⟨k1, v, k2, k3⟩ := convD_ok (C := C) (W := W) (dst := dst) (ty := ty) (pos := pos) (after := after) (guard := guard) hD ho (h.get hu)
      exact wp_val k3 (hK _ _ (post_same k1 k2))
    · cases hD
  case buildSlice t len parts =>
    split at hD
    · rename_i ps hps
      exact buildD_ok h hps hD hK
    · cases hD
  case indexAddr t x i =>
    split at hD
    · rename_i u v hu hv
      obtain ⟨k1, v, k2, k3⟩ := elemD_ok (C := C) (W := W) (dst := dst) (ty := ty) (pos := pos) (after := after) (guard := guard) hD (h.get hu) (h.get hv)
      exact wp_val k3 (hK _ _ (post_same k1 k2))
    · cases hD
  all_goals cases hD
end
end Go.Proofs.YtggcfjeehpcclaaDoor
