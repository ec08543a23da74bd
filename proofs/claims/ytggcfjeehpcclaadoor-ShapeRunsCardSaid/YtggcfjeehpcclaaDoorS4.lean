/- A symbolic executor, 5: each operation does what was computed. -/
import Derived.Test.YtggcfjeehpcclaaDoorS3
namespace Go.Proofs.YtggcfjeehpcclaaDoor
open Go.RowKit

section
variable {PP : Program} {C : Cx PP} {op : OpF} {a : Act} {ρ : Names}

theorem foldl_sets : ∀ (vs : List Value) (k off : Nat) (cs : Array Value), off + k + vs.length ≤ cs.size →
    (vs.zipIdx k).foldl (fun (cs : Array Value) (x : Value × Nat) => cs.setIfInBounds (off + x.2) x.1) cs = (cs.toList.take (off + k) ++ vs ++ cs.toList.drop (off + k + vs.length)).toArray
  | [], k, off, cs, h => by simp
  | v :: r, k, off, cs, h => by
    simp only [List.zipIdx_cons, List.foldl_cons]
    rw [foldl_sets r (k + 1) off _ (by simp at h ⊢; omega)]
    congr 1
    simp only [Array.toList_setIfInBounds, List.length_cons] at h ⊢
    apply List.ext_getElem?
    intro j
    have hl : (cs.toList.set (off + k) v).length = cs.size := by simp
    have hl2 : cs.toList.length = cs.size := by simp
    have t1 : (List.take (off + (k + 1)) (cs.toList.set (off + k) v)).length = off + k + 1 := by rw [List.length_take, hl]; omega
    have t2 : (List.take (off + k) cs.toList).length = off + k := by rw [List.length_take, hl2]; omega
    simp only [List.append_assoc]
    rcases Nat.lt_trichotomy j (off + k) with hj | hj | hj
    · rw [List.getElem?_append_left (by omega), List.getElem?_append_left (by omega), List.getElem?_take_of_lt (by omega), List.getElem?_take_of_lt (by omega), List.getElem?_set_ne (by omega)]
    · subst hj
      rw [List.getElem?_append_left (by omega), List.getElem?_take_of_lt (by omega), List.getElem?_set_self (by omega), List.getElem?_append_right (by omega), t2]
      simp
    · obtain ⟨m, rfl⟩ : ∃ m, j = off + k + 1 + m := ⟨j - (off + k + 1), by omega⟩
      rw [List.getElem?_append_right (by omega), t1]
      conv => rhs; rw [List.getElem?_append_right (by omega), t2]
      rw [show off + k + 1 + m - (off + k + 1) = m by omega, show off + k + 1 + m - (off + k) = m + 1 by omega]
      simp only [List.cons_append, List.getElem?_cons_succ]
      rcases Nat.lt_or_ge m r.length with hm | hm
      · rw [List.getElem?_append_left hm, List.getElem?_append_left hm]
      · rw [List.getElem?_append_right hm, List.getElem?_append_right hm, List.getElem?_drop, List.getElem?_drop, List.getElem?_set_ne (by omega)]
        congr 1
        omega

theorem cellsOfSV_ok {x : SV} {l : List SV} {v : Value} (h : cellsOfSV x = some l) (hd : den ρ x = some v) : denL ρ l = some v.cells.toList := by
  unfold cellsOfSV at h
  split at h
  · obtain rfl := Option.some.inj h
    simp only [den] at hd
    split at hd
    · rename_i vs hvs
      obtain rfl := Option.some.inj hd
      simpa [Value.cells] using hvs
    · cases hd
  · cases h
  · cases h
  · cases h
  · rename_i h1 h2 h3 h4
    obtain rfl := Option.some.inj h
    have : v.cells = #[v] := by
      cases x <;> simp only [den] at hd
      case v y =>
        obtain rfl := Option.some.inj hd
        cases y <;> first | rfl | exact absurd rfl (h3 _) | exact absurd rfl (h4 _)
      case agg => exact absurd rfl (h1 _)
      case tup => exact absurd rfl (h2 _)
      all_goals first
        | (obtain rfl := Option.some.inj hd; rfl)
        | (split at hd <;> first | (obtain rfl := Option.some.inj hd; rfl) | cases hd)
    rw [this]
    exact denL_cons_of hd rfl

theorem allT_ok : ∀ {l : List (Nat × Nat)}, allT C l = true → ∀ p ∈ l, ∃ i, C.P.info? p.2 = some i
  | [], _, p, hp => by cases hp
  | (o, t) :: r, h, p, hp => by
    simp only [allT] at h
    split at h
    · rename_i ti hti
      obtain ⟨i, d, z, hi, _⟩ := (C.ty hti).ex
      rcases List.mem_cons.1 hp with rfl | hp
      · exact ⟨i, hi⟩
      · exact allT_ok h p hp
    · cases h

theorem run_places {P : Program} {w : World} : ∀ (l : List Field), (∀ f ∈ l, ∃ i, P.info? f.type = some i) →
    (l.mapM fun f => do pure (f.offset, ← sizeOf f.type) : Sem (List (Nat × Nat))).run P w = .ok (l.map fun f => (f.offset, P.cellsOf f.type)) w
  | [], _ => rfl
  | f :: r, h => by
    obtain ⟨i, hi⟩ := h f List.mem_cons_self
    have hs : P.cellsOf f.type = i.size := by simp [Program.cellsOf, hi]
    have := run_places (w := w) r (fun g hg => h g (List.mem_cons_of_mem _ hg))
    simp only [sizeOf, typeInfo] at this
    simp only [List.mapM_cons, Sem.run_bind, sizeOf, typeInfo, run_program, Result.andThen_ok, hi, Sem.run_pure, this, List.map_cons, hs]

theorem ex_build {P : Program} {w : World} {dst : Option Tmp} {ty : TypeId} {pos : String} {after : Array Edge} {guard : Option (Nat × Bool)} {s : TypeId} {parts : Array (Nat × Operand)} {fs : Array Field} {i : TypeInfo} {z : Value} {cs : Array Value}
    (hi : P.info? s = some i) (hz : i.zero = some z) (hd : P.underlying s = some (.struct fs)) (hall : ∀ f ∈ fs.toList, ∃ i, P.info? f.type = some i)
    (hf : Instr.fill (fun k => (fs.toList.map fun f => (f.offset, P.cellsOf f.type))[k]?) z.cells (parts.toList.map fun x => (x.1, a.eval x.2)) = some cs) :
    (execOp a.eval ⟨dst, .build s parts, ty, pos, after, guard⟩).run P w = .ok (.value (.agg cs)) w := by
  simp only [execOp, Instr.build, zeroValue, typeInfo, underlying, Sem.run_bind, run_program, Result.andThen_ok, hi, Sem.run_pure, hz, hd]
  rw [Array.mapM_eq_mapM_toList]
  simp only [Sem.run_map, run_places fs.toList hall, Result.andThen_ok, Array.toList_map]
  have e : (fun x : Nat => ((fs.toList.map fun f => (f.offset, P.cellsOf f.type)).toArray)[x]?) = fun k => (fs.toList.map fun f => (f.offset, P.cellsOf f.type))[k]? := by funext k; simp
  rw [e, hf]
  rfl

theorem denL_take {ρ : Names} : ∀ {l : List SV} {vs : List Value} (i : Nat), denL ρ l = some vs → denL ρ (l.take i) = some (vs.take i)
  | [], vs, i, h => by rw [denL_nil h]; simp [denL]
  | y :: r, vs, 0, h => by simp [denL]
  | y :: r, vs, i + 1, h => by
    obtain ⟨a, b, rfl, h1, h2⟩ := denL_cons h
    exact denL_cons_of h1 (denL_take i h2)

theorem fillD_ok (h : OpOk op a ρ) {s : TypeId} {fs : Array Field} (hd : C.P.underlying s = some (.struct fs)) : ∀ {parts : List (Nat × Operand)} {ps : List (Nat × SV)} {z l : List SV} {zs : List Value}, opP op parts = some ps → fillD C s z ps = some l → denL ρ z = some zs →
    ∃ ls, denL ρ l = some ls ∧ Instr.fill (fun k => (fs.toList.map fun f => (f.offset, C.P.cellsOf f.type))[k]?) zs.toArray (parts.map fun x => (x.1, a.eval x.2)) = some ls.toArray
  | [], ps, z, l, zs, hp, hf, hz => by
    obtain rfl := Option.some.inj hp
    obtain rfl := Option.some.inj hf
    exact ⟨zs, hz, rfl⟩
  | (i, x) :: r, ps, z, l, zs, hp, hf, hz => by
    simp only [opP] at hp
    split at hp
    · rename_i u us hu hus
      obtain rfl := Option.some.inj hp
      simp only [fillD] at hf
      split at hf
      · rename_i off fi m hfi hm
        split at hf
        · rename_i b1 b2
          split at hf
          · rename_i z' hz'
            have hx := h [] x u hu (fun _ hp => by cases hp)
            have hc := cellsOfSV_ok hm hx
            obtain ⟨fs', f, i', d', e1, e2, e3, e4, e5, e6, e7⟩ := fieldD_ok hfi
            rw [hd] at e1
            obtain rfl : fs = fs' := by injection e1 with e1; injection e1
            have b1' := Nat.eq_of_beq_eq_true b1
            have b2' := Nat.le_of_ble_eq_true b2
            have hl := denL_length hc
            have hzl := denL_length hz
            have hsz : C.P.cellsOf f.type = fi.sz := by simp [Program.cellsOf, e4, e6]
            have hcs : (a.eval x).cells.size = fi.sz := by rw [← b1', ← hl]; simp
            have hzz : denL ρ z' = some (zs.take off ++ (a.eval x).cells.toList ++ zs.drop (off + fi.sz)) := by
              rw [laid_eq hz']
              exact denL_append (denL_append (denL_take _ hz) hc) (denL_drop _ hz)
            obtain ⟨ls, k1, k2⟩ := fillD_ok h hd hus hf hzz
            refine ⟨ls, k1, ?_⟩
            simp only [List.map_cons, Instr.fill]
            have e8 : (fs.toList.map fun f => (f.offset, C.P.cellsOf f.type))[i]? = some (off, fi.sz) := by
              rw [List.getElem?_map]
              have : fs.toList[i]? = some f := by simpa using e2
              rw [this]
              simp [e3, hsz]
            rw [e8]
            have hlen : (a.eval x).cells.toList.length = fi.sz := by simpa using hcs
            have hfs := foldl_sets (a.eval x).cells.toList 0 off zs.toArray (by simp; omega)
            rw [hlen] at hfs
            simp only [Nat.add_zero] at hfs
            rw [← k2, ← hfs]
            have hn : ¬ ((a.eval x).cells.size ≠ fi.sz || off + (a.eval x).cells.size > zs.toArray.size) = true := by
              simp only [hcs, List.size_toArray, ne_eq, not_true_eq_false, decide_false, Bool.false_or, decide_eq_true_eq]
              omega
            simp only [if_neg hn]
            congr 1
            simp only [← Array.foldl_toList, Array.toList_zipIdx]
          · cases hf
        · cases hf
      · cases hf
    · cases hp

theorem opP_one (h : OpOk op a ρ) {i : Nat} {x : Operand} {u : SV} (e : op [] x = some u) : den ρ u = some (a.eval x) := h [] x u e (fun _ hp => by cases hp)
theorem fillE_ok (h : OpOk op a ρ) {sz : Nat} : ∀ {parts : List (Nat × Operand)} {ps : List (Nat × SV)} {z l : List SV} {zs : List Value}, opP op parts = some ps → fillE sz z ps = some l → denL ρ z = some zs →
    ∃ ls, denL ρ l = some ls ∧ Instr.fill (fun i => some (i * sz, sz)) zs.toArray (parts.map fun x => (x.1, a.eval x.2)) = some ls.toArray
  | [], ps, z, l, zs, hp, hf, hz => by
    obtain rfl := Option.some.inj hp
    obtain rfl := Option.some.inj hf
    exact ⟨zs, hz, rfl⟩
  | (i, x) :: r, ps, z, l, zs, hp, hf, hz => by
    simp only [opP] at hp
    split at hp
    · rename_i u us hu hus
      obtain rfl := Option.some.inj hp
      simp only [fillE] at hf
      split at hf
      · rename_i m hm
        split at hf
        · rename_i b1 b2
          split at hf
          · rename_i z' hz'
            have hx := h [] x u hu (fun _ hp => by cases hp)
            have hc := cellsOfSV_ok hm hx
            have b1' := Nat.eq_of_beq_eq_true b1
            have b2' := Nat.le_of_ble_eq_true b2
            have hl := denL_length hc
            have hzl := denL_length hz
            have hcs : (a.eval x).cells.size = sz := by rw [← b1', ← hl]; simp
            have hzz : denL ρ z' = some (zs.take (i * sz) ++ (a.eval x).cells.toList ++ zs.drop (i * sz + sz)) := by
              rw [laid_eq hz']
              exact denL_append (denL_append (denL_take _ hz) hc) (denL_drop _ hz)
            obtain ⟨ls, k1, k2⟩ := fillE_ok h hus hf hzz
            refine ⟨ls, k1, ?_⟩
            simp only [List.map_cons, Instr.fill]
            have hlen : (a.eval x).cells.toList.length = sz := by simpa using hcs
            have hfs := foldl_sets (a.eval x).cells.toList 0 (i * sz) zs.toArray (by simp; omega)
            rw [hlen] at hfs
            simp only [Nat.add_zero] at hfs
            rw [← k2, ← hfs]
            have hn : ¬ ((a.eval x).cells.size ≠ sz || i * sz + (a.eval x).cells.size > zs.toArray.size) = true := by
              simp only [hcs, List.size_toArray, ne_eq, not_true_eq_false, decide_false, Bool.false_or, decide_eq_true_eq]
              omega
            simp only [if_neg hn]
            congr 1
            simp only [← Array.foldl_toList, Array.toList_zipIdx]
          · cases hf
        · cases hf
      · cases hf
    · cases hp
theorem repL_den {n : Nat} {z : List SV} {zs : List Value} (h : denL ρ z = some zs) : denL ρ (repL n z) = some ((List.replicate n zs).flatten) := by
  induction n with
  | zero => rfl
  | succ n ih => simp only [repL, List.replicate_succ, List.flatten_cons]; exact denL_append h ih
theorem flat_get {zs : List Value} (n j : Nat) (hz : 0 < zs.length) (hj : j < n * zs.length) : ((List.replicate n zs).flatten)[j]? = zs[j % zs.length]? := by
  induction n generalizing j with
  | zero => omega
  | succ n ih =>
    simp only [List.replicate_succ, List.flatten_cons]
    rcases Nat.lt_or_ge j zs.length with h | h
    · rw [List.getElem?_append_left h, Nat.mod_eq_of_lt h]
    · rw [List.getElem?_append_right h, ih (j - zs.length) (by rw [Nat.succ_mul] at hj; omega), ← Nat.mod_eq_sub_mod h]
theorem flat_len {zs : List Value} (n : Nat) : ((List.replicate n zs).flatten).length = n * zs.length := by
  induction n with
  | zero => simp
  | succ n ih => simp only [List.replicate_succ, List.flatten_cons, List.length_append, ih, Nat.succ_mul]; omega
theorem ex_buildSlice {P : Program} {w : World} {dst : Option Tmp} {ty : TypeId} {pos : String} {after : Array Edge} {guard : Option (Nat × Bool)} {t e : TypeId} {len : Nat} {parts : Array (Nat × Operand)} {i : TypeInfo} {z : Value} {ls : Array Value}
    (hd : P.underlying t = some (.slice e)) (hi : P.info? e = some i) (hz : i.zero = some z) (h0 : ¬ len * i.size = 0) (h1 : ¬ len * i.size > 2 ^ 24) (hzs : z.cells.size = i.size)
    (hf : Instr.fill (fun k => some (k * i.size, i.size)) ((List.replicate len z.cells.toList).flatten).toArray (parts.toList.map fun x => (x.1, a.eval x.2)) = some ls) :
    (execOp a.eval ⟨dst, .buildSlice t len parts, ty, pos, after, guard⟩).run P w = .ok (.value (.slice (some ⟨w.heap.size, 0, none⟩) len len)) (w.alloc (.cells ls e)) := by
  have harr : (Array.range (len * i.size)).map (fun x => z.cells[x % z.cells.size]!) = ((List.replicate len z.cells.toList).flatten).toArray := by
    apply Array.ext_getElem?
    intro j
    have hpos : 0 < z.cells.toList.length := by
      simp only [Array.length_toList, hzs]
      rcases Nat.eq_zero_or_pos i.size with h | h
      · rw [h] at h0; simp at h0
      · exact h
    rcases Nat.lt_or_ge j (len * i.size) with hj | hj
    · have hm : j % z.cells.size < z.cells.size := Nat.mod_lt _ (by simpa using hpos)
      have := flat_get (zs := z.cells.toList) len j hpos (by simpa [hzs] using hj)
      simp only [List.getElem?_toArray, this]
      simp [hj, hm]
    · rw [Array.getElem?_eq_none (by simpa using hj), Array.getElem?_eq_none (by simp only [List.size_toArray, flat_len]; simpa [hzs] using hj)]
  simp only [execOp, Instr.buildSlice, underlying, sizeOf, zeroValue, typeInfo, Sem.run_bind, run_program, Result.andThen_ok, hd, hi, Sem.run_pure, hz, if_neg h0, if_neg h1, harr, Array.toList_map, hf, newRow, run_newObj]
  rfl
end
end Go.Proofs.YtggcfjeehpcclaaDoor
