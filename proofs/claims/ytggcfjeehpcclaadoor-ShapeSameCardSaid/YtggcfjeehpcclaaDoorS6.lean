/- A symbolic executor, 7: soundness of one operation, all kinds. -/
import Derived.Test.YtggcfjeehpcclaaDoorS5
namespace Go.Proofs.YtggcfjeehpcclaaDoor
open Go.RowKit

section
variable {PP : Program} {C : Cx PP} {Γ : List (Con C)} {op : OpF} {a : Act} {ρ : Names} {H : List (Nat × SB)} {nm : Nat} {W : World} {K : Act → World → Prop} {Q : Exit → Act → World → Prop}

theorem alloc_post {l : List SV} {cs : List Value} {t : TypeId} (h : denL ρ l = some cs) : DPost ρ nm ⟨none, .p nm 0, some ⟨l, t⟩⟩ W (.pointer (some ⟨W.heap.size, 0, none⟩)) (W.alloc (.cells cs.toArray t)) := by
  refine ⟨(Gr.refl W).alloc _, W.heap.size, cs, Nat.le_refl _, ?_, h, Blk.new rfl, fun ρ' _ h' => by simp [den, h']⟩
  simp

theorem binD_ok {o : BinOp} {x y : Operand} {u v : SV} {r : DR} {dst : Option Tmp} {ty yt t : TypeId} {pos : String} {after : Array Edge} {guard : Option (Nat × Bool)}
    (h : binD o u v = some r) (ho : r.Ob) (hx : den ρ u = some (a.eval x)) (hy : den ρ v = some (a.eval y)) :
    r.b = none ∧ ∃ v, den ρ r.v = some v ∧ (execOp a.eval ⟨dst, .binOp o t x y yt, ty, pos, after, guard⟩).run C.P W = .ok (.value v) W := by
  unfold binD at h
  split at h
  · obtain ⟨k1, v, k2, k3⟩ := binInt_ok (P := C.P) (w := W) (t := t) (ρ := ρ) h ho
    have e1 : a.eval x = .int .i64 _ := (Option.some.inj hx).symm
    have e2 : a.eval y = .int .i64 _ := (Option.some.inj hy).symm
    exact ⟨k1, v, k2, ex_bin (by rw [e1, e2]; exact guard_int) (by rw [e1, e2]; exact k3)⟩
  · split at h
    · rename_i k p k' q hp hq
      split at h
      · rename_i hk
        obtain rfl := sameK_eq hk
        obtain ⟨k1, v, k2, k3⟩ := binInt_ok (P := C.P) (w := W) (t := t) (ρ := ρ) h ho
        rw [SV.int?_den hp] at hx
        rw [SV.int?_den hq] at hy
        have e1 := (Option.some.inj hx).symm
        have e2 := (Option.some.inj hy).symm
        exact ⟨k1, v, k2, ex_bin (by rw [e1, e2]; exact guard_int) (by rw [e1, e2]; exact k3)⟩
      · cases h
    · cases h

theorem boolD_ok {o : BinOp} {x y : Operand} {u v : SV} {r : DR} {dst : Option Tmp} {ty yt t : TypeId} {pos : String} {after : Array Edge} {guard : Option (Nat × Bool)}
    (h : boolD C o t u v = some r) (hx : den ρ u = some (a.eval x)) (hy : den ρ v = some (a.eval y)) :
    r.b = none ∧ ∃ v, den ρ r.v = some v ∧ (execOp a.eval ⟨dst, .binOp o t x y yt, ty, pos, after, guard⟩).run C.P W = .ok (.value v) W := by
  unfold boolD at h
  split at h
  · rename_i p q ti hp hq hti
    split at h
    · rename_i hk
      obtain rfl := Option.some.inj h
      rw [SV.bool?_den hp] at hx
      rw [SV.bool?_den hq] at hy
      have e1 := (Option.some.inj hx).symm
      have e2 := (Option.some.inj hy).symm
      obtain ⟨i, d, z, hi, hdd, hs, hz, hzz, hkk⟩ := (C.ty hti).ex
      have hd : d = .bool := by rw [hk] at hkk; cases d <;> first | rfl | simp [kindEq] at hkk
      subst hd
      refine ⟨rfl, _, rfl, ex_bin (by rw [e1, e2]; exact guard_bool) ?_⟩
      rw [e1, e2]
      simp only [binOp, Op.equal, Op.maxDepth, Sem.run_bind, run_equalIn_bool' W 9999 t p q hdd, Result.andThen_ok, Sem.run_pure]
    · cases h
  · rename_i p q ti hp hq hti
    split at h
    · rename_i hk
      obtain rfl := Option.some.inj h
      rw [SV.bool?_den hp] at hx
      rw [SV.bool?_den hq] at hy
      have e1 := (Option.some.inj hx).symm
      have e2 := (Option.some.inj hy).symm
      obtain ⟨i, d, z, hi, hdd, hs, hz, hzz, hkk⟩ := (C.ty hti).ex
      have hd : d = .bool := by rw [hk] at hkk; cases d <;> first | rfl | simp [kindEq] at hkk
      subst hd
      refine ⟨rfl, _, rfl, ex_bin (by rw [e1, e2]; exact guard_bool) ?_⟩
      rw [e1, e2]
      simp only [binOp, Op.equal, Op.maxDepth, Sem.run_bind, run_equalIn_bool' W 9999 t p q hdd, Result.andThen_ok, Sem.run_pure]
      rfl
    · cases h
  · cases h

theorem unD_ok {o : UnOp} {x : Operand} {u : SV} {r : DR} {dst : Option Tmp} {ty t : TypeId} {pos : String} {after : Array Edge} {guard : Option (Nat × Bool)}
    (h : unD o u = some r) (ho : r.Ob) (hx : den ρ u = some (a.eval x)) :
    r.b = none ∧ ∃ v, den ρ r.v = some v ∧ (execOp a.eval ⟨dst, .unOp o t x, ty, pos, after, guard⟩).run C.P W = .ok (.value v) W := by
  unfold unD at h
  split at h
  · obtain rfl := Option.some.inj h
    have e := (Option.some.inj hx).symm
    exact ⟨rfl, _, rfl, ex_un (by rw [e]; rfl)⟩
  · obtain rfl := Option.some.inj h
    have e := (Option.some.inj hx).symm
    exact ⟨rfl, _, rfl, ex_un (by rw [e]; rfl)⟩
  · obtain rfl := Option.some.inj h
    have e := (Option.some.inj hx).symm
    refine ⟨rfl, _, rfl, ex_un (by rw [e]; simp only [Op.unary, Op.intArith, Sem.run_pure, Int.zero_sub, InR.wrap ho])⟩
  · obtain rfl := Option.some.inj h
    have e := (Option.some.inj hx).symm
    refine ⟨rfl, _, rfl, ex_un (by rw [e]; simp only [Op.unary, Op.intArith, Sem.run_pure, Int.zero_sub, InR.wrap ho])⟩
  · cases h

theorem D_sound (hH : HOk C H ρ W) (h : OpOk op a ρ) {o : Oper} {r : DR} (hD : D Γ op H nm o.op = some r) (ho : r.Ob) (hK : ∀ val W', DPost ρ nm r W val W' → K (a.put o.dst val) W') :
    Oper.wp C.P o a W K Q := by
  obtain ⟨dst, oo, ty, pos, after, guard⟩ := o
  cases oo <;> simp only [D] at hD
  case move x =>
    split at hD
    · rename_i v hv
      obtain rfl := Option.some.inj hD
      exact wp_val ex_move (hK _ _ (post_same rfl (h.get hv)))
    · cases hD
  case assign x =>
    split at hD
    · rename_i v hv
      obtain rfl := Option.some.inj hD
      exact wp_val ex_assign (hK _ _ (post_same rfl (h.get hv)))
    · cases hD
  case pick c x y =>
    split at hD
    · rename_i hc
      have e := h.get hc
      split at hD
      · rename_i v hv
        obtain rfl := Option.some.inj hD
        exact wp_val (ex_pick (Option.some.inj e).symm) (hK _ _ (post_same rfl (h.get hv)))
      · cases hD
    · rename_i hc
      have e := h.get hc
      split at hD
      · rename_i v hv
        obtain rfl := Option.some.inj hD
        exact wp_val (ex_pick (Option.some.inj e).symm) (hK _ _ (post_same rfl (h.get hv)))
      · cases hD
    · rename_i b t hc
      have e := (Option.some.inj (h.get hc)).symm
      split at hD
      · rename_i u v hu hv
        split at hD
        · rename_i z hz
          obtain rfl := Option.some.inj hD
          refine wp_val (ex_pick e) (hK _ _ (post_same rfl (pickD_ok hz (fun hb => h _ _ _ hu ?_) (fun hb => h _ _ _ hv ?_))))
          · intro p hp
            obtain rfl := List.mem_singleton.1 hp
            rw [e, hb]
          · intro p hp
            obtain rfl := List.mem_singleton.1 hp
            rw [e, hb]
        · cases hD
      · cases hD
    · cases hD
  case alloc t =>
    split at hD
    · rename_i ti hti
      obtain rfl := Option.some.inj hD
      obtain ⟨i, d, z, hi, hdd, hs, hz, hzz, hk⟩ := (C.ty hti).ex
      exact wp_val' (ex_alloc hi hz) (hK _ _ (by have := alloc_post (nm := nm) (W := W) (t := t) (zeroEqL_den (ρ := ρ) hzz); simpa using this))
    · cases hD
  case box t x =>
    split at hD
    · rename_i v hv
      split at hD
      · rename_i l hl
        obtain rfl := Option.some.inj hD
        exact wp_val' ex_box (hK _ _ (by have := alloc_post (nm := nm) (W := W) (t := t) (cellsOfSV_ok hl (h.get hv)); simpa using this))
      · cases hD
    · cases hD
  case build s parts =>
    split at hD
    · rename_i ti ps hti hps
      split at hD
      · rename_i fs l hfs hl
        split at hD
        · rename_i hall
          obtain rfl := Option.some.inj hD
          obtain ⟨i, d, z, hi, hdd, hs, hz, hzz, hk⟩ := (C.ty hti).ex
          cases htk : ti.k with
          | struct l' =>
            rw [htk] at hfs hk
            obtain rfl := Option.some.inj hfs
            cases d with
            | struct fs' =>
              have hk2 : (fs'.toList.map fun f => (f.offset, f.type)) = l' := by simpa [kindEq] using hk
              obtain ⟨ls, k1, k2⟩ := fillD_ok h hdd hps hl (zeroEqL_den (ρ := ρ) hzz)
              refine wp_val (v := .agg ls.toArray) (ex_build hi hz hdd ?_ (by simpa using k2)) (hK _ _ (post_same rfl (by simp only [den, k1])))
              intro f hf
              exact allT_ok hall (f.offset, f.type) (by rw [← hk2]; exact List.mem_map.2 ⟨f, hf, rfl⟩)
            | _ => simp [kindEq] at hk
          | _ => rw [htk] at hfs; cases hfs
        · cases hD
      · cases hD
    · cases hD
  case load t x =>
    split at hD
    · rename_i v hv
      obtain ⟨k1, v, k2, k3⟩ := loadD_ok (dst := dst) (ty := ty) (pos := pos) (after := after) (guard := guard) hH hD (h.get hv)
      exact wp_val k3 (hK _ _ (post_same k1 k2))
    · cases hD
  case fieldAddr s x k =>
    split at hD
    · rename_i n off fo fi hx hfi
      obtain ⟨fs, f, i, d, e1, e2, e3, e4, e5, e6, e7⟩ := fieldD_ok hfi
      split at hD
      · cases hD
      · rename_i m hm
        obtain rfl := Option.some.inj hD
        obtain ⟨b, hb, e⟩ := den_p (h.get hx)
        refine wp_val (ex_field e e1 e2 e4 (by omega)) (hK _ _ (post_same rfl ?_))
        have e8 : (⟨b, off, none⟩ : Addr).add f.offset = ⟨b, off + fo, none⟩ := by unfold Addr.add; split <;> simp_all
        rw [e8]
        simp only [den, hb]
    · rename_i b off fo fi hx hfi
      obtain ⟨fs, f, i, d, e1, e2, e3, e4, e5, e6, e7⟩ := fieldD_ok hfi
      split at hD
      · cases hD
      · rename_i m hm
        obtain rfl := Option.some.inj hD
        have e := (Option.some.inj (h.get hx)).symm
        refine wp_val (ex_field e e1 e2 e4 (by omega)) (hK _ _ (post_same rfl ?_))
        have e8 : (⟨b, off, none⟩ : Addr).add f.offset = ⟨b, off + fo, none⟩ := by unfold Addr.add; split <;> simp_all
        rw [e8]
        rfl
    · cases hD
  case field s x k =>
    split at hD
    · rename_i l fo fi hx hfi
      obtain ⟨fs, f, i, d, e1, e2, e3, e4, e5, e6, e7⟩ := fieldD_ok hfi
      obtain ⟨vs, hvs, e⟩ := den_agg (h.get hx)
      split at hD
      · rename_i hag
        split at hD
        · rename_i m hm
          obtain rfl := Option.some.inj hD
          obtain ⟨k1, k2⟩ := takeN_den hm (denL_drop fo hvs)
          have hd1 : (∃ fs, d = .struct fs) ∨ ∃ n e, d = .array n e := by
            cases d <;> cases htk : fi.k <;> simp_all [kindEq, aggK]
          refine wp_val (ex_fieldV e e1 e2 (run_part_agg e4 e5 hd1)) (hK _ _ (post_same rfl ?_))
          simp only [den, k1, e3, e6]
          congr 2
          rw [List.length_drop] at k2
          apply Array.ext'
          simp [List.take_drop, Nat.add_comm]
        · cases hD
      · rename_i hag
        split at hD
        · rename_i c hc
          obtain rfl := Option.some.inj hD
          obtain ⟨v, hv, hdv⟩ := denL_get hvs hc
          refine wp_val (ex_fieldV e e1 e2 (run_part_one e5 ?_ ?_ (by simpa [e3] using hv))) (hK _ _ (post_same rfl hdv))
          · intro fs e
            subst e
            cases htk : fi.k <;> simp_all [kindEq, aggK]
          · intro n e' e
            subst e
            cases htk : fi.k <;> simp_all [kindEq, aggK]
        · cases hD
    · cases hD
  case binOp o t x y yt =>
    split at hD
    · rename_i u v hu hv
      split at hD
      · rename_i r' hr'
        obtain rfl := Option.some.inj hD
        obtain ⟨k1, v, k2, k3⟩ := binD_ok (C := C) (W := W) (dst := dst) (ty := ty) (yt := yt) (t := t) (pos := pos) (after := after) (guard := guard) hr' ho (h.get hu) (h.get hv)
        exact wp_val k3 (hK _ _ (post_same k1 k2))
      · obtain ⟨k1, v, k2, k3⟩ := boolD_ok (C := C) (W := W) (dst := dst) (ty := ty) (yt := yt) (t := t) (pos := pos) (after := after) (guard := guard) hD (h.get hu) (h.get hv)
        exact wp_val k3 (hK _ _ (post_same k1 k2))
    · cases hD
  case unOp o t x =>
    split at hD
    · rename_i u hu
      obtain ⟨k1, v, k2, k3⟩ := unD_ok (C := C) (W := W) (dst := dst) (ty := ty) (t := t) (pos := pos) (after := after) (guard := guard) hD ho (h.get hu)
      exact wp_val k3 (hK _ _ (post_same k1 k2))
    · cases hD
  case extract x k =>
    split at hD
    · rename_i l hl
      split at hD
      · rename_i v hv
        obtain rfl := Option.some.inj hD
        obtain ⟨vs, hvs, e⟩ := den_tup (h.get hl)
        obtain ⟨u, hu, hdu⟩ := denL_get hvs hv
        exact wp_val (ex_extract e (by simpa using hu)) (hK _ _ (post_same rfl hdu))
      · cases hD
    · cases hD
  case nilCheck x =>
    split at hD
    · rename_i n off hx
      obtain rfl := Option.some.inj hD
      obtain ⟨b, hb, e⟩ := den_p (h.get hx)
      exact wp_val (ex_nilCheck e) (hK _ _ (post_same rfl (by simp only [den, hb])))
    · cases hD
  case makeFunc fn first captured =>
    split at hD
    · rename_i x y hx hy
      obtain rfl := Option.some.inj hD
      refine wp_val ex_makeFunc (hK _ _ (post_same rfl ?_))
      have h1 := opL_args h hx
      have h2 := opL_args h hy
      simp only [den, h1, h2]
    · cases hD
  case call c => exact callD_ok hH h hD ho hK
  all_goals cases hD
end
end Go.Proofs.YtggcfjeehpcclaaDoor
