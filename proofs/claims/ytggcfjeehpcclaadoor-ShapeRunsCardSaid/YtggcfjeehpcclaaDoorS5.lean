/- A symbolic executor, 6: soundness of one operation. -/
import Derived.Test.YtggcfjeehpcclaaDoorS4
namespace Go.Proofs.YtggcfjeehpcclaaDoor
open Go.RowKit

section
variable {PP : Program} {C : Cx PP} {Γ : List (Con C)} {op : OpF} {a : Act} {ρ : Names} {H : List (Nat × SB)} {nm : Nat} {W : World} {K : Act → World → Prop} {Q : Exit → Act → World → Prop}

theorem post_same {r : DR} {v : Value} (hb : r.b = none) (hv : den ρ r.v = some v) : DPost ρ nm r W v W := by
  refine ⟨Gr.refl W, ?_⟩
  rw [hb]; exact hv

theorem OpOk.get (h : OpOk op a ρ) {x : Operand} {v : SV} (e : op [] x = some v) : den ρ v = some (a.eval x) := h [] x v e fun _ hp => by cases hp

theorem den_p {n off : Nat} {v : Value} (h : den ρ (.p n off) = some v) : ∃ b, ρ n = some b ∧ v = .pointer (some ⟨b, off, none⟩) := by
  simp only [den] at h
  split at h
  · rename_i b hb; exact ⟨b, hb, (Option.some.inj h).symm⟩
  · cases h
theorem den_agg {l : List SV} {v : Value} (h : den ρ (.agg l) = some v) : ∃ vs, denL ρ l = some vs ∧ v = .agg vs.toArray := by
  simp only [den] at h
  split at h
  · rename_i b hb; exact ⟨b, hb, (Option.some.inj h).symm⟩
  · cases h
theorem den_tup {l : List SV} {v : Value} (h : den ρ (.tup l) = some v) : ∃ vs, denL ρ l = some vs ∧ v = .tuple vs.toArray := by
  simp only [den] at h
  split at h
  · rename_i b hb; exact ⟨b, hb, (Option.some.inj h).symm⟩
  · cases h

theorem noNames_le : noNames.le ρ := fun n b h => by cases h

theorem loadD_ok (hH : HOk C H ρ W) {x : SV} {t : TypeId} {r : DR} {y : Operand} {dst : Option Tmp} {ty : TypeId} {pos : String} {after : Array Edge} {guard : Option (Nat × Bool)}
    (h : loadD C H x t = some r) (hx : den ρ x = some (a.eval y)) :
    r.b = none ∧ ∃ v, den ρ r.v = some v ∧ (execOp a.eval ⟨dst, .load t y, ty, pos, after, guard⟩).run C.P W = .ok (.value v) W := by
  unfold loadD at h
  split at h
  · split at h
    · rename_i n off _ sb hsb
      obtain ⟨b, vs, h1, h2, h3⟩ := hH.blk n sb hsb
      obtain ⟨b', hb', e⟩ := den_p hx
      rw [h1] at hb'
      obtain rfl := Option.some.inj hb'
      obtain ⟨k1, -, k2⟩ := loadC_ok h h2 (fun i v hv => by rw [h3.cell]; simpa using hv) e
      exact ⟨k1, k2⟩
    · cases h
  · split at h
    · rename_i b off _ sb hsb
      obtain ⟨h0, vs, h2, h3⟩ := hH.grd.2 b sb hsb
      have e : a.eval y = .pointer (some ⟨b, off, none⟩) := (Option.some.inj (by simpa [den] using hx)).symm
      obtain ⟨k1, -, k2⟩ := loadC_ok h (denL_le noNames_le _ _ h2) h3 e
      exact ⟨k1, k2⟩
    · cases h
  · cases h

theorem opL_args (h : OpOk op a ρ) {args : Array Operand} {vs : List SV} (e : opL op args.toList = some vs) : denL ρ vs = some (args.map a.eval).toList := by
  rw [opL_ok h e]; simp

theorem ex_call {f : FuncId} {c : Call} {dst : Option Tmp} {ty : TypeId} {pos : String} {after : Array Edge} {guard : Option (Nat × Bool)} {x : Operand} {fn : Fn} {first captured al : Array Value} {P : Program}
    (hc : c.callee = .value x) (hx : a.eval x = .func (.func f) first captured) (en : ∀ (args : Array Value) (w : World), (callFunc f args).run P w = .ok (.enter f args) w) (e : first ++ c.args.map a.eval ++ captured = al) :
    (execOp a.eval ⟨dst, .call c, ty, pos, after, guard⟩).run P W = .ok (.enter f al) W := by
  subst e
  simp only [execOp, resolve, hc, hx, Deferred.ofValue, Sem.run_bind, Sem.run_pure, Result.andThen_ok, invoke, en]

theorem run_len {P : Program} {ats : Array TypeId} {t ty e : TypeId} {b : Option Addr} {len cap : Nat} {w : World} (h : ats[0]? = some t) (hd : P.underlying t = some (.slice e)) :
    (Builtin.len_ ats ty #[.slice b len cap]).run P w = .ok (.int .i64 len) w := by
  unfold Builtin.len_
  rw [h]
  show ((underlying t >>= _).run P w) = _
  simp only [underlying, Sem.run_bind, run_program, Result.andThen_ok, hd, Sem.run_pure, goInt]
  rfl
theorem callD_ok (hH : HOk C H ρ W) (h : OpOk op a ρ) {c : Call} {r : DR} {dst : Option Tmp} {ty : TypeId} {pos : String} {after : Array Edge} {guard : Option (Nat × Bool)}
    (hD : callD Γ op H nm c = some r) (ho : r.Ob) (hK : ∀ val W', DPost ρ nm r W val W' → K (a.put dst val) W') : Oper.wp C.P ⟨dst, .call c, ty, pos, after, guard⟩ a W K Q := by
  unfold callD at hD
  split at hD
  · rename_i f hcal
    split at hD
    · rename_i sf hsf
      split at hD
      · rename_i g first captured args hg hargs
        split at hD
        · rename_i con hcon
          split at hD
          · rename_i al hal
            obtain rfl := laid_eq hal
            have hf := h.get hsf
            have ha := opL_args h hargs
            obtain rfl := findC_f hcon
            obtain ⟨fv, cv, hfv, hcv, hev⟩ : ∃ fv cv, denL ρ first = some fv ∧ denL ρ captured = some cv ∧ a.eval f = .func (.func con.f) fv.toArray cv.toArray := by
              unfold callee at hg
              split at hg
              · obtain ⟨e1, e2⟩ := Prod.mk.inj (Option.some.inj hg)
                obtain ⟨e2, e3⟩ := Prod.mk.inj e2
                subst e1 e2 e3
                exact ⟨[], [], rfl, rfl, (Option.some.inj (by simpa [den] using hf)).symm⟩
              · obtain ⟨e1, e2⟩ := Prod.mk.inj (Option.some.inj hg)
                obtain ⟨e2, e3⟩ := Prod.mk.inj e2
                subst e1 e2 e3
                simp only [den] at hf
                split at hf
                · rename_i x y hx hy
                  exact ⟨x, y, hx, hy, (Option.some.inj hf).symm⟩
                · cases hf
              · cases hg
            have hall : denL ρ (first ++ args ++ captured) = some (fv ++ (c.args.map a.eval).toList ++ cv) := denL_append (denL_append hfv ha) hcv
            have hcall := con.ok H nm ρ W _ _ r hH hall hD ho
            unfold Oper.wp
            rw [ex_call (fn := .func con.f) hcal hev con.en (al := (fv ++ (c.args.map a.eval).toList ++ cv).toArray) (by simp)]
            show Calls _ _ _ _ _
            refine hcall.mono ?_
            rintro e W' ⟨val, rfl, hp⟩
            exact hK val W' hp
          · cases hD
        · cases hD
      · cases hD
    · cases hD
  · rename_i hcal
    split at hD
    · rename_i l hargs
      have ha := opL_args h hargs
      unfold lenD at hD
      split at hD
      · rename_i n off len cap t ts hts
        split at hD
        · rename_i ti hti
          split at hD
          · rename_i e he
            obtain rfl := Option.some.inj hD
            obtain ⟨u, us, e1, e2, e3⟩ := denL_cons ha
            obtain rfl := denL_nil e3
            obtain ⟨i1, d1, z1, -, hd1, -, -, -, hk1⟩ := (C.ty hti).ex
            have hd : ∃ e', d1 = .slice e' := by
              cases htk : ti.k with
              | sl e' => rw [htk] at hk1; cases d1 <;> simp [kindEq] at hk1; exact ⟨_, rfl⟩
              | _ => rw [htk] at he; cases he
            obtain ⟨e', rfl⟩ := hd
            have hu : ∃ b, u = .slice b len cap := by
              simp only [den] at e2
              split at e2
              · exact ⟨_, (Option.some.inj e2).symm⟩
              · cases e2
            obtain ⟨b, rfl⟩ := hu
            have e7 : c.args.map a.eval = #[.slice b len cap] := by
              apply Array.ext'
              rw [e1]
            have e8 : c.argTypes[0]? = some t := by
              have := congrArg (·[0]?) hts
              simpa using this
            refine wp_val (v := .int .i64 (Int.ofNat len)) ?_ (hK _ _ (post_same rfl rfl))
            simp only [execOp, resolve, hcal, e7, Sem.run_bind, Sem.run_pure, Result.andThen_ok, invoke, builtin, run_len e8 hd1]
            rfl
          · cases hD
        · cases hD
      · cases hD
    · cases hD
  · rename_i hcal
    split at hD
    · rename_i x y hargs
      have ha := opL_args h hargs
      split at hD
      · rename_i k p k' q hp hq
        split at hD
        · rename_i hk
          obtain rfl := sameK_eq hk
          obtain rfl := Option.some.inj hD
          obtain ⟨u, us, e1, e2, e3⟩ := denL_cons ha
          obtain ⟨v, vs, e4, e5, e6⟩ := denL_cons e3
          obtain rfl := denL_nil e6
          subst e4
          rw [SV.int?_den hp] at e2
          rw [SV.int?_den hq] at e5
          obtain rfl := Option.some.inj e2
          obtain rfl := Option.some.inj e5
          have e7 : c.args.map a.eval = #[.int k p, .int k q] := by
            apply Array.ext'
            rw [e1]
          refine wp_val (v := .int k (max p q)) ?_ (hK _ _ (post_same rfl rfl))
          simp only [execOp, resolve, hcal, e7, Sem.run_bind, Sem.run_pure, Result.andThen_ok, invoke, builtin, Builtin.max_, List.foldlM_cons, List.foldlM_nil, Builtin.max2]
          congr 3
          by_cases hh : q > p
          · rw [if_pos hh]; omega
          · rw [if_neg hh]; omega
        · cases hD
      · cases hD
    · cases hD
  · rename_i hcal
    split at hD
    · rename_i x y hargs
      have ha := opL_args h hargs
      split at hD
      · rename_i k p k' q hp hq
        split at hD
        · rename_i hk
          obtain rfl := sameK_eq hk
          obtain rfl := Option.some.inj hD
          obtain ⟨u, us, e1, e2, e3⟩ := denL_cons ha
          obtain ⟨v, vs, e4, e5, e6⟩ := denL_cons e3
          obtain rfl := denL_nil e6
          subst e4
          rw [SV.int?_den hp] at e2
          rw [SV.int?_den hq] at e5
          obtain rfl := Option.some.inj e2
          obtain rfl := Option.some.inj e5
          have e7 : c.args.map a.eval = #[.int k p, .int k q] := by
            apply Array.ext'
            rw [e1]
          refine wp_val (v := .int k (min p q)) ?_ (hK _ _ (post_same rfl rfl))
          simp only [execOp, resolve, hcal, e7, Sem.run_bind, Sem.run_pure, Result.andThen_ok, invoke, builtin, Builtin.min_, List.foldlM_cons, List.foldlM_nil, Builtin.min2]
          congr 3
          by_cases hh : q < p
          · rw [if_pos hh]; omega
          · rw [if_neg hh]; omega
        · cases hD
      · cases hD
    · cases hD
  · cases hD
end
end Go.Proofs.YtggcfjeehpcclaaDoor
