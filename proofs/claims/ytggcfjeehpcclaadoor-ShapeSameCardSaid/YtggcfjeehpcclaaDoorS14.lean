/- A symbolic executor, 15: code; functions. -/
import Derived.Test.YtggcfjeehpcclaaDoorS13
namespace Go.Proofs.YtggcfjeehpcclaaDoor
open Go.RowKit

inductive Ex where
  | normal
  | exit (id : Nat)
  | ret
def Ex.to : Ex → Exit
  | .normal => .normal
  | .exit i => .exit i
  | .ret => .ret

/-- An operand between regions. -/
def opOut (sl : List (Nat × Slot)) : Operand → Option SV
  | .const v => some (constSV v)
  | .global g => some (.v (.pointer (some ⟨g, 0, none⟩)))
  | .func f => some (.v (.func (.func f) #[] #[]))
  | .tmp t => match look sl t with
    | none => none
    | some s => match s.g with | [] => some s.v | _ :: _ => none
def memN (n : Nat) : List Nat → Bool
  | [] => false
  | m :: r => match Nat.beq m n with | true => true | false => memN n r
def ev {PP : Program} {C : Cx PP} (Γ : List (Con C)) (nt : Nat) (fl : List Nat) (L : Code → St → (Ex → St → Prop) → Prop) : Code → St → (Ex → St → Prop) → Prop
  | .skip, st, K => K .normal st
  | .region id ops draw, st, K => evRegion Γ nt (memN id fl) ops draw st (K .normal)
  | .seq x y, st, K => ev Γ nt fl L x st fun e st' => match e with | .normal => ev Γ nt fl L y st' K | .exit i => K (.exit i) st' | .ret => K .ret st'
  | .cond c x y, st, K => match opOut st.sl c with
    | some (.bl true) => ev Γ nt fl L x st K
    | some (.bl false) => ev Γ nt fl L y st K
    | some (.v (.bool b)) => (b = true → ev Γ nt fl L x st K) ∧ (b = false → ev Γ nt fl L y st K)
    | _ => False
  | .block id x, st, K => ev Γ nt fl L x st fun e st' => match e with
    | .normal => K .normal st'
    | .exit i => match Nat.beq i id with | true => K .normal st' | false => K (.exit i) st'
    | .ret => K .ret st'
  | .loop x, st, K => L x st K
  | .exit id, st, K => K (.exit id) st
  | .ret, st, K => K .ret st
  | _, _, _ => False

/-- The drawn regions of a code have their form. -/
def codeB (fl : List Nat) : Code → Bool
  | .region id ops draw => regionB (memN id fl) ops draw
  | .seq x y => codeB fl x && codeB fl y
  | .cond _ x y => codeB fl x && codeB fl y
  | .block _ x => codeB fl x
  | _ => true

section
variable {PP : Program} {C : Cx PP} {Γ : List (Con C)} {nt : Nat} {w0 : World} {ρe : Names}

/-- What is claimed of code, in the states that are described. -/
def Sat {PP : Program} (C : Cx PP) (nt : Nat) (w0 : World) (ρe : Names) (c : Code) (st : St) (K : Ex → St → Prop) : Prop :=
  ∀ ρ a W, Rp C nt w0 ρe st ρ a W → c.wp C.P (fun e a' W' => ∃ x st' ρ', e = Ex.to x ∧ K x st' ∧ Rp C nt w0 ρe st' ρ' a' W') a W

theorem opOut_ok {st : St} {ρ : Names} {a : Act} {W : World} (h : Rp C nt w0 ρe st ρ a W) {x : Operand} {v : SV} (e : opOut st.sl x = some v) : den ρ v = some (a.eval x) := by
  unfold opOut at e
  split at e
  · obtain rfl := Option.some.inj e; exact constSV_den
  · obtain rfl := Option.some.inj e; rfl
  · obtain rfl := Option.some.inj e; rfl
  · split at e
    · cases e
    · rename_i s hs
      split at e
      · rename_i hg
        obtain rfl := Option.some.inj e
        obtain ⟨y, h1, h2⟩ := h.slots _ s hs hg
        rw [eval_some h2]; exact h1
      · cases e

theorem ev_ok {fl : List Nat} (hgm : C.gm ≤ w0.heap.size) (hm : C.P.follows .mixedOrders = true) {L : Code → St → (Ex → St → Prop) → Prop} (hL : ∀ b st K, L b st K → Sat C nt w0 ρe (.loop b) st K) :
    ∀ (c : Code) (st : St) (K : Ex → St → Prop), codeB fl c = true → ev Γ nt fl L c st K → Sat C nt w0 ρe c st K
  | .skip, st, K, hB, h => fun ρ a W hr => wp_skip ⟨.normal, st, ρ, rfl, h, hr⟩
  | .region id ops draw, st, K, hB, h => fun ρ a W hr => evRegion_ok hgm hm hB hr h fun st' ρ' a' W' hk hr' => ⟨.normal, st', ρ', rfl, hk, hr'⟩
  | .seq x y, st, K, hB, h => fun ρ a W hr => by
    refine wp_seq (wp_mono (ev_ok hgm hm hL x st _ (Bool.and_eq_true_iff.1 hB).1 h ρ a W hr) ?_)
    rintro e a' W' ⟨x', st', ρ', rfl, hk, hr'⟩
    cases x' with
    | normal => exact ev_ok hgm hm hL y st' K (Bool.and_eq_true_iff.1 hB).2 hk ρ' a' W' hr'
    | exit i => exact ⟨.exit i, st', ρ', rfl, hk, hr'⟩
    | ret => exact ⟨.ret, st', ρ', rfl, hk, hr'⟩
  | .cond c x y, st, K, hB, h => fun ρ a W hr => by
    simp only [ev] at h
    split at h
    · rename_i hc
      exact wp_cond_true (Option.some.inj (opOut_ok hr hc)).symm (ev_ok hgm hm hL x st K (Bool.and_eq_true_iff.1 hB).1 h ρ a W hr)
    · rename_i hc
      exact wp_cond_false (Option.some.inj (opOut_ok hr hc)).symm (ev_ok hgm hm hL y st K (Bool.and_eq_true_iff.1 hB).2 h ρ a W hr)
    · rename_i b hc
      exact wp_cond_split (Option.some.inj (opOut_ok hr hc)).symm (fun hb => ev_ok hgm hm hL x st K (Bool.and_eq_true_iff.1 hB).1 (h.1 hb) ρ a W hr) (fun hb => ev_ok hgm hm hL y st K (Bool.and_eq_true_iff.1 hB).2 (h.2 hb) ρ a W hr)
    · cases h
  | .block id x, st, K, hB, h => fun ρ a W hr => by
    refine wp_block (wp_mono (ev_ok hgm hm hL x st _ hB h ρ a W hr) ?_)
    rintro e a' W' ⟨x', st', ρ', rfl, hk, hr'⟩
    cases x' with
    | normal => exact ⟨.normal, st', ρ', rfl, hk, hr'⟩
    | ret => exact ⟨.ret, st', ρ', rfl, hk, hr'⟩
    | exit i =>
      show if i = id then _ else _
      simp only at hk
      split at hk
      · rename_i hb
        rw [if_pos (Nat.eq_of_beq_eq_true hb)]
        exact ⟨.normal, st', ρ', rfl, hk, hr'⟩
      · rename_i hb
        rw [if_neg (fun e => by rw [e, Nat.beq_refl] at hb; cases hb)]
        exact ⟨.exit i, st', ρ', rfl, hk, hr'⟩
  | .loop x, st, K, hB, h => hL x st K h
  | .exit id, st, K, hB, h => fun ρ a W hr => wp_exit ⟨.exit id, st, ρ, rfl, h, hr⟩
  | .ret, st, K, hB, h => fun ρ a W hr => wp_ret ⟨.ret, st, ρ, rfl, h, hr⟩
  | .rangeFunc .., st, K, hB, h => h.elim
  | .scope _, st, K, hB, h => h.elim
  | .label _, st, K, hB, h => h.elim
  | .goto _, st, K, hB, h => h.elim
  | .refuse _, st, K, hB, h => h.elim

/-! ### Results -/
def resD {PP : Program} (C : Cx PP) (st : St) : ResultVar → Option SV
  | .tmp t => opOut st.sl (.tmp t)
  | .cell x t => match opOut st.sl (.tmp x) with
    | some (.p n off) => match loadD C st.H (.p n off) t with | some ⟨_, v, _⟩ => some v | none => none
    | _ => none
def resL {PP : Program} (C : Cx PP) (st : St) : List ResultVar → Option (List SV)
  | [] => some []
  | x :: r => match resD C st x, resL C st r with | some v, some l => some (v :: l) | _, _ => none
def finK {PP : Program} (C : Cx PP) (rs : List ResultVar) (st : St) (K : SV → St → Prop) : Prop :=
  match resL C st rs with
  | none => False
  | some [v] => K v st
  | some l => K (.tup l) st

theorem run_of_load {P : Program} {a : Act} {W : World} {t : TypeId} {x : Operand} {v : Value} {dst : Option Tmp} {ty : TypeId} {pos : String} {after : Array Edge} {guard : Option (Nat × Bool)} {p : Addr}
    (hx : a.eval x = .pointer (some p)) (h : (execOp a.eval ⟨dst, .load t x, ty, pos, after, guard⟩).run P W = .ok (.value v) W) : (loadVar t p).run P W = .ok v W := by
  simp only [execOp, hx, Instr.loadAt, Instr.sureAddr, Sem.run_bind, Sem.run_pure, Result.andThen_ok] at h
  cases hr : (loadVar t p).run P W with
  | ok u W' =>
    rw [hr] at h
    simp only [Result.andThen_ok] at h
    injection h with h1 h2
    injection h1 with h1
    rw [h1, h2]
  | halt x W' => rw [hr] at h; cases h

def resOne (tmps : Array Value) : ResultVar → Sem Value
  | .tmp t => pure (tmps.getD t undef)
  | .cell a t => do loadVar t (← asAddr (tmps.getD a undef))
theorem resD_ok {st : St} {ρ : Names} {a : Act} {W : World} (h : Rp C nt w0 ρe st ρ a W) {x : ResultVar} {v : SV} (e : resD C st x = some v) :
    ∃ u, den ρ v = some u ∧ (resOne a.tmps x).run C.P W = .ok u W := by
  cases x with
  | tmp t => exact ⟨_, opOut_ok (x := .tmp t) h e, rfl⟩
  | cell b t =>
    simp only [resD] at e
    split at e
    · rename_i n off hb
      split at e
      · rename_i ob v' bb hl
        obtain rfl := Option.some.inj e
        have hx := opOut_ok h hb
        obtain ⟨-, u, k1, k2⟩ := loadD_ok (dst := none) (ty := 0) (pos := "") (after := #[]) (guard := none) (y := .tmp b) h.base.hok hl hx
        obtain ⟨m, hm, e2⟩ := den_p hx
        refine ⟨u, k1, ?_⟩
        have e3 : a.tmps.getD b undef = .pointer (some ⟨m, off, none⟩) := e2
        simp only [resOne, e3, asAddr, Sem.run_bind, Sem.run_pure, Result.andThen_ok]
        exact run_of_load e2 k2
      · cases e
    · cases e
theorem resL_ok {st : St} {ρ : Names} {a : Act} {W : World} (h : Rp C nt w0 ρe st ρ a W) : ∀ {rs : List ResultVar} {l : List SV}, resL C st rs = some l →
    ∃ us, denL ρ l = some us ∧ (rs.mapM (resOne a.tmps)).run C.P W = .ok us W
  | [], l, e => by
    obtain rfl := Option.some.inj e
    exact ⟨[], rfl, rfl⟩
  | x :: r, l, e => by
    simp only [resL] at e
    split at e
    · rename_i v m hv hm
      obtain rfl := Option.some.inj e
      obtain ⟨u, k1, k2⟩ := resD_ok h hv
      obtain ⟨us, k3, k4⟩ := resL_ok h hm
      refine ⟨u :: us, denL_cons_of k1 k3, ?_⟩
      rw [List.mapM_cons]
      simp only [Sem.run_bind, k2, Result.andThen_ok, k4, Sem.run_pure]
    · cases e
theorem run_results {fn : Func} {a : Act} {W : World} {us : List Value} {P : Program} (h : (fn.results.toList.mapM (resOne a.tmps)).run P W = .ok us W) :
    (results fn a.tmps).run P W = .ok (if h : us.toArray.size = 1 then us.toArray[0] else .tuple us.toArray) W := by
  have e : results fn a.tmps = (fn.results.mapM (resOne a.tmps) >>= fun vs => pure (if h : vs.size = 1 then vs[0] else .tuple vs)) := rfl
  rw [e, Array.mapM_eq_mapM_toList]
  simp only [Sem.run_bind, Sem.run_map, h, Result.andThen_ok, Sem.run_pure]

def argSlots : Nat → List SV → List (Nat × Slot)
  | _, [] => []
  | k, v :: r => (k, ⟨0, 0, [], v⟩) :: argSlots (k + 1) r
theorem argSlots_look : ∀ {l : List SV} {k t : Nat} {s : Slot}, look (argSlots k l) t = some s → ∃ i v, t = k + i ∧ l[i]? = some v ∧ s = ⟨0, 0, [], v⟩
  | [], k, t, s, h => by cases h
  | v :: r, k, t, s, h => by
    by_cases e : k = t
    · subst e
      simp only [argSlots] at h
      rw [look_cons_eq] at h
      exact ⟨0, v, rfl, rfl, (Option.some.inj h).symm⟩
    · simp only [argSlots] at h
      rw [look_cons_ne _ _ e] at h
      obtain ⟨i, u, h1, h2, h3⟩ := argSlots_look h
      exact ⟨i + 1, u, by omega, by simpa using h2, h3⟩

/-- What a function is shown to do. -/
structure Fini {PP : Program} (C : Cx PP) (w0 : World) (ρe : Names) (v : SV) (st : St) (val : Value) (w' : World) where
  ρ : Names
  hok : HOk C st.H ρ w'
  le : ρe.le ρ
  old : ∀ n b, ρ n = some b → ρe n = some b ∨ w0.heap.size ≤ b
  keep : Keep ρe w0 w'
  dv : den ρ v = some val

theorem calls_ev {f : FuncId} {fn : Func} {code : Code} {args : List SV} {vs : List Value} {H : List (Nat × SB)} {nm : Nat} {R : Ending → World → Prop} (fl : List Nat) (hm : C.P.follows .mixedOrders = true)
    (hf : C.P.funcs[f]? = some fn) (hb : fn.body = some code) (hn : Nat.ble args.length fn.ntmps = true) (hB : codeB fl code = true) (hH : HOk C H ρe w0) (hdom : ∀ n b, ρe n = some b → n < nm) (hargs : denL ρe args = some vs) (K : SV → St → Prop)
    (he : ev Γ fn.ntmps fl (fun b st K => Sat C fn.ntmps w0 ρe (.loop b) st K) code ⟨argSlots 0 args, H, nm, 0, [], []⟩ (fun e st => match e with | .exit _ => False | .normal => finK C fn.results.toList st K | .ret => finK C fn.results.toList st K))
    (hR : ∀ v st val w', K v st → Fini C w0 ρe v st val w' → R (.returned val) w') : Calls C.P f vs.toArray w0 R := by
  have hlen := denL_length hargs
  have hn := Nat.le_of_ble_eq_true hn
  refine calls_of_wp hf hb ?_
  have hrp : Rp C fn.ntmps w0 ρe ⟨argSlots 0 args, H, nm, 0, [], []⟩ ρe { tmps := vs.toArray ++ Array.replicate (fn.ntmps - vs.toArray.size) undef, defers := [] } w0 := by
    refine ⟨⟨hH, hdom, Names.le.refl _, fun n b h => .inl h, Keep.refl _ _, by simp; omega, rfl⟩, fun t s hs => ?_, fun t s hs hg => ?_⟩
    · obtain ⟨i, v, -, -, rfl⟩ := argSlots_look hs
      exact Nat.le_refl _
    · obtain ⟨i, v, rfl, hv, rfl⟩ := argSlots_look hs
      obtain ⟨u, h1, h2⟩ := denL_get hargs hv
      refine ⟨u, h2, ?_⟩
      have hl : i < vs.length := (List.getElem?_eq_some_iff.1 h1).1
      rw [Nat.zero_add, Array.getElem?_append_left (by simpa using hl)]
      simpa using h1
  refine wp_mono (ev_ok (Γ := Γ) hH.grd.1 hm (fun b st K h => h) code _ _ hB he _ _ _ hrp) ?_
  rintro e a' W' ⟨x, st, ρ, rfl, hk, hr⟩
  have key : finK C fn.results.toList st K → a'.defers = [] ∧ ∃ v, (results fn a'.tmps).run C.P W' = .ok v W' ∧ R (.returned v) W' := by
    intro hk
    refine ⟨hr.base.df, ?_⟩
    unfold finK at hk
    split at hk
    · exact hk.elim
    · rename_i v hl
      obtain ⟨us, k1, k2⟩ := resL_ok hr hl
      obtain ⟨u, us', rfl, k3, k4⟩ := denL_cons k1
      obtain rfl := denL_nil k4
      exact ⟨u, run_results k2, hR v st u W' hk ⟨ρ, hr.base.hok, hr.base.le, hr.base.old, hr.base.keep, k3⟩⟩
    · rename_i l hne hl
      obtain ⟨us, k1, k2⟩ := resL_ok hr hl
      have hne' : ¬ us.toArray.size = 1 := by
        intro e
        have hlen := denL_length k1
        have : l.length = 1 := by rw [← hlen]; simpa using e
        match l, this with
        | [v], _ => exact hne v rfl
      refine ⟨.tuple us.toArray, by rw [run_results k2, dif_neg hne'], hR _ st _ W' hk ⟨ρ, hr.base.hok, hr.base.le, hr.base.old, hr.base.keep, by simp only [den, k1]⟩⟩
  cases x with
  | normal => exact key hk
  | exit i => exact hk.elim
  | ret => exact key hk
end
end Go.Proofs.YtggcfjeehpcclaaDoor
