/- A symbolic executor with lists, 18: functions; contracts out of walks. -/
import Derived.Test.YtcojfohjdibjjaaGreatDoorG16
namespace Go.Proofs.YtcojfohjdibjjaaGreatDoor
open Go.RowKit

/-! ### Results -/
def resD {PP : Program} (C : Cx PP) (st : St) : ResultVar → Option SV
  | .tmp t => opOut st.sl (.tmp t)
  | .cell x t => match opOut st.sl (.tmp x) with
    | some (.p n off) => loadD C st.H (.p n off) t
    | _ => none
def resL {PP : Program} (C : Cx PP) (st : St) : List ResultVar → Option (List SV)
  | [] => some []
  | x :: r => match resD C st x, resL C st r with | some v, some l => some (v :: l) | _, _ => none
def finK {PP : Program} (C : Cx PP) (rs : List ResultVar) (st : St) (K : SV → Prop) : Prop :=
  match resL C st rs with
  | none => False
  | some [v] => K v
  | some l => K (.tup l)

section
variable {PP : Program} {C : Cx PP} {Γ : List (Con C)} {nt : Nat} {w0 : World} {ρe : Names} {I : Inl} {inls : List Nat}
theorem run_of_load {P : Program} {a : Act} {W : World} {t : TypeId} {x : Operand} {v : Value} {dst : Option Tmp} {ty : TypeId} {pos : String} {after : Array Edge} {guard : Option (Nat × Bool)} {p : Addr}
    (hx : a.eval x = .pointer (some p)) (h : (execOp a.eval ⟨dst, .load t x, ty, pos, after, guard⟩).run P W = .ok (.value v) W) : (loadVar t p).run P W = .ok v W := by
  simp only [execOp, hx, Instr.loadAt, Instr.sureAddr, Sem.run_bind, Sem.run_pure, Result.andThen_ok] at h
  cases hr : (loadVar t p).run P W with
  | ok u W' =>
    rw [hr] at h
    simp only [Result.andThen_ok] at h
    injection h with h1 h2
    injection h1 with h1
    rw [h1, h2]
  | halt x W' => rw [hr] at h; cases h

def resOne (tmps : Array Value) : ResultVar → Sem Value
  | .tmp t => pure (tmps.getD t undef)
  | .cell a t => do loadVar t (← asAddr (tmps.getD a undef))
theorem resD_ok {st : St} {ρ : Names} {a : Act} {W : World} (h : Rp C nt w0 ρe st ρ a W) {x : ResultVar} {v : SV} (e : resD C st x = some v) :
    ∃ u, den ρ v u ∧ (resOne a.tmps x).run C.P W = .ok u W := by
  cases x with
  | tmp t => exact ⟨_, opOut_ok (x := .tmp t) h e, rfl⟩
  | cell b t =>
    simp only [resD] at e
    split at e
    · rename_i n off hb
      have hx := opOut_ok h hb
      obtain ⟨u, k1, k2⟩ := loadD_ok (dst := none) (ty := 0) (pos := "") (after := #[]) (guard := none) (y := .tmp b) h.base.hok e hx
      obtain ⟨m, hm, e2⟩ := hx
      refine ⟨u, k1, ?_⟩
      have e3 : a.tmps.getD b undef = .pointer (some ⟨m, off, none⟩) := e2
      simp only [resOne, e3, asAddr, Sem.run_bind, Sem.run_pure, Result.andThen_ok]
      exact run_of_load e2 k2
    · cases e
theorem resL_ok {st : St} {ρ : Names} {a : Act} {W : World} (h : Rp C nt w0 ρe st ρ a W) : ∀ {rs : List ResultVar} {l : List SV}, resL C st rs = some l →
    ∃ us, denL ρ l us ∧ (rs.mapM (resOne a.tmps)).run C.P W = .ok us W
  | [], l, e => by
    obtain rfl := Option.some.inj e
    exact ⟨[], rfl, rfl⟩
  | x :: r, l, e => by
    simp only [resL] at e
    split at e
    · rename_i v m hv hm
      obtain rfl := Option.some.inj e
      obtain ⟨u, k1, k2⟩ := resD_ok h hv
      obtain ⟨us, k3, k4⟩ := resL_ok h hm
      refine ⟨u :: us, denL_cons_of k1 k3, ?_⟩
      rw [List.mapM_cons]
      simp only [Sem.run_bind, k2, Result.andThen_ok, k4, Sem.run_pure]
    · cases e
theorem run_results {fn : Func} {a : Act} {W : World} {us : List Value} {P : Program} (h : (fn.results.toList.mapM (resOne a.tmps)).run P W = .ok us W) :
    (results fn a.tmps).run P W = .ok (if h : us.toArray.size = 1 then us.toArray[0] else .tuple us.toArray) W := by
  have e : results fn a.tmps = (fn.results.mapM (resOne a.tmps) >>= fun vs => pure (if h : vs.size = 1 then vs[0] else .tuple vs)) := rfl
  rw [e, Array.mapM_eq_mapM_toList]
  simp only [Sem.run_bind, Sem.run_map, h, Result.andThen_ok, Sem.run_pure]

def argSlots : Nat → List SV → List (Nat × Slot)
  | _, [] => []
  | k, v :: r => (k, ⟨0, 0, [], v⟩) :: argSlots (k + 1) r
theorem argSlots_look : ∀ {l : List SV} {k t : Nat} {s : Slot}, look (argSlots k l) t = some s → ∃ i v, t = k + i ∧ l[i]? = some v ∧ s = ⟨0, 0, [], v⟩
  | [], k, t, s, h => by cases h
  | v :: r, k, t, s, h => by
    by_cases e : k = t
    · subst e
      simp only [argSlots] at h
      rw [look_cons_eq] at h
      exact ⟨0, v, rfl, rfl, (Option.some.inj h).symm⟩
    · simp only [argSlots] at h
      rw [look_cons_ne _ _ e] at h
      obtain ⟨i, u, h1, h2, h3⟩ := argSlots_look h
      exact ⟨i + 1, u, by omega, by simpa using h2, h3⟩

/-- The end of a function's walk. -/
def endK {PP : Program} (C : Cx PP) (rs : List ResultVar) (K : SV → Heap → Nat → Prop) : Ex → St → Prop
  | .exit _, _ => False
  | .normal, st => finK C rs st fun v => K v st.H st.nm
  | .ret, st => finK C rs st fun v => K v st.H st.nm

/-- What a function's end hands back. -/
theorem end_ok {nt : Nat} {rs : Array ResultVar} {fn : Func} (hrs : fn.results = rs) {st : St} {ρ : Names} {a' : Act} {W' : World} {K : SV → Heap → Nat → Prop} (hr : Rp C nt w0 ρe st ρ a' W') (hk : finK C rs.toList st (fun v => K v st.H st.nm)) :
    ∃ v, (results fn a'.tmps).run C.P W' = .ok v W' ∧ ∃ v' H' nm', K v' H' nm' ∧ Mem C w0 ρe nm' ρ W' ∧ (∀ n sb, look H' n = some sb → Cont ρ W' n sb) ∧ den ρ v' v := by
  subst hrs
  unfold finK at hk
  split at hk
  · exact hk.elim
  · rename_i v hl
    obtain ⟨us, k1, k2⟩ := resL_ok hr hl
    obtain ⟨u, us', rfl, k3, k4⟩ := denL_cons k1
    obtain rfl := denL_nil k4
    exact ⟨u, run_results k2, v, st.H, st.nm, hk, hr.base.mem, hr.base.blk, k3⟩
  · rename_i l hne hl
    obtain ⟨us, k1, k2⟩ := resL_ok hr hl
    have hne' : ¬ us.toArray.size = 1 := by
      intro e
      have hlen := denL_length k1
      have : l.length = 1 := by rw [← hlen]; simpa using e
      match l, this with
      | [v], _ => exact hne v rfl
    exact ⟨.tuple us.toArray, by rw [run_results k2, dif_neg hne'], .tup l, st.H, st.nm, hk, hr.base.mem, hr.base.blk, us, k1, rfl⟩

theorem calls_ev {f : FuncId} {fn : Func} {code : Code} {args : List SV} {vs : List Value} {H : Heap} {nm : Nat} (h : How) (hI : InlOk C I) (hm : C.P.follows .mixedOrders = true)
    (hf : C.P.funcs[f]? = some fn) (hb : fn.body = some code) (hn : Nat.ble args.length fn.ntmps = true) (hB : codeB h.fl code = true) (hH : HOk C H ρe w0) (hdom : ∀ n b, ρe.n n = some b → n < nm) (hdomv : ∀ e l, ρe.v e = some l → e < nm ∧ l.o < nm) (hdomk : ∀ m i l, ρe.k m i = some l → m < nm) (hargs : denL ρe args vs) (K : SV → Heap → Nat → Prop)
    (he : ev Γ fn.ntmps nm I inls h code ⟨argSlots 0 args, H, nm, 0, [], []⟩ (endK C fn.results.toList K)) :
    Calls C.P f vs.toArray w0 fun e W' => ∃ v val H' nm' ρ', e = .returned val ∧ K v H' nm' ∧ Mem C w0 ρe.noD nm' ρ' W' ∧ (∀ n sb, look H' n = some sb → Cont ρ' W' n sb) ∧ den ρ' v val := by
  have hlen := denL_length hargs
  have hn := Nat.le_of_ble_eq_true hn
  refine calls_of_wp hf hb ?_
  have hrp : Rp C fn.ntmps w0 ρe.noD ⟨argSlots 0 args, H, nm, 0, [], []⟩ ρe { tmps := vs.toArray ++ Array.replicate (fn.ntmps - vs.toArray.size) undef, defers := [] } w0 := by
    refine ⟨⟨Mem.refl hH.hb hdom hdomv hdomk, hH.blk, by simp; omega, rfl⟩, fun t s hs => ?_, fun t s hs hg => ?_⟩
    · obtain ⟨i, v, -, -, rfl⟩ := argSlots_look hs
      exact Nat.le_refl _
    · obtain ⟨i, v, rfl, hv, rfl⟩ := argSlots_look hs
      obtain ⟨u, h1, h2⟩ := denL_get hargs hv
      refine ⟨u, h2, ?_⟩
      have hl : i < vs.length := (List.getElem?_eq_some_iff.1 h1).1
      rw [Nat.zero_add, Array.getElem?_append_left (by simpa using hl)]
      simpa using h1
  refine wp_mono (wpIn_wide.1 (ev_ok (M := .out) (ρe := ρe.noD) hI hm hdom hdomv hdomk code _ _ hB he _ _ _ hrp)) ?_
  rintro e a' W' ⟨x, st, ρ, rfl, hk, hr⟩
  have key : finK C fn.results.toList st (fun v => K v st.H st.nm) → a'.defers = [] ∧ ∃ v, (results fn a'.tmps).run C.P W' = .ok v W' ∧ ∃ v' val H' nm' ρ', Ending.returned v = .returned val ∧ K v' H' nm' ∧ Mem C w0 ρe.noD nm' ρ' W' ∧ (∀ n sb, look H' n = some sb → Cont ρ' W' n sb) ∧ den ρ' v' val := by
    intro hk
    obtain ⟨v, h1, v', H', nm', h2, h3, h4, h5⟩ := end_ok rfl hr hk
    exact ⟨hr.base.df, v, h1, v', v, H', nm', ρ, rfl, h2, h3, h4, h5⟩
  cases x with
  | normal => exact key hk
  | exit i => exact hk.elim
  | ret => exact key hk
end

/-- The drawn regions of a function have their form. -/
def bodyB (fl : List Nat) (fn : Func) : Bool := match fn.body with | some c => codeB fl c | none => false
/-- A function that may be entered. -/
structure FnI {PP : Program} (C : Cx PP) where
  {g : FuncId}
  f : FuncId
  en : ∀ (args : Array Value) (w : World), (callFunc f args).run C.P w = .ok (.enter g args) w
  fn : Func
  hf : C.P.funcs[g]? = some fn
  fl : List Nat
  cuts : List Nat
  invs : List Nat
  fu : Nat
  hB : bodyB fl fn = true
def findI {PP : Program} {C : Cx PP} : List (FnI C) → Nat → Option (FnI C)
  | [], _ => none
  | c :: r, n => match Nat.beq c.f n with | true => some c | false => findI r n
theorem findI_f {PP : Program} {C : Cx PP} : ∀ {l : List (FnI C)} {n : Nat} {c : FnI C}, findI l n = some c → c.f = n
  | [], _, _, h => by simp [findI] at h
  | d :: r, n, c, h => by
    simp only [findI] at h
    split at h
    · rename_i hb
      obtain rfl := Option.some.inj h
      exact Nat.eq_of_beq_eq_true hb
    · exact findI_f h
def numsI {PP : Program} {C : Cx PP} : List (FnI C) → List Nat
  | [] => []
  | c :: r => c.f :: numsI r
/-- Calls that are entered, to a depth. -/
def inlD {PP : Program} {C : Cx PP} (Γ : List (Con C)) (Fs : List (FnI C)) : Nat → Inl
  | 0 => fun _ _ _ _ _ => False
  | d + 1 => fun f args H nm K => match findI Fs f with
    | none => False
    | some c => match c.fn.body, Nat.ble args.length c.fn.ntmps with
      | some code, true => ev Γ c.fn.ntmps nm (inlD Γ Fs d) (numsI Fs) ⟨c.fl, c.cuts, c.invs, c.fu⟩ code ⟨argSlots 0 args, H, nm, 0, [], []⟩ (endK C c.fn.results.toList K)
      | _, _ => False
theorem inlD_ok {PP : Program} {C : Cx PP} {Γ : List (Con C)} {Fs : List (FnI C)} (hm : C.P.follows .mixedOrders = true) : ∀ d, InlOk C (inlD Γ Fs d)
  | 0 => fun f args H nm K h => h.elim
  | d + 1 => fun f args H nm K h => by
    simp only [inlD] at h
    split at h
    · exact h.elim
    · rename_i c hc
      obtain rfl := findI_f hc
      split at h
      · rename_i code hb hn
        have hB : codeB c.fl code = true := by have := c.hB; unfold bodyB at this; rw [hb] at this; exact this
        exact ⟨_, c.en, fun ρ W vs hH hdom hdomv hdomk hargs => calls_ev ⟨c.fl, c.cuts, c.invs, c.fu⟩ (inlD_ok hm d) hm c.hf hb hn hB hH hdom hdomv hdomk hargs K h⟩
      · exact h.elim

/-! ### Contracts out of walks -/
/-- The result is what was said. -/
def resOut (out : SV) (H : Heap) (v : SV) : Prop := match fzK H 4 [v] with
  | some [v'] => conjO (vq 0 [] out v')
  | _ => False
/-- A function's walk from arguments that never change. -/
def evFn {PP : Program} {C : Cx PP} (Γ : List (Con C)) (Fs : List (FnI C)) (d : Nat) (h : How) (fn : Func) (args : List SV) (K : SV → Heap → Nat → Prop) : Prop :=
  match fn.body, Nat.ble args.length fn.ntmps with
  | some code, true => ev Γ fn.ntmps 0 (inlD Γ Fs d) (numsI Fs) h code ⟨argSlots 0 args, [], 0, 0, [], []⟩ (endK C fn.results.toList K)
  | _, _ => False

section
variable {PP : Program} {C : Cx PP} {Γ : List (Con C)} {Fs : List (FnI C)} {d : Nat}
theorem onlyZ_hok {ze : Nat → Nat → Value → Prop} {W : World} (hG : C.Grd W) (hz : ∀ b i c, ze b i c → W.cell? ⟨b, i, none⟩ = some c ∧ c.oneCell' = true ∧ plainB W b) : HOk C [] (onlyZ ze) W := by
  have hno : ∀ n b, ¬ Owns (onlyZ ze) n b := fun n b ho => by
    rcases ho with ho | ⟨e, l, o, h1, -⟩ | ⟨i, l, o, h1, -⟩
    · cases ho
    · cases h1
    · cases h1
  have hno2 : ∀ b, ¬ Mine (onlyZ ze).noD b := fun b ho => by
    rcases ho with ⟨n, ho⟩ | ho
    · exact hno n b ho
    · exact ho
  exact ⟨⟨fun n n' b h => absurd h (hno n b), fun n b h => absurd h (hno n b), hz, hG⟩, fun n sb h => by cases h⟩
/-- .. as a contract says it. -/
theorem fn_endR {ze : Nat → Nat → Value → Prop} {W W' : World} {out v : SV} {val : Value} {H' : Heap} {nm' : Nat} {ρ' : Names} (hk : resOut out H' v) (hmem : Mem C W (onlyZ ze).noD nm' ρ' W') (hblk : ∀ n sb, look H' n = some sb → Cont ρ' W' n sb) (hden : den ρ' v val) :
    Gr W W' ∧ (∀ b i c, (zR ρ' W').z b i c → (ze b i c ∨ W.heap.size ≤ b) ∧ W'.cell? ⟨b, i, none⟩ = some c ∧ c.oneCell' = true ∧ plainB W' b) ∧ den (zR ρ' W') out val := by
  have hno : ∀ n b, ¬ Owns (onlyZ ze) n b := fun n b ho => by
    rcases ho with ho | ⟨e, l, o, h1, -⟩ | ⟨i, l, o, h1, -⟩
    · cases ho
    · cases h1
    · cases h1
  have hno2 : ∀ b, ¬ Mine (onlyZ ze).noD b := fun b ho => by
    rcases ho with ⟨n, ho⟩ | ho
    · exact hno n b ho
    · exact ho
  have hH' : HOk C H' ρ' W' := ⟨hmem.hb, hblk⟩
  unfold resOut at hk
  split at hk
  · rename_i v' hv
    have hd := fzK_ok hH' 4 [v] [v'] [val] hv (denL_cons_of hden rfl)
    obtain ⟨u, us, e1, e2, e3⟩ := denL_cons hd
    obtain rfl : val = u := by injection e1
    generalize hq : vq 0 [] out v' = q at hk
    cases q with
    | none => exact hk.elim
    | some q =>
      have hd2 := vq_ok (nm := 0) (σ := []) (fun i j h => by omega) out v' q hq hk _ _ e2
      refine ⟨hmem.keep.to_gr hno2, fun b i c hz => ⟨?_, hz.1, hz.2.1⟩, den_le (ρ := cutN 0 [] (zR ρ' W')) ⟨fun n b h => ?_, fun n b h => ?_, fun n i b h => ?_, fun _ _ _ h => h⟩ _ _ hd2⟩
      · rcases hz.2.2 with h1 | ⟨n, h1⟩
        · rcases hmem.zold b i c h1 with h2 | h2 | h2
          · exact .inl h2
          · exact .inr h2
          · exact absurd h2 (hno2 b)
        · rcases hmem.old n b h1 with h2 | h2
          · exact absurd h2 (hno2 b)
          · exact .inr h2
      · have := (cutN_n_some h).1; omega
      · have := (cutN_v_some h).1; omega
      · have := (cutN_k_some h).1; omega
  · exact hk.elim

theorem fn_end {ze : Nat → Nat → Value → Prop} {W W' : World} {out v : SV} {val : Value} {H' : Heap} {nm' : Nat} {ρ' : Names} (hk : resOut out H' v) (hmem : Mem C W (onlyZ ze).noD nm' ρ' W') (hblk : ∀ n sb, look H' n = some sb → Cont ρ' W' n sb) (hden : den ρ' v val) :
    ∃ val2 z', Ending.returned val = .returned val2 ∧ Gr W W' ∧ (∀ b i c, z' b i c → (ze b i c ∨ W.heap.size ≤ b) ∧ W'.cell? ⟨b, i, none⟩ = some c ∧ c.oneCell' = true ∧ plainB W' b) ∧ den (onlyZ z') out val2 :=
  let ⟨h1, h2, h3⟩ := fn_endR hk hmem hblk hden
  ⟨val, (zR ρ' W').z, rfl, h1, h2, h3⟩
theorem calls_fn {f : FuncId} {fn : Func} {args : List SV} {vs : List Value} {ze : Nat → Nat → Value → Prop} {W : World} {out : SV} (h : How) (hm : C.P.follows .mixedOrders = true)
    (hf : C.P.funcs[f]? = some fn) (hB : bodyB h.fl fn = true) (hG : C.Grd W) (hz : ∀ b i c, ze b i c → W.cell? ⟨b, i, none⟩ = some c ∧ c.oneCell' = true ∧ plainB W b) (hargs : denL (onlyZ ze) args vs)
    (he : evFn Γ Fs d h fn args fun v H _ => resOut out H v) :
    Calls C.P f vs.toArray W fun e W' => ∃ val z', e = .returned val ∧ Gr W W' ∧ (∀ b i c, z' b i c → (ze b i c ∨ W.heap.size ≤ b) ∧ W'.cell? ⟨b, i, none⟩ = some c ∧ c.oneCell' = true ∧ plainB W' b) ∧ den (onlyZ z') out val := by
  unfold evFn at he
  split at he
  rotate_left
  · exact he.elim
  rename_i code hb hn
  have hB : codeB h.fl code = true := by unfold bodyB at hB; rw [hb] at hB; exact hB
  refine (calls_ev h (inlD_ok hm d) hm hf hb hn hB (onlyZ_hok hG hz) (fun n b h => by cases h) (fun e l h => by cases h) (fun m i l h => by cases h) hargs _ he).mono ?_
  rintro e W' ⟨v, val, H', nm', ρ', rfl, hk, hmem, hblk, hden⟩
  exact fn_end hk hmem hblk hden

def obO : List Prop → Option Prop
  | [] => none
  | l => some (conj l)
theorem obO_ok {l : List Prop} (h : owed (obO l)) : conj l := by
  cases l with
  | nil => trivial
  | cons p r => exact h
/-- How arguments are read. -/
structure Rds (α : Type) where
  pats : List SV
  dec : List SV → α
  enc : α → List SV
  ok : ∀ xs, enc (dec xs) = jnL false pats xs
/-- (Into memory that is new.) -/
def resOutF (out : SV) (H : Heap) (v : SV) : Prop := match frS H v with
  | some (v', ps) => match ps with
    | [] => conjO (vq 0 [] out v')
    | p :: r => conj (p :: r) ∧ conjO (vq 0 [] out v')
  | none => False
theorem resOutF_ok {out : SV} {H : Heap} {v : SV} (h : resOutF out H v) : ∃ v' ps, frS H v = some (v', ps) ∧ conj ps ∧ conjO (vq 0 [] out v') := by
  unfold resOutF at h
  split at h
  · rename_i v' ps hv
    split at h
    · exact ⟨_, _, hv, trivial, h⟩
    · exact ⟨_, _, hv, h⟩
  · exact h.elim
theorem fn_endF {ze : Nat → Nat → Value → Prop} {W W' : World} {out v : SV} {val : Value} {H' : Heap} {nm' : Nat} {ρ' : Names} (hk : resOutF out H' v) (hmem : Mem C W (onlyZ ze).noD nm' ρ' W') (hblk : ∀ n sb, look H' n = some sb → Cont ρ' W' n sb) (hden : den ρ' v val) :
    ∃ val2 z', Ending.returned val = .returned val2 ∧ Gr W W' ∧ (∀ b i c, z' b i c → (ze b i c ∨ W.heap.size ≤ b) ∧ W'.cell? ⟨b, i, none⟩ = some c ∧ c.oneCell' = true ∧ plainB W' b) ∧ den (onlyZ z') out val2 ∧ ∀ b i c, z' b i c → W.heap.size ≤ b := by
  have hno : ∀ n b, ¬ Owns (onlyZ ze) n b := fun n b ho => by
    rcases ho with ho | ⟨e, l, o, h1, -⟩ | ⟨i, l, o, h1, -⟩
    · cases ho
    · cases h1
    · cases h1
  have hno2 : ∀ b, ¬ Mine (onlyZ ze).noD b := fun b ho => by
    rcases ho with ⟨n, ho⟩ | ho
    · exact hno n b ho
    · exact ho
  have hH' : HOk C H' ρ' W' := ⟨hmem.hb, hblk⟩
  obtain ⟨v', ps, hv, hps, hk⟩ := resOutF_ok hk
  have e2 := frS_ok hH' v v' ps val hv hps hden
  generalize hq : vq 0 [] out v' = q at hk
  cases q with
  | none => exact hk.elim
  | some q =>
    have hd2 := vq_ok (nm := 0) (σ := []) (fun i j h => by omega) out v' q hq hk _ _ e2
    have hnew : ∀ b i c, (zO ρ' W').z b i c → W.heap.size ≤ b := fun b i c hz => by
      obtain ⟨-, -, n, h1⟩ := hz
      rcases hmem.old n b h1 with h2 | h2
      · exact absurd h2 (hno2 b)
      · exact h2
    refine ⟨val, (zO ρ' W').z, rfl, hmem.keep.to_gr hno2, fun b i c hz => ⟨.inr (hnew b i c hz), hz.1, hz.2.1⟩, den_le (ρ := cutN 0 [] (zO ρ' W')) ⟨fun n b h => ?_, fun n b h => ?_, fun n i b h => ?_, fun _ _ _ h => h⟩ _ _ hd2, hnew⟩
    · have := (cutN_n_some h).1; omega
    · have := (cutN_v_some h).1; omega
    · have := (cutN_k_some h).1; omega
theorem calls_fnF {f : FuncId} {fn : Func} {args : List SV} {vs : List Value} {ze : Nat → Nat → Value → Prop} {W : World} {out : SV} (h : How) (hm : C.P.follows .mixedOrders = true)
    (hf : C.P.funcs[f]? = some fn) (hB : bodyB h.fl fn = true) (hG : C.Grd W) (hz : ∀ b i c, ze b i c → W.cell? ⟨b, i, none⟩ = some c ∧ c.oneCell' = true ∧ plainB W b) (hargs : denL (onlyZ ze) args vs)
    (he : evFn Γ Fs d h fn args fun v H _ => resOutF out H v) :
    Calls C.P f vs.toArray W fun e W' => ∃ val z', e = .returned val ∧ Gr W W' ∧ (∀ b i c, z' b i c → (ze b i c ∨ W.heap.size ≤ b) ∧ W'.cell? ⟨b, i, none⟩ = some c ∧ c.oneCell' = true ∧ plainB W' b) ∧ den (onlyZ z') out val ∧ ∀ b i c, z' b i c → W.heap.size ≤ b := by
  unfold evFn at he
  split at he
  rotate_left
  · exact he.elim
  rename_i code hb hn
  have hB : codeB h.fl code = true := by unfold bodyB at hB; rw [hb] at hB; exact hB
  refine (calls_ev h (inlD_ok hm d) hm hf hb hn hB (onlyZ_hok hG hz) (fun n b h => by cases h) (fun e l h => by cases h) (fun m i l h => by cases h) hargs _ he).mono ?_
  rintro e W' ⟨v, val, H', nm', ρ', rfl, hk, hmem, hblk, hden⟩
  exact fn_endF hk hmem hblk hden
/-- A contract: arguments of a form, what is asked of them, what comes out. -/
def mkCon {α : Type} (f : FuncId) (en : ∀ (args : Array Value) (w : World), (callFunc f args).run C.P w = .ok (.enter f args) w) (R : Rds α) (pre : α → List Prop) (out : α → SV)
    (h : ∀ (a : α) (ze : Nat → Nat → Value → Prop) (W : World) (vs : List Value), conj (pre a) → C.Grd W → (∀ b i c, ze b i c → W.cell? ⟨b, i, none⟩ = some c ∧ c.oneCell' = true ∧ plainB W b) → denL (onlyZ ze) (R.enc a) vs →
      Calls C.P f vs.toArray W fun e W' => ∃ val z', e = .returned val ∧ Gr W W' ∧ (∀ b i c, z' b i c → (ze b i c ∨ W.heap.size ≤ b) ∧ W'.cell? ⟨b, i, none⟩ = some c ∧ c.oneCell' = true ∧ plainB W' b) ∧ den (onlyZ z') (out a) val) : Con C where
  f := f
  en := en
  run := fun args => match alikeCL R.pats args with | some l => some (obO (l ++ pre (R.dec args)), out (R.dec args)) | none => none
  fresh := false
  own := none
  ok := by
    intro ze W args vs ob o hG hz hd hr ho
    split at hr
    · rename_i l hl
      obtain ⟨rfl, rfl⟩ := Prod.mk.inj (Option.some.inj hr)
      obtain ⟨c1, c2⟩ := conj_append (obO_ok ho)
      refine (h (R.dec args) ze W vs c2 hG hz ?_).mono (fun e W' ⟨val, z', h1, h2, h3, h4⟩ => ⟨val, z', h1, h2, h3, h4, (fun c => by cases c), fun t c => by cases c⟩)
      rw [R.ok]
      exact jnL_false _ _ _ (alikeCL_ok _ _ l hl c1) hd
    · cases hr
/-- .. out of a walk. -/
def walkCon {α : Type} (f : FuncId) (en : ∀ (args : Array Value) (w : World), (callFunc f args).run C.P w = .ok (.enter f args) w) (R : Rds α) (pre : α → List Prop) (out : α → SV) (h : α → How) (fl : List Nat) (hfl : ∀ a, (h a).fl = fl) (hm : C.P.follows .mixedOrders = true) {fn : Func}
    (hf : C.P.funcs[f]? = some fn) (hB : bodyB fl fn = true) (he : ∀ a, conj (pre a) → evFn Γ Fs d (h a) fn (R.enc a) fun v H _ => resOut (out a) H v) : Con C :=
  mkCon f en R pre out fun a ze W vs hp hG hz hd => calls_fn (h a) hm hf (by rw [hfl]; exact hB) hG hz hd (he a hp)
/-- .. whose result lies in memory that is new. -/
def mkConF {α : Type} (f : FuncId) (en : ∀ (args : Array Value) (w : World), (callFunc f args).run C.P w = .ok (.enter f args) w) (R : Rds α) (pre : α → List Prop) (out : α → SV)
    (h : ∀ (a : α) (ze : Nat → Nat → Value → Prop) (W : World) (vs : List Value), conj (pre a) → C.Grd W → (∀ b i c, ze b i c → W.cell? ⟨b, i, none⟩ = some c ∧ c.oneCell' = true ∧ plainB W b) → denL (onlyZ ze) (R.enc a) vs →
      Calls C.P f vs.toArray W fun e W' => ∃ val z', e = .returned val ∧ Gr W W' ∧ (∀ b i c, z' b i c → (ze b i c ∨ W.heap.size ≤ b) ∧ W'.cell? ⟨b, i, none⟩ = some c ∧ c.oneCell' = true ∧ plainB W' b) ∧ den (onlyZ z') (out a) val ∧ ∀ b i c, z' b i c → W.heap.size ≤ b) : Con C where
  f := f
  en := en
  run := fun args => match alikeCL R.pats args with | some l => some (obO (l ++ pre (R.dec args)), out (R.dec args)) | none => none
  fresh := true
  own := none
  ok := by
    intro ze W args vs ob o hG hz hd hr ho
    split at hr
    · rename_i l hl
      obtain ⟨rfl, rfl⟩ := Prod.mk.inj (Option.some.inj hr)
      obtain ⟨c1, c2⟩ := conj_append (obO_ok ho)
      refine (h (R.dec args) ze W vs c2 hG hz ?_).mono (fun e W' ⟨val, z', h1, h2, h3, h4, h5⟩ => ⟨val, z', h1, h2, h3, h4, (fun _ => h5), fun t c => by cases c⟩)
      rw [R.ok]
      exact jnL_false _ _ _ (alikeCL_ok _ _ l hl c1) hd
    · cases hr
/-- .. out of a walk. -/
def walkConF {α : Type} (f : FuncId) (en : ∀ (args : Array Value) (w : World), (callFunc f args).run C.P w = .ok (.enter f args) w) (R : Rds α) (pre : α → List Prop) (out : α → SV) (h : α → How) (fl : List Nat) (hfl : ∀ a, (h a).fl = fl) (hm : C.P.follows .mixedOrders = true) {fn : Func}
    (hf : C.P.funcs[f]? = some fn) (hB : bodyB fl fn = true) (he : ∀ a, conj (pre a) → evFn Γ Fs d (h a) fn (R.enc a) fun v H _ => resOutF (out a) H v) : Con C :=
  mkConF f en R pre out fun a ze W vs hp hG hz hd => calls_fnF (h a) hm hf (by rw [hfl]; exact hB) hG hz hd (he a hp)
/-- .. and is a list that nobody else has. -/
def ownOut1 (szo no : Nat) (fo : Nat → List SV) (t0 : TypeId) (H : Heap) (v : SV) : Prop := match v with
  | .e => no = 0
  | .v (.slice _ 0 0) => no = 0
  | .g m e sz off n => match off with
    | 0 => match look H m with
      | some (.lst e' sz' _ f t) => e = e' ∧ sz' = szo ∧ t = t0 ∧ no = n ∧ ∀ i, i < n → flatL (fo i) = true ∧ fo i = f i
      | _ => False
    | _ => False
  | _ => False
def ownOut (out : SV) (t0 : TypeId) (H : Heap) (v : SV) : Prop := match out with
  | .rs szo no fo => ownOut1 szo no fo t0 H v
  | .agg [x, .rs szo no fo] => match v with
    | .agg [x', v'] => flatS x = true ∧ x = x' ∧ ownOut1 szo no fo t0 H v'
    | _ => False
  | _ => False
def resOutO (out : SV) (t0 : TypeId) (H : Heap) (v : SV) : Prop := resOutF out H v ∧ ownOut out t0 H v
theorem ownOut1_ok {ze : Nat → Nat → Value → Prop} {W W' : World} {v : SV} {szo no : Nat} {fo : Nat → List SV} {t0 : TypeId} {val : Value} {H' : Heap} {nm' : Nat} {ρ' : Names} (hk : ownOut1 szo no fo t0 H' v) (hmem : Mem C W (onlyZ ze).noD nm' ρ' W') (hblk : ∀ n sb, look H' n = some sb → Cont ρ' W' n sb) {zz : Nat → Nat → Value → Prop} (hden : den ρ' v val) : OwnL zz W W' val szo no fo t0 := by
  have hno2 : ∀ b, ¬ Mine (onlyZ ze).noD b := fun b ho => by
    rcases ho with ⟨n, ho⟩ | ho
    · rcases ho with ho | ⟨e, l, o, h1, -⟩ | ⟨i, l, o, h1, -⟩
      · cases ho
      · cases h1
      · cases h1
    · exact ho
  unfold ownOut1 at hk
  split at hk
  · obtain ⟨a, rfl⟩ := hden
    subst hk
    exact ⟨a, 0, fun _ _ _ => False, fun _ _ _ h => h.elim, rfl, Nat.le_refl _, fun h => absurd rfl h⟩
  · rename_i a
    obtain rfl : val = .slice a 0 0 := hden
    subst hk
    exact ⟨a, 0, fun _ _ _ => False, fun _ _ _ h => h.elim, rfl, Nat.le_refl _, fun h => absurd rfl h⟩
  · rename_i m e sz off n
    split at hk
    · split at hk
      · rename_i e' sz' N f t hl
        obtain ⟨rfl, rfl, rfl, rfl, hf⟩ := hk
        obtain ⟨l, h1, h2, h3, h4, h5⟩ := hblk _ _ hl
        obtain ⟨l', k1, k2, k3, k4, a', rfl, k6⟩ := hden
        obtain rfl : l = l' := by rw [h1] at k1; exact Option.some.inj k1
        refine ⟨a', l.cap, fun _ _ _ => False, fun _ _ _ h => h.elim, by simp, by omega, fun hc => ?_⟩
        obtain ⟨b, u, q1, q2, q3, q4, q5, q6⟩ := h5 hc
        obtain ⟨b', p1, p2⟩ := k6 (by simpa using hc)
        obtain rfl : b = b' := by rw [q1] at p1; injection p1 with p1; injection p1
        refine ⟨b, u, by rw [p2]; simp, ?_, q2, q3, q4, fun _ _ h => h, fun i hi => ?_⟩
        · rcases hmem.old m b (.inr (.inl ⟨e, l, 0, h1, h2, hc, q1⟩)) with h | h
          · exact absurd h (hno2 b)
          · exact h
        · obtain ⟨us, r1, r2, r3⟩ := q6 i (by omega)
          obtain ⟨s1, s2⟩ := hf i hi
          refine ⟨us, ?_, r2, r3⟩
          rw [← s2] at r1
          exact flatL_den _ _ s1 r1
      · exact hk.elim
    · exact hk.elim
  · exact hk.elim
theorem ownOut_ok {ze : Nat → Nat → Value → Prop} {W W' : World} {out v : SV} {t0 : TypeId} {val : Value} {H' : Heap} {nm' : Nat} {ρ' : Names} (hk : ownOut out t0 H' v) (hmem : Mem C W (onlyZ ze).noD nm' ρ' W') (hblk : ∀ n sb, look H' n = some sb → Cont ρ' W' n sb) {zz : Nat → Nat → Value → Prop} (hden : den ρ' v val) : OwnO zz W W' val t0 out := by
  unfold ownOut at hk
  split at hk
  · exact ownOut1_ok hk hmem hblk hden
  · split at hk
    · obtain ⟨h1, rfl, h2⟩ := hk
      obtain ⟨us, ⟨u, w, rfl, d1, v, w2, rfl, d2, rfl⟩, rfl⟩ := hden
      exact ⟨u, v, rfl, flat_den _ _ h1 d1, ownOut1_ok h2 hmem hblk d2⟩
    · exact hk.elim
  · exact hk.elim
theorem calls_fnO {f : FuncId} {fn : Func} {args : List SV} {vs : List Value} {ze : Nat → Nat → Value → Prop} {W : World} {out : SV} {t0 : TypeId} (h : How) (hm : C.P.follows .mixedOrders = true)
    (hf : C.P.funcs[f]? = some fn) (hB : bodyB h.fl fn = true) (hG : C.Grd W) (hz : ∀ b i c, ze b i c → W.cell? ⟨b, i, none⟩ = some c ∧ c.oneCell' = true ∧ plainB W b) (hargs : denL (onlyZ ze) args vs)
    (he : evFn Γ Fs d h fn args fun v H _ => resOutO out t0 H v) :
    Calls C.P f vs.toArray W fun e W' => ∃ val z', e = .returned val ∧ Gr W W' ∧ (∀ b i c, z' b i c → (ze b i c ∨ W.heap.size ≤ b) ∧ W'.cell? ⟨b, i, none⟩ = some c ∧ c.oneCell' = true ∧ plainB W' b) ∧ den (onlyZ z') out val ∧ (∀ b i c, z' b i c → W.heap.size ≤ b) ∧ OwnO z' W W' val t0 out := by
  unfold evFn at he
  split at he
  rotate_left
  · exact he.elim
  rename_i code hb hn
  have hB : codeB h.fl code = true := by unfold bodyB at hB; rw [hb] at hB; exact hB
  refine (calls_ev h (inlD_ok hm d) hm hf hb hn hB (onlyZ_hok hG hz) (fun n b h => by cases h) (fun e l h => by cases h) (fun m i l h => by cases h) hargs _ he).mono ?_
  rintro e W' ⟨v, val, H', nm', ρ', rfl, ⟨hk, hko⟩, hmem, hblk, hden⟩
  obtain ⟨val2, z', e1, h2, h3, h4, h5⟩ := fn_endF hk hmem hblk hden
  obtain rfl : val = val2 := by injection e1
  exact ⟨val, z', rfl, h2, h3, h4, h5, ownOut_ok hko hmem hblk hden⟩
/-- .. of whatever elements. -/
def ownOut2 (szo no : Nat) (fo : Nat → List SV) (t0 : TypeId) (H : Heap) (v : SV) : Prop := match v with
  | .e => no = 0
  | .v (.slice _ 0 0) => no = 0
  | .g m e sz off n => match off with
    | 0 => match look H m with
      | some (.lst e' sz' _ f t) => e = e' ∧ sz' = szo ∧ t = t0 ∧ no = n ∧ ∀ i, i < n → fo i = f i
      | _ => False
    | _ => False
  | _ => False
def resOutW (out : SV) (t0 : TypeId) (H : Heap) (v : SV) : Prop := resOut out H v ∧ match out with | .rs szo no fo => ownOut2 szo no fo t0 H v | _ => False
theorem ownOut2_ok {ze : Nat → Nat → Value → Prop} {W W' : World} {v : SV} {szo no : Nat} {fo : Nat → List SV} {t0 : TypeId} {val : Value} {H' : Heap} {nm' : Nat} {ρ' : Names} (hk : ownOut2 szo no fo t0 H' v) (hmem : Mem C W (onlyZ ze).noD nm' ρ' W') (hblk : ∀ n sb, look H' n = some sb → Cont ρ' W' n sb) (hden : den ρ' v val) : OwnL (zR ρ' W').z W W' val szo no fo t0 := by
  have hno2 : ∀ b, ¬ Mine (onlyZ ze).noD b := fun b ho => by
    rcases ho with ⟨n, ho⟩ | ho
    · rcases ho with ho | ⟨e, l, o, h1, -⟩ | ⟨i, l, o, h1, -⟩
      · cases ho
      · cases h1
      · cases h1
    · exact ho
  have hz0 : ∀ b i c, ρ'.z b i c → (zR ρ' W').z b i c := fun b i c h => ⟨(hmem.hb.zok b i c h).1, (hmem.hb.zok b i c h).2, .inl h⟩
  unfold ownOut2 at hk
  split at hk
  · obtain ⟨a, rfl⟩ := hden
    subst hk
    exact ⟨a, 0, fun _ _ _ => False, fun _ _ _ h => h.elim, rfl, Nat.le_refl _, fun h => absurd rfl h⟩
  · rename_i a
    obtain rfl : val = .slice a 0 0 := hden
    subst hk
    exact ⟨a, 0, fun _ _ _ => False, fun _ _ _ h => h.elim, rfl, Nat.le_refl _, fun h => absurd rfl h⟩
  · rename_i m e sz off n
    split at hk
    · split at hk
      · rename_i e' sz' N f t hl
        obtain ⟨rfl, rfl, rfl, rfl, hf⟩ := hk
        obtain ⟨l, h1, h2, h3, h4, h5⟩ := hblk _ _ hl
        obtain ⟨l', k1, k2, k3, k4, a', rfl, k6⟩ := hden
        obtain rfl : l = l' := by rw [h1] at k1; exact Option.some.inj k1
        refine ⟨a', l.cap, ρ'.z, hz0, by simp, by omega, fun hc => ?_⟩
        obtain ⟨b, u, q1, q2, q3, q4, q5, q6⟩ := h5 hc
        obtain ⟨b', p1, p2⟩ := k6 (by simpa using hc)
        obtain rfl : b = b' := by rw [q1] at p1; injection p1 with p1; injection p1
        refine ⟨b, u, by rw [p2]; simp, ?_, q2, q3, q4, q5, fun i hi => ?_⟩
        · rcases hmem.old m b (.inr (.inl ⟨e, l, 0, h1, h2, hc, q1⟩)) with h | h
          · exact absurd h (hno2 b)
          · exact h
        · obtain ⟨us, r1, r2, r3⟩ := q6 i (by omega)
          exact ⟨us, by rw [hf i hi]; exact r1, r2, r3⟩
      · exact hk.elim
    · exact hk.elim
  · exact hk.elim
theorem calls_fnW {f : FuncId} {fn : Func} {args : List SV} {vs : List Value} {ze : Nat → Nat → Value → Prop} {W : World} {out : SV} {t0 : TypeId} (h : How) (hm : C.P.follows .mixedOrders = true)
    (hf : C.P.funcs[f]? = some fn) (hB : bodyB h.fl fn = true) (hG : C.Grd W) (hz : ∀ b i c, ze b i c → W.cell? ⟨b, i, none⟩ = some c ∧ c.oneCell' = true ∧ plainB W b) (hargs : denL (onlyZ ze) args vs)
    (he : evFn Γ Fs d h fn args fun v H _ => resOutW out t0 H v) :
    Calls C.P f vs.toArray W fun e W' => ∃ val z', e = .returned val ∧ Gr W W' ∧ (∀ b i c, z' b i c → (ze b i c ∨ W.heap.size ≤ b) ∧ W'.cell? ⟨b, i, none⟩ = some c ∧ c.oneCell' = true ∧ plainB W' b) ∧ den (onlyZ z') out val ∧ OwnO z' W W' val t0 out := by
  unfold evFn at he
  split at he
  rotate_left
  · exact he.elim
  rename_i code hb hn
  have hB : codeB h.fl code = true := by unfold bodyB at hB; rw [hb] at hB; exact hB
  refine (calls_ev h (inlD_ok hm d) hm hf hb hn hB (onlyZ_hok hG hz) (fun n b h => by cases h) (fun e l h => by cases h) (fun m i l h => by cases h) hargs _ he).mono ?_
  rintro e W' ⟨v, val, H', nm', ρ', rfl, ⟨hk, hko⟩, hmem, hblk, hden⟩
  obtain ⟨h1, h2, h3⟩ := fn_endR hk hmem hblk hden
  refine ⟨val, (zR ρ' W').z, rfl, h1, h2, h3, ?_⟩
  split at hko
  · exact ownOut2_ok hko hmem hblk hden
  · exact hko.elim
/-- .. out of a walk. -/
def walkConW {α : Type} (f : FuncId) (en : ∀ (args : Array Value) (w : World), (callFunc f args).run C.P w = .ok (.enter f args) w) (R : Rds α) (pre : α → List Prop) (out : α → SV) (t0 : TypeId) (h : α → How) (fl : List Nat) (hfl : ∀ a, (h a).fl = fl) (hm : C.P.follows .mixedOrders = true) {fn : Func}
    (hf : C.P.funcs[f]? = some fn) (hB : bodyB fl fn = true) (he : ∀ a, conj (pre a) → evFn Γ Fs d (h a) fn (R.enc a) fun v H _ => resOutW (out a) t0 H v) : Con C where
  f := f
  en := en
  run := fun args => match alikeCL R.pats args with | some l => some (obO (l ++ pre (R.dec args)), out (R.dec args)) | none => none
  fresh := false
  own := some t0
  ok := by
    intro ze W args vs ob o hG hz hd hr ho
    split at hr
    · rename_i l hl
      obtain ⟨rfl, rfl⟩ := Prod.mk.inj (Option.some.inj hr)
      obtain ⟨c1, c2⟩ := conj_append (obO_ok ho)
      have hd' : denL (onlyZ ze) (R.enc (R.dec args)) vs := by
        rw [R.ok]
        exact jnL_false _ _ _ (alikeCL_ok _ _ l hl c1) hd
      exact (calls_fnW (h (R.dec args)) hm hf (by rw [hfl]; exact hB) hG hz hd' (he (R.dec args) c2)).mono fun e W' ⟨val, z', h1, h2, h3, h4, h5⟩ => ⟨val, z', h1, h2, h3, h4, (fun c => by cases c), fun t c => by cases c; exact h5⟩
    · cases hr
/-- .. whose result is a list that nobody else has. -/
def mkConO {α : Type} (f : FuncId) (en : ∀ (args : Array Value) (w : World), (callFunc f args).run C.P w = .ok (.enter f args) w) (R : Rds α) (pre : α → List Prop) (out : α → SV) (t0 : TypeId)
    (h : ∀ (a : α) (ze : Nat → Nat → Value → Prop) (W : World) (vs : List Value), conj (pre a) → C.Grd W → (∀ b i c, ze b i c → W.cell? ⟨b, i, none⟩ = some c ∧ c.oneCell' = true ∧ plainB W b) → denL (onlyZ ze) (R.enc a) vs →
      Calls C.P f vs.toArray W fun e W' => ∃ val z', e = .returned val ∧ Gr W W' ∧ (∀ b i c, z' b i c → (ze b i c ∨ W.heap.size ≤ b) ∧ W'.cell? ⟨b, i, none⟩ = some c ∧ c.oneCell' = true ∧ plainB W' b) ∧ den (onlyZ z') (out a) val ∧ (∀ b i c, z' b i c → W.heap.size ≤ b) ∧ OwnO z' W W' val t0 (out a)) : Con C where
  f := f
  en := en
  run := fun args => match alikeCL R.pats args with | some l => some (obO (l ++ pre (R.dec args)), out (R.dec args)) | none => none
  fresh := true
  own := some t0
  ok := by
    intro ze W args vs ob o hG hz hd hr ho
    split at hr
    · rename_i l hl
      obtain ⟨rfl, rfl⟩ := Prod.mk.inj (Option.some.inj hr)
      obtain ⟨c1, c2⟩ := conj_append (obO_ok ho)
      refine (h (R.dec args) ze W vs c2 hG hz ?_).mono (fun e W' ⟨val, z', h1, h2, h3, h4, h5, h6⟩ => ⟨val, z', h1, h2, h3, h4, (fun _ => h5), fun t c => by cases c; exact h6⟩)
      rw [R.ok]
      exact jnL_false _ _ _ (alikeCL_ok _ _ l hl c1) hd
    · cases hr
/-- .. out of a walk. -/
def walkConO {α : Type} (f : FuncId) (en : ∀ (args : Array Value) (w : World), (callFunc f args).run C.P w = .ok (.enter f args) w) (R : Rds α) (pre : α → List Prop) (out : α → SV) (t0 : TypeId) (h : α → How) (fl : List Nat) (hfl : ∀ a, (h a).fl = fl) (hm : C.P.follows .mixedOrders = true) {fn : Func}
    (hf : C.P.funcs[f]? = some fn) (hB : bodyB fl fn = true) (he : ∀ a, conj (pre a) → evFn Γ Fs d (h a) fn (R.enc a) fun v H _ => resOutO (out a) t0 H v) : Con C :=
  mkConO f en R pre out t0 fun a ze W vs hp hG hz hd => calls_fnO (h a) hm hf (by rw [hfl]; exact hB) hG hz hd (he a hp)
end
end Go.Proofs.YtcojfohjdibjjaaGreatDoor
