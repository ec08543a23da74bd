/- A symbolic executor with lists, 21: from a walk to a row. -/
import Derived.Test.YtcojfohjdibjjaaGreatDoorG19
import Derived.Test.YtcojfohjdibjjaaGreatDoorL0
import Derived.LaidHandle
import Derived.LaidSub
namespace Go.Proofs.YtcojfohjdibjjaaGreatDoor
open Go.ChangeShapes Go.WideShapes Go.ChangeAt Go.RowKit

section
variable {PP : Program} {C : Cx PP} {H : Type} {enc : TypeId × Value → H} {W : World} {sp : Nat → Bool} {held : Bool}
theorem args_fit : ∀ {ts : List TypeId} {pts : List Pt} {vs : List Value} {ds : List (DataW H)} {ps : List MemPlace} {r : Reach} {b0 : Nat}, argPs C.T ts = some pts → (∀ (j : Nat) t v, ts[j]? = some t → vs[j]? = some v → Value.okWide C.P W r b0 t v) →
    DataW.TrodAll enc C.P W 0 sp held ts vs ds ps → ∃ xs, FitL pts xs ∧ denL (zW W) xs vs
  | [], pts, vs, ds, ps, r, b0, h, hv, ht => by
    obtain rfl := Option.some.inj h
    obtain ⟨rfl, -, -⟩ := trodAll_nil ht
    exact ⟨[], trivial, rfl⟩
  | t :: ts, pts, vs, ds, ps, r, b0, h, hv, ht => by
    simp only [argPs] at h
    split at h
    · rename_i p q hp hq
      obtain rfl := Option.some.inj h
      obtain ⟨v, vs', d, ds', p', q', rfl, rfl, -, h1, h2⟩ := trodAll_cons ht
      obtain ⟨x, k1, k2⟩ := arg_fit hp (hv 0 t v rfl rfl) h1
      obtain ⟨xs, k3, k4⟩ := args_fit hq (fun j t v h1 h2 => hv (j + 1) t v h1 h2) h2
      exact ⟨x :: xs, ⟨k1, k3⟩, denL_cons_of k2 k4⟩
    · cases h

theorem trodAll_len : ∀ {ts : List TypeId} {vs : List Value} {ds : List (DataW H)} {ps : List MemPlace}, DataW.TrodAll enc C.P W 0 sp held ts vs ds ps → ds.length = ts.length
  | [], vs, ds, ps, h => by obtain ⟨-, rfl, -⟩ := trodAll_nil h; rfl
  | t :: ts, vs, ds, ps, h => by
    obtain ⟨v, vs', d, ds', p', q', rfl, rfl, -, h1, h2⟩ := trodAll_cons h
    simp [trodAll_len h2]

/-- A law out of its walk: it returns true, and nothing that was there has changed. -/
theorem law_calls {Γ : List (Con C)} {Fs : List (FnI C)} {d : Nat} {f : FuncId} {fn : Func} {α : Type} {pts : List Pt} {vs : List Value} (R : Rds α) (h : How) (hm : C.P.follows .mixedOrders = true)
    (hf : C.P.funcs[f]? = some fn) (hB : bodyB h.fl fn = true) (hG : C.Grd W) (hp : R.pats = Pt.pats pts) (hx : ∃ xs, FitL pts xs ∧ denL (zW W) xs vs)
    (he : ∀ a : α, FitL pts (R.enc a) → evFn Γ Fs d h fn (R.enc a) fun v H _ => resOut (.bl true) H v) :
    Calls C.P f vs.toArray W fun e W' => e = .returned (.bool true) ∧ Gr W W' := by
  obtain ⟨xs, k1, k2⟩ := hx
  have hd : denL (zW W) (R.enc (R.dec xs)) vs := by
    rw [R.ok, hp]
    exact jnL_false _ _ _ (fitL_alike _ _ k1) k2
  have hfit : FitL pts (R.enc (R.dec xs)) := by
    rw [R.ok, hp]
    exact fitL_jn _ _ k1
  refine (calls_fn h hm hf hB hG (fun b i c h => h) hd (he _ hfit)).mono ?_
  rintro e W' ⟨val, z', rfl, hg, -, hv⟩
  obtain rfl : val = .bool true := hv
  exact ⟨rfl, hg⟩

/-- A package variable that is a row of numbers. -/
theorem laid_ints {P : Program} {W : World} {n : String} {g t e m : Nat} {k : IntKind} {vals : List Int} {l : List (String × DataW Unit)} (h : laidMetH P l W) (hl : l = [(n, .agg (vals.map fun v => .lit (.int k v)))]) (hg : P.globalNamed n = some g) (ht : (P.globals[g]?).map (·.type) = some t) (hu : P.underlying t = some (.array m e)) (he : P.underlying e = some (.int k)) (hc : P.cellsOf e = 1) :
    ∀ (i : Nat) (v : Value), (vals.map fun x => Value.int k x)[i]? = some v → W.cell? ⟨g, i, none⟩ = some v := by
  subst hl
  obtain ⟨ps, hV, -⟩ := (laidMetH_iff.1 h).1
  have hfil : ([(n, DataW.agg (vals.map fun v => .lit (.int k v)))] : List (String × DataW Unit)).filter (fun x => x.2.handleName?.isNone) = [(n, .agg (vals.map fun v => .lit (.int k v)))] := rfl
  rw [hfil] at hV
  obtain ⟨g', t', cs, fuel, p, q, e1, e2, e3, e4, -, -⟩ := hV
  rw [hg] at e1
  obtain rfl := Option.some.inj e1
  rw [ht] at e2
  obtain rfl := Option.some.inj e2
  obtain ⟨xs, m', -, hx, hlen, hxl, hel⟩ := DataW.trod_array hu e4
  intro i v hv
  rw [World.var?_cell hg e3 i]
  have hlv : vals.length = m := by
    have := congrArg (fun d : DataW Unit × List MemPlace => match d.1 with | .agg l => l.length | _ => 0) hx
    simpa [hxl] using this
  have hi : i < m := by
    have := (List.getElem?_eq_some_iff.1 hv).1
    simpa [hlv] using this
  have h1 := hel i hi
  rw [hc, Nat.mul_one] at h1
  have hil : i < xs.length := by omega
  rw [List.getElem?_eq_getElem hil] at h1
  obtain ⟨n0, c1, c2, -⟩ := DataW.trod_int he h1
  have h2 : (xs[i]).1 = .lit (.int k n0) := by rw [c2]
  have h3 : (xs.map (·.1)) = vals.map fun v => (DataW.lit (.int k v) : DataW Unit) := by
    have := congrArg Prod.fst hx
    simp only [DataW.agg.injEq] at this
    exact this.symm
  have h4 : (xs.map (·.1))[i]? = some (.lit (.int k n0)) := by rw [List.getElem?_map, List.getElem?_eq_getElem hil, Option.map_some, h2]
  rw [h3, List.getElem?_map] at h4
  rw [List.getElem?_map] at hv
  cases hvi : vals[i]? with
  | none => rw [hvi] at hv; cases hv
  | some n1 =>
    rw [hvi] at hv h4
    simp only [Option.map_some, Option.some.injEq, DataW.lit.injEq, Lit.int.injEq, true_and] at h4 hv
    subst h4
    rw [← hv]
    have h5 : cs.toList[i]? = some (.int k n1) := by
      have := congrArg (fun l => l[0]?) c1
      simpa [List.getElem?_take, List.getElem?_drop] using this
    simpa using h5
end
end Go.Proofs.YtcojfohjdibjjaaGreatDoor
