/- A symbolic executor with lists, 20: a law's arguments, opened. -/
import Derived.Test.YtcojfohjdibjjaaGreatDoorG18
import Derived.ProofKit
import Derived.OpenShut
import Derived.Deep.Slices
namespace Go.Proofs.YtcojfohjdibjjaaGreatDoor
open Go.ChangeShapes Go.WideShapes Go.RowKit

/-- The form of a cell, of an argument. -/
inductive Pt where
  | int (k : IntKind)
  | bool
  | sl (sz : Nat) (e : List Pt)
  | agg (l : List Pt)
mutual
/-- A value has a form, and its numbers are within their kinds. -/
def Fit : Pt → SV → Prop
  | .int k, x => match x with | .v (.int k' n) => k' = k ∧ k.min ≤ n ∧ n ≤ k.max | _ => False
  | .bool, x => match x with | .v (.bool _) => True | _ => False
  | .sl sz ps, x => match x with | .rs sz' n f => sz' = sz ∧ n ≤ maxLen ∧ ∀ i, i < n → FitL ps (f i) | _ => False
  | .agg ps, x => match x with | .agg l => FitL ps l | _ => False
def FitL : List Pt → List SV → Prop
  | [], x => match x with | [] => True | _ :: _ => False
  | p :: r, x => match x with | [] => False | y :: s => Fit p y ∧ FitL r s
end
mutual
def Pt.pat : Pt → SV
  | .int k => .v (.int k 0)
  | .bool => .v (.bool false)
  | .sl sz ps => .rs sz 0 fun _ => Pt.pats ps
  | .agg ps => .agg (Pt.pats ps)
def Pt.pats : List Pt → List SV
  | [] => []
  | p :: r => p.pat :: Pt.pats r
end
mutual
theorem fit_alike : ∀ (p : Pt) (x : SV), Fit p x → alike p.pat x
  | .int k, x, h => by
    unfold Fit at h
    split at h
    · exact h.1
    · exact h.elim
  | .bool, x, h => by
    unfold Fit at h
    split at h
    · exact trivial
    · exact h.elim
  | .sl sz ps, x, h => by
    unfold Fit at h
    split at h
    · exact ⟨h.1, fun i hi => fitL_alike ps _ (h.2.2 i hi)⟩
    · exact h.elim
  | .agg ps, x, h => by
    unfold Fit at h
    split at h
    · exact fitL_alike ps _ h
    · exact h.elim
theorem fitL_alike : ∀ (p : List Pt) (x : List SV), FitL p x → alikeL (Pt.pats p) x
  | [], x, h => by
    cases x with
    | nil => trivial
    | cons _ _ => exact h.elim
  | p :: r, x, h => by
    cases x with
    | nil => exact h.elim
    | cons y s => exact ⟨fit_alike p y h.1, fitL_alike r s h.2⟩
end
mutual
theorem fit_jn : ∀ (p : Pt) (x : SV), Fit p x → Fit p (jn false p.pat x)
  | .int k, x, h => by
    unfold Fit at h
    split at h
    · exact ⟨rfl, h.2⟩
    · exact h.elim
  | .bool, x, h => by
    unfold Fit at h
    split at h
    · exact trivial
    · exact h.elim
  | .sl sz ps, x, h => by
    unfold Fit at h
    split at h
    · exact ⟨rfl, h.2.1, fun i hi => fitL_jn ps _ (h.2.2 i hi)⟩
    · exact h.elim
  | .agg ps, x, h => by
    unfold Fit at h
    split at h
    · exact fitL_jn ps _ h
    · exact h.elim
theorem fitL_jn : ∀ (p : List Pt) (x : List SV), FitL p x → FitL p (jnL false (Pt.pats p) x)
  | [], x, h => trivial
  | p :: r, x, h => by
    cases x with
    | nil => exact h.elim
    | cons y s => exact ⟨fit_jn p y h.1, fitL_jn r s h.2⟩
end
theorem fit_one {ρ : Names} {p : Pt} {x : SV} {v : Value} (h : Fit p x) (hp : ∀ l, p ≠ .agg l) (hd : den ρ x v) : v.oneCell' = true := by
  cases p with
  | int k =>
    unfold Fit at h
    split at h
    · obtain rfl : v = _ := hd; rfl
    · exact h.elim
  | bool =>
    unfold Fit at h
    split at h
    · obtain rfl : v = _ := hd; rfl
    · exact h.elim
  | sl sz ps =>
    unfold Fit at h
    split at h
    · obtain ⟨a, cap, rfl, -⟩ := hd; rfl
    · exact h.elim
  | agg l => exact absurd rfl (hp l)
def flatPt : Pt → Bool
  | .agg _ => false
  | _ => true
theorem fitL_one {ρ : Names} : ∀ {p : List Pt} {x : List SV} {vs : List Value}, FitL p x → p.all flatPt = true → denL ρ x vs → ∀ c ∈ vs, c.oneCell' = true
  | [], x, vs, h, _, hd, c, hc => by
    cases x with
    | nil => rw [denL_nil hd] at hc; cases hc
    | cons _ _ => exact h.elim
  | p :: r, x, vs, h, hp, hd, c, hc => by
    cases x with
    | nil => exact h.elim
    | cons y s =>
      obtain ⟨a, b, rfl, h1, h2⟩ := denL_cons hd
      rw [List.all_cons, Bool.and_eq_true] at hp
      rcases List.mem_cons.1 hc with rfl | hc
      · exact fit_one h.1 (fun l e => by rw [e] at hp; exact absurd hp.1 (by simp [flatPt])) h1
      · exact fitL_one h.2 hp.2 h2 c hc
theorem fitL_append {p q : List Pt} {x y : List SV} (h : FitL p x) (k : FitL q y) : FitL (p ++ q) (x ++ y) := by
  induction p generalizing x with
  | nil =>
    cases x with
    | nil => exact k
    | cons _ _ => exact h.elim
  | cons a r ih =>
    cases x with
    | nil => exact h.elim
    | cons b s => exact ⟨h.1, ih h.2⟩
theorem fitL_length {p : List Pt} {x : List SV} (h : FitL p x) : x.length = p.length := by
  induction p generalizing x with
  | nil =>
    cases x with
    | nil => rfl
    | cons _ _ => exact h.elim
  | cons a r ih =>
    cases x with
    | nil => exact h.elim
    | cons b s => simp [ih h.2]

/-! ### The form of a type -/
def flatFs (rec : Nat → Option (List Pt)) (T : List (Nat × TI)) (total : Nat) : Nat → List (Nat × Nat) → Option (List Pt)
  | off, [] => match Nat.beq off total with | true => some [] | false => none
  | off, (o, t) :: r => match Nat.beq o off, rec t, look T t with
    | true, some ps, some ti => match Nat.beq ps.length ti.sz, flatFs rec T total (off + ti.sz) r with
      | true, some qs => some (ps ++ qs)
      | _, _ => none
    | _, _, _ => none
def repP : Nat → List Pt → List Pt
  | 0, _ => []
  | n + 1, l => l ++ repP n l
/-- A type's cells. -/
def flatP (T : List (Nat × TI)) : Nat → Nat → Option (List Pt)
  | 0, _ => none
  | d + 1, t => match look T t with
    | none => none
    | some ti => match ti.k with
      | .int k => some [.int k]
      | .bool => some [.bool]
      | .sl _ => none
      | .struct fs => flatFs (flatP T d) T ti.sz 0 fs
      | .arr n e => match flatP T d e, look T e with
        | some ps, some ei => match Nat.beq ps.length ei.sz, Nat.beq (n * ei.sz) ti.sz with
          | true, true => some (repP n ps)
          | _, _ => none
        | _, _ => none
      | .prim => none
      | .mp _ _ => none
      | .ptr _ => none
def aggT (T : List (Nat × TI)) (t : Nat) : Bool := match look T t with | some ti => aggK ti.k | none => false
/-- An argument's form. -/
def argP (T : List (Nat × TI)) (t : Nat) : Option Pt := match flatP T 10 t with
  | none => none
  | some ps => match aggT T t with
    | true => some (.agg ps)
    | false => match ps with | [p] => some p | _ => none
def argPs (T : List (Nat × TI)) : List Nat → Option (List Pt)
  | [] => some []
  | t :: r => match argP T t, argPs T r with | some p, some q => some (p :: q) | _, _ => none

section
variable {PP : Program} {C : Cx PP} {H : Type} {enc : TypeId × Value → H} {W : World} {sp : Nat → Bool} {held : Bool}
theorem size_ti {t : Nat} {ti : TI} (h : look C.T t = some ti) : C.P.cellsOf t = ti.sz := by
  obtain ⟨i, d, z, h1, h2, h3, -⟩ := (C.ty h).ex
  simp [Program.cellsOf, h1, h3]
theorem kind_desc {t : Nat} {ti : TI} (h : look C.T t = some ti) : ∃ d, C.P.underlying t = some d ∧ kindEq d ti.k = true := by
  obtain ⟨i, d, z, h1, h2, h3, h4, h5, h6, -⟩ := (C.ty h).ex
  exact ⟨d, h2, h6⟩
theorem desc_int {d : TypeDesc} {k : IntKind} (h : kindEq d (.int k) = true) : d = .int k := by
  cases d with
  | int k' => obtain rfl : k' = k := of_decide_eq_true h; rfl
  | _ => first | cases h | (simp [kindEq] at h)
theorem desc_bool {d : TypeDesc} (h : kindEq d .bool = true) : d = .bool := by
  cases d with
  | bool => rfl
  | _ => first | cases h | (simp [kindEq] at h)
theorem desc_sl {d : TypeDesc} {e : Nat} (h : kindEq d (.sl e) = true) : d = .slice e := by
  cases d with
  | slice e' => obtain rfl : e' = e := eq_of_beq h; rfl
  | _ => first | cases h | (simp [kindEq] at h)
theorem desc_struct {d : TypeDesc} {l : List (Nat × Nat)} (h : kindEq d (.struct l) = true) : ∃ fs, d = .struct fs ∧ (fs.toList.map fun f => (f.offset, f.type)) = l := by
  cases d with
  | struct fs => exact ⟨fs, rfl, eq_of_beq h⟩
  | _ => first | cases h | (simp [kindEq] at h)
theorem desc_arr {d : TypeDesc} {n e : Nat} (h : kindEq d (.arr n e) = true) : d = .array n e := by
  cases d with
  | array n' e' =>
    simp only [kindEq, Bool.and_eq_true, beq_iff_eq] at h
    rw [h.1, h.2]
  | _ => first | cases h | (simp [kindEq] at h)

theorem fs_fit {rec : Nat → Option (List Pt)} {m total : Nat} (hrec : ∀ t ps, rec t = some ps → ∀ cs (x : DataW H × List MemPlace), DataW.trod enc C.P W 0 sp held m t cs = some x → ∃ l, FitL ps l ∧ denL (zW W) l cs) {cs : List Value} (hcs : cs.length = total) :
    ∀ (fs : List Field) (off : Nat) (ps : List Pt), flatFs rec C.T total off (fs.map fun f => (f.offset, f.type)) = some ps → (∀ f ∈ fs, ∃ x : DataW H × List MemPlace, DataW.trod enc C.P W 0 sp held m f.type ((cs.drop f.offset).take (C.P.cellsOf f.type)) = some x) →
      ∃ l, FitL ps l ∧ denL (zW W) l (cs.drop off)
  | [], off, ps, h, _ => by
    simp only [List.map_nil, flatFs] at h
    split at h
    · rename_i hb
      obtain rfl := Option.some.inj h
      have := Nat.eq_of_beq_eq_true hb
      exact ⟨[], trivial, by rw [List.drop_of_length_le (by omega)]; rfl⟩
    · cases h
  | f :: r, off, ps, h, hf => by
    simp only [List.map_cons, flatFs] at h
    split at h
    · rename_i p ti hb hp hti
      split at h
      · rename_i q hb2 hq
        obtain rfl := Option.some.inj h
        obtain rfl := Nat.eq_of_beq_eq_true hb
        have hpl := Nat.eq_of_beq_eq_true hb2
        obtain ⟨x, hx⟩ := hf f List.mem_cons_self
        rw [size_ti hti] at hx
        obtain ⟨l1, k1, k2⟩ := hrec _ _ hp _ _ hx
        obtain ⟨l2, k3, k4⟩ := fs_fit hrec hcs r _ _ hq fun g hg => hf g (List.mem_cons_of_mem _ hg)
        refine ⟨l1 ++ l2, fitL_append k1 k3, ?_⟩
        have e : cs.drop f.offset = (cs.drop f.offset).take ti.sz ++ cs.drop (f.offset + ti.sz) := by
          rw [← List.drop_drop, List.take_append_drop]
        rw [e]
        exact denL_append k2 k4
      · cases h
    · cases h
theorem arr_fit {ps : List Pt} {sz : Nat} {cs : List Value} {f : Nat → List Value} : ∀ (n i : Nat), (∀ j, j < n → ∃ l, FitL ps l ∧ denL (zW W) l ((cs.drop ((i + j) * sz)).take sz)) → cs.length = (i + n) * sz → ∃ l, FitL (repP n ps) l ∧ denL (zW W) l (cs.drop (i * sz))
  | 0, i, _, hl => ⟨[], trivial, by rw [List.drop_of_length_le (by rw [hl]; simp)]; rfl⟩
  | n + 1, i, h, hl => by
    obtain ⟨l1, k1, k2⟩ := h 0 (by omega)
    obtain ⟨l2, k3, k4⟩ := arr_fit (f := f) n (i + 1) (fun j hj => by have := h (j + 1) (by omega); rwa [show i + (j + 1) = i + 1 + j by omega] at this) (by rw [hl]; congr 1; omega)
    refine ⟨l1 ++ l2, fitL_append k1 k3, ?_⟩
    have e : cs.drop (i * sz) = (cs.drop (i * sz)).take sz ++ cs.drop ((i + 1) * sz) := by
      rw [Nat.succ_mul, ← List.drop_drop, List.take_append_drop]
    rw [e]
    exact denL_append k2 k4
theorem trod_fit : ∀ (d t : Nat) (ps : List Pt), flatP C.T d t = some ps → ∀ (fuel : Nat) (cs : List Value) (x : DataW H × List MemPlace), DataW.trod enc C.P W 0 sp held fuel t cs = some x → ∃ l, FitL ps l ∧ denL (zW W) l cs
  | 0, t, ps, h, _, _, _, _ => by cases h
  | d + 1, t, ps, h, fuel, cs, x, hx => by
    simp only [flatP] at h
    split at h
    · cases h
    rename_i ti hti
    obtain ⟨dd, hu, hk⟩ := kind_desc hti
    split at h
    · rename_i k hki
      rw [hki] at hk
      obtain rfl := desc_int hk
      obtain rfl := Option.some.inj h
      obtain ⟨n, rfl, -, hw⟩ := DataW.trod_int hu hx
      simp only [Lit.wf, Bool.and_eq_true, decide_eq_true_eq] at hw
      exact ⟨[.v (.int k n)], ⟨⟨rfl, hw⟩, trivial⟩, denL_cons_of rfl rfl⟩
    · rename_i hki
      rw [hki] at hk
      obtain rfl := desc_bool hk
      obtain rfl := Option.some.inj h
      obtain ⟨b, rfl, -⟩ := DataW.trod_bool hu hx
      exact ⟨[.v (.bool b)], ⟨trivial, trivial⟩, denL_cons_of rfl rfl⟩
    · rename_i e hki
      rw [hki] at hk
      cases h
    · rename_i fs hki
      rw [hki] at hk
      obtain ⟨fa, rfl, hfa⟩ := desc_struct hk
      obtain ⟨xs, m, rfl, -, hlen, hxl, hg⟩ := DataW.trod_struct hu hx
      rw [size_ti hti] at hlen
      rw [← hfa] at h
      obtain ⟨l, k1, k2⟩ := fs_fit (fun t ps hp cs x hx => trod_fit d t ps hp m cs x hx) hlen fa.toList 0 ps h fun f hf => by
        obtain ⟨i, hi, he⟩ := List.mem_iff_getElem.1 hf
        have hi' : i < fa.size := by simpa using hi
        have h1 := hg i f (by rw [Array.getElem?_eq_getElem hi']; simpa using congrArg some he)
        exact ⟨xs[i]'(by omega), by rw [h1, List.getElem?_eq_getElem]⟩
      exact ⟨l, k1, k2⟩
    · rename_i n e hki
      rw [hki] at hk
      obtain rfl := desc_arr hk
      split at h
      · rename_i ps' ei hps hei
        split at h
        · rename_i hb1 hb2
          obtain rfl := Option.some.inj h
          have hb2 := Nat.eq_of_beq_eq_true hb2
          obtain ⟨xs, m, rfl, -, hlen, hxl, hg⟩ := DataW.trod_array hu hx
          rw [size_ti hti, ← hb2] at hlen
          rw [size_ti hei] at hg
          obtain ⟨l, k1, k2⟩ := arr_fit (f := fun _ => []) (ps := ps') (sz := ei.sz) (cs := cs) (W := W) n 0 (fun j hj => by
            have := hg j hj
            rw [Nat.zero_add]
            rw [List.getElem?_eq_getElem (by omega)] at this
            exact trod_fit d e ps' hps m _ _ this) (by rw [Nat.zero_add]; exact hlen)
          exact ⟨l, k1, by simpa using k2⟩
        · cases h
      · cases h
    · cases h
    · cases h
    · cases h
theorem arg_fit {t : Nat} {p : Pt} (h : argP C.T t = some p) {v : Value} {d : DataW H} {ps : List MemPlace} {r : Reach} {b0 : Nat} (hv : Value.okWide C.P W r b0 t v) (ht : DataW.Trod enc C.P W 0 sp held t v d ps) : ∃ x, Fit p x ∧ den (zW W) x v := by
  unfold argP at h
  split at h
  · cases h
  rename_i l hl
  obtain ⟨fuel, hf⟩ := ht
  obtain ⟨y, h1, h2⟩ := trod_fit 10 t l hl _ _ _ hf
  split at h
  · rename_i hag
    obtain rfl := Option.some.inj h
    unfold aggT at hag
    split at hag
    · rename_i ti hti
      obtain ⟨dd, hu, hk⟩ := kind_desc hti
      have : ∃ cs, v = .agg cs := by
        cases htk : ti.k with
        | struct fs =>
          rw [htk] at hk
          obtain ⟨fa, rfl, -⟩ := desc_struct hk
          simp only [Value.okWide, hu] at hv
          exact ⟨_, hv.choose_spec.1⟩
        | arr n e =>
          rw [htk] at hk
          obtain rfl := desc_arr hk
          simp only [Value.okWide, hu] at hv
          exact ⟨_, hv.choose_spec.1⟩
        | _ => rw [htk] at hag; cases hag
      obtain ⟨cs, rfl⟩ := this
      exact ⟨.agg y, h1, cs.toList, by simpa [Value.cells] using h2, by simp⟩
    · cases hag
  · rename_i hag
    split at h
    · rename_i p'
      obtain rfl := Option.some.inj h
      match y, h1 with
      | [x], h1 =>
        obtain ⟨a, b, e1, e2, e3⟩ := denL_cons h2
        obtain rfl := denL_nil e3
        have hv1 : ∀ cs, v ≠ .agg cs := by
          intro cs hc
          subst hc
          have hfl : ∀ (d : Nat), flatP C.T d t = some [p'] → False := by
            intro d hd
            cases d with
            | zero => cases hd
            | succ d =>
              simp only [flatP] at hd
              split at hd
              · cases hd
              · rename_i ti hti
                obtain ⟨dd, hu, hk⟩ := kind_desc hti
                have hag' : aggK ti.k = false := by
                  unfold aggT at hag
                  rw [hti] at hag
                  exact hag
                cases htk : ti.k with
                | int k => rw [htk] at hk; obtain rfl := desc_int hk; simp [Value.okWide, hu, Cell.okWide, Cell.ok] at hv
                | bool => rw [htk] at hk; obtain rfl := desc_bool hk; simp [Value.okWide, hu, Cell.okWide, Cell.ok] at hv
                | sl e => rw [htk] at hk; obtain rfl := desc_sl hk; simp [Value.okWide, hu, Cell.okWide, Cell.ok] at hv
                | prim => rw [htk] at hd; cases hd
                | mp _ _ => rw [htk] at hd; cases hd
                | ptr => rw [htk] at hd; cases hd
                | struct fs => rw [htk] at hag'; cases hag'
                | arr n e => rw [htk] at hag'; cases hag'
          exact hfl 10 hl
        refine ⟨x, h1.1, ?_⟩
        have : v.cells.toList = [v] := by
          cases v <;> first | rfl | exact absurd rfl (hv1 _) | skip
          all_goals simp [Value.cells]
        rw [this] at e1
        obtain rfl : v = a := by injection e1
        exact e2
    · cases h
end
end Go.Proofs.YtcojfohjdibjjaaGreatDoor
