/- A symbolic executor with lists, 22: package variables as they are laid: arrays and structures of numbers. -/
import Derived.Test.YtcojfohjdibjjaaGreatDoorG20
namespace Go.Proofs.YtcojfohjdibjjaaGreatDoor
open Go.ChangeShapes Go.WideShapes Go.ChangeAt Go.RowKit

def flatVs (rec : DataW Unit → Option (List Value)) : List (DataW Unit) → Option (List Value)
  | [] => some []
  | d :: r => match rec d, flatVs rec r with | some a, some b => some (a ++ b) | _, _ => none
def flatVF (rec : Nat → DataW Unit → Option (List Value)) (T : List (Nat × TI)) (total : Nat) : Nat → List (Nat × Nat) → List (DataW Unit) → Option (List Value)
  | off, [], l => match l, Nat.beq off total with | [], true => some [] | _, _ => none
  | off, (o, t) :: r, l => match l with
    | [] => none
    | d :: ds => match Nat.beq o off, rec t d, look T t with
      | true, some a, some ti => match flatVF rec T total (off + ti.sz) r ds with | some b => some (a ++ b) | none => none
      | _, _, _ => none
/-- A datum's cells. -/
def flatV (T : List (Nat × TI)) : Nat → Nat → DataW Unit → Option (List Value)
  | 0, _, _ => none
  | D + 1, t, d => match look T t with
    | none => none
    | some ti => match ti.k, d with
      | .int _, .lit (.int k n) => some [.int k n]
      | .arr n e, .agg l => match look T e with
        | some ei => match Nat.beq (n * ei.sz) ti.sz with | true => flatVs (flatV T D e) l | false => none
        | none => none
      | .struct fs, .agg l => flatVF (flatV T D) T ti.sz 0 fs l
      | _, _ => none
section
variable {PP : Program} {C : Cx PP} {W : World} {sp : Nat → Bool} {held : Bool}
theorem flat_arr {rec : DataW Unit → Option (List Value)} {sz : Nat} {cs : List Value} : ∀ {l : List (DataW Unit)} {vs : List Value} {i : Nat}, flatVs rec l = some vs → (∀ j d, l[j]? = some d → ∀ a, rec d = some a → (cs.drop ((i + j) * sz)).take sz = a) → cs.length = (i + l.length) * sz → cs.drop (i * sz) = vs
  | [], vs, i, h, _, hl => by
    obtain rfl := Option.some.inj h
    rw [List.drop_of_length_le (by rw [hl]; simp)]
  | d :: r, vs, i, h, hk, hl => by
    simp only [flatVs] at h
    split at h
    · rename_i a b ha hb
      obtain rfl := Option.some.inj h
      have h1 := hk 0 d rfl a ha
      rw [Nat.add_zero] at h1
      have h2 := flat_arr (i := i + 1) hb (fun j d' hj a' ha' => by
        have := hk (j + 1) d' hj a' ha'
        rwa [show i + (j + 1) = i + 1 + j by omega] at this) (by rw [hl]; simp only [List.length_cons]; congr 1; omega)
      rw [← h1, ← h2, Nat.succ_mul, ← List.drop_drop, List.take_append_drop]
    · cases h
theorem flat_fs {rec : Nat → DataW Unit → Option (List Value)} {total : Nat} {cs : List Value} (hcs : cs.length = total) : ∀ {fs : List (Nat × Nat)} {l : List (DataW Unit)} {vs : List Value} {off : Nat}, flatVF rec C.T total off fs l = some vs →
    (∀ (j : Nat) (f : Nat × Nat) (d : DataW Unit), fs[j]? = some f → l[j]? = some d → ∀ a, rec f.2 d = some a → (cs.drop f.1).take (C.P.cellsOf f.2) = a) → cs.drop off = vs
  | [], l, vs, off, h, hk => by
    simp only [flatVF] at h
    split at h
    · rename_i hb
      obtain rfl := Option.some.inj h
      have := Nat.eq_of_beq_eq_true hb
      rw [List.drop_of_length_le (by omega)]
    · cases h
  | (o, t) :: r, l, vs, off, h, hk => by
    simp only [flatVF] at h
    split at h
    · cases h
    · rename_i d ds
      split at h
      · rename_i a ti hb ha hti
        split at h
        · rename_i b hrec
          obtain rfl := Option.some.inj h
          obtain rfl := Nat.eq_of_beq_eq_true hb
          have h1 := hk 0 (o, t) d rfl rfl a ha
          rw [size_ti hti] at h1
          have h2 := flat_fs hcs (off := o + ti.sz) hrec (fun j f d' hf hd => hk (j + 1) f d' hf hd)
          rw [← h1, ← h2, ← List.drop_drop, List.take_append_drop]
        · cases h
      · cases h
theorem trod_flat : ∀ (D t : Nat) (d : DataW Unit) (vs : List Value), flatV C.T D t d = some vs → ∀ (fuel : Nat) (cs : List Value) (p : List MemPlace), DataW.trod (fun _ => ()) C.P W 0 sp held fuel t cs = some (d, p) → cs = vs
  | 0, t, d, vs, h, _, _, _, _ => by cases h
  | D + 1, t, d, vs, h, fuel, cs, p, hx => by
    simp only [flatV] at h
    split at h
    · cases h
    rename_i ti hti
    obtain ⟨dd, hu, hk⟩ := kind_desc hti
    split at h
    · rename_i k0 k n hki
      rw [hki] at hk
      obtain rfl := desc_int hk
      obtain rfl := Option.some.inj h
      obtain ⟨m, c1, c2, -⟩ := DataW.trod_int hu hx
      have e := congrArg Prod.fst c2
      simp only [DataW.lit.injEq, Lit.int.injEq] at e
      obtain ⟨rfl, rfl⟩ := e
      exact c1
    · rename_i n e l hki
      rw [hki] at hk
      obtain rfl := desc_arr hk
      obtain ⟨xs, m, -, hxe, hlen, hxl, hel⟩ := DataW.trod_array hu hx
      have e1 := congrArg Prod.fst hxe
      simp only [DataW.agg.injEq] at e1
      subst e1
      split at h
      · rename_i ei hei
        split at h
        · rename_i hb
          have hb := Nat.eq_of_beq_eq_true hb
          rw [size_ti hti, ← hb] at hlen
          rw [size_ti hei] at hel
          have := flat_arr (sz := ei.sz) (cs := cs) (i := 0) h (fun j d' hj a ha => by
            rw [List.getElem?_map] at hj
            cases hxj : xs[j]? with
            | none => rw [hxj] at hj; cases hj
            | some y =>
              rw [hxj] at hj
              have hj : y.1 = d' := Option.some.inj hj
              have hjn : j < n := by rw [← hxl]; exact (List.getElem?_eq_some_iff.1 hxj).1
              have h1 := hel j hjn
              rw [hxj] at h1
              rw [Nat.zero_add]
              exact trod_flat D e y.1 a (by rw [hj]; exact ha) m _ y.2 h1) (by rw [hlen]; simp [hxl])
          simpa using this
        · cases h
      · cases h
    · rename_i fs l hki
      rw [hki] at hk
      obtain ⟨fa, rfl, hfa⟩ := desc_struct hk
      obtain ⟨xs, m, -, hxe, hlen, hxl, hg⟩ := DataW.trod_struct hu hx
      have e1 := congrArg Prod.fst hxe
      simp only [DataW.agg.injEq] at e1
      subst e1
      rw [size_ti hti] at hlen
      have := flat_fs (C := C) hlen h (fun j f d' hf hj a ha => by
        rw [List.getElem?_map] at hj
        cases hxj : xs[j]? with
        | none => rw [hxj] at hj; cases hj
        | some y =>
          rw [hxj] at hj
          have hj : y.1 = d' := Option.some.inj hj
          rw [← hfa, List.getElem?_map] at hf
          cases hfj : fa.toList[j]? with
          | none => rw [hfj] at hf; cases hf
          | some ff =>
            rw [hfj] at hf
            obtain rfl : (ff.offset, ff.type) = f := Option.some.inj hf
            have h1 := hg j ff (by rw [← Array.getElem?_toList]; exact hfj)
            rw [hxj] at h1
            exact trod_flat D ff.type y.1 a (by rw [hj]; exact ha) m _ y.2 h1)
      simpa using this
    · cases h
/-- One of the variables that are laid. -/
theorem laid_of : ∀ {l : List (String × DataW Unit)} {ps : List MemPlace} {n : String} {d : DataW Unit}, DataW.LaidVars C.P W l ps → (n, d) ∈ l → ∃ g t cs fuel p, C.P.globalNamed n = some g ∧ (C.P.globals[g]?).map (·.type) = some t ∧ W.var? C.P n = some cs ∧ DataW.trod (fun _ => ()) C.P W 0 (fun _ => true) false fuel t cs.toList = some (d, p)
  | [], ps, n, d, h, hm => by cases hm
  | (n', d') :: r, ps, n, d, h, hm => by
    obtain ⟨g, t, cs, fuel, p, q, e1, e2, e3, e4, hr, -⟩ := h
    rcases List.mem_cons.1 hm with hm | hm
    · obtain ⟨rfl, rfl⟩ := Prod.mk.inj hm
      exact ⟨g, t, cs, fuel, p, e1, e2, e3, e4⟩
    · exact laid_of hr hm
/-- What its cells hold. -/
theorem laid_cells {l : List (String × DataW Unit)} {n : String} {d : DataW Unit} {g t : Nat} {vs : List Value} (h : laidMetH C.P l W) (hm : (n, d) ∈ l) (hd : d.handleName?.isNone = true) (hg : C.P.globalNamed n = some g) (ht : (C.P.globals[g]?).map (·.type) = some t) (hv : flatV C.T 6 t d = some vs) :
    ∀ (i : Nat) (v : Value), vs[i]? = some v → W.cell? ⟨g, i, none⟩ = some v := by
  obtain ⟨ps, hV, -⟩ := (laidMetH_iff.1 h).1
  obtain ⟨g', t', cs, fuel, p, e1, e2, e3, e4⟩ := laid_of (C := C) hV (List.mem_filter.2 ⟨hm, hd⟩)
  rw [hg] at e1
  obtain rfl := Option.some.inj e1
  rw [ht] at e2
  obtain rfl := Option.some.inj e2
  intro i v hi
  rw [World.var?_cell hg e3 i]
  have := trod_flat 6 t d vs hv fuel cs.toList p e4
  rw [← this] at hi
  simpa using hi
end
end Go.Proofs.YtcojfohjdibjjaaGreatDoor
