/- The rule for a region that draws its order: its head in whatever order, each operation shown once; its tail in the one order that is forced. -/
import Derived.Test.YtcojfohjdibjjaaGreatDoorR0
namespace Go.Proofs.YtcojfohjdibjjaaGreatDoor
open Go.RowKit

section
variable {P : Program} {ops : Array Oper} {Q : Exit → Act → World → Prop}

/-- What is to be shown of the operation number k of the head. -/
def RelyOp (P : Program) (Q : Exit → Act → World → Prop) (ops : Array Oper) (heads : List Oper) (a0 : Act) (w0 : World) (φ : Nat → Value → World → Prop) (al : Nat → Bool) (k : Nat) (o : Oper) : Prop :=
  ∀ (a : Act) (vs : Nat → Value) (W : World), Gr w0 W → (∀ j, Region.waitsFor .any ops k j = true → φ j (vs j) W) →
    (∀ (j : Nat) (o' : Oper) (d : Nat), heads[j]? = some o' → o'.dst = some d → a.tmps[d]? = some (vs j)) → (∀ t : Nat, freeOf heads t = true → a.tmps[t]? = a0.tmps[t]?) →
    ∀ K : Act → World → Prop, (∀ v W', φ k v W' → Gr W W' → (al k = true → ∀ j, al j = true → j ≠ k → φ j (vs j) W → v ≠ vs j) → K (a.put o.dst v) W') →
      if Region.wanted o (yielded ops a.tmps) = true then Oper.wp P o a W K Q else K (a.put o.dst undef) W
def RelyAll (P : Program) (Q : Exit → Act → World → Prop) (ops : Array Oper) (heads : List Oper) (a0 : Act) (w0 : World) (φ : Nat → Value → World → Prop) (al : Nat → Bool) : Nat → List Oper → Prop
  | _, [] => True
  | k, o :: r => RelyOp P Q ops heads a0 w0 φ al k o ∧ RelyAll P Q ops heads a0 w0 φ al (k + 1) r

theorem RelyAll.get {heads : List Oper} {a0 : Act} {w0 : World} {φ : Nat → Value → World → Prop} {al : Nat → Bool} : ∀ {l : List Oper} {k : Nat}, RelyAll P Q ops heads a0 w0 φ al k l → ∀ (i : Nat) (o : Oper), l[i]? = some o → RelyOp P Q ops heads a0 w0 φ al (k + i) o
  | [], _, _, i, _, hi => by simp at hi
  | p :: r, k, h, 0, o, hi => by
    obtain rfl : p = o := by simpa using hi
    exact h.1
  | p :: r, k, h, i + 1, o, hi => by
    have := RelyAll.get (k := k + 1) h.2 i o (by simpa using hi)
    rwa [show k + 1 + i = k + (i + 1) by omega] at this

def backB (ops : Array Oper) (n : Nat) : Bool :=
  (List.range n).all fun i => match ops[i]? with | some o => o.after.all fun e => !Region.binds .any e || decide (e.on < i) | none => true
def fullList (n g : Nat) : Array Bool := (List.replicate n true ++ List.replicate g false).toArray
/-- The closed part of the rule's conditions. -/
def relyB (ops : Array Oper) (n : Nat) : Bool :=
  decide (n < ops.size) && Region.sinkB .any ops n && Region.chainB .any ops n && backB ops n && Region.seqB .any ops (ops.size - n) n (fullList n (ops.size - n))

def cnt (listed : Array Bool) (n : Nat) : Nat := (List.range n).countP fun i => !listed.getD i false
theorem countP_one {f g : Nat → Bool} {i : Nat} (hf : f i = true) (hg : g i = false) (he : ∀ j, j ≠ i → g j = f j) : ∀ n, (List.range n).countP g + (if i < n then 1 else 0) = (List.range n).countP f
  | 0 => by simp
  | n + 1 => by
    rw [List.range_succ, List.countP_append, List.countP_append]
    have ih := countP_one hf hg he n
    by_cases h : n = i
    · subst h
      simp [hf, hg] at ih ⊢
      omega
    · have e := he n h
      simp only [List.countP_cons, List.countP_nil, e]
      generalize (if f n = true then 1 else 0) = z
      by_cases h1 : i < n
      · rw [if_pos h1] at ih
        rw [if_pos (by omega)]
        omega
      · rw [if_neg h1] at ih
        rw [if_neg (by omega)]
        omega
theorem cnt_set {listed : Array Bool} {n i : Nat} (hi : i < n) (hs : i < listed.size) (hu : listed.getD i false = false) : cnt (listed.setIfInBounds i true) n + 1 = cnt listed n := by
  have := countP_one (f := fun j => !listed.getD j false) (g := fun j => !(listed.setIfInBounds i true).getD j false) (i := i) (by simpa using hu) (by simp [hs]) (fun j hj => by
    show (!(listed.setIfInBounds i true).getD j false) = _
    rw [getD_set_ne false (Ne.symm hj)]) n
  rw [if_pos hi] at this
  exact this
theorem cnt_zero {listed : Array Bool} {n : Nat} (h : cnt listed n = 0) (i : Nat) (hi : i < n) : listed.getD i false = true := by
  have := List.countP_eq_zero.1 h i (List.mem_range.2 hi)
  simpa using this
theorem cnt_pos {listed : Array Bool} {n r : Nat} (h : cnt listed n = r + 1) : ∃ i, i < n ∧ listed.getD i false = false := by
  have : 0 < (List.range n).countP fun i => !listed.getD i false := by
    have h' : (List.range n).countP (fun i => !listed.getD i false) = r + 1 := h
    omega
  obtain ⟨i, hi, hu⟩ := List.countP_pos_iff.1 this
  exact ⟨i, List.mem_range.1 hi, by simpa using hu⟩

theorem some_ready {listed : Array Bool} {n : Nat} (hb : backB ops n = true) (hn : n ≤ ops.size) (hsz : listed.size = ops.size) : ∀ (i : Nat), i < n → listed.getD i false = false → Region.ready .any ops listed ≠ [] := by
  intro i
  induction i using Nat.strongRecOn with
  | _ i ih =>
    intro hi hu he
    have ho : ops[i]? = some (ops[i]'(by omega)) := Array.getElem?_eq_getElem (by omega)
    by_cases hall : ∃ e, e ∈ (ops[i]'(by omega)).after ∧ Region.binds .any e = true ∧ listed.getD e.on false = false
    rotate_left
    · have : i ∈ Region.ready .any ops listed := mem_ready.2 ⟨getD_in (by omega) hu, _, ho, fun e hm hbd => by
        cases hl : listed.getD e.on false with
        | true => rfl
        | false => exact absurd ⟨e, hm, hbd, hl⟩ hall⟩
      rw [he] at this
      cases this
    · obtain ⟨e, hm, hbd, hl⟩ := hall
      have h1 := List.all_eq_true.1 hb i (List.mem_range.2 hi)
      rw [ho] at h1
      have h2 := Array.all_eq_true'.1 h1 e hm
      simp only [hbd, Bool.not_true, Bool.false_or, decide_eq_true_eq] at h2
      exact ih e.on h2 (by omega) hl he

theorem full_of {listed : Array Bool} {n : Nat} (inv : HeadInv .any ops n listed) (hn : n < ops.size) (h0 : ∀ i, i < n → listed.getD i false = true) : listed = fullList n (ops.size - n) := by
  apply Array.ext_getElem?
  intro i
  have ea : ∀ l : List Bool, l.toArray[i]? = l[i]? := fun l => by simp
  unfold fullList
  rw [ea (List.replicate n true ++ List.replicate (ops.size - n) false)]
  rcases Nat.lt_or_ge i n with h | h
  · have h1 := h0 i h
    rw [List.getElem?_append_left (by simpa using h)]
    have hs : i < listed.size := by rw [inv.size]; omega
    rw [Array.getElem?_eq_getElem hs]
    simp [hs] at h1
    simp [h1, h]
  · rw [List.getElem?_append_right (by simpa using h)]
    simp only [List.length_replicate]
    rcases Nat.lt_or_ge i ops.size with h2 | h2
    · have h1 := inv.tail i h h2
      have hs : i < listed.size := by rw [inv.size]; omega
      rw [Array.getElem?_eq_getElem hs]
      simp [hs] at h1
      rw [h1, List.getElem?_replicate, if_pos (by omega)]
    · rw [Array.getElem?_eq_none (by rw [inv.size]; exact h2), List.getElem?_replicate, if_neg (by omega)]

theorem wpAny_rely {n : Nat} {a0 : Act} {w0 : World} {φ : Nat → Value → World → Prop} {al : Nat → Bool} (hB : relyB ops n = true) (hO : onceB a0.tmps.size (ops.toList.take n) = true)
    (hst : ∀ i v w w', φ i v w → Gr w w' → φ i v w') (hop : RelyAll P Q ops (ops.toList.take n) a0 w0 φ al 0 (ops.toList.take n))
    (hQ : ∀ vs W, Gr w0 W → (∀ i, i < n → φ i (vs i) W) → (∀ i j, i < n → j < n → al i = true → al j = true → i ≠ j → vs i ≠ vs j) → wpList P ops Q (ops.toList.drop n) (putAll vs 0 (ops.toList.take n) a0) W) :
    ∀ (r : Nat) (listed : Array Bool) (vs : Nat → Value) (W : World), cnt listed n = r → HeadInv .any ops n listed → Gr w0 W → (∀ i, i < n → listed.getD i false = true → φ i (vs i) W) →
      (∀ i j, i < n → j < n → listed.getD i false = true → listed.getD j false = true → al i = true → al j = true → i ≠ j → vs i ≠ vs j) →
      wpAny P .any ops Q (r + (ops.size - n)) listed (putAll vs 0 (ops.toList.take n) a0) W := by
  simp only [relyB, Bool.and_eq_true, decide_eq_true_eq] at hB
  obtain ⟨⟨⟨⟨hn, hs⟩, hc⟩, hb⟩, hq⟩ := hB
  intro r
  induction r with
  | zero =>
    intro listed vs W hcnt inv hg hφ hd
    have hall := cnt_zero hcnt
    have hdl : (ops.toList.drop n).length = ops.size - n := by simp
    have := wpAny_of_seq (P := P) (md := .any) (Q' := Q) (ops.toList.drop n) n listed (putAll vs 0 (ops.toList.take n) a0) W (fun j => by simp [List.getElem?_drop])
      (by rw [hdl, full_of inv hn hall]; exact hq) (hQ vs W hg (fun i hi => hφ i hi (hall i hi)) (fun i j hi hj h1 h2 h3 => hd i j hi hj (hall i hi) (hall j hj) h1 h2 h3))
    rwa [hdl, ← Nat.zero_add (ops.size - n)] at this
  | succ r ih =>
    intro listed vs W hcnt inv hg hφ hd
    obtain ⟨u, hu, hun⟩ := cnt_pos hcnt
    rw [show r + 1 + (ops.size - n) = (r + (ops.size - n)) + 1 by omega]
    refine ⟨fun he => absurd he (some_ready hb (by omega) inv.size u hu hun), fun i hi => ?_⟩
    have hin : i < n := by
      rcases Nat.lt_or_ge i n with h | h
      · exact h
      · exact absurd hi (tail_waits hs hc hn inv (n - u) u rfl hu (getD_in (by rw [inv.size]; omega) hun) i h)
    obtain ⟨hiu, o, ho, hdeps⟩ := mem_ready.1 hi
    have hl : (ops.toList.take n)[i]? = some o := by
      rw [List.getElem?_take_of_lt hin]
      simpa using ho
    have hR := hop.get i o hl
    rw [Nat.zero_add] at hR
    have hK := hR (putAll vs 0 (ops.toList.take n) a0) vs W hg (fun j hj => by
        obtain ⟨o', ho', e, he, hbd, hon⟩ := Region.waitsFor_spec hj
        rw [ho] at ho'
        obtain rfl := Option.some.inj ho'
        have h1 := hdeps e he hbd
        rw [hon] at h1
        have h2 := List.all_eq_true.1 hb i (List.mem_range.2 hin)
        rw [ho] at h2
        have h3 := Array.all_eq_true'.1 h2 e he
        simp only [hbd, Bool.not_true, Bool.false_or, decide_eq_true_eq] at h3
        exact hφ j (by omega) h1)
      (fun j o' d hj hd' => by
        have := putAll_get vs (ops.toList.take n) 0 a0 j o' d hO hj hd'
        rwa [Nat.zero_add] at this)
      (fun t ht => putAll_free vs _ 0 a0 ht)
      (fun a' W' => wpAny P .any ops Q (r + (ops.size - n)) (listed.setIfInBounds i true) a' W')
      (fun v W' hv hgW hnew => by
        rw [putAll_put vs _ a0 i o v hO hl]
        have hsz : i < listed.size := by rw [inv.size]; omega
        have hset : ∀ j, (listed.setIfInBounds i true).getD j false = true → j = i ∨ listed.getD j false = true := fun j hj => by
          by_cases hji : j = i
          · exact .inl hji
          · rw [getD_set_ne false (Ne.symm hji)] at hj
            exact .inr hj
        refine ih _ _ W' ?_ (inv.set hi hin) (hg.trans hgW) ?_ ?_
        · have := cnt_set hin hsz (getD_both hiu)
          omega
        · intro j hj hlj
          by_cases hji : j = i
          · subst hji
            simpa [upd] using hv
          · rcases hset j hlj with h | h
            · exact absurd h hji
            · simpa [upd, hji] using hst j (vs j) W W' (hφ j hj h) hgW
        · intro j k hj hk hlj hlk haj hak hjk
          by_cases hji : j = i
          · subst hji
            have hki : k ≠ j := Ne.symm hjk
            rcases hset k hlk with h | h
            · exact absurd h hki
            · simpa [upd, hki] using hnew haj k hak hki (hφ k hk h)
          · rcases hset j hlj with h | h
            · exact absurd h hji
            · by_cases hki : k = i
              · subst hki
                simpa [upd, hji] using (hnew hak j haj hji (hφ j hj h)).symm
              · rcases hset k hlk with h' | h'
                · exact absurd h' hki
                · simpa [upd, hji, hki] using hd j k hj hk h h' haj hak hjk)
    unfold wpOp
    rw [ho]
    show if Region.wanted o (yielded ops (putAll vs 0 (ops.toList.take n) a0).tmps) = true then _ else _
    split
    · rename_i hw
      rw [if_pos hw] at hK
      exact .inl hK
    · rename_i hw
      rw [if_neg hw] at hK
      exact hK

/-- What the slots of the list hold now. -/
def ownVs (l : List Oper) (a : Act) : Nat → Value := fun j => match (l[j]?).bind (·.dst) with | some d => a.tmps.getD d undef | none => undef
theorem putAll_own {l : List Oper} {a : Act} (hB : onceB a.tmps.size l = true) : putAll (ownVs l a) 0 l a = a := by
  have hext : ∀ t : Nat, (putAll (ownVs l a) 0 l a).tmps[t]? = a.tmps[t]? := by
    intro t
    rcases writer t l with hf | ⟨i, o, hi, hd⟩
    · exact putAll_free _ l 0 a hf
    · have h := putAll_get (ownVs l a) l 0 a i o t hB hi hd
      have hlt : t < (putAll (ownVs l a) 0 l a).tmps.size := (Array.getElem?_eq_some_iff.1 h).1
      rw [putAll_size] at hlt
      rw [h, Nat.zero_add]
      simp [ownVs, hi, hd, hlt]
  have hdef := putAll_defers (ownVs l a) l 0 a
  generalize putAll (ownVs l a) 0 l a = x at hext hdef
  obtain ⟨xt, xd⟩ := x
  obtain ⟨yt, yd⟩ := a
  simp only at hext hdef
  rw [hdef, Array.ext_getElem? hext]

theorem wp_region_rely {id : Nat} {a0 : Act} {w : World} {l : List Oper} (n : Nat) (φ : Nat → Value → World → Prop) (al : Nat → Bool) (hm : P.follows .mixedOrders = true) (hB : relyB l.toArray n = true) (hO : onceB a0.tmps.size (l.take n) = true)
    (hst : ∀ i v w w', φ i v w → Gr w w' → φ i v w') (hop : RelyAll P Q l.toArray (l.take n) a0 w φ al 0 (l.take n))
    (hQ : ∀ vs W, Gr w W → (∀ i, i < n → φ i (vs i) W) → (∀ i j, i < n → j < n → al i = true → al j = true → i ≠ j → vs i ≠ vs j) → wpList P l.toArray Q (l.drop n) (putAll vs 0 (l.take n) a0) W)
    : (Code.region id l.toArray true).wp P Q a0 w := by
  have hi := putAll_own (l := l.take n) (a := a0) hO
  refine wp_region_any hm ?_
  have hB' := hB
  simp only [relyB, Bool.and_eq_true, decide_eq_true_eq] at hB'
  have hn := hB'.1.1.1.1
  have hcnt : cnt (Array.replicate l.toArray.size false) n = n := by
    have : (List.range n).countP (fun i => !(Array.replicate l.toArray.size false).getD i false) = (List.range n).length := List.countP_eq_length.2 fun i _ => by
      rw [getD_replicate_false]; rfl
    unfold cnt
    rw [this, List.length_range]
  have := wpAny_rely (P := P) (ops := l.toArray) (Q := Q) (n := n) (a0 := a0) (w0 := w) (φ := φ) (al := al) hB hO hst hop hQ n (Array.replicate l.toArray.size false) (ownVs (l.take n) a0) w.drew hcnt
    ⟨by simp, fun j oj _ hl => (by rw [getD_replicate_false] at hl; cases hl), fun t _ ht => getD_in (by simpa using ht) (getD_replicate_false _ _)⟩ ((Gr.refl w).drew)
    (fun i _ h => by rw [getD_replicate_false] at h; cases h) (fun i j _ _ h => by rw [getD_replicate_false] at h; cases h)
  rw [show n + (l.toArray.size - n) = l.toArray.size by omega] at this
  rw [hi] at this
  exact this
end
end Go.Proofs.YtcojfohjdibjjaaGreatDoor
