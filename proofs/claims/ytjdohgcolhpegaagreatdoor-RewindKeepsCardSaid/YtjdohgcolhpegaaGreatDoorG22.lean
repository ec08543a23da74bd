/- A symbolic executor with lists, 22: a range over a function. -/
import Derived.Test.YtjdohgcolhpegaaGreatDoorG18
import Derived.RangeFuncFrom
import Derived.RangeFuncLeaves
namespace Go.Proofs.YtjdohgcolhpegaaGreatDoor
open Go.RowKit

/-! ### A block that is neither cells nor a map turns -/
structure Turn (W W' : World) (r : Nat) : Prop where
  os : W'.os = W.os
  tape : W'.tape = W.tape
  output : W'.output = W.output
  size : W'.heap.size = W.heap.size
  block : ∀ b, b ≠ r → W'.heap[b]? = W.heap[b]?
  obj : ∃ o, W.heap[r]? = some o ∧ o.isCells = false ∧ o.isWalk = false
theorem turn_put {W : World} {r : Nat} {o : Obj} (o' : Obj) (h : W.heap[r]? = some o) (h1 : o.isCells = false) (h2 : o.isWalk = false) : Turn W (W.putObj r o') r :=
  ⟨rfl, rfl, rfl, World.putObj_size, fun _ hb => World.putObj_heap_other hb, o, h, h1, h2⟩
section
variable {PP : Program} {C : Cx PP} {ρ ρe : Names} {W W' w0 : World} {r nm nt : Nat}
theorem Turn.cell (t : Turn W W' r) {b i : Nat} {c : Value} (h : W.cell? ⟨b, i, none⟩ = some c) : W'.cell? ⟨b, i, none⟩ = some c := by
  have hb : b ≠ r := by
    rintro rfl
    obtain ⟨o, h1, h2, -⟩ := t.obj
    unfold World.cell? at h
    simp only [h1] at h
    cases o <;> simp_all [Obj.isCells]
  exact (cell_of_heap (t.block b hb)).trans h
theorem Turn.blk (t : Turn W W' r) {b : Nat} {u : Array Value} {ty : TypeId} (h : Blk W b u ty) : Blk W' b u ty := by
  have h' : W.heap[b]? = some (.cells u ty (0, 0)) := h
  have hb : b ≠ r := by
    rintro rfl
    obtain ⟨o, h1, h2, -⟩ := t.obj
    rw [h'] at h1
    obtain rfl := Option.some.inj h1
    cases h2
  exact (t.block b hb).trans h'
theorem Turn.map (t : Turn W W' r) {b : Nat} {es : Array MapEntry} {cl : Nat} (h : W.heap[b]? = some (.map es cl)) : W'.heap[b]? = some (.map es cl) := by
  have hb : b ≠ r := by
    rintro rfl
    obtain ⟨o, h1, -, h2⟩ := t.obj
    rw [h] at h1
    obtain rfl := Option.some.inj h1
    cases h2
  exact (t.block b hb).trans h
theorem HB.turn (h : HB C ρ W) (t : Turn W W' r) : HB C ρ W' :=
  ⟨h.own, fun n b hb => ⟨(h.low n b hb).1, by rw [t.size]; exact (h.low n b hb).2⟩, fun b i c hz => ⟨t.cell (h.zok b i c hz).1, (h.zok b i c hz).2⟩,
    by rw [t.size]; exact h.grd.1, fun b sb hb => let ⟨h0, vs, h1, h2⟩ := h.grd.2 b sb hb; ⟨h0, vs, h1, fun i v hv => t.cell (h2 i v hv)⟩⟩
theorem ListC.turn {q : LV} {sz : Nat} {f : Nat → List SV} {ty : TypeId} (h : ListC ρ W q sz f ty) (t : Turn W W' r) : ListC ρ W' q sz f ty :=
  ⟨h.1, fun hc => let ⟨b, u, k1, k2, k3⟩ := h.2 hc; ⟨b, u, k1, t.blk k2, k3⟩⟩
theorem Cont.turn {n : Nat} {sb : SB} (h : Cont ρ W n sb) (t : Turn W W' r) : Cont ρ W' n sb := by
  cases sb with
  | gone => trivial
  | lay cs ty => obtain ⟨b, vs, h1, h2, h3, h4⟩ := h; exact ⟨b, vs, h1, h2, t.blk h3, h4⟩
  | lst e sz N f ty =>
    obtain ⟨l, h1, h2, h3, h4, h5⟩ := h
    exact ⟨l, h1, h2, h3, h4, fun hc => let ⟨b, u, k1, k2, k3⟩ := h5 hc; ⟨b, u, k1, t.blk k2, k3⟩⟩
  | mp k ag has g => obtain ⟨b, es, cl, h1, h2, h3⟩ := h; exact ⟨b, es, cl, h1, t.map h2, h3⟩
  | nst e sz N f p szk g tk ty last =>
    obtain ⟨l, K⟩ := h
    exact ⟨l, K.hv, K.ho, K.hN, K.hle, fun hc => let ⟨b, u, k1, k2, k3⟩ := K.row hc; ⟨b, u, k1, t.blk k2, k3⟩, fun i hi => let ⟨q, q1, q2, q3⟩ := K.kid i hi; ⟨q, q1, q2, q3.turn t⟩, K.no, K.ne⟩
  | alt =>
    obtain ⟨l, l', K⟩ := h
    exact ⟨l, l', K.move (fun _ _ _ h => h) (fun _ => rfl) (fun _ _ h => h) (fun b u ty _ h => t.blk h) (fun _ _ h => h)⟩
theorem Mem.turn (h : Mem C w0 ρe nm ρ W) (t : Turn W W' r) (hr : w0.heap.size ≤ r) : Mem C w0 ρe nm ρ W' :=
  ⟨h.hb.turn t, h.dom, h.domv, h.domk, h.le, h.old, h.zold, t.os.trans h.keep.os, t.tape.trans h.keep.tape, t.output.trans h.keep.output, by rw [t.size]; exact h.keep.size, fun b hb hn => (t.block b (by omega)).trans (h.keep.block b hb hn)⟩
theorem Rp.turn {st : St} {a : Act} (h : Rp C nt w0 ρe st ρ a W) (t : Turn W W' r) (hr : w0.heap.size ≤ r) : Rp C nt w0 ρe st ρ a W' :=
  ⟨⟨h.base.mem.turn t hr, fun n sb hn => (h.base.blk n sb hn).turn t, h.base.sz, h.base.df⟩, h.rgs, h.slots⟩

/-! ### More that never changes -/
theorem HB.addz (h : HB C ρ W) {Z : Nat → Nat → Value → Prop} (hZ : ∀ b i c, Z b i c → W.cell? ⟨b, i, none⟩ = some c ∧ c.oneCell' = true) : HB C (ρ.addz Z) W :=
  ⟨h.own, h.low, fun b i c hz => hz.elim (h.zok b i c) (hZ b i c), h.grd⟩
theorem Cont.addz {n : Nat} {sb : SB} (h : Cont ρ W n sb) {Z : Nat → Nat → Value → Prop} (hZ : ∀ b i c, Owns ρ n b → ¬ Z b i c) : Cont (ρ.addz Z) W n sb := by
  cases sb with
  | gone => trivial
  | lay cs ty => obtain ⟨b, vs, h1, h2, h3, h4, h5⟩ := h; exact ⟨b, vs, h1, denL_le Names.le_addz _ _ h2, h3, h4, fun i c hz => hz.elim (h5 i c) (hZ b i c (.inl h1))⟩
  | lst e sz N f ty =>
    obtain ⟨l, h1, h2, h3, h4, h5⟩ := h
    exact ⟨l, h1, h2, h3, h4, fun hc => let ⟨b, u, k1, k2, k3, k4, k5, k6⟩ := h5 hc; ⟨b, u, k1, k2, k3, k4, fun i c hz => hz.elim (k5 i c) (hZ b i c (.inr (.inl ⟨e, l, 0, h1, h2, hc, k1⟩))), fun i hi => let ⟨us, q1, q2⟩ := k6 i hi; ⟨us, denL_le (Names.le.zo Names.le_addz) _ _ q1, q2⟩⟩⟩
  | mp k ag has g => obtain ⟨b, es, cl, h1, h2, h3, h4⟩ := h; exact ⟨b, es, cl, h1, h2, h3, fun x hx => let ⟨m, q1, q2, u, q3, q4⟩ := h4.keys x hx; ⟨m, q1, q2, u, denL_le (Names.le.zo Names.le_addz) _ _ q3, q4⟩, h4.yes⟩
  | nst e sz N f p szk g tk ty last => exact cont_nst_addz h hZ
  | alt =>
    obtain ⟨l, l', K⟩ := h
    exact ⟨l, l', K.move (fun _ _ _ h => h) (fun _ => rfl) (fun l us h => denL_le (Names.le.zo Names.le_addz) _ _ h) (fun b u t _ h => h) (fun b ho h i c hz => hz.elim (h i c) (hZ b i c ho))⟩

/-! ### Rounds -/
/-- The names ρ1, where all that ρ owns may be written. -/
def Names.own (ρ1 ρ : Names) : Names := ⟨ρ1.n, ρ1.v, ρ1.k, ρ.z, [], fun b => ∃ n, Owns ρ n b⟩
theorem Mem.start {W1 : World} {ρ1 : Names} (h : Mem C W1 ρ1.noD nm ρ W) : Mem C W (ρ1.own ρ) nm ρ W :=
  ⟨h.hb, h.dom, h.domv, h.domk, ⟨h.le.n, h.le.v, h.le.k, fun _ _ _ h => h⟩, fun n _ ho => .inl (.inr ⟨n, ho⟩), fun _ _ _ hz => .inl hz, .refl _ _⟩
theorem Mem.via {W1 : World} {ρ1 ρ2 : Names} {nm' : Nat} (h : Mem C W1 ρ1.noD nm ρ W) (k : Mem C W (ρ1.own ρ) nm' ρ2 W') : Mem C W1 ρ1.noD nm' ρ2 W' := by
  have hs := h.keep.size
  have hmine : ∀ b, Mine (ρ1.own ρ) b → Mine ρ1.noD b ∨ W1.heap.size ≤ b := fun b hm => by
    rcases hm with ⟨n, hn⟩ | ⟨n, hn⟩
    · exact .inl (.inl ⟨n, hn⟩)
    · exact h.old n b hn
  refine ⟨k.hb, k.dom, k.domv, k.domk, ⟨k.le.n, k.le.v, k.le.k, fun b i c x => k.le.z b i c (h.le.z b i c x)⟩, fun n b hn => ?_, fun b i c hz => ?_, k.keep.os.trans h.keep.os, k.keep.tape.trans h.keep.tape, k.keep.output.trans h.keep.output, Nat.le_trans hs k.keep.size, fun b hb hn => ?_⟩
  · rcases k.old n b hn with h1 | h1
    · exact hmine b h1
    · exact .inr (by omega)
  · rcases k.zold b i c hz with h1 | h1 | h1
    · exact h.zold b i c h1
    · exact .inr (.inl (by omega))
    · rcases hmine b h1 with h2 | h2
      · exact .inr (.inr h2)
      · exact .inr (.inl h2)
  · exact (k.keep.block b (by omega) fun hm => (hmine b hm).elim hn fun h => by omega).trans (h.keep.block b hb hn)
/-- What nobody owns stays so. -/
theorem Mem.notOwn {W1 : World} {ρ1 ρ2 : Names} {nm' b : Nat} (k : Mem C W (ρ1.own ρ) nm' ρ2 W') (h1 : ∀ n, ¬ Owns ρ1 n b) (h2 : ∀ n, ¬ Owns ρ n b) (hb : b < W.heap.size) : (∀ n, ¬ Owns ρ2 n b) ∧ W'.heap[b]? = W.heap[b]? := by
  have hm : ¬ Mine (ρ1.own ρ) b := fun hm => by
    rcases hm with ⟨n, hn⟩ | ⟨n, hn⟩
    · exact h1 n hn
    · exact h2 n hn
  refine ⟨fun n ho => ?_, k.keep.block b hb hm⟩
  rcases k.old n b ho with h | h
  · exact hm h
  · omega
end

/-- A function value that hands n elements to the function that it is handed, one after the other. -/
def ItOk {PP : Program} (C : Cx PP) (gf : Nat) (cap : List SV) (n : Nat) (f : Nat → SV) : Prop :=
  ∀ (l : Nat) (J : (Nat → Nat → Value → Prop) → Nat → World → Prop) (z : Nat → Nat → Value → Prop) (W : World) (vs : List Value), denL (onlyZ z) cap vs → J z 0 W →
    (∀ z k W, J z k W → C.Grd W ∧ ∀ b i c, z b i c → W.cell? ⟨b, i, none⟩ = some c ∧ c.oneCell' = true) →
    (∀ (z z' : Nat → Nat → Value → Prop) k W W', J z k W → Gr W W' → (∀ b i c, z' b i c → (z b i c ∨ W.heap.size ≤ b) ∧ W'.cell? ⟨b, i, none⟩ = some c ∧ c.oneCell' = true) → J (fun b i c => z b i c ∨ z' b i c) k W') →
    (∀ z k W u, J z k W → k < n → den (onlyZ z) (f k) u → YieldAt Fence.wide 0 C.P l #[u] W fun e W' => e = .returned (.bool true) ∧ J z (k + 1) W') →
    Calls C.P gf (#[.func (.yield l) #[] #[]] ++ vs.toArray) W fun e W' => (∃ v, e = .returned v) ∧ ∃ z, J z n W'
/-- What a range keeps from round to round: how many are over; memory. -/
structure RCut where
  α : Type
  P : α → Prop
  idx : α → Nat
  H : α → Heap
  nm : α → Nat
def RCut.J (c : RCut) (a : c.α) : St := ⟨[], c.H a, c.nm a, 0, [], []⟩
def RCut.at_ (c : RCut) (nm0 : Nat) (k : Nat) (st : St) : Prop := ∃ (a : c.α) (σ : List (Nat × Nat)) (t : List Tr), c.idx a = k ∧ c.P a ∧ LeSt nm0 σ (c.J a) (trs nm0 t st)
section
variable {PP : Program} {C : Cx PP} {Γ : List (Con C)} {nt : Nat} {I : Inl} {inls : List Nat}
/-- What holds between two rounds. -/
def RInv (C : Cx PP) (c : RCut) (ρ1 : Names) (W1 : World) (lr D : Nat) (o : Obj) (z : Nat → Nat → Value → Prop) (k : Nat) (W : World) : Prop :=
  ∃ a ρ, c.idx a = k ∧ c.P a ∧ (∀ b i v, z b i v → ρ.z b i v) ∧ Mem C W1 ρ1.noD (c.nm a) ρ W ∧ (∀ n sb, look (c.H a) n = some sb → Cont ρ W n sb) ∧ (∀ n, ¬ Owns ρ n lr) ∧ (∀ n, ¬ Owns ρ n D) ∧ W.heap[lr]? = some o ∧ W.heap[D]? = some (.deferred (some []))

theorem RCut.at_.rp {c : RCut} {nm0 k : Nat} {st : St} {ρe ρ : Names} {w0 : World} {a : Act} {W : World} (hdom : ∀ n b, ρe.n n = some b → n < nm0) (hdomv : ∀ e l, ρe.v e = some l → e < nm0 ∧ l.o < nm0) (hdomk : ∀ m i l, ρe.k m i = some l → m < nm0) (h : c.at_ nm0 k st) (hr : Rp C nt w0 ρe st ρ a W) :
    ∃ b ρ', c.idx b = k ∧ c.P b ∧ Rp C nt w0 ρe (c.J b) ρ' a W := by
  obtain ⟨b, σ, t, hk, hp, hle⟩ := h
  obtain ⟨ρ', hr'⟩ := trs_ok (t := t) hdom hdomv hdomk hr
  exact ⟨b, _, hk, hp, hle.rp hdom hdomv hdomk hr'⟩

theorem range_ok {w0 : World} {ρe ρ1 : Names} {st : St} {a : Act} {W1 : World} {g : Operand} {p : Tmp} {asg body : Code} {gf : Nat} {cap : List SV} {n : Nat} {f : Nat → SV} {c : RCut} {h : How} {Q : Exit → Act → World → Prop}
    (hm : C.P.follows .mixedOrders = true) (hI : InlOk C I) (hr : Rp C nt w0 ρe st ρ1 a W1) (hg : opOut st.sl g = some (.f (.func gf) [] cap)) (hpu : pureL cap = true) (eg : ∀ args w, (callFunc gf args).run C.P w = .ok (.enter gf args) w)
    (hit : ItOk C gf cap n f) (hp : p < nt) (hBa : codeB h.fl asg = true) (hBb : codeB h.fl body = true)
    (h0 : c.at_ st.nm 0 st)
    (hround : ∀ b, c.P b → c.idx b < n → ev Γ nt st.nm I inls h asg ⟨(p, ⟨st.rg, 0, [], f (c.idx b)⟩) :: st.sl, c.H b, c.nm b, st.rg, [], []⟩ fun e st2 => match e with
      | .normal => ev Γ nt st.nm I inls h body st2 fun e st3 => match e with
        | .normal => c.at_ st.nm (c.idx b + 1) st3
        | _ => False
      | _ => False)
    (hK : ∀ b D ρ W, c.P b → c.idx b = n → Mem C W1 ρ1.noD (c.nm b) ρ W → (∀ n sb, look (c.H b) n = some sb → Cont ρ W n sb) → (∀ n, ¬ Owns ρ n D) → W1.heap.size ≤ D → W.heap[D]? = some (.deferred (some [])) →
      Q .normal { a with defers := { target := .collected D, args := #[] } :: a.defers } W) :
    (Code.rangeFunc g #[p] asg body).wpIn Fence.wide 0 C.P Q a W1 := by
  have hmem1 := hr.base.mem
  have hdom : ∀ n b, ρ1.n n = some b → n < st.nm := hmem1.dom
  have hdomv : ∀ e l, ρ1.v e = some l → e < st.nm ∧ l.o < st.nm := hmem1.domv
  have hdomk : ∀ m i l, ρ1.k m i = some l → m < st.nm := hmem1.domk
  -- the function value
  have hgd := opOut_ok hr hg
  obtain ⟨u, w, hu, hcap, hga⟩ := hgd
  obtain rfl := denL_nil hu
  have hcapz : denL (onlyZ ρ1.z) cap w := pureL_den _ _ hpu hcap
  have hno1 : ∀ b, W1.heap.size ≤ b → ∀ n, ¬ Owns ρ1 n b := fun b hb n ho => by have := (hmem1.hb.low n b ho).2; omega
  refine wpIn_rangeFunc ?_
  intro fn hfn
  obtain ⟨rec, hrec⟩ : ∃ rec : LoopState → Option Code → Loop, rec = fun s pe => { state := s, pending := pe, fn, tmps := a.tmps, params := #[p], assign := asg, body, defers := W1.heap.size } := ⟨_, rfl⟩
  obtain ⟨W2, hW2⟩ : ∃ W2, (W1.alloc (.deferred (some []))).alloc (.loop (rec .ready none)) = W2 := ⟨_, rfl⟩
  have hg12 : Gr W1 W2 := by rw [← hW2]; exact ((Gr.refl W1).alloc _).alloc _
  have hL2 : W2.heap[W1.heap.size + 1]? = some (.loop (rec .ready none)) := by
    rw [← hW2]; have := World.alloc_heap_new (W1.alloc (.deferred (some []))) (.loop (rec .ready none)); rwa [World.size_alloc] at this
  have hD2 : W2.heap[W1.heap.size]? = some (.deferred (some [])) := by
    rw [← hW2]; exact (Below.heap_alloc _ _ _ (by simp)).trans (World.alloc_heap_new W1 _)
  have hstep : ∀ {ρb ρ' : Names} {Wb W' : World} {st' : St} {a' : Act} {k : Nat}, Rp C nt Wb (ρ1.own ρb) st' ρ' a' W' → c.at_ st.nm k st' → Wb.heap.size > W1.heap.size + 1 → (∀ n, ¬ Owns ρb n (W1.heap.size + 1)) → (∀ n, ¬ Owns ρb n W1.heap.size) →
      ∃ b ρ2, c.idx b = k ∧ c.P b ∧ Mem C Wb (ρ1.own ρb) (c.nm b) ρ2 W' ∧ (∀ n sb, look (c.H b) n = some sb → Cont ρ2 W' n sb) ∧ (∀ n, ¬ Owns ρ2 n (W1.heap.size + 1)) ∧ (∀ n, ¬ Owns ρ2 n W1.heap.size) ∧ W'.heap[W1.heap.size + 1]? = Wb.heap[W1.heap.size + 1]? ∧ W'.heap[W1.heap.size]? = Wb.heap[W1.heap.size]? := by
    intro ρb ρ' Wb W' st' a' k hr' hat hsz hn1 hn2
    obtain ⟨b, ρ2, h1, h2, h3⟩ := RCut.at_.rp (ρe := ρ1.own ρb) hdom hdomv hdomk hat hr'
    obtain ⟨k1, k2⟩ := h3.base.mem.notOwn (W1 := W1) (hno1 _ (by omega)) hn1 hsz
    obtain ⟨k3, k4⟩ := h3.base.mem.notOwn (W1 := W1) (hno1 _ (by omega)) hn2 (by omega)
    exact ⟨b, ρ2, h1, h2, h3.base.mem, h3.base.blk, k1, k3, k2, k4⟩
  have hin : Mem C W1 ρ1.noD st.nm ρ1 W2 := (Mem.refl hmem1.hb hdom hdomv hdomk).gr hg12
  have hsz2 : W1.heap.size + 1 < W2.heap.size := (Array.getElem?_eq_some_iff.1 hL2).1
  have hstart : RInv C c ρ1 W1 (W1.heap.size + 1) W1.heap.size (.loop (rec .ready none)) ρ1.z 0 W2 := by
    have hrp : Rp C nt W2 (ρ1.own ρ1) st ρ1 { tmps := a.tmps, defers := [] } W2 := ⟨⟨hin.start, fun n sb hn => (hr.base.hok.gr hg12).blk n sb hn, hr.base.sz, rfl⟩, hr.rgs, hr.slots⟩
    obtain ⟨b, ρ2, h1, h2, h3, h4, h5, h6, h7, h8⟩ := hstep hrp h0 hsz2 (hno1 _ (by omega)) (hno1 _ (by omega))
    exact ⟨b, ρ2, h1, h2, h3.le.z, hin.via h3, h4, h5, h6, h7.trans hL2, h8.trans hD2⟩
  refine ⟨W1.heap.size + 1, [{ target := .collected W1.heap.size, args := #[] }], W2, { target := .fn (.func gf) w.toArray, args := #[.func (.yield (W1.heap.size + 1)) #[] #[]] }, W2, gf,
    #[.func (.yield (W1.heap.size + 1)) #[] #[]] ++ w.toArray, W2, ?_, ?_, ?_, ?_, fun h => (by cases h), ?_⟩
  · rw [← hW2, hrec]; exact run_enterLoop_outer _ _ _ _ _
  · simp only [resolve, hga]
    simp [go_sem]
  · intro f' _; trivial
  · simp [invoke, go_sem, eg]
  refine callsIn_wide.2 ((hit (W1.heap.size + 1) (RInv C c ρ1 W1 (W1.heap.size + 1) W1.heap.size (.loop (rec .ready none))) ρ1.z W2 w hcapz hstart ?_ ?_ ?_).mono ?_)
  · rintro z k W ⟨b, ρ, h1, h2, h3, h4, -⟩
    exact ⟨h4.hb.grd, fun b i v hz => h4.hb.zok b i v (h3 b i v hz)⟩
  · rintro z z' k W W' ⟨b, ρ, h1, h2, h3, h4, h5, h6, h7, h8, h9⟩ gr hz'
    refine ⟨b, ρ.addz (fun b i v => z' b i v ∧ W.heap.size ≤ b), h1, h2, fun b i v hz => ?_, ⟨(h4.hb.gr gr).addz fun b i v hz => (hz' b i v hz.1).2, h4.dom, h4.domv, h4.domk, h4.le.trans Names.le_addz, h4.old, fun b i v hz => ?_, h4.keep.gr gr⟩, fun m sb hm => ?_, h6, h7, ?_, ?_⟩
    · rcases hz with hz | hz
      · exact .inl (h3 b i v hz)
      · rcases (hz' b i v hz).1 with h | h
        · exact .inl (h3 b i v h)
        · exact .inr ⟨hz, h⟩
    · rcases hz with hz | hz
      · exact h4.zold b i v hz
      · have := h4.keep.size
        exact .inr (.inl (by omega))
    · have hok : HOk C (c.H b) ρ W := ⟨h4.hb, h5⟩
      exact ((hok.gr gr).blk m sb hm).addz fun b' i v ho hz => by have := (h4.hb.low m b' ho).2; omega
    · exact (Below.block gr _ (Array.getElem?_eq_some_iff.1 h8).1).trans h8
    · exact (Below.block gr _ (Array.getElem?_eq_some_iff.1 h9).1).trans h9
  · -- a round
    rintro z k W u ⟨b, ρ, h1, h2, h3, h4, h5, h6, h7, h8, h9⟩ hkn hu
    have hszW : W1.heap.size + 1 < W.heap.size := (Array.getElem?_eq_some_iff.1 h8).1
    have hy := run_yield (P := C.P) (args := #[u]) h8 (by rw [hrec]; rfl)
    rw [hrec] at hy
    have htm : ((#[p] : Array Tmp).zip #[u]).foldl (fun tmps (x : Tmp × Value) => tmps.setIfInBounds x.1 x.2) a.tmps = a.tmps.setIfInBounds p u := by simp
    replace hy := hy.trans (congrArg (fun t => Result.ok (Next.round (W1.heap.size + 1) fn t asg body) W) htm)
    refine ⟨fn, _, asg, body, hy, roundIn_of_wpIn trivial ?_⟩
    have hrp : Rp C nt W (ρ1.own ρ) ⟨(p, ⟨st.rg, 0, [], f (c.idx b)⟩) :: st.sl, c.H b, c.nm b, st.rg, [], []⟩ ρ { tmps := a.tmps.setIfInBounds p u, defers := [] } W := by
      refine ⟨⟨h4.start, h5, by simp [hr.base.sz], rfl⟩, fun t s hs => ?_, fun t s hs hg => ?_⟩
      · by_cases e : p = t
        · subst e
          rw [look_cons_eq] at hs
          obtain rfl := Option.some.inj hs
          exact Nat.le_refl _
        · rw [look_cons_ne _ _ e] at hs
          exact hr.rgs t s hs
      · by_cases e : p = t
        · subst e
          rw [look_cons_eq] at hs
          obtain rfl := Option.some.inj hs
          refine ⟨u, den_le (ρ := onlyZ z) ⟨fun _ _ h => (by cases h), fun _ _ h => (by cases h), fun _ _ _ h => (by cases h), h3⟩ _ _ (by rw [h1]; exact hu), ?_⟩
          have : p < a.tmps.size := by rw [hr.base.sz]; exact hp
          simp [this]
        · rw [look_cons_ne _ _ e] at hs
          obtain ⟨x, k1, k2⟩ := hr.slots t s hs hg
          exact ⟨x, den_le (ρ := ρ1) (ρ' := ρ) ⟨h4.le.n, h4.le.v, h4.le.k, h4.le.z⟩ _ _ k1, by simpa [Array.getElem?_setIfInBounds_ne e] using k2⟩
    have hA := ev_ok (M := .rnd (W1.heap.size + 1)) (ρe := ρ1.own ρ) hI hm hdom hdomv hdomk asg _ _ hBa (hround b h2 (by rw [h1]; exact hkn)) ρ _ W hrp
    refine wpIn_mono hA ?_
    rintro e a2 W3 ⟨x, st2, ρ2, rfl, hev, hr2⟩
    cases x with
    | exit i => exact hev.elim
    | ret => exact hev.elim
    | normal =>
    obtain ⟨o1, b1⟩ := hr2.base.mem.notOwn (W1 := W1) (b := W1.heap.size + 1) (hno1 _ (by omega)) h6 hszW
    obtain ⟨o2, b2⟩ := hr2.base.mem.notOwn (W1 := W1) (b := W1.heap.size) (hno1 _ (by omega)) h7 (by omega)
    have hl3 := b1.trans h8
    have hd3 := b2.trans h9
    refine ⟨_, run_beginRound hl3 (by rw [hrec]), ?_⟩
    have t34 := turn_put (.loop { rec .ready none with state := .busy }) hl3 rfl rfl
    have hm4 : Mem C W1 ρ1.noD st2.nm ρ2 (W3.putObj (W1.heap.size + 1) (.loop { rec .ready none with state := .busy })) := (h4.via hr2.base.mem).turn t34 (by omega)
    have hl4 : (W3.putObj (W1.heap.size + 1) (.loop { rec .ready none with state := .busy })).heap[W1.heap.size + 1]? = some (.loop { rec .ready none with state := .busy }) := World.putObj_heap_same (Array.getElem?_eq_some_iff.1 hl3).1
    have hd4 : (W3.putObj (W1.heap.size + 1) (.loop { rec .ready none with state := .busy })).heap[W1.heap.size]? = some (.deferred (some [])) := (World.putObj_heap_other (by omega)).trans hd3
    have hrp4 : Rp C nt (W3.putObj (W1.heap.size + 1) (.loop { rec .ready none with state := .busy })) (ρ1.own ρ2) st2 ρ2 a2 (W3.putObj (W1.heap.size + 1) (.loop { rec .ready none with state := .busy })) :=
      ⟨⟨hm4.start, fun m sb hs => (hr2.base.blk m sb hs).turn t34, hr2.base.sz, hr2.base.df⟩, hr2.rgs, hr2.slots⟩
    have hB := ev_ok (M := .rnd (W1.heap.size + 1)) (ρe := ρ1.own ρ2) hI hm hdom hdomv hdomk body _ _ hBb hev ρ2 _ _ hrp4
    refine wpIn_mono hB ?_
    rintro e a5 W5 ⟨x, st3, ρ3, rfl, hev3, hr3⟩
    cases x with
    | exit i => exact hev3.elim
    | ret => exact hev3.elim
    | normal =>
    have hsz4 : (W3.putObj (W1.heap.size + 1) (.loop { rec .ready none with state := .busy })).heap.size > W1.heap.size + 1 := (Array.getElem?_eq_some_iff.1 hl4).1
    obtain ⟨b', ρ5, q1, q2, q3, q4, q5, q6, q7, q8⟩ := hstep hr3 hev3 hsz4 o1 o2
    have hl5 := q7.trans hl4
    have hd5 := q8.trans hd4
    have hend := run_endRound (P := C.P) none hl5
    have t56 := turn_put (.loop { ({ rec .ready none with state := .busy } : Loop) with state := if (none : Option Code).isNone then .ready else .done, pending := none }) hl5 rfl rfl
    refine ⟨_, _, hend, rfl, b', ρ5, q1.trans (by rw [h1]), q2, fun b i v hz => q3.le.z b i v (hr2.base.mem.le.z b i v (h3 b i v hz)), (hm4.via q3).turn t56 (by omega), fun m sb hs => (q4 m sb hs).turn t56, q5, q6, ?_, ?_⟩
    · rw [World.putObj_heap_same (Array.getElem?_eq_some_iff.1 hl5).1, hrec]
      rfl
    · exact (World.putObj_heap_other (by omega)).trans hd5
  · rintro e W' ⟨⟨v, rfl⟩, z, b, ρ, h1, h2, h3, h4, h5, h6, h7, h8, h9⟩
    refine ⟨none, _, by have := run_endLoop (P := C.P) h8 (by rw [hrec]; simp); rw [hrec] at this; exact this, ?_⟩
    have t := turn_put (.loop { rec .ready none with state := .exhausted }) h8 rfl rfl
    rw [hrec] at t
    exact hK b W1.heap.size ρ _ h2 h1 (h4.turn t (by omega)) (fun m sb hs => (h5 m sb hs).turn t) h7 (Nat.le_refl _) ((World.putObj_heap_other (by omega)).trans h9)

/-! ### A function with one range over a function -/
structure RgC where
  g : Operand
  ps : Array Tmp
  asg : Code
  body : Code
  id : Nat
  y : Code
def splitR : Code → Option RgC
  | .seq x y => match x with
    | .seq _ (.block id (.rangeFunc g ps a b)) => some ⟨g, ps, a, b, id, y⟩
    | _ => splitR y
  | _ => none
def codeBS (fl : List Nat) : Code → Bool
  | .seq x y => match x with
    | .seq r (.block _ (.rangeFunc _ _ a b)) => codeB fl r && (codeB fl a && (codeB fl b && codeB fl y))
    | x => codeB fl x && codeBS fl y
  | c => codeB fl c
def evS (Γ : List (Con C)) (nt nm0 : Nat) (I : Inl) (inls : List Nat) (h : How) : Code → St → (Ex → St → Prop) → (St → Prop) → Prop
  | .seq x y, st, K, KR => match x with
    | .seq r (.block _ (.rangeFunc _ _ _ _)) => ev Γ nt nm0 I inls h r st (thenK K KR)
    | x => ev Γ nt nm0 I inls h x st (thenK K fun st' => evS Γ nt nm0 I inls h y st' K KR)
  | c, st, K, _ => ev Γ nt nm0 I inls h c st K
theorem evS_ok {nm0 : Nat} {h : How} {rg : RgC} {w0 : World} {ρe : Names} {Q : Exit → Act → World → Prop} {K : Ex → St → Prop} {KR : St → Prop} (hI : InlOk C I) (hm : C.P.follows .mixedOrders = true) (hdom : ∀ n b, ρe.n n = some b → n < nm0) (hdomv : ∀ e l, ρe.v e = some l → e < nm0 ∧ l.o < nm0) (hdomk : ∀ m i l, ρe.k m i = some l → m < nm0)
    (hK : ∀ x st ρ a W, K x st → Rp C nt w0 ρe st ρ a W → Q (Ex.to x) a W)
    (hR : ∀ st ρ a W, KR st → Rp C nt w0 ρe st ρ a W → (Code.block rg.id (.rangeFunc rg.g rg.ps rg.asg rg.body)).wpIn Fence.wide 0 C.P (Exit.then (fun a W => rg.y.wpIn Fence.wide 0 C.P Q a W) Q) a W) :
    ∀ (code : Code) (st : St) (ρ : Names) (a : Act) (W : World), splitR code = some rg → codeBS h.fl code = true → evS Γ nt nm0 I inls h code st K KR → Rp C nt w0 ρe st ρ a W → code.wpIn Fence.wide 0 C.P Q a W := by
  intro code
  induction code with
  | seq x y _ ihy =>
    intro st ρ a W hsp hB he hr
    unfold splitR at hsp
    unfold codeBS at hB
    unfold evS at he
    split at hsp
    · obtain rfl := Option.some.inj hsp
      simp only at he hB
      simp only [Bool.and_eq_true] at hB
      refine wpIn_seq (wpIn_seq (wpIn_mono (ev_ok (M := .out) hI hm hdom hdomv hdomk _ st _ hB.1 he ρ a W hr) ?_))
      rintro e a' W' ⟨x, st', ρ', rfl, hk, hr'⟩
      cases x with
      | normal => exact hR st' ρ' a' W' hk hr'
      | exit i => exact hK _ _ _ _ _ hk hr'
      | ret => exact hK _ _ _ _ _ hk hr'
    · rename_i hne
      have hB : codeB h.fl x = true ∧ codeBS h.fl y = true := by
        split at hB
        · exact absurd rfl (hne _ _ _ _ _ _)
        · exact Bool.and_eq_true_iff.1 hB
      have he : ev Γ nt nm0 I inls h x st (thenK K fun st' => evS Γ nt nm0 I inls h y st' K KR) := by
        split at he
        · exact absurd rfl (hne _ _ _ _ _ _)
        · exact he
      refine wpIn_seq (wpIn_mono (ev_ok (M := .out) hI hm hdom hdomv hdomk x st _ hB.1 he ρ a W hr) ?_)
      rintro e a' W' ⟨x', st', ρ', rfl, hk, hr'⟩
      cases x' with
      | normal => exact ihy st' ρ' a' W' hsp hB.2 hk hr'
      | exit i => exact hK _ _ _ _ _ hk hr'
      | ret => exact hK _ _ _ _ _ hk hr'
  | _ => intro st ρ a W hsp; cases hsp
/-- What is to be shown where the range begins. -/
def RangeP (Γ : List (Con C)) (nt : Nat) (I : Inl) (inls : List Nat) (h : How) (rg : RgC) (p : Tmp) (KE : Ex → St → Prop) (st : St) : Prop :=
  ∃ (gf : Nat) (cap : List SV) (n : Nat) (f : Nat → SV) (c : RCut),
    opOut st.sl rg.g = some (.f (.func gf) [] cap) ∧ pureL cap = true ∧ (∀ args w, (callFunc gf args).run C.P w = .ok (.enter gf args) w) ∧ ItOk C gf cap n f ∧ c.at_ st.nm 0 st ∧
    (∀ b, c.P b → c.idx b < n → ev Γ nt st.nm I inls h rg.asg ⟨(p, ⟨st.rg, 0, [], f (c.idx b)⟩) :: st.sl, c.H b, c.nm b, st.rg, [], []⟩ fun e st2 => match e with
      | .normal => ev Γ nt st.nm I inls h rg.body st2 fun e st3 => match e with
        | .normal => c.at_ st.nm (c.idx b + 1) st3
        | _ => False
      | _ => False) ∧
    ∀ b, c.P b → c.idx b = n → ev Γ nt (c.nm b) I inls h rg.y ⟨st.sl, c.H b, c.nm b, st.rg, [], []⟩ KE
theorem codeBS_rg {fl : List Nat} {rg : RgC} : ∀ {code : Code}, splitR code = some rg → codeBS fl code = true → codeB fl rg.asg = true ∧ codeB fl rg.body = true ∧ codeB fl rg.y = true := by
  intro code
  induction code with
  | seq x y _ ihy =>
    intro hsp hB
    unfold splitR at hsp
    unfold codeBS at hB
    split at hsp
    · obtain rfl := Option.some.inj hsp
      simp only [Bool.and_eq_true] at hB
      exact ⟨hB.2.1, hB.2.2.1, hB.2.2.2⟩
    · rename_i hne
      split at hB
      · exact absurd rfl (hne _ _ _ _ _ _)
      · exact ihy hsp (Bool.and_eq_true_iff.1 hB).2
  | _ => intro hsp; cases hsp
def FnR (ze : Nat → Nat → Value → Prop) (W : World) (out : SV) (e : Ending) (W' : World) : Prop := ∃ val z', e = .returned val ∧ Gr W W' ∧ (∀ b i c, z' b i c → (ze b i c ∨ W.heap.size ≤ b) ∧ W'.cell? ⟨b, i, none⟩ = some c ∧ c.oneCell' = true) ∧ den (onlyZ z') out val
theorem calls_rng {f : FuncId} {fn : Func} {code : Code} {rg : RgC} {p : Tmp} {args : List SV} {vs : List Value} {ze : Nat → Nat → Value → Prop} {W : World} {out : SV} (h : How) (hI : InlOk C I) (hm : C.P.follows .mixedOrders = true)
    (hf : C.P.funcs[f]? = some fn) (hb : fn.body = some code) (hsp : splitR code = some rg) (hps : rg.ps = #[p]) (hp : Nat.blt p fn.ntmps = true) (hn : Nat.ble args.length fn.ntmps = true) (hB : codeBS h.fl code = true) (hG : C.Grd W) (hz : ∀ b i c, ze b i c → W.cell? ⟨b, i, none⟩ = some c ∧ c.oneCell' = true) (hargs : denL (onlyZ ze) args vs)
    (he : evS Γ fn.ntmps 0 I inls h code ⟨argSlots 0 args, [], 0, 0, [], []⟩ (endK C fn.results.toList fun v H _ => resOut out H v) (RangeP Γ fn.ntmps I inls h rg p (endK C fn.results.toList fun v H _ => resOut out H v))) :
    Calls C.P f vs.toArray W fun e W' => ∃ val z', e = .returned val ∧ Gr W W' ∧ (∀ b i c, z' b i c → (ze b i c ∨ W.heap.size ≤ b) ∧ W'.cell? ⟨b, i, none⟩ = some c ∧ c.oneCell' = true) ∧ den (onlyZ z') out val := by
  have hlen := denL_length hargs
  have hn := Nat.le_of_ble_eq_true hn
  rw [Nat.blt_eq] at hp
  have hH := onlyZ_hok hG hz
  have hrp : Rp C fn.ntmps W (onlyZ ze).noD ⟨argSlots 0 args, [], 0, 0, [], []⟩ (onlyZ ze) { tmps := vs.toArray ++ Array.replicate (fn.ntmps - vs.toArray.size) undef, defers := [] } W := by
    refine ⟨⟨Mem.refl hH.hb (fun n b h => by cases h) (fun e l h => by cases h) (fun m i l h => by cases h), hH.blk, by simp; omega, rfl⟩, fun t s hs => ?_, fun t s hs hg => ?_⟩
    · obtain ⟨i, v, -, -, rfl⟩ := argSlots_look hs
      exact Nat.le_refl _
    · obtain ⟨i, v, rfl, hv, rfl⟩ := argSlots_look hs
      obtain ⟨u, h1, h2⟩ := denL_get hargs hv
      refine ⟨u, h2, ?_⟩
      have hl : i < vs.length := (List.getElem?_eq_some_iff.1 h1).1
      rw [Nat.zero_add, Array.getElem?_append_left (by simpa using hl)]
      simpa using h1
  obtain ⟨hBa, hBb, hBy⟩ := codeBS_rg hsp hB
  refine callsIn_wide.1 (callsIn_of_wp_marks (F := Fence.wide) (n := 0) hf hb trivial ?_ rfl)
  refine evS_ok (w0 := W) (ρe := (onlyZ ze).noD) hI hm (fun n b h => by cases h) (fun e l h => by cases h) (fun m i l h => by cases h) (fun x st ρ a W' hk hr => ?_) (fun st ρ1 a W1 hk hr => ?_) code _ _ _ _ hsp hB he hrp
  · -- an end ahead of the range
    have key : finK C fn.results.toList st (fun v => resOut out st.H v) → LeavesInM Fence.wide 0 C.P fn a.tmps (FnR ze W out) a.defers .returning W' := fun hk => by
      obtain ⟨v, h1, v', H', nm', h2, h3, h4, h5⟩ := end_ok (K := fun v H _ => resOut out H v) rfl hr hk
      rw [show a.defers = [] from hr.base.df]
      exact ⟨v, h1, fn_end h2 h3 h4 h5⟩
    cases x with
    | normal => exact key hk
    | exit i => exact hk.elim
    | ret => exact key hk
  · -- the range
    obtain ⟨gf, cap, n, f', c, r1, r2, r3, r4, r5, r6, r7⟩ := hk
    rw [hps]
    refine wpIn_block (range_ok (h := h) hm hI hr r1 r2 r3 r4 hp hBa hBb r5 r6 fun b D ρ4 W4 q1 q2 q3 q4 q5 q6 q7 => ?_)
    -- what stands behind it
    obtain ⟨ρ5, hρ5⟩ : ∃ ρ5 : Names, ρ5 = ⟨ρ4.n, ρ4.v, ρ4.k, ρ4.z, { target := .collected D, args := #[] } :: a.defers, fun _ => False⟩ := ⟨_, rfl⟩
    have hmem4 : Mem C W4 ρ5 (c.nm b) ρ4 W4 := by
      rw [hρ5]
      exact ⟨q3.hb, q3.dom, q3.domv, q3.domk, ⟨fun _ _ h => h, fun _ _ h => h, fun _ _ _ h => h, fun _ _ _ h => h⟩, fun m _ ho => .inl (.inl ⟨m, ho⟩), fun _ _ _ hz => .inl hz, .refl _ _⟩
    have hrp4 : Rp C fn.ntmps W4 ρ5 ⟨st.sl, c.H b, c.nm b, st.rg, [], []⟩ ρ4 { a with defers := { target := .collected D, args := #[] } :: a.defers } W4 :=
      ⟨⟨hmem4, q4, hr.base.sz, by rw [hρ5]⟩, hr.rgs, fun t s hs hg => let ⟨x, k1, k2⟩ := hr.slots t s hs hg; ⟨x, den_le q3.le.unD _ _ k1, k2⟩⟩
    have hev := ev_ok (M := .out) (ρe := ρ5) (w0 := W4) hI hm (by rw [hρ5]; exact q3.dom) (by rw [hρ5]; exact q3.domv) (by rw [hρ5]; exact q3.domk) rg.y _ _ hBy (r7 b q1 q2) ρ4 _ W4 hrp4
    refine wpIn_mono hev ?_
    rintro e a6 W6 ⟨x, st6, ρ6, rfl, hk6, hr6⟩
    have hDl : D < W4.heap.size := (Array.getElem?_eq_some_iff.1 q7).1
    have hd6 : W6.heap[D]? = some (.deferred (some [])) := (hr6.base.mem.keep.block D hDl fun hm => by
      rw [hρ5] at hm
      rcases hm with ⟨m, ho⟩ | ho
      · exact q5 m ho
      · exact ho).trans q7
    have hmem6 : Mem C W4 ρ4.noD st6.nm ρ6 W6 := by
      have h6 := hr6.base.mem
      rw [hρ5] at h6
      exact ⟨h6.hb, h6.dom, h6.domv, h6.domk, ⟨h6.le.n, h6.le.v, h6.le.k, h6.le.z⟩, h6.old, h6.zold, h6.keep.os, h6.keep.tape, h6.keep.output, h6.keep.size, h6.keep.block⟩
    have hall : Mem C W (onlyZ ze).noD st6.nm ρ6 W6 := (hr.base.mem.trans q3).trans hmem6
    have hDW : W.heap.size ≤ D := Nat.le_trans hr.base.mem.keep.size q6
    have t6 := turn_put (.deferred none) hd6 rfl rfl
    have hdf6 : a6.defers = [{ target := .collected D, args := #[] }] := by
      have := hr6.base.df
      rw [hρ5] at this
      rw [this, show a.defers = [] from hr.base.df]
    have key : finK C fn.results.toList st6 (fun v => resOut out st6.H v) → LeavesInM Fence.wide 0 C.P fn a6.tmps (FnR ze W out) a6.defers .returning W6 := fun hk => by
      have hrp6 : Rp C fn.ntmps W ⟨(onlyZ ze).n, (onlyZ ze).v, (onlyZ ze).k, (onlyZ ze).z, a6.defers, fun _ => False⟩ st6 ρ6 a6 W6 :=
        ⟨⟨⟨hall.hb, hall.dom, hall.domv, hall.domk, ⟨hall.le.n, hall.le.v, hall.le.k, hall.le.z⟩, hall.old, hall.zold, hall.keep.os, hall.keep.tape, hall.keep.output, hall.keep.size, hall.keep.block⟩, hr6.base.blk, hr6.base.sz, rfl⟩, hr6.rgs, hr6.slots⟩
      obtain ⟨v, h1, v', H', nm', h2, h3, h4, h5⟩ := end_ok (K := fun v H _ => resOut out H v) rfl (hrp6.turn t6 hDW) hk
      rw [hdf6]
      refine ⟨by simp, .inl ⟨D, _, rfl, run_takeDeferred hd6, v, h1, ?_⟩⟩
      exact fn_end (ze := ze) h2 ⟨h3.hb, h3.dom, h3.domv, h3.domk, ⟨h3.le.n, h3.le.v, h3.le.k, h3.le.z⟩, h3.old, h3.zold, h3.keep.os, h3.keep.tape, h3.keep.output, h3.keep.size, h3.keep.block⟩ h4 h5
    cases x with
    | normal => exact key hk6
    | exit i => exact hk6.elim
    | ret => exact key hk6
/-- A contract out of such a walk. -/
def rngCon {Fs : List (FnI C)} {d : Nat} {α : Type} (f : FuncId) (en : ∀ (args : Array Value) (w : World), (callFunc f args).run C.P w = .ok (.enter f args) w) (R : Rds α) (pre : α → List Prop) (out : α → SV) (h : α → How) (fl : List Nat) (hfl : ∀ a, (h a).fl = fl) (hm : C.P.follows .mixedOrders = true) {fn : Func} {code : Code} {rg : RgC} {p : Tmp}
    (hf : C.P.funcs[f]? = some fn) (hb : fn.body = some code) (hsp : splitR code = some rg) (hps : rg.ps = #[p]) (hp : Nat.blt p fn.ntmps = true) (hn : ∀ a, Nat.ble (R.enc a).length fn.ntmps = true) (hB : codeBS fl code = true)
    (he : ∀ a, conj (pre a) → evS Γ fn.ntmps 0 (inlD Γ Fs d) (numsI Fs) (h a) code ⟨argSlots 0 (R.enc a), [], 0, 0, [], []⟩ (endK C fn.results.toList fun v H _ => resOut (out a) H v) (RangeP Γ fn.ntmps (inlD Γ Fs d) (numsI Fs) (h a) rg p (endK C fn.results.toList fun v H _ => resOut (out a) H v))) : Con C :=
  mkCon f en R pre out fun a ze W vs hp' hG hz hd => calls_rng (h a) (inlD_ok hm d) hm hf hb hsp hps hp (hn a) (by rw [hfl]; exact hB) hG hz hd (he a hp')
end
end Go.Proofs.YtjdohgcolhpegaaGreatDoor
