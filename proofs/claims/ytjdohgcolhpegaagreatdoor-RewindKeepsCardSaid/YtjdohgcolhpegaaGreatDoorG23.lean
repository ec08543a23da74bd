/- A symbolic executor with lists, 23: an iterator over a slice: what is handed on, one after the other. -/
import Derived.Test.YtjdohgcolhpegaaGreatDoorG22
namespace Go.Proofs.YtjdohgcolhpegaaGreatDoor
open Go.RowKit

def pureSl : List (Nat × Slot) → Bool
  | [] => true
  | (_, s) :: r => match s.g, pureS s.v with | [], true => pureSl r | _, _ => false
theorem pureSl_look {t : Nat} {s : Slot} : ∀ {l : List (Nat × Slot)}, pureSl l = true → look l t = some s → pureS s.v = true
  | [], _, h => by cases h
  | (u, x) :: r, hp, h => by
    simp only [pureSl] at hp
    split at hp
    · rename_i hv
      by_cases e : u = t
      · subst e
        rw [look_cons_eq] at h
        obtain rfl := Option.some.inj h
        exact hv
      · rw [look_cons_ne _ _ e] at h
        exact pureSl_look hp h
    · cases hp
/-- What an iterator's frame holds between two rounds: values whose memory never changes. -/
structure PS {PP : Program} (C : Cx PP) (nt : Nat) (z : Nat → Nat → Value → Prop) (sl : List (Nat × Slot)) (a : Act) (W : World) : Prop where
  grd : C.Grd W
  zok : ∀ b i c, z b i c → W.cell? ⟨b, i, none⟩ = some c ∧ c.oneCell' = true
  sz : a.tmps.size = nt
  df : a.defers = []
  slots : ∀ t s, look sl t = some s → s.g = [] → ∃ x, den (onlyZ z) s.v x ∧ a.tmps[t]? = some x
/-- A state is covered by such slots. -/
def cov (sl : List (Nat × Slot)) (st : St) : Prop := ∃ (σ : List (Nat × Nat)) (t : List Tr), LeSt 0 σ ⟨sl, [], 0, 0, [], []⟩ (trs 0 t st)
/-- .. where yield is called: the operations ahead of it. -/
def covY {PP : Program} {C : Cx PP} (Γ : List (Con C)) (nt : Nat) (I : Inl) (inls : List Nat) (ops pre : List Oper) (sl : List (Nat × Slot)) : St → Prop
  | ⟨sl', H, nm, rg, _, _⟩ => evSeq Γ nt I inls ops false 0 pre ⟨sl', H, nm, rg + 1, [], []⟩ (cov sl)
section
variable {PP : Program} {C : Cx PP} {Γ : List (Con C)} {nt : Nat} {I : Inl} {inls : List Nat} {z : Nat → Nat → Value → Prop} {sl : List (Nat × Slot)} {a : Act} {W W' : World}
theorem onlyZ_le {z z' : Nat → Nat → Value → Prop} (h : ∀ b i c, z b i c → z' b i c) : (onlyZ z).le (onlyZ z') := ⟨fun _ _ h => (by cases h), fun _ _ h => (by cases h), fun _ _ _ h => (by cases h), h⟩
theorem PS.rp {rg : Nat} (h : PS C nt z sl a W) (hrg : rgB rg sl = true) : Rp C nt W (onlyZ z).noD ⟨sl, [], 0, rg, [], []⟩ (onlyZ z) a W :=
  ⟨⟨Mem.refl (onlyZ_hok h.grd h.zok).hb (fun n b h => by cases h) (fun e l h => by cases h) (fun m i l h => by cases h), (onlyZ_hok h.grd h.zok).blk, h.sz, h.df⟩, rgB_ok hrg, h.slots⟩
theorem notMine : ∀ b, ¬ Mine (onlyZ z).noD b := fun b ho => by
  rcases ho with ⟨n, ho | ⟨e, l, o, h1, -⟩ | ⟨i, l, o, h1, -⟩⟩ | ho
  · cases ho
  · cases h1
  · cases h1
  · exact ho
theorem PS.of {st : St} {ρ : Names} (hr : Rp C nt W (onlyZ z).noD st ρ a W') (hc : cov sl st) (hp : pureSl sl = true) :
    Gr W W' ∧ ∃ z' : Nat → Nat → Value → Prop, (∀ b i c, z' b i c → (z b i c ∨ W.heap.size ≤ b) ∧ W'.cell? ⟨b, i, none⟩ = some c ∧ c.oneCell' = true) ∧ PS C nt z' sl a W' := by
  obtain ⟨σ, t, hle⟩ := hc
  obtain ⟨ρ1, hr1⟩ := trs_ok (t := t) (nm0 := 0) (fun n b h => by cases h) (fun e l h => by cases h) (fun m i l h => by cases h) hr
  have hr2 := hle.rp (fun n b h => by cases h) (fun e l h => by cases h) (fun m i l h => by cases h) hr1
  refine ⟨hr.base.mem.keep.to_gr notMine, _, fun b i c hz => ⟨?_, hr2.base.mem.hb.zok b i c hz⟩, hr2.base.mem.hb.grd, hr2.base.mem.hb.zok, hr2.base.sz, hr2.base.df, fun t s hs hg => ?_⟩
  · rcases hr2.base.mem.zold b i c hz with h | h | h
    · exact .inl h
    · exact .inr h
    · exact absurd h (notMine b)
  · obtain ⟨x, h1, h2⟩ := hr2.slots t s hs hg
    exact ⟨x, pure_den _ _ (pureSl_look hp hs) h1, h2⟩
theorem PS.tail {t : Nat} {s : Slot} (h : PS C nt z ((t, s) :: sl) a W) (hn : look sl t = none) : PS C nt z sl a W :=
  ⟨h.grd, h.zok, h.sz, h.df, fun t' s' hs hg => h.slots t' s' (by
    have : t ≠ t' := by rintro rfl; rw [hn] at hs; cases hs
    rw [look_cons_ne _ _ this]; exact hs) hg⟩
/-- .. a value is put where none is known. -/
theorem PS.put {d : Nat} {v : Value} (h : PS C nt z sl a W) (hn : look sl d = none) : PS C nt z sl (a.put (some d) v) W :=
  ⟨h.grd, h.zok, by show (a.tmps.setIfInBounds d v).size = nt; simp [h.sz], h.df, fun t s hs hg => by
    have e : d ≠ t := by rintro rfl; rw [hn] at hs; cases hs
    obtain ⟨x, h1, h2⟩ := h.slots t s hs hg
    exact ⟨x, h1, by show (a.tmps.setIfInBounds d v)[t]? = some x; rw [Array.getElem?_setIfInBounds_ne e]; exact h2⟩⟩
/-- Operations one after the other, ahead of others. -/
theorem evSeq_pre {M : Mode} {w0 : World} {ρe : Names} {ops : Array Oper} {sp : Bool} {Q : Exit → Act → World → Prop} {K : St → Prop} {rest : List Oper} (hI : InlOk C I)
    (hQ : ∀ st ρ a W, K st → RI C nt w0 ρe st ρ a W → wpListIn M.F 0 C.P ops Q rest a W) :
    ∀ (r : List Oper) (k : Nat) (st : St) (ρ : Names) (a : Act) (W : World), (∀ o ∈ r, noDefer o = true) → RI C nt w0 ρe st ρ a W → evSeq Γ nt I inls ops.toList sp k r st K → wpListIn M.F 0 C.P ops Q (r ++ rest) a W
  | [], k, st, ρ, a, W, _, h, he => hQ st ρ a W he h
  | o :: r, k, st, ρ, a, W, hd, h, he => by
    simp only [evSeq, incB_eq] at he
    have := evG_ok (Q := Q) (K := wpListIn M.F 0 C.P ops Q (r ++ rest)) hI h he fun st' ρ' a' W' hM h' => evSeq_pre hI hQ r (k + 1) st' ρ' a' W' (fun o ho => hd o (List.mem_cons_of_mem _ ho)) h' hM
    show wpListIn M.F 0 C.P ops Q (o :: (r ++ rest)) a W
    simp only [wpListIn]
    split
    · rename_i hw
      rw [if_pos hw] at this
      exact operM (hd o List.mem_cons_self) this
    · rename_i hw
      rw [if_neg hw] at this
      exact ⟨fun f _ => M.fn f, this⟩
theorem eval_get {t : Tmp} {x : Value} (h : a.tmps[t]? = some x) : a.eval (.tmp t) = x := eval_some h

/-- A call of yield. -/
theorem op_yield {P : Program} {tf ta dy : Tmp} {ats : Array TypeId} {ty : TypeId} {pos : String} {after : Array Edge} {l : Nat} {u : Value} {K : Act → World → Prop} {Q : Exit → Act → World → Prop}
    (hf : a.eval (.tmp tf) = .func (.yield l) #[] #[]) (ha : a.eval (.tmp ta) = u) {R : Ending → World → Prop} (hY : YieldAt Fence.wide 0 P l #[u] W R) (hR : ∀ e W', R e W' → ∃ v, e = .returned v ∧ K (a.put (some dy) v) W') :
    Oper.wpIn Fence.wide 0 P ⟨some dy, .call ⟨.value (.tmp tf), #[.tmp ta], ats⟩, ty, pos, after, none⟩ a W K Q := by
  obtain ⟨fn, tmps, assign, body, hy, hr⟩ := hY
  refine ⟨fun _ _ => trivial, ?_⟩
  have hrun : (Oper.semAt Fence.wide.round a.eval ⟨some dy, .call ⟨.value (.tmp tf), #[.tmp ta], ats⟩, ty, pos, after, none⟩).run P W = .ok (.round l fn tmps assign body) W := by
    show (execOp a.eval ⟨some dy, .call ⟨.value (.tmp tf), #[.tmp ta], ats⟩, ty, pos, after, none⟩).run P W = _
    have e : (#[Operand.tmp ta].map a.eval) = #[u] := by simp [ha]
    simp only [execOp, resolve, hf, e]
    simpa [invoke, go_sem] using hy
  rw [hrun]
  refine ⟨fun h => (by cases h), hr.mono fun e W' he => ?_⟩
  obtain ⟨v, rfl, hk⟩ := hR e W' he
  exact hk

theorem it_ok {gf : FuncId} {fn : Func} {A T P1 P2 S : Code} {cT tf ta dy dn : Tmp} {b0 b1 yid : Nat} {pre : List Oper} {yops : Array Oper} {cap : List SV} {ats : Array TypeId} {tyY tyN tN : TypeId} {posY posN : String} {afterY afterN : Array Edge} {h : How}
    (hI : InlOk C I) (hm : C.P.follows .mixedOrders = true) (hf : C.P.funcs[gf]? = some fn)
    (hb : fn.body = some (.seq A (.block b0 (.loop (.seq T (.seq (.cond (.tmp cT) .skip (.exit b0)) (.seq (.block b1 (.seq P1 (.seq P2 (.seq (.region yid yops false) (.cond (.tmp dn) .ret .skip))))) S)))))))
    (hres : fn.results = #[]) (hyo : yops.toList = pre ++ [⟨some dy, .call ⟨.value (.tmp tf), #[.tmp ta], ats⟩, tyY, posY, afterY, none⟩, ⟨some dn, .unOp .not tN (.tmp dy), tyN, posN, afterN, none⟩])
    (hpre : pre.all noDefer = true) (hlen : Nat.ble (cap.length + 1) fn.ntmps = true) (hdy : Nat.blt dy fn.ntmps = true) (hdn : Nat.blt dn fn.ntmps = true) (hne : dy ≠ dn)
    (hBA : codeB h.fl A = true) (hBT : codeB h.fl T = true) (hB1 : codeB h.fl P1 = true) (hB2 : codeB h.fl P2 = true) (hBS : codeB h.fl S = true)
    (N : Nat) (cnt : Nat → Nat) (f : Nat → SV) (SL : Nat → Nat → List (Nat × Slot)) (hcp : pureL cap = true)
    (hSp : ∀ l i, pureSl (SL l i) = true) (hSr : ∀ l i, rgB 0 (SL l i) = true) (hSd : ∀ l i, look (SL l i) dy = none ∧ look (SL l i) dn = none ∧ look (SL l i) cT = none ∧ look (SL l i) ta = none ∧ look (SL l i) tf = none) (hfa : tf ≠ ta) (hfp : ∀ k, pureS (f k) = true)
    (h0 : cnt 0 = 0) (hlt : ∀ i, i < N → cnt (i + 1) = cnt i + 1 → cnt i < cnt N)
    (hA : ∀ l, ev Γ fn.ntmps 0 I inls h A ⟨argSlots 0 (.v (.func (.yield l) #[] #[]) :: cap), [], 0, 0, [], []⟩ fun e st => match e with | .normal => cov (SL l 0) st | _ => False)
    (hT : ∀ l i, i ≤ N → ev Γ fn.ntmps 0 I inls h T ⟨SL l i, [], 0, 0, [], []⟩ fun e st => match e with | .normal => cov ((cT, ⟨0, 0, [], .v (.bool (decide (i < N)))⟩) :: SL l i) st | _ => False)
    (hP : ∀ l i, i < N → ev Γ fn.ntmps 0 I inls h P1 ⟨SL l i, [], 0, 0, [], []⟩ fun e st1 => match e with
      | .normal => ev Γ fn.ntmps 0 I inls h P2 st1 fun e st2 => match e with
        | .normal => cnt (i + 1) = cnt i + 1 ∧ covY Γ fn.ntmps I inls yops.toList pre ((tf, ⟨0, 0, [], .v (.func (.yield l) #[] #[])⟩) :: (ta, ⟨0, 0, [], f (cnt i)⟩) :: SL l i) st2
        | .exit j => j = b1 ∧ cnt (i + 1) = cnt i ∧ cov (SL l i) st2
        | .ret => False
      | _ => False)
    (hS : ∀ l i, i < N → ev Γ fn.ntmps 0 I inls h S ⟨SL l i, [], 0, 0, [], []⟩ fun e st => match e with | .normal => cov (SL l (i + 1)) st | _ => False) :
    ItOk C gf cap (cnt N) f := by
  intro l J z W vs hcap hJ hfacts hgrow hround
  have hlen := Nat.le_of_ble_eq_true hlen
  rw [Nat.blt_eq] at hdy hdn
  have hvl := denL_length hcap
  have hd0 : ∀ {z : Nat → Nat → Value → Prop}, ∀ n b, (onlyZ z).noD.n n = some b → n < 0 := fun n b h => by cases h
  have hd1 : ∀ {z : Nat → Nat → Value → Prop}, ∀ e l, (onlyZ z).noD.v e = some l → e < 0 ∧ l.o < 0 := fun n b h => by cases h
  have hd2 : ∀ {z : Nat → Nat → Value → Prop}, ∀ m i l, (onlyZ z).noD.k m i = some l → m < 0 := fun n b m h => by cases h
  have adv : ∀ {z : Nat → Nat → Value → Prop} {sl : List (Nat × Slot)} {st : St} {ρ : Names} {a : Act} {W W' : World} {k : Nat}, J z k W → Rp C fn.ntmps W (onlyZ z).noD st ρ a W' → cov sl st → pureSl sl = true → ∃ z', J z' k W' ∧ PS C fn.ntmps z' sl a W' := by
    intro z sl st ρ a W W' k hj hr hc hp
    obtain ⟨g, z', h1, h2⟩ := PS.of hr hc hp
    have hj' := hgrow z z' k W W' hj g h1
    obtain ⟨f1, f2⟩ := hfacts _ _ _ hj'
    exact ⟨_, hj', f1, f2, h2.sz, h2.df, fun t s hs hg => let ⟨x, q1, q2⟩ := h2.slots t s hs hg; ⟨x, den_le (onlyZ_le fun _ _ _ h => .inr h) _ _ q1, q2⟩⟩
  refine calls_of_wp hf hb ((wpIn_wide (n := 0)).1 ?_)
  -- ahead of the loop
  obtain ⟨a0, ha0⟩ : ∃ a0 : Act, a0 = { tmps := ((#[.func (.yield l) #[] #[]] : Array Value) ++ vs.toArray) ++ Array.replicate (fn.ntmps - ((#[.func (.yield l) #[] #[]] : Array Value) ++ vs.toArray).size) undef, defers := [] } := ⟨_, rfl⟩
  rw [← ha0]
  have hps0 : PS C fn.ntmps z (argSlots 0 (.v (.func (.yield l) #[] #[]) :: cap)) a0 W := by
    obtain ⟨f1, f2⟩ := hfacts _ _ _ hJ
    refine ⟨f1, f2, by rw [ha0]; simp; omega, by rw [ha0], fun t s hs hg => ?_⟩
    obtain ⟨i, v, rfl, hv, rfl⟩ := argSlots_look hs
    obtain ⟨u, h1, h2⟩ := denL_get (denL_cons_of (x := .v (.func (.yield l) #[] #[])) (a := .func (.yield l) #[] #[]) rfl hcap) hv
    refine ⟨u, h2, ?_⟩
    have hl : i < vs.length + 1 := by have := (List.getElem?_eq_some_iff.1 h1).1; simpa using this
    rw [ha0, Nat.zero_add]
    show (((#[.func (.yield l) #[] #[]] : Array Value) ++ vs.toArray) ++ Array.replicate _ undef)[i]? = some u
    rw [Array.getElem?_append_left (by simp; omega)]
    rw [← h1]
    simp [← Array.getElem?_toList]
  have hrg0 : rgB 0 (argSlots 0 (.v (.func (.yield l) #[] #[]) :: cap)) = true := by
    have : ∀ (l : List SV) (k : Nat), rgB 0 (argSlots k l) = true := by
      intro l
      induction l with
      | nil => intro k; rfl
      | cons x r ih => intro k; simp only [argSlots, rgB]; exact ih (k + 1)
    exact this _ _
  refine wpIn_seq (wpIn_mono (ev_ok (M := .out) hI hm hd0 hd1 hd2 A _ _ hBA (hA l) _ a0 W (hps0.rp hrg0)) ?_)
  rintro e a1 W1 ⟨x, st, ρ, rfl, hk, hr⟩
  cases x with
  | exit i => exact hk.elim
  | ret => exact hk.elim
  | normal =>
  obtain ⟨z1, hj1, hps1⟩ := adv hJ hr hk (hSp l 0)
  refine wpIn_block (loop_ghostM (M := .out) (fun m a W => ∃ i z, N - i = m ∧ i ≤ N ∧ J z (cnt i) W ∧ PS C fn.ntmps z (SL l i) a W) N ⟨0, z1, rfl, Nat.zero_le _, by rw [h0]; exact hj1, hps1⟩ ?_)
  rintro m a W ⟨i, z, hm', hi, hj, hps⟩
  refine wpIn_seq (wpIn_mono (ev_ok (M := .out) hI hm hd0 hd1 hd2 T _ _ hBT (hT l i hi) _ a W (hps.rp (hSr l i))) ?_)
  rintro e a2 W2 ⟨x, st, ρ, rfl, hk, hr⟩
  cases x with
  | exit i => exact hk.elim
  | ret => exact hk.elim
  | normal =>
  obtain ⟨z2, hj2, hps2⟩ := adv hj hr hk (by simp only [pureSl, pureS]; exact hSp l i)
  obtain ⟨xb, hb1, hb2⟩ := hps2.slots cT _ (look_cons_eq _ _ _) rfl
  obtain rfl : xb = .bool (decide (i < N)) := hb1
  have hps3 := hps2.tail (hSd l i).2.2.1
  by_cases hiN : i < N
  rotate_left
  · -- the end
    obtain rfl : i = N := by omega
    refine wpIn_seq (wpIn_cond_false (by rw [eval_get hb2]; simp) (wpIn_exit ?_))
    show (if b0 = b0 then _ else _)
    rw [if_pos rfl]
    exact ⟨hps2.df, _, results_none hres _ _ _, ⟨_, rfl⟩, z2, hj2⟩
  refine wpIn_seq (wpIn_cond_true (by rw [eval_get hb2]; simp [hiN]) (wpIn_skip ?_))
  show Code.wpIn _ _ _ _ _ _ _
  -- behind an element: the rest of the round
  have hrest : ∀ {z3 : Nat → Nat → Value → Prop} {a3 : Act} {W3 : World}, J z3 (cnt (i + 1)) W3 → PS C fn.ntmps z3 (SL l i) a3 W3 → S.wpIn Fence.wide 0 C.P (Exit.then (fun a' W' => ∃ m', m' < m ∧ ∃ i z, N - i = m' ∧ i ≤ N ∧ J z (cnt i) W' ∧ PS C fn.ntmps z (SL l i) a' W') (Exit.inBlock b0 (bodyPost C.P fn fun e W' => (∃ v, e = .returned v) ∧ ∃ z, J z (cnt N) W'))) a3 W3 := by
    intro z3 a3 W3 hj3 hp3
    refine wpIn_mono (ev_ok (M := .out) hI hm hd0 hd1 hd2 S _ _ hBS (hS l i hiN) _ a3 W3 (hp3.rp (hSr l i))) ?_
    rintro e a4 W4 ⟨x, st, ρ, rfl, hk, hr⟩
    cases x with
    | exit i => exact hk.elim
    | ret => exact hk.elim
    | normal =>
    obtain ⟨z4, hj4, hps4⟩ := adv hj3 hr hk (hSp l (i + 1))
    exact ⟨N - (i + 1), by omega, i + 1, z4, rfl, by omega, hj4, hps4⟩
  refine wpIn_seq (wpIn_block (wpIn_seq (wpIn_mono (ev_ok (M := .out) hI hm hd0 hd1 hd2 P1 _ _ hB1 (hP l i hiN) _ a2 W2 (hps3.rp (hSr l i))) ?_)))
  rintro e a5 W5 ⟨x, st5, ρ5, rfl, hk5, hr5⟩
  cases x with
  | exit i => exact hk5.elim
  | ret => exact hk5.elim
  | normal =>
  refine wpIn_seq (wpIn_mono (ev_ok (M := .out) hI hm hd0 hd1 hd2 P2 _ _ hB2 hk5 _ a5 W5 hr5) ?_)
  rintro e a6 W6 ⟨x, st6, ρ6, rfl, hk6, hr6⟩
  cases x with
  | ret => exact hk6.elim
  | exit j =>
    obtain ⟨rfl, hc, hcov⟩ := hk6
    obtain ⟨z6, hj6, hps6⟩ := adv hj2 hr6 hcov (hSp l i)
    show (if j = j then _ else _)
    rw [if_pos rfl]
    exact hrest (by rw [hc]; exact hj6) hps6
  | normal =>
  obtain ⟨hc, hcov⟩ := hk6
  obtain ⟨sl6, H6, nm6, rg6, rd6, ws6⟩ := st6
  refine wpIn_seq (wpIn_region_list ?_)
  rw [hyo]
  refine evSeq_pre (M := .out) (K := cov ((tf, ⟨0, 0, [], .v (.func (.yield l) #[] #[])⟩) :: (ta, ⟨0, 0, [], f (cnt i)⟩) :: SL l i)) hI ?_ pre 0 _ ρ6 a6 W6 (List.all_eq_true.1 hpre) hr6.enter hcov
  intro st7 ρ7 a7 W7 hk7 hr7
  obtain ⟨z7, hj7, hps7⟩ := adv hj2 hr7.leave hk7 (by simp only [pureSl, pureS, hfp]; exact hSp l i)
  obtain ⟨xf, f1, f2⟩ := hps7.slots tf _ (look_cons_eq _ _ _) rfl
  obtain ⟨xu, u1, u2⟩ := hps7.slots ta _ (by rw [look_cons_ne _ _ hfa]; exact look_cons_eq _ _ _) rfl
  obtain rfl : xf = .func (.yield l) #[] #[] := f1
  have hps8 : PS C fn.ntmps z7 (SL l i) a7 W7 := (hps7.tail (by rw [look_cons_ne _ _ (Ne.symm hfa)]; exact (hSd l i).2.2.2.2)).tail (hSd l i).2.2.2.1
  have hlt' := hlt i hiN hc
  have hY := hround z7 (cnt i) W7 xu hj7 hlt' u1
  show wpListIn Fence.wide 0 C.P yops _ _ a7 W7
  simp only [wpListIn]
  rw [if_pos (wanted_none rfl)]
  refine op_yield (eval_get f2) (eval_get u2) hY ?_
  rintro e W8 ⟨rfl, hj8⟩
  refine ⟨_, rfl, ?_⟩
  rw [if_pos (wanted_none rfl)]
  obtain ⟨g1, g2⟩ := hfacts _ _ _ hj8
  have hps9 : PS C fn.ntmps z7 (SL l i) a7 W8 := ⟨g1, g2, hps8.sz, hps8.df, hps8.slots⟩
  have hps10 := hps9.put (v := .bool true) (hSd l i).1
  have hev1 : (a7.put (some dy) (.bool true)).eval (.tmp dy) = .bool true := eval_get (by
    show (a7.tmps.setIfInBounds dy (.bool true))[dy]? = _
    have : dy < a7.tmps.size := by rw [hps8.sz]; exact hdy
    simp [this])
  have hev2 : ((a7.put (some dy) (.bool true)).put (some dn) (.bool false)).eval (.tmp dn) = .bool false := eval_get (by
    show ((a7.tmps.setIfInBounds dy (.bool true)).setIfInBounds dn (.bool false))[dn]? = _
    have : dn < a7.tmps.size := by rw [hps8.sz]; exact hdn
    simp [this])
  refine operM (M := .out) rfl ?_
  unfold Oper.wp
  rw [ex_un (v := .bool false) (by rw [hev1]; rfl)]
  refine wpIn_cond_false hev2 (wpIn_skip ?_)
  exact hrest (by rw [hc]; exact hj8) (hps10.put (hSd l i).2.1)
end
end Go.Proofs.YtjdohgcolhpegaaGreatDoor
