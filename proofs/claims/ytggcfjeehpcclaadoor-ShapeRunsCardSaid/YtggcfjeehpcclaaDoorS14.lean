/- A symbolic executor, 15: code; functions. -/
import Derived.Test.YtggcfjeehpcclaaDoorS13
namespace Go.Proofs.YtggcfjeehpcclaaDoor
open Go.RowKit

inductive Ex where
  | normal
  | exit (id : Nat)
  | ret
def Ex.to : Ex → Exit
  | .normal => .normal
  | .exit i => .exit i
  | .ret => .ret

/-- An operand between regions. -/
def opOut (sl : List (Nat × Slot)) : Operand → Option SV
  | .const v => some (constSV v)
  | .global g => some (.v (.pointer (some ⟨g, 0, none⟩)))
  | .func f => some (.v (.func (.func f) #[] #[]))
  | .tmp t => match look sl t with
    | none => none
    | some s => match s.g with | [] => some s.v | _ :: _ => none
def memN (n : Nat) : List Nat → Bool
  | [] => false
  | m :: r => match Nat.beq m n with | true => true | false => memN n r

/-! ### A state is covered by another one -/
def ren : List (Nat × Nat) → Nat → Nat
  | [], n => n
  | (a, b) :: r, n => match Nat.beq a n with | true => b | false => ren r n
/-- The names below nm, under other names. -/
def cutN (nm : Nat) (σ : List (Nat × Nat)) (ρ : Names) : Names := fun n => match Nat.blt n nm with | true => ρ (ren σ n) | false => none
def veq (nm : Nat) (σ : List (Nat × Nat)) (v' v : SV) : Prop := ∀ ρ x, den ρ v = some x → den (cutN nm σ ρ) v' = some x
def veqL (nm : Nat) (σ : List (Nat × Nat)) (v' v : List SV) : Prop := ∀ ρ x, denL ρ v = some x → denL (cutN nm σ ρ) v' = some x
def leSl (nm : Nat) (σ : List (Nat × Nat)) : List (Nat × Slot) → St → Prop
  | [], _ => True
  | (t, s') :: r, st => (match look st.sl t with
    | none => False
    | some s => match s.g, s'.g with | [], [] => veq nm σ s'.v s.v | _, _ => False) ∧ leSl nm σ r st
def leH (nm : Nat) (σ : List (Nat × Nat)) : List (Nat × SB) → St → Prop
  | [], _ => True
  | (n, sb') :: r, st => (match look st.H (ren σ n), Nat.blt n nm with
    | some sb, true => sb'.t = sb.t ∧ veqL nm σ sb'.cs sb.cs
    | _, _ => False) ∧ leH nm σ r st
def freshB (σ : List (Nat × Nat)) (m : Nat) : Nat → Bool
  | 0 => true
  | k + 1 => match Nat.beq (ren σ k) (ren σ m) with | true => false | false => freshB σ m k
def injB (σ : List (Nat × Nat)) : Nat → Bool
  | 0 => true
  | k + 1 => match freshB σ k k with | true => injB σ k | false => false
def fixB (σ : List (Nat × Nat)) : Nat → Bool
  | 0 => true
  | k + 1 => match Nat.beq (ren σ k) k with | true => fixB σ k | false => false
def rgB (rg : Nat) : List (Nat × Slot) → Bool
  | [] => true
  | (_, s) :: r => match Nat.ble s.rg rg with | true => rgB rg r | false => false
def coverB (nm0 : Nat) (σ : List (Nat × Nat)) (st' : St) : Bool := match Nat.ble nm0 st'.nm, injB σ st'.nm, fixB σ nm0, rgB st'.rg st'.sl with | true, true, true, true => true | _, _, _, _ => false
/-- The state st is one of those that st' describes. -/
def LeSt (nm0 : Nat) (σ : List (Nat × Nat)) (st' st : St) : Prop := coverB nm0 σ st' = true ∧ leSl st'.nm σ st'.sl st ∧ leH st'.nm σ st'.H st

/-- Where ways meet; what a loop keeps. -/
structure Cut where
  α : Type
  P : α → Prop
  J : α → St
  μ : α → Nat
def headId : Code → Option Nat
  | .region id _ _ => some id
  | .seq x _ => headId x
  | .block _ x => headId x
  | .loop x => headId x
  | _ => none
def lookC : List (Nat × Cut) → Nat → Option Cut
  | [], _ => none
  | (m, a) :: r, n => match Nat.beq m n with | true => some a | false => lookC r n
def cutAt (cuts : List (Nat × Cut)) (c : Code) : Option Cut := match headId c with | none => none | some id => lookC cuts id
def thenK (K : Ex → St → Prop) (M : St → Prop) : Ex → St → Prop
  | .normal, st => M st
  | .exit i, st => K (.exit i) st
  | .ret, st => K .ret st
/-- A loop taken apart, round by round. -/
def unr (f : St → (Ex → St → Prop) → Prop) : Nat → St → (Ex → St → Prop) → Prop
  | 0, _, _ => False
  | n + 1, st, K => f st (thenK K fun st' => unr f n st' K)
/-- How code is walked: which drawn regions are taken whole; where ways meet; what loops keep; how many rounds are taken apart. -/
structure How where
  fl : List Nat
  cuts : List (Nat × Cut)
  invs : List (Nat × Cut)
  fu : Nat
def ev {PP : Program} {C : Cx PP} (Γ : List (Con C)) (nt nm0 : Nat) (h : How) : Code → St → (Ex → St → Prop) → Prop
  | .skip, st, K => K .normal st
  | .region id ops draw, st, K => evRegion Γ nt (memN id h.fl) ops draw st (K .normal)
  | .seq x y, st, K => match cutAt h.cuts y with
    | none => ev Γ nt nm0 h x st (thenK K fun st' => ev Γ nt nm0 h y st' K)
    | some c => ev Γ nt nm0 h x st (thenK K fun st' => ∃ a σ, c.P a ∧ LeSt nm0 σ (c.J a) st') ∧ ∀ a, c.P a → ev Γ nt nm0 h y (c.J a) K
  | .cond c x y, st, K => match opOut st.sl c with
    | some (.bl true) => ev Γ nt nm0 h x st K
    | some (.bl false) => ev Γ nt nm0 h y st K
    | some (.v (.bool b)) => (b = true → ev Γ nt nm0 h x st K) ∧ (b = false → ev Γ nt nm0 h y st K)
    | _ => False
  | .block id x, st, K => ev Γ nt nm0 h x st fun e st' => match e with
    | .normal => K .normal st'
    | .exit i => match Nat.beq i id with | true => K .normal st' | false => K (.exit i) st'
    | .ret => K .ret st'
  | .loop x, st, K => match cutAt h.invs x with
    | none => unr (fun st K => ev Γ nt nm0 h x st K) h.fu st K
    | some c => (∃ a σ, c.P a ∧ LeSt nm0 σ (c.J a) st) ∧ ∀ a, c.P a → ev Γ nt nm0 h x (c.J a) (thenK K fun st' => ∃ b σ, c.P b ∧ c.μ b < c.μ a ∧ LeSt nm0 σ (c.J b) st')
  | .exit id, st, K => K (.exit id) st
  | .ret, st, K => K .ret st
  | _, _, _ => False

/-- The drawn regions of a code have their form. -/
def codeB (fl : List Nat) : Code → Bool
  | .region id ops draw => regionB (memN id fl) ops draw
  | .seq x y => codeB fl x && codeB fl y
  | .cond _ x y => codeB fl x && codeB fl y
  | .block _ x => codeB fl x
  | .loop x => codeB fl x
  | _ => true

section
variable {PP : Program} {C : Cx PP} {Γ : List (Con C)} {nt : Nat} {w0 : World} {ρe : Names}

/-- What is claimed of code, in the states that are described. -/
def Sat {PP : Program} (C : Cx PP) (nt : Nat) (w0 : World) (ρe : Names) (c : Code) (st : St) (K : Ex → St → Prop) : Prop :=
  ∀ ρ a W, Rp C nt w0 ρe st ρ a W → c.wp C.P (fun e a' W' => ∃ x st' ρ', e = Ex.to x ∧ K x st' ∧ Rp C nt w0 ρe st' ρ' a' W') a W

theorem opOut_ok {st : St} {ρ : Names} {a : Act} {W : World} (h : Rp C nt w0 ρe st ρ a W) {x : Operand} {v : SV} (e : opOut st.sl x = some v) : den ρ v = some (a.eval x) := by
  unfold opOut at e
  split at e
  · obtain rfl := Option.some.inj e; exact constSV_den
  · obtain rfl := Option.some.inj e; rfl
  · obtain rfl := Option.some.inj e; rfl
  · split at e
    · cases e
    · rename_i s hs
      split at e
      · rename_i hg
        obtain rfl := Option.some.inj e
        obtain ⟨y, h1, h2⟩ := h.slots _ s hs hg
        rw [eval_some h2]; exact h1
      · cases e

theorem freshB_ok {σ : List (Nat × Nat)} {m : Nat} : ∀ {k : Nat}, freshB σ m k = true → ∀ i, i < k → ren σ i ≠ ren σ m
  | 0, _, i, hi => by omega
  | k + 1, h, i, hi => by
    simp only [freshB] at h
    split at h
    · cases h
    · rename_i hb
      rcases Nat.eq_or_lt_of_le (Nat.le_of_lt_succ hi) with rfl | hi
      · intro e; rw [e, Nat.beq_refl] at hb; cases hb
      · exact freshB_ok h i hi
theorem injB_ok {σ : List (Nat × Nat)} : ∀ {k : Nat}, injB σ k = true → ∀ i j, i < k → j < k → ren σ i = ren σ j → i = j
  | 0, _, i, j, hi, _, _ => by omega
  | k + 1, h, i, j, hi, hj, e => by
    simp only [injB] at h
    split at h
    · rename_i hf
      rcases Nat.eq_or_lt_of_le (Nat.le_of_lt_succ hi) with rfl | hi
      · rcases Nat.eq_or_lt_of_le (Nat.le_of_lt_succ hj) with rfl | hj
        · rfl
        · exact absurd e.symm (freshB_ok hf j hj)
      · rcases Nat.eq_or_lt_of_le (Nat.le_of_lt_succ hj) with rfl | hj
        · exact absurd e (freshB_ok hf i hi)
        · exact injB_ok h i j hi hj e
    · cases h
theorem fixB_ok {σ : List (Nat × Nat)} : ∀ {k : Nat}, fixB σ k = true → ∀ i, i < k → ren σ i = i
  | 0, _, i, hi => by omega
  | k + 1, h, i, hi => by
    simp only [fixB] at h
    split at h
    · rename_i hb
      rcases Nat.eq_or_lt_of_le (Nat.le_of_lt_succ hi) with rfl | hi
      · exact Nat.eq_of_beq_eq_true hb
      · exact fixB_ok h i hi
    · cases h
theorem rgB_ok {rg : Nat} : ∀ {l : List (Nat × Slot)}, rgB rg l = true → ∀ t s, look l t = some s → s.rg ≤ rg
  | [], _, t, s, h => by cases h
  | (u, x) :: r, h, t, s, hs => by
    simp only [rgB] at h
    split at h
    · rename_i hb
      by_cases e : u = t
      · subst e
        rw [look_cons_eq] at hs
        obtain rfl := Option.some.inj hs
        exact Nat.le_of_ble_eq_true hb
      · rw [look_cons_ne _ _ e] at hs
        exact rgB_ok h t s hs
    · cases h
theorem leSl_ok {nm : Nat} {σ : List (Nat × Nat)} {st : St} : ∀ {l : List (Nat × Slot)}, leSl nm σ l st → ∀ t s', look l t = some s' → ∃ s, look st.sl t = some s ∧ s.g = [] ∧ veq nm σ s'.v s.v
  | [], _, t, s', h => by cases h
  | (u, x) :: r, h, t, s', hs => by
    obtain ⟨h1, h2⟩ := h
    by_cases e : u = t
    · subst e
      rw [look_cons_eq] at hs
      obtain rfl := Option.some.inj hs
      split at h1
      · exact h1.elim
      · rename_i s hl
        split at h1
        · rename_i hg _
          exact ⟨s, hl, hg, h1⟩
        · exact h1.elim
    · rw [look_cons_ne _ _ e] at hs
      exact leSl_ok h2 t s' hs
theorem leH_ok {nm : Nat} {σ : List (Nat × Nat)} {st : St} : ∀ {l : List (Nat × SB)}, leH nm σ l st → ∀ n sb', look l n = some sb' → n < nm ∧ ∃ sb, look st.H (ren σ n) = some sb ∧ sb'.t = sb.t ∧ veqL nm σ sb'.cs sb.cs
  | [], _, t, s', h => by cases h
  | (u, x) :: r, h, t, s', hs => by
    obtain ⟨h1, h2⟩ := h
    by_cases e : u = t
    · subst e
      rw [look_cons_eq] at hs
      obtain rfl := Option.some.inj hs
      split at h1
      · rename_i sb hl hb
        rw [Nat.blt_eq] at hb
        exact ⟨hb, sb, hl, h1⟩
      · exact h1.elim
    · rw [look_cons_ne _ _ e] at hs
      exact leH_ok h2 t s' hs
theorem cutN_some {nm n b : Nat} {σ : List (Nat × Nat)} {ρ : Names} (h : cutN nm σ ρ n = some b) : n < nm ∧ ρ (ren σ n) = some b := by
  unfold cutN at h
  split at h
  · rename_i hb
    rw [Nat.blt_eq] at hb
    exact ⟨hb, h⟩
  · cases h
theorem cutN_of {nm n b : Nat} {σ : List (Nat × Nat)} {ρ : Names} (hn : n < nm) (h : ρ (ren σ n) = some b) : cutN nm σ ρ n = some b := by
  unfold cutN
  rw [← Nat.blt_eq] at hn
  rw [hn]; exact h
/-- What is shown of a description holds of what it covers. -/
theorem LeSt.rp {nm0 : Nat} {σ : List (Nat × Nat)} {st st' : St} {ρ : Names} {a : Act} {W : World} (hdom : ∀ n b, ρe n = some b → n < nm0) (h : LeSt nm0 σ st' st) (hr : Rp C nt w0 ρe st ρ a W) : Rp C nt w0 ρe st' (cutN st'.nm σ ρ) a W := by
  obtain ⟨h1, h2, h3⟩ := h
  unfold coverB at h1
  split at h1
  · rename_i c1 c2 c3 c4
    have c1 := Nat.le_of_ble_eq_true c1
    have c2 := injB_ok c2
    have c3 := fixB_ok c3
    have c4 := rgB_ok c4
    refine ⟨⟨⟨fun n sb hn => ?_, fun i j b hi hj => ?_, fun n b hn => hr.base.hok.low _ b (cutN_some hn).2, hr.base.hok.grd⟩, fun n b hn => (cutN_some hn).1, fun n b hn => ?_, fun n b hn => ?_, hr.base.keep, hr.base.sz, hr.base.df⟩, c4, fun t s hs hg => ?_⟩
    · obtain ⟨k1, sb2, k2, k3, k4⟩ := leH_ok h3 n sb hn
      obtain ⟨b, vs, k5, k6, k7⟩ := hr.base.hok.blk _ sb2 k2
      exact ⟨b, vs, cutN_of k1 k5, k4 ρ vs k6, by rw [k3]; exact k7⟩
    · obtain ⟨k1, k2⟩ := cutN_some hi
      obtain ⟨k3, k4⟩ := cutN_some hj
      exact c2 i j k1 k3 (hr.base.hok.inj _ _ b k2 k4)
    · have := hdom n b hn
      exact cutN_of (by omega) (by rw [c3 n this]; exact hr.base.le n b hn)
    · obtain ⟨k1, k2⟩ := cutN_some hn
      rcases hr.base.old _ b k2 with k3 | k3
      · have k4 := hdom _ b k3
        have k5 := c3 _ k4
        have k6 := c2 _ _ k1 (by omega) k5.symm
        rw [← k6] at k3
        exact .inl k3
      · exact .inr k3
    · obtain ⟨s2, k1, k2, k3⟩ := leSl_ok h2 t s hs
      obtain ⟨x, k4, k5⟩ := hr.slots t s2 k1 k2
      exact ⟨x, k3 ρ x k4, k5⟩
  · cases h1

theorem least {p : Nat → Prop} (h : ∃ n, p n) : ∃ n, p n ∧ ∀ m, m < n → ¬ p m := by
  obtain ⟨n, hn⟩ := h
  induction n using Nat.strongRecOn with
  | _ n ih =>
    by_cases hm : ∃ m, m < n ∧ p m
    · obtain ⟨m, h1, h2⟩ := hm
      exact ih m h1 h2
    · exact ⟨n, hn, fun m h1 h2 => hm ⟨m, h1, h2⟩⟩
/-- A loop by what it keeps, counted by a number that nobody sees. -/
theorem wp_loop_ghost {P : Program} {Q : Exit → Act → World → Prop} {a : Act} {w : World} {c : Code} (I : Nat → Act → World → Prop) (h0 : ∃ n, I n a w)
    (round : ∀ n a w, I n a w → c.wp P (Exit.then (fun a' w' => ∃ m, m < n ∧ I m a' w') Q) a w) : (Code.loop c).wp P Q a w := by
  refine wp_loop (fun a w => ∃ n, I n a w) (fun a w => Classical.epsilon fun n => I n a w ∧ ∀ m, m < n → ¬ I m a w) h0 fun a w h => ?_
  have hs := Classical.epsilon_spec (least h)
  refine Code.wp_mono ?_ (round _ a w hs.1)
  intro e a' w' hq
  cases e with
  | normal =>
    obtain ⟨m, h1, h2⟩ := hq
    have hs' := Classical.epsilon_spec (least (p := fun n => I n a' w') ⟨m, h2⟩)
    refine ⟨⟨m, h2⟩, ?_⟩
    refine Nat.lt_of_le_of_lt ?_ h1
    exact Nat.le_of_not_lt fun h3 => hs'.2 m h3 h2
  | exit i => exact hq
  | goto i => exact hq
  | ret => exact hq
  | panic ch => exact hq
  | outgrown => exact hq

theorem sat_mono {c : Code} {st : St} {K K' : Ex → St → Prop} (h : Sat C nt w0 ρe c st K) (hk : ∀ e st, K e st → K' e st) : Sat C nt w0 ρe c st K' :=
  fun ρ a W hr => wp_mono (h ρ a W hr) fun _ _ _ ⟨x, st', ρ', h1, h2, h3⟩ => ⟨x, st', ρ', h1, hk _ _ h2, h3⟩

theorem sat_seq {x y : Code} {st : St} {K : Ex → St → Prop} {M : St → Prop} (hx : Sat C nt w0 ρe x st (thenK K M)) (hy : ∀ st' ρ a W, M st' → Rp C nt w0 ρe st' ρ a W → y.wp C.P (fun e a' W' => ∃ x st' ρ', e = Ex.to x ∧ K x st' ∧ Rp C nt w0 ρe st' ρ' a' W') a W) : Sat C nt w0 ρe (.seq x y) st K := by
  intro ρ a W hr
  refine wp_seq (wp_mono (hx ρ a W hr) ?_)
  rintro e a' W' ⟨x', st', ρ', rfl, hk, hr'⟩
  cases x' with
  | normal => exact hy st' ρ' a' W' hk hr'
  | exit i => exact ⟨.exit i, st', ρ', rfl, hk, hr'⟩
  | ret => exact ⟨.ret, st', ρ', rfl, hk, hr'⟩

theorem sat_unr {x : Code} {f : St → (Ex → St → Prop) → Prop} {K : Ex → St → Prop} (hf : ∀ st K, f st K → Sat C nt w0 ρe x st K) {n : Nat} {st : St} (h : unr f n st K) : Sat C nt w0 ρe (.loop x) st K := by
  intro ρ a W hr
  refine wp_loop_ghost (fun n a W => ∃ st ρ, Rp C nt w0 ρe st ρ a W ∧ unr f n st K) ⟨n, st, ρ, hr, h⟩ ?_
  rintro n a W ⟨st, ρ, hr, h⟩
  cases n with
  | zero => exact h.elim
  | succ n =>
    refine wp_mono (hf st _ h ρ a W hr) ?_
    rintro e a' W' ⟨x', st', ρ', rfl, hk, hr'⟩
    cases x' with
    | normal => exact ⟨n, Nat.lt_succ_self n, st', ρ', hr', hk⟩
    | exit i => exact ⟨.exit i, st', ρ', rfl, hk, hr'⟩
    | ret => exact ⟨.ret, st', ρ', rfl, hk, hr'⟩

theorem ev_ok {nm0 : Nat} {h : How} (hgm : C.gm ≤ w0.heap.size) (hm : C.P.follows .mixedOrders = true) (hdom : ∀ n b, ρe n = some b → n < nm0) :
    ∀ (c : Code) (st : St) (K : Ex → St → Prop), codeB h.fl c = true → ev Γ nt nm0 h c st K → Sat C nt w0 ρe c st K
  | .skip, st, K, hB, he => fun ρ a W hr => wp_skip ⟨.normal, st, ρ, rfl, he, hr⟩
  | .region id ops draw, st, K, hB, he => fun ρ a W hr => evRegion_ok hgm hm hB hr he fun st' ρ' a' W' hk hr' => ⟨.normal, st', ρ', rfl, hk, hr'⟩
  | .seq x y, st, K, hB, he => by
    have hB := Bool.and_eq_true_iff.1 hB
    simp only [ev] at he
    split at he
    · exact sat_seq (ev_ok hgm hm hdom x st _ hB.1 he) fun st' ρ a W hk hr => ev_ok hgm hm hdom y st' K hB.2 hk ρ a W hr
    · rename_i c _
      exact sat_seq (ev_ok hgm hm hdom x st _ hB.1 he.1) fun st' ρ a W ⟨b, σ, hp, hle⟩ hr => ev_ok hgm hm hdom y (c.J b) K hB.2 (he.2 b hp) _ a W (hle.rp hdom hr)
  | .cond c x y, st, K, hB, he => fun ρ a W hr => by
    have hB := Bool.and_eq_true_iff.1 hB
    simp only [ev] at he
    split at he
    · rename_i hc
      exact wp_cond_true (Option.some.inj (opOut_ok hr hc)).symm (ev_ok hgm hm hdom x st K hB.1 he ρ a W hr)
    · rename_i hc
      exact wp_cond_false (Option.some.inj (opOut_ok hr hc)).symm (ev_ok hgm hm hdom y st K hB.2 he ρ a W hr)
    · rename_i b hc
      exact wp_cond_split (Option.some.inj (opOut_ok hr hc)).symm (fun hb => ev_ok hgm hm hdom x st K hB.1 (he.1 hb) ρ a W hr) (fun hb => ev_ok hgm hm hdom y st K hB.2 (he.2 hb) ρ a W hr)
    · cases he
  | .block id x, st, K, hB, he => fun ρ a W hr => by
    refine wp_block (wp_mono (ev_ok hgm hm hdom x st _ hB he ρ a W hr) ?_)
    rintro e a' W' ⟨x', st', ρ', rfl, hk, hr'⟩
    cases x' with
    | normal => exact ⟨.normal, st', ρ', rfl, hk, hr'⟩
    | ret => exact ⟨.ret, st', ρ', rfl, hk, hr'⟩
    | exit i =>
      show if i = id then _ else _
      simp only at hk
      split at hk
      · rename_i hb
        rw [if_pos (Nat.eq_of_beq_eq_true hb)]
        exact ⟨.normal, st', ρ', rfl, hk, hr'⟩
      · rename_i hb
        rw [if_neg (fun e => by rw [e, Nat.beq_refl] at hb; cases hb)]
        exact ⟨.exit i, st', ρ', rfl, hk, hr'⟩
  | .loop x, st, K, hB, he => by
    simp only [ev] at he
    split at he
    · exact sat_unr (fun st K hh => ev_ok hgm hm hdom x st K hB hh) he
    · rename_i c _
      obtain ⟨⟨a0, σ0, hp0, hle0⟩, hround⟩ := he
      intro ρ a W hr
      refine wp_loop_ghost (fun n a W => ∃ b ρ, c.μ b = n ∧ c.P b ∧ Rp C nt w0 ρe (c.J b) ρ a W) ⟨_, a0, _, rfl, hp0, hle0.rp hdom hr⟩ ?_
      rintro n a W ⟨b, ρ, rfl, hp, hr⟩
      refine wp_mono (ev_ok hgm hm hdom x (c.J b) _ hB (hround b hp) ρ a W hr) ?_
      rintro e a' W' ⟨x', st', ρ', rfl, hk, hr'⟩
      cases x' with
      | normal =>
        obtain ⟨b', σ, hp', hlt, hle⟩ := hk
        exact ⟨_, hlt, b', _, rfl, hp', hle.rp hdom hr'⟩
      | exit i => exact ⟨.exit i, st', ρ', rfl, hk, hr'⟩
      | ret => exact ⟨.ret, st', ρ', rfl, hk, hr'⟩
  | .exit id, st, K, hB, he => fun ρ a W hr => wp_exit ⟨.exit id, st, ρ, rfl, he, hr⟩
  | .ret, st, K, hB, he => fun ρ a W hr => wp_ret ⟨.ret, st, ρ, rfl, he, hr⟩
  | .rangeFunc .., st, K, hB, he => he.elim
  | .scope _, st, K, hB, he => he.elim
  | .label _, st, K, hB, he => he.elim
  | .goto _, st, K, hB, he => he.elim
  | .refuse _, st, K, hB, he => he.elim

/-! ### Results -/
def resD {PP : Program} (C : Cx PP) (st : St) : ResultVar → Option SV
  | .tmp t => opOut st.sl (.tmp t)
  | .cell x t => match opOut st.sl (.tmp x) with
    | some (.p n off) => match loadD C st.H (.p n off) t with | some ⟨_, v, _⟩ => some v | none => none
    | _ => none
def resL {PP : Program} (C : Cx PP) (st : St) : List ResultVar → Option (List SV)
  | [] => some []
  | x :: r => match resD C st x, resL C st r with | some v, some l => some (v :: l) | _, _ => none
def finK {PP : Program} (C : Cx PP) (rs : List ResultVar) (st : St) (K : SV → St → Prop) : Prop :=
  match resL C st rs with
  | none => False
  | some [v] => K v st
  | some l => K (.tup l) st

theorem run_of_load {P : Program} {a : Act} {W : World} {t : TypeId} {x : Operand} {v : Value} {dst : Option Tmp} {ty : TypeId} {pos : String} {after : Array Edge} {guard : Option (Nat × Bool)} {p : Addr}
    (hx : a.eval x = .pointer (some p)) (h : (execOp a.eval ⟨dst, .load t x, ty, pos, after, guard⟩).run P W = .ok (.value v) W) : (loadVar t p).run P W = .ok v W := by
  simp only [execOp, hx, Instr.loadAt, Instr.sureAddr, Sem.run_bind, Sem.run_pure, Result.andThen_ok] at h
  cases hr : (loadVar t p).run P W with
  | ok u W' =>
    rw [hr] at h
    simp only [Result.andThen_ok] at h
    injection h with h1 h2
    injection h1 with h1
    rw [h1, h2]
  | halt x W' => rw [hr] at h; cases h

def resOne (tmps : Array Value) : ResultVar → Sem Value
  | .tmp t => pure (tmps.getD t undef)
  | .cell a t => do loadVar t (← asAddr (tmps.getD a undef))
theorem resD_ok {st : St} {ρ : Names} {a : Act} {W : World} (h : Rp C nt w0 ρe st ρ a W) {x : ResultVar} {v : SV} (e : resD C st x = some v) :
    ∃ u, den ρ v = some u ∧ (resOne a.tmps x).run C.P W = .ok u W := by
  cases x with
  | tmp t => exact ⟨_, opOut_ok (x := .tmp t) h e, rfl⟩
  | cell b t =>
    simp only [resD] at e
    split at e
    · rename_i n off hb
      split at e
      · rename_i ob v' bb hl
        obtain rfl := Option.some.inj e
        have hx := opOut_ok h hb
        obtain ⟨-, u, k1, k2⟩ := loadD_ok (dst := none) (ty := 0) (pos := "") (after := #[]) (guard := none) (y := .tmp b) h.base.hok hl hx
        obtain ⟨m, hm, e2⟩ := den_p hx
        refine ⟨u, k1, ?_⟩
        have e3 : a.tmps.getD b undef = .pointer (some ⟨m, off, none⟩) := e2
        simp only [resOne, e3, asAddr, Sem.run_bind, Sem.run_pure, Result.andThen_ok]
        exact run_of_load e2 k2
      · cases e
    · cases e
theorem resL_ok {st : St} {ρ : Names} {a : Act} {W : World} (h : Rp C nt w0 ρe st ρ a W) : ∀ {rs : List ResultVar} {l : List SV}, resL C st rs = some l →
    ∃ us, denL ρ l = some us ∧ (rs.mapM (resOne a.tmps)).run C.P W = .ok us W
  | [], l, e => by
    obtain rfl := Option.some.inj e
    exact ⟨[], rfl, rfl⟩
  | x :: r, l, e => by
    simp only [resL] at e
    split at e
    · rename_i v m hv hm
      obtain rfl := Option.some.inj e
      obtain ⟨u, k1, k2⟩ := resD_ok h hv
      obtain ⟨us, k3, k4⟩ := resL_ok h hm
      refine ⟨u :: us, denL_cons_of k1 k3, ?_⟩
      rw [List.mapM_cons]
      simp only [Sem.run_bind, k2, Result.andThen_ok, k4, Sem.run_pure]
    · cases e
theorem run_results {fn : Func} {a : Act} {W : World} {us : List Value} {P : Program} (h : (fn.results.toList.mapM (resOne a.tmps)).run P W = .ok us W) :
    (results fn a.tmps).run P W = .ok (if h : us.toArray.size = 1 then us.toArray[0] else .tuple us.toArray) W := by
  have e : results fn a.tmps = (fn.results.mapM (resOne a.tmps) >>= fun vs => pure (if h : vs.size = 1 then vs[0] else .tuple vs)) := rfl
  rw [e, Array.mapM_eq_mapM_toList]
  simp only [Sem.run_bind, Sem.run_map, h, Result.andThen_ok, Sem.run_pure]

def argSlots : Nat → List SV → List (Nat × Slot)
  | _, [] => []
  | k, v :: r => (k, ⟨0, 0, [], v⟩) :: argSlots (k + 1) r
theorem argSlots_look : ∀ {l : List SV} {k t : Nat} {s : Slot}, look (argSlots k l) t = some s → ∃ i v, t = k + i ∧ l[i]? = some v ∧ s = ⟨0, 0, [], v⟩
  | [], k, t, s, h => by cases h
  | v :: r, k, t, s, h => by
    by_cases e : k = t
    · subst e
      simp only [argSlots] at h
      rw [look_cons_eq] at h
      exact ⟨0, v, rfl, rfl, (Option.some.inj h).symm⟩
    · simp only [argSlots] at h
      rw [look_cons_ne _ _ e] at h
      obtain ⟨i, u, h1, h2, h3⟩ := argSlots_look h
      exact ⟨i + 1, u, by omega, by simpa using h2, h3⟩

/-- What a function is shown to do. -/
structure Fini {PP : Program} (C : Cx PP) (w0 : World) (ρe : Names) (v : SV) (st : St) (val : Value) (w' : World) where
  ρ : Names
  hok : HOk C st.H ρ w'
  le : ρe.le ρ
  old : ∀ n b, ρ n = some b → ρe n = some b ∨ w0.heap.size ≤ b
  keep : Keep ρe w0 w'
  dv : den ρ v = some val

theorem calls_ev {f : FuncId} {fn : Func} {code : Code} {args : List SV} {vs : List Value} {H : List (Nat × SB)} {nm : Nat} {R : Ending → World → Prop} (h : How) (hm : C.P.follows .mixedOrders = true)
    (hf : C.P.funcs[f]? = some fn) (hb : fn.body = some code) (hn : Nat.ble args.length fn.ntmps = true) (hB : codeB h.fl code = true) (hH : HOk C H ρe w0) (hdom : ∀ n b, ρe n = some b → n < nm) (hargs : denL ρe args = some vs) (K : SV → St → Prop)
    (he : ev Γ fn.ntmps nm h code ⟨argSlots 0 args, H, nm, 0, [], []⟩ (fun e st => match e with | .exit _ => False | .normal => finK C fn.results.toList st K | .ret => finK C fn.results.toList st K))
    (hR : ∀ v st val w', K v st → Fini C w0 ρe v st val w' → R (.returned val) w') : Calls C.P f vs.toArray w0 R := by
  have hlen := denL_length hargs
  have hn := Nat.le_of_ble_eq_true hn
  refine calls_of_wp hf hb ?_
  have hrp : Rp C fn.ntmps w0 ρe ⟨argSlots 0 args, H, nm, 0, [], []⟩ ρe { tmps := vs.toArray ++ Array.replicate (fn.ntmps - vs.toArray.size) undef, defers := [] } w0 := by
    refine ⟨⟨hH, hdom, Names.le.refl _, fun n b hh => .inl hh, Keep.refl _ _, by simp; omega, rfl⟩, fun t s hs => ?_, fun t s hs hg => ?_⟩
    · obtain ⟨i, v, -, -, rfl⟩ := argSlots_look hs
      exact Nat.le_refl _
    · obtain ⟨i, v, rfl, hv, rfl⟩ := argSlots_look hs
      obtain ⟨u, h1, h2⟩ := denL_get hargs hv
      refine ⟨u, h2, ?_⟩
      have hl : i < vs.length := (List.getElem?_eq_some_iff.1 h1).1
      rw [Nat.zero_add, Array.getElem?_append_left (by simpa using hl)]
      simpa using h1
  refine wp_mono (ev_ok (Γ := Γ) hH.grd.1 hm hdom code _ _ hB he _ _ _ hrp) ?_
  rintro e a' W' ⟨x, st, ρ, rfl, hk, hr⟩
  have key : finK C fn.results.toList st K → a'.defers = [] ∧ ∃ v, (results fn a'.tmps).run C.P W' = .ok v W' ∧ R (.returned v) W' := by
    intro hk
    refine ⟨hr.base.df, ?_⟩
    unfold finK at hk
    split at hk
    · exact hk.elim
    · rename_i v hl
      obtain ⟨us, k1, k2⟩ := resL_ok hr hl
      obtain ⟨u, us', rfl, k3, k4⟩ := denL_cons k1
      obtain rfl := denL_nil k4
      exact ⟨u, run_results k2, hR v st u W' hk ⟨ρ, hr.base.hok, hr.base.le, hr.base.old, hr.base.keep, k3⟩⟩
    · rename_i l hne hl
      obtain ⟨us, k1, k2⟩ := resL_ok hr hl
      have hne' : ¬ us.toArray.size = 1 := by
        intro e
        have hlen := denL_length k1
        have : l.length = 1 := by rw [← hlen]; simpa using e
        match l, this with
        | [v], _ => exact hne v rfl
      refine ⟨.tuple us.toArray, by rw [run_results k2, dif_neg hne'], hR _ st _ W' hk ⟨ρ, hr.base.hok, hr.base.le, hr.base.old, hr.base.keep, by simp only [den, k1]⟩⟩
  cases x with
  | normal => exact key hk
  | exit i => exact hk.elim
  | ret => exact key hk
end
end Go.Proofs.YtggcfjeehpcclaaDoor
