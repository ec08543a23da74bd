/- RewindFirst: plain laws: what is shown is valid. RewindFirst: plain laws: what is met. RewindFirst: the walk. -/
import Derived.Test.YtjdohgcolhpegaaGreatDoorN4
namespace Go.Proofs.YtjdohgcolhpegaaGreatDoor
open Go.RowKit

theorem lerp_rng {a b n d lo hi : Int} (h1 : lo ≤ a) (h2 : a ≤ hi) (h3 : lo ≤ b) (h4 : b ≤ hi) (hn : 0 ≤ n) (hd : n ≤ d) (h0 : 1 ≤ d) : lo ≤ Df.lerpI a b n d ∧ Df.lerpI a b n d ≤ hi := by
  unfold Df.lerpI
  by_cases h : a ≤ b
  · have q1 : 0 ≤ (b - a) * n := Int.mul_nonneg (by omega) hn
    have q2 : (b - a) * n ≤ (b - a) * d := Int.mul_le_mul_of_nonneg_left hd (by omega)
    have q3 : 0 ≤ (b - a) * n / d := Int.ediv_nonneg q1 (by omega)
    have q4 : (b - a) * n / d ≤ b - a := Int.ediv_le_of_le_mul (by omega) q2
    omega
  · have q1 : (b - a) * n ≤ 0 := Int.mul_nonpos_of_nonpos_of_nonneg (by omega) hn
    have q2 : (b - a) * d ≤ (b - a) * n := Int.mul_le_mul_of_nonpos_left (by omega) hd
    have q3 : b - a ≤ (b - a) * n / d := (Int.le_ediv_iff_mul_le (by omega)).2 q2
    have q4 : (b - a) * n / d ≤ 0 := Int.ediv_le_of_le_mul (by omega) (by omega)
    omega
theorem move_fits {c : Comp} {t : Vec} {n d : Int} (hf : c.Fits) (ht : -1048576 ≤ t.x ∧ t.x ≤ 1048576 ∧ -1048576 ≤ t.y ∧ t.y ≤ 1048576) (hn : 0 ≤ n) (hd : n ≤ d) (h0 : 1 ≤ d) : (moveC t n d c).Fits := by
  unfold moveC
  cases hk : decide (c.kind = 1) with
  | false => exact hf
  | true =>
    have hk := of_decide_eq_true hk
    obtain ⟨x1, x2, x3, x4, x5, x6, x7, x8⟩ := hf.2.2.1 hk
    have l0 := lerp_rng x1 x2 ht.1 ht.2.1 hn hd h0
    have l1 := lerp_rng x3 x4 ht.2.2.1 ht.2.2.2 hn hd h0
    unfold Comp.Fits Comp.F1 Comp.F2 Comp.F3 Comp.F4 Comp.F5 Comp.F6 Comp.F7 Comp.F8 Comp.F9 Comp.F10
    simp only [hk]
    omega
theorem mv_right {b : Wor} {n d : Int} {e : Ent} (hv : b.Valid) (he : e.Right) (hn : 0 ≤ n) (hd : n ≤ d) (h0 : 1 ≤ d) : (mvE b n d e).Right := by
  refine ⟨by rw [mv_id]; exact he.lo, by rw [mv_id]; exact he.hi, ?_, fun j hj => ?_⟩
  · rw [show (fun j => ((mvE b n d e).l.c j).kind) = fun j => (e.l.c j).kind from funext fun _ => mv_kind, mv_n]
    exact he.inc
  · rw [mv_n] at hj
    unfold mvE
    cases hf : (findE b e.iD).2 with
    | false => exact he.fits j hj
    | true =>
      simp only
      cases (pointF (b.l.e (findE b e.iD).1)).2 with
      | false => exact he.fits j hj
      | true => exact move_fits (he.fits j hj) (pointF_rng (hv.right _ (find_hit hf).2.1)) hn hd h0
theorem betw_valid {a b : Wor} {n d : Int} (h : betB a b n d = false) : (betwE a b n d).1.Valid ∧ (betwE a b n d).2 = 0 := by
  have hO := betB_no h
  unfold betwE
  rw [h]
  simp only
  cases decide (n = d) with
  | true => exact ⟨hO.vb, rfl⟩
  | false =>
    have hl := lerp_rng (lo := 0) (hi := 1073741824) hO.va.lo hO.va.hi hO.vb.lo hO.vb.hi hO.n0 hO.nd hO.d0
    refine ⟨⟨hl.1, hl.2, hO.va.len, ?_, fun i hi => mv_right hO.vb (hO.va.right i hi) hO.n0 hO.nd hO.d0⟩, rfl⟩
    rw [show (fun i => (Ens.e ⟨a.l.n, fun i => mvE b n d (a.l.e i)⟩ i).iD) = fun i => (a.l.e i).iD from funext fun _ => mv_id]
    exact hO.va.inc
theorem lbN_lt {key : Nat → Int} {q : Int} : ∀ {r k j : Nat}, k ≤ j → j < lbN key q k r → key j < q
  | 0, k, j, h1, h2 => by simp only [lbN] at h2; omega
  | r + 1, k, j, h1, h2 => by
    simp only [lbN] at h2
    cases hd : decide (key k < q) with
    | true =>
      rw [hd] at h2
      rcases Nat.eq_or_lt_of_le h1 with rfl | h1
      · exact of_decide_eq_true hd
      · exact lbN_lt h1 h2
    | false => rw [hd] at h2; simp only at h2; omega
theorem lbN_ge {key : Nat → Int} {q : Int} : ∀ {r k : Nat}, lbN key q k r < k + r → ¬ key (lbN key q k r) < q
  | 0, k, h => by simp only [lbN] at h; omega
  | r + 1, k, h => by
    simp only [lbN] at h ⊢
    cases hd : decide (key k < q) with
    | true => rw [hd] at h; exact lbN_ge (by simp only at h; omega)
    | false => exact of_decide_eq_false hd
/-- What is shown without an error is valid; there are two kinds of errors. -/
theorem shown_ok {h : Wrs} {t p : Int} (hs : shB h t p = false) : (shownE h t p).2 = 6 ∨ ((shownE h t p).2 = 0 ∧ (shownE h t p).1.Valid) := by
  obtain ⟨hh, t0, t1, p0, p1⟩ := shB_no hs
  unfold shownE
  rw [hs]
  simp only
  cases hx : hitH h (16 * t + p) with
  | true => exact .inr ⟨rfl, hh.v _ (hitB_iff.1 hx).1⟩
  | false =>
    simp only
    cases hd : decide ((lowH h (16 * t + p) : Int) = 0) || decide ((lowH h (16 * t + p) : Int) = h.n) with
    | true => exact .inl rfl
    | false =>
      simp only
      simp only [Bool.or_eq_false_iff, decide_eq_false_iff_not] at hd
      have hle : lowH h (16 * t + p) ≤ h.n := lowB_le
      have k1 : lowH h (16 * t + p) < h.n := by omega
      have et : ((lowH h (16 * t + p) : Int) - 1).toNat = lowH h (16 * t + p) - 1 := by omega
      rw [et]
      have k2 : lowH h (16 * t + p) - 1 < lowH h (16 * t + p) := by omega
      have a1 : 16 * (h.w (lowH h (16 * t + p) - 1)).tick < 16 * t + p := lbN_lt (key := fun i => 16 * (h.w i).tick) (Nat.zero_le _) k2
      have a2 : ¬ 16 * (h.w (lowH h (16 * t + p))).tick < 16 * t + p := lbN_ge (key := fun i => 16 * (h.w i).tick) (k := 0) (r := h.n) (by rw [Nat.zero_add]; exact k1)
      have v1 := hh.v _ k1
      have v2 := hh.v _ (Nat.lt_trans k2 k1)
      have h1 := v1.hi
      have h2 := v2.lo
      refine .inr (betw_valid ?_).symm
      unfold betB
      rw [Wor.valid_iff.2 v1, Wor.valid_iff.2 v2]
      simp only [Bool.or_eq_false_iff, decide_eq_false_iff_not]
      refine ⟨⟨⟨⟨⟨⟨rfl, rfl⟩, ?_⟩, ?_⟩, ?_⟩, ?_⟩, ?_⟩ <;> omega
end Go.Proofs.YtjdohgcolhpegaaGreatDoor
namespace Go.Proofs.YtjdohgcolhpegaaGreatDoor
open Go.RowKit

/-- Does the entity of a body belong to a client? -/
def ownedB (w : Wor) (c : Int) (b : Body) : Bool := (getE w b.iD 4).2 && decide ((getE w b.iD 4).1.v0 = c)
theorem own_keep {w : Wor} {c : Int} {b : Body} : ownedB w c b = !keepB w c b := by
  unfold ownedB keepB
  rw [Bool.not_not]
  cases h : (getE w b.iD 4).2 with
  | false => rfl
  | true =>
    obtain ⟨-, -, -, h4⟩ := get_hitC h
    obtain ⟨-, g2⟩ := get_fits h
    obtain ⟨-, -, x3, x4, x5, x6, x7, x8⟩ := g2.2.2.2.2.2.1 h4
    unfold eqC
    rw [h4, show (getE w b.iD 4).1.v1 = 0 by omega, show (getE w b.iD 4).1.v2 = 0 by omega, show (getE w b.iD 4).1.v3 = 0 by omega]
    simp
theorem Bods.oths {w : Wor} (h : Bods w (allL w)) (c : Int) : Bods w (othsL w c (allL w).length) where
  len := Nat.le_trans (filtM_len (allL w).length) h.len
  of := fun k hk => by
    obtain ⟨i, h1, h2, h3⟩ := filtM_get (d := Body.no) hk
    obtain ⟨a, a1, a2, a3⟩ := h.of i h1
    exact ⟨a, a1, h2.trans a2, a3⟩
  inc := fun i j h1 h2 => filtM_inc (key := Body.iD) (fun a b q1 q2 _ _ => h.inc a b q1 q2) h1 h2
theorem part_ok {b : Body} {p q : Vec} (hb : b.ok = true) (hs : segOk p q) (hw : (whereP b p q).2 = true) : (partE b p q).2 = 0 := by
  unfold partE
  rw [wrongE_of (F := oneB b) hs.1 hs.2.1 (fun _ _ => hb) hs.2.2, hw]
  rfl
/-- What the statement asks of a hit. -/
structure FOk (w : Wor) (c : Int) (p q : Vec) (X : Hit) : Prop where
  zero : X.id = 0 → X = Hit.no ∧ ∀ i, i < (allL w).length → ownedB w c (bodG (allL w) i) = true ∨ meetsB (bodG (allL w) i) p q = false
  some : X.id ≠ 0 → ∃ m, m < (allL w).length ∧ (bodG (allL w) m).iD = X.id ∧ ownedB w c (bodG (allL w) m) = false ∧ X.at_ = (partE (bodG (allL w) m) p q).1 ∧ (partE (bodG (allL w) m) p q).2 = 0 ∧ X.alive = (getE w X.id 8).2 ∧
    ∀ i, i < (allL w).length → ownedB w c (bodG (allL w) i) = false → meetsB (bodG (allL w) i) p q = true → (beforeE (bodG (allL w) m) (bodG (allL w) i) p q).2 = 0 ∧ (beforeE (bodG (allL w) m) (bodG (allL w) i) p q).1 ≤ 0 ∧ ((beforeE (bodG (allL w) m) (bodG (allL w) i) p q).1 = 0 → X.id ≤ (bodG (allL w) i).iD)
theorem met_fok {w : Wor} {c : Int} {p q : Vec} (hv : w.Valid) (h12 : w.l.n ≤ 12) : FOk w c p q (metE w (othsL w c (allL w).length) p q).1 ∧ (metE w (othsL w c (allL w).length) p q).2 = 0 := by
  have hL : Bods w (allL w) := bods_of hv
  have hK := hL.oths c
  have hK12 : (othsL w c (allL w).length).length ≤ 12 := Nat.le_trans hK.len h12
  obtain ⟨K, eK⟩ : ∃ K, K = othsL w c (allL w).length := ⟨_, rfl⟩
  rw [← eK] at hK hK12 ⊢
  have toL : ∀ j, j < K.length → ∃ i, i < (allL w).length ∧ bodG K j = bodG (allL w) i ∧ keepB w c (bodG (allL w) i) = true := fun j hj => by
    subst eK
    exact filtM_get (d := Body.no) hj
  have toK : ∀ i, i < (allL w).length → keepB w c (bodG (allL w) i) = true → ∃ j, j < K.length ∧ bodG K j = bodG (allL w) i := fun i hi hk => by
    subst eK
    exact filtM_idx (f := fun i => bodG (allL w) i) (g := fun i => keepB w c (bodG (allL w) i)) (d := Body.no) hi hk
  by_cases hf : (firstE K.length (bodG K) p q).2 = 0
  · obtain ⟨j, j1, j2, j3, j4, j5⟩ := first_some hK12 hK.inc hf
    obtain ⟨m, m1, m2, m3⟩ := toL j j1
    have hid := (hK.found hv j1).2
    have e : metE w K p q = (⟨(firstE K.length (bodG K) p q).1, (partE (bodG K (seeI K (firstE K.length (bodG K) p q).1).toNat) p q).1, (getE w (firstE K.length (bodG K) p q).1 8).2⟩, 0) := by
      unfold metE
      rw [show decide (¬ (firstE K.length (bodG K) p q).2 = 0) = false from decide_eq_false (by omega)]
    have eI : seeI K (firstE K.length (bodG K) p q).1 = (j : Int) := by
      have hx : ixN (fun k => decide ((bodG K k).iD = (firstE K.length (bodG K) p q).1)) 0 K.length = j := by
        have hle := ixN_le (g := fun k => decide ((bodG K k).iD = (firstE K.length (bodG K) p q).1)) (r := K.length) (k := 0)
        rcases Nat.lt_trichotomy (ixN (fun k => decide ((bodG K k).iD = (firstE K.length (bodG K) p q).1)) 0 K.length) j with h1 | h1 | h1
        · have := ixN_hit (g := fun k => decide ((bodG K k).iD = (firstE K.length (bodG K) p q).1)) (r := K.length) (k := 0) (by omega)
          have := of_decide_eq_true this
          have := hK.inc _ _ h1 j1
          omega
        · exact h1
        · have := ixN_no (g := fun k => decide ((bodG K k).iD = (firstE K.length (bodG K) p q).1)) (r := K.length) (k := 0) (i := j) (Nat.zero_le _) h1
          exact absurd j2 (of_decide_eq_false this)
      exact ixI_yes hx j1
    rw [e]
    refine ⟨⟨fun h0 => ?_, fun _ => ⟨m, m1, by rw [← m2]; exact j2, by rw [own_keep, m3]; rfl, ?_, ?_, rfl, fun i hi ho hm => ?_⟩⟩, rfl⟩
    · have h0 : (firstE K.length (bodG K) p q).1 = 0 := h0
      rw [← j2] at h0
      omega
    · show (partE (bodG K (seeI K _).toNat) p q).1 = _
      rw [eI, ← m2]; rfl
    · rw [← m2, part_ok (hK.ok hv j1) j3 j4]
    · rw [own_keep] at ho
      obtain ⟨k, k1, k2⟩ := toK i hi (by simpa using ho)
      have hb := (meets_ok (by rw [← k2]; exact hK.ok hv k1)).1 hm
      have hw : (whereP (bodG K k) p q).2 = true := by rw [k2]; exact hb.2
      obtain ⟨o1, o2⟩ := j5 k k1 hw
      rw [← m2, ← k2, before_met (hK.ok hv j1) (hK.ok hv k1) j3 j4 hw]
      exact ⟨rfl, o1, fun h => by
        have := o2 h
        show (firstE K.length (bodG K) p q).1 ≤ _
        rw [← j2]; exact this⟩
  · have e : metE w K p q = (Hit.no, 0) := by
      unfold metE
      rw [show decide (¬ (firstE K.length (bodG K) p q).2 = 0) = true from decide_eq_true hf]
    rw [e]
    refine ⟨⟨fun _ => ⟨rfl, fun i hi => ?_⟩, fun h => absurd rfl h⟩, rfl⟩
    cases ho : ownedB w c (bodG (allL w) i) with
    | true => exact .inl rfl
    | false =>
      rw [own_keep] at ho
      obtain ⟨k, k1, k2⟩ := toK i hi (by simpa using ho)
      right
      rw [← k2]
      exact first_none hK12 (fun k hk => hK.ok hv hk) hK.inc hf k k1
/-- A shot of the statement. -/
theorem shot_rng (i : Df.Input) : 1 ≤ (shotI i).client ∧ (shotI i).client ≤ 8 ∧ -8192 ≤ (shotI i).aimX ∧ (shotI i).aimX ≤ 8192 ∧ -8192 ≤ (shotI i).aimY ∧ (shotI i).aimY ≤ 8192 := by
  have h1 := tmod_rng (a := i.client) (b := 8) (by decide)
  have h2 := Int.tmod_nonneg (a := i.client.tmod 8 + 8) 8 (by omega)
  have h3 := tmod_rng (a := i.client.tmod 8 + 8) (b := 8) (by decide)
  have h4 := tmod_rng (a := i.aimX) (b := 8193) (by decide)
  have h5 := tmod_rng (a := i.aimY) (b := 8193) (by decide)
  unfold shotI
  simp only
  omega
def ptF (p : Vec) : Vec := ⟨p.x.tmod 1048577, p.y.tmod 1048577⟩
theorem ptF_rng (p : Vec) : -1048576 ≤ (ptF p).x ∧ (ptF p).x ≤ 1048576 ∧ -1048576 ≤ (ptF p).y ∧ (ptF p).y ≤ 1048576 := by
  have h4 := tmod_rng (a := p.x) (b := 1048577) (by decide)
  have h5 := tmod_rng (a := p.y) (b := 1048577) (by decide)
  unfold ptF
  simp only
  omega
theorem see_sh {h : Wrs} {p : Vec} {i : Df.Input} : seeB h (shotI i).client (ptF p) (shotI i) = shB h (shotI i).seen (shotI i).part := by
  obtain ⟨c1, c2, a1, a2, a3, a4⟩ := shot_rng i
  obtain ⟨p1, p2, p3, p4⟩ := ptF_rng p
  rw [Bool.eq_iff_iff]
  unfold seeB shB fitsB withB
  simp only [Bool.or_eq_true, Bool.not_eq_true', Bool.and_eq_false_iff, decide_eq_true_eq, decide_eq_false_iff_not]
  cases histB h <;> simp <;> omega
/-- The errors of See and of Shown. -/
theorem see_cases {h : Wrs} {p : Vec} {i : Df.Input} (h12 : ∀ k, k < h.n → (h.w k).l.n ≤ 12) :
    ((seeE h (shotI i).client (ptF p) (shotI i)).2 = 2 ∧ (shownE h (shotI i).seen (shotI i).part).2 = 2 ∧ (seeE h (shotI i).client (ptF p) (shotI i)).1 = Hit.no) ∨
    ((seeE h (shotI i).client (ptF p) (shotI i)).2 = 291 ∧ (shownE h (shotI i).seen (shotI i).part).2 = 6 ∧ (seeE h (shotI i).client (ptF p) (shotI i)).1 = Hit.no) ∨
    ((seeE h (shotI i).client (ptF p) (shotI i)).2 = 0 ∧ (shownE h (shotI i).seen (shotI i).part).2 = 0 ∧ (shownE h (shotI i).seen (shotI i).part).1.Valid ∧ FOk (shownE h (shotI i).seen (shotI i).part).1 (shotI i).client (ptF p) (toV (ptF p) (shotI i)) (seeE h (shotI i).client (ptF p) (shotI i)).1) := by
  unfold seeE
  rw [see_sh]
  cases hs : shB h (shotI i).seen (shotI i).part with
  | true =>
    left
    refine ⟨rfl, ?_, rfl⟩
    unfold shownE
    rw [hs]
  | false =>
    right
    simp only
    rcases shown_ok hs with h6 | ⟨h0, hv⟩
    · left
      rw [h6]
      exact ⟨rfl, rfl, rfl⟩
    · right
      rw [h0]
      obtain ⟨f1, f2⟩ := met_fok (c := (shotI i).client) (p := ptF p) (q := toV (ptF p) (shotI i)) hv (shown_12 h12)
      exact ⟨f2, rfl, hv, f1⟩
end Go.Proofs.YtjdohgcolhpegaaGreatDoor
namespace Go.Proofs.YtjdohgcolhpegaaGreatDoor
open Go.RowKit

def metK (L : List Body) (id : Int) : Nat → Bool
  | 0 => false
  | k + 1 => metK L id k || decide ((bodG L k).iD = id)
def bestK (L : List Body) (id : Int) : Nat → Body
  | 0 => Body.no
  | k + 1 => match decide ((bodG L k).iD = id) with | true => bodG L k | false => bestK L id k
theorem bestK_of {L : List Body} {id : Int} {m : Nat} (hm : m < L.length) (h : (bodG L m).iD = id) (hinc : ∀ i j, i < j → j < L.length → (bodG L i).iD < (bodG L j).iD) : ∀ k, m < k → k ≤ L.length → metK L id k = true ∧ bestK L id k = bodG L m
  | 0, h1, _ => absurd h1 (Nat.not_lt_zero m)
  | k + 1, h1, h2 => by
    by_cases e : k = m
    · subst e
      simp only [metK, bestK, decide_eq_true h, Bool.or_true]
      exact ⟨trivial, trivial⟩
    · have hk : ¬ (bodG L k).iD = id := by
        intro c
        have := hinc m k (by omega) (by omega)
        omega
      obtain ⟨q1, q2⟩ := bestK_of hm h hinc k (by omega) (by omega)
      simp only [metK, bestK, decide_eq_false hk, Bool.or_false]
      exact ⟨q1, q2⟩
def BefOk (w : Wor) (c : Int) (p q : Vec) (X : Hit) (b : Body) : Prop := X.id ≠ 0 → ∀ i, i < (allL w).length → ownedB w c (bodG (allL w) i) = false → meetsB (bodG (allL w) i) p q = true → (beforeE b (bodG (allL w) i) p q).2 = 0 ∧ (beforeE b (bodG (allL w) i) p q).1 ≤ 0 ∧ ((beforeE b (bodG (allL w) i) p q).1 = 0 → X.id ≤ (bodG (allL w) i).iD)
structure FRng (p : Vec) (i : Df.Input) : Prop where
  x : -1048576 ≤ p.x ∧ p.x ≤ 1048576
  y : -1048576 ≤ p.y ∧ p.y ≤ 1048576
  ax : -8192 ≤ i.aimX ∧ i.aimX ≤ 8192
  ay : -8192 ≤ i.aimY ∧ i.aimY ≤ 8192
def fs11 : Cut := ⟨Vec × Df.Input × Hit × Wor, fun a => FRng a.1 a.2.1 ∧ a.2.2.2.Valid ∧ a.2.2.2.l.n ≤ 12 ∧ FOk a.2.2.2 a.2.1.client a.1 (toV a.1 a.2.1) a.2.2.1,
  fun a => ⟨[sl 4 (.p 0 0), sl 5 (.p 1 0), sl 7 (.p 2 0), sl 9 (.p 3 0)], [(0, .lay a.1.cells 27), (1, .lay a.2.1.cells 29), (2, .lay a.2.2.1.cells 39), (3, .lay a.2.2.2.cells 25)], 4, 0, [], []⟩, fun _ => 0⟩
def frH (p : Vec) (i : Df.Input) (X : Hit) (w : Wor) (b : Body) : Heap := [(0, .lay p.cells 27), (1, .lay i.cells 29), (2, .lay X.cells 39), (3, .lay w.cells 25), (4, .lay (toV p i).cells 27), (5, .lay b.cells 60)]
def allS (w : Wor) : SV := .rs 9 (allL w).length (fun i => (bodG (allL w) i).cells)
def fs16 (p : Vec) (i : Df.Input) (X : Hit) (w : Wor) : Cut := ⟨Nat, fun k => k ≤ (allL w).length, fun k => ⟨[sl 4 (.p 0 0), sl 5 (.p 1 0), sl 7 (.p 2 0), sl 9 (.p 3 0), sl 11 (.p 4 0), sl 12 (.v (.bool (metK (allL w) X.id k))), sl 13 (.p 5 0), sl 14 (allS w), sl 102 (allS w), sl 103 (i64 (allL w).length), sl 104 (i64 k)],
  frH p i X w (bestK (allL w) X.id k), 6, 0, [], []⟩, fun k => (allL w).length - k⟩
def fs30 (p : Vec) (i : Df.Input) (X : Hit) (w : Wor) : Cut := ⟨Body, fun b => BefOk w i.client p (toV p i) X b, fun b => ⟨[sl 4 (.p 0 0), sl 5 (.p 1 0), sl 7 (.p 2 0), sl 9 (.p 3 0), sl 11 (.p 4 0), sl 13 (.p 5 0), sl 14 (allS w)],
  frH p i X w b, 6, 0, [], []⟩, fun _ => 0⟩
def fs31 (p : Vec) (i : Df.Input) (X : Hit) (w : Wor) (b : Body) : Cut := ⟨Nat, fun k => k ≤ (allL w).length, fun k => ⟨[sl 4 (.p 0 0), sl 5 (.p 1 0), sl 7 (.p 2 0), sl 9 (.p 3 0), sl 11 (.p 4 0), sl 13 (.p 5 0), sl 179 (allS w), sl 180 (i64 (allL w).length), sl 181 (i64 k)],
  frH p i X w b, 6, 0, [], []⟩, fun k => (allL w).length - k⟩
theorem few_12 {h : Wrs} (hf : fewsB h = true) : ∀ k, k < h.n → (h.w k).l.n ≤ 12 := fun k hk => by
  unfold fewsB at hf
  have h1 := (Bool.and_eq_true_iff.1 hf).2
  have h2 := anyN_no (by simpa using h1 : anyN (fun i => !fewB (h.w i)) 0 h.n = false) k (Nat.zero_le _) (by omega)
  have h3 : fewB (h.w k) = true := by simpa using h2
  unfold fewB at h3
  have h4 := (Bool.and_eq_true_iff.1 h3).1
  simp only [Bool.not_eq_true', decide_eq_false_iff_not] at h4
  omega
theorem valid_smF {w : Wor} (hv : w.Valid) : w.l.Sm := by
  refine ⟨?_, fun i hi => ⟨?_, fun j hj => ?_⟩⟩
  · have := hv.len; unfold bigN; omega
  · have := (hv.right i hi).len; unfold bigN; omega
  · have := (hv.right i hi).fits j hj
    exact ⟨by have := this.1; omega, by have := this.2.1; omega⟩
theorem few_of {a b : Bool} (h : (!(a && b)) = false) : a = true := by cases a <;> simp_all
theorem first_err {e f : Int} {X : Hit} (hx : X = Hit.no) (h : (e = 2 ∧ f = 2) ∨ (e = 291 ∧ f = 6)) : true = ((((decide (e = 291) == decide (f = 6)) && (decide (e = 2) == decide (f = 2))) && eqH X) || false) := by
  subst hx
  rcases h with ⟨rfl, rfl⟩ | ⟨rfl, rfl⟩ <;> rfl
set_option maxHeartbeats 8000000 in
set_option maxRecDepth 8000 in
theorem First_walk29 (a : Wrs × Vec × Df.Input) (hm : a.1.Sm) :
    evFn (C := cx) [conFew29, conAwake29, conShot, conSee, conShown, conBodies, conGet, conPart, conMeets, conBefore] [] 0 ⟨[], [11, 30], [16, 31], 0⟩ Tryz.f5 ((rds3 rdWrs rdVec Df.rdInput).enc a) fun v H _ => resOut (.v (.bool true)) H v := by
  obtain ⟨h, p0, i0⟩ := a
  replace hm : h.Sm := hm
  refine And.intro ?_ ?_
  · repeat' (first | (refine And.intro ?_ ?_) | (intro _) | exact trivial)
  refine And.intro (fun hc => ?_) (fun hc => ?_)
  · exact rfl
  have hf : fewsB h = true := few_of hc
  have h12 := few_12 hf
  refine And.intro ⟨fun _ _ _ _ _ _ => trivial, hm, h12⟩ ?_
  refine And.intro ⟨fun _ _ _ _ _ _ => trivial, hm⟩ ?_
  have hcs := see_cases (h := h) (p := p0) (i := i0) h12
  refine And.intro (fun he => ?_) (fun he => ?_)
  · have he : decide (¬ (seeE h (shotI i0).client (ptF p0) (shotI i0)).2 = 0) = true := he
    have he := of_decide_eq_true he
    rcases hcs with ⟨e1, e2, e3⟩ | ⟨e1, e2, e3⟩ | ⟨e1, -⟩
    · exact first_err e3 (.inl ⟨e1, e2⟩)
    · exact first_err e3 (.inr ⟨e1, e2⟩)
    · exact absurd e1 he
  have he : decide (¬ (seeE h (shotI i0).client (ptF p0) (shotI i0)).2 = 0) = false := he
  have he : (seeE h (shotI i0).client (ptF p0) (shotI i0)).2 = 0 := by simpa using he
  obtain ⟨e2, e3, e4⟩ : (shownE h (shotI i0).seen (shotI i0).part).2 = 0 ∧ (shownE h (shotI i0).seen (shotI i0).part).1.Valid ∧ FOk (shownE h (shotI i0).seen (shotI i0).part).1 (shotI i0).client (ptF p0) (toV (ptF p0) (shotI i0)) (seeE h (shotI i0).client (ptF p0) (shotI i0)).1 := by
    rcases hcs with ⟨e1, -⟩ | ⟨e1, -⟩ | ⟨-, e2, e3, e4⟩
    · omega
    · omega
    · exact ⟨e2, e3, e4⟩
  have hrng : FRng (ptF p0) (shotI i0) := by
    obtain ⟨-, -, a1, a2, a3, a4⟩ := shot_rng i0
    obtain ⟨p1, p2, p3, p4⟩ := ptF_rng p0
    exact ⟨⟨p1, p2⟩, ⟨p3, p4⟩, ⟨a1, a2⟩, a3, a4⟩
  refine Exists.intro fs11 ?_
  refine And.intro (And.intro (fun hz => ?_) (fun hz => ?_)) ?_
  · have hz : decide (¬ (shownE h (shotI i0).seen (shotI i0).part).2 = 0) = true := hz
    exact absurd e2 (of_decide_eq_true hz)
  · refine ⟨(ptF p0, shotI i0, (seeE h (shotI i0).client (ptF p0) (shotI i0)).1, (shownE h (shotI i0).seen (shotI i0).part).1), [], [], trivial, ⟨hrng, e3, shown_12 h12, e4⟩, ?_⟩
    repeat' (first | (refine And.intro ?_ ?_) | (intro _) | exact rfl)
  clear he e2 e3 e4 hrng hcs h12 hf hm
  rintro ⟨p, i, X, w⟩ ⟨hr, hv, h12, hF⟩
  replace hr : FRng p i := hr
  replace hv : w.Valid := hv
  replace h12 : w.l.n ≤ 12 := h12
  replace hF : FOk w i.client p (toV p i) X := hF
  obtain ⟨r1, r2, r3, r4⟩ := hr
  have wS := valid_smF hv
  have hL : Bods w (allL w) := bods_of hv
  have hLl : (allL w).length ≤ 12 := Nat.le_trans hL.len h12
  refine And.intro (by unfold I64; omega : I64 (p.x + i.aimX)) ?_
  refine And.intro (by unfold I64; omega : I64 (p.y + i.aimY)) ?_
  have n1000 : w.l.n ≤ 1000 := by omega
  refine And.intro ⟨fun _ _ _ _ => trivial, wS, n1000, rfl⟩ ?_
  refine Exists.intro (fs16 p i X w) ?_
  refine And.intro ?_ ?_
  · refine ⟨(0 : Nat), [], [], trivial, Nat.zero_le _, ?_⟩
    repeat' (first | (refine And.intro ?_ ?_) | (intro _) | exact rfl)
  refine fun (k : Nat) (hk : k ≤ (allL w).length) => ?_
  refine And.intro (fun hb => ?_) (fun hb => ?_)
  · have hb : (k : Int) < (allL w).length := of_decide_eq_true hb
    have o1 : I64 ((k : Int) + 1) := by unfold I64; omega
    have u1 : (allL w).length - (k + 1) < (allL w).length - k := by omega
    have u2 : k + 1 ≤ (allL w).length := by omega
    refine And.intro ⟨by omega, by omega⟩ ?_
    refine And.intro (fun hd => ?_) (fun hd => ?_)
    · have hd : decide ((bodG (allL w) k).iD = X.id) = true := hd
      have eb : bestK (allL w) X.id (k + 1) = bodG (allL w) k := by simp only [bestK, hd]
      refine And.intro o1 ?_
      refine ⟨k + 1, [], [], u1, u2, ?_⟩
      repeat' (first | (refine And.intro ?_ ?_) | (intro _) | exact rfl)
      all_goals first | exact congrArg Body.iD eb | exact congrArg Body.posX eb | exact congrArg Body.posY eb | exact congrArg Body.velX eb | exact congrArg Body.velY eb | exact congrArg Body.w eb | exact congrArg Body.h eb | exact congrArg Body.round eb | exact congrArg Body.fixed eb
    · have hd : decide ((bodG (allL w) k).iD = X.id) = false := hd
      have eb : bestK (allL w) X.id (k + 1) = bestK (allL w) X.id k := by simp only [bestK, hd]
      refine And.intro o1 ?_
      refine ⟨k + 1, [], [], u1, u2, ?_⟩
      repeat' (first | (refine And.intro ?_ ?_) | (intro _) | exact rfl)
      all_goals first | exact congrArg Body.iD eb | exact congrArg Body.posX eb | exact congrArg Body.posY eb | exact congrArg Body.velX eb | exact congrArg Body.velY eb | exact congrArg Body.w eb | exact congrArg Body.h eb | exact congrArg Body.round eb | exact congrArg Body.fixed eb
  have hb : ¬ (k : Int) < (allL w).length := of_decide_eq_false hb
  obtain rfl : k = (allL w).length := by omega
  refine Exists.intro (fs30 p i X w) ?_
  refine And.intro (And.intro (fun hx => ?_) (fun hx => ?_)) ?_
  · have hx : decide (¬ X.id = 0) = true := hx
    have hx := of_decide_eq_true hx
    obtain ⟨m, m1, m2, m3, m4, m5, m6, m7⟩ := hF.some hx
    obtain ⟨b1, b2⟩ := bestK_of m1 m2 hL.inc (allL w).length m1 (Nat.le_refl _)
    refine And.intro ⟨fun _ _ _ _ => trivial, wS⟩ ?_
    refine And.intro ⟨fun _ _ _ _ => trivial, wS⟩ ?_
    have hnot : ((((!metK (allL w) X.id (allL w).length || decide (¬ (partE (bestK (allL w) X.id (allL w).length) p (toV p i)).2 = 0)) || decide (¬ (partE (bestK (allL w) X.id (allL w).length) p (toV p i)).1 = X.at_)) || ((getE w X.id 8).2 != X.alive)) || ((getE w X.id 4).2 && decide ((getE w X.id 4).1.v0 = i.client))) = false := by
      unfold ownedB at m3
      rw [m2] at m3
      rw [b1, b2, m5, ← m4, ← m6, m3]
      simp
    refine And.intro (fun hy => ?_) (fun hy => ?_)
    · exact absurd (hnot.symm.trans hy) (by decide)
    · refine ⟨bestK (allL w) X.id (allL w).length, [], [], trivial, fun _ => by rw [b2]; exact m7, ?_⟩
      repeat' (first | (refine And.intro ?_ ?_) | (intro _) | exact rfl)
  · have hx : decide (¬ X.id = 0) = false := hx
    have hx : X.id = 0 := by simpa using hx
    obtain ⟨z1, z2⟩ := hF.zero hx
    have hnot : (!(eqH X)) = false := by rw [z1]; rfl
    refine And.intro (fun hy => ?_) (fun hy => ?_)
    · exact absurd (hnot.symm.trans hy) (by decide)
    · refine ⟨bestK (allL w) X.id (allL w).length, [], [], trivial, fun c => absurd hx c, ?_⟩
      repeat' (first | (refine And.intro ?_ ?_) | (intro _) | exact rfl)
  refine fun (b : Body) (hb : BefOk w i.client p (toV p i) X b) => ?_
  refine Exists.intro (fs31 p i X w b) ?_
  refine And.intro ?_ ?_
  · refine ⟨(0 : Nat), [], [], trivial, Nat.zero_le _, ?_⟩
    repeat' (first | (refine And.intro ?_ ?_) | (intro _) | exact rfl)
  refine fun (k : Nat) (hk : k ≤ (allL w).length) => ?_
  refine And.intro (fun hk2 => ?_) (fun hk2 => ?_)
  · have hk2 : (k : Int) < (allL w).length := of_decide_eq_true hk2
    have o1 : I64 ((k : Int) + 1) := by unfold I64; omega
    have u1 : (allL w).length - (k + 1) < (allL w).length - k := by omega
    have u2 : k + 1 ≤ (allL w).length := by omega
    refine And.intro ⟨by omega, by omega⟩ ?_
    refine And.intro ⟨fun _ _ _ _ => trivial, wS⟩ ?_
    refine And.intro (fun hd => ?_) (fun hd => ?_)
    · refine And.intro o1 ?_
      refine ⟨k + 1, [], [], u1, u2, ?_⟩
      repeat' (first | (refine And.intro ?_ ?_) | (intro _) | exact rfl)
    have hd : (ownedB w i.client (bodG (allL w) k) || !meetsB (bodG (allL w) k) p (toV p i)) = false := hd
    obtain ⟨d1, d2⟩ := Bool.or_eq_false_iff.1 hd
    have d2 : meetsB (bodG (allL w) k) p (toV p i) = true := by simpa using d2
    refine And.intro (fun hx => ?_) (fun hx => ?_)
    · have hx : decide (X.id = 0) = true := hx
      obtain ⟨-, z2⟩ := hF.zero (of_decide_eq_true hx)
      rcases z2 k (by omega) with z | z
      · rw [z] at d1; cases d1
      · rw [z] at d2; cases d2
    have hx : decide (X.id = 0) = false := hx
    obtain ⟨y1, y2, y3⟩ := hb (of_decide_eq_false hx) k (by omega) d1 d2
    have hnot : ((decide (¬ (beforeE b (bodG (allL w) k) p (toV p i)).2 = 0) || decide (0 < (beforeE b (bodG (allL w) k) p (toV p i)).1)) || (decide ((beforeE b (bodG (allL w) k) p (toV p i)).1 = 0) && decide ((bodG (allL w) k).iD < X.id))) = false := by
      rw [y1]
      simp only [Bool.or_eq_false_iff, Bool.and_eq_false_iff, decide_eq_false_iff_not]
      refine ⟨⟨by decide, by omega⟩, ?_⟩
      by_cases hz : (beforeE b (bodG (allL w) k) p (toV p i)).1 = 0
      · right; have := y3 hz; omega
      · left; exact hz
    refine And.intro (fun hy => ?_) (fun hy => ?_)
    · exact absurd (hnot.symm.trans hy) (by decide)
    · refine And.intro o1 ?_
      refine ⟨k + 1, [], [], u1, u2, ?_⟩
      repeat' (first | (refine And.intro ?_ ?_) | (intro _) | exact rfl)
  · exact rfl
end Go.Proofs.YtjdohgcolhpegaaGreatDoor
