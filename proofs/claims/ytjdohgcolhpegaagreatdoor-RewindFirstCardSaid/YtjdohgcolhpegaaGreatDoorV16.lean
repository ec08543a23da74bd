/- RewindFirst: plain laws: what is met. -/
import Derived.Test.YtjdohgcolhpegaaGreatDoorV15
namespace Go.Proofs.YtjdohgcolhpegaaGreatDoor
open Go.RowKit

/-- Does the entity of a body belong to a client? -/
def ownedB (w : Wor) (c : Int) (b : Body) : Bool := (getE w b.iD 4).2 && decide ((getE w b.iD 4).1.v0 = c)
theorem own_keep {w : Wor} {c : Int} {b : Body} : ownedB w c b = !keepB w c b := by
  unfold ownedB keepB
  rw [Bool.not_not]
  cases h : (getE w b.iD 4).2 with
  | false => rfl
  | true =>
    obtain ⟨-, -, -, h4⟩ := get_hitC h
    obtain ⟨-, g2⟩ := get_fits h
    obtain ⟨-, -, x3, x4, x5, x6, x7, x8⟩ := g2.2.2.2.2.2.1 h4
    unfold eqC
    rw [h4, show (getE w b.iD 4).1.v1 = 0 by omega, show (getE w b.iD 4).1.v2 = 0 by omega, show (getE w b.iD 4).1.v3 = 0 by omega]
    simp
theorem Bods.oths {w : Wor} (h : Bods w (allL w)) (c : Int) : Bods w (othsL w c (allL w).length) where
  len := Nat.le_trans (filtM_len (allL w).length) h.len
  of := fun k hk => by
    obtain ⟨i, h1, h2, h3⟩ := filtM_get (d := Body.no) hk
    obtain ⟨a, a1, a2, a3⟩ := h.of i h1
    exact ⟨a, a1, h2.trans a2, a3⟩
  inc := fun i j h1 h2 => filtM_inc (key := Body.iD) (fun a b q1 q2 _ _ => h.inc a b q1 q2) h1 h2
theorem part_ok {b : Body} {p q : Vec} (hb : b.ok = true) (hs : segOk p q) (hw : (whereP b p q).2 = true) : (partE b p q).2 = 0 := by
  unfold partE
  rw [wrongE_of (F := oneB b) hs.1 hs.2.1 (fun _ _ => hb) hs.2.2, hw]
  rfl
/-- What the statement asks of a hit. -/
structure FOk (w : Wor) (c : Int) (p q : Vec) (X : Hit) : Prop where
  zero : X.id = 0 → X = Hit.no ∧ ∀ i, i < (allL w).length → ownedB w c (bodG (allL w) i) = true ∨ meetsB (bodG (allL w) i) p q = false
  some : X.id ≠ 0 → ∃ m, m < (allL w).length ∧ (bodG (allL w) m).iD = X.id ∧ ownedB w c (bodG (allL w) m) = false ∧ X.at_ = (partE (bodG (allL w) m) p q).1 ∧ (partE (bodG (allL w) m) p q).2 = 0 ∧ X.alive = (getE w X.id 8).2 ∧
    ∀ i, i < (allL w).length → ownedB w c (bodG (allL w) i) = false → meetsB (bodG (allL w) i) p q = true → (beforeE (bodG (allL w) m) (bodG (allL w) i) p q).2 = 0 ∧ (beforeE (bodG (allL w) m) (bodG (allL w) i) p q).1 ≤ 0 ∧ ((beforeE (bodG (allL w) m) (bodG (allL w) i) p q).1 = 0 → X.id ≤ (bodG (allL w) i).iD)
theorem met_fok {w : Wor} {c : Int} {p q : Vec} (hv : w.Valid) (h12 : w.l.n ≤ 12) : FOk w c p q (metE w (othsL w c (allL w).length) p q).1 ∧ (metE w (othsL w c (allL w).length) p q).2 = 0 := by
  have hL : Bods w (allL w) := bods_of hv
  have hK := hL.oths c
  have hK12 : (othsL w c (allL w).length).length ≤ 12 := Nat.le_trans hK.len h12
  obtain ⟨K, eK⟩ : ∃ K, K = othsL w c (allL w).length := ⟨_, rfl⟩
  rw [← eK] at hK hK12 ⊢
  have toL : ∀ j, j < K.length → ∃ i, i < (allL w).length ∧ bodG K j = bodG (allL w) i ∧ keepB w c (bodG (allL w) i) = true := fun j hj => by
    subst eK
    exact filtM_get (d := Body.no) hj
  have toK : ∀ i, i < (allL w).length → keepB w c (bodG (allL w) i) = true → ∃ j, j < K.length ∧ bodG K j = bodG (allL w) i := fun i hi hk => by
    subst eK
    exact filtM_idx (f := fun i => bodG (allL w) i) (g := fun i => keepB w c (bodG (allL w) i)) (d := Body.no) hi hk
  by_cases hf : (firstE K.length (bodG K) p q).2 = 0
  · obtain ⟨j, j1, j2, j3, j4, j5⟩ := first_some hK12 hK.inc hf
    obtain ⟨m, m1, m2, m3⟩ := toL j j1
    have hid := (hK.found hv j1).2
    have e : metE w K p q = (⟨(firstE K.length (bodG K) p q).1, (partE (bodG K (seeI K (firstE K.length (bodG K) p q).1).toNat) p q).1, (getE w (firstE K.length (bodG K) p q).1 8).2⟩, 0) := by
      unfold metE
      rw [show decide (¬ (firstE K.length (bodG K) p q).2 = 0) = false from decide_eq_false (by omega)]
    have eI : seeI K (firstE K.length (bodG K) p q).1 = (j : Int) := by
      have hx : ixN (fun k => decide ((bodG K k).iD = (firstE K.length (bodG K) p q).1)) 0 K.length = j := by
        have hle := ixN_le (g := fun k => decide ((bodG K k).iD = (firstE K.length (bodG K) p q).1)) (r := K.length) (k := 0)
        rcases Nat.lt_trichotomy (ixN (fun k => decide ((bodG K k).iD = (firstE K.length (bodG K) p q).1)) 0 K.length) j with h1 | h1 | h1
        · have := ixN_hit (g := fun k => decide ((bodG K k).iD = (firstE K.length (bodG K) p q).1)) (r := K.length) (k := 0) (by omega)
          have := of_decide_eq_true this
          have := hK.inc _ _ h1 j1
          omega
        · exact h1
        · have := ixN_no (g := fun k => decide ((bodG K k).iD = (firstE K.length (bodG K) p q).1)) (r := K.length) (k := 0) (i := j) (Nat.zero_le _) h1
          exact absurd j2 (of_decide_eq_false this)
      exact ixI_yes hx j1
    rw [e]
    refine ⟨⟨fun h0 => ?_, fun _ => ⟨m, m1, by rw [← m2]; exact j2, by rw [own_keep, m3]; rfl, ?_, ?_, rfl, fun i hi ho hm => ?_⟩⟩, rfl⟩
    · have h0 : (firstE K.length (bodG K) p q).1 = 0 := h0
      rw [← j2] at h0
      omega
    · show (partE (bodG K (seeI K _).toNat) p q).1 = _
      rw [eI, ← m2]; rfl
    · rw [← m2, part_ok (hK.ok hv j1) j3 j4]
    · rw [own_keep] at ho
      obtain ⟨k, k1, k2⟩ := toK i hi (by simpa using ho)
      have hb := (meets_ok (by rw [← k2]; exact hK.ok hv k1)).1 hm
      have hw : (whereP (bodG K k) p q).2 = true := by rw [k2]; exact hb.2
      obtain ⟨o1, o2⟩ := j5 k k1 hw
      rw [← m2, ← k2, before_met (hK.ok hv j1) (hK.ok hv k1) j3 j4 hw]
      exact ⟨rfl, o1, fun h => by
        have := o2 h
        show (firstE K.length (bodG K) p q).1 ≤ _
        rw [← j2]; exact this⟩
  · have e : metE w K p q = (Hit.no, 0) := by
      unfold metE
      rw [show decide (¬ (firstE K.length (bodG K) p q).2 = 0) = true from decide_eq_true hf]
    rw [e]
    refine ⟨⟨fun _ => ⟨rfl, fun i hi => ?_⟩, fun h => absurd rfl h⟩, rfl⟩
    cases ho : ownedB w c (bodG (allL w) i) with
    | true => exact .inl rfl
    | false =>
      rw [own_keep] at ho
      obtain ⟨k, k1, k2⟩ := toK i hi (by simpa using ho)
      right
      rw [← k2]
      exact first_none hK12 (fun k hk => hK.ok hv hk) hK.inc hf k k1
/-- A shot of the statement. -/
theorem shot_rng (i : Df.Input) : 1 ≤ (shotI i).client ∧ (shotI i).client ≤ 8 ∧ -8192 ≤ (shotI i).aimX ∧ (shotI i).aimX ≤ 8192 ∧ -8192 ≤ (shotI i).aimY ∧ (shotI i).aimY ≤ 8192 := by
  have h1 := tmod_rng (a := i.client) (b := 8) (by decide)
  have h2 := Int.tmod_nonneg (a := i.client.tmod 8 + 8) 8 (by omega)
  have h3 := tmod_rng (a := i.client.tmod 8 + 8) (b := 8) (by decide)
  have h4 := tmod_rng (a := i.aimX) (b := 8193) (by decide)
  have h5 := tmod_rng (a := i.aimY) (b := 8193) (by decide)
  unfold shotI
  simp only
  omega
def ptF (p : Vec) : Vec := ⟨p.x.tmod 1048577, p.y.tmod 1048577⟩
theorem ptF_rng (p : Vec) : -1048576 ≤ (ptF p).x ∧ (ptF p).x ≤ 1048576 ∧ -1048576 ≤ (ptF p).y ∧ (ptF p).y ≤ 1048576 := by
  have h4 := tmod_rng (a := p.x) (b := 1048577) (by decide)
  have h5 := tmod_rng (a := p.y) (b := 1048577) (by decide)
  unfold ptF
  simp only
  omega
theorem see_sh {h : Wrs} {p : Vec} {i : Df.Input} : seeB h (shotI i).client (ptF p) (shotI i) = shB h (shotI i).seen (shotI i).part := by
  obtain ⟨c1, c2, a1, a2, a3, a4⟩ := shot_rng i
  obtain ⟨p1, p2, p3, p4⟩ := ptF_rng p
  rw [Bool.eq_iff_iff]
  unfold seeB shB fitsB withB
  simp only [Bool.or_eq_true, Bool.not_eq_true', Bool.and_eq_false_iff, decide_eq_true_eq, decide_eq_false_iff_not]
  cases histB h <;> simp <;> omega
/-- The errors of See and of Shown. -/
theorem see_cases {h : Wrs} {p : Vec} {i : Df.Input} (h12 : ∀ k, k < h.n → (h.w k).l.n ≤ 12) :
    ((seeE h (shotI i).client (ptF p) (shotI i)).2 = 2 ∧ (shownE h (shotI i).seen (shotI i).part).2 = 2 ∧ (seeE h (shotI i).client (ptF p) (shotI i)).1 = Hit.no) ∨
    ((seeE h (shotI i).client (ptF p) (shotI i)).2 = 291 ∧ (shownE h (shotI i).seen (shotI i).part).2 = 6 ∧ (seeE h (shotI i).client (ptF p) (shotI i)).1 = Hit.no) ∨
    ((seeE h (shotI i).client (ptF p) (shotI i)).2 = 0 ∧ (shownE h (shotI i).seen (shotI i).part).2 = 0 ∧ (shownE h (shotI i).seen (shotI i).part).1.Valid ∧ FOk (shownE h (shotI i).seen (shotI i).part).1 (shotI i).client (ptF p) (toV (ptF p) (shotI i)) (seeE h (shotI i).client (ptF p) (shotI i)).1) := by
  unfold seeE
  rw [see_sh]
  cases hs : shB h (shotI i).seen (shotI i).part with
  | true =>
    left
    refine ⟨rfl, ?_, rfl⟩
    unfold shownE
    rw [hs]
  | false =>
    right
    simp only
    rcases shown_ok hs with h6 | ⟨h0, hv⟩
    · left
      rw [h6]
      exact ⟨rfl, rfl, rfl⟩
    · right
      rw [h0]
      obtain ⟨f1, f2⟩ := met_fok (c := (shotI i).client) (p := ptF p) (q := toV (ptF p) (shotI i)) hv (shown_12 h12)
      exact ⟨f2, rfl, hv, f1⟩
end Go.Proofs.YtjdohgcolhpegaaGreatDoor
