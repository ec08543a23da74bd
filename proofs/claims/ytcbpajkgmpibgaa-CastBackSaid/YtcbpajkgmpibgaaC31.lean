/- CastBack: the plain laws of the reverse and of the maps; the maps' contracts; the walk. -/
import Derived.Test.YtcbpajkgmpibgaaC27
namespace Go.Proofs.Ytcbpajkgmpibgaa
open Go.RowKit

theorem inb_rev {b : Body} {p q : Vec} {a c : Int} (h : Inb b p q a c) : Inb b q p (c - a) c := by
  refine ⟨slabs_rev h.s, fun hr => ?_⟩
  have := h.r hr
  rw [quad_eq] at this ⊢
  have e1 : c * (q.x - b.posX) + (c - a) * (p.x - q.x) = c * (p.x - b.posX) + a * (q.x - p.x) := by grind
  have e2 : c * (q.y - b.posY) + (c - a) * (p.y - q.y) = c * (p.y - b.posY) + a * (q.y - p.y) := by grind
  rw [e1, e2]; exact this
theorem met_rev1 {b : Body} {p q : Vec} (hb : b.ok = true) (h : (whereP b p q).2 = true) : (whereP b q p).2 = true := by
  obtain ⟨h1, h2⟩ := of_met hb h
  obtain ⟨a, c, hc, ha, hac, hi⟩ := h2 1 1 (by decide) (by decide) h1
  exact (met_of hb hc (by omega) (by omega) (inb_rev hi)).1
theorem met_rev {b : Body} {p q : Vec} (hb : b.ok = true) : (whereP b p q).2 = (whereP b q p).2 := by
  rw [Bool.eq_iff_iff]; exact ⟨met_rev1 hb, met_rev1 hb⟩
theorem idsK_congr {F G : Nat → Body} {p q p' q' : Vec} : ∀ {m : Nat}, (∀ k, k < m → (F k).iD = (G k).iD ∧ metB F p q k = metB G p' q' k) → idsK F p q m = idsK G p' q' m
  | 0, _ => rfl
  | k + 1, h => by
    obtain ⟨h1, h2⟩ := h k (by omega)
    simp only [idsK, h1, h2, idsK_congr (m := k) fun i hi => h i (by omega)]
theorem idsK_rev {F : Nat → Body} {p q : Vec} {m : Nat} (h : ∀ k, k < m → (F k).ok = true) : idsK F p q m = idsK F q p m :=
  idsK_congr fun k hk => ⟨rfl, met_rev (h k hk)⟩
/-- The same place. -/
def Peq (x y : Plc) : Prop := x = y ∨ (x.Rat ∧ y.Rat ∧ x.n * y.m = y.n * x.m)
theorem cmpI_scale {k : Int} (hk : 0 < k) (x y : Int) : cmpI (k * x) (k * y) = cmpI x y := by
  unfold cmpI
  simp only [Int.mul_lt_mul_left hk]
theorem ordP_peq1 {x x' : Plc} (h : Peq x x') (y : Plc) : ordP x y = ordP x' y := by
  rcases h with h | ⟨⟨s1, m1⟩, ⟨s2, m2⟩, e⟩
  · rw [h]
  · unfold ordP
    rw [s1, s2]
    by_cases hy : y.s = 0
    · rw [if_pos ⟨rfl, hy⟩, if_pos ⟨rfl, hy⟩, ← cmpI_scale m2, ← cmpI_scale m1 (x'.n * y.m)]
      congr 1
      · have : x'.m * (x.n * y.m) = (x.n * x'.m) * y.m := by grind
        rw [this, e]; grind
      · grind
    · have hn : ¬ ((0 : Int) = 0 ∧ y.s = 0) := fun c => hy c.2
      rw [if_neg hn, if_neg hn, if_neg hy, if_neg hy, if_pos rfl, if_pos rfl]
      congr 1
      unfold ordR
      obtain ⟨D, hD⟩ : ∃ D, D = y.n * x.m - x.n * y.m := ⟨_, rfl⟩
      obtain ⟨D', hD'⟩ : ∃ D', D' = y.n * x'.m - x'.n * y.m := ⟨_, rfl⟩
      have key : x'.m * D = x.m * D' := by
        rw [hD, hD']
        have : x'.m * (y.n * x.m - x.n * y.m) = x'.m * (y.n * x.m) - (x.n * x'.m) * y.m := by grind
        rw [this, e]; grind
      rw [← hD, ← hD']
      have sg : 0 ≤ D ↔ 0 ≤ D' := by
        constructor
        · intro h
          have : 0 ≤ x.m * D' := by rw [← key]; exact Int.mul_nonneg (by omega) h
          exact Int.nonneg_of_mul_nonneg_right this m1
        · intro h
          have : 0 ≤ x'.m * D := by rw [key]; exact Int.mul_nonneg (by omega) h
          exact Int.nonneg_of_mul_nonneg_right this m2
      by_cases h0 : 0 ≤ D
      · rw [if_pos h0, if_pos (sg.1 h0), ← cmpI_scale (Int.mul_pos m2 m2), ← cmpI_scale (Int.mul_pos m1 m1) (D' * D')]
        congr 1
        · have a1 : x'.m * x'.m * (D * D) = (x'.m * D) * (x'.m * D) := by grind
          rw [a1, key]; grind
        · grind
      · rw [if_neg h0, if_neg fun c => h0 (sg.2 c)]
theorem Peq.symm {x y : Plc} (h : Peq x y) : Peq y x := h.imp Eq.symm fun ⟨a, b, c⟩ => ⟨b, a, c.symm⟩
theorem ordP_peq {x x' y y' : Plc} (h : Peq x x') (k : Peq y y') : ordP x y = ordP x' y' := by
  rw [ordP_peq1 h, ordP_neg y x', ordP_peq1 k x', ← ordP_neg y' x']
theorem partW_peq {x x' : Plc} (h : Peq x x') : partW x = partW x' := by
  unfold partW
  congr 1
  funext i
  unfold aheadB
  rw [ordP_peq (Or.inl rfl) h]
theorem ent_peq {l h p q l' h' p' q' : Vec} (e : ∀ a c, Slabs l h p q a c ↔ Slabs l' h' p' q' a c) : (enterP l h p q).2 = (enterP l' h' p' q').2 ∧ ((enterP l h p q).2 = true → Peq (enterP l h p q).1 (enterP l' h' p' q').1) := by
  cases h1 : (enterP l h p q).2 with
  | false =>
    refine ⟨?_, fun c => by cases c⟩
    cases h2 : (enterP l' h' p' q').2 with
    | false => rfl
    | true =>
      obtain ⟨r, a0, a1, s, -⟩ := enter_yes h2
      exact absurd ((e _ _).2 s) (enter_no h1 r.m a0 a1)
  | true =>
    obtain ⟨r, a0, a1, s, k⟩ := enter_yes h1
    cases h2 : (enterP l' h' p' q').2 with
    | false => exact absurd ((e _ _).1 s) (enter_no h2 r.m a0 a1)
    | true =>
      obtain ⟨r', b0, b1, s', k'⟩ := enter_yes h2
      refine ⟨rfl, fun _ => .inr ⟨r, r', ?_⟩⟩
      have t1 := k _ _ r'.m b0 b1 ((e _ _).2 s')
      have t2 := k' _ _ r.m a0 a1 ((e _ _).1 s)
      omega
/-- A body and a segment that are as others. -/
structure Like (b : Body) (p q : Vec) (b' : Body) (p' q' : Vec) : Prop where
  r : b.round = b'.round
  A : segA p q = segA p' q'
  H : segH b p q = segH b' p' q'
  C : b.round = true → segC b p = segC b' p'
  S : ∀ a c, Slabs b.low b.high p q a c ↔ Slabs b'.low b'.high p' q' a c
theorem Like.met {b b' : Body} {p q p' q' : Vec} (h : Like b p q b' p' q') : (whereP b p q).2 = (whereP b' p' q').2 ∧ ((whereP b p q).2 = true → Peq (whereP b p q).1 (whereP b' p' q').1) := by
  have e := ent_peq h.S
  unfold whereP
  have e1 : (b.ent p q).2 = (b'.ent p' q').2 := e.1
  rw [← e1, ← h.r]
  split
  · exact e
  · rename_i hc
    have hr : b.round = true := by cases hr : b.round with | true => rfl | false => rw [hr] at hc; simp at hc
    have a1 : apart b p q = apart b' p' q' := by unfold apart segS; rw [h.A, h.H, h.C hr]
    have a2 : segS b p q = segS b' p' q' := by unfold segS; rw [h.A, h.H, h.C hr]
    rw [← h.C hr, ← a1, ← h.A, ← h.H, ← a2]
    split
    · exact ⟨rfl, fun _ => .inl rfl⟩
    · split
      · exact ⟨rfl, fun _ => .inl rfl⟩
      · exact ⟨rfl, fun _ => .inl rfl⟩
theorem Like.part {b b' : Body} {p q p' q' : Vec} (h : Like b p q b' p' q') (hb : b.ok = true) (hb' : b'.ok = true) (hp : p.In) (hq : q.In) (hp' : p'.In) (hq' : q'.In) (hs : shortB p q = true) (hs' : shortB p' q' = true) : partE b p q = partE b' p' q' := by
  rw [part_val hb hp hq hs, part_val hb' hp' hq' hs']
  obtain ⟨e1, e2⟩ := h.met
  rw [← e1]
  cases hm : (whereP b p q).2 with
  | false => rfl
  | true => simp only [Bool.not_true]; rw [partW_peq (e2 hm)]
theorem plK_peq {F G : Nat → Body} {p q p' q' : Vec} (j : Int) : ∀ {m : Nat}, (∀ k, k < m → (F k).iD = (G k).iD ∧ Like (F k) p q (G k) p' q') → Peq (plK F p q m j) (plK G p' q' m j)
  | 0, _ => .inl rfl
  | k + 1, h => by
    obtain ⟨h1, h2⟩ := h k (by omega)
    obtain ⟨e1, e2⟩ := h2.met
    have ih := plK_peq (m := k) j fun i hi => h i (by omega)
    have e1 : metB F p q k = metB G p' q' k := e1
    simp only [plK]
    rw [← e1, ← h1]
    split
    · rename_i hm
      split
      · exact e2 hm
      · exact ih
    · exact ih
theorem hits_like {F G : Nat → Body} {p q p' q' : Vec} {m : Nat} (h : ∀ k, k < m → (F k).iD = (G k).iD ∧ Like (F k) p q (G k) p' q') : hitsL m F p q = hitsL m G p' q' := by
  unfold hitsL
  rw [idsK_congr (G := G) (p' := p') (q' := q') fun k hk => ⟨(h k hk).1, (h k hk).2.met.1⟩]
  congr 1
  funext x y
  unfold ltK
  rw [ordP_peq (plK_peq x h) (plK_peq y h)]
/-- The maps. -/
def mpV (i : Nat) (s t : Int) (v : Vec) : Vec := match i with | 0 => ⟨v.x + s, v.y + t⟩ | 1 => ⟨-v.x, v.y⟩ | _ => ⟨-v.y, v.x⟩
def mpB (i : Nat) (s t : Int) (b : Body) : Body := ⟨b.iD, (mpV i s t ⟨b.posX, b.posY⟩).x, (mpV i s t ⟨b.posX, b.posY⟩).y, b.velX, b.velY, match i with | 0 => b.w | 1 => b.w | _ => b.h, match i with | 0 => b.h | 1 => b.h | _ => b.w, b.round, b.fixed⟩
def I16 (x : Int) : Prop := -32768 ≤ x ∧ x ≤ 32767
theorem mpB_ok {b : Body} (h : b.Sm) (i : Nat) {s t : Int} (hs : I16 s) (ht : I16 t) : (mpB i s t b).ok = true := by
  have h1 := h.id
  have h2 := h.x
  have h3 := h.y
  have h4 := h.w
  have h5 := h.h
  unfold I16 at hs ht
  refine Body.ok_of ?_ h.v
  match i with
  | 0 => exact ⟨by simp only [mpB]; omega, by simp only [mpB, mpV]; omega, by simp only [mpB, mpV]; omega, by simp only [mpB]; omega, by simp only [mpB]; omega, h.r⟩
  | 1 => exact ⟨by simp only [mpB]; omega, by simp only [mpB, mpV]; omega, by simp only [mpB, mpV]; omega, by simp only [mpB]; omega, by simp only [mpB]; omega, h.r⟩
  | _ + 2 => exact ⟨by simp only [mpB]; omega, by simp only [mpB, mpV]; omega, by simp only [mpB, mpV]; omega, by simp only [mpB]; omega, by simp only [mpB]; omega, fun hr => (h.r hr).symm⟩
theorem mpB_like {b : Body} (h : b.Sm) (i : Nat) {s t : Int} (hs : I16 s) (ht : I16 t) (p q : Vec) : Like b p q (mpB i s t b) (mpV i s t p) (mpV i s t q) := by
  obtain ⟨l1, l2⟩ := low_eq h.ok
  obtain ⟨m1, m2⟩ := low_eq (mpB_ok h i hs ht)
  refine ⟨rfl, ?_, ?_, fun hr => ?_, fun a c => ?_⟩
  · unfold segA; match i with | 0 => (simp only [mpV]; grind) | 1 => (simp only [mpV]; grind) | _ + 2 => (simp only [mpV]; grind)
  · unfold segH; match i with | 0 => (simp only [mpV, mpB]; grind) | 1 => (simp only [mpV, mpB]; grind) | _ + 2 => (simp only [mpV, mpB]; grind)
  · have e : b.w = b.h := h.r hr
    unfold segC; match i with | 0 => (simp only [mpV, mpB]; grind) | 1 => (simp only [mpV, mpB]; grind) | _ + 2 => (simp only [mpV, mpB]; grind)
  · rw [l1, l2, m1, m2]
    unfold Slabs Slab
    match i with
    | 0 => simp only [mpV, mpB]; grind
    | 1 => simp only [mpV, mpB]; grind
    | _ + 2 => simp only [mpV, mpB]; grind
theorem mpV_in {p : Vec} (h : (-5000 ≤ p.x ∧ p.x ≤ 5000) ∧ -5000 ≤ p.y ∧ p.y ≤ 5000) (i : Nat) {s t : Int} (hs : I16 s) (ht : I16 t) : (mpV i s t p).In := by
  unfold I16 at hs ht
  match i with
  | 0 => constructor <;> simp only [mpV] <;> omega
  | 1 => constructor <;> simp only [mpV] <;> omega
  | _ + 2 => constructor <;> simp only [mpV] <;> omega
theorem mpV_short {p q : Vec} (h : shortB p q = true) (i : Nat) (s t : Int) : shortB (mpV i s t p) (mpV i s t q) = true := by
  obtain ⟨h1, h2⟩ := short_of h
  unfold shortB
  match i with
  | 0 => simp only [mpV, decide_eq_true_eq]; omega
  | 1 => simp only [mpV, decide_eq_true_eq]; omega
  | _ + 2 => simp only [mpV, decide_eq_true_eq]; omega
def bF (F : Nat → Form) (i : Nat) : Body := madeB i (F i)
theorem bF_inc (F : Nat → Form) (m : Nat) : ∀ i j, i < j → j < m → (bF F i).iD < (bF F j).iD := fun i j h _ => by simp only [bF, madeB]; omega
def bS (m : Nat) (F : Nat → Form) : SV := .rs 9 m fun i => (bF F i).cells
def lS' (l : List Int) : SV := .rs 1 l.length (cellsI l)

/-- A number that is pointed to. -/
def rpI : SV → Int
  | .rp (x :: _) _ => (rdI .i16).dec x
  | _ => 0
def IsRi (x : SV) : Prop := ∃ s : Int, x = .rp [.v (.int .i16 s)] 0 ∧ I16 s
def VecS (v : Vec) : Prop := (-100000 ≤ v.x ∧ v.x ≤ 100000) ∧ -100000 ≤ v.y ∧ v.y ≤ 100000
set_option maxHeartbeats 2000000 in
set_option maxRecDepth 8000 in
theorem Mp0_walk : ∀ a, conj ((fun a => [VecS a.1, IsRi a.2.1, IsRi a.2.2]) a) → evFn (C := cx) [conAt] [] 0 noHow Try.f19 (((rds3 rdVec rdX rdX)).enc a) fun v H _ => resOut ((fun a => (mpV 0 (rpI a.2.1) (rpI a.2.2) a.1).sv) a) H v := by
  intro ⟨v, x, y⟩ ⟨hv, hx, hy⟩
  obtain ⟨s, rfl, hs⟩ : IsRi x := hx
  obtain ⟨t, rfl, ht⟩ : IsRi y := hy
  have hv : VecS v := hv
  unfold VecS at hv
  unfold I16 at hs ht
  repeat' (first | (refine And.intro ?_ ?_) | (intro _) | exact rfl)
  all_goals first | omega | (dsimp only; omega)
noncomputable def conMp0 : Con cx := walkCon 19 Try.call19 (rds3 rdVec rdX rdX) (fun a => [VecS a.1, IsRi a.2.1, IsRi a.2.2]) (fun a => (mpV 0 (rpI a.2.1) (rpI a.2.2) a.1).sv) (fun _ => noHow) [] (fun _ => rfl) follows Try.func19 (by kernel_rfl) Mp0_walk
set_option maxHeartbeats 2000000 in
set_option maxRecDepth 8000 in
theorem Mp1_walk : ∀ a, conj ((fun v => [VecS v]) a) → evFn (C := cx) [conAt] [] 0 noHow Try.f20 (((rds1 rdVec)).enc a) fun v H _ => resOut ((fun v => (mpV 1 0 0 v).sv) a) H v := by
  intro v hv
  have hv : VecS v := hv
  unfold VecS at hv
  repeat' (first | (refine And.intro ?_ ?_) | (intro _) | exact rfl)
  all_goals first | omega | (dsimp only; omega)
noncomputable def conMp1 : Con cx := walkCon 20 Try.call20 (rds1 rdVec) (fun v => [VecS v]) (fun v => (mpV 1 0 0 v).sv) (fun _ => noHow) [] (fun _ => rfl) follows Try.func20 (by kernel_rfl) Mp1_walk
set_option maxHeartbeats 2000000 in
set_option maxRecDepth 8000 in
theorem Mp2_walk : ∀ a, conj ((fun v => [VecS v]) a) → evFn (C := cx) [conAt] [] 0 noHow Try.f21 (((rds1 rdVec)).enc a) fun v H _ => resOut ((fun v => (mpV 2 0 0 v).sv) a) H v := by
  intro v hv
  have hv : VecS v := hv
  unfold VecS at hv
  repeat' (first | (refine And.intro ?_ ?_) | (intro _) | exact rfl)
  all_goals first | omega | (dsimp only; omega)
noncomputable def conMp2 : Con cx := walkCon 21 Try.call21 (rds1 rdVec) (fun v => [VecS v]) (fun v => (mpV 2 0 0 v).sv) (fun _ => noHow) [] (fun _ => rfl) follows Try.func21 (by kernel_rfl) Mp2_walk

/-- Is a number among the first of a row? -/
def anyE (L : List Int) (x : Int) : Nat → Bool
  | 0 => false
  | j + 1 => anyE L x j || decide (x = L.getD j 0)
theorem anyE_of {L : List Int} {x : Int} : ∀ {j : Nat}, ∀ i, i < j → x = L.getD i 0 → anyE L x j = true
  | 0, i, h, _ => by omega
  | j + 1, i, h, e => by
    simp only [anyE, Bool.or_eq_true]
    rcases Nat.lt_or_ge i j with c | c
    · exact .inl (anyE_of i c e)
    · obtain rfl : i = j := by omega
      exact .inr (decide_eq_true e)
theorem anyE_mem {L : List Int} {x : Int} (h : x ∈ L) : anyE L x L.length = true := by
  obtain ⟨i, hi, e⟩ := List.getElem_of_mem h
  refine anyE_of i hi ?_
  rw [List.getD_eq_getElem?_getD, List.getElem?_eq_getElem hi, ← e]; rfl
def bkG (i : Nat) (s t : Int) (F : Nat → Form) (k : Nat) : Body := mpB i s t (bF F k)
def bkH (s t : Int) (p q : Vec) : Heap := [(0, .lay [.v (.int .i16 s)] 45), (1, .lay [.v (.int .i16 t)] 45), (2, .lay p.cells 28), (3, .lay q.cells 28)]
def bkS (m : Nat) (F : Nat → Form) (L : List Int) : List (Nat × Slot) := [sl 12 (.p 0 0), sl 13 (.p 1 0), sl 15 (bS m F), sl 16 (.p 2 0), sl 17 (.p 3 0), sl 19 (lS' L)]
def bk1 (m : Nat) (F : Nat → Form) (s t : Int) (p q : Vec) (L R : List Int) : Cut := ⟨Nat, fun k => k ≤ L.length, fun k => ⟨sl 21 (lS' R) :: sl 78 (lS' L) :: sl 79 (.v (.int .i64 L.length)) :: sl 80 (.v (.int .i64 k)) :: bkS m F L, bkH s t p q, 4, 0, [], []⟩, fun k => L.length - k⟩
def bk2 (m : Nat) (F : Nat → Form) (s t : Int) (p q : Vec) (L R : List Int) (k : Nat) : Cut := ⟨Nat, fun j => j ≤ R.length, fun j => ⟨sl 21 (lS' R) :: sl 24 (.v (.int .i64 (L.getD k 0))) :: sl 25 (.v (.bool (anyE R (L.getD k 0) j))) :: sl 78 (lS' L) :: sl 79 (.v (.int .i64 L.length)) :: sl 80 (.v (.int .i64 k)) :: sl 84 (lS' R) :: sl 85 (.v (.int .i64 R.length)) :: sl 86 (.v (.int .i64 j)) :: bkS m F L, bkH s t p q, 4, 0, [], []⟩, fun j => R.length - j⟩
def bkC : Nat → SV
  | 0 => .f (.func 19) [] [.p 0 0, .p 1 0]
  | 1 => .v (.func (.func 20) #[] #[])
  | _ => .v (.func (.func 21) #[] #[])
def bkT (i : Int) (m : Nat) (F : Nat → Form) (L : List Int) : List (Nat × Slot) := sl 102 (.agg [bkC 0, bkC 1, bkC 2]) :: sl 103 (.il .i64 i) :: bkS m F L
def bk3 (m : Nat) (F : Nat → Form) (s t : Int) (p q : Vec) (L : List Int) : Cut := ⟨Int, fun i => i = 0 ∨ i = 1 ∨ i = 2 ∨ i = 3, fun i => ⟨bkT i m F L, bkH s t p q, 4, 0, [], []⟩, fun i => (3 - i).toNat⟩
def bk4_0 (m : Nat) (F : Nat → Form) (s t : Int) (p q : Vec) (L : List Int) : Cut := ⟨Nat, fun k => k ≤ m, fun k => ⟨sl 29 (.il .i64 0) :: sl 30 (bkC 0) :: sl 31 (.g 4 5 9 0 k) :: sl 107 (bS m F) :: sl 108 (.v (.int .i64 m)) :: sl 109 (.v (.int .i64 k)) :: bkT 0 m F L, (4, .lst 5 9 k (fun j => (bkG 0 s t F j).cells) 36) :: bkH s t p q, 6, 0, [], []⟩, fun k => m - k⟩
def bk5_0 (m : Nat) (F : Nat → Form) (s t : Int) (p q : Vec) (L : List Int) : Cut := ⟨Unit, fun _ => True, fun _ => ⟨sl 30 (bkC 0) :: sl 31 (.rs 9 m fun j => (bkG 0 s t F j).cells) :: bkT 0 m F L, bkH s t p q, 4, 0, [], []⟩, fun _ => 0⟩
def bk4_1 (m : Nat) (F : Nat → Form) (s t : Int) (p q : Vec) (L : List Int) : Cut := ⟨Nat, fun k => k ≤ m, fun k => ⟨sl 29 (.il .i64 1) :: sl 30 (bkC 1) :: sl 31 (.g 4 5 9 0 k) :: sl 107 (bS m F) :: sl 108 (.v (.int .i64 m)) :: sl 109 (.v (.int .i64 k)) :: bkT 1 m F L, (4, .lst 5 9 k (fun j => (bkG 1 s t F j).cells) 36) :: bkH s t p q, 6, 0, [], []⟩, fun k => m - k⟩
def bk5_1 (m : Nat) (F : Nat → Form) (s t : Int) (p q : Vec) (L : List Int) : Cut := ⟨Unit, fun _ => True, fun _ => ⟨sl 30 (bkC 1) :: sl 31 (.rs 9 m fun j => (bkG 1 s t F j).cells) :: bkT 1 m F L, bkH s t p q, 4, 0, [], []⟩, fun _ => 0⟩
def bk4_2 (m : Nat) (F : Nat → Form) (s t : Int) (p q : Vec) (L : List Int) : Cut := ⟨Nat, fun k => k ≤ m, fun k => ⟨sl 29 (.il .i64 2) :: sl 30 (bkC 2) :: sl 31 (.g 4 5 9 0 k) :: sl 107 (bS m F) :: sl 108 (.v (.int .i64 m)) :: sl 109 (.v (.int .i64 k)) :: bkT 2 m F L, (4, .lst 5 9 k (fun j => (bkG 2 s t F j).cells) 36) :: bkH s t p q, 6, 0, [], []⟩, fun k => m - k⟩
def bk5_2 (m : Nat) (F : Nat → Form) (s t : Int) (p q : Vec) (L : List Int) : Cut := ⟨Unit, fun _ => True, fun _ => ⟨sl 30 (bkC 2) :: sl 31 (.rs 9 m fun j => (bkG 2 s t F j).cells) :: bkT 2 m F L, bkH s t p q, 4, 0, [], []⟩, fun _ => 0⟩
set_option maxHeartbeats 20000000 in
set_option maxRecDepth 8000 in
theorem back_walk (n : Nat) (F : Nat → Form) (x y dx dy s t : Int) (hn : (n : Int) ≤ 9223372036854775807) (hF : ∀ i, i < madeN n → (F i).Ok) (hx : I8 x) (hy : I8 y) (hdx : I8 dx) (hdy : I8 dy) (hs1 : I16 s) (ht1 : I16 t) : evFn (C := cx) [conAwake, conMade, conEnds, conHits, conPart, conMp0, conMp1, conMp2, conSme] [] 0 ⟨[], [38], [10, 14, 23, 27], 4⟩ Try.f4 ((rds7 rdForms (rdI .i8) (rdI .i8) (rdI .i8) (rdI .i8) (rdI .i16) (rdI .i16)).enc ((n, F), x, y, dx, dy, s, t)) fun v H _ => resOut (.bl true) H v := by
  have hN := near_ends (dx := dx) (dy := dy) hx hy
  obtain ⟨m, hm⟩ : ∃ m, m = madeN n := ⟨_, rfl⟩
  have hm20 : m ≤ 20 := by rw [hm]; exact madeN_le n
  have hsm : ∀ i, i < m → (bF F i).Sm := fun i hi => madeB_Sm (hF i (by omega)) (by omega)
  have hok : ∀ i, i < m → (bF F i).ok = true := fun i hi => (hsm i hi).ok
  have hinc := bF_inc F m
  have ip := hN.inP
  have iq := hN.inV (n := 30) (by decide)
  have gp := hN.go (n := 0) (by decide)
  rw [goV_0] at gp
  have gq := hN.go (n := 30) (by decide)
  have hs := hN.short (n := 30) (by decide)
  have hs' := hN.short' (n := 30) (by decide)
  have m6 : (m : Int) ≤ 1000000 := by omega
  have her : ∀ (G : Nat → Body) (p q : Vec), p.In → q.In → shortB p q = true → (∀ i, i < m → (G i).ok = true) → (∀ i, (G i).iD = (bF F i).iD) → hitsErr m G p q = 0 ∧ hitsE m G p q = hitsL m G p q := fun G p q h1 h2 h3 h4 h5 => by
    have e : hitsErr m G p q = 0 := by
      unfold hitsErr
      rw [unsN_of (F := G) fun i h1 h2 => by rw [h5, h5]; exact hinc (i - 1) i (by omega) (by omega), decide_eq_false (by omega)]
      exact wrongE_of h1 h2 h4 h3
    exact ⟨e, by unfold hitsE; rw [e]; rfl⟩
  obtain ⟨he, hl⟩ := her (bF F) (begV x y) (goV (begV x y) (stepV dx dy) 30) ip iq hs hok fun _ => rfl
  obtain ⟨he', hl'⟩ := her (bF F) (goV (begV x y) (stepV dx dy) 30) (begV x y) iq ip hs' hok fun _ => rfl
  have hrev := idsK_rev (F := bF F) (p := (begV x y)) (q := (goV (begV x y) (stepV dx dy) 30)) (m := m) hok
  have hil := idsK_len (F := bF F) (p := (begV x y)) (q := (goV (begV x y) (stepV dx dy) 30)) m
  have hll : (hitsE m (bF F) (begV x y) (goV (begV x y) (stepV dx dy) 30)).length = (idsK (bF F) (begV x y) (goV (begV x y) (stepV dx dy) 30) m).length := by rw [hl]; exact sortL_len _
  have hlr : (hitsE m (bF F) (begV x y) (goV (begV x y) (stepV dx dy) 30)).length = (hitsE m (bF F) (goV (begV x y) (stepV dx dy) 30) (begV x y)).length := by
    rw [hl, hl']; unfold hitsL; rw [sortL_len, sortL_len, hrev]
  have hmem : ∀ z ∈ (hitsE m (bF F) (begV x y) (goV (begV x y) (stepV dx dy) 30)), z ∈ (hitsE m (bF F) (goV (begV x y) (stepV dx dy) 30) (begV x y)) := fun z hz => by
    rw [hl] at hz; rw [hl']
    have := sortL_mem.1 hz
    rw [hrev] at this
    exact sortL_mem.2 this
  refine And.intro ⟨fun _ _ => trivial, hn, hF⟩ ?_
  refine And.intro ⟨hx, hy, hdx, hdy, (⟨by decide, by decide⟩ : (0 : Int) ≤ 30 ∧ (30 : Int) ≤ 100)⟩ ?_
  have pre2 : (m : Int) ≤ 1000000 ∧ (hitsErr m (bF F) (begV x y) (goV (begV x y) (stepV dx dy) 30) = 0 → (idsK (bF F) (begV x y) (goV (begV x y) (stepV dx dy) 30) m).length ≤ 20) := ⟨m6, fun _ => by omega⟩
  have pre3 : (m : Int) ≤ 1000000 ∧ (hitsErr m (bF F) (goV (begV x y) (stepV dx dy) 30) (begV x y) = 0 → (idsK (bF F) (goV (begV x y) (stepV dx dy) 30) (begV x y) m).length ≤ 20) := ⟨m6, fun _ => by rw [← hrev]; omega⟩
  rw [hm] at pre2 pre3
  refine And.intro ⟨fun _ _ => trivial, pre2.1, pre2.2⟩ ?_
  refine And.intro ⟨fun _ _ => trivial, pre3.1, pre3.2⟩ ?_
  have s0 : hitsErr (madeN n) (bF F) (begV x y) (goV (begV x y) (stepV dx dy) 30) + hitsErr (madeN n) (bF F) (goV (begV x y) (stepV dx dy) 30) (begV x y) = 0 := by rw [← hm, he, he']; rfl
  refine And.intro (i64_0 s0) ?_
  refine And.intro (fun hc => ?_) (fun hc => ?_)
  · have hc : (decide (¬ hitsErr (madeN n) (bF F) (begV x y) (goV (begV x y) (stepV dx dy) 30) + hitsErr (madeN n) (bF F) (goV (begV x y) (stepV dx dy) 30) (begV x y) = 0) || decide (¬ ((hitsE (madeN n) (bF F) (begV x y) (goV (begV x y) (stepV dx dy) 30)).length : Int) = (hitsE (madeN n) (bF F) (goV (begV x y) (stepV dx dy) 30) (begV x y)).length)) = true := hc
    exfalso
    rw [← hm] at hc s0
    rw [s0, hlr] at hc
    simp only [Bool.or_eq_true, decide_eq_true_eq] at hc
    rcases hc with hc | hc <;> first | exact hc rfl | exact hc trivial
  clear hc
  refine Exists.intro (bk1 m F s t (begV x y) (goV (begV x y) (stepV dx dy) 30) (hitsE m (bF F) (begV x y) (goV (begV x y) (stepV dx dy) 30)) (hitsE m (bF F) (goV (begV x y) (stepV dx dy) 30) (begV x y))) ?_
  refine And.intro ?_ ?_
  · refine ⟨(0 : Nat), [], [], trivial, Nat.zero_le _, ?_⟩
    subst hm
    repeat' (first | (refine And.intro ?_ ?_) | (intro _) | exact rfl)
  clear pre2 pre3 s0 hm hn hF
  have lim : (hitsE m (bF F) (begV x y) (goV (begV x y) (stepV dx dy) 30)).length ≤ 20 := by omega
  refine fun (k : Nat) (hk : k ≤ (hitsE m (bF F) (begV x y) (goV (begV x y) (stepV dx dy) 30)).length) => ?_
  refine And.intro (fun hb => ?_) (fun hb => ?_)
  · have hb : (k : Int) < (hitsE m (bF F) (begV x y) (goV (begV x y) (stepV dx dy) 30)).length := of_decide_eq_true hb
    refine And.intro ⟨by omega, by omega⟩ ?_
    refine Exists.intro (bk2 m F s t (begV x y) (goV (begV x y) (stepV dx dy) 30) (hitsE m (bF F) (begV x y) (goV (begV x y) (stepV dx dy) 30)) (hitsE m (bF F) (goV (begV x y) (stepV dx dy) 30) (begV x y)) k) ?_
    refine And.intro ?_ ?_
    · refine ⟨(0 : Nat), [], [], trivial, Nat.zero_le _, ?_⟩
      repeat' (first | (refine And.intro ?_ ?_) | (intro _) | exact rfl)
    refine fun (j : Nat) (hj : j ≤ (hitsE m (bF F) (goV (begV x y) (stepV dx dy) 30) (begV x y)).length) => ?_
    refine And.intro (fun hb2 => ?_) (fun hb2 => ?_)
    · have hb2 : (j : Int) < (hitsE m (bF F) (goV (begV x y) (stepV dx dy) 30) (begV x y)).length := of_decide_eq_true hb2
      refine And.intro ⟨by omega, by omega⟩ ?_
      refine And.intro (by unfold I64; omega : I64 ((j : Int) + 1)) ?_
      refine ⟨j + 1, [], [], (by show (hitsE m (bF F) (goV (begV x y) (stepV dx dy) 30) (begV x y)).length - (j + 1) < (hitsE m (bF F) (goV (begV x y) (stepV dx dy) 30) (begV x y)).length - j; omega), (by omega : j + 1 ≤ (hitsE m (bF F) (goV (begV x y) (stepV dx dy) 30) (begV x y)).length), ?_⟩
      repeat' (first | (refine And.intro ?_ ?_) | (intro _) | exact rfl)
    · have hb2 : ¬ (j : Int) < (hitsE m (bF F) (goV (begV x y) (stepV dx dy) 30) (begV x y)).length := of_decide_eq_false hb2
      obtain rfl : j = (hitsE m (bF F) (goV (begV x y) (stepV dx dy) 30) (begV x y)).length := by omega
      refine And.intro (fun hc => ?_) (fun hc => ?_)
      · have hc : (!anyE (hitsE m (bF F) (goV (begV x y) (stepV dx dy) 30) (begV x y)) ((hitsE m (bF F) (begV x y) (goV (begV x y) (stepV dx dy) 30)).getD k 0) (hitsE m (bF F) (goV (begV x y) (stepV dx dy) 30) (begV x y)).length) = true := hc
        exfalso
        have hkl : k < (hitsE m (bF F) (begV x y) (goV (begV x y) (stepV dx dy) 30)).length := by omega
        have hg : (hitsE m (bF F) (begV x y) (goV (begV x y) (stepV dx dy) 30)).getD k 0 ∈ (hitsE m (bF F) (begV x y) (goV (begV x y) (stepV dx dy) 30)) := by
          rw [List.getD_eq_getElem?_getD, List.getElem?_eq_getElem hkl]
          exact List.getElem_mem hkl
        rw [anyE_mem (hmem _ hg)] at hc
        exact (Bool.false_ne_true hc).elim
      · clear hc
        refine And.intro (by unfold I64; omega : I64 ((k : Int) + 1)) ?_
        refine ⟨k + 1, [], [], (by show (hitsE m (bF F) (begV x y) (goV (begV x y) (stepV dx dy) 30)).length - (k + 1) < (hitsE m (bF F) (begV x y) (goV (begV x y) (stepV dx dy) 30)).length - k; omega), (by omega : k + 1 ≤ (hitsE m (bF F) (begV x y) (goV (begV x y) (stepV dx dy) 30)).length), ?_⟩
        repeat' (first | (refine And.intro ?_ ?_) | (intro _) | exact rfl)
  refine Exists.intro (bk3 m F s t (begV x y) (goV (begV x y) (stepV dx dy) 30) (hitsE m (bF F) (begV x y) (goV (begV x y) (stepV dx dy) 30))) ?_
  refine And.intro ?_ ?_
  · refine ⟨(0 : Int), [], [], trivial, .inl rfl, ?_⟩
    repeat' (first | (refine And.intro ?_ ?_) | (intro _) | exact rfl)
  clear hb hk k
  have vq : VecS (goV (begV x y) (stepV dx dy) 30) := ⟨by omega, by omega⟩
  have vp : VecS (begV x y) := ⟨by omega, by omega⟩
  refine fun (i : Int) (hi : i = 0 ∨ i = 1 ∨ i = 2 ∨ i = 3) => ?_
  rcases hi with rfl | rfl | rfl | rfl
  · refine Exists.intro (bk5_0 m F s t (begV x y) (goV (begV x y) (stepV dx dy) 30) (hitsE m (bF F) (begV x y) (goV (begV x y) (stepV dx dy) 30))) ?_
    have gok : ∀ j, j < m → ((bkG 0 s t F) j).ok = true := fun j hj => mpB_ok (hsm j hj) 0 hs1 ht1
    have glk : ∀ j, j < m → Like (bF F j) (begV x y) (goV (begV x y) (stepV dx dy) 30) ((bkG 0 s t F) j) (mpV 0 s t (begV x y)) (mpV 0 s t (goV (begV x y) (stepV dx dy) 30)) := fun j hj => mpB_like (hsm j hj) 0 hs1 ht1 _ _
    have np : (mpV 0 s t (begV x y)).In := mpV_in ⟨by omega, by omega⟩ 0 hs1 ht1
    have nq : (mpV 0 s t (goV (begV x y) (stepV dx dy) 30)).In := mpV_in ⟨by omega, by omega⟩ 0 hs1 ht1
    have ns : shortB (mpV 0 s t (begV x y)) (mpV 0 s t (goV (begV x y) (stepV dx dy) 30)) = true := mpV_short hs 0 s t
    refine And.intro ?_ ?_
    · refine Exists.intro (bk4_0 m F s t (begV x y) (goV (begV x y) (stepV dx dy) 30) (hitsE m (bF F) (begV x y) (goV (begV x y) (stepV dx dy) 30))) ?_
      refine And.intro ?_ ?_
      · refine ⟨(0 : Nat), [], [.slot2 31 9 36], trivial, Nat.zero_le _, ?_⟩
        repeat' (first | (refine And.intro ?_ ?_) | (intro _) | exact rfl)
        all_goals exact absurd ‹_ < 0› (Nat.not_lt_zero _)
      refine fun (k : Nat) (hk : k ≤ m) => ?_
      refine And.intro (fun hb => ?_) (fun hb => ?_)
      · have hb : (k : Int) < m := of_decide_eq_true hb
        have hk2 : k < m := by omega
        have epart := (glk k hk2).part (hok k hk2) (gok k hk2) ip iq np nq hs ns
        have sb := hsm k hk2
        have vb : VecS ⟨(bF F k).posX, (bF F k).posY⟩ := ⟨⟨by have := sb.x; show -100000 ≤ (bF F k).posX; omega, by have := sb.x; show (bF F k).posX ≤ 100000; omega⟩, by have := sb.y; show -100000 ≤ (bF F k).posY; omega, by have := sb.y; show (bF F k).posY ≤ 100000; omega⟩
        refine And.intro ⟨by omega, by omega⟩ ?_
        refine And.intro ⟨vb, ⟨s, rfl, hs1⟩, ⟨t, rfl, ht1⟩⟩ ?_
        refine And.intro ⟨vp, ⟨s, rfl, hs1⟩, ⟨t, rfl, ht1⟩⟩ ?_
        refine And.intro ⟨vq, ⟨s, rfl, hs1⟩, ⟨t, rfl, ht1⟩⟩ ?_
        refine And.intro (fun hc => ?_) (fun hc => ?_)
        · have hc : (decide (¬ (partE (bF F k) (begV x y) (goV (begV x y) (stepV dx dy) 30)).1 = (partE ((bkG 0 s t F) k) (mpV 0 s t (begV x y)) (mpV 0 s t (goV (begV x y) (stepV dx dy) 30))).1) || decide (¬ (partE (bF F k) (begV x y) (goV (begV x y) (stepV dx dy) 30)).2 = (partE ((bkG 0 s t F) k) (mpV 0 s t (begV x y)) (mpV 0 s t (goV (begV x y) (stepV dx dy) 30))).2)) = true := hc
          exfalso
          rw [epart] at hc
          simp only [Bool.or_eq_true, decide_eq_true_eq] at hc
          rcases hc with hc | hc <;> first | exact hc rfl | exact hc trivial
        clear hc
        refine And.intro ⟨(⟨Nat.le_trans (by omega : k + 1 ≤ 1000) (by decide), by omega⟩ : fitO (k + 1) 64), fun _ _ _ => ⟨rfl, rfl, rfl, rfl, rfl, rfl, rfl, trivial, trivial, trivial⟩⟩ ?_
        refine And.intro (by unfold I64; omega : I64 ((k : Int) + 1)) ?_
        refine ⟨k + 1, [(5, 8)], [], (by show m - (k + 1) < m - k; omega), (by omega : k + 1 ≤ m), ?_⟩
        repeat' (first | (refine And.intro ?_ ?_) | (intro _) | exact rfl)
        · exact bifP (f := fun i => ((bkG 0 s t F) i).iD) ‹_› rfl
        · exact bifP (f := fun i => ((bkG 0 s t F) i).posX) ‹_› rfl
        · exact bifP (f := fun i => ((bkG 0 s t F) i).posY) ‹_› rfl
        · exact bifP (f := fun i => ((bkG 0 s t F) i).velX) ‹_› rfl
        · exact bifP (f := fun i => ((bkG 0 s t F) i).velY) ‹_› rfl
        · exact bifP (f := fun i => ((bkG 0 s t F) i).w) ‹_› rfl
        · exact bifP (f := fun i => ((bkG 0 s t F) i).h) ‹_› rfl
        · exact bifP (f := fun i => ((bkG 0 s t F) i).round) ‹_› rfl
        · exact bifP (f := fun i => ((bkG 0 s t F) i).fixed) ‹_› rfl
      have hb : ¬ (k : Int) < m := of_decide_eq_false hb
      obtain rfl : k = m := by omega
      clear hb
      refine ⟨(), [], [.freeze 4], trivial, trivial, ?_⟩
      repeat' (first | (refine And.intro ?_ ?_) | (intro _) | exact rfl)
      all_goals first | (rw [Nat.zero_add]; done) | (rw [Nat.zero_add]; exact rfl)
    refine fun (_ : Unit) (_ : True) => ?_
    obtain ⟨ge, gl⟩ := her (bkG 0 s t F) (mpV 0 s t (begV x y)) (mpV 0 s t (goV (begV x y) (stepV dx dy) 30)) np nq ns gok fun _ => rfl
    have gsame : hitsE m (bkG 0 s t F) (mpV 0 s t (begV x y)) (mpV 0 s t (goV (begV x y) (stepV dx dy) 30)) = hitsE m (bF F) (begV x y) (goV (begV x y) (stepV dx dy) 30) := by rw [gl, hl]; exact (hits_like (F := bF F) (G := (bkG 0 s t F)) fun j hj => ⟨rfl, glk j hj⟩).symm
    have gil := idsK_len (F := (bkG 0 s t F)) (p := (mpV 0 s t (begV x y))) (q := (mpV 0 s t (goV (begV x y) (stepV dx dy) 30))) m
    refine And.intro ⟨vp, ⟨s, rfl, hs1⟩, ⟨t, rfl, ht1⟩⟩ ?_
    refine And.intro ⟨vq, ⟨s, rfl, hs1⟩, ⟨t, rfl, ht1⟩⟩ ?_
    refine And.intro ⟨fun _ _ => trivial, m6, fun _ => Nat.le_trans gil hm20⟩ ?_
    have g6 : ((hitsE m (bkG 0 s t F) (mpV 0 s t (begV x y)) (mpV 0 s t (goV (begV x y) (stepV dx dy) 30))).length : Int) ≤ 1000000 := by rw [gsame]; omega
    refine And.intro (fun _ => ⟨fun _ _ => trivial, fun _ _ => trivial, g6⟩) ?_
    refine And.intro (fun hc => ?_) (fun hc => ?_)
    · have hc : (decide (¬ hitsErr m (bkG 0 s t F) (mpV 0 s t (begV x y)) (mpV 0 s t (goV (begV x y) (stepV dx dy) 30)) = 0) || !sameF (famL (hitsE m (bkG 0 s t F) (mpV 0 s t (begV x y)) (mpV 0 s t (goV (begV x y) (stepV dx dy) 30)))) (famL (hitsE m (bF F) (begV x y) (goV (begV x y) (stepV dx dy) 30)))) = true := hc
      exfalso
      rw [ge, gsame, sameF_refl] at hc
      exact (Bool.false_ne_true hc).elim
    clear hc
    refine ⟨(1 : Int), [], [], (by show ((3 : Int) - 1).toNat < ((3 : Int) - 0).toNat; decide), (by show (1 : Int) = 0 ∨ (1 : Int) = 1 ∨ (1 : Int) = 2 ∨ (1 : Int) = 3; decide), ?_⟩
    repeat' (first | (refine And.intro ?_ ?_) | (intro _) | exact rfl)
  · refine Exists.intro (bk5_1 m F s t (begV x y) (goV (begV x y) (stepV dx dy) 30) (hitsE m (bF F) (begV x y) (goV (begV x y) (stepV dx dy) 30))) ?_
    have gok : ∀ j, j < m → ((bkG 1 s t F) j).ok = true := fun j hj => mpB_ok (hsm j hj) 1 hs1 ht1
    have glk : ∀ j, j < m → Like (bF F j) (begV x y) (goV (begV x y) (stepV dx dy) 30) ((bkG 1 s t F) j) (mpV 1 s t (begV x y)) (mpV 1 s t (goV (begV x y) (stepV dx dy) 30)) := fun j hj => mpB_like (hsm j hj) 1 hs1 ht1 _ _
    have np : (mpV 1 s t (begV x y)).In := mpV_in ⟨by omega, by omega⟩ 1 hs1 ht1
    have nq : (mpV 1 s t (goV (begV x y) (stepV dx dy) 30)).In := mpV_in ⟨by omega, by omega⟩ 1 hs1 ht1
    have ns : shortB (mpV 1 s t (begV x y)) (mpV 1 s t (goV (begV x y) (stepV dx dy) 30)) = true := mpV_short hs 1 s t
    refine And.intro ?_ ?_
    · refine Exists.intro (bk4_1 m F s t (begV x y) (goV (begV x y) (stepV dx dy) 30) (hitsE m (bF F) (begV x y) (goV (begV x y) (stepV dx dy) 30))) ?_
      refine And.intro ?_ ?_
      · refine ⟨(0 : Nat), [], [.slot2 31 9 36], trivial, Nat.zero_le _, ?_⟩
        repeat' (first | (refine And.intro ?_ ?_) | (intro _) | exact rfl)
        all_goals exact absurd ‹_ < 0› (Nat.not_lt_zero _)
      refine fun (k : Nat) (hk : k ≤ m) => ?_
      refine And.intro (fun hb => ?_) (fun hb => ?_)
      · have hb : (k : Int) < m := of_decide_eq_true hb
        have hk2 : k < m := by omega
        have epart := (glk k hk2).part (hok k hk2) (gok k hk2) ip iq np nq hs ns
        have sb := hsm k hk2
        have vb : VecS ⟨(bF F k).posX, (bF F k).posY⟩ := ⟨⟨by have := sb.x; show -100000 ≤ (bF F k).posX; omega, by have := sb.x; show (bF F k).posX ≤ 100000; omega⟩, by have := sb.y; show -100000 ≤ (bF F k).posY; omega, by have := sb.y; show (bF F k).posY ≤ 100000; omega⟩
        refine And.intro ⟨by omega, by omega⟩ ?_
        refine And.intro vb ?_
        refine And.intro vp ?_
        refine And.intro vq ?_
        refine And.intro (fun hc => ?_) (fun hc => ?_)
        · have hc : (decide (¬ (partE (bF F k) (begV x y) (goV (begV x y) (stepV dx dy) 30)).1 = (partE ((bkG 1 s t F) k) (mpV 1 s t (begV x y)) (mpV 1 s t (goV (begV x y) (stepV dx dy) 30))).1) || decide (¬ (partE (bF F k) (begV x y) (goV (begV x y) (stepV dx dy) 30)).2 = (partE ((bkG 1 s t F) k) (mpV 1 s t (begV x y)) (mpV 1 s t (goV (begV x y) (stepV dx dy) 30))).2)) = true := hc
          exfalso
          rw [epart] at hc
          simp only [Bool.or_eq_true, decide_eq_true_eq] at hc
          rcases hc with hc | hc <;> first | exact hc rfl | exact hc trivial
        clear hc
        refine And.intro ⟨(⟨Nat.le_trans (by omega : k + 1 ≤ 1000) (by decide), by omega⟩ : fitO (k + 1) 64), fun _ _ _ => ⟨rfl, rfl, rfl, rfl, rfl, rfl, rfl, trivial, trivial, trivial⟩⟩ ?_
        refine And.intro (by unfold I64; omega : I64 ((k : Int) + 1)) ?_
        refine ⟨k + 1, [(5, 8)], [], (by show m - (k + 1) < m - k; omega), (by omega : k + 1 ≤ m), ?_⟩
        repeat' (first | (refine And.intro ?_ ?_) | (intro _) | exact rfl)
        · exact bifP (f := fun i => ((bkG 1 s t F) i).iD) ‹_› rfl
        · exact bifP (f := fun i => ((bkG 1 s t F) i).posX) ‹_› rfl
        · exact bifP (f := fun i => ((bkG 1 s t F) i).posY) ‹_› rfl
        · exact bifP (f := fun i => ((bkG 1 s t F) i).velX) ‹_› rfl
        · exact bifP (f := fun i => ((bkG 1 s t F) i).velY) ‹_› rfl
        · exact bifP (f := fun i => ((bkG 1 s t F) i).w) ‹_› rfl
        · exact bifP (f := fun i => ((bkG 1 s t F) i).h) ‹_› rfl
        · exact bifP (f := fun i => ((bkG 1 s t F) i).round) ‹_› rfl
        · exact bifP (f := fun i => ((bkG 1 s t F) i).fixed) ‹_› rfl
      have hb : ¬ (k : Int) < m := of_decide_eq_false hb
      obtain rfl : k = m := by omega
      clear hb
      refine ⟨(), [], [.freeze 4], trivial, trivial, ?_⟩
      repeat' (first | (refine And.intro ?_ ?_) | (intro _) | exact rfl)
      all_goals first | (rw [Nat.zero_add]; done) | (rw [Nat.zero_add]; exact rfl)
    refine fun (_ : Unit) (_ : True) => ?_
    obtain ⟨ge, gl⟩ := her (bkG 1 s t F) (mpV 1 s t (begV x y)) (mpV 1 s t (goV (begV x y) (stepV dx dy) 30)) np nq ns gok fun _ => rfl
    have gsame : hitsE m (bkG 1 s t F) (mpV 1 s t (begV x y)) (mpV 1 s t (goV (begV x y) (stepV dx dy) 30)) = hitsE m (bF F) (begV x y) (goV (begV x y) (stepV dx dy) 30) := by rw [gl, hl]; exact (hits_like (F := bF F) (G := (bkG 1 s t F)) fun j hj => ⟨rfl, glk j hj⟩).symm
    have gil := idsK_len (F := (bkG 1 s t F)) (p := (mpV 1 s t (begV x y))) (q := (mpV 1 s t (goV (begV x y) (stepV dx dy) 30))) m
    refine And.intro vp ?_
    refine And.intro vq ?_
    refine And.intro ⟨fun _ _ => trivial, m6, fun _ => Nat.le_trans gil hm20⟩ ?_
    have g6 : ((hitsE m (bkG 1 s t F) (mpV 1 s t (begV x y)) (mpV 1 s t (goV (begV x y) (stepV dx dy) 30))).length : Int) ≤ 1000000 := by rw [gsame]; omega
    refine And.intro (fun _ => ⟨fun _ _ => trivial, fun _ _ => trivial, g6⟩) ?_
    refine And.intro (fun hc => ?_) (fun hc => ?_)
    · have hc : (decide (¬ hitsErr m (bkG 1 s t F) (mpV 1 s t (begV x y)) (mpV 1 s t (goV (begV x y) (stepV dx dy) 30)) = 0) || !sameF (famL (hitsE m (bkG 1 s t F) (mpV 1 s t (begV x y)) (mpV 1 s t (goV (begV x y) (stepV dx dy) 30)))) (famL (hitsE m (bF F) (begV x y) (goV (begV x y) (stepV dx dy) 30)))) = true := hc
      exfalso
      rw [ge, gsame, sameF_refl] at hc
      exact (Bool.false_ne_true hc).elim
    clear hc
    refine ⟨(2 : Int), [], [], (by show ((3 : Int) - 2).toNat < ((3 : Int) - 1).toNat; decide), (by show (2 : Int) = 0 ∨ (2 : Int) = 1 ∨ (2 : Int) = 2 ∨ (2 : Int) = 3; decide), ?_⟩
    repeat' (first | (refine And.intro ?_ ?_) | (intro _) | exact rfl)
  · refine Exists.intro (bk5_2 m F s t (begV x y) (goV (begV x y) (stepV dx dy) 30) (hitsE m (bF F) (begV x y) (goV (begV x y) (stepV dx dy) 30))) ?_
    have gok : ∀ j, j < m → ((bkG 2 s t F) j).ok = true := fun j hj => mpB_ok (hsm j hj) 2 hs1 ht1
    have glk : ∀ j, j < m → Like (bF F j) (begV x y) (goV (begV x y) (stepV dx dy) 30) ((bkG 2 s t F) j) (mpV 2 s t (begV x y)) (mpV 2 s t (goV (begV x y) (stepV dx dy) 30)) := fun j hj => mpB_like (hsm j hj) 2 hs1 ht1 _ _
    have np : (mpV 2 s t (begV x y)).In := mpV_in ⟨by omega, by omega⟩ 2 hs1 ht1
    have nq : (mpV 2 s t (goV (begV x y) (stepV dx dy) 30)).In := mpV_in ⟨by omega, by omega⟩ 2 hs1 ht1
    have ns : shortB (mpV 2 s t (begV x y)) (mpV 2 s t (goV (begV x y) (stepV dx dy) 30)) = true := mpV_short hs 2 s t
    refine And.intro ?_ ?_
    · refine Exists.intro (bk4_2 m F s t (begV x y) (goV (begV x y) (stepV dx dy) 30) (hitsE m (bF F) (begV x y) (goV (begV x y) (stepV dx dy) 30))) ?_
      refine And.intro ?_ ?_
      · refine ⟨(0 : Nat), [], [.slot2 31 9 36], trivial, Nat.zero_le _, ?_⟩
        repeat' (first | (refine And.intro ?_ ?_) | (intro _) | exact rfl)
        all_goals exact absurd ‹_ < 0› (Nat.not_lt_zero _)
      refine fun (k : Nat) (hk : k ≤ m) => ?_
      refine And.intro (fun hb => ?_) (fun hb => ?_)
      · have hb : (k : Int) < m := of_decide_eq_true hb
        have hk2 : k < m := by omega
        have epart := (glk k hk2).part (hok k hk2) (gok k hk2) ip iq np nq hs ns
        have sb := hsm k hk2
        have vb : VecS ⟨(bF F k).posX, (bF F k).posY⟩ := ⟨⟨by have := sb.x; show -100000 ≤ (bF F k).posX; omega, by have := sb.x; show (bF F k).posX ≤ 100000; omega⟩, by have := sb.y; show -100000 ≤ (bF F k).posY; omega, by have := sb.y; show (bF F k).posY ≤ 100000; omega⟩
        refine And.intro ⟨by omega, by omega⟩ ?_
        refine And.intro vb ?_
        refine And.intro vp ?_
        refine And.intro vq ?_
        refine And.intro (fun hc => ?_) (fun hc => ?_)
        · have hc : (decide (¬ (partE (bF F k) (begV x y) (goV (begV x y) (stepV dx dy) 30)).1 = (partE ((bkG 2 s t F) k) (mpV 2 s t (begV x y)) (mpV 2 s t (goV (begV x y) (stepV dx dy) 30))).1) || decide (¬ (partE (bF F k) (begV x y) (goV (begV x y) (stepV dx dy) 30)).2 = (partE ((bkG 2 s t F) k) (mpV 2 s t (begV x y)) (mpV 2 s t (goV (begV x y) (stepV dx dy) 30))).2)) = true := hc
          exfalso
          rw [epart] at hc
          simp only [Bool.or_eq_true, decide_eq_true_eq] at hc
          rcases hc with hc | hc <;> first | exact hc rfl | exact hc trivial
        clear hc
        refine And.intro ⟨(⟨Nat.le_trans (by omega : k + 1 ≤ 1000) (by decide), by omega⟩ : fitO (k + 1) 64), fun _ _ _ => ⟨rfl, rfl, rfl, rfl, rfl, rfl, rfl, trivial, trivial, trivial⟩⟩ ?_
        refine And.intro (by unfold I64; omega : I64 ((k : Int) + 1)) ?_
        refine ⟨k + 1, [(5, 8)], [], (by show m - (k + 1) < m - k; omega), (by omega : k + 1 ≤ m), ?_⟩
        repeat' (first | (refine And.intro ?_ ?_) | (intro _) | exact rfl)
        · exact bifP (f := fun i => ((bkG 2 s t F) i).iD) ‹_› rfl
        · exact bifP (f := fun i => ((bkG 2 s t F) i).posX) ‹_› rfl
        · exact bifP (f := fun i => ((bkG 2 s t F) i).posY) ‹_› rfl
        · exact bifP (f := fun i => ((bkG 2 s t F) i).velX) ‹_› rfl
        · exact bifP (f := fun i => ((bkG 2 s t F) i).velY) ‹_› rfl
        · exact bifP (f := fun i => ((bkG 2 s t F) i).w) ‹_› rfl
        · exact bifP (f := fun i => ((bkG 2 s t F) i).h) ‹_› rfl
        · exact bifP (f := fun i => ((bkG 2 s t F) i).round) ‹_› rfl
        · exact bifP (f := fun i => ((bkG 2 s t F) i).fixed) ‹_› rfl
      have hb : ¬ (k : Int) < m := of_decide_eq_false hb
      obtain rfl : k = m := by omega
      clear hb
      refine ⟨(), [], [.freeze 4], trivial, trivial, ?_⟩
      repeat' (first | (refine And.intro ?_ ?_) | (intro _) | exact rfl)
      all_goals first | (rw [Nat.zero_add]; done) | (rw [Nat.zero_add]; exact rfl)
    refine fun (_ : Unit) (_ : True) => ?_
    obtain ⟨ge, gl⟩ := her (bkG 2 s t F) (mpV 2 s t (begV x y)) (mpV 2 s t (goV (begV x y) (stepV dx dy) 30)) np nq ns gok fun _ => rfl
    have gsame : hitsE m (bkG 2 s t F) (mpV 2 s t (begV x y)) (mpV 2 s t (goV (begV x y) (stepV dx dy) 30)) = hitsE m (bF F) (begV x y) (goV (begV x y) (stepV dx dy) 30) := by rw [gl, hl]; exact (hits_like (F := bF F) (G := (bkG 2 s t F)) fun j hj => ⟨rfl, glk j hj⟩).symm
    have gil := idsK_len (F := (bkG 2 s t F)) (p := (mpV 2 s t (begV x y))) (q := (mpV 2 s t (goV (begV x y) (stepV dx dy) 30))) m
    refine And.intro vp ?_
    refine And.intro vq ?_
    refine And.intro ⟨fun _ _ => trivial, m6, fun _ => Nat.le_trans gil hm20⟩ ?_
    have g6 : ((hitsE m (bkG 2 s t F) (mpV 2 s t (begV x y)) (mpV 2 s t (goV (begV x y) (stepV dx dy) 30))).length : Int) ≤ 1000000 := by rw [gsame]; omega
    refine And.intro (fun _ => ⟨fun _ _ => trivial, fun _ _ => trivial, g6⟩) ?_
    refine And.intro (fun hc => ?_) (fun hc => ?_)
    · have hc : (decide (¬ hitsErr m (bkG 2 s t F) (mpV 2 s t (begV x y)) (mpV 2 s t (goV (begV x y) (stepV dx dy) 30)) = 0) || !sameF (famL (hitsE m (bkG 2 s t F) (mpV 2 s t (begV x y)) (mpV 2 s t (goV (begV x y) (stepV dx dy) 30)))) (famL (hitsE m (bF F) (begV x y) (goV (begV x y) (stepV dx dy) 30)))) = true := hc
      exfalso
      rw [ge, gsame, sameF_refl] at hc
      exact (Bool.false_ne_true hc).elim
    clear hc
    refine ⟨(3 : Int), [], [], (by show ((3 : Int) - 3).toNat < ((3 : Int) - 2).toNat; decide), (by show (3 : Int) = 0 ∨ (3 : Int) = 1 ∨ (3 : Int) = 2 ∨ (3 : Int) = 3; decide), ?_⟩
    repeat' (first | (refine And.intro ?_ ?_) | (intro _) | exact rfl)
  · exact rfl
end Go.Proofs.Ytcbpajkgmpibgaa
