/- rewind: others, See, Judge. -/
import Derived.Test.YtjdohgcolhpegaaGreatDoorN2
import Derived.Test.YtjdohgcolhpegaaGreatDoorM14
namespace Go.Proofs.YtjdohgcolhpegaaGreatDoor
open Go.RowKit

structure Hit where
  id : Int
  at_ : Int
  alive : Bool
def Hit.cells (b : Hit) : List SV := [.v (.int .i64 b.id), .v (.int .i64 b.at_), .v (.bool b.alive)]
def Hit.sv (b : Hit) : SV := .agg b.cells
def Hit.no : Hit := ⟨0, 0, false⟩
set_option maxHeartbeats 2000000 in
set_option maxRecDepth 8000 in
theorem Others_walk : ∀ a, conj ((fun a => []) a) → evFn (C := cx) [] [] 0 noHow Tryz.f38 ((rds2 rdWor (rdI .i64)).enc a) fun v H _ => resOut ((fun a => .f (.func 72) [] (othCap a.1 a.2)) a) H v := by
  intro ⟨w, c⟩ _
  repeat' (first | (refine And.intro ?_ ?_) | (intro _) | exact rfl | exact trivial)
noncomputable def conOthers : Con cx := walkCon 38 Tryz.call38 (rds2 rdWor (rdI .i64)) (fun a => []) (fun a => .f (.func 72) [] (othCap a.1 a.2)) (fun _ => noHow) [] (fun _ => rfl) follows Tryz.func38 (by kernel_rfl) Others_walk
set_option maxHeartbeats 2000000 in
set_option maxRecDepth 8000 in
theorem See1_walk : ∀ a, conj ((fun a => [∃ q, a.2 = .rp [.v (.int .i64 q)] 0]) a) → evFn (C := cx) [] [] 0 noHow Tryz.f41 ((rds2 rdBody rdX).enc a) fun v H _ => resOut ((fun a => .v (.bool (decide (a.1.iD = rkI a.2)))) a) H v := by
  intro ⟨b, x⟩ hx
  obtain ⟨q, hx⟩ : ∃ q, x = .rp [.v (.int .i64 q)] 0 := hx
  subst hx
  exact rfl
noncomputable def conSee1 : Con cx := walkCon 41 Tryz.call41 (rds2 rdBody rdX) (fun a => [∃ q, a.2 = .rp [.v (.int .i64 q)] 0]) (fun a => .v (.bool (decide (a.1.iD = rkI a.2)))) (fun _ => noHow) [] (fun _ => rfl) follows Tryz.func41 (by kernel_rfl) See1_walk
def ixcSee (F : Nat × (Nat → Body)) (q : Int) : Cut := ⟨Nat, fun k => k ≤ F.1 ∧ ixN (fun i => decide ((F.2 i).iD = q)) 0 F.1 = ixN (fun i => decide ((F.2 i).iD = q)) k (F.1 - k),
  fun k => ⟨[sl 0 (.rs 9 F.1 fun i => (F.2 i).cells), sl 1 (.f (.func 41) [] [.rp [.v (.int .i64 q)] 0]), sl 7 (i64 F.1), sl 8 (i64 k)], [], 0, 0, [], []⟩, fun k => F.1 - k⟩
set_option maxHeartbeats 2000000 in
set_option maxRecDepth 8000 in
theorem IxSee_walk : ∀ a, conj ((fun a => [(a.1.1 : Int) ≤ bigN, ∃ q, a.2 = (.f (.func 41) [] [.rp [.v (.int .i64 q)] 0])]) a) → evFn (C := cx) [conSee1] [] 0 ⟨[], [], [2], 0⟩ Tryz.f40 ((rds2 rdBodies rdX).enc a) fun v H _ => resOut ((fun a => .v (.int .i64 (ixI (fun i => decide ((a.1.2 i).iD = kxI a.2)) a.1.1))) a) H v := by
  intro ⟨⟨N, F⟩, x⟩ ⟨hm, hx⟩
  obtain ⟨q, hx⟩ : ∃ q, x = (.f (.func 41) [] [.rp [.v (.int .i64 q)] 0]) := hx
  subst hx
  replace hm : (N : Int) ≤ 9223372036854775807 := hm
  refine Exists.intro (ixcSee (N, F) q) ?_
  refine And.intro ?_ ?_
  · refine ⟨(0 : Nat), [], [], trivial, ⟨Nat.zero_le _, rfl⟩, ?_⟩
    repeat' (first | (refine And.intro ?_ ?_) | (intro _) | exact rfl)
  refine fun (k : Nat) (hk : k ≤ N ∧ ixN (fun i => decide ((F i).iD = q)) 0 N = ixN (fun i => decide ((F i).iD = q)) k (N - k)) => ?_
  obtain ⟨k1, k2⟩ := hk
  refine And.intro (fun hb => ?_) (fun hb => ?_)
  · have hb : (k : Int) < N := of_decide_eq_true hb
    have e := ixN_step (g := (fun i => decide ((F i).iD = q))) (k := k) (n := N) (by omega)
    refine And.intro ⟨by omega, by omega⟩ ?_
    refine And.intro ⟨q, rfl⟩ ?_
    refine And.intro (fun hc => ?_) (fun hc => ?_)
    · have hc : (decide ((F k).iD = q)) = true := hc
      simp only [hc] at e
      exact ixI_yes (g := (fun i => decide ((F i).iD = q))) (n := N) (k2.trans e) (by omega)
    · have hc : (decide ((F k).iD = q)) = false := hc
      simp only [hc] at e
      refine And.intro (by unfold I64; omega : I64 ((k : Int) + 1)) ?_
      refine ⟨k + 1, [], [], (by show N - (k + 1) < N - k; omega), ⟨by omega, by rw [k2, e]⟩, ?_⟩
      repeat' (first | (refine And.intro ?_ ?_) | (intro _) | exact rfl)
  · have hb : ¬ (k : Int) < N := of_decide_eq_false hb
    refine ixI_none (g := (fun i => decide ((F i).iD = q))) (n := N) ?_
    rw [k2, show N - k = 0 by omega]
    show k = N
    omega
noncomputable def conIxSee : Con cx := walkCon 40 Tryz.call40 (rds2 rdBodies rdX) (fun a => [(a.1.1 : Int) ≤ bigN, ∃ q, a.2 = (.f (.func 41) [] [.rp [.v (.int .i64 q)] 0])]) (fun a => .v (.int .i64 (ixI (fun i => decide ((a.1.2 i).iD = kxI a.2)) a.1.1))) (fun _ => ⟨[], [], [2], 0⟩) [] (fun _ => rfl) follows Tryz.func40 (by kernel_rfl) IxSee_walk
/-- What is met: the bodies that are asked. -/
def seeL (h : Wrs) (c : Int) (i : Df.Input) : List Body := othsL (shownE h i.seen i.part).1 c (allL (shownE h i.seen i.part).1).length
def seeB (h : Wrs) (c : Int) (from_ : Vec) (i : Df.Input) : Bool := !histB h || !fitsB c i || !withB from_.x from_.y 1048576
def toV (from_ : Vec) (i : Df.Input) : Vec := ⟨from_.x + i.aimX, from_.y + i.aimY⟩
def seeI (L : List Body) (q : Int) : Int := ixI (fun k => decide ((bodG L k).iD = q)) L.length
/-- What See makes of the bodies that it asks. -/
def metE (w : Wor) (L : List Body) (p q : Vec) : Hit × Int := match decide (¬ (firstE L.length (bodG L) p q).2 = 0) with
  | true => (Hit.no, 0)
  | false => (⟨(firstE L.length (bodG L) p q).1, (partE (bodG L (seeI L (firstE L.length (bodG L) p q).1).toNat) p q).1, (getE w (firstE L.length (bodG L) p q).1 8).2⟩, 0)
def seeE (h : Wrs) (c : Int) (from_ : Vec) (i : Df.Input) : Hit × Int := match seeB h c from_ i with
  | true => (Hit.no, 2)
  | false => match decide (¬ (shownE h i.seen i.part).2 = 0) with
    | true => (Hit.no, 291)
    | false => match !i.fire with
      | true => (Hit.no, 0)
      | false => metE (shownE h i.seen i.part).1 (seeL h c i) from_ (toV from_ i)
/-- What holds of the worlds of a history, and of what lies between them, holds of what is shown. -/
theorem shown_P {h : Wrs} {t p : Int} {P : Wor → Prop} (h0 : P Wor.no) (h1 : ∀ i, i < h.n → P (h.w i)) (h2 : ∀ (i : Nat) (b : Wor) (x n d : Int), i < h.n → P ⟨x, ⟨(h.w i).l.n, fun k => mvE b n d ((h.w i).l.e k)⟩⟩) : P (shownE h t p).1 := by
  unfold shownE
  cases shB h t p with
  | true => exact h0
  | false =>
    simp only
    cases hh : hitH h (16 * t + p) with
    | true => exact h1 _ (hitB_iff.1 hh).1
    | false =>
      simp only
      cases hd : decide ((lowH h (16 * t + p) : Int) = 0) || decide ((lowH h (16 * t + p) : Int) = h.n) with
      | true => exact h0
      | false =>
        simp only
        simp only [Bool.or_eq_false_iff, decide_eq_false_iff_not] at hd
        have hle : lowH h (16 * t + p) ≤ h.n := lowB_le
        have k1 : lowH h (16 * t + p) < h.n := by omega
        have k2 : ((lowH h (16 * t + p) : Int) - 1).toNat < h.n := by omega
        unfold betwE
        split
        · exact h0
        · split
          · exact h1 _ k1
          · exact h2 _ _ _ _ _ k2
theorem move_kind {t : Vec} {n d : Int} {c : Comp} : (moveC t n d c).kind = c.kind := by unfold moveC; split <;> rfl
theorem mv_kind {b : Wor} {n d : Int} {e : Ent} {j : Nat} : ((mvE b n d e).l.c j).kind = (e.l.c j).kind := by
  unfold mvE
  split
  · rfl
  · split
    · rfl
    · exact move_kind
theorem no_sm : Wor.no.l.Sm := ⟨(by show ((0 : Nat) : Int) ≤ bigN; unfold bigN; decide), fun i hi => absurd hi (Nat.not_lt_zero i)⟩
theorem shown_sm {h : Wrs} {t p : Int} (hm : h.Sm) : (shownE h t p).1.l.Sm := by
  refine shown_P (P := fun w => w.l.Sm) no_sm (fun i hi => hm.2 i hi) (fun i b x n d hi => ?_)
  have := hm.2 i hi
  refine ⟨this.1, fun k hk => ?_⟩
  have hs := this.2 k hk
  refine ⟨?_, fun j hj => ?_⟩
  · show ((mvE b n d ((h.w i).l.e k)).l.n : Int) ≤ bigN
    rw [mv_n]; exact hs.1
  · show 0 ≤ ((mvE b n d ((h.w i).l.e k)).l.c j).kind ∧ ((mvE b n d ((h.w i).l.e k)).l.c j).kind ≤ 255
    rw [mv_kind]
    have hj : j < (mvE b n d ((h.w i).l.e k)).l.n := hj
    rw [mv_n] at hj
    exact hs.2 j hj
theorem shown_N {N : Nat} {h : Wrs} {t p : Int} (hm : ∀ i, i < h.n → (h.w i).l.n ≤ N) : (shownE h t p).1.l.n ≤ N :=
  shown_P (P := fun w => w.l.n ≤ N) (Nat.zero_le _) hm (fun i b x n d hi => hm i hi)
theorem shown_12 {h : Wrs} {t p : Int} (hm : ∀ i, i < h.n → (h.w i).l.n ≤ 12) : (shownE h t p).1.l.n ≤ 12 :=
  shown_P (P := fun w => w.l.n ≤ 12) (Nat.zero_le _) hm (fun i b x n d hi => hm i hi)
theorem allL_len {w : Wor} : (allL w).length ≤ w.l.n := filtM_len _
theorem othsL_len {w : Wor} {c : Int} {k : Nat} : (othsL w c k).length ≤ k := filtM_len _
theorem ids_of {F : Nat → Body} {p q : Vec} {x : Int} : ∀ {k : Nat}, x ∈ idsK F p q k → ∃ j, j < k ∧ (F j).iD = x
  | 0, h => by cases h
  | k + 1, h => by
    simp only [idsK] at h
    split at h
    · rcases List.mem_append.1 h with h | h
      · obtain ⟨j, a, b⟩ := ids_of h; exact ⟨j, by omega, b⟩
      · exact ⟨k, by omega, (List.mem_singleton.1 h).symm⟩
    · obtain ⟨j, a, b⟩ := ids_of h; exact ⟨j, by omega, b⟩
theorem first_id {n : Nat} {F : Nat → Body} {p q : Vec} (h : (firstE n F p q).2 = 0) : ∃ j, j < n ∧ (F j).iD = (firstE n F p q).1 := by
  have he : hitsErr n F p q = 0 := by
    apply Classical.byContradiction
    intro c
    apply c
    unfold firstE at h
    rw [decide_eq_false c, show (decide (¬ hitsErr n F p q = 0)) = true from decide_eq_true c] at h
    exact h
  have hE : hitsE n F p q = hitsL n F p q := by unfold hitsE; rw [he]; rfl
  have hl : 0 < (hitsL n F p q).length := by
    apply Classical.byContradiction
    intro c
    unfold firstE at h
    rw [he, hE, show (decide ((0 : Int) = 0) && decide (((hitsL n F p q).length : Int) = 0)) = true by rw [decide_eq_true (by omega : ((hitsL n F p q).length : Int) = 0)]; rfl] at h
    have h : (6 : Int) = 0 := h
    omega
  have hF : (firstE n F p q).1 = (hitsL n F p q)[0] := by
    unfold firstE
    rw [he, hE, show (decide ((0 : Int) = 0) && decide (((hitsL n F p q).length : Int) = 0)) = false by rw [decide_eq_false (by omega : ¬ ((hitsL n F p q).length : Int) = 0)]; rfl]
    show (hitsL n F p q).getD 0 0 = _
    rw [List.getD_eq_getElem?_getD, List.getElem?_eq_getElem hl]
    rfl
  rw [hF]
  exact ids_of (sortL_mem.1 (List.getElem_mem hl))
theorem see_idx {L : List Body} {q : Int} {j : Nat} (h1 : j < L.length) (h2 : (bodG L j).iD = q) : 0 ≤ seeI L q ∧ seeI L q < L.length := by
  have hx : ixN (fun k => decide ((bodG L k).iD = q)) 0 L.length < L.length := by
    apply Classical.byContradiction
    intro c
    have := ixN_no (g := fun k => decide ((bodG L k).iD = q)) (r := L.length) (k := 0) (i := j) (Nat.zero_le _) (by omega)
    rw [h2] at this
    simp at this
  unfold seeI
  rw [ixI_yes rfl hx]
  omega
theorem seeB_no {h : Wrs} {c : Int} {p : Vec} {i : Df.Input} (hv : seeB h c p i = false) : -1048576 ≤ p.x ∧ p.x ≤ 1048576 ∧ -1048576 ≤ p.y ∧ p.y ≤ 1048576 ∧ -8192 ≤ i.aimX ∧ i.aimX ≤ 8192 ∧ -8192 ≤ i.aimY ∧ i.aimY ≤ 8192 := by
  unfold seeB fitsB withB at hv
  simp only [Bool.or_eq_false_iff, Bool.not_eq_false', Bool.and_eq_true, decide_eq_true_eq] at hv
  omega
def seeRC (a : Wor) (from_ : Vec) (i : Df.Input) (c : Int) : RCut := ⟨Nat, fun k => k ≤ (othsL a c (allL a).length).length, fun k => k,
  fun k => [(0, .lay from_.cells 27), (1, .lay i.cells 29), (2, .lay [.il .i64 0, .il .i64 0, .bl false] 39), (3, .lay a.cells 25), (4, .lay [.g 5 6 9 0 k] 61), (5, .lst 6 9 k (fun j => (bodG (othsL a c (allL a).length) j).cells) 60)], fun _ => 7⟩
set_option maxHeartbeats 8000000 in
set_option maxRecDepth 8000 in
noncomputable def conSeeN (N : Nat) (hN : N ≤ 20) : Con cx := rngCon (Γ := [conHValid, conRFits, conWithin, conShown, conOthers, conFirst, conIxSee, conPart, conGet]) (Fs := []) (d := 0) 14 Tryz.call14 (rds4 rdWrs (rdI .i64) rdVec Df.rdInput) (fun (a : Wrs × Int × Vec × Df.Input) => [a.1.Sm, ∀ k, k < a.1.n → (a.1.w k).l.n ≤ N]) (fun a => .tup [(seeE a.1 a.2.1 a.2.2.1 a.2.2.2).1.sv, .v (.int .i64 (seeE a.1 a.2.1 a.2.2.1 a.2.2.2).2)]) (fun _ => noHow) [] (fun _ => rfl) follows (fn := Tryz.f14) Tryz.func14 rfl rfl (p := 57) rfl (by kernel_rfl) (fun _ => by rfl) (by kernel_rfl) (by
  intro ⟨h, c, from_, i⟩ ⟨hm, h12⟩
  replace hm : h.Sm := hm
  replace h12 : ∀ k, k < h.n → (h.w k).l.n ≤ N := h12
  refine And.intro ⟨fun _ _ _ _ _ _ => trivial, hm⟩ ?_
  refine And.intro (fun _ => (⟨by decide, by decide⟩ : (0 : Int) ≤ 1048576 ∧ (1048576 : Int) ≤ 1073741824)) ?_
  refine And.intro (fun hv => ?_) (fun hv => ?_)
  · have hv : seeB h c from_ i = true := hv
    have e : seeE h c from_ i = (Hit.no, 2) := by unfold seeE; rw [hv]
    simp only [e]
    repeat' (first | (refine And.intro ?_ ?_) | (intro _) | exact rfl)
  have hv : seeB h c from_ i = false := hv
  refine And.intro ⟨fun _ _ _ _ _ _ => trivial, hm⟩ ?_
  refine And.intro (fun hx => ?_) (fun hx => ?_)
  · have hx : decide (¬ (shownE h i.seen i.part).2 = 0) = true := hx
    have e : seeE h c from_ i = (Hit.no, 291) := by unfold seeE; rw [hv, hx]
    simp only [e]
    repeat' (first | (refine And.intro ?_ ?_) | (intro _) | exact rfl)
  have hx : decide (¬ (shownE h i.seen i.part).2 = 0) = false := hx
  refine And.intro (fun hf => ?_) (fun hf => ?_)
  · have hf : (!i.fire) = true := hf
    have e : seeE h c from_ i = (Hit.no, 0) := by unfold seeE; rw [hv, hx, hf]
    simp only [e]
    repeat' (first | (refine And.intro ?_ ?_) | (intro _) | exact rfl)
  have hf : (!i.fire) = false := hf
  have e : seeE h c from_ i = metE (shownE h i.seen i.part).1 (seeL h c i) from_ (toV from_ i) := by unfold seeE; rw [hv, hx, hf]
  simp only [e]
  have wS : (shownE h i.seen i.part).1.l.Sm := shown_sm hm
  have w12 : (shownE h i.seen i.part).1.l.n ≤ N := shown_N h12
  have hlen : (seeL h c i).length ≤ N := Nat.le_trans othsL_len (Nat.le_trans allL_len w12)
  refine And.intro (fun _ _ _ _ => trivial) ?_
  refine ⟨72, othCap (shownE h i.seen i.part).1 c, (seeL h c i).length, fun k => (bodG (seeL h c i) k).sv, seeRC (shownE h i.seen i.part).1 from_ i c, rfl, rfl, Tryz.call72, itOth (shownE h i.seen i.part).1 c wS (by omega), ?_, ?_, ?_⟩
  · refine ⟨(0 : Nat), [], [.cell2 4 0 9 60], rfl, Nat.zero_le _, ?_⟩
    repeat' (first | (refine And.intro ?_ ?_) | (intro _) | exact rfl)
    all_goals exact absurd ‹_ < 0› (Nat.not_lt_zero _)
  · intro (k : Nat) (hk : k ≤ (seeL h c i).length) (hk2 : k < (seeL h c i).length)
    have hfit : fitO (k + 1) 64 := ⟨Nat.le_trans (by omega : k + 1 ≤ 1001) (by decide), by omega⟩
    refine And.intro ⟨hfit, fun _ _ _ => ⟨rfl, rfl, rfl, rfl, rfl, rfl, rfl, trivial, trivial, trivial⟩⟩ ?_
    refine ⟨k + 1, [(6, 9)], [], rfl, hk2, ?_⟩
    have em : ∀ j, j < k + 1 → bodG (seeL h c i) j = bif Nat.ble k j then bodG (seeL h c i) k else bodG (seeL h c i) j := fun j hj => by
      cases hb : Nat.ble k j with
      | false => rfl
      | true =>
        have := Nat.le_of_ble_eq_true hb
        obtain rfl : j = k := by omega
        exact (cond_true _ _).symm
    repeat' (first | (refine And.intro ?_ ?_) | (intro _) | exact rfl)
    all_goals first | exact (congrArg Body.iD (em _ ‹_›)).trans (apply_bif Body.iD) | exact (congrArg Body.posX (em _ ‹_›)).trans (apply_bif Body.posX) | exact (congrArg Body.posY (em _ ‹_›)).trans (apply_bif Body.posY) | exact (congrArg Body.velX (em _ ‹_›)).trans (apply_bif Body.velX) | exact (congrArg Body.velY (em _ ‹_›)).trans (apply_bif Body.velY) | exact (congrArg Body.w (em _ ‹_›)).trans (apply_bif Body.w) | exact (congrArg Body.h (em _ ‹_›)).trans (apply_bif Body.h) | exact (congrArg Body.round (em _ ‹_›)).trans (apply_bif Body.round) | exact (congrArg Body.fixed (em _ ‹_›)).trans (apply_bif Body.fixed)
  · intro (k : Nat) (hk : k ≤ (seeL h c i).length) (hk2 : k = (seeL h c i).length)
    subst hk2
    have hq := seeB_no hv
    have o1 : I64 (from_.x + i.aimX) := by unfold I64; omega
    have o2 : I64 (from_.y + i.aimY) := by unfold I64; omega
    refine And.intro o1 ?_
    refine And.intro o2 ?_
    have eF : (fun j => bodG (seeL h c i) (0 + j)) = bodG (seeL h c i) := funext fun j => by rw [Nat.zero_add]
    have f1 : ((seeL h c i).length : Int) ≤ 1000000 := by omega
    have f2 : hitsErr (seeL h c i).length (fun j => bodG (seeL h c i) (0 + j)) from_ (toV from_ i) = 0 → (idsK (fun j => bodG (seeL h c i) (0 + j)) from_ (toV from_ i) (seeL h c i).length).length ≤ 20 := fun _ => by
      have := idsK_len (F := fun j => bodG (seeL h c i) (0 + j)) (p := from_) (q := toV from_ i) (seeL h c i).length
      omega
    refine And.intro ⟨fun _ _ => trivial, f1, f2⟩ ?_
    refine And.intro (fun hz => ?_) (fun hz => ?_)
    · have hz : decide (¬ (firstE (seeL h c i).length (fun j => bodG (seeL h c i) (0 + j)) from_ (toV from_ i)).2 = 0) = true := hz
      rw [eF] at hz
      have e : metE (shownE h i.seen i.part).1 (seeL h c i) from_ (toV from_ i) = (Hit.no, 0) := by unfold metE; rw [hz]
      simp only [e]
      repeat' (first | (refine And.intro ?_ ?_) | (intro _) | exact rfl)
    · have hz : decide (¬ (firstE (seeL h c i).length (fun j => bodG (seeL h c i) (0 + j)) from_ (toV from_ i)).2 = 0) = false := hz
      have hz' := hz
      rw [eF] at hz'
      have e : metE (shownE h i.seen i.part).1 (seeL h c i) from_ (toV from_ i) = (⟨(firstE (seeL h c i).length (bodG (seeL h c i)) from_ (toV from_ i)).1, (partE (bodG (seeL h c i) (seeI (seeL h c i) (firstE (seeL h c i).length (bodG (seeL h c i)) from_ (toV from_ i)).1).toNat) from_ (toV from_ i)).1, (getE (shownE h i.seen i.part).1 (firstE (seeL h c i).length (bodG (seeL h c i)) from_ (toV from_ i)).1 8).2⟩, 0) := by unfold metE; rw [hz']
      simp only [e]
      obtain ⟨j, j1, j2⟩ := first_id (of_decide_eq_false hz' |> Classical.not_not.1)
      have f3 : ((seeL h c i).length : Int) ≤ bigN := by unfold bigN; omega
      refine And.intro ⟨fun _ _ => trivial, f3, ⟨_, rfl⟩⟩ ?_
      have eI : ixI (fun k => decide ((bodG (seeL h c i) (0 + k)).iD = (firstE (seeL h c i).length (fun j => bodG (seeL h c i) (0 + j)) from_ (toV from_ i)).1)) (seeL h c i).length = seeI (seeL h c i) (firstE (seeL h c i).length (bodG (seeL h c i)) from_ (toV from_ i)).1 := by
        rw [eF]
        unfold seeI
        congr 1
        funext k
        rw [Nat.zero_add]
      have hI := see_idx j1 j2
      rw [← eI] at hI
      refine And.intro hI ?_
      refine And.intro ⟨fun _ _ _ _ => trivial, wS⟩ ?_
      repeat' (first | (refine And.intro ?_ ?_) | (intro _) | exact rfl)
      all_goals first | exact congrArg (fun F => (firstE (seeL h c i).length F from_ (toV from_ i)).1) eF.symm | exact congrArg (fun F => (getE (shownE h i.seen i.part).1 (firstE (seeL h c i).length F from_ (toV from_ i)).1 8).2) eF.symm | exact ((congrArg (fun z => (partE (bodG (seeL h c i) (0 + Int.toNat z)) from_ (toV from_ i)).1) eI).trans (congrArg (fun j => (partE (bodG (seeL h c i) j) from_ (toV from_ i)).1) (Nat.zero_add _))).symm)
noncomputable def conSee : Con cx := conSeeN 12 (by decide)
end Go.Proofs.YtjdohgcolhpegaaGreatDoor
