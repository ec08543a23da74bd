/- RewindIgnores: the walk. -/
import Derived.Test.YtjdohgcolhpegaaGreatDoorN5
import Derived.Test.YtjdohgcolhpegaaGreatDoorN6
namespace Go.Proofs.YtjdohgcolhpegaaGreatDoor
open Go.RowKit

def rds5 {α β γ δ ε : Type} (a : Rd α) (b : Rd β) (c : Rd γ) (d : Rd δ) (e : Rd ε) : Rds (α × β × γ × δ × ε) := ⟨[a.pat, b.pat, c.pat, d.pat, e.pat], fun xs => (a.dec (hdS xs), b.dec (hdS (tlS xs)), c.dec (hdS (tlS (tlS xs))), d.dec (hdS (tlS (tlS (tlS xs)))), e.dec (hdS (tlS (tlS (tlS (tlS xs)))))), fun x => [a.enc x.1, b.enc x.2.1, c.enc x.2.2.1, d.enc x.2.2.2.1, e.enc x.2.2.2.2], fun xs => by simp only [a.ok, b.ok, c.ok, d.ok, e.ok]; rfl⟩
noncomputable def conSee13 : Con cx := conSeeN 13 (by decide)
noncomputable def conAddV (F : Wor → Ent → Wor × Int) (hF : F = addE) : Con cx where
  f := conAdd.f
  en := conAdd.en
  run := fun args => match alikeCL (rds2 rdWor rdEnt).pats args with
    | some l => some (obO (l ++ (fun (a : Wor × Ent) => [a.1.l.Sm, a.2.l.Sm, a.1.valid = true → a.2.right = true → (findE a.1 a.2.iD).2 = false → (findE a.1 a.2.iD).1 = a.1.l.n]) ((rds2 rdWor rdEnt).dec args)), (fun (a : Wor × Ent) => .tup [(F a.1 a.2).1.sv, .v (.int .i64 (F a.1 a.2).2)]) ((rds2 rdWor rdEnt).dec args))
    | none => none
  fresh := true
  own := none
  ok := by subst hF; exact conAdd.ok
noncomputable def igG (F : Wor → Ent → Wor × Int) (hF : F = addE) : List (Con cx) := [conFew29, conHValid, conAwake29, conShot, conSee13, conPush, conComp29, conAddV F hF]
def mineL (o : Vec) (c : Int) : List SV := [.v (.int .u8 1), .v (.int .i64 (o.x.tmod 1048577)), .v (.int .i64 (o.y.tmod 1048577)), .v (.int .i64 0), .v (.int .i64 0), .v (.int .u8 3), .v (.int .i64 50), .v (.int .i64 50), .v (.int .i64 0), .v (.int .i64 0), .v (.int .u8 4), .v (.int .i64 c), .v (.int .i64 0), .v (.int .i64 0), .v (.int .i64 0)]
/-- The client's entity that is added. -/
def mineW (o : Vec) (c : Int) : Ent := ⟨65536, ⟨3, fun j => Comp.of (.agg (chunk (mineL o c) 5 j))⟩⟩
def igH (p : Vec) (i : Df.Input) (o : Vec) (X : Hit) : Heap := [(1, .lay p.cells 27), (2, .lay i.cells 29), (3, .lay o.cells 27), (4, .lay X.cells 39)]
def ig13 (F : Wor → Ent → Wor × Int) (h : Wrs) (p : Vec) (i : Df.Input) (o : Vec) : Cut := ⟨Nat, fun k => k ≤ h.n ∧ ∀ j, j < k → (F (h.w j) (mineW o (shotI i).client)).2 = 0, fun k => ⟨[sl 7 (.p 1 0), sl 8 (.p 2 0), sl 9 (.p 3 0), sl 11 (.p 4 0), sl 12 (.v (.int .i64 (seeE h (shotI i).client (ptF p) (shotI i)).2)), sl 17 (.g 5 6 2 0 k), sl 86 h.sv, sl 87 (i64 h.n), sl 88 (i64 k)],
  (5, .lst 6 2 k (fun j => (F (h.w j) (mineW o (shotI i).client)).1.cells) 25) :: igH (ptF p) (shotI i) o (seeE h (shotI i).client (ptF p) (shotI i)).1, 7, 0, [], []⟩, fun k => h.n - k⟩
def ig11 (h : Wrs) (p : Vec) (i : Df.Input) (o : Vec) : Cut := ⟨Unit, fun _ => True, fun _ => ⟨[sl 0 h.sv, sl 7 (.p 1 0), sl 8 (.p 2 0), sl 9 (.p 3 0), sl 11 (.p 4 0), sl 12 (.v (.int .i64 (seeE h (shotI i).client (ptF p) (shotI i)).2))],
  igH (ptF p) (shotI i) o (seeE h (shotI i).client (ptF p) (shotI i)).1, 5, 0, [], []⟩, fun _ => 0⟩
theorem few_x {x : Wor} (h : fewB x = true) : x.l.n ≤ 12 := by
  unfold fewB at h
  have h4 := (Bool.and_eq_true_iff.1 h).1
  simp only [Bool.not_eq_true', decide_eq_false_iff_not] at h4
  omega
theorem push_sm {h : Wrs} {x : Wor} (hm : h.Sm) (hn : x.l.Sm) (c : h.n < 40) : (h.push x).Sm := by
  refine ⟨(by show ((h.n + 1 : Nat) : Int) ≤ bigN; unfold bigN; omega), fun k hk => ?_⟩
  have hk : k < h.n + 1 := hk
  by_cases e : k = h.n
  · subst e; rw [push_hi]; exact hn
  · rw [push_lo (by omega)]; exact hm.2 k (by omega)
theorem push_13 {h : Wrs} {x : Wor} (h12 : ∀ k, k < h.n → (h.w k).l.n ≤ 12) (c : x.l.n ≤ 12) : ∀ k, k < (h.push x).n → ((h.push x).w k).l.n ≤ 13 := fun k hk => by
  have hk : k < h.n + 1 := hk
  by_cases e : k = h.n
  · subst e; rw [push_hi]; omega
  · rw [push_lo (by omega)]; have := h12 k (by omega); omega
theorem mine_sm (o : Vec) (c : Int) : (mineW o c).l.Sm := by
  refine ⟨(by show ((3 : Nat) : Int) ≤ bigN; decide), fun j hj => ?_⟩
  have hj : j < 3 := hj
  match j, hj with
  | 0, _ => exact (by decide : (0 : Int) ≤ 1 ∧ (1 : Int) ≤ 255)
  | 1, _ => exact (by decide : (0 : Int) ≤ 3 ∧ (3 : Int) ≤ 255)
  | 2, _ => exact (by decide : (0 : Int) ≤ 4 ∧ (4 : Int) ≤ 255)
theorem find_end {w : Wor} (hv : w.Valid) (h : (findE w 65536).2 = false) : (findE w 65536).1 = w.l.n := by
  unfold findE at *
  rw [Wor.valid_iff.2 hv] at *
  simp only at *
  refine lowB_eq (Nat.le_refl _) (fun j hj => ?_) (fun j h1 h2 => by omega)
  have h1 := (hv.right j hj).hi
  have h2 : (w.l.e j).iD ≠ 65536 := fun c => by
    have := find_at hv hj
    unfold findE at this
    rw [Wor.valid_iff.2 hv, c] at this
    have := congrArg Prod.snd this
    simp only at this
    rw [h] at this; cases this
  show (w.l.e j).iD < 65536
  omega
theorem mine_his (o : Vec) (c : Int) : HisE (mineW o c) c := ⟨rfl, rfl, by
  show eqC (getC (mineW o c).l 4).1 ⟨4, c, 0, 0, 0⟩ = true
  have : (getC (mineW o c).l 4).1 = ⟨4, c, 0, 0, 0⟩ := rfl
  rw [this]
  simp [eqC]⟩
theorem mine_pos (o : Vec) (c : Int) : ∀ k, ((mineW o c).l.c k).kind = 1 → ((mineW o c).l.c k).v0 = (pointF (mineW o c)).1.x ∧ ((mineW o c).l.c k).v1 = (pointF (mineW o c)).1.y := fun k hk => by
  match k, hk with
  | 0, _ => exact ⟨rfl, rfl⟩
  | 1, h => exact absurd (show (3 : Int) = 1 from h) (by decide)
  | 2, h => exact absurd (show (4 : Int) = 1 from h) (by decide)
  | j + 3, h =>
    exfalso
    have e : ((mineW o c).l.c (j + 3)) = Comp.of (.agg []) := by
      show Comp.of (.agg (chunk (mineL o c) 5 (j + 3))) = _
      unfold chunk
      rw [List.drop_eq_nil_of_le (by show 15 ≤ (j + 3) * 5; omega)]
      rfl
    rw [e] at h
    exact absurd (show (0 : Int) = 1 from h) (by decide)
def moreL (h : Wrs) (m : Ent) : Wrs := ⟨h.n, fun i => (addE (h.w (0 + i)) m).1⟩
theorem add_ext {w : Wor} {m : Ent} (hv : w.Valid) (hid : m.iD = 65536) (h12 : w.l.n ≤ 12) (h : (addE w m).2 = 0) : Ext w (addE w m).1 m := by
  unfold addE at h ⊢
  cases hx : w.valid && m.right with
  | false => rw [hx] at h; cases h
  | true =>
    rw [hx] at h
    simp only at h ⊢
    cases hf : (findE w m.iD).2 with
    | true => rw [hf] at h; cases h
    | false =>
      rw [hf] at h
      simp only at h ⊢
      rw [decide_eq_false (by omega : ¬ (w.l.n : Int) ≥ 64)]
      simp only
      have hr := Ent.right_iff.1 (Bool.and_eq_true_iff.1 hx).2
      have lo : ∀ j, j < w.l.n → (w.l.e j).iD < 65536 := fun j hj => by
        have h1 := (hv.right j hj).hi
        have h2 : (w.l.e j).iD ≠ 65536 := fun c => by
          have := find_at hv hj
          rw [c, ← hid] at this
          rw [this] at hf; cases hf
        omega
      have e1 : ∀ j, j < w.l.n → (w.add m).l.e j = w.l.e j := fun j hj => putF_ne (by omega)
      have e2 : (w.add m).l.e w.l.n = m := putF_eq
      refine ⟨rfl, rfl, e1, e2, hv, hv.lo, hv.hi, (by show ((w.l.n + 1 : Nat) : Int) ≤ 64; omega), fun i j hij hj => ?_, fun i hi => ?_⟩
      · have hj : j < w.l.n + 1 := hj
        show ((w.add m).l.e i).iD < ((w.add m).l.e j).iD
        rw [e1 i (by omega)]
        by_cases e : j = w.l.n
        · subst e; rw [e2, hid]; exact lo i (by omega)
        · rw [e1 j (by omega)]; exact hv.inc i j hij (by omega)
      · have hi : i < w.l.n + 1 := hi
        by_cases e : i = w.l.n
        · subst e; rw [e2]; exact hr
        · rw [e1 i (by omega)]; exact hv.right i (by omega)
theorem more_of {h : Wrs} {o : Vec} {c : Int} (hh : h.Hist) (h12 : ∀ k, k < h.n → (h.w k).l.n ≤ 12) (hP : ∀ j, j < h.n → (addE (h.w j) (mineW o c)).2 = 0) : More h (moreL h (mineW o c)) (mineW o c) :=
  ⟨rfl, fun i hi => by
    show Ext (h.w i) (addE (h.w (0 + i)) (mineW o c)).1 (mineW o c)
    rw [Nat.zero_add]
    exact add_ext (hh.v i hi) rfl (h12 i hi) (hP i hi), hh⟩
theorem More.sm {h v : Wrs} {m : Ent} (H : More h v m) : v.Sm := ⟨by have := H.hist.len; unfold bigN; omega, fun i hi => valid_smF (H.hist.v i hi)⟩
theorem More.n13 {h v : Wrs} {m : Ent} (H : More h v m) (h12 : ∀ k, k < h.n → (h.w k).l.n ≤ 12) : ∀ k, k < v.n → (v.w k).l.n ≤ 13 := fun k hk => by
  rw [H.n] at hk
  rw [(H.e k hk).n]
  have := h12 k hk
  omega
set_option maxHeartbeats 8000000 in
set_option maxRecDepth 8000 in
theorem Ignores_walk (F : Wor → Ent → Wor × Int) (hF : F = addE) (a : Wrs × Wor × Vec × Df.Input × Vec) (hm : a.1.Sm) (hn : a.2.1.l.Sm) :
    evFn (C := cx) (igG F hF) [] 0 ⟨[15], [11], [13], 0⟩ Tryz.f8 ((rds5 rdWrs rdWor rdVec Df.rdInput rdVec).enc a) fun v H _ => resOut (.v (.bool true)) H v := by
  obtain ⟨h, x, p, i, o⟩ := a
  replace hm : h.Sm := hm
  replace hn : x.l.Sm := hn
  refine And.intro ?_ ?_
  · repeat' (first | (refine And.intro ?_ ?_) | (intro _) | exact trivial)
  refine And.intro (fun _ => ⟨fun _ _ _ _ _ _ => trivial, hm⟩) ?_
  refine And.intro (fun hc => ?_) (fun hc => ?_)
  · exact rfl
  have hc : ((!fewAll h x || !histB h) || decide ((40 : Int) ≤ h.n)) = false := hc
  simp only [Bool.or_eq_false_iff, Bool.not_eq_false', decide_eq_false_iff_not] at hc
  obtain ⟨⟨c1, c2⟩, c3⟩ := hc
  have c3 : h.n < 40 := by omega
  have hh := hist_of c2
  have hf : fewsB h = true := by unfold fewAll at c1; exact (Bool.and_eq_true_iff.1 c1).1
  have h12 := few_12 hf
  have c4 : x.l.n ≤ 12 := by unfold fewAll at c1; exact few_x (Bool.and_eq_true_iff.1 c1).2
  have h13 : ∀ k, k < h.n → (h.w k).l.n ≤ 13 := fun k hk => Nat.le_succ_of_le (h12 k hk)
  refine And.intro ⟨fun _ _ _ _ _ _ => trivial, hm, h13⟩ ?_
  refine Exists.intro (ig11 h p i o) ?_
  refine And.intro ?_ ?_
  · refine And.intro ⟨fun _ _ _ _ _ _ => trivial, fun _ _ _ _ => trivial, hm, hn, c3⟩ ?_
    refine And.intro (fun he => ?_) (fun he => ?_)
    · have he : decide ((pushE h x).2 = 0) = true := he
      have he := of_decide_eq_true he
      have pb : pushB h x = false := by
        cases pb : pushB h x with
        | false => rfl
        | true => unfold pushE at he; rw [pb] at he; cases he
      have pe : pushE h x = (h.push x, 0) := by unfold pushE; rw [pb]
      have q1 : (pushE h x).1.Sm := by rw [pe]; exact push_sm hm hn c3
      have q2 : ∀ k, k < (pushE h x).1.n → ((pushE h x).1.w k).l.n ≤ 13 := by rw [pe]; exact push_13 h12 c4
      refine And.intro ⟨fun _ _ _ _ _ _ => trivial, q1, q2⟩ ?_
      refine And.intro (fun hb => ?_) (fun hb => ?_)
      · exfalso
        have hb : (decide ((seeE h (shotI i).client (ptF p) (shotI i)).2 = 0) && (decide (¬ (seeE (pushE h x).1 (shotI i).client (ptF p) (shotI i)).2 = 0) || !(decide ((seeE h (shotI i).client (ptF p) (shotI i)).1.id = (seeE (pushE h x).1 (shotI i).client (ptF p) (shotI i)).1.id) && (decide ((seeE h (shotI i).client (ptF p) (shotI i)).1.at_ = (seeE (pushE h x).1 (shotI i).client (ptF p) (shotI i)).1.at_) && ((seeE h (shotI i).client (ptF p) (shotI i)).1.alive == (seeE (pushE h x).1 (shotI i).client (ptF p) (shotI i)).1.alive))))) = true := hb
        rw [pe] at hb
        have e0 : (seeE h (shotI i).client (ptF p) (shotI i)).2 = 0 := of_decide_eq_true (Bool.and_eq_true_iff.1 hb).1
        rw [see_push pb c3 e0] at hb
        simp [e0] at hb
      · refine Exists.intro () (Exists.intro [] (Exists.intro [] (And.intro trivial (And.intro trivial ?_))))
        repeat' (first | (refine And.intro ?_ ?_) | (intro _) | exact rfl)
    · refine Exists.intro () (Exists.intro [] (Exists.intro [] (And.intro trivial (And.intro trivial ?_))))
      repeat' (first | (refine And.intro ?_ ?_) | (intro _) | exact rfl)
  refine fun (_ : Unit) (_ : True) => ?_
  refine Exists.intro (ig13 F h p i o) ?_
  refine And.intro ?_ ?_
  · refine ⟨(0 : Nat), [], [.slot2 17 2 25], trivial, ⟨Nat.zero_le _, fun j hj => absurd hj (Nat.not_lt_zero j)⟩, ?_⟩
    repeat' (first | (refine And.intro ?_ ?_) | (intro _) | exact rfl)
    all_goals first | exact absurd ‹_ < 0› (Nat.not_lt_zero _) | skip
  refine fun (k : Nat) (hP : k ≤ h.n ∧ ∀ j, j < k → (F (h.w j) (mineW o (shotI i).client)).2 = 0) => ?_
  obtain ⟨hk, hP⟩ := hP
  refine And.intro (fun hb => ?_) (fun hb => ?_)
  · have hb : (k : Int) < h.n := of_decide_eq_true hb
    refine And.intro ⟨by omega, by omega⟩ ?_
    have hmw : (mineW o (shotI i).client).l.Sm := mine_sm _ _
    have hw := hh.v k (by omega)
    have hfe : (h.w k).valid = true → (mineW o (shotI i).client).right = true → (findE (h.w k) (mineW o (shotI i).client).iD).2 = false → (findE (h.w k) (mineW o (shotI i).client).iD).1 = (h.w k).l.n := fun _ _ hx => find_end hw hx
    refine And.intro (al2 trivial trivial) ?_
    refine And.intro (al2 trivial trivial) ?_
    refine And.intro (al1 trivial) ?_
    refine And.intro ⟨fun _ _ _ _ => trivial, al3 trivial trivial trivial, hm.2 k (by omega), hmw, hfe⟩ ?_
    refine And.intro (fun hx => ?_) (fun hx => ?_)
    · exact rfl
    have hx : decide (¬ (F (h.w k) (mineW o (shotI i).client)).2 = 0) = false := hx
    have hx : (F (h.w k) (mineW o (shotI i).client)).2 = 0 := by simpa using hx
    have hfit : fitO (k + 1) 32 := ⟨Nat.le_trans (by omega : k + 1 ≤ 1001) (by decide), by omega⟩
    refine And.intro ⟨hfit, ?_⟩ ?_
    · repeat' (first | (refine And.intro ?_ ?_) | (intro _) | exact rfl | exact trivial)
    refine And.intro (by unfold I64; omega : I64 ((k : Int) + 1)) ?_
    refine ⟨k + 1, [(6, 15)], [], (by show h.n - (k + 1) < h.n - k; omega), ⟨(by omega : k + 1 ≤ h.n), fun j hj => by
      by_cases e : j = k
      · subst e; exact hx
      · exact hP j (by omega)⟩, ?_⟩
    repeat' (first | (refine And.intro ?_ ?_) | (intro _) | exact rfl)
    all_goals first
      | exact bifP (f := fun x => (F (h.w x) (mineW o (shotI i).client)).1.tick) (by assumption) rfl
      | exact bifP (f := fun x => (F (h.w x) (mineW o (shotI i).client)).1.l.n) (by assumption) rfl
      | exact bifP (f := fun x => ((F (h.w x) (mineW o (shotI i).client)).1.l.e _).iD) (by assumption) rfl
      | exact bifP (f := fun x => ((F (h.w x) (mineW o (shotI i).client)).1.l.e _).l.n) (by assumption) rfl
      | exact bifP (f := fun x => (((F (h.w x) (mineW o (shotI i).client)).1.l.e _).l.c _).kind) (by assumption) rfl
      | exact bifP (f := fun x => (((F (h.w x) (mineW o (shotI i).client)).1.l.e _).l.c _).v0) (by assumption) rfl
      | exact bifP (f := fun x => (((F (h.w x) (mineW o (shotI i).client)).1.l.e _).l.c _).v1) (by assumption) rfl
      | exact bifP (f := fun x => (((F (h.w x) (mineW o (shotI i).client)).1.l.e _).l.c _).v2) (by assumption) rfl
      | exact bifP (f := fun x => (((F (h.w x) (mineW o (shotI i).client)).1.l.e _).l.c _).v3) (by assumption) rfl
  · have hb : ¬ (k : Int) < h.n := of_decide_eq_false hb
    obtain rfl : k = h.n := by omega
    subst hF
    have hM : More h (moreL h (mineW o (shotI i).client)) (mineW o (shotI i).client) := more_of hh h12 hP
    refine And.intro ⟨fun _ _ _ _ _ _ => trivial, hM.sm, hM.n13 h12⟩ ?_
    have hs := see_more (c := (shotI i).client) (f := ptF p) (i := shotI i) hM (mine_his _ _) (mine_pos _ _)
    show true = ((decide ((seeE (moreL h (mineW o (shotI i).client)) (shotI i).client (ptF p) (shotI i)).2 = (seeE h (shotI i).client (ptF p) (shotI i)).2) && (decide ((seeE (moreL h (mineW o (shotI i).client)) (shotI i).client (ptF p) (shotI i)).1.id = (seeE h (shotI i).client (ptF p) (shotI i)).1.id) && (decide ((seeE (moreL h (mineW o (shotI i).client)) (shotI i).client (ptF p) (shotI i)).1.at_ = (seeE h (shotI i).client (ptF p) (shotI i)).1.at_) && ((seeE (moreL h (mineW o (shotI i).client)) (shotI i).client (ptF p) (shotI i)).1.alive == (seeE h (shotI i).client (ptF p) (shotI i)).1.alive)))) || false)
    rw [hs]
    simp
end Go.Proofs.YtjdohgcolhpegaaGreatDoor
