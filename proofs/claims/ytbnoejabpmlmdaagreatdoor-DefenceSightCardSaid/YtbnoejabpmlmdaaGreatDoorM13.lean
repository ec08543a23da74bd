/- Blind. -/
import Derived.Test.YtbnoejabpmlmdaaGreatDoorM12
namespace Go.Proofs.YtbnoejabpmlmdaaGreatDoor
open Go.RowKit

noncomputable def inBodies : FnI cx := ⟨10, Tryz.call10, Tryz.f10, Tryz.func10, [], [], [3], 1, by kernel_rfl⟩
noncomputable def inDelB : FnI cx := ⟨22, Tryz.call22, Tryz.f22, Tryz.func22, [], [], [5], 0, by kernel_rfl⟩
def blH (w : Wor) (i : Df.Input) (f : Fam) (c : Comp) : Heap := [(0, .lay w.cells 24), (1, .lay i.cells 28), (2, .lay [famS f] 44), (3, .lay c.cells 39)]
def blBodC (w : Wor) (i : Df.Input) (f : Fam) (c : Comp) : Cut := ⟨Nat, fun k => k ≤ w.l.n, fun k => ⟨[sl 1 (.v (.slice none 0 0)), sl 6 (.p 6 0), sl 7 (.p 7 0), sl 18 w.l.sv, sl 19 (i64 w.l.n), sl 20 (i64 k)],
  (6, .lay zeroSc 50) :: (7, .lay [.g 8 9 9 0 (bodiesL w.l k).length, .v (.slice none 0 0), .v (.int .i64 0), .v (.int .i64 0)] 50) :: (8, .lst 9 9 (bodiesL w.l k).length (fun i => (bodG (bodiesL w.l k) i).cells) 53) :: blH w i f c, 10, 0, [], []⟩, fun k => w.l.n - k⟩
def blCut (w : Wor) (i : Df.Input) (c : Comp) : Cut := ⟨Nat × Nat × (Nat → Body), fun x => x.2.1 ≤ x.1 ∧ x.1 ≤ 12 ∧ x.2.1 = (blindL w i).length ∧ ∀ k, k < x.2.1 → x.2.2 k = bodG (blindL w i) k,
  fun x => ⟨[sl 3 (.p 0 0), sl 5 (.p 1 0), sl 10 (.p 3 0), sl 12 (.g 4 5 9 0 x.2.1)], [(0, .lay w.cells 24), (1, .lay i.cells 28), (3, .lay c.cells 39), (4, .lst 5 9 x.1 (fun k => (x.2.2 k).cells) 53)], 6, 0, [], []⟩, fun _ => 0⟩
theorem get_hit {w : Wor} {id q : Int} (h : (getE w id q).2 = true) : w.Valid ∧ ∃ i j, i < w.l.n ∧ (w.l.e i).iD = id ∧ j < (w.l.e i).l.n ∧ (getE w id q).1 = (w.l.e i).l.c j ∧ ((w.l.e i).l.c j).kind = q := by
  unfold getE at *
  cases hf : (findE w id).2 with
  | false => rw [hf] at h; cases h
  | true =>
    rw [hf] at h
    obtain ⟨h1, h2, h3⟩ := find_hit hf
    have h : (getC (w.l.e (findE w id).1).l q).2 = true := h
    unfold getC at h
    cases hh : hitB (fun j => ((w.l.e (findE w id).1).l.c j).kind) (w.l.e (findE w id).1).l.n q with
    | false => rw [hh] at h; cases h
    | true =>
      obtain ⟨h4, h5⟩ := hitB_iff.1 hh
      refine ⟨h1, _, _, h2, h3, h4, ?_, h5⟩
      show (getC (w.l.e (findE w id).1).l q).1 = _
      unfold getC
      rw [hh]
theorem get_pos {w : Wor} {id : Int} (h : (getE w id 1).2 = true) : -1048576 ≤ (getE w id 1).1.v0 ∧ (getE w id 1).1.v0 ≤ 1048576 ∧ -1048576 ≤ (getE w id 1).1.v1 ∧ (getE w id 1).1.v1 ≤ 1048576 := by
  obtain ⟨hv, i, j, h1, h2, h3, h4, h5⟩ := get_hit h
  have hf := ((hv.right i h1).fits j h3).2.2.1 h5
  rw [h4]
  exact ⟨hf.1, hf.2.1, hf.2.2.1, hf.2.2.2.1⟩
theorem ixI_neg {g : Nat → Bool} {n : Nat} (h : ixI g n = -1) : ∀ i, i < n → g i = false := by
  unfold ixI at h
  have hle := ixN_le (g := g) (r := n) (k := 0)
  by_cases c : ixN g 0 n < n
  · rw [decide_eq_true c] at h
    have h : ((ixN g 0 n : Nat) : Int) = -1 := h
    omega
  · exact fun i hi => ixN_no (r := n) (Nat.zero_le i) (by omega)
theorem ixI_pos {g : Nat → Bool} {n : Nat} (h : ¬ ixI g n = -1) : ∃ k, k < n ∧ ixI g n = k ∧ g k = true ∧ ∀ i, i < k → g i = false := by
  have hle := ixN_le (g := g) (r := n) (k := 0)
  by_cases c : ixN g 0 n < n
  · exact ⟨ixN g 0 n, c, ixI_yes rfl c, ixN_hit (r := n) (by omega), fun i hi => ixN_no (r := n) (Nat.zero_le i) hi⟩
  · exact absurd (ixI_none (by omega)) h
/-- Bodies are taken out: those ahead of i are kept, those from j on are to be looked at. -/
def delC (w : Wor) (i : Df.Input) (f : Fam) (c : Comp) (L : List Body) : Cut := ⟨Nat × (Nat → Body), fun x => x.1 ≤ L.length ∧ (∀ k, k < (othL L f x.1).length → x.2 k = bodG (othL L f x.1) k) ∧ (∀ k, x.1 ≤ k → k < L.length → x.2 k = bodG L k),
  fun x => ⟨[sl 0 (.g 8 9 9 0 L.length), sl 1 (.f (.func 23) [] [.p 2 0]), sl 5 (i64 (othL L f x.1).length), sl 6 (i64 x.1)],
    (8, .lst 9 9 L.length (fun k => (x.2 k).cells) 53) :: blH w i f c, 10, 0, [], []⟩, fun x => L.length - x.1⟩
set_option maxHeartbeats 2000000 in
set_option maxRecDepth 8000 in
theorem Blind_walk : ∀ a, conj ((fun a => [a.1.l.Sm, a.1.l.n ≤ 12]) a) → evFn (C := cx) [conOwn, Df.conBeyond, conGet, conContI, conBody, conIxB, conBl1, conVAdd, conFirst, conSees] [inBodies, inDelB] 2 ⟨[], [8], [], 0⟩ Tryz.f6 ((rds3 rdWor (rdI .i64) Df.rdInput).enc a) fun v H _ => resOut ((fun a => .tup [.v (.int .i64 (blindE a.1 a.2.1 a.2.2).1), .v (.int .i64 (blindE a.1 a.2.1 a.2.2).2)]) a) H v := by
  intro ⟨w, sh, i⟩ ⟨hm, hn⟩
  replace hm : w.l.Sm := hm
  replace hn : w.l.n ≤ 12 := hn
  have oe : decide (¬ (ownE w i.client).2 = 0) = opB w i.client := by
    unfold ownE
    cases opB w i.client <;> rfl
  refine And.intro ⟨fun _ _ _ _ => trivial, hm⟩ ?_
  refine And.intro (fun _ => (by decide : (0 : Int) ≤ 8192 ∧ (8192 : Int) ≤ 65536)) ?_
  refine And.intro (fun hb => ?_) (fun hb => ?_)
  · have hb : (decide (¬ (ownE w i.client).2 = 0) || Df.beyond ⟨i.aimX, i.aimY⟩ 8192) = true := hb
    rw [oe] at hb
    have e : blindE w sh i = (0, 2) := by unfold blindE blindBad; rw [hb]
    simp only [e]
    repeat' (first | (refine And.intro ?_ ?_) | (intro _) | exact rfl)
  have hb : (decide (¬ (ownE w i.client).2 = 0) || Df.beyond ⟨i.aimX, i.aimY⟩ 8192) = false := hb
  rw [oe] at hb
  have hbb : blindBad w i = false := hb
  simp only [Bool.or_eq_false_iff] at hb
  obtain ⟨c1, c2, hv⟩ := opB_no hb.1
  have hoL : ((ownE w i.client).1.length : Int) ≤ bigN := by
    have e : ownE w i.client = (ownL w.l i.client w.l.n, 0) := by unfold ownE; rw [hb.1]
    have := filtM_len (f := fun k => (w.l.e k).iD) (g := fun k => ownsF i.client (w.l.e k)) w.l.n
    rw [e]
    show ((ownL w.l i.client w.l.n).length : Int) ≤ 9223372036854775807
    unfold ownL
    omega
  refine And.intro ⟨fun _ _ _ _ => trivial, hm⟩ ?_
  refine And.intro (fun _ => ⟨fun _ _ => trivial, hoL⟩) ?_
  refine And.intro (fun hg => ?_) (fun hg => ?_)
  · have hg : blindNone w sh i = true := hg
    have e : blindE w sh i = (0, 6) := by unfold blindE; rw [hbb, hg]
    simp only [e]
    repeat' (first | (refine And.intro ?_ ?_) | (intro _) | exact rfl)
  have hg : blindNone w sh i = false := hg
  have hg2 := hg
  unfold blindNone at hg2
  simp only [Bool.or_eq_false_iff, Bool.not_eq_false'] at hg2
  refine Exists.intro (blCut w i (getE w sh 1).1) ?_
  refine And.intro ?_ ?_
  rotate_left
  · refine fun (x : Nat × Nat × (Nat → Body)) (hx : x.2.1 ≤ x.1 ∧ x.1 ≤ 12 ∧ x.2.1 = (blindL w i).length ∧ ∀ k, k < x.2.1 → x.2.2 k = bodG (blindL w i) k) => ?_
    obtain ⟨N, n, F⟩ := x
    obtain ⟨n1, n2, n3, n4⟩ : n ≤ N ∧ N ≤ 12 ∧ n = (blindL w i).length ∧ ∀ k, k < n → F k = bodG (blindL w i) k := hx
    have efirst : firstE n (fun k => F (0 + k)) (blindFrom w sh) (blindTo w sh i) = blindHit w sh i := by
      unfold blindHit
      rw [← n3]
      exact first_congr fun k hk => by rw [Nat.zero_add]; exact n4 k hk
    obtain ⟨hf1, hf2, hf3⟩ := find_hit (w := w) (id := sh) (by
      have := hg2.1
      unfold getE at this
      cases h : (findE w sh).2 with
      | true => rfl
      | false => rw [h] at this; cases this)
    obtain ⟨g1, g2, g3, g4⟩ := get_pos hg2.1
    have b1 : Df.smallI (getE w sh 1).1.v0 ∧ Df.smallI (getE w sh 1).1.v1 := by unfold Df.smallI; omega
    have b2 : Df.smallI i.aimX ∧ Df.smallI i.aimY := by
      have hb2 := hb.2
      unfold Df.beyond at hb2
      simp only [Bool.or_eq_false_iff, decide_eq_false_iff_not] at hb2
      unfold Df.smallI
      omega
    have b3 : (n : Int) ≤ 1000000 := by omega
    have b4 : (idsK (fun k => F (0 + k)) (blindFrom w sh) (blindTo w sh i) n).length ≤ 20 := Nat.le_trans (idsK_len n) (by omega)
    refine And.intro ⟨b1, b2⟩ ?_
    refine And.intro ⟨fun _ _ => trivial, b3, fun _ => b4⟩ ?_
    refine And.intro (fun hc => ?_) (fun hc => ?_)
    · have hc : decide (¬ (firstE n (fun k => F (0 + k)) (blindFrom w sh) (blindTo w sh i)).2 = 0) = true := hc
      rw [efirst] at hc
      have e : blindE w sh i = (0, 0) := by unfold blindE; rw [hbb, hg, hc]
      simp only [e]
      repeat' (first | (refine And.intro ?_ ?_) | (intro _) | exact rfl)
    have hc : decide (¬ (firstE n (fun k => F (0 + k)) (blindFrom w sh) (blindTo w sh i)).2 = 0) = false := hc
    rw [efirst] at hc
    refine And.intro ⟨fun _ _ _ _ => trivial, hm⟩ ?_
    refine And.intro (fun hs => ?_) (fun hs => ?_)
    · have hs : (decide ((seesE w i.client (firstE n (fun k => F (0 + k)) (blindFrom w sh) (blindTo w sh i)).1).2 = 0) && (seesE w i.client (firstE n (fun k => F (0 + k)) (blindFrom w sh) (blindTo w sh i)).1).1) = true := hs
      rw [efirst] at hs
      have e : blindE w sh i = (0, 0) := by unfold blindE; rw [hbb, hg, hc, hs]
      simp only [e]
      repeat' (first | (refine And.intro ?_ ?_) | (intro _) | exact rfl)
    have hs : (decide ((seesE w i.client (firstE n (fun k => F (0 + k)) (blindFrom w sh) (blindTo w sh i)).1).2 = 0) && (seesE w i.client (firstE n (fun k => F (0 + k)) (blindFrom w sh) (blindTo w sh i)).1).1) = false := hs
    rw [efirst] at hs
    have e : blindE w sh i = ((blindHit w sh i).1, 0) := by unfold blindE; rw [hbb, hg, hc, hs]
    simp only [e]
    repeat' (first | (refine And.intro ?_ ?_) | (intro _) | exact rfl | exact congrArg Prod.fst efirst.symm)
  refine Exists.intro (blBodC w i (blindOwn w i) (getE w sh 1).1) ?_
  refine And.intro ?_ ?_
  · refine ⟨(0 : Nat), [], [.cell2 7 0 9 53], trivial, Nat.zero_le _, ?_⟩
    repeat' (first | (refine And.intro ?_ ?_) | (intro _) | exact rfl)
    all_goals exact absurd ‹_ < 0› (Nat.not_lt_zero _)
  refine fun (k : Nat) (hk : k ≤ w.l.n) => ?_
  refine And.intro (fun hb => ?_) (fun hb => ?_)
  · have hb : (k : Int) < w.l.n := of_decide_eq_true hb
    have hkl : ((w.l.e k).l.n : Int) ≤ bigN := (hm.2 k (by omega)).1
    refine And.intro ⟨by omega, by omega⟩ ?_
    refine And.intro ⟨fun _ _ => trivial, hkl⟩ ?_
    refine And.intro (fun hc => ?_) (fun hc => ?_)
    · have hc : (bodyF (w.l.e k)).2 = true := hc
      have hlen := filtM_len (f := fun i => (bodyF (w.l.e i)).1) (g := fun i => (bodyF (w.l.e i)).2) k
      have ey := filtM_yes (f := fun i => (bodyF (w.l.e i)).1) (g := fun i => (bodyF (w.l.e i)).2) hc
      have em : ∀ i, i < (bodiesL w.l k).length + 1 → bodG (bodiesL w.l (k + 1)) i = bif Nat.ble (bodiesL w.l k).length i then (bodyF (w.l.e k)).1 else bodG (bodiesL w.l k) i := fun i hi => (congrArg (fun l => bodG l i) ey).trans (pushM _ _ hi)
      have hfit : fitO ((bodiesL w.l k).length + 1) 64 := ⟨Nat.le_trans (by unfold bodiesL; omega : (bodiesL w.l k).length + 1 ≤ 1001) (by decide), by unfold bodiesL; omega⟩
      refine And.intro ⟨hfit, fun _ _ _ => ⟨rfl, rfl, rfl, rfl, rfl, rfl, rfl, trivial, trivial, trivial⟩⟩ ?_
      refine And.intro (by unfold I64; omega : I64 ((k : Int) + 1)) ?_
      refine ⟨k + 1, [(9, 13)], [], (by show w.l.n - (k + 1) < w.l.n - k; omega), (by omega : k + 1 ≤ w.l.n), ?_⟩
      repeat' (first | (refine And.intro ?_ ?_) | (intro _) | exact rfl)
      all_goals first | exact (congrArg List.length ey).trans List.length_append | exact (congrArg Body.iD (em _ ‹_›)).trans (apply_bif Body.iD) | exact (congrArg Body.posX (em _ ‹_›)).trans (apply_bif Body.posX) | exact (congrArg Body.posY (em _ ‹_›)).trans (apply_bif Body.posY) | exact (congrArg Body.velX (em _ ‹_›)).trans (apply_bif Body.velX) | exact (congrArg Body.velY (em _ ‹_›)).trans (apply_bif Body.velY) | exact (congrArg Body.w (em _ ‹_›)).trans (apply_bif Body.w) | exact (congrArg Body.h (em _ ‹_›)).trans (apply_bif Body.h) | exact (congrArg Body.round (em _ ‹_›)).trans (apply_bif Body.round) | exact (congrArg Body.fixed (em _ ‹_›)).trans (apply_bif Body.fixed)
    · have hc : (bodyF (w.l.e k)).2 = false := hc
      have ey := filtM_no (f := fun i => (bodyF (w.l.e i)).1) (g := fun i => (bodyF (w.l.e i)).2) hc
      refine And.intro (by unfold I64; omega : I64 ((k : Int) + 1)) ?_
      refine ⟨k + 1, [], [], (by show w.l.n - (k + 1) < w.l.n - k; omega), (by omega : k + 1 ≤ w.l.n), ?_⟩
      repeat' (first | (refine And.intro ?_ ?_) | (intro _) | exact rfl)
      all_goals first | exact congrArg List.length ey | exact congrArg (fun l => (bodG l _).iD) ey | exact congrArg (fun l => (bodG l _).posX) ey | exact congrArg (fun l => (bodG l _).posY) ey | exact congrArg (fun l => (bodG l _).velX) ey | exact congrArg (fun l => (bodG l _).velY) ey | exact congrArg (fun l => (bodG l _).w) ey | exact congrArg (fun l => (bodG l _).h) ey | exact congrArg (fun l => (bodG l _).round) ey | exact congrArg (fun l => (bodG l _).fixed) ey
  have hb : ¬ (k : Int) < w.l.n := of_decide_eq_false hb
  obtain rfl : k = w.l.n := by omega
  clear hb hk
  have hlen : (bodiesL w.l w.l.n).length ≤ 12 := by
    have := filtM_len (f := fun i => (bodyF (w.l.e i)).1) (g := fun i => (bodyF (w.l.e i)).2) w.l.n
    unfold bodiesL; omega
  have hLn : ((bodiesL w.l w.l.n).length : Int) ≤ bigN := by unfold bigN; omega
  have hbl : blindL w i = othL (bodiesL w.l w.l.n) (blindOwn w i) (bodiesL w.l w.l.n).length := rfl
  have hz : ixI (fun k => inF (blindOwn w i) (bodG (bodiesL w.l w.l.n) (0 + k)).iD) (bodiesL w.l w.l.n).length = ixI (fun k => inF (blindOwn w i) (bodG (bodiesL w.l w.l.n) k).iD) (bodiesL w.l w.l.n).length := by simp only [Nat.zero_add]
  refine And.intro ⟨fun _ _ => trivial, hLn, (blindOwn w i), hoL, rfl⟩ ?_
  refine And.intro (fun hd => ?_) (fun hd => ?_)
  · have hd : decide (ixI (fun k => inF (blindOwn w i) (bodG (bodiesL w.l w.l.n) (0 + k)).iD) (bodiesL w.l w.l.n).length = -1) = true := hd
    rw [hz] at hd
    have hd := ixI_neg (of_decide_eq_true hd)
    obtain ⟨q1, q2⟩ := filtM_pre (f := fun i => bodG (bodiesL w.l w.l.n) i) (g := fun k => !inF (blindOwn w i) (bodG (bodiesL w.l w.l.n) k).iD) (d := Body.no) (k := (bodiesL w.l w.l.n).length) fun k hk => by rw [hd k hk]; rfl
    refine ⟨(((bodiesL w.l w.l.n).length, (bodiesL w.l w.l.n).length, bodG (bodiesL w.l w.l.n)) : Nat × Nat × (Nat → Body)), [(4, 8), (5, 9)], [], trivial, ⟨Nat.le_refl _, hlen, by rw [hbl]; exact q1.symm, fun k hk => by rw [hbl]; exact (q2 k hk).symm⟩, ?_⟩
    repeat' (first | (refine And.intro ?_ ?_) | (intro _) | exact rfl)
  · have hd : decide (ixI (fun k => inF (blindOwn w i) (bodG (bodiesL w.l w.l.n) (0 + k)).iD) (bodiesL w.l w.l.n).length = -1) = false := hd
    rw [hz] at hd
    obtain ⟨i0, h1, h2, h3, h4⟩ := ixI_pos (of_decide_eq_false hd)
    obtain ⟨q1, q2⟩ := filtM_pre (f := fun i => bodG (bodiesL w.l w.l.n) i) (g := fun k => !inF (blindOwn w i) (bodG (bodiesL w.l w.l.n) k).iD) (d := Body.no) (k := i0) fun k hk => by rw [h4 k hk]; rfl
    have q3 : othL (bodiesL w.l w.l.n) (blindOwn w i) (i0 + 1) = othL (bodiesL w.l w.l.n) (blindOwn w i) i0 := filtM_no (by show (!inF (blindOwn w i) (bodG (bodiesL w.l w.l.n) i0).iD) = false; rw [h3]; rfl)
    have q4 : (othL (bodiesL w.l w.l.n) (blindOwn w i) (i0 + 1)).length = i0 := by rw [q3]; exact q1
    have ez : ixI (fun k => inF (blindOwn w i) (bodG (bodiesL w.l w.l.n) (0 + k)).iD) (bodiesL w.l w.l.n).length = (i0 : Nat) := hz.trans h2
    refine And.intro (show I64 (ixI (fun k => inF (blindOwn w i) (bodG (bodiesL w.l w.l.n) (0 + k)).iD) (bodiesL w.l w.l.n).length + 1) by rw [ez]; unfold I64; omega) ?_
    refine Exists.intro (delC w i (blindOwn w i) (getE w sh 1).1 (bodiesL w.l w.l.n)) ?_
    refine And.intro ?_ ?_
    · refine ⟨((i0 + 1, bodG (bodiesL w.l w.l.n)) : Nat × (Nat → Body)), [], [], trivial, ⟨h1, fun k hk => ?_, fun k hk1 hk2 => rfl⟩, ?_⟩
      · have hk : k < (othL (bodiesL w.l w.l.n) (blindOwn w i) (i0 + 1)).length := hk
        rw [q4] at hk
        show bodG (bodiesL w.l w.l.n) k = bodG (othL (bodiesL w.l w.l.n) (blindOwn w i) (i0 + 1)) k
        rw [q3]
        exact (q2 k hk).symm
      repeat' (first | (refine And.intro ?_ ?_) | (intro _) | exact rfl)
      all_goals first | exact (congrArg (fun k : Nat => (k : Int)) q4).trans ez.symm | exact (congrArg (fun x : Int => x + 1) ez).symm
    refine fun (x : Nat × (Nat → Body)) (hx : x.1 ≤ (bodiesL w.l w.l.n).length ∧ (∀ k, k < (othL (bodiesL w.l w.l.n) (blindOwn w i) x.1).length → x.2 k = bodG (othL (bodiesL w.l w.l.n) (blindOwn w i) x.1) k) ∧ (∀ k, x.1 ≤ k → k < (bodiesL w.l w.l.n).length → x.2 k = bodG (bodiesL w.l w.l.n) k)) => ?_
    obtain ⟨j, h⟩ := x
    obtain ⟨x1, x2, x3⟩ : j ≤ (bodiesL w.l w.l.n).length ∧ (∀ k, k < (othL (bodiesL w.l w.l.n) (blindOwn w i) j).length → h k = bodG (othL (bodiesL w.l w.l.n) (blindOwn w i) j) k) ∧ (∀ k, j ≤ k → k < (bodiesL w.l w.l.n).length → h k = bodG (bodiesL w.l w.l.n) k) := hx
    have hcj := filtM_len (f := fun i => bodG (bodiesL w.l w.l.n) i) (g := fun k => !inF (blindOwn w i) (bodG (bodiesL w.l w.l.n) k).iD) j
    have hcj : (othL (bodiesL w.l w.l.n) (blindOwn w i) j).length ≤ j := hcj
    refine And.intro (fun hb => ?_) (fun hb => ?_)
    · have hb : (j : Int) < (bodiesL w.l w.l.n).length := of_decide_eq_true hb
      refine And.intro ⟨by omega, hb⟩ ?_
      refine And.intro ⟨(blindOwn w i), hoL, rfl⟩ ?_
      have hj : h (0 + (j : Int).toNat) = bodG (bodiesL w.l w.l.n) j := by rw [show 0 + (j : Int).toNat = j by omega]; exact x3 j (Nat.le_refl _) (by omega)
      refine And.intro (fun hd2 => ?_) (fun hd2 => ?_)
      · have hd2 : (!inF (blindOwn w i) (h (0 + (j : Int).toNat)).iD) = true := hd2
        rw [hj] at hd2
        have ey : othL (bodiesL w.l w.l.n) (blindOwn w i) (j + 1) = othL (bodiesL w.l w.l.n) (blindOwn w i) j ++ [bodG (bodiesL w.l w.l.n) j] := filtM_yes hd2
        have el : (othL (bodiesL w.l w.l.n) (blindOwn w i) (j + 1)).length = (othL (bodiesL w.l w.l.n) (blindOwn w i) j).length + 1 := by rw [ey, List.length_append]; rfl
        have q : (0 : Int) ≤ ((othL (bodiesL w.l w.l.n) (blindOwn w i) j).length : Int) ∧ ((othL (bodiesL w.l w.l.n) (blindOwn w i) j).length : Int) < (bodiesL w.l w.l.n).length := ⟨by omega, by omega⟩
        refine And.intro q ?_
        refine And.intro (fun _ _ => ⟨rfl, rfl, rfl, rfl, rfl, rfl, rfl, trivial, trivial, trivial⟩) ?_
        refine And.intro (by unfold I64; omega : I64 (((othL (bodiesL w.l w.l.n) (blindOwn w i) j).length : Int) + 1)) ?_
        refine And.intro (by unfold I64; omega : I64 ((j : Int) + 1)) ?_
        refine ⟨((j + 1, fun k => bif Nat.beq k (0 + (((othL (bodiesL w.l w.l.n) (blindOwn w i) j).length : Nat) : Int).toNat) then h (0 + (j : Int).toNat) else h k) : Nat × (Nat → Body)), [], [], (by show (bodiesL w.l w.l.n).length - (j + 1) < (bodiesL w.l w.l.n).length - j; omega), ⟨(by omega : j + 1 ≤ (bodiesL w.l w.l.n).length), fun k hk => ?_, fun k hk1 hk2 => ?_⟩, ?_⟩
        · have hk : k < (othL (bodiesL w.l w.l.n) (blindOwn w i) (j + 1)).length := hk
          show (bif Nat.beq k (0 + (((othL (bodiesL w.l w.l.n) (blindOwn w i) j).length : Nat) : Int).toNat) then h (0 + (j : Int).toNat) else h k) = bodG (othL (bodiesL w.l w.l.n) (blindOwn w i) (j + 1)) k
          have ep : bodG (othL (bodiesL w.l w.l.n) (blindOwn w i) (j + 1)) k = bif Nat.ble (othL (bodiesL w.l w.l.n) (blindOwn w i) j).length k then bodG (bodiesL w.l w.l.n) j else bodG (othL (bodiesL w.l w.l.n) (blindOwn w i) j) k := (congrArg (fun l => bodG l k) ey).trans (pushM _ _ (by omega))
          rw [ep, hj, show 0 + (((othL (bodiesL w.l w.l.n) (blindOwn w i) j).length : Nat) : Int).toNat = (othL (bodiesL w.l w.l.n) (blindOwn w i) j).length by omega]
          rcases Nat.lt_or_ge k (othL (bodiesL w.l w.l.n) (blindOwn w i) j).length with c | c
          · rw [show Nat.ble (othL (bodiesL w.l w.l.n) (blindOwn w i) j).length k = false by cases hb : Nat.ble (othL (bodiesL w.l w.l.n) (blindOwn w i) j).length k with | false => rfl | true => exact absurd (Nat.le_of_ble_eq_true hb) (by omega), show Nat.beq k (othL (bodiesL w.l w.l.n) (blindOwn w i) j).length = false by cases hb : Nat.beq k (othL (bodiesL w.l w.l.n) (blindOwn w i) j).length with | false => rfl | true => exact absurd (Nat.eq_of_beq_eq_true hb) (by omega)]
            exact x2 k c
          · rw [show Nat.ble (othL (bodiesL w.l w.l.n) (blindOwn w i) j).length k = true from Nat.ble_eq_true_of_le c, show k = (othL (bodiesL w.l w.l.n) (blindOwn w i) j).length by omega, show Nat.beq (othL (bodiesL w.l w.l.n) (blindOwn w i) j).length (othL (bodiesL w.l w.l.n) (blindOwn w i) j).length = true from Nat.beq_refl _]
            rfl
        · have hk1 : j + 1 ≤ k := hk1
          show (bif Nat.beq k (0 + (((othL (bodiesL w.l w.l.n) (blindOwn w i) j).length : Nat) : Int).toNat) then h (0 + (j : Int).toNat) else h k) = bodG (bodiesL w.l w.l.n) k
          rw [show 0 + (((othL (bodiesL w.l w.l.n) (blindOwn w i) j).length : Nat) : Int).toNat = (othL (bodiesL w.l w.l.n) (blindOwn w i) j).length by omega, show Nat.beq k (othL (bodiesL w.l w.l.n) (blindOwn w i) j).length = false by cases hb : Nat.beq k (othL (bodiesL w.l w.l.n) (blindOwn w i) j).length with | false => rfl | true => exact absurd (Nat.eq_of_beq_eq_true hb) (by omega)]
          exact x3 k (by omega) hk2
        repeat' (first | (refine And.intro ?_ ?_) | (intro _) | exact rfl)
        all_goals first | exact congrArg (fun k : Nat => (k : Int)) el | exact apply_bif Body.iD | exact apply_bif Body.posX | exact apply_bif Body.posY | exact apply_bif Body.velX | exact apply_bif Body.velY | exact apply_bif Body.w | exact apply_bif Body.h | exact apply_bif Body.round | exact apply_bif Body.fixed
      · have hd2 : (!inF (blindOwn w i) (h (0 + (j : Int).toNat)).iD) = false := hd2
        rw [hj] at hd2
        have ey : othL (bodiesL w.l w.l.n) (blindOwn w i) (j + 1) = othL (bodiesL w.l w.l.n) (blindOwn w i) j := filtM_no hd2
        refine And.intro (by unfold I64; omega : I64 ((j : Int) + 1)) ?_
        refine ⟨((j + 1, h) : Nat × (Nat → Body)), [], [], (by show (bodiesL w.l w.l.n).length - (j + 1) < (bodiesL w.l w.l.n).length - j; omega), ⟨(by omega : j + 1 ≤ (bodiesL w.l w.l.n).length), fun k hk => ?_, fun k hk1 hk2 => x3 k (Nat.le_of_succ_le hk1) hk2⟩, ?_⟩
        · have hk : k < (othL (bodiesL w.l w.l.n) (blindOwn w i) (j + 1)).length := hk
          show h k = bodG (othL (bodiesL w.l w.l.n) (blindOwn w i) (j + 1)) k
          rw [ey] at hk ⊢
          exact x2 k hk
        repeat' (first | (refine And.intro ?_ ?_) | (intro _) | exact rfl)
        all_goals exact congrArg (fun l : List Body => (l.length : Int)) ey
    · have hb : ¬ (j : Int) < (bodiesL w.l w.l.n).length := of_decide_eq_false hb
      obtain rfl : j = (bodiesL w.l w.l.n).length := by omega
      have q : (0 : Int) ≤ ((othL (bodiesL w.l w.l.n) (blindOwn w i) (bodiesL w.l w.l.n).length).length : Int) ∧ ((othL (bodiesL w.l w.l.n) (blindOwn w i) (bodiesL w.l w.l.n).length).length : Int) ≤ (bodiesL w.l w.l.n).length := ⟨by omega, by omega⟩
      refine And.intro q ?_
      refine And.intro (fun _ _ => ⟨rfl, rfl, rfl, rfl, rfl, rfl, rfl, trivial, trivial, trivial⟩) ?_
      refine And.intro q ?_
      refine ⟨(((bodiesL w.l w.l.n).length, (othL (bodiesL w.l w.l.n) (blindOwn w i) (bodiesL w.l w.l.n).length).length, fun k => bif insB (0 + (((othL (bodiesL w.l w.l.n) (blindOwn w i) (bodiesL w.l w.l.n).length).length : Nat) : Int).toNat) ((bodiesL w.l w.l.n).length - (((othL (bodiesL w.l w.l.n) (blindOwn w i) (bodiesL w.l w.l.n).length).length : Nat) : Int).toNat) k then Body.no else h k) : Nat × Nat × (Nat → Body)), [(4, 8), (5, 9)], [], trivial, ⟨hcj, hlen, rfl, fun k hk => ?_⟩, ?_⟩
      · have hk : k < (othL (bodiesL w.l w.l.n) (blindOwn w i) (bodiesL w.l w.l.n).length).length := hk
        show (bif insB (0 + (((othL (bodiesL w.l w.l.n) (blindOwn w i) (bodiesL w.l w.l.n).length).length : Nat) : Int).toNat) ((bodiesL w.l w.l.n).length - (((othL (bodiesL w.l w.l.n) (blindOwn w i) (bodiesL w.l w.l.n).length).length : Nat) : Int).toNat) k then Body.no else h k) = bodG (blindL w i) k
        rw [show insB (0 + (((othL (bodiesL w.l w.l.n) (blindOwn w i) (bodiesL w.l w.l.n).length).length : Nat) : Int).toNat) ((bodiesL w.l w.l.n).length - (((othL (bodiesL w.l w.l.n) (blindOwn w i) (bodiesL w.l w.l.n).length).length : Nat) : Int).toNat) k = false by
          unfold insB
          rw [show Nat.ble (0 + (((othL (bodiesL w.l w.l.n) (blindOwn w i) (bodiesL w.l w.l.n).length).length : Nat) : Int).toNat) k = false by
            cases hb : Nat.ble (0 + (((othL (bodiesL w.l w.l.n) (blindOwn w i) (bodiesL w.l w.l.n).length).length : Nat) : Int).toNat) k with
            | false => rfl
            | true => exact absurd (Nat.le_of_ble_eq_true hb) (by omega)]]
        exact x2 k hk
      repeat' (first | (refine And.intro ?_ ?_) | (intro _) | exact rfl)
      all_goals first | exact apply_bif Body.iD | exact apply_bif Body.posX | exact apply_bif Body.posY | exact apply_bif Body.velX | exact apply_bif Body.velY | exact apply_bif Body.w | exact apply_bif Body.h | exact apply_bif Body.round | exact apply_bif Body.fixed
noncomputable def conBlind : Con cx := walkCon 6 Tryz.call6 (rds3 rdWor (rdI .i64) Df.rdInput) (fun a => [a.1.l.Sm, a.1.l.n ≤ 12]) (fun a => .tup [.v (.int .i64 (blindE a.1 a.2.1 a.2.2).1), .v (.int .i64 (blindE a.1 a.2.1 a.2.2).2)]) (fun _ => ⟨[], [8], [], 0⟩) [] (fun _ => rfl) follows Tryz.func6 (by kernel_rfl) Blind_walk
end Go.Proofs.YtbnoejabpmlmdaaGreatDoor
