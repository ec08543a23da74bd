/- awake: the examples of the chapter. -/
import Derived.Test.YtcojfohjdibjjaaGreatDoorQ8
namespace Go.Proofs.YtcojfohjdibjjaaGreatDoor
open Go.RowKit

theorem part_eq {b : Body} {p q : Vec} {n : Nat} (h0 : wrongE p q 1 (oneB b) = 0) (h1 : (whereP b p q).2 = true) (h2 : n = 0 ∨ aheadB (whereP b p q).1 (n - 1) = false) (h3 : n = 65536 ∨ aheadB (whereP b p q).1 n = true) (h4 : n ≤ 65536) : partE b p q = ((n : Int), 0) := by
  obtain ⟨hm, hs⟩ := where_pos h1
  have e : partW (whereP b p q).1 = n := firstF_eq (Nat.zero_le _) (by omega) (fun k _ hk => by
    rcases h2 with h2 | h2
    · omega
    · exact ahead_mono hs hm (by omega) h2) (h3.imp (fun h => by omega) id)
  unfold partE
  rw [h0, h1, e]
  rfl
theorem hasK_congr {F G : Nat → Body} {p q : Vec} {n : Nat} (h : ∀ i, i < n → F i = G i) : idsK F p q n = idsK G p q n ∧ plK F p q n = plK G p q n := by
  induction n with
  | zero => exact ⟨rfl, rfl⟩
  | succ n ih =>
    obtain ⟨h1, h2⟩ := ih fun i hi => h i (by omega)
    have e := h n (by omega)
    constructor
    · simp only [idsK, metB, e, h1]
    · funext j
      simp only [plK, metB, e, h2]
theorem unsN_congr {F G : Nat → Body} : ∀ {r k : Nat}, 1 ≤ k → (∀ i, i < k + r → F i = G i) → unsN F k r = unsN G k r
  | 0, k, _, _ => rfl
  | r + 1, k, h1, h => by
    simp only [unsN, h k (by omega), h (k - 1) (by omega)]
    rw [unsN_congr (by omega) fun i hi => h i (by omega)]
theorem badN_congr {F G : Nat → Body} : ∀ {r k : Nat}, (∀ i, i < k + r → F i = G i) → badN F k r = badN G k r
  | 0, k, _ => rfl
  | r + 1, k, h => by
    simp only [badN, h k (by omega)]
    rw [badN_congr fun i hi => h i (by omega)]
theorem hits_congr {F G : Nat → Body} {p q : Vec} {n : Nat} (h : ∀ i, i < n → F i = G i) : hitsErr n F p q = hitsErr n G p q ∧ hitsE n F p q = hitsE n G p q := by
  obtain ⟨h1, h2⟩ := hasK_congr (p := p) (q := q) h
  have e : hitsErr n F p q = hitsErr n G p q := by
    unfold hitsErr wrongE
    rw [badN_congr (F := F) (G := G) fun i hi => h i (by omega)]
    cases n with
    | zero => rfl
    | succ n => rw [unsN_congr (F := F) (G := G) (Nat.le_refl 1) fun i hi => h i (by omega)]
  refine ⟨e, ?_⟩
  unfold hitsE hitsL
  have e2 : ltK n F p q = ltK n G p q := by
    funext x y
    unfold ltK
    rw [h2]
  rw [e, e2, h1]
def awA : Body := boxB 3 50 5 10 5
def awB : Body := ballB 1 50 0 10
def awC : Body := ballB 2 50 6 10
def awL : Nat → Body := fun i => Body.of (.agg (chunk (List.drop 0 (awB.cells ++ awC.cells ++ awA.cells)) 9 i))
def awR : Nat → Area := fun i => Area.of (.agg (chunk (List.drop 0 ((Area.mk (-1) (-1) 1 1).cells ++ (Area.mk 5 0 6 9).cells ++ (Area.mk 10 (-5) 20 5).cells ++ (Area.mk 0 1 10 1).cells)) 4 i))
theorem aw1 : partE awA ⟨0, 0⟩ ⟨100, 0⟩ = (26214, 0) := part_eq (n := 26214) (by kernel_rfl) (by kernel_rfl) (.inr (by kernel_rfl)) (.inr (by kernel_rfl)) (by omega)
theorem aw2 : beforeE awA awB ⟨0, 0⟩ ⟨100, 0⟩ = (0, 0) := by kernel_rfl
theorem aw3 : partE (ballB 9 50 50 10) ⟨0, 0⟩ ⟨100, 100⟩ = (28133, 0) := part_eq (n := 28133) (by kernel_rfl) (by kernel_rfl) (.inr (by kernel_rfl)) (.inr (by kernel_rfl)) (by omega)
theorem aw4 : hitsErr 3 awL ⟨0, 0⟩ ⟨100, 0⟩ = 0 := by kernel_rfl
theorem aw5 : hitsE 3 awL ⟨0, 0⟩ ⟨100, 0⟩ = [1, 3, 2] := by kernel_rfl
theorem aw6 : partE (ballB 9 50 11 11) ⟨0, 0⟩ ⟨100, 0⟩ = (32768, 0) := part_eq (n := 32768) (by kernel_rfl) (by kernel_rfl) (.inr (by kernel_rfl)) (.inr (by kernel_rfl)) (by omega)
theorem aw7 : crossR 4 awR ⟨0, 0⟩ ⟨10, 0⟩ = 0 := by kernel_rfl
theorem aw8 : crossE 0 4 awR ⟨0, 0⟩ ⟨10, 0⟩ = [2] := by kernel_rfl
theorem aw9 : crossE 1 4 awR ⟨0, 0⟩ ⟨10, 0⟩ = [0] := by kernel_rfl
theorem aw10 : crossE 2 4 awR ⟨0, 0⟩ ⟨10, 0⟩ = [1] := by kernel_rfl
theorem aw11 : meetsB (ballB 9 50 11 10) ⟨0, 0⟩ ⟨100, 0⟩ = false := by kernel_rfl
theorem same_iff {f g : Fam} : sameF f g = true ↔ f.n = g.n ∧ ∀ i, i < f.n → f.g i = g.g i := by
  unfold sameF
  split
  · rename_i h
    have h := of_decide_eq_true h
    simp only [Bool.false_eq_true, false_iff]
    intro c
    exact h (by rw [c.1])
  · rename_i h
    have h : (f.n : Int) = g.n := by simpa using h
    rw [eqN_iff]
    constructor
    · intro c
      exact ⟨by omega, fun i hi => c i (Nat.zero_le _) (by omega)⟩
    · intro c i _ hi
      exact c.2 i (by omega)
def awO : Vec := ⟨0, 0⟩
def awQ : Vec := ⟨100, 0⟩
def awS1 : Int := (partE awA awO awQ).2 + (beforeE awA awB awO awQ).2
def awS2 : Int := awS1 + (partE (ballB 9 50 50 10) awO ⟨100, 100⟩).2
def awS3 : Int := awS2 + hitsErr 3 awL awO awQ
def awS4 : Int := awS3 + (partE (ballB 9 50 11 11) awO awQ).2
def awS5 : Int := awS4 + crossR 4 awR awO ⟨10, 0⟩
theorem awS1_eq : awS1 = 0 := by
  have h1 : partE awA awO awQ = (26214, 0) := aw1
  have h2 : beforeE awA awB awO awQ = (0, 0) := aw2
  unfold awS1; rw [h1, h2]; rfl
theorem awS2_eq : awS2 = 0 := by
  have h1 : partE (ballB 9 50 50 10) awO ⟨100, 100⟩ = (28133, 0) := aw3
  unfold awS2; rw [awS1_eq, h1]; rfl
theorem awS3_eq : awS3 = 0 := by
  have h1 : hitsErr 3 awL awO awQ = 0 := aw4
  unfold awS3; rw [awS2_eq, h1]; rfl
theorem awS4_eq : awS4 = 0 := by
  have h1 : partE (ballB 9 50 11 11) awO awQ = (32768, 0) := aw6
  unfold awS4; rw [awS3_eq, h1]; rfl
theorem awS5_eq : awS5 = 0 := by
  have h1 : crossR 4 awR awO ⟨10, 0⟩ = 0 := aw7
  unfold awS5; rw [awS4_eq, h1]; rfl
theorem three_al {p : Nat → Prop} (h : p 0) (k : p 1) (m : p 2) : ∀ i, i < 3 → p i := fun i hi => by
  match i, hi with
  | 0, _ => exact h
  | 1, _ => exact k
  | 2, _ => exact m
theorem four_al {p : Nat → Prop} (h : p 0) (k : p 1) (m : p 2) (n : p 3) : ∀ i, i < 4 → p i := fun i hi => by
  match i, hi with
  | 0, _ => exact h
  | 1, _ => exact k
  | 2, _ => exact m
  | 3, _ => exact n
theorem i64_0 {x : Int} (h : x = 0) : I64 x := by subst h; exact ⟨by decide, by decide⟩
def litF (l : List SV) (n : Nat) : Fam := ⟨n, fun i => (hdS (chunk l 1 i)).iv⟩
def awCond : Bool := decide (¬ awS5 = 0) || decide (¬ (partE awA awO awQ).1 = 26214) || decide (¬ (beforeE awA awB awO awQ).1 = 0) || decide (¬ (partE (ballB 9 50 50 10) awO ⟨100, 100⟩).1 = 28133) || decide (¬ (partE (ballB 9 50 11 11) awO awQ).1 = 32768) || meetsB (ballB 9 50 11 10) awO awQ ||
  !sameF ⟨(hitsE 3 awL awO awQ).length, fun i => (hdS (cellsI (hitsE 3 awL awO awQ) i)).iv⟩ (litF [constSV (.int .i64 1), constSV (.int .i64 3), constSV (.int .i64 2)] 3)
theorem awCond_eq : awCond = false := by
  have h1 : partE awA awO awQ = (26214, 0) := aw1
  have h2 : beforeE awA awB awO awQ = (0, 0) := aw2
  have h3 : partE (ballB 9 50 50 10) awO ⟨100, 100⟩ = (28133, 0) := aw3
  have h4 : partE (ballB 9 50 11 11) awO awQ = (32768, 0) := aw6
  have h5 : hitsE 3 awL awO awQ = [1, 3, 2] := aw5
  have h6 : meetsB (ballB 9 50 11 10) awO awQ = false := aw11
  unfold awCond
  rw [awS5_eq, h1, h2, h3, h4, h5, h6]
  rfl
def crF (j : Nat) : Fam := ⟨(crossE j 4 awR awO ⟨10, 0⟩).length, fun i => (hdS (cellsI (crossE j 4 awR awO ⟨10, 0⟩) i)).iv⟩
def awEnd : Bool := sameF (crF 0) (litF [constSV (.int .i64 2)] 1) && sameF (crF 1) (litF [constSV (.int .i64 0)] 1) && sameF (crF 2) (litF [constSV (.int .i64 1)] 1)
theorem awEnd_eq : awEnd = true := by
  have e8 : crossE 0 4 awR awO ⟨10, 0⟩ = [2] := aw8
  have e9 : crossE 1 4 awR awO ⟨10, 0⟩ = [0] := aw9
  have e10 : crossE 2 4 awR awO ⟨10, 0⟩ = [1] := aw10
  unfold awEnd crF
  rw [e8, e9, e10]
  rfl
set_option maxHeartbeats 20000000 in
set_option maxRecDepth 8000 in
theorem Awake_walk : ∀ a, conj ((fun (_ : Unit) => []) a) → evFn (C := cx) [conAt, conBox, conBall, conArea, conPart, conBefore, conHits, conCrs, conMeets, conSme] [] 0 ⟨[], [], [], 0⟩ Tryz.f5 (rds0.enc a) fun v H _ => resOut ((fun _ => .bl true) a) H v := by
  intro _ _
  have hl : (idsK awL awO awQ 3).length ≤ 20 := Nat.le_trans (idsK_len 3) (by decide)
  refine And.intro ⟨three_al trivial trivial trivial, (by decide : (3 : Int) ≤ 1000000), fun _ => hl⟩ ?_
  refine And.intro ⟨four_al trivial trivial trivial trivial, (by decide : (4 : Int) ≤ 1000000)⟩ ?_
  refine And.intro (i64_0 awS1_eq) ?_
  refine And.intro (i64_0 awS2_eq) ?_
  refine And.intro (i64_0 awS3_eq) ?_
  refine And.intro (i64_0 awS4_eq) ?_
  refine And.intro (i64_0 awS5_eq) ?_
  have e5 : hitsE 3 awL awO awQ = [1, 3, 2] := aw5
  have l5 : ((hitsE 3 awL awO awQ).length : Int) ≤ 1000000 := by rw [e5]; decide
  refine And.intro (fun _ => ⟨fun _ _ => trivial, three_al trivial trivial trivial, l5⟩) ?_
  have hC : awCond = false := awCond_eq
  refine And.intro (fun hc => ?_) (fun hc => ?_)
  · have hc : awCond = true := hc
    rw [hC] at hc; cases hc
  clear hc
  have e8 : crossE 0 4 awR awO ⟨10, 0⟩ = [2] := aw8
  have e9 : crossE 1 4 awR awO ⟨10, 0⟩ = [0] := aw9
  have e10 : crossE 2 4 awR awO ⟨10, 0⟩ = [1] := aw10
  have l8 : ((crossE 0 4 awR awO ⟨10, 0⟩).length : Int) ≤ 1000000 := by rw [e8]; decide
  have l9 : ((crossE 1 4 awR awO ⟨10, 0⟩).length : Int) ≤ 1000000 := by rw [e9]; decide
  have l10 : ((crossE 2 4 awR awO ⟨10, 0⟩).length : Int) ≤ 1000000 := by rw [e10]; decide
  refine And.intro ⟨fun _ _ => trivial, one_al trivial, l8⟩ ?_
  refine And.intro (fun _ => ⟨fun _ _ => trivial, one_al trivial, l9⟩) ?_
  refine And.intro (fun _ => ⟨fun _ _ => trivial, one_al trivial, l10⟩) ?_
  refine Eq.trans (a := true) (b := awEnd) ?_ rfl
  exact awEnd_eq.symm
noncomputable def conAwake : Con cx := walkCon 5 Tryz.call5 rds0 (fun _ => []) (fun _ => .bl true) (fun _ => ⟨[], [], [], 0⟩) [] (fun _ => rfl) follows Tryz.func5 (by kernel_rfl) Awake_walk
end Go.Proofs.YtcojfohjdibjjaaGreatDoor
