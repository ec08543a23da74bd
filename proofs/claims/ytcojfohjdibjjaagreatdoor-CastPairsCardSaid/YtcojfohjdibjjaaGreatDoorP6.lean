/- The reference's checks. The reference's checks of a list. Integers: sums that are written where one says. -/
import Derived.Test.YtcojfohjdibjjaaGreatDoorP5
import Derived.Test.YtcojfohjdibjjaaGreatDoorV1
namespace Go.Proofs.YtcojfohjdibjjaaGreatDoor
open Go.RowKit

def sigI (x : Int) : Int := match decide ((lenI x.natAbs : Int) = 0) with | true => 0 | false => match decide (x < 0) with | true => -1 | false => 1
set_option maxHeartbeats 4000000 in
set_option maxRecDepth 8000 in
theorem ISign_walk : ∀ a, conj ((fun (a : SV) => [a = zS (zV a)]) a) → evFn (C := cx) [] [] 0 noHow Tryz.f56 ((rds1 rdX).enc a) fun v H _ => resOut (.v (.int .i64 (sigI (zV a)))) H v := by
  intro a ha
  replace ha : a = zS (zV a) := ha
  show evFn (C := cx) [] [] 0 noHow Tryz.f56 [a] fun v H _ => resOut (.v (.int .i64 (sigI (zV a)))) H v
  generalize zV a = x at *
  subst ha
  refine And.intro (fun h => ?_) (fun h => ?_)
  · have h : decide ((lenI x.natAbs : Int) = 0) = true := h
    show sigI x = 0
    unfold sigI; rw [h]
  have h : decide ((lenI x.natAbs : Int) = 0) = false := h
  refine And.intro (fun k => ?_) (fun k => ?_)
  · have k : decide (x < 0) = true := k
    show sigI x = -1
    unfold sigI; rw [h, k]
  · have k : decide (x < 0) = false := k
    show sigI x = 1
    unfold sigI; rw [h, k]
theorem sigI_eq (x : Int) : sigI x = cmpI x 0 := by
  unfold sigI
  rcases Int.lt_trichotomy x 0 with h | h | h
  · rw [cmpI_neg1 h, decide_eq_false (fun k => by have := len_zero k; omega), dec_t h]
  · subst h; rfl
  · rw [cmpI_one h, decide_eq_false (fun k => by have := len_zero k; omega), dec_f (by omega)]
noncomputable def conISign : Con cx := walkCon 56 Tryz.call56 (rds1 rdX) (fun (a : SV) => [a = zS (zV a)]) (fun a => .v (.int .i64 (sigI (zV a)))) (fun _ => noHow) [] (fun _ => rfl) follows Tryz.func56 (by kernel_rfl) ISign_walk
def wthB (x m : Int) : Bool := decide (-m ≤ x) && decide (x ≤ m)
set_option maxHeartbeats 4000000 in
set_option maxRecDepth 8000 in
theorem Within_walk : ∀ a, conj ((fun (a : Int × Int) => [Sml a.2]) a) → evFn (C := cx) [] [] 0 noHow Tryz.f58 ((rds2 (rdI .i64) (rdI .i64)).enc a) fun v H _ => resOut (.v (.bool (wthB a.1 a.2))) H v := by
  intro ⟨x, m⟩ hm
  replace hm : -1073741824 ≤ m ∧ m ≤ 1073741824 := hm
  refine And.intro (by show _ ∧ _; constructor <;> (show _ ≤ _; omega) : -9223372036854775808 ≤ -m ∧ -m ≤ 9223372036854775807) ?_
  repeat' (first | exact rfl | (refine And.intro ?_ ?_) | (intro _))
  all_goals skip
noncomputable def conWithin : Con cx := walkCon 58 Tryz.call58 (rds2 (rdI .i64) (rdI .i64)) (fun (a : Int × Int) => [Sml a.2]) (fun a => .v (.bool (wthB a.1 a.2))) (fun _ => noHow) [] (fun _ => rfl) follows Tryz.func58 (by kernel_rfl) Within_walk
def Body.k1 (b : Body) : Bool := decide (b.iD < 0) || decide (65536 < b.iD) || !wthB b.posX 1048576 || !wthB b.posY 1048576 || !wthB b.velX 4096 || !wthB b.velY 4096
def Body.k2 (b : Body) : Bool := decide (b.w < 1) || decide (16384 < b.w) || decide (b.h < 1) || decide (16384 < b.h) || (b.round && decide (¬ b.h = b.w))
def Body.k3 (b : Body) : Bool := !b.fixed || (decide (b.velX = 0) && decide (b.velY = 0))
theorem ok_k (b : Body) : b.ok = (!b.k1 && (!b.k2 && b.k3)) := by
  have e : b.ok = (!b.bad1 && ((!b.round || decide (b.w = b.h)) && b.k3)) := by unfold Body.ok Body.k3; cases b.bad1 <;> rfl
  rw [e, Bool.eq_iff_iff]
  unfold Body.bad1 Body.k1 Body.k2 okI okI2 okI wthB
  cases b.round <;> cases b.k3 <;> simp only [Bool.and_eq_true, Bool.or_eq_true, Bool.not_eq_true', Bool.or_eq_false_iff, Bool.not_eq_false', decide_eq_true_eq, decide_eq_false_iff_not, and_true, and_false, or_true, true_or, false_or, Bool.not_true, Bool.not_false, Bool.true_and, Bool.false_and, Bool.or_false, Bool.and_true, Bool.and_false, Bool.true_or, Bool.false_or, Bool.false_eq_true, true_and, iff_self] <;> omega
set_option maxHeartbeats 4000000 in
set_option maxRecDepth 8000 in
theorem RValid_walk : ∀ a, conj ((fun (_ : Body) => []) a) → evFn (C := cx) [conWithin] [] 0 noHow Tryz.f28 ((rds1 rdBody).enc a) fun v H _ => resOut (.v (.bool a.ok)) H v := by
  intro b _
  have s1 : Sml 1048576 := ⟨by decide, by decide⟩
  have s2 : Sml 4096 := ⟨by decide, by decide⟩
  refine And.intro (fun _ => s1) ?_
  refine And.intro (fun _ => s1) ?_
  refine And.intro (fun _ => s2) ?_
  refine And.intro (fun _ => s2) ?_
  refine And.intro (fun h1 => ?_) (fun h1 => ?_)
  · have h1 : b.k1 = true := h1
    show b.ok = false
    rw [ok_k, h1]; rfl
  have h1 : b.k1 = false := h1
  refine And.intro (fun h2 => ?_) (fun h2 => ?_)
  · have h2 : b.k2 = true := h2
    show b.ok = false
    rw [ok_k, h1, h2]; rfl
  have h2 : b.k2 = false := h2
  show b.ok = b.k3
  rw [ok_k, h1, h2]; rfl
noncomputable def conRValid : Con cx := walkCon 28 Tryz.call28 (rds1 rdBody) (fun _ => []) (fun b => .v (.bool b.ok)) (fun _ => noHow) [] (fun _ => rfl) follows Tryz.func28 (by kernel_rfl) RValid_walk
set_option maxHeartbeats 2000000 in
set_option maxRecDepth 8000 in
theorem RBounds_walk : ∀ a, conj ((fun _ => []) a) → evFn (C := cx) [conRValid] [] 0 ⟨[3], [], [], 0⟩ Tryz.f50 (((rds1 rdBody)).enc a) fun v H _ => resOut ((fun b => .tup [b.low.sv, b.high.sv]) a) H v := by
  intro b _
  refine And.intro (fun hb => ?_) (fun hb => ?_)
  · have hb : b.ok = false := by
      have hb : (!b.ok) = true := hb
      simpa using hb
    have e1 : b.low = ⟨0, 0⟩ := by unfold Body.low; rw [hb]
    have e2 : b.high = ⟨0, 0⟩ := by unfold Body.high; rw [hb]
    simp only [e1, e2]
    repeat' (first | (refine And.intro ?_ ?_) | (intro _) | exact rfl)
  · have hb : b.ok = true := by
      have hb : (!b.ok) = false := hb
      simpa using hb
    have e1 : b.low = ⟨b.posX - b.w, b.posY - b.h⟩ := by unfold Body.low; rw [hb]
    have e2 : b.high = ⟨b.posX + b.w, b.posY + b.h⟩ := by unfold Body.high; rw [hb]
    simp only [e1, e2]
    obtain ⟨-, h1, h2, h3, h4, -⟩ := Body.Ok.of hb
    refine And.intro (by unfold I64; omega : I64 (b.posX - b.w)) ?_
    refine And.intro (by unfold I64; omega : I64 (b.posY - b.h)) ?_
    refine And.intro (by unfold I64; omega : I64 (b.posX + b.w)) ?_
    refine And.intro (by unfold I64; omega : I64 (b.posY + b.h)) ?_
    repeat' (first | (refine And.intro ?_ ?_) | (intro _) | exact rfl)
noncomputable def conRBounds : Con cx := walkCon 50 Tryz.call50 (rds1 rdBody) (fun _ => []) (fun b => .tup [b.low.sv, b.high.sv]) (fun _ => ⟨[3], [], [], 0⟩) [3] (fun _ => rfl) follows Tryz.func50 (by kernel_rfl) RBounds_walk
theorem inB_r (p : Vec) : p.inB = (decide (-2097152 ≤ p.x) && decide (p.x ≤ 2097152) && decide (-2097152 ≤ p.y) && decide (p.y ≤ 2097152)) := by
  unfold Vec.inB
  rw [Bool.eq_iff_iff]
  simp only [Bool.and_eq_true, decide_eq_true_eq]
  omega
theorem RInside_walk : ∀ a, conj ((fun _ => []) a) → evFn (C := cx) [] [] 0 noHow Tryz.f29 (((rds1 rdVec)).enc a) fun v H _ => resOut ((fun p => .v (.bool p.inB)) a) H v := by
  intro p _
  exact inB_r p
noncomputable def conRInside : Con cx := walkCon 29 Tryz.call29 (rds1 rdVec) (fun _ => []) (fun p => .v (.bool p.inB)) (fun _ => noHow) [] (fun _ => rfl) follows Tryz.func29 (by kernel_rfl) RInside_walk
theorem short_r (p q : Vec) : shortB p q = (decide (-8192 ≤ q.x - p.x) && decide (q.x - p.x ≤ 8192) && decide (-8192 ≤ q.y - p.y) && decide (q.y - p.y ≤ 8192)) := by
  unfold shortB
  rw [Bool.eq_iff_iff]
  simp only [Bool.and_eq_true, decide_eq_true_eq]
  omega
set_option maxHeartbeats 2000000 in
theorem RShort_walk : ∀ a, conj ((fun a => [a.1.In, a.2.In]) a) → evFn (C := cx) [] [] 0 noHow Tryz.f30 (((rds2 rdVec rdVec)).enc a) fun v H _ => resOut ((fun a => .v (.bool (shortB a.1 a.2))) a) H v := by
  intro ⟨p, q⟩ ⟨hp, hq⟩
  obtain ⟨p1, p2⟩ : p.In := hp
  obtain ⟨q1, q2⟩ : q.In := hq
  refine And.intro (by unfold I64; omega : I64 (q.x - p.x)) ?_
  refine And.intro (by unfold I64; omega : I64 (q.y - p.y)) ?_
  exact short_r p q
noncomputable def conRShort : Con cx := walkCon 30 Tryz.call30 (rds2 rdVec rdVec) (fun a => [a.1.In, a.2.In]) (fun a => .v (.bool (shortB a.1 a.2))) (fun _ => noHow) [] (fun _ => rfl) follows Tryz.func30 (by kernel_rfl) RShort_walk
end Go.Proofs.YtcojfohjdibjjaaGreatDoor
namespace Go.Proofs.YtcojfohjdibjjaaGreatDoor
open Go.RowKit

def wrCut (n : Nat) (F : Nat → Body) (p q : Vec) : Cut := ⟨Nat, fun i => i ≤ n ∧ ∀ j, j < i → (F j).ok = true,
  fun i => ⟨[sl 0 (.rs 9 n fun i => (F i).cells), sl 4 (.p 0 0), sl 5 (.p 1 0), sl 7 (.v (.int .i64 i))], [(0, .lay p.cells 23), (1, .lay q.cells 23)], 2, 0, [], []⟩, fun i => n - i⟩
theorem bad_yes {F : Nat → Body} {n i : Nat} (hi : i < n) (h : (F i).ok = false) : badN F 0 n = true := by
  cases e : badN F 0 n with
  | true => rfl
  | false => rw [badN_no e i (Nat.zero_le _) (by omega)] at h; cases h
theorem wrong_bad {p q : Vec} {n : Nat} {F : Nat → Body} (h : badN F 0 n = true) : wrongE p q n F = 2 := by
  unfold wrongE
  split
  · rfl
  · split
    · rfl
    · rw [h]
theorem wrong_in {p q : Vec} {n : Nat} {F : Nat → Body} (h : (!p.inB || !q.inB) = true) : wrongE p q n F = 2 := by
  unfold wrongE
  cases hp : p.inB <;> cases hq : q.inB <;> simp_all
theorem wrong_go {p q : Vec} {n : Nat} {F : Nat → Body} (h : (!p.inB || !q.inB) = false) (k : badN F 0 n = false) : p.In ∧ q.In ∧ wrongE p q n F = match !shortB p q with | true => 3 | false => 0 := by
  have hp : p.inB = true := by cases e : p.inB <;> simp_all
  have hq : q.inB = true := by cases e : q.inB <;> simp_all
  refine ⟨Vec.In.of hp, Vec.In.of hq, ?_⟩
  unfold wrongE
  rw [hp, hq, k]; rfl
set_option maxHeartbeats 4000000 in
set_option maxRecDepth 8000 in
theorem RWrong_walk : ∀ a, conj ((fun (a : (Nat × (Nat → Body)) × Vec × Vec) => [a.1.1 ≤ 1000]) a) → evFn (C := cx) [conRValid, conRInside, conRShort] [] 0 ⟨[], [], [2], 0⟩ Tryz.f24 ((rds3 rdBodies rdVec rdVec).enc a) fun v H _ => resOut (.v (.int .i64 (wrongE a.2.1 a.2.2 a.1.1 a.1.2))) H v := by
  intro ⟨⟨n, F⟩, p, q⟩ hn
  replace hn : n ≤ 1000 := hn
  refine Exists.intro (wrCut n F p q) ?_
  refine And.intro ?_ ?_
  · refine ⟨(0 : Nat), [], [], trivial, ⟨Nat.zero_le _, fun j hj => absurd hj (Nat.not_lt_zero _)⟩, ?_⟩
    repeat' (first | exact rfl | (refine And.intro ?_ ?_) | (intro _))
  refine fun (i : Nat) hP => ?_
  obtain ⟨hi, hall⟩ : i ≤ n ∧ ∀ j, j < i → (F j).ok = true := hP
  refine And.intro (fun h1 => ?_) (fun h1 => ?_)
  · have h1 : (i : Int) < n := of_decide_eq_true h1
    refine And.intro (⟨by omega, by omega⟩ : (0 : Int) ≤ i ∧ (i : Int) < n) ?_
    refine And.intro (fun h2 => ?_) (fun h2 => ?_)
    · have h2 : (!(F i).ok) = true := h2
      show wrongE p q n F = 2
      exact wrong_bad (bad_yes (i := i) (by omega) (by simpa using h2))
    · have h2 : (!(F i).ok) = false := h2
      have hf : (F i).ok = true := by simpa using h2
      refine And.intro (⟨by omega, by omega⟩ : -9223372036854775808 ≤ (i : Int) + 1 ∧ (i : Int) + 1 ≤ 9223372036854775807) ?_
      refine ⟨i + 1, [], [], (by show n - (i + 1) < n - i; omega), ⟨by show i + 1 ≤ n; omega, fun j hj => ?_⟩, ?_⟩
      · rcases Nat.lt_or_eq_of_le (Nat.le_of_lt_succ hj) with k | k
        · exact hall j k
        · rw [k]; exact hf
      repeat' (first | exact rfl | (refine And.intro ?_ ?_) | (intro _))
      all_goals skip
  · have h1 : ¬ (i : Int) < n := of_decide_eq_false h1
    have hin : i = n := by omega
    have hb : badN F 0 n = false := badN_of fun j _ hj => hall j (by omega)
    refine And.intro (fun h2 => ?_) (fun h2 => ?_)
    · show wrongE p q n F = 2
      exact wrong_in h2
    obtain ⟨hp, hq, e⟩ : p.In ∧ q.In ∧ wrongE p q n F = match !shortB p q with | true => 3 | false => 0 := wrong_go (F := F) h2 hb
    refine And.intro ⟨hp, hq⟩ ?_
    refine And.intro (fun h3 => ?_) (fun h3 => ?_)
    · have h3 : (!shortB p q) = true := h3
      show wrongE p q n F = 3
      rw [e, h3]
    · have h3 : (!shortB p q) = false := h3
      show wrongE p q n F = 0
      rw [e, h3]
noncomputable def conRWrong : Con cx := walkCon 24 Tryz.call24 (rds3 rdBodies rdVec rdVec) (fun (a : (Nat × (Nat → Body)) × Vec × Vec) => [a.1.1 ≤ 1000]) (fun a => .v (.int .i64 (wrongE a.2.1 a.2.2 a.1.1 a.1.2))) (fun _ => ⟨[], [], [2], 0⟩) [] (fun _ => rfl) follows Tryz.func24 (by kernel_rfl) RWrong_walk
end Go.Proofs.YtcojfohjdibjjaaGreatDoor
namespace Go.Proofs.YtcojfohjdibjjaaGreatDoor
open Go.RowKit

def iz : List SV := [.bl false, .v (.slice none 0 0)]
theorem sgn_lay {D V : Int} {B : Bool} {t : TypeId} (g : Sgn D V B) : some (SB.lay [.v (.bool (decide (0 < (lenI V : Int)) && B)), (natF V).ws] t) = some (SB.lay (zC D) t) := by
  unfold zC
  rw [g.2, g.1]
def opK (r : Int) (v : SV) (H : Heap) (_ : Nat) : Prop := v = .p 0 0 ∧ look H 0 = some (.lay (zC r) 89)
def opIs (F : FnI cx) (x y r : Int) : Prop := ev [conNAdd, conNSub, conNCmp] F.fn.ntmps 1 (inlD [conNAdd, conNSub, conNCmp] [] 0) (numsI ([] : List (FnI cx))) ⟨F.fl, F.cuts, F.invs, F.fu⟩ (codeOf F.fn) ⟨argSlots 0 [.p 0 0, zS x, zS y], [(0, .lay iz 89)], 1, 0, [], []⟩ (endK cx F.fn.results.toList (opK r))
theorem op_eff (F : FnI cx) (hb0 : F.fn.body = some (codeOf F.fn)) (hn0 : Nat.ble 3 F.fn.ntmps = true) (hc0 : codeB F.fl (codeOf F.fn) = true) {x y r : Int} (hw : opIs F x y r) {ρ : Names} {W : World} {H : Heap} {m : Nat} (hok : HOk cx H ρ W) (hl : look H m = some (.lay iz 89))
    {vs : List Value} (hv : denL ρ [.p m 0, zS x, zS y] vs) {nm : Nat} {ob : Option Prop} :
    Calls cx.P F.g vs.toArray W fun e' W' => ∃ val, e' = .returned val ∧ DPost cx ρ W nm ⟨ob, .p m 0, some (m, .lay (zC r) 89), false⟩ val W' := by
  obtain ⟨v1, r1, rfl, ⟨b, a1, rfl⟩, hv1⟩ := denL_cons hv
  obtain ⟨b2, u, c1, c2, c3, c4, c5⟩ := hok.blk m _ hl
  rw [a1] at c1
  obtain rfl := Option.some.inj c1
  have hOb : Owns ρ m b := .inl a1
  let ρ0 : Names := ⟨fun k => if k = 0 then some b else none, fun _ => none, fun _ _ => none, ρ.z, [], fun _ => False⟩
  have n0 : ρ0.n 0 = some b := by simp [ρ0]
  have nne : ∀ k b', ρ0.n k = some b' → k = 0 ∧ b' = b := fun k b' hk => by
    by_cases e : k = 0
    · subst e; rw [n0] at hk; exact ⟨rfl, (Option.some.inj hk).symm⟩
    · simp only [ρ0, if_neg e] at hk; cases hk
  have ow : ∀ k b', Owns ρ0 k b' → k = 0 ∧ b' = b := fun k b' ho => by
    rcases ho with h1 | ⟨e1, l1, o1, h1, h2, h3, h4⟩ | ⟨i1, l1, o1, h1, -⟩
    · exact nne _ _ h1
    · cases h1
    · cases h1
  have hok0 : HOk cx [(0, .lay iz 89)] ρ0 W := by
    refine ⟨⟨fun n n' b' h h' => by rw [(ow _ _ h).1, (ow _ _ h').1], fun n b' h => ?_, hok.hb.zok, hok.hb.grd⟩, fun k sb hk => ?_⟩
    · rw [(ow _ _ h).2]; exact hok.hb.low m b hOb
    · by_cases e : 0 = k
      · subst e
        obtain rfl := Option.some.inj (show some _ = some sb from hk)
        refine ⟨b, u, n0, ?_, c3, c4, c5⟩
        obtain ⟨x1, t1, rfl, rfl, q2⟩ := denL_cons c2
        obtain ⟨x2, t2, rfl, rfl, q3⟩ := denL_cons q2
        obtain rfl := denL_nil q3
        exact denL_cons_of rfl (denL_cons_of rfl rfl)
      · rw [look_cons_ne _ _ e] at hk; cases hk
  have hargs : denL ρ0 [.p 0 0, zS x, zS y] (.pointer (some ⟨b, 0, none⟩) :: r1) := by
    refine denL_cons_of ⟨b, n0, rfl⟩ ?_
    obtain ⟨x1, t1, rfl, w1, hv2⟩ := denL_cons hv1
    obtain ⟨x2, t2, rfl, w2, hv3⟩ := denL_cons hv2
    obtain rfl := denL_nil hv3
    exact denL_cons_of w1 (denL_cons_of w2 rfl)
  refine (calls_ev (w0 := W) (ρe := ρ0) (args := [.p 0 0, zS x, zS y]) ⟨F.fl, F.cuts, F.invs, F.fu⟩ (inlD_ok follows 0) follows F.hf (code := codeOf F.fn) hb0 hn0 hc0 hok0 (fun n b h => by obtain ⟨rfl, rfl⟩ := nne n b h; exact Nat.one_pos) (fun k l hk => by cases hk) (fun _ _ _ h => by cases h) hargs _ hw).mono ?_
  rintro e' W' ⟨v, val, H', nm', ρ', rfl, ⟨rfl, hl'⟩, hm, hc, hden⟩
  have n0' : ρ'.n 0 = some b := hm.le.n 0 b n0
  obtain ⟨b3, u', k1, k2, k3, k4, k5⟩ := hc 0 _ hl'
  rw [n0'] at k1
  obtain rfl := Option.some.inj k1
  have hmine : ∀ x, Mine ρ0 x → x = b := fun x hx => by
    rcases hx with ⟨k, hk⟩ | hk
    · exact (ow k x hk).2
    · exact hk.elim
  have hblk : ∀ x, x < W.heap.size → x ≠ b → W'.heap[x]? = W.heap[x]? := fun x hx hne => hm.keep.block x hx (fun hmn => hne (hmine x hmn))
  have hnz : ∀ x i c, ρ'.z x i c → ρ.z x i c ∨ W.heap.size ≤ x := fun x i c hz => by
    rcases hm.zold x i c hz with q | q | q
    · exact .inl q
    · exact .inr q
    · exact absurd hz (by
        rcases q with ⟨k, hk⟩ | hk
        · rw [(ow k x hk).2]; exact k5 i c
        · exact hk.elim)
  have lz : (ρ'.zo).le (ρ.addz ρ'.z).zo := ⟨fun _ _ h => (by cases h), fun _ _ h => (by cases h), fun _ _ _ h => (by cases h), fun x i c hz => (Or.inr hz : ρ.z x i c ∨ ρ'.z x i c)⟩
  refine ⟨val, rfl, ρ.addz ρ'.z, ⟨Names.le_addz, fun _ _ h => .inl h, fun _ _ h => .inl h, fun x i c hz => ?_, fun _ _ => rfl, hm.keep.os, hm.keep.tape, hm.keep.output, hm.keep.size, fun x hx hno => hblk x hx (fun e => hno m rfl (by rw [e]; exact hOb)), ⟨hok.hb.own, fun k x hk => ⟨(hok.hb.low k x hk).1, Nat.lt_of_lt_of_le (hok.hb.low k x hk).2 hm.keep.size⟩, fun x i c hz => ?_, hm.hb.grd⟩⟩, fun k sb hk => ?_, ?_⟩
  · rcases hz with hz | hz
    · exact .inl hz
    · exact hnz x i c hz
  · rcases hz with hz | hz
    · have hz0 := hok.hb.zok x i c hz
      have hne : x ≠ b := fun e => c5 i c (by rw [← e]; exact hz)
      have hx := cell_lt hz0.1
      exact ⟨(cell_of_heap (hblk x hx hne)).trans hz0.1, zc_heap (hblk x hx hne) hz0.2⟩
    · exact hm.hb.zok x i c hz
  · obtain ⟨rfl, rfl⟩ := Prod.mk.inj (Option.some.inj hk)
    refine ⟨b, u', a1, ?_, k3, k4, fun i c hz => ?_⟩
    · obtain ⟨x1, t1, rfl, rfl, q2⟩ := denL_cons k2
      obtain ⟨x2, t2, rfl, ⟨a, cap, e1, e2, e3⟩, q3⟩ := denL_cons q2
      obtain rfl := denL_nil q3
      refine denL_cons_of rfl (denL_cons_of ⟨a, cap, e1, e2, fun i hi => ?_⟩ rfl)
      obtain ⟨b', o, us, g1, g2, g3, g4⟩ := e3 i hi
      exact ⟨b', o, us, g1, denL_le lz _ _ g2, g3, fun k c hc => .inr (g4 k c hc)⟩
    · rcases hz with hz | hz
      · exact c5 i c hz
      · exact k5 i c hz
  · obtain ⟨b4, e1, e2⟩ := hden
    rw [n0'] at e1
    obtain rfl := Option.some.inj e1
    exact ⟨b, a1, e2⟩
set_option maxHeartbeats 4000000 in
set_option maxRecDepth 8000 in
theorem IAdd_walk {x y : Int} (hx : Bw 300 x) (hy : Bw 300 y) : opIs inAdd x y (x + y) := by
  refine And.intro (fun h1 => ?_) (fun h1 => ?_)
  · have h1 : (decide (x < 0) == decide (y < 0)) = true := h1
    refine And.intro ⟨fun _ _ => trivial, fun _ _ => trivial, rfl, (hx.nat (by decide)), (hy.nat (by decide))⟩ ?_
    have g : Sgn (x + y) _ _ := add1 (X := x) (Y := y) h1 rfl
    exact ⟨rfl, sgn_lay g⟩
  have h1 : (decide (x < 0) == decide (y < 0)) = false := h1
  refine And.intro ⟨fun _ _ => trivial, fun _ _ => trivial, (hx.nat (by decide)), (hy.nat (by decide))⟩ ?_
  refine And.intro (fun h2 => ?_) (fun h2 => ?_)
  · have h2 : 0 ≤ cmpI (natF (x).natAbs).val (natF (y).natAbs).val := of_decide_eq_true h2
    refine And.intro ⟨fun _ _ => trivial, fun _ _ => trivial, rfl, (hx.nat (by decide)), (hy.nat (by decide)), cmp_ge h2⟩ ?_
    have g : Sgn (x + y) _ _ := add2 (X := x) (Y := y) h1 h2 rfl
    exact ⟨rfl, sgn_lay g⟩
  · have h2 : ¬ 0 ≤ cmpI (natF (x).natAbs).val (natF (y).natAbs).val := of_decide_eq_false h2
    refine And.intro ⟨fun _ _ => trivial, fun _ _ => trivial, rfl, (hy.nat (by decide)), (hx.nat (by decide)), cmp_le h2⟩ ?_
    have g : Sgn (x + y) _ _ := add3 (X := x) (Y := y) h1 h2 rfl
    exact ⟨rfl, sgn_lay g⟩
set_option maxHeartbeats 4000000 in
set_option maxRecDepth 8000 in
theorem ISub_walk {x y : Int} (hx : Bw 300 x) (hy : Bw 300 y) : opIs inSub x y (x - y) := by
  refine And.intro (fun h1 => ?_) (fun h1 => ?_)
  · have h1 : (decide (x < 0) != decide (y < 0)) = true := h1
    refine And.intro ⟨fun _ _ => trivial, fun _ _ => trivial, rfl, (hx.nat (by decide)), (hy.nat (by decide))⟩ ?_
    have g : Sgn (x - y) _ _ := sub1 (X := x) (Y := y) h1 rfl
    exact ⟨rfl, sgn_lay g⟩
  have h1 : (decide (x < 0) != decide (y < 0)) = false := h1
  refine And.intro ⟨fun _ _ => trivial, fun _ _ => trivial, (hx.nat (by decide)), (hy.nat (by decide))⟩ ?_
  refine And.intro (fun h2 => ?_) (fun h2 => ?_)
  · have h2 : 0 ≤ cmpI (natF (x).natAbs).val (natF (y).natAbs).val := of_decide_eq_true h2
    refine And.intro ⟨fun _ _ => trivial, fun _ _ => trivial, rfl, (hx.nat (by decide)), (hy.nat (by decide)), cmp_ge h2⟩ ?_
    have g : Sgn (x - y) _ _ := sub2 (X := x) (Y := y) h1 h2 rfl
    exact ⟨rfl, sgn_lay g⟩
  · have h2 : ¬ 0 ≤ cmpI (natF (x).natAbs).val (natF (y).natAbs).val := of_decide_eq_false h2
    refine And.intro ⟨fun _ _ => trivial, fun _ _ => trivial, rfl, (hy.nat (by decide)), (hx.nat (by decide)), cmp_le h2⟩ ?_
    have g : Sgn (x - y) _ _ := sub3 (X := x) (Y := y) h1 h2 rfl
    exact ⟨rfl, sgn_lay g⟩
def IAddG (H : Heap) (_ : Nat) : List SV → Option DR
  | [.p m 0, a, c] => match look H m with
    | some (.lay [.bl false, .v (.slice none 0 0)] t) => match Nat.beq t 89 with
      | true => some ⟨some (a = zS (zV a) ∧ c = zS (zV c) ∧ Bw 300 (zV a) ∧ Bw 300 (zV c)), .p m 0, some (m, .lay (zC (zV a + zV c)) 89), false⟩
      | false => none
    | _ => none
  | _ => none
set_option maxRecDepth 100000 in
noncomputable def conIAdd : Con cx where
  f := 53
  e := inAdd.g
  en := Tryz.call53
  run := fun _ => none
  fresh := false
  own := none
  eff := some IAddG
  ok := fun ze W args vs ob out hG hz hd hr ho => by cases hr
  effOk := fun g hg ρ W H nm args vs r hok hfr hd hr ho => by
    obtain rfl := Option.some.inj hg
    unfold IAddG at hr
    split at hr
    · rename_i m a c
      split at hr
      · rename_i t hl
        split at hr
        · rename_i hb
          obtain rfl := Option.some.inj hr
          obtain rfl := Nat.eq_of_beq_eq_true hb
          obtain ⟨ha, hc, hx, hy⟩ : a = zS (zV a) ∧ c = zS (zV c) ∧ Bw 300 (zV a) ∧ Bw 300 (zV c) := ho
          rw [ha, hc] at hd
          exact op_eff inAdd (by kernel_rfl) (by kernel_rfl) (by kernel_rfl) (IAdd_walk hx hy) hok hl hd
        · cases hr
      · cases hr
    · cases hr
def ISubG (H : Heap) (_ : Nat) : List SV → Option DR
  | [.p m 0, a, c] => match look H m with
    | some (.lay [.bl false, .v (.slice none 0 0)] t) => match Nat.beq t 89 with
      | true => some ⟨some (a = zS (zV a) ∧ c = zS (zV c) ∧ Bw 300 (zV a) ∧ Bw 300 (zV c)), .p m 0, some (m, .lay (zC (zV a - zV c)) 89), false⟩
      | false => none
    | _ => none
  | _ => none
set_option maxRecDepth 100000 in
noncomputable def conISub : Con cx where
  f := 55
  e := inSub.g
  en := Tryz.call55
  run := fun _ => none
  fresh := false
  own := none
  eff := some ISubG
  ok := fun ze W args vs ob out hG hz hd hr ho => by cases hr
  effOk := fun g hg ρ W H nm args vs r hok hfr hd hr ho => by
    obtain rfl := Option.some.inj hg
    unfold ISubG at hr
    split at hr
    · rename_i m a c
      split at hr
      · rename_i t hl
        split at hr
        · rename_i hb
          obtain rfl := Option.some.inj hr
          obtain rfl := Nat.eq_of_beq_eq_true hb
          obtain ⟨ha, hc, hx, hy⟩ : a = zS (zV a) ∧ c = zS (zV c) ∧ Bw 300 (zV a) ∧ Bw 300 (zV c) := ho
          rw [ha, hc] at hd
          exact op_eff inSub (by kernel_rfl) (by kernel_rfl) (by kernel_rfl) (ISub_walk hx hy) hok hl hd
        · cases hr
      · cases hr
    · cases hr
end Go.Proofs.YtcojfohjdibjjaaGreatDoor
