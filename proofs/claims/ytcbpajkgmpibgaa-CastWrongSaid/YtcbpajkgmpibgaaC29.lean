/- CastWrong: First; the cases. -/
import Derived.Test.YtcbpajkgmpibgaaC25
namespace Go.Proofs.Ytcbpajkgmpibgaa
open Go.RowKit

def firstE (n : Nat) (F : Nat → Body) (p q : Vec) : Int × Int := match decide (hitsErr n F p q = 0) && decide (((hitsE n F p q).length : Int) = 0) with
  | true => (0, 6)
  | false => match decide (¬ hitsErr n F p q = 0) with
    | true => (0, hitsErr n F p q)
    | false => ((hitsE n F p q).getD 0 0, 0)
set_option maxHeartbeats 4000000 in
set_option maxRecDepth 8000 in
theorem First_walk : ∀ a, conj ((fun (a : (Nat × (Nat → Body)) × Vec × Vec) => [(a.1.1 : Int) ≤ 1000000, hitsErr a.1.1 a.1.2 a.2.1 a.2.2 = 0 → (idsK a.1.2 a.2.1 a.2.2 a.1.1).length ≤ 20]) a) → evFn (C := cx) [conHits] [] 0 noHow Try.f30 (((rds3 rdBodies rdVec rdVec)).enc a) fun v H _ => resOut ((fun (a : (Nat × (Nat → Body)) × Vec × Vec) => .tup [.v (.int .i64 (firstE a.1.1 a.1.2 a.2.1 a.2.2).1), .v (.int .i64 (firstE a.1.1 a.1.2 a.2.1 a.2.2).2)]) a) H v := by
  intro ⟨⟨n, F⟩, p, q⟩ ⟨h1, h2⟩
  replace h1 : (n : Int) ≤ 1000000 := h1
  replace h2 : hitsErr n F p q = 0 → (idsK F p q n).length ≤ 20 := h2
  refine And.intro ⟨fun _ _ => trivial, h1, h2⟩ ?_
  refine And.intro (fun hc => ?_) (fun hc => ?_)
  · have hc : (decide (hitsErr n F p q = 0) && decide (((hitsE n F p q).length : Int) = 0)) = true := hc
    have he : firstE n F p q = (0, 6) := by unfold firstE; rw [hc]
    simp only [he]
    repeat' (first | (refine And.intro ?_ ?_) | (intro _) | exact rfl)
  · have hc : (decide (hitsErr n F p q = 0) && decide (((hitsE n F p q).length : Int) = 0)) = false := hc
    refine And.intro (fun hd => ?_) (fun hd => ?_)
    · have hd : decide (¬ hitsErr n F p q = 0) = true := hd
      have he : firstE n F p q = (0, hitsErr n F p q) := by unfold firstE; rw [hc, hd]
      simp only [he]
      repeat' (first | (refine And.intro ?_ ?_) | (intro _) | exact rfl)
    · have hd : decide (¬ hitsErr n F p q = 0) = false := hd
      have he : firstE n F p q = ((hitsE n F p q).getD 0 0, 0) := by unfold firstE; rw [hc, hd]
      have h0 : hitsErr n F p q = 0 := by simpa using hd
      have hlen : 0 < (hitsE n F p q).length := by
        rw [h0] at hc
        simp at hc
        exact Nat.pos_of_ne_zero fun e => hc (List.length_eq_zero_iff.1 e)
      simp only [he]
      refine And.intro (⟨by decide, by omega⟩ : (0 : Int) ≤ 0 ∧ (0 : Int) < (hitsE n F p q).length) ?_
      repeat' (first | (refine And.intro ?_ ?_) | (intro _) | exact rfl)
noncomputable def conFirst : Con cx := walkCon 30 Try.call30 (rds3 rdBodies rdVec rdVec) (fun (a : (Nat × (Nat → Body)) × Vec × Vec) => [(a.1.1 : Int) ≤ 1000000, hitsErr a.1.1 a.1.2 a.2.1 a.2.2 = 0 → (idsK a.1.2 a.2.1 a.2.2 a.1.1).length ≤ 20]) (fun (a : (Nat × (Nat → Body)) × Vec × Vec) => .tup [.v (.int .i64 (firstE a.1.1 a.1.2 a.2.1 a.2.2).1), .v (.int .i64 (firstE a.1.1 a.1.2 a.2.1 a.2.2).2)]) (fun _ => noHow) [] (fun _ => rfl) follows Try.func30 (by kernel_rfl) First_walk
/-- A case. -/
structure Cs where
  b : Body
  p : Vec
  q : Vec
  e : Int
def Cs.cells (c : Cs) : List SV := c.b.cells ++ (c.p.cells ++ (c.q.cells ++ [.v (.int .i64 c.e)]))
def zV : Vec := ⟨0, 0⟩
def b5 : Body := ballB 99 0 0 5
def nilB : Body := ⟨0, 0, 0, 0, 0, 0, 0, false, false⟩
def farV (a : Bool) : Vec := bif a then ⟨5, -8193⟩ else ⟨8193, 0⟩
def wrC (low high : Int) (far : Vec) : Nat → Cs
  | 0 => ⟨b5, zV, far, 3⟩
  | 1 => ⟨b5, far, zV, 3⟩
  | 2 => ⟨b5, ⟨low, 0⟩, zV, 2⟩
  | 3 => ⟨b5, zV, ⟨0, high⟩, 2⟩
  | 4 => ⟨nilB, zV, far, 2⟩
  | 5 => ⟨ballB 99 0 0 0, zV, zV, 2⟩
  | _ => ⟨ballB 99 9 9 1, zV, zV, 6⟩
theorem inB_low {low : Int} (h : low ≤ -2097153) : Vec.inB ⟨low, 0⟩ = false := by
  unfold Vec.inB
  simp only [Bool.and_eq_false_iff, decide_eq_false_iff_not]
  omega
theorem inB_high {high : Int} (h : 2097153 ≤ high) : Vec.inB ⟨0, high⟩ = false := by
  unfold Vec.inB
  simp only [Bool.and_eq_false_iff, decide_eq_false_iff_not]
  omega
theorem inB_highx {high : Int} (h : 2097153 ≤ high) : Vec.inB ⟨high, 0⟩ = false := by
  unfold Vec.inB
  simp only [Bool.and_eq_false_iff, decide_eq_false_iff_not]
  omega
theorem wrong_p {p q : Vec} {n : Nat} {F : Nat → Body} (h : p.inB = false) : wrongE p q n F = 2 := by unfold wrongE; rw [h]; rfl
theorem wrong_q {p q : Vec} {n : Nat} {F : Nat → Body} (h0 : p.inB = true) (h : q.inB = false) : wrongE p q n F = 2 := by unfold wrongE; rw [h0, h]; rfl
theorem wrong_b {p q : Vec} {n : Nat} {F : Nat → Body} (h0 : p.inB = true) (h1 : q.inB = true) (h : badN F 0 n = true) : wrongE p q n F = 2 := by unfold wrongE; rw [h0, h1, h]; rfl
theorem wrong_s {p q : Vec} {n : Nat} {F : Nat → Body} (h0 : p.inB = true) (h1 : q.inB = true) (h : badN F 0 n = false) (h2 : shortB p q = false) : wrongE p q n F = 3 := by unfold wrongE; rw [h0, h1, h, h2]; rfl
theorem badN_yes {F : Nat → Body} : ∀ {r k i : Nat}, k ≤ i → i < k + r → (F i).ok = false → badN F k r = true
  | 0, k, i, h1, h2, _ => by omega
  | r + 1, k, i, h1, h2, h3 => by
    simp only [badN]
    split
    · rfl
    · rename_i hk
      refine badN_yes (i := i) ?_ (by omega) h3
      rcases Nat.eq_or_lt_of_le h1 with rfl | h
      · rw [h3] at hk; cases hk
      · omega
theorem ne2 : ¬ (2 : Int) = 0 := by decide
theorem ne3 : ¬ (3 : Int) = 0 := by decide
/-- What all say of a case. -/
structure CsOk (c : Cs) : Prop where
  part : partE c.b c.p c.q = (0, c.e)
  before : beforeE c.b b5 c.p c.q = (0, c.e)
  meets : meetsB c.b c.p c.q = false
theorem cs_wrong {c : Cs} (h1 : wrongE c.p c.q 1 (oneB c.b) = c.e) (h2 : wrongE c.p c.q 2 (twoB c.b b5) = c.e) (h : ¬ c.e = 0) : CsOk c := by
  refine ⟨?_, ?_, ?_⟩
  · unfold partE; rw [h1, decide_eq_true h]
  · unfold beforeE; rw [h2, decide_eq_true h]
  · unfold meetsB; rw [h1, decide_eq_true h]
theorem cs_ok {low high : Int} {a : Bool} (hl : low ≤ -2097153) (hh : 2097153 ≤ high) : ∀ {k : Nat}, k < 7 → CsOk (wrC low high (farV a) k)
  | 0, _ => by cases a <;> exact cs_wrong (by kernel_rfl) (by kernel_rfl) ne3
  | 1, _ => by cases a <;> exact cs_wrong (by kernel_rfl) (by kernel_rfl) ne3
  | 2, _ => cs_wrong (c := ⟨b5, ⟨low, 0⟩, zV, 2⟩) (wrong_p (inB_low hl)) (wrong_p (inB_low hl)) ne2
  | 3, _ => cs_wrong (c := ⟨b5, zV, ⟨0, high⟩, 2⟩) (wrong_q rfl (inB_high hh)) (wrong_q rfl (inB_high hh)) ne2
  | 4, _ => by cases a <;> exact cs_wrong (by kernel_rfl) (by kernel_rfl) ne2
  | 5, _ => cs_wrong (c := ⟨ballB 99 0 0 0, zV, zV, 2⟩) (by kernel_rfl) (by kernel_rfl) ne2
  | 6, _ => ⟨by kernel_rfl, by kernel_rfl, by kernel_rfl⟩
/-- The bodies, and one more. -/
def apB (m : Nat) (F : Nat → Form) (b : Body) : Nat → Body := fun i => Body.of (.agg (appF m (fun i => (madeB i (F i)).cells) (fun _ => b.cells) (0 + i)))
theorem apB_lt {m : Nat} {F : Nat → Form} {b : Body} {i : Nat} (h : i < m) : apB m F b i = madeB i (F i) := by
  unfold apB appF
  rw [Nat.zero_add, show Nat.ble m i = false by cases hb : Nat.ble m i with | false => rfl | true => exact absurd (Nat.le_of_ble_eq_true hb) (by omega)]
  rfl
theorem apB_eq {m : Nat} {F : Nat → Form} {b : Body} : apB m F b m = b := by
  unfold apB appF
  rw [Nat.zero_add, show Nat.ble m m = true from Nat.ble_eq_true_of_le (Nat.le_refl m)]
  rfl
theorem hits_wrong {n : Nat} {F : Nat → Body} {p q : Vec} {e : Int} (he : ¬ e = 0) (h : hitsErr n F p q = e) : hitsE n F p q = [] := by unfold hitsE; rw [h, decide_eq_true he]
theorem hits_2 {n : Nat} {F : Nat → Body} {p q : Vec} (hn : n ≤ 64) (h : wrongE p q n F = 2) : hitsErr n F p q = 2 := by
  unfold hitsErr
  rw [decide_eq_false (by omega), h]
  split <;> rfl
theorem cs_hits {low high : Int} {a : Bool} {m : Nat} {F : Nat → Form} (hl : low ≤ -2097153) (hh : 2097153 ≤ high) (hm : m ≤ 20) (hok : ∀ i, i < m → (madeB i (F i)).ok = true) : ∀ {k : Nat}, k < 7 →
    (¬ (wrC low high (farV a) k).e = 6 → hitsErr (m + 1) (apB m F (wrC low high (farV a) k).b) (wrC low high (farV a) k).p (wrC low high (farV a) k).q = (wrC low high (farV a) k).e ∧ hitsE (m + 1) (apB m F (wrC low high (farV a) k).b) (wrC low high (farV a) k).p (wrC low high (farV a) k).q = []) ∧
    (hitsErr (m + 1) (apB m F (wrC low high (farV a) k).b) (wrC low high (farV a) k).p (wrC low high (farV a) k).q = 0 → (idsK (apB m F (wrC low high (farV a) k).b) (wrC low high (farV a) k).p (wrC low high (farV a) k).q (m + 1)).length ≤ 20) := by
  have both : ∀ {c : Cs}, ¬ c.e = 0 → hitsErr (m + 1) (apB m F c.b) c.p c.q = c.e → (¬ c.e = 6 → hitsErr (m + 1) (apB m F c.b) c.p c.q = c.e ∧ hitsE (m + 1) (apB m F c.b) c.p c.q = []) ∧ (hitsErr (m + 1) (apB m F c.b) c.p c.q = 0 → (idsK (apB m F c.b) c.p c.q (m + 1)).length ≤ 20) := fun h1 h2 => ⟨fun _ => ⟨h2, hits_wrong h1 h2⟩, fun c => absurd (h2.symm.trans c) h1⟩
  have far1 : Vec.inB (farV a) = true := by cases a <;> rfl
  have good : ∀ {b : Body}, b.ok = true → badN (apB m F b) 0 (m + 1) = false := fun hb => badN_of fun i _ hi => by
    rcases Nat.lt_or_ge i m with h | h
    · rw [apB_lt h]; exact hok i h
    · rw [show i = m by omega, apB_eq]; exact hb
  have inc : ∀ {b : Body}, b.iD = 99 → unsN (apB m F b) 1 (m + 1 - 1) = false := fun hb => unsN_of fun i h1 h2 => by
    rcases Nat.lt_or_ge i m with h | h
    · rw [apB_lt h, apB_lt (by omega)]; simp only [madeB]; omega
    · rw [show i = m by omega, apB_eq, hb, apB_lt (by omega)]; simp only [madeB]; omega
  have bad : ∀ {b : Body}, b.ok = false → badN (apB m F b) 0 (m + 1) = true := fun hb => badN_yes (i := m) (Nat.zero_le _) (by omega) (by rw [apB_eq]; exact hb)
  have h3 : ∀ {c : Cs}, c.b = b5 → c.e = 3 → c.p.inB = true → c.q.inB = true → shortB c.p c.q = false → hitsErr (m + 1) (apB m F c.b) c.p c.q = c.e := fun e1 e2 e3 e4 e5 => by
    unfold hitsErr
    rw [e1, inc rfl, decide_eq_false (by omega), e2]
    exact wrong_s e3 e4 (good (by kernel_rfl)) e5
  intro k hk
  match k, hk with
  | 0, _ => exact both (c := ⟨b5, zV, farV a, 3⟩) ne3 (h3 (c := ⟨b5, zV, farV a, 3⟩) rfl rfl rfl far1 (by cases a <;> rfl))
  | 1, _ => exact both (c := ⟨b5, farV a, zV, 3⟩) ne3 (h3 (c := ⟨b5, farV a, zV, 3⟩) rfl rfl far1 rfl (by cases a <;> rfl))
  | 2, _ => exact both (c := ⟨b5, ⟨low, 0⟩, zV, 2⟩) ne2 (hits_2 (by omega) (wrong_p (inB_low hl)))
  | 3, _ => exact both (c := ⟨b5, zV, ⟨0, high⟩, 2⟩) ne2 (hits_2 (by omega) (wrong_q rfl (inB_high hh)))
  | 4, _ => exact both (c := ⟨nilB, zV, farV a, 2⟩) ne2 (hits_2 (by omega) (wrong_b rfl far1 (bad (by kernel_rfl))))
  | 5, _ => exact both (c := ⟨ballB 99 0 0 0, zV, zV, 2⟩) ne2 (hits_2 (by omega) (wrong_b rfl rfl (bad (by kernel_rfl))))
  | 6, _ =>
    refine ⟨fun c => absurd rfl c, fun _ => ?_⟩
    have hmet : metB (apB m F (ballB 99 9 9 1)) zV zV m = false := by
      unfold metB
      rw [apB_eq]
      kernel_rfl
    show (idsK (apB m F (ballB 99 9 9 1)) zV zV (m + 1)).length ≤ 20
    rw [idsK_nay hmet]
    exact Nat.le_trans (idsK_len m) hm
/-- The checks behind the loop. -/
theorem bad_pt {n : Nat} {F : Nat → Area} {p : Vec} (h : p.inB = false) : insideR n F p = 2 := by
  unfold insideR badB
  have : anyN (fun i => !(oneV p i).inB) 0 1 = true := by
    simp only [anyN, oneV, h, Bool.not_false]
  rw [this, Bool.or_true]
theorem bad_ar {n : Nat} {F : Nat → Area} {p q : Vec} (hn : 0 < n) (h : (F 0).ok = false) : crossR n F p q = 2 := by
  unfold crossR badB
  have : anyN (fun i => !(F i).ok) 0 n = true := by
    obtain ⟨m, rfl⟩ : ∃ m, n = m + 1 := ⟨n - 1, by omega⟩
    simp only [anyN, h, Bool.not_false]
  rw [this, Bool.or_true, Bool.true_or]
end Go.Proofs.Ytcbpajkgmpibgaa
