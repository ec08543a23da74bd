/- Hits: the walk. -/
import Derived.Test.YtcbpajkgmpibgaaC13
namespace Go.Proofs.Ytcbpajkgmpibgaa
open Go.RowKit

set_option maxHeartbeats 20000000 in
set_option maxRecDepth 8000 in
theorem hits_ev (I : Inl) (n : Nat) (F : Nat → Body) (p q : Vec) (hI : p.In → q.In → shortB p q = true → (∀ i, i < n → (F i).ok = true) → (idsK F p q n).length ≤ 20 → SortI F p q n I) (hn : hitsErr n F p q = 0 → (idsK F p q n).length ≤ 20) (hn1 : (n : Int) ≤ 1000000) :
    evC gH I inH ⟨[], [], [2, 14], 0⟩ Try.f13 (((rds3 rdBodies rdVec rdVec)).enc ((n, F), p, q)) [] 0 fun v H _ => resOutF (.tup [.rs 1 (hitsE n F p q).length (cellsI (hitsE n F p q)), .v (.int .i64 (hitsErr n F p q))]) H v := by
  refine Exists.intro (hitCut1 n F p q) ?_
  refine And.intro ?_ ?_
  · refine ⟨(1 : Nat), [], [], trivial, ⟨Nat.le_refl 1, (by omega : 1 ≤ max n 1), rfl⟩, ?_⟩
    repeat' (first | (refine And.intro ?_ ?_) | (intro _) | exact rfl)
  refine fun (k : Nat) (hk : 1 ≤ k ∧ k ≤ max n 1 ∧ unsN F 1 (n - 1) = unsN F k (n - k)) => ?_
  obtain ⟨k0, k1, k2⟩ := hk
  refine And.intro (fun hb => ?_) (fun hb => ?_)
  · have hb : (k : Int) < n := of_decide_eq_true hb
    have e := unsN_step (F := F) (k := k) (n := n) (by omega)
    refine And.intro (⟨by omega, by omega⟩ : 0 ≤ (k : Int) ∧ (k : Int) < n) ?_
    refine And.intro (by unfold I64; omega : I64 ((k : Int) - 1)) ?_
    refine And.intro (⟨by omega, by omega⟩ : 0 ≤ (k : Int) - 1 ∧ (k : Int) - 1 < n) ?_
    have ek : ((k : Int) - 1).toNat = k - 1 := by omega
    refine And.intro (fun hc => ?_) (fun hc => ?_)
    · have hc : decide ((F k).iD ≤ (F ((k : Int) - 1).toNat).iD) = true := hc
      rw [ek] at hc
      rw [hc] at e
      have he : hitsErr n F p q = 2 := by unfold hitsErr; rw [k2, e]
      have hl : hitsE n F p q = [] := by unfold hitsE; rw [he]; rfl
      simp only [he, hl]
      repeat' (first | (refine And.intro ?_ ?_) | (intro _) | exact rfl)
    · have hc : decide ((F k).iD ≤ (F ((k : Int) - 1).toNat).iD) = false := hc
      rw [ek] at hc
      rw [hc] at e
      refine And.intro (by unfold I64; omega : I64 ((k : Int) + 1)) ?_
      refine ⟨k + 1, [], [], (by show n - (k + 1) < n - k; omega), ⟨(by omega : 1 ≤ k + 1), (by omega : k + 1 ≤ max n 1), k2.trans e⟩, ?_⟩
      repeat' (first | (refine And.intro ?_ ?_) | (intro _) | exact rfl)
  have hb : ¬ (k : Int) < n := of_decide_eq_false hb
  have hu : unsN F 1 (n - 1) = false := by rw [k2, show n - k = 0 by omega]; rfl
  refine And.intro (fun hc => ?_) (fun hc => ?_)
  · have hc : decide (64 < (n : Int)) = true := hc
    have he : hitsErr n F p q = 2 := by unfold hitsErr; rw [hu, hc]
    have hl : hitsE n F p q = [] := by unfold hitsE; rw [he]; rfl
    simp only [he, hl]
    repeat' (first | (refine And.intro ?_ ?_) | (intro _) | exact rfl)
  have hc : decide (64 < (n : Int)) = false := hc
  have h64 : (n : Int) ≤ 64 := by have := of_decide_eq_false hc; omega
  refine And.intro ⟨fun _ _ => trivial, (by omega : (n : Int) ≤ 1000000)⟩ ?_
  refine And.intro (fun hd => ?_) (fun hd => ?_)
  · have hd : decide (¬ wrongE p q n F = 0) = true := hd
    have he : hitsErr n F p q = wrongE p q n F := by unfold hitsErr; rw [hu, hc]
    have hl : hitsE n F p q = [] := by unfold hitsE; rw [he, hd]
    simp only [he, hl]
    repeat' (first | (refine And.intro ?_ ?_) | (intro _) | exact rfl)
  have hd : decide (¬ wrongE p q n F = 0) = false := hd
  have hw : wrongE p q n F = 0 := by simpa using hd
  obtain ⟨ip, iq, hok, hs⟩ := wrongE_ok hw
  have he : hitsErr n F p q = 0 := by unfold hitsErr; rw [hu, hc, hw]
  have hl : hitsE n F p q = hitsL n F p q := by unfold hitsE; rw [he]; rfl
  simp only [he, hl]
  refine Exists.intro (hitCut2 n F p q) ?_
  refine And.intro ?_ ?_
  · refine ⟨(0 : Nat), [], [.slot2 11 1 3], trivial, Nat.zero_le _, ?_⟩
    repeat' (first | (refine And.intro ?_ ?_) | (intro _) | exact rfl)
    all_goals exact absurd ‹_ < 0› (Nat.not_lt_zero _)
  refine fun (k : Nat) (hk : k ≤ n) => ?_
  refine And.intro (fun hb => ?_) (fun hb => ?_)
  · have hb : (k : Int) < n := of_decide_eq_true hb
    refine And.intro (⟨by omega, by omega⟩ : 0 ≤ (k : Int) ∧ (k : Int) < n) ?_
    refine And.intro ⟨hok k (by omega), ip, iq, hs⟩ ?_
    refine And.intro (fun hm => ?_) (fun hm => ?_)
    · have hm : metB F p q k = true := hm
      have hlen := idsK_len (F := F) (p := p) (q := q) k
      have hfit : fitO ((idsK F p q k).length + 1) 8 := ⟨Nat.le_trans (by omega : (idsK F p q k).length + 1 ≤ 1000) (by decide), by omega⟩
      refine And.intro (fun j => ⟨rfl, rfl, rfl, trivial⟩) ?_
      refine And.intro ⟨hfit, fun _ _ _ => ⟨rfl, trivial⟩⟩ ?_
      refine And.intro (by unfold I64; omega : I64 ((k : Int) + 1)) ?_
      refine ⟨k + 1, [(5, 9)], [], (by show n - (k + 1) < n - k; omega), (by omega : k + 1 ≤ n), ?_⟩
      repeat' (first | (refine And.intro ?_ ?_) | (intro _) | exact rfl)
      all_goals first | exact idsK_yes_len hm | exact hasK_yes hm _ | exact plK_n hm _ | exact plK_s hm _ | exact plK_m hm _ | exact idsK_yes_get hm ‹_›
    · have hm : metB F p q k = false := hm
      refine And.intro (by unfold I64; omega : I64 ((k : Int) + 1)) ?_
      refine ⟨k + 1, [], [], (by show n - (k + 1) < n - k; omega), (by omega : k + 1 ≤ n), ?_⟩
      repeat' (first | (refine And.intro ?_ ?_) | (intro _) | exact rfl)
      all_goals first | exact congrArg List.length (idsK_nay hm) | exact hasK_nay hm _ | exact congrArg Plc.n (plK_nay hm _) | exact congrArg Plc.s (plK_nay hm _) | exact congrArg Plc.m (plK_nay hm _) | exact congrArg (fun l => List.getD l _ 0) (idsK_nay hm)
  have hb : ¬ (k : Int) < n := of_decide_eq_false hb
  obtain rfl : k = n := by omega
  have hlen := idsK_len (F := F) (p := p) (q := q) k
  refine hI ip iq hs hok (hn he) _ ?_
  refine And.intro (fun _ _ => rfl) ?_
  refine And.intro (sortL_len _) ?_
  refine And.intro (fun i _ => (congrArg (fun m => (hitsL k F p q).getD m 0) (Nat.zero_add i).symm)) rfl
/-- Hits: of IDs in order; at most 20 of the bodies are met. -/
noncomputable def conHits : Con cx := walkConF 13 Try.call13 (rds3 rdBodies rdVec rdVec) (fun a => [(a.1.1 : Int) ≤ 1000000, hitsErr a.1.1 a.1.2 a.2.1 a.2.2 = 0 → (idsK a.1.2 a.2.1 a.2.2 a.1.1).length ≤ 20]) (fun a => .tup [.rs 1 (hitsE a.1.1 a.1.2 a.2.1 a.2.2).length (cellsI (hitsE a.1.1 a.1.2 a.2.1 a.2.2)), .v (.int .i64 (hitsErr a.1.1 a.1.2 a.2.1 a.2.2))]) (fun _ => ⟨[], [], [2, 14], 0⟩) [] (fun _ => rfl) follows Try.func13 (by kernel_rfl)
  fun ⟨⟨n, F⟩, p, q⟩ ⟨h1, h2⟩ => hits_ev (inlD gH fsH 4) n F p q (fun ip iq hs hok hl => sort_inl ip iq hs hok hl) h2 h1
end Go.Proofs.Ytcbpajkgmpibgaa
