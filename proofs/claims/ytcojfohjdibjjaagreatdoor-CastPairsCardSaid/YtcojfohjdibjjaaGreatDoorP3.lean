/- Natural numbers: products, place by place. Natural numbers: products. Natural numbers: products, squares. Natural numbers: squares. -/
import Derived.Test.YtcojfohjdibjjaaGreatDoorP2
import Derived.Test.YtcojfohjdibjjaaGreatDoorP1
namespace Go.Proofs.YtcojfohjdibjjaaGreatDoor
open Go.RowKit

/-- The word of place j. -/
def wF (h : Nat → List SV) (j : Nat) : Int := (hdS (h j)).iv
structure AmPre (off off2 n n2 k N : Nat) (a d : Int) (h y : Nat → List SV) : Prop where
  o : off2 = off
  m : n2 = n
  kn : k = n
  a0 : a = 0
  wd : Wrd d
  nN : N ≤ 1000
  le : off + n ≤ N
  n0 : 0 < n
  hf : ∀ j, j < N → h j = [u64 (wF h j)]
  hw : Words (wF h) N
  yf : ∀ j, j < n → y j = [u64 (wF y j)]
  yw : Words (wF y) n
def all10 (a b c d e f g h i : Bool) : Bool := a && (b && (c && (d && (e && (f && (g && (h && i)))))))
def amG (H : Heap) (_ : Nat) : List SV → Option DR
  | [.g m e sz off n, .g m2 e2 sz2 off2 n2, .rs sz3 k y, dv, av] => match look H m, dv.int?, av.int? with
    | some (.lst e' sz' N h ty), some (kd, d), some (ka, a) => match all10 (Nat.beq m m2) (Nat.beq e e2) (Nat.beq e e') (Nat.beq sz 1) (Nat.beq sz2 1) (Nat.beq sz3 1) (Nat.beq sz' 1) (sameK kd .u64) (sameK ka .u64), Nat.beq ty 115 with
      | true, true => some ⟨some (AmPre off off2 n n2 k N a d h y), u64 (amC (fun j => wF h (off + j)) (wF y) d n), some (m, .lst e 1 N (fun j => [u64 (amS off n (amL (fun j => wF h (off + j)) (wF y) d) (wF h) j)]) 115), false⟩
      | _, _ => none
    | _, _, _ => none
  | _ => none
theorem den_rs_form {ρ : Names} {k : Nat} {y : Nat → List SV} {v : Value} (h : den ρ (.rs 1 k y) v) (hy : ∀ j, j < k → y j = [u64 (wF y j)]) : den ρ (Fam.mk k (wF y)).ws v := by
  obtain ⟨a, c, e, h1, h2⟩ := h
  exact ⟨a, c, e, h1, fun i hi => by
    obtain ⟨b, o, u, k1, k2, k3, k4⟩ := h2 i hi
    rw [hy i hi] at k2
    exact ⟨b, o, u, k1, k2, k3, k4⟩⟩
theorem den_word {ρ : Names} {x : SV} {k : IntKind} {d : Int} {v : Value} (h : x.int? = some (k, d)) (hk : sameK k .u64 = true) (hd : den ρ x v) : den ρ (u64 d) v := by
  obtain rfl := sameK_eq hk
  exact SV.int?_den h hd
set_option maxRecDepth 100000 in
noncomputable def conAM : Con cx where
  f := 123
  e := inAM.g
  en := addMul_enters
  run := fun _ => none
  fresh := false
  own := none
  eff := some amG
  ok := fun ze W args vs ob out hG hz hd hr ho => by cases hr
  effOk := fun g hg ρ W H nm args vs r hok hfr hd hr ho => by
    obtain rfl := Option.some.inj hg
    unfold amG at hr
    split at hr
    · rename_i m e sz off n m2 e2 sz2 off2 n2 sz3 k y dv av
      split at hr
      · rename_i e' sz' N h ty kd d ka a hl hdv hav
        split at hr
        · rename_i b1 b2
          obtain rfl := Option.some.inj hr
          simp only [all10, Bool.and_eq_true] at b1
          obtain ⟨q1, q2, q3, q4, q5, q6, q7, q8, q9⟩ := b1
          obtain rfl := Nat.eq_of_beq_eq_true q1
          obtain rfl := Nat.eq_of_beq_eq_true q2
          obtain rfl := Nat.eq_of_beq_eq_true q3
          obtain rfl := Nat.eq_of_beq_eq_true q4
          obtain rfl := Nat.eq_of_beq_eq_true q5
          obtain rfl := Nat.eq_of_beq_eq_true q6
          obtain rfl := Nat.eq_of_beq_eq_true q7
          obtain rfl := Nat.eq_of_beq_eq_true b2
          have P : AmPre off off2 n n2 k N a d h y := ho
          obtain ⟨v1, r1, rfl, w1, hd1⟩ := denL_cons hd
          obtain ⟨v2, r2, rfl, w2, hd2⟩ := denL_cons hd1
          obtain ⟨v3, r3, rfl, w3, hd3⟩ := denL_cons hd2
          obtain ⟨v4, r4, rfl, w4, hd4⟩ := denL_cons hd3
          obtain ⟨v5, r5, rfl, w5, hd5⟩ := denL_cons hd4
          obtain rfl := denL_nil hd5
          rw [P.o, P.m] at w2
          rw [P.kn] at w3
          have w5' := den_word hav q9 w5
          rw [P.a0] at w5'
          exact am_eff hok hl P.nN P.le P.n0 P.hf P.hw P.yw P.wd (denL_cons_of w1 (denL_cons_of w2 (denL_cons_of (den_rs_form w3 P.yf) (denL_cons_of (den_word hdv q8 w4) (denL_cons_of w5' rfl)))))
        · cases hr
      · cases hr
    · cases hr
end Go.Proofs.YtcojfohjdibjjaaGreatDoor
namespace Go.Proofs.YtcojfohjdibjjaaGreatDoor
open Go.RowKit

def bmCut (f g : Fam) : Cut := ⟨Nat × (Nat → Int), fun a => a.1 ≤ g.n ∧ Words a.2 (f.n + g.n) ∧ (∀ j, f.n + a.1 ≤ j → j < f.n + g.n → a.2 j = 0) ∧ valN a.2 (f.n + a.1) = f.val * valN g.g a.1,
  fun a => ⟨[sl 0 (.g 0 0 1 0 (f.n + g.n)), sl 1 f.ws, sl 15 g.ws, sl 16 (.v (.int .i64 g.n)), sl 17 (.v (.int .i64 a.1))], wordH (f.n + g.n) a.2, 1, 0, [], []⟩, fun a => g.n - a.1⟩
/-- One row more. -/
def bmRow (m i : Nat) (x : Nat → Int) (d : Int) (s : Nat → Int) (j : Nat) : Int :=
  bif Nat.beq j (m + i) then amC (fun j => s (i + j)) x d m else amS i m (amL (fun j => s (i + j)) x d) s j
theorem beq_no {i j : Nat} (h : i ≠ j) : Nat.beq i j = false := by
  cases q : Nat.beq i j with
  | false => rfl
  | true => exact absurd (Nat.eq_of_beq_eq_true q) h
theorem bmRow_at {m i : Nat} {x : Nat → Int} {d : Int} {s : Nat → Int} : bmRow m i x d s (m + i) = amC (fun j => s (i + j)) x d m := by unfold bmRow; rw [Nat.beq_refl]; rfl
theorem bmRow_ne {m i j : Nat} {x : Nat → Int} {d : Int} {s : Nat → Int} (h : j ≠ m + i) : bmRow m i x d s j = amS i m (amL (fun j => s (i + j)) x d) s j := by unfold bmRow; rw [beq_no h]; rfl
theorem bmRow_val {m i : Nat} {x : Nat → Int} {d : Int} {s : Nat → Int} : valN (bmRow m i x d s) (m + i + 1) = valN s (m + i) + valN x m * d * 18446744073709551616 ^ i := by
  have e1 : valN (bmRow m i x d s) (m + i + 1) = valN (bmRow m i x d s) (m + i) + bmRow m i x d s (m + i) * 18446744073709551616 ^ (m + i) := rfl
  have e2 : valN (bmRow m i x d s) (m + i) = valN (amS i m (amL (fun j => s (i + j)) x d) s) (m + i) := valN_congr fun j hj => bmRow_ne (by omega)
  rw [e1, bmRow_at, e2, Nat.add_comm m i, valN_add, valN_add s i m]
  have e3 : valN (amS i m (amL (fun j => s (i + j)) x d) s) i = valN s i := valN_congr fun j hj => amS_out (by omega)
  have e4 : valN (fun k => amS i m (amL (fun j => s (i + j)) x d) s (i + k)) m = valN (amL (fun j => s (i + j)) x d) m := valN_congr fun j hj => by rw [amS_in (by omega) (by omega), Nat.add_sub_cancel_left]
  have e5 := am_val (fun j => s (i + j)) x d m
  rw [e3, e4, Int.pow_add]
  generalize (18446744073709551616 : Int) ^ i = P at *
  generalize (18446744073709551616 : Int) ^ m = M at *
  generalize valN (amL (fun j => s (i + j)) x d) m = a at *
  generalize amC (fun j => s (i + j)) x d m = c at *
  generalize valN (fun j => s (i + j)) m = b at *
  generalize valN x m * d = t at *
  have e6 : a = b + t - c * M := by omega
  rw [e6]
  grind
set_option maxHeartbeats 4000000 in
set_option maxRecDepth 8000 in
theorem bm_k {Γ : List (Con cx)} {dd : Nat} {f g : Fam} {K : SV → Heap → Nat → Prop} (hf : f.Nat) (hg : g.Nat) (h0 : 0 < f.n) (hK : ∀ s, Words s (f.n + g.n) → valN s (f.n + g.n) = f.val * g.val → K (.tup []) (wordH (f.n + g.n) s) 1) :
    inlD (conAdd :: conAM :: Γ) natI (dd + 1) 111 [.g 0 0 1 0 (f.n + g.n), f.ws, g.ws] (wordH (f.n + g.n) (fun _ => 0)) 1 K := by
  have fn := hf.n
  have gn := hg.n
  have fw := hf.k.w
  have gw := hg.k.w
  refine And.intro (by constructor <;> omega : -9223372036854775808 ≤ (f.n : Int) + g.n ∧ (f.n : Int) + g.n ≤ 9223372036854775807) ?_
  refine And.intro (⟨by omega, by omega, by omega⟩ : (0 : Int) ≤ 0 ∧ (0 : Int) ≤ (f.n : Int) + g.n ∧ (f.n : Int) + g.n ≤ (f.n + g.n : Nat)) ?_
  refine And.intro (fun j _ => ⟨rfl, trivial⟩) ?_
  refine Exists.intro (bmCut f g) ?_
  refine And.intro ?_ ?_
  · refine ⟨((0 : Nat), fun _ => 0), [], [], trivial, ⟨Nat.zero_le _, fun j _ => (⟨by decide, by decide⟩ : (0 : Int) ≤ 0 ∧ (0 : Int) < 18446744073709551616), fun j _ _ => rfl, ?_⟩, ?_⟩
    · show valN (fun _ => 0) (f.n + 0) = f.val * 0
      rw [no_words (fun _ _ => rfl), Int.mul_zero]
    repeat' (first | exact rfl | (refine And.intro ?_ ?_) | (intro _))
    rename_i j _
    show (0 : Int) = (bif insB (0 + 0) (((f.n : Int) + g.n).toNat - 0) j then 0 else 0)
    cases insB (0 + 0) (((f.n : Int) + g.n).toNat - 0) j <;> rfl
  refine fun (a : Nat × (Nat → Int)) hP => ?_
  obtain ⟨i, s⟩ := a
  obtain ⟨hi, hw, hz, hv⟩ : i ≤ g.n ∧ Words s (f.n + g.n) ∧ (∀ j, f.n + i ≤ j → j < f.n + g.n → s j = 0) ∧ valN s (f.n + i) = f.val * valN g.g i := hP
  refine And.intro (fun h6 => ?_) (fun h6 => ?_)
  · have h6 : (i : Int) < g.n := of_decide_eq_true h6
    have gi := gw i (by omega)
    refine And.intro (⟨by omega, by omega⟩ : 0 ≤ (i : Int) ∧ (i : Int) < g.n) ?_
    refine And.intro (fun h7 => ?_) (fun h7 => ?_)
    · have h7 : ¬ g.g i = 0 := of_decide_eq_true h7
      have en : ((i : Int) + f.n).toNat - (i : Int).toNat = f.n := by omega
      have e2 : ((f.n : Int) + i).toNat = f.n + i := by omega
      have r1 : -9223372036854775808 ≤ (i : Int) + f.n ∧ (i : Int) + f.n ≤ 9223372036854775807 := by constructor <;> omega
      have r2 : 0 ≤ (i : Int) ∧ (i : Int) ≤ (i : Int) + f.n ∧ (i : Int) + f.n ≤ (f.n + g.n : Nat) := ⟨by omega, by omega, by omega⟩
      refine And.intro (by constructor <;> omega : -9223372036854775808 ≤ (f.n : Int) + i ∧ (f.n : Int) + i ≤ 9223372036854775807) ?_
      refine And.intro r1 ?_
      refine And.intro r2 ?_
      refine And.intro r1 ?_
      refine And.intro r2 ?_
      have yw : Words f.g (((i : Int) + f.n).toNat - (i : Int).toNat) := by rw [en]; exact fw
      refine And.intro ⟨rfl, rfl, en.symm, rfl, gi, by omega, by show 0 + (i : Int).toNat + (((i : Int) + f.n).toNat - (i : Int).toNat) ≤ f.n + g.n; omega, by show 0 < ((i : Int) + f.n).toNat - (i : Int).toNat; omega, fun j _ => rfl, hw, fun j _ => rfl, yw⟩ ?_
      refine And.intro (⟨by omega, by omega⟩ : 0 ≤ (f.n : Int) + i ∧ (f.n : Int) + i < (f.n + g.n : Nat)) ?_
      refine And.intro (fun j _ => ⟨rfl, trivial⟩) ?_
      refine And.intro (by constructor <;> omega : -9223372036854775808 ≤ (i : Int) + 1 ∧ (i : Int) + 1 ≤ 9223372036854775807) ?_
      have sw : Words (fun j => s (i + j)) f.n := fun j hj => hw (i + j) (by omega)
      refine ⟨(i + 1, bmRow f.n i f.g (g.g i) s), [], [], (show g.n - (i + 1) < g.n - i by omega), ⟨(show i + 1 ≤ g.n by omega), fun j hj => ?_, fun j q1 q2 => ?_, ?_⟩, ?_⟩
      · show 0 ≤ bmRow f.n i f.g (g.g i) s j ∧ bmRow f.n i f.g (g.g i) s j < 18446744073709551616
        by_cases e : j = f.n + i
        · rw [e, bmRow_at]; exact amC_rng sw fw gi (Nat.le_refl _)
        · rw [bmRow_ne e]
          by_cases q : i ≤ j ∧ j < i + f.n
          · rw [amS_in q.1 q.2]; exact amL_words _ _ _ f.n (j - i) (by omega)
          · rw [amS_out (by omega)]; exact hw j hj
      · show bmRow f.n i f.g (g.g i) s j = 0
        have q1 : f.n + (i + 1) ≤ j := q1
        rw [bmRow_ne (by omega), amS_out (by omega)]
        exact hz j (by omega) q2
      · show valN (bmRow f.n i f.g (g.g i) s) (f.n + i + 1) = f.val * (valN g.g i + g.g i * 18446744073709551616 ^ i)
        rw [bmRow_val, hv]
        have e : f.val = valN f.g f.n := rfl
        rw [e]
        grind
      repeat' (first | exact rfl | (refine And.intro ?_ ?_) | (intro _))
      rename_i j _
      show bmRow f.n i f.g (g.g i) s j = (bif Nat.beq j (0 + ((f.n : Int) + i).toNat) then amC (fun j => s (0 + i + j)) f.g (g.g i) (((i : Int) + f.n).toNat - (i : Int).toNat) else amS (0 + i) (((i : Int) + f.n).toNat - (i : Int).toNat) (amL (fun j => s (0 + i + j)) f.g (g.g i)) s j)
      simp only [Nat.zero_add, en, e2]
      rfl
    · have h7 : g.g i = 0 := by
        have h7 : decide (¬ g.g i = 0) = false := h7
        have := of_decide_eq_false h7
        omega
      refine And.intro (by constructor <;> omega : -9223372036854775808 ≤ (i : Int) + 1 ∧ (i : Int) + 1 ≤ 9223372036854775807) ?_
      refine ⟨(i + 1, s), [], [], (show g.n - (i + 1) < g.n - i by omega), ⟨(show i + 1 ≤ g.n by omega), hw, fun j q1 q2 => hz j (by have q1 : f.n + (i + 1) ≤ j := q1; omega) q2, ?_⟩, ?_⟩
      · show valN s (f.n + i) + s (f.n + i) * 18446744073709551616 ^ (f.n + i) = f.val * (valN g.g i + g.g i * 18446744073709551616 ^ i)
        rw [hv, h7, hz (f.n + i) (by omega) (by omega)]
        simp
      repeat' (first | exact rfl | (refine And.intro ?_ ?_) | (intro _))
  · have h6 : ¬ (i : Int) < g.n := of_decide_eq_false h6
    obtain rfl : i = g.n := by omega
    exact hK s hw hv
end Go.Proofs.YtcojfohjdibjjaaGreatDoor
namespace Go.Proofs.YtcojfohjdibjjaaGreatDoor
open Go.RowKit

/-- Ahead of the product: room for the words. -/
def mulBeg (rs : List (Nat × Slot)) (N : Nat) : Cut := ⟨Unit, fun _ => True, fun _ => ⟨sl 0 (.g 0 0 1 0 N) :: rs, wordH N (fun _ => 0), 1, 0, [], []⟩, fun _ => 0⟩
def skipL : List Nat := [5015, 5016, 5017, 5018, 5019, 5020, 5021, 5022, 5023, 5024, 5025, 5026, 5027, 5028]
set_option maxHeartbeats 4000000 in
set_option maxRecDepth 8000 in
theorem NMul1_walk : ∀ a, conj ((fun (a : SV × SV × Fam × Fam) => [a.1 = .v (.slice none 0 0), a.2.1 = .v (.pointer none), a.2.2.1.Nat, a.2.2.2.Nat, a.2.2.2.n ≤ a.2.2.1.n]) a) → evFn (C := cx) [conAdd, conAM, conMulW] natI 1 ⟨1005 :: 1009 :: skipL, [13], [], 0⟩ Tryz.f107 ((rds4 rdX rdX (rdF .u64) (rdF .u64)).enc a) fun v H _ => resOut (natF (a.2.2.1.val * a.2.2.2.val)).ws H v := by
  intro ⟨z, k, f, g⟩ ⟨hz, hk, hf, hg, hn⟩
  replace hz : z = .v (.slice none 0 0) := hz
  subst hz
  replace hk : k = .v (.pointer none) := hk
  subst hk
  replace hf : f.Nat := hf
  replace hg : g.Nat := hg
  replace hn : g.n ≤ f.n := hn
  have fn := hf.n
  have gn := hg.n
  refine And.intro (fun h1 => ?_) (fun _ => ?_)
  · have h1 : (f.n : Int) < g.n := of_decide_eq_true h1
    omega
  refine And.intro (fun h1 => ?_) (fun h1 => ?_)
  · refine And.intro (fun h2 => ?_) (fun h2 => ?_)
    · have h2 : (g.n : Int) = 0 := of_decide_eq_true h2
      have e3 : lenI (f.val * g.val) = 0 := by
        have : g.val = 0 := by
          have : g.n = 0 := by omega
          unfold Fam.val; rw [this]; rfl
        rw [this, Int.mul_zero]; rfl
      first | exact e3 | exact e3.symm
    have h2 : ¬ (g.n : Int) = 0 := of_decide_eq_false h2
    refine And.intro (fun h3 => ?_) (fun h3 => ?_)
    · have h3 : (g.n : Int) = 1 := of_decide_eq_true h3
      have h3' : g.n = 1 := by omega
      have ev : g.val = g.g 0 := by unfold Fam.val; rw [h3']; simp [valN]
      have g0 : ¬ g.g 0 = 0 := by have := hg.k.t (by omega); rw [h3'] at this; exact this
      refine And.intro (⟨by omega, by omega⟩ : (0 : Int) ≤ 0 ∧ (0 : Int) < g.n) ?_
      refine And.intro ⟨fun _ _ => trivial, rfl, hf, (by omega : 0 < f.n), hg.k.w 0 (by omega), g0, rfl⟩ ?_
      exact And.intro (show lenI (f.val * g.val) = lenI (f.val * g.g 0) by rw [ev]) (fun i _ => show wordI (f.val * g.val) i = wordI (f.val * g.g 0) i by rw [ev])
    have h3 : ¬ (g.n : Int) = 1 := of_decide_eq_false h3
    repeat (refine And.intro (fun h => Bool.noConfusion (show false = true from h)) ?_)
    refine And.intro (by constructor <;> omega : -9223372036854775808 ≤ (f.n : Int) + g.n ∧ (f.n : Int) + g.n ≤ 9223372036854775807) ?_
    refine And.intro (fun h4 => ?_) (fun _ => ?_)
    · have h4 : (f.n : Int) + g.n ≤ 0 := of_decide_eq_true h4
      omega
    refine And.intro (fun h4 => ?_) (fun _ => ?_)
    · have h4 : (f.n : Int) + g.n = 1 := of_decide_eq_true h4
      omega
    refine And.intro (by constructor <;> omega : -9223372036854775808 ≤ (f.n : Int) + g.n + 4 ∧ (f.n : Int) + g.n + 4 ≤ 9223372036854775807) ?_
    refine And.intro (⟨by omega, by omega, fitW (by omega)⟩ : (0 : Int) ≤ (f.n : Int) + g.n ∧ (f.n : Int) + g.n ≤ (f.n : Int) + g.n + 4 ∧ fitO ((f.n : Int) + g.n + 4).toNat 8) ?_
    refine And.intro (fun _ => ?_) (fun h5 => ?_)
    · refine Exists.intro (mulBeg [sl 2 f.ws, sl 3 g.ws, sl 8 (.v (.slice none 0 0))] (f.n + g.n)) ?_
      refine And.intro ?_ ?_
      · refine ⟨(), [], [], trivial, trivial, ?_⟩
        repeat' (first | exact rfl | (refine And.intro ?_ ?_) | (intro _))
      refine fun _ _ => ?_
      refine bm_k hf hg (by omega) (fun s hw hv => ?_)
      refine norm_k hw (by omega) (fun i hi hn hvi => ?_)
      have hk := hn.word (hvi.symm.trans hv)
      refine And.intro hk.1.symm (fun j hj => ?_)
      show wordI (f.val * g.val) j = s (0 + j)
      rw [Nat.zero_add]
      exact (hk.2 j hj).symm
    · have h5 : decide ((g.n : Int) < 40) = false := h5
      have h5 := of_decide_eq_false h5
      omega
  · have h1 : decide ((f.n : Int) = 0) = true := h1
    have h1 := of_decide_eq_true h1
    have e3 : lenI (f.val * g.val) = 0 := by
      have : f.val = 0 := by
        have : f.n = 0 := by omega
        unfold Fam.val; rw [this]; rfl
      rw [this, Int.zero_mul]; rfl
    first | exact e3 | exact e3.symm
set_option maxHeartbeats 4000000 in
set_option maxRecDepth 8000 in
noncomputable def conNMul1 : Con cx := walkCon 107 Tryz.call107 (rds4 rdX rdX (rdF .u64) (rdF .u64)) (fun a => [a.1 = .v (.slice none 0 0), a.2.1 = .v (.pointer none), a.2.2.1.Nat, a.2.2.2.Nat, a.2.2.2.n ≤ a.2.2.1.n]) (fun a => (natF (a.2.2.1.val * a.2.2.2.val)).ws) (fun _ => ⟨1005 :: 1009 :: skipL, [13], [], 0⟩) (1005 :: 1009 :: skipL) (fun _ => rfl) follows Tryz.func107 (by kernel_rfl) NMul1_walk
set_option maxHeartbeats 4000000 in
set_option maxRecDepth 8000 in
theorem NMul2_walk : ∀ a, conj ((fun (a : SV × SV × Fam × Fam) => [a.1 = .v (.slice none 0 0), a.2.1 = .v (.pointer none), a.2.2.1.Nat, a.2.2.2.Nat]) a) → decide (a.2.2.2.n ≤ a.2.2.1.n) = false → evFn (C := cx) [conNMul1] [] 0 ⟨1005 :: 1009 :: skipL, [], [], 0⟩ Tryz.f107 ((rds4 rdX rdX (rdF .u64) (rdF .u64)).enc a) fun v H _ => resOut (natF (a.2.2.1.val * a.2.2.2.val)).ws H v := by
  intro ⟨z, k, f, g⟩ ⟨hz, hk, hf, hg⟩ hn
  replace hz : z = .v (.slice none 0 0) := hz
  subst hz
  replace hk : k = .v (.pointer none) := hk
  subst hk
  replace hf : f.Nat := hf
  replace hg : g.Nat := hg
  replace hn : ¬ g.n ≤ f.n := of_decide_eq_false hn
  refine And.intro (fun _ => ?_) (fun h1 => ?_)
  · refine And.intro ⟨fun _ _ => trivial, fun _ _ => trivial, rfl, rfl, hg, hf, by show f.n ≤ g.n; omega⟩ ?_
    have e : g.val * f.val = f.val * g.val := Int.mul_comm _ _
    exact And.intro (show lenI (f.val * g.val) = lenI (g.val * f.val) by rw [e]) (fun i hi => show wordI (f.val * g.val) i = wordI (g.val * f.val) i by rw [e])
  · have h1 : ¬ (f.n : Int) < g.n := of_decide_eq_false h1
    omega
noncomputable def conNMul : Con cx := walkCase (Γ := [conAdd, conAM, conMulW]) (Fs := natI) (d := 1) (Γ' := [conNMul1]) (Fs' := []) (d' := 0) 107 Tryz.call107 (rds4 rdX rdX (rdF .u64) (rdF .u64)) (fun a => [a.1 = .v (.slice none 0 0), a.2.1 = .v (.pointer none), a.2.2.1.Nat, a.2.2.2.Nat]) (fun a => (natF (a.2.2.1.val * a.2.2.2.val)).ws) (fun a => decide (a.2.2.2.n ≤ a.2.2.1.n)) ⟨1005 :: 1009 :: skipL, [13], [], 0⟩ ⟨1005 :: 1009 :: skipL, [], [], 0⟩ follows Tryz.func107 (by kernel_rfl) (by kernel_rfl) (fun a ⟨h1, h2, h3, h4⟩ hc => NMul1_walk a ⟨h1, h2, h3, h4, (of_decide_eq_true hc : a.2.2.2.n ≤ a.2.2.1.n)⟩) NMul2_walk
end Go.Proofs.YtcojfohjdibjjaaGreatDoor
namespace Go.Proofs.YtcojfohjdibjjaaGreatDoor
open Go.RowKit

set_option maxHeartbeats 2000000 in
theorem MWW_walk : ∀ a, conj ((fun a => [Wrd a.1, Wrd a.2]) a) → evFn (C := cx) [conBMul] [] 0 noHow Tryz.f109 ((rds2 (rdI .u64) (rdI .u64)).enc a) fun v H _ => resOut (mulS a) H v := by
  intro ⟨n, m⟩ ⟨hn, hm⟩
  repeat' (first | exact hn | exact hm | exact rfl | (refine And.intro ?_ ?_) | (intro _))
noncomputable def conMWW : Con cx := walkCon 109 Tryz.call109 (rds2 (rdI .u64) (rdI .u64)) (fun a => [Wrd a.1, Wrd a.2]) mulS (fun _ => noHow) [] (fun _ => rfl) follows Tryz.func109 (by kernel_rfl) MWW_walk
def sqrHow : How := ⟨1012 :: [5015, 5016, 5017, 5018, 5019, 5020, 5021, 5022], [8, 13], [], 0⟩
set_option maxHeartbeats 4000000 in
set_option maxRecDepth 8000 in
theorem NSqr_walk : ∀ a, conj ((fun (a : SV × SV × Fam) => [a.1 = .v (.slice none 0 0), a.2.1 = .v (.pointer none), a.2.2.Nat, a.2.2.n ≤ 11]) a) → evFn (C := cx) [conAdd, conAM, conMWW] natI 1 sqrHow Tryz.f106 ((rds3 rdX rdX (rdF .u64)).enc a) fun v H _ => resOut (natF (a.2.2.val * a.2.2.val)).ws H v := by
  intro ⟨z, k, f⟩ ⟨hz, hk, hf, fn⟩
  replace hz : z = .v (.slice none 0 0) := hz
  subst hz
  replace hk : k = .v (.pointer none) := hk
  subst hk
  replace hf : f.Nat := hf
  replace fn : f.n ≤ 11 := fn
  refine And.intro (fun h1 => ?_) (fun h1 => ?_)
  · have h1 : (f.n : Int) = 0 := of_decide_eq_true h1
    have e3 : lenI (f.val * f.val) = 0 := by
      have : f.val = 0 := by
        have : f.n = 0 := by omega
        unfold Fam.val; rw [this]; rfl
      rw [this, Int.zero_mul]; rfl
    first | exact e3 | exact e3.symm
  have h1 : ¬ (f.n : Int) = 0 := of_decide_eq_false h1
  refine And.intro (fun h2 => ?_) (fun h2 => ?_)
  · have h2 : (f.n : Int) = 1 := of_decide_eq_true h2
    have h2' : f.n = 1 := by omega
    have ev : f.val = f.g 0 := by unfold Fam.val; rw [h2']; simp [valN]
    have w0 := hf.k.w 0 (by omega)
    refine And.intro (⟨by omega, by omega⟩ : (0 : Int) ≤ 0 ∧ (0 : Int) < f.n) ?_
    refine And.intro (⟨by decide, by decide, fitW (by decide)⟩ : (0 : Int) ≤ 2 ∧ (2 : Int) ≤ 6 ∧ fitO (Int.toNat 6) 8) ?_
    have hp := mulw_rng w0 w0
    refine Exists.intro (natEnd 6 2 (f.val * f.val)) ?_
    refine And.intro ?_ ?_
    · refine And.intro ⟨w0, w0⟩ ?_
      refine And.intro (⟨by decide, by decide⟩ : (0 : Int) ≤ 1 ∧ (1 : Int) < 2) ?_
      refine And.intro (fun j _ => ⟨rfl, trivial⟩) ?_
      refine And.intro (⟨by decide, by decide⟩ : (0 : Int) ≤ 0 ∧ (0 : Int) < 2) ?_
      refine And.intro (fun j _ => ⟨rfl, trivial⟩) ?_
      refine ⟨fun j => bif Nat.beq j 0 then f.g 0 * f.g 0 % 18446744073709551616 else bif Nat.beq j 1 then f.g 0 * f.g 0 / 18446744073709551616 else 0, [], [], trivial, ⟨fun j hj => ?_, ?_⟩, ?_⟩
      · rcases (by omega : j = 0 ∨ j = 1) with rfl | rfl
        · show 0 ≤ f.g 0 * f.g 0 % 18446744073709551616 ∧ f.g 0 * f.g 0 % 18446744073709551616 < 18446744073709551616
          omega
        · show 0 ≤ f.g 0 * f.g 0 / 18446744073709551616 ∧ f.g 0 * f.g 0 / 18446744073709551616 < 18446744073709551616
          omega
      · rw [ev]
        show 0 + f.g 0 * f.g 0 % 18446744073709551616 * 18446744073709551616 ^ 0 + f.g 0 * f.g 0 / 18446744073709551616 * 18446744073709551616 ^ 1 = f.g 0 * f.g 0
        rw [Int.pow_zero, Int.pow_one (18446744073709551616 : Int)]
        omega
      repeat' (first | exact rfl | (refine And.intro ?_ ?_) | (intro _))
    refine fun (s : Nat → Int) hP => ?_
    obtain ⟨hw, hv⟩ : Words s 2 ∧ valN s 2 = f.val * f.val := hP
    refine norm_k hw (by omega) (fun i hi hn hvi => ?_)
    have hk := hn.word (hvi.symm.trans hv)
    refine And.intro hk.1.symm (fun j hj => ?_)
    show wordI (f.val * f.val) j = s (0 + j)
    rw [Nat.zero_add]
    exact (hk.2 j hj).symm
  have h2 : ¬ (f.n : Int) = 1 := of_decide_eq_false h2
  repeat (refine And.intro (fun h => Bool.noConfusion (show false = true from h)) ?_)
  refine And.intro (by constructor <;> omega : -9223372036854775808 ≤ 2 * (f.n : Int) ∧ 2 * (f.n : Int) ≤ 9223372036854775807) ?_
  refine And.intro (fun h4 => ?_) (fun _ => ?_)
  · have h4 : 2 * (f.n : Int) ≤ 0 := of_decide_eq_true h4
    omega
  refine And.intro (fun h4 => ?_) (fun _ => ?_)
  · have h4 : 2 * (f.n : Int) = 1 := of_decide_eq_true h4
    omega
  refine And.intro (by constructor <;> omega : -9223372036854775808 ≤ 2 * (f.n : Int) + 4 ∧ 2 * (f.n : Int) + 4 ≤ 9223372036854775807) ?_
  refine And.intro (⟨by omega, by omega, fitW (by omega)⟩ : (0 : Int) ≤ 2 * (f.n : Int) ∧ 2 * (f.n : Int) ≤ 2 * (f.n : Int) + 4 ∧ fitO (2 * (f.n : Int) + 4).toNat 8) ?_
  refine And.intro (fun _ => ?_) (fun h5 => ?_)
  · refine And.intro (fun _ => ?_) (fun h5 => ?_)
    · refine Exists.intro (mulBeg [sl 2 f.ws, sl 6 (.v (.slice none 0 0))] (f.n + f.n)) ?_
      refine And.intro ?_ ?_
      · refine ⟨(), [], [], trivial, trivial, ?_⟩
        have e2 : f.n + f.n = (2 * (f.n : Int)).toNat := by omega
        repeat' (first | exact rfl | exact e2 | (refine And.intro ?_ ?_) | (intro _))
      refine fun _ _ => ?_
      refine bm_k hf hf (by omega) (fun s hw hv => ?_)
      refine norm_k hw (by omega) (fun i hi hn hvi => ?_)
      have hk := hn.word (hvi.symm.trans hv)
      refine And.intro hk.1.symm (fun j hj => ?_)
      show wordI (f.val * f.val) j = s (0 + j)
      rw [Nat.zero_add]
      exact (hk.2 j hj).symm
    · have h5 : decide ((f.n : Int) < 80) = false := h5
      have h5 := of_decide_eq_false h5
      omega
  · have h5 : decide ((f.n : Int) < 12) = false := h5
    have h5 := of_decide_eq_false h5
    omega
noncomputable def conNSqr : Con cx := walkCon 106 Tryz.call106 (rds3 rdX rdX (rdF .u64)) (fun a => [a.1 = .v (.slice none 0 0), a.2.1 = .v (.pointer none), a.2.2.Nat, a.2.2.n ≤ 11]) (fun a => (natF (a.2.2.val * a.2.2.val)).ws) (fun _ => sqrHow) (1012 :: [5015, 5016, 5017, 5018, 5019, 5020, 5021, 5022]) (fun _ => rfl) follows Tryz.func106 (by kernel_rfl) NSqr_walk
end Go.Proofs.YtcojfohjdibjjaaGreatDoor
