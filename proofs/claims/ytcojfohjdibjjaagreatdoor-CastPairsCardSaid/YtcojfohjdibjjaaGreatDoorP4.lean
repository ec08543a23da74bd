/- Integers: how they lie; products. Integers: the sign of d - sqrt p + sqrt q. Integers: two places compared. Places: compared. -/
import Derived.Test.YtcojfohjdibjjaaGreatDoorP3
import Derived.Test.YtcojfohjdibjjaaGreatDoorP2
import Derived.Test.YtcojfohjdibjjaaGreatDoorPB
namespace Go.Proofs.YtcojfohjdibjjaaGreatDoor
open Go.RowKit

/-- An integer as it lies in memory; what memory tells. -/
def zC (x : Int) : List SV := [.v (.bool (decide (x < 0))), (natF x.natAbs).ws]
def zS (x : Int) : SV := .rp (zC x) 0
def SV.pl : SV → List SV
  | .rp l _ => l
  | _ => []
def zV (a : SV) : Int := let m := valN (fun i => (hdS ((hdS (tlS a.pl)).rf i)).iv) (hdS (tlS a.pl)).rn
  if (hdS a.pl).bv = true then -m else m
theorem abs_nn (x : Int) : (0 : Int) ≤ x.natAbs := Int.natCast_nonneg _
theorem zV_zS (x : Int) : zV (zS x) = x := by
  have e : zV (zS x) = if decide (x < 0) = true then -(natF x.natAbs).val else (natF x.natAbs).val := rfl
  rw [e, natF_val (abs_nn x)]
  by_cases h : x < 0
  · rw [if_pos (by simpa using h)]; omega
  · rw [if_neg (by simpa using h)]; omega
/-- A number that the library's parts can take. -/
def Bd (x : Int) : Prop := (x.natAbs : Int) < 18446744073709551616 ^ 11
theorem Bd.nat {x : Int} (h : Bd x) : (natF x.natAbs).Nat := natF_ok (Int.lt_of_lt_of_le h (pw_mono (by decide)))
theorem Bd.n {x : Int} (h : Bd x) : (natF x.natAbs).n ≤ 11 := lenI_le h
theorem same_z {B B' : Bool} {n n' : Nat} {f f' : Nat → Int} (h : SameP [.v (.bool B), .rs 1 n fun i => [u64 (f i)]] [.v (.bool B'), .rs 1 n' fun i => [u64 (f' i)]] 0 0) : B = B' ∧ n = n' ∧ ∀ i, i < n → f i = f' i := by
  obtain ⟨z, b, o, p, u, w, hz, e, hu, hw, ku, kw⟩ := h
  obtain rfl : o = p := by omega
  obtain ⟨u0, ur, rfl, rfl, hu1⟩ := denL_cons hu
  obtain ⟨u1, us, rfl, ⟨a, cap, rfl, c1, c2⟩, hu2⟩ := denL_cons hu1
  obtain ⟨w0, wr, rfl, rfl, hw1⟩ := denL_cons hw
  obtain ⟨w1, ws, rfl, ⟨a', cap', rfl, d1, d2⟩, hw2⟩ := denL_cons hw1
  have e0 := hz _ _ _ _ (ku 0 _ rfl) (kw 0 _ rfl)
  have e1 := hz _ _ _ _ (ku 1 _ rfl) (kw 1 _ rfl)
  injection e0 with e0
  injection e1 with e1 e2 e3
  subst e1 e2
  refine ⟨e0, rfl, fun i hi => ?_⟩
  obtain ⟨b1, o1, us, q1, q2, q3, q4⟩ := c2 i hi
  obtain ⟨b2, o2, vs, r1, r2, r3, r4⟩ := d2 i hi
  rw [q1] at r1
  injection r1 with r1
  injection r1 with r1 r1'
  subst r1 r1'
  obtain ⟨x1, t1, rfl, rfl, q2⟩ := denL_cons q2
  obtain ⟨x2, t2, rfl, rfl, r2⟩ := denL_cons r2
  have := hz _ _ _ _ (q4 0 _ rfl) (r4 0 _ rfl)
  injection this
theorem same_int {x y : Int} (h : SameP (zC x) (zC y) 0 0) : x = y := by
  obtain ⟨h1, h2, h3⟩ := same_z (f := wordI x.natAbs) (f' := wordI y.natAbs) h
  have e : (x.natAbs : Int) = y.natAbs := by
    rw [← natF_val (abs_nn x), ← natF_val (abs_nn y)]
    show valN (wordI x.natAbs) (lenI x.natAbs) = valN (wordI y.natAbs) (lenI y.natAbs)
    have h2 : lenI x.natAbs = lenI y.natAbs := h2
    rw [← h2]
    exact valN_congr h3
  have h1 : decide (x < 0) = decide (y < 0) := h1
  have : x < 0 ↔ y < 0 := by
    constructor
    · intro q; exact of_decide_eq_true (h1 ▸ decide_eq_true q)
    · intro q; exact of_decide_eq_true (h1.symm ▸ decide_eq_true q)
  omega
theorem z_out {x v : Int} {B : Bool} (hB : decide (x < 0) = B) (hv : v = (x.natAbs : Int)) : decide (x < 0) = B ∧ lenI x.natAbs = lenI v ∧ ∀ i, i < lenI v → wordI x.natAbs i = wordI v i := by
  subst hv; exact ⟨hB, rfl, fun _ _ => rfl⟩
theorem abs_mul (x y : Int) : (x.natAbs : Int) * y.natAbs = ((x * y).natAbs : Int) := by rw [Int.natAbs_mul]; exact (Int.natCast_mul _ _).symm
theorem len_abs (x : Int) : decide (0 < (lenI x.natAbs : Int)) = decide (x ≠ 0) := by
  have h := lenI_pos (x := (x.natAbs : Int))
  by_cases e : x = 0
  · subst e; rfl
  · have : 0 < lenI x.natAbs := h.2 (by omega)
    simp [e]; omega
theorem sgn_mul (x y : Int) : decide (x * y < 0) = (decide (0 < (lenI (x * y).natAbs : Int)) && (decide (x < 0) != decide (y < 0))) := by
  rw [len_abs]
  rcases Int.lt_trichotomy x 0 with hx | hx | hx <;> rcases Int.lt_trichotomy y 0 with hy | hy | hy
  · have := Int.mul_pos_of_neg_of_neg hx hy
    simp [hx, hy]; omega
  · subst hy; simp
  · have := Int.mul_neg_of_neg_of_pos hx hy
    simp [hx, this]; omega
  · subst hx; simp
  · subst hx; simp
  · subst hx; simp
  · have := Int.mul_neg_of_pos_of_neg hx hy
    simp [hy, this]; omega
  · subst hy; simp
  · have := Int.mul_pos hx hy
    have h1 : ¬ x < 0 := by omega
    have h2 : ¬ y < 0 := by omega
    simp [h1, h2]; omega
theorem one_word {v : Int} (h : 0 < v) (k : v < 18446744073709551616) : lenI v = 1 ∧ wordI v 0 = v := by
  refine ⟨?_, ?_⟩
  · have a := lenI_le (x := v) (n := 1) (by simpa using k)
    have b := (lenI_pos (x := v)).2 h
    omega
  · show v / 18446744073709551616 ^ 0 % 18446744073709551616 = v
    rw [Int.pow_zero, Int.ediv_one]; omega
noncomputable def inMul : FnI cx := ⟨81, Tryz.call81, Tryz.f81, Tryz.func81, [], [], [], 0, by kernel_rfl⟩
noncomputable def inMulI : FnI cx := ⟨99, Tryz.call99, Tryz.f99, Tryz.func99, [1, 3, 4], [], [], 0, by kernel_rfl⟩
set_option maxHeartbeats 4000000 in
set_option maxRecDepth 8000 in
theorem Times_walk : ∀ a, conj ((fun (a : SV × SV) => [a.1 = zS (zV a.1), a.2 = zS (zV a.2), Bd (zV a.1), Bd (zV a.2)]) a) → evFn (C := cx) [conNMul, conNSqr] [inMul, inMulI] 2 noHow Tryz.f54 ((rds2 rdX rdX).enc a) fun v H _ => resOut (zS (zV a.1 * zV a.2)) H v := by
  intro ⟨a, b⟩ ⟨ha, hb, hx, hy⟩
  replace ha : a = zS (zV a) := ha
  replace hb : b = zS (zV b) := hb
  replace hx : Bd (zV a) := hx
  replace hy : Bd (zV b) := hy
  show evFn (C := cx) [conNMul, conNSqr] [inMul, inMulI] 2 noHow Tryz.f54 [a, b] fun v H _ => resOut (zS (zV a * zV b)) H v
  generalize zV a = x at *
  generalize zV b = y at *
  subst ha
  subst hb
  refine fun (s : Bool) hs => ?_
  refine And.intro (fun h1 => ?_) (fun h1 => ?_)
  · have h1 : (s != false) = true := h1
    have e : x = y := same_int (hs (by simpa using h1))
    subst e
    have hn := hx.n
    refine And.intro ⟨fun _ _ => trivial, rfl, rfl, hx.nat, hn⟩ ?_
    have e1 : (natF x.natAbs).val * (natF x.natAbs).val = ((x * x).natAbs : Int) := by rw [natF_val (abs_nn x), abs_mul]
    refine And.intro rfl (z_out (x := x * x) (v := (natF x.natAbs).val * (natF x.natAbs).val) ?_ e1)
    have := sq_nn x
    exact decide_eq_false (by omega)
  · refine And.intro ⟨fun _ _ => trivial, fun _ _ => trivial, rfl, rfl, hx.nat, hy.nat⟩ ?_
    have e1 : (natF x.natAbs).val * (natF y.natAbs).val = ((x * y).natAbs : Int) := by rw [natF_val (abs_nn x), natF_val (abs_nn y), abs_mul]
    refine And.intro rfl (z_out (x := x * y) (v := (natF x.natAbs).val * (natF y.natAbs).val) ?_ e1)
    show decide (x * y < 0) = (decide (0 < (lenI ((natF x.natAbs).val * (natF y.natAbs).val) : Int)) && (decide (x < 0) != decide (y < 0)))
    rw [e1]; exact sgn_mul x y
noncomputable def conTimes : Con cx := walkCon 54 Tryz.call54 (rds2 rdX rdX) (fun a => [a.1 = zS (zV a.1), a.2 = zS (zV a.2), Bd (zV a.1), Bd (zV a.2)]) (fun a => zS (zV a.1 * zV a.2)) (fun _ => noHow) [] (fun _ => rfl) follows Tryz.func54 (by kernel_rfl) Times_walk
set_option maxHeartbeats 4000000 in
set_option maxRecDepth 8000 in
theorem NewI_walk : ∀ a, conj ((fun (a : Int) => [-9223372036854775807 ≤ a ∧ a ≤ 9223372036854775807]) a) → evFn (C := cx) [] [] 0 ⟨[1006], [], [], 0⟩ Tryz.f71 ((rds1 (rdI .i64)).enc a) fun v H _ => resOut (zS a) H v := by
  intro x hx
  obtain ⟨h1, h2⟩ : -9223372036854775807 ≤ x ∧ x ≤ 9223372036854775807 := hx
  refine And.intro (fun h3 => ?_) (fun h3 => ?_)
  · have h3 : x < 0 := of_decide_eq_true h3
    refine And.intro (fun h4 => ?_) (fun _ => ?_)
    · have h4 : x = 0 := of_decide_eq_true h4
      omega
    repeat' (first | exact rfl | (refine And.intro ?_ ?_) | (intro _))
    · exact (one_word (by omega) (by omega)).1
    · rename_i i hi
      have hi : i < 1 := hi
      obtain rfl : i = 0 := by omega
      show wordI x.natAbs 0 = (-(x % 18446744073709551616)) % 18446744073709551616
      rw [(one_word (by omega) (by omega)).2]
      omega
  · have h3 : ¬ x < 0 := of_decide_eq_false h3
    refine And.intro (fun h4 => ?_) (fun h4 => ?_)
    · have h4 : x = 0 := of_decide_eq_true h4
      subst h4
      repeat' (first | exact rfl | (refine And.intro ?_ ?_) | (intro _))
    have h4 : ¬ x = 0 := of_decide_eq_false h4
    repeat' (first | exact rfl | (refine And.intro ?_ ?_) | (intro _))
    · exact (one_word (by omega) (by omega)).1
    · rename_i i hi
      have hi : i < 1 := hi
      obtain rfl : i = 0 := by omega
      show wordI x.natAbs 0 = x % 18446744073709551616
      rw [(one_word (by omega) (by omega)).2]
      omega
noncomputable def conNewI : Con cx := walkCon 71 Tryz.call71 (rds1 (rdI .i64)) (fun (a : Int) => [-9223372036854775807 ≤ a ∧ a ≤ 9223372036854775807]) zS (fun _ => ⟨[1006], [], [], 0⟩) [1006] (fun _ => rfl) follows Tryz.func71 (by kernel_rfl) NewI_walk
set_option maxHeartbeats 4000000 in
set_option maxRecDepth 8000 in
theorem Num_walk : ∀ a, conj ((fun (a : Int) => [-9223372036854775807 ≤ a ∧ a ≤ 9223372036854775807]) a) → evFn (C := cx) [conNewI] [] 0 noHow Tryz.f52 ((rds1 (rdI .i64)).enc a) fun v H _ => resOut (zS a) H v := by
  intro x hx
  repeat' (first | exact rfl | exact hx | (refine And.intro ?_ ?_) | (intro _))
noncomputable def conNum : Con cx := walkCon 52 Tryz.call52 (rds1 (rdI .i64)) (fun (a : Int) => [-9223372036854775807 ≤ a ∧ a ≤ 9223372036854775807]) zS (fun _ => noHow) [] (fun _ => rfl) follows Tryz.func52 (by kernel_rfl) Num_walk
end Go.Proofs.YtcojfohjdibjjaaGreatDoor
namespace Go.Proofs.YtcojfohjdibjjaaGreatDoor
open Go.RowKit

noncomputable def inAdd : FnI cx := ⟨53, Tryz.call53, Tryz.f53, Tryz.func53, [2, 3, 4, 5, 7], [], [], 0, by kernel_rfl⟩
noncomputable def inSub : FnI cx := ⟨55, Tryz.call55, Tryz.f55, Tryz.func55, [2, 3, 4, 5, 7], [], [], 0, by kernel_rfl⟩
noncomputable def inNeg : FnI cx := ⟨82, Tryz.call82, Tryz.f82, Tryz.func82, [], [], [], 0, by kernel_rfl⟩
noncomputable def inISet : FnI cx := ⟨100, Tryz.call100, Tryz.f100, Tryz.func100, [2], [], [], 0, by kernel_rfl⟩
noncomputable def inSign : FnI cx := ⟨56, Tryz.call56, Tryz.f56, Tryz.func56, [], [], [], 0, by kernel_rfl⟩
noncomputable def inCmp : FnI cx := ⟨83, Tryz.call83, Tryz.f83, Tryz.func83, [3, 4], [], [], 0, by kernel_rfl⟩
noncomputable def intI : List (FnI cx) := [inAdd, inSub, inNeg, inISet, inSign, inCmp]
noncomputable def intC : List (Con cx) := [conNum, conTimes, conNAdd, conNSub, conNCmp, conNSet]

/-- A number of so many bits. -/
def Bw (k : Nat) (x : Int) : Prop := x.natAbs < 2 ^ k
theorem Bw.mono {j k : Nat} {x : Int} (h : Bw j x) (e : j ≤ k) : Bw k x := Nat.lt_of_lt_of_le h (Nat.pow_le_pow_right (by decide) e)
theorem Bw.mul {j k : Nat} {x y : Int} (h : Bw j x) (g : Bw k y) : Bw (j + k) (x * y) := by
  show (x * y).natAbs < 2 ^ (j + k)
  rw [Int.natAbs_mul, Nat.pow_add]
  exact Nat.mul_lt_mul'' h g
theorem Bw.add {k : Nat} {x y : Int} (h : Bw k x) (g : Bw k y) : Bw (k + 1) (x + y) := by
  have h : x.natAbs < 2 ^ k := h
  have g : y.natAbs < 2 ^ k := g
  show (x + y).natAbs < 2 ^ (k + 1)
  rw [Nat.pow_succ]
  omega
theorem Bw.neg {k : Nat} {x : Int} (h : Bw k x) : Bw k (-x) := by
  show (-x).natAbs < 2 ^ k
  rw [Int.natAbs_neg]; exact h
theorem Bw.sub {k : Nat} {x y : Int} (h : Bw k x) (g : Bw k y) : Bw (k + 1) (x - y) := by
  rw [Int.sub_eq_add_neg]; exact h.add g.neg
theorem Bw.bd {k : Nat} {x : Int} (h : Bw k x) (e : k ≤ 64 * 11) : Bd x := by
  have h := h.mono e
  have h : x.natAbs < 2 ^ (64 * 11) := h
  rw [← pw64 11] at h
  show ((x.natAbs : Nat) : Int) < ((18446744073709551616 : Nat) : Int) ^ 11
  rw [← Int.natCast_pow]
  exact Int.ofNat_lt.2 h
theorem Bw.nat {k : Nat} {x : Int} (h : Bw k x) (e : k ≤ 64 * 11) : (natF x.natAbs).Nat := (h.bd e).nat
theorem natF_abs {x : Int} (h : 0 ≤ x) : (natF x.natAbs).val = x := by rw [natF_val (abs_nn x)]; omega
theorem len_zero {x : Int} (h : (lenI x.natAbs : Int) = 0) : x = 0 := by
  have := lenI_pos (x := (x.natAbs : Int))
  have : ¬ 0 < lenI x.natAbs := by omega
  omega
theorem zz (x : Int) : zS x = zS (zV (zS x)) := congrArg zS (zV_zS x).symm
theorem bdz {x : Int} (h : Bd x) : Bd (zV (zS x)) := by rw [zV_zS]; exact h
theorem dn {x : Int} (h : 0 ≤ x) : decide (x < 0) = false := decide_eq_false (by omega)
theorem dn_and {x : Int} {B : Bool} (h : 0 ≤ x) : (B && decide (x < 0)) = false := by rw [dn h, Bool.and_false]
/-- How large the parts of a comparison are. -/
def SgB (d p q : Int) : Prop := Bw 120 d ∧ (0 ≤ p ∧ Bw 240 p) ∧ 0 ≤ q ∧ Bw 240 q
theorem SgB.e {d p q : Int} (h : SgB d p q) : Bw 242 (p - (d * d + q)) := (h.2.1.2.mono (by decide : 240 ≤ 241)).sub ((h.1.mul h.1).add h.2.2.2)
def sg3 (d p q : Int) : Cut := ⟨Unit, fun _ => True, fun _ => ⟨[sl 0 (zS d), sl 1 (zS p), sl 2 (zS q)], [], 0, 0, [], []⟩, fun _ => 0⟩
def sg4 (d p q e : Int) : Cut := ⟨Unit, fun _ => True, fun _ => ⟨[sl 0 (zS d), sl 1 (zS p), sl 2 (zS q), sl 7 (zS e)], [], 0, 0, [], []⟩, fun _ => 0⟩
def sg6 (d p q e : Int) : Cut := ⟨Unit, fun _ => 0 ≤ e, fun _ => ⟨[sl 0 (zS d), sl 2 (zS q), sl 7 (zS e)], [], 0, 0, [], []⟩, fun _ => 0⟩
set_option maxHeartbeats 4000000 in
set_option maxRecDepth 8000 in
theorem SignP_walk : ∀ a, conj ((fun (a : SV × SV × SV) => [a.1 = zS (zV a.1), a.2.1 = zS (zV a.2.1), a.2.2 = zS (zV a.2.2), SgB (zV a.1) (zV a.2.1) (zV a.2.2), 0 ≤ zV a.1]) a) → evFn (C := cx) intC intI 2 ⟨[], [3, 4, 6], [], 0⟩ Tryz.f57 ((rds3 rdX rdX rdX).enc a) fun v H _ => resOut (.v (.int .i64 (sgnP (zV a.1) (zV a.2.1) (zV a.2.2)))) H v := by
  intro ⟨a, b, c⟩ ⟨ha, hb, hc, hs, hd⟩
  replace ha : a = zS (zV a) := ha
  replace hb : b = zS (zV b) := hb
  replace hc : c = zS (zV c) := hc
  replace hs : SgB (zV a) (zV b) (zV c) := hs
  replace hd : 0 ≤ zV a := hd
  show evFn (C := cx) intC intI 2 ⟨[], [3, 4, 6], [], 0⟩ Tryz.f57 [a, b, c] fun v H _ => resOut (.v (.int .i64 (sgnP (zV a) (zV b) (zV c)))) H v
  generalize zV a = d at *
  generalize zV b = p at *
  generalize zV c = q at *
  subst ha hb hc
  have he := hs.e
  obtain ⟨d1, ⟨p1, p2⟩, q1, q2⟩ := hs
  refine Exists.intro (sg3 d p q) ?_
  refine And.intro ?_ ?_
  · refine And.intro (fun h1 => ?_) (fun h1 => ?_)
    · refine ⟨(), [], [], trivial, trivial, ?_⟩
      repeat' (first | exact rfl | (refine And.intro ?_ ?_) | (intro _))
    refine And.intro (fun h2 => ?_) (fun h2 => ?_)
    · have : d < 0 := of_decide_eq_true h2
      exact absurd hd (by omega)
    refine ⟨(), [], [], trivial, trivial, ?_⟩
    repeat' (first | exact rfl | (refine And.intro ?_ ?_) | (intro _))
  refine fun _ _ => ?_
  refine Exists.intro (sg4 d p q (p - (d * d + q))) ?_
  have hdd : zV (zS d) * zV (zS d) = d * d := by rw [zV_zS]
  have hd2 : 0 ≤ zV (zS d) * zV (zS d) := by rw [hdd]; exact Int.mul_nonneg hd hd
  refine And.intro ?_ ?_
  · have hB := bdz (d1.bd (by decide))
    refine And.intro ⟨zz d, zz d, hB, hB⟩ ?_
    refine And.intro (fun h1 => ?_) (fun h1 => ?_)
    · have hN : (natF (zV (zS d) * zV (zS d)).natAbs).Nat := by rw [hdd]; exact (d1.mul d1).nat (by decide)
      refine And.intro ⟨fun _ _ => trivial, fun _ _ => trivial, rfl, hN, q2.nat (by decide)⟩ ?_
      refine And.intro (fun h2 => ?_) (fun h2 => ?_)
      · exfalso
        have h2 : (decide (p < 0) != (decide (0 < (lenI ((natF (zV (zS d) * zV (zS d)).natAbs).val + (natF q.natAbs).val) : Int)) && decide (zV (zS d) * zV (zS d) < 0))) = true := h2
        rw [dn p1, dn_and hd2] at h2
        exact absurd h2 (by decide)
      have eA : (natF (zV (zS d) * zV (zS d)).natAbs).val + (natF q.natAbs).val = d * d + q := by rw [natF_abs hd2, natF_abs q1, hdd]
      have nA : 0 ≤ d * d + q := by rw [hdd] at hd2; omega
      have hNA : (natF ((natF (zV (zS d) * zV (zS d)).natAbs).val + (natF q.natAbs).val)).Nat := by
        rw [eA]
        have := (((d1.mul d1).add q2) : Bw 241 _).nat (by decide)
        rw [show ((d * d + q).natAbs : Int) = d * d + q by omega] at this
        exact this
      have eB : (natF ((natF (zV (zS d) * zV (zS d)).natAbs).val + (natF q.natAbs).val)).val = d * d + q := by rw [eA, natF_val nA]
      refine And.intro ⟨fun _ _ => trivial, fun _ _ => trivial, p2.nat (by decide), hNA⟩ ?_
      refine And.intro (fun h3 => ?_) (fun h3 => ?_)
      · have h3 : 0 ≤ cmpI (natF p.natAbs).val (natF ((natF (zV (zS d) * zV (zS d)).natAbs).val + (natF q.natAbs).val)).val := of_decide_eq_true h3
        rw [natF_abs p1, eB] at h3
        have hle : d * d + q ≤ p := by
          refine Int.not_lt.1 fun hc => ?_
          rw [cmpI_neg1 hc] at h3; omega
        refine And.intro ⟨fun _ _ => trivial, fun _ _ => trivial, rfl, p2.nat (by decide), hNA, ?_⟩ ?_
        · show (natF ((natF (zV (zS d) * zV (zS d)).natAbs).val + (natF q.natAbs).val)).val ≤ (natF p.natAbs).val
          rw [natF_abs p1, eB]; exact hle
        have eV : (natF p.natAbs).val - (natF ((natF (zV (zS d) * zV (zS d)).natAbs).val + (natF q.natAbs).val)).val = ((p - (d * d + q)).natAbs : Int) := by rw [natF_abs p1, eB]; omega
        refine ⟨(), [], [.freeze 0], trivial, trivial, ?_⟩
        repeat' (first | exact rfl | (refine And.intro ?_ ?_) | (intro _))
        · show decide (p - (d * d + q) < 0) = (decide (0 < (lenI ((natF p.natAbs).val - (natF ((natF (zV (zS d) * zV (zS d)).natAbs).val + (natF q.natAbs).val)).val) : Int)) && decide (p < 0))
          rw [dn_and p1]; exact dn (by omega)
        · exact congrArg (fun z => (natF z).n) eV.symm
        · rename_i i _
          exact congrArg (fun z => (natF z).g i) eV.symm
      · have h3 : ¬ 0 ≤ cmpI (natF p.natAbs).val (natF ((natF (zV (zS d) * zV (zS d)).natAbs).val + (natF q.natAbs).val)).val := of_decide_eq_false h3
        rw [natF_abs p1, eB] at h3
        have hle : p < d * d + q := by
          refine Int.not_le.1 fun hc => h3 ?_
          rcases Int.lt_or_eq_of_le hc with k | k
          · rw [cmpI_one k]; decide
          · rw [k, cmpI_self]; decide
        refine And.intro ⟨fun _ _ => trivial, fun _ _ => trivial, rfl, hNA, p2.nat (by decide), ?_⟩ ?_
        · show (natF p.natAbs).val ≤ (natF ((natF (zV (zS d) * zV (zS d)).natAbs).val + (natF q.natAbs).val)).val
          rw [natF_abs p1, eB]; omega
        have eV : (natF ((natF (zV (zS d) * zV (zS d)).natAbs).val + (natF q.natAbs).val)).val - (natF p.natAbs).val = ((p - (d * d + q)).natAbs : Int) := by rw [natF_abs p1, eB]; omega
        refine ⟨(), [], [.freeze 0], trivial, trivial, ?_⟩
        repeat' (first | exact rfl | (refine And.intro ?_ ?_) | (intro _))
        · show decide (p - (d * d + q) < 0) = (decide (0 < (lenI ((natF ((natF (zV (zS d) * zV (zS d)).natAbs).val + (natF q.natAbs).val)).val - (natF p.natAbs).val) : Int)) && !decide (p < 0))
          rw [eV, len_abs, dn p1, Bool.not_false, Bool.and_true, decide_eq_true (by omega : p - (d * d + q) < 0)]
          exact (decide_eq_true (by omega)).symm
        · exact congrArg (fun z => (natF z).n) eV.symm
        · rename_i i _
          exact congrArg (fun z => (natF z).g i) eV.symm
    · exfalso
      have h1 : (decide (zV (zS d) * zV (zS d) < 0) == decide (q < 0)) = false := h1
      rw [dn hd2, dn q1] at h1
      exact absurd h1 (by decide)
  refine fun _ _ => ?_
  refine Exists.intro (sg6 d p q (p - (d * d + q))) ?_
  refine And.intro ?_ ?_
  · refine And.intro (fun h1 => ?_) (fun h1 => ?_)
    · have h1 : p - (d * d + q) = 0 := len_zero (of_decide_eq_true h1)
      refine ⟨(), [], [], trivial, (by omega : 0 ≤ p - (d * d + q)), ?_⟩
      repeat' (first | exact rfl | (refine And.intro ?_ ?_) | (intro _))
    refine And.intro (fun h2 => ?_) (fun h2 => ?_)
    · have h2 : p - (d * d + q) < 0 := of_decide_eq_true h2
      show sgnP d p q = 1
      unfold sgnP
      rw [if_pos h2]
    have h2 : ¬ p - (d * d + q) < 0 := of_decide_eq_false h2
    refine ⟨(), [], [], trivial, (by omega : 0 ≤ p - (d * d + q)), ?_⟩
    repeat' (first | exact rfl | (refine And.intro ?_ ?_) | (intro _))
  refine fun _ (he0 : 0 ≤ p - (d * d + q)) => ?_
  have g2 : zV (zS (zV (zS d) * zV (zS d))) * zV (zS q) = d * d * q := by rw [hdd, zV_zS, zV_zS]
  have g3 : zV (zS 4) * zV (zS (zV (zS (zV (zS d) * zV (zS d))) * zV (zS q))) = 4 * (d * d * q) := by rw [g2, zV_zS, zV_zS]
  have g4 : zV (zS (p - (d * d + q))) * zV (zS (p - (d * d + q))) = (p - (d * d + q)) * (p - (d * d + q)) := by rw [zV_zS]
  have w4 : Bw 3 4 := by show Int.natAbs 4 < 2 ^ 3; decide
  have hdq : Bw 480 (d * d * q) := (d1.mul d1).mul q2
  have b1 : Bd (zV (zS d) * zV (zS d)) := by rw [hdd]; exact (d1.mul d1).bd (by decide)
  have b2 : Bd (zV (zS (zV (zS d) * zV (zS d))) * zV (zS q)) := by rw [g2]; exact hdq.bd (by decide)
  refine And.intro ⟨by decide, by decide⟩ ?_
  refine And.intro ⟨zz d, zz d, bdz (d1.bd (by decide)), bdz (d1.bd (by decide))⟩ ?_
  refine And.intro ⟨zz _, zz q, bdz b1, bdz (q2.bd (by decide))⟩ ?_
  refine And.intro ⟨zz _, zz _, bdz (w4.bd (by decide)), bdz b2⟩ ?_
  refine And.intro ⟨zz _, zz _, bdz (he.bd (by decide)), bdz (he.bd (by decide))⟩ ?_
  have eS : sgnP d p q = cmpI (4 * (d * d * q)) ((p - (d * d + q)) * (p - (d * d + q))) := by unfold sgnP; rw [if_neg (by omega)]
  have z3 : 0 ≤ zV (zS 4) * zV (zS (zV (zS (zV (zS d) * zV (zS d))) * zV (zS q))) := by rw [g3]; exact Int.mul_nonneg (by decide) (Int.mul_nonneg (sq_nn d) q1)
  have z4 : 0 ≤ zV (zS (p - (d * d + q))) * zV (zS (p - (d * d + q))) := by rw [g4]; exact sq_nn _
  have t3 : Bw 483 (zV (zS 4) * zV (zS (zV (zS (zV (zS d) * zV (zS d))) * zV (zS q)))) := by rw [g3]; exact w4.mul hdq
  have t4 : Bw 484 (zV (zS (p - (d * d + q))) * zV (zS (p - (d * d + q)))) := by rw [g4]; exact he.mul he
  rw [← g3, ← g4] at eS
  refine fun (s : Bool) hs => ?_
  refine And.intro (fun h1 => ?_) (fun h1 => ?_)
  · have h1 : (s != false) = true := h1
    have e : zV (zS 4) * zV (zS (zV (zS (zV (zS d) * zV (zS d))) * zV (zS q))) = zV (zS (p - (d * d + q))) * zV (zS (p - (d * d + q))) := same_int (hs (by simpa using h1))
    show sgnP d p q = 0
    rw [eS, ← e]
    exact cmpI_self _
  refine And.intro (fun h2 => ?_) (fun h2 => ?_)
  · refine And.intro ⟨fun _ _ => trivial, fun _ _ => trivial, t3.nat (by decide), t4.nat (by decide)⟩ ?_
    refine And.intro (fun h3 => ?_) (fun _ => ?_)
    · have h3 : decide (zV (zS 4) * zV (zS (zV (zS (zV (zS d) * zV (zS d))) * zV (zS q))) < 0) = true := h3
      rw [dn z3] at h3
      exact absurd h3 (by decide)
    have eC : cmpI (zV (zS 4) * zV (zS (zV (zS (zV (zS d) * zV (zS d))) * zV (zS q)))) (zV (zS (p - (d * d + q))) * zV (zS (p - (d * d + q)))) = cmpI (natF (zV (zS 4) * zV (zS (zV (zS (zV (zS d) * zV (zS d))) * zV (zS q)))).natAbs).val (natF (zV (zS (p - (d * d + q))) * zV (zS (p - (d * d + q)))).natAbs).val := by rw [natF_abs z3, natF_abs z4]
    exact eS.trans eC
  · have h2 : (decide (zV (zS 4) * zV (zS (zV (zS (zV (zS d) * zV (zS d))) * zV (zS q))) < 0) == decide (zV (zS (p - (d * d + q))) * zV (zS (p - (d * d + q))) < 0)) = false := h2
    rw [dn z3, dn z4] at h2
    exact absurd h2 (by decide)
noncomputable def conSignP : Con cx := walkCon 57 Tryz.call57 (rds3 rdX rdX rdX) (fun (a : SV × SV × SV) => [a.1 = zS (zV a.1), a.2.1 = zS (zV a.2.1), a.2.2 = zS (zV a.2.2), SgB (zV a.1) (zV a.2.1) (zV a.2.2), 0 ≤ zV a.1]) (fun a => .v (.int .i64 (sgnP (zV a.1) (zV a.2.1) (zV a.2.2)))) (fun _ => ⟨[], [3, 4, 6], [], 0⟩) [] (fun _ => rfl) follows Tryz.func57 (by kernel_rfl) SignP_walk
end Go.Proofs.YtcojfohjdibjjaaGreatDoor
namespace Go.Proofs.YtcojfohjdibjjaaGreatDoor
open Go.RowKit

theorem sgnP_rng (d p q : Int) : -1 ≤ sgnP d p q ∧ sgnP d p q ≤ 1 := by
  unfold sgnP
  split
  · decide
  · exact cmpI_rng _ _
theorem sgnE_rng (d p q : Int) : -1 ≤ sgnE d p q ∧ sgnE d p q ≤ 1 := by
  unfold sgnE
  split
  · have := sgnP_rng (-d) q p; omega
  · exact sgnP_rng _ _ _

set_option maxHeartbeats 4000000 in
set_option maxRecDepth 8000 in
theorem SignN_walk : ∀ a, conj ((fun (a : SV × SV × SV) => [a.1 = zS (zV a.1), a.2.1 = zS (zV a.2.1), a.2.2 = zS (zV a.2.2), SgB (zV a.1) (zV a.2.1) (zV a.2.2)]) a) → decide (0 ≤ zV a.1) = false → evFn (C := cx) [conSignP, conNSet] [inSign, inNeg, inISet] 2 noHow Tryz.f57 ((rds3 rdX rdX rdX).enc a) fun v H _ => resOut (.v (.int .i64 (sgnE (zV a.1) (zV a.2.1) (zV a.2.2)))) H v := by
  intro ⟨a, b, c⟩ ⟨ha, hb, hc, hs⟩ hd
  replace ha : a = zS (zV a) := ha
  replace hb : b = zS (zV b) := hb
  replace hc : c = zS (zV c) := hc
  replace hs : SgB (zV a) (zV b) (zV c) := hs
  replace hd : ¬ 0 ≤ zV a := of_decide_eq_false hd
  show evFn (C := cx) [conSignP, conNSet] [inSign, inNeg, inISet] 2 noHow Tryz.f57 [a, b, c] fun v H _ => resOut (.v (.int .i64 (sgnE (zV a) (zV b) (zV c)))) H v
  generalize zV a = d at *
  generalize zV b = p at *
  generalize zV c = q at *
  subst ha hb hc
  obtain ⟨d1, ⟨p1, p2⟩, q1, q2⟩ := hs
  have hl : 0 < lenI d.natAbs := lenI_pos.2 (by omega)
  refine And.intro (fun h1 => ?_) (fun h1 => ?_)
  · have h1 : d = 0 := len_zero (of_decide_eq_true h1)
    omega
  refine And.intro (fun h2 => ?_) (fun h2 => ?_)
  · refine And.intro ⟨fun _ _ => trivial, rfl, d1.nat (by decide), hl⟩ ?_
    have e0 : (-d).natAbs = d.natAbs := Int.natAbs_neg d
    have eN : SV.rp [.v (.bool (decide (0 < (lenI d.natAbs : Int)) && !decide (d < 0))), (natF d.natAbs).ws] 0 = zS (-d) := by
      show _ = SV.rp [.v (.bool (decide (-d < 0))), (natF (-d).natAbs).ws] 0
      rw [e0, len_abs, decide_eq_true (show d < 0 by omega), decide_eq_false (show ¬ -d < 0 by omega), Bool.not_true, Bool.and_false]
    have k1 : SV.rp [.v (.bool (decide (0 < (lenI d.natAbs : Int)) && !decide (d < 0))), (natF d.natAbs).ws] 0 = zS (zV (SV.rp [.v (.bool (decide (0 < (lenI d.natAbs : Int)) && !decide (d < 0))), (natF d.natAbs).ws] 0)) := by rw [eN]; exact zz _
    have k2 : zV (SV.rp [.v (.bool (decide (0 < (lenI d.natAbs : Int)) && !decide (d < 0))), (natF d.natAbs).ws] 0) = -d := by rw [eN, zV_zS]
    have k3 : SgB (zV (SV.rp [.v (.bool (decide (0 < (lenI d.natAbs : Int)) && !decide (d < 0))), (natF d.natAbs).ws] 0)) (zV (zS q)) (zV (zS p)) := by
      rw [k2, zV_zS, zV_zS]; exact ⟨d1.neg, ⟨q1, q2⟩, p1, p2⟩
    have k4 : 0 ≤ zV (SV.rp [.v (.bool (decide (0 < (lenI d.natAbs : Int)) && !decide (d < 0))), (natF d.natAbs).ws] 0) := by rw [k2]; omega
    refine And.intro ⟨k1, zz q, zz p, k3, k4⟩ ?_
    have eS : sgnE d p q = - sgnP (zV (SV.rp [.v (.bool (decide (0 < (lenI d.natAbs : Int)) && !decide (d < 0))), (natF d.natAbs).ws] 0)) (zV (zS q)) (zV (zS p)) := by
      rw [k2, zV_zS, zV_zS]; unfold sgnE; rw [if_pos (by omega)]
    have r1 := sgnP_rng (zV (SV.rp [.v (.bool (decide (0 < (lenI d.natAbs : Int)) && !decide (d < 0))), (natF d.natAbs).ws] 0)) (zV (zS q)) (zV (zS p))
    have r2 : -9223372036854775808 ≤ -sgnP (zV (SV.rp [.v (.bool (decide (0 < (lenI d.natAbs : Int)) && !decide (d < 0))), (natF d.natAbs).ws] 0)) (zV (zS q)) (zV (zS p)) ∧ -sgnP (zV (SV.rp [.v (.bool (decide (0 < (lenI d.natAbs : Int)) && !decide (d < 0))), (natF d.natAbs).ws] 0)) (zV (zS q)) (zV (zS p)) ≤ 9223372036854775807 := by omega
    repeat' (first | exact rfl | exact eS | exact r2.1 | exact r2.2 | (refine And.intro ?_ ?_) | (intro _))
    all_goals skip
  · exact absurd (of_decide_eq_false h2) (by omega)
theorem sgnE_P {d p q : Int} (h : 0 ≤ d) : sgnP d p q = sgnE d p q := by unfold sgnE; rw [if_neg (by omega)]
noncomputable def conSign : Con cx := walkCase (Γ := intC) (Fs := intI) (d := 2) (Γ' := [conSignP, conNSet]) (Fs' := [inSign, inNeg, inISet]) (d' := 2) 57 Tryz.call57 (rds3 rdX rdX rdX) (fun (a : SV × SV × SV) => [a.1 = zS (zV a.1), a.2.1 = zS (zV a.2.1), a.2.2 = zS (zV a.2.2), SgB (zV a.1) (zV a.2.1) (zV a.2.2)]) (fun a => .v (.int .i64 (sgnE (zV a.1) (zV a.2.1) (zV a.2.2)))) (fun a => decide (0 ≤ zV a.1)) ⟨[], [3, 4, 6], [], 0⟩ noHow follows Tryz.func57 (by kernel_rfl) (by kernel_rfl) (fun a ⟨h1, h2, h3, h4⟩ hc => by
    have hd : 0 ≤ zV a.1 := of_decide_eq_true hc
    have := SignP_walk a ⟨h1, h2, h3, h4, hd⟩
    rw [sgnE_P hd] at this
    exact this) SignN_walk
end Go.Proofs.YtcojfohjdibjjaaGreatDoor
namespace Go.Proofs.YtcojfohjdibjjaaGreatDoor
open Go.RowKit

/-- A place as it lies in memory; what memory tells. -/
def plS (p : Plc) : SV := .agg [zS p.n, zS p.s, zS p.m]
def plV (a : SV) : Plc := ⟨zV (hdS a.al), zV (hdS (tlS a.al)), zV (hdS (tlS (tlS a.al)))⟩
theorem plV_plS (p : Plc) : plV (plS p) = p := by
  show Plc.mk (zV (zS p.n)) (zV (zS p.s)) (zV (zS p.m)) = p
  rw [zV_zS, zV_zS, zV_zS]
/-- Places that can be compared. -/
def PlB (p : Plc) : Prop := Bw 40 p.n ∧ (0 ≤ p.s ∧ Bw 80 p.s) ∧ Bw 40 p.m
theorem PlB.sg {p q : Plc} (h : PlB p) (g : PlB q) : SgB (p.n * q.m - q.n * p.m) (p.s * (q.m * q.m)) (q.s * (p.m * p.m)) :=
  ⟨((h.1.mul g.2.2).sub (g.1.mul h.2.2)).mono (by decide), ⟨Int.mul_nonneg h.2.1.1 (sq_nn _), (h.2.1.2.mul (g.2.2.mul g.2.2)).mono (by decide)⟩, Int.mul_nonneg g.2.1.1 (sq_nn _), (g.2.1.2.mul (h.2.2.mul h.2.2)).mono (by decide)⟩
/-- What an addition writes is the number D. -/
def Sgn (D V : Int) (B : Bool) : Prop := V = (D.natAbs : Int) ∧ decide (D < 0) = (decide (0 < (lenI V : Int)) && B)
theorem sgn_of {D V : Int} {B : Bool} (hV : V = (D.natAbs : Int)) (h1 : D < 0 → B = true) (h2 : 0 < D → B = false) : Sgn D V B := by
  refine ⟨hV, ?_⟩
  rw [hV, len_abs]
  rcases Int.lt_trichotomy D 0 with h | h | h
  · rw [h1 h]; simp [h]; omega
  · subst h; rfl
  · rw [h2 h, Bool.and_false]; exact dn (by omega)
theorem cmp_ge {x y : Int} (h : 0 ≤ cmpI x y) : y ≤ x := Int.not_lt.1 fun k => by rw [cmpI_neg1 k] at h; omega
theorem cmp_le {x y : Int} (h : ¬ 0 ≤ cmpI x y) : x ≤ y := Int.not_lt.1 fun k => by rw [cmpI_one k] at h; omega
theorem v_abs (x : Int) : (natF x.natAbs).val = (x.natAbs : Int) := natF_val (abs_nn x)
theorem ne_dec {x y : Int} (h : (decide (x < 0) == decide (y < 0)) = false) : x < 0 ↔ ¬ y < 0 := by
  by_cases hx : x < 0 <;> by_cases hy : y < 0 <;> simp_all
theorem eq_dec {x y : Int} (h : (decide (x < 0) == decide (y < 0)) = true) : x < 0 ↔ y < 0 := by
  have h : decide (x < 0) = decide (y < 0) := eq_of_beq h
  exact ⟨fun k => of_decide_eq_true (h ▸ decide_eq_true k), fun k => of_decide_eq_true (h.symm ▸ decide_eq_true k)⟩
theorem dec_t {x : Int} (h : x < 0) : decide (x < 0) = true := decide_eq_true h
theorem dec_f {x : Int} (h : ¬ x < 0) : decide (x < 0) = false := decide_eq_false h
theorem add1 {X Y V : Int} (h : (decide (X < 0) == decide (Y < 0)) = true) (hV : V = (natF X.natAbs).val + (natF Y.natAbs).val) : Sgn (X + Y) V (decide (X < 0)) := by
  have h := eq_dec h
  rw [v_abs, v_abs] at hV
  exact sgn_of (by omega) (fun k => dec_t (by omega)) (fun k => dec_f (by omega))
theorem add2 {X Y V : Int} (h : (decide (X < 0) == decide (Y < 0)) = false) (c : 0 ≤ cmpI (natF X.natAbs).val (natF Y.natAbs).val) (hV : V = (natF X.natAbs).val - (natF Y.natAbs).val) : Sgn (X + Y) V (decide (X < 0)) := by
  have h := ne_dec h
  have c := cmp_ge c
  rw [v_abs, v_abs] at hV c
  exact sgn_of (by omega) (fun k => dec_t (by omega)) (fun k => dec_f (by omega))
theorem add3 {X Y V : Int} (h : (decide (X < 0) == decide (Y < 0)) = false) (c : ¬ 0 ≤ cmpI (natF X.natAbs).val (natF Y.natAbs).val) (hV : V = (natF Y.natAbs).val - (natF X.natAbs).val) : Sgn (X + Y) V (!decide (X < 0)) := by
  have h := ne_dec h
  have c := cmp_le c
  rw [v_abs, v_abs] at hV c
  exact sgn_of (by omega) (fun k => by rw [dec_f (by omega)]; rfl) (fun k => by rw [dec_t (by omega)]; rfl)
theorem neg_dec {x y : Int} : (decide (x < 0) != decide (y < 0)) = !(decide (x < 0) == decide (y < 0)) := rfl
theorem sub1 {X Y V : Int} (h : (decide (X < 0) != decide (Y < 0)) = true) (hV : V = (natF X.natAbs).val + (natF Y.natAbs).val) : Sgn (X - Y) V (decide (X < 0)) := by
  have h := ne_dec (by simpa [bne] using h)
  rw [v_abs, v_abs] at hV
  exact sgn_of (by omega) (fun k => dec_t (by omega)) (fun k => dec_f (by omega))
theorem sub2 {X Y V : Int} (h : (decide (X < 0) != decide (Y < 0)) = false) (c : 0 ≤ cmpI (natF X.natAbs).val (natF Y.natAbs).val) (hV : V = (natF X.natAbs).val - (natF Y.natAbs).val) : Sgn (X - Y) V (decide (X < 0)) := by
  have h := eq_dec (by simpa [bne] using h)
  have c := cmp_ge c
  rw [v_abs, v_abs] at hV c
  exact sgn_of (by omega) (fun k => dec_t (by omega)) (fun k => dec_f (by omega))
theorem sub3 {X Y V : Int} (h : (decide (X < 0) != decide (Y < 0)) = false) (c : ¬ 0 ≤ cmpI (natF X.natAbs).val (natF Y.natAbs).val) (hV : V = (natF Y.natAbs).val - (natF X.natAbs).val) : Sgn (X - Y) V (!decide (X < 0)) := by
  have h := eq_dec (by simpa [bne] using h)
  have c := cmp_le c
  rw [v_abs, v_abs] at hV c
  exact sgn_of (by omega) (fun k => by rw [dec_f (by omega)]; rfl) (fun k => by rw [dec_t (by omega)]; rfl)
def cp2 (p q : Plc) : Cut := ⟨Unit, fun _ => True, fun _ => ⟨[sl 2 (.rp [zS p.n, zS p.s, zS p.m] 0), sl 3 (.rp [zS q.n, zS q.s, zS q.m] 0), sl 5 (zS (p.n * q.m - q.n * p.m))], [], 0, 0, [], []⟩, fun _ => 0⟩
set_option maxHeartbeats 4000000 in
set_option maxRecDepth 8000 in
theorem Compare_walk : ∀ a, conj ((fun (a : SV × SV) => [a.1 = plS (plV a.1), a.2 = plS (plV a.2), PlB (plV a.1), PlB (plV a.2)]) a) → evFn (C := cx) [conTimes, conNAdd, conNSub, conNCmp, conSign] [inSub] 1 ⟨[120001, 2], [2], [], 0⟩ Tryz.f26 ((rds2 rdX rdX).enc a) fun v H _ => resOut (.v (.int .i64 (refC (plV a.1) (plV a.2)))) H v := by
  intro ⟨a, b⟩ ⟨ha, hb, hx, hy⟩
  replace ha : a = plS (plV a) := ha
  replace hb : b = plS (plV b) := hb
  replace hx : PlB (plV a) := hx
  replace hy : PlB (plV b) := hy
  show evFn (C := cx) [conTimes, conNAdd, conNSub, conNCmp, conSign] [inSub] 1 ⟨[120001, 2], [2], [], 0⟩ Tryz.f26 [a, b] fun v H _ => resOut (.v (.int .i64 (refC (plV a) (plV b)))) H v
  generalize plV a = p at *
  generalize plV b = q at *
  subst ha hb
  have hs := hx.sg hy
  refine Exists.intro (cp2 p q) ?_
  refine And.intro ?_ ?_
  · have hX : zV (zS p.n) * zV (zS q.m) = p.n * q.m := by rw [zV_zS, zV_zS]
    have hY : zV (zS q.n) * zV (zS p.m) = q.n * p.m := by rw [zV_zS, zV_zS]
    have hD : zV (zS p.n) * zV (zS q.m) - zV (zS q.n) * zV (zS p.m) = p.n * q.m - q.n * p.m := by rw [hX, hY]
    have nX : (natF (zV (zS p.n) * zV (zS q.m)).natAbs).Nat := by rw [hX]; exact (hx.1.mul hy.2.2).nat (by decide)
    have nY : (natF (zV (zS q.n) * zV (zS p.m)).natAbs).Nat := by rw [hY]; exact (hy.1.mul hx.2.2).nat (by decide)
    refine And.intro ⟨zz _, zz _, bdz (hx.1.bd (by decide)), bdz (hy.2.2.bd (by decide))⟩ ?_
    refine And.intro ⟨zz _, zz _, bdz (hy.1.bd (by decide)), bdz (hx.2.2.bd (by decide))⟩ ?_
    refine And.intro (fun h1 => ?_) (fun h1 => ?_)
    · have h1 : (decide (zV (zS p.n) * zV (zS q.m) < 0) != decide (zV (zS q.n) * zV (zS p.m) < 0)) = true := h1
      refine And.intro ⟨fun _ _ => trivial, fun _ _ => trivial, rfl, nX, nY⟩ ?_
      have g : Sgn (p.n * q.m - q.n * p.m) _ _ := hD ▸ sub1 (X := zV (zS p.n) * zV (zS q.m)) (Y := zV (zS q.n) * zV (zS p.m)) h1 rfl
      refine ⟨(), [], [.freeze 0, .freeze 1, .freeze 2], trivial, trivial, ?_⟩
      repeat' (first | exact rfl | (refine And.intro ?_ ?_) | (intro _))
      · exact g.2
      · exact congrArg (fun z => (natF z).n) g.1.symm
      · rename_i i _
        exact congrArg (fun z => (natF z).g i) g.1.symm
    have h1 : (decide (zV (zS p.n) * zV (zS q.m) < 0) != decide (zV (zS q.n) * zV (zS p.m) < 0)) = false := h1
    refine And.intro ⟨fun _ _ => trivial, fun _ _ => trivial, nX, nY⟩ ?_
    refine And.intro (fun h2 => ?_) (fun h2 => ?_)
    · have h2 : 0 ≤ cmpI (natF (zV (zS p.n) * zV (zS q.m)).natAbs).val (natF (zV (zS q.n) * zV (zS p.m)).natAbs).val := of_decide_eq_true h2
      refine And.intro ⟨fun _ _ => trivial, fun _ _ => trivial, rfl, nX, nY, cmp_ge h2⟩ ?_
      have g : Sgn (p.n * q.m - q.n * p.m) _ _ := hD ▸ sub2 (X := zV (zS p.n) * zV (zS q.m)) (Y := zV (zS q.n) * zV (zS p.m)) h1 h2 rfl
      refine ⟨(), [], [.freeze 0, .freeze 1, .freeze 2], trivial, trivial, ?_⟩
      repeat' (first | exact rfl | (refine And.intro ?_ ?_) | (intro _))
      · exact g.2
      · exact congrArg (fun z => (natF z).n) g.1.symm
      · rename_i i _
        exact congrArg (fun z => (natF z).g i) g.1.symm
    · have h2 : ¬ 0 ≤ cmpI (natF (zV (zS p.n) * zV (zS q.m)).natAbs).val (natF (zV (zS q.n) * zV (zS p.m)).natAbs).val := of_decide_eq_false h2
      refine And.intro ⟨fun _ _ => trivial, fun _ _ => trivial, rfl, nY, nX, cmp_le h2⟩ ?_
      have g : Sgn (p.n * q.m - q.n * p.m) _ _ := hD ▸ sub3 (X := zV (zS p.n) * zV (zS q.m)) (Y := zV (zS q.n) * zV (zS p.m)) h1 h2 rfl
      refine ⟨(), [], [.freeze 0, .freeze 1, .freeze 2], trivial, trivial, ?_⟩
      repeat' (first | exact rfl | (refine And.intro ?_ ?_) | (intro _))
      · exact g.2
      · exact congrArg (fun z => (natF z).n) g.1.symm
      · rename_i i _
        exact congrArg (fun z => (natF z).g i) g.1.symm
  refine fun _ _ => ?_
  have m1 : zV (zS q.m) * zV (zS q.m) = q.m * q.m := by rw [zV_zS]
  have m2 : zV (zS p.m) * zV (zS p.m) = p.m * p.m := by rw [zV_zS]
  have s1 : zV (zS p.s) * zV (zS (zV (zS q.m) * zV (zS q.m))) = p.s * (q.m * q.m) := by rw [m1, zV_zS, zV_zS]
  have s2 : zV (zS q.s) * zV (zS (zV (zS p.m) * zV (zS p.m))) = q.s * (p.m * p.m) := by rw [m2, zV_zS, zV_zS]
  have b1 : Bd (zV (zS q.m) * zV (zS q.m)) := by rw [m1]; exact (hy.2.2.mul hy.2.2).bd (by decide)
  have b2 : Bd (zV (zS p.m) * zV (zS p.m)) := by rw [m2]; exact (hx.2.2.mul hx.2.2).bd (by decide)
  refine And.intro ⟨zz _, zz _, bdz (hy.2.2.bd (by decide)), bdz (hy.2.2.bd (by decide))⟩ ?_
  refine And.intro ⟨zz _, zz _, bdz (hx.2.1.2.bd (by decide)), bdz b1⟩ ?_
  refine And.intro ⟨zz _, zz _, bdz (hx.2.2.bd (by decide)), bdz (hx.2.2.bd (by decide))⟩ ?_
  refine And.intro ⟨zz _, zz _, bdz (hy.2.1.2.bd (by decide)), bdz b2⟩ ?_
  have k : SgB (zV (zS (p.n * q.m - q.n * p.m))) (zV (zS (zV (zS p.s) * zV (zS (zV (zS q.m) * zV (zS q.m)))))) (zV (zS (zV (zS q.s) * zV (zS (zV (zS p.m) * zV (zS p.m)))))) := by rw [zV_zS, s1, s2, zV_zS, zV_zS]; exact hs
  refine And.intro ⟨zz _, zz _, zz _, k⟩ ?_
  show refC p q = sgnE (zV (zS (p.n * q.m - q.n * p.m))) (zV (zS (zV (zS p.s) * zV (zS (zV (zS q.m) * zV (zS q.m)))))) (zV (zS (zV (zS q.s) * zV (zS (zV (zS p.m) * zV (zS p.m))))))
  rw [zV_zS, s1, s2, zV_zS, zV_zS]; rfl
noncomputable def conCompare : Con cx := walkCon 26 Tryz.call26 (rds2 rdX rdX) (fun (a : SV × SV) => [a.1 = plS (plV a.1), a.2 = plS (plV a.2), PlB (plV a.1), PlB (plV a.2)]) (fun a => .v (.int .i64 (refC (plV a.1) (plV a.2)))) (fun _ => ⟨[120001, 2], [2], [], 0⟩) [120001, 2] (fun _ => rfl) follows Tryz.func26 (by kernel_rfl) Compare_walk
end Go.Proofs.YtcojfohjdibjjaaGreatDoor
