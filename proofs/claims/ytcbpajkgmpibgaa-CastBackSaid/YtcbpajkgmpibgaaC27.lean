/- CastOrder: the plain laws. -/
import Derived.Test.YtcbpajkgmpibgaaC25
namespace Go.Proofs.Ytcbpajkgmpibgaa
open Go.RowKit

theorem lt_dense {w : Plc} (hm : 0 < w.m) {a b : Int} (hb : 0 < b) (h : w.lt a b) : ∃ K, 0 < K ∧ w.le (a * K - 1) (b * K) := by
  unfold Plc.lt at h
  obtain ⟨N, hN⟩ : ∃ N, N = w.n * b - a * w.m := ⟨_, rfl⟩
  rw [← hN] at h
  have key : ∀ K, w.n * (b * K) - (a * K - 1) * w.m = N * K + w.m := fun K => by rw [hN]; grind
  rcases Int.lt_or_le N 0 with hneg | hpos
  · refine ⟨w.m, hm, .inl ?_⟩
    rw [key]
    have : N * w.m ≤ (-1) * w.m := Int.mul_le_mul_of_nonneg_right (by omega) (by omega)
    omega
  · have hlt : N * N < b * b * w.s := by
      rcases h with h | h
      · omega
      · exact h
    obtain ⟨K, hK⟩ : ∃ K, K = 2 * N * w.m + w.m * w.m + 1 := ⟨_, rfl⟩
    have hNm : 0 ≤ 2 * N * w.m := Int.mul_nonneg (by omega) (by omega)
    have hmm := sq_nn w.m
    have hK1 : 1 ≤ K := by omega
    refine ⟨K, by omega, .inr ?_⟩
    rw [key]
    have e1 : (N * K + w.m) * (N * K + w.m) = N * N * (K * K) + (2 * N * w.m) * K + w.m * w.m := by grind
    have e2 : b * K * (b * K) * w.s = b * b * w.s * (K * K) := by grind
    have h1 : (N * N + 1) * (K * K) ≤ b * b * w.s * (K * K) := Int.mul_le_mul_of_nonneg_right (by omega) (sq_nn K)
    have e3 : (N * N + 1) * (K * K) = N * N * (K * K) + K * K := by grind
    have h2 : K * K = (2 * N * w.m) * K + (w.m * w.m) * K + K := by
      have : K * K = (2 * N * w.m + w.m * w.m + 1) * K := by rw [← hK]
      rw [this]; grind
    have h3 : w.m * w.m * 1 ≤ w.m * w.m * K := Int.mul_le_mul_of_nonneg_left hK1 hmm
    rw [e1, e2]
    omega
/-- What comes before it, is less than what is greater. -/
theorem ord_lt {x y : Plc} (hxm : 0 < x.m) (hym : 0 < y.m) (hxs : 0 ≤ x.s) (hys : 0 ≤ y.s) (hm : x.s ≠ 0 → y.s ≠ 0 → x.m = y.m) {a b : Int} (hb : 0 < b) (h : ordP x y ≤ 0) (k : y.lt a b) : x.lt a b := by
  obtain ⟨K, hK, hle⟩ := lt_dense hym hb k
  have hbK : 0 < b * K := Int.mul_pos hb hK
  have := ord_trans hxm hym hxs hys hm hbK h hle
  refine Plc.le_lt hxm hbK hb this ?_
  have e1 : (a * K - 1) * b = a * (b * K) - b := by grind
  omega
theorem partW_mono {x y : Plc} (hxm : 0 < x.m) (hym : 0 < y.m) (hxs : 0 ≤ x.s) (hys : 0 ≤ y.s) (hm : x.s ≠ 0 → y.s ≠ 0 → x.m = y.m) (h : ordP x y ≤ 0) : partW x ≤ partW y := by
  rcases Nat.lt_or_ge (partW y) (partW x) with hlt | hge
  · exfalso
    have := partW_le (w := x)
    exact partW_lt hxs hxm hlt (ord_lt hxm hym hxs hys hm (by decide) h (partW_ge hys (by omega)))
  · exact hge
/-- Places that have roots, have the segment's length as their divisor. -/
theorem where_m {b : Body} {p q : Vec} (h : (whereP b p q).2 = true) (hs : (whereP b p q).1.s ≠ 0) : (whereP b p q).1.m = segA p q := by
  unfold whereP at *
  split at hs
  · rename_i e
    rw [e] at h
    exact absurd (enter_yes h).1.s hs
  · split at hs
    · exact absurd rfl hs
    · split at hs
      · exact absurd rfl hs
      · rfl
section
variable {F : Nat → Body} {p q : Vec} {m : Nat} (hinc : ∀ i j, i < j → j < m → (F i).iD < (F j).iD)
include hinc
theorem id_inj {i j : Nat} (hi : i < m) (hj : j < m) (h : (F i).iD = (F j).iD) : i = j := by
  rcases Nat.lt_trichotomy i j with c | c | c
  · have := hinc i j c hj; omega
  · exact c
  · have := hinc j i c hi; omega
theorem findN_id {j : Nat} (hj : j < m) : ∀ {r k : Nat}, k ≤ j → j < k + r → k + r ≤ m → findN F (F j).iD k r = (F j, true)
  | 0, k, h1, h2, _ => by omega
  | r + 1, k, h1, h2, h3 => by
    simp only [findN]
    split
    · rename_i h
      rw [id_inj hinc (by omega) hj (of_decide_eq_true h)]
    · rename_i h
      have h := of_decide_eq_false h
      have : k ≠ j := fun e => h (by rw [e])
      exact findN_id hj (by omega) (by omega) (by omega)
theorem plK_id {j : Nat} (hj : j < m) (hmet : metB F p q j = true) : ∀ {k : Nat}, j < k → k ≤ m → plK F p q k (F j).iD = (whereP (F j) p q).1
  | 0, h, _ => by omega
  | k + 1, h, h2 => by
    by_cases e : k = j
    · subst e
      simp only [plK, hmet, decide_true]
    · have ih := plK_id hj hmet (k := k) (by omega) (by omega)
      simp only [plK]
      rw [decide_eq_false (fun c => e (id_inj hinc (by omega) hj c.symm))]
      split
      · exact ih
      · exact ih
theorem idsK_pw : ∀ {k : Nat}, k ≤ m → List.Pairwise (· < ·) (idsK F p q k) ∧ ∀ x ∈ idsK F p q k, ∃ j, j < k ∧ metB F p q j = true ∧ x = (F j).iD
  | 0, _ => ⟨List.Pairwise.nil, fun x hx => by cases hx⟩
  | k + 1, h => by
    obtain ⟨h1, h2⟩ := idsK_pw (k := k) (by omega)
    simp only [idsK]
    split
    · rename_i hk
      refine ⟨List.pairwise_append.2 ⟨h1, by simp, fun x hx y hy => ?_⟩, fun x hx => ?_⟩
      · obtain ⟨j, a, -, rfl⟩ := h2 x hx
        obtain rfl : y = (F k).iD := by simpa using hy
        exact hinc j k a (by omega)
      · rcases List.mem_append.1 hx with hx | hx
        · obtain ⟨j, a, b, c⟩ := h2 x hx
          exact ⟨j, by omega, b, c⟩
        · exact ⟨k, by omega, hk, by simpa using hx⟩
    · exact ⟨h1, fun x hx => let ⟨j, a, b, c⟩ := h2 x hx; ⟨j, by omega, b, c⟩⟩
end
/-- The k-th of the bodies that are met, in order. -/
def nthB (m : Nat) (F : Nat → Body) (L : List Int) (k : Nat) : Body := (findN F (L.getD k 0) 0 m).1
structure NthOk (m : Nat) (F : Nat → Body) (p q : Vec) (L : List Int) (k : Nat) : Prop where
  found : (findN F (L.getD k 0) 0 m).2 = true
  id : (nthB m F L k).iD = L.getD k 0
  of : ∃ j, j < m ∧ nthB m F L k = F j
  met : (whereP (nthB m F L k) p q).2 = true
  pl : plK F p q m (L.getD k 0) = (whereP (nthB m F L k) p q).1
section
variable {F : Nat → Body} {p q : Vec} {m : Nat} (hinc : ∀ i j, i < j → j < m → (F i).iD < (F j).iD)
include hinc
theorem nth_ok {k : Nat} (hk : k < (hitsL m F p q).length) : NthOk m F p q (hitsL m F p q) k := by
  have hg : (hitsL m F p q).getD k 0 = (hitsL m F p q)[k] := by rw [List.getD_eq_getElem?_getD, List.getElem?_eq_getElem hk]; rfl
  have hmem : (hitsL m F p q)[k] ∈ idsK F p q m := sortL_mem.1 (List.getElem_mem hk)
  obtain ⟨j, h1, h2, h3⟩ := (idsK_pw hinc (Nat.le_refl m)).2 _ hmem
  have hf : findN F ((hitsL m F p q).getD k 0) 0 m = (F j, true) := by
    rw [hg, h3]
    exact findN_id hinc h1 (Nat.zero_le _) (by omega) (by omega)
  have hn : nthB m F (hitsL m F p q) k = F j := by unfold nthB; rw [hf]
  refine ⟨by rw [hf], by rw [hn, hg, h3], ⟨j, h1, hn⟩, by rw [hn]; exact h2, ?_⟩
  rw [hn, hg, h3]
  exact plK_id hinc h1 h2 h1 (Nat.le_refl m)
theorem nth_next {k : Nat} (hk : k + 1 < (hitsL m F p q).length) : ordP (whereP (nthB m F (hitsL m F p q) k) p q).1 (whereP (nthB m F (hitsL m F p q) (k + 1)) p q).1 ≤ 0 ∧ (ordP (whereP (nthB m F (hitsL m F p q) k) p q).1 (whereP (nthB m F (hitsL m F p q) (k + 1)) p q).1 = 0 → (hitsL m F p q).getD k 0 < (hitsL m F p q).getD (k + 1) 0) := by
  have a := nth_ok hinc (k := k) (p := p) (q := q) (by omega)
  have b := nth_ok hinc (k := k + 1) (p := p) (q := q) hk
  rw [← a.pl, ← b.pl]
  have hg : ∀ {i} (hi : i < (hitsL m F p q).length), (hitsL m F p q).getD i 0 = (hitsL m F p q)[i] := fun hi => by rw [List.getD_eq_getElem?_getD, List.getElem?_eq_getElem hi]; rfl
  rw [hg (by omega), hg hk]
  exact sortL_nb (lt := ltK m F p q) (R := fun x y => ordP (plK F p q m x) (plK F p q m y) ≤ 0 ∧ (ordP (plK F p q m x) (plK F p q m y) = 0 → x < y)) (fun x y h => by
    have h := of_decide_eq_true h
    exact ⟨by omega, fun c => by omega⟩) ((idsK_pw hinc (Nat.le_refl m)).1.imp fun {y x} h1 h2 => by
    have h2 := of_decide_eq_false h2
    have := ordP_neg (plK F p q m x) (plK F p q m y)
    exact ⟨by omega, fun _ => h1⟩) hk
end
/-- The count of those that are met. -/
theorem idsK_count {F : Nat → Body} {p q : Vec} {k : Nat} : (idsK F p q (k + 1)).length = bif metB F p q k then (idsK F p q k).length + 1 else (idsK F p q k).length := by
  simp only [idsK]
  cases metB F p q k <;> simp
/-- Which part of the segment meets the k-th body. -/
structure Ord (m : Nat) (F : Nat → Body) (p v : Vec) (L : List Int) : Prop where
  near : Near p v
  ok : ∀ i, i < m → (F i).ok = true
  nth : ∀ k, k < L.length → NthOk m F p (goV p v 40) L k
  next : ∀ k, k + 1 < L.length → ordP (whereP (nthB m F L k) p (goV p v 40)).1 (whereP (nthB m F L (k + 1)) p (goV p v 40)).1 ≤ 0 ∧ (ordP (whereP (nthB m F L k) p (goV p v 40)).1 (whereP (nthB m F L (k + 1)) p (goV p v 40)).1 = 0 → L.getD k 0 < L.getD (k + 1) 0)
section
variable {m : Nat} {F : Nat → Body} {p v : Vec} {L : List Int} (h : Ord m F p v L)
include h
theorem Ord.bok {k : Nat} (hk : k < L.length) : (nthB m F L k).ok = true := by
  obtain ⟨j, h1, h2⟩ := (h.nth k hk).of
  rw [h2]; exact h.ok j h1
theorem Ord.pos {k : Nat} (hk : k < L.length) : 0 < (whereP (nthB m F L k) p (goV p v 40)).1.m ∧ 0 ≤ (whereP (nthB m F L k) p (goV p v 40)).1.s := where_pos (h.nth k hk).met
theorem Ord.mm {i k : Nat} (hi : i < L.length) (hk : k < L.length) : (whereP (nthB m F L i) p (goV p v 40)).1.s ≠ 0 → (whereP (nthB m F L k) p (goV p v 40)).1.s ≠ 0 → (whereP (nthB m F L i) p (goV p v 40)).1.m = (whereP (nthB m F L k) p (goV p v 40)).1.m := fun h1 h2 => by
  rw [where_m (h.nth i hi).met h1, where_m (h.nth k hk).met h2]
theorem Ord.part {k n : Nat} (hk : k < L.length) (hn : n ≤ 40) : meetsB (nthB m F L k) p (goV p v n) = true ↔ (whereP (nthB m F L k) p (goV p v 40)).1.le n 40 := by
  rw [h.near.part_meets (h.bok hk) (n := 40) (by decide) (i := n) (by omega), h.near.meets (h.bok hk) (by decide)]
  exact ⟨fun c => c.2, fun c => ⟨(h.nth k hk).met, c⟩⟩
theorem Ord.chain {n : Nat} (hn : n ≤ 40) : ∀ {d i k : Nat}, k = i + d → k < L.length → meetsB (nthB m F L k) p (goV p v n) = true → meetsB (nthB m F L i) p (goV p v n) = true
  | 0, i, k, e, hk, hm => by
    have e : k = i := e
    rw [← e]; exact hm
  | d + 1, i, k, e, hk, hm => by
    refine Ord.chain hn (d := d) (k := k - 1) (by omega) (by omega) ?_
    rw [h.part (by omega) hn]
    rw [h.part hk hn] at hm
    have e1 : k - 1 + 1 = k := by omega
    have nx := (h.next (k - 1) (by omega)).1
    rw [e1] at nx
    exact ord_trans (h.pos (by omega)).1 (h.pos hk).1 (h.pos (by omega)).2 (h.pos hk).2 (h.mm (by omega) hk) (by decide) nx hm
theorem Ord.grow {k n n' : Nat} (hk : k < L.length) (hn : n ≤ n') (hn' : n' ≤ 40) (hm : meetsB (nthB m F L k) p (goV p v n) = true) : meetsB (nthB m F L k) p (goV p v n') = true := by
  rw [h.part hk hn']
  rw [h.part hk (by omega)] at hm
  exact Plc.le_mono (h.pos hk).1 (by decide) (by decide) hm (by omega)
theorem Ord.all {k : Nat} (hk : k < L.length) : meetsB (nthB m F L k) p (goV p v 40) = true := by
  rw [h.near.meets (h.bok hk) (by decide)]
  exact (h.nth k hk).met
end
end Go.Proofs.Ytcbpajkgmpibgaa
