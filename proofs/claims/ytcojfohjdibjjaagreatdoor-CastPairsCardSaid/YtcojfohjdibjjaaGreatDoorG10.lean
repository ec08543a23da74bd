/- A symbolic executor with lists, 11: a drawn region by an invariant of the set of operations that are done. -/
import Derived.Test.YtcojfohjdibjjaaGreatDoorG9
import Derived.Test.YtcojfohjdibjjaaGreatDoorR1
namespace Go.Proofs.YtcojfohjdibjjaaGreatDoor
open Go.RowKit

section
variable {P : Program} {ops : Array Oper} {Q : Exit → Act → World → Prop}

/-- The region's head (in any order) is all of it, or its tail is a chain behind all of the head. -/
def headB (ops : Array Oper) (n : Nat) : Bool := match Nat.beq n ops.size with | true => backB ops n | false => relyB ops n

theorem wpAny_inv {n : Nat} (hB : headB ops n = true) (I : Array Bool → Act → World → Prop)
    (step : ∀ (listed : Array Bool) (a : Act) (W : World) (i : Nat) (o : Oper), HeadInv .any ops n listed → I listed a W → i < n → ops[i]? = some o → listed.getD i false = false →
      (∀ e ∈ o.after, Region.binds .any e = true → listed.getD e.on false = true) → ∀ K : Act → World → Prop, (∀ a' W', I (listed.setIfInBounds i true) a' W' → K a' W') →
      if Region.wanted o (yielded ops a.tmps) = true then Oper.wp P o a W K Q else K (a.put o.dst undef) W)
    (fin : ∀ listed a W, I listed a W → (∀ i, i < n → listed.getD i false = true) → wpList P ops Q (ops.toList.drop n) a W) :
    ∀ (r : Nat) (listed : Array Bool) (a : Act) (W : World), cnt listed n = r → HeadInv .any ops n listed → I listed a W → wpAny P .any ops Q (r + (ops.size - n)) listed a W := by
  have hn : n ≤ ops.size ∧ backB ops n = true := by
    unfold headB at hB
    split at hB
    · rename_i h
      have := Nat.eq_of_beq_eq_true h
      exact ⟨by omega, hB⟩
    · simp only [relyB, Bool.and_eq_true, decide_eq_true_eq] at hB
      exact ⟨by omega, hB.1.2⟩
  obtain ⟨hn, hb⟩ := hn
  intro r
  induction r with
  | zero =>
    intro listed a W hcnt inv hI
    have hall := cnt_zero hcnt
    have hf := fin listed a W hI hall
    unfold headB at hB
    split at hB
    · rename_i h
      have he := Nat.eq_of_beq_eq_true h
      subst he
      rw [Nat.sub_self]
      have hd : ops.toList.drop ops.size = [] := by simp
      rw [hd] at hf
      refine ⟨?_, hf⟩
      cases hr : Region.ready .any ops listed with
      | nil => rfl
      | cons x xs =>
        have hx : x ∈ Region.ready .any ops listed := by rw [hr]; exact List.mem_cons_self
        obtain ⟨hu, o, ho, _⟩ := mem_ready.1 hx
        have hlt : x < ops.size := (Array.getElem?_eq_some_iff.1 ho).1
        have := hall x hlt
        rw [getD_both hu] at this
        cases this
    · simp only [relyB, Bool.and_eq_true, decide_eq_true_eq] at hB
      obtain ⟨⟨⟨⟨hn, hs⟩, hc⟩, hb⟩, hq⟩ := hB
      have hdl : (ops.toList.drop n).length = ops.size - n := by simp
      have := wpAny_of_seq (P := P) (md := .any) (Q' := Q) (ops.toList.drop n) n listed a W (fun j => by simp [List.getElem?_drop])
        (by rw [hdl, full_of inv hn hall]; exact hq) hf
      rwa [hdl, ← Nat.zero_add (ops.size - n)] at this
  | succ r ih =>
    intro listed a W hcnt inv hI
    obtain ⟨u, hu, hun⟩ := cnt_pos hcnt
    rw [show r + 1 + (ops.size - n) = (r + (ops.size - n)) + 1 by omega]
    refine ⟨fun he => absurd he (some_ready hb hn inv.size u hu hun), fun i hi => ?_⟩
    obtain ⟨hiu, o, ho, hdeps⟩ := mem_ready.1 hi
    have hin : i < n := by
      unfold headB at hB
      split at hB
      · rename_i h
        have he := Nat.eq_of_beq_eq_true h
        have hlt : i < ops.size := (Array.getElem?_eq_some_iff.1 ho).1
        omega
      · simp only [relyB, Bool.and_eq_true, decide_eq_true_eq] at hB
        obtain ⟨⟨⟨⟨hn, hs⟩, hc⟩, hb⟩, hq⟩ := hB
        rcases Nat.lt_or_ge i n with h | h
        · exact h
        · exact absurd hi (tail_waits hs hc hn inv (n - u) u rfl hu (getD_in (by rw [inv.size]; omega) hun) i h)
    have hsz : i < listed.size := by rw [inv.size]; omega
    have hK := step listed a W i o inv hI hin ho (getD_both hiu) hdeps
      (fun a' W' => wpAny P .any ops Q (r + (ops.size - n)) (listed.setIfInBounds i true) a' W')
      (fun a' W' h' => ih _ a' W' (by have := cnt_set hin hsz (getD_both hiu); omega) (inv.set hi hin) h')
    unfold wpOp
    rw [ho]
    show if Region.wanted o (yielded ops a.tmps) = true then _ else _
    split
    · rename_i hw
      rw [if_pos hw] at hK
      exact .inl hK
    · rename_i hw
      rw [if_neg hw] at hK
      exact hK

theorem region_inv {n : Nat} {a : Act} {w : World} (hB : headB ops n = true) (I : Array Bool → Act → World → Prop)
    (h0 : I (Array.replicate ops.size false) a w.drew)
    (step : ∀ (listed : Array Bool) (a : Act) (W : World) (i : Nat) (o : Oper), HeadInv .any ops n listed → I listed a W → i < n → ops[i]? = some o → listed.getD i false = false →
      (∀ e ∈ o.after, Region.binds .any e = true → listed.getD e.on false = true) → ∀ K : Act → World → Prop, (∀ a' W', I (listed.setIfInBounds i true) a' W' → K a' W') →
      if Region.wanted o (yielded ops a.tmps) = true then Oper.wp P o a W K Q else K (a.put o.dst undef) W)
    (fin : ∀ listed a W, I listed a W → (∀ i, i < n → listed.getD i false = true) → wpList P ops Q (ops.toList.drop n) a W) :
    wpAny P .any ops Q ops.size (Array.replicate ops.size false) a w.drew := by
  have hn : n ≤ ops.size := by
    unfold headB at hB
    split at hB
    · rename_i h
      have := Nat.eq_of_beq_eq_true h
      omega
    · simp only [relyB, Bool.and_eq_true, decide_eq_true_eq] at hB
      omega
  have hcnt : cnt (Array.replicate ops.size false) n = n := by
    have : (List.range n).countP (fun i => !(Array.replicate ops.size false).getD i false) = (List.range n).length := List.countP_eq_length.2 fun i _ => by
      rw [getD_replicate_false]; rfl
    unfold cnt
    rw [this, List.length_range]
  have := wpAny_inv (P := P) (Q := Q) hB I step fin n (Array.replicate ops.size false) a w.drew hcnt
    ⟨by simp, fun j oj _ hl => (by rw [getD_replicate_false] at hl; cases hl), fun t _ ht => getD_in (by simpa using ht) (getD_replicate_false _ _)⟩ h0
  rwa [show n + (ops.size - n) = ops.size by omega] at this
end
end Go.Proofs.YtcojfohjdibjjaaGreatDoor
