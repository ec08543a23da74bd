/- The rule for drawn regions, for values that are known and for pointers to new blocks. -/
import Derived.Test.YtggcfjeehpcclaaDoorR1
namespace Go.Proofs.YtggcfjeehpcclaaDoor
open Go.RowKit

/-- What is said of an operation's value: nothing; which value it is; that it points to a block known whole. -/
def dAny : Option (Value ⊕ (Array Value × TypeId)) := none
def dVal (v : Value) : Option (Value ⊕ (Array Value × TypeId)) := some (.inl v)
def dPtr (cs : Array Value) (t : TypeId) : Option (Value ⊕ (Array Value × TypeId)) := some (.inr (cs, t))
def phi1 (b : Nat) (d : Option (Value ⊕ (Array Value × TypeId))) (v : Value) (W : World) : Prop :=
  match d with
  | none => True
  | some (.inl c) => v = c
  | some (.inr (cs, t)) => ∃ m, b ≤ m ∧ v = .pointer (some ⟨m, 0, none⟩) ∧ Blk W m cs t
def phi (b : Nat) (l : List (Option (Value ⊕ (Array Value × TypeId)))) (i : Nat) (v : Value) (W : World) : Prop := phi1 b (l.getD i none) v W
def alB (l : List (Option (Value ⊕ (Array Value × TypeId)))) (i : Nat) : Bool := match l.getD i none with | some (.inr _) => true | _ => false
theorem phi_stable (b : Nat) (l : List (Option (Value ⊕ (Array Value × TypeId)))) (i : Nat) (v : Value) (w w' : World) (h : phi b l i v w) (g : Gr w w') : phi b l i v w' := by
  unfold phi phi1 at *
  split at h
  · trivial
  · exact h
  · obtain ⟨m, hb, e, bl⟩ := h
    exact ⟨m, hb, e, g.blk bl⟩
theorem phi_new {b : Nat} {l : List (Option (Value ⊕ (Array Value × TypeId)))} {j : Nat} {v : Value} {W : World} (ha : alB l j = true) (h : phi b l j v W) : Value.pointer (some ⟨W.heap.size, 0, none⟩) ≠ v := by
  unfold phi phi1 at h
  unfold alB at ha
  split at h
  · rename_i e; rw [e] at ha; cases ha
  · rename_i e; rw [e] at ha; cases ha
  · obtain ⟨m, _, rfl, bl⟩ := h
    have := bl.lt
    intro e
    injection e with e
    injection e with e
    injection e with e
    omega

theorem wp_region_phi {P : Program} {Q : Exit → Act → World → Prop} {id : Nat} {a0 : Act} {w : World} {l : List Oper} (n : Nat) (ds : List (Option (Value ⊕ (Array Value × TypeId)))) (hm : P.follows .mixedOrders = true) (hB : relyB l.toArray n = true) (hO : onceB a0.tmps.size (l.take n) = true)
    (hop : RelyAll P Q l.toArray (l.take n) a0 w (phi w.heap.size ds) (alB ds) 0 (l.take n))
    (hQ : ∀ vs W, Gr w W → (∀ i, i < n → phi w.heap.size ds i (vs i) W) → (∀ i j, i < n → j < n → alB ds i = true → alB ds j = true → i ≠ j → vs i ≠ vs j) → wpList P l.toArray Q (l.drop n) (putAll vs 0 (l.take n) a0) W) :
    (Code.region id l.toArray true).wp P Q a0 w :=
  wp_region_rely n (phi w.heap.size ds) (alB ds) hm hB hO (phi_stable w.heap.size ds) hop hQ

theorem Blk.fill2 {w : World} {m : Nat} {t : TypeId} {a0 a1 b0 b1 : Value} (h : Blk w m #[a0, a1] t) : Blk ((w.setCell ⟨m, 0, none⟩ b0).setCell ⟨m, 1, none⟩ b1) m #[b0, b1] t := by
  have := (h.set 0 b0).set 1 b1
  simpa using this
theorem Blk.keep2 {w : World} {n m : Nat} {cs : Array Value} {t : TypeId} {b0 b1 : Value} (hne : n ≠ m) (h : Blk w n cs t) : Blk ((w.setCell ⟨m, 0, none⟩ b0).setCell ⟨m, 1, none⟩ b1) n cs t := by
  refine Blk.setAt_ne hne ?_ _
  refine Blk.setAt_ne hne ?_ _
  exact h
theorem Gr.fill2 {a w : World} {m : Nat} {b0 b1 : Value} (hm : a.heap.size ≤ m) (h : Gr a w) : Gr a ((w.setCell ⟨m, 0, none⟩ b0).setCell ⟨m, 1, none⟩ b1) := by
  refine Gr.setAt hm ?_ _
  refine Gr.setAt hm ?_ _
  exact h

theorem Blk.fill9 {w : World} {m : Nat} {t : TypeId} {a0 a1 a2 a3 a4 a5 a6 a7 a8 b0 b1 b2 b3 b4 b5 b6 b7 b8 : Value} (h : Blk w m #[a0, a1, a2, a3, a4, a5, a6, a7, a8] t) : Blk (((((((((w.setCell ⟨m, 0, none⟩ b0).setCell ⟨m, 1, none⟩ b1).setCell ⟨m, 2, none⟩ b2).setCell ⟨m, 3, none⟩ b3).setCell ⟨m, 4, none⟩ b4).setCell ⟨m, 5, none⟩ b5).setCell ⟨m, 6, none⟩ b6).setCell ⟨m, 7, none⟩ b7).setCell ⟨m, 8, none⟩ b8) m #[b0, b1, b2, b3, b4, b5, b6, b7, b8] t := by
  have := ((((((((h.set 0 b0).set 1 b1).set 2 b2).set 3 b3).set 4 b4).set 5 b5).set 6 b6).set 7 b7).set 8 b8
  simpa using this
theorem Blk.keep9 {w : World} {n m : Nat} {cs : Array Value} {t : TypeId} {b0 b1 b2 b3 b4 b5 b6 b7 b8 : Value} (hne : n ≠ m) (h : Blk w n cs t) : Blk (((((((((w.setCell ⟨m, 0, none⟩ b0).setCell ⟨m, 1, none⟩ b1).setCell ⟨m, 2, none⟩ b2).setCell ⟨m, 3, none⟩ b3).setCell ⟨m, 4, none⟩ b4).setCell ⟨m, 5, none⟩ b5).setCell ⟨m, 6, none⟩ b6).setCell ⟨m, 7, none⟩ b7).setCell ⟨m, 8, none⟩ b8) n cs t := by
  refine Blk.setAt_ne hne ?_ _
  refine Blk.setAt_ne hne ?_ _
  refine Blk.setAt_ne hne ?_ _
  refine Blk.setAt_ne hne ?_ _
  refine Blk.setAt_ne hne ?_ _
  refine Blk.setAt_ne hne ?_ _
  refine Blk.setAt_ne hne ?_ _
  refine Blk.setAt_ne hne ?_ _
  refine Blk.setAt_ne hne ?_ _
  exact h
theorem Gr.fill9 {a w : World} {m : Nat} {b0 b1 b2 b3 b4 b5 b6 b7 b8 : Value} (hm : a.heap.size ≤ m) (h : Gr a w) : Gr a (((((((((w.setCell ⟨m, 0, none⟩ b0).setCell ⟨m, 1, none⟩ b1).setCell ⟨m, 2, none⟩ b2).setCell ⟨m, 3, none⟩ b3).setCell ⟨m, 4, none⟩ b4).setCell ⟨m, 5, none⟩ b5).setCell ⟨m, 6, none⟩ b6).setCell ⟨m, 7, none⟩ b7).setCell ⟨m, 8, none⟩ b8) := by
  refine Gr.setAt hm ?_ _
  refine Gr.setAt hm ?_ _
  refine Gr.setAt hm ?_ _
  refine Gr.setAt hm ?_ _
  refine Gr.setAt hm ?_ _
  refine Gr.setAt hm ?_ _
  refine Gr.setAt hm ?_ _
  refine Gr.setAt hm ?_ _
  refine Gr.setAt hm ?_ _
  exact h
end Go.Proofs.YtggcfjeehpcclaaDoor
