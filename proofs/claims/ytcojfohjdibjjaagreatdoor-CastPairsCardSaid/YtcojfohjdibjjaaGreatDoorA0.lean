/- Small words for all walks: the world has grown by new blocks alone. -/
import Derived.Test.YtcojfohjdibjjaaGreatDoorProg
import Derived.WalkKit
import Derived.WalkSpells
import Derived.WalkLawsBesides
import Derived.Lib.Hide
namespace Go.Proofs.YtcojfohjdibjjaaGreatDoor
open Go.RowKit

theorem ret_int {k : IntKind} {a b : Int} (h : a = b) : Ending.returned (.int k a) = .returned (.int k b) := by rw [h]
theorem ret_bool {a b : Bool} (h : a = b) : Ending.returned (.bool a) = .returned (.bool b) := by rw [h]

/-- All that was there is as it was. -/
def Gr (a w : World) : Prop := Below a.heap.size a w
theorem Gr.refl (a : World) : Gr a a := Below.refl _ _
theorem Gr.trans {a b c : World} (h : Gr a b) (k : Gr b c) : Gr a c := Below.trans h (Below.mono k (Below.size h))
theorem Gr.alloc {a w : World} (h : Gr a w) (o : Obj) : Gr a (w.alloc o) := Below.alloc h (Below.size h) o
theorem Gr.drew {a w : World} (h : Gr a w) : Gr a w.drew := Below.drew h
theorem Gr.drewN {a w : World} (h : Gr a w) (n : Nat) : Gr a (w.drewN n) := ⟨h.os, h.tape, h.output, h.size, h.block⟩
theorem Gr.setCell {a w : World} (h : Gr a w) {p : Addr} (hp : a.heap.size ≤ p.block) (u : Value) : Gr a (w.setCell p u) := Below.setCell h hp u
theorem Gr.setAt {a w : World} {b o : Nat} (hb : a.heap.size ≤ b) (h : Gr a w) (u : Value) : Gr a (w.setCell ⟨b, o, none⟩ u) := Below.setCell h hb u
theorem Gr.size {a w : World} (h : Gr a w) : a.heap.size ≤ w.heap.size := Below.size h
theorem Gr.cell {a w : World} (h : Gr a w) {p : Addr} (hp : p.block < a.heap.size) : w.cell? p = a.cell? p := Below.cell h hp
theorem Gr.cellSome {a w : World} (h : Gr a w) {p : Addr} {v : Value} (hv : a.cell? p = some v) : w.cell? p = some v := by
  rw [h.cell (World.block_lt_of_cell? a _ hv)]; exact hv

theorem new1 {w : World} {x : Int} {t : TypeId} {n : Nat} (hn : n = w.heap.size) (k : Nat) (hk : k < 1) : (w.alloc (.cells #[.int .i64 x] t)).cell? ⟨n, k, none⟩ = some (.int .i64 ([x].getD k 0)) := by
  rw [World.cell?_alloc_at _ _ _ _ hn]
  obtain rfl : k = 0 := by omega
  rfl

theorem new2 {w : World} {x y : Int} {t : TypeId} {n : Nat} (hn : n = w.heap.size) (k : Nat) (hk : k < 2) : (w.alloc (.cells #[.int .i64 x, .int .i64 y] t)).cell? ⟨n, k, none⟩ = some (.int .i64 ([x, y].getD k 0)) := by
  rw [World.cell?_alloc_at _ _ _ _ hn]
  rcases (by omega : k = 0 ∨ k = 1) with rfl | rfl <;> rfl

/-- For 'go_region_held3': the cells below W's size are W's. -/
theorem KS_refl {W : World} : Gr W W.drew ∧ ∀ b o, b < W.heap.size → W.drew.cell? ⟨b, o, none⟩ = W.cell? ⟨b, o, none⟩ := ⟨(Gr.refl W).drew, fun _ _ _ => rfl⟩
theorem KS_step {W a c : World} (g : Gr a c) (h : Gr W a ∧ ∀ b o, b < W.heap.size → a.cell? ⟨b, o, none⟩ = W.cell? ⟨b, o, none⟩) :
    Gr W c ∧ ∀ b o, b < W.heap.size → c.cell? ⟨b, o, none⟩ = W.cell? ⟨b, o, none⟩ :=
  ⟨h.1.trans g, fun b o hb => (g.cell (p := ⟨b, o, none⟩) (Nat.lt_of_lt_of_le hb h.1.size)).trans (h.2 b o hb)⟩
theorem bcell {W w1 : World} (hb : Gr W w1) : (∀ b o, b < W.heap.size → w1.cell? ⟨b, o, none⟩ = W.cell? ⟨b, o, none⟩) ∧ (∀ b o, b < W.heap.size → w1.frozen? ⟨b, o, none⟩ = W.frozen? ⟨b, o, none⟩) :=
  ⟨fun b o h => Below.cell hb (p := ⟨b, o, none⟩) h, fun b o h => Below.frozen hb (p := ⟨b, o, none⟩) h⟩

/-- Block n is known whole: cells cs of type t, not frozen. -/
def Blk (w : World) (n : Nat) (cs : Array Value) (t : TypeId) : Prop := w.heap[n]? = some (.cells cs t (0, 0))
theorem Blk.lt {w : World} {n : Nat} {cs : Array Value} {t : TypeId} (h : Blk w n cs t) : n < w.heap.size := by
  rcases Nat.lt_or_ge n w.heap.size with h1 | h1
  · exact h1
  · have h2 : w.heap[n]? = some (.cells cs t (0, 0)) := h
    rw [Array.getElem?_eq_none h1] at h2
    cases h2
theorem Blk.new {w : World} {n : Nat} {cs : Array Value} {t : TypeId} (hn : n = w.heap.size) : Blk (w.alloc (.cells cs t)) n cs t := by
  subst hn; exact heap_alloc_new w _
theorem Blk.alloc {w : World} {n : Nat} {cs : Array Value} {t : TypeId} {o : Obj} (h : Blk w n cs t) : Blk (w.alloc o) n cs t :=
  (Below.heap_alloc w o n h.lt).trans h
theorem Gr.blk {a w : World} {n : Nat} {cs : Array Value} {t : TypeId} (g : Gr a w) (h : Blk a n cs t) : Blk w n cs t :=
  (Below.block g n h.lt).trans h
theorem Blk.drew {w : World} {n : Nat} {cs : Array Value} {t : TypeId} (h : Blk w n cs t) : Blk w.drew n cs t := h
theorem Blk.drewN {w : World} {n : Nat} {cs : Array Value} {t : TypeId} (h : Blk w n cs t) (k : Nat) : Blk (w.drewN k) n cs t := h
theorem Blk.set_ne {w : World} {n : Nat} {cs : Array Value} {t : TypeId} (h : Blk w n cs t) {p : Addr} (hp : n ≠ p.block) (v : Value) : Blk (w.setCell p v) n cs t :=
  (Below.heap_setCell w p v n hp).trans h
theorem Blk.setAt_ne {w : World} {n : Nat} {cs : Array Value} {t : TypeId} {b o : Nat} (hp : n ≠ b) (h : Blk w n cs t) (v : Value) : Blk (w.setCell ⟨b, o, none⟩ v) n cs t := h.set_ne hp v
theorem Blk.set {w : World} {n : Nat} {cs : Array Value} {t : TypeId} (h : Blk w n cs t) (k : Nat) (v : Value) : Blk (w.setCell ⟨n, k, none⟩ v) n (cs.setIfInBounds k v) t := by
  have h' : w.heap[n]? = some (.cells cs t (0, 0)) := h
  show (w.setCell ⟨n, k, none⟩ v).heap[n]? = _
  simp [World.setCell, Array.getElem?_modify, h']
theorem Blk.cell {w : World} {n : Nat} {cs : Array Value} {t : TypeId} (h : Blk w n cs t) (k : Nat) : w.cell? ⟨n, k, none⟩ = cs[k]? := by
  have h' : w.heap[n]? = some (.cells cs t (0, 0)) := h
  simp [World.cell?, h']
theorem Blk.free {w : World} {n : Nat} {cs : Array Value} {t : TypeId} (h : Blk w n cs t) (k : Nat) : w.frozen? ⟨n, k, none⟩ = false := by
  have h' : w.heap[n]? = some (.cells cs t (0, 0)) := h
  simp [World.frozen?, h']
theorem Blk.facts {w : World} {n : Nat} {cs : Array Value} {t : TypeId} (h : Blk w n cs t) : (∀ k, w.cell? ⟨n, k, none⟩ = cs[k]?) ∧ (∀ k, w.frozen? ⟨n, k, none⟩ = false) := ⟨h.cell, h.free⟩
/-- For go_region_held3: a block known whole, with its cells as a rule. -/
theorem Gr.bs {a w : World} {n : Nat} {cs : Array Value} {t : TypeId} (g : Gr a w) (h : Blk a n cs t ∧ ∀ k, a.cell? ⟨n, k, none⟩ = cs[k]?) : Blk w n cs t ∧ ∀ k, w.cell? ⟨n, k, none⟩ = cs[k]? :=
  ⟨g.blk h.1, (g.blk h.1).cell⟩
theorem Blk.bs {w : World} {n : Nat} {cs : Array Value} {t : TypeId} (h : Blk w n cs t) : Blk w n cs t ∧ ∀ k, w.cell? ⟨n, k, none⟩ = cs[k]? := ⟨h, h.cell⟩
end Go.Proofs.YtcojfohjdibjjaaGreatDoor
