/- The statements' 'one': the program's Valid, Bounds, Has against the reference's. -/
import Derived.Test.YtggcfjeehpcclaaDoorA5
import Derived.Test.YtggcfjeehpcclaaDoorC3
namespace Go.Proofs.YtggcfjeehpcclaaDoor
open Go.RowKit

def VecAt (w : World) (n : Nat) (a b : Int) : Prop := (w.cell? ⟨n, 0, none⟩ = some (.int .i64 (a)) ∧ w.cell? ⟨n, 1, none⟩ = some (.int .i64 (b)))
theorem VecAt.gr {a w : World} {n : Nat} {x y : Int} (g : Gr a w) (h : VecAt a n x y) : VecAt w n x y := ⟨g.cellSome h.1, g.cellSome h.2⟩
theorem VecAt.of {w : World} {n : Nat} {x y : Int} {t : TypeId} (h : Blk w n #[.int .i64 x, .int .i64 y] t) : VecAt w n x y := ⟨h.cell 0, h.cell 1⟩
theorem BodyAt.of {w : World} {n : Nat} {i x y u v p q : Int} {r f : Bool} {t : TypeId} (h : Blk w n #[.int .i64 i, .int .i64 x, .int .i64 y, .int .i64 u, .int .i64 v, .int .i64 p, .int .i64 q, .bool r, .bool f] t) : BodyAt w n i x y u v p q r f :=
  ⟨h.cell 0, h.cell 1, h.cell 2, h.cell 3, h.cell 4, h.cell 5, h.cell 6, h.cell 7, h.cell 8⟩
def SOn (n n' n1 n2 : Nat) (i x y u v p q : Int) (r f : Bool) (px py lx ly hx hy : Int) (w : World) : Prop :=
  BodyAt w n i x y u v p q r f ∧ VecAt w n' px py ∧ VecAt w n1 lx ly ∧ VecAt w (n1 + 1) hx hy ∧ VecAt w n2 lx ly ∧ VecAt w (n2 + 1) hx hy
theorem SOn.gr {n n' n1 n2 : Nat} {i x y u v p q : Int} {r f : Bool} {px py lx ly hx hy : Int} {a w : World} (g : Gr a w) (h : SOn n n' n1 n2 i x y u v p q r f px py lx ly hx hy a) : SOn n n' n1 n2 i x y u v p q r f px py lx ly hx hy w :=
  ⟨h.1.gr g, h.2.1.gr g, h.2.2.1.gr g, h.2.2.2.1.gr g, h.2.2.2.2.1.gr g, h.2.2.2.2.2.gr g⟩

set_option maxHeartbeats 4000000 in
theorem one_core (i x y u v p q : Int) (r f : Bool) (px py lx ly hx hy : Int) (w : World)
    (h1 : ∀ W, Calls Tryd.prog 27 #[.agg #[.int .i64 i, .int .i64 x, .int .i64 y, .int .i64 u, .int .i64 v, .int .i64 p, .int .i64 q, .bool r, .bool f]] W fun e w' => e = .returned (.tuple #[.agg #[.int .i64 lx, .int .i64 ly], .agg #[.int .i64 hx, .int .i64 hy]]) ∧ Gr W w')
    (h2 : ∀ W, Calls Tryd.prog 32 #[.agg #[.int .i64 i, .int .i64 x, .int .i64 y, .int .i64 u, .int .i64 v, .int .i64 p, .int .i64 q, .bool r, .bool f]] W fun e w' => e = .returned (.tuple #[.agg #[.int .i64 lx, .int .i64 ly], .agg #[.int .i64 hx, .int .i64 hy]]) ∧ Gr W w') :
    Calls Tryd.prog 14 #[.agg #[.int .i64 i, .int .i64 x, .int .i64 y, .int .i64 u, .int .i64 v, .int .i64 p, .int .i64 q, .bool r, .bool f], .agg #[.int .i64 px, .int .i64 py]] w fun e w' => e = .returned (.bool true) ∧ Gr w w' := by
  have H1 := Lib.hid h1; have H2 := Lib.hid h2; clear h1 h2
  go_enter Tryd.func14, Tryd.ntmps14
  go_wp2_with fail
  refine (H1.out _).mono ?_
  rintro e w1 ⟨rfl, hg1⟩
  have bA := hg1.blk (n := w.heap.size) (cs := #[.int .i64 i, .int .i64 x, .int .i64 y, .int .i64 u, .int .i64 v, .int .i64 p, .int .i64 q, .bool r, .bool f]) (t := 25) (by repeat (first | with_reducible assumption | (with_reducible refine Blk.new ?_; simp; done) | with_reducible refine Blk.alloc ?_))
  have bP := hg1.blk (n := w.heap.size + 1) (cs := #[.int .i64 px, .int .i64 py]) (t := 23) (by repeat (first | with_reducible assumption | (with_reducible refine Blk.new ?_; simp; done) | with_reducible refine Blk.alloc ?_))
  have g1 : Gr w w1 := (((Gr.refl _).alloc _).alloc _).trans hg1
  obtain ⟨aA, -⟩ := bA.facts
  have lA := bA.lt
  clear hg1
  go_wp2_with fail
  refine (H2.out _).mono ?_
  rintro e w2 ⟨rfl, hg2⟩
  have bA2 := hg2.blk (n := w.heap.size) (cs := #[.int .i64 i, .int .i64 x, .int .i64 y, .int .i64 u, .int .i64 v, .int .i64 p, .int .i64 q, .bool r, .bool f]) (t := 25) (by repeat (first | with_reducible assumption | (with_reducible refine Blk.new ?_; simp; done) | with_reducible refine Blk.alloc ?_))
  have bP2 := hg2.blk (n := w.heap.size + 1) (cs := #[.int .i64 px, .int .i64 py]) (t := 23) (by repeat (first | with_reducible assumption | (with_reducible refine Blk.new ?_; simp; done) | with_reducible refine Blk.alloc ?_))
  have bL2 := hg2.blk (n := w1.heap.size) (cs := #[.int .i64 lx, .int .i64 ly]) (t := 23) (by repeat (first | with_reducible assumption | (with_reducible refine Blk.new ?_; simp; done) | with_reducible refine Blk.alloc ?_))
  have bH2 := hg2.blk (n := w1.heap.size + 1) (cs := #[.int .i64 hx, .int .i64 hy]) (t := 23) (by repeat (first | with_reducible assumption | (with_reducible refine Blk.new ?_; simp; done) | with_reducible refine Blk.alloc ?_))
  have g2 : Gr w w2 := ((g1.alloc _).alloc _).trans hg2
  clear aA lA hg2 bA bP g1
  go_wp2_with fail
  have hS : SOn w.heap.size (w.heap.size + 1) w1.heap.size w2.heap.size i x y u v p q r f px py lx ly hx hy ((w2.alloc (.cells #[.int .i64 lx, .int .i64 ly] 23)).alloc (.cells #[.int .i64 hx, .int .i64 hy] 23)) :=
    ⟨BodyAt.of bA2.alloc.alloc, VecAt.of bP2.alloc.alloc, VecAt.of bL2.alloc.alloc, VecAt.of bH2.alloc.alloc, VecAt.of (Blk.new rfl).alloc, VecAt.of (Blk.new (by simp))⟩
  have g3 : Gr w ((w2.alloc (.cells #[.int .i64 lx, .int .i64 ly] 23)).alloc (.cells #[.int .i64 hx, .int .i64 hy] 23)) := (g2.alloc _).alloc _
  generalize hw : (w2.alloc (.cells #[.int .i64 lx, .int .i64 ly] 23)).alloc (.cells #[.int .i64 hx, .int .i64 hy] 23) = w4 at hS g3
  clear hw g2 bA2 bP2 bL2 bH2
  have Hg := Lib.hid g3; clear g3
  have hgd := (Gr.refl w4).drew
  generalize w.heap.size = n at hS
  generalize w1.heap.size = n1 at hS
  generalize w2.heap.size = n2 at hS
  go_region_held3 (fun w' => (w'.cell? ⟨n, 0, none⟩ = some (.int .i64 i) ∧ w'.cell? ⟨n, 1, none⟩ = some (.int .i64 x) ∧ w'.cell? ⟨n, 2, none⟩ = some (.int .i64 y) ∧ w'.cell? ⟨n, 3, none⟩ = some (.int .i64 u) ∧ w'.cell? ⟨n, 4, none⟩ = some (.int .i64 v) ∧ w'.cell? ⟨n, 5, none⟩ = some (.int .i64 p) ∧ w'.cell? ⟨n, 6, none⟩ = some (.int .i64 q) ∧ w'.cell? ⟨n, 7, none⟩ = some (.bool r) ∧ w'.cell? ⟨n, 8, none⟩ = some (.bool f)) ∧ (w'.cell? ⟨n + 1, 0, none⟩ = some (.int .i64 (px)) ∧ w'.cell? ⟨n + 1, 1, none⟩ = some (.int .i64 (py))) ∧ (w'.cell? ⟨n1, 0, none⟩ = some (.int .i64 (lx)) ∧ w'.cell? ⟨n1, 1, none⟩ = some (.int .i64 (ly))) ∧ (w'.cell? ⟨n1 + 1, 0, none⟩ = some (.int .i64 (hx)) ∧ w'.cell? ⟨n1 + 1, 1, none⟩ = some (.int .i64 (hy))) ∧ (w'.cell? ⟨n2, 0, none⟩ = some (.int .i64 (lx)) ∧ w'.cell? ⟨n2, 1, none⟩ = some (.int .i64 (ly))) ∧ (w'.cell? ⟨n2 + 1, 0, none⟩ = some (.int .i64 (hx)) ∧ w'.cell? ⟨n2 + 1, 1, none⟩ = some (.int .i64 (hy))))
    (first | assumption | exact SOn.gr (by assumption) (by assumption))
    (first
      | (go_at_call 28; ((with_reducible refine (Valid_any i x y u v p q r f _).mono ?_); rintro e wc ⟨rfl, hgc⟩))
      | (go_at_call 33; ((with_reducible refine (rValid_any i x y u v p q r f _).mono ?_); rintro e wc ⟨rfl, hgc⟩))
      | (go_at_call 26; ((with_reducible refine (Has_any i x y u v p q r f px py _).mono ?_); rintro e wc ⟨rfl, hgc⟩))
      | (go_at_call 34; ((with_reducible refine (rHas_any i x y u v p q r f px py _).mono ?_); rintro e wc ⟨rfl, hgc⟩)))
  go_wp2
  go_ret
  have hg9 := Hg.out
  exact ⟨rfl, by repeat (first | with_reducible exact Gr.refl _ | with_reducible assumption | (with_reducible refine Gr.setAt ?_ ?_ _; focus omega) | with_reducible refine Gr.alloc ?_ _ | with_reducible refine Gr.drew ?_ | with_reducible refine Gr.drewN ?_ _ | with_reducible refine Gr.trans ?_ (by assumption))⟩

theorem one_true (i x y u v p q : Int) (r f : Bool) (px py : Int) (w : World) :
    Calls Tryd.prog 14 #[.agg #[.int .i64 i, .int .i64 x, .int .i64 y, .int .i64 u, .int .i64 v, .int .i64 p, .int .i64 q, .bool r, .bool f], .agg #[.int .i64 px, .int .i64 py]] w fun e w' => e = .returned (.bool true) ∧ Gr w w' := by
  cases h : vldB i x y u v p q r f
  · exact one_core i x y u v p q r f px py 0 0 0 0 w (fun W => Bounds_no i x y u v p q r f W h) (fun W => rBounds_no i x y u v p q r f W h)
  · exact one_core i x y u v p q r f px py (x - p) (y - q) (x + p) (y + q) w (fun W => Bounds_yes i x y u v p q r f W h) (fun W => rBounds_yes i x y u v p q r f W h)
end Go.Proofs.YtggcfjeehpcclaaDoor
