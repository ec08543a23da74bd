/- The contract of shape.far at valid bodies. -/
import Derived.Test.YtggcfjeehpcclaaDoorA4
namespace Go.Proofs.YtggcfjeehpcclaaDoor
open Go.RowKit

def BodyAt (w : World) (n : Nat) (i x y u v p q : Int) (r f : Bool) : Prop :=
  (w.cell? ⟨n, 0, none⟩ = some (.int .i64 i) ∧ w.cell? ⟨n, 1, none⟩ = some (.int .i64 x) ∧ w.cell? ⟨n, 2, none⟩ = some (.int .i64 y) ∧ w.cell? ⟨n, 3, none⟩ = some (.int .i64 u) ∧ w.cell? ⟨n, 4, none⟩ = some (.int .i64 v) ∧ w.cell? ⟨n, 5, none⟩ = some (.int .i64 p) ∧ w.cell? ⟨n, 6, none⟩ = some (.int .i64 q) ∧ w.cell? ⟨n, 7, none⟩ = some (.bool r) ∧ w.cell? ⟨n, 8, none⟩ = some (.bool f))
theorem BodyAt.gr {a w : World} {n : Nat} {i x y u v p q : Int} {r f : Bool} (g : Gr a w) (h : BodyAt a n i x y u v p q r f) : BodyAt w n i x y u v p q r f :=
  ⟨g.cellSome h.1, g.cellSome h.2.1, g.cellSome h.2.2.1, g.cellSome h.2.2.2.1, g.cellSome h.2.2.2.2.1, g.cellSome h.2.2.2.2.2.1, g.cellSome h.2.2.2.2.2.2.1, g.cellSome h.2.2.2.2.2.2.2.1, g.cellSome h.2.2.2.2.2.2.2.2⟩
theorem BodyAt.new {w : World} {n : Nat} {t : TypeId} {i x y u v p q : Int} {r f : Bool} (hn : n = w.heap.size) :
    BodyAt (w.alloc (.cells #[.int .i64 i, .int .i64 x, .int .i64 y, .int .i64 u, .int .i64 v, .int .i64 p, .int .i64 q, .bool r, .bool f] t)) n i x y u v p q r f := by
  refine ⟨?_, ?_, ?_, ?_, ?_, ?_, ?_, ?_, ?_⟩ <;> (rw [World.cell?_alloc_at _ _ _ _ hn]; rfl)

def SFar (n n' : Nat) (i x y u v p q : Int) (r f : Bool) (i' x' y' u' v' p' q' : Int) (r' f' : Bool) (w : World) : Prop :=
  BodyAt w n i x y u v p q r f ∧ BodyAt w n' i' x' y' u' v' p' q' r' f' ∧ Rooms w
theorem SFar.gr {n n' : Nat} {i x y u v p q : Int} {r f : Bool} {i' x' y' u' v' p' q' : Int} {r' f' : Bool} {a w : World} (g : Gr a w) (h : SFar n n' i x y u v p q r f i' x' y' u' v' p' q' r' f' a) : SFar n n' i x y u v p q r f i' x' y' u' v' p' q' r' f' w :=
  ⟨h.1.gr g, h.2.1.gr g, h.2.2.gr g⟩

set_option maxHeartbeats 4000000 in
theorem far_yes00 (i x y u v p q : Int) (f : Bool) (i' x' y' u' v' p' q' : Int) (f' : Bool) (w : World) (h1 : vldB i x y u v p q false f = true) (h2 : vldB i' x' y' u' v' p' q' false f' = true) (hR : Rooms w) :
    Calls Tryd.prog 36 #[.agg #[.int .i64 i, .int .i64 x, .int .i64 y, .int .i64 u, .int .i64 v, .int .i64 p, .int .i64 q, .bool false, .bool f],
      .agg #[.int .i64 i', .int .i64 x', .int .i64 y', .int .i64 u', .int .i64 v', .int .i64 p', .int .i64 q', .bool false, .bool f']] w
      fun e w' => e = .returned (.tuple #[.int .i64 (max (max (x - x') (-(x - x')) - p - p') (max (y - y') (-(y - y')) - q - q')), .bool true]) ∧ Gr w w' := by
  have HR := Lib.hid hR; clear hR
  obtain ⟨_, ⟨hx1, hx2⟩, ⟨hy1, hy2⟩, -, -, hp, hq, -, -⟩ := vldB_iff.1 h1
  obtain ⟨_, ⟨hx3, hx4⟩, ⟨hy3, hy4⟩, -, -, hp', hq', -, -⟩ := vldB_iff.1 h2
  go_enter Tryd.func36, Tryd.ntmps36
  go_wp2_with (go_at_call 28; first | ((with_reducible refine (Valid_any i x y u v p q false f _).mono ?_); rintro e w1 ⟨rfl, hg⟩; obtain ⟨hc, hf⟩ := bcell hg; have hz := hg.size; simp only [World.size_alloc] at hz) | ((with_reducible refine (Valid_any i' x' y' u' v' p' q' false f' _).mono ?_); rintro e w2 ⟨rfl, hg2⟩))
  have hg' := hg.trans hg2
  have hgd := (Gr.refl w2).drew
  have hS : SFar w.heap.size (w.heap.size + 1) i x y u v p q false f i' x' y' u' v' p' q' false f' w2 :=
    ⟨(BodyAt.new rfl).gr (((Gr.refl _).alloc _).trans hg'), (BodyAt.new (by simp)).gr hg', HR.out.gr ((((Gr.refl _).alloc _).alloc _).trans hg')⟩
  clear hc hf hg hg2 hz
  have ex : IntKind.i64.wrap (x - x') = x - x' := IntWalk.i64_in _ (by omega)
  have ey : IntKind.i64.wrap (y - y') = y - y' := IntWalk.i64_in _ (by omega)
  have Hg := Lib.hid hg'; clear hg'
  go_region_held3 (fun w' => (w'.cell? ⟨w.heap.size, 0, none⟩ = some (.int .i64 i) ∧ w'.cell? ⟨w.heap.size, 1, none⟩ = some (.int .i64 x) ∧ w'.cell? ⟨w.heap.size, 2, none⟩ = some (.int .i64 y) ∧ w'.cell? ⟨w.heap.size, 3, none⟩ = some (.int .i64 u) ∧ w'.cell? ⟨w.heap.size, 4, none⟩ = some (.int .i64 v) ∧ w'.cell? ⟨w.heap.size, 5, none⟩ = some (.int .i64 p) ∧ w'.cell? ⟨w.heap.size, 6, none⟩ = some (.int .i64 q) ∧ w'.cell? ⟨w.heap.size, 7, none⟩ = some (.bool false) ∧ w'.cell? ⟨w.heap.size, 8, none⟩ = some (.bool f)) ∧ (w'.cell? ⟨w.heap.size + 1, 0, none⟩ = some (.int .i64 i') ∧ w'.cell? ⟨w.heap.size + 1, 1, none⟩ = some (.int .i64 x') ∧ w'.cell? ⟨w.heap.size + 1, 2, none⟩ = some (.int .i64 y') ∧ w'.cell? ⟨w.heap.size + 1, 3, none⟩ = some (.int .i64 u') ∧ w'.cell? ⟨w.heap.size + 1, 4, none⟩ = some (.int .i64 v') ∧ w'.cell? ⟨w.heap.size + 1, 5, none⟩ = some (.int .i64 p') ∧ w'.cell? ⟨w.heap.size + 1, 6, none⟩ = some (.int .i64 q') ∧ w'.cell? ⟨w.heap.size + 1, 7, none⟩ = some (.bool false) ∧ w'.cell? ⟨w.heap.size + 1, 8, none⟩ = some (.bool f')) ∧ (w'.cell? ⟨0, 0, none⟩ = some (.func (.func 60) #[] #[]) ∧ w'.cell? ⟨0, 1, none⟩ = some (.func (.func 61) #[] #[]) ∧ w'.cell? ⟨0, 2, none⟩ = some (.func (.func 62) #[] #[]) ∧ w'.cell? ⟨0, 3, none⟩ = some (.func (.func 63) #[] #[])))
    (first | assumption | exact SFar.gr (by assumption) (by assumption))
    (first
      | (go_at_call 41; first | ((with_reducible refine (kind_any i x y u v p q false f _).mono ?_); rintro e w3 ⟨rfl, hg3⟩) | ((with_reducible refine (kind_any i' x' y' u' v' p' q' false f' _).mono ?_); rintro e w4 ⟨rfl, hg4⟩))
      | (go_at_call 42; first | ((with_reducible refine (abs_any (x - x') _ (by omega) (by omega)).mono ?_); rintro e w5 ⟨rfl, rfl⟩) | ((with_reducible refine (abs_any (y - y') _ (by omega) (by omega)).mono ?_); rintro e w6 ⟨rfl, rfl⟩))
      | (go_at_call 60; ((with_reducible refine (boxes_any i x y u v p q false f i' x' y' u' v' p' q' false f' _ _ _ hp hq hp' hq' (by omega) (by omega)).mono ?_); rintro e w7 ⟨rfl, hg7⟩)))
  go_wp2
  go_ret2
  exact ⟨rfl, Gr.trans ((((Gr.refl _).alloc _).alloc _).trans Hg.out) (by repeat (first | exact Gr.refl _ | assumption | (refine Gr.drew ?_) | refine Gr.trans ?_ (by assumption)))⟩

set_option maxHeartbeats 4000000 in
theorem far_yes01 (i x y u v p q : Int) (f : Bool) (i' x' y' u' v' p' q' : Int) (f' : Bool) (w : World) (h1 : vldB i x y u v p q false f = true) (h2 : vldB i' x' y' u' v' p' q' true f' = true) (hR : Rooms w) :
    Calls Tryd.prog 36 #[.agg #[.int .i64 i, .int .i64 x, .int .i64 y, .int .i64 u, .int .i64 v, .int .i64 p, .int .i64 q, .bool false, .bool f],
      .agg #[.int .i64 i', .int .i64 x', .int .i64 y', .int .i64 u', .int .i64 v', .int .i64 p', .int .i64 q', .bool true, .bool f']] w
      fun e w' => e = .returned (.tuple #[.int .i64 (max (max (x - x') (-(x - x')) - p) 0 * max (max (x - x') (-(x - x')) - p) 0 + max (max (y - y') (-(y - y')) - q) 0 * max (max (y - y') (-(y - y')) - q) 0 - p' * p'), .bool true]) ∧ Gr w w' := by
  have HR := Lib.hid hR; clear hR
  obtain ⟨_, ⟨hx1, hx2⟩, ⟨hy1, hy2⟩, -, -, hp, hq, -, -⟩ := vldB_iff.1 h1
  obtain ⟨_, ⟨hx3, hx4⟩, ⟨hy3, hy4⟩, -, -, hp', hq', -, -⟩ := vldB_iff.1 h2
  go_enter Tryd.func36, Tryd.ntmps36
  go_wp2_with (go_at_call 28; first | ((with_reducible refine (Valid_any i x y u v p q false f _).mono ?_); rintro e w1 ⟨rfl, hg⟩; obtain ⟨hc, hf⟩ := bcell hg; have hz := hg.size; simp only [World.size_alloc] at hz) | ((with_reducible refine (Valid_any i' x' y' u' v' p' q' true f' _).mono ?_); rintro e w2 ⟨rfl, hg2⟩))
  have hg' := hg.trans hg2
  have hgd := (Gr.refl w2).drew
  have hS : SFar w.heap.size (w.heap.size + 1) i x y u v p q false f i' x' y' u' v' p' q' true f' w2 :=
    ⟨(BodyAt.new rfl).gr (((Gr.refl _).alloc _).trans hg'), (BodyAt.new (by simp)).gr hg', HR.out.gr ((((Gr.refl _).alloc _).alloc _).trans hg')⟩
  clear hc hf hg hg2 hz
  have ex : IntKind.i64.wrap (x - x') = x - x' := IntWalk.i64_in _ (by omega)
  have ey : IntKind.i64.wrap (y - y') = y - y' := IntWalk.i64_in _ (by omega)
  have Hg := Lib.hid hg'; clear hg'
  go_region_held3 (fun w' => (w'.cell? ⟨w.heap.size, 0, none⟩ = some (.int .i64 i) ∧ w'.cell? ⟨w.heap.size, 1, none⟩ = some (.int .i64 x) ∧ w'.cell? ⟨w.heap.size, 2, none⟩ = some (.int .i64 y) ∧ w'.cell? ⟨w.heap.size, 3, none⟩ = some (.int .i64 u) ∧ w'.cell? ⟨w.heap.size, 4, none⟩ = some (.int .i64 v) ∧ w'.cell? ⟨w.heap.size, 5, none⟩ = some (.int .i64 p) ∧ w'.cell? ⟨w.heap.size, 6, none⟩ = some (.int .i64 q) ∧ w'.cell? ⟨w.heap.size, 7, none⟩ = some (.bool false) ∧ w'.cell? ⟨w.heap.size, 8, none⟩ = some (.bool f)) ∧ (w'.cell? ⟨w.heap.size + 1, 0, none⟩ = some (.int .i64 i') ∧ w'.cell? ⟨w.heap.size + 1, 1, none⟩ = some (.int .i64 x') ∧ w'.cell? ⟨w.heap.size + 1, 2, none⟩ = some (.int .i64 y') ∧ w'.cell? ⟨w.heap.size + 1, 3, none⟩ = some (.int .i64 u') ∧ w'.cell? ⟨w.heap.size + 1, 4, none⟩ = some (.int .i64 v') ∧ w'.cell? ⟨w.heap.size + 1, 5, none⟩ = some (.int .i64 p') ∧ w'.cell? ⟨w.heap.size + 1, 6, none⟩ = some (.int .i64 q') ∧ w'.cell? ⟨w.heap.size + 1, 7, none⟩ = some (.bool true) ∧ w'.cell? ⟨w.heap.size + 1, 8, none⟩ = some (.bool f')) ∧ (w'.cell? ⟨0, 0, none⟩ = some (.func (.func 60) #[] #[]) ∧ w'.cell? ⟨0, 1, none⟩ = some (.func (.func 61) #[] #[]) ∧ w'.cell? ⟨0, 2, none⟩ = some (.func (.func 62) #[] #[]) ∧ w'.cell? ⟨0, 3, none⟩ = some (.func (.func 63) #[] #[])))
    (first | assumption | exact SFar.gr (by assumption) (by assumption))
    (first
      | (go_at_call 41; first | ((with_reducible refine (kind_any i x y u v p q false f _).mono ?_); rintro e w3 ⟨rfl, hg3⟩) | ((with_reducible refine (kind_any i' x' y' u' v' p' q' true f' _).mono ?_); rintro e w4 ⟨rfl, hg4⟩))
      | (go_at_call 42; first | ((with_reducible refine (abs_any (x - x') _ (by omega) (by omega)).mono ?_); rintro e w5 ⟨rfl, rfl⟩) | ((with_reducible refine (abs_any (y - y') _ (by omega) (by omega)).mono ?_); rintro e w6 ⟨rfl, rfl⟩))
      | (go_at_call 61; ((with_reducible refine (boxCircle_any i x y u v p q false f i' x' y' u' v' p' q' true f' _ _ _ hp hq hp' (by omega) (by omega)).mono ?_); rintro e w7 ⟨rfl, hg7⟩)))
  go_wp2
  go_ret2
  exact ⟨rfl, Gr.trans ((((Gr.refl _).alloc _).alloc _).trans Hg.out) (by repeat (first | exact Gr.refl _ | assumption | (refine Gr.drew ?_) | refine Gr.trans ?_ (by assumption)))⟩

set_option maxHeartbeats 4000000 in
theorem far_yes10 (i x y u v p q : Int) (f : Bool) (i' x' y' u' v' p' q' : Int) (f' : Bool) (w : World) (h1 : vldB i x y u v p q true f = true) (h2 : vldB i' x' y' u' v' p' q' false f' = true) (hR : Rooms w) :
    Calls Tryd.prog 36 #[.agg #[.int .i64 i, .int .i64 x, .int .i64 y, .int .i64 u, .int .i64 v, .int .i64 p, .int .i64 q, .bool true, .bool f],
      .agg #[.int .i64 i', .int .i64 x', .int .i64 y', .int .i64 u', .int .i64 v', .int .i64 p', .int .i64 q', .bool false, .bool f']] w
      fun e w' => e = .returned (.tuple #[.int .i64 (max (max (x - x') (-(x - x')) - p') 0 * max (max (x - x') (-(x - x')) - p') 0 + max (max (y - y') (-(y - y')) - q') 0 * max (max (y - y') (-(y - y')) - q') 0 - p * p), .bool true]) ∧ Gr w w' := by
  have HR := Lib.hid hR; clear hR
  obtain ⟨_, ⟨hx1, hx2⟩, ⟨hy1, hy2⟩, -, -, hp, hq, -, -⟩ := vldB_iff.1 h1
  obtain ⟨_, ⟨hx3, hx4⟩, ⟨hy3, hy4⟩, -, -, hp', hq', -, -⟩ := vldB_iff.1 h2
  go_enter Tryd.func36, Tryd.ntmps36
  go_wp2_with (go_at_call 28; first | ((with_reducible refine (Valid_any i x y u v p q true f _).mono ?_); rintro e w1 ⟨rfl, hg⟩; obtain ⟨hc, hf⟩ := bcell hg; have hz := hg.size; simp only [World.size_alloc] at hz) | ((with_reducible refine (Valid_any i' x' y' u' v' p' q' false f' _).mono ?_); rintro e w2 ⟨rfl, hg2⟩))
  have hg' := hg.trans hg2
  have hgd := (Gr.refl w2).drew
  have hS : SFar w.heap.size (w.heap.size + 1) i x y u v p q true f i' x' y' u' v' p' q' false f' w2 :=
    ⟨(BodyAt.new rfl).gr (((Gr.refl _).alloc _).trans hg'), (BodyAt.new (by simp)).gr hg', HR.out.gr ((((Gr.refl _).alloc _).alloc _).trans hg')⟩
  clear hc hf hg hg2 hz
  have ex : IntKind.i64.wrap (x - x') = x - x' := IntWalk.i64_in _ (by omega)
  have ey : IntKind.i64.wrap (y - y') = y - y' := IntWalk.i64_in _ (by omega)
  have Hg := Lib.hid hg'; clear hg'
  go_region_held3 (fun w' => (w'.cell? ⟨w.heap.size, 0, none⟩ = some (.int .i64 i) ∧ w'.cell? ⟨w.heap.size, 1, none⟩ = some (.int .i64 x) ∧ w'.cell? ⟨w.heap.size, 2, none⟩ = some (.int .i64 y) ∧ w'.cell? ⟨w.heap.size, 3, none⟩ = some (.int .i64 u) ∧ w'.cell? ⟨w.heap.size, 4, none⟩ = some (.int .i64 v) ∧ w'.cell? ⟨w.heap.size, 5, none⟩ = some (.int .i64 p) ∧ w'.cell? ⟨w.heap.size, 6, none⟩ = some (.int .i64 q) ∧ w'.cell? ⟨w.heap.size, 7, none⟩ = some (.bool true) ∧ w'.cell? ⟨w.heap.size, 8, none⟩ = some (.bool f)) ∧ (w'.cell? ⟨w.heap.size + 1, 0, none⟩ = some (.int .i64 i') ∧ w'.cell? ⟨w.heap.size + 1, 1, none⟩ = some (.int .i64 x') ∧ w'.cell? ⟨w.heap.size + 1, 2, none⟩ = some (.int .i64 y') ∧ w'.cell? ⟨w.heap.size + 1, 3, none⟩ = some (.int .i64 u') ∧ w'.cell? ⟨w.heap.size + 1, 4, none⟩ = some (.int .i64 v') ∧ w'.cell? ⟨w.heap.size + 1, 5, none⟩ = some (.int .i64 p') ∧ w'.cell? ⟨w.heap.size + 1, 6, none⟩ = some (.int .i64 q') ∧ w'.cell? ⟨w.heap.size + 1, 7, none⟩ = some (.bool false) ∧ w'.cell? ⟨w.heap.size + 1, 8, none⟩ = some (.bool f')) ∧ (w'.cell? ⟨0, 0, none⟩ = some (.func (.func 60) #[] #[]) ∧ w'.cell? ⟨0, 1, none⟩ = some (.func (.func 61) #[] #[]) ∧ w'.cell? ⟨0, 2, none⟩ = some (.func (.func 62) #[] #[]) ∧ w'.cell? ⟨0, 3, none⟩ = some (.func (.func 63) #[] #[])))
    (first | assumption | exact SFar.gr (by assumption) (by assumption))
    (first
      | (go_at_call 41; first | ((with_reducible refine (kind_any i x y u v p q true f _).mono ?_); rintro e w3 ⟨rfl, hg3⟩) | ((with_reducible refine (kind_any i' x' y' u' v' p' q' false f' _).mono ?_); rintro e w4 ⟨rfl, hg4⟩))
      | (go_at_call 42; first | ((with_reducible refine (abs_any (x - x') _ (by omega) (by omega)).mono ?_); rintro e w5 ⟨rfl, rfl⟩) | ((with_reducible refine (abs_any (y - y') _ (by omega) (by omega)).mono ?_); rintro e w6 ⟨rfl, rfl⟩))
      | (go_at_call 62; ((with_reducible refine (circleBox_any i x y u v p q true f i' x' y' u' v' p' q' false f' _ _ _ hp hp' hq' (by omega) (by omega)).mono ?_); rintro e w7 ⟨rfl, hg7⟩)))
  go_wp2
  go_ret2
  exact ⟨rfl, Gr.trans ((((Gr.refl _).alloc _).alloc _).trans Hg.out) (by repeat (first | exact Gr.refl _ | assumption | (refine Gr.drew ?_) | refine Gr.trans ?_ (by assumption)))⟩

set_option maxHeartbeats 4000000 in
theorem far_yes11 (i x y u v p q : Int) (f : Bool) (i' x' y' u' v' p' q' : Int) (f' : Bool) (w : World) (h1 : vldB i x y u v p q true f = true) (h2 : vldB i' x' y' u' v' p' q' true f' = true) (hR : Rooms w) :
    Calls Tryd.prog 36 #[.agg #[.int .i64 i, .int .i64 x, .int .i64 y, .int .i64 u, .int .i64 v, .int .i64 p, .int .i64 q, .bool true, .bool f],
      .agg #[.int .i64 i', .int .i64 x', .int .i64 y', .int .i64 u', .int .i64 v', .int .i64 p', .int .i64 q', .bool true, .bool f']] w
      fun e w' => e = .returned (.tuple #[.int .i64 (max (x - x') (-(x - x')) * max (x - x') (-(x - x')) + max (y - y') (-(y - y')) * max (y - y') (-(y - y')) - (p + p') * (p + p')), .bool true]) ∧ Gr w w' := by
  have HR := Lib.hid hR; clear hR
  obtain ⟨_, ⟨hx1, hx2⟩, ⟨hy1, hy2⟩, -, -, hp, hq, -, -⟩ := vldB_iff.1 h1
  obtain ⟨_, ⟨hx3, hx4⟩, ⟨hy3, hy4⟩, -, -, hp', hq', -, -⟩ := vldB_iff.1 h2
  have hX : 0 ≤ max (x - x') (-(x - x')) * max (x - x') (-(x - x')) ∧ max (x - x') (-(x - x')) * max (x - x') (-(x - x')) ≤ 1000000000000000 :=
    ⟨Int.mul_nonneg (by omega) (by omega), Int.le_trans (Int.mul_le_mul (c := 2097152) (d := 2097152) (by omega) (by omega) (by omega) (by omega)) (by decide)⟩
  have hY : 0 ≤ max (y - y') (-(y - y')) * max (y - y') (-(y - y')) ∧ max (y - y') (-(y - y')) * max (y - y') (-(y - y')) ≤ 1000000000000000 :=
    ⟨Int.mul_nonneg (by omega) (by omega), Int.le_trans (Int.mul_le_mul (c := 2097152) (d := 2097152) (by omega) (by omega) (by omega) (by omega)) (by decide)⟩
  have hM : 0 ≤ (p + p') * (p + p') ∧ (p + p') * (p + p') ≤ 2000000000 :=
    ⟨Int.mul_nonneg (by omega) (by omega), Int.le_trans (Int.mul_le_mul (c := 32768) (d := 32768) (by omega) (by omega) (by omega) (by omega)) (by decide)⟩
  go_enter Tryd.func36, Tryd.ntmps36
  go_wp2_with (go_at_call 28; first | ((with_reducible refine (Valid_any i x y u v p q true f _).mono ?_); rintro e w1 ⟨rfl, hg⟩; obtain ⟨hc, hf⟩ := bcell hg; have hz := hg.size; simp only [World.size_alloc] at hz) | ((with_reducible refine (Valid_any i' x' y' u' v' p' q' true f' _).mono ?_); rintro e w2 ⟨rfl, hg2⟩))
  have hg' := hg.trans hg2
  have hgd := (Gr.refl w2).drew
  have hS : SFar w.heap.size (w.heap.size + 1) i x y u v p q true f i' x' y' u' v' p' q' true f' w2 :=
    ⟨(BodyAt.new rfl).gr (((Gr.refl _).alloc _).trans hg'), (BodyAt.new (by simp)).gr hg', HR.out.gr ((((Gr.refl _).alloc _).alloc _).trans hg')⟩
  clear hc hf hg hg2 hz
  have ex : IntKind.i64.wrap (x - x') = x - x' := IntWalk.i64_in _ (by omega)
  have ey : IntKind.i64.wrap (y - y') = y - y' := IntWalk.i64_in _ (by omega)
  have Hg := Lib.hid hg'; clear hg'
  go_region_held3 (fun w' => (w'.cell? ⟨w.heap.size, 0, none⟩ = some (.int .i64 i) ∧ w'.cell? ⟨w.heap.size, 1, none⟩ = some (.int .i64 x) ∧ w'.cell? ⟨w.heap.size, 2, none⟩ = some (.int .i64 y) ∧ w'.cell? ⟨w.heap.size, 3, none⟩ = some (.int .i64 u) ∧ w'.cell? ⟨w.heap.size, 4, none⟩ = some (.int .i64 v) ∧ w'.cell? ⟨w.heap.size, 5, none⟩ = some (.int .i64 p) ∧ w'.cell? ⟨w.heap.size, 6, none⟩ = some (.int .i64 q) ∧ w'.cell? ⟨w.heap.size, 7, none⟩ = some (.bool true) ∧ w'.cell? ⟨w.heap.size, 8, none⟩ = some (.bool f)) ∧ (w'.cell? ⟨w.heap.size + 1, 0, none⟩ = some (.int .i64 i') ∧ w'.cell? ⟨w.heap.size + 1, 1, none⟩ = some (.int .i64 x') ∧ w'.cell? ⟨w.heap.size + 1, 2, none⟩ = some (.int .i64 y') ∧ w'.cell? ⟨w.heap.size + 1, 3, none⟩ = some (.int .i64 u') ∧ w'.cell? ⟨w.heap.size + 1, 4, none⟩ = some (.int .i64 v') ∧ w'.cell? ⟨w.heap.size + 1, 5, none⟩ = some (.int .i64 p') ∧ w'.cell? ⟨w.heap.size + 1, 6, none⟩ = some (.int .i64 q') ∧ w'.cell? ⟨w.heap.size + 1, 7, none⟩ = some (.bool true) ∧ w'.cell? ⟨w.heap.size + 1, 8, none⟩ = some (.bool f')) ∧ (w'.cell? ⟨0, 0, none⟩ = some (.func (.func 60) #[] #[]) ∧ w'.cell? ⟨0, 1, none⟩ = some (.func (.func 61) #[] #[]) ∧ w'.cell? ⟨0, 2, none⟩ = some (.func (.func 62) #[] #[]) ∧ w'.cell? ⟨0, 3, none⟩ = some (.func (.func 63) #[] #[])))
    (first | assumption | exact SFar.gr (by assumption) (by assumption))
    (first
      | (go_at_call 41; first | ((with_reducible refine (kind_any i x y u v p q true f _).mono ?_); rintro e w3 ⟨rfl, hg3⟩) | ((with_reducible refine (kind_any i' x' y' u' v' p' q' true f' _).mono ?_); rintro e w4 ⟨rfl, hg4⟩))
      | (go_at_call 42; first | ((with_reducible refine (abs_any (x - x') _ (by omega) (by omega)).mono ?_); rintro e w5 ⟨rfl, rfl⟩) | ((with_reducible refine (abs_any (y - y') _ (by omega) (by omega)).mono ?_); rintro e w6 ⟨rfl, rfl⟩))
      | (go_at_call 63; ((with_reducible refine (circles_any i x y u v p q true f i' x' y' u' v' p' q' true f' _ _ _ hp hp' hX hY hM).mono ?_); rintro e w7 ⟨rfl, hg7⟩)))
  go_wp2
  go_ret2
  exact ⟨rfl, Gr.trans ((((Gr.refl _).alloc _).alloc _).trans Hg.out) (by repeat (first | exact Gr.refl _ | assumption | (refine Gr.drew ?_) | refine Gr.trans ?_ (by assumption)))⟩

end Go.Proofs.YtggcfjeehpcclaaDoor
