/- The examples of the chapter, which each statement asks first: 'awake' returns true. -/
import Derived.Test.YtggcfjeehpcclaaDoorD1
namespace Go.Proofs.YtggcfjeehpcclaaDoor
open Go.RowKit

theorem Overlap_is {b : Bool} {i x y u v p q : Int} {r f : Bool} {i' x' y' u' v' p' q' : Int} {r' f' : Bool} (w : World) (hR : Rooms w) (h : ovB i x y u v p q r f i' x' y' u' v' p' q' r' f' = b) :
    Calls Tryd.prog 20 #[.agg #[.int .i64 i, .int .i64 x, .int .i64 y, .int .i64 u, .int .i64 v, .int .i64 p, .int .i64 q, .bool r, .bool f], .agg #[.int .i64 i', .int .i64 x', .int .i64 y', .int .i64 u', .int .i64 v', .int .i64 p', .int .i64 q', .bool r', .bool f']] w fun e w' => e = .returned (.bool b) ∧ Gr w w' := by
  subst h; exact Overlap_any i x y u v p q r f i' x' y' u' v' p' q' r' f' w hR
theorem Meet_is {b : Bool} {i x y u v p q : Int} {r f : Bool} {i' x' y' u' v' p' q' : Int} {r' f' : Bool} (w : World) (hR : Rooms w) (h : meB i x y u v p q r f i' x' y' u' v' p' q' r' f' = b) :
    Calls Tryd.prog 22 #[.agg #[.int .i64 i, .int .i64 x, .int .i64 y, .int .i64 u, .int .i64 v, .int .i64 p, .int .i64 q, .bool r, .bool f], .agg #[.int .i64 i', .int .i64 x', .int .i64 y', .int .i64 u', .int .i64 v', .int .i64 p', .int .i64 q', .bool r', .bool f']] w fun e w' => e = .returned (.bool b) ∧ Gr w w' := by
  subst h; exact Meet_any i x y u v p q r f i' x' y' u' v' p' q' r' f' w hR
theorem Touch_is {b : Bool} {i x y u v p q : Int} {r f : Bool} {i' x' y' u' v' p' q' : Int} {r' f' : Bool} (w : World) (hR : Rooms w) (h : toB i x y u v p q r f i' x' y' u' v' p' q' r' f' = b) :
    Calls Tryd.prog 21 #[.agg #[.int .i64 i, .int .i64 x, .int .i64 y, .int .i64 u, .int .i64 v, .int .i64 p, .int .i64 q, .bool r, .bool f], .agg #[.int .i64 i', .int .i64 x', .int .i64 y', .int .i64 u', .int .i64 v', .int .i64 p', .int .i64 q', .bool r', .bool f']] w fun e w' => e = .returned (.bool b) ∧ Gr w w' := by
  subst h; exact Touch_any i x y u v p q r f i' x' y' u' v' p' q' r' f' w hR
theorem Valid_is {b : Bool} {i x y u v p q : Int} {r f : Bool} (w : World) (h : vldB i x y u v p q r f = b) :
    Calls Tryd.prog 28 #[.agg #[.int .i64 i, .int .i64 x, .int .i64 y, .int .i64 u, .int .i64 v, .int .i64 p, .int .i64 q, .bool r, .bool f]] w fun e w' => e = .returned (.bool b) ∧ Gr w w' := by
  subst h; exact Valid_any i x y u v p q r f w
theorem Has_is {b : Bool} {i x y u v p q : Int} {r f : Bool} {px py : Int} (w : World) (h : hasB i x y u v p q r f px py = b) :
    Calls Tryd.prog 26 #[.agg #[.int .i64 i, .int .i64 x, .int .i64 y, .int .i64 u, .int .i64 v, .int .i64 p, .int .i64 q, .bool r, .bool f], .agg #[.int .i64 px, .int .i64 py]] w fun e w' => e = .returned (.bool b) ∧ Gr w w' := by
  subst h; exact Has_any i x y u v p q r f px py w

def SAw (n n' : Nat) (w' : World) : Prop := (w'.cell? ⟨n, 0, none⟩ = some (.int .i64 0) ∧ w'.cell? ⟨n, 1, none⟩ = some (.int .i64 0) ∧ w'.cell? ⟨n, 2, none⟩ = some (.int .i64 0) ∧ w'.cell? ⟨n, 3, none⟩ = some (.int .i64 0) ∧ w'.cell? ⟨n, 4, none⟩ = some (.int .i64 0) ∧ w'.cell? ⟨n, 5, none⟩ = some (.int .i64 3) ∧ w'.cell? ⟨n, 6, none⟩ = some (.int .i64 2) ∧ w'.cell? ⟨n, 7, none⟩ = some (.bool false) ∧ w'.cell? ⟨n, 8, none⟩ = some (.bool false)) ∧ (w'.cell? ⟨n', 0, none⟩ = some (.int .i64 0) ∧ w'.cell? ⟨n', 1, none⟩ = some (.int .i64 0) ∧ w'.cell? ⟨n', 2, none⟩ = some (.int .i64 0) ∧ w'.cell? ⟨n', 3, none⟩ = some (.int .i64 0) ∧ w'.cell? ⟨n', 4, none⟩ = some (.int .i64 0) ∧ w'.cell? ⟨n', 5, none⟩ = some (.int .i64 2) ∧ w'.cell? ⟨n', 6, none⟩ = some (.int .i64 2) ∧ w'.cell? ⟨n', 7, none⟩ = some (.bool true) ∧ w'.cell? ⟨n', 8, none⟩ = some (.bool false)) ∧ Rooms w'
theorem SAw.gr {n n' : Nat} {a w : World} (g : Gr a w) (h : SAw n n' a) : SAw n n' w :=
  ⟨⟨g.cellSome h.1.1, g.cellSome h.1.2.1, g.cellSome h.1.2.2.1, g.cellSome h.1.2.2.2.1, g.cellSome h.1.2.2.2.2.1, g.cellSome h.1.2.2.2.2.2.1, g.cellSome h.1.2.2.2.2.2.2.1, g.cellSome h.1.2.2.2.2.2.2.2.1, g.cellSome h.1.2.2.2.2.2.2.2.2⟩, ⟨g.cellSome h.2.1.1, g.cellSome h.2.1.2.1, g.cellSome h.2.1.2.2.1, g.cellSome h.2.1.2.2.2.1, g.cellSome h.2.1.2.2.2.2.1, g.cellSome h.2.1.2.2.2.2.2.1, g.cellSome h.2.1.2.2.2.2.2.2.1, g.cellSome h.2.1.2.2.2.2.2.2.2.1, g.cellSome h.2.1.2.2.2.2.2.2.2.2⟩, h.2.2.gr g⟩
theorem SAw.rooms {n n' : Nat} {w : World} (h : SAw n n' w) : Rooms w := h.2.2
theorem SAw.new {n n' : Nat} {w : World} (h1 : Blk w n #[.int .i64 0, .int .i64 0, .int .i64 0, .int .i64 0, .int .i64 0, .int .i64 3, .int .i64 2, .bool false, .bool false] 25) (h2 : Blk w n' #[.int .i64 0, .int .i64 0, .int .i64 0, .int .i64 0, .int .i64 0, .int .i64 2, .int .i64 2, .bool true, .bool false] 25) (hR : Rooms w) : SAw n n' w :=
  ⟨⟨h1.cell 0, h1.cell 1, h1.cell 2, h1.cell 3, h1.cell 4, h1.cell 5, h1.cell 6, h1.cell 7, h1.cell 8⟩, ⟨h2.cell 0, h2.cell 1, h2.cell 2, h2.cell 3, h2.cell 4, h2.cell 5, h2.cell 6, h2.cell 7, h2.cell 8⟩, hR⟩

theorem aw1 : toB 0 0 0 0 0 3 2 false false 0 5 0 0 0 2 2 false false = true := by decide +kernel
theorem aw2 : ovB 0 0 0 0 0 3 2 false false 0 4 0 0 0 2 2 false false = true := by decide +kernel
theorem aw3 : meB 0 0 0 0 0 3 2 false false 0 5 5 0 0 2 2 false false = false := by decide +kernel
theorem aw4 : toB 0 0 0 0 0 2 2 true false 0 3 4 0 0 3 3 true false = true := by decide +kernel
theorem aw5 : ovB 0 0 0 0 0 2 2 true false 0 3 3 0 0 3 3 true false = true := by decide +kernel
theorem aw6 : toB 0 0 0 0 0 3 2 false false 0 6 6 0 0 5 5 true false = true := by decide +kernel
theorem aw7 : ovB 0 0 0 0 0 3 2 false false 0 6 6 0 0 6 6 true false = true := by decide +kernel
theorem aw8 : vldB 0 0 0 0 0 3 2 false false = true := by decide +kernel
theorem aw9 : hasB 0 0 0 0 0 3 2 false false 3 2 = true := by decide +kernel
theorem aw10 : hasB 0 0 0 0 0 3 2 false false 4 2 = false := by decide +kernel
theorem aw11 : hasB 0 0 0 0 0 5 5 true false 3 4 = true := by decide +kernel
theorem aw12 : hasB 0 0 0 0 0 5 5 true false 4 4 = false := by decide +kernel

set_option maxHeartbeats 4000000 in
theorem awake_true (w : World) (hR : Rooms w) :
    Calls Tryd.prog 13 #[] w fun e w' => e = .returned (.bool true) ∧ Gr w w' := by
  have HR := Lib.hid hR; clear hR
  go_enter Tryd.func13, Tryd.ntmps13
  go_wp2_with fail
  refine (Box_any 0 0 3 2 _).mono ?_
  rintro e w2 ⟨rfl, hg2⟩
  go_wp2_with fail
  refine (Round_any 0 0 2 _).mono ?_
  rintro e w3 ⟨rfl, hg3⟩
  go_wp2_with fail
  have hg : Gr w ((w3.alloc (.cells #[.int .i64 0, .int .i64 0, .int .i64 0, .int .i64 0, .int .i64 0, .int .i64 3, .int .i64 2, .bool false, .bool false] 25)).alloc (.cells #[.int .i64 0, .int .i64 0, .int .i64 0, .int .i64 0, .int .i64 0, .int .i64 2, .int .i64 2, .bool true, .bool false] 25)) := ((hg2.trans hg3).alloc _).alloc _
  have hS : SAw w3.heap.size (w3.heap.size + 1) ((w3.alloc (.cells #[.int .i64 0, .int .i64 0, .int .i64 0, .int .i64 0, .int .i64 0, .int .i64 3, .int .i64 2, .bool false, .bool false] 25)).alloc (.cells #[.int .i64 0, .int .i64 0, .int .i64 0, .int .i64 0, .int .i64 0, .int .i64 2, .int .i64 2, .bool true, .bool false] 25)) := SAw.new (Blk.new rfl).alloc (Blk.new (by simp)) (HR.out.gr hg)
  generalize hw : (w3.alloc (.cells #[.int .i64 0, .int .i64 0, .int .i64 0, .int .i64 0, .int .i64 0, .int .i64 3, .int .i64 2, .bool false, .bool false] 25)).alloc (.cells #[.int .i64 0, .int .i64 0, .int .i64 0, .int .i64 0, .int .i64 0, .int .i64 2, .int .i64 2, .bool true, .bool false] 25) = w4 at hg hS
  clear hw hg2 hg3
  have Hg := Lib.hid hg; clear hg
  have hgd := (Gr.refl w4).drew
  generalize w3.heap.size = n at hS
  go_region_held3 (fun w' => (w'.cell? ⟨n, 0, none⟩ = some (.int .i64 0) ∧ w'.cell? ⟨n, 1, none⟩ = some (.int .i64 0) ∧ w'.cell? ⟨n, 2, none⟩ = some (.int .i64 0) ∧ w'.cell? ⟨n, 3, none⟩ = some (.int .i64 0) ∧ w'.cell? ⟨n, 4, none⟩ = some (.int .i64 0) ∧ w'.cell? ⟨n, 5, none⟩ = some (.int .i64 3) ∧ w'.cell? ⟨n, 6, none⟩ = some (.int .i64 2) ∧ w'.cell? ⟨n, 7, none⟩ = some (.bool false) ∧ w'.cell? ⟨n, 8, none⟩ = some (.bool false)) ∧ (w'.cell? ⟨n + 1, 0, none⟩ = some (.int .i64 0) ∧ w'.cell? ⟨n + 1, 1, none⟩ = some (.int .i64 0) ∧ w'.cell? ⟨n + 1, 2, none⟩ = some (.int .i64 0) ∧ w'.cell? ⟨n + 1, 3, none⟩ = some (.int .i64 0) ∧ w'.cell? ⟨n + 1, 4, none⟩ = some (.int .i64 0) ∧ w'.cell? ⟨n + 1, 5, none⟩ = some (.int .i64 2) ∧ w'.cell? ⟨n + 1, 6, none⟩ = some (.int .i64 2) ∧ w'.cell? ⟨n + 1, 7, none⟩ = some (.bool true) ∧ w'.cell? ⟨n + 1, 8, none⟩ = some (.bool false)) ∧ Rooms w')
    (first | assumption | exact SAw.gr (by assumption) (by assumption) | exact SAw.gr (Gr.drew (Gr.refl _)) (by assumption))
    (first
      | (go_at_call 15; ((with_reducible refine (Box_any _ _ _ _ _).mono ?_); rintro e wb ⟨rfl, hgb⟩))
      | (go_at_call 16; ((with_reducible refine (Round_any _ _ _ _).mono ?_); rintro e wb ⟨rfl, hgb⟩))
      | (go_at_call 21; first | ((with_reducible refine (Touch_is _ ?_ aw1).mono ?_); (exact SAw.rooms (by assumption)); rintro e wc ⟨rfl, hgc⟩) | ((with_reducible refine (Touch_is _ ?_ aw4).mono ?_); (exact SAw.rooms (by assumption)); rintro e wc ⟨rfl, hgc⟩))
      | (go_at_call 20; first | ((with_reducible refine (Overlap_is _ ?_ aw2).mono ?_); (exact SAw.rooms (by assumption)); rintro e wc ⟨rfl, hgc⟩) | ((with_reducible refine (Overlap_is _ ?_ aw5).mono ?_); (exact SAw.rooms (by assumption)); rintro e wc ⟨rfl, hgc⟩))
      | (go_at_call 22; first | ((with_reducible refine (Meet_is _ ?_ aw3).mono ?_); (exact SAw.rooms (by assumption)); rintro e wc ⟨rfl, hgc⟩)))
  go_wp2_with fail
  go_region_held3 (fun w' => (w'.cell? ⟨n, 0, none⟩ = some (.int .i64 0) ∧ w'.cell? ⟨n, 1, none⟩ = some (.int .i64 0) ∧ w'.cell? ⟨n, 2, none⟩ = some (.int .i64 0) ∧ w'.cell? ⟨n, 3, none⟩ = some (.int .i64 0) ∧ w'.cell? ⟨n, 4, none⟩ = some (.int .i64 0) ∧ w'.cell? ⟨n, 5, none⟩ = some (.int .i64 3) ∧ w'.cell? ⟨n, 6, none⟩ = some (.int .i64 2) ∧ w'.cell? ⟨n, 7, none⟩ = some (.bool false) ∧ w'.cell? ⟨n, 8, none⟩ = some (.bool false)) ∧ (w'.cell? ⟨n + 1, 0, none⟩ = some (.int .i64 0) ∧ w'.cell? ⟨n + 1, 1, none⟩ = some (.int .i64 0) ∧ w'.cell? ⟨n + 1, 2, none⟩ = some (.int .i64 0) ∧ w'.cell? ⟨n + 1, 3, none⟩ = some (.int .i64 0) ∧ w'.cell? ⟨n + 1, 4, none⟩ = some (.int .i64 0) ∧ w'.cell? ⟨n + 1, 5, none⟩ = some (.int .i64 2) ∧ w'.cell? ⟨n + 1, 6, none⟩ = some (.int .i64 2) ∧ w'.cell? ⟨n + 1, 7, none⟩ = some (.bool true) ∧ w'.cell? ⟨n + 1, 8, none⟩ = some (.bool false)) ∧ Rooms w')
    (first | assumption | exact SAw.gr (by assumption) (by assumption) | exact SAw.gr (Gr.drew (Gr.refl _)) (by assumption))
    (first
      | (go_at_call 15; ((with_reducible refine (Box_any _ _ _ _ _).mono ?_); rintro e wb ⟨rfl, hgb⟩))
      | (go_at_call 16; ((with_reducible refine (Round_any _ _ _ _).mono ?_); rintro e wb ⟨rfl, hgb⟩))
      | (go_at_call 21; first | ((with_reducible refine (Touch_is _ ?_ aw6).mono ?_); (exact SAw.rooms (by assumption)); rintro e wc ⟨rfl, hgc⟩))
      | (go_at_call 20; first | ((with_reducible refine (Overlap_is _ ?_ aw7).mono ?_); (exact SAw.rooms (by assumption)); rintro e wc ⟨rfl, hgc⟩))
      | (go_at_call 28; first | ((with_reducible refine (Valid_is _ aw8).mono ?_); rintro e wc ⟨rfl, hgc⟩)))
  go_wp2_with fail
  have hS6 : SAw n (n + 1) wc := by assumption
  obtain ⟨⟨a0, a1, a2, a3, a4, a5, a6, a7, a8⟩, -, -⟩ := id hS6
  go_wp2_with (first
    | (go_at_call 16; ((with_reducible refine (Round_any _ _ _ _).mono ?_); rintro e wb ⟨rfl, hgb⟩; skip))
    | (go_at_call 26; first | ((with_reducible refine (Has_is _ aw9).mono ?_); rintro e wc ⟨rfl, hgc⟩; have hS7 := SAw.gr hgc hS6; obtain ⟨⟨b0, b1, b2, b3, b4, b5, b6, b7, b8⟩, -, -⟩ := id hS7) | ((with_reducible refine (Has_is _ aw10).mono ?_); rintro e wc ⟨rfl, hgc⟩) | ((with_reducible refine (Has_is _ aw11).mono ?_); rintro e wc ⟨rfl, hgc⟩) | ((with_reducible refine (Has_is _ aw12).mono ?_); rintro e wc ⟨rfl, hgc⟩)))
  go_ret
  have hg9 := Hg.out
  exact ⟨rfl, by repeat (first | with_reducible exact Gr.refl _ | with_reducible assumption | (with_reducible refine Gr.setAt ?_ ?_ _; focus omega) | with_reducible refine Gr.alloc ?_ _ | with_reducible refine Gr.drew ?_ | with_reducible refine Gr.drewN ?_ _ | with_reducible refine Gr.trans ?_ (by assumption))⟩
end Go.Proofs.YtggcfjeehpcclaaDoor
