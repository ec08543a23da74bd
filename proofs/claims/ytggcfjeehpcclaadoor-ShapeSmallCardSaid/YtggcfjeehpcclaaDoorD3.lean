/- The statements' 'two': the program's Overlap, Meet, Touch against the reference's. -/
import Derived.Test.YtggcfjeehpcclaaDoorC5
import Derived.Test.YtggcfjeehpcclaaDoorD1
namespace Go.Proofs.YtggcfjeehpcclaaDoor
open Go.RowKit

def STw (n n' : Nat) (i x y u v p q : Int) (r f : Bool) (i' x' y' u' v' p' q' : Int) (r' f' : Bool) (w : World) : Prop :=
  BodyAt w n i x y u v p q r f ∧ BodyAt w n' i' x' y' u' v' p' q' r' f' ∧ Rooms w
theorem STw.gr {n n' : Nat} {i x y u v p q : Int} {r f : Bool} {i' x' y' u' v' p' q' : Int} {r' f' : Bool} {a w : World} (g : Gr a w) (h : STw n n' i x y u v p q r f i' x' y' u' v' p' q' r' f' a) : STw n n' i x y u v p q r f i' x' y' u' v' p' q' r' f' w :=
  ⟨h.1.gr g, h.2.1.gr g, h.2.2.gr g⟩
theorem STw.rooms {n n' : Nat} {i x y u v p q : Int} {r f : Bool} {i' x' y' u' v' p' q' : Int} {r' f' : Bool} {w : World} (h : STw n n' i x y u v p q r f i' x' y' u' v' p' q' r' f' w) : Rooms w := h.2.2

set_option maxHeartbeats 4000000 in
theorem two_true (i x y u v p q : Int) (r f : Bool) (i' x' y' u' v' p' q' : Int) (r' f' : Bool) (w : World) (hR : Rooms w) :
    Calls Tryd.prog 12 #[.agg #[.int .i64 i, .int .i64 x, .int .i64 y, .int .i64 u, .int .i64 v, .int .i64 p, .int .i64 q, .bool r, .bool f], .agg #[.int .i64 i', .int .i64 x', .int .i64 y', .int .i64 u', .int .i64 v', .int .i64 p', .int .i64 q', .bool r', .bool f']] w fun e w' => e = .returned (.bool true) ∧ Gr w w' := by
  have HR := Lib.hid hR; clear hR
  go_enter Tryd.func12, Tryd.ntmps12
  go_wp2_with fail
  have hg : Gr w ((w.alloc (.cells #[.int .i64 i, .int .i64 x, .int .i64 y, .int .i64 u, .int .i64 v, .int .i64 p, .int .i64 q, .bool r, .bool f] 25)).alloc (.cells #[.int .i64 i', .int .i64 x', .int .i64 y', .int .i64 u', .int .i64 v', .int .i64 p', .int .i64 q', .bool r', .bool f'] 25)) := ((Gr.refl w).alloc _).alloc _
  have hS : STw w.heap.size (w.heap.size + 1) i x y u v p q r f i' x' y' u' v' p' q' r' f' ((w.alloc (.cells #[.int .i64 i, .int .i64 x, .int .i64 y, .int .i64 u, .int .i64 v, .int .i64 p, .int .i64 q, .bool r, .bool f] 25)).alloc (.cells #[.int .i64 i', .int .i64 x', .int .i64 y', .int .i64 u', .int .i64 v', .int .i64 p', .int .i64 q', .bool r', .bool f'] 25)) :=
    ⟨(BodyAt.new rfl).gr ((Gr.refl _).alloc _), BodyAt.new (by simp), HR.out.gr hg⟩
  generalize hw : (w.alloc (.cells #[.int .i64 i, .int .i64 x, .int .i64 y, .int .i64 u, .int .i64 v, .int .i64 p, .int .i64 q, .bool r, .bool f] 25)).alloc (.cells #[.int .i64 i', .int .i64 x', .int .i64 y', .int .i64 u', .int .i64 v', .int .i64 p', .int .i64 q', .bool r', .bool f'] 25) = w4 at hg hS
  clear hw
  have Hg := Lib.hid hg; clear hg
  have hgd := (Gr.refl w4).drew
  generalize w.heap.size = n at hS
  go_region_held3 (fun w' => (w'.cell? ⟨n, 0, none⟩ = some (.int .i64 i) ∧ w'.cell? ⟨n, 1, none⟩ = some (.int .i64 x) ∧ w'.cell? ⟨n, 2, none⟩ = some (.int .i64 y) ∧ w'.cell? ⟨n, 3, none⟩ = some (.int .i64 u) ∧ w'.cell? ⟨n, 4, none⟩ = some (.int .i64 v) ∧ w'.cell? ⟨n, 5, none⟩ = some (.int .i64 p) ∧ w'.cell? ⟨n, 6, none⟩ = some (.int .i64 q) ∧ w'.cell? ⟨n, 7, none⟩ = some (.bool r) ∧ w'.cell? ⟨n, 8, none⟩ = some (.bool f)) ∧ (w'.cell? ⟨n + 1, 0, none⟩ = some (.int .i64 i') ∧ w'.cell? ⟨n + 1, 1, none⟩ = some (.int .i64 x') ∧ w'.cell? ⟨n + 1, 2, none⟩ = some (.int .i64 y') ∧ w'.cell? ⟨n + 1, 3, none⟩ = some (.int .i64 u') ∧ w'.cell? ⟨n + 1, 4, none⟩ = some (.int .i64 v') ∧ w'.cell? ⟨n + 1, 5, none⟩ = some (.int .i64 p') ∧ w'.cell? ⟨n + 1, 6, none⟩ = some (.int .i64 q') ∧ w'.cell? ⟨n + 1, 7, none⟩ = some (.bool r') ∧ w'.cell? ⟨n + 1, 8, none⟩ = some (.bool f')) ∧ Rooms w')
    (first | assumption | exact STw.gr (by assumption) (by assumption))
    (first
      | (go_at_call 20; ((with_reducible refine (Overlap_any i x y u v p q r f i' x' y' u' v' p' q' r' f' _ ?_).mono ?_); (exact STw.rooms (by assumption)); rintro e wc ⟨rfl, hgc⟩))
      | (go_at_call 29; ((with_reducible refine (rOverlap_any i x y u v p q r f i' x' y' u' v' p' q' r' f' _).mono ?_); rintro e wc ⟨rfl, hgc⟩))
      | (go_at_call 22; ((with_reducible refine (Meet_any i x y u v p q r f i' x' y' u' v' p' q' r' f' _ ?_).mono ?_); (exact STw.rooms (by assumption)); rintro e wc ⟨rfl, hgc⟩))
      | (go_at_call 30; ((with_reducible refine (rMeet_any i x y u v p q r f i' x' y' u' v' p' q' r' f' _).mono ?_); rintro e wc ⟨rfl, hgc⟩))
      | (go_at_call 21; ((with_reducible refine (Touch_any i x y u v p q r f i' x' y' u' v' p' q' r' f' _ ?_).mono ?_); (exact STw.rooms (by assumption)); rintro e wc ⟨rfl, hgc⟩))
      | (go_at_call 31; ((with_reducible refine (rTouch_any i x y u v p q r f i' x' y' u' v' p' q' r' f' _).mono ?_); rintro e wc ⟨rfl, hgc⟩)))
  go_wp2
  go_ret
  have hg9 := Hg.out
  exact ⟨rfl, by repeat (first | with_reducible exact Gr.refl _ | with_reducible assumption | (with_reducible refine Gr.setAt ?_ ?_ _; focus omega) | with_reducible refine Gr.alloc ?_ _ | with_reducible refine Gr.drew ?_ | with_reducible refine Gr.drewN ?_ _ | with_reducible refine Gr.trans ?_ (by assumption))⟩
end Go.Proofs.YtggcfjeehpcclaaDoor
