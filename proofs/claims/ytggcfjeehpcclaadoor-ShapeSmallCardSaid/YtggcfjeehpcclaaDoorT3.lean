/- The table of the four cases, as it is laid. -/
import Derived.Test.YtggcfjeehpcclaaDoorL0
import Derived.Test.YtggcfjeehpcclaaDoorT1
namespace Go.Proofs.YtggcfjeehpcclaaDoor
open Go.ChangeShapes Go.WideShapes Go.ChangeAt Go.RowKit

def laidRooms : List (String × DataW Unit) := [("marches/shape.rooms", Rows.laid_marches_shape_rooms)]
theorem door_met (os : Os) (args : Array Value) : laidMetH Tryd.prog laidRooms ((World.doorLaid Tryd.prog 16 os).forCall (fun _ _ => 0) ⟨#[], args, []⟩).memory :=
  laidMetH_of_parts3 (fuel := 8) (laidMet_of_run' 8 (by kernel_rfl) (by kernel_rfl)) (by kernel_rfl) (by kernel_rfl)

theorem cellsOf_row : Tryd.prog.cellsOf 57 = 2 := by kernel_rfl
theorem cellsOf_room : Tryd.prog.cellsOf 56 = 1 := by kernel_rfl

theorem rooms_of_laid {W : World} (h : laidMetH Tryd.prog laidRooms W) : Rooms W := by
  obtain ⟨g, t, cs, fuel, p, hg, ht, hv, hd⟩ := h.funcs (n := "marches/shape.rooms") (List.mem_cons_self ..)
  obtain rfl := Option.some.inj ((show Tryd.prog.globalNamed "marches/shape.rooms" = some 0 by kernel_rfl).symm.trans hg)
  obtain rfl := Option.some.inj ((show (Tryd.prog.globals[0]?).map (·.type) = some 58 by kernel_rfl).symm.trans ht)
  have hd' : DataW.trod (funcToken Tryd.prog) Tryd.prog W 0 (fun _ => true) true fuel 58 cs.toList = some (.agg [.agg [.held [109, 97, 114, 99, 104, 101, 115, 47, 115, 104, 97, 112, 101, 46, 98, 111, 120, 101, 115], .held [109, 97, 114, 99, 104, 101, 115, 47, 115, 104, 97, 112, 101, 46, 98, 111, 120, 67, 105, 114, 99, 108, 101]], .agg [.held [109, 97, 114, 99, 104, 101, 115, 47, 115, 104, 97, 112, 101, 46, 99, 105, 114, 99, 108, 101, 66, 111, 120], .held [109, 97, 114, 99, 104, 101, 115, 47, 115, 104, 97, 112, 101, 46, 99, 105, 114, 99, 108, 101, 115]]], p) := hd
  obtain ⟨xs, m, _, hx, hlen, hxl, hel⟩ := DataW.trod_array Tryd.underlying58 hd'
  have hcell := fun k => World.var?_cell hg hv k
  obtain ⟨l⟩ := cs
  have hl4 : l.length = 4 := hlen.trans (by kernel_rfl)
  match l, hl4, xs, hxl with
  | [c0, c1, c2, c3], _, [y0, y1], _ =>
    have e0 := hel 0 (by decide)
    have e1 := hel 1 (by decide)
    simp [cellsOf_row] at e0 e1
    simp only [List.map_cons, List.map_nil, Prod.mk.injEq, DataW.agg.injEq, List.cons.injEq, and_true] at hx
    obtain ⟨xs0, m0, _, hx0, _, hxl0, hel0⟩ := DataW.trod_array Tryd.underlying57 e0
    obtain ⟨xs1, m1, _, hx1, _, hxl1, hel1⟩ := DataW.trod_array Tryd.underlying57 e1
    match xs0, hxl0, xs1, hxl1 with
    | [z0, z1], _, [z2, z3], _ =>
      have f0 := hel0 0 (by decide)
      have f1 := hel0 1 (by decide)
      have f2 := hel1 0 (by decide)
      have f3 := hel1 1 (by decide)
      simp [cellsOf_room] at f0 f1 f2 f3
      obtain ⟨⟨q0, q1⟩, -⟩ := hx
      rw [hx0] at q0
      rw [hx1] at q1
      simp only [List.map_cons, List.map_nil, DataW.agg.injEq, List.cons.injEq, and_true] at q0 q1
      obtain ⟨a0, a1⟩ := q0
      obtain ⟨a2, a3⟩ := q1
      obtain ⟨d0, b0⟩ := z0
      obtain ⟨d1, b1⟩ := z1
      obtain ⟨d2, b2⟩ := z2
      obtain ⟨d3, b3⟩ := z3
      subst a0 a1 a2 a3
      obtain rfl := func_of_trod (f0 := 60) Tryd.underlying56 (by kernel_rfl) f0
      obtain rfl := func_of_trod (f0 := 61) Tryd.underlying56 (by kernel_rfl) f1
      obtain rfl := func_of_trod (f0 := 62) Tryd.underlying56 (by kernel_rfl) f2
      obtain rfl := func_of_trod (f0 := 63) Tryd.underlying56 (by kernel_rfl) f3
      exact ⟨hcell 0, hcell 1, hcell 2, hcell 3⟩
theorem grd_of_rooms {W : World} (h : Rooms W) : cx.Grd W := by
  refine ⟨cell_lt h.1, fun b sb hb => ?_⟩
  by_cases e : 0 = b
  · subst e
    have hb : look ground 0 = some sb := hb
    obtain rfl := Option.some.inj ((show look ground 0 = some _ from rfl).symm.trans hb)
    refine ⟨Nat.zero_lt_one, [.func (.func 60) #[] #[], .func (.func 61) #[] #[], .func (.func 62) #[] #[], .func (.func 63) #[] #[]], ?_, fun i v hv => ?_⟩
    · repeat' (first | exact rfl | (refine denL_cons_of ?_ ?_))
    · match i, hv with
      | 0, hv => obtain rfl := Option.some.inj hv; exact h.1
      | 1, hv => obtain rfl := Option.some.inj hv; exact h.2.1
      | 2, hv => obtain rfl := Option.some.inj hv; exact h.2.2.1
      | 3, hv => obtain rfl := Option.some.inj hv; exact h.2.2.2
      | n + 4, hv => exact absurd hv (by simp)
  · have hb : look ground b = some sb := hb
    unfold ground at hb
    rw [look_cons_ne _ _ e] at hb
    cases hb
end Go.Proofs.YtggcfjeehpcclaaDoor
