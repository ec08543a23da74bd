/- Opening the arguments (bodies, points, forms), and what the listed table gives. -/
import Derived.Test.YtggcfjeehpcclaaDoorL0
import Derived.Test.YtggcfjeehpcclaaDoorA4
namespace Go.Proofs.YtggcfjeehpcclaaDoor
open Go.ChangeShapes Go.WideShapes Go.ChangeAt Go.RowKit

def In64 (n : Int) : Prop := -9223372036854775808 ≤ n ∧ n ≤ 9223372036854775807
theorem in64_of {n : Int} (h : (Lit.int .i64 n).wf = true) : In64 n := by
  exact bounds_i64 h

section
variable {H : Type} {enc : TypeId × Value → H} {W : World} {base : Nat} {sp : Nat → Bool} {held : Bool}

theorem cellsOf_int : Tryd.prog.cellsOf 3 = 1 := by kernel_rfl
theorem cellsOf_bool : Tryd.prog.cellsOf 4 = 1 := by kernel_rfl
theorem cellsOf_vec : Tryd.prog.cellsOf 23 = 2 := by kernel_rfl
theorem cellsOf_body : Tryd.prog.cellsOf 25 = 9 := by kernel_rfl
theorem cellsOf_form : Tryd.prog.cellsOf 34 = 5 := by kernel_rfl

theorem one_int {fuel : Nat} {c : Value} {y : DataW H × List MemPlace} (h : DataW.trod enc Tryd.prog W base sp held fuel 3 [c] = some y) : ∃ n, c = .int .i64 n ∧ In64 n := by
  obtain ⟨n, hc, _, hw⟩ := DataW.trod_int Tryd.underlying3 h
  exact ⟨n, by simpa using hc, in64_of hw⟩
theorem one_bool {fuel : Nat} {c : Value} {y : DataW H × List MemPlace} (h : DataW.trod enc Tryd.prog W base sp held fuel 4 [c] = some y) : ∃ b, c = .bool b := by
  obtain ⟨n, hc, _⟩ := DataW.trod_bool Tryd.underlying4 h
  exact ⟨n, by simpa using hc⟩

theorem two_vec {fuel : Nat} {c0 c1 : Value} {y : DataW H × List MemPlace} (h : DataW.trod enc Tryd.prog W base sp held fuel 23 [c0, c1] = some y) : ∃ a b, c0 = .int .i64 a ∧ c1 = .int .i64 b ∧ In64 a ∧ In64 b := by
  obtain ⟨xs, n, _, _, _, hlen, hg⟩ := DataW.trod_struct Tryd.underlying23 h
  match xs, hlen with
  | [y0, y1], _ =>
    have h0 := hg 0 _ rfl
    have h1 := hg 1 _ rfl
    simp [cellsOf_int] at h0 h1
    obtain ⟨a, rfl, ha⟩ := one_int h0
    obtain ⟨b, rfl, hb⟩ := one_int h1
    exact ⟨a, b, rfl, rfl, ha, hb⟩

theorem nine_body {fuel : Nat} {c0 c1 c2 c3 c4 c5 c6 c7 c8 : Value} {y : DataW H × List MemPlace} (h : DataW.trod enc Tryd.prog W base sp held fuel 25 [c0, c1, c2, c3, c4, c5, c6, c7, c8] = some y) :
    ∃ i x y u v p q r f, c0 = .int .i64 i ∧ c1 = .int .i64 x ∧ c2 = .int .i64 y ∧ c3 = .int .i64 u ∧ c4 = .int .i64 v ∧ c5 = .int .i64 p ∧ c6 = .int .i64 q ∧ c7 = .bool r ∧ c8 = .bool f := by
  obtain ⟨xs, n, _, _, _, hlen, hg⟩ := DataW.trod_struct Tryd.underlying25 h
  match xs, hlen with
  | [y0, y1, y2, y3, y4, y5, y6], _ =>
    have h0 := hg 0 _ rfl
    have h1 := hg 1 _ rfl
    have h2 := hg 2 _ rfl
    have h3 := hg 3 _ rfl
    have h4 := hg 4 _ rfl
    have h5 := hg 5 _ rfl
    have h6 := hg 6 _ rfl
    simp [cellsOf_int, cellsOf_bool, cellsOf_vec] at h0 h1 h2 h3 h4 h5 h6
    obtain ⟨i, rfl, _⟩ := one_int h0
    obtain ⟨x, y, rfl, rfl, _, _⟩ := two_vec h1
    obtain ⟨u, v, rfl, rfl, _, _⟩ := two_vec h2
    obtain ⟨p, rfl, _⟩ := one_int h3
    obtain ⟨q, rfl, _⟩ := one_int h4
    obtain ⟨r, rfl⟩ := one_bool h5
    obtain ⟨f, rfl⟩ := one_bool h6
    exact ⟨i, x, y, u, v, p, q, r, f, rfl, rfl, rfl, rfl, rfl, rfl, rfl, rfl, rfl⟩

theorem five_form {fuel : Nat} {c0 c1 c2 c3 c4 : Value} {y : DataW H × List MemPlace} (h : DataW.trod enc Tryd.prog W base sp held fuel 34 [c0, c1, c2, c3, c4] = some y) :
    ∃ x y p q r, c0 = .int .i64 x ∧ c1 = .int .i64 y ∧ c2 = .int .i64 p ∧ c3 = .int .i64 q ∧ c4 = .bool r ∧ In64 x ∧ In64 y ∧ In64 p ∧ In64 q := by
  obtain ⟨xs, n, _, _, _, hlen, hg⟩ := DataW.trod_struct Tryd.underlying34 h
  match xs, hlen with
  | [y0, y1, y2, y3, y4], _ =>
    have h0 := hg 0 _ rfl
    have h1 := hg 1 _ rfl
    have h2 := hg 2 _ rfl
    have h3 := hg 3 _ rfl
    have h4 := hg 4 _ rfl
    simp [cellsOf_int, cellsOf_bool] at h0 h1 h2 h3 h4
    obtain ⟨x, rfl, hx⟩ := one_int h0
    obtain ⟨y, rfl, hy⟩ := one_int h1
    obtain ⟨p, rfl, hp⟩ := one_int h2
    obtain ⟨q, rfl, hq⟩ := one_int h3
    obtain ⟨r, rfl⟩ := one_bool h4
    exact ⟨x, y, p, q, r, rfl, rfl, rfl, rfl, rfl, hx, hy, hp, hq⟩

theorem open_vec {r : Reach} {b0 : Nat} {v : Value} {d : DataW H} {p : List MemPlace} (hv : Value.okWide Tryd.prog W r b0 23 v) (h : DataW.Trod enc Tryd.prog W base sp held 23 v d p) :
    ∃ a b, v = .agg #[.int .i64 a, .int .i64 b] ∧ In64 a ∧ In64 b := by
  obtain ⟨cs, rfl, hsz⟩ := okWide_struct Tryd.underlying23 hv
  obtain ⟨l⟩ := cs
  match l, hsz.trans cellsOf_vec with
  | [c0, c1], _ =>
    obtain ⟨fuel, hf⟩ := h
    obtain ⟨a, b, rfl, rfl, ha, hb⟩ := two_vec hf
    exact ⟨a, b, rfl, ha, hb⟩

theorem open_body {r : Reach} {b0 : Nat} {v : Value} {d : DataW H} {p : List MemPlace} (hv : Value.okWide Tryd.prog W r b0 25 v) (h : DataW.Trod enc Tryd.prog W base sp held 25 v d p) :
    ∃ i x y u w p q r f, v = .agg #[.int .i64 i, .int .i64 x, .int .i64 y, .int .i64 u, .int .i64 w, .int .i64 p, .int .i64 q, .bool r, .bool f] := by
  obtain ⟨cs, rfl, hsz⟩ := okWide_struct Tryd.underlying25 hv
  obtain ⟨l⟩ := cs
  match l, hsz.trans cellsOf_body with
  | [c0, c1, c2, c3, c4, c5, c6, c7, c8], _ =>
    obtain ⟨fuel, hf⟩ := h
    obtain ⟨i, x, y, u, w, p, q, r, f, rfl, rfl, rfl, rfl, rfl, rfl, rfl, rfl, rfl⟩ := nine_body hf
    exact ⟨i, x, y, u, w, p, q, r, f, rfl⟩

theorem open_form {r : Reach} {b0 : Nat} {v : Value} {d : DataW H} {p : List MemPlace} (hv : Value.okWide Tryd.prog W r b0 34 v) (h : DataW.Trod enc Tryd.prog W base sp held 34 v d p) :
    ∃ x y p q r, v = .agg #[.int .i64 x, .int .i64 y, .int .i64 p, .int .i64 q, .bool r] ∧ In64 x ∧ In64 y ∧ In64 p ∧ In64 q := by
  obtain ⟨cs, rfl, hsz⟩ := okWide_struct Tryd.underlying34 hv
  obtain ⟨l⟩ := cs
  match l, hsz.trans cellsOf_form with
  | [c0, c1, c2, c3, c4], _ =>
    obtain ⟨fuel, hf⟩ := h
    obtain ⟨x, y, p, q, r, rfl, rfl, rfl, rfl, rfl, hx, hy, hp, hq⟩ := five_form hf
    exact ⟨x, y, p, q, r, rfl, hx, hy, hp, hq⟩
end

def laidRooms : List (String × DataW Unit) := [("marches/shape.rooms", Rows.laid_marches_shape_rooms)]
theorem door_met (os : Os) (args : Array Value) : laidMetH Tryd.prog laidRooms ((World.doorLaid Tryd.prog 16 os).forCall (fun _ _ => 0) ⟨#[], args, []⟩).memory :=
  laidMetH_of_parts3 (fuel := 8) (laidMet_of_run' 8 (by kernel_rfl) (by kernel_rfl)) (by kernel_rfl) (by kernel_rfl)

theorem cellsOf_row : Tryd.prog.cellsOf 57 = 2 := by kernel_rfl
theorem cellsOf_room : Tryd.prog.cellsOf 56 = 1 := by kernel_rfl

theorem rooms_of_laid {W : World} (h : laidMetH Tryd.prog laidRooms W) : Rooms W := by
  obtain ⟨g, t, cs, fuel, p, hg, ht, hv, hd⟩ := h.funcs (n := "marches/shape.rooms") (List.mem_cons_self ..)
  obtain rfl := Option.some.inj ((show Tryd.prog.globalNamed "marches/shape.rooms" = some 0 by kernel_rfl).symm.trans hg)
  obtain rfl := Option.some.inj ((show (Tryd.prog.globals[0]?).map (·.type) = some 58 by kernel_rfl).symm.trans ht)
  have hd' : DataW.trod (funcToken Tryd.prog) Tryd.prog W 0 (fun _ => true) true fuel 58 cs.toList = some (.agg [.agg [.held [109, 97, 114, 99, 104, 101, 115, 47, 115, 104, 97, 112, 101, 46, 98, 111, 120, 101, 115], .held [109, 97, 114, 99, 104, 101, 115, 47, 115, 104, 97, 112, 101, 46, 98, 111, 120, 67, 105, 114, 99, 108, 101]], .agg [.held [109, 97, 114, 99, 104, 101, 115, 47, 115, 104, 97, 112, 101, 46, 99, 105, 114, 99, 108, 101, 66, 111, 120], .held [109, 97, 114, 99, 104, 101, 115, 47, 115, 104, 97, 112, 101, 46, 99, 105, 114, 99, 108, 101, 115]]], p) := hd
  obtain ⟨xs, m, _, hx, hlen, hxl, hel⟩ := DataW.trod_array Tryd.underlying58 hd'
  have hcell := fun k => World.var?_cell hg hv k
  obtain ⟨l⟩ := cs
  have hl4 : l.length = 4 := hlen.trans (by kernel_rfl)
  match l, hl4, xs, hxl with
  | [c0, c1, c2, c3], _, [y0, y1], _ =>
    have e0 := hel 0 (by decide)
    have e1 := hel 1 (by decide)
    simp [cellsOf_row] at e0 e1
    simp only [List.map_cons, List.map_nil, Prod.mk.injEq, DataW.agg.injEq, List.cons.injEq, and_true] at hx
    obtain ⟨xs0, m0, _, hx0, _, hxl0, hel0⟩ := DataW.trod_array Tryd.underlying57 e0
    obtain ⟨xs1, m1, _, hx1, _, hxl1, hel1⟩ := DataW.trod_array Tryd.underlying57 e1
    match xs0, hxl0, xs1, hxl1 with
    | [z0, z1], _, [z2, z3], _ =>
      have f0 := hel0 0 (by decide)
      have f1 := hel0 1 (by decide)
      have f2 := hel1 0 (by decide)
      have f3 := hel1 1 (by decide)
      simp [cellsOf_room] at f0 f1 f2 f3
      obtain ⟨⟨q0, q1⟩, -⟩ := hx
      rw [hx0] at q0
      rw [hx1] at q1
      simp only [List.map_cons, List.map_nil, DataW.agg.injEq, List.cons.injEq, and_true] at q0 q1
      obtain ⟨a0, a1⟩ := q0
      obtain ⟨a2, a3⟩ := q1
      obtain ⟨d0, b0⟩ := z0
      obtain ⟨d1, b1⟩ := z1
      obtain ⟨d2, b2⟩ := z2
      obtain ⟨d3, b3⟩ := z3
      subst a0 a1 a2 a3
      obtain rfl := func_of_trod (f0 := 60) Tryd.underlying56 (by kernel_rfl) f0
      obtain rfl := func_of_trod (f0 := 61) Tryd.underlying56 (by kernel_rfl) f1
      obtain rfl := func_of_trod (f0 := 62) Tryd.underlying56 (by kernel_rfl) f2
      obtain rfl := func_of_trod (f0 := 63) Tryd.underlying56 (by kernel_rfl) f3
      exact ⟨hcell 0, hcell 1, hcell 2, hcell 3⟩
end Go.Proofs.YtggcfjeehpcclaaDoor
