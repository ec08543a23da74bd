/- ShapeBounds. -/
import Derived.Test.YtggcfjeehpcclaaDoorE0
import Derived.Deep.DeepCutAuto
namespace Go.Proofs.YtggcfjeehpcclaaDoor
open Go.RowKit


def CutB (w : World) (X Y P Q : Int) (r : Bool) (X' Y' P' Q' : Int) (r' : Bool) (m4 m5 n3 n4 : Nat) (s v : Value) (wx : World) : Prop :=
  s = v ∧ Blk wx m4 #[.int .i64 0, .int .i64 X, .int .i64 Y, .int .i64 0, .int .i64 0, .int .i64 P, .int .i64 Q, .bool r, .bool false] 25 ∧ Blk wx m5 #[.int .i64 0, .int .i64 X', .int .i64 Y', .int .i64 0, .int .i64 0, .int .i64 P', .int .i64 Q', .bool r', .bool false] 25 ∧ Blk wx n3 #[.int .i64 (X - P), .int .i64 (Y - Q)] 23 ∧ Blk wx (n3 + 1) #[.int .i64 (X + P), .int .i64 (Y + Q)] 23 ∧ Blk wx n4 #[.int .i64 (X' - P'), .int .i64 (Y' - Q')] 23 ∧ Blk wx (n4 + 1) #[.int .i64 (X' + P'), .int .i64 (Y' + Q')] 23 ∧ Gr w wx

theorem bounds_law {X Y P Q : Int} {r : Bool} {X' Y' P' Q' : Int} {r' : Bool} (h : MadeOk X Y P Q r) (h' : MadeOk X' Y' P' Q' r') :
    (meB 0 X Y 0 0 P Q r false 0 X' Y' 0 0 P' Q' r' false = true → meetC X Y P Q X' Y' P' Q' = true) ∧
    (ovB 0 X Y 0 0 P Q r false 0 X' Y' 0 0 P' Q' r' false = true → overC X Y P Q X' Y' P' Q' = true) ∧
    (r = false → r' = false → meB 0 X Y 0 0 P Q r false 0 X' Y' 0 0 P' Q' r' false = meetC X Y P Q X' Y' P' Q' ∧ ovB 0 X Y 0 0 P Q r false 0 X' Y' 0 0 P' Q' r' false = overC X Y P Q X' Y' P' Q') ∧
    (r = true → r' = true → meB 0 X Y 0 0 P Q r false 0 X' Y' 0 0 P' Q' r' false = hasB 0 X Y 0 0 (P + P') (P + P') true false X' Y') := by
  have hb := h.both h'
  have hf := far_bounds h h'
  refine ⟨fun hm => ?_, fun ho => ?_, fun hr hr' => ?_, fun hr hr' => ?_⟩
  · have := hf.1 ((me_iff hb).1 hm)
    simp [meetC]; omega
  · have := hf.2 ((ov_iff hb).1 ho)
    simp [overC]; omega
  · subst hr hr'
    refine ⟨?_, ?_⟩
    · rw [Bool.eq_iff_iff, me_iff hb]
      simp only [farV, roomV, meetC, Bool.false_eq_true, if_false, Bool.and_eq_true, decide_eq_true_eq]
      omega
    · rw [Bool.eq_iff_iff, ov_iff hb]
      simp only [farV, roomV, overC, Bool.false_eq_true, if_false, Bool.and_eq_true, decide_eq_true_eq]
      omega
  · subst hr hr'
    rw [Bool.eq_iff_iff, me_iff hb]
    have hv : vldB 0 X Y 0 0 (P + P') (P + P') true false = true :=
      vldB_iff.2 ⟨by omega, ⟨by have := h.x1; omega, by have := h.x2; omega⟩, ⟨by have := h.y1; omega, by have := h.y2; omega⟩, by omega, by omega, ⟨by have := h.p1; have := h'.p1; omega, by have := h.p2; have := h'.p2; omega⟩, ⟨by have := h.p1; have := h'.p1; omega, by have := h.p2; have := h'.p2; omega⟩, fun _ => rfl, fun h => by cases h⟩
    have e1 : farV X Y P Q true X' Y' P' Q' true = (X' - X) * (X' - X) + (Y' - Y) * (Y' - Y) - (P + P') * (P + P') := by
      simp only [farV, roomV, if_true, absq]
      rw [show (X - X') * (X - X') = (X' - X) * (X' - X) from by rw [← Int.neg_mul_neg]; congr 1 <;> omega, show (Y - Y') * (Y - Y') = (Y' - Y) * (Y' - Y) from by rw [← Int.neg_mul_neg]; congr 1 <;> omega]
    have n1 := sq_nn (X' - X)
    have n2 := sq_nn (Y' - Y)
    have hp := h.p1
    have hp' := h'.p1
    simp only [hasB, hv, Bool.true_and, Bool.and_eq_true, allIn1, Bool.not_true, Bool.false_or, decide_eq_true_eq]
    rw [e1]
    refine ⟨fun hh => ⟨⟨?_, ?_⟩, by omega⟩, fun hh => by omega⟩
    · have k1 := le_of_sq (a := X' - X) (b := P + P') (by omega) (by omega)
      have k2 := le_of_sq (a := -(X' - X)) (b := P + P') (by omega) (by rw [Int.neg_mul_neg]; omega)
      omega
    · have k1 := le_of_sq (a := Y' - Y) (b := P + P') (by omega) (by omega)
      have k2 := le_of_sq (a := -(Y' - Y)) (b := P + P') (by omega) (by rw [Int.neg_mul_neg]; omega)
      omega

set_option maxRecDepth 100000 in
set_option maxHeartbeats 8000000 in
theorem bounds_walk (x y p q : Int) (r : Bool) (x' y' p' q' : Int) (r' : Bool) (w : World) (hR : Rooms w) (hx : I64 x) (hy : I64 y) (hp : I64 p) (hq : I64 q) (hx' : I64 x') (hy' : I64 y') (hp' : I64 p') (hq' : I64 q') :
    Calls Tryd.prog 10 #[.agg #[.int .i64 x, .int .i64 y, .int .i64 p, .int .i64 q, .bool r], .agg #[.int .i64 x', .int .i64 y', .int .i64 p', .int .i64 q', .bool r']] w fun e w' => e = .returned (.bool true) ∧ Gr w w' := by
  have HR := Lib.hid hR; clear hR
  go_enter Tryd.func10, Tryd.ntmps10
  go_wp2_with fail
  refine (awake_true _ (HR.out.gr (((Gr.refl _).alloc _).alloc _))).mono ?_
  rintro e w1 ⟨rfl, hg1⟩
  have bF := hg1.blk (n := w.heap.size) (cs := #[.int .i64 x, .int .i64 y, .int .i64 p, .int .i64 q, .bool r]) (t := 34) (by repeat (first | with_reducible assumption | (with_reducible refine Blk.new ?_; simp; done) | with_reducible refine Blk.alloc ?_))
  have bG := hg1.blk (n := w.heap.size + 1) (cs := #[.int .i64 x', .int .i64 y', .int .i64 p', .int .i64 q', .bool r']) (t := 34) (by repeat (first | with_reducible assumption | (with_reducible refine Blk.new ?_; simp; done) | with_reducible refine Blk.alloc ?_))
  have g1 : Gr w w1 := (((Gr.refl _).alloc _).alloc _).trans hg1
  clear hg1
  have HG1 := Lib.hid g1; clear g1
  go_wp2_with fail
  refine wp_region_phi 6 [dVal (.agg #[.int .i64 x, .int .i64 y, .int .i64 p, .int .i64 q, .bool r]),
    dVal (.agg #[.int .i64 0, .int .i64 (pickI x 801 - 400), .int .i64 (pickI y 801 - 400), .int .i64 0, .int .i64 0, .int .i64 (1 + pickI p 300), .int .i64 (mkQ p q r), .bool r, .bool false]),
    dVal (.agg #[.int .i64 x', .int .i64 y', .int .i64 p', .int .i64 q', .bool r']),
    dVal (.agg #[.int .i64 0, .int .i64 (pickI x' 801 - 400), .int .i64 (pickI y' 801 - 400), .int .i64 0, .int .i64 0, .int .i64 (1 + pickI p' 300), .int .i64 (mkQ p' q' r'), .bool r', .bool false]),
    dPtr #[.int .i64 0, .int .i64 0, .int .i64 0, .int .i64 0, .int .i64 0, .int .i64 0, .int .i64 0, .bool false, .bool false] 25,
    dPtr #[.int .i64 0, .int .i64 0, .int .i64 0, .int .i64 0, .int .i64 0, .int .i64 0, .int .i64 0, .bool false, .bool false] 25]
    (by kernel_rfl) (by kernel_rfl) (by kernel_rfl) ⟨?_, ?_, ?_, ?_, ?_, ?_, trivial⟩ ?_
  · intro a vs W hg hd hv ho K hK
    have e2 : a.tmps[2]? = some (.pointer (some ⟨w.heap.size, 0, none⟩)) := ho 2 (by kernel_rfl)
    obtain ⟨c, -⟩ := (hg.blk bF).facts
    rw [if_pos (by rfl)]
    go_simp
    exact hK _ _ rfl (Gr.refl _) (fun h => by cases h)
  · intro a vs W hg hd hv ho K hK
    have e15 : a.tmps[15]? = some (.agg #[.int .i64 x, .int .i64 y, .int .i64 p, .int .i64 q, .bool r]) := (hv 0 _ 15 rfl rfl).trans (congrArg some (hd 0 (by kernel_rfl)))
    rw [if_pos (by rfl)]
    go_simp
    refine (made_any x y p q r _ hx hy hp hq).mono ?_
    rintro e W2 ⟨rfl, hg2⟩
    exact hK _ _ rfl hg2 (fun h => by cases h)
  · intro a vs W hg hd hv ho K hK
    have e3 : a.tmps[3]? = some (.pointer (some ⟨w.heap.size + 1, 0, none⟩)) := ho 3 (by kernel_rfl)
    obtain ⟨c, -⟩ := (hg.blk bG).facts
    rw [if_pos (by rfl)]
    go_simp
    exact hK _ _ rfl (Gr.refl _) (fun h => by cases h)
  · intro a vs W hg hd hv ho K hK
    have e17 : a.tmps[17]? = some (.agg #[.int .i64 x', .int .i64 y', .int .i64 p', .int .i64 q', .bool r']) := (hv 2 _ 17 rfl rfl).trans (congrArg some (hd 2 (by kernel_rfl)))
    rw [if_pos (by rfl)]
    go_simp
    refine (made_any x' y' p' q' r' _ hx' hy' hp' hq').mono ?_
    rintro e W2 ⟨rfl, hg2⟩
    exact hK _ _ rfl hg2 (fun h => by cases h)
  · intro a vs W hg hd hv ho K hK
    rw [if_pos (by rfl)]
    go_simp
    exact hK _ _ ⟨_, hg.size, rfl, Blk.new rfl⟩ ((Gr.refl _).alloc _) (fun _ j hj _ h => phi_new hj h)
  · intro a vs W hg hd hv ho K hK
    rw [if_pos (by rfl)]
    go_simp
    exact hK _ _ ⟨_, hg.size, rfl, Blk.new rfl⟩ ((Gr.refl _).alloc _) (fun _ j hj _ h => phi_new hj h)
  intro vs W hg hφ hne
  have f0 : vs 0 = .agg #[.int .i64 x, .int .i64 y, .int .i64 p, .int .i64 q, .bool r] := hφ 0 (by omega)
  have f1 : vs 1 = .agg #[.int .i64 0, .int .i64 (pickI x 801 - 400), .int .i64 (pickI y 801 - 400), .int .i64 0, .int .i64 0, .int .i64 (1 + pickI p 300), .int .i64 (mkQ p q r), .bool r, .bool false] := hφ 1 (by omega)
  have f2 : vs 2 = .agg #[.int .i64 x', .int .i64 y', .int .i64 p', .int .i64 q', .bool r'] := hφ 2 (by omega)
  have f3 : vs 3 = .agg #[.int .i64 0, .int .i64 (pickI x' 801 - 400), .int .i64 (pickI y' 801 - 400), .int .i64 0, .int .i64 0, .int .i64 (1 + pickI p' 300), .int .i64 (mkQ p' q' r'), .bool r', .bool false] := hφ 3 (by omega)
  obtain ⟨m4, hm4, f4, bm4⟩ := hφ 4 (by omega)
  obtain ⟨m5, hm5, f5, bm5⟩ := hφ 5 (by omega)
  have hne4_5 : m4 ≠ m5 := fun e => hne 4 5 (by omega) (by omega) (by kernel_rfl) (by kernel_rfl) (by omega) (by rw [f4, f5, e])
  simp only [List.take_succ_cons, List.take_zero, List.drop_succ_cons, List.drop_zero, putAll, Act.put, List.setIfInBounds_toArray, List.set_cons_zero, List.set_cons_succ, f0, f1, f2, f3, f4, f5]
  clear hφ hne f0 f1 f2 f3 f4 f5
  have ok := made_ok x y p q r
  generalize pickI x 801 - 400 = X at ok ⊢
  generalize pickI y 801 - 400 = Y at ok ⊢
  generalize 1 + pickI p 300 = P at ok ⊢
  generalize mkQ p q r = Q at ok ⊢
  have ok' := made_ok x' y' p' q' r'
  generalize pickI x' 801 - 400 = X' at ok' ⊢
  generalize pickI y' 801 - 400 = Y' at ok' ⊢
  generalize 1 + pickI p' 300 = P' at ok' ⊢
  generalize mkQ p' q' r' = Q' at ok' ⊢
  have HGw := HG1.out.trans hg
  have l4 : w.heap.size ≤ m4 := Nat.le_trans HG1.out.size hm4
  have l5 : w.heap.size ≤ m5 := Nat.le_trans HG1.out.size hm5
  obtain ⟨a4, f4⟩ := bm4.facts
  obtain ⟨a5, f5⟩ := bm5.facts
  clear hm4 hm5 hg
  have okH := Lib.hid ok; have okH' := Lib.hid ok'
  clear ok ok'
  go_wp2_with fail
  refine (Bounds_yes 0 X Y 0 0 P Q r false _ okH.out.valid).mono ?_
  rintro e w3 ⟨rfl, hg3⟩
  have c4 := hg3.blk (n := m4) (cs := #[.int .i64 0, .int .i64 X, .int .i64 Y, .int .i64 0, .int .i64 0, .int .i64 P, .int .i64 Q, .bool r, .bool false]) (t := 25) (by repeat (first | with_reducible assumption | (with_reducible refine Blk.new ?_; simp; done) | with_reducible refine Blk.alloc ?_ | (with_reducible refine Blk.keep9 ?_ ?_; focus omega) | (with_reducible apply Blk.fill9; repeat (first | with_reducible assumption | (with_reducible refine Blk.keep9 ?_ ?_; focus omega)))))
  have c5 := hg3.blk (n := m5) (cs := #[.int .i64 0, .int .i64 X', .int .i64 Y', .int .i64 0, .int .i64 0, .int .i64 P', .int .i64 Q', .bool r', .bool false]) (t := 25) (by repeat (first | with_reducible assumption | (with_reducible refine Blk.new ?_; simp; done) | with_reducible refine Blk.alloc ?_ | (with_reducible refine Blk.keep9 ?_ ?_; focus omega) | (with_reducible apply Blk.fill9; repeat (first | with_reducible assumption | (with_reducible refine Blk.keep9 ?_ ?_; focus omega)))))
  have G3 : Gr w w3 := Gr.trans (by repeat (first | with_reducible assumption | (with_reducible refine Gr.fill9 ?_ ?_; focus omega) | with_reducible refine Gr.alloc ?_ _)) hg3
  clear a4 f4 a5 f5 bm4 bm5 HGw hg3
  obtain ⟨a5, -⟩ := c5.facts
  have k5 := c5.lt
  have k4 := c4.lt
  go_wp2_with fail
  refine (Bounds_yes 0 X' Y' 0 0 P' Q' r' false _ okH'.out.valid).mono ?_
  rintro e w4 ⟨rfl, hg4⟩
  have d4 := hg4.blk (n := m4) (cs := #[.int .i64 0, .int .i64 X, .int .i64 Y, .int .i64 0, .int .i64 0, .int .i64 P, .int .i64 Q, .bool r, .bool false]) (t := 25) (by repeat (first | with_reducible assumption | (with_reducible refine Blk.new ?_; simp; done) | with_reducible refine Blk.alloc ?_ | (with_reducible refine Blk.keep9 ?_ ?_; focus omega) | (with_reducible apply Blk.fill9; repeat (first | with_reducible assumption | (with_reducible refine Blk.keep9 ?_ ?_; focus omega)))))
  have d5 := hg4.blk (n := m5) (cs := #[.int .i64 0, .int .i64 X', .int .i64 Y', .int .i64 0, .int .i64 0, .int .i64 P', .int .i64 Q', .bool r', .bool false]) (t := 25) (by repeat (first | with_reducible assumption | (with_reducible refine Blk.new ?_; simp; done) | with_reducible refine Blk.alloc ?_ | (with_reducible refine Blk.keep9 ?_ ?_; focus omega) | (with_reducible apply Blk.fill9; repeat (first | with_reducible assumption | (with_reducible refine Blk.keep9 ?_ ?_; focus omega)))))
  have dl := hg4.blk (n := w3.heap.size) (cs := #[.int .i64 (X - P), .int .i64 (Y - Q)]) (t := 23) (by repeat (first | with_reducible assumption | (with_reducible refine Blk.new ?_; simp; done) | with_reducible refine Blk.alloc ?_ | (with_reducible refine Blk.keep9 ?_ ?_; focus omega) | (with_reducible apply Blk.fill9; repeat (first | with_reducible assumption | (with_reducible refine Blk.keep9 ?_ ?_; focus omega)))))
  have dh := hg4.blk (n := w3.heap.size + 1) (cs := #[.int .i64 (X + P), .int .i64 (Y + Q)]) (t := 23) (by repeat (first | with_reducible assumption | (with_reducible refine Blk.new ?_; simp; done) | with_reducible refine Blk.alloc ?_ | (with_reducible refine Blk.keep9 ?_ ?_; focus omega) | (with_reducible apply Blk.fill9; repeat (first | with_reducible assumption | (with_reducible refine Blk.keep9 ?_ ?_; focus omega)))))
  have G4 : Gr w w4 := Gr.trans (by repeat (first | with_reducible assumption | (with_reducible refine Gr.fill9 ?_ ?_; focus omega) | with_reducible refine Gr.alloc ?_ _)) hg4
  clear a5 k5 k4 c4 c5 G3 hg4
  obtain ⟨a4, -⟩ := d4.facts
  obtain ⟨a5, -⟩ := d5.facts
  obtain ⟨al, -⟩ := dl.facts
  obtain ⟨ah, -⟩ := dh.facts
  have k4 := d4.lt
  have k5 := d5.lt
  have kl := dl.lt
  have kh := dh.lt
  have HG := Lib.hid G4
  clear G4
  go_upto_region 6 with (fail)
  go_cut [11] (fun s wx => CutB w X Y P Q r X' Y' P' Q' r' m4 m5 w3.heap.size w4.heap.size s (.bool (meetC X Y P Q X' Y' P' Q')) wx)
  case first =>
    go_wp2_with fail
    all_goals
      go_meet
      exact ⟨by first | (simp [meetC, *]; done) | (simp [meetC, *]; omega), d4.alloc.alloc, d5.alloc.alloc, dl.alloc.alloc, dh.alloc.alloc, (Blk.new rfl).alloc, Blk.new (by simp), (HG.out.alloc _).alloc _⟩
  case rest =>
    clear a4 a5 al ah k4 k5 kl kh d4 d5 dl dh HG
    obtain ⟨rfl, d4, d5, dl, dh, el, eh, G5⟩ := hcut
    obtain ⟨al, -⟩ := dl.facts
    obtain ⟨ah, -⟩ := dh.facts
    obtain ⟨bl, -⟩ := el.facts
    obtain ⟨bh, -⟩ := eh.facts
    have HG := Lib.hid G5
    clear G5
    go_upto_region 7 with (fail)
    go_cut [12] (fun s wx => CutB w X Y P Q r X' Y' P' Q' r' m4 m5 w3.heap.size w4.heap.size s (.bool (overC X Y P Q X' Y' P' Q')) wx)
    case first =>
      go_wp2_with fail
      all_goals
        go_meet
        exact ⟨by first | (simp [overC, *]; done) | (simp [overC, *]; omega), d4, d5, dl, dh, el, eh, HG.out⟩
    case rest =>
      clear al ah bl bh d4 d5 dl dh el eh HG
      obtain ⟨rfl, d4, d5, -, -, -, -, G5⟩ := hcut
      have hl := bounds_law okH.out okH'.out
      generalize hme : meB 0 X Y 0 0 P Q r false 0 X' Y' 0 0 P' Q' r' false = me at hl
      generalize hov : ovB 0 X Y 0 0 P Q r false 0 X' Y' 0 0 P' Q' r' false = ov at hl
      generalize meetC X Y P Q X' Y' P' Q' = M at hl ⊢
      generalize overC X Y P Q X' Y' P' Q' = O at hl ⊢
      have HME := Lib.hid hme
      have HOV := Lib.hid hov
      obtain ⟨h1, h2, h3, h4⟩ := hl
      have R5 := Lib.hid (HR.out.gr G5)
      have HG := Lib.hid G5
      clear G5 hme hov
      obtain ⟨a4, -⟩ := d4.facts
      obtain ⟨a5, -⟩ := d5.facts
      have HM : Hid (∀ W, Rooms W → Calls Tryd.prog 22 #[.agg #[.int .i64 0, .int .i64 X, .int .i64 Y, .int .i64 0, .int .i64 0, .int .i64 P, .int .i64 Q, .bool r, .bool false], .agg #[.int .i64 0, .int .i64 X', .int .i64 Y', .int .i64 0, .int .i64 0, .int .i64 P', .int .i64 Q', .bool r', .bool false]] W fun e w' => e = .returned (.bool me) ∧ Gr W w') := Lib.hid fun W hW => by
        have := Meet_any 0 X Y 0 0 P Q r false 0 X' Y' 0 0 P' Q' r' false W hW
        rwa [HME.out] at this
      have HO : Hid (∀ W, Rooms W → Calls Tryd.prog 20 #[.agg #[.int .i64 0, .int .i64 X, .int .i64 Y, .int .i64 0, .int .i64 0, .int .i64 P, .int .i64 Q, .bool r, .bool false], .agg #[.int .i64 0, .int .i64 X', .int .i64 Y', .int .i64 0, .int .i64 0, .int .i64 P', .int .i64 Q', .bool r', .bool false]] W fun e w' => e = .returned (.bool ov) ∧ Gr W w') := Lib.hid fun W hW => by
        have := Overlap_any 0 X Y 0 0 P Q r false 0 X' Y' 0 0 P' Q' r' false W hW
        rwa [HOV.out] at this
      clear HME HOV
      have p1 := okH.out.p1
      have p2 := okH.out.p2
      have p3 := okH'.out.p1
      have p4 := okH'.out.p2
      clear bF bG HG1 hx hy hp hq hx' hy' hp' hq' okH okH' l4 l5 HR
      cases r <;> cases r' <;> cases me <;> cases ov
      · obtain ⟨rfl, rfl⟩ := h3 rfl rfl
        clear h1 h2 h3
        clear h4
        go_wp2_with (first | (go_at_call 22; ((with_reducible refine (HM.out _ R5.out).mono ?_); rintro e wn ⟨rfl, hgn⟩; have R5 := Lib.hid (Rooms.gr R5.out hgn); have HG := Lib.hid (Gr.trans HG.out hgn); have d4 := Gr.blk hgn d4; have d5 := Gr.blk hgn d5; clear a4 a5; obtain ⟨a4, -⟩ := d4.facts; obtain ⟨a5, -⟩ := d5.facts)) | (go_at_call 20; ((with_reducible refine (HO.out _ R5.out).mono ?_); rintro e wn ⟨rfl, hgn⟩; have R5 := Lib.hid (Rooms.gr R5.out hgn); have HG := Lib.hid (Gr.trans HG.out hgn); have d4 := Gr.blk hgn d4; have d5 := Gr.blk hgn d5; clear a4 a5; obtain ⟨a4, -⟩ := d4.facts; obtain ⟨a5, -⟩ := d5.facts)))
        refine wp_region_phi 29 [dVal (.pointer (some ⟨m4, 7, none⟩)),
          dVal (.bool false),
          dVal (.bool true),
          dVal (.bool true),
          dAny,
          dAny,
          dAny,
          dVal (.bool true),
          dVal (.bool true),
          dAny,
          dAny,
          dAny,
          dAny,
          dAny,
          dAny,
          dAny,
          dAny,
          dAny,
          dAny,
          dAny,
          dAny,
          dAny,
          dAny,
          dAny,
          dAny,
          dAny,
          dAny,
          dAny,
          dVal (.bool true)]
          (by kernel_rfl) (by kernel_rfl) (by kernel_rfl) ⟨?_, ?_, ?_, ?_, ?_, ?_, ?_, ?_, ?_, ?_, ?_, ?_, ?_, ?_, ?_, ?_, ?_, ?_, ?_, ?_, ?_, ?_, ?_, ?_, ?_, ?_, ?_, ?_, ?_, trivial⟩ ?_
        · intro a vs W hg hd hv ho K hK
          have e5 : a.tmps[5]? = some (.pointer (some ⟨m4, 0, none⟩)) := ho 5 (by kernel_rfl)
          rw [if_pos (by rfl)]
          go_simp
          exact hK _ _ rfl (Gr.refl _) (fun h => by cases h)
        · intro a vs W hg hd hv ho K hK
          have e119 : a.tmps[119]? = some (.pointer (some ⟨m4, 7, none⟩)) := (hv 0 _ 119 rfl rfl).trans (congrArg some (hd 0 (by kernel_rfl)))
          obtain ⟨c, -⟩ := (hg.blk d4).facts
          rw [if_pos (by rfl)]
          go_simp
          exact hK _ _ rfl (Gr.refl _) (fun h => by cases h)
        · intro a vs W hg hd hv ho K hK
          have e120 : a.tmps[120]? = some (.bool false) := (hv 1 _ 120 rfl rfl).trans (congrArg some (hd 1 (by kernel_rfl)))
          rw [if_pos (by rfl)]
          go_simp
          exact hK _ _ rfl (Gr.refl _) (fun h => by cases h)
        · intro a vs W hg hd hv ho K hK
          have e121 : a.tmps[121]? = some (.bool true) := (hv 2 _ 121 rfl rfl).trans (congrArg some (hd 2 (by kernel_rfl)))
          rw [if_pos (by rfl)]
          go_simp
          exact hK _ _ rfl (Gr.refl _) (fun h => by cases h)
        · intro a vs W hg hd hv ho K hK
          have e122 : a.tmps[122]? = some (.bool true) := (hv 3 _ 122 rfl rfl).trans (congrArg some (hd 3 (by kernel_rfl)))
          rw [if_neg (by simp [Region.wanted, yielded, e122])]
          exact hK _ _ trivial (Gr.refl _) (fun h => by cases h)
        · intro a vs W hg hd hv ho K hK
          have e122 : a.tmps[122]? = some (.bool true) := (hv 3 _ 122 rfl rfl).trans (congrArg some (hd 3 (by kernel_rfl)))
          rw [if_neg (by simp [Region.wanted, yielded, e122])]
          exact hK _ _ trivial (Gr.refl _) (fun h => by cases h)
        · intro a vs W hg hd hv ho K hK
          have e122 : a.tmps[122]? = some (.bool true) := (hv 3 _ 122 rfl rfl).trans (congrArg some (hd 3 (by kernel_rfl)))
          rw [if_neg (by simp [Region.wanted, yielded, e122])]
          exact hK _ _ trivial (Gr.refl _) (fun h => by cases h)
        · intro a vs W hg hd hv ho K hK
          have e122 : a.tmps[122]? = some (.bool true) := (hv 3 _ 122 rfl rfl).trans (congrArg some (hd 3 (by kernel_rfl)))
          rw [if_pos (by rfl)]
          go_simp
          exact hK _ _ rfl (Gr.refl _) (fun h => by cases h)
        · intro a vs W hg hd hv ho K hK
          have e126 : a.tmps[126]? = some (.bool true) := (hv 7 _ 126 rfl rfl).trans (congrArg some (hd 7 (by kernel_rfl)))
          rw [if_pos (by rfl)]
          go_simp
          exact hK _ _ rfl (Gr.refl _) (fun h => by cases h)
        · intro a vs W hg hd hv ho K hK
          have e127 : a.tmps[127]? = some (.bool true) := (hv 8 _ 127 rfl rfl).trans (congrArg some (hd 8 (by kernel_rfl)))
          rw [if_neg (by simp [Region.wanted, yielded, e127])]
          exact hK _ _ trivial (Gr.refl _) (fun h => by cases h)
        · intro a vs W hg hd hv ho K hK
          have e127 : a.tmps[127]? = some (.bool true) := (hv 8 _ 127 rfl rfl).trans (congrArg some (hd 8 (by kernel_rfl)))
          rw [if_neg (by simp [Region.wanted, yielded, e127])]
          exact hK _ _ trivial (Gr.refl _) (fun h => by cases h)
        · intro a vs W hg hd hv ho K hK
          have e127 : a.tmps[127]? = some (.bool true) := (hv 8 _ 127 rfl rfl).trans (congrArg some (hd 8 (by kernel_rfl)))
          rw [if_neg (by simp [Region.wanted, yielded, e127])]
          exact hK _ _ trivial (Gr.refl _) (fun h => by cases h)
        · intro a vs W hg hd hv ho K hK
          have e127 : a.tmps[127]? = some (.bool true) := (hv 8 _ 127 rfl rfl).trans (congrArg some (hd 8 (by kernel_rfl)))
          rw [if_neg (by simp [Region.wanted, yielded, e127])]
          exact hK _ _ trivial (Gr.refl _) (fun h => by cases h)
        · intro a vs W hg hd hv ho K hK
          have e127 : a.tmps[127]? = some (.bool true) := (hv 8 _ 127 rfl rfl).trans (congrArg some (hd 8 (by kernel_rfl)))
          rw [if_neg (by simp [Region.wanted, yielded, e127])]
          exact hK _ _ trivial (Gr.refl _) (fun h => by cases h)
        · intro a vs W hg hd hv ho K hK
          have e127 : a.tmps[127]? = some (.bool true) := (hv 8 _ 127 rfl rfl).trans (congrArg some (hd 8 (by kernel_rfl)))
          rw [if_neg (by simp [Region.wanted, yielded, e127])]
          exact hK _ _ trivial (Gr.refl _) (fun h => by cases h)
        · intro a vs W hg hd hv ho K hK
          have e127 : a.tmps[127]? = some (.bool true) := (hv 8 _ 127 rfl rfl).trans (congrArg some (hd 8 (by kernel_rfl)))
          rw [if_neg (by simp [Region.wanted, yielded, e127])]
          exact hK _ _ trivial (Gr.refl _) (fun h => by cases h)
        · intro a vs W hg hd hv ho K hK
          have e127 : a.tmps[127]? = some (.bool true) := (hv 8 _ 127 rfl rfl).trans (congrArg some (hd 8 (by kernel_rfl)))
          rw [if_neg (by simp [Region.wanted, yielded, e127])]
          exact hK _ _ trivial (Gr.refl _) (fun h => by cases h)
        · intro a vs W hg hd hv ho K hK
          have e127 : a.tmps[127]? = some (.bool true) := (hv 8 _ 127 rfl rfl).trans (congrArg some (hd 8 (by kernel_rfl)))
          rw [if_neg (by simp [Region.wanted, yielded, e127])]
          exact hK _ _ trivial (Gr.refl _) (fun h => by cases h)
        · intro a vs W hg hd hv ho K hK
          have e127 : a.tmps[127]? = some (.bool true) := (hv 8 _ 127 rfl rfl).trans (congrArg some (hd 8 (by kernel_rfl)))
          rw [if_neg (by simp [Region.wanted, yielded, e127])]
          exact hK _ _ trivial (Gr.refl _) (fun h => by cases h)
        · intro a vs W hg hd hv ho K hK
          have e127 : a.tmps[127]? = some (.bool true) := (hv 8 _ 127 rfl rfl).trans (congrArg some (hd 8 (by kernel_rfl)))
          rw [if_neg (by simp [Region.wanted, yielded, e127])]
          exact hK _ _ trivial (Gr.refl _) (fun h => by cases h)
        · intro a vs W hg hd hv ho K hK
          have e127 : a.tmps[127]? = some (.bool true) := (hv 8 _ 127 rfl rfl).trans (congrArg some (hd 8 (by kernel_rfl)))
          rw [if_neg (by simp [Region.wanted, yielded, e127])]
          exact hK _ _ trivial (Gr.refl _) (fun h => by cases h)
        · intro a vs W hg hd hv ho K hK
          have e127 : a.tmps[127]? = some (.bool true) := (hv 8 _ 127 rfl rfl).trans (congrArg some (hd 8 (by kernel_rfl)))
          rw [if_neg (by simp [Region.wanted, yielded, e127])]
          exact hK _ _ trivial (Gr.refl _) (fun h => by cases h)
        · intro a vs W hg hd hv ho K hK
          have e127 : a.tmps[127]? = some (.bool true) := (hv 8 _ 127 rfl rfl).trans (congrArg some (hd 8 (by kernel_rfl)))
          rw [if_neg (by simp [Region.wanted, yielded, e127])]
          exact hK _ _ trivial (Gr.refl _) (fun h => by cases h)
        · intro a vs W hg hd hv ho K hK
          have e127 : a.tmps[127]? = some (.bool true) := (hv 8 _ 127 rfl rfl).trans (congrArg some (hd 8 (by kernel_rfl)))
          rw [if_neg (by simp [Region.wanted, yielded, e127])]
          exact hK _ _ trivial (Gr.refl _) (fun h => by cases h)
        · intro a vs W hg hd hv ho K hK
          have e127 : a.tmps[127]? = some (.bool true) := (hv 8 _ 127 rfl rfl).trans (congrArg some (hd 8 (by kernel_rfl)))
          rw [if_neg (by simp [Region.wanted, yielded, e127])]
          exact hK _ _ trivial (Gr.refl _) (fun h => by cases h)
        · intro a vs W hg hd hv ho K hK
          have e127 : a.tmps[127]? = some (.bool true) := (hv 8 _ 127 rfl rfl).trans (congrArg some (hd 8 (by kernel_rfl)))
          rw [if_neg (by simp [Region.wanted, yielded, e127])]
          exact hK _ _ trivial (Gr.refl _) (fun h => by cases h)
        · intro a vs W hg hd hv ho K hK
          have e127 : a.tmps[127]? = some (.bool true) := (hv 8 _ 127 rfl rfl).trans (congrArg some (hd 8 (by kernel_rfl)))
          rw [if_neg (by simp [Region.wanted, yielded, e127])]
          exact hK _ _ trivial (Gr.refl _) (fun h => by cases h)
        · intro a vs W hg hd hv ho K hK
          have e127 : a.tmps[127]? = some (.bool true) := (hv 8 _ 127 rfl rfl).trans (congrArg some (hd 8 (by kernel_rfl)))
          rw [if_neg (by simp [Region.wanted, yielded, e127])]
          exact hK _ _ trivial (Gr.refl _) (fun h => by cases h)
        · intro a vs W hg hd hv ho K hK
          have e127 : a.tmps[127]? = some (.bool true) := (hv 8 _ 127 rfl rfl).trans (congrArg some (hd 8 (by kernel_rfl)))
          rw [if_pos (by rfl)]
          go_simp
          exact hK _ _ rfl (Gr.refl _) (fun h => by cases h)
        intro vs W hg hφ hne
        have f0 : vs 0 = .pointer (some ⟨m4, 7, none⟩) := hφ 0 (by omega)
        have f1 : vs 1 = .bool false := hφ 1 (by omega)
        have f2 : vs 2 = .bool true := hφ 2 (by omega)
        have f3 : vs 3 = .bool true := hφ 3 (by omega)
        have f7 : vs 7 = .bool true := hφ 7 (by omega)
        have f8 : vs 8 = .bool true := hφ 8 (by omega)
        have f28 : vs 28 = .bool true := hφ 28 (by omega)
        simp only [List.take_succ_cons, List.take_zero, List.drop_succ_cons, List.drop_zero, putAll, Act.put, List.setIfInBounds_toArray, List.set_cons_zero, List.set_cons_succ, f0, f1, f2, f3, f7, f8, f28]
        clear hφ hne f0 f1 f2 f3 f7 f8 f28
        go_wp2
        go_ret
        exact ⟨rfl, HG.out.trans hg⟩
      · obtain ⟨rfl, rfl⟩ := h3 rfl rfl
        clear h1 h2 h3
        clear h4
        go_wp2_with (first | (go_at_call 22; ((with_reducible refine (HM.out _ R5.out).mono ?_); rintro e wn ⟨rfl, hgn⟩; have R5 := Lib.hid (Rooms.gr R5.out hgn); have HG := Lib.hid (Gr.trans HG.out hgn); have d4 := Gr.blk hgn d4; have d5 := Gr.blk hgn d5; clear a4 a5; obtain ⟨a4, -⟩ := d4.facts; obtain ⟨a5, -⟩ := d5.facts)) | (go_at_call 20; ((with_reducible refine (HO.out _ R5.out).mono ?_); rintro e wn ⟨rfl, hgn⟩; have R5 := Lib.hid (Rooms.gr R5.out hgn); have HG := Lib.hid (Gr.trans HG.out hgn); have d4 := Gr.blk hgn d4; have d5 := Gr.blk hgn d5; clear a4 a5; obtain ⟨a4, -⟩ := d4.facts; obtain ⟨a5, -⟩ := d5.facts)))
        refine wp_region_phi 29 [dVal (.pointer (some ⟨m4, 7, none⟩)),
          dVal (.bool false),
          dVal (.bool true),
          dVal (.bool true),
          dAny,
          dAny,
          dAny,
          dVal (.bool true),
          dVal (.bool true),
          dAny,
          dAny,
          dAny,
          dAny,
          dAny,
          dAny,
          dAny,
          dAny,
          dAny,
          dAny,
          dAny,
          dAny,
          dAny,
          dAny,
          dAny,
          dAny,
          dAny,
          dAny,
          dAny,
          dVal (.bool true)]
          (by kernel_rfl) (by kernel_rfl) (by kernel_rfl) ⟨?_, ?_, ?_, ?_, ?_, ?_, ?_, ?_, ?_, ?_, ?_, ?_, ?_, ?_, ?_, ?_, ?_, ?_, ?_, ?_, ?_, ?_, ?_, ?_, ?_, ?_, ?_, ?_, ?_, trivial⟩ ?_
        · intro a vs W hg hd hv ho K hK
          have e5 : a.tmps[5]? = some (.pointer (some ⟨m4, 0, none⟩)) := ho 5 (by kernel_rfl)
          rw [if_pos (by rfl)]
          go_simp
          exact hK _ _ rfl (Gr.refl _) (fun h => by cases h)
        · intro a vs W hg hd hv ho K hK
          have e119 : a.tmps[119]? = some (.pointer (some ⟨m4, 7, none⟩)) := (hv 0 _ 119 rfl rfl).trans (congrArg some (hd 0 (by kernel_rfl)))
          obtain ⟨c, -⟩ := (hg.blk d4).facts
          rw [if_pos (by rfl)]
          go_simp
          exact hK _ _ rfl (Gr.refl _) (fun h => by cases h)
        · intro a vs W hg hd hv ho K hK
          have e120 : a.tmps[120]? = some (.bool false) := (hv 1 _ 120 rfl rfl).trans (congrArg some (hd 1 (by kernel_rfl)))
          rw [if_pos (by rfl)]
          go_simp
          exact hK _ _ rfl (Gr.refl _) (fun h => by cases h)
        · intro a vs W hg hd hv ho K hK
          have e121 : a.tmps[121]? = some (.bool true) := (hv 2 _ 121 rfl rfl).trans (congrArg some (hd 2 (by kernel_rfl)))
          rw [if_pos (by rfl)]
          go_simp
          exact hK _ _ rfl (Gr.refl _) (fun h => by cases h)
        · intro a vs W hg hd hv ho K hK
          have e122 : a.tmps[122]? = some (.bool true) := (hv 3 _ 122 rfl rfl).trans (congrArg some (hd 3 (by kernel_rfl)))
          rw [if_neg (by simp [Region.wanted, yielded, e122])]
          exact hK _ _ trivial (Gr.refl _) (fun h => by cases h)
        · intro a vs W hg hd hv ho K hK
          have e122 : a.tmps[122]? = some (.bool true) := (hv 3 _ 122 rfl rfl).trans (congrArg some (hd 3 (by kernel_rfl)))
          rw [if_neg (by simp [Region.wanted, yielded, e122])]
          exact hK _ _ trivial (Gr.refl _) (fun h => by cases h)
        · intro a vs W hg hd hv ho K hK
          have e122 : a.tmps[122]? = some (.bool true) := (hv 3 _ 122 rfl rfl).trans (congrArg some (hd 3 (by kernel_rfl)))
          rw [if_neg (by simp [Region.wanted, yielded, e122])]
          exact hK _ _ trivial (Gr.refl _) (fun h => by cases h)
        · intro a vs W hg hd hv ho K hK
          have e122 : a.tmps[122]? = some (.bool true) := (hv 3 _ 122 rfl rfl).trans (congrArg some (hd 3 (by kernel_rfl)))
          rw [if_pos (by rfl)]
          go_simp
          exact hK _ _ rfl (Gr.refl _) (fun h => by cases h)
        · intro a vs W hg hd hv ho K hK
          have e126 : a.tmps[126]? = some (.bool true) := (hv 7 _ 126 rfl rfl).trans (congrArg some (hd 7 (by kernel_rfl)))
          rw [if_pos (by rfl)]
          go_simp
          exact hK _ _ rfl (Gr.refl _) (fun h => by cases h)
        · intro a vs W hg hd hv ho K hK
          have e127 : a.tmps[127]? = some (.bool true) := (hv 8 _ 127 rfl rfl).trans (congrArg some (hd 8 (by kernel_rfl)))
          rw [if_neg (by simp [Region.wanted, yielded, e127])]
          exact hK _ _ trivial (Gr.refl _) (fun h => by cases h)
        · intro a vs W hg hd hv ho K hK
          have e127 : a.tmps[127]? = some (.bool true) := (hv 8 _ 127 rfl rfl).trans (congrArg some (hd 8 (by kernel_rfl)))
          rw [if_neg (by simp [Region.wanted, yielded, e127])]
          exact hK _ _ trivial (Gr.refl _) (fun h => by cases h)
        · intro a vs W hg hd hv ho K hK
          have e127 : a.tmps[127]? = some (.bool true) := (hv 8 _ 127 rfl rfl).trans (congrArg some (hd 8 (by kernel_rfl)))
          rw [if_neg (by simp [Region.wanted, yielded, e127])]
          exact hK _ _ trivial (Gr.refl _) (fun h => by cases h)
        · intro a vs W hg hd hv ho K hK
          have e127 : a.tmps[127]? = some (.bool true) := (hv 8 _ 127 rfl rfl).trans (congrArg some (hd 8 (by kernel_rfl)))
          rw [if_neg (by simp [Region.wanted, yielded, e127])]
          exact hK _ _ trivial (Gr.refl _) (fun h => by cases h)
        · intro a vs W hg hd hv ho K hK
          have e127 : a.tmps[127]? = some (.bool true) := (hv 8 _ 127 rfl rfl).trans (congrArg some (hd 8 (by kernel_rfl)))
          rw [if_neg (by simp [Region.wanted, yielded, e127])]
          exact hK _ _ trivial (Gr.refl _) (fun h => by cases h)
        · intro a vs W hg hd hv ho K hK
          have e127 : a.tmps[127]? = some (.bool true) := (hv 8 _ 127 rfl rfl).trans (congrArg some (hd 8 (by kernel_rfl)))
          rw [if_neg (by simp [Region.wanted, yielded, e127])]
          exact hK _ _ trivial (Gr.refl _) (fun h => by cases h)
        · intro a vs W hg hd hv ho K hK
          have e127 : a.tmps[127]? = some (.bool true) := (hv 8 _ 127 rfl rfl).trans (congrArg some (hd 8 (by kernel_rfl)))
          rw [if_neg (by simp [Region.wanted, yielded, e127])]
          exact hK _ _ trivial (Gr.refl _) (fun h => by cases h)
        · intro a vs W hg hd hv ho K hK
          have e127 : a.tmps[127]? = some (.bool true) := (hv 8 _ 127 rfl rfl).trans (congrArg some (hd 8 (by kernel_rfl)))
          rw [if_neg (by simp [Region.wanted, yielded, e127])]
          exact hK _ _ trivial (Gr.refl _) (fun h => by cases h)
        · intro a vs W hg hd hv ho K hK
          have e127 : a.tmps[127]? = some (.bool true) := (hv 8 _ 127 rfl rfl).trans (congrArg some (hd 8 (by kernel_rfl)))
          rw [if_neg (by simp [Region.wanted, yielded, e127])]
          exact hK _ _ trivial (Gr.refl _) (fun h => by cases h)
        · intro a vs W hg hd hv ho K hK
          have e127 : a.tmps[127]? = some (.bool true) := (hv 8 _ 127 rfl rfl).trans (congrArg some (hd 8 (by kernel_rfl)))
          rw [if_neg (by simp [Region.wanted, yielded, e127])]
          exact hK _ _ trivial (Gr.refl _) (fun h => by cases h)
        · intro a vs W hg hd hv ho K hK
          have e127 : a.tmps[127]? = some (.bool true) := (hv 8 _ 127 rfl rfl).trans (congrArg some (hd 8 (by kernel_rfl)))
          rw [if_neg (by simp [Region.wanted, yielded, e127])]
          exact hK _ _ trivial (Gr.refl _) (fun h => by cases h)
        · intro a vs W hg hd hv ho K hK
          have e127 : a.tmps[127]? = some (.bool true) := (hv 8 _ 127 rfl rfl).trans (congrArg some (hd 8 (by kernel_rfl)))
          rw [if_neg (by simp [Region.wanted, yielded, e127])]
          exact hK _ _ trivial (Gr.refl _) (fun h => by cases h)
        · intro a vs W hg hd hv ho K hK
          have e127 : a.tmps[127]? = some (.bool true) := (hv 8 _ 127 rfl rfl).trans (congrArg some (hd 8 (by kernel_rfl)))
          rw [if_neg (by simp [Region.wanted, yielded, e127])]
          exact hK _ _ trivial (Gr.refl _) (fun h => by cases h)
        · intro a vs W hg hd hv ho K hK
          have e127 : a.tmps[127]? = some (.bool true) := (hv 8 _ 127 rfl rfl).trans (congrArg some (hd 8 (by kernel_rfl)))
          rw [if_neg (by simp [Region.wanted, yielded, e127])]
          exact hK _ _ trivial (Gr.refl _) (fun h => by cases h)
        · intro a vs W hg hd hv ho K hK
          have e127 : a.tmps[127]? = some (.bool true) := (hv 8 _ 127 rfl rfl).trans (congrArg some (hd 8 (by kernel_rfl)))
          rw [if_neg (by simp [Region.wanted, yielded, e127])]
          exact hK _ _ trivial (Gr.refl _) (fun h => by cases h)
        · intro a vs W hg hd hv ho K hK
          have e127 : a.tmps[127]? = some (.bool true) := (hv 8 _ 127 rfl rfl).trans (congrArg some (hd 8 (by kernel_rfl)))
          rw [if_neg (by simp [Region.wanted, yielded, e127])]
          exact hK _ _ trivial (Gr.refl _) (fun h => by cases h)
        · intro a vs W hg hd hv ho K hK
          have e127 : a.tmps[127]? = some (.bool true) := (hv 8 _ 127 rfl rfl).trans (congrArg some (hd 8 (by kernel_rfl)))
          rw [if_neg (by simp [Region.wanted, yielded, e127])]
          exact hK _ _ trivial (Gr.refl _) (fun h => by cases h)
        · intro a vs W hg hd hv ho K hK
          have e127 : a.tmps[127]? = some (.bool true) := (hv 8 _ 127 rfl rfl).trans (congrArg some (hd 8 (by kernel_rfl)))
          rw [if_neg (by simp [Region.wanted, yielded, e127])]
          exact hK _ _ trivial (Gr.refl _) (fun h => by cases h)
        · intro a vs W hg hd hv ho K hK
          have e127 : a.tmps[127]? = some (.bool true) := (hv 8 _ 127 rfl rfl).trans (congrArg some (hd 8 (by kernel_rfl)))
          rw [if_neg (by simp [Region.wanted, yielded, e127])]
          exact hK _ _ trivial (Gr.refl _) (fun h => by cases h)
        · intro a vs W hg hd hv ho K hK
          have e127 : a.tmps[127]? = some (.bool true) := (hv 8 _ 127 rfl rfl).trans (congrArg some (hd 8 (by kernel_rfl)))
          rw [if_pos (by rfl)]
          go_simp
          exact hK _ _ rfl (Gr.refl _) (fun h => by cases h)
        intro vs W hg hφ hne
        have f0 : vs 0 = .pointer (some ⟨m4, 7, none⟩) := hφ 0 (by omega)
        have f1 : vs 1 = .bool false := hφ 1 (by omega)
        have f2 : vs 2 = .bool true := hφ 2 (by omega)
        have f3 : vs 3 = .bool true := hφ 3 (by omega)
        have f7 : vs 7 = .bool true := hφ 7 (by omega)
        have f8 : vs 8 = .bool true := hφ 8 (by omega)
        have f28 : vs 28 = .bool true := hφ 28 (by omega)
        simp only [List.take_succ_cons, List.take_zero, List.drop_succ_cons, List.drop_zero, putAll, Act.put, List.setIfInBounds_toArray, List.set_cons_zero, List.set_cons_succ, f0, f1, f2, f3, f7, f8, f28]
        clear hφ hne f0 f1 f2 f3 f7 f8 f28
        go_wp2
        go_ret
        exact ⟨rfl, HG.out.trans hg⟩
      · obtain ⟨rfl, rfl⟩ := h3 rfl rfl
        clear h1 h2 h3
        clear h4
        go_wp2_with (first | (go_at_call 22; ((with_reducible refine (HM.out _ R5.out).mono ?_); rintro e wn ⟨rfl, hgn⟩; have R5 := Lib.hid (Rooms.gr R5.out hgn); have HG := Lib.hid (Gr.trans HG.out hgn); have d4 := Gr.blk hgn d4; have d5 := Gr.blk hgn d5; clear a4 a5; obtain ⟨a4, -⟩ := d4.facts; obtain ⟨a5, -⟩ := d5.facts)) | (go_at_call 20; ((with_reducible refine (HO.out _ R5.out).mono ?_); rintro e wn ⟨rfl, hgn⟩; have R5 := Lib.hid (Rooms.gr R5.out hgn); have HG := Lib.hid (Gr.trans HG.out hgn); have d4 := Gr.blk hgn d4; have d5 := Gr.blk hgn d5; clear a4 a5; obtain ⟨a4, -⟩ := d4.facts; obtain ⟨a5, -⟩ := d5.facts)))
        refine wp_region_phi 29 [dVal (.pointer (some ⟨m4, 7, none⟩)),
          dVal (.bool false),
          dVal (.bool true),
          dVal (.bool true),
          dAny,
          dAny,
          dAny,
          dVal (.bool true),
          dVal (.bool true),
          dAny,
          dAny,
          dAny,
          dAny,
          dAny,
          dAny,
          dAny,
          dAny,
          dAny,
          dAny,
          dAny,
          dAny,
          dAny,
          dAny,
          dAny,
          dAny,
          dAny,
          dAny,
          dAny,
          dVal (.bool true)]
          (by kernel_rfl) (by kernel_rfl) (by kernel_rfl) ⟨?_, ?_, ?_, ?_, ?_, ?_, ?_, ?_, ?_, ?_, ?_, ?_, ?_, ?_, ?_, ?_, ?_, ?_, ?_, ?_, ?_, ?_, ?_, ?_, ?_, ?_, ?_, ?_, ?_, trivial⟩ ?_
        · intro a vs W hg hd hv ho K hK
          have e5 : a.tmps[5]? = some (.pointer (some ⟨m4, 0, none⟩)) := ho 5 (by kernel_rfl)
          rw [if_pos (by rfl)]
          go_simp
          exact hK _ _ rfl (Gr.refl _) (fun h => by cases h)
        · intro a vs W hg hd hv ho K hK
          have e119 : a.tmps[119]? = some (.pointer (some ⟨m4, 7, none⟩)) := (hv 0 _ 119 rfl rfl).trans (congrArg some (hd 0 (by kernel_rfl)))
          obtain ⟨c, -⟩ := (hg.blk d4).facts
          rw [if_pos (by rfl)]
          go_simp
          exact hK _ _ rfl (Gr.refl _) (fun h => by cases h)
        · intro a vs W hg hd hv ho K hK
          have e120 : a.tmps[120]? = some (.bool false) := (hv 1 _ 120 rfl rfl).trans (congrArg some (hd 1 (by kernel_rfl)))
          rw [if_pos (by rfl)]
          go_simp
          exact hK _ _ rfl (Gr.refl _) (fun h => by cases h)
        · intro a vs W hg hd hv ho K hK
          have e121 : a.tmps[121]? = some (.bool true) := (hv 2 _ 121 rfl rfl).trans (congrArg some (hd 2 (by kernel_rfl)))
          rw [if_pos (by rfl)]
          go_simp
          exact hK _ _ rfl (Gr.refl _) (fun h => by cases h)
        · intro a vs W hg hd hv ho K hK
          have e122 : a.tmps[122]? = some (.bool true) := (hv 3 _ 122 rfl rfl).trans (congrArg some (hd 3 (by kernel_rfl)))
          rw [if_neg (by simp [Region.wanted, yielded, e122])]
          exact hK _ _ trivial (Gr.refl _) (fun h => by cases h)
        · intro a vs W hg hd hv ho K hK
          have e122 : a.tmps[122]? = some (.bool true) := (hv 3 _ 122 rfl rfl).trans (congrArg some (hd 3 (by kernel_rfl)))
          rw [if_neg (by simp [Region.wanted, yielded, e122])]
          exact hK _ _ trivial (Gr.refl _) (fun h => by cases h)
        · intro a vs W hg hd hv ho K hK
          have e122 : a.tmps[122]? = some (.bool true) := (hv 3 _ 122 rfl rfl).trans (congrArg some (hd 3 (by kernel_rfl)))
          rw [if_neg (by simp [Region.wanted, yielded, e122])]
          exact hK _ _ trivial (Gr.refl _) (fun h => by cases h)
        · intro a vs W hg hd hv ho K hK
          have e122 : a.tmps[122]? = some (.bool true) := (hv 3 _ 122 rfl rfl).trans (congrArg some (hd 3 (by kernel_rfl)))
          rw [if_pos (by rfl)]
          go_simp
          exact hK _ _ rfl (Gr.refl _) (fun h => by cases h)
        · intro a vs W hg hd hv ho K hK
          have e126 : a.tmps[126]? = some (.bool true) := (hv 7 _ 126 rfl rfl).trans (congrArg some (hd 7 (by kernel_rfl)))
          rw [if_pos (by rfl)]
          go_simp
          exact hK _ _ rfl (Gr.refl _) (fun h => by cases h)
        · intro a vs W hg hd hv ho K hK
          have e127 : a.tmps[127]? = some (.bool true) := (hv 8 _ 127 rfl rfl).trans (congrArg some (hd 8 (by kernel_rfl)))
          rw [if_neg (by simp [Region.wanted, yielded, e127])]
          exact hK _ _ trivial (Gr.refl _) (fun h => by cases h)
        · intro a vs W hg hd hv ho K hK
          have e127 : a.tmps[127]? = some (.bool true) := (hv 8 _ 127 rfl rfl).trans (congrArg some (hd 8 (by kernel_rfl)))
          rw [if_neg (by simp [Region.wanted, yielded, e127])]
          exact hK _ _ trivial (Gr.refl _) (fun h => by cases h)
        · intro a vs W hg hd hv ho K hK
          have e127 : a.tmps[127]? = some (.bool true) := (hv 8 _ 127 rfl rfl).trans (congrArg some (hd 8 (by kernel_rfl)))
          rw [if_neg (by simp [Region.wanted, yielded, e127])]
          exact hK _ _ trivial (Gr.refl _) (fun h => by cases h)
        · intro a vs W hg hd hv ho K hK
          have e127 : a.tmps[127]? = some (.bool true) := (hv 8 _ 127 rfl rfl).trans (congrArg some (hd 8 (by kernel_rfl)))
          rw [if_neg (by simp [Region.wanted, yielded, e127])]
          exact hK _ _ trivial (Gr.refl _) (fun h => by cases h)
        · intro a vs W hg hd hv ho K hK
          have e127 : a.tmps[127]? = some (.bool true) := (hv 8 _ 127 rfl rfl).trans (congrArg some (hd 8 (by kernel_rfl)))
          rw [if_neg (by simp [Region.wanted, yielded, e127])]
          exact hK _ _ trivial (Gr.refl _) (fun h => by cases h)
        · intro a vs W hg hd hv ho K hK
          have e127 : a.tmps[127]? = some (.bool true) := (hv 8 _ 127 rfl rfl).trans (congrArg some (hd 8 (by kernel_rfl)))
          rw [if_neg (by simp [Region.wanted, yielded, e127])]
          exact hK _ _ trivial (Gr.refl _) (fun h => by cases h)
        · intro a vs W hg hd hv ho K hK
          have e127 : a.tmps[127]? = some (.bool true) := (hv 8 _ 127 rfl rfl).trans (congrArg some (hd 8 (by kernel_rfl)))
          rw [if_neg (by simp [Region.wanted, yielded, e127])]
          exact hK _ _ trivial (Gr.refl _) (fun h => by cases h)
        · intro a vs W hg hd hv ho K hK
          have e127 : a.tmps[127]? = some (.bool true) := (hv 8 _ 127 rfl rfl).trans (congrArg some (hd 8 (by kernel_rfl)))
          rw [if_neg (by simp [Region.wanted, yielded, e127])]
          exact hK _ _ trivial (Gr.refl _) (fun h => by cases h)
        · intro a vs W hg hd hv ho K hK
          have e127 : a.tmps[127]? = some (.bool true) := (hv 8 _ 127 rfl rfl).trans (congrArg some (hd 8 (by kernel_rfl)))
          rw [if_neg (by simp [Region.wanted, yielded, e127])]
          exact hK _ _ trivial (Gr.refl _) (fun h => by cases h)
        · intro a vs W hg hd hv ho K hK
          have e127 : a.tmps[127]? = some (.bool true) := (hv 8 _ 127 rfl rfl).trans (congrArg some (hd 8 (by kernel_rfl)))
          rw [if_neg (by simp [Region.wanted, yielded, e127])]
          exact hK _ _ trivial (Gr.refl _) (fun h => by cases h)
        · intro a vs W hg hd hv ho K hK
          have e127 : a.tmps[127]? = some (.bool true) := (hv 8 _ 127 rfl rfl).trans (congrArg some (hd 8 (by kernel_rfl)))
          rw [if_neg (by simp [Region.wanted, yielded, e127])]
          exact hK _ _ trivial (Gr.refl _) (fun h => by cases h)
        · intro a vs W hg hd hv ho K hK
          have e127 : a.tmps[127]? = some (.bool true) := (hv 8 _ 127 rfl rfl).trans (congrArg some (hd 8 (by kernel_rfl)))
          rw [if_neg (by simp [Region.wanted, yielded, e127])]
          exact hK _ _ trivial (Gr.refl _) (fun h => by cases h)
        · intro a vs W hg hd hv ho K hK
          have e127 : a.tmps[127]? = some (.bool true) := (hv 8 _ 127 rfl rfl).trans (congrArg some (hd 8 (by kernel_rfl)))
          rw [if_neg (by simp [Region.wanted, yielded, e127])]
          exact hK _ _ trivial (Gr.refl _) (fun h => by cases h)
        · intro a vs W hg hd hv ho K hK
          have e127 : a.tmps[127]? = some (.bool true) := (hv 8 _ 127 rfl rfl).trans (congrArg some (hd 8 (by kernel_rfl)))
          rw [if_neg (by simp [Region.wanted, yielded, e127])]
          exact hK _ _ trivial (Gr.refl _) (fun h => by cases h)
        · intro a vs W hg hd hv ho K hK
          have e127 : a.tmps[127]? = some (.bool true) := (hv 8 _ 127 rfl rfl).trans (congrArg some (hd 8 (by kernel_rfl)))
          rw [if_neg (by simp [Region.wanted, yielded, e127])]
          exact hK _ _ trivial (Gr.refl _) (fun h => by cases h)
        · intro a vs W hg hd hv ho K hK
          have e127 : a.tmps[127]? = some (.bool true) := (hv 8 _ 127 rfl rfl).trans (congrArg some (hd 8 (by kernel_rfl)))
          rw [if_neg (by simp [Region.wanted, yielded, e127])]
          exact hK _ _ trivial (Gr.refl _) (fun h => by cases h)
        · intro a vs W hg hd hv ho K hK
          have e127 : a.tmps[127]? = some (.bool true) := (hv 8 _ 127 rfl rfl).trans (congrArg some (hd 8 (by kernel_rfl)))
          rw [if_neg (by simp [Region.wanted, yielded, e127])]
          exact hK _ _ trivial (Gr.refl _) (fun h => by cases h)
        · intro a vs W hg hd hv ho K hK
          have e127 : a.tmps[127]? = some (.bool true) := (hv 8 _ 127 rfl rfl).trans (congrArg some (hd 8 (by kernel_rfl)))
          rw [if_neg (by simp [Region.wanted, yielded, e127])]
          exact hK _ _ trivial (Gr.refl _) (fun h => by cases h)
        · intro a vs W hg hd hv ho K hK
          have e127 : a.tmps[127]? = some (.bool true) := (hv 8 _ 127 rfl rfl).trans (congrArg some (hd 8 (by kernel_rfl)))
          rw [if_neg (by simp [Region.wanted, yielded, e127])]
          exact hK _ _ trivial (Gr.refl _) (fun h => by cases h)
        · intro a vs W hg hd hv ho K hK
          have e127 : a.tmps[127]? = some (.bool true) := (hv 8 _ 127 rfl rfl).trans (congrArg some (hd 8 (by kernel_rfl)))
          rw [if_pos (by rfl)]
          go_simp
          exact hK _ _ rfl (Gr.refl _) (fun h => by cases h)
        intro vs W hg hφ hne
        have f0 : vs 0 = .pointer (some ⟨m4, 7, none⟩) := hφ 0 (by omega)
        have f1 : vs 1 = .bool false := hφ 1 (by omega)
        have f2 : vs 2 = .bool true := hφ 2 (by omega)
        have f3 : vs 3 = .bool true := hφ 3 (by omega)
        have f7 : vs 7 = .bool true := hφ 7 (by omega)
        have f8 : vs 8 = .bool true := hφ 8 (by omega)
        have f28 : vs 28 = .bool true := hφ 28 (by omega)
        simp only [List.take_succ_cons, List.take_zero, List.drop_succ_cons, List.drop_zero, putAll, Act.put, List.setIfInBounds_toArray, List.set_cons_zero, List.set_cons_succ, f0, f1, f2, f3, f7, f8, f28]
        clear hφ hne f0 f1 f2 f3 f7 f8 f28
        go_wp2
        go_ret
        exact ⟨rfl, HG.out.trans hg⟩
      · obtain ⟨rfl, rfl⟩ := h3 rfl rfl
        clear h1 h2 h3
        clear h4
        go_wp2_with (first | (go_at_call 22; ((with_reducible refine (HM.out _ R5.out).mono ?_); rintro e wn ⟨rfl, hgn⟩; have R5 := Lib.hid (Rooms.gr R5.out hgn); have HG := Lib.hid (Gr.trans HG.out hgn); have d4 := Gr.blk hgn d4; have d5 := Gr.blk hgn d5; clear a4 a5; obtain ⟨a4, -⟩ := d4.facts; obtain ⟨a5, -⟩ := d5.facts)) | (go_at_call 20; ((with_reducible refine (HO.out _ R5.out).mono ?_); rintro e wn ⟨rfl, hgn⟩; have R5 := Lib.hid (Rooms.gr R5.out hgn); have HG := Lib.hid (Gr.trans HG.out hgn); have d4 := Gr.blk hgn d4; have d5 := Gr.blk hgn d5; clear a4 a5; obtain ⟨a4, -⟩ := d4.facts; obtain ⟨a5, -⟩ := d5.facts)))
        refine wp_region_phi 29 [dVal (.pointer (some ⟨m4, 7, none⟩)),
          dVal (.bool false),
          dVal (.bool true),
          dVal (.bool true),
          dAny,
          dAny,
          dAny,
          dVal (.bool true),
          dVal (.bool true),
          dAny,
          dAny,
          dAny,
          dAny,
          dAny,
          dAny,
          dAny,
          dAny,
          dAny,
          dAny,
          dAny,
          dAny,
          dAny,
          dAny,
          dAny,
          dAny,
          dAny,
          dAny,
          dAny,
          dVal (.bool true)]
          (by kernel_rfl) (by kernel_rfl) (by kernel_rfl) ⟨?_, ?_, ?_, ?_, ?_, ?_, ?_, ?_, ?_, ?_, ?_, ?_, ?_, ?_, ?_, ?_, ?_, ?_, ?_, ?_, ?_, ?_, ?_, ?_, ?_, ?_, ?_, ?_, ?_, trivial⟩ ?_
        · intro a vs W hg hd hv ho K hK
          have e5 : a.tmps[5]? = some (.pointer (some ⟨m4, 0, none⟩)) := ho 5 (by kernel_rfl)
          rw [if_pos (by rfl)]
          go_simp
          exact hK _ _ rfl (Gr.refl _) (fun h => by cases h)
        · intro a vs W hg hd hv ho K hK
          have e119 : a.tmps[119]? = some (.pointer (some ⟨m4, 7, none⟩)) := (hv 0 _ 119 rfl rfl).trans (congrArg some (hd 0 (by kernel_rfl)))
          obtain ⟨c, -⟩ := (hg.blk d4).facts
          rw [if_pos (by rfl)]
          go_simp
          exact hK _ _ rfl (Gr.refl _) (fun h => by cases h)
        · intro a vs W hg hd hv ho K hK
          have e120 : a.tmps[120]? = some (.bool false) := (hv 1 _ 120 rfl rfl).trans (congrArg some (hd 1 (by kernel_rfl)))
          rw [if_pos (by rfl)]
          go_simp
          exact hK _ _ rfl (Gr.refl _) (fun h => by cases h)
        · intro a vs W hg hd hv ho K hK
          have e121 : a.tmps[121]? = some (.bool true) := (hv 2 _ 121 rfl rfl).trans (congrArg some (hd 2 (by kernel_rfl)))
          rw [if_pos (by rfl)]
          go_simp
          exact hK _ _ rfl (Gr.refl _) (fun h => by cases h)
        · intro a vs W hg hd hv ho K hK
          have e122 : a.tmps[122]? = some (.bool true) := (hv 3 _ 122 rfl rfl).trans (congrArg some (hd 3 (by kernel_rfl)))
          rw [if_neg (by simp [Region.wanted, yielded, e122])]
          exact hK _ _ trivial (Gr.refl _) (fun h => by cases h)
        · intro a vs W hg hd hv ho K hK
          have e122 : a.tmps[122]? = some (.bool true) := (hv 3 _ 122 rfl rfl).trans (congrArg some (hd 3 (by kernel_rfl)))
          rw [if_neg (by simp [Region.wanted, yielded, e122])]
          exact hK _ _ trivial (Gr.refl _) (fun h => by cases h)
        · intro a vs W hg hd hv ho K hK
          have e122 : a.tmps[122]? = some (.bool true) := (hv 3 _ 122 rfl rfl).trans (congrArg some (hd 3 (by kernel_rfl)))
          rw [if_neg (by simp [Region.wanted, yielded, e122])]
          exact hK _ _ trivial (Gr.refl _) (fun h => by cases h)
        · intro a vs W hg hd hv ho K hK
          have e122 : a.tmps[122]? = some (.bool true) := (hv 3 _ 122 rfl rfl).trans (congrArg some (hd 3 (by kernel_rfl)))
          rw [if_pos (by rfl)]
          go_simp
          exact hK _ _ rfl (Gr.refl _) (fun h => by cases h)
        · intro a vs W hg hd hv ho K hK
          have e126 : a.tmps[126]? = some (.bool true) := (hv 7 _ 126 rfl rfl).trans (congrArg some (hd 7 (by kernel_rfl)))
          rw [if_pos (by rfl)]
          go_simp
          exact hK _ _ rfl (Gr.refl _) (fun h => by cases h)
        · intro a vs W hg hd hv ho K hK
          have e127 : a.tmps[127]? = some (.bool true) := (hv 8 _ 127 rfl rfl).trans (congrArg some (hd 8 (by kernel_rfl)))
          rw [if_neg (by simp [Region.wanted, yielded, e127])]
          exact hK _ _ trivial (Gr.refl _) (fun h => by cases h)
        · intro a vs W hg hd hv ho K hK
          have e127 : a.tmps[127]? = some (.bool true) := (hv 8 _ 127 rfl rfl).trans (congrArg some (hd 8 (by kernel_rfl)))
          rw [if_neg (by simp [Region.wanted, yielded, e127])]
          exact hK _ _ trivial (Gr.refl _) (fun h => by cases h)
        · intro a vs W hg hd hv ho K hK
          have e127 : a.tmps[127]? = some (.bool true) := (hv 8 _ 127 rfl rfl).trans (congrArg some (hd 8 (by kernel_rfl)))
          rw [if_neg (by simp [Region.wanted, yielded, e127])]
          exact hK _ _ trivial (Gr.refl _) (fun h => by cases h)
        · intro a vs W hg hd hv ho K hK
          have e127 : a.tmps[127]? = some (.bool true) := (hv 8 _ 127 rfl rfl).trans (congrArg some (hd 8 (by kernel_rfl)))
          rw [if_neg (by simp [Region.wanted, yielded, e127])]
          exact hK _ _ trivial (Gr.refl _) (fun h => by cases h)
        · intro a vs W hg hd hv ho K hK
          have e127 : a.tmps[127]? = some (.bool true) := (hv 8 _ 127 rfl rfl).trans (congrArg some (hd 8 (by kernel_rfl)))
          rw [if_neg (by simp [Region.wanted, yielded, e127])]
          exact hK _ _ trivial (Gr.refl _) (fun h => by cases h)
        · intro a vs W hg hd hv ho K hK
          have e127 : a.tmps[127]? = some (.bool true) := (hv 8 _ 127 rfl rfl).trans (congrArg some (hd 8 (by kernel_rfl)))
          rw [if_neg (by simp [Region.wanted, yielded, e127])]
          exact hK _ _ trivial (Gr.refl _) (fun h => by cases h)
        · intro a vs W hg hd hv ho K hK
          have e127 : a.tmps[127]? = some (.bool true) := (hv 8 _ 127 rfl rfl).trans (congrArg some (hd 8 (by kernel_rfl)))
          rw [if_neg (by simp [Region.wanted, yielded, e127])]
          exact hK _ _ trivial (Gr.refl _) (fun h => by cases h)
        · intro a vs W hg hd hv ho K hK
          have e127 : a.tmps[127]? = some (.bool true) := (hv 8 _ 127 rfl rfl).trans (congrArg some (hd 8 (by kernel_rfl)))
          rw [if_neg (by simp [Region.wanted, yielded, e127])]
          exact hK _ _ trivial (Gr.refl _) (fun h => by cases h)
        · intro a vs W hg hd hv ho K hK
          have e127 : a.tmps[127]? = some (.bool true) := (hv 8 _ 127 rfl rfl).trans (congrArg some (hd 8 (by kernel_rfl)))
          rw [if_neg (by simp [Region.wanted, yielded, e127])]
          exact hK _ _ trivial (Gr.refl _) (fun h => by cases h)
        · intro a vs W hg hd hv ho K hK
          have e127 : a.tmps[127]? = some (.bool true) := (hv 8 _ 127 rfl rfl).trans (congrArg some (hd 8 (by kernel_rfl)))
          rw [if_neg (by simp [Region.wanted, yielded, e127])]
          exact hK _ _ trivial (Gr.refl _) (fun h => by cases h)
        · intro a vs W hg hd hv ho K hK
          have e127 : a.tmps[127]? = some (.bool true) := (hv 8 _ 127 rfl rfl).trans (congrArg some (hd 8 (by kernel_rfl)))
          rw [if_neg (by simp [Region.wanted, yielded, e127])]
          exact hK _ _ trivial (Gr.refl _) (fun h => by cases h)
        · intro a vs W hg hd hv ho K hK
          have e127 : a.tmps[127]? = some (.bool true) := (hv 8 _ 127 rfl rfl).trans (congrArg some (hd 8 (by kernel_rfl)))
          rw [if_neg (by simp [Region.wanted, yielded, e127])]
          exact hK _ _ trivial (Gr.refl _) (fun h => by cases h)
        · intro a vs W hg hd hv ho K hK
          have e127 : a.tmps[127]? = some (.bool true) := (hv 8 _ 127 rfl rfl).trans (congrArg some (hd 8 (by kernel_rfl)))
          rw [if_neg (by simp [Region.wanted, yielded, e127])]
          exact hK _ _ trivial (Gr.refl _) (fun h => by cases h)
        · intro a vs W hg hd hv ho K hK
          have e127 : a.tmps[127]? = some (.bool true) := (hv 8 _ 127 rfl rfl).trans (congrArg some (hd 8 (by kernel_rfl)))
          rw [if_neg (by simp [Region.wanted, yielded, e127])]
          exact hK _ _ trivial (Gr.refl _) (fun h => by cases h)
        · intro a vs W hg hd hv ho K hK
          have e127 : a.tmps[127]? = some (.bool true) := (hv 8 _ 127 rfl rfl).trans (congrArg some (hd 8 (by kernel_rfl)))
          rw [if_neg (by simp [Region.wanted, yielded, e127])]
          exact hK _ _ trivial (Gr.refl _) (fun h => by cases h)
        · intro a vs W hg hd hv ho K hK
          have e127 : a.tmps[127]? = some (.bool true) := (hv 8 _ 127 rfl rfl).trans (congrArg some (hd 8 (by kernel_rfl)))
          rw [if_neg (by simp [Region.wanted, yielded, e127])]
          exact hK _ _ trivial (Gr.refl _) (fun h => by cases h)
        · intro a vs W hg hd hv ho K hK
          have e127 : a.tmps[127]? = some (.bool true) := (hv 8 _ 127 rfl rfl).trans (congrArg some (hd 8 (by kernel_rfl)))
          rw [if_neg (by simp [Region.wanted, yielded, e127])]
          exact hK _ _ trivial (Gr.refl _) (fun h => by cases h)
        · intro a vs W hg hd hv ho K hK
          have e127 : a.tmps[127]? = some (.bool true) := (hv 8 _ 127 rfl rfl).trans (congrArg some (hd 8 (by kernel_rfl)))
          rw [if_neg (by simp [Region.wanted, yielded, e127])]
          exact hK _ _ trivial (Gr.refl _) (fun h => by cases h)
        · intro a vs W hg hd hv ho K hK
          have e127 : a.tmps[127]? = some (.bool true) := (hv 8 _ 127 rfl rfl).trans (congrArg some (hd 8 (by kernel_rfl)))
          rw [if_neg (by simp [Region.wanted, yielded, e127])]
          exact hK _ _ trivial (Gr.refl _) (fun h => by cases h)
        · intro a vs W hg hd hv ho K hK
          have e127 : a.tmps[127]? = some (.bool true) := (hv 8 _ 127 rfl rfl).trans (congrArg some (hd 8 (by kernel_rfl)))
          rw [if_pos (by rfl)]
          go_simp
          exact hK _ _ rfl (Gr.refl _) (fun h => by cases h)
        intro vs W hg hφ hne
        have f0 : vs 0 = .pointer (some ⟨m4, 7, none⟩) := hφ 0 (by omega)
        have f1 : vs 1 = .bool false := hφ 1 (by omega)
        have f2 : vs 2 = .bool true := hφ 2 (by omega)
        have f3 : vs 3 = .bool true := hφ 3 (by omega)
        have f7 : vs 7 = .bool true := hφ 7 (by omega)
        have f8 : vs 8 = .bool true := hφ 8 (by omega)
        have f28 : vs 28 = .bool true := hφ 28 (by omega)
        simp only [List.take_succ_cons, List.take_zero, List.drop_succ_cons, List.drop_zero, putAll, Act.put, List.setIfInBounds_toArray, List.set_cons_zero, List.set_cons_succ, f0, f1, f2, f3, f7, f8, f28]
        clear hφ hne f0 f1 f2 f3 f7 f8 f28
        go_wp2
        go_ret
        exact ⟨rfl, HG.out.trans hg⟩
      · clear h1 h2 h3
        clear h4
        go_wp2_with (first | (go_at_call 22; ((with_reducible refine (HM.out _ R5.out).mono ?_); rintro e wn ⟨rfl, hgn⟩; have R5 := Lib.hid (Rooms.gr R5.out hgn); have HG := Lib.hid (Gr.trans HG.out hgn); have d4 := Gr.blk hgn d4; have d5 := Gr.blk hgn d5; clear a4 a5; obtain ⟨a4, -⟩ := d4.facts; obtain ⟨a5, -⟩ := d5.facts)) | (go_at_call 20; ((with_reducible refine (HO.out _ R5.out).mono ?_); rintro e wn ⟨rfl, hgn⟩; have R5 := Lib.hid (Rooms.gr R5.out hgn); have HG := Lib.hid (Gr.trans HG.out hgn); have d4 := Gr.blk hgn d4; have d5 := Gr.blk hgn d5; clear a4 a5; obtain ⟨a4, -⟩ := d4.facts; obtain ⟨a5, -⟩ := d5.facts)))
        refine wp_region_phi 29 [dVal (.pointer (some ⟨m4, 7, none⟩)),
          dVal (.bool false),
          dVal (.bool true),
          dVal (.bool true),
          dAny,
          dAny,
          dAny,
          dVal (.bool true),
          dVal (.bool true),
          dAny,
          dAny,
          dAny,
          dAny,
          dAny,
          dAny,
          dAny,
          dAny,
          dAny,
          dAny,
          dAny,
          dAny,
          dAny,
          dAny,
          dAny,
          dAny,
          dAny,
          dAny,
          dAny,
          dVal (.bool true)]
          (by kernel_rfl) (by kernel_rfl) (by kernel_rfl) ⟨?_, ?_, ?_, ?_, ?_, ?_, ?_, ?_, ?_, ?_, ?_, ?_, ?_, ?_, ?_, ?_, ?_, ?_, ?_, ?_, ?_, ?_, ?_, ?_, ?_, ?_, ?_, ?_, ?_, trivial⟩ ?_
        · intro a vs W hg hd hv ho K hK
          have e5 : a.tmps[5]? = some (.pointer (some ⟨m4, 0, none⟩)) := ho 5 (by kernel_rfl)
          rw [if_pos (by rfl)]
          go_simp
          exact hK _ _ rfl (Gr.refl _) (fun h => by cases h)
        · intro a vs W hg hd hv ho K hK
          have e119 : a.tmps[119]? = some (.pointer (some ⟨m4, 7, none⟩)) := (hv 0 _ 119 rfl rfl).trans (congrArg some (hd 0 (by kernel_rfl)))
          obtain ⟨c, -⟩ := (hg.blk d4).facts
          rw [if_pos (by rfl)]
          go_simp
          exact hK _ _ rfl (Gr.refl _) (fun h => by cases h)
        · intro a vs W hg hd hv ho K hK
          have e120 : a.tmps[120]? = some (.bool false) := (hv 1 _ 120 rfl rfl).trans (congrArg some (hd 1 (by kernel_rfl)))
          rw [if_pos (by rfl)]
          go_simp
          exact hK _ _ rfl (Gr.refl _) (fun h => by cases h)
        · intro a vs W hg hd hv ho K hK
          have e121 : a.tmps[121]? = some (.bool true) := (hv 2 _ 121 rfl rfl).trans (congrArg some (hd 2 (by kernel_rfl)))
          rw [if_pos (by rfl)]
          go_simp
          exact hK _ _ rfl (Gr.refl _) (fun h => by cases h)
        · intro a vs W hg hd hv ho K hK
          have e122 : a.tmps[122]? = some (.bool true) := (hv 3 _ 122 rfl rfl).trans (congrArg some (hd 3 (by kernel_rfl)))
          rw [if_neg (by simp [Region.wanted, yielded, e122])]
          exact hK _ _ trivial (Gr.refl _) (fun h => by cases h)
        · intro a vs W hg hd hv ho K hK
          have e122 : a.tmps[122]? = some (.bool true) := (hv 3 _ 122 rfl rfl).trans (congrArg some (hd 3 (by kernel_rfl)))
          rw [if_neg (by simp [Region.wanted, yielded, e122])]
          exact hK _ _ trivial (Gr.refl _) (fun h => by cases h)
        · intro a vs W hg hd hv ho K hK
          have e122 : a.tmps[122]? = some (.bool true) := (hv 3 _ 122 rfl rfl).trans (congrArg some (hd 3 (by kernel_rfl)))
          rw [if_neg (by simp [Region.wanted, yielded, e122])]
          exact hK _ _ trivial (Gr.refl _) (fun h => by cases h)
        · intro a vs W hg hd hv ho K hK
          have e122 : a.tmps[122]? = some (.bool true) := (hv 3 _ 122 rfl rfl).trans (congrArg some (hd 3 (by kernel_rfl)))
          rw [if_pos (by rfl)]
          go_simp
          exact hK _ _ rfl (Gr.refl _) (fun h => by cases h)
        · intro a vs W hg hd hv ho K hK
          have e126 : a.tmps[126]? = some (.bool true) := (hv 7 _ 126 rfl rfl).trans (congrArg some (hd 7 (by kernel_rfl)))
          rw [if_pos (by rfl)]
          go_simp
          exact hK _ _ rfl (Gr.refl _) (fun h => by cases h)
        · intro a vs W hg hd hv ho K hK
          have e127 : a.tmps[127]? = some (.bool true) := (hv 8 _ 127 rfl rfl).trans (congrArg some (hd 8 (by kernel_rfl)))
          rw [if_neg (by simp [Region.wanted, yielded, e127])]
          exact hK _ _ trivial (Gr.refl _) (fun h => by cases h)
        · intro a vs W hg hd hv ho K hK
          have e127 : a.tmps[127]? = some (.bool true) := (hv 8 _ 127 rfl rfl).trans (congrArg some (hd 8 (by kernel_rfl)))
          rw [if_neg (by simp [Region.wanted, yielded, e127])]
          exact hK _ _ trivial (Gr.refl _) (fun h => by cases h)
        · intro a vs W hg hd hv ho K hK
          have e127 : a.tmps[127]? = some (.bool true) := (hv 8 _ 127 rfl rfl).trans (congrArg some (hd 8 (by kernel_rfl)))
          rw [if_neg (by simp [Region.wanted, yielded, e127])]
          exact hK _ _ trivial (Gr.refl _) (fun h => by cases h)
        · intro a vs W hg hd hv ho K hK
          have e127 : a.tmps[127]? = some (.bool true) := (hv 8 _ 127 rfl rfl).trans (congrArg some (hd 8 (by kernel_rfl)))
          rw [if_neg (by simp [Region.wanted, yielded, e127])]
          exact hK _ _ trivial (Gr.refl _) (fun h => by cases h)
        · intro a vs W hg hd hv ho K hK
          have e127 : a.tmps[127]? = some (.bool true) := (hv 8 _ 127 rfl rfl).trans (congrArg some (hd 8 (by kernel_rfl)))
          rw [if_neg (by simp [Region.wanted, yielded, e127])]
          exact hK _ _ trivial (Gr.refl _) (fun h => by cases h)
        · intro a vs W hg hd hv ho K hK
          have e127 : a.tmps[127]? = some (.bool true) := (hv 8 _ 127 rfl rfl).trans (congrArg some (hd 8 (by kernel_rfl)))
          rw [if_neg (by simp [Region.wanted, yielded, e127])]
          exact hK _ _ trivial (Gr.refl _) (fun h => by cases h)
        · intro a vs W hg hd hv ho K hK
          have e127 : a.tmps[127]? = some (.bool true) := (hv 8 _ 127 rfl rfl).trans (congrArg some (hd 8 (by kernel_rfl)))
          rw [if_neg (by simp [Region.wanted, yielded, e127])]
          exact hK _ _ trivial (Gr.refl _) (fun h => by cases h)
        · intro a vs W hg hd hv ho K hK
          have e127 : a.tmps[127]? = some (.bool true) := (hv 8 _ 127 rfl rfl).trans (congrArg some (hd 8 (by kernel_rfl)))
          rw [if_neg (by simp [Region.wanted, yielded, e127])]
          exact hK _ _ trivial (Gr.refl _) (fun h => by cases h)
        · intro a vs W hg hd hv ho K hK
          have e127 : a.tmps[127]? = some (.bool true) := (hv 8 _ 127 rfl rfl).trans (congrArg some (hd 8 (by kernel_rfl)))
          rw [if_neg (by simp [Region.wanted, yielded, e127])]
          exact hK _ _ trivial (Gr.refl _) (fun h => by cases h)
        · intro a vs W hg hd hv ho K hK
          have e127 : a.tmps[127]? = some (.bool true) := (hv 8 _ 127 rfl rfl).trans (congrArg some (hd 8 (by kernel_rfl)))
          rw [if_neg (by simp [Region.wanted, yielded, e127])]
          exact hK _ _ trivial (Gr.refl _) (fun h => by cases h)
        · intro a vs W hg hd hv ho K hK
          have e127 : a.tmps[127]? = some (.bool true) := (hv 8 _ 127 rfl rfl).trans (congrArg some (hd 8 (by kernel_rfl)))
          rw [if_neg (by simp [Region.wanted, yielded, e127])]
          exact hK _ _ trivial (Gr.refl _) (fun h => by cases h)
        · intro a vs W hg hd hv ho K hK
          have e127 : a.tmps[127]? = some (.bool true) := (hv 8 _ 127 rfl rfl).trans (congrArg some (hd 8 (by kernel_rfl)))
          rw [if_neg (by simp [Region.wanted, yielded, e127])]
          exact hK _ _ trivial (Gr.refl _) (fun h => by cases h)
        · intro a vs W hg hd hv ho K hK
          have e127 : a.tmps[127]? = some (.bool true) := (hv 8 _ 127 rfl rfl).trans (congrArg some (hd 8 (by kernel_rfl)))
          rw [if_neg (by simp [Region.wanted, yielded, e127])]
          exact hK _ _ trivial (Gr.refl _) (fun h => by cases h)
        · intro a vs W hg hd hv ho K hK
          have e127 : a.tmps[127]? = some (.bool true) := (hv 8 _ 127 rfl rfl).trans (congrArg some (hd 8 (by kernel_rfl)))
          rw [if_neg (by simp [Region.wanted, yielded, e127])]
          exact hK _ _ trivial (Gr.refl _) (fun h => by cases h)
        · intro a vs W hg hd hv ho K hK
          have e127 : a.tmps[127]? = some (.bool true) := (hv 8 _ 127 rfl rfl).trans (congrArg some (hd 8 (by kernel_rfl)))
          rw [if_neg (by simp [Region.wanted, yielded, e127])]
          exact hK _ _ trivial (Gr.refl _) (fun h => by cases h)
        · intro a vs W hg hd hv ho K hK
          have e127 : a.tmps[127]? = some (.bool true) := (hv 8 _ 127 rfl rfl).trans (congrArg some (hd 8 (by kernel_rfl)))
          rw [if_neg (by simp [Region.wanted, yielded, e127])]
          exact hK _ _ trivial (Gr.refl _) (fun h => by cases h)
        · intro a vs W hg hd hv ho K hK
          have e127 : a.tmps[127]? = some (.bool true) := (hv 8 _ 127 rfl rfl).trans (congrArg some (hd 8 (by kernel_rfl)))
          rw [if_neg (by simp [Region.wanted, yielded, e127])]
          exact hK _ _ trivial (Gr.refl _) (fun h => by cases h)
        · intro a vs W hg hd hv ho K hK
          have e127 : a.tmps[127]? = some (.bool true) := (hv 8 _ 127 rfl rfl).trans (congrArg some (hd 8 (by kernel_rfl)))
          rw [if_neg (by simp [Region.wanted, yielded, e127])]
          exact hK _ _ trivial (Gr.refl _) (fun h => by cases h)
        · intro a vs W hg hd hv ho K hK
          have e127 : a.tmps[127]? = some (.bool true) := (hv 8 _ 127 rfl rfl).trans (congrArg some (hd 8 (by kernel_rfl)))
          rw [if_neg (by simp [Region.wanted, yielded, e127])]
          exact hK _ _ trivial (Gr.refl _) (fun h => by cases h)
        · intro a vs W hg hd hv ho K hK
          have e127 : a.tmps[127]? = some (.bool true) := (hv 8 _ 127 rfl rfl).trans (congrArg some (hd 8 (by kernel_rfl)))
          rw [if_pos (by rfl)]
          go_simp
          exact hK _ _ rfl (Gr.refl _) (fun h => by cases h)
        intro vs W hg hφ hne
        have f0 : vs 0 = .pointer (some ⟨m4, 7, none⟩) := hφ 0 (by omega)
        have f1 : vs 1 = .bool false := hφ 1 (by omega)
        have f2 : vs 2 = .bool true := hφ 2 (by omega)
        have f3 : vs 3 = .bool true := hφ 3 (by omega)
        have f7 : vs 7 = .bool true := hφ 7 (by omega)
        have f8 : vs 8 = .bool true := hφ 8 (by omega)
        have f28 : vs 28 = .bool true := hφ 28 (by omega)
        simp only [List.take_succ_cons, List.take_zero, List.drop_succ_cons, List.drop_zero, putAll, Act.put, List.setIfInBounds_toArray, List.set_cons_zero, List.set_cons_succ, f0, f1, f2, f3, f7, f8, f28]
        clear hφ hne f0 f1 f2 f3 f7 f8 f28
        go_wp2
        go_ret
        exact ⟨rfl, HG.out.trans hg⟩
      · obtain rfl := h2 rfl
        clear h1 h2 h3
        clear h4
        go_wp2_with (first | (go_at_call 22; ((with_reducible refine (HM.out _ R5.out).mono ?_); rintro e wn ⟨rfl, hgn⟩; have R5 := Lib.hid (Rooms.gr R5.out hgn); have HG := Lib.hid (Gr.trans HG.out hgn); have d4 := Gr.blk hgn d4; have d5 := Gr.blk hgn d5; clear a4 a5; obtain ⟨a4, -⟩ := d4.facts; obtain ⟨a5, -⟩ := d5.facts)) | (go_at_call 20; ((with_reducible refine (HO.out _ R5.out).mono ?_); rintro e wn ⟨rfl, hgn⟩; have R5 := Lib.hid (Rooms.gr R5.out hgn); have HG := Lib.hid (Gr.trans HG.out hgn); have d4 := Gr.blk hgn d4; have d5 := Gr.blk hgn d5; clear a4 a5; obtain ⟨a4, -⟩ := d4.facts; obtain ⟨a5, -⟩ := d5.facts)))
        refine wp_region_phi 29 [dVal (.pointer (some ⟨m4, 7, none⟩)),
          dVal (.bool false),
          dVal (.bool true),
          dVal (.bool true),
          dAny,
          dAny,
          dAny,
          dVal (.bool true),
          dVal (.bool true),
          dAny,
          dAny,
          dAny,
          dAny,
          dAny,
          dAny,
          dAny,
          dAny,
          dAny,
          dAny,
          dAny,
          dAny,
          dAny,
          dAny,
          dAny,
          dAny,
          dAny,
          dAny,
          dAny,
          dVal (.bool true)]
          (by kernel_rfl) (by kernel_rfl) (by kernel_rfl) ⟨?_, ?_, ?_, ?_, ?_, ?_, ?_, ?_, ?_, ?_, ?_, ?_, ?_, ?_, ?_, ?_, ?_, ?_, ?_, ?_, ?_, ?_, ?_, ?_, ?_, ?_, ?_, ?_, ?_, trivial⟩ ?_
        · intro a vs W hg hd hv ho K hK
          have e5 : a.tmps[5]? = some (.pointer (some ⟨m4, 0, none⟩)) := ho 5 (by kernel_rfl)
          rw [if_pos (by rfl)]
          go_simp
          exact hK _ _ rfl (Gr.refl _) (fun h => by cases h)
        · intro a vs W hg hd hv ho K hK
          have e119 : a.tmps[119]? = some (.pointer (some ⟨m4, 7, none⟩)) := (hv 0 _ 119 rfl rfl).trans (congrArg some (hd 0 (by kernel_rfl)))
          obtain ⟨c, -⟩ := (hg.blk d4).facts
          rw [if_pos (by rfl)]
          go_simp
          exact hK _ _ rfl (Gr.refl _) (fun h => by cases h)
        · intro a vs W hg hd hv ho K hK
          have e120 : a.tmps[120]? = some (.bool false) := (hv 1 _ 120 rfl rfl).trans (congrArg some (hd 1 (by kernel_rfl)))
          rw [if_pos (by rfl)]
          go_simp
          exact hK _ _ rfl (Gr.refl _) (fun h => by cases h)
        · intro a vs W hg hd hv ho K hK
          have e121 : a.tmps[121]? = some (.bool true) := (hv 2 _ 121 rfl rfl).trans (congrArg some (hd 2 (by kernel_rfl)))
          rw [if_pos (by rfl)]
          go_simp
          exact hK _ _ rfl (Gr.refl _) (fun h => by cases h)
        · intro a vs W hg hd hv ho K hK
          have e122 : a.tmps[122]? = some (.bool true) := (hv 3 _ 122 rfl rfl).trans (congrArg some (hd 3 (by kernel_rfl)))
          rw [if_neg (by simp [Region.wanted, yielded, e122])]
          exact hK _ _ trivial (Gr.refl _) (fun h => by cases h)
        · intro a vs W hg hd hv ho K hK
          have e122 : a.tmps[122]? = some (.bool true) := (hv 3 _ 122 rfl rfl).trans (congrArg some (hd 3 (by kernel_rfl)))
          rw [if_neg (by simp [Region.wanted, yielded, e122])]
          exact hK _ _ trivial (Gr.refl _) (fun h => by cases h)
        · intro a vs W hg hd hv ho K hK
          have e122 : a.tmps[122]? = some (.bool true) := (hv 3 _ 122 rfl rfl).trans (congrArg some (hd 3 (by kernel_rfl)))
          rw [if_neg (by simp [Region.wanted, yielded, e122])]
          exact hK _ _ trivial (Gr.refl _) (fun h => by cases h)
        · intro a vs W hg hd hv ho K hK
          have e122 : a.tmps[122]? = some (.bool true) := (hv 3 _ 122 rfl rfl).trans (congrArg some (hd 3 (by kernel_rfl)))
          rw [if_pos (by rfl)]
          go_simp
          exact hK _ _ rfl (Gr.refl _) (fun h => by cases h)
        · intro a vs W hg hd hv ho K hK
          have e126 : a.tmps[126]? = some (.bool true) := (hv 7 _ 126 rfl rfl).trans (congrArg some (hd 7 (by kernel_rfl)))
          rw [if_pos (by rfl)]
          go_simp
          exact hK _ _ rfl (Gr.refl _) (fun h => by cases h)
        · intro a vs W hg hd hv ho K hK
          have e127 : a.tmps[127]? = some (.bool true) := (hv 8 _ 127 rfl rfl).trans (congrArg some (hd 8 (by kernel_rfl)))
          rw [if_neg (by simp [Region.wanted, yielded, e127])]
          exact hK _ _ trivial (Gr.refl _) (fun h => by cases h)
        · intro a vs W hg hd hv ho K hK
          have e127 : a.tmps[127]? = some (.bool true) := (hv 8 _ 127 rfl rfl).trans (congrArg some (hd 8 (by kernel_rfl)))
          rw [if_neg (by simp [Region.wanted, yielded, e127])]
          exact hK _ _ trivial (Gr.refl _) (fun h => by cases h)
        · intro a vs W hg hd hv ho K hK
          have e127 : a.tmps[127]? = some (.bool true) := (hv 8 _ 127 rfl rfl).trans (congrArg some (hd 8 (by kernel_rfl)))
          rw [if_neg (by simp [Region.wanted, yielded, e127])]
          exact hK _ _ trivial (Gr.refl _) (fun h => by cases h)
        · intro a vs W hg hd hv ho K hK
          have e127 : a.tmps[127]? = some (.bool true) := (hv 8 _ 127 rfl rfl).trans (congrArg some (hd 8 (by kernel_rfl)))
          rw [if_neg (by simp [Region.wanted, yielded, e127])]
          exact hK _ _ trivial (Gr.refl _) (fun h => by cases h)
        · intro a vs W hg hd hv ho K hK
          have e127 : a.tmps[127]? = some (.bool true) := (hv 8 _ 127 rfl rfl).trans (congrArg some (hd 8 (by kernel_rfl)))
          rw [if_neg (by simp [Region.wanted, yielded, e127])]
          exact hK _ _ trivial (Gr.refl _) (fun h => by cases h)
        · intro a vs W hg hd hv ho K hK
          have e127 : a.tmps[127]? = some (.bool true) := (hv 8 _ 127 rfl rfl).trans (congrArg some (hd 8 (by kernel_rfl)))
          rw [if_neg (by simp [Region.wanted, yielded, e127])]
          exact hK _ _ trivial (Gr.refl _) (fun h => by cases h)
        · intro a vs W hg hd hv ho K hK
          have e127 : a.tmps[127]? = some (.bool true) := (hv 8 _ 127 rfl rfl).trans (congrArg some (hd 8 (by kernel_rfl)))
          rw [if_neg (by simp [Region.wanted, yielded, e127])]
          exact hK _ _ trivial (Gr.refl _) (fun h => by cases h)
        · intro a vs W hg hd hv ho K hK
          have e127 : a.tmps[127]? = some (.bool true) := (hv 8 _ 127 rfl rfl).trans (congrArg some (hd 8 (by kernel_rfl)))
          rw [if_neg (by simp [Region.wanted, yielded, e127])]
          exact hK _ _ trivial (Gr.refl _) (fun h => by cases h)
        · intro a vs W hg hd hv ho K hK
          have e127 : a.tmps[127]? = some (.bool true) := (hv 8 _ 127 rfl rfl).trans (congrArg some (hd 8 (by kernel_rfl)))
          rw [if_neg (by simp [Region.wanted, yielded, e127])]
          exact hK _ _ trivial (Gr.refl _) (fun h => by cases h)
        · intro a vs W hg hd hv ho K hK
          have e127 : a.tmps[127]? = some (.bool true) := (hv 8 _ 127 rfl rfl).trans (congrArg some (hd 8 (by kernel_rfl)))
          rw [if_neg (by simp [Region.wanted, yielded, e127])]
          exact hK _ _ trivial (Gr.refl _) (fun h => by cases h)
        · intro a vs W hg hd hv ho K hK
          have e127 : a.tmps[127]? = some (.bool true) := (hv 8 _ 127 rfl rfl).trans (congrArg some (hd 8 (by kernel_rfl)))
          rw [if_neg (by simp [Region.wanted, yielded, e127])]
          exact hK _ _ trivial (Gr.refl _) (fun h => by cases h)
        · intro a vs W hg hd hv ho K hK
          have e127 : a.tmps[127]? = some (.bool true) := (hv 8 _ 127 rfl rfl).trans (congrArg some (hd 8 (by kernel_rfl)))
          rw [if_neg (by simp [Region.wanted, yielded, e127])]
          exact hK _ _ trivial (Gr.refl _) (fun h => by cases h)
        · intro a vs W hg hd hv ho K hK
          have e127 : a.tmps[127]? = some (.bool true) := (hv 8 _ 127 rfl rfl).trans (congrArg some (hd 8 (by kernel_rfl)))
          rw [if_neg (by simp [Region.wanted, yielded, e127])]
          exact hK _ _ trivial (Gr.refl _) (fun h => by cases h)
        · intro a vs W hg hd hv ho K hK
          have e127 : a.tmps[127]? = some (.bool true) := (hv 8 _ 127 rfl rfl).trans (congrArg some (hd 8 (by kernel_rfl)))
          rw [if_neg (by simp [Region.wanted, yielded, e127])]
          exact hK _ _ trivial (Gr.refl _) (fun h => by cases h)
        · intro a vs W hg hd hv ho K hK
          have e127 : a.tmps[127]? = some (.bool true) := (hv 8 _ 127 rfl rfl).trans (congrArg some (hd 8 (by kernel_rfl)))
          rw [if_neg (by simp [Region.wanted, yielded, e127])]
          exact hK _ _ trivial (Gr.refl _) (fun h => by cases h)
        · intro a vs W hg hd hv ho K hK
          have e127 : a.tmps[127]? = some (.bool true) := (hv 8 _ 127 rfl rfl).trans (congrArg some (hd 8 (by kernel_rfl)))
          rw [if_neg (by simp [Region.wanted, yielded, e127])]
          exact hK _ _ trivial (Gr.refl _) (fun h => by cases h)
        · intro a vs W hg hd hv ho K hK
          have e127 : a.tmps[127]? = some (.bool true) := (hv 8 _ 127 rfl rfl).trans (congrArg some (hd 8 (by kernel_rfl)))
          rw [if_neg (by simp [Region.wanted, yielded, e127])]
          exact hK _ _ trivial (Gr.refl _) (fun h => by cases h)
        · intro a vs W hg hd hv ho K hK
          have e127 : a.tmps[127]? = some (.bool true) := (hv 8 _ 127 rfl rfl).trans (congrArg some (hd 8 (by kernel_rfl)))
          rw [if_neg (by simp [Region.wanted, yielded, e127])]
          exact hK _ _ trivial (Gr.refl _) (fun h => by cases h)
        · intro a vs W hg hd hv ho K hK
          have e127 : a.tmps[127]? = some (.bool true) := (hv 8 _ 127 rfl rfl).trans (congrArg some (hd 8 (by kernel_rfl)))
          rw [if_neg (by simp [Region.wanted, yielded, e127])]
          exact hK _ _ trivial (Gr.refl _) (fun h => by cases h)
        · intro a vs W hg hd hv ho K hK
          have e127 : a.tmps[127]? = some (.bool true) := (hv 8 _ 127 rfl rfl).trans (congrArg some (hd 8 (by kernel_rfl)))
          rw [if_pos (by rfl)]
          go_simp
          exact hK _ _ rfl (Gr.refl _) (fun h => by cases h)
        intro vs W hg hφ hne
        have f0 : vs 0 = .pointer (some ⟨m4, 7, none⟩) := hφ 0 (by omega)
        have f1 : vs 1 = .bool false := hφ 1 (by omega)
        have f2 : vs 2 = .bool true := hφ 2 (by omega)
        have f3 : vs 3 = .bool true := hφ 3 (by omega)
        have f7 : vs 7 = .bool true := hφ 7 (by omega)
        have f8 : vs 8 = .bool true := hφ 8 (by omega)
        have f28 : vs 28 = .bool true := hφ 28 (by omega)
        simp only [List.take_succ_cons, List.take_zero, List.drop_succ_cons, List.drop_zero, putAll, Act.put, List.setIfInBounds_toArray, List.set_cons_zero, List.set_cons_succ, f0, f1, f2, f3, f7, f8, f28]
        clear hφ hne f0 f1 f2 f3 f7 f8 f28
        go_wp2
        go_ret
        exact ⟨rfl, HG.out.trans hg⟩
      · obtain rfl := h1 rfl
        clear h1 h2 h3
        clear h4
        go_wp2_with (first | (go_at_call 22; ((with_reducible refine (HM.out _ R5.out).mono ?_); rintro e wn ⟨rfl, hgn⟩; have R5 := Lib.hid (Rooms.gr R5.out hgn); have HG := Lib.hid (Gr.trans HG.out hgn); have d4 := Gr.blk hgn d4; have d5 := Gr.blk hgn d5; clear a4 a5; obtain ⟨a4, -⟩ := d4.facts; obtain ⟨a5, -⟩ := d5.facts)) | (go_at_call 20; ((with_reducible refine (HO.out _ R5.out).mono ?_); rintro e wn ⟨rfl, hgn⟩; have R5 := Lib.hid (Rooms.gr R5.out hgn); have HG := Lib.hid (Gr.trans HG.out hgn); have d4 := Gr.blk hgn d4; have d5 := Gr.blk hgn d5; clear a4 a5; obtain ⟨a4, -⟩ := d4.facts; obtain ⟨a5, -⟩ := d5.facts)))
        refine wp_region_phi 29 [dVal (.pointer (some ⟨m4, 7, none⟩)),
          dVal (.bool false),
          dVal (.bool true),
          dVal (.bool true),
          dAny,
          dAny,
          dAny,
          dVal (.bool true),
          dVal (.bool true),
          dAny,
          dAny,
          dAny,
          dAny,
          dAny,
          dAny,
          dAny,
          dAny,
          dAny,
          dAny,
          dAny,
          dAny,
          dAny,
          dAny,
          dAny,
          dAny,
          dAny,
          dAny,
          dAny,
          dVal (.bool true)]
          (by kernel_rfl) (by kernel_rfl) (by kernel_rfl) ⟨?_, ?_, ?_, ?_, ?_, ?_, ?_, ?_, ?_, ?_, ?_, ?_, ?_, ?_, ?_, ?_, ?_, ?_, ?_, ?_, ?_, ?_, ?_, ?_, ?_, ?_, ?_, ?_, ?_, trivial⟩ ?_
        · intro a vs W hg hd hv ho K hK
          have e5 : a.tmps[5]? = some (.pointer (some ⟨m4, 0, none⟩)) := ho 5 (by kernel_rfl)
          rw [if_pos (by rfl)]
          go_simp
          exact hK _ _ rfl (Gr.refl _) (fun h => by cases h)
        · intro a vs W hg hd hv ho K hK
          have e119 : a.tmps[119]? = some (.pointer (some ⟨m4, 7, none⟩)) := (hv 0 _ 119 rfl rfl).trans (congrArg some (hd 0 (by kernel_rfl)))
          obtain ⟨c, -⟩ := (hg.blk d4).facts
          rw [if_pos (by rfl)]
          go_simp
          exact hK _ _ rfl (Gr.refl _) (fun h => by cases h)
        · intro a vs W hg hd hv ho K hK
          have e120 : a.tmps[120]? = some (.bool false) := (hv 1 _ 120 rfl rfl).trans (congrArg some (hd 1 (by kernel_rfl)))
          rw [if_pos (by rfl)]
          go_simp
          exact hK _ _ rfl (Gr.refl _) (fun h => by cases h)
        · intro a vs W hg hd hv ho K hK
          have e121 : a.tmps[121]? = some (.bool true) := (hv 2 _ 121 rfl rfl).trans (congrArg some (hd 2 (by kernel_rfl)))
          rw [if_pos (by rfl)]
          go_simp
          exact hK _ _ rfl (Gr.refl _) (fun h => by cases h)
        · intro a vs W hg hd hv ho K hK
          have e122 : a.tmps[122]? = some (.bool true) := (hv 3 _ 122 rfl rfl).trans (congrArg some (hd 3 (by kernel_rfl)))
          rw [if_neg (by simp [Region.wanted, yielded, e122])]
          exact hK _ _ trivial (Gr.refl _) (fun h => by cases h)
        · intro a vs W hg hd hv ho K hK
          have e122 : a.tmps[122]? = some (.bool true) := (hv 3 _ 122 rfl rfl).trans (congrArg some (hd 3 (by kernel_rfl)))
          rw [if_neg (by simp [Region.wanted, yielded, e122])]
          exact hK _ _ trivial (Gr.refl _) (fun h => by cases h)
        · intro a vs W hg hd hv ho K hK
          have e122 : a.tmps[122]? = some (.bool true) := (hv 3 _ 122 rfl rfl).trans (congrArg some (hd 3 (by kernel_rfl)))
          rw [if_neg (by simp [Region.wanted, yielded, e122])]
          exact hK _ _ trivial (Gr.refl _) (fun h => by cases h)
        · intro a vs W hg hd hv ho K hK
          have e122 : a.tmps[122]? = some (.bool true) := (hv 3 _ 122 rfl rfl).trans (congrArg some (hd 3 (by kernel_rfl)))
          rw [if_pos (by rfl)]
          go_simp
          exact hK _ _ rfl (Gr.refl _) (fun h => by cases h)
        · intro a vs W hg hd hv ho K hK
          have e126 : a.tmps[126]? = some (.bool true) := (hv 7 _ 126 rfl rfl).trans (congrArg some (hd 7 (by kernel_rfl)))
          rw [if_pos (by rfl)]
          go_simp
          exact hK _ _ rfl (Gr.refl _) (fun h => by cases h)
        · intro a vs W hg hd hv ho K hK
          have e127 : a.tmps[127]? = some (.bool true) := (hv 8 _ 127 rfl rfl).trans (congrArg some (hd 8 (by kernel_rfl)))
          rw [if_neg (by simp [Region.wanted, yielded, e127])]
          exact hK _ _ trivial (Gr.refl _) (fun h => by cases h)
        · intro a vs W hg hd hv ho K hK
          have e127 : a.tmps[127]? = some (.bool true) := (hv 8 _ 127 rfl rfl).trans (congrArg some (hd 8 (by kernel_rfl)))
          rw [if_neg (by simp [Region.wanted, yielded, e127])]
          exact hK _ _ trivial (Gr.refl _) (fun h => by cases h)
        · intro a vs W hg hd hv ho K hK
          have e127 : a.tmps[127]? = some (.bool true) := (hv 8 _ 127 rfl rfl).trans (congrArg some (hd 8 (by kernel_rfl)))
          rw [if_neg (by simp [Region.wanted, yielded, e127])]
          exact hK _ _ trivial (Gr.refl _) (fun h => by cases h)
        · intro a vs W hg hd hv ho K hK
          have e127 : a.tmps[127]? = some (.bool true) := (hv 8 _ 127 rfl rfl).trans (congrArg some (hd 8 (by kernel_rfl)))
          rw [if_neg (by simp [Region.wanted, yielded, e127])]
          exact hK _ _ trivial (Gr.refl _) (fun h => by cases h)
        · intro a vs W hg hd hv ho K hK
          have e127 : a.tmps[127]? = some (.bool true) := (hv 8 _ 127 rfl rfl).trans (congrArg some (hd 8 (by kernel_rfl)))
          rw [if_neg (by simp [Region.wanted, yielded, e127])]
          exact hK _ _ trivial (Gr.refl _) (fun h => by cases h)
        · intro a vs W hg hd hv ho K hK
          have e127 : a.tmps[127]? = some (.bool true) := (hv 8 _ 127 rfl rfl).trans (congrArg some (hd 8 (by kernel_rfl)))
          rw [if_neg (by simp [Region.wanted, yielded, e127])]
          exact hK _ _ trivial (Gr.refl _) (fun h => by cases h)
        · intro a vs W hg hd hv ho K hK
          have e127 : a.tmps[127]? = some (.bool true) := (hv 8 _ 127 rfl rfl).trans (congrArg some (hd 8 (by kernel_rfl)))
          rw [if_neg (by simp [Region.wanted, yielded, e127])]
          exact hK _ _ trivial (Gr.refl _) (fun h => by cases h)
        · intro a vs W hg hd hv ho K hK
          have e127 : a.tmps[127]? = some (.bool true) := (hv 8 _ 127 rfl rfl).trans (congrArg some (hd 8 (by kernel_rfl)))
          rw [if_neg (by simp [Region.wanted, yielded, e127])]
          exact hK _ _ trivial (Gr.refl _) (fun h => by cases h)
        · intro a vs W hg hd hv ho K hK
          have e127 : a.tmps[127]? = some (.bool true) := (hv 8 _ 127 rfl rfl).trans (congrArg some (hd 8 (by kernel_rfl)))
          rw [if_neg (by simp [Region.wanted, yielded, e127])]
          exact hK _ _ trivial (Gr.refl _) (fun h => by cases h)
        · intro a vs W hg hd hv ho K hK
          have e127 : a.tmps[127]? = some (.bool true) := (hv 8 _ 127 rfl rfl).trans (congrArg some (hd 8 (by kernel_rfl)))
          rw [if_neg (by simp [Region.wanted, yielded, e127])]
          exact hK _ _ trivial (Gr.refl _) (fun h => by cases h)
        · intro a vs W hg hd hv ho K hK
          have e127 : a.tmps[127]? = some (.bool true) := (hv 8 _ 127 rfl rfl).trans (congrArg some (hd 8 (by kernel_rfl)))
          rw [if_neg (by simp [Region.wanted, yielded, e127])]
          exact hK _ _ trivial (Gr.refl _) (fun h => by cases h)
        · intro a vs W hg hd hv ho K hK
          have e127 : a.tmps[127]? = some (.bool true) := (hv 8 _ 127 rfl rfl).trans (congrArg some (hd 8 (by kernel_rfl)))
          rw [if_neg (by simp [Region.wanted, yielded, e127])]
          exact hK _ _ trivial (Gr.refl _) (fun h => by cases h)
        · intro a vs W hg hd hv ho K hK
          have e127 : a.tmps[127]? = some (.bool true) := (hv 8 _ 127 rfl rfl).trans (congrArg some (hd 8 (by kernel_rfl)))
          rw [if_neg (by simp [Region.wanted, yielded, e127])]
          exact hK _ _ trivial (Gr.refl _) (fun h => by cases h)
        · intro a vs W hg hd hv ho K hK
          have e127 : a.tmps[127]? = some (.bool true) := (hv 8 _ 127 rfl rfl).trans (congrArg some (hd 8 (by kernel_rfl)))
          rw [if_neg (by simp [Region.wanted, yielded, e127])]
          exact hK _ _ trivial (Gr.refl _) (fun h => by cases h)
        · intro a vs W hg hd hv ho K hK
          have e127 : a.tmps[127]? = some (.bool true) := (hv 8 _ 127 rfl rfl).trans (congrArg some (hd 8 (by kernel_rfl)))
          rw [if_neg (by simp [Region.wanted, yielded, e127])]
          exact hK _ _ trivial (Gr.refl _) (fun h => by cases h)
        · intro a vs W hg hd hv ho K hK
          have e127 : a.tmps[127]? = some (.bool true) := (hv 8 _ 127 rfl rfl).trans (congrArg some (hd 8 (by kernel_rfl)))
          rw [if_neg (by simp [Region.wanted, yielded, e127])]
          exact hK _ _ trivial (Gr.refl _) (fun h => by cases h)
        · intro a vs W hg hd hv ho K hK
          have e127 : a.tmps[127]? = some (.bool true) := (hv 8 _ 127 rfl rfl).trans (congrArg some (hd 8 (by kernel_rfl)))
          rw [if_neg (by simp [Region.wanted, yielded, e127])]
          exact hK _ _ trivial (Gr.refl _) (fun h => by cases h)
        · intro a vs W hg hd hv ho K hK
          have e127 : a.tmps[127]? = some (.bool true) := (hv 8 _ 127 rfl rfl).trans (congrArg some (hd 8 (by kernel_rfl)))
          rw [if_neg (by simp [Region.wanted, yielded, e127])]
          exact hK _ _ trivial (Gr.refl _) (fun h => by cases h)
        · intro a vs W hg hd hv ho K hK
          have e127 : a.tmps[127]? = some (.bool true) := (hv 8 _ 127 rfl rfl).trans (congrArg some (hd 8 (by kernel_rfl)))
          rw [if_neg (by simp [Region.wanted, yielded, e127])]
          exact hK _ _ trivial (Gr.refl _) (fun h => by cases h)
        · intro a vs W hg hd hv ho K hK
          have e127 : a.tmps[127]? = some (.bool true) := (hv 8 _ 127 rfl rfl).trans (congrArg some (hd 8 (by kernel_rfl)))
          rw [if_pos (by rfl)]
          go_simp
          exact hK _ _ rfl (Gr.refl _) (fun h => by cases h)
        intro vs W hg hφ hne
        have f0 : vs 0 = .pointer (some ⟨m4, 7, none⟩) := hφ 0 (by omega)
        have f1 : vs 1 = .bool false := hφ 1 (by omega)
        have f2 : vs 2 = .bool true := hφ 2 (by omega)
        have f3 : vs 3 = .bool true := hφ 3 (by omega)
        have f7 : vs 7 = .bool true := hφ 7 (by omega)
        have f8 : vs 8 = .bool true := hφ 8 (by omega)
        have f28 : vs 28 = .bool true := hφ 28 (by omega)
        simp only [List.take_succ_cons, List.take_zero, List.drop_succ_cons, List.drop_zero, putAll, Act.put, List.setIfInBounds_toArray, List.set_cons_zero, List.set_cons_succ, f0, f1, f2, f3, f7, f8, f28]
        clear hφ hne f0 f1 f2 f3 f7 f8 f28
        go_wp2
        go_ret
        exact ⟨rfl, HG.out.trans hg⟩
      · obtain rfl := h1 rfl
        obtain rfl := h2 rfl
        clear h1 h2 h3
        clear h4
        go_wp2_with (first | (go_at_call 22; ((with_reducible refine (HM.out _ R5.out).mono ?_); rintro e wn ⟨rfl, hgn⟩; have R5 := Lib.hid (Rooms.gr R5.out hgn); have HG := Lib.hid (Gr.trans HG.out hgn); have d4 := Gr.blk hgn d4; have d5 := Gr.blk hgn d5; clear a4 a5; obtain ⟨a4, -⟩ := d4.facts; obtain ⟨a5, -⟩ := d5.facts)) | (go_at_call 20; ((with_reducible refine (HO.out _ R5.out).mono ?_); rintro e wn ⟨rfl, hgn⟩; have R5 := Lib.hid (Rooms.gr R5.out hgn); have HG := Lib.hid (Gr.trans HG.out hgn); have d4 := Gr.blk hgn d4; have d5 := Gr.blk hgn d5; clear a4 a5; obtain ⟨a4, -⟩ := d4.facts; obtain ⟨a5, -⟩ := d5.facts)))
        refine wp_region_phi 29 [dVal (.pointer (some ⟨m4, 7, none⟩)),
          dVal (.bool false),
          dVal (.bool true),
          dVal (.bool true),
          dAny,
          dAny,
          dAny,
          dVal (.bool true),
          dVal (.bool true),
          dAny,
          dAny,
          dAny,
          dAny,
          dAny,
          dAny,
          dAny,
          dAny,
          dAny,
          dAny,
          dAny,
          dAny,
          dAny,
          dAny,
          dAny,
          dAny,
          dAny,
          dAny,
          dAny,
          dVal (.bool true)]
          (by kernel_rfl) (by kernel_rfl) (by kernel_rfl) ⟨?_, ?_, ?_, ?_, ?_, ?_, ?_, ?_, ?_, ?_, ?_, ?_, ?_, ?_, ?_, ?_, ?_, ?_, ?_, ?_, ?_, ?_, ?_, ?_, ?_, ?_, ?_, ?_, ?_, trivial⟩ ?_
        · intro a vs W hg hd hv ho K hK
          have e5 : a.tmps[5]? = some (.pointer (some ⟨m4, 0, none⟩)) := ho 5 (by kernel_rfl)
          rw [if_pos (by rfl)]
          go_simp
          exact hK _ _ rfl (Gr.refl _) (fun h => by cases h)
        · intro a vs W hg hd hv ho K hK
          have e119 : a.tmps[119]? = some (.pointer (some ⟨m4, 7, none⟩)) := (hv 0 _ 119 rfl rfl).trans (congrArg some (hd 0 (by kernel_rfl)))
          obtain ⟨c, -⟩ := (hg.blk d4).facts
          rw [if_pos (by rfl)]
          go_simp
          exact hK _ _ rfl (Gr.refl _) (fun h => by cases h)
        · intro a vs W hg hd hv ho K hK
          have e120 : a.tmps[120]? = some (.bool false) := (hv 1 _ 120 rfl rfl).trans (congrArg some (hd 1 (by kernel_rfl)))
          rw [if_pos (by rfl)]
          go_simp
          exact hK _ _ rfl (Gr.refl _) (fun h => by cases h)
        · intro a vs W hg hd hv ho K hK
          have e121 : a.tmps[121]? = some (.bool true) := (hv 2 _ 121 rfl rfl).trans (congrArg some (hd 2 (by kernel_rfl)))
          rw [if_pos (by rfl)]
          go_simp
          exact hK _ _ rfl (Gr.refl _) (fun h => by cases h)
        · intro a vs W hg hd hv ho K hK
          have e122 : a.tmps[122]? = some (.bool true) := (hv 3 _ 122 rfl rfl).trans (congrArg some (hd 3 (by kernel_rfl)))
          rw [if_neg (by simp [Region.wanted, yielded, e122])]
          exact hK _ _ trivial (Gr.refl _) (fun h => by cases h)
        · intro a vs W hg hd hv ho K hK
          have e122 : a.tmps[122]? = some (.bool true) := (hv 3 _ 122 rfl rfl).trans (congrArg some (hd 3 (by kernel_rfl)))
          rw [if_neg (by simp [Region.wanted, yielded, e122])]
          exact hK _ _ trivial (Gr.refl _) (fun h => by cases h)
        · intro a vs W hg hd hv ho K hK
          have e122 : a.tmps[122]? = some (.bool true) := (hv 3 _ 122 rfl rfl).trans (congrArg some (hd 3 (by kernel_rfl)))
          rw [if_neg (by simp [Region.wanted, yielded, e122])]
          exact hK _ _ trivial (Gr.refl _) (fun h => by cases h)
        · intro a vs W hg hd hv ho K hK
          have e122 : a.tmps[122]? = some (.bool true) := (hv 3 _ 122 rfl rfl).trans (congrArg some (hd 3 (by kernel_rfl)))
          rw [if_pos (by rfl)]
          go_simp
          exact hK _ _ rfl (Gr.refl _) (fun h => by cases h)
        · intro a vs W hg hd hv ho K hK
          have e126 : a.tmps[126]? = some (.bool true) := (hv 7 _ 126 rfl rfl).trans (congrArg some (hd 7 (by kernel_rfl)))
          rw [if_pos (by rfl)]
          go_simp
          exact hK _ _ rfl (Gr.refl _) (fun h => by cases h)
        · intro a vs W hg hd hv ho K hK
          have e127 : a.tmps[127]? = some (.bool true) := (hv 8 _ 127 rfl rfl).trans (congrArg some (hd 8 (by kernel_rfl)))
          rw [if_neg (by simp [Region.wanted, yielded, e127])]
          exact hK _ _ trivial (Gr.refl _) (fun h => by cases h)
        · intro a vs W hg hd hv ho K hK
          have e127 : a.tmps[127]? = some (.bool true) := (hv 8 _ 127 rfl rfl).trans (congrArg some (hd 8 (by kernel_rfl)))
          rw [if_neg (by simp [Region.wanted, yielded, e127])]
          exact hK _ _ trivial (Gr.refl _) (fun h => by cases h)
        · intro a vs W hg hd hv ho K hK
          have e127 : a.tmps[127]? = some (.bool true) := (hv 8 _ 127 rfl rfl).trans (congrArg some (hd 8 (by kernel_rfl)))
          rw [if_neg (by simp [Region.wanted, yielded, e127])]
          exact hK _ _ trivial (Gr.refl _) (fun h => by cases h)
        · intro a vs W hg hd hv ho K hK
          have e127 : a.tmps[127]? = some (.bool true) := (hv 8 _ 127 rfl rfl).trans (congrArg some (hd 8 (by kernel_rfl)))
          rw [if_neg (by simp [Region.wanted, yielded, e127])]
          exact hK _ _ trivial (Gr.refl _) (fun h => by cases h)
        · intro a vs W hg hd hv ho K hK
          have e127 : a.tmps[127]? = some (.bool true) := (hv 8 _ 127 rfl rfl).trans (congrArg some (hd 8 (by kernel_rfl)))
          rw [if_neg (by simp [Region.wanted, yielded, e127])]
          exact hK _ _ trivial (Gr.refl _) (fun h => by cases h)
        · intro a vs W hg hd hv ho K hK
          have e127 : a.tmps[127]? = some (.bool true) := (hv 8 _ 127 rfl rfl).trans (congrArg some (hd 8 (by kernel_rfl)))
          rw [if_neg (by simp [Region.wanted, yielded, e127])]
          exact hK _ _ trivial (Gr.refl _) (fun h => by cases h)
        · intro a vs W hg hd hv ho K hK
          have e127 : a.tmps[127]? = some (.bool true) := (hv 8 _ 127 rfl rfl).trans (congrArg some (hd 8 (by kernel_rfl)))
          rw [if_neg (by simp [Region.wanted, yielded, e127])]
          exact hK _ _ trivial (Gr.refl _) (fun h => by cases h)
        · intro a vs W hg hd hv ho K hK
          have e127 : a.tmps[127]? = some (.bool true) := (hv 8 _ 127 rfl rfl).trans (congrArg some (hd 8 (by kernel_rfl)))
          rw [if_neg (by simp [Region.wanted, yielded, e127])]
          exact hK _ _ trivial (Gr.refl _) (fun h => by cases h)
        · intro a vs W hg hd hv ho K hK
          have e127 : a.tmps[127]? = some (.bool true) := (hv 8 _ 127 rfl rfl).trans (congrArg some (hd 8 (by kernel_rfl)))
          rw [if_neg (by simp [Region.wanted, yielded, e127])]
          exact hK _ _ trivial (Gr.refl _) (fun h => by cases h)
        · intro a vs W hg hd hv ho K hK
          have e127 : a.tmps[127]? = some (.bool true) := (hv 8 _ 127 rfl rfl).trans (congrArg some (hd 8 (by kernel_rfl)))
          rw [if_neg (by simp [Region.wanted, yielded, e127])]
          exact hK _ _ trivial (Gr.refl _) (fun h => by cases h)
        · intro a vs W hg hd hv ho K hK
          have e127 : a.tmps[127]? = some (.bool true) := (hv 8 _ 127 rfl rfl).trans (congrArg some (hd 8 (by kernel_rfl)))
          rw [if_neg (by simp [Region.wanted, yielded, e127])]
          exact hK _ _ trivial (Gr.refl _) (fun h => by cases h)
        · intro a vs W hg hd hv ho K hK
          have e127 : a.tmps[127]? = some (.bool true) := (hv 8 _ 127 rfl rfl).trans (congrArg some (hd 8 (by kernel_rfl)))
          rw [if_neg (by simp [Region.wanted, yielded, e127])]
          exact hK _ _ trivial (Gr.refl _) (fun h => by cases h)
        · intro a vs W hg hd hv ho K hK
          have e127 : a.tmps[127]? = some (.bool true) := (hv 8 _ 127 rfl rfl).trans (congrArg some (hd 8 (by kernel_rfl)))
          rw [if_neg (by simp [Region.wanted, yielded, e127])]
          exact hK _ _ trivial (Gr.refl _) (fun h => by cases h)
        · intro a vs W hg hd hv ho K hK
          have e127 : a.tmps[127]? = some (.bool true) := (hv 8 _ 127 rfl rfl).trans (congrArg some (hd 8 (by kernel_rfl)))
          rw [if_neg (by simp [Region.wanted, yielded, e127])]
          exact hK _ _ trivial (Gr.refl _) (fun h => by cases h)
        · intro a vs W hg hd hv ho K hK
          have e127 : a.tmps[127]? = some (.bool true) := (hv 8 _ 127 rfl rfl).trans (congrArg some (hd 8 (by kernel_rfl)))
          rw [if_neg (by simp [Region.wanted, yielded, e127])]
          exact hK _ _ trivial (Gr.refl _) (fun h => by cases h)
        · intro a vs W hg hd hv ho K hK
          have e127 : a.tmps[127]? = some (.bool true) := (hv 8 _ 127 rfl rfl).trans (congrArg some (hd 8 (by kernel_rfl)))
          rw [if_neg (by simp [Region.wanted, yielded, e127])]
          exact hK _ _ trivial (Gr.refl _) (fun h => by cases h)
        · intro a vs W hg hd hv ho K hK
          have e127 : a.tmps[127]? = some (.bool true) := (hv 8 _ 127 rfl rfl).trans (congrArg some (hd 8 (by kernel_rfl)))
          rw [if_neg (by simp [Region.wanted, yielded, e127])]
          exact hK _ _ trivial (Gr.refl _) (fun h => by cases h)
        · intro a vs W hg hd hv ho K hK
          have e127 : a.tmps[127]? = some (.bool true) := (hv 8 _ 127 rfl rfl).trans (congrArg some (hd 8 (by kernel_rfl)))
          rw [if_neg (by simp [Region.wanted, yielded, e127])]
          exact hK _ _ trivial (Gr.refl _) (fun h => by cases h)
        · intro a vs W hg hd hv ho K hK
          have e127 : a.tmps[127]? = some (.bool true) := (hv 8 _ 127 rfl rfl).trans (congrArg some (hd 8 (by kernel_rfl)))
          rw [if_neg (by simp [Region.wanted, yielded, e127])]
          exact hK _ _ trivial (Gr.refl _) (fun h => by cases h)
        · intro a vs W hg hd hv ho K hK
          have e127 : a.tmps[127]? = some (.bool true) := (hv 8 _ 127 rfl rfl).trans (congrArg some (hd 8 (by kernel_rfl)))
          rw [if_pos (by rfl)]
          go_simp
          exact hK _ _ rfl (Gr.refl _) (fun h => by cases h)
        intro vs W hg hφ hne
        have f0 : vs 0 = .pointer (some ⟨m4, 7, none⟩) := hφ 0 (by omega)
        have f1 : vs 1 = .bool false := hφ 1 (by omega)
        have f2 : vs 2 = .bool true := hφ 2 (by omega)
        have f3 : vs 3 = .bool true := hφ 3 (by omega)
        have f7 : vs 7 = .bool true := hφ 7 (by omega)
        have f8 : vs 8 = .bool true := hφ 8 (by omega)
        have f28 : vs 28 = .bool true := hφ 28 (by omega)
        simp only [List.take_succ_cons, List.take_zero, List.drop_succ_cons, List.drop_zero, putAll, Act.put, List.setIfInBounds_toArray, List.set_cons_zero, List.set_cons_succ, f0, f1, f2, f3, f7, f8, f28]
        clear hφ hne f0 f1 f2 f3 f7 f8 f28
        go_wp2
        go_ret
        exact ⟨rfl, HG.out.trans hg⟩
      · clear h1 h2 h3
        clear h4
        go_wp2_with (first | (go_at_call 22; ((with_reducible refine (HM.out _ R5.out).mono ?_); rintro e wn ⟨rfl, hgn⟩; have R5 := Lib.hid (Rooms.gr R5.out hgn); have HG := Lib.hid (Gr.trans HG.out hgn); have d4 := Gr.blk hgn d4; have d5 := Gr.blk hgn d5; clear a4 a5; obtain ⟨a4, -⟩ := d4.facts; obtain ⟨a5, -⟩ := d5.facts)) | (go_at_call 20; ((with_reducible refine (HO.out _ R5.out).mono ?_); rintro e wn ⟨rfl, hgn⟩; have R5 := Lib.hid (Rooms.gr R5.out hgn); have HG := Lib.hid (Gr.trans HG.out hgn); have d4 := Gr.blk hgn d4; have d5 := Gr.blk hgn d5; clear a4 a5; obtain ⟨a4, -⟩ := d4.facts; obtain ⟨a5, -⟩ := d5.facts)))
        refine wp_region_phi 29 [dVal (.pointer (some ⟨m4, 7, none⟩)),
          dVal (.bool true),
          dVal (.bool false),
          dVal (.bool false),
          dVal (.pointer (some ⟨m5, 7, none⟩)),
          dVal (.bool false),
          dVal (.bool true),
          dVal (.bool true),
          dVal (.bool true),
          dAny,
          dAny,
          dAny,
          dAny,
          dAny,
          dAny,
          dAny,
          dAny,
          dAny,
          dAny,
          dAny,
          dAny,
          dAny,
          dAny,
          dAny,
          dAny,
          dAny,
          dAny,
          dAny,
          dVal (.bool true)]
          (by kernel_rfl) (by kernel_rfl) (by kernel_rfl) ⟨?_, ?_, ?_, ?_, ?_, ?_, ?_, ?_, ?_, ?_, ?_, ?_, ?_, ?_, ?_, ?_, ?_, ?_, ?_, ?_, ?_, ?_, ?_, ?_, ?_, ?_, ?_, ?_, ?_, trivial⟩ ?_
        · intro a vs W hg hd hv ho K hK
          have e5 : a.tmps[5]? = some (.pointer (some ⟨m4, 0, none⟩)) := ho 5 (by kernel_rfl)
          rw [if_pos (by rfl)]
          go_simp
          exact hK _ _ rfl (Gr.refl _) (fun h => by cases h)
        · intro a vs W hg hd hv ho K hK
          have e119 : a.tmps[119]? = some (.pointer (some ⟨m4, 7, none⟩)) := (hv 0 _ 119 rfl rfl).trans (congrArg some (hd 0 (by kernel_rfl)))
          obtain ⟨c, -⟩ := (hg.blk d4).facts
          rw [if_pos (by rfl)]
          go_simp
          exact hK _ _ rfl (Gr.refl _) (fun h => by cases h)
        · intro a vs W hg hd hv ho K hK
          have e120 : a.tmps[120]? = some (.bool true) := (hv 1 _ 120 rfl rfl).trans (congrArg some (hd 1 (by kernel_rfl)))
          rw [if_pos (by rfl)]
          go_simp
          exact hK _ _ rfl (Gr.refl _) (fun h => by cases h)
        · intro a vs W hg hd hv ho K hK
          have e121 : a.tmps[121]? = some (.bool false) := (hv 2 _ 121 rfl rfl).trans (congrArg some (hd 2 (by kernel_rfl)))
          rw [if_pos (by rfl)]
          go_simp
          exact hK _ _ rfl (Gr.refl _) (fun h => by cases h)
        · intro a vs W hg hd hv ho K hK
          have e122 : a.tmps[122]? = some (.bool false) := (hv 3 _ 122 rfl rfl).trans (congrArg some (hd 3 (by kernel_rfl)))
          have e6 : a.tmps[6]? = some (.pointer (some ⟨m5, 0, none⟩)) := ho 6 (by kernel_rfl)
          rw [if_pos (by simp [Region.wanted, yielded, e122])]
          go_simp
          exact hK _ _ rfl (Gr.refl _) (fun h => by cases h)
        · intro a vs W hg hd hv ho K hK
          have e122 : a.tmps[122]? = some (.bool false) := (hv 3 _ 122 rfl rfl).trans (congrArg some (hd 3 (by kernel_rfl)))
          have e123 : a.tmps[123]? = some (.pointer (some ⟨m5, 7, none⟩)) := (hv 4 _ 123 rfl rfl).trans (congrArg some (hd 4 (by kernel_rfl)))
          obtain ⟨c, -⟩ := (hg.blk d5).facts
          rw [if_pos (by simp [Region.wanted, yielded, e122])]
          go_simp
          exact hK _ _ rfl (Gr.refl _) (fun h => by cases h)
        · intro a vs W hg hd hv ho K hK
          have e122 : a.tmps[122]? = some (.bool false) := (hv 3 _ 122 rfl rfl).trans (congrArg some (hd 3 (by kernel_rfl)))
          have e124 : a.tmps[124]? = some (.bool false) := (hv 5 _ 124 rfl rfl).trans (congrArg some (hd 5 (by kernel_rfl)))
          rw [if_pos (by simp [Region.wanted, yielded, e122])]
          go_simp
          exact hK _ _ rfl (Gr.refl _) (fun h => by cases h)
        · intro a vs W hg hd hv ho K hK
          have e122 : a.tmps[122]? = some (.bool false) := (hv 3 _ 122 rfl rfl).trans (congrArg some (hd 3 (by kernel_rfl)))
          have e125 : a.tmps[125]? = some (.bool true) := (hv 6 _ 125 rfl rfl).trans (congrArg some (hd 6 (by kernel_rfl)))
          rw [if_pos (by rfl)]
          go_simp
          exact hK _ _ rfl (Gr.refl _) (fun h => by cases h)
        · intro a vs W hg hd hv ho K hK
          have e126 : a.tmps[126]? = some (.bool true) := (hv 7 _ 126 rfl rfl).trans (congrArg some (hd 7 (by kernel_rfl)))
          rw [if_pos (by rfl)]
          go_simp
          exact hK _ _ rfl (Gr.refl _) (fun h => by cases h)
        · intro a vs W hg hd hv ho K hK
          have e127 : a.tmps[127]? = some (.bool true) := (hv 8 _ 127 rfl rfl).trans (congrArg some (hd 8 (by kernel_rfl)))
          rw [if_neg (by simp [Region.wanted, yielded, e127])]
          exact hK _ _ trivial (Gr.refl _) (fun h => by cases h)
        · intro a vs W hg hd hv ho K hK
          have e127 : a.tmps[127]? = some (.bool true) := (hv 8 _ 127 rfl rfl).trans (congrArg some (hd 8 (by kernel_rfl)))
          rw [if_neg (by simp [Region.wanted, yielded, e127])]
          exact hK _ _ trivial (Gr.refl _) (fun h => by cases h)
        · intro a vs W hg hd hv ho K hK
          have e127 : a.tmps[127]? = some (.bool true) := (hv 8 _ 127 rfl rfl).trans (congrArg some (hd 8 (by kernel_rfl)))
          rw [if_neg (by simp [Region.wanted, yielded, e127])]
          exact hK _ _ trivial (Gr.refl _) (fun h => by cases h)
        · intro a vs W hg hd hv ho K hK
          have e127 : a.tmps[127]? = some (.bool true) := (hv 8 _ 127 rfl rfl).trans (congrArg some (hd 8 (by kernel_rfl)))
          rw [if_neg (by simp [Region.wanted, yielded, e127])]
          exact hK _ _ trivial (Gr.refl _) (fun h => by cases h)
        · intro a vs W hg hd hv ho K hK
          have e127 : a.tmps[127]? = some (.bool true) := (hv 8 _ 127 rfl rfl).trans (congrArg some (hd 8 (by kernel_rfl)))
          rw [if_neg (by simp [Region.wanted, yielded, e127])]
          exact hK _ _ trivial (Gr.refl _) (fun h => by cases h)
        · intro a vs W hg hd hv ho K hK
          have e127 : a.tmps[127]? = some (.bool true) := (hv 8 _ 127 rfl rfl).trans (congrArg some (hd 8 (by kernel_rfl)))
          rw [if_neg (by simp [Region.wanted, yielded, e127])]
          exact hK _ _ trivial (Gr.refl _) (fun h => by cases h)
        · intro a vs W hg hd hv ho K hK
          have e127 : a.tmps[127]? = some (.bool true) := (hv 8 _ 127 rfl rfl).trans (congrArg some (hd 8 (by kernel_rfl)))
          rw [if_neg (by simp [Region.wanted, yielded, e127])]
          exact hK _ _ trivial (Gr.refl _) (fun h => by cases h)
        · intro a vs W hg hd hv ho K hK
          have e127 : a.tmps[127]? = some (.bool true) := (hv 8 _ 127 rfl rfl).trans (congrArg some (hd 8 (by kernel_rfl)))
          rw [if_neg (by simp [Region.wanted, yielded, e127])]
          exact hK _ _ trivial (Gr.refl _) (fun h => by cases h)
        · intro a vs W hg hd hv ho K hK
          have e127 : a.tmps[127]? = some (.bool true) := (hv 8 _ 127 rfl rfl).trans (congrArg some (hd 8 (by kernel_rfl)))
          rw [if_neg (by simp [Region.wanted, yielded, e127])]
          exact hK _ _ trivial (Gr.refl _) (fun h => by cases h)
        · intro a vs W hg hd hv ho K hK
          have e127 : a.tmps[127]? = some (.bool true) := (hv 8 _ 127 rfl rfl).trans (congrArg some (hd 8 (by kernel_rfl)))
          rw [if_neg (by simp [Region.wanted, yielded, e127])]
          exact hK _ _ trivial (Gr.refl _) (fun h => by cases h)
        · intro a vs W hg hd hv ho K hK
          have e127 : a.tmps[127]? = some (.bool true) := (hv 8 _ 127 rfl rfl).trans (congrArg some (hd 8 (by kernel_rfl)))
          rw [if_neg (by simp [Region.wanted, yielded, e127])]
          exact hK _ _ trivial (Gr.refl _) (fun h => by cases h)
        · intro a vs W hg hd hv ho K hK
          have e127 : a.tmps[127]? = some (.bool true) := (hv 8 _ 127 rfl rfl).trans (congrArg some (hd 8 (by kernel_rfl)))
          rw [if_neg (by simp [Region.wanted, yielded, e127])]
          exact hK _ _ trivial (Gr.refl _) (fun h => by cases h)
        · intro a vs W hg hd hv ho K hK
          have e127 : a.tmps[127]? = some (.bool true) := (hv 8 _ 127 rfl rfl).trans (congrArg some (hd 8 (by kernel_rfl)))
          rw [if_neg (by simp [Region.wanted, yielded, e127])]
          exact hK _ _ trivial (Gr.refl _) (fun h => by cases h)
        · intro a vs W hg hd hv ho K hK
          have e127 : a.tmps[127]? = some (.bool true) := (hv 8 _ 127 rfl rfl).trans (congrArg some (hd 8 (by kernel_rfl)))
          rw [if_neg (by simp [Region.wanted, yielded, e127])]
          exact hK _ _ trivial (Gr.refl _) (fun h => by cases h)
        · intro a vs W hg hd hv ho K hK
          have e127 : a.tmps[127]? = some (.bool true) := (hv 8 _ 127 rfl rfl).trans (congrArg some (hd 8 (by kernel_rfl)))
          rw [if_neg (by simp [Region.wanted, yielded, e127])]
          exact hK _ _ trivial (Gr.refl _) (fun h => by cases h)
        · intro a vs W hg hd hv ho K hK
          have e127 : a.tmps[127]? = some (.bool true) := (hv 8 _ 127 rfl rfl).trans (congrArg some (hd 8 (by kernel_rfl)))
          rw [if_neg (by simp [Region.wanted, yielded, e127])]
          exact hK _ _ trivial (Gr.refl _) (fun h => by cases h)
        · intro a vs W hg hd hv ho K hK
          have e127 : a.tmps[127]? = some (.bool true) := (hv 8 _ 127 rfl rfl).trans (congrArg some (hd 8 (by kernel_rfl)))
          rw [if_neg (by simp [Region.wanted, yielded, e127])]
          exact hK _ _ trivial (Gr.refl _) (fun h => by cases h)
        · intro a vs W hg hd hv ho K hK
          have e127 : a.tmps[127]? = some (.bool true) := (hv 8 _ 127 rfl rfl).trans (congrArg some (hd 8 (by kernel_rfl)))
          rw [if_neg (by simp [Region.wanted, yielded, e127])]
          exact hK _ _ trivial (Gr.refl _) (fun h => by cases h)
        · intro a vs W hg hd hv ho K hK
          have e127 : a.tmps[127]? = some (.bool true) := (hv 8 _ 127 rfl rfl).trans (congrArg some (hd 8 (by kernel_rfl)))
          rw [if_neg (by simp [Region.wanted, yielded, e127])]
          exact hK _ _ trivial (Gr.refl _) (fun h => by cases h)
        · intro a vs W hg hd hv ho K hK
          have e127 : a.tmps[127]? = some (.bool true) := (hv 8 _ 127 rfl rfl).trans (congrArg some (hd 8 (by kernel_rfl)))
          rw [if_pos (by rfl)]
          go_simp
          exact hK _ _ rfl (Gr.refl _) (fun h => by cases h)
        intro vs W hg hφ hne
        have f0 : vs 0 = .pointer (some ⟨m4, 7, none⟩) := hφ 0 (by omega)
        have f1 : vs 1 = .bool true := hφ 1 (by omega)
        have f2 : vs 2 = .bool false := hφ 2 (by omega)
        have f3 : vs 3 = .bool false := hφ 3 (by omega)
        have f4 : vs 4 = .pointer (some ⟨m5, 7, none⟩) := hφ 4 (by omega)
        have f5 : vs 5 = .bool false := hφ 5 (by omega)
        have f6 : vs 6 = .bool true := hφ 6 (by omega)
        have f7 : vs 7 = .bool true := hφ 7 (by omega)
        have f8 : vs 8 = .bool true := hφ 8 (by omega)
        have f28 : vs 28 = .bool true := hφ 28 (by omega)
        simp only [List.take_succ_cons, List.take_zero, List.drop_succ_cons, List.drop_zero, putAll, Act.put, List.setIfInBounds_toArray, List.set_cons_zero, List.set_cons_succ, f0, f1, f2, f3, f4, f5, f6, f7, f8, f28]
        clear hφ hne f0 f1 f2 f3 f4 f5 f6 f7 f8 f28
        go_wp2
        go_ret
        exact ⟨rfl, HG.out.trans hg⟩
      · obtain rfl := h2 rfl
        clear h1 h2 h3
        clear h4
        go_wp2_with (first | (go_at_call 22; ((with_reducible refine (HM.out _ R5.out).mono ?_); rintro e wn ⟨rfl, hgn⟩; have R5 := Lib.hid (Rooms.gr R5.out hgn); have HG := Lib.hid (Gr.trans HG.out hgn); have d4 := Gr.blk hgn d4; have d5 := Gr.blk hgn d5; clear a4 a5; obtain ⟨a4, -⟩ := d4.facts; obtain ⟨a5, -⟩ := d5.facts)) | (go_at_call 20; ((with_reducible refine (HO.out _ R5.out).mono ?_); rintro e wn ⟨rfl, hgn⟩; have R5 := Lib.hid (Rooms.gr R5.out hgn); have HG := Lib.hid (Gr.trans HG.out hgn); have d4 := Gr.blk hgn d4; have d5 := Gr.blk hgn d5; clear a4 a5; obtain ⟨a4, -⟩ := d4.facts; obtain ⟨a5, -⟩ := d5.facts)))
        refine wp_region_phi 29 [dVal (.pointer (some ⟨m4, 7, none⟩)),
          dVal (.bool true),
          dVal (.bool false),
          dVal (.bool false),
          dVal (.pointer (some ⟨m5, 7, none⟩)),
          dVal (.bool false),
          dVal (.bool true),
          dVal (.bool true),
          dVal (.bool true),
          dAny,
          dAny,
          dAny,
          dAny,
          dAny,
          dAny,
          dAny,
          dAny,
          dAny,
          dAny,
          dAny,
          dAny,
          dAny,
          dAny,
          dAny,
          dAny,
          dAny,
          dAny,
          dAny,
          dVal (.bool true)]
          (by kernel_rfl) (by kernel_rfl) (by kernel_rfl) ⟨?_, ?_, ?_, ?_, ?_, ?_, ?_, ?_, ?_, ?_, ?_, ?_, ?_, ?_, ?_, ?_, ?_, ?_, ?_, ?_, ?_, ?_, ?_, ?_, ?_, ?_, ?_, ?_, ?_, trivial⟩ ?_
        · intro a vs W hg hd hv ho K hK
          have e5 : a.tmps[5]? = some (.pointer (some ⟨m4, 0, none⟩)) := ho 5 (by kernel_rfl)
          rw [if_pos (by rfl)]
          go_simp
          exact hK _ _ rfl (Gr.refl _) (fun h => by cases h)
        · intro a vs W hg hd hv ho K hK
          have e119 : a.tmps[119]? = some (.pointer (some ⟨m4, 7, none⟩)) := (hv 0 _ 119 rfl rfl).trans (congrArg some (hd 0 (by kernel_rfl)))
          obtain ⟨c, -⟩ := (hg.blk d4).facts
          rw [if_pos (by rfl)]
          go_simp
          exact hK _ _ rfl (Gr.refl _) (fun h => by cases h)
        · intro a vs W hg hd hv ho K hK
          have e120 : a.tmps[120]? = some (.bool true) := (hv 1 _ 120 rfl rfl).trans (congrArg some (hd 1 (by kernel_rfl)))
          rw [if_pos (by rfl)]
          go_simp
          exact hK _ _ rfl (Gr.refl _) (fun h => by cases h)
        · intro a vs W hg hd hv ho K hK
          have e121 : a.tmps[121]? = some (.bool false) := (hv 2 _ 121 rfl rfl).trans (congrArg some (hd 2 (by kernel_rfl)))
          rw [if_pos (by rfl)]
          go_simp
          exact hK _ _ rfl (Gr.refl _) (fun h => by cases h)
        · intro a vs W hg hd hv ho K hK
          have e122 : a.tmps[122]? = some (.bool false) := (hv 3 _ 122 rfl rfl).trans (congrArg some (hd 3 (by kernel_rfl)))
          have e6 : a.tmps[6]? = some (.pointer (some ⟨m5, 0, none⟩)) := ho 6 (by kernel_rfl)
          rw [if_pos (by simp [Region.wanted, yielded, e122])]
          go_simp
          exact hK _ _ rfl (Gr.refl _) (fun h => by cases h)
        · intro a vs W hg hd hv ho K hK
          have e122 : a.tmps[122]? = some (.bool false) := (hv 3 _ 122 rfl rfl).trans (congrArg some (hd 3 (by kernel_rfl)))
          have e123 : a.tmps[123]? = some (.pointer (some ⟨m5, 7, none⟩)) := (hv 4 _ 123 rfl rfl).trans (congrArg some (hd 4 (by kernel_rfl)))
          obtain ⟨c, -⟩ := (hg.blk d5).facts
          rw [if_pos (by simp [Region.wanted, yielded, e122])]
          go_simp
          exact hK _ _ rfl (Gr.refl _) (fun h => by cases h)
        · intro a vs W hg hd hv ho K hK
          have e122 : a.tmps[122]? = some (.bool false) := (hv 3 _ 122 rfl rfl).trans (congrArg some (hd 3 (by kernel_rfl)))
          have e124 : a.tmps[124]? = some (.bool false) := (hv 5 _ 124 rfl rfl).trans (congrArg some (hd 5 (by kernel_rfl)))
          rw [if_pos (by simp [Region.wanted, yielded, e122])]
          go_simp
          exact hK _ _ rfl (Gr.refl _) (fun h => by cases h)
        · intro a vs W hg hd hv ho K hK
          have e122 : a.tmps[122]? = some (.bool false) := (hv 3 _ 122 rfl rfl).trans (congrArg some (hd 3 (by kernel_rfl)))
          have e125 : a.tmps[125]? = some (.bool true) := (hv 6 _ 125 rfl rfl).trans (congrArg some (hd 6 (by kernel_rfl)))
          rw [if_pos (by rfl)]
          go_simp
          exact hK _ _ rfl (Gr.refl _) (fun h => by cases h)
        · intro a vs W hg hd hv ho K hK
          have e126 : a.tmps[126]? = some (.bool true) := (hv 7 _ 126 rfl rfl).trans (congrArg some (hd 7 (by kernel_rfl)))
          rw [if_pos (by rfl)]
          go_simp
          exact hK _ _ rfl (Gr.refl _) (fun h => by cases h)
        · intro a vs W hg hd hv ho K hK
          have e127 : a.tmps[127]? = some (.bool true) := (hv 8 _ 127 rfl rfl).trans (congrArg some (hd 8 (by kernel_rfl)))
          rw [if_neg (by simp [Region.wanted, yielded, e127])]
          exact hK _ _ trivial (Gr.refl _) (fun h => by cases h)
        · intro a vs W hg hd hv ho K hK
          have e127 : a.tmps[127]? = some (.bool true) := (hv 8 _ 127 rfl rfl).trans (congrArg some (hd 8 (by kernel_rfl)))
          rw [if_neg (by simp [Region.wanted, yielded, e127])]
          exact hK _ _ trivial (Gr.refl _) (fun h => by cases h)
        · intro a vs W hg hd hv ho K hK
          have e127 : a.tmps[127]? = some (.bool true) := (hv 8 _ 127 rfl rfl).trans (congrArg some (hd 8 (by kernel_rfl)))
          rw [if_neg (by simp [Region.wanted, yielded, e127])]
          exact hK _ _ trivial (Gr.refl _) (fun h => by cases h)
        · intro a vs W hg hd hv ho K hK
          have e127 : a.tmps[127]? = some (.bool true) := (hv 8 _ 127 rfl rfl).trans (congrArg some (hd 8 (by kernel_rfl)))
          rw [if_neg (by simp [Region.wanted, yielded, e127])]
          exact hK _ _ trivial (Gr.refl _) (fun h => by cases h)
        · intro a vs W hg hd hv ho K hK
          have e127 : a.tmps[127]? = some (.bool true) := (hv 8 _ 127 rfl rfl).trans (congrArg some (hd 8 (by kernel_rfl)))
          rw [if_neg (by simp [Region.wanted, yielded, e127])]
          exact hK _ _ trivial (Gr.refl _) (fun h => by cases h)
        · intro a vs W hg hd hv ho K hK
          have e127 : a.tmps[127]? = some (.bool true) := (hv 8 _ 127 rfl rfl).trans (congrArg some (hd 8 (by kernel_rfl)))
          rw [if_neg (by simp [Region.wanted, yielded, e127])]
          exact hK _ _ trivial (Gr.refl _) (fun h => by cases h)
        · intro a vs W hg hd hv ho K hK
          have e127 : a.tmps[127]? = some (.bool true) := (hv 8 _ 127 rfl rfl).trans (congrArg some (hd 8 (by kernel_rfl)))
          rw [if_neg (by simp [Region.wanted, yielded, e127])]
          exact hK _ _ trivial (Gr.refl _) (fun h => by cases h)
        · intro a vs W hg hd hv ho K hK
          have e127 : a.tmps[127]? = some (.bool true) := (hv 8 _ 127 rfl rfl).trans (congrArg some (hd 8 (by kernel_rfl)))
          rw [if_neg (by simp [Region.wanted, yielded, e127])]
          exact hK _ _ trivial (Gr.refl _) (fun h => by cases h)
        · intro a vs W hg hd hv ho K hK
          have e127 : a.tmps[127]? = some (.bool true) := (hv 8 _ 127 rfl rfl).trans (congrArg some (hd 8 (by kernel_rfl)))
          rw [if_neg (by simp [Region.wanted, yielded, e127])]
          exact hK _ _ trivial (Gr.refl _) (fun h => by cases h)
        · intro a vs W hg hd hv ho K hK
          have e127 : a.tmps[127]? = some (.bool true) := (hv 8 _ 127 rfl rfl).trans (congrArg some (hd 8 (by kernel_rfl)))
          rw [if_neg (by simp [Region.wanted, yielded, e127])]
          exact hK _ _ trivial (Gr.refl _) (fun h => by cases h)
        · intro a vs W hg hd hv ho K hK
          have e127 : a.tmps[127]? = some (.bool true) := (hv 8 _ 127 rfl rfl).trans (congrArg some (hd 8 (by kernel_rfl)))
          rw [if_neg (by simp [Region.wanted, yielded, e127])]
          exact hK _ _ trivial (Gr.refl _) (fun h => by cases h)
        · intro a vs W hg hd hv ho K hK
          have e127 : a.tmps[127]? = some (.bool true) := (hv 8 _ 127 rfl rfl).trans (congrArg some (hd 8 (by kernel_rfl)))
          rw [if_neg (by simp [Region.wanted, yielded, e127])]
          exact hK _ _ trivial (Gr.refl _) (fun h => by cases h)
        · intro a vs W hg hd hv ho K hK
          have e127 : a.tmps[127]? = some (.bool true) := (hv 8 _ 127 rfl rfl).trans (congrArg some (hd 8 (by kernel_rfl)))
          rw [if_neg (by simp [Region.wanted, yielded, e127])]
          exact hK _ _ trivial (Gr.refl _) (fun h => by cases h)
        · intro a vs W hg hd hv ho K hK
          have e127 : a.tmps[127]? = some (.bool true) := (hv 8 _ 127 rfl rfl).trans (congrArg some (hd 8 (by kernel_rfl)))
          rw [if_neg (by simp [Region.wanted, yielded, e127])]
          exact hK _ _ trivial (Gr.refl _) (fun h => by cases h)
        · intro a vs W hg hd hv ho K hK
          have e127 : a.tmps[127]? = some (.bool true) := (hv 8 _ 127 rfl rfl).trans (congrArg some (hd 8 (by kernel_rfl)))
          rw [if_neg (by simp [Region.wanted, yielded, e127])]
          exact hK _ _ trivial (Gr.refl _) (fun h => by cases h)
        · intro a vs W hg hd hv ho K hK
          have e127 : a.tmps[127]? = some (.bool true) := (hv 8 _ 127 rfl rfl).trans (congrArg some (hd 8 (by kernel_rfl)))
          rw [if_neg (by simp [Region.wanted, yielded, e127])]
          exact hK _ _ trivial (Gr.refl _) (fun h => by cases h)
        · intro a vs W hg hd hv ho K hK
          have e127 : a.tmps[127]? = some (.bool true) := (hv 8 _ 127 rfl rfl).trans (congrArg some (hd 8 (by kernel_rfl)))
          rw [if_neg (by simp [Region.wanted, yielded, e127])]
          exact hK _ _ trivial (Gr.refl _) (fun h => by cases h)
        · intro a vs W hg hd hv ho K hK
          have e127 : a.tmps[127]? = some (.bool true) := (hv 8 _ 127 rfl rfl).trans (congrArg some (hd 8 (by kernel_rfl)))
          rw [if_neg (by simp [Region.wanted, yielded, e127])]
          exact hK _ _ trivial (Gr.refl _) (fun h => by cases h)
        · intro a vs W hg hd hv ho K hK
          have e127 : a.tmps[127]? = some (.bool true) := (hv 8 _ 127 rfl rfl).trans (congrArg some (hd 8 (by kernel_rfl)))
          rw [if_neg (by simp [Region.wanted, yielded, e127])]
          exact hK _ _ trivial (Gr.refl _) (fun h => by cases h)
        · intro a vs W hg hd hv ho K hK
          have e127 : a.tmps[127]? = some (.bool true) := (hv 8 _ 127 rfl rfl).trans (congrArg some (hd 8 (by kernel_rfl)))
          rw [if_pos (by rfl)]
          go_simp
          exact hK _ _ rfl (Gr.refl _) (fun h => by cases h)
        intro vs W hg hφ hne
        have f0 : vs 0 = .pointer (some ⟨m4, 7, none⟩) := hφ 0 (by omega)
        have f1 : vs 1 = .bool true := hφ 1 (by omega)
        have f2 : vs 2 = .bool false := hφ 2 (by omega)
        have f3 : vs 3 = .bool false := hφ 3 (by omega)
        have f4 : vs 4 = .pointer (some ⟨m5, 7, none⟩) := hφ 4 (by omega)
        have f5 : vs 5 = .bool false := hφ 5 (by omega)
        have f6 : vs 6 = .bool true := hφ 6 (by omega)
        have f7 : vs 7 = .bool true := hφ 7 (by omega)
        have f8 : vs 8 = .bool true := hφ 8 (by omega)
        have f28 : vs 28 = .bool true := hφ 28 (by omega)
        simp only [List.take_succ_cons, List.take_zero, List.drop_succ_cons, List.drop_zero, putAll, Act.put, List.setIfInBounds_toArray, List.set_cons_zero, List.set_cons_succ, f0, f1, f2, f3, f4, f5, f6, f7, f8, f28]
        clear hφ hne f0 f1 f2 f3 f4 f5 f6 f7 f8 f28
        go_wp2
        go_ret
        exact ⟨rfl, HG.out.trans hg⟩
      · obtain rfl := h1 rfl
        clear h1 h2 h3
        clear h4
        go_wp2_with (first | (go_at_call 22; ((with_reducible refine (HM.out _ R5.out).mono ?_); rintro e wn ⟨rfl, hgn⟩; have R5 := Lib.hid (Rooms.gr R5.out hgn); have HG := Lib.hid (Gr.trans HG.out hgn); have d4 := Gr.blk hgn d4; have d5 := Gr.blk hgn d5; clear a4 a5; obtain ⟨a4, -⟩ := d4.facts; obtain ⟨a5, -⟩ := d5.facts)) | (go_at_call 20; ((with_reducible refine (HO.out _ R5.out).mono ?_); rintro e wn ⟨rfl, hgn⟩; have R5 := Lib.hid (Rooms.gr R5.out hgn); have HG := Lib.hid (Gr.trans HG.out hgn); have d4 := Gr.blk hgn d4; have d5 := Gr.blk hgn d5; clear a4 a5; obtain ⟨a4, -⟩ := d4.facts; obtain ⟨a5, -⟩ := d5.facts)))
        refine wp_region_phi 29 [dVal (.pointer (some ⟨m4, 7, none⟩)),
          dVal (.bool true),
          dVal (.bool false),
          dVal (.bool false),
          dVal (.pointer (some ⟨m5, 7, none⟩)),
          dVal (.bool false),
          dVal (.bool true),
          dVal (.bool true),
          dVal (.bool true),
          dAny,
          dAny,
          dAny,
          dAny,
          dAny,
          dAny,
          dAny,
          dAny,
          dAny,
          dAny,
          dAny,
          dAny,
          dAny,
          dAny,
          dAny,
          dAny,
          dAny,
          dAny,
          dAny,
          dVal (.bool true)]
          (by kernel_rfl) (by kernel_rfl) (by kernel_rfl) ⟨?_, ?_, ?_, ?_, ?_, ?_, ?_, ?_, ?_, ?_, ?_, ?_, ?_, ?_, ?_, ?_, ?_, ?_, ?_, ?_, ?_, ?_, ?_, ?_, ?_, ?_, ?_, ?_, ?_, trivial⟩ ?_
        · intro a vs W hg hd hv ho K hK
          have e5 : a.tmps[5]? = some (.pointer (some ⟨m4, 0, none⟩)) := ho 5 (by kernel_rfl)
          rw [if_pos (by rfl)]
          go_simp
          exact hK _ _ rfl (Gr.refl _) (fun h => by cases h)
        · intro a vs W hg hd hv ho K hK
          have e119 : a.tmps[119]? = some (.pointer (some ⟨m4, 7, none⟩)) := (hv 0 _ 119 rfl rfl).trans (congrArg some (hd 0 (by kernel_rfl)))
          obtain ⟨c, -⟩ := (hg.blk d4).facts
          rw [if_pos (by rfl)]
          go_simp
          exact hK _ _ rfl (Gr.refl _) (fun h => by cases h)
        · intro a vs W hg hd hv ho K hK
          have e120 : a.tmps[120]? = some (.bool true) := (hv 1 _ 120 rfl rfl).trans (congrArg some (hd 1 (by kernel_rfl)))
          rw [if_pos (by rfl)]
          go_simp
          exact hK _ _ rfl (Gr.refl _) (fun h => by cases h)
        · intro a vs W hg hd hv ho K hK
          have e121 : a.tmps[121]? = some (.bool false) := (hv 2 _ 121 rfl rfl).trans (congrArg some (hd 2 (by kernel_rfl)))
          rw [if_pos (by rfl)]
          go_simp
          exact hK _ _ rfl (Gr.refl _) (fun h => by cases h)
        · intro a vs W hg hd hv ho K hK
          have e122 : a.tmps[122]? = some (.bool false) := (hv 3 _ 122 rfl rfl).trans (congrArg some (hd 3 (by kernel_rfl)))
          have e6 : a.tmps[6]? = some (.pointer (some ⟨m5, 0, none⟩)) := ho 6 (by kernel_rfl)
          rw [if_pos (by simp [Region.wanted, yielded, e122])]
          go_simp
          exact hK _ _ rfl (Gr.refl _) (fun h => by cases h)
        · intro a vs W hg hd hv ho K hK
          have e122 : a.tmps[122]? = some (.bool false) := (hv 3 _ 122 rfl rfl).trans (congrArg some (hd 3 (by kernel_rfl)))
          have e123 : a.tmps[123]? = some (.pointer (some ⟨m5, 7, none⟩)) := (hv 4 _ 123 rfl rfl).trans (congrArg some (hd 4 (by kernel_rfl)))
          obtain ⟨c, -⟩ := (hg.blk d5).facts
          rw [if_pos (by simp [Region.wanted, yielded, e122])]
          go_simp
          exact hK _ _ rfl (Gr.refl _) (fun h => by cases h)
        · intro a vs W hg hd hv ho K hK
          have e122 : a.tmps[122]? = some (.bool false) := (hv 3 _ 122 rfl rfl).trans (congrArg some (hd 3 (by kernel_rfl)))
          have e124 : a.tmps[124]? = some (.bool false) := (hv 5 _ 124 rfl rfl).trans (congrArg some (hd 5 (by kernel_rfl)))
          rw [if_pos (by simp [Region.wanted, yielded, e122])]
          go_simp
          exact hK _ _ rfl (Gr.refl _) (fun h => by cases h)
        · intro a vs W hg hd hv ho K hK
          have e122 : a.tmps[122]? = some (.bool false) := (hv 3 _ 122 rfl rfl).trans (congrArg some (hd 3 (by kernel_rfl)))
          have e125 : a.tmps[125]? = some (.bool true) := (hv 6 _ 125 rfl rfl).trans (congrArg some (hd 6 (by kernel_rfl)))
          rw [if_pos (by rfl)]
          go_simp
          exact hK _ _ rfl (Gr.refl _) (fun h => by cases h)
        · intro a vs W hg hd hv ho K hK
          have e126 : a.tmps[126]? = some (.bool true) := (hv 7 _ 126 rfl rfl).trans (congrArg some (hd 7 (by kernel_rfl)))
          rw [if_pos (by rfl)]
          go_simp
          exact hK _ _ rfl (Gr.refl _) (fun h => by cases h)
        · intro a vs W hg hd hv ho K hK
          have e127 : a.tmps[127]? = some (.bool true) := (hv 8 _ 127 rfl rfl).trans (congrArg some (hd 8 (by kernel_rfl)))
          rw [if_neg (by simp [Region.wanted, yielded, e127])]
          exact hK _ _ trivial (Gr.refl _) (fun h => by cases h)
        · intro a vs W hg hd hv ho K hK
          have e127 : a.tmps[127]? = some (.bool true) := (hv 8 _ 127 rfl rfl).trans (congrArg some (hd 8 (by kernel_rfl)))
          rw [if_neg (by simp [Region.wanted, yielded, e127])]
          exact hK _ _ trivial (Gr.refl _) (fun h => by cases h)
        · intro a vs W hg hd hv ho K hK
          have e127 : a.tmps[127]? = some (.bool true) := (hv 8 _ 127 rfl rfl).trans (congrArg some (hd 8 (by kernel_rfl)))
          rw [if_neg (by simp [Region.wanted, yielded, e127])]
          exact hK _ _ trivial (Gr.refl _) (fun h => by cases h)
        · intro a vs W hg hd hv ho K hK
          have e127 : a.tmps[127]? = some (.bool true) := (hv 8 _ 127 rfl rfl).trans (congrArg some (hd 8 (by kernel_rfl)))
          rw [if_neg (by simp [Region.wanted, yielded, e127])]
          exact hK _ _ trivial (Gr.refl _) (fun h => by cases h)
        · intro a vs W hg hd hv ho K hK
          have e127 : a.tmps[127]? = some (.bool true) := (hv 8 _ 127 rfl rfl).trans (congrArg some (hd 8 (by kernel_rfl)))
          rw [if_neg (by simp [Region.wanted, yielded, e127])]
          exact hK _ _ trivial (Gr.refl _) (fun h => by cases h)
        · intro a vs W hg hd hv ho K hK
          have e127 : a.tmps[127]? = some (.bool true) := (hv 8 _ 127 rfl rfl).trans (congrArg some (hd 8 (by kernel_rfl)))
          rw [if_neg (by simp [Region.wanted, yielded, e127])]
          exact hK _ _ trivial (Gr.refl _) (fun h => by cases h)
        · intro a vs W hg hd hv ho K hK
          have e127 : a.tmps[127]? = some (.bool true) := (hv 8 _ 127 rfl rfl).trans (congrArg some (hd 8 (by kernel_rfl)))
          rw [if_neg (by simp [Region.wanted, yielded, e127])]
          exact hK _ _ trivial (Gr.refl _) (fun h => by cases h)
        · intro a vs W hg hd hv ho K hK
          have e127 : a.tmps[127]? = some (.bool true) := (hv 8 _ 127 rfl rfl).trans (congrArg some (hd 8 (by kernel_rfl)))
          rw [if_neg (by simp [Region.wanted, yielded, e127])]
          exact hK _ _ trivial (Gr.refl _) (fun h => by cases h)
        · intro a vs W hg hd hv ho K hK
          have e127 : a.tmps[127]? = some (.bool true) := (hv 8 _ 127 rfl rfl).trans (congrArg some (hd 8 (by kernel_rfl)))
          rw [if_neg (by simp [Region.wanted, yielded, e127])]
          exact hK _ _ trivial (Gr.refl _) (fun h => by cases h)
        · intro a vs W hg hd hv ho K hK
          have e127 : a.tmps[127]? = some (.bool true) := (hv 8 _ 127 rfl rfl).trans (congrArg some (hd 8 (by kernel_rfl)))
          rw [if_neg (by simp [Region.wanted, yielded, e127])]
          exact hK _ _ trivial (Gr.refl _) (fun h => by cases h)
        · intro a vs W hg hd hv ho K hK
          have e127 : a.tmps[127]? = some (.bool true) := (hv 8 _ 127 rfl rfl).trans (congrArg some (hd 8 (by kernel_rfl)))
          rw [if_neg (by simp [Region.wanted, yielded, e127])]
          exact hK _ _ trivial (Gr.refl _) (fun h => by cases h)
        · intro a vs W hg hd hv ho K hK
          have e127 : a.tmps[127]? = some (.bool true) := (hv 8 _ 127 rfl rfl).trans (congrArg some (hd 8 (by kernel_rfl)))
          rw [if_neg (by simp [Region.wanted, yielded, e127])]
          exact hK _ _ trivial (Gr.refl _) (fun h => by cases h)
        · intro a vs W hg hd hv ho K hK
          have e127 : a.tmps[127]? = some (.bool true) := (hv 8 _ 127 rfl rfl).trans (congrArg some (hd 8 (by kernel_rfl)))
          rw [if_neg (by simp [Region.wanted, yielded, e127])]
          exact hK _ _ trivial (Gr.refl _) (fun h => by cases h)
        · intro a vs W hg hd hv ho K hK
          have e127 : a.tmps[127]? = some (.bool true) := (hv 8 _ 127 rfl rfl).trans (congrArg some (hd 8 (by kernel_rfl)))
          rw [if_neg (by simp [Region.wanted, yielded, e127])]
          exact hK _ _ trivial (Gr.refl _) (fun h => by cases h)
        · intro a vs W hg hd hv ho K hK
          have e127 : a.tmps[127]? = some (.bool true) := (hv 8 _ 127 rfl rfl).trans (congrArg some (hd 8 (by kernel_rfl)))
          rw [if_neg (by simp [Region.wanted, yielded, e127])]
          exact hK _ _ trivial (Gr.refl _) (fun h => by cases h)
        · intro a vs W hg hd hv ho K hK
          have e127 : a.tmps[127]? = some (.bool true) := (hv 8 _ 127 rfl rfl).trans (congrArg some (hd 8 (by kernel_rfl)))
          rw [if_neg (by simp [Region.wanted, yielded, e127])]
          exact hK _ _ trivial (Gr.refl _) (fun h => by cases h)
        · intro a vs W hg hd hv ho K hK
          have e127 : a.tmps[127]? = some (.bool true) := (hv 8 _ 127 rfl rfl).trans (congrArg some (hd 8 (by kernel_rfl)))
          rw [if_neg (by simp [Region.wanted, yielded, e127])]
          exact hK _ _ trivial (Gr.refl _) (fun h => by cases h)
        · intro a vs W hg hd hv ho K hK
          have e127 : a.tmps[127]? = some (.bool true) := (hv 8 _ 127 rfl rfl).trans (congrArg some (hd 8 (by kernel_rfl)))
          rw [if_neg (by simp [Region.wanted, yielded, e127])]
          exact hK _ _ trivial (Gr.refl _) (fun h => by cases h)
        · intro a vs W hg hd hv ho K hK
          have e127 : a.tmps[127]? = some (.bool true) := (hv 8 _ 127 rfl rfl).trans (congrArg some (hd 8 (by kernel_rfl)))
          rw [if_neg (by simp [Region.wanted, yielded, e127])]
          exact hK _ _ trivial (Gr.refl _) (fun h => by cases h)
        · intro a vs W hg hd hv ho K hK
          have e127 : a.tmps[127]? = some (.bool true) := (hv 8 _ 127 rfl rfl).trans (congrArg some (hd 8 (by kernel_rfl)))
          rw [if_pos (by rfl)]
          go_simp
          exact hK _ _ rfl (Gr.refl _) (fun h => by cases h)
        intro vs W hg hφ hne
        have f0 : vs 0 = .pointer (some ⟨m4, 7, none⟩) := hφ 0 (by omega)
        have f1 : vs 1 = .bool true := hφ 1 (by omega)
        have f2 : vs 2 = .bool false := hφ 2 (by omega)
        have f3 : vs 3 = .bool false := hφ 3 (by omega)
        have f4 : vs 4 = .pointer (some ⟨m5, 7, none⟩) := hφ 4 (by omega)
        have f5 : vs 5 = .bool false := hφ 5 (by omega)
        have f6 : vs 6 = .bool true := hφ 6 (by omega)
        have f7 : vs 7 = .bool true := hφ 7 (by omega)
        have f8 : vs 8 = .bool true := hφ 8 (by omega)
        have f28 : vs 28 = .bool true := hφ 28 (by omega)
        simp only [List.take_succ_cons, List.take_zero, List.drop_succ_cons, List.drop_zero, putAll, Act.put, List.setIfInBounds_toArray, List.set_cons_zero, List.set_cons_succ, f0, f1, f2, f3, f4, f5, f6, f7, f8, f28]
        clear hφ hne f0 f1 f2 f3 f4 f5 f6 f7 f8 f28
        go_wp2
        go_ret
        exact ⟨rfl, HG.out.trans hg⟩
      · obtain rfl := h1 rfl
        obtain rfl := h2 rfl
        clear h1 h2 h3
        clear h4
        go_wp2_with (first | (go_at_call 22; ((with_reducible refine (HM.out _ R5.out).mono ?_); rintro e wn ⟨rfl, hgn⟩; have R5 := Lib.hid (Rooms.gr R5.out hgn); have HG := Lib.hid (Gr.trans HG.out hgn); have d4 := Gr.blk hgn d4; have d5 := Gr.blk hgn d5; clear a4 a5; obtain ⟨a4, -⟩ := d4.facts; obtain ⟨a5, -⟩ := d5.facts)) | (go_at_call 20; ((with_reducible refine (HO.out _ R5.out).mono ?_); rintro e wn ⟨rfl, hgn⟩; have R5 := Lib.hid (Rooms.gr R5.out hgn); have HG := Lib.hid (Gr.trans HG.out hgn); have d4 := Gr.blk hgn d4; have d5 := Gr.blk hgn d5; clear a4 a5; obtain ⟨a4, -⟩ := d4.facts; obtain ⟨a5, -⟩ := d5.facts)))
        refine wp_region_phi 29 [dVal (.pointer (some ⟨m4, 7, none⟩)),
          dVal (.bool true),
          dVal (.bool false),
          dVal (.bool false),
          dVal (.pointer (some ⟨m5, 7, none⟩)),
          dVal (.bool false),
          dVal (.bool true),
          dVal (.bool true),
          dVal (.bool true),
          dAny,
          dAny,
          dAny,
          dAny,
          dAny,
          dAny,
          dAny,
          dAny,
          dAny,
          dAny,
          dAny,
          dAny,
          dAny,
          dAny,
          dAny,
          dAny,
          dAny,
          dAny,
          dAny,
          dVal (.bool true)]
          (by kernel_rfl) (by kernel_rfl) (by kernel_rfl) ⟨?_, ?_, ?_, ?_, ?_, ?_, ?_, ?_, ?_, ?_, ?_, ?_, ?_, ?_, ?_, ?_, ?_, ?_, ?_, ?_, ?_, ?_, ?_, ?_, ?_, ?_, ?_, ?_, ?_, trivial⟩ ?_
        · intro a vs W hg hd hv ho K hK
          have e5 : a.tmps[5]? = some (.pointer (some ⟨m4, 0, none⟩)) := ho 5 (by kernel_rfl)
          rw [if_pos (by rfl)]
          go_simp
          exact hK _ _ rfl (Gr.refl _) (fun h => by cases h)
        · intro a vs W hg hd hv ho K hK
          have e119 : a.tmps[119]? = some (.pointer (some ⟨m4, 7, none⟩)) := (hv 0 _ 119 rfl rfl).trans (congrArg some (hd 0 (by kernel_rfl)))
          obtain ⟨c, -⟩ := (hg.blk d4).facts
          rw [if_pos (by rfl)]
          go_simp
          exact hK _ _ rfl (Gr.refl _) (fun h => by cases h)
        · intro a vs W hg hd hv ho K hK
          have e120 : a.tmps[120]? = some (.bool true) := (hv 1 _ 120 rfl rfl).trans (congrArg some (hd 1 (by kernel_rfl)))
          rw [if_pos (by rfl)]
          go_simp
          exact hK _ _ rfl (Gr.refl _) (fun h => by cases h)
        · intro a vs W hg hd hv ho K hK
          have e121 : a.tmps[121]? = some (.bool false) := (hv 2 _ 121 rfl rfl).trans (congrArg some (hd 2 (by kernel_rfl)))
          rw [if_pos (by rfl)]
          go_simp
          exact hK _ _ rfl (Gr.refl _) (fun h => by cases h)
        · intro a vs W hg hd hv ho K hK
          have e122 : a.tmps[122]? = some (.bool false) := (hv 3 _ 122 rfl rfl).trans (congrArg some (hd 3 (by kernel_rfl)))
          have e6 : a.tmps[6]? = some (.pointer (some ⟨m5, 0, none⟩)) := ho 6 (by kernel_rfl)
          rw [if_pos (by simp [Region.wanted, yielded, e122])]
          go_simp
          exact hK _ _ rfl (Gr.refl _) (fun h => by cases h)
        · intro a vs W hg hd hv ho K hK
          have e122 : a.tmps[122]? = some (.bool false) := (hv 3 _ 122 rfl rfl).trans (congrArg some (hd 3 (by kernel_rfl)))
          have e123 : a.tmps[123]? = some (.pointer (some ⟨m5, 7, none⟩)) := (hv 4 _ 123 rfl rfl).trans (congrArg some (hd 4 (by kernel_rfl)))
          obtain ⟨c, -⟩ := (hg.blk d5).facts
          rw [if_pos (by simp [Region.wanted, yielded, e122])]
          go_simp
          exact hK _ _ rfl (Gr.refl _) (fun h => by cases h)
        · intro a vs W hg hd hv ho K hK
          have e122 : a.tmps[122]? = some (.bool false) := (hv 3 _ 122 rfl rfl).trans (congrArg some (hd 3 (by kernel_rfl)))
          have e124 : a.tmps[124]? = some (.bool false) := (hv 5 _ 124 rfl rfl).trans (congrArg some (hd 5 (by kernel_rfl)))
          rw [if_pos (by simp [Region.wanted, yielded, e122])]
          go_simp
          exact hK _ _ rfl (Gr.refl _) (fun h => by cases h)
        · intro a vs W hg hd hv ho K hK
          have e122 : a.tmps[122]? = some (.bool false) := (hv 3 _ 122 rfl rfl).trans (congrArg some (hd 3 (by kernel_rfl)))
          have e125 : a.tmps[125]? = some (.bool true) := (hv 6 _ 125 rfl rfl).trans (congrArg some (hd 6 (by kernel_rfl)))
          rw [if_pos (by rfl)]
          go_simp
          exact hK _ _ rfl (Gr.refl _) (fun h => by cases h)
        · intro a vs W hg hd hv ho K hK
          have e126 : a.tmps[126]? = some (.bool true) := (hv 7 _ 126 rfl rfl).trans (congrArg some (hd 7 (by kernel_rfl)))
          rw [if_pos (by rfl)]
          go_simp
          exact hK _ _ rfl (Gr.refl _) (fun h => by cases h)
        · intro a vs W hg hd hv ho K hK
          have e127 : a.tmps[127]? = some (.bool true) := (hv 8 _ 127 rfl rfl).trans (congrArg some (hd 8 (by kernel_rfl)))
          rw [if_neg (by simp [Region.wanted, yielded, e127])]
          exact hK _ _ trivial (Gr.refl _) (fun h => by cases h)
        · intro a vs W hg hd hv ho K hK
          have e127 : a.tmps[127]? = some (.bool true) := (hv 8 _ 127 rfl rfl).trans (congrArg some (hd 8 (by kernel_rfl)))
          rw [if_neg (by simp [Region.wanted, yielded, e127])]
          exact hK _ _ trivial (Gr.refl _) (fun h => by cases h)
        · intro a vs W hg hd hv ho K hK
          have e127 : a.tmps[127]? = some (.bool true) := (hv 8 _ 127 rfl rfl).trans (congrArg some (hd 8 (by kernel_rfl)))
          rw [if_neg (by simp [Region.wanted, yielded, e127])]
          exact hK _ _ trivial (Gr.refl _) (fun h => by cases h)
        · intro a vs W hg hd hv ho K hK
          have e127 : a.tmps[127]? = some (.bool true) := (hv 8 _ 127 rfl rfl).trans (congrArg some (hd 8 (by kernel_rfl)))
          rw [if_neg (by simp [Region.wanted, yielded, e127])]
          exact hK _ _ trivial (Gr.refl _) (fun h => by cases h)
        · intro a vs W hg hd hv ho K hK
          have e127 : a.tmps[127]? = some (.bool true) := (hv 8 _ 127 rfl rfl).trans (congrArg some (hd 8 (by kernel_rfl)))
          rw [if_neg (by simp [Region.wanted, yielded, e127])]
          exact hK _ _ trivial (Gr.refl _) (fun h => by cases h)
        · intro a vs W hg hd hv ho K hK
          have e127 : a.tmps[127]? = some (.bool true) := (hv 8 _ 127 rfl rfl).trans (congrArg some (hd 8 (by kernel_rfl)))
          rw [if_neg (by simp [Region.wanted, yielded, e127])]
          exact hK _ _ trivial (Gr.refl _) (fun h => by cases h)
        · intro a vs W hg hd hv ho K hK
          have e127 : a.tmps[127]? = some (.bool true) := (hv 8 _ 127 rfl rfl).trans (congrArg some (hd 8 (by kernel_rfl)))
          rw [if_neg (by simp [Region.wanted, yielded, e127])]
          exact hK _ _ trivial (Gr.refl _) (fun h => by cases h)
        · intro a vs W hg hd hv ho K hK
          have e127 : a.tmps[127]? = some (.bool true) := (hv 8 _ 127 rfl rfl).trans (congrArg some (hd 8 (by kernel_rfl)))
          rw [if_neg (by simp [Region.wanted, yielded, e127])]
          exact hK _ _ trivial (Gr.refl _) (fun h => by cases h)
        · intro a vs W hg hd hv ho K hK
          have e127 : a.tmps[127]? = some (.bool true) := (hv 8 _ 127 rfl rfl).trans (congrArg some (hd 8 (by kernel_rfl)))
          rw [if_neg (by simp [Region.wanted, yielded, e127])]
          exact hK _ _ trivial (Gr.refl _) (fun h => by cases h)
        · intro a vs W hg hd hv ho K hK
          have e127 : a.tmps[127]? = some (.bool true) := (hv 8 _ 127 rfl rfl).trans (congrArg some (hd 8 (by kernel_rfl)))
          rw [if_neg (by simp [Region.wanted, yielded, e127])]
          exact hK _ _ trivial (Gr.refl _) (fun h => by cases h)
        · intro a vs W hg hd hv ho K hK
          have e127 : a.tmps[127]? = some (.bool true) := (hv 8 _ 127 rfl rfl).trans (congrArg some (hd 8 (by kernel_rfl)))
          rw [if_neg (by simp [Region.wanted, yielded, e127])]
          exact hK _ _ trivial (Gr.refl _) (fun h => by cases h)
        · intro a vs W hg hd hv ho K hK
          have e127 : a.tmps[127]? = some (.bool true) := (hv 8 _ 127 rfl rfl).trans (congrArg some (hd 8 (by kernel_rfl)))
          rw [if_neg (by simp [Region.wanted, yielded, e127])]
          exact hK _ _ trivial (Gr.refl _) (fun h => by cases h)
        · intro a vs W hg hd hv ho K hK
          have e127 : a.tmps[127]? = some (.bool true) := (hv 8 _ 127 rfl rfl).trans (congrArg some (hd 8 (by kernel_rfl)))
          rw [if_neg (by simp [Region.wanted, yielded, e127])]
          exact hK _ _ trivial (Gr.refl _) (fun h => by cases h)
        · intro a vs W hg hd hv ho K hK
          have e127 : a.tmps[127]? = some (.bool true) := (hv 8 _ 127 rfl rfl).trans (congrArg some (hd 8 (by kernel_rfl)))
          rw [if_neg (by simp [Region.wanted, yielded, e127])]
          exact hK _ _ trivial (Gr.refl _) (fun h => by cases h)
        · intro a vs W hg hd hv ho K hK
          have e127 : a.tmps[127]? = some (.bool true) := (hv 8 _ 127 rfl rfl).trans (congrArg some (hd 8 (by kernel_rfl)))
          rw [if_neg (by simp [Region.wanted, yielded, e127])]
          exact hK _ _ trivial (Gr.refl _) (fun h => by cases h)
        · intro a vs W hg hd hv ho K hK
          have e127 : a.tmps[127]? = some (.bool true) := (hv 8 _ 127 rfl rfl).trans (congrArg some (hd 8 (by kernel_rfl)))
          rw [if_neg (by simp [Region.wanted, yielded, e127])]
          exact hK _ _ trivial (Gr.refl _) (fun h => by cases h)
        · intro a vs W hg hd hv ho K hK
          have e127 : a.tmps[127]? = some (.bool true) := (hv 8 _ 127 rfl rfl).trans (congrArg some (hd 8 (by kernel_rfl)))
          rw [if_neg (by simp [Region.wanted, yielded, e127])]
          exact hK _ _ trivial (Gr.refl _) (fun h => by cases h)
        · intro a vs W hg hd hv ho K hK
          have e127 : a.tmps[127]? = some (.bool true) := (hv 8 _ 127 rfl rfl).trans (congrArg some (hd 8 (by kernel_rfl)))
          rw [if_neg (by simp [Region.wanted, yielded, e127])]
          exact hK _ _ trivial (Gr.refl _) (fun h => by cases h)
        · intro a vs W hg hd hv ho K hK
          have e127 : a.tmps[127]? = some (.bool true) := (hv 8 _ 127 rfl rfl).trans (congrArg some (hd 8 (by kernel_rfl)))
          rw [if_neg (by simp [Region.wanted, yielded, e127])]
          exact hK _ _ trivial (Gr.refl _) (fun h => by cases h)
        · intro a vs W hg hd hv ho K hK
          have e127 : a.tmps[127]? = some (.bool true) := (hv 8 _ 127 rfl rfl).trans (congrArg some (hd 8 (by kernel_rfl)))
          rw [if_pos (by rfl)]
          go_simp
          exact hK _ _ rfl (Gr.refl _) (fun h => by cases h)
        intro vs W hg hφ hne
        have f0 : vs 0 = .pointer (some ⟨m4, 7, none⟩) := hφ 0 (by omega)
        have f1 : vs 1 = .bool true := hφ 1 (by omega)
        have f2 : vs 2 = .bool false := hφ 2 (by omega)
        have f3 : vs 3 = .bool false := hφ 3 (by omega)
        have f4 : vs 4 = .pointer (some ⟨m5, 7, none⟩) := hφ 4 (by omega)
        have f5 : vs 5 = .bool false := hφ 5 (by omega)
        have f6 : vs 6 = .bool true := hφ 6 (by omega)
        have f7 : vs 7 = .bool true := hφ 7 (by omega)
        have f8 : vs 8 = .bool true := hφ 8 (by omega)
        have f28 : vs 28 = .bool true := hφ 28 (by omega)
        simp only [List.take_succ_cons, List.take_zero, List.drop_succ_cons, List.drop_zero, putAll, Act.put, List.setIfInBounds_toArray, List.set_cons_zero, List.set_cons_succ, f0, f1, f2, f3, f4, f5, f6, f7, f8, f28]
        clear hφ hne f0 f1 f2 f3 f4 f5 f6 f7 f8 f28
        go_wp2
        go_ret
        exact ⟨rfl, HG.out.trans hg⟩
      · clear h1 h2 h3
        have H4 := Lib.hid (h4 rfl rfl).symm
        clear h4
        go_wp2_with (first | (go_at_call 22; ((with_reducible refine (HM.out _ R5.out).mono ?_); rintro e wn ⟨rfl, hgn⟩; have R5 := Lib.hid (Rooms.gr R5.out hgn); have HG := Lib.hid (Gr.trans HG.out hgn); have d4 := Gr.blk hgn d4; have d5 := Gr.blk hgn d5; clear a4 a5; obtain ⟨a4, -⟩ := d4.facts; obtain ⟨a5, -⟩ := d5.facts)) | (go_at_call 20; ((with_reducible refine (HO.out _ R5.out).mono ?_); rintro e wn ⟨rfl, hgn⟩; have R5 := Lib.hid (Rooms.gr R5.out hgn); have HG := Lib.hid (Gr.trans HG.out hgn); have d4 := Gr.blk hgn d4; have d5 := Gr.blk hgn d5; clear a4 a5; obtain ⟨a4, -⟩ := d4.facts; obtain ⟨a5, -⟩ := d5.facts)))
        refine wp_region_phi 29 [dVal (.pointer (some ⟨m4, 7, none⟩)),
          dVal (.bool true),
          dVal (.bool false),
          dVal (.bool false),
          dVal (.pointer (some ⟨m5, 7, none⟩)),
          dVal (.bool true),
          dVal (.bool false),
          dVal (.bool false),
          dVal (.bool false),
          dVal (.agg #[.int .i64 0, .int .i64 X, .int .i64 Y, .int .i64 0, .int .i64 0, .int .i64 P, .int .i64 Q, .bool true, .bool false]),
          dVal (.agg #[.int .i64 0, .int .i64 X', .int .i64 Y', .int .i64 0, .int .i64 0, .int .i64 P', .int .i64 Q', .bool true, .bool false]),
          dVal (.bool false),
          dVal (.pointer (some ⟨m4, 1, none⟩)),
          dVal (.pointer (some ⟨m4, 1, none⟩)),
          dVal (.int .i64 X),
          dVal (.pointer (some ⟨m4, 1, none⟩)),
          dVal (.pointer (some ⟨m4, 2, none⟩)),
          dVal (.int .i64 Y),
          dVal (.pointer (some ⟨m4, 5, none⟩)),
          dVal (.int .i64 P),
          dVal (.pointer (some ⟨m5, 5, none⟩)),
          dVal (.int .i64 P'),
          dVal (.int .i64 (P + P')),
          dVal (.agg #[.int .i64 0, .int .i64 X, .int .i64 Y, .int .i64 0, .int .i64 0, .int .i64 (P + P'), .int .i64 (P + P'), .bool true, .bool false]),
          dVal (.pointer (some ⟨m5, 1, none⟩)),
          dVal (.agg #[.int .i64 X', .int .i64 Y']),
          dVal (.bool false),
          dVal (.bool true),
          dVal (.bool true)]
          (by kernel_rfl) (by kernel_rfl) (by kernel_rfl) ⟨?_, ?_, ?_, ?_, ?_, ?_, ?_, ?_, ?_, ?_, ?_, ?_, ?_, ?_, ?_, ?_, ?_, ?_, ?_, ?_, ?_, ?_, ?_, ?_, ?_, ?_, ?_, ?_, ?_, trivial⟩ ?_
        · intro a vs W hg hd hv ho K hK
          have e5 : a.tmps[5]? = some (.pointer (some ⟨m4, 0, none⟩)) := ho 5 (by kernel_rfl)
          rw [if_pos (by rfl)]
          go_simp
          exact hK _ _ rfl (Gr.refl _) (fun h => by cases h)
        · intro a vs W hg hd hv ho K hK
          have e119 : a.tmps[119]? = some (.pointer (some ⟨m4, 7, none⟩)) := (hv 0 _ 119 rfl rfl).trans (congrArg some (hd 0 (by kernel_rfl)))
          obtain ⟨c, -⟩ := (hg.blk d4).facts
          rw [if_pos (by rfl)]
          go_simp
          exact hK _ _ rfl (Gr.refl _) (fun h => by cases h)
        · intro a vs W hg hd hv ho K hK
          have e120 : a.tmps[120]? = some (.bool true) := (hv 1 _ 120 rfl rfl).trans (congrArg some (hd 1 (by kernel_rfl)))
          rw [if_pos (by rfl)]
          go_simp
          exact hK _ _ rfl (Gr.refl _) (fun h => by cases h)
        · intro a vs W hg hd hv ho K hK
          have e121 : a.tmps[121]? = some (.bool false) := (hv 2 _ 121 rfl rfl).trans (congrArg some (hd 2 (by kernel_rfl)))
          rw [if_pos (by rfl)]
          go_simp
          exact hK _ _ rfl (Gr.refl _) (fun h => by cases h)
        · intro a vs W hg hd hv ho K hK
          have e122 : a.tmps[122]? = some (.bool false) := (hv 3 _ 122 rfl rfl).trans (congrArg some (hd 3 (by kernel_rfl)))
          have e6 : a.tmps[6]? = some (.pointer (some ⟨m5, 0, none⟩)) := ho 6 (by kernel_rfl)
          rw [if_pos (by simp [Region.wanted, yielded, e122])]
          go_simp
          exact hK _ _ rfl (Gr.refl _) (fun h => by cases h)
        · intro a vs W hg hd hv ho K hK
          have e122 : a.tmps[122]? = some (.bool false) := (hv 3 _ 122 rfl rfl).trans (congrArg some (hd 3 (by kernel_rfl)))
          have e123 : a.tmps[123]? = some (.pointer (some ⟨m5, 7, none⟩)) := (hv 4 _ 123 rfl rfl).trans (congrArg some (hd 4 (by kernel_rfl)))
          obtain ⟨c, -⟩ := (hg.blk d5).facts
          rw [if_pos (by simp [Region.wanted, yielded, e122])]
          go_simp
          exact hK _ _ rfl (Gr.refl _) (fun h => by cases h)
        · intro a vs W hg hd hv ho K hK
          have e122 : a.tmps[122]? = some (.bool false) := (hv 3 _ 122 rfl rfl).trans (congrArg some (hd 3 (by kernel_rfl)))
          have e124 : a.tmps[124]? = some (.bool true) := (hv 5 _ 124 rfl rfl).trans (congrArg some (hd 5 (by kernel_rfl)))
          rw [if_pos (by simp [Region.wanted, yielded, e122])]
          go_simp
          exact hK _ _ rfl (Gr.refl _) (fun h => by cases h)
        · intro a vs W hg hd hv ho K hK
          have e122 : a.tmps[122]? = some (.bool false) := (hv 3 _ 122 rfl rfl).trans (congrArg some (hd 3 (by kernel_rfl)))
          have e125 : a.tmps[125]? = some (.bool false) := (hv 6 _ 125 rfl rfl).trans (congrArg some (hd 6 (by kernel_rfl)))
          rw [if_pos (by rfl)]
          go_simp
          exact hK _ _ rfl (Gr.refl _) (fun h => by cases h)
        · intro a vs W hg hd hv ho K hK
          have e126 : a.tmps[126]? = some (.bool false) := (hv 7 _ 126 rfl rfl).trans (congrArg some (hd 7 (by kernel_rfl)))
          rw [if_pos (by rfl)]
          go_simp
          exact hK _ _ rfl (Gr.refl _) (fun h => by cases h)
        · intro a vs W hg hd hv ho K hK
          have e127 : a.tmps[127]? = some (.bool false) := (hv 8 _ 127 rfl rfl).trans (congrArg some (hd 8 (by kernel_rfl)))
          have e5 : a.tmps[5]? = some (.pointer (some ⟨m4, 0, none⟩)) := ho 5 (by kernel_rfl)
          obtain ⟨c, -⟩ := (hg.blk d4).facts
          rw [if_pos (by simp [Region.wanted, yielded, e127])]
          go_simp
          exact hK _ _ rfl (Gr.refl _) (fun h => by cases h)
        · intro a vs W hg hd hv ho K hK
          have e127 : a.tmps[127]? = some (.bool false) := (hv 8 _ 127 rfl rfl).trans (congrArg some (hd 8 (by kernel_rfl)))
          have e6 : a.tmps[6]? = some (.pointer (some ⟨m5, 0, none⟩)) := ho 6 (by kernel_rfl)
          obtain ⟨c, -⟩ := (hg.blk d5).facts
          rw [if_pos (by simp [Region.wanted, yielded, e127])]
          go_simp
          exact hK _ _ rfl (Gr.refl _) (fun h => by cases h)
        · intro a vs W hg hd hv ho K hK
          have e127 : a.tmps[127]? = some (.bool false) := (hv 8 _ 127 rfl rfl).trans (congrArg some (hd 8 (by kernel_rfl)))
          have e128 : a.tmps[128]? = some (.agg #[.int .i64 0, .int .i64 X, .int .i64 Y, .int .i64 0, .int .i64 0, .int .i64 P, .int .i64 Q, .bool true, .bool false]) := (hv 9 _ 128 rfl rfl).trans (congrArg some (hd 9 (by kernel_rfl)))
          have e129 : a.tmps[129]? = some (.agg #[.int .i64 0, .int .i64 X', .int .i64 Y', .int .i64 0, .int .i64 0, .int .i64 P', .int .i64 Q', .bool true, .bool false]) := (hv 10 _ 129 rfl rfl).trans (congrArg some (hd 10 (by kernel_rfl)))
          rw [if_pos (by simp [Region.wanted, yielded, e127])]
          go_simp
          refine (HM.out _ (Rooms.gr R5.out hg)).mono ?_
          rintro e W2 ⟨rfl, hg2⟩
          exact hK _ _ rfl hg2 (fun h => by cases h)
        · intro a vs W hg hd hv ho K hK
          have e127 : a.tmps[127]? = some (.bool false) := (hv 8 _ 127 rfl rfl).trans (congrArg some (hd 8 (by kernel_rfl)))
          have e5 : a.tmps[5]? = some (.pointer (some ⟨m4, 0, none⟩)) := ho 5 (by kernel_rfl)
          rw [if_pos (by simp [Region.wanted, yielded, e127])]
          go_simp
          exact hK _ _ rfl (Gr.refl _) (fun h => by cases h)
        · intro a vs W hg hd hv ho K hK
          have e127 : a.tmps[127]? = some (.bool false) := (hv 8 _ 127 rfl rfl).trans (congrArg some (hd 8 (by kernel_rfl)))
          have e131 : a.tmps[131]? = some (.pointer (some ⟨m4, 1, none⟩)) := (hv 12 _ 131 rfl rfl).trans (congrArg some (hd 12 (by kernel_rfl)))
          rw [if_pos (by simp [Region.wanted, yielded, e127])]
          go_simp
          exact hK _ _ rfl (Gr.refl _) (fun h => by cases h)
        · intro a vs W hg hd hv ho K hK
          have e127 : a.tmps[127]? = some (.bool false) := (hv 8 _ 127 rfl rfl).trans (congrArg some (hd 8 (by kernel_rfl)))
          have e132 : a.tmps[132]? = some (.pointer (some ⟨m4, 1, none⟩)) := (hv 13 _ 132 rfl rfl).trans (congrArg some (hd 13 (by kernel_rfl)))
          obtain ⟨c, -⟩ := (hg.blk d4).facts
          rw [if_pos (by simp [Region.wanted, yielded, e127])]
          go_simp
          exact hK _ _ rfl (Gr.refl _) (fun h => by cases h)
        · intro a vs W hg hd hv ho K hK
          have e127 : a.tmps[127]? = some (.bool false) := (hv 8 _ 127 rfl rfl).trans (congrArg some (hd 8 (by kernel_rfl)))
          have e5 : a.tmps[5]? = some (.pointer (some ⟨m4, 0, none⟩)) := ho 5 (by kernel_rfl)
          rw [if_pos (by simp [Region.wanted, yielded, e127])]
          go_simp
          exact hK _ _ rfl (Gr.refl _) (fun h => by cases h)
        · intro a vs W hg hd hv ho K hK
          have e127 : a.tmps[127]? = some (.bool false) := (hv 8 _ 127 rfl rfl).trans (congrArg some (hd 8 (by kernel_rfl)))
          have e134 : a.tmps[134]? = some (.pointer (some ⟨m4, 1, none⟩)) := (hv 15 _ 134 rfl rfl).trans (congrArg some (hd 15 (by kernel_rfl)))
          rw [if_pos (by simp [Region.wanted, yielded, e127])]
          go_simp
          exact hK _ _ rfl (Gr.refl _) (fun h => by cases h)
        · intro a vs W hg hd hv ho K hK
          have e127 : a.tmps[127]? = some (.bool false) := (hv 8 _ 127 rfl rfl).trans (congrArg some (hd 8 (by kernel_rfl)))
          have e135 : a.tmps[135]? = some (.pointer (some ⟨m4, 2, none⟩)) := (hv 16 _ 135 rfl rfl).trans (congrArg some (hd 16 (by kernel_rfl)))
          obtain ⟨c, -⟩ := (hg.blk d4).facts
          rw [if_pos (by simp [Region.wanted, yielded, e127])]
          go_simp
          exact hK _ _ rfl (Gr.refl _) (fun h => by cases h)
        · intro a vs W hg hd hv ho K hK
          have e127 : a.tmps[127]? = some (.bool false) := (hv 8 _ 127 rfl rfl).trans (congrArg some (hd 8 (by kernel_rfl)))
          have e5 : a.tmps[5]? = some (.pointer (some ⟨m4, 0, none⟩)) := ho 5 (by kernel_rfl)
          rw [if_pos (by simp [Region.wanted, yielded, e127])]
          go_simp
          exact hK _ _ rfl (Gr.refl _) (fun h => by cases h)
        · intro a vs W hg hd hv ho K hK
          have e127 : a.tmps[127]? = some (.bool false) := (hv 8 _ 127 rfl rfl).trans (congrArg some (hd 8 (by kernel_rfl)))
          have e137 : a.tmps[137]? = some (.pointer (some ⟨m4, 5, none⟩)) := (hv 18 _ 137 rfl rfl).trans (congrArg some (hd 18 (by kernel_rfl)))
          obtain ⟨c, -⟩ := (hg.blk d4).facts
          rw [if_pos (by simp [Region.wanted, yielded, e127])]
          go_simp
          exact hK _ _ rfl (Gr.refl _) (fun h => by cases h)
        · intro a vs W hg hd hv ho K hK
          have e127 : a.tmps[127]? = some (.bool false) := (hv 8 _ 127 rfl rfl).trans (congrArg some (hd 8 (by kernel_rfl)))
          have e6 : a.tmps[6]? = some (.pointer (some ⟨m5, 0, none⟩)) := ho 6 (by kernel_rfl)
          rw [if_pos (by simp [Region.wanted, yielded, e127])]
          go_simp
          exact hK _ _ rfl (Gr.refl _) (fun h => by cases h)
        · intro a vs W hg hd hv ho K hK
          have e127 : a.tmps[127]? = some (.bool false) := (hv 8 _ 127 rfl rfl).trans (congrArg some (hd 8 (by kernel_rfl)))
          have e139 : a.tmps[139]? = some (.pointer (some ⟨m5, 5, none⟩)) := (hv 20 _ 139 rfl rfl).trans (congrArg some (hd 20 (by kernel_rfl)))
          obtain ⟨c, -⟩ := (hg.blk d5).facts
          rw [if_pos (by simp [Region.wanted, yielded, e127])]
          go_simp
          exact hK _ _ rfl (Gr.refl _) (fun h => by cases h)
        · intro a vs W hg hd hv ho K hK
          have e127 : a.tmps[127]? = some (.bool false) := (hv 8 _ 127 rfl rfl).trans (congrArg some (hd 8 (by kernel_rfl)))
          have e138 : a.tmps[138]? = some (.int .i64 P) := (hv 19 _ 138 rfl rfl).trans (congrArg some (hd 19 (by kernel_rfl)))
          have e140 : a.tmps[140]? = some (.int .i64 P') := (hv 21 _ 140 rfl rfl).trans (congrArg some (hd 21 (by kernel_rfl)))
          have ew : IntKind.i64.wrap (P + P') = P + P' := IntWalk.i64_in _ (by omega)
          rw [if_pos (by simp [Region.wanted, yielded, e127])]
          go_simp
          exact hK _ _ rfl (Gr.refl _) (fun h => by cases h)
        · intro a vs W hg hd hv ho K hK
          have e127 : a.tmps[127]? = some (.bool false) := (hv 8 _ 127 rfl rfl).trans (congrArg some (hd 8 (by kernel_rfl)))
          have e133 : a.tmps[133]? = some (.int .i64 X) := (hv 14 _ 133 rfl rfl).trans (congrArg some (hd 14 (by kernel_rfl)))
          have e136 : a.tmps[136]? = some (.int .i64 Y) := (hv 17 _ 136 rfl rfl).trans (congrArg some (hd 17 (by kernel_rfl)))
          have e141 : a.tmps[141]? = some (.int .i64 (P + P')) := (hv 22 _ 141 rfl rfl).trans (congrArg some (hd 22 (by kernel_rfl)))
          rw [if_pos (by simp [Region.wanted, yielded, e127])]
          go_simp
          refine (Round_any X Y (P + P') _).mono ?_
          rintro e W2 ⟨rfl, hg2⟩
          exact hK _ _ rfl hg2 (fun h => by cases h)
        · intro a vs W hg hd hv ho K hK
          have e127 : a.tmps[127]? = some (.bool false) := (hv 8 _ 127 rfl rfl).trans (congrArg some (hd 8 (by kernel_rfl)))
          have e6 : a.tmps[6]? = some (.pointer (some ⟨m5, 0, none⟩)) := ho 6 (by kernel_rfl)
          rw [if_pos (by simp [Region.wanted, yielded, e127])]
          go_simp
          exact hK _ _ rfl (Gr.refl _) (fun h => by cases h)
        · intro a vs W hg hd hv ho K hK
          have e127 : a.tmps[127]? = some (.bool false) := (hv 8 _ 127 rfl rfl).trans (congrArg some (hd 8 (by kernel_rfl)))
          have e143 : a.tmps[143]? = some (.pointer (some ⟨m5, 1, none⟩)) := (hv 24 _ 143 rfl rfl).trans (congrArg some (hd 24 (by kernel_rfl)))
          obtain ⟨c, -⟩ := (hg.blk d5).facts
          rw [if_pos (by simp [Region.wanted, yielded, e127])]
          go_simp
          exact hK _ _ rfl (Gr.refl _) (fun h => by cases h)
        · intro a vs W hg hd hv ho K hK
          have e127 : a.tmps[127]? = some (.bool false) := (hv 8 _ 127 rfl rfl).trans (congrArg some (hd 8 (by kernel_rfl)))
          have e142 : a.tmps[142]? = some (.agg #[.int .i64 0, .int .i64 X, .int .i64 Y, .int .i64 0, .int .i64 0, .int .i64 (P + P'), .int .i64 (P + P'), .bool true, .bool false]) := (hv 23 _ 142 rfl rfl).trans (congrArg some (hd 23 (by kernel_rfl)))
          have e144 : a.tmps[144]? = some (.agg #[.int .i64 X', .int .i64 Y']) := (hv 25 _ 144 rfl rfl).trans (congrArg some (hd 25 (by kernel_rfl)))
          rw [if_pos (by simp [Region.wanted, yielded, e127])]
          go_simp
          refine (Has_is _ H4.out).mono ?_
          rintro e W2 ⟨rfl, hg2⟩
          exact hK _ _ rfl hg2 (fun h => by cases h)
        · intro a vs W hg hd hv ho K hK
          have e127 : a.tmps[127]? = some (.bool false) := (hv 8 _ 127 rfl rfl).trans (congrArg some (hd 8 (by kernel_rfl)))
          have e130 : a.tmps[130]? = some (.bool false) := (hv 11 _ 130 rfl rfl).trans (congrArg some (hd 11 (by kernel_rfl)))
          have e145 : a.tmps[145]? = some (.bool false) := (hv 26 _ 145 rfl rfl).trans (congrArg some (hd 26 (by kernel_rfl)))
          rw [if_pos (by simp [Region.wanted, yielded, e127])]
          go_simp
          exact hK _ _ rfl (Gr.refl _) (fun h => by cases h)
        · intro a vs W hg hd hv ho K hK
          have e127 : a.tmps[127]? = some (.bool false) := (hv 8 _ 127 rfl rfl).trans (congrArg some (hd 8 (by kernel_rfl)))
          have e146 : a.tmps[146]? = some (.bool true) := (hv 27 _ 146 rfl rfl).trans (congrArg some (hd 27 (by kernel_rfl)))
          rw [if_pos (by rfl)]
          go_simp
          exact hK _ _ rfl (Gr.refl _) (fun h => by cases h)
        intro vs W hg hφ hne
        have f0 : vs 0 = .pointer (some ⟨m4, 7, none⟩) := hφ 0 (by omega)
        have f1 : vs 1 = .bool true := hφ 1 (by omega)
        have f2 : vs 2 = .bool false := hφ 2 (by omega)
        have f3 : vs 3 = .bool false := hφ 3 (by omega)
        have f4 : vs 4 = .pointer (some ⟨m5, 7, none⟩) := hφ 4 (by omega)
        have f5 : vs 5 = .bool true := hφ 5 (by omega)
        have f6 : vs 6 = .bool false := hφ 6 (by omega)
        have f7 : vs 7 = .bool false := hφ 7 (by omega)
        have f8 : vs 8 = .bool false := hφ 8 (by omega)
        have f9 : vs 9 = .agg #[.int .i64 0, .int .i64 X, .int .i64 Y, .int .i64 0, .int .i64 0, .int .i64 P, .int .i64 Q, .bool true, .bool false] := hφ 9 (by omega)
        have f10 : vs 10 = .agg #[.int .i64 0, .int .i64 X', .int .i64 Y', .int .i64 0, .int .i64 0, .int .i64 P', .int .i64 Q', .bool true, .bool false] := hφ 10 (by omega)
        have f11 : vs 11 = .bool false := hφ 11 (by omega)
        have f12 : vs 12 = .pointer (some ⟨m4, 1, none⟩) := hφ 12 (by omega)
        have f13 : vs 13 = .pointer (some ⟨m4, 1, none⟩) := hφ 13 (by omega)
        have f14 : vs 14 = .int .i64 X := hφ 14 (by omega)
        have f15 : vs 15 = .pointer (some ⟨m4, 1, none⟩) := hφ 15 (by omega)
        have f16 : vs 16 = .pointer (some ⟨m4, 2, none⟩) := hφ 16 (by omega)
        have f17 : vs 17 = .int .i64 Y := hφ 17 (by omega)
        have f18 : vs 18 = .pointer (some ⟨m4, 5, none⟩) := hφ 18 (by omega)
        have f19 : vs 19 = .int .i64 P := hφ 19 (by omega)
        have f20 : vs 20 = .pointer (some ⟨m5, 5, none⟩) := hφ 20 (by omega)
        have f21 : vs 21 = .int .i64 P' := hφ 21 (by omega)
        have f22 : vs 22 = .int .i64 (P + P') := hφ 22 (by omega)
        have f23 : vs 23 = .agg #[.int .i64 0, .int .i64 X, .int .i64 Y, .int .i64 0, .int .i64 0, .int .i64 (P + P'), .int .i64 (P + P'), .bool true, .bool false] := hφ 23 (by omega)
        have f24 : vs 24 = .pointer (some ⟨m5, 1, none⟩) := hφ 24 (by omega)
        have f25 : vs 25 = .agg #[.int .i64 X', .int .i64 Y'] := hφ 25 (by omega)
        have f26 : vs 26 = .bool false := hφ 26 (by omega)
        have f27 : vs 27 = .bool true := hφ 27 (by omega)
        have f28 : vs 28 = .bool true := hφ 28 (by omega)
        simp only [List.take_succ_cons, List.take_zero, List.drop_succ_cons, List.drop_zero, putAll, Act.put, List.setIfInBounds_toArray, List.set_cons_zero, List.set_cons_succ, f0, f1, f2, f3, f4, f5, f6, f7, f8, f9, f10, f11, f12, f13, f14, f15, f16, f17, f18, f19, f20, f21, f22, f23, f24, f25, f26, f27, f28]
        clear hφ hne f0 f1 f2 f3 f4 f5 f6 f7 f8 f9 f10 f11 f12 f13 f14 f15 f16 f17 f18 f19 f20 f21 f22 f23 f24 f25 f26 f27 f28
        go_wp2
        go_ret
        exact ⟨rfl, HG.out.trans hg⟩
      · obtain rfl := h2 rfl
        clear h1 h2 h3
        have H4 := Lib.hid (h4 rfl rfl).symm
        clear h4
        go_wp2_with (first | (go_at_call 22; ((with_reducible refine (HM.out _ R5.out).mono ?_); rintro e wn ⟨rfl, hgn⟩; have R5 := Lib.hid (Rooms.gr R5.out hgn); have HG := Lib.hid (Gr.trans HG.out hgn); have d4 := Gr.blk hgn d4; have d5 := Gr.blk hgn d5; clear a4 a5; obtain ⟨a4, -⟩ := d4.facts; obtain ⟨a5, -⟩ := d5.facts)) | (go_at_call 20; ((with_reducible refine (HO.out _ R5.out).mono ?_); rintro e wn ⟨rfl, hgn⟩; have R5 := Lib.hid (Rooms.gr R5.out hgn); have HG := Lib.hid (Gr.trans HG.out hgn); have d4 := Gr.blk hgn d4; have d5 := Gr.blk hgn d5; clear a4 a5; obtain ⟨a4, -⟩ := d4.facts; obtain ⟨a5, -⟩ := d5.facts)))
        refine wp_region_phi 29 [dVal (.pointer (some ⟨m4, 7, none⟩)),
          dVal (.bool true),
          dVal (.bool false),
          dVal (.bool false),
          dVal (.pointer (some ⟨m5, 7, none⟩)),
          dVal (.bool true),
          dVal (.bool false),
          dVal (.bool false),
          dVal (.bool false),
          dVal (.agg #[.int .i64 0, .int .i64 X, .int .i64 Y, .int .i64 0, .int .i64 0, .int .i64 P, .int .i64 Q, .bool true, .bool false]),
          dVal (.agg #[.int .i64 0, .int .i64 X', .int .i64 Y', .int .i64 0, .int .i64 0, .int .i64 P', .int .i64 Q', .bool true, .bool false]),
          dVal (.bool false),
          dVal (.pointer (some ⟨m4, 1, none⟩)),
          dVal (.pointer (some ⟨m4, 1, none⟩)),
          dVal (.int .i64 X),
          dVal (.pointer (some ⟨m4, 1, none⟩)),
          dVal (.pointer (some ⟨m4, 2, none⟩)),
          dVal (.int .i64 Y),
          dVal (.pointer (some ⟨m4, 5, none⟩)),
          dVal (.int .i64 P),
          dVal (.pointer (some ⟨m5, 5, none⟩)),
          dVal (.int .i64 P'),
          dVal (.int .i64 (P + P')),
          dVal (.agg #[.int .i64 0, .int .i64 X, .int .i64 Y, .int .i64 0, .int .i64 0, .int .i64 (P + P'), .int .i64 (P + P'), .bool true, .bool false]),
          dVal (.pointer (some ⟨m5, 1, none⟩)),
          dVal (.agg #[.int .i64 X', .int .i64 Y']),
          dVal (.bool false),
          dVal (.bool true),
          dVal (.bool true)]
          (by kernel_rfl) (by kernel_rfl) (by kernel_rfl) ⟨?_, ?_, ?_, ?_, ?_, ?_, ?_, ?_, ?_, ?_, ?_, ?_, ?_, ?_, ?_, ?_, ?_, ?_, ?_, ?_, ?_, ?_, ?_, ?_, ?_, ?_, ?_, ?_, ?_, trivial⟩ ?_
        · intro a vs W hg hd hv ho K hK
          have e5 : a.tmps[5]? = some (.pointer (some ⟨m4, 0, none⟩)) := ho 5 (by kernel_rfl)
          rw [if_pos (by rfl)]
          go_simp
          exact hK _ _ rfl (Gr.refl _) (fun h => by cases h)
        · intro a vs W hg hd hv ho K hK
          have e119 : a.tmps[119]? = some (.pointer (some ⟨m4, 7, none⟩)) := (hv 0 _ 119 rfl rfl).trans (congrArg some (hd 0 (by kernel_rfl)))
          obtain ⟨c, -⟩ := (hg.blk d4).facts
          rw [if_pos (by rfl)]
          go_simp
          exact hK _ _ rfl (Gr.refl _) (fun h => by cases h)
        · intro a vs W hg hd hv ho K hK
          have e120 : a.tmps[120]? = some (.bool true) := (hv 1 _ 120 rfl rfl).trans (congrArg some (hd 1 (by kernel_rfl)))
          rw [if_pos (by rfl)]
          go_simp
          exact hK _ _ rfl (Gr.refl _) (fun h => by cases h)
        · intro a vs W hg hd hv ho K hK
          have e121 : a.tmps[121]? = some (.bool false) := (hv 2 _ 121 rfl rfl).trans (congrArg some (hd 2 (by kernel_rfl)))
          rw [if_pos (by rfl)]
          go_simp
          exact hK _ _ rfl (Gr.refl _) (fun h => by cases h)
        · intro a vs W hg hd hv ho K hK
          have e122 : a.tmps[122]? = some (.bool false) := (hv 3 _ 122 rfl rfl).trans (congrArg some (hd 3 (by kernel_rfl)))
          have e6 : a.tmps[6]? = some (.pointer (some ⟨m5, 0, none⟩)) := ho 6 (by kernel_rfl)
          rw [if_pos (by simp [Region.wanted, yielded, e122])]
          go_simp
          exact hK _ _ rfl (Gr.refl _) (fun h => by cases h)
        · intro a vs W hg hd hv ho K hK
          have e122 : a.tmps[122]? = some (.bool false) := (hv 3 _ 122 rfl rfl).trans (congrArg some (hd 3 (by kernel_rfl)))
          have e123 : a.tmps[123]? = some (.pointer (some ⟨m5, 7, none⟩)) := (hv 4 _ 123 rfl rfl).trans (congrArg some (hd 4 (by kernel_rfl)))
          obtain ⟨c, -⟩ := (hg.blk d5).facts
          rw [if_pos (by simp [Region.wanted, yielded, e122])]
          go_simp
          exact hK _ _ rfl (Gr.refl _) (fun h => by cases h)
        · intro a vs W hg hd hv ho K hK
          have e122 : a.tmps[122]? = some (.bool false) := (hv 3 _ 122 rfl rfl).trans (congrArg some (hd 3 (by kernel_rfl)))
          have e124 : a.tmps[124]? = some (.bool true) := (hv 5 _ 124 rfl rfl).trans (congrArg some (hd 5 (by kernel_rfl)))
          rw [if_pos (by simp [Region.wanted, yielded, e122])]
          go_simp
          exact hK _ _ rfl (Gr.refl _) (fun h => by cases h)
        · intro a vs W hg hd hv ho K hK
          have e122 : a.tmps[122]? = some (.bool false) := (hv 3 _ 122 rfl rfl).trans (congrArg some (hd 3 (by kernel_rfl)))
          have e125 : a.tmps[125]? = some (.bool false) := (hv 6 _ 125 rfl rfl).trans (congrArg some (hd 6 (by kernel_rfl)))
          rw [if_pos (by rfl)]
          go_simp
          exact hK _ _ rfl (Gr.refl _) (fun h => by cases h)
        · intro a vs W hg hd hv ho K hK
          have e126 : a.tmps[126]? = some (.bool false) := (hv 7 _ 126 rfl rfl).trans (congrArg some (hd 7 (by kernel_rfl)))
          rw [if_pos (by rfl)]
          go_simp
          exact hK _ _ rfl (Gr.refl _) (fun h => by cases h)
        · intro a vs W hg hd hv ho K hK
          have e127 : a.tmps[127]? = some (.bool false) := (hv 8 _ 127 rfl rfl).trans (congrArg some (hd 8 (by kernel_rfl)))
          have e5 : a.tmps[5]? = some (.pointer (some ⟨m4, 0, none⟩)) := ho 5 (by kernel_rfl)
          obtain ⟨c, -⟩ := (hg.blk d4).facts
          rw [if_pos (by simp [Region.wanted, yielded, e127])]
          go_simp
          exact hK _ _ rfl (Gr.refl _) (fun h => by cases h)
        · intro a vs W hg hd hv ho K hK
          have e127 : a.tmps[127]? = some (.bool false) := (hv 8 _ 127 rfl rfl).trans (congrArg some (hd 8 (by kernel_rfl)))
          have e6 : a.tmps[6]? = some (.pointer (some ⟨m5, 0, none⟩)) := ho 6 (by kernel_rfl)
          obtain ⟨c, -⟩ := (hg.blk d5).facts
          rw [if_pos (by simp [Region.wanted, yielded, e127])]
          go_simp
          exact hK _ _ rfl (Gr.refl _) (fun h => by cases h)
        · intro a vs W hg hd hv ho K hK
          have e127 : a.tmps[127]? = some (.bool false) := (hv 8 _ 127 rfl rfl).trans (congrArg some (hd 8 (by kernel_rfl)))
          have e128 : a.tmps[128]? = some (.agg #[.int .i64 0, .int .i64 X, .int .i64 Y, .int .i64 0, .int .i64 0, .int .i64 P, .int .i64 Q, .bool true, .bool false]) := (hv 9 _ 128 rfl rfl).trans (congrArg some (hd 9 (by kernel_rfl)))
          have e129 : a.tmps[129]? = some (.agg #[.int .i64 0, .int .i64 X', .int .i64 Y', .int .i64 0, .int .i64 0, .int .i64 P', .int .i64 Q', .bool true, .bool false]) := (hv 10 _ 129 rfl rfl).trans (congrArg some (hd 10 (by kernel_rfl)))
          rw [if_pos (by simp [Region.wanted, yielded, e127])]
          go_simp
          refine (HM.out _ (Rooms.gr R5.out hg)).mono ?_
          rintro e W2 ⟨rfl, hg2⟩
          exact hK _ _ rfl hg2 (fun h => by cases h)
        · intro a vs W hg hd hv ho K hK
          have e127 : a.tmps[127]? = some (.bool false) := (hv 8 _ 127 rfl rfl).trans (congrArg some (hd 8 (by kernel_rfl)))
          have e5 : a.tmps[5]? = some (.pointer (some ⟨m4, 0, none⟩)) := ho 5 (by kernel_rfl)
          rw [if_pos (by simp [Region.wanted, yielded, e127])]
          go_simp
          exact hK _ _ rfl (Gr.refl _) (fun h => by cases h)
        · intro a vs W hg hd hv ho K hK
          have e127 : a.tmps[127]? = some (.bool false) := (hv 8 _ 127 rfl rfl).trans (congrArg some (hd 8 (by kernel_rfl)))
          have e131 : a.tmps[131]? = some (.pointer (some ⟨m4, 1, none⟩)) := (hv 12 _ 131 rfl rfl).trans (congrArg some (hd 12 (by kernel_rfl)))
          rw [if_pos (by simp [Region.wanted, yielded, e127])]
          go_simp
          exact hK _ _ rfl (Gr.refl _) (fun h => by cases h)
        · intro a vs W hg hd hv ho K hK
          have e127 : a.tmps[127]? = some (.bool false) := (hv 8 _ 127 rfl rfl).trans (congrArg some (hd 8 (by kernel_rfl)))
          have e132 : a.tmps[132]? = some (.pointer (some ⟨m4, 1, none⟩)) := (hv 13 _ 132 rfl rfl).trans (congrArg some (hd 13 (by kernel_rfl)))
          obtain ⟨c, -⟩ := (hg.blk d4).facts
          rw [if_pos (by simp [Region.wanted, yielded, e127])]
          go_simp
          exact hK _ _ rfl (Gr.refl _) (fun h => by cases h)
        · intro a vs W hg hd hv ho K hK
          have e127 : a.tmps[127]? = some (.bool false) := (hv 8 _ 127 rfl rfl).trans (congrArg some (hd 8 (by kernel_rfl)))
          have e5 : a.tmps[5]? = some (.pointer (some ⟨m4, 0, none⟩)) := ho 5 (by kernel_rfl)
          rw [if_pos (by simp [Region.wanted, yielded, e127])]
          go_simp
          exact hK _ _ rfl (Gr.refl _) (fun h => by cases h)
        · intro a vs W hg hd hv ho K hK
          have e127 : a.tmps[127]? = some (.bool false) := (hv 8 _ 127 rfl rfl).trans (congrArg some (hd 8 (by kernel_rfl)))
          have e134 : a.tmps[134]? = some (.pointer (some ⟨m4, 1, none⟩)) := (hv 15 _ 134 rfl rfl).trans (congrArg some (hd 15 (by kernel_rfl)))
          rw [if_pos (by simp [Region.wanted, yielded, e127])]
          go_simp
          exact hK _ _ rfl (Gr.refl _) (fun h => by cases h)
        · intro a vs W hg hd hv ho K hK
          have e127 : a.tmps[127]? = some (.bool false) := (hv 8 _ 127 rfl rfl).trans (congrArg some (hd 8 (by kernel_rfl)))
          have e135 : a.tmps[135]? = some (.pointer (some ⟨m4, 2, none⟩)) := (hv 16 _ 135 rfl rfl).trans (congrArg some (hd 16 (by kernel_rfl)))
          obtain ⟨c, -⟩ := (hg.blk d4).facts
          rw [if_pos (by simp [Region.wanted, yielded, e127])]
          go_simp
          exact hK _ _ rfl (Gr.refl _) (fun h => by cases h)
        · intro a vs W hg hd hv ho K hK
          have e127 : a.tmps[127]? = some (.bool false) := (hv 8 _ 127 rfl rfl).trans (congrArg some (hd 8 (by kernel_rfl)))
          have e5 : a.tmps[5]? = some (.pointer (some ⟨m4, 0, none⟩)) := ho 5 (by kernel_rfl)
          rw [if_pos (by simp [Region.wanted, yielded, e127])]
          go_simp
          exact hK _ _ rfl (Gr.refl _) (fun h => by cases h)
        · intro a vs W hg hd hv ho K hK
          have e127 : a.tmps[127]? = some (.bool false) := (hv 8 _ 127 rfl rfl).trans (congrArg some (hd 8 (by kernel_rfl)))
          have e137 : a.tmps[137]? = some (.pointer (some ⟨m4, 5, none⟩)) := (hv 18 _ 137 rfl rfl).trans (congrArg some (hd 18 (by kernel_rfl)))
          obtain ⟨c, -⟩ := (hg.blk d4).facts
          rw [if_pos (by simp [Region.wanted, yielded, e127])]
          go_simp
          exact hK _ _ rfl (Gr.refl _) (fun h => by cases h)
        · intro a vs W hg hd hv ho K hK
          have e127 : a.tmps[127]? = some (.bool false) := (hv 8 _ 127 rfl rfl).trans (congrArg some (hd 8 (by kernel_rfl)))
          have e6 : a.tmps[6]? = some (.pointer (some ⟨m5, 0, none⟩)) := ho 6 (by kernel_rfl)
          rw [if_pos (by simp [Region.wanted, yielded, e127])]
          go_simp
          exact hK _ _ rfl (Gr.refl _) (fun h => by cases h)
        · intro a vs W hg hd hv ho K hK
          have e127 : a.tmps[127]? = some (.bool false) := (hv 8 _ 127 rfl rfl).trans (congrArg some (hd 8 (by kernel_rfl)))
          have e139 : a.tmps[139]? = some (.pointer (some ⟨m5, 5, none⟩)) := (hv 20 _ 139 rfl rfl).trans (congrArg some (hd 20 (by kernel_rfl)))
          obtain ⟨c, -⟩ := (hg.blk d5).facts
          rw [if_pos (by simp [Region.wanted, yielded, e127])]
          go_simp
          exact hK _ _ rfl (Gr.refl _) (fun h => by cases h)
        · intro a vs W hg hd hv ho K hK
          have e127 : a.tmps[127]? = some (.bool false) := (hv 8 _ 127 rfl rfl).trans (congrArg some (hd 8 (by kernel_rfl)))
          have e138 : a.tmps[138]? = some (.int .i64 P) := (hv 19 _ 138 rfl rfl).trans (congrArg some (hd 19 (by kernel_rfl)))
          have e140 : a.tmps[140]? = some (.int .i64 P') := (hv 21 _ 140 rfl rfl).trans (congrArg some (hd 21 (by kernel_rfl)))
          have ew : IntKind.i64.wrap (P + P') = P + P' := IntWalk.i64_in _ (by omega)
          rw [if_pos (by simp [Region.wanted, yielded, e127])]
          go_simp
          exact hK _ _ rfl (Gr.refl _) (fun h => by cases h)
        · intro a vs W hg hd hv ho K hK
          have e127 : a.tmps[127]? = some (.bool false) := (hv 8 _ 127 rfl rfl).trans (congrArg some (hd 8 (by kernel_rfl)))
          have e133 : a.tmps[133]? = some (.int .i64 X) := (hv 14 _ 133 rfl rfl).trans (congrArg some (hd 14 (by kernel_rfl)))
          have e136 : a.tmps[136]? = some (.int .i64 Y) := (hv 17 _ 136 rfl rfl).trans (congrArg some (hd 17 (by kernel_rfl)))
          have e141 : a.tmps[141]? = some (.int .i64 (P + P')) := (hv 22 _ 141 rfl rfl).trans (congrArg some (hd 22 (by kernel_rfl)))
          rw [if_pos (by simp [Region.wanted, yielded, e127])]
          go_simp
          refine (Round_any X Y (P + P') _).mono ?_
          rintro e W2 ⟨rfl, hg2⟩
          exact hK _ _ rfl hg2 (fun h => by cases h)
        · intro a vs W hg hd hv ho K hK
          have e127 : a.tmps[127]? = some (.bool false) := (hv 8 _ 127 rfl rfl).trans (congrArg some (hd 8 (by kernel_rfl)))
          have e6 : a.tmps[6]? = some (.pointer (some ⟨m5, 0, none⟩)) := ho 6 (by kernel_rfl)
          rw [if_pos (by simp [Region.wanted, yielded, e127])]
          go_simp
          exact hK _ _ rfl (Gr.refl _) (fun h => by cases h)
        · intro a vs W hg hd hv ho K hK
          have e127 : a.tmps[127]? = some (.bool false) := (hv 8 _ 127 rfl rfl).trans (congrArg some (hd 8 (by kernel_rfl)))
          have e143 : a.tmps[143]? = some (.pointer (some ⟨m5, 1, none⟩)) := (hv 24 _ 143 rfl rfl).trans (congrArg some (hd 24 (by kernel_rfl)))
          obtain ⟨c, -⟩ := (hg.blk d5).facts
          rw [if_pos (by simp [Region.wanted, yielded, e127])]
          go_simp
          exact hK _ _ rfl (Gr.refl _) (fun h => by cases h)
        · intro a vs W hg hd hv ho K hK
          have e127 : a.tmps[127]? = some (.bool false) := (hv 8 _ 127 rfl rfl).trans (congrArg some (hd 8 (by kernel_rfl)))
          have e142 : a.tmps[142]? = some (.agg #[.int .i64 0, .int .i64 X, .int .i64 Y, .int .i64 0, .int .i64 0, .int .i64 (P + P'), .int .i64 (P + P'), .bool true, .bool false]) := (hv 23 _ 142 rfl rfl).trans (congrArg some (hd 23 (by kernel_rfl)))
          have e144 : a.tmps[144]? = some (.agg #[.int .i64 X', .int .i64 Y']) := (hv 25 _ 144 rfl rfl).trans (congrArg some (hd 25 (by kernel_rfl)))
          rw [if_pos (by simp [Region.wanted, yielded, e127])]
          go_simp
          refine (Has_is _ H4.out).mono ?_
          rintro e W2 ⟨rfl, hg2⟩
          exact hK _ _ rfl hg2 (fun h => by cases h)
        · intro a vs W hg hd hv ho K hK
          have e127 : a.tmps[127]? = some (.bool false) := (hv 8 _ 127 rfl rfl).trans (congrArg some (hd 8 (by kernel_rfl)))
          have e130 : a.tmps[130]? = some (.bool false) := (hv 11 _ 130 rfl rfl).trans (congrArg some (hd 11 (by kernel_rfl)))
          have e145 : a.tmps[145]? = some (.bool false) := (hv 26 _ 145 rfl rfl).trans (congrArg some (hd 26 (by kernel_rfl)))
          rw [if_pos (by simp [Region.wanted, yielded, e127])]
          go_simp
          exact hK _ _ rfl (Gr.refl _) (fun h => by cases h)
        · intro a vs W hg hd hv ho K hK
          have e127 : a.tmps[127]? = some (.bool false) := (hv 8 _ 127 rfl rfl).trans (congrArg some (hd 8 (by kernel_rfl)))
          have e146 : a.tmps[146]? = some (.bool true) := (hv 27 _ 146 rfl rfl).trans (congrArg some (hd 27 (by kernel_rfl)))
          rw [if_pos (by rfl)]
          go_simp
          exact hK _ _ rfl (Gr.refl _) (fun h => by cases h)
        intro vs W hg hφ hne
        have f0 : vs 0 = .pointer (some ⟨m4, 7, none⟩) := hφ 0 (by omega)
        have f1 : vs 1 = .bool true := hφ 1 (by omega)
        have f2 : vs 2 = .bool false := hφ 2 (by omega)
        have f3 : vs 3 = .bool false := hφ 3 (by omega)
        have f4 : vs 4 = .pointer (some ⟨m5, 7, none⟩) := hφ 4 (by omega)
        have f5 : vs 5 = .bool true := hφ 5 (by omega)
        have f6 : vs 6 = .bool false := hφ 6 (by omega)
        have f7 : vs 7 = .bool false := hφ 7 (by omega)
        have f8 : vs 8 = .bool false := hφ 8 (by omega)
        have f9 : vs 9 = .agg #[.int .i64 0, .int .i64 X, .int .i64 Y, .int .i64 0, .int .i64 0, .int .i64 P, .int .i64 Q, .bool true, .bool false] := hφ 9 (by omega)
        have f10 : vs 10 = .agg #[.int .i64 0, .int .i64 X', .int .i64 Y', .int .i64 0, .int .i64 0, .int .i64 P', .int .i64 Q', .bool true, .bool false] := hφ 10 (by omega)
        have f11 : vs 11 = .bool false := hφ 11 (by omega)
        have f12 : vs 12 = .pointer (some ⟨m4, 1, none⟩) := hφ 12 (by omega)
        have f13 : vs 13 = .pointer (some ⟨m4, 1, none⟩) := hφ 13 (by omega)
        have f14 : vs 14 = .int .i64 X := hφ 14 (by omega)
        have f15 : vs 15 = .pointer (some ⟨m4, 1, none⟩) := hφ 15 (by omega)
        have f16 : vs 16 = .pointer (some ⟨m4, 2, none⟩) := hφ 16 (by omega)
        have f17 : vs 17 = .int .i64 Y := hφ 17 (by omega)
        have f18 : vs 18 = .pointer (some ⟨m4, 5, none⟩) := hφ 18 (by omega)
        have f19 : vs 19 = .int .i64 P := hφ 19 (by omega)
        have f20 : vs 20 = .pointer (some ⟨m5, 5, none⟩) := hφ 20 (by omega)
        have f21 : vs 21 = .int .i64 P' := hφ 21 (by omega)
        have f22 : vs 22 = .int .i64 (P + P') := hφ 22 (by omega)
        have f23 : vs 23 = .agg #[.int .i64 0, .int .i64 X, .int .i64 Y, .int .i64 0, .int .i64 0, .int .i64 (P + P'), .int .i64 (P + P'), .bool true, .bool false] := hφ 23 (by omega)
        have f24 : vs 24 = .pointer (some ⟨m5, 1, none⟩) := hφ 24 (by omega)
        have f25 : vs 25 = .agg #[.int .i64 X', .int .i64 Y'] := hφ 25 (by omega)
        have f26 : vs 26 = .bool false := hφ 26 (by omega)
        have f27 : vs 27 = .bool true := hφ 27 (by omega)
        have f28 : vs 28 = .bool true := hφ 28 (by omega)
        simp only [List.take_succ_cons, List.take_zero, List.drop_succ_cons, List.drop_zero, putAll, Act.put, List.setIfInBounds_toArray, List.set_cons_zero, List.set_cons_succ, f0, f1, f2, f3, f4, f5, f6, f7, f8, f9, f10, f11, f12, f13, f14, f15, f16, f17, f18, f19, f20, f21, f22, f23, f24, f25, f26, f27, f28]
        clear hφ hne f0 f1 f2 f3 f4 f5 f6 f7 f8 f9 f10 f11 f12 f13 f14 f15 f16 f17 f18 f19 f20 f21 f22 f23 f24 f25 f26 f27 f28
        go_wp2
        go_ret
        exact ⟨rfl, HG.out.trans hg⟩
      · obtain rfl := h1 rfl
        clear h1 h2 h3
        have H4 := Lib.hid (h4 rfl rfl).symm
        clear h4
        go_wp2_with (first | (go_at_call 22; ((with_reducible refine (HM.out _ R5.out).mono ?_); rintro e wn ⟨rfl, hgn⟩; have R5 := Lib.hid (Rooms.gr R5.out hgn); have HG := Lib.hid (Gr.trans HG.out hgn); have d4 := Gr.blk hgn d4; have d5 := Gr.blk hgn d5; clear a4 a5; obtain ⟨a4, -⟩ := d4.facts; obtain ⟨a5, -⟩ := d5.facts)) | (go_at_call 20; ((with_reducible refine (HO.out _ R5.out).mono ?_); rintro e wn ⟨rfl, hgn⟩; have R5 := Lib.hid (Rooms.gr R5.out hgn); have HG := Lib.hid (Gr.trans HG.out hgn); have d4 := Gr.blk hgn d4; have d5 := Gr.blk hgn d5; clear a4 a5; obtain ⟨a4, -⟩ := d4.facts; obtain ⟨a5, -⟩ := d5.facts)))
        refine wp_region_phi 29 [dVal (.pointer (some ⟨m4, 7, none⟩)),
          dVal (.bool true),
          dVal (.bool false),
          dVal (.bool false),
          dVal (.pointer (some ⟨m5, 7, none⟩)),
          dVal (.bool true),
          dVal (.bool false),
          dVal (.bool false),
          dVal (.bool false),
          dVal (.agg #[.int .i64 0, .int .i64 X, .int .i64 Y, .int .i64 0, .int .i64 0, .int .i64 P, .int .i64 Q, .bool true, .bool false]),
          dVal (.agg #[.int .i64 0, .int .i64 X', .int .i64 Y', .int .i64 0, .int .i64 0, .int .i64 P', .int .i64 Q', .bool true, .bool false]),
          dVal (.bool true),
          dVal (.pointer (some ⟨m4, 1, none⟩)),
          dVal (.pointer (some ⟨m4, 1, none⟩)),
          dVal (.int .i64 X),
          dVal (.pointer (some ⟨m4, 1, none⟩)),
          dVal (.pointer (some ⟨m4, 2, none⟩)),
          dVal (.int .i64 Y),
          dVal (.pointer (some ⟨m4, 5, none⟩)),
          dVal (.int .i64 P),
          dVal (.pointer (some ⟨m5, 5, none⟩)),
          dVal (.int .i64 P'),
          dVal (.int .i64 (P + P')),
          dVal (.agg #[.int .i64 0, .int .i64 X, .int .i64 Y, .int .i64 0, .int .i64 0, .int .i64 (P + P'), .int .i64 (P + P'), .bool true, .bool false]),
          dVal (.pointer (some ⟨m5, 1, none⟩)),
          dVal (.agg #[.int .i64 X', .int .i64 Y']),
          dVal (.bool true),
          dVal (.bool true),
          dVal (.bool true)]
          (by kernel_rfl) (by kernel_rfl) (by kernel_rfl) ⟨?_, ?_, ?_, ?_, ?_, ?_, ?_, ?_, ?_, ?_, ?_, ?_, ?_, ?_, ?_, ?_, ?_, ?_, ?_, ?_, ?_, ?_, ?_, ?_, ?_, ?_, ?_, ?_, ?_, trivial⟩ ?_
        · intro a vs W hg hd hv ho K hK
          have e5 : a.tmps[5]? = some (.pointer (some ⟨m4, 0, none⟩)) := ho 5 (by kernel_rfl)
          rw [if_pos (by rfl)]
          go_simp
          exact hK _ _ rfl (Gr.refl _) (fun h => by cases h)
        · intro a vs W hg hd hv ho K hK
          have e119 : a.tmps[119]? = some (.pointer (some ⟨m4, 7, none⟩)) := (hv 0 _ 119 rfl rfl).trans (congrArg some (hd 0 (by kernel_rfl)))
          obtain ⟨c, -⟩ := (hg.blk d4).facts
          rw [if_pos (by rfl)]
          go_simp
          exact hK _ _ rfl (Gr.refl _) (fun h => by cases h)
        · intro a vs W hg hd hv ho K hK
          have e120 : a.tmps[120]? = some (.bool true) := (hv 1 _ 120 rfl rfl).trans (congrArg some (hd 1 (by kernel_rfl)))
          rw [if_pos (by rfl)]
          go_simp
          exact hK _ _ rfl (Gr.refl _) (fun h => by cases h)
        · intro a vs W hg hd hv ho K hK
          have e121 : a.tmps[121]? = some (.bool false) := (hv 2 _ 121 rfl rfl).trans (congrArg some (hd 2 (by kernel_rfl)))
          rw [if_pos (by rfl)]
          go_simp
          exact hK _ _ rfl (Gr.refl _) (fun h => by cases h)
        · intro a vs W hg hd hv ho K hK
          have e122 : a.tmps[122]? = some (.bool false) := (hv 3 _ 122 rfl rfl).trans (congrArg some (hd 3 (by kernel_rfl)))
          have e6 : a.tmps[6]? = some (.pointer (some ⟨m5, 0, none⟩)) := ho 6 (by kernel_rfl)
          rw [if_pos (by simp [Region.wanted, yielded, e122])]
          go_simp
          exact hK _ _ rfl (Gr.refl _) (fun h => by cases h)
        · intro a vs W hg hd hv ho K hK
          have e122 : a.tmps[122]? = some (.bool false) := (hv 3 _ 122 rfl rfl).trans (congrArg some (hd 3 (by kernel_rfl)))
          have e123 : a.tmps[123]? = some (.pointer (some ⟨m5, 7, none⟩)) := (hv 4 _ 123 rfl rfl).trans (congrArg some (hd 4 (by kernel_rfl)))
          obtain ⟨c, -⟩ := (hg.blk d5).facts
          rw [if_pos (by simp [Region.wanted, yielded, e122])]
          go_simp
          exact hK _ _ rfl (Gr.refl _) (fun h => by cases h)
        · intro a vs W hg hd hv ho K hK
          have e122 : a.tmps[122]? = some (.bool false) := (hv 3 _ 122 rfl rfl).trans (congrArg some (hd 3 (by kernel_rfl)))
          have e124 : a.tmps[124]? = some (.bool true) := (hv 5 _ 124 rfl rfl).trans (congrArg some (hd 5 (by kernel_rfl)))
          rw [if_pos (by simp [Region.wanted, yielded, e122])]
          go_simp
          exact hK _ _ rfl (Gr.refl _) (fun h => by cases h)
        · intro a vs W hg hd hv ho K hK
          have e122 : a.tmps[122]? = some (.bool false) := (hv 3 _ 122 rfl rfl).trans (congrArg some (hd 3 (by kernel_rfl)))
          have e125 : a.tmps[125]? = some (.bool false) := (hv 6 _ 125 rfl rfl).trans (congrArg some (hd 6 (by kernel_rfl)))
          rw [if_pos (by rfl)]
          go_simp
          exact hK _ _ rfl (Gr.refl _) (fun h => by cases h)
        · intro a vs W hg hd hv ho K hK
          have e126 : a.tmps[126]? = some (.bool false) := (hv 7 _ 126 rfl rfl).trans (congrArg some (hd 7 (by kernel_rfl)))
          rw [if_pos (by rfl)]
          go_simp
          exact hK _ _ rfl (Gr.refl _) (fun h => by cases h)
        · intro a vs W hg hd hv ho K hK
          have e127 : a.tmps[127]? = some (.bool false) := (hv 8 _ 127 rfl rfl).trans (congrArg some (hd 8 (by kernel_rfl)))
          have e5 : a.tmps[5]? = some (.pointer (some ⟨m4, 0, none⟩)) := ho 5 (by kernel_rfl)
          obtain ⟨c, -⟩ := (hg.blk d4).facts
          rw [if_pos (by simp [Region.wanted, yielded, e127])]
          go_simp
          exact hK _ _ rfl (Gr.refl _) (fun h => by cases h)
        · intro a vs W hg hd hv ho K hK
          have e127 : a.tmps[127]? = some (.bool false) := (hv 8 _ 127 rfl rfl).trans (congrArg some (hd 8 (by kernel_rfl)))
          have e6 : a.tmps[6]? = some (.pointer (some ⟨m5, 0, none⟩)) := ho 6 (by kernel_rfl)
          obtain ⟨c, -⟩ := (hg.blk d5).facts
          rw [if_pos (by simp [Region.wanted, yielded, e127])]
          go_simp
          exact hK _ _ rfl (Gr.refl _) (fun h => by cases h)
        · intro a vs W hg hd hv ho K hK
          have e127 : a.tmps[127]? = some (.bool false) := (hv 8 _ 127 rfl rfl).trans (congrArg some (hd 8 (by kernel_rfl)))
          have e128 : a.tmps[128]? = some (.agg #[.int .i64 0, .int .i64 X, .int .i64 Y, .int .i64 0, .int .i64 0, .int .i64 P, .int .i64 Q, .bool true, .bool false]) := (hv 9 _ 128 rfl rfl).trans (congrArg some (hd 9 (by kernel_rfl)))
          have e129 : a.tmps[129]? = some (.agg #[.int .i64 0, .int .i64 X', .int .i64 Y', .int .i64 0, .int .i64 0, .int .i64 P', .int .i64 Q', .bool true, .bool false]) := (hv 10 _ 129 rfl rfl).trans (congrArg some (hd 10 (by kernel_rfl)))
          rw [if_pos (by simp [Region.wanted, yielded, e127])]
          go_simp
          refine (HM.out _ (Rooms.gr R5.out hg)).mono ?_
          rintro e W2 ⟨rfl, hg2⟩
          exact hK _ _ rfl hg2 (fun h => by cases h)
        · intro a vs W hg hd hv ho K hK
          have e127 : a.tmps[127]? = some (.bool false) := (hv 8 _ 127 rfl rfl).trans (congrArg some (hd 8 (by kernel_rfl)))
          have e5 : a.tmps[5]? = some (.pointer (some ⟨m4, 0, none⟩)) := ho 5 (by kernel_rfl)
          rw [if_pos (by simp [Region.wanted, yielded, e127])]
          go_simp
          exact hK _ _ rfl (Gr.refl _) (fun h => by cases h)
        · intro a vs W hg hd hv ho K hK
          have e127 : a.tmps[127]? = some (.bool false) := (hv 8 _ 127 rfl rfl).trans (congrArg some (hd 8 (by kernel_rfl)))
          have e131 : a.tmps[131]? = some (.pointer (some ⟨m4, 1, none⟩)) := (hv 12 _ 131 rfl rfl).trans (congrArg some (hd 12 (by kernel_rfl)))
          rw [if_pos (by simp [Region.wanted, yielded, e127])]
          go_simp
          exact hK _ _ rfl (Gr.refl _) (fun h => by cases h)
        · intro a vs W hg hd hv ho K hK
          have e127 : a.tmps[127]? = some (.bool false) := (hv 8 _ 127 rfl rfl).trans (congrArg some (hd 8 (by kernel_rfl)))
          have e132 : a.tmps[132]? = some (.pointer (some ⟨m4, 1, none⟩)) := (hv 13 _ 132 rfl rfl).trans (congrArg some (hd 13 (by kernel_rfl)))
          obtain ⟨c, -⟩ := (hg.blk d4).facts
          rw [if_pos (by simp [Region.wanted, yielded, e127])]
          go_simp
          exact hK _ _ rfl (Gr.refl _) (fun h => by cases h)
        · intro a vs W hg hd hv ho K hK
          have e127 : a.tmps[127]? = some (.bool false) := (hv 8 _ 127 rfl rfl).trans (congrArg some (hd 8 (by kernel_rfl)))
          have e5 : a.tmps[5]? = some (.pointer (some ⟨m4, 0, none⟩)) := ho 5 (by kernel_rfl)
          rw [if_pos (by simp [Region.wanted, yielded, e127])]
          go_simp
          exact hK _ _ rfl (Gr.refl _) (fun h => by cases h)
        · intro a vs W hg hd hv ho K hK
          have e127 : a.tmps[127]? = some (.bool false) := (hv 8 _ 127 rfl rfl).trans (congrArg some (hd 8 (by kernel_rfl)))
          have e134 : a.tmps[134]? = some (.pointer (some ⟨m4, 1, none⟩)) := (hv 15 _ 134 rfl rfl).trans (congrArg some (hd 15 (by kernel_rfl)))
          rw [if_pos (by simp [Region.wanted, yielded, e127])]
          go_simp
          exact hK _ _ rfl (Gr.refl _) (fun h => by cases h)
        · intro a vs W hg hd hv ho K hK
          have e127 : a.tmps[127]? = some (.bool false) := (hv 8 _ 127 rfl rfl).trans (congrArg some (hd 8 (by kernel_rfl)))
          have e135 : a.tmps[135]? = some (.pointer (some ⟨m4, 2, none⟩)) := (hv 16 _ 135 rfl rfl).trans (congrArg some (hd 16 (by kernel_rfl)))
          obtain ⟨c, -⟩ := (hg.blk d4).facts
          rw [if_pos (by simp [Region.wanted, yielded, e127])]
          go_simp
          exact hK _ _ rfl (Gr.refl _) (fun h => by cases h)
        · intro a vs W hg hd hv ho K hK
          have e127 : a.tmps[127]? = some (.bool false) := (hv 8 _ 127 rfl rfl).trans (congrArg some (hd 8 (by kernel_rfl)))
          have e5 : a.tmps[5]? = some (.pointer (some ⟨m4, 0, none⟩)) := ho 5 (by kernel_rfl)
          rw [if_pos (by simp [Region.wanted, yielded, e127])]
          go_simp
          exact hK _ _ rfl (Gr.refl _) (fun h => by cases h)
        · intro a vs W hg hd hv ho K hK
          have e127 : a.tmps[127]? = some (.bool false) := (hv 8 _ 127 rfl rfl).trans (congrArg some (hd 8 (by kernel_rfl)))
          have e137 : a.tmps[137]? = some (.pointer (some ⟨m4, 5, none⟩)) := (hv 18 _ 137 rfl rfl).trans (congrArg some (hd 18 (by kernel_rfl)))
          obtain ⟨c, -⟩ := (hg.blk d4).facts
          rw [if_pos (by simp [Region.wanted, yielded, e127])]
          go_simp
          exact hK _ _ rfl (Gr.refl _) (fun h => by cases h)
        · intro a vs W hg hd hv ho K hK
          have e127 : a.tmps[127]? = some (.bool false) := (hv 8 _ 127 rfl rfl).trans (congrArg some (hd 8 (by kernel_rfl)))
          have e6 : a.tmps[6]? = some (.pointer (some ⟨m5, 0, none⟩)) := ho 6 (by kernel_rfl)
          rw [if_pos (by simp [Region.wanted, yielded, e127])]
          go_simp
          exact hK _ _ rfl (Gr.refl _) (fun h => by cases h)
        · intro a vs W hg hd hv ho K hK
          have e127 : a.tmps[127]? = some (.bool false) := (hv 8 _ 127 rfl rfl).trans (congrArg some (hd 8 (by kernel_rfl)))
          have e139 : a.tmps[139]? = some (.pointer (some ⟨m5, 5, none⟩)) := (hv 20 _ 139 rfl rfl).trans (congrArg some (hd 20 (by kernel_rfl)))
          obtain ⟨c, -⟩ := (hg.blk d5).facts
          rw [if_pos (by simp [Region.wanted, yielded, e127])]
          go_simp
          exact hK _ _ rfl (Gr.refl _) (fun h => by cases h)
        · intro a vs W hg hd hv ho K hK
          have e127 : a.tmps[127]? = some (.bool false) := (hv 8 _ 127 rfl rfl).trans (congrArg some (hd 8 (by kernel_rfl)))
          have e138 : a.tmps[138]? = some (.int .i64 P) := (hv 19 _ 138 rfl rfl).trans (congrArg some (hd 19 (by kernel_rfl)))
          have e140 : a.tmps[140]? = some (.int .i64 P') := (hv 21 _ 140 rfl rfl).trans (congrArg some (hd 21 (by kernel_rfl)))
          have ew : IntKind.i64.wrap (P + P') = P + P' := IntWalk.i64_in _ (by omega)
          rw [if_pos (by simp [Region.wanted, yielded, e127])]
          go_simp
          exact hK _ _ rfl (Gr.refl _) (fun h => by cases h)
        · intro a vs W hg hd hv ho K hK
          have e127 : a.tmps[127]? = some (.bool false) := (hv 8 _ 127 rfl rfl).trans (congrArg some (hd 8 (by kernel_rfl)))
          have e133 : a.tmps[133]? = some (.int .i64 X) := (hv 14 _ 133 rfl rfl).trans (congrArg some (hd 14 (by kernel_rfl)))
          have e136 : a.tmps[136]? = some (.int .i64 Y) := (hv 17 _ 136 rfl rfl).trans (congrArg some (hd 17 (by kernel_rfl)))
          have e141 : a.tmps[141]? = some (.int .i64 (P + P')) := (hv 22 _ 141 rfl rfl).trans (congrArg some (hd 22 (by kernel_rfl)))
          rw [if_pos (by simp [Region.wanted, yielded, e127])]
          go_simp
          refine (Round_any X Y (P + P') _).mono ?_
          rintro e W2 ⟨rfl, hg2⟩
          exact hK _ _ rfl hg2 (fun h => by cases h)
        · intro a vs W hg hd hv ho K hK
          have e127 : a.tmps[127]? = some (.bool false) := (hv 8 _ 127 rfl rfl).trans (congrArg some (hd 8 (by kernel_rfl)))
          have e6 : a.tmps[6]? = some (.pointer (some ⟨m5, 0, none⟩)) := ho 6 (by kernel_rfl)
          rw [if_pos (by simp [Region.wanted, yielded, e127])]
          go_simp
          exact hK _ _ rfl (Gr.refl _) (fun h => by cases h)
        · intro a vs W hg hd hv ho K hK
          have e127 : a.tmps[127]? = some (.bool false) := (hv 8 _ 127 rfl rfl).trans (congrArg some (hd 8 (by kernel_rfl)))
          have e143 : a.tmps[143]? = some (.pointer (some ⟨m5, 1, none⟩)) := (hv 24 _ 143 rfl rfl).trans (congrArg some (hd 24 (by kernel_rfl)))
          obtain ⟨c, -⟩ := (hg.blk d5).facts
          rw [if_pos (by simp [Region.wanted, yielded, e127])]
          go_simp
          exact hK _ _ rfl (Gr.refl _) (fun h => by cases h)
        · intro a vs W hg hd hv ho K hK
          have e127 : a.tmps[127]? = some (.bool false) := (hv 8 _ 127 rfl rfl).trans (congrArg some (hd 8 (by kernel_rfl)))
          have e142 : a.tmps[142]? = some (.agg #[.int .i64 0, .int .i64 X, .int .i64 Y, .int .i64 0, .int .i64 0, .int .i64 (P + P'), .int .i64 (P + P'), .bool true, .bool false]) := (hv 23 _ 142 rfl rfl).trans (congrArg some (hd 23 (by kernel_rfl)))
          have e144 : a.tmps[144]? = some (.agg #[.int .i64 X', .int .i64 Y']) := (hv 25 _ 144 rfl rfl).trans (congrArg some (hd 25 (by kernel_rfl)))
          rw [if_pos (by simp [Region.wanted, yielded, e127])]
          go_simp
          refine (Has_is _ H4.out).mono ?_
          rintro e W2 ⟨rfl, hg2⟩
          exact hK _ _ rfl hg2 (fun h => by cases h)
        · intro a vs W hg hd hv ho K hK
          have e127 : a.tmps[127]? = some (.bool false) := (hv 8 _ 127 rfl rfl).trans (congrArg some (hd 8 (by kernel_rfl)))
          have e130 : a.tmps[130]? = some (.bool true) := (hv 11 _ 130 rfl rfl).trans (congrArg some (hd 11 (by kernel_rfl)))
          have e145 : a.tmps[145]? = some (.bool true) := (hv 26 _ 145 rfl rfl).trans (congrArg some (hd 26 (by kernel_rfl)))
          rw [if_pos (by simp [Region.wanted, yielded, e127])]
          go_simp
          exact hK _ _ rfl (Gr.refl _) (fun h => by cases h)
        · intro a vs W hg hd hv ho K hK
          have e127 : a.tmps[127]? = some (.bool false) := (hv 8 _ 127 rfl rfl).trans (congrArg some (hd 8 (by kernel_rfl)))
          have e146 : a.tmps[146]? = some (.bool true) := (hv 27 _ 146 rfl rfl).trans (congrArg some (hd 27 (by kernel_rfl)))
          rw [if_pos (by rfl)]
          go_simp
          exact hK _ _ rfl (Gr.refl _) (fun h => by cases h)
        intro vs W hg hφ hne
        have f0 : vs 0 = .pointer (some ⟨m4, 7, none⟩) := hφ 0 (by omega)
        have f1 : vs 1 = .bool true := hφ 1 (by omega)
        have f2 : vs 2 = .bool false := hφ 2 (by omega)
        have f3 : vs 3 = .bool false := hφ 3 (by omega)
        have f4 : vs 4 = .pointer (some ⟨m5, 7, none⟩) := hφ 4 (by omega)
        have f5 : vs 5 = .bool true := hφ 5 (by omega)
        have f6 : vs 6 = .bool false := hφ 6 (by omega)
        have f7 : vs 7 = .bool false := hφ 7 (by omega)
        have f8 : vs 8 = .bool false := hφ 8 (by omega)
        have f9 : vs 9 = .agg #[.int .i64 0, .int .i64 X, .int .i64 Y, .int .i64 0, .int .i64 0, .int .i64 P, .int .i64 Q, .bool true, .bool false] := hφ 9 (by omega)
        have f10 : vs 10 = .agg #[.int .i64 0, .int .i64 X', .int .i64 Y', .int .i64 0, .int .i64 0, .int .i64 P', .int .i64 Q', .bool true, .bool false] := hφ 10 (by omega)
        have f11 : vs 11 = .bool true := hφ 11 (by omega)
        have f12 : vs 12 = .pointer (some ⟨m4, 1, none⟩) := hφ 12 (by omega)
        have f13 : vs 13 = .pointer (some ⟨m4, 1, none⟩) := hφ 13 (by omega)
        have f14 : vs 14 = .int .i64 X := hφ 14 (by omega)
        have f15 : vs 15 = .pointer (some ⟨m4, 1, none⟩) := hφ 15 (by omega)
        have f16 : vs 16 = .pointer (some ⟨m4, 2, none⟩) := hφ 16 (by omega)
        have f17 : vs 17 = .int .i64 Y := hφ 17 (by omega)
        have f18 : vs 18 = .pointer (some ⟨m4, 5, none⟩) := hφ 18 (by omega)
        have f19 : vs 19 = .int .i64 P := hφ 19 (by omega)
        have f20 : vs 20 = .pointer (some ⟨m5, 5, none⟩) := hφ 20 (by omega)
        have f21 : vs 21 = .int .i64 P' := hφ 21 (by omega)
        have f22 : vs 22 = .int .i64 (P + P') := hφ 22 (by omega)
        have f23 : vs 23 = .agg #[.int .i64 0, .int .i64 X, .int .i64 Y, .int .i64 0, .int .i64 0, .int .i64 (P + P'), .int .i64 (P + P'), .bool true, .bool false] := hφ 23 (by omega)
        have f24 : vs 24 = .pointer (some ⟨m5, 1, none⟩) := hφ 24 (by omega)
        have f25 : vs 25 = .agg #[.int .i64 X', .int .i64 Y'] := hφ 25 (by omega)
        have f26 : vs 26 = .bool true := hφ 26 (by omega)
        have f27 : vs 27 = .bool true := hφ 27 (by omega)
        have f28 : vs 28 = .bool true := hφ 28 (by omega)
        simp only [List.take_succ_cons, List.take_zero, List.drop_succ_cons, List.drop_zero, putAll, Act.put, List.setIfInBounds_toArray, List.set_cons_zero, List.set_cons_succ, f0, f1, f2, f3, f4, f5, f6, f7, f8, f9, f10, f11, f12, f13, f14, f15, f16, f17, f18, f19, f20, f21, f22, f23, f24, f25, f26, f27, f28]
        clear hφ hne f0 f1 f2 f3 f4 f5 f6 f7 f8 f9 f10 f11 f12 f13 f14 f15 f16 f17 f18 f19 f20 f21 f22 f23 f24 f25 f26 f27 f28
        go_wp2
        go_ret
        exact ⟨rfl, HG.out.trans hg⟩
      · obtain rfl := h1 rfl
        obtain rfl := h2 rfl
        clear h1 h2 h3
        have H4 := Lib.hid (h4 rfl rfl).symm
        clear h4
        go_wp2_with (first | (go_at_call 22; ((with_reducible refine (HM.out _ R5.out).mono ?_); rintro e wn ⟨rfl, hgn⟩; have R5 := Lib.hid (Rooms.gr R5.out hgn); have HG := Lib.hid (Gr.trans HG.out hgn); have d4 := Gr.blk hgn d4; have d5 := Gr.blk hgn d5; clear a4 a5; obtain ⟨a4, -⟩ := d4.facts; obtain ⟨a5, -⟩ := d5.facts)) | (go_at_call 20; ((with_reducible refine (HO.out _ R5.out).mono ?_); rintro e wn ⟨rfl, hgn⟩; have R5 := Lib.hid (Rooms.gr R5.out hgn); have HG := Lib.hid (Gr.trans HG.out hgn); have d4 := Gr.blk hgn d4; have d5 := Gr.blk hgn d5; clear a4 a5; obtain ⟨a4, -⟩ := d4.facts; obtain ⟨a5, -⟩ := d5.facts)))
        refine wp_region_phi 29 [dVal (.pointer (some ⟨m4, 7, none⟩)),
          dVal (.bool true),
          dVal (.bool false),
          dVal (.bool false),
          dVal (.pointer (some ⟨m5, 7, none⟩)),
          dVal (.bool true),
          dVal (.bool false),
          dVal (.bool false),
          dVal (.bool false),
          dVal (.agg #[.int .i64 0, .int .i64 X, .int .i64 Y, .int .i64 0, .int .i64 0, .int .i64 P, .int .i64 Q, .bool true, .bool false]),
          dVal (.agg #[.int .i64 0, .int .i64 X', .int .i64 Y', .int .i64 0, .int .i64 0, .int .i64 P', .int .i64 Q', .bool true, .bool false]),
          dVal (.bool true),
          dVal (.pointer (some ⟨m4, 1, none⟩)),
          dVal (.pointer (some ⟨m4, 1, none⟩)),
          dVal (.int .i64 X),
          dVal (.pointer (some ⟨m4, 1, none⟩)),
          dVal (.pointer (some ⟨m4, 2, none⟩)),
          dVal (.int .i64 Y),
          dVal (.pointer (some ⟨m4, 5, none⟩)),
          dVal (.int .i64 P),
          dVal (.pointer (some ⟨m5, 5, none⟩)),
          dVal (.int .i64 P'),
          dVal (.int .i64 (P + P')),
          dVal (.agg #[.int .i64 0, .int .i64 X, .int .i64 Y, .int .i64 0, .int .i64 0, .int .i64 (P + P'), .int .i64 (P + P'), .bool true, .bool false]),
          dVal (.pointer (some ⟨m5, 1, none⟩)),
          dVal (.agg #[.int .i64 X', .int .i64 Y']),
          dVal (.bool true),
          dVal (.bool true),
          dVal (.bool true)]
          (by kernel_rfl) (by kernel_rfl) (by kernel_rfl) ⟨?_, ?_, ?_, ?_, ?_, ?_, ?_, ?_, ?_, ?_, ?_, ?_, ?_, ?_, ?_, ?_, ?_, ?_, ?_, ?_, ?_, ?_, ?_, ?_, ?_, ?_, ?_, ?_, ?_, trivial⟩ ?_
        · intro a vs W hg hd hv ho K hK
          have e5 : a.tmps[5]? = some (.pointer (some ⟨m4, 0, none⟩)) := ho 5 (by kernel_rfl)
          rw [if_pos (by rfl)]
          go_simp
          exact hK _ _ rfl (Gr.refl _) (fun h => by cases h)
        · intro a vs W hg hd hv ho K hK
          have e119 : a.tmps[119]? = some (.pointer (some ⟨m4, 7, none⟩)) := (hv 0 _ 119 rfl rfl).trans (congrArg some (hd 0 (by kernel_rfl)))
          obtain ⟨c, -⟩ := (hg.blk d4).facts
          rw [if_pos (by rfl)]
          go_simp
          exact hK _ _ rfl (Gr.refl _) (fun h => by cases h)
        · intro a vs W hg hd hv ho K hK
          have e120 : a.tmps[120]? = some (.bool true) := (hv 1 _ 120 rfl rfl).trans (congrArg some (hd 1 (by kernel_rfl)))
          rw [if_pos (by rfl)]
          go_simp
          exact hK _ _ rfl (Gr.refl _) (fun h => by cases h)
        · intro a vs W hg hd hv ho K hK
          have e121 : a.tmps[121]? = some (.bool false) := (hv 2 _ 121 rfl rfl).trans (congrArg some (hd 2 (by kernel_rfl)))
          rw [if_pos (by rfl)]
          go_simp
          exact hK _ _ rfl (Gr.refl _) (fun h => by cases h)
        · intro a vs W hg hd hv ho K hK
          have e122 : a.tmps[122]? = some (.bool false) := (hv 3 _ 122 rfl rfl).trans (congrArg some (hd 3 (by kernel_rfl)))
          have e6 : a.tmps[6]? = some (.pointer (some ⟨m5, 0, none⟩)) := ho 6 (by kernel_rfl)
          rw [if_pos (by simp [Region.wanted, yielded, e122])]
          go_simp
          exact hK _ _ rfl (Gr.refl _) (fun h => by cases h)
        · intro a vs W hg hd hv ho K hK
          have e122 : a.tmps[122]? = some (.bool false) := (hv 3 _ 122 rfl rfl).trans (congrArg some (hd 3 (by kernel_rfl)))
          have e123 : a.tmps[123]? = some (.pointer (some ⟨m5, 7, none⟩)) := (hv 4 _ 123 rfl rfl).trans (congrArg some (hd 4 (by kernel_rfl)))
          obtain ⟨c, -⟩ := (hg.blk d5).facts
          rw [if_pos (by simp [Region.wanted, yielded, e122])]
          go_simp
          exact hK _ _ rfl (Gr.refl _) (fun h => by cases h)
        · intro a vs W hg hd hv ho K hK
          have e122 : a.tmps[122]? = some (.bool false) := (hv 3 _ 122 rfl rfl).trans (congrArg some (hd 3 (by kernel_rfl)))
          have e124 : a.tmps[124]? = some (.bool true) := (hv 5 _ 124 rfl rfl).trans (congrArg some (hd 5 (by kernel_rfl)))
          rw [if_pos (by simp [Region.wanted, yielded, e122])]
          go_simp
          exact hK _ _ rfl (Gr.refl _) (fun h => by cases h)
        · intro a vs W hg hd hv ho K hK
          have e122 : a.tmps[122]? = some (.bool false) := (hv 3 _ 122 rfl rfl).trans (congrArg some (hd 3 (by kernel_rfl)))
          have e125 : a.tmps[125]? = some (.bool false) := (hv 6 _ 125 rfl rfl).trans (congrArg some (hd 6 (by kernel_rfl)))
          rw [if_pos (by rfl)]
          go_simp
          exact hK _ _ rfl (Gr.refl _) (fun h => by cases h)
        · intro a vs W hg hd hv ho K hK
          have e126 : a.tmps[126]? = some (.bool false) := (hv 7 _ 126 rfl rfl).trans (congrArg some (hd 7 (by kernel_rfl)))
          rw [if_pos (by rfl)]
          go_simp
          exact hK _ _ rfl (Gr.refl _) (fun h => by cases h)
        · intro a vs W hg hd hv ho K hK
          have e127 : a.tmps[127]? = some (.bool false) := (hv 8 _ 127 rfl rfl).trans (congrArg some (hd 8 (by kernel_rfl)))
          have e5 : a.tmps[5]? = some (.pointer (some ⟨m4, 0, none⟩)) := ho 5 (by kernel_rfl)
          obtain ⟨c, -⟩ := (hg.blk d4).facts
          rw [if_pos (by simp [Region.wanted, yielded, e127])]
          go_simp
          exact hK _ _ rfl (Gr.refl _) (fun h => by cases h)
        · intro a vs W hg hd hv ho K hK
          have e127 : a.tmps[127]? = some (.bool false) := (hv 8 _ 127 rfl rfl).trans (congrArg some (hd 8 (by kernel_rfl)))
          have e6 : a.tmps[6]? = some (.pointer (some ⟨m5, 0, none⟩)) := ho 6 (by kernel_rfl)
          obtain ⟨c, -⟩ := (hg.blk d5).facts
          rw [if_pos (by simp [Region.wanted, yielded, e127])]
          go_simp
          exact hK _ _ rfl (Gr.refl _) (fun h => by cases h)
        · intro a vs W hg hd hv ho K hK
          have e127 : a.tmps[127]? = some (.bool false) := (hv 8 _ 127 rfl rfl).trans (congrArg some (hd 8 (by kernel_rfl)))
          have e128 : a.tmps[128]? = some (.agg #[.int .i64 0, .int .i64 X, .int .i64 Y, .int .i64 0, .int .i64 0, .int .i64 P, .int .i64 Q, .bool true, .bool false]) := (hv 9 _ 128 rfl rfl).trans (congrArg some (hd 9 (by kernel_rfl)))
          have e129 : a.tmps[129]? = some (.agg #[.int .i64 0, .int .i64 X', .int .i64 Y', .int .i64 0, .int .i64 0, .int .i64 P', .int .i64 Q', .bool true, .bool false]) := (hv 10 _ 129 rfl rfl).trans (congrArg some (hd 10 (by kernel_rfl)))
          rw [if_pos (by simp [Region.wanted, yielded, e127])]
          go_simp
          refine (HM.out _ (Rooms.gr R5.out hg)).mono ?_
          rintro e W2 ⟨rfl, hg2⟩
          exact hK _ _ rfl hg2 (fun h => by cases h)
        · intro a vs W hg hd hv ho K hK
          have e127 : a.tmps[127]? = some (.bool false) := (hv 8 _ 127 rfl rfl).trans (congrArg some (hd 8 (by kernel_rfl)))
          have e5 : a.tmps[5]? = some (.pointer (some ⟨m4, 0, none⟩)) := ho 5 (by kernel_rfl)
          rw [if_pos (by simp [Region.wanted, yielded, e127])]
          go_simp
          exact hK _ _ rfl (Gr.refl _) (fun h => by cases h)
        · intro a vs W hg hd hv ho K hK
          have e127 : a.tmps[127]? = some (.bool false) := (hv 8 _ 127 rfl rfl).trans (congrArg some (hd 8 (by kernel_rfl)))
          have e131 : a.tmps[131]? = some (.pointer (some ⟨m4, 1, none⟩)) := (hv 12 _ 131 rfl rfl).trans (congrArg some (hd 12 (by kernel_rfl)))
          rw [if_pos (by simp [Region.wanted, yielded, e127])]
          go_simp
          exact hK _ _ rfl (Gr.refl _) (fun h => by cases h)
        · intro a vs W hg hd hv ho K hK
          have e127 : a.tmps[127]? = some (.bool false) := (hv 8 _ 127 rfl rfl).trans (congrArg some (hd 8 (by kernel_rfl)))
          have e132 : a.tmps[132]? = some (.pointer (some ⟨m4, 1, none⟩)) := (hv 13 _ 132 rfl rfl).trans (congrArg some (hd 13 (by kernel_rfl)))
          obtain ⟨c, -⟩ := (hg.blk d4).facts
          rw [if_pos (by simp [Region.wanted, yielded, e127])]
          go_simp
          exact hK _ _ rfl (Gr.refl _) (fun h => by cases h)
        · intro a vs W hg hd hv ho K hK
          have e127 : a.tmps[127]? = some (.bool false) := (hv 8 _ 127 rfl rfl).trans (congrArg some (hd 8 (by kernel_rfl)))
          have e5 : a.tmps[5]? = some (.pointer (some ⟨m4, 0, none⟩)) := ho 5 (by kernel_rfl)
          rw [if_pos (by simp [Region.wanted, yielded, e127])]
          go_simp
          exact hK _ _ rfl (Gr.refl _) (fun h => by cases h)
        · intro a vs W hg hd hv ho K hK
          have e127 : a.tmps[127]? = some (.bool false) := (hv 8 _ 127 rfl rfl).trans (congrArg some (hd 8 (by kernel_rfl)))
          have e134 : a.tmps[134]? = some (.pointer (some ⟨m4, 1, none⟩)) := (hv 15 _ 134 rfl rfl).trans (congrArg some (hd 15 (by kernel_rfl)))
          rw [if_pos (by simp [Region.wanted, yielded, e127])]
          go_simp
          exact hK _ _ rfl (Gr.refl _) (fun h => by cases h)
        · intro a vs W hg hd hv ho K hK
          have e127 : a.tmps[127]? = some (.bool false) := (hv 8 _ 127 rfl rfl).trans (congrArg some (hd 8 (by kernel_rfl)))
          have e135 : a.tmps[135]? = some (.pointer (some ⟨m4, 2, none⟩)) := (hv 16 _ 135 rfl rfl).trans (congrArg some (hd 16 (by kernel_rfl)))
          obtain ⟨c, -⟩ := (hg.blk d4).facts
          rw [if_pos (by simp [Region.wanted, yielded, e127])]
          go_simp
          exact hK _ _ rfl (Gr.refl _) (fun h => by cases h)
        · intro a vs W hg hd hv ho K hK
          have e127 : a.tmps[127]? = some (.bool false) := (hv 8 _ 127 rfl rfl).trans (congrArg some (hd 8 (by kernel_rfl)))
          have e5 : a.tmps[5]? = some (.pointer (some ⟨m4, 0, none⟩)) := ho 5 (by kernel_rfl)
          rw [if_pos (by simp [Region.wanted, yielded, e127])]
          go_simp
          exact hK _ _ rfl (Gr.refl _) (fun h => by cases h)
        · intro a vs W hg hd hv ho K hK
          have e127 : a.tmps[127]? = some (.bool false) := (hv 8 _ 127 rfl rfl).trans (congrArg some (hd 8 (by kernel_rfl)))
          have e137 : a.tmps[137]? = some (.pointer (some ⟨m4, 5, none⟩)) := (hv 18 _ 137 rfl rfl).trans (congrArg some (hd 18 (by kernel_rfl)))
          obtain ⟨c, -⟩ := (hg.blk d4).facts
          rw [if_pos (by simp [Region.wanted, yielded, e127])]
          go_simp
          exact hK _ _ rfl (Gr.refl _) (fun h => by cases h)
        · intro a vs W hg hd hv ho K hK
          have e127 : a.tmps[127]? = some (.bool false) := (hv 8 _ 127 rfl rfl).trans (congrArg some (hd 8 (by kernel_rfl)))
          have e6 : a.tmps[6]? = some (.pointer (some ⟨m5, 0, none⟩)) := ho 6 (by kernel_rfl)
          rw [if_pos (by simp [Region.wanted, yielded, e127])]
          go_simp
          exact hK _ _ rfl (Gr.refl _) (fun h => by cases h)
        · intro a vs W hg hd hv ho K hK
          have e127 : a.tmps[127]? = some (.bool false) := (hv 8 _ 127 rfl rfl).trans (congrArg some (hd 8 (by kernel_rfl)))
          have e139 : a.tmps[139]? = some (.pointer (some ⟨m5, 5, none⟩)) := (hv 20 _ 139 rfl rfl).trans (congrArg some (hd 20 (by kernel_rfl)))
          obtain ⟨c, -⟩ := (hg.blk d5).facts
          rw [if_pos (by simp [Region.wanted, yielded, e127])]
          go_simp
          exact hK _ _ rfl (Gr.refl _) (fun h => by cases h)
        · intro a vs W hg hd hv ho K hK
          have e127 : a.tmps[127]? = some (.bool false) := (hv 8 _ 127 rfl rfl).trans (congrArg some (hd 8 (by kernel_rfl)))
          have e138 : a.tmps[138]? = some (.int .i64 P) := (hv 19 _ 138 rfl rfl).trans (congrArg some (hd 19 (by kernel_rfl)))
          have e140 : a.tmps[140]? = some (.int .i64 P') := (hv 21 _ 140 rfl rfl).trans (congrArg some (hd 21 (by kernel_rfl)))
          have ew : IntKind.i64.wrap (P + P') = P + P' := IntWalk.i64_in _ (by omega)
          rw [if_pos (by simp [Region.wanted, yielded, e127])]
          go_simp
          exact hK _ _ rfl (Gr.refl _) (fun h => by cases h)
        · intro a vs W hg hd hv ho K hK
          have e127 : a.tmps[127]? = some (.bool false) := (hv 8 _ 127 rfl rfl).trans (congrArg some (hd 8 (by kernel_rfl)))
          have e133 : a.tmps[133]? = some (.int .i64 X) := (hv 14 _ 133 rfl rfl).trans (congrArg some (hd 14 (by kernel_rfl)))
          have e136 : a.tmps[136]? = some (.int .i64 Y) := (hv 17 _ 136 rfl rfl).trans (congrArg some (hd 17 (by kernel_rfl)))
          have e141 : a.tmps[141]? = some (.int .i64 (P + P')) := (hv 22 _ 141 rfl rfl).trans (congrArg some (hd 22 (by kernel_rfl)))
          rw [if_pos (by simp [Region.wanted, yielded, e127])]
          go_simp
          refine (Round_any X Y (P + P') _).mono ?_
          rintro e W2 ⟨rfl, hg2⟩
          exact hK _ _ rfl hg2 (fun h => by cases h)
        · intro a vs W hg hd hv ho K hK
          have e127 : a.tmps[127]? = some (.bool false) := (hv 8 _ 127 rfl rfl).trans (congrArg some (hd 8 (by kernel_rfl)))
          have e6 : a.tmps[6]? = some (.pointer (some ⟨m5, 0, none⟩)) := ho 6 (by kernel_rfl)
          rw [if_pos (by simp [Region.wanted, yielded, e127])]
          go_simp
          exact hK _ _ rfl (Gr.refl _) (fun h => by cases h)
        · intro a vs W hg hd hv ho K hK
          have e127 : a.tmps[127]? = some (.bool false) := (hv 8 _ 127 rfl rfl).trans (congrArg some (hd 8 (by kernel_rfl)))
          have e143 : a.tmps[143]? = some (.pointer (some ⟨m5, 1, none⟩)) := (hv 24 _ 143 rfl rfl).trans (congrArg some (hd 24 (by kernel_rfl)))
          obtain ⟨c, -⟩ := (hg.blk d5).facts
          rw [if_pos (by simp [Region.wanted, yielded, e127])]
          go_simp
          exact hK _ _ rfl (Gr.refl _) (fun h => by cases h)
        · intro a vs W hg hd hv ho K hK
          have e127 : a.tmps[127]? = some (.bool false) := (hv 8 _ 127 rfl rfl).trans (congrArg some (hd 8 (by kernel_rfl)))
          have e142 : a.tmps[142]? = some (.agg #[.int .i64 0, .int .i64 X, .int .i64 Y, .int .i64 0, .int .i64 0, .int .i64 (P + P'), .int .i64 (P + P'), .bool true, .bool false]) := (hv 23 _ 142 rfl rfl).trans (congrArg some (hd 23 (by kernel_rfl)))
          have e144 : a.tmps[144]? = some (.agg #[.int .i64 X', .int .i64 Y']) := (hv 25 _ 144 rfl rfl).trans (congrArg some (hd 25 (by kernel_rfl)))
          rw [if_pos (by simp [Region.wanted, yielded, e127])]
          go_simp
          refine (Has_is _ H4.out).mono ?_
          rintro e W2 ⟨rfl, hg2⟩
          exact hK _ _ rfl hg2 (fun h => by cases h)
        · intro a vs W hg hd hv ho K hK
          have e127 : a.tmps[127]? = some (.bool false) := (hv 8 _ 127 rfl rfl).trans (congrArg some (hd 8 (by kernel_rfl)))
          have e130 : a.tmps[130]? = some (.bool true) := (hv 11 _ 130 rfl rfl).trans (congrArg some (hd 11 (by kernel_rfl)))
          have e145 : a.tmps[145]? = some (.bool true) := (hv 26 _ 145 rfl rfl).trans (congrArg some (hd 26 (by kernel_rfl)))
          rw [if_pos (by simp [Region.wanted, yielded, e127])]
          go_simp
          exact hK _ _ rfl (Gr.refl _) (fun h => by cases h)
        · intro a vs W hg hd hv ho K hK
          have e127 : a.tmps[127]? = some (.bool false) := (hv 8 _ 127 rfl rfl).trans (congrArg some (hd 8 (by kernel_rfl)))
          have e146 : a.tmps[146]? = some (.bool true) := (hv 27 _ 146 rfl rfl).trans (congrArg some (hd 27 (by kernel_rfl)))
          rw [if_pos (by rfl)]
          go_simp
          exact hK _ _ rfl (Gr.refl _) (fun h => by cases h)
        intro vs W hg hφ hne
        have f0 : vs 0 = .pointer (some ⟨m4, 7, none⟩) := hφ 0 (by omega)
        have f1 : vs 1 = .bool true := hφ 1 (by omega)
        have f2 : vs 2 = .bool false := hφ 2 (by omega)
        have f3 : vs 3 = .bool false := hφ 3 (by omega)
        have f4 : vs 4 = .pointer (some ⟨m5, 7, none⟩) := hφ 4 (by omega)
        have f5 : vs 5 = .bool true := hφ 5 (by omega)
        have f6 : vs 6 = .bool false := hφ 6 (by omega)
        have f7 : vs 7 = .bool false := hφ 7 (by omega)
        have f8 : vs 8 = .bool false := hφ 8 (by omega)
        have f9 : vs 9 = .agg #[.int .i64 0, .int .i64 X, .int .i64 Y, .int .i64 0, .int .i64 0, .int .i64 P, .int .i64 Q, .bool true, .bool false] := hφ 9 (by omega)
        have f10 : vs 10 = .agg #[.int .i64 0, .int .i64 X', .int .i64 Y', .int .i64 0, .int .i64 0, .int .i64 P', .int .i64 Q', .bool true, .bool false] := hφ 10 (by omega)
        have f11 : vs 11 = .bool true := hφ 11 (by omega)
        have f12 : vs 12 = .pointer (some ⟨m4, 1, none⟩) := hφ 12 (by omega)
        have f13 : vs 13 = .pointer (some ⟨m4, 1, none⟩) := hφ 13 (by omega)
        have f14 : vs 14 = .int .i64 X := hφ 14 (by omega)
        have f15 : vs 15 = .pointer (some ⟨m4, 1, none⟩) := hφ 15 (by omega)
        have f16 : vs 16 = .pointer (some ⟨m4, 2, none⟩) := hφ 16 (by omega)
        have f17 : vs 17 = .int .i64 Y := hφ 17 (by omega)
        have f18 : vs 18 = .pointer (some ⟨m4, 5, none⟩) := hφ 18 (by omega)
        have f19 : vs 19 = .int .i64 P := hφ 19 (by omega)
        have f20 : vs 20 = .pointer (some ⟨m5, 5, none⟩) := hφ 20 (by omega)
        have f21 : vs 21 = .int .i64 P' := hφ 21 (by omega)
        have f22 : vs 22 = .int .i64 (P + P') := hφ 22 (by omega)
        have f23 : vs 23 = .agg #[.int .i64 0, .int .i64 X, .int .i64 Y, .int .i64 0, .int .i64 0, .int .i64 (P + P'), .int .i64 (P + P'), .bool true, .bool false] := hφ 23 (by omega)
        have f24 : vs 24 = .pointer (some ⟨m5, 1, none⟩) := hφ 24 (by omega)
        have f25 : vs 25 = .agg #[.int .i64 X', .int .i64 Y'] := hφ 25 (by omega)
        have f26 : vs 26 = .bool true := hφ 26 (by omega)
        have f27 : vs 27 = .bool true := hφ 27 (by omega)
        have f28 : vs 28 = .bool true := hφ 28 (by omega)
        simp only [List.take_succ_cons, List.take_zero, List.drop_succ_cons, List.drop_zero, putAll, Act.put, List.setIfInBounds_toArray, List.set_cons_zero, List.set_cons_succ, f0, f1, f2, f3, f4, f5, f6, f7, f8, f9, f10, f11, f12, f13, f14, f15, f16, f17, f18, f19, f20, f21, f22, f23, f24, f25, f26, f27, f28]
        clear hφ hne f0 f1 f2 f3 f4 f5 f6 f7 f8 f9 f10 f11 f12 f13 f14 f15 f16 f17 f18 f19 f20 f21 f22 f23 f24 f25 f26 f27 f28
        go_wp2
        go_ret
        exact ⟨rfl, HG.out.trans hg⟩
end Go.Proofs.YtggcfjeehpcclaaDoor
