/- ShapeRuns by computation. -/
import Derived.Test.YtggcfjeehpcclaaDoorX6
import Derived.Test.YtggcfjeehpcclaaDoorY4
namespace Go.Proofs.YtggcfjeehpcclaaDoor
open Go.RowKit

/-- What the loop keeps. -/
def runsInv (f g : Form) (al : Bool) : Cut := ⟨Int × Int × Int, fun x => RunInv (runF f.body g.body al) x.1 x.2.1 x.2.2,
  fun x => ⟨[(2, ⟨0, 0, [], .bl al⟩), (7, ⟨0, 0, [], .p 2 0⟩), (8, ⟨0, 0, [], .p 3 0⟩), (9, ⟨0, 0, [], .v (.int .i64 x.2.1)⟩), (10, ⟨0, 0, [], .v (.int .i64 x.2.2)⟩), (11, ⟨0, 0, [], .v (.int .i64 x.1)⟩)],
    [(2, ⟨[.v (.int .i64 f.body.iD), .v (.int .i64 f.body.posX), .v (.int .i64 f.body.posY), .v (.int .i64 f.body.velX), .v (.int .i64 f.body.velY), .v (.int .i64 f.body.w), .v (.int .i64 f.body.h), .v (.bool f.body.round), .v (.bool f.body.fixed)], 25⟩),
     (3, ⟨[.v (.int .i64 g.body.iD), .v (.int .i64 g.body.posX), .v (.int .i64 g.body.posY), .v (.int .i64 g.body.velX), .v (.int .i64 g.body.velY), .v (.int .i64 g.body.w), .v (.int .i64 g.body.h), .v (.bool g.body.round), .v (.bool g.body.fixed)], 25⟩)], 4, 0, [], []⟩,
  fun x => (602 - x.1).toNat⟩

set_option maxRecDepth 100000 in
set_option maxHeartbeats 4000000 in
theorem runs_walk (f g : Form) (al : Bool) (W : World) (hf : f.In) (hg : g.In) (hG : cx.Grd W) : Calls Tryd.prog 6 #[f.val, g.val, .bool al] W fun e W' => e = .returned (.bool true) ∧ Gr W W' := by
  refine pure_ev (C := cx) (Γ := G3) (args := [f.sv, g.sv, .bl al]) ⟨[], [], [(6, runsInv f g al)], 0⟩ follows Tryd.func6 rfl (by kernel_rfl) (by kernel_rfl) hG rfl ?_
  have ha := f.made
  have hb := g.made
  have oa := f.body_ok
  have ob := g.body_ok
  obtain ⟨a1, a2, a3, a4, a5, a6, a7, a8, a9⟩ := oa
  obtain ⟨b1, b2, b3, b4, b5, b6, b7, b8, b9⟩ := ob
  have L := runF_law ha hb al
  refine ⟨hf, ?_⟩
  refine ⟨hg, ?_⟩
  cases al with
  | false =>
    refine And.intro ?_ ?_
    · refine Exists.intro (0, 0, 0) (Exists.intro [] (And.intro (RunInv.start _) (And.intro rfl (And.intro ?_ ?_))))
      · refine And.intro (fun _ _ h => h) (And.intro (fun _ _ h => h) (And.intro (fun _ _ h => h) (And.intro (fun _ _ h => h) (And.intro (fun _ _ h => h) (And.intro (fun _ _ h => h) trivial)))))
      · refine And.intro (And.intro rfl (fun _ _ h => h)) (And.intro (And.intro rfl (fun _ _ h => h)) trivial)
    · refine fun (x : Int × Int × Int) (hx : RunInv (runF f.body g.body false) x.1 x.2.1 x.2.2) => ?_
      obtain ⟨e, o, n⟩ := x
      simp only at hx
      refine And.intro (fun h => ?_) (fun h => ?_)
      · have hx0 := hx.e0
        have hx1 := hx.o0
        have hx2 := hx.o1
        have hx3 := hx.n0
        have hx4 := hx.n1
        have he : e ≤ 601 := of_decide_eq_true h
        clear h
        obtain ⟨kn, ko, km, kt⟩ := run_x ha hb hx0 he
        have st := run_step L hx he
        repeat' (first | refine And.intro ?_ ?_ | intro _)
        all_goals try ((try simp only [Form.eta, Body.eta, Body.shift]); omega)
        all_goals clear hf hg hG ha hb L
        all_goals try simp only [Form.eta, Body.eta] at *
        all_goals rcases st with ⟨⟨t1, t2, t3⟩, q1, q2, q3⟩ | ⟨⟨t1, t2, t3⟩, q1, q2, q3⟩ | ⟨⟨t1, t2, t3⟩, q3⟩
        all_goals rw [t1] at ko
        all_goals rw [t2] at km
        all_goals rw [t3] at kt
        all_goals first
          | (exfalso
             clear hx q3 t1 t2 t3
             simp only [kn, ko, km, kt, decide_eq_true_eq, decide_eq_false_iff_not, Bool.or_eq_true, Bool.and_eq_true, Bool.or_eq_false_iff, Bool.and_eq_false_imp, bne_iff_ne, ne_eq, Bool.not_true, Bool.true_or, Bool.or_true, Bool.false_or, Bool.or_false, Bool.true_and, Bool.false_and, Bool.and_true, Bool.and_false, bne_self_eq_false, Bool.true_eq_false, Bool.false_eq_true] at * <;> omega)
          | skip
        · refine Exists.intro (e + 1, o + 1, n) ?_
          refine Exists.intro [] ?_
          refine And.intro q3 (And.intro (by show (602 - (e + 1)).toNat < (602 - e).toNat; omega) ?_)
          refine And.intro rfl (And.intro ?_ ?_)
          · exact And.intro (fun _ _ h => h) (And.intro (fun _ _ h => h) (And.intro (fun _ _ h => h) (And.intro (fun _ _ h => h) (And.intro (fun _ _ h => h) (And.intro (fun _ _ h => h) trivial)))))
          · exact And.intro (And.intro rfl (fun _ _ h => h)) (And.intro (And.intro rfl (fun _ _ h => h)) trivial)
        · refine Exists.intro (e + 1, o, n + 1) ?_
          refine Exists.intro [] ?_
          refine And.intro q3 (And.intro (by show (602 - (e + 1)).toNat < (602 - e).toNat; omega) ?_)
          refine And.intro rfl (And.intro ?_ ?_)
          · exact And.intro (fun _ _ h => h) (And.intro (fun _ _ h => h) (And.intro (fun _ _ h => h) (And.intro (fun _ _ h => h) (And.intro (fun _ _ h => h) (And.intro (fun _ _ h => h) trivial)))))
          · exact And.intro (And.intro rfl (fun _ _ h => h)) (And.intro (And.intro rfl (fun _ _ h => h)) trivial)
        · refine Exists.intro (e + 1, o, n) ?_
          refine Exists.intro [] ?_
          refine And.intro q3 (And.intro (by show (602 - (e + 1)).toNat < (602 - e).toNat; omega) ?_)
          refine And.intro rfl (And.intro ?_ ?_)
          · exact And.intro (fun _ _ h => h) (And.intro (fun _ _ h => h) (And.intro (fun _ _ h => h) (And.intro (fun _ _ h => h) (And.intro (fun _ _ h => h) (And.intro (fun _ _ h => h) trivial)))))
          · exact And.intro (And.intro rfl (fun _ _ h => h)) (And.intro (And.intro rfl (fun _ _ h => h)) trivial)
      · have hl := hx.last
        repeat' (first | refine And.intro ?_ ?_ | intro _)
        refine congrArg (fun b => some (Value.bool b)) ?_
        show (decide (o ≤ 600) && (decide (o = 0) || decide (n ≤ 1))) = true
        simp only [decide_eq_true_eq, Bool.or_eq_true, Bool.and_eq_true]
        exact hl
  | true =>
    refine And.intro ?_ ?_
    · refine Exists.intro (0, 0, 0) (Exists.intro [] (And.intro (RunInv.start _) (And.intro rfl (And.intro ?_ ?_))))
      · refine And.intro (fun _ _ h => h) (And.intro (fun _ _ h => h) (And.intro (fun _ _ h => h) (And.intro (fun _ _ h => h) (And.intro (fun _ _ h => h) (And.intro (fun _ _ h => h) trivial)))))
      · refine And.intro (And.intro rfl (fun _ _ h => h)) (And.intro (And.intro rfl (fun _ _ h => h)) trivial)
    · refine fun (x : Int × Int × Int) (hx : RunInv (runF f.body g.body true) x.1 x.2.1 x.2.2) => ?_
      obtain ⟨e, o, n⟩ := x
      simp only at hx
      refine And.intro (fun h => ?_) (fun h => ?_)
      · have hx0 := hx.e0
        have hx1 := hx.o0
        have hx2 := hx.o1
        have hx3 := hx.n0
        have hx4 := hx.n1
        have he : e ≤ 601 := of_decide_eq_true h
        clear h
        obtain ⟨kn, ko, km, kt⟩ := run_y ha hb hx0 he
        have st := run_step L hx he
        repeat' (first | refine And.intro ?_ ?_ | intro _)
        all_goals try ((try simp only [Form.eta, Body.eta, Body.shift]); omega)
        all_goals clear hf hg hG ha hb L
        all_goals try simp only [Form.eta, Body.eta] at *
        all_goals rcases st with ⟨⟨t1, t2, t3⟩, q1, q2, q3⟩ | ⟨⟨t1, t2, t3⟩, q1, q2, q3⟩ | ⟨⟨t1, t2, t3⟩, q3⟩
        all_goals rw [t1] at ko
        all_goals rw [t2] at km
        all_goals rw [t3] at kt
        all_goals first
          | (exfalso
             clear hx q3 t1 t2 t3
             simp only [kn, ko, km, kt, decide_eq_true_eq, decide_eq_false_iff_not, Bool.or_eq_true, Bool.and_eq_true, Bool.or_eq_false_iff, Bool.and_eq_false_imp, bne_iff_ne, ne_eq, Bool.not_true, Bool.true_or, Bool.or_true, Bool.false_or, Bool.or_false, Bool.true_and, Bool.false_and, Bool.and_true, Bool.and_false, bne_self_eq_false, Bool.true_eq_false, Bool.false_eq_true] at * <;> omega)
          | skip
        · refine Exists.intro (e + 1, o + 1, n) ?_
          refine Exists.intro [] ?_
          refine And.intro q3 (And.intro (by show (602 - (e + 1)).toNat < (602 - e).toNat; omega) ?_)
          refine And.intro rfl (And.intro ?_ ?_)
          · exact And.intro (fun _ _ h => h) (And.intro (fun _ _ h => h) (And.intro (fun _ _ h => h) (And.intro (fun _ _ h => h) (And.intro (fun _ _ h => h) (And.intro (fun _ _ h => h) trivial)))))
          · exact And.intro (And.intro rfl (fun _ _ h => h)) (And.intro (And.intro rfl (fun _ _ h => h)) trivial)
        · refine Exists.intro (e + 1, o, n + 1) ?_
          refine Exists.intro [] ?_
          refine And.intro q3 (And.intro (by show (602 - (e + 1)).toNat < (602 - e).toNat; omega) ?_)
          refine And.intro rfl (And.intro ?_ ?_)
          · exact And.intro (fun _ _ h => h) (And.intro (fun _ _ h => h) (And.intro (fun _ _ h => h) (And.intro (fun _ _ h => h) (And.intro (fun _ _ h => h) (And.intro (fun _ _ h => h) trivial)))))
          · exact And.intro (And.intro rfl (fun _ _ h => h)) (And.intro (And.intro rfl (fun _ _ h => h)) trivial)
        · refine Exists.intro (e + 1, o, n) ?_
          refine Exists.intro [] ?_
          refine And.intro q3 (And.intro (by show (602 - (e + 1)).toNat < (602 - e).toNat; omega) ?_)
          refine And.intro rfl (And.intro ?_ ?_)
          · exact And.intro (fun _ _ h => h) (And.intro (fun _ _ h => h) (And.intro (fun _ _ h => h) (And.intro (fun _ _ h => h) (And.intro (fun _ _ h => h) (And.intro (fun _ _ h => h) trivial)))))
          · exact And.intro (And.intro rfl (fun _ _ h => h)) (And.intro (And.intro rfl (fun _ _ h => h)) trivial)
      · have hl := hx.last
        repeat' (first | refine And.intro ?_ ?_ | intro _)
        refine congrArg (fun b => some (Value.bool b)) ?_
        show (decide (o ≤ 600) && (decide (o = 0) || decide (n ≤ 1))) = true
        simp only [decide_eq_true_eq, Bool.or_eq_true, Bool.and_eq_true]
        exact hl
end Go.Proofs.YtggcfjeehpcclaaDoor
