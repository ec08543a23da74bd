/- Watches, inputs; the contract of Valid. -/
import Derived.Test.YtinefblphbicaaaDoorH1
namespace Go.Proofs.YtinefblphbicaaaDoor
open Go.RowKit

structure Vec where
  x : Int
  y : Int
def Vec.cells (b : Vec) : List SV := [.v (.int .i64 b.x), .v (.int .i64 b.y)]
def Vec.sv (b : Vec) : SV := .agg b.cells
def Vec.of (x : SV) : Vec := ⟨(hdS (x.al)).iv, (hdS (tlS (x.al))).iv⟩
def rdVec : Rd Vec := ⟨.agg [.v (.int .i64 0), .v (.int .i64 0)], Vec.of, Vec.sv, fun _ => rfl⟩

structure Input where
  client : Int
  seq : Int
  tick : Int
  moveX : Int
  moveY : Int
  fire : Bool
  aimX : Int
  aimY : Int
  seen : Int
  part : Int
def Input.cells (b : Input) : List SV := [.v (.int .i64 b.client), .v (.int .i64 b.seq), .v (.int .i64 b.tick), .v (.int .i64 b.moveX), .v (.int .i64 b.moveY), .v (.bool b.fire), .v (.int .i64 b.aimX), .v (.int .i64 b.aimY), .v (.int .i64 b.seen), .v (.int .i64 b.part)]
def Input.sv (b : Input) : SV := .agg b.cells
def Input.of (x : SV) : Input := ⟨(hdS (x.al)).iv, (hdS (tlS (x.al))).iv, (hdS (tlS (tlS (x.al)))).iv, (hdS (tlS (tlS (tlS (x.al))))).iv, (hdS (tlS (tlS (tlS (tlS (x.al)))))).iv, (hdS (tlS (tlS (tlS (tlS (tlS (x.al))))))).bv, (hdS (tlS (tlS (tlS (tlS (tlS (tlS (x.al)))))))).iv, (hdS (tlS (tlS (tlS (tlS (tlS (tlS (tlS (x.al))))))))).iv, (hdS (tlS (tlS (tlS (tlS (tlS (tlS (tlS (tlS (x.al)))))))))).iv, (hdS (tlS (tlS (tlS (tlS (tlS (tlS (tlS (tlS (tlS (x.al))))))))))).iv⟩
def rdInput : Rd Input := ⟨.agg [.v (.int .i64 0), .v (.int .i64 0), .v (.int .i64 0), .v (.int .i64 0), .v (.int .i64 0), .v (.bool false), .v (.int .i64 0), .v (.int .i64 0), .v (.int .i64 0), .v (.int .i64 0)], Input.of, Input.sv, fun _ => rfl⟩

structure Watch where
  client : Int
  seq : Int
  times : Fam
  counts0 : Int
  counts1 : Int
  counts2 : Int
  counts3 : Int
  counts4 : Int
  counts5 : Int
  counts6 : Int
  points : Int
  since : Int
def Watch.cells (b : Watch) : List SV := [.v (.int .i64 b.client), .v (.int .i64 b.seq), .rs 1 b.times.n fun i => [.v (.int .i64 (b.times.g i))], .v (.int .i64 b.counts0), .v (.int .i64 b.counts1), .v (.int .i64 b.counts2), .v (.int .i64 b.counts3), .v (.int .i64 b.counts4), .v (.int .i64 b.counts5), .v (.int .i64 b.counts6), .v (.int .i64 b.points), .v (.int .i64 b.since)]
def Watch.sv (b : Watch) : SV := .agg b.cells
def Watch.of (x : SV) : Watch := ⟨(hdS (x.al)).iv, (hdS (tlS (x.al))).iv, ⟨(hdS (tlS (tlS (x.al)))).rn, fun i => (hdS ((hdS (tlS (tlS (x.al)))).rf i)).iv⟩, (hdS (tlS (tlS (tlS (x.al))))).iv, (hdS (tlS (tlS (tlS (tlS (x.al)))))).iv, (hdS (tlS (tlS (tlS (tlS (tlS (x.al))))))).iv, (hdS (tlS (tlS (tlS (tlS (tlS (tlS (x.al)))))))).iv, (hdS (tlS (tlS (tlS (tlS (tlS (tlS (tlS (x.al))))))))).iv, (hdS (tlS (tlS (tlS (tlS (tlS (tlS (tlS (tlS (x.al)))))))))).iv, (hdS (tlS (tlS (tlS (tlS (tlS (tlS (tlS (tlS (tlS (x.al))))))))))).iv, (hdS (tlS (tlS (tlS (tlS (tlS (tlS (tlS (tlS (tlS (tlS (x.al)))))))))))).iv, (hdS (tlS (tlS (tlS (tlS (tlS (tlS (tlS (tlS (tlS (tlS (tlS (x.al))))))))))))).iv⟩
def rdWatch : Rd Watch := ⟨.agg [.v (.int .i64 0), .v (.int .i64 0), .rs 1 0 fun _ => [.v (.int .i64 0)], .v (.int .i64 0), .v (.int .i64 0), .v (.int .i64 0), .v (.int .i64 0), .v (.int .i64 0), .v (.int .i64 0), .v (.int .i64 0), .v (.int .i64 0), .v (.int .i64 0)], Watch.of, Watch.sv, fun _ => rfl⟩

theorem dec1I {k k' : IntKind} {n : Int} : (rds1 (rdI k)).dec [.v (.int k' n)] = n := rfl
theorem dec1F {k : IntKind} {n : Nat} {h : Nat → List SV} : (rds1 (rdF k)).dec [.rs 1 n h] = ⟨n, fun i => (hdS (h i)).iv⟩ := rfl
theorem fam_eta {k : IntKind} {f : Fam} : (⟨f.n, fun i => (hdS [SV.v (Value.int k (f.g i))]).iv⟩ : Fam) = f := rfl
theorem Watch.of_sv (w : Watch) : Watch.of w.sv = w := rfl
def Watch.ok (w : Watch) : Bool :=
  decide (1 ≤ w.client) && decide (w.client ≤ 8) && decide ((w.times.n : Int) ≤ 40) && w.times.sorted && decide (0 ≤ w.points) && decide (w.points ≤ 1048576) && isTick w.since &&
    (decide ((w.times.n : Int) ≤ 0) || isTick (w.times.g 0) && isTick (w.times.g ((w.times.n : Int) - 1).toNat)) &&
    decide (0 ≤ w.counts0) && decide (0 ≤ w.counts1) && decide (0 ≤ w.counts2) && decide (0 ≤ w.counts3) && decide (0 ≤ w.counts4) && decide (0 ≤ w.counts5) && decide (0 ≤ w.counts6)
noncomputable def fnIndex : FnI cx := ⟨35, Tryd.call35, Tryd.f35, Tryd.func35, [], [], [], 9, by kernel_rfl⟩
noncomputable def fnContains : FnI cx := ⟨31, Tryd.call31, Tryd.f31, Tryd.func31, [], [], [], 1, by kernel_rfl⟩
set_option maxHeartbeats 2000000 in
set_option maxRecDepth 8000 in
theorem valid_walk : ∀ w : Watch, conj [(w.times.n : Int) ≤ 1000000] → evFn (C := cx) [conTick, conSorted, conNeg] [fnIndex, fnContains] 3 noHow Tryd.f9 ((rds1 rdWatch).enc w) fun v H _ => resOut (.v (.bool w.ok)) H v := by
  intro w (hn : (w.times.n : Int) ≤ 1000000)
  repeat' (first | (refine And.intro ?_ ?_) | (intro _))
  all_goals first | exact trivial | exact hn | (refine Eq.trans ?_ rfl) | skip
  all_goals (try simp only [dec1I, dec1F, fam_eta] at *)
  all_goals first | omega | (simp only [Watch.ok]; grind) | grind
noncomputable def conValid : Con cx := walkCon 9 Tryd.call9 (rds1 rdWatch) (fun w => [(w.times.n : Int) ≤ 1000000]) (fun w => .v (.bool w.ok)) (fun _ => noHow) [] (fun _ => rfl) follows Tryd.func9 (by kernel_rfl) valid_walk
end Go.Proofs.YtinefblphbicaaaDoor
