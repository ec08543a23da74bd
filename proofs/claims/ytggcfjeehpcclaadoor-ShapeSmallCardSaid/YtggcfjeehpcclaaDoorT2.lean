/- ShapeSmall: the walk. -/
import Derived.Test.YtggcfjeehpcclaaDoorT1
namespace Go.Proofs.YtggcfjeehpcclaaDoor
open Go.RowKit

def sl (t : Nat) (v : SV) : Nat × Slot := (t, ⟨0, 0, [], v⟩)
def I64 (x : Int) : Prop := -9223372036854775808 ≤ x ∧ x ≤ 9223372036854775807
theorem five_al {p : Nat → Prop} (h0 : p 0) (h1 : p 1) (h2 : p 2) (h3 : p 3) (h4 : p 4) : ∀ i, i < 5 → p i := fun i hi => by
  match i with
  | 0 => exact h0
  | 1 => exact h1
  | 2 => exact h2
  | 3 => exact h3
  | 4 => exact h4
  | n + 5 => omega
theorem sevn_al {p : Nat → Prop} (h0 : p 0) (h1 : p 1) (h2 : p 2) (h3 : p 3) (h4 : p 4) (h5 : p 5) (h6 : p 6) (h7 : p 7) (h8 : p 8) (h9 : p 9) (h10 : p 10) (h11 : p 11) (h12 : p 12) (h13 : p 13) (h14 : p 14) (h15 : p 15) (h16 : p 16) : ∀ i, i < 17 → p i := fun i hi => by
  match i with
  | 0 => exact h0
  | 1 => exact h1
  | 2 => exact h2
  | 3 => exact h3
  | 4 => exact h4
  | 5 => exact h5
  | 6 => exact h6
  | 7 => exact h7
  | 8 => exact h8
  | 9 => exact h9
  | 10 => exact h10
  | 11 => exact h11
  | 12 => exact h12
  | 13 => exact h13
  | 14 => exact h14
  | 15 => exact h15
  | 16 => exact h16
  | n + 17 => omega
theorem tm {a b : Int} (ha : 0 ≤ a) (hb : 0 < b) : 0 ≤ a.tmod b ∧ a.tmod b < b := by
  rw [Int.tmod_eq_emod_of_nonneg ha]
  exact ⟨Int.emod_nonneg a (by omega), Int.emod_lt_of_pos a hb⟩
def bodF : Nat → Body
  | 0 => ⟨0, 0, 0, 0, 0, 1, 1, false, false⟩
  | 1 => ⟨0, 0, 0, 0, 0, 3, 2, false, false⟩
  | 2 => ⟨0, 0, 0, 0, 0, 1, 1, true, false⟩
  | 3 => ⟨0, 0, 0, 0, 0, 5, 5, true, false⟩
  | _ => ⟨0, 0, 0, 0, 0, 2, 2, true, false⟩
def numF : Nat → Int
  | 0 => -9223372036854775808 | 1 => -1048577 | 2 => -1048576 | 3 => -4097 | 4 => -4096 | 5 => -1 | 6 => 0 | 7 => 1 | 8 => 4096
  | 9 => 4097 | 10 => 16384 | 11 => 16385 | 12 => 65536 | 13 => 65537 | 14 => 1048576 | 15 => 1048577 | _ => 9223372036854775807
def sB : SV := .rs 9 5 fun i => (bodF i).cells
def sN : SV := .rs 1 17 fun i => [.v (.int .i64 (numF i))]
def i64 (n : Int) : SV := .v (.int .i64 n)
def sm0 : Cut := ⟨Nat, fun k => k ≤ 5, fun k => ⟨[sl 1 sB, sl 23 sB, sl 24 (i64 5), sl 25 (i64 k)], [], 0, 0, [], []⟩, fun k => 5 - k⟩
def sm1 (k : Nat) : Cut := ⟨Int, fun x => -12 ≤ x ∧ x ≤ 13, fun x => ⟨[sl 1 sB, sl 2 (i64 k), sl 3 (i64 x), sl 23 sB, sl 24 (i64 5), sl 25 (i64 k)], [], 0, 0, [], []⟩, fun x => (13 - x).toNat⟩
def sm2 (k : Nat) (x : Int) : Cut := ⟨Int, fun y => -12 ≤ y ∧ y ≤ 13, fun y => ⟨[sl 1 sB, sl 2 (i64 k), sl 3 (i64 x), sl 4 (i64 y), sl 23 sB, sl 24 (i64 5), sl 25 (i64 k)], [], 0, 0, [], []⟩, fun y => (13 - y).toNat⟩
def sm3 (k : Nat) (x y : Int) : Cut := ⟨Nat, fun j => j ≤ 5, fun j => ⟨[sl 1 sB, sl 2 (i64 k), sl 3 (i64 x), sl 4 (i64 y), sl 23 sB, sl 24 (i64 5), sl 25 (i64 k), sl 45 sB, sl 46 (i64 5), sl 47 (i64 j)], [], 0, 0, [], []⟩, fun j => 5 - j⟩
def sm4 : Cut := ⟨Nat, fun k => k ≤ 17, fun k => ⟨[sl 1 sB, sl 7 sN, sl 68 sN, sl 69 (i64 17), sl 70 (i64 k)], [], 0, 0, [], []⟩, fun k => 17 - k⟩
def sm5 (k : Nat) : Cut := ⟨Nat, fun j => j ≤ 32, fun j => ⟨[sl 1 sB, sl 7 sN, sl 8 (i64 k), sl 9 (i64 j), sl 68 sN, sl 69 (i64 17), sl 70 (i64 k)], [], 0, 0, [], []⟩, fun j => 32 - j⟩
def sm6 (k j : Nat) : Cut := ⟨Body × Int, fun _ => True, fun b => ⟨[sl 1 sB, sl 7 sN, sl 8 (i64 k), sl 9 (i64 j), sl 10 (.p 0 0), sl 11 (i64 b.2), sl 68 sN, sl 69 (i64 17), sl 70 (i64 k)], [(0, .lay b.1.cells 25)], 1, 0, [], []⟩, fun _ => 0⟩
def sm7 : Cut := ⟨Int, fun x => -1 ≤ x ∧ x ≤ 2, fun x => ⟨[sl 12 (.il .i64 1048576), sl 13 (.il .i64 16384), sl 14 (i64 x)], [], 0, 0, [], []⟩, fun x => (2 - x).toNat⟩
theorem four_al {p : Nat → Prop} (h0 : p 0) (h1 : p 1) (h2 : p 2) (h3 : p 3) : ∀ i, i < 4 → p i := fun i hi => by
  match i with
  | 0 => exact h0
  | 1 => exact h1
  | 2 => exact h2
  | 3 => exact h3
  | n + 4 => omega
def farF (x : Int) : Nat → Body
  | 0 => ⟨0, 1015808 + x, 1048576, 0, 0, 16384, 16384, false, false⟩
  | 1 => ⟨0, 1015808 + x, 1048576, 0, 0, 16384, 16384, true, false⟩
  | 2 => ⟨0, 1048576, -1048576, 0, 0, 1, 16384, false, false⟩
  | _ => ⟨0, 1048576, 1015808 + x, 0, 0, 16384, 16384, true, false⟩
def sm8 (x : Int) : Cut := ⟨Nat, fun k => k ≤ 4, fun k => ⟨[sl 12 (.il .i64 1048576), sl 13 (.il .i64 16384), sl 14 (i64 x), sl 199 (.rs 9 4 fun i => (farF x i).cells), sl 200 (i64 4), sl 201 (i64 k)], [], 0, 0, [], []⟩, fun k => 4 - k⟩
set_option maxHeartbeats 20000000 in
set_option maxRecDepth 8000 in
theorem small_walk : evFn (C := cx) [conAwake, conOne, conTwo, conBox, conRound] [] 0 ⟨[29], [47], [3, 6, 9, 14, 24, 27, 53, 56], 0⟩ Tryd.f5 (rds0.enc ()) fun v H _ => resOut (.bl true) H v := by
  refine Exists.intro sm0 ?_
  refine And.intro ?_ ?_
  · refine ⟨(0 : Nat), [], [.freeze 0], trivial, (by decide : (0 : Nat) ≤ 5), ?_⟩
    refine And.intro rfl ?_
    refine And.intro (five_al ?_ ?_ ?_ ?_ ?_) ?_
    rotate_right
    refine And.intro rfl ?_
    refine And.intro (five_al ?_ ?_ ?_ ?_ ?_) ?_
    all_goals repeat' (first | (refine And.intro ?_ ?_) | (intro _) | exact rfl)
  refine fun (k : Nat) (hk : k ≤ 5) => ?_
  refine And.intro (fun hb => ?_) (fun hb => ?_)
  · have hb : (k : Int) < 5 := of_decide_eq_true hb
    refine Exists.intro (sm1 k) ?_
    refine And.intro ?_ ?_
    · refine ⟨(-12 : Int), [], [], trivial, (by decide : (-12 : Int) ≤ -12 ∧ (-12 : Int) ≤ 13), ?_⟩
      repeat' (first | (refine And.intro ?_ ?_) | (intro _) | exact rfl)
    refine fun (x : Int) (hx : -12 ≤ x ∧ x ≤ 13) => ?_
    refine And.intro (fun hb2 => ?_) (fun hb2 => ?_)
    · have hb2 : x ≤ 12 := of_decide_eq_true hb2
      refine Exists.intro (sm2 k x) ?_
      refine And.intro ?_ ?_
      · refine ⟨(-12 : Int), [], [], trivial, (by decide : (-12 : Int) ≤ -12 ∧ (-12 : Int) ≤ 13), ?_⟩
        repeat' (first | (refine And.intro ?_ ?_) | (intro _) | exact rfl)
      refine fun (y : Int) (hy : -12 ≤ y ∧ y ≤ 13) => ?_
      refine And.intro (fun hb3 => ?_) (fun hb3 => ?_)
      · have hb3 : y ≤ 12 := of_decide_eq_true hb3
        refine And.intro ⟨by omega, by omega⟩ ?_
        refine And.intro (fun hc => (by cases hc)) (fun _ => ?_)
        refine Exists.intro (sm3 k x y) ?_
        refine And.intro ?_ ?_
        · refine ⟨(0 : Nat), [], [], trivial, (by decide : (0 : Nat) ≤ 5), ?_⟩
          repeat' (first | (refine And.intro ?_ ?_) | (intro _) | exact rfl)
        refine fun (j : Nat) (hj : j ≤ 5) => ?_
        refine And.intro (fun hb4 => ?_) (fun hb4 => ?_)
        · have hb4 : (j : Int) < 5 := of_decide_eq_true hb4
          refine And.intro ⟨by omega, by omega⟩ ?_
          refine And.intro ⟨by omega, by omega⟩ ?_
          refine And.intro (fun hc => (by cases hc)) (fun _ => ?_)
          refine And.intro (by unfold I64; omega : I64 ((j : Int) + 1)) ?_
          refine ⟨j + 1, [], [], (by show 5 - (j + 1) < 5 - j; omega), (by omega : j + 1 ≤ 5), ?_⟩
          repeat' (first | (refine And.intro ?_ ?_) | (intro _) | exact rfl)
        · refine And.intro (by unfold I64; omega : I64 (y + 1)) ?_
          refine ⟨y + 1, [], [], (by show (13 - (y + 1)).toNat < (13 - y).toNat; omega), (by omega : -12 ≤ y + 1 ∧ y + 1 ≤ 13), ?_⟩
          repeat' (first | (refine And.intro ?_ ?_) | (intro _) | exact rfl)
      · refine And.intro (by unfold I64; omega : I64 (x + 1)) ?_
        refine ⟨x + 1, [], [], (by show (13 - (x + 1)).toNat < (13 - x).toNat; omega), (by omega : -12 ≤ x + 1 ∧ x + 1 ≤ 13), ?_⟩
        repeat' (first | (refine And.intro ?_ ?_) | (intro _) | exact rfl)
    · refine And.intro (by unfold I64; omega : I64 ((k : Int) + 1)) ?_
      refine ⟨k + 1, [], [], (by show 5 - (k + 1) < 5 - k; omega), (by omega : k + 1 ≤ 5), ?_⟩
      repeat' (first | (refine And.intro ?_ ?_) | (intro _) | exact rfl)
  refine Exists.intro sm4 ?_
  refine And.intro ?_ ?_
  · refine ⟨(0 : Nat), [], [.freeze 0], trivial, (by decide : (0 : Nat) ≤ 17), ?_⟩
    refine And.intro rfl ?_
    refine And.intro (by intro _ _; (repeat' (first | (refine And.intro ?_ ?_) | exact rfl | exact trivial))) ?_
    refine And.intro rfl ?_
    refine And.intro (sevn_al ?_ ?_ ?_ ?_ ?_ ?_ ?_ ?_ ?_ ?_ ?_ ?_ ?_ ?_ ?_ ?_ ?_) ?_
    rotate_right
    refine And.intro rfl ?_
    refine And.intro (sevn_al ?_ ?_ ?_ ?_ ?_ ?_ ?_ ?_ ?_ ?_ ?_ ?_ ?_ ?_ ?_ ?_ ?_) ?_
    all_goals repeat' (first | (refine And.intro ?_ ?_) | (intro _) | exact rfl)
  refine fun (k : Nat) (hk : k ≤ 17) => ?_
  refine And.intro (fun hb => ?_) (fun hb => ?_)
  · have hb : (k : Int) < 17 := of_decide_eq_true hb
    refine Exists.intro (sm5 k) ?_
    refine And.intro ?_ ?_
    · refine ⟨(0 : Nat), [], [], trivial, (by decide : (0 : Nat) ≤ 32), ?_⟩
      repeat' (first | (refine And.intro ?_ ?_) | (intro _) | exact rfl)
    refine fun (j : Nat) (hj : j ≤ 32) => ?_
    refine And.intro (fun hb2 => ?_) (fun hb2 => ?_)
    · have hb2 : (j : Int) < 32 := of_decide_eq_true hb2
      have t5 := tm (a := (j : Int)) (b := 5) (by omega) (by decide)
      have t5k := tm (a := (k : Int)) (b := 5) (by omega) (by decide)
      have t17 := tm (a := (k : Int) + j) (b := 17) (by omega) (by decide)
      refine And.intro ⟨t5.1, t5.2⟩ ?_
      refine And.intro ⟨by omega, by omega⟩ ?_
      refine Exists.intro (sm6 k j) ?_
      refine And.intro ?_ ?_
      · refine And.intro (fun hc => ?_) (fun hc => ?_)
        · clear hc
          refine ⟨((⟨numF (k : Int).toNat, (bodF ((j : Int).tmod 5).toNat).posX, (bodF ((j : Int).tmod 5).toNat).posY, (bodF ((j : Int).tmod 5).toNat).velX, (bodF ((j : Int).tmod 5).toNat).velY, (bodF ((j : Int).tmod 5).toNat).w, (bodF ((j : Int).tmod 5).toNat).h, (bodF ((j : Int).tmod 5).toNat).round, (bodF ((j : Int).tmod 5).toNat).fixed⟩ : Body), numF (k : Int).toNat), [], [], trivial, trivial, ?_⟩
          repeat' (first | (refine And.intro ?_ ?_) | (intro _) | exact rfl)
        clear hc
        refine And.intro (fun hc => ?_) (fun hc => ?_)
        · clear hc
          refine ⟨((⟨(bodF ((j : Int).tmod 5).toNat).iD, numF (k : Int).toNat, (bodF ((j : Int).tmod 5).toNat).posY, (bodF ((j : Int).tmod 5).toNat).velX, (bodF ((j : Int).tmod 5).toNat).velY, (bodF ((j : Int).tmod 5).toNat).w, (bodF ((j : Int).tmod 5).toNat).h, (bodF ((j : Int).tmod 5).toNat).round, (bodF ((j : Int).tmod 5).toNat).fixed⟩ : Body), numF (k : Int).toNat), [], [], trivial, trivial, ?_⟩
          repeat' (first | (refine And.intro ?_ ?_) | (intro _) | exact rfl)
        clear hc
        refine And.intro (fun hc => ?_) (fun hc => ?_)
        · clear hc
          refine ⟨((⟨(bodF ((j : Int).tmod 5).toNat).iD, (bodF ((j : Int).tmod 5).toNat).posX, numF (k : Int).toNat, (bodF ((j : Int).tmod 5).toNat).velX, (bodF ((j : Int).tmod 5).toNat).velY, (bodF ((j : Int).tmod 5).toNat).w, (bodF ((j : Int).tmod 5).toNat).h, (bodF ((j : Int).tmod 5).toNat).round, (bodF ((j : Int).tmod 5).toNat).fixed⟩ : Body), numF (k : Int).toNat), [], [], trivial, trivial, ?_⟩
          repeat' (first | (refine And.intro ?_ ?_) | (intro _) | exact rfl)
        clear hc
        refine And.intro (fun hc => ?_) (fun hc => ?_)
        · clear hc
          refine ⟨((⟨(bodF ((j : Int).tmod 5).toNat).iD, (bodF ((j : Int).tmod 5).toNat).posX, (bodF ((j : Int).tmod 5).toNat).posY, numF (k : Int).toNat, (bodF ((j : Int).tmod 5).toNat).velY, (bodF ((j : Int).tmod 5).toNat).w, (bodF ((j : Int).tmod 5).toNat).h, (bodF ((j : Int).tmod 5).toNat).round, (bodF ((j : Int).tmod 5).toNat).fixed⟩ : Body), numF (k : Int).toNat), [], [], trivial, trivial, ?_⟩
          repeat' (first | (refine And.intro ?_ ?_) | (intro _) | exact rfl)
        clear hc
        refine And.intro (fun hc => ?_) (fun hc => ?_)
        · clear hc
          refine ⟨((⟨(bodF ((j : Int).tmod 5).toNat).iD, (bodF ((j : Int).tmod 5).toNat).posX, (bodF ((j : Int).tmod 5).toNat).posY, (bodF ((j : Int).tmod 5).toNat).velX, numF (k : Int).toNat, (bodF ((j : Int).tmod 5).toNat).w, (bodF ((j : Int).tmod 5).toNat).h, (bodF ((j : Int).tmod 5).toNat).round, (bodF ((j : Int).tmod 5).toNat).fixed⟩ : Body), numF (k : Int).toNat), [], [], trivial, trivial, ?_⟩
          repeat' (first | (refine And.intro ?_ ?_) | (intro _) | exact rfl)
        clear hc
        refine And.intro (fun hc => ?_) (fun hc => ?_)
        · clear hc
          refine ⟨((⟨(bodF ((j : Int).tmod 5).toNat).iD, (bodF ((j : Int).tmod 5).toNat).posX, (bodF ((j : Int).tmod 5).toNat).posY, (bodF ((j : Int).tmod 5).toNat).velX, (bodF ((j : Int).tmod 5).toNat).velY, numF (k : Int).toNat, (bodF ((j : Int).tmod 5).toNat).h, (bodF ((j : Int).tmod 5).toNat).round, (bodF ((j : Int).tmod 5).toNat).fixed⟩ : Body), numF (k : Int).toNat), [], [], trivial, trivial, ?_⟩
          repeat' (first | (refine And.intro ?_ ?_) | (intro _) | exact rfl)
        clear hc
        refine And.intro (fun hc => ?_) (fun hc => ?_)
        · clear hc
          refine ⟨((⟨(bodF ((j : Int).tmod 5).toNat).iD, (bodF ((j : Int).tmod 5).toNat).posX, (bodF ((j : Int).tmod 5).toNat).posY, (bodF ((j : Int).tmod 5).toNat).velX, (bodF ((j : Int).tmod 5).toNat).velY, (bodF ((j : Int).tmod 5).toNat).w, numF (k : Int).toNat, (bodF ((j : Int).tmod 5).toNat).round, (bodF ((j : Int).tmod 5).toNat).fixed⟩ : Body), numF (k : Int).toNat), [], [], trivial, trivial, ?_⟩
          repeat' (first | (refine And.intro ?_ ?_) | (intro _) | exact rfl)
        clear hc
        refine And.intro (fun hc => ?_) (fun hc => ?_)
        · clear hc
          refine ⟨((⟨(bodF ((j : Int).tmod 5).toNat).iD, (bodF ((j : Int).tmod 5).toNat).posX, (bodF ((j : Int).tmod 5).toNat).posY, (bodF ((j : Int).tmod 5).toNat).velX, (bodF ((j : Int).tmod 5).toNat).velY, numF (k : Int).toNat, numF (k : Int).toNat, (bodF ((j : Int).tmod 5).toNat).round, (bodF ((j : Int).tmod 5).toNat).fixed⟩ : Body), numF (k : Int).toNat), [], [], trivial, trivial, ?_⟩
          repeat' (first | (refine And.intro ?_ ?_) | (intro _) | exact rfl)
        clear hc
        refine ⟨((⟨(bodF ((j : Int).tmod 5).toNat).iD, (bodF ((j : Int).tmod 5).toNat).posX, (bodF ((j : Int).tmod 5).toNat).posY, (bodF ((j : Int).tmod 5).toNat).velX, (bodF ((j : Int).tmod 5).toNat).velY, (bodF ((j : Int).tmod 5).toNat).w, (bodF ((j : Int).tmod 5).toNat).h, (bodF ((j : Int).tmod 5).toNat).round, (bodF ((j : Int).tmod 5).toNat).fixed⟩ : Body), numF (k : Int).toNat), [], [], trivial, trivial, ?_⟩
        repeat' (first | (refine And.intro ?_ ?_) | (intro _) | exact rfl)
      refine fun (b : Body × Int) (_ : True) => ?_
      refine And.intro (by unfold I64; omega : I64 ((k : Int) + j)) ?_
      refine And.intro ⟨t17.1, t17.2⟩ ?_
      refine And.intro (fun _ => ⟨t5.1, t5.2⟩) ?_
      refine And.intro (fun _ => ⟨t5k.1, t5k.2⟩) ?_
      refine And.intro (fun hc => (by cases hc)) (fun _ => ?_)
      refine And.intro (by unfold I64; omega : I64 ((j : Int) + 1)) ?_
      refine ⟨j + 1, [], [], (by show 32 - (j + 1) < 32 - j; omega), (by omega : j + 1 ≤ 32), ?_⟩
      repeat' (first | (refine And.intro ?_ ?_) | (intro _) | exact rfl)
    · refine And.intro (by unfold I64; omega : I64 ((k : Int) + 1)) ?_
      refine ⟨k + 1, [], [], (by show 17 - (k + 1) < 17 - k; omega), (by omega : k + 1 ≤ 17), ?_⟩
      repeat' (first | (refine And.intro ?_ ?_) | (intro _) | exact rfl)
  refine Exists.intro sm7 ?_
  refine And.intro ?_ ?_
  · refine ⟨(-1 : Int), [], [], trivial, (by decide : (-1 : Int) ≤ -1 ∧ (-1 : Int) ≤ 2), ?_⟩
    repeat' (first | (refine And.intro ?_ ?_) | (intro _) | exact rfl)
  refine fun (x : Int) (hx : -1 ≤ x ∧ x ≤ 2) => ?_
  refine And.intro (fun hb2 => ?_) (fun hb2 => ?_)
  · have hb2 : x ≤ 1 := of_decide_eq_true hb2
    have q : -9223372036854775808 ≤ (1015808 : Int) + x ∧ (1015808 : Int) + x ≤ 9223372036854775807 := by omega
    have q2 : -9223372036854775808 ≤ (1032192 : Int) + x ∧ (1032192 : Int) + x ≤ 9223372036854775807 := by omega
    refine And.intro q ?_
    refine And.intro q ?_
    refine And.intro q ?_
    refine Exists.intro (sm8 x) ?_
    refine And.intro ?_ ?_
    · refine ⟨(0 : Nat), [], [.freeze 0], trivial, (by decide : (0 : Nat) ≤ 4), ?_⟩
      repeat' (first | (refine And.intro (four_al ?_ ?_ ?_ ?_) ?_) | (refine And.intro ?_ ?_) | exact rfl)
    refine fun (k : Nat) (hk : k ≤ 4) => ?_
    refine And.intro (fun hb3 => ?_) (fun hb3 => ?_)
    · have hb3 : (k : Int) < 4 := of_decide_eq_true hb3
      refine And.intro ⟨by omega, by omega⟩ ?_
      refine And.intro (fun _ => q2) ?_
      refine And.intro (fun hc => (by cases hc)) (fun _ => ?_)
      refine And.intro (by unfold I64; omega : I64 ((k : Int) + 1)) ?_
      refine ⟨k + 1, [], [], (by show 4 - (k + 1) < 4 - k; omega), (by omega : k + 1 ≤ 4), ?_⟩
      repeat' (first | (refine And.intro ?_ ?_) | (intro _) | exact rfl)
    refine And.intro (by unfold I64; omega : I64 (x + 1)) ?_
    refine ⟨x + 1, [], [], (by show (2 - (x + 1)).toNat < (2 - x).toNat; omega), (by omega : -1 ≤ x + 1 ∧ x + 1 ≤ 2), ?_⟩
    repeat' (first | (refine And.intro ?_ ?_) | (intro _) | exact rfl)
  exact rfl
end Go.Proofs.YtggcfjeehpcclaaDoor
