/- store.Add at the end of a world. Histories that share no memory: interp.owned, interp.Push. slices.Insert of one component: in place, and in a new row. store.Set in general: what it makes of a world; what armed makes. store.Set: the walk. RewindShown, RewindKeeps: plain laws. A world in which an entity belongs to a client: armed. interp.Since, rewind.Keep. RewindKeeps: the walk. -/
import Derived.Test.YtjdohgcolhpegaaGreatDoorN2
import Derived.Test.YtjdohgcolhpegaaGreatDoorG24
import Derived.Test.YtjdohgcolhpegaaGreatDoorG25
import Derived.Lib.AppendZerosOnto
import Derived.Lib.Overlaps
import Derived.Laws.IdiomCopy
import Derived.Laws.NewBlocks
import Derived.Shelf.RegionOpenPlain
import Derived.WalkKit
import Derived.Lib.Walk
import Derived.Test.YtjdohgcolhpegaaGreatDoorN5
import Derived.Test.YtjdohgcolhpegaaGreatDoorN4
namespace Go.Proofs.YtjdohgcolhpegaaGreatDoor
open Go.RowKit

theorem wpList_append_run {P : Program} {w w' : World} {ops : Array Oper} {rest : List Oper} {o : Oper} {a : Act} {Q : Exit → Act → World → Prop} (hg : o.guard = none) (s x : Operand) (t ty : TypeId) (hop : o.op = Op.call { callee := Callee.builtin Builtin.append, args := #[s, x], argTypes := #[t, t] }) (hty : o.type = ty)
    {u v r : Value} (h1 : a.eval s = u) (h2 : a.eval x = v) (hrun : (Builtin.append_ #[t, t] ty #[u, v]).run P w = .ok r w') (h : wpList P ops Q rest (a.put o.dst r) w') : wpList P ops Q (o :: rest) a w := by
  refine wpList_plain hg fun K hK' => ?_
  unfold Oper.wp
  have : (execOp a.eval o).run P w = .ok (.value r) w' := by
    obtain ⟨dst, op, type, pos, after, guard⟩ := o
    simp only at hop hty
    subst hop hty
    have e7 : (#[s, x].map a.eval) = #[u, v] := by simp [h1, h2]
    simp only [execOp, resolve, e7, Sem.run_bind, Sem.run_pure, Result.andThen_ok, invoke, builtin, hrun]
  rw [this]
  exact hK' _ _ h
set_option maxRecDepth 20000 in
theorem ins_end (W W' : World) (a a2 : Option Addr) (n cap c2 : Nat) (w : Value) (hn : n ≤ cap) (hn2 : (n : Int) ≤ 9223372036854775807) (h2 : 1 ≤ c2)
    (happ : (Builtin.append_ #[23, 23] 23 #[.slice a n cap, .slice a2 1 c2]).run Tryz.prog W = .ok w W') :
    Calls Tryz.prog 69 #[.slice a n cap, .int .i64 n, .slice a2 1 c2] W fun e W'' => e = .returned w ∧ W'' = W' := by
  go_enter Tryz.func69, Tryz.ntmps69
  go_wp2_with (refine wpList_append_run rfl _ _ _ _ rfl rfl rfl rfl happ ?_)
  all_goals (go_ret; exact ⟨rfl, rfl⟩)
/-- Insert at the end. -/
noncomputable def conInsE : Con cx := conEnd 23 69 Tryz.call69 ins_end
/-- A world with one entity more, behind all others. -/
def Wor.add (w : Wor) (e : Ent) : Wor := ⟨w.tick, ⟨w.l.n + 1, putF w.l.n e w.l.e⟩⟩
def addE (w : Wor) (e : Ent) : Wor × Int := match w.valid && e.right with
  | false => (Wor.no, 2)
  | true => match (findE w e.iD).2 with
    | true => (Wor.no, 2)
    | false => match decide ((w.l.n : Int) ≥ 64) with
      | true => (Wor.no, 4)
      | false => (w.add e, 0)
noncomputable def addG : List (Con cx) := [conWValid, conRight, conFind, conSOwnO, conInsE]
def addC (w : Wor) (e : Ent) : Cut := ⟨Unit, fun _ => True, fun _ => ⟨[sl 4 (.p 2 0), sl 8 (.p 8 0)],
  [(2, .lay zeroW 25), (8, .lay [.v (.int .i64 w.tick), .g 6 11 2 0 (w.l.n + 1)] 25), (6, nstE (w.add e).l (w.l.n + 1) 11)], 12, 0, [], []⟩, fun _ => 0⟩
set_option maxHeartbeats 4000000 in
set_option maxRecDepth 8000 in
theorem Add_walk : ∀ a, conj ((fun (a : Wor × Ent) => [a.1.l.Sm, a.2.l.Sm, a.1.valid = true → a.2.right = true → (findE a.1 a.2.iD).2 = false → (findE a.1 a.2.iD).1 = a.1.l.n]) a) → evFn (C := cx) addG [inCopied] 1 ⟨[9], [10], [], 0⟩ Tryz.f30 ((rds2 rdWor rdEnt).enc a) fun v H _ => resOutF ((fun a => .tup [(addE a.1 a.2).1.sv, .v (.int .i64 (addE a.1 a.2).2)]) a) H v := by
  intro ⟨w, x⟩ ⟨hm, hx, hh⟩
  replace hm : w.l.Sm := hm
  replace hx : x.l.Sm := hx
  replace hh : w.valid = true → x.right = true → (findE w x.iD).2 = false → (findE w x.iD).1 = w.l.n := hh
  refine And.intro ⟨fun _ _ _ _ => trivial, hm⟩ ?_
  refine And.intro (fun _ => ⟨fun _ _ => trivial, hx⟩) ?_
  refine And.intro (fun hv => ?_) (fun hv => ?_)
  · have hv : (!w.valid || !x.right) = true := hv
    have e : addE w x = (Wor.no, 2) := by
      have : (w.valid && x.right) = false := by cases h1 : w.valid <;> cases h2 : x.right <;> simp [h1, h2] at hv ⊢
      unfold addE; rw [this]
    simp only [e]
    repeat' (first | (refine And.intro ?_ ?_) | (intro _) | exact rfl)
    all_goals exact absurd ‹_ < 0› (Nat.not_lt_zero _)
  have hv : (!w.valid || !x.right) = false := hv
  have hv : (w.valid && x.right) = true := by cases h1 : w.valid <;> cases h2 : x.right <;> simp [h1, h2] at hv ⊢
  obtain ⟨hv1, hv2⟩ := Bool.and_eq_true_iff.1 hv
  have hV := Wor.valid_iff.1 hv1
  obtain ⟨t1, t2⟩ := hV.two
  have hr2 := (Ent.right_iff.1 hv2).len
  refine And.intro ⟨fun _ _ _ _ => trivial, hm⟩ ?_
  refine And.intro (fun hf => ?_) (fun hf => ?_)
  · have hf : (findE w x.iD).2 = true := hf
    have e : addE w x = (Wor.no, 2) := by unfold addE; rw [hv, hf]
    simp only [e]
    repeat' (first | (refine And.intro ?_ ?_) | (intro _) | exact rfl)
    all_goals exact absurd ‹_ < 0› (Nat.not_lt_zero _)
  have hf : (findE w x.iD).2 = false := hf
  have hh := hh hv1 hv2 hf
  refine And.intro (fun hc => ?_) (fun hc => ?_)
  · have hc : decide ((w.l.n : Int) ≥ 64) = true := hc
    have e : addE w x = (Wor.no, 4) := by unfold addE; rw [hv, hf, hc]
    simp only [e]
    repeat' (first | (refine And.intro ?_ ?_) | (intro _) | exact rfl)
    all_goals exact absurd ‹_ < 0› (Nat.not_lt_zero _)
  have hc : decide ((w.l.n : Int) ≥ 64) = false := hc
  have e : addE w x = (w.add x, 0) := by unfold addE; rw [hv, hf, hc]
  have hc : ¬ (w.l.n : Int) ≥ 64 := of_decide_eq_false hc
  simp only [e]
  refine Exists.intro (copC w 3 [(0, .lay w.cells 25), (1, .lay x.cells 35), (2, .lay zeroW 25)]) ?_
  refine And.intro ?_ ?_
  · refine ⟨(0 : Nat), [], [.cellN 5 1 2 1 5 46 35], trivial, Nat.zero_le _, ?_⟩
    repeat' (first | (refine And.intro ?_ ?_) | (intro _) | exact rfl)
    all_goals first | exact absurd ‹_ < 0› (Nat.not_lt_zero _) | skip
  refine fun (k : Nat) (hk : k ≤ w.l.n) => ?_
  refine And.intro (fun hb => ?_) (fun hb => ?_)
  · have hb : (k : Int) < w.l.n := of_decide_eq_true hb
    refine And.intro ⟨by omega, by omega⟩ ?_
    refine And.intro ⟨fun _ _ => trivial, by have := t2 k (by omega); (show (w.l.e k).l.n ≤ 1000); omega⟩ ?_
    have hfit : fitO (k + 1) 32 := ⟨Nat.le_trans (by omega : k + 1 ≤ 1001) (by decide), by omega⟩
    refine And.intro ⟨hfit, ?_⟩ ?_
    · repeat' (first | (refine And.intro ?_ ?_) | (intro _) | exact rfl)
    refine And.intro (by unfold I64; omega : I64 ((k : Int) + 1)) ?_
    refine ⟨k + 1, [(7, 11)], [.absorb 6], (by show w.l.n - (k + 1) < w.l.n - k; omega), (by omega : k + 1 ≤ w.l.n), ?_⟩
    repeat' (first | (refine And.intro ?_ ?_) | (intro _) | exact rfl)
    · refine putF_al (α := List SV) (p := fun i y => conjO (vqL 8 [(7, 11)] (List.set [SV.v (Value.int IntKind.i64 (w.l.e i).iD), SV.e] 1 SV.e) (y.set 1 SV.e))) ?_ ?_ _ ‹_›
      · exact rfl
      · exact fun i _ => rfl
    · refine putF_al (α := Nat × (Nat → List SV)) (p := fun i y => (w.l.e i).l.n = y.1) ?_ ?_ _ ‹_›
      · exact rfl
      · exact fun i _ => rfl
    · refine putF_al (α := Nat × (Nat → List SV)) (p := fun i y => ∀ j, j < y.1 → conjO (vqL 8 [(7, 11)] ((w.l.e i).l.c j).cells (y.2 j))) ?_ ?_ _ ‹_› _ ‹_›
      · exact fun j _ => ⟨rfl, rfl, rfl, rfl, rfl⟩
      · exact fun i _ j _ => ⟨rfl, rfl, rfl, rfl, rfl⟩
  have hb : ¬ (k : Int) < w.l.n := of_decide_eq_false hb
  obtain rfl : k = w.l.n := by omega
  refine Exists.intro (addC w x) ?_
  refine And.intro ?_ ?_
  · refine And.intro ⟨fun _ _ => trivial, (by show x.l.n ≤ 1000; omega)⟩ ?_
    have hfit : fitO (w.l.n + 1) 32 := ⟨Nat.le_trans (by omega : w.l.n + 1 ≤ 1001) (by decide), by omega⟩
    refine And.intro ⟨⟨hfit, rfl⟩, (by rw [hh] : ((findE w x.iD).1 : Int) = (w.l.n : Int)), by omega⟩ ?_
    refine Exists.intro () (Exists.intro [] (Exists.intro [.absorb 6] (And.intro trivial (And.intro trivial ?_))))
    have ea1 : (w.add x).l.e w.l.n = x := putF_eq
    have ea2 : ∀ i, i < w.l.n → (w.add x).l.e i = w.l.e i := fun i hi => putF_ne (by omega)
    repeat' (first | (refine And.intro ?_ ?_) | (intro _) | exact rfl)
    · refine putF_al (α := List SV) (p := fun i y => conjO (vqL 12 [] (List.set [SV.v (Value.int IntKind.i64 ((w.add x).l.e i).iD), SV.e] 1 SV.e) (y.set 1 SV.e))) ?_ (fun i hi => ?_) _ ‹_›
      · rw [ea1]; exact rfl
      · rw [ea2 i hi]; exact rfl
    · refine putF_al (α := Nat × (Nat → List SV)) (p := fun i y => ((w.add x).l.e i).l.n = y.1) ?_ (fun i hi => ?_) _ ‹_›
      · rw [ea1]; exact rfl
      · rw [ea2 i hi]
    · refine putF_al (α := Nat × (Nat → List SV)) (p := fun i y => ∀ j, j < y.1 → conjO (vqL 12 [] (((w.add x).l.e i).l.c j).cells (y.2 j))) ?_ (fun i hi => ?_) _ ‹_› _ ‹_›
      · rw [ea1]; exact fun j _ => ⟨rfl, rfl, rfl, rfl, rfl⟩
      · rw [ea2 i hi]; exact fun j _ => ⟨rfl, rfl, rfl, rfl, rfl⟩
  refine fun (_ : Unit) (_ : True) => ?_
  repeat' (first | (refine And.intro ?_ ?_) | (intro _) | exact rfl)
  all_goals first | (show (_ : Int) = _; rw [Nat.zero_add]; done) | (show (_ : Nat) = _; rw [Nat.zero_add]; done) | (show (_ : Nat) = _; rw [Nat.zero_add]; rfl)
noncomputable def conAdd : Con cx := walkConF 30 Tryz.call30 (rds2 rdWor rdEnt) (fun (a : Wor × Ent) => [a.1.l.Sm, a.2.l.Sm, a.1.valid = true → a.2.right = true → (findE a.1 a.2.iD).2 = false → (findE a.1 a.2.iD).1 = a.1.l.n]) (fun a => .tup [(addE a.1 a.2).1.sv, .v (.int .i64 (addE a.1 a.2).2)]) (fun _ => ⟨[9], [10], [], 0⟩) [9] (fun _ => rfl) follows Tryz.func30 (by kernel_rfl) Add_walk
end Go.Proofs.YtjdohgcolhpegaaGreatDoor
namespace Go.Proofs.YtjdohgcolhpegaaGreatDoor
open Go.RowKit

/-- Worlds that may be copied. -/
def Wrs.Lo (h : Wrs) : Prop := h.n ≤ 1000 ∧ ∀ k, k < h.n → (h.w k).l.n ≤ 1000 ∧ ∀ i, i < (h.w k).l.n → ((h.w k).l.e i).l.n ≤ 1000
def owdC (h : Wrs) : Cut := ⟨Nat, fun k => k ≤ h.n, fun k => ⟨[sl 3 (.g 0 1 2 0 k), sl 6 h.sv, sl 7 (i64 h.n), sl 8 (i64 k)], [(0, .lst 1 2 k (fun i => (h.w i).cells) 25)], 2, 0, [], []⟩, fun k => h.n - k⟩
theorem bifP {α : Type} {k i : Nat} {f : Nat → α} {x : α} (hi : i < k + 1) (h : f k = x) : f i = bif Nat.ble k i then x else f i := by
  cases hb : Nat.ble k i with
  | false => rfl
  | true =>
    have := Nat.le_of_ble_eq_true hb
    obtain rfl : i = k := by omega
    exact h
set_option maxHeartbeats 2000000 in
set_option maxRecDepth 8000 in
theorem Owned_walk : ∀ a, conj ((fun (a : Wrs) => [a.Lo]) a) → evFn (C := cx) [conWOwn] [] 0 ⟨[], [], [3], 0⟩ Tryz.f68 ((rds1 rdWrs).enc a) fun v H _ => resOutW ((fun a => a.sv) a) 25 H v := by
  intro h hl
  replace hl : h.Lo := hl
  obtain ⟨hn, hl⟩ := hl
  refine Exists.intro (owdC h) ?_
  refine And.intro ?_ ?_
  · refine ⟨(0 : Nat), [], [.slot2 3 2 25], trivial, Nat.zero_le _, ?_⟩
    repeat' (first | (refine And.intro ?_ ?_) | (intro _) | exact rfl)
    all_goals exact absurd ‹_ < 0› (Nat.not_lt_zero _)
  refine fun (k : Nat) (hk : k ≤ h.n) => ?_
  refine And.intro (fun hb => ?_) (fun hb => ?_)
  · have hb : (k : Int) < h.n := of_decide_eq_true hb
    refine And.intro ⟨by omega, by omega⟩ ?_
    obtain ⟨l1, l2⟩ := hl k (by omega)
    refine And.intro ⟨fun _ _ _ _ => trivial, l1, l2⟩ ?_
    have hfit : fitO (k + 1) 32 := ⟨Nat.le_trans (by omega : k + 1 ≤ 1001) (by decide), by omega⟩
    refine And.intro ⟨hfit, ?_⟩ ?_
    · repeat' (first | (refine And.intro ?_ ?_) | (intro _) | exact rfl | exact trivial)
    refine And.intro (by unfold I64; omega : I64 ((k : Int) + 1)) ?_
    refine ⟨k + 1, [(1, 4)], [], (by show h.n - (k + 1) < h.n - k; omega), (by omega : k + 1 ≤ h.n), ?_⟩
    repeat' (first | (refine And.intro ?_ ?_) | (intro _) | exact rfl)
    all_goals first
      | exact bifP (f := fun x => (h.w x).tick) (by assumption) rfl
      | exact bifP (f := fun x => (h.w x).l.n) (by assumption) rfl
      | exact bifP (f := fun x => ((h.w x).l.e _).iD) (by assumption) rfl
      | exact bifP (f := fun x => ((h.w x).l.e _).l.n) (by assumption) rfl
      | exact bifP (f := fun x => (((h.w x).l.e _).l.c _).kind) (by assumption) rfl
      | exact bifP (f := fun x => (((h.w x).l.e _).l.c _).v0) (by assumption) rfl
      | exact bifP (f := fun x => (((h.w x).l.e _).l.c _).v1) (by assumption) rfl
      | exact bifP (f := fun x => (((h.w x).l.e _).l.c _).v2) (by assumption) rfl
      | exact bifP (f := fun x => (((h.w x).l.e _).l.c _).v3) (by assumption) rfl
  · have hb : ¬ (k : Int) < h.n := of_decide_eq_false hb
    obtain rfl : k = h.n := by omega
    repeat' (first | (refine And.intro ?_ ?_) | (intro _) | exact rfl)
    all_goals first | (show (_ : Int) = _; rw [Nat.zero_add]; done) | (show (_ : Nat) = _; rw [Nat.zero_add]; done) | (show (_ : Nat) = _; rw [Nat.zero_add]; rfl)
noncomputable def conOwned : Con cx := walkConW 68 Tryz.call68 (rds1 rdWrs) (fun (a : Wrs) => [a.Lo]) (fun a => a.sv) 25 (fun _ => ⟨[], [], [3], 0⟩) [] (fun _ => rfl) follows Tryz.func68 (by kernel_rfl) Owned_walk
def Wrs.no : Wrs := ⟨0, fun _ => Wor.no⟩
def Wrs.push (h : Wrs) (w : Wor) : Wrs := ⟨h.n + 1, fun i => bif Nat.ble h.n i then w else h.w i⟩
theorem push_at {α : Type} (F : Wor → α) {h : Wrs} {w : Wor} {i m : Nat} (hm : m = 0) : F ((h.push w).w i) = bif Nat.ble h.n (0 + m + i) then F w else F (h.w (0 + m + i)) := by
  subst hm
  rw [Nat.add_zero, Nat.zero_add]
  show F (bif Nat.ble h.n i then w else h.w i) = _
  cases Nat.ble h.n i <;> rfl
def pushB (h : Wrs) (w : Wor) : Bool := (!histB h || !w.valid) || (decide ((h.n : Int) > 0) && decide ((h.w ((h.n : Int) - 1).toNat).tick ≥ w.tick))
def pushE (h : Wrs) (w : Wor) : Wrs × Int := match pushB h w with
  | true => (Wrs.no, 2)
  | false => (h.push w, 0)
theorem Wor.Valid.lo1 {w : Wor} (hv : w.Valid) : w.l.n ≤ 1000 ∧ ∀ i, i < w.l.n → (w.l.e i).l.n ≤ 1000 := by
  obtain ⟨h1, h2⟩ := hv.two
  exact ⟨by omega, fun i hi => by have := h2 i hi; omega⟩
theorem Wrs.Hist.lo {h : Wrs} (hh : h.Hist) : h.Lo := ⟨by have := hh.len; omega, fun k hk => (hh.v k hk).lo1⟩
set_option maxHeartbeats 2000000 in
set_option maxRecDepth 8000 in
theorem Push_walk : ∀ a, conj ((fun (a : Wrs × Wor) => [a.1.Sm, a.2.l.Sm, a.1.n < 40]) a) → evFn (C := cx) [conHValid, conWValid, conOwned, conWOwn] [] 0 ⟨[3], [], [], 0⟩ Tryz.f29 ((rds2 rdWrs rdWor).enc a) fun v H _ => resOut ((fun a => .tup [(pushE a.1 a.2).1.sv, .v (.int .i64 (pushE a.1 a.2).2)]) a) H v := by
  intro ⟨h, w⟩ ⟨hm, wm, hn⟩
  replace hm : h.Sm := hm
  replace wm : w.l.Sm := wm
  replace hn : h.n < 40 := hn
  refine And.intro ⟨fun _ _ _ _ _ _ => trivial, hm⟩ ?_
  refine And.intro (fun _ => ⟨fun _ _ _ _ => trivial, wm⟩) ?_
  refine And.intro (fun hg _ => ?_) ?_
  · have hg : decide ((h.n : Int) > 0) = true := hg
    have hg := of_decide_eq_true hg
    (show I64 ((h.n : Int) - 1)); unfold I64; omega
  refine And.intro (fun hg _ => ?_) ?_
  · have hg : decide ((h.n : Int) > 0) = true := hg
    have hg := of_decide_eq_true hg
    (show (0 : Int) ≤ (h.n : Int) - 1 ∧ (h.n : Int) - 1 < h.n); omega
  refine And.intro (fun hv => ?_) (fun hv => ?_)
  · have hv : pushB h w = true := hv
    have e : pushE h w = (Wrs.no, 2) := by unfold pushE; rw [hv]
    simp only [e]
    repeat' (first | (refine And.intro ?_ ?_) | (intro _) | exact rfl)
    all_goals exact absurd ‹_ < 0› (Nat.not_lt_zero _)
  have hv : pushB h w = false := hv
  have e : pushE h w = (h.push w, 0) := by unfold pushE; rw [hv]
  simp only [e]
  have hh : h.Hist := hist_of (by unfold pushB at hv; simp only [Bool.or_eq_false_iff, Bool.not_eq_false'] at hv; exact hv.1.1)
  have hw : w.Valid := Wor.valid_iff.1 (by unfold pushB at hv; simp only [Bool.or_eq_false_iff, Bool.not_eq_false'] at hv; exact hv.1.2)
  refine And.intro ⟨fun _ _ _ _ _ _ => trivial, hh.lo⟩ ?_
  refine And.intro ⟨fun _ _ _ _ => trivial, hw.lo1⟩ ?_
  have hfit : fitO (h.n + 1) 32 := ⟨Nat.le_trans (by omega : h.n + 1 ≤ 1001) (by decide), by omega⟩
  refine And.intro ⟨hfit, ?_⟩ ?_
  · repeat' (first | (refine And.intro ?_ ?_) | (intro _) | exact rfl | exact trivial)
  refine And.intro (by unfold I64; omega : I64 (((h.n + 1 : Nat) : Int) - 40)) ?_
  refine And.intro (by omega : (0 : Int) ≤ max 0 (((h.n + 1 : Nat) : Int) - 40) ∧ max 0 (((h.n + 1 : Nat) : Int) - 40) ≤ ((h.n + 1 : Nat) : Int)) ?_
  have e0 : (max 0 (((h.n + 1 : Nat) : Int) - 40)).toNat = 0 := by omega
  repeat' (first | (refine And.intro ?_ ?_) | (intro _) | exact rfl)
  · (show (_ : Nat) = h.n + 1 - (max 0 (((h.n + 1 : Nat) : Int) - 40)).toNat); rw [e0]; rfl
  all_goals first
    | exact push_at (fun x => x.tick) e0
    | exact push_at (fun x => x.l.n) e0
    | exact push_at (fun x => (x.l.e _).iD) e0
    | exact push_at (fun x => (x.l.e _).l.n) e0
    | exact push_at (fun x => ((x.l.e _).l.c _).kind) e0
    | exact push_at (fun x => ((x.l.e _).l.c _).v0) e0
    | exact push_at (fun x => ((x.l.e _).l.c _).v1) e0
    | exact push_at (fun x => ((x.l.e _).l.c _).v2) e0
    | exact push_at (fun x => ((x.l.e _).l.c _).v3) e0
noncomputable def conPush : Con cx := walkCon 29 Tryz.call29 (rds2 rdWrs rdWor) (fun (a : Wrs × Wor) => [a.1.Sm, a.2.l.Sm, a.1.n < 40]) (fun a => .tup [(pushE a.1 a.2).1.sv, .v (.int .i64 (pushE a.1 a.2).2)]) (fun _ => ⟨[3], [], [], 0⟩) [3] (fun _ => rfl) follows Tryz.func29 (by kernel_rfl) Push_walk
end Go.Proofs.YtjdohgcolhpegaaGreatDoor
namespace Go.Proofs.YtjdohgcolhpegaaGreatDoor
open Go.RowKit Go.Lib

theorem run_loadCells_blk {w : World} {g o : Nat} {cur : Array Value} {t : TypeId} {cs : List Value} (hg : w.heap[g]? = some (.cells cur t (0, 0))) (hs : ∀ j v, cs[j]? = some v → cur[o + j]? = some v) :
    ∀ j v, cs[j]? = some v → w.cell? ((⟨g, o, none⟩ : Addr).add j) = some v := fun j v h => by
  have hadd : (⟨g, o, none⟩ : Addr).add j = ⟨g, o + j, none⟩ := by unfold Addr.add; split <;> simp_all
  rw [hadd]
  simp [World.cell?, hg, hs j v h]
/-- copy: of elements of any size, into a row. -/
theorem run_copy_rowN {P : Program} (w : World) (dT sT ty elem : TypeId) (g o dLen dCap : Nat) (a : Addr) (sLen sCap sz : Nat) (cur : Array Value) (t : TypeId) (cs : List Value)
    (hu : P.underlying dT = some (.slice elem)) (hs : (P.info? elem).map (·.size) = some sz)
    (hg : w.heap[g]? = some (.cells cur t (0, 0))) (hn : cs.length = Nat.min sLen dLen * sz)
    (hsrc : ∀ j v, cs[j]? = some v → w.cell? (a.add j) = some v) (hfit : o + cs.length ≤ cur.size) (h1 : ∀ v ∈ cs, v.oneCell' = true) :
    (Builtin.copy_ #[dT, sT] ty #[.slice (some ⟨g, o, none⟩) dLen dCap, .slice (some a) sLen sCap]).run P w =
      .ok (goInt (Nat.min sLen dLen)) (w.setRow g (cur.toList.take o ++ cs ++ cur.toList.drop (o + cs.length)).toArray) := by
  have hl := run_firstCells_some (P := P) w sz (Nat.min sLen dLen) a sLen sCap cs hn hsrc
  have hst := run_storeCells_at P g o t cs 0 cur w hg (by simpa using hfit) h1
  cases hq : P.info? elem with
  | none => simp [hq] at hs
  | some i =>
    have hi : i.size = sz := by simpa [hq] using hs
    simp [Builtin.copy_, run_underlying hu, Builtin.lenOf, sizeOf, typeInfo, hq, hi, hl, hst]
theorem wp_copy_runQ {P : Program} (w : World) {o : Oper} {a : Act} {K : Act → World → Prop} {Q : Exit → Act → World → Prop} (d s : Operand) (t t' : TypeId)
    (ho : o.op = .call { callee := .builtin .copy, args := #[d, s], argTypes := #[t, t'] }) (v u : Value) (hd : a.eval d = v) (hs : a.eval s = u) {v' : Value} {w' : World}
    (hr : (Builtin.copy_ #[t, t'] o.type #[v, u]).run P w = .ok v' w') (h : K (a.put o.dst v') w') : o.wp P a w K Q := by
  unfold Oper.wp execOp
  simp only [ho, resolve, invoke, builtin, Sem.run_bind, Sem.run_pure, Result.andThen_ok, List.map_toArray, List.map_cons, List.map_nil, hd, hs, hr]
  exact h
theorem wpList_copy_runQ {P : Program} (w : World) {ops : Array Oper} {rest : List Oper} {o : Oper} {a : Act} {Q : Exit → Act → World → Prop} (hgd : o.guard = none) (d s : Operand) (t t' : TypeId)
    (ho : o.op = .call { callee := .builtin .copy, args := #[d, s], argTypes := #[t, t'] }) (v u : Value) (hd : a.eval d = v) (hs : a.eval s = u) {v' : Value} {w' : World}
    (hr : (Builtin.copy_ #[t, t'] o.type #[v, u]).run P w = .ok v' w') (h : wpList P ops Q rest (a.put o.dst v') w') : wpList P ops Q (o :: rest) a w :=
  wpList_plain hgd fun _ hK => wp_copy_runQ w d s t t' ho v u hd hs hr (hK _ _ h)
theorem step_copy_runQ {P : Program} {ops : Array Oper} {o : Oper} {a : Act} {w : World} {K : Act → World → Prop} {Q : Exit → Act → World → Prop} {E : Prop}
    (hg : o.guard = none) (d x : Operand) (dT sT : TypeId) (hop : o.op = Op.call { callee := Callee.builtin Builtin.copy, args := #[d, x], argTypes := #[dT, sT] })
    (v u : Value) (hd : a.eval d = v) (hx : a.eval x = u) {v' : Value} {w' : World} (hr : (Builtin.copy_ #[dT, sT] o.type #[v, u]).run P w = .ok v' w') (hK : K (a.put o.dst v') w') :
    if Region.wanted o (yielded ops a.tmps) = true then Oper.wp P o a w K Q else E := by
  have hw : Region.wanted o (yielded ops a.tmps) = true := by simp [Region.wanted, hg]
  rw [if_pos hw]
  unfold Oper.wp
  simp [execOp, hop, resolve, invoke, builtin, hd, hx, hr, Result.andThen]
  exact hK
/-- The row behind the first copy, and behind the second. -/
def shiftU (u : List Value) (i n : Nat) : List Value := u.take ((i + 1) * 5) ++ (u.drop (i * 5)).take ((n - i) * 5) ++ u.drop ((n + 1) * 5)
def layU (u vs : List Value) (i : Nat) : List Value := u.take (i * 5) ++ vs ++ u.drop ((i + 1) * 5)

set_option maxHeartbeats 4000000 in
set_option maxRecDepth 100000 in
theorem insC_shift (b n c i vb voff vc : Nat) (u uv vs : List Value) (t tv : TypeId) (w : World) (hi : i < n) (hroom : n + 1 ≤ c) (hc63 : n + 1 ≤ 9223372036854775807) (hvb : vb ≠ b)
    (hb : w.heap[b]? = some (.cells u.toArray t (0, 0))) (hu : u.length = c * 5) (hv : w.heap[vb]? = some (.cells uv.toArray tv (0, 0))) (hvl : vs.length = 5) (hvs : ∀ j v, vs[j]? = some v → uv[voff + j]? = some v)
    (h1c : ∀ v ∈ u, v.oneCell' = true) (h1v : ∀ v ∈ vs, v.oneCell' = true) :
    Calls Tryz.prog 53 #[.slice (some ⟨b, 0, none⟩) n c, .int .i64 i, .slice (some ⟨vb, voff, none⟩) 1 vc] w fun e w' =>
      e = .returned (.slice (some ⟨b, 0, none⟩) (n + 1) c) ∧ w' = (w.drew.setRow b (shiftU u i n).toArray).setRow b (layU (shiftU u i n) vs i).toArray := by
  have hz2 : ¬ ((i : Int) = (n : Int)) := by omega
  have hul : Tryz.prog.underlying 33 = some (.slice 46) := by kernel_rfl
  have hsz : (Tryz.prog.info? 46).map (·.size) = some 5 := by kernel_rfl
  have hov : ∀ lb cb, (callFunc 82 #[.slice (some ⟨vb, voff, none⟩) 1 vc, .slice (some ⟨b, (i + 1) * 5, none⟩) lb cb]).run Tryz.prog w = .ok (.value (.bool false)) w := fun lb cb => by
    rw [run_callFunc_extern Tryz.func82 (by kernel_rfl) (by kernel_rfl) (by kernel_rfl) (e := Extern.SlicesOverlaps.overlaps #[33, 33] #[4]) (by kernel_rfl),
      Lib.run_overlaps_apart w 33 4 46 hul 5 (fun w => by simp only [sizeOf, typeInfo, Sem.run_bind, run_program, Result.andThen_ok]; rfl) ⟨vb, voff, none⟩ ⟨b, (i + 1) * 5, none⟩ 1 vc lb cb hvb tv t uv.toArray.size u.toArray.size (by simp [World.shape?, hv]) (by simp [World.shape?, hb]) (by simp [hu]; omega) (by simp [World.frozen?, hv]) (by simp [World.frozen?, hv])]
    rfl
  have hg0 : w.drew.heap[b]? = some (.cells u.toArray t (0, 0)) := hb
  obtain ⟨W1, hW1⟩ : ∃ W1, W1 = w.drew.setRow b (shiftU u i n).toArray := ⟨_, rfl⟩
  have hdl : ((u.drop (i * 5)).take ((n - i) * 5)).length = (n - i) * 5 := by rw [List.length_take, List.length_drop]; omega
  have hcp1 : ∀ ty dc sc, (Builtin.copy_ #[33, 33] ty #[.slice (some ⟨b, (i + 1) * 5, none⟩) (n + 1 - (i + 1)) dc, .slice (some ⟨b, i * 5, none⟩) (n + 1 - i) sc]).run Tryz.prog w.drew = .ok (goInt (n - i : Nat)) W1 := fun ty dc sc => by
    have h := run_copy_rowN (P := Tryz.prog) w.drew 33 33 ty 46 b ((i + 1) * 5) (n + 1 - (i + 1)) dc ⟨b, i * 5, none⟩ (n + 1 - i) sc 5 u.toArray t ((u.drop (i * 5)).take ((n - i) * 5)) hul hsz hg0
      (by rw [hdl, show Nat.min (n + 1 - i) (n + 1 - (i + 1)) = n - i by simp only [Nat.min_def]; split <;> omega])
      (run_loadCells_blk hg0 fun j v hj => by
        rw [List.getElem?_take] at hj
        split at hj
        · rw [List.getElem?_drop] at hj; simpa using hj
        · cases hj)
      (by rw [hdl]; simp [hu]; omega) (fun v hv => h1c v (List.mem_of_mem_drop (List.mem_of_mem_take hv)))
    rw [h, hW1, hdl, show Nat.min (n + 1 - i) (n + 1 - (i + 1)) = n - i by simp only [Nat.min_def]; split <;> omega]
    unfold shiftU
    rw [show (i + 1) * 5 + (n - i) * 5 = (n + 1) * 5 by omega]
  have hb1 : W1.heap[b]? = some (.cells (shiftU u i n).toArray t (0, 0)) := by rw [hW1]; exact setRow_heap w.drew b _ _ _ _ hg0
  have hsl : (shiftU u i n).length = c * 5 := by unfold shiftU; simp only [List.length_append, List.length_take, List.length_drop]; omega
  have hv1 : W1.heap[vb]? = some (.cells uv.toArray tv (0, 0)) := by rw [hW1]; exact (setRow_other' hvb).trans hv
  have hcp2 : ∀ ty dc, (Builtin.copy_ #[33, 33] ty #[.slice (some ⟨b, i * 5, none⟩) (n + 1 - i) dc, .slice (some ⟨vb, voff, none⟩) 1 vc]).run Tryz.prog W1 = .ok (goInt (1 : Nat)) (W1.setRow b (layU (shiftU u i n) vs i).toArray) := fun ty dc => by
    have h := run_copy_rowN (P := Tryz.prog) W1 33 33 ty 46 b (i * 5) (n + 1 - i) dc ⟨vb, voff, none⟩ 1 vc 5 (shiftU u i n).toArray t vs hul hsz hb1
      (by rw [hvl, show Nat.min 1 (n + 1 - i) = 1 by simp only [Nat.min_def]; split <;> omega])
      (run_loadCells_blk hv1 fun j v hj => by simpa using hvs j v hj)
      (by rw [hvl]; simp [hsl]; omega) h1v
    rw [h, hvl, show Nat.min 1 (n + 1 - i) = 1 by simp only [Nat.min_def]; split <;> omega]
    unfold layU
    rw [show i * 5 + 5 = (i + 1) * 5 by omega]
  subst hW1
  go_enter Tryz.func53, Tryz.ntmps53
  have hw1 : IntKind.i64.wrap ((i : Int) + 1) = (i : Int) + 1 := by rw [IntKind.wrap_i64]; omega
  have hb1' : (0 : Int) ≤ (i : Int) + 1 := by omega
  have hin : i ≤ n := by omega
  have htn : ((i : Int) + 1).toNat = i + 1 := by omega
  have hb2 : ¬ (c = i + 1) := by omega
  have hb3 : (i : Int) ≤ (n : Int) + 1 := by omega
  have hb4 : ¬ (c = i) := by omega
  go_wp2_with (simp only [hov])
  have mixed : Tryz.prog.follows Departure.mixedOrders = true := by kernel_rfl
  go_region_law_o (refine step_copy_runQ rfl _ _ 33 33 rfl (.slice (some ⟨b, (i + 1) * 5, none⟩) (n + 1 - (i + 1)) (c - (i + 1))) (.slice (some ⟨b, i * 5, none⟩) (n + 1 - i) (c - i)) (by simp [Act.eval, Act.put]) (by simp [Act.eval, Act.put]) (hcp1 _ _ _) ?_)
  go_wp2_with (at_builtin; refine wpList_copy_runQ _ rfl _ _ 33 33 rfl _ _ rfl rfl (hcp2 _ _) ?_)
  go_ret
  first | exact ⟨rfl, rfl⟩ | exact ⟨rfl, by rw [hW1]⟩
/-- A new row: what stood ahead, the element, what stood behind, zeroes. -/
def growU (u vs zs : List Value) (i n : Nat) : List Value := u.take (i * 5) ++ vs ++ (u.drop (i * 5)).take ((n - i) * 5) ++ zs
theorem tyComp : ∃ i0 z, Tryz.prog.info? 46 = some i0 ∧ i0.size = 5 ∧ i0.bytes = 40 ∧ i0.zero = some z ∧ z.cells.size = 5 ∧ ∀ n, ∀ c ∈ (Builtin.zeroCells z.cells n).toList, c.oneCell' = true := by
  obtain ⟨i0, d, z, h1, h2, h3, h4, h5, h6, h7⟩ := (cx.ty (t := 46) rfl).ex
  exact ⟨i0, z, h1, h3, h7, h4, by have := denL_length (zeroEqL_den (ρ := noNames) h5); simpa using this, fun n => zeros_one h5⟩
set_option maxHeartbeats 4000000 in
set_option maxRecDepth 100000 in
theorem insC_grow (b n i vb voff vc : Nat) (u uv vs : List Value) (t tv : TypeId) (w : World) (hi : i < n) (hbig : (n + 1) * 40 ≤ 140737488355328)
    (hb : w.heap[b]? = some (.cells u.toArray t (0, 0))) (hu : u.length = n * 5) (hv : w.heap[vb]? = some (.cells uv.toArray tv (0, 0))) (hvl : vs.length = 5) (hvs : ∀ j v, vs[j]? = some v → uv[voff + j]? = some v)
    (h1c : ∀ v ∈ u, v.oneCell' = true) (h1v : ∀ v ∈ vs, v.oneCell' = true) :
    Calls Tryz.prog 53 #[.slice (some ⟨b, 0, none⟩) n n, .int .i64 i, .slice (some ⟨vb, voff, none⟩) 1 vc] w fun e w' =>
      e = .returned (.slice (some ⟨w.heap.size, 0, none⟩) (n + 1) (grownCap w (n + 1) n 46)) ∧ w'.heap.size = w.heap.size + 1 ∧ w'.os = w.os ∧ w'.tape = w.tape ∧ w'.output = w.output ∧ (∀ x, x < w.heap.size → w'.heap[x]? = w.heap[x]?) ∧
      ∃ zs, zs.length = (grownCap w (n + 1) n 46 - (n + 1)) * 5 ∧ (∀ c ∈ zs, c.oneCell' = true) ∧ w'.heap[w.heap.size]? = some (.cells (growU u vs zs i n).toArray 46 (0, 0)) := by
  have hz2 : ¬ ((i : Int) = (n : Int)) := by omega
  have hul : Tryz.prog.underlying 33 = some (.slice 46) := by kernel_rfl
  have hui : Tryz.prog.underlying 3 = some (.int .i64) := by kernel_rfl
  have hsz : (Tryz.prog.info? 46).map (·.size) = some 5 := by kernel_rfl
  obtain ⟨i0, z, hi0, hzs, hzb, hz, hzc, hz1⟩ := tyComp
  have hbw : b < w.heap.size := (Array.getElem?_eq_some_iff.1 hb).1
  have hvw : vb < w.heap.size := (Array.getElem?_eq_some_iff.1 hv).1
  have hold : (Builtin.firstCells i0.size i (.slice (some ⟨b, 0, none⟩) i n)).run Tryz.prog w.drew = .ok (u.take (i * 5)).toArray w.drew := by
    rw [hzs]
    exact run_firstCells_some w.drew 5 i ⟨b, 0, none⟩ i n (u.take (i * 5)) (by rw [List.length_take]; omega) (run_loadCells_blk (w := w.drew) hb (fun j v hj => by
      rw [List.getElem?_take] at hj
      split at hj
      · simpa using hj
      · cases hj))
  obtain ⟨G, hG⟩ : ∃ G, G = grownCap w (n + 1) n 46 := ⟨_, rfl⟩
  have hik : i + (n + 1 - i) = n + 1 := by omega
  obtain ⟨ROW, hROW⟩ : ∃ ROW : List Value, ROW = u.take (i * 5) ++ (Builtin.zeroCells z.cells (n + 1 - i)).toList ++ (Builtin.zeroCells z.cells (G - (n + 1))).toList := ⟨_, rfl⟩
  have hGn : n + 1 ≤ G := by rw [hG]; exact grownCap_ge w _ _ _
  have hRl : ROW.length = G * 5 := by
    rw [hROW]
    simp only [List.length_append, List.length_take, zeros_len, hzc]
    omega
  obtain ⟨W1, hW1⟩ : ∃ W1, W1 = w.drew.alloc (.cells ROW.toArray 46) := ⟨_, rfl⟩
  have hkk : (n : Int) + 1 - (i : Int) = ((n + 1 - i : Nat) : Int) := by omega
  have hrz : ∀ ty, (Builtin.append_ #[33, 3] ty #[.slice (some ⟨b, 0, none⟩) i n, .int .i64 ((n : Int) + 1 - (i : Int))]).run Tryz.prog w =
      .ok (.slice (some ⟨w.heap.size, 0, none⟩) (n + 1) G) W1 := fun ty => by
    have h := Lib.run_append_grow_zeros w 33 3 ty 46 i0 z .i64 .i64 hul hui hi0 hz (some ⟨b, 0, none⟩) i n (u.take (i * 5)) hold (n + 1 - i) (by omega) (by omega) (by omega) (by omega) (by rw [hzb]; omega) (by rw [hzb, hik]; exact growslice_fits (by omega) hbig)
    rw [hik, ← hG] at h
    rw [hkk, h, hW1, hROW]
    congr 4
    apply Array.ext'
    simp [List.append_assoc]
  have hg1 : W1.heap[w.heap.size]? = some (.cells ROW.toArray 46 (0, 0)) := by rw [hW1]; exact Blk.new (w := w.drew) rfl
  have ho1 : ∀ x, x < w.heap.size → W1.heap[x]? = w.heap[x]? := fun x hx => by rw [hW1]; exact Below.block ((Gr.refl w).drew.alloc _) x hx
  have hcpA : ∀ (W : World), W.heap = W1.heap → ∀ ty dc, (Builtin.copy_ #[33, 33] ty #[.slice (some ⟨w.heap.size, i * 5, none⟩) (n + 1 - i) dc, .slice (some ⟨vb, voff, none⟩) 1 vc]).run Tryz.prog W = .ok (goInt (1 : Nat)) (W.setRow w.heap.size (layU ROW vs i).toArray) := fun W hW ty dc => by
    have h := run_copy_rowN (P := Tryz.prog) W 33 33 ty 46 w.heap.size (i * 5) (n + 1 - i) dc ⟨vb, voff, none⟩ 1 vc 5 ROW.toArray 46 vs hul hsz (by rw [hW]; exact hg1)
      (by rw [hvl, show Nat.min 1 (n + 1 - i) = 1 by simp only [Nat.min_def]; split <;> omega])
      (run_loadCells_blk (by rw [hW, ho1 _ hvw]; exact hv) fun j v hj => by simpa using hvs j v hj)
      (by rw [hvl]; simp [hRl]; omega) h1v
    rw [h, hvl, show Nat.min 1 (n + 1 - i) = 1 by simp only [Nat.min_def]; split <;> omega]
    unfold layU
    rw [show i * 5 + 5 = (i + 1) * 5 by omega]
  have hdl : ((u.drop (i * 5)).take ((n - i) * 5)).length = (n - i) * 5 := by rw [List.length_take, List.length_drop]; omega
  obtain ⟨R2, hR2⟩ : ∃ R2, R2 = layU ROW vs i := ⟨_, rfl⟩
  have hRl2 : R2.length = G * 5 := by rw [hR2]; unfold layU; simp only [List.length_append, List.length_take, List.length_drop]; omega
  have hcpB : ∀ (W : World), W.heap[w.heap.size]? = some (.cells R2.toArray 46 (0, 0)) → W.heap[b]? = some (.cells u.toArray t (0, 0)) → ∀ ty dc sc, (Builtin.copy_ #[33, 33] ty #[.slice (some ⟨w.heap.size, (i + 1) * 5, none⟩) (n + 1 - (i + 1)) dc, .slice (some ⟨b, i * 5, none⟩) (n - i) sc]).run Tryz.prog W = .ok (goInt (n - i : Nat)) (W.setRow w.heap.size (growU u vs (R2.drop ((n + 1) * 5)) i n).toArray) := fun W hW1 hW2 ty dc sc => by
    have h := run_copy_rowN (P := Tryz.prog) W 33 33 ty 46 w.heap.size ((i + 1) * 5) (n + 1 - (i + 1)) dc ⟨b, i * 5, none⟩ (n - i) sc 5 R2.toArray 46 ((u.drop (i * 5)).take ((n - i) * 5)) hul hsz hW1
      (by rw [hdl, show Nat.min (n - i) (n + 1 - (i + 1)) = n - i by simp only [Nat.min_def]; split <;> omega])
      (run_loadCells_blk hW2 fun j v hj => by
        rw [List.getElem?_take] at hj
        split at hj
        · rw [List.getElem?_drop] at hj; simpa using hj
        · cases hj)
      (by rw [hdl]; simp [hRl2]; omega) (fun v hv => h1c v (List.mem_of_mem_drop (List.mem_of_mem_take hv)))
    rw [h, hdl, show Nat.min (n - i) (n + 1 - (i + 1)) = n - i by simp only [Nat.min_def]; split <;> omega]
    unfold growU
    rw [show (i + 1) * 5 + (n - i) * 5 = (n + 1) * 5 by omega]
    have e : R2.take ((i + 1) * 5) = u.take (i * 5) ++ vs := by
      have l1 : (u.take (i * 5)).length = i * 5 := by rw [List.length_take]; omega
      rw [hR2]; unfold layU
      rw [List.take_append_of_le_length (by rw [List.length_append, hvl, List.length_take]; omega), List.take_of_length_le (by rw [List.length_append, hvl, List.length_take]; omega)]
      congr 1
      rw [hROW, List.append_assoc, List.take_append_of_le_length (by omega), List.take_take, Nat.min_self]
    simp only [e]
  have hX : ∀ ty dc sc, (Builtin.copy_ #[33, 33] ty #[.slice (some ⟨w.heap.size, (i + 1) * 5, none⟩) (n + 1 - (i + 1)) dc, .slice (some ⟨b, i * 5, none⟩) (n - i) sc]).run Tryz.prog (W1.setRow w.heap.size (layU ROW vs i).toArray).drew = .ok (goInt (n - i : Nat)) ((W1.setRow w.heap.size (layU ROW vs i).toArray).drew.setRow w.heap.size (growU u vs (R2.drop ((n + 1) * 5)) i n).toArray) := fun ty dc sc =>
    hcpB (W1.setRow w.heap.size (layU ROW vs i).toArray).drew (by rw [hR2]; exact setRow_heap W1 _ _ _ _ _ hg1) ((setRow_other' (w := W1) (by omega)).trans ((ho1 _ hbw).trans hb)) ty dc sc
  clear hcpB
  rw [← hG]
  have hzz : ¬ ((n : Int) + 1 ≤ (n : Int)) := by omega
  have hz3 : (n : Int) < (n : Int) + 1 := by omega
  have hG63 : G ≤ 9223372036854775807 := by
    have := grownCap_le_maxLen w (n + 1) n 46 (by unfold maxLen; omega)
    rw [← hG] at this
    unfold maxLen at this
    omega
  have hGi : ¬ (G = i) := by omega
  have hGim : ¬ (G = i + 1) := by omega
  have hci : ¬ (n = i) := by omega
  have hbN : b ≠ w.heap.size := by omega
  have hw1 : IntKind.i64.wrap ((i : Int) + 1) = (i : Int) + 1 := by rw [IntKind.wrap_i64]; omega
  have hb1 : (0 : Int) ≤ (i : Int) + 1 := by omega
  have hin : i ≤ n := by omega
  have htn : ((i : Int) + 1).toNat = i + 1 := by omega
  have hb3 : (i : Int) ≤ (n : Int) := by omega
  have mixed : Tryz.prog.follows Departure.mixedOrders = true := by kernel_rfl
  have hrz2 : (n : Int) + 1 > (n : Int) := by omega
  have s1 : W1.heap.size = w.heap.size + 1 := by rw [hW1]; exact Array.size_push _
  have s2 : W1.os = w.os := by rw [hW1]; rfl
  have s3 : W1.tape = w.tape := by rw [hW1]; rfl
  have s4 : W1.output = w.output := by rw [hW1]; rfl
  have s5 : ∀ c ∈ R2, c.oneCell' = true := fun c hc => by
    have hc2 : ∀ c ∈ ROW, c.oneCell' = true := fun c hc => by
      rw [hROW] at hc
      rcases List.mem_append.1 hc with hc | hc
      · rcases List.mem_append.1 hc with hc | hc
        · exact h1c c (List.mem_of_mem_take hc)
        · exact hz1 _ c hc
      · exact hz1 _ c hc
    rw [hR2] at hc
    unfold layU at hc
    rcases List.mem_append.1 hc with hc | hc
    · rcases List.mem_append.1 hc with hc | hc
      · exact hc2 c (List.mem_of_mem_take hc)
      · exact h1v c hc
    · exact hc2 c (List.mem_of_mem_drop hc)
  have s6 : (R2.drop ((n + 1) * 5)).length = (G - (n + 1)) * 5 := by rw [List.length_drop, hRl2]; omega
  clear hkk hik hold hRl hW1 hROW hR2 hG hzc hz1 hz hi0 hzs hzb
  go_enter Tryz.func53, Tryz.ntmps53
  go_wp2_with (first
    | (at_builtin; refine Lib.wpList_append_run _ rfl _ _ _ _ rfl _ _ rfl rfl _ _ (hrz _) ?_)
    | (at_builtin; refine wpList_copy_runQ _ rfl _ _ 33 33 rfl _ _ rfl rfl (hcpA _ rfl _ _) ?_))
  all_goals (go_region_law_o (refine step_copy_runQ rfl _ _ 33 33 rfl (.slice (some ⟨w.heap.size, (i + 1) * 5, none⟩) (n + 1 - (i + 1)) (G - (i + 1))) (.slice (some ⟨b, i * 5, none⟩) (n - i) (n - i)) (by simp [Act.eval, Act.put]) (by simp [Act.eval, Act.put]) (hX _ _ _) ?_))
  go_wp2
  go_ret
  have hb0 : (W1.setRow w.heap.size (layU ROW vs i).toArray).heap[w.heap.size]? = some (.cells (layU ROW vs i).toArray 46 (0, 0)) := setRow_heap W1 _ _ _ _ _ hg1
  refine ⟨rfl, setRow_size.trans (setRow_size.trans s1), s2, s3, s4, fun x hx => (setRow_other' (by omega)).trans ((setRow_other' (by omega)).trans (ho1 x hx)), _, s6, fun c hc => s5 c (List.mem_of_mem_drop hc), setRow_heap _ _ _ _ _ _ hb0⟩
/-! ### All roads -/
theorem blk_inj {W : World} {b : Nat} {u v : List Value} {t : TypeId} (h1 : Blk W b u.toArray t) (h2 : Blk W b v.toArray t) : u = v := by
  have h : some (Obj.cells u.toArray t (0, 0)) = some (Obj.cells v.toArray t (0, 0)) := h1.symm.trans h2
  injection h with h
  injection h with h
  exact List.toArray_inj h
theorem growU_ins {W W' : World} {a : Option Addr} {b' cap' n cap i : Nat} {u vs zs u' : List Value} {t : TypeId} (hi : i ≤ n) (hu : n * 5 ≤ u.length) (ha : cap ≠ 0 → ∃ b, a = some ⟨b, 0, none⟩ ∧ Blk W b u.toArray t) (hvl : vs.length = 5)
    (e : u' = growU u vs zs i n) (hz : zs.length = (cap' - (n + 1)) * 5) (hc : n + 1 ≤ cap') (h1u : ∀ c ∈ u, c.oneCell' = true) (h1v : ∀ c ∈ vs, c.oneCell' = true) (h1z : ∀ c ∈ zs, c.oneCell' = true) (hb : Blk W' b' u'.toArray t)
    (h1 : W'.os = W.os) (h2 : W'.tape = W.tape) (h3 : W'.output = W.output) (h4 : W.heap.size ≤ W'.heap.size)
    (hp : (cap ≠ 0 ∧ a = some ⟨b', 0, none⟩ ∧ ∀ x : Nat, x ≠ b' → W'.heap[x]? = W.heap[x]?) ∨ (W.heap.size ≤ b' ∧ ∀ x : Nat, x < W.heap.size → W'.heap[x]? = W.heap[x]?)) : InsR 5 t W a n cap i vs b' cap' u' W' := by
  have l1 : (u.take (i * 5)).length = i * 5 := by rw [List.length_take]; omega
  have l2 : ((u.drop (i * 5)).take ((n - i) * 5)).length = (n - i) * 5 := by rw [List.length_take, List.length_drop]; omega
  refine ⟨hc, hb, ?_, ?_, ?_, ?_, h1, h2, h3, h4, hp⟩
  · rw [e]; unfold growU
    simp only [List.length_append, l1, l2, hz, hvl]; omega
  · intro c hm
    rw [e] at hm
    unfold growU at hm
    rcases List.mem_append.1 hm with hm | hm
    · rcases List.mem_append.1 hm with hm | hm
      · rcases List.mem_append.1 hm with hm | hm
        · exact h1u c (List.mem_of_mem_take hm)
        · exact h1v c hm
      · exact h1u c (List.mem_of_mem_drop (List.mem_of_mem_take hm))
    · exact h1z c hm
  · intro k c hk
    have hkl : k < vs.length := (List.getElem?_eq_some_iff.1 hk).1
    rw [e]; unfold growU
    rw [List.append_assoc, List.append_assoc, List.getElem?_append_right (by omega), l1, Nat.add_sub_cancel_left, List.getElem?_append_left hkl]
    exact hk
  · intro b v hc0 hab hbv
    obtain ⟨b2, k1, k2⟩ := ha hc0
    rw [k1] at hab
    obtain rfl : b2 = b := by injection hab with hab; injection hab
    obtain rfl := blk_inj k2 hbv
    refine ⟨fun j k c hj hk hcc => ?_, fun j k c hj hjn hk hcc => ?_⟩
    · rw [e]; unfold growU
      rw [List.append_assoc, List.append_assoc, List.getElem?_append_left (by omega), List.getElem?_take_of_lt (by omega)]
      exact hcc
    · rw [e]; unfold growU
      rw [List.append_assoc, List.getElem?_append_right (by rw [List.length_append, l1, hvl]; omega), List.length_append, l1, hvl, List.getElem?_append_left (by omega), List.getElem?_take_of_lt (by omega), List.getElem?_drop, show i * 5 + ((j + 1) * 5 + k - (i * 5 + 5)) = j * 5 + k by omega]
      exact hcc
theorem growU_end {u vs zs : List Value} {n : Nat} : growU u vs zs n n = u.take (n * 5) ++ vs ++ zs := by
  unfold growU
  rw [Nat.sub_self, Nat.zero_mul, List.take_zero, List.append_nil]
theorem layU_shift {u vs : List Value} {i n : Nat} (hi : i < n) (hu : (n + 1) * 5 ≤ u.length) : layU (shiftU u i n) vs i = growU u vs (u.drop ((n + 1) * 5)) i n := by
  have l1 : (u.take ((i + 1) * 5)).length = (i + 1) * 5 := by rw [List.length_take]; omega
  unfold layU growU shiftU
  rw [List.append_assoc (u.take ((i + 1) * 5)), List.take_append_of_le_length (by omega), List.take_take, Nat.min_eq_left (by omega), List.drop_append_of_le_length (by omega), List.drop_of_length_le (by omega), List.nil_append]
  simp only [List.append_assoc]
theorem wpList_append_runQ {P : Program} {w w' : World} {ops : Array Oper} {rest : List Oper} {o : Oper} {a : Act} {Q : Exit → Act → World → Prop} (hg : o.guard = none) (s x : Operand) (t ty : TypeId) (hop : o.op = Op.call { callee := Callee.builtin Builtin.append, args := #[s, x], argTypes := #[t, t] }) (hty : o.type = ty)
    {u v r : Value} (h1 : a.eval s = u) (h2 : a.eval x = v) (hrun : (Builtin.append_ #[t, t] ty #[u, v]).run P w = .ok r w') (h : wpList P ops Q rest (a.put o.dst r) w') : wpList P ops Q (o :: rest) a w := by
  refine wpList_plain hg fun K hK' => ?_
  unfold Oper.wp
  have : (execOp a.eval o).run P w = .ok (.value r) w' := by
    obtain ⟨dst, op, type, pos, after, guard⟩ := o
    simp only at hop hty
    subst hop hty
    have e7 : (#[s, x].map a.eval) = #[u, v] := by simp [h1, h2]
    simp only [execOp, resolve, e7, Sem.run_bind, Sem.run_pure, Result.andThen_ok, invoke, builtin, hrun]
  rw [this]
  exact hK' _ _ h
set_option maxRecDepth 20000 in
theorem insC_end (W W' : World) (a a2 : Option Addr) (n cap c2 : Nat) (w : Value) (hn : n ≤ cap) (hn2 : (n : Int) ≤ 9223372036854775807) (h2 : 1 ≤ c2)
    (happ : (Builtin.append_ #[33, 33] 33 #[.slice a n cap, .slice a2 1 c2]).run Tryz.prog W = .ok w W') :
    Calls Tryz.prog 53 #[.slice a n cap, .int .i64 n, .slice a2 1 c2] W fun e W'' => e = .returned w ∧ W'' = W' := by
  go_enter Tryz.func53, Tryz.ntmps53
  go_wp2_with (refine wpList_append_runQ rfl _ _ _ _ rfl rfl rfl rfl happ ?_)
  all_goals (go_ret; exact ⟨rfl, rfl⟩)
theorem insOkC {ei : TI} (h5 : ei.sz = 5) (h40 : ei.nb = 40) : InsOk cx 53 46 ei := by
  intro W a n cap i vb voff vc uv vs tv hn hi hfit hvc hrow hv hvl hvs h1v
  rw [h5] at *
  unfold fitO at hfit
  rw [h40] at hfit
  obtain ⟨hf1, hf2⟩ := hfit
  have hm63 : n + 1 ≤ 9223372036854775807 := by unfold maxLen at hf1; omega
  have hul : Tryz.prog.underlying 33 = some (.slice 46) := by kernel_rfl
  obtain ⟨i0, z, hi0, hzs, hzb, hz, hzc, hz1⟩ := tyComp
  have hnews : Firsts Tryz.prog W i0.size 1 (.slice (some ⟨vb, voff, none⟩) 1 vc) vs := firsts_some (by rw [hvl, hzs]) fun j u hj => run_loadCells_blk hv (fun j v h => by simpa using hvs j v h) j u hj
  rcases Nat.eq_or_lt_of_le hi with rfl | hlt
  · by_cases hroom : i + 1 ≤ cap
    · obtain ⟨b, u, rfl, hb, hu, h1c, hvb⟩ := hrow (by omega)
      have hr := run_app_room (P := Tryz.prog) (w := W) (t := 33) (ty := 33) (sLen := i) (sCap := cap) hul hi0 hb hnews h1v hroom (by rw [hzs, hvl]; simp [hu]; omega)
      refine (insC_end _ _ _ _ _ _ _ _ hn (by omega) hvc hr).mono ?_
      rintro e W' ⟨rfl, rfl⟩
      rw [hzs, hvl]
      refine ⟨b, cap, u.take (i * 5) ++ vs ++ u.drop (i * 5 + 5), rfl, growU_ins (zs := u.drop (i * 5 + 5)) (u := u) (Nat.le_refl _) (by omega) (fun _ => ⟨b, rfl, hb⟩) hvl growU_end.symm (by rw [List.length_drop, hu]; omega) hroom h1c h1v (fun c hc => h1c c (List.mem_of_mem_drop hc)) (setRow_heap W b _ _ _ _ hb) rfl rfl rfl ?_ (.inl ⟨by omega, rfl, fun x hx => setRow_other' hx⟩)⟩
      rw [setRow_size]; exact Nat.le_refl _
    · have hcap : cap = i := by omega
      subst hcap
      obtain ⟨u, hu, ho, h1c, ha⟩ : ∃ u : List Value, u.length = cap * 5 ∧ Firsts Tryz.prog W i0.size cap (.slice a cap cap) u ∧ (∀ c ∈ u, c.oneCell' = true) ∧ (cap ≠ 0 → ∃ b, a = some ⟨b, 0, none⟩ ∧ Blk W b u.toArray 46) := by
        by_cases hc : cap = 0
        · subst hc
          refine ⟨[], by simp, ?_, fun c h => absurd h (List.not_mem_nil), fun h => absurd rfl h⟩
          cases a with
          | none => exact firsts_none
          | some a => exact firsts_some (by simp) fun j u hj => by simp at hj
        · obtain ⟨b, u, rfl, hb, hu, h1c, hvb⟩ := hrow hc
          exact ⟨u, hu, firsts_some (by rw [hu, hzs]) fun j v hj => by simpa using run_loadCells_blk (o := 0) hb (cs := u) (fun j v h => by simpa using h) j v hj, h1c, fun _ => ⟨b, rfl, hb⟩⟩
      have hr := run_app_grow (P := Tryz.prog) (w := W) (t := 33) (ty := 33) hul hi0 hz ho hnews (by omega) hf1 (by rw [hzb]; exact hf2)
      refine (insC_end _ _ _ _ _ _ _ _ (Nat.le_refl _) (by omega) hvc hr).mono ?_
      rintro e W' ⟨rfl, rfl⟩
      have g : Gr W (W.drew.alloc (.cells (u.toArray ++ vs.toArray ++ Builtin.zeroCells z.cells (grownCap W (cap + 1) cap 46 - (cap + 1))) 46)) := (Gr.refl W).drew.alloc _
      have hge := grownCap_ge W (cap + 1) cap 46
      have e2 : (u ++ vs ++ (Builtin.zeroCells z.cells (grownCap W (cap + 1) cap 46 - (cap + 1))).toList).toArray = u.toArray ++ vs.toArray ++ Builtin.zeroCells z.cells (grownCap W (cap + 1) cap 46 - (cap + 1)) := by
        apply Array.ext'; simp
      refine ⟨W.heap.size, grownCap W (cap + 1) cap 46, u ++ vs ++ (Builtin.zeroCells z.cells (grownCap W (cap + 1) cap 46 - (cap + 1))).toList, rfl, growU_ins (zs := (Builtin.zeroCells z.cells (grownCap W (cap + 1) cap 46 - (cap + 1))).toList) (u := u) (Nat.le_refl _) (by omega) ha hvl (e := ?_) (by rw [zeros_len, hzc]) hge h1c h1v (hz1 _) ?_ g.os g.tape g.output g.size (.inr ⟨Nat.le_refl _, fun x hx => g.block x hx⟩)⟩
      · rw [growU_end, List.take_of_length_le (by omega)]
      · rw [e2]; exact Blk.new (w := W.drew) rfl
  · obtain ⟨b, u, rfl, hb, hu, h1c, hvb⟩ := hrow (by omega)
    by_cases hroom : n + 1 ≤ cap
    · refine (insC_shift b n cap i vb voff vc u uv vs 46 tv W hlt hroom hm63 hvb hb hu hv hvl hvs h1c h1v).mono ?_
      rintro e W' ⟨rfl, rfl⟩
      have h1 : (W.drew.setRow b (shiftU u i n).toArray).heap[b]? = some (.cells (shiftU u i n).toArray 46 (0, 0)) := setRow_heap W.drew b _ _ _ _ hb
      refine ⟨b, cap, _, rfl, growU_ins (zs := u.drop ((n + 1) * 5)) (u := u) (by omega) (by omega) (fun _ => ⟨b, rfl, hb⟩) hvl (layU_shift hlt (by omega)) (by rw [List.length_drop, hu]; omega) hroom h1c h1v (fun c hc => h1c c (List.mem_of_mem_drop hc)) (setRow_heap _ b _ _ _ _ h1) rfl rfl rfl ?_ (.inl ⟨by omega, rfl, fun x hx => (setRow_other' hx).trans (setRow_other' hx)⟩)⟩
      rw [setRow_size, setRow_size]; exact Nat.le_refl _
    · have hcap : cap = n := by omega
      subst hcap
      refine (insC_grow b cap i vb voff vc u uv vs 46 tv W hlt hf2 hb hu hv hvl hvs h1c h1v).mono ?_
      rintro e W' ⟨rfl, k1, k2, k3, k4, k5, zs, k6, k7, k8⟩
      exact ⟨W.heap.size, grownCap W (cap + 1) cap 46, _, rfl, growU_ins (zs := zs) (u := u) (by omega) (by omega) (fun _ => ⟨b, rfl, hb⟩) hvl rfl k6 (grownCap_ge W _ _ _) h1c h1v k7 k8 k2 k3 k4 (by omega) (.inr ⟨Nat.le_refl _, k5⟩)⟩
end Go.Proofs.YtjdohgcolhpegaaGreatDoor
namespace Go.Proofs.YtjdohgcolhpegaaGreatDoor
open Go.RowKit

theorem low_spec {key : Nat → Int} {n : Nat} {q : Int} : (∀ j, j < lowB key n q → key j < q) ∧ (lowB key n q < n → q ≤ key (lowB key n q)) :=
  ⟨fun _ h => lbN_lt (Nat.zero_le _) h, fun h => by
    have := lbN_ge (key := key) (q := q) (r := n) (k := 0) (by unfold lowB at h; omega)
    unfold lowB
    omega⟩
theorem low_hi {key : Nat → Int} {n : Nat} {q : Int} (hi : Inc key n) (hn : hitB key n q = false) {j : Nat} (h1 : lowB key n q ≤ j) (h2 : j < n) : q < key j := by
  obtain ⟨-, s2⟩ := low_spec (key := key) (n := n) (q := q)
  have s2 := s2 (by omega)
  have hne : key (lowB key n q) ≠ q := fun e => by
    rw [hitB_iff.2 ⟨by omega, e⟩] at hn; cases hn
  rcases Nat.eq_or_lt_of_le h1 with h | h
  · rw [← h]; omega
  · have := hi _ _ h h2; omega
theorem hit_iff {key : Nat → Int} {n : Nat} {q : Int} (hi : Inc key n) : hitB key n q = true ↔ ∃ i, i < n ∧ key i = q := by
  constructor
  · intro h; exact ⟨_, hitB_iff.1 h⟩
  · rintro ⟨i, h1, rfl⟩
    have hl : lowB key n (key i) = i := lowB_eq (by omega) (fun j hj => hi j i hj h1) (fun j hj hn => by
      rcases Nat.eq_or_lt_of_le hj with rfl | hj
      · exact Int.le_refl _
      · have := hi i j hj hn; omega)
    exact hitB_iff.2 (by rw [hl]; exact ⟨h1, rfl⟩)
theorem low_is {key : Nat → Int} {n i : Nat} (hi : Inc key n) (h : i < n) : lowB key n (key i) = i := lowB_eq (by omega) (fun j hj => hi j i hj h) (fun j hj hn => by
  rcases Nat.eq_or_lt_of_le hj with rfl | hj
  · exact Int.le_refl _
  · have := hi i j hj hn; omega)
/-- A list with one element more, in the place k. -/
def insX {α : Type} (k : Nat) (c : α) (f : Nat → α) : Nat → α := fun j => bif Nat.beq j k then c else f (cond (Nat.blt j k) j (j - 1))
theorem insX_eq {α : Type} {k : Nat} {c : α} {f : Nat → α} : insX k c f k = c := by unfold insX; rw [Nat.beq_refl]; rfl
theorem blt_yes {a b : Nat} (h : a < b) : Nat.blt a b = true := Nat.ble_eq_true_of_le h
theorem blt_nn {a b : Nat} (h : ¬ a < b) : Nat.blt a b = false := by
  cases e : Nat.blt a b with
  | false => rfl
  | true => exact absurd (Nat.le_of_ble_eq_true e) h
theorem insX_lt {α : Type} {k j : Nat} {c : α} {f : Nat → α} (h : j < k) : insX k c f j = f j := by
  unfold insX; rw [beq_no (by omega), blt_yes h]; rfl
theorem insX_gt {α : Type} {k j : Nat} {c : α} {f : Nat → α} (h : k < j) : insX k c f j = f (j - 1) := by
  unfold insX; rw [beq_no (by omega), blt_nn (by omega)]; rfl
theorem insX_map {α β : Type} {k j : Nat} {c : α} {f : Nat → α} (g : α → β) : g (insX k c f j) = insX k (g c) (fun i => g (f i)) j := by
  unfold insX; cases Nat.beq j k <;> rfl
theorem ins_inc {key : Nat → Int} {n : Nat} {q : Int} (hi : Inc key n) (hn : hitB key n q = false) : Inc (insX (lowB key n q) q key) (n + 1) := by
  intro i j hij hj
  have s1 := (low_spec (key := key) (n := n) (q := q)).1
  have s2 : ∀ j, lowB key n q ≤ j → j < n → q < key j := fun j h1 h2 => low_hi hi hn h1 h2
  have hk : lowB key n q ≤ n := lowB_le
  generalize lowB key n q = k at *
  rcases Nat.lt_trichotomy i k with h | h | h <;> rcases Nat.lt_trichotomy j k with h' | h' | h' <;> try omega
  · rw [insX_lt h, insX_lt h']; exact hi i j hij (by omega)
  · subst h'; rw [insX_lt h, insX_eq]; exact s1 i h
  · rw [insX_lt h, insX_gt h']
    rcases Nat.eq_or_lt_of_le (by omega : i ≤ j - 1) with e | e
    · have a1 := s1 i h; have a2 := s2 (j - 1) (by omega) (by omega); omega
    · exact hi i (j - 1) e (by omega)
  · subst h; rw [insX_eq, insX_gt h']; exact s2 _ (by omega) (by omega)
  · rw [insX_gt h, insX_gt h']; exact hi _ _ (by omega) (by omega)
theorem ins_ex {α : Type} {k n : Nat} {c : α} {f : Nat → α} (hk : k ≤ n) (p : α → Prop) : (∃ j, j < n + 1 ∧ p (insX k c f j)) ↔ p c ∨ ∃ i, i < n ∧ p (f i) := by
  constructor
  · rintro ⟨j, h1, h2⟩
    rcases Nat.lt_trichotomy j k with h | h | h
    · rw [insX_lt h] at h2; exact .inr ⟨j, by omega, h2⟩
    · subst h; rw [insX_eq] at h2; exact .inl h2
    · rw [insX_gt h] at h2; exact .inr ⟨j - 1, by omega, h2⟩
  · rintro (h | ⟨i, h1, h2⟩)
    · exact ⟨k, by omega, by rw [insX_eq]; exact h⟩
    · by_cases h : i < k
      · exact ⟨i, by omega, by rw [insX_lt h]; exact h2⟩
      · exact ⟨i + 1, by omega, by rw [insX_gt (by omega)]; exact h2⟩
/-! ### A component more, or another one -/
def Cms.ins (l : Cms) (k : Nat) (c : Comp) : Cms := ⟨l.n + 1, insX k c l.c⟩
def Ent.set (e : Ent) (c : Comp) : Ent := match hitC e.l c.kind with | true => e.put (lowC e.l c.kind) c | false => ⟨e.iD, e.l.ins (lowC e.l c.kind) c⟩
def Wor.upd (w : Wor) (a : Nat) (e : Ent) : Wor := ⟨w.tick, ⟨w.l.n, putF a e w.l.e⟩⟩
def setG (w : Wor) (id : Int) (c : Comp) : Wor × Int := match w.valid && c.fits with
  | false => (Wor.no, 2)
  | true => match (findE w id).2 with
    | false => (Wor.no, 6)
    | true => (w.upd (findE w id).1 ((w.l.e (findE w id).1).set c), 0)
theorem getC_yes {l : Cms} (h : Inc (fun i => (l.c i).kind) l.n) {i : Nat} (hi : i < l.n) {q : Int} (hq : (l.c i).kind = q) : getC l q = (l.c i, true) := by
  subst hq
  unfold getC
  rw [(hit_iff h).2 ⟨i, hi, rfl⟩]
  show (l.c (lowB (fun j => (l.c j).kind) l.n ((fun j => (l.c j).kind) i)), true) = _
  rw [low_is h hi]
theorem getC_no {l : Cms} {q : Int} (h : ∀ i, i < l.n → (l.c i).kind ≠ q) : getC l q = (Comp.no, false) := by
  unfold getC
  cases hb : hitB (fun i => (l.c i).kind) l.n q with
  | false => rfl
  | true => exact absurd (hitB_iff.1 hb).2 (h _ (hitB_iff.1 hb).1)
theorem low_le {l : Cms} {q : Int} : lowC l q ≤ l.n := lowB_le
theorem set_inc {e : Ent} {c : Comp} (he : e.Right) : Inc (fun i => ((e.set c).l.c i).kind) (e.set c).l.n := by
  unfold Ent.set
  cases hh : hitC e.l c.kind with
  | true =>
    obtain ⟨h1, h2⟩ := hitB_iff.1 hh
    have e1 : (fun i => (((e.put (lowC e.l c.kind) c).l.c i).kind)) = fun i => (e.l.c i).kind := funext fun i => by
      show (putF (lowC e.l c.kind) c e.l.c i).kind = _
      by_cases hi : i = lowC e.l c.kind
      · subst hi; rw [putF_eq]; exact h2.symm
      · rw [putF_ne hi]
    show Inc (fun i => (((e.put (lowC e.l c.kind) c).l.c i).kind)) e.l.n
    rw [e1]; exact he.inc
  | false =>
    show Inc (fun i => (insX (lowC e.l c.kind) c e.l.c i).kind) (e.l.n + 1)
    rw [show (fun i => (insX (lowC e.l c.kind) c e.l.c i).kind) = insX (lowC e.l c.kind) c.kind (fun i => (e.l.c i).kind) from funext fun i => insX_map Comp.kind]
    exact ins_inc he.inc hh
theorem set_iD {e : Ent} {c : Comp} : (e.set c).iD = e.iD := by unfold Ent.set; cases hitC e.l c.kind <;> rfl
theorem set_mem {e : Ent} {c : Comp} (he : e.Right) (p : Comp → Prop) : (∃ i, i < (e.set c).l.n ∧ p ((e.set c).l.c i)) ↔ p c ∨ ∃ i, i < e.l.n ∧ (e.l.c i).kind ≠ c.kind ∧ p (e.l.c i) := by
  unfold Ent.set
  cases hh : hitC e.l c.kind with
  | true =>
    obtain ⟨h1, h2⟩ := hitB_iff.1 hh
    have h1 : lowC e.l c.kind < e.l.n := h1
    have h2 : (e.l.c (lowC e.l c.kind)).kind = c.kind := h2
    show (∃ i, i < e.l.n ∧ p (putF (lowC e.l c.kind) c e.l.c i)) ↔ _
    constructor
    · rintro ⟨i, k1, k2⟩
      by_cases hi : i = lowC e.l c.kind
      · subst hi; rw [putF_eq] at k2; exact .inl k2
      · rw [putF_ne hi] at k2
        refine .inr ⟨i, k1, fun hk => hi ?_, k2⟩
        have := low_is he.inc k1
        simp only [hk] at this
        exact this.symm
    · rintro (h | ⟨i, k1, k2, k3⟩)
      · exact ⟨_, h1, by rw [putF_eq]; exact h⟩
      · exact ⟨i, k1, by rw [putF_ne (fun hi => k2 (by rw [hi]; exact h2))]; exact k3⟩
  | false =>
    show (∃ i, i < e.l.n + 1 ∧ p (insX (lowC e.l c.kind) c e.l.c i)) ↔ _
    rw [ins_ex low_le p]
    constructor
    · rintro (h | ⟨i, k1, k2⟩)
      · exact .inl h
      · refine .inr ⟨i, k1, fun hk => ?_, k2⟩
        rw [show hitC e.l c.kind = true from (hit_iff he.inc).2 ⟨i, k1, hk⟩] at hh
        cases hh
    · rintro (h | ⟨i, k1, k2, k3⟩)
      · exact .inl h
      · exact .inr ⟨i, k1, k3⟩
theorem set_right {e : Ent} {c : Comp} (he : e.Right) (hc : c.Fits) : (e.set c).Right := by
  refine ⟨by rw [set_iD]; exact he.lo, by rw [set_iD]; exact he.hi, set_inc he, fun i hi => ?_⟩
  refine Classical.byContradiction fun hn => ?_
  rcases (set_mem he fun x => ¬ x.Fits).1 ⟨i, hi, hn⟩ with h | ⟨j, h1, -, h2⟩
  · exact h hc
  · exact h2 (he.fits j h1)
theorem set_same {e : Ent} {c : Comp} (he : e.Right) : getC (e.set c).l c.kind = (c, true) := by
  obtain ⟨i, h1, h2⟩ := (set_mem (c := c) he fun x => x = c).2 (.inl rfl)
  rw [getC_yes (set_inc he) h1 (by rw [h2]), h2]
theorem set_ne {e : Ent} {c : Comp} {q : Int} (he : e.Right) (hq : q ≠ c.kind) : getC (e.set c).l q = getC e.l q := by
  by_cases h : ∃ i, i < e.l.n ∧ (e.l.c i).kind = q
  · obtain ⟨i, h1, h2⟩ := h
    rw [getC_yes he.inc h1 h2]
    obtain ⟨j, k1, k2⟩ := (set_mem (c := c) he fun x => x = e.l.c i).2 (.inr ⟨i, h1, by rw [h2]; exact hq, rfl⟩)
    rw [getC_yes (set_inc he) k1 (by rw [k2]; exact h2), k2]
  · rw [getC_no (l := e.l) fun i hi hk => h ⟨i, hi, hk⟩]
    refine getC_no fun i hi hk => ?_
    rcases (set_mem he fun x => x.kind = q).1 ⟨i, hi, hk⟩ with h' | ⟨j, h1, -, h2⟩
    · exact hq h'.symm
    · exact h ⟨j, h1, h2⟩
/-! ### Worlds -/
theorem upd_keys {w : Wor} {a : Nat} {e : Ent} (h : e.iD = (w.l.e a).iD) : (fun i => ((w.upd a e).l.e i).iD) = fun i => (w.l.e i).iD := funext fun i => by
  show (putF a e w.l.e i).iD = _
  by_cases hi : i = a
  · subst hi; rw [putF_eq]; exact h
  · rw [putF_ne hi]
theorem upd_valid {w : Wor} {a : Nat} {e : Ent} (hv : w.Valid) (h : e.iD = (w.l.e a).iD) (he : e.Right) : (w.upd a e).Valid := by
  refine ⟨hv.lo, hv.hi, hv.len, ?_, fun i hi => ?_⟩
  · rw [upd_keys h]; exact hv.inc
  · show (putF a e w.l.e i).Right
    by_cases hi' : i = a
    · subst hi'; rw [putF_eq]; exact he
    · rw [putF_ne hi']; exact hv.right i hi
theorem fnd_at {w : Wor} (hv : w.Valid) {i : Nat} (hi : i < w.l.n) : findE w (w.l.e i).iD = (i, true) := by
  unfold findE
  rw [Wor.valid_iff.2 hv]
  show (lowB (fun k => (w.l.e k).iD) w.l.n ((fun k => (w.l.e k).iD) i), hitB (fun k => (w.l.e k).iD) w.l.n ((fun k => (w.l.e k).iD) i)) = _
  rw [low_is hv.inc hi, (hit_iff hv.inc).2 ⟨i, hi, rfl⟩]
theorem upd_find {w : Wor} {a : Nat} {e : Ent} (hv : w.Valid) (h : e.iD = (w.l.e a).iD) (he : e.Right) (id : Int) : findE (w.upd a e) id = findE w id := by
  unfold findE
  rw [Wor.valid_iff.2 hv, Wor.valid_iff.2 (upd_valid hv h he)]
  simp only
  rw [upd_keys h]
  rfl
theorem setG_at {w : Wor} {c : Comp} (hv : w.Valid) (hc : c.Fits) {i : Nat} (hi : i < w.l.n) : setG w (w.l.e i).iD c = (w.upd i ((w.l.e i).set c), 0) := by
  unfold setG
  rw [Wor.valid_iff.2 hv, fits_yes hc, fnd_at hv hi]
  rfl
theorem setG_no {w : Wor} {id : Int} {c : Comp} (hv : ¬ w.Valid) : setG w id c = (Wor.no, 2) := by
  unfold setG
  cases h : w.valid with
  | true => exact absurd (Wor.valid_iff.1 h) hv
  | false => rfl
theorem upd_e {w : Wor} {a : Nat} {e : Ent} : (w.upd a e).l.e a = e := putF_eq
def owC (x : Int) : Comp := ⟨4, x, 0, 0, 0⟩
def psC (p : Vec) : Comp := ⟨1, p.x, p.y, 0, 0⟩
theorem own_fits {x : Int} (h : 1 ≤ x ∧ x ≤ 8) : (owC x).Fits := by
  unfold owC Comp.Fits Comp.F1 Comp.F2 Comp.F3 Comp.F4 Comp.F5 Comp.F6 Comp.F7 Comp.F8 Comp.F9 Comp.F10
  simp only
  omega
theorem pos_fits {p : Vec} (h : -1048576 ≤ p.x ∧ p.x ≤ 1048576 ∧ -1048576 ≤ p.y ∧ p.y ≤ 1048576) : (psC p).Fits := by
  unfold psC Comp.Fits Comp.F1 Comp.F2 Comp.F3 Comp.F4 Comp.F5 Comp.F6 Comp.F7 Comp.F8 Comp.F9 Comp.F10
  simp only
  omega
/-- What armed returns. -/
def armE (w : Wor) (id x : Int) (p : Vec) : Wor × Bool := match decide (¬ (setG w id (owC x)).2 = 0) with
  | true => ((setG w id (owC x)).1, false)
  | false => ((setG (setG w id (owC x)).1 id (psC p)).1, decide ((setG (setG w id (owC x)).1 id (psC p)).2 = 0))
theorem arm_no {w : Wor} {id x : Int} {p : Vec} (hv : ¬ w.Valid) : (armE w id x p).2 = false := by
  unfold armE
  rw [setG_no hv]
  rfl
structure Armed (w v : Wor) (id x : Int) (p : Vec) : Prop where
  valid : v.Valid
  tick : v.tick = w.tick
  n : v.l.n = w.l.n
  own : getE v id 4 = (owC x, true)
  pos : getE v id 1 = (psC p, true)
theorem arm_ok {w : Wor} {i : Nat} {x : Int} {p : Vec} (hv : w.Valid) (hi : i < w.l.n) (hx : 1 ≤ x ∧ x ≤ 8) (hp : -1048576 ≤ p.x ∧ p.x ≤ 1048576 ∧ -1048576 ≤ p.y ∧ p.y ≤ 1048576) :
    (armE w (w.l.e i).iD x p).2 = true ∧ Armed w (armE w (w.l.e i).iD x p).1 (w.l.e i).iD x p := by
  have hr := hv.right i hi
  have e1 := setG_at hv (own_fits hx) hi
  have r1 := set_right hr (own_fits hx)
  have i1 : ((w.l.e i).set (owC x)).iD = (w.l.e i).iD := set_iD
  have v1 := upd_valid hv i1 r1
  have hi1 : i < (w.upd i ((w.l.e i).set (owC x))).l.n := hi
  have e2 := setG_at v1 (pos_fits hp) hi1
  rw [upd_e, i1] at e2
  have r2 := set_right r1 (pos_fits hp)
  have i2 : (((w.l.e i).set (owC x)).set (psC p)).iD = ((w.upd i ((w.l.e i).set (owC x))).l.e i).iD := by rw [upd_e]; exact set_iD
  have v2 := upd_valid v1 i2 r2
  have e3 : armE w (w.l.e i).iD x p = ((w.upd i ((w.l.e i).set (owC x))).upd i (((w.l.e i).set (owC x)).set (psC p)), true) := by
    unfold armE
    rw [e1]
    simp only [e2]
    rfl
  have f2 : ∀ q, getE ((w.upd i ((w.l.e i).set (owC x))).upd i (((w.l.e i).set (owC x)).set (psC p))) (w.l.e i).iD q = getC (((w.l.e i).set (owC x)).set (psC p)).l q := fun q => by
    unfold getE
    rw [upd_find v1 i2 r2, upd_find hv i1 r1, fnd_at hv hi]
    simp only [upd_e]
  rw [e3]
  refine ⟨rfl, v2, rfl, rfl, ?_, ?_⟩
  · rw [f2, set_ne r1 (by show (4 : Int) ≠ 1; decide)]
    exact set_same (c := owC x) hr
  · rw [f2]
    exact set_same (c := psC p) r1
end Go.Proofs.YtjdohgcolhpegaaGreatDoor
namespace Go.Proofs.YtjdohgcolhpegaaGreatDoor
open Go.RowKit

def Wor.ins (w : Wor) (i k : Nat) (c : Comp) : Wor := w.upd i ⟨(w.l.e i).iD, (w.l.e i).l.ins k c⟩
theorem set_put {w : Wor} {a : Nat} {c : Comp} (h : hitC (w.l.e a).l c.kind = true) : w.upd a ((w.l.e a).set c) = w.put a (lowC (w.l.e a).l c.kind) c := by
  unfold Ent.set; rw [h]; rfl
theorem set_ins {w : Wor} {a : Nat} {c : Comp} (h : hitC (w.l.e a).l c.kind = false) : w.upd a ((w.l.e a).set c) = w.ins a (lowC (w.l.e a).l c.kind) c := by
  unfold Ent.set; rw [h]; rfl
theorem altG_ins {w : Wor} {a k p m k' i i' : Nat} {c : Comp} (hp : p = a) (hm : m = (w.l.e a).l.n) (hk : k' = k) (hi : i' = i) :
    altG p (m + 1) (insF k' c.cells (fun j => ((w.l.e p).l.c j).cells)) (fun i => ((w.l.e i).l.n, fun j => ((w.l.e i).l.c j).cells)) i' = (((w.ins a k c).l.e i).l.n, fun j => (((w.ins a k c).l.e i).l.c j).cells) := by
  subst hp hm hk hi
  unfold altG
  cases h : Nat.beq i' p with
  | true =>
    obtain rfl := Nat.eq_of_beq_eq_true h
    have e : (w.ins i' k' c).l.e i' = ⟨(w.l.e i').iD, (w.l.e i').l.ins k' c⟩ := putF_eq
    simp only [e]
    refine Prod.ext rfl (funext fun j => ?_)
    show jnL (Nat.beq j k') c.cells ((w.l.e i').l.c (cond (Nat.blt j k') j (j - 1))).cells = (insX k' c (w.l.e i').l.c j).cells
    unfold insX
    cases Nat.beq j k' <;> rfl
  | false =>
    have e : (w.ins p k' c).l.e i' = w.l.e i' := putF_ne (fun e => by rw [e, Nat.beq_refl] at h; cases h)
    simp only [e]
theorem ins_iD {w : Wor} {a k i : Nat} {c : Comp} : ((w.ins a k c).l.e i).iD = (w.l.e (0 + i)).iD := by
  rw [Nat.zero_add]
  show (putF a _ w.l.e i).iD = _
  by_cases h : i = a
  · subst h; rw [putF_eq]
  · rw [putF_ne h]
noncomputable def conInsC : Con cx := conIns 33 53 (et := 46) (by exact rfl) Tryz.call53 (insOkC rfl rfl)
set_option maxHeartbeats 4000000 in
set_option maxRecDepth 8000 in
theorem SetG_walk : ∀ a, conj ((fun (a : Wor × Int × Comp) => [a.1.l.Sm, 0 ≤ a.2.2.kind ∧ a.2.2.kind ≤ 255]) a) → evFn (C := cx) [conWValid, conFits, conFind, conSOwnO, conPlC, conInsC] [inCopied] 1 ⟨[11], [], [], 0⟩ Tryz.f19 ((rds3 rdWor (rdI .i64) rdComp).enc a) fun v H _ => resOutF ((fun a => .tup [(setG a.1 a.2.1 a.2.2).1.sv, .v (.int .i64 (setG a.1 a.2.1 a.2.2).2)]) a) H v := by
  intro ⟨w, id, c⟩ ⟨hm, hk⟩
  replace hm : w.l.Sm := hm
  replace hk : 0 ≤ c.kind ∧ c.kind ≤ 255 := hk
  refine And.intro ⟨fun _ _ _ _ => trivial, hm⟩ ?_
  refine And.intro (fun _ => hk) ?_
  refine And.intro (fun hv => ?_) (fun hv => ?_)
  · have hv : (!w.valid || !c.fits) = true := hv
    have e : setG w id c = (Wor.no, 2) := by
      have : (w.valid && c.fits) = false := by cases h1 : w.valid <;> cases h2 : c.fits <;> simp [h1, h2] at hv ⊢
      unfold setG; rw [this]
    simp only [e]
    repeat' (first | (refine And.intro ?_ ?_) | (intro _) | exact rfl)
    all_goals exact absurd ‹_ < 0› (Nat.not_lt_zero _)
  have hv : (!w.valid || !c.fits) = false := hv
  have hv : (w.valid && c.fits) = true := by cases h1 : w.valid <;> cases h2 : c.fits <;> simp [h1, h2] at hv ⊢
  have hv1 : w.valid = true := (Bool.and_eq_true_iff.1 hv).1
  have hV := Wor.valid_iff.1 hv1
  obtain ⟨t1, t2⟩ := hV.two
  refine And.intro ⟨fun _ _ _ _ => trivial, hm⟩ ?_
  refine And.intro (fun hf => ?_) (fun hf => ?_)
  · have hf : (!(findE w id).2) = true := hf
    have hf : (findE w id).2 = false := by simpa using hf
    have e : setG w id c = (Wor.no, 6) := by unfold setG; rw [hv, hf]
    simp only [e]
    repeat' (first | (refine And.intro ?_ ?_) | (intro _) | exact rfl)
    all_goals exact absurd ‹_ < 0› (Nat.not_lt_zero _)
  have hf : (!(findE w id).2) = false := hf
  have hf : (findE w id).2 = true := by simpa using hf
  obtain ⟨-, g2, g3⟩ := find_hit hf
  have e : setG w id c = (w.upd (findE w id).1 ((w.l.e (findE w id).1).set c), 0) := by unfold setG; rw [hv, hf]
  simp only [e]
  refine Exists.intro (copC w 3 [(0, .lay w.cells 25), (1, .lay c.cells 46), (2, .lay zeroW 25)]) ?_
  refine And.intro ?_ ?_
  · refine ⟨(0 : Nat), [], [.cellN 5 1 2 1 5 46 35], trivial, Nat.zero_le _, ?_⟩
    repeat' (first | (refine And.intro ?_ ?_) | (intro _) | exact rfl)
    all_goals first | exact absurd ‹_ < 0› (Nat.not_lt_zero _) | skip
  refine fun (k : Nat) (hk : k ≤ w.l.n) => ?_
  refine And.intro (fun hb => ?_) (fun hb => ?_)
  · have hb : (k : Int) < w.l.n := of_decide_eq_true hb
    refine And.intro ⟨by omega, by omega⟩ ?_
    refine And.intro ⟨fun _ _ => trivial, by have := t2 k (by omega); (show (w.l.e k).l.n ≤ 1000); omega⟩ ?_
    have hfit : fitO (k + 1) 32 := ⟨Nat.le_trans (by omega : k + 1 ≤ 1001) (by decide), by omega⟩
    refine And.intro ⟨hfit, ?_⟩ ?_
    · repeat' (first | (refine And.intro ?_ ?_) | (intro _) | exact rfl)
    refine And.intro (by unfold I64; omega : I64 ((k : Int) + 1)) ?_
    refine ⟨k + 1, [(7, 11)], [.absorb 6], (by show w.l.n - (k + 1) < w.l.n - k; omega), (by omega : k + 1 ≤ w.l.n), ?_⟩
    repeat' (first | (refine And.intro ?_ ?_) | (intro _) | exact rfl)
    · refine putF_al (α := List SV) (p := fun i y => conjO (vqL 8 [(7, 11)] (List.set [SV.v (Value.int IntKind.i64 (w.l.e i).iD), SV.e] 1 SV.e) (y.set 1 SV.e))) ?_ ?_ _ ‹_›
      · exact rfl
      · exact fun i _ => rfl
    · refine putF_al (α := Nat × (Nat → List SV)) (p := fun i y => (w.l.e i).l.n = y.1) ?_ ?_ _ ‹_›
      · exact rfl
      · exact fun i _ => rfl
    · refine putF_al (α := Nat × (Nat → List SV)) (p := fun i y => ∀ j, j < y.1 → conjO (vqL 8 [(7, 11)] ((w.l.e i).l.c j).cells (y.2 j))) ?_ ?_ _ ‹_› _ ‹_›
      · exact fun j _ => ⟨rfl, rfl, rfl, rfl, rfl⟩
      · exact fun i _ j _ => ⟨rfl, rfl, rfl, rfl, rfl⟩
  · have hb : ¬ (k : Int) < w.l.n := of_decide_eq_false hb
    obtain rfl : k = w.l.n := by omega
    have hr := hV.right _ g2
    have q1 : (0 : Int) ≤ ((findE w id).1 : Int) ∧ ((findE w id).1 : Int) < w.l.n := ⟨by omega, by omega⟩
    have q2 : ((w.l.rd (findE w id).1).n : Int) ≤ halfN := by rw [Ens.rd_eq]; have := hr.len; unfold halfN; omega
    have q4 : Inc (fun j => ((w.l.rd (findE w id).1).c j).kind) (w.l.rd (findE w id).1).n := by rw [Ens.rd_eq]; exact hr.inc
    refine And.intro q1 ?_
    refine And.intro ⟨fun _ _ => trivial, q2, q4, rfl⟩ ?_
    refine And.intro (fun hc => ?_) (fun hc => ?_)
    · have hc : hitC (w.l.rd (findE w id).1) c.kind = true := hc
      have hh : hitC (w.l.e (findE w id).1).l c.kind = true := by rw [Ens.rd_eq] at hc; exact hc
      have h4 : lowC (w.l.rd (findE w id).1) c.kind < (w.l.rd (findE w id).1).n := (hitB_iff.1 hc).1
      have q3 : (0 : Int) ≤ (lowC (w.l.rd (findE w id).1) c.kind : Int) ∧ (lowC (w.l.rd (findE w id).1) c.kind : Int) < (w.l.rd (findE w id).1).n := ⟨by omega, by omega⟩
      refine And.intro q3 ?_
      rw [set_put hh]
      have eput : ∀ i j, ((w.put (findE w id).1 (lowC (w.l.e (findE w id).1).l c.kind) c).l.e i).l.c j = bif andQ (Nat.beq (0 + i) (0 + (findE w id).1)) (Nat.beq j (0 + lowC (w.l.rd (findE w id).1) c.kind)) then c else (w.l.e (0 + i)).l.c j := fun i j => by
        rw [Ens.rd_eq, put_c]
        simp only [Nat.zero_add]
      repeat' (first | (refine And.intro ?_ ?_) | (intro _) | exact rfl)
      · exact trivial
      · exact (put_id (w := w)).trans (congrArg (fun i => (w.l.e i).iD) (Nat.zero_add _).symm)
      · exact (put_n (w := w)).trans (congrArg (fun i => (w.l.e i).l.n) (Nat.zero_add _).symm)
      all_goals first | exact (congrArg Comp.kind (eput _ _)).trans (apply_bif Comp.kind) | exact (congrArg Comp.v0 (eput _ _)).trans (apply_bif Comp.v0) | exact (congrArg Comp.v1 (eput _ _)).trans (apply_bif Comp.v1) | exact (congrArg Comp.v2 (eput _ _)).trans (apply_bif Comp.v2) | exact (congrArg Comp.v3 (eput _ _)).trans (apply_bif Comp.v3)
    · have hc : hitC (w.l.rd (findE w id).1) c.kind = false := hc
      have hh : hitC (w.l.e (findE w id).1).l c.kind = false := by rw [Ens.rd_eq] at hc; exact hc
      rw [set_ins hh]
      have h5 : lowC (w.l.rd (findE w id).1) c.kind ≤ (w.l.rd (findE w id).1).n := lowB_le
      have q5 : (0 : Int) ≤ (lowC (w.l.rd (findE w id).1) c.kind : Int) ∧ (lowC (w.l.rd (findE w id).1) c.kind : Int) ≤ (w.l.rd (findE w id).1).n := ⟨by omega, by omega⟩
      have q6 : fitO ((w.l.rd (findE w id).1).n + 1) 40 := by
        have := hr.len
        rw [Ens.rd_eq]
        exact ⟨Nat.le_trans (by omega : _ ≤ 1001) (by decide), by omega⟩
      refine And.intro ⟨q5.1, q5.2, rfl, q6, fun j _ => ?_⟩ ?_
      · exact ⟨rfl, rfl, rfl, rfl, rfl, trivial⟩
      have hk' : lowC (w.l.rd (findE w id).1) c.kind = lowC (w.l.e (findE w id).1).l c.kind := by rw [Ens.rd_eq]
      have hG := fun i => altG_ins (w := w) (c := c) (i := i) (Nat.zero_add (findE w id).1) (congrArg (fun x => (w.l.e x).l.n) (Nat.zero_add (findE w id).1)) hk' (Nat.zero_add i)
      have hF := fun i j => congrArg (fun P : Nat × (Nat → List SV) => P.2 j) (hG i)
      repeat' (first | (refine And.intro ?_ ?_) | (intro _) | exact rfl)
      · exact Nat.le_add_left _ _
      · exact (congrArg flatL (hF _ _)).trans rfl
      · exact ins_iD
      · exact (congrArg Prod.fst (hG _)).symm
      · exact Eq.mpr (congrArg (fun x => conjO (vqL 0 [] (Comp.cells _) x)) (hF _ _)) ⟨rfl, rfl, rfl, rfl, rfl⟩
noncomputable def conSetG : Con cx := walkConF 19 Tryz.call19 (rds3 rdWor (rdI .i64) rdComp) (fun (a : Wor × Int × Comp) => [a.1.l.Sm, 0 ≤ a.2.2.kind ∧ a.2.2.kind ≤ 255]) (fun a => .tup [(setG a.1 a.2.1 a.2.2).1.sv, .v (.int .i64 (setG a.1 a.2.1 a.2.2).2)]) (fun _ => ⟨[11], [], [], 0⟩) [11] (fun _ => rfl) follows Tryz.func19 (by kernel_rfl) SetG_walk
end Go.Proofs.YtjdohgcolhpegaaGreatDoor
namespace Go.Proofs.YtjdohgcolhpegaaGreatDoor
open Go.RowKit

theorem with_in {p : Vec} (h : -1048576 ≤ p.x ∧ p.x ≤ 1048576 ∧ -1048576 ≤ p.y ∧ p.y ≤ 1048576) : withB p.x p.y 1048576 = true := by
  unfold withB
  simp only [Bool.and_eq_true, decide_eq_true_eq]
  omega
theorem jb1_eq {h : Wrs} {w : Wor} {p : Vec} {i : Df.Input} (hw : w.Valid) (hp : -1048576 ≤ p.x ∧ p.x ≤ 1048576 ∧ -1048576 ≤ p.y ∧ p.y ≤ 1048576) : jB1 h w i = seeB h i.client p i := by
  unfold jB1 seeB
  rw [Wor.valid_iff.2 hw, with_in hp]
  simp
theorem met_0 {w : Wor} {L : List Body} {p q : Vec} : (metE w L p q).2 = 0 := by
  unfold metE
  split <;> rfl
theorem see_2 {h : Wrs} {c : Int} {f : Vec} {i : Df.Input} : decide ((seeE h c f i).2 = 2) = seeB h c f i := by
  unfold seeE
  cases seeB h c f i with
  | true => rfl
  | false =>
    simp only
    split
    · rfl
    · split
      · rfl
      · rw [met_0]; rfl
def lateB (w : Wor) (i : Df.Input) : Bool := (decide (i.seen < w.tick - 16) || decide (w.tick < i.seen)) || (decide (i.seen = w.tick) && decide (0 < i.part))
theorem fits_rng {c : Int} {i : Df.Input} (h : fitsB c i = true) : 0 ≤ i.seen ∧ i.seen ≤ 1073741824 ∧ 0 ≤ i.part ∧ i.part < 16 := by
  unfold fitsB at h
  simp only [Bool.and_eq_true, decide_eq_true_eq] at h
  omega
theorem late_eq {w : Wor} {i : Df.Input} (hw : w.Valid) (hf : fitsB i.client i = true) : jB3 w i = lateB w i := by
  obtain ⟨f1, f2, f3, f4⟩ := fits_rng hf
  have t1 := hw.lo
  have t2 := hw.hi
  unfold jB3 timeW lateB
  rw [wi' (n := w.tick - 16) (by omega), wi' (n := 16 * w.tick) (by omega), wi' (n := 16 * i.seen) (by omega), wi' (n := 16 * i.seen + i.part) (by omega), Bool.eq_iff_iff]
  simp only [Bool.or_eq_true, Bool.and_eq_true, decide_eq_true_eq]
  omega
/-- What Judge makes of what See returns. -/
def adj (w : Wor) (X : Hit × Int) : Hit × Int := (⟨X.1.id, X.1.at_, X.1.alive && (getE w X.1.id 8).2⟩, X.2)
theorem seeB_fits {h : Wrs} {c : Int} {p : Vec} {i : Df.Input} (hb : seeB h c p i = false) : histB h = true ∧ fitsB c i = true := by
  unfold seeB at hb
  simp only [Bool.or_eq_false_iff, Bool.not_eq_false'] at hb
  exact hb.1
theorem judge_armed {h : Wrs} {now w : Wor} {id : Int} {p : Vec} {i : Df.Input} (A : Armed now w id i.client p) (hp : -1048576 ≤ p.x ∧ p.x ≤ 1048576 ∧ -1048576 ≤ p.y ∧ p.y ≤ 1048576) :
    judgeE h w id i = match seeB h i.client p i with | true => (Hit.no, 2) | false => match lateB w i with | true => (Hit.no, 290) | false => adj w (seeE h i.client p i) := by
  have e2 : jB2 w id i = false := by
    unfold jB2
    rw [A.own, A.pos]
    simp [owC]
  have e3 : jFrom w id = p := by unfold jFrom; rw [A.pos]; rfl
  unfold judgeE
  rw [jb1_eq A.valid hp]
  cases hb : seeB h i.client p i with
  | true => rfl
  | false =>
    simp only
    rw [e2, late_eq A.valid (seeB_fits hb).2, e3]
    simp only
    cases lateB w i with
    | true => rfl
    | false =>
      simp only
      cases hl : (getE w (seeE h i.client p i).1.id 8).2 with
      | true => simp only [adj, hl, Bool.and_true, Bool.not_true]
      | false => simp only [adj, hl, Bool.and_false, Bool.not_false]
theorem hit_eta {h : Hit} : (⟨h.id, h.at_, h.alive⟩ : Hit) = h := rfl

/-! ### The part of a history that is kept -/
theorem hstB_of {h : Wrs} (hh : h.Hist) : histB h = true := by
  unfold histB
  rw [anyN_of fun i _ hi => ?_]
  · have := hh.len
    simp only [Bool.not_false, Bool.true_and, decide_eq_true_eq]
    omega
  · unfold badH
    rw [Wor.valid_iff.2 (hh.v i (by omega))]
    simp only [Bool.not_true, Bool.false_or, Bool.and_eq_false_iff, decide_eq_false_iff_not]
    by_cases h0 : i = 0
    · left; omega
    · right
      have := hh.inc (i - 1) i (by omega) (by omega)
      simp only at this
      omega
def keptW (h : Wrs) (d : Nat) : Wrs := ⟨h.n - d, fun k => h.w (d + k)⟩
theorem kept_0 {h : Wrs} : keptW h 0 = h := by
  unfold keptW
  simp only [Nat.zero_add, Nat.sub_zero]
theorem kept_hist {h : Wrs} (H : h.Hist) (d : Nat) : (keptW h d).Hist := by
  refine ⟨fun i hi => ?_, fun i j hij hj => ?_, ?_⟩
  · have hi : i < h.n - d := hi
    exact H.v (d + i) (by omega)
  · have hj : j < h.n - d := hj
    exact H.inc (d + i) (d + j) (by omega) (by omega)
  · have := H.len
    show h.n - d ≤ 40
    omega
/-- All worlds up to the d-th are ahead of the tick t. -/
def Ahead (h : Wrs) (d : Nat) (t : Int) : Prop := d < h.n ∧ ∀ j, j ≤ d → (h.w j).tick < t
theorem low_kept {h : Wrs} {d : Nat} {q : Int} (H : h.Hist) (hd : d < h.n) (ha : ∀ j, j ≤ d → 16 * (h.w j).tick < q) : lowH h q = d + lowH (keptW h d) q ∧ 1 ≤ lowH (keptW h d) q := by
  have K : Inc (fun i => 16 * ((keptW h d).w i).tick) (keptW h d).n := fun i j hij hj => by
    have := (kept_hist H d).inc i j hij hj
    simp only at this ⊢
    omega
  obtain ⟨s1, s2⟩ := low_spec (key := fun i => 16 * ((keptW h d).w i).tick) (n := (keptW h d).n) (q := q)
  have hle : lowH (keptW h d) q ≤ (keptW h d).n := lowB_le
  have hn : (keptW h d).n = h.n - d := rfl
  refine ⟨?_, ?_⟩
  · show lowB (fun i => 16 * (h.w i).tick) h.n q = _
    refine lowB_eq (by omega) (fun j hj => ?_) (fun j h1 h2 => ?_)
    · by_cases hjd : j ≤ d
      · exact ha j hjd
      · have := s1 (j - d) (by show j - d < lowH (keptW h d) q; omega)
        have e : ((keptW h d).w (j - d)) = h.w j := congrArg h.w (by omega)
        simp only [e] at this
        exact this
    · have s2 := s2 (by show lowH (keptW h d) q < _; omega)
      have e : ((keptW h d).w (j - d)) = h.w j := congrArg h.w (by omega)
      show q ≤ 16 * (h.w j).tick
      rw [← e]
      rcases Nat.eq_or_lt_of_le (by omega : lowH (keptW h d) q ≤ j - d) with h3 | h3
      · rw [← h3]; exact s2
      · have := K _ _ h3 (by omega)
        exact Int.le_trans s2 (Int.le_of_lt this)
  · refine Nat.pos_of_ne_zero fun h0 => ?_
    have s2 := s2 (by show lowH (keptW h d) q < _; omega)
    have h0' : lowB (fun i => 16 * ((keptW h d).w i).tick) (keptW h d).n q = 0 := h0
    rw [h0'] at s2
    have := ha d (Nat.le_refl _)
    have s2 : q ≤ 16 * (h.w (d + 0)).tick := s2
    rw [Nat.add_zero] at s2
    omega
theorem shown_kept {h : Wrs} {d : Nat} {t p T : Int} (H : h.Hist) (hd : d = 0 ∨ Ahead h d T) (ht : T ≤ t) (hp : 0 ≤ p) : shownE (keptW h d) t p = shownE h t p := by
  rcases hd with rfl | ⟨hd, ha⟩
  · rw [kept_0]
  obtain ⟨l1, l2⟩ := low_kept (q := 16 * t + p) H hd (fun j hj => by have := ha j hj; omega)
  have hn : (keptW h d).n = h.n - d := rfl
  have e1 : shB (keptW h d) t p = shB h t p := by unfold shB; rw [hstB_of H, hstB_of (kept_hist H d)]
  have hw : ∀ k, (keptW h d).w k = h.w (d + k) := fun _ => rfl
  have e2 : hitH (keptW h d) (16 * t + p) = hitH h (16 * t + p) := by
    unfold hitH hitB
    rw [show lowB (fun i => 16 * ((keptW h d).w i).tick) (keptW h d).n (16 * t + p) = lowH (keptW h d) (16 * t + p) from rfl, show lowB (fun i => 16 * (h.w i).tick) h.n (16 * t + p) = lowH h (16 * t + p) from rfl, l1, hn]
    simp only [hw]
    congr 1
    rw [decide_eq_decide]
    omega
  unfold shownE
  rw [e1, e2]
  cases shB h t p with
  | true => rfl
  | false =>
    simp only
    generalize lowH (keptW h d) (16 * t + p) = L at *
    cases hitH h (16 * t + p) with
    | true => simp only; rw [hw, l1]
    | false =>
      simp only
      rw [l1, hw, hw, hn]
      have e3 : d + ((L : Int) - 1).toNat = (((d + L : Nat) : Int) - 1).toNat := by omega
      have e4 : decide ((L : Int) = 0) = decide (((d + L : Nat) : Int) = 0) := by rw [decide_eq_decide]; omega
      have e5 : decide ((L : Int) = ((h.n - d : Nat) : Int)) = decide (((d + L : Nat) : Int) = h.n) := by rw [decide_eq_decide]; omega
      rw [e3, e4, e5]
theorem see_kept {h : Wrs} {d : Nat} {c T : Int} {f : Vec} {i : Df.Input} (H : h.Hist) (hd : d = 0 ∨ Ahead h d T) (ht : T ≤ i.seen) (hp : 0 ≤ i.part) : seeE (keptW h d) c f i = seeE h c f i := by
  unfold seeE seeL seeB
  rw [shown_kept H hd ht hp, hstB_of H, hstB_of (kept_hist H d)]
theorem judge_kept {h : Wrs} {d : Nat} {w : Wor} {id : Int} {i : Df.Input} (H : h.Hist) (hw : w.Valid) (hd : d = 0 ∨ Ahead h d (w.tick - 16)) : judgeE (keptW h d) w id i = judgeE h w id i := by
  have e1 : jB1 (keptW h d) w i = jB1 h w i := by unfold jB1; rw [hstB_of H, hstB_of (kept_hist H d)]
  unfold judgeE
  rw [e1]
  cases h1 : jB1 h w i with
  | true => rfl
  | false =>
    simp only
    cases h2 : jB2 w id i with
    | true => rfl
    | false =>
      simp only
      cases h3 : jB3 w i with
      | true => rfl
      | false =>
        simp only
        have hf : fitsB i.client i = true := by
          unfold jB1 at h1
          simp only [Bool.or_eq_false_iff, Bool.not_eq_false'] at h1
          exact h1.2
        obtain ⟨f1, f2, f3, f4⟩ := fits_rng hf
        rw [late_eq hw hf] at h3
        unfold lateB at h3
        simp only [Bool.or_eq_false_iff, decide_eq_false_iff_not] at h3
        rw [see_kept H hd (by omega) f3]
/-- From where on a history is kept. -/
def sincD (h : Wrs) (t : Int) : Nat := (max (0 : Int) ((match decide (ixI (fun k => decide ((h.w k).tick ≥ t)) h.n < 0) with | true => (h.n : Int) | false => ixI (fun k => decide ((h.w k).tick ≥ t)) h.n) - 1)).toNat
def sincE (h : Wrs) (t : Int) : Wrs × Int := match histB h with
  | true => (keptW h (sincD h t), 0)
  | false => (⟨0, fun _ => Wor.no⟩, 2)
theorem sinc_ahead {h : Wrs} {t : Int} : sincD h t = 0 ∨ Ahead h (sincD h t) t := by
  unfold sincD
  by_cases hx : ixI (fun k => decide ((h.w k).tick ≥ t)) h.n = -1
  · rw [hx]
    simp only [show decide ((-1 : Int) < 0) = true from rfl]
    have hg := ixI_neg hx
    by_cases h0 : h.n = 0
    · left; omega
    · right
      refine ⟨by omega, fun j hj => ?_⟩
      have := hg j (by omega)
      have := of_decide_eq_false this
      omega
  · obtain ⟨k, k1, k2, k3, k4⟩ := ixI_pos hx
    rw [k2, decide_eq_false (by omega : ¬ (k : Int) < 0)]
    simp only
    by_cases h0 : k = 0
    · left; omega
    · right
      refine ⟨by omega, fun j hj => ?_⟩
      have := k4 j (by omega)
      have := of_decide_eq_false this
      omega
theorem sinc_le {h : Wrs} {t : Int} : sincD h t ≤ h.n := by
  rcases sinc_ahead (h := h) (t := t) with h0 | h0
  · omega
  · exact Nat.le_of_lt h0.1
end Go.Proofs.YtjdohgcolhpegaaGreatDoor
namespace Go.Proofs.YtjdohgcolhpegaaGreatDoor
open Go.RowKit

theorem c4_rng : (0 : Int) ≤ 4 ∧ (4 : Int) ≤ 255 := by decide
theorem c1_rng : (0 : Int) ≤ 1 ∧ (1 : Int) ≤ 255 := by decide
theorem setG_valid {w : Wor} {id : Int} {c : Comp} (h : (setG w id c).2 = 0) : (setG w id c).1.Valid := by
  unfold setG at h ⊢
  cases hv : w.valid && c.fits with
  | false => rw [hv] at h; exact absurd (show (2 : Int) = 0 from h) (by decide)
  | true =>
    rw [hv] at h
    simp only at h ⊢
    cases hf : (findE w id).2 with
    | false => rw [hf] at h; exact absurd (show (6 : Int) = 0 from h) (by decide)
    | true =>
      obtain ⟨v1, v2⟩ := Bool.and_eq_true_iff.1 hv
      have hV := Wor.valid_iff.1 v1
      obtain ⟨-, g2, -⟩ := find_hit hf
      exact upd_valid hV set_iD (set_right (hV.right _ g2) (of_decide_eq_true v2))
set_option maxHeartbeats 2000000 in
set_option maxRecDepth 8000 in
theorem Armed_walk : ∀ a, conj ((fun (a : Wor × Int × Int × Vec) => [a.1.l.Sm]) a) → evFn (C := cx) [conComp29, conSetG] [] 0 ⟨[1, 4], [], [], 0⟩ Tryz.f12 ((rds4 rdWor (rdI .i64) (rdI .i64) rdVec).enc a) fun v H _ => resOut ((fun a => .tup [(armE a.1 a.2.1 a.2.2.1 a.2.2.2).1.sv, .v (.bool (armE a.1 a.2.1 a.2.2.1 a.2.2.2).2)]) a) H v := by
  intro ⟨w, id, x, p⟩ hm
  replace hm : w.l.Sm := hm
  refine And.intro (al1 trivial) ?_
  refine And.intro ⟨fun _ _ _ _ => trivial, hm, c4_rng⟩ ?_
  refine And.intro (fun hv => ?_) (fun hv => ?_)
  · have hv : decide (¬ (setG w id (owC x)).2 = 0) = true := hv
    have e : armE w id x p = ((setG w id (owC x)).1, false) := by unfold armE; rw [hv]
    simp only [e]
    repeat' (first | (refine And.intro ?_ ?_) | (intro _) | exact rfl)
    all_goals skip
  · have hv : decide (¬ (setG w id (owC x)).2 = 0) = false := hv
    have e : armE w id x p = ((setG (setG w id (owC x)).1 id (psC p)).1, decide ((setG (setG w id (owC x)).1 id (psC p)).2 = 0)) := by unfold armE; rw [hv]
    simp only [e]
    have h0 : (setG w id (owC x)).2 = 0 := by simpa using hv
    have hs := valid_smF (setG_valid h0)
    refine And.intro (al2 trivial trivial) ?_
    refine And.intro ⟨fun _ _ _ _ => trivial, hs, c1_rng⟩ ?_
    repeat' (first | (refine And.intro ?_ ?_) | (intro _) | exact rfl)
    all_goals skip
noncomputable def conArmed : Con cx := walkCon 12 Tryz.call12 (rds4 rdWor (rdI .i64) (rdI .i64) rdVec) (fun (a : Wor × Int × Int × Vec) => [a.1.l.Sm]) (fun a => .tup [(armE a.1 a.2.1 a.2.2.1 a.2.2.2).1.sv, .v (.bool (armE a.1 a.2.1 a.2.2.1 a.2.2.2).2)]) (fun _ => ⟨[1, 4], [], [], 0⟩) [1, 4] (fun _ => rfl) follows Tryz.func12 (by kernel_rfl) Armed_walk
end Go.Proofs.YtjdohgcolhpegaaGreatDoor
namespace Go.Proofs.YtjdohgcolhpegaaGreatDoor
open Go.RowKit

set_option maxHeartbeats 2000000 in
set_option maxRecDepth 8000 in
theorem Snc1_walk : ∀ a, conj ((fun a => [∃ q, a.2 = .rp [.v (.int .i64 q)] 0]) a) → evFn (C := cx) [] [] 0 noHow Tryz.f100 ((rds2 rdWor rdX).enc a) fun v H _ => resOut ((fun a => .v (.bool (decide (a.1.tick ≥ rkI a.2)))) a) H v := by
  intro ⟨b, x⟩ hx
  obtain ⟨q, hx⟩ : ∃ q, x = .rp [.v (.int .i64 q)] 0 := hx
  subst hx
  exact rfl
noncomputable def conSnc1 : Con cx := walkCon 100 Tryz.call100 (rds2 rdWor rdX) (fun a => [∃ q, a.2 = .rp [.v (.int .i64 q)] 0]) (fun a => .v (.bool (decide (a.1.tick ≥ rkI a.2)))) (fun _ => noHow) [] (fun _ => rfl) follows Tryz.func100 (by kernel_rfl) Snc1_walk
def ixcW (h : Wrs) (q : Int) : Cut := ⟨Nat, fun k => k ≤ h.n ∧ ixN (fun k => decide ((h.w k).tick ≥ q)) 0 h.n = ixN (fun k => decide ((h.w k).tick ≥ q)) k (h.n - k),
  fun k => ⟨[sl 0 h.sv, sl 1 (.f (.func 100) [] [.rp [.v (.int .i64 q)] 0]), sl 7 (i64 h.n), sl 8 (i64 k)], [], 0, 0, [], []⟩, fun k => h.n - k⟩
set_option maxHeartbeats 2000000 in
set_option maxRecDepth 8000 in
theorem IxW_walk : ∀ a, conj ((fun a => [(a.1.n : Int) ≤ bigN, ∃ q, a.2 = (.f (.func 100) [] [.rp [.v (.int .i64 q)] 0])]) a) → evFn (C := cx) [conSnc1] [] 0 ⟨[], [], [2], 0⟩ Tryz.f99 ((rds2 rdWrs rdX).enc a) fun v H _ => resOut ((fun a => .v (.int .i64 (ixI (fun k => decide ((a.1.w k).tick ≥ kxI a.2)) a.1.n))) a) H v := by
  intro ⟨h, x⟩ ⟨hm, hx⟩
  obtain ⟨q, hx⟩ : ∃ q, x = (.f (.func 100) [] [.rp [.v (.int .i64 q)] 0]) := hx
  subst hx
  replace hm : (h.n : Int) ≤ 9223372036854775807 := hm
  refine Exists.intro (ixcW h q) ?_
  refine And.intro ?_ ?_
  · refine ⟨(0 : Nat), [], [], trivial, ⟨Nat.zero_le _, rfl⟩, ?_⟩
    repeat' (first | (refine And.intro ?_ ?_) | (intro _) | exact rfl)
  refine fun (k : Nat) (hk : k ≤ h.n ∧ ixN (fun k => decide ((h.w k).tick ≥ q)) 0 h.n = ixN (fun k => decide ((h.w k).tick ≥ q)) k (h.n - k)) => ?_
  obtain ⟨k1, k2⟩ := hk
  refine And.intro (fun hb => ?_) (fun hb => ?_)
  · have hb : (k : Int) < h.n := of_decide_eq_true hb
    have e := ixN_step (g := (fun k => decide ((h.w k).tick ≥ q))) (k := k) (n := h.n) (by omega)
    refine And.intro ⟨by omega, by omega⟩ ?_
    refine And.intro ⟨fun _ _ _ _ => trivial, q, rfl⟩ ?_
    refine And.intro (fun hc => ?_) (fun hc => ?_)
    · have hc : (decide ((h.w k).tick ≥ q)) = true := hc
      simp only [hc] at e
      exact ixI_yes (g := (fun k => decide ((h.w k).tick ≥ q))) (n := h.n) (k2.trans e) (by omega)
    · have hc : (decide ((h.w k).tick ≥ q)) = false := hc
      simp only [hc] at e
      refine And.intro (by unfold I64; omega : I64 ((k : Int) + 1)) ?_
      refine ⟨k + 1, [], [], (by show h.n - (k + 1) < h.n - k; omega), ⟨by omega, by rw [k2, e]⟩, ?_⟩
      repeat' (first | (refine And.intro ?_ ?_) | (intro _) | exact rfl)
  · have hb : ¬ (k : Int) < h.n := of_decide_eq_false hb
    refine ixI_none (g := (fun k => decide ((h.w k).tick ≥ q))) (n := h.n) ?_
    rw [k2, show h.n - k = 0 by omega]
    show k = h.n
    omega
noncomputable def conIxW : Con cx := walkCon 99 Tryz.call99 (rds2 rdWrs rdX) (fun a => [(a.1.n : Int) ≤ bigN, ∃ q, a.2 = (.f (.func 100) [] [.rp [.v (.int .i64 q)] 0])]) (fun a => .v (.int .i64 (ixI (fun k => decide ((a.1.w k).tick ≥ kxI a.2)) a.1.n))) (fun _ => ⟨[], [], [2], 0⟩) [] (fun _ => rfl) follows Tryz.func99 (by kernel_rfl) IxW_walk
def sncI (h : Wrs) (t : Int) : Int := match decide (ixI (fun k => decide ((h.w k).tick ≥ t)) h.n < 0) with | true => (h.n : Int) | false => ixI (fun k => decide ((h.w k).tick ≥ t)) h.n
theorem snc_d {h : Wrs} {t : Int} : (max (0 : Int) (sncI h t - 1)).toNat = sincD h t := rfl
theorem snc_rng {h : Wrs} {t : Int} : 0 ≤ sncI h t ∧ sncI h t ≤ h.n := by
  unfold sncI
  by_cases hx : ixI (fun k => decide ((h.w k).tick ≥ t)) h.n = -1
  · rw [hx]; show (0 : Int) ≤ (h.n : Int) ∧ (h.n : Int) ≤ h.n; omega
  · obtain ⟨k, k1, k2, k3, k4⟩ := ixI_pos hx
    rw [k2, decide_eq_false (by omega : ¬ (k : Int) < 0)]
    show (0 : Int) ≤ (k : Int) ∧ (k : Int) ≤ h.n
    omega
theorem kept_at {α : Type} (F : Wor → α) {h : Wrs} {d i : Nat} : F ((keptW h d).w i) = F (h.w (d + (0 + i))) := by rw [Nat.zero_add]; rfl
def snc6 (h : Wrs) (t : Int) : Cut := ⟨Unit, fun _ => True, fun _ => ⟨[sl 0 h.sv, sl 6 (i64 (sncI h t))], [], 1, 0, [], []⟩, fun _ => 0⟩
set_option maxHeartbeats 2000000 in
set_option maxRecDepth 8000 in
theorem Since_walk : ∀ a, conj ((fun (a : Wrs × Int) => [a.1.Sm]) a) → evFn (C := cx) [conHValid, conIxW, conOwned] [] 0 ⟨[], [6], [], 0⟩ Tryz.f67 ((rds2 rdWrs (rdI .i64)).enc a) fun v H _ => resOut ((fun a => .tup [(sincE a.1 a.2).1.sv, .v (.int .i64 (sincE a.1 a.2).2)]) a) H v := by
  intro ⟨h, t⟩ hm
  replace hm : h.Sm := hm
  refine And.intro ⟨fun _ _ _ _ _ _ => trivial, hm⟩ ?_
  refine And.intro (fun hv => ?_) (fun hv => ?_)
  · have hv : (!histB h) = true := hv
    have e : sincE h t = (⟨0, fun _ => Wor.no⟩, 2) := by unfold sincE; rw [show histB h = false by simpa using hv]
    simp only [e]
    repeat' (first | (refine And.intro ?_ ?_) | (intro _) | exact rfl)
    all_goals exact absurd ‹_ < 0› (Nat.not_lt_zero _)
  have hv : (!histB h) = false := hv
  have hv : histB h = true := by simpa using hv
  have H := hist_of hv
  have e : sincE h t = (keptW h (sincD h t), 0) := by unfold sincE; rw [hv]
  simp only [e]
  have hl := H.len
  obtain ⟨s1, s2⟩ := snc_rng (h := h) (t := t)
  refine And.intro ⟨fun _ _ _ _ _ _ => trivial, (by show (h.n : Int) ≤ 9223372036854775807; omega), t, rfl⟩ ?_
  refine Exists.intro (snc6 h t) ?_
  refine And.intro (And.intro (fun hb => ?_) (fun hb => ?_)) ?_
  · have hb : decide (ixI (fun k => decide ((h.w k).tick ≥ t)) h.n < 0) = true := hb
    have es : sncI h t = (h.n : Int) := by unfold sncI; rw [hb]
    refine ⟨(), [], [], trivial, trivial, ?_⟩
    repeat' (first | (refine And.intro ?_ ?_) | (intro _) | exact rfl)
    all_goals exact es
  · have hb : decide (ixI (fun k => decide ((h.w k).tick ≥ t)) h.n < 0) = false := hb
    have es : sncI h t = ixI (fun k => decide ((h.w k).tick ≥ t)) h.n := by unfold sncI; rw [hb]
    refine ⟨(), [], [], trivial, trivial, ?_⟩
    repeat' (first | (refine And.intro ?_ ?_) | (intro _) | exact rfl)
    all_goals exact es
  refine fun (_ : Unit) (_ : True) => ?_
  refine And.intro (by unfold I64; omega : I64 (sncI h t - 1)) ?_
  refine And.intro (by omega : (0 : Int) ≤ max 0 (sncI h t - 1) ∧ max 0 (sncI h t - 1) ≤ h.n) ?_
  refine And.intro ⟨fun _ _ _ _ _ _ => trivial, (kept_hist H (sincD h t)).lo⟩ ?_
  repeat' (first | (refine And.intro ?_ ?_) | (intro _) | exact rfl)
  all_goals first
    | exact kept_at (fun x => x.tick)
    | exact kept_at (fun x => x.l.n)
    | exact kept_at (fun x => (x.l.e _).iD)
    | exact kept_at (fun x => (x.l.e _).l.n)
    | exact kept_at (fun x => ((x.l.e _).l.c _).kind)
    | exact kept_at (fun x => ((x.l.e _).l.c _).v0)
    | exact kept_at (fun x => ((x.l.e _).l.c _).v1)
    | exact kept_at (fun x => ((x.l.e _).l.c _).v2)
    | exact kept_at (fun x => ((x.l.e _).l.c _).v3)
noncomputable def conSince : Con cx := walkCon 67 Tryz.call67 (rds2 rdWrs (rdI .i64)) (fun (a : Wrs × Int) => [a.1.Sm]) (fun a => .tup [(sincE a.1 a.2).1.sv, .v (.int .i64 (sincE a.1 a.2).2)]) (fun _ => ⟨[], [6], [], 0⟩) [] (fun _ => rfl) follows Tryz.func67 (by kernel_rfl) Since_walk
def keepE (h : Wrs) (t : Int) : Wrs × Int := match decide (t < 0) || decide (t > 1073741824) with
  | true => (⟨0, fun _ => Wor.no⟩, 2)
  | false => sincE h (t - 16)
set_option maxHeartbeats 2000000 in
set_option maxRecDepth 8000 in
theorem Keep_walk : ∀ a, conj ((fun (a : Wrs × Int) => [a.1.Sm]) a) → evFn (C := cx) [conSince] [] 0 noHow Tryz.f26 ((rds2 rdWrs (rdI .i64)).enc a) fun v H _ => resOut ((fun a => .tup [(keepE a.1 a.2).1.sv, .v (.int .i64 (keepE a.1 a.2).2)]) a) H v := by
  intro ⟨h, t⟩ hm
  replace hm : h.Sm := hm
  refine And.intro (fun hv => ?_) (fun hv => ?_)
  · have hv : (decide (t < 0) || decide (t > 1073741824)) = true := hv
    have e : keepE h t = (⟨0, fun _ => Wor.no⟩, 2) := by unfold keepE; rw [hv]
    simp only [e]
    repeat' (first | (refine And.intro ?_ ?_) | (intro _) | exact rfl)
    all_goals exact absurd ‹_ < 0› (Nat.not_lt_zero _)
  have hv : (decide (t < 0) || decide (t > 1073741824)) = false := hv
  have e : keepE h t = sincE h (t - 16) := by unfold keepE; rw [hv]
  simp only [e]
  simp only [Bool.or_eq_false_iff, decide_eq_false_iff_not] at hv
  refine And.intro (by unfold I64; omega : I64 (t - 16)) ?_
  refine And.intro ⟨fun _ _ _ _ _ _ => trivial, hm⟩ ?_
  repeat' (first | (refine And.intro ?_ ?_) | (intro _) | exact rfl)
  all_goals skip
noncomputable def conKeep : Con cx := walkCon 26 Tryz.call26 (rds2 rdWrs (rdI .i64)) (fun (a : Wrs × Int) => [a.1.Sm]) (fun a => .tup [(keepE a.1 a.2).1.sv, .v (.int .i64 (keepE a.1 a.2).2)]) (fun _ => noHow) [] (fun _ => rfl) follows Tryz.func26 (by kernel_rfl) Keep_walk
end Go.Proofs.YtjdohgcolhpegaaGreatDoor
namespace Go.Proofs.YtjdohgcolhpegaaGreatDoor
open Go.RowKit

def idN (w : Wor) (x : Int) : Int := (w.l.e (x.tmod w.l.n).toNat).iD
def RngP (p : Vec) : Prop := -1048576 ≤ p.x ∧ p.x ≤ 1048576 ∧ -1048576 ≤ p.y ∧ p.y ≤ 1048576
noncomputable def conKeepV (K : Wrs → Int → Wrs × Int) (hK : K = keepE) : Con cx where
  f := conKeep.f
  en := conKeep.en
  run := fun args => match alikeCL (rds2 rdWrs (rdI .i64)).pats args with
    | some l => some (obO (l ++ (fun (a : Wrs × Int) => [a.1.Sm]) ((rds2 rdWrs (rdI .i64)).dec args)), (fun (a : Wrs × Int) => .tup [(K a.1 a.2).1.sv, .v (.int .i64 (K a.1 a.2).2)]) ((rds2 rdWrs (rdI .i64)).dec args))
    | none => none
  fresh := false
  own := none
  ok := by subst hK; exact conKeep.ok
theorem keep_arg {h : Wrs} {t : Int} (hk : (keepE h t).2 ≠ 0) : (keepE h t).2 = 2 := by
  unfold keepE at *
  cases hb : decide (t < 0) || decide (t > 1073741824) with
  | true => rfl
  | false =>
    rw [hb] at hk
    simp only at hk ⊢
    unfold sincE at *
    cases hh : histB h with
    | false => rfl
    | true => rw [hh] at hk; exact absurd rfl hk
theorem keep_ok {h : Wrs} {t : Int} (hk : (keepE h t).2 = 0) : h.Hist ∧ (keepE h t).1 = keptW h (sincD h (t - 16)) := by
  unfold keepE at *
  cases hb : decide (t < 0) || decide (t > 1073741824) with
  | true => rw [hb] at hk; exact absurd (show (2 : Int) = 0 from hk) (by decide)
  | false =>
    rw [hb] at hk
    simp only at hk ⊢
    unfold sincE at *
    cases hh : histB h with
    | false => rw [hh] at hk; exact absurd (show (2 : Int) = 0 from hk) (by decide)
    | true => exact ⟨hist_of hh, rfl⟩
theorem hist_sm {h : Wrs} (H : h.Hist) : h.Sm := ⟨by have := H.len; unfold bigN; omega, fun i hi => valid_smF (H.v i hi)⟩
/-- The law's state behind Keep. -/
def kp6 (h : Wrs) : Cut := ⟨Wor × Int × Df.Input × Bool, fun a => a.1.Valid ∧ a.2.2.2 = true, fun a => ⟨[sl 0 h.sv, sl 7 (.p 1 0), sl 9 (i64 a.2.1), sl 10 (.p 2 0), sl 11 (.v (.bool a.2.2.2))],
  [(1, .lay a.2.2.1.cells 29), (2, .lay a.1.cells 25)], 3, 0, [], []⟩, fun _ => 0⟩
def kp9 (h : Wrs) : Cut := ⟨Wor × Int × Df.Input × Wrs, fun a => a.1.Valid ∧ h.Hist ∧ ∃ d, a.2.2.2 = keptW h d ∧ (d = 0 ∨ Ahead h d (a.1.tick - 16)), fun a => ⟨[sl 0 h.sv, sl 7 (.p 1 0), sl 9 (i64 a.2.1), sl 10 (.p 2 0), sl 12 a.2.2.2.sv],
  [(1, .lay a.2.2.1.cells 29), (2, .lay a.1.cells 25)], 3, 0, [], []⟩, fun _ => 0⟩
set_option maxHeartbeats 4000000 in
set_option maxRecDepth 8000 in
theorem RKeeps_walkV (K : Wrs → Int → Wrs × Int) (hK : K = keepE) (q : Wrs × Wor × Int × Df.Input) (hm : q.1.Sm) (hn : q.2.1.l.Sm) (hx : 0 ≤ q.2.2.1 ∧ q.2.2.1 ≤ 255) :
    evFn (C := cx) [conFew29, conWValid, conAwake29, conShot, conArmed, conKeepV K hK, conJudge, conHValid] [] 0 ⟨[], [6, 9], [], 0⟩ Tryz.f6 ((rds4 rdWrs rdWor (rdI .u8) Df.rdInput).enc q) fun v H _ => resOut (.v (.bool true)) H v := by
  obtain ⟨h, w, x, i⟩ := q
  replace hm : h.Sm := hm
  replace hn : w.l.Sm := hn
  obtain ⟨hx0, hx1⟩ : 0 ≤ x ∧ x ≤ 255 := hx
  refine And.intro ?_ ?_
  · repeat' (first | (refine And.intro ?_ ?_) | (intro _) | exact trivial)
  refine And.intro (fun _ => ⟨fun _ _ _ _ => trivial, hn⟩) ?_
  refine And.intro (fun hc => ?_) (fun hc => ?_)
  · exact rfl
  have hc1 := Bool.or_eq_false_iff.1 hc
  have hc2 := Bool.or_eq_false_iff.1 hc1.1
  have hn0 : ¬ (w.l.n : Int) = 0 := of_decide_eq_false hc1.2
  have hv : w.valid = true := by have : (!w.valid) = false := hc2.2; simpa using this
  have hV := Wor.valid_iff.1 hv
  have hf1 : fewAll h w = true := by have : (!fewAll h w) = false := hc2.1; simpa using this
  have hf2 : fewsB h = true := by unfold fewAll at hf1; exact (Bool.and_eq_true_iff.1 hf1).1
  have h12 := few_12 hf2
  have ht := tmod_rng (a := x) (b := (w.l.n : Int)) (by omega)
  have ht0 : 0 ≤ x.tmod w.l.n := Int.tmod_nonneg _ hx0
  have r1 : InR x := by unfold InR; omega
  have hi : (x.tmod w.l.n).toNat < w.l.n := by omega
  have hp : RngP ⟨3, 4⟩ := by unfold RngP; decide
  obtain ⟨A1, A2⟩ := arm_ok (x := (shotI i).client) hV hi ⟨(shot_rng i).1, (shot_rng i).2.1⟩ hp
  refine And.intro r1 ?_
  refine And.intro hn0 ?_
  refine And.intro ⟨ht0, ht.2⟩ ?_
  refine Exists.intro (kp6 h) ?_
  refine And.intro ?_ ?_
  · refine And.intro ⟨fun _ _ _ _ => trivial, hn⟩ ?_
    refine ⟨((armE w (idN w x) (shotI i).client ⟨3, 4⟩).1, idN w x, shotI i, (armE w (idN w x) (shotI i).client ⟨3, 4⟩).2), [], [], trivial, ⟨A2.valid, A1⟩, ?_⟩
    repeat' (first | (refine And.intro ?_ ?_) | (intro _) | exact rfl)
  clear A1 A2
  rintro ⟨w', id, i', b⟩ ⟨hw, hbt⟩
  replace hw : w'.Valid := hw
  replace hbt : b = true := hbt
  have hs := valid_smF hw
  refine And.intro ⟨fun _ _ _ _ _ _ => trivial, hm⟩ ?_
  refine Exists.intro (kp9 h) ?_
  refine And.intro (And.intro (fun hb => ?_) (fun hb => ?_)) ?_
  · have hb : (!b || decide (¬ (K h w'.tick).2 = 0)) = true := hb
    show true = ((b == decide ((K h w'.tick).2 = 2)) || false)
    rw [hbt] at hb ⊢
    rw [hK] at hb ⊢
    rw [keep_arg (of_decide_eq_true hb)]
    rfl
  · have hb : (!b || decide (¬ (K h w'.tick).2 = 0)) = false := hb
    have hk : (keepE h w'.tick).2 = 0 := by rw [hK, hbt] at hb; simpa using hb
    obtain ⟨H, e⟩ := keep_ok hk
    refine ⟨(w', id, i', (K h w'.tick).1), [], [], trivial, ⟨hw, H, sincD h (w'.tick - 16), by rw [hK]; exact e, sinc_ahead⟩, ?_⟩
    repeat' (first | (refine And.intro ?_ ?_) | (intro _) | exact rfl)
  clear hs hw w' id i'
  rintro ⟨w', id, i', l⟩ ⟨hw, H, d, rfl, hd⟩
  replace hw : w'.Valid := hw
  replace hd : d = 0 ∨ Ahead h d (w'.tick - 16) := hd
  have hs := valid_smF hw
  have HL := kept_hist H d
  have hl := hist_sm HL
  have hl12 : ∀ k, k < (keptW h d).n → ((keptW h d).w k).l.n ≤ 12 := fun k hk => by
    have hk : k < h.n - d := hk
    exact h12 (d + k) (by omega)
  have ej := judge_kept (id := id) (i := i') H hw hd
  refine And.intro ⟨fun _ _ _ _ _ _ => trivial, fun _ _ _ _ => trivial, hm, hs, h12⟩ ?_
  refine And.intro ⟨fun _ _ _ _ _ _ => trivial, fun _ _ _ _ => trivial, hl, hs, hl12⟩ ?_
  refine And.intro (fun _ => ⟨fun _ _ _ _ _ _ => trivial, hl⟩) ?_
  show true = (((decide ((judgeE h w' id i').2 = (judgeE (keptW h d) w' id i').2) && (decide ((judgeE h w' id i').1.id = (judgeE (keptW h d) w' id i').1.id) && (decide ((judgeE h w' id i').1.at_ = (judgeE (keptW h d) w' id i').1.at_) && ((judgeE h w' id i').1.alive == (judgeE (keptW h d) w' id i').1.alive)))) && histB (keptW h d)) || false)
  rw [ej, hstB_of HL]
  simp
theorem RKeeps_walk (q : Wrs × Wor × Int × Df.Input) (hm : q.1.Sm) (hn : q.2.1.l.Sm) (hx : 0 ≤ q.2.2.1 ∧ q.2.2.1 ≤ 255) :
    evFn (C := cx) [conFew29, conWValid, conAwake29, conShot, conArmed, conKeepV keepE rfl, conJudge, conHValid] [] 0 ⟨[], [6, 9], [], 0⟩ Tryz.f6 ((rds4 rdWrs rdWor (rdI .u8) Df.rdInput).enc q) fun v H _ => resOut (.v (.bool true)) H v := RKeeps_walkV keepE rfl q hm hn hx
end Go.Proofs.YtjdohgcolhpegaaGreatDoor
