/- store.Add at the end of a world. Histories that share no memory: interp.owned, interp.Push. RewindIgnores: plain laws: one more world behind a history; one more entity, which is the client's, in each world. -/
import Derived.Test.YtjdohgcolhpegaaGreatDoorN2
import Derived.Test.YtjdohgcolhpegaaGreatDoorG24
import Derived.Test.YtjdohgcolhpegaaGreatDoorN5
namespace Go.Proofs.YtjdohgcolhpegaaGreatDoor
open Go.RowKit

theorem wpList_append_run {P : Program} {w w' : World} {ops : Array Oper} {rest : List Oper} {o : Oper} {a : Act} {Q : Exit → Act → World → Prop} (hg : o.guard = none) (s x : Operand) (t ty : TypeId) (hop : o.op = Op.call { callee := Callee.builtin Builtin.append, args := #[s, x], argTypes := #[t, t] }) (hty : o.type = ty)
    {u v r : Value} (h1 : a.eval s = u) (h2 : a.eval x = v) (hrun : (Builtin.append_ #[t, t] ty #[u, v]).run P w = .ok r w') (h : wpList P ops Q rest (a.put o.dst r) w') : wpList P ops Q (o :: rest) a w := by
  refine wpList_plain hg fun K hK' => ?_
  unfold Oper.wp
  have : (execOp a.eval o).run P w = .ok (.value r) w' := by
    obtain ⟨dst, op, type, pos, after, guard⟩ := o
    simp only at hop hty
    subst hop hty
    have e7 : (#[s, x].map a.eval) = #[u, v] := by simp [h1, h2]
    simp only [execOp, resolve, e7, Sem.run_bind, Sem.run_pure, Result.andThen_ok, invoke, builtin, hrun]
  rw [this]
  exact hK' _ _ h
set_option maxRecDepth 20000 in
theorem ins_end (W W' : World) (a a2 : Option Addr) (n cap c2 : Nat) (w : Value) (hn : n ≤ cap) (hn2 : (n : Int) ≤ 9223372036854775807) (h2 : 1 ≤ c2)
    (happ : (Builtin.append_ #[23, 23] 23 #[.slice a n cap, .slice a2 1 c2]).run Tryz.prog W = .ok w W') :
    Calls Tryz.prog 69 #[.slice a n cap, .int .i64 n, .slice a2 1 c2] W fun e W'' => e = .returned w ∧ W'' = W' := by
  go_enter Tryz.func69, Tryz.ntmps69
  go_wp2_with (refine wpList_append_run rfl _ _ _ _ rfl rfl rfl rfl happ ?_)
  all_goals (go_ret; exact ⟨rfl, rfl⟩)
/-- Insert at the end. -/
noncomputable def conInsE : Con cx := conEnd 23 69 Tryz.call69 ins_end
/-- A world with one entity more, behind all others. -/
def Wor.add (w : Wor) (e : Ent) : Wor := ⟨w.tick, ⟨w.l.n + 1, putF w.l.n e w.l.e⟩⟩
def addE (w : Wor) (e : Ent) : Wor × Int := match w.valid && e.right with
  | false => (Wor.no, 2)
  | true => match (findE w e.iD).2 with
    | true => (Wor.no, 2)
    | false => match decide ((w.l.n : Int) ≥ 64) with
      | true => (Wor.no, 4)
      | false => (w.add e, 0)
noncomputable def addG : List (Con cx) := [conWValid, conRight, conFind, conSOwnO, conInsE]
def addC (w : Wor) (e : Ent) : Cut := ⟨Unit, fun _ => True, fun _ => ⟨[sl 4 (.p 2 0), sl 8 (.p 8 0)],
  [(2, .lay zeroW 25), (8, .lay [.v (.int .i64 w.tick), .g 6 11 2 0 (w.l.n + 1)] 25), (6, nstE (w.add e).l (w.l.n + 1) 11)], 12, 0, [], []⟩, fun _ => 0⟩
set_option maxHeartbeats 4000000 in
set_option maxRecDepth 8000 in
theorem Add_walk : ∀ a, conj ((fun (a : Wor × Ent) => [a.1.l.Sm, a.2.l.Sm, a.1.valid = true → a.2.right = true → (findE a.1 a.2.iD).2 = false → (findE a.1 a.2.iD).1 = a.1.l.n]) a) → evFn (C := cx) addG [inCopied] 1 ⟨[9], [10], [], 0⟩ Tryz.f30 ((rds2 rdWor rdEnt).enc a) fun v H _ => resOutF ((fun a => .tup [(addE a.1 a.2).1.sv, .v (.int .i64 (addE a.1 a.2).2)]) a) H v := by
  intro ⟨w, x⟩ ⟨hm, hx, hh⟩
  replace hm : w.l.Sm := hm
  replace hx : x.l.Sm := hx
  replace hh : w.valid = true → x.right = true → (findE w x.iD).2 = false → (findE w x.iD).1 = w.l.n := hh
  refine And.intro ⟨fun _ _ _ _ => trivial, hm⟩ ?_
  refine And.intro (fun _ => ⟨fun _ _ => trivial, hx⟩) ?_
  refine And.intro (fun hv => ?_) (fun hv => ?_)
  · have hv : (!w.valid || !x.right) = true := hv
    have e : addE w x = (Wor.no, 2) := by
      have : (w.valid && x.right) = false := by cases h1 : w.valid <;> cases h2 : x.right <;> simp [h1, h2] at hv ⊢
      unfold addE; rw [this]
    simp only [e]
    repeat' (first | (refine And.intro ?_ ?_) | (intro _) | exact rfl)
    all_goals exact absurd ‹_ < 0› (Nat.not_lt_zero _)
  have hv : (!w.valid || !x.right) = false := hv
  have hv : (w.valid && x.right) = true := by cases h1 : w.valid <;> cases h2 : x.right <;> simp [h1, h2] at hv ⊢
  obtain ⟨hv1, hv2⟩ := Bool.and_eq_true_iff.1 hv
  have hV := Wor.valid_iff.1 hv1
  obtain ⟨t1, t2⟩ := hV.two
  have hr2 := (Ent.right_iff.1 hv2).len
  refine And.intro ⟨fun _ _ _ _ => trivial, hm⟩ ?_
  refine And.intro (fun hf => ?_) (fun hf => ?_)
  · have hf : (findE w x.iD).2 = true := hf
    have e : addE w x = (Wor.no, 2) := by unfold addE; rw [hv, hf]
    simp only [e]
    repeat' (first | (refine And.intro ?_ ?_) | (intro _) | exact rfl)
    all_goals exact absurd ‹_ < 0› (Nat.not_lt_zero _)
  have hf : (findE w x.iD).2 = false := hf
  have hh := hh hv1 hv2 hf
  refine And.intro (fun hc => ?_) (fun hc => ?_)
  · have hc : decide ((w.l.n : Int) ≥ 64) = true := hc
    have e : addE w x = (Wor.no, 4) := by unfold addE; rw [hv, hf, hc]
    simp only [e]
    repeat' (first | (refine And.intro ?_ ?_) | (intro _) | exact rfl)
    all_goals exact absurd ‹_ < 0› (Nat.not_lt_zero _)
  have hc : decide ((w.l.n : Int) ≥ 64) = false := hc
  have e : addE w x = (w.add x, 0) := by unfold addE; rw [hv, hf, hc]
  have hc : ¬ (w.l.n : Int) ≥ 64 := of_decide_eq_false hc
  simp only [e]
  refine Exists.intro (copC w 3 [(0, .lay w.cells 25), (1, .lay x.cells 35), (2, .lay zeroW 25)]) ?_
  refine And.intro ?_ ?_
  · refine ⟨(0 : Nat), [], [.cellN 5 1 2 1 5 46 35], trivial, Nat.zero_le _, ?_⟩
    repeat' (first | (refine And.intro ?_ ?_) | (intro _) | exact rfl)
    all_goals first | exact absurd ‹_ < 0› (Nat.not_lt_zero _) | skip
  refine fun (k : Nat) (hk : k ≤ w.l.n) => ?_
  refine And.intro (fun hb => ?_) (fun hb => ?_)
  · have hb : (k : Int) < w.l.n := of_decide_eq_true hb
    refine And.intro ⟨by omega, by omega⟩ ?_
    refine And.intro ⟨fun _ _ => trivial, by have := t2 k (by omega); (show (w.l.e k).l.n ≤ 1000); omega⟩ ?_
    have hfit : fitO (k + 1) 32 := ⟨Nat.le_trans (by omega : k + 1 ≤ 1001) (by decide), by omega⟩
    refine And.intro ⟨hfit, ?_⟩ ?_
    · repeat' (first | (refine And.intro ?_ ?_) | (intro _) | exact rfl)
    refine And.intro (by unfold I64; omega : I64 ((k : Int) + 1)) ?_
    refine ⟨k + 1, [(7, 11)], [.absorb 6], (by show w.l.n - (k + 1) < w.l.n - k; omega), (by omega : k + 1 ≤ w.l.n), ?_⟩
    repeat' (first | (refine And.intro ?_ ?_) | (intro _) | exact rfl)
    · refine putF_al (α := List SV) (p := fun i y => conjO (vqL 8 [(7, 11)] (List.set [SV.v (Value.int IntKind.i64 (w.l.e i).iD), SV.e] 1 SV.e) (y.set 1 SV.e))) ?_ ?_ _ ‹_›
      · exact rfl
      · exact fun i _ => rfl
    · refine putF_al (α := Nat × (Nat → List SV)) (p := fun i y => (w.l.e i).l.n = y.1) ?_ ?_ _ ‹_›
      · exact rfl
      · exact fun i _ => rfl
    · refine putF_al (α := Nat × (Nat → List SV)) (p := fun i y => ∀ j, j < y.1 → conjO (vqL 8 [(7, 11)] ((w.l.e i).l.c j).cells (y.2 j))) ?_ ?_ _ ‹_› _ ‹_›
      · exact fun j _ => ⟨rfl, rfl, rfl, rfl, rfl⟩
      · exact fun i _ j _ => ⟨rfl, rfl, rfl, rfl, rfl⟩
  have hb : ¬ (k : Int) < w.l.n := of_decide_eq_false hb
  obtain rfl : k = w.l.n := by omega
  refine Exists.intro (addC w x) ?_
  refine And.intro ?_ ?_
  · refine And.intro ⟨fun _ _ => trivial, (by show x.l.n ≤ 1000; omega)⟩ ?_
    have hfit : fitO (w.l.n + 1) 32 := ⟨Nat.le_trans (by omega : w.l.n + 1 ≤ 1001) (by decide), by omega⟩
    refine And.intro ⟨⟨hfit, rfl⟩, (by rw [hh] : ((findE w x.iD).1 : Int) = (w.l.n : Int)), by omega⟩ ?_
    refine Exists.intro () (Exists.intro [] (Exists.intro [.absorb 6] (And.intro trivial (And.intro trivial ?_))))
    have ea1 : (w.add x).l.e w.l.n = x := putF_eq
    have ea2 : ∀ i, i < w.l.n → (w.add x).l.e i = w.l.e i := fun i hi => putF_ne (by omega)
    repeat' (first | (refine And.intro ?_ ?_) | (intro _) | exact rfl)
    · refine putF_al (α := List SV) (p := fun i y => conjO (vqL 12 [] (List.set [SV.v (Value.int IntKind.i64 ((w.add x).l.e i).iD), SV.e] 1 SV.e) (y.set 1 SV.e))) ?_ (fun i hi => ?_) _ ‹_›
      · rw [ea1]; exact rfl
      · rw [ea2 i hi]; exact rfl
    · refine putF_al (α := Nat × (Nat → List SV)) (p := fun i y => ((w.add x).l.e i).l.n = y.1) ?_ (fun i hi => ?_) _ ‹_›
      · rw [ea1]; exact rfl
      · rw [ea2 i hi]
    · refine putF_al (α := Nat × (Nat → List SV)) (p := fun i y => ∀ j, j < y.1 → conjO (vqL 12 [] (((w.add x).l.e i).l.c j).cells (y.2 j))) ?_ (fun i hi => ?_) _ ‹_› _ ‹_›
      · rw [ea1]; exact fun j _ => ⟨rfl, rfl, rfl, rfl, rfl⟩
      · rw [ea2 i hi]; exact fun j _ => ⟨rfl, rfl, rfl, rfl, rfl⟩
  refine fun (_ : Unit) (_ : True) => ?_
  repeat' (first | (refine And.intro ?_ ?_) | (intro _) | exact rfl)
  all_goals first | (show (_ : Int) = _; rw [Nat.zero_add]; done) | (show (_ : Nat) = _; rw [Nat.zero_add]; done) | (show (_ : Nat) = _; rw [Nat.zero_add]; rfl)
noncomputable def conAdd : Con cx := walkConF 30 Tryz.call30 (rds2 rdWor rdEnt) (fun (a : Wor × Ent) => [a.1.l.Sm, a.2.l.Sm, a.1.valid = true → a.2.right = true → (findE a.1 a.2.iD).2 = false → (findE a.1 a.2.iD).1 = a.1.l.n]) (fun a => .tup [(addE a.1 a.2).1.sv, .v (.int .i64 (addE a.1 a.2).2)]) (fun _ => ⟨[9], [10], [], 0⟩) [9] (fun _ => rfl) follows Tryz.func30 (by kernel_rfl) Add_walk
end Go.Proofs.YtjdohgcolhpegaaGreatDoor
namespace Go.Proofs.YtjdohgcolhpegaaGreatDoor
open Go.RowKit

/-- Worlds that may be copied. -/
def Wrs.Lo (h : Wrs) : Prop := h.n ≤ 1000 ∧ ∀ k, k < h.n → (h.w k).l.n ≤ 1000 ∧ ∀ i, i < (h.w k).l.n → ((h.w k).l.e i).l.n ≤ 1000
def owdC (h : Wrs) : Cut := ⟨Nat, fun k => k ≤ h.n, fun k => ⟨[sl 3 (.g 0 1 2 0 k), sl 6 h.sv, sl 7 (i64 h.n), sl 8 (i64 k)], [(0, .lst 1 2 k (fun i => (h.w i).cells) 25)], 2, 0, [], []⟩, fun k => h.n - k⟩
theorem bifP {α : Type} {k i : Nat} {f : Nat → α} {x : α} (hi : i < k + 1) (h : f k = x) : f i = bif Nat.ble k i then x else f i := by
  cases hb : Nat.ble k i with
  | false => rfl
  | true =>
    have := Nat.le_of_ble_eq_true hb
    obtain rfl : i = k := by omega
    exact h
set_option maxHeartbeats 2000000 in
set_option maxRecDepth 8000 in
theorem Owned_walk : ∀ a, conj ((fun (a : Wrs) => [a.Lo]) a) → evFn (C := cx) [conWOwn] [] 0 ⟨[], [], [3], 0⟩ Tryz.f68 ((rds1 rdWrs).enc a) fun v H _ => resOutW ((fun a => a.sv) a) 25 H v := by
  intro h hl
  replace hl : h.Lo := hl
  obtain ⟨hn, hl⟩ := hl
  refine Exists.intro (owdC h) ?_
  refine And.intro ?_ ?_
  · refine ⟨(0 : Nat), [], [.slot2 3 2 25], trivial, Nat.zero_le _, ?_⟩
    repeat' (first | (refine And.intro ?_ ?_) | (intro _) | exact rfl)
    all_goals exact absurd ‹_ < 0› (Nat.not_lt_zero _)
  refine fun (k : Nat) (hk : k ≤ h.n) => ?_
  refine And.intro (fun hb => ?_) (fun hb => ?_)
  · have hb : (k : Int) < h.n := of_decide_eq_true hb
    refine And.intro ⟨by omega, by omega⟩ ?_
    obtain ⟨l1, l2⟩ := hl k (by omega)
    refine And.intro ⟨fun _ _ _ _ => trivial, l1, l2⟩ ?_
    have hfit : fitO (k + 1) 32 := ⟨Nat.le_trans (by omega : k + 1 ≤ 1001) (by decide), by omega⟩
    refine And.intro ⟨hfit, ?_⟩ ?_
    · repeat' (first | (refine And.intro ?_ ?_) | (intro _) | exact rfl | exact trivial)
    refine And.intro (by unfold I64; omega : I64 ((k : Int) + 1)) ?_
    refine ⟨k + 1, [(1, 4)], [], (by show h.n - (k + 1) < h.n - k; omega), (by omega : k + 1 ≤ h.n), ?_⟩
    repeat' (first | (refine And.intro ?_ ?_) | (intro _) | exact rfl)
    all_goals first
      | exact bifP (f := fun x => (h.w x).tick) (by assumption) rfl
      | exact bifP (f := fun x => (h.w x).l.n) (by assumption) rfl
      | exact bifP (f := fun x => ((h.w x).l.e _).iD) (by assumption) rfl
      | exact bifP (f := fun x => ((h.w x).l.e _).l.n) (by assumption) rfl
      | exact bifP (f := fun x => (((h.w x).l.e _).l.c _).kind) (by assumption) rfl
      | exact bifP (f := fun x => (((h.w x).l.e _).l.c _).v0) (by assumption) rfl
      | exact bifP (f := fun x => (((h.w x).l.e _).l.c _).v1) (by assumption) rfl
      | exact bifP (f := fun x => (((h.w x).l.e _).l.c _).v2) (by assumption) rfl
      | exact bifP (f := fun x => (((h.w x).l.e _).l.c _).v3) (by assumption) rfl
  · have hb : ¬ (k : Int) < h.n := of_decide_eq_false hb
    obtain rfl : k = h.n := by omega
    repeat' (first | (refine And.intro ?_ ?_) | (intro _) | exact rfl)
    all_goals first | (show (_ : Int) = _; rw [Nat.zero_add]; done) | (show (_ : Nat) = _; rw [Nat.zero_add]; done) | (show (_ : Nat) = _; rw [Nat.zero_add]; rfl)
noncomputable def conOwned : Con cx := walkConW 68 Tryz.call68 (rds1 rdWrs) (fun (a : Wrs) => [a.Lo]) (fun a => a.sv) 25 (fun _ => ⟨[], [], [3], 0⟩) [] (fun _ => rfl) follows Tryz.func68 (by kernel_rfl) Owned_walk
def Wrs.no : Wrs := ⟨0, fun _ => Wor.no⟩
def Wrs.push (h : Wrs) (w : Wor) : Wrs := ⟨h.n + 1, fun i => bif Nat.ble h.n i then w else h.w i⟩
theorem push_at {α : Type} (F : Wor → α) {h : Wrs} {w : Wor} {i m : Nat} (hm : m = 0) : F ((h.push w).w i) = bif Nat.ble h.n (0 + m + i) then F w else F (h.w (0 + m + i)) := by
  subst hm
  rw [Nat.add_zero, Nat.zero_add]
  show F (bif Nat.ble h.n i then w else h.w i) = _
  cases Nat.ble h.n i <;> rfl
def pushB (h : Wrs) (w : Wor) : Bool := (!histB h || !w.valid) || (decide ((h.n : Int) > 0) && decide ((h.w ((h.n : Int) - 1).toNat).tick ≥ w.tick))
def pushE (h : Wrs) (w : Wor) : Wrs × Int := match pushB h w with
  | true => (Wrs.no, 2)
  | false => (h.push w, 0)
theorem Wor.Valid.lo1 {w : Wor} (hv : w.Valid) : w.l.n ≤ 1000 ∧ ∀ i, i < w.l.n → (w.l.e i).l.n ≤ 1000 := by
  obtain ⟨h1, h2⟩ := hv.two
  exact ⟨by omega, fun i hi => by have := h2 i hi; omega⟩
theorem Wrs.Hist.lo {h : Wrs} (hh : h.Hist) : h.Lo := ⟨by have := hh.len; omega, fun k hk => (hh.v k hk).lo1⟩
set_option maxHeartbeats 2000000 in
set_option maxRecDepth 8000 in
theorem Push_walk : ∀ a, conj ((fun (a : Wrs × Wor) => [a.1.Sm, a.2.l.Sm, a.1.n < 40]) a) → evFn (C := cx) [conHValid, conWValid, conOwned, conWOwn] [] 0 ⟨[3], [], [], 0⟩ Tryz.f29 ((rds2 rdWrs rdWor).enc a) fun v H _ => resOut ((fun a => .tup [(pushE a.1 a.2).1.sv, .v (.int .i64 (pushE a.1 a.2).2)]) a) H v := by
  intro ⟨h, w⟩ ⟨hm, wm, hn⟩
  replace hm : h.Sm := hm
  replace wm : w.l.Sm := wm
  replace hn : h.n < 40 := hn
  refine And.intro ⟨fun _ _ _ _ _ _ => trivial, hm⟩ ?_
  refine And.intro (fun _ => ⟨fun _ _ _ _ => trivial, wm⟩) ?_
  refine And.intro (fun hg _ => ?_) ?_
  · have hg : decide ((h.n : Int) > 0) = true := hg
    have hg := of_decide_eq_true hg
    (show I64 ((h.n : Int) - 1)); unfold I64; omega
  refine And.intro (fun hg _ => ?_) ?_
  · have hg : decide ((h.n : Int) > 0) = true := hg
    have hg := of_decide_eq_true hg
    (show (0 : Int) ≤ (h.n : Int) - 1 ∧ (h.n : Int) - 1 < h.n); omega
  refine And.intro (fun hv => ?_) (fun hv => ?_)
  · have hv : pushB h w = true := hv
    have e : pushE h w = (Wrs.no, 2) := by unfold pushE; rw [hv]
    simp only [e]
    repeat' (first | (refine And.intro ?_ ?_) | (intro _) | exact rfl)
    all_goals exact absurd ‹_ < 0› (Nat.not_lt_zero _)
  have hv : pushB h w = false := hv
  have e : pushE h w = (h.push w, 0) := by unfold pushE; rw [hv]
  simp only [e]
  have hh : h.Hist := hist_of (by unfold pushB at hv; simp only [Bool.or_eq_false_iff, Bool.not_eq_false'] at hv; exact hv.1.1)
  have hw : w.Valid := Wor.valid_iff.1 (by unfold pushB at hv; simp only [Bool.or_eq_false_iff, Bool.not_eq_false'] at hv; exact hv.1.2)
  refine And.intro ⟨fun _ _ _ _ _ _ => trivial, hh.lo⟩ ?_
  refine And.intro ⟨fun _ _ _ _ => trivial, hw.lo1⟩ ?_
  have hfit : fitO (h.n + 1) 32 := ⟨Nat.le_trans (by omega : h.n + 1 ≤ 1001) (by decide), by omega⟩
  refine And.intro ⟨hfit, ?_⟩ ?_
  · repeat' (first | (refine And.intro ?_ ?_) | (intro _) | exact rfl | exact trivial)
  refine And.intro (by unfold I64; omega : I64 (((h.n + 1 : Nat) : Int) - 40)) ?_
  refine And.intro (by omega : (0 : Int) ≤ max 0 (((h.n + 1 : Nat) : Int) - 40) ∧ max 0 (((h.n + 1 : Nat) : Int) - 40) ≤ ((h.n + 1 : Nat) : Int)) ?_
  have e0 : (max 0 (((h.n + 1 : Nat) : Int) - 40)).toNat = 0 := by omega
  repeat' (first | (refine And.intro ?_ ?_) | (intro _) | exact rfl)
  · (show (_ : Nat) = h.n + 1 - (max 0 (((h.n + 1 : Nat) : Int) - 40)).toNat); rw [e0]; rfl
  all_goals first
    | exact push_at (fun x => x.tick) e0
    | exact push_at (fun x => x.l.n) e0
    | exact push_at (fun x => (x.l.e _).iD) e0
    | exact push_at (fun x => (x.l.e _).l.n) e0
    | exact push_at (fun x => ((x.l.e _).l.c _).kind) e0
    | exact push_at (fun x => ((x.l.e _).l.c _).v0) e0
    | exact push_at (fun x => ((x.l.e _).l.c _).v1) e0
    | exact push_at (fun x => ((x.l.e _).l.c _).v2) e0
    | exact push_at (fun x => ((x.l.e _).l.c _).v3) e0
noncomputable def conPush : Con cx := walkCon 29 Tryz.call29 (rds2 rdWrs rdWor) (fun (a : Wrs × Wor) => [a.1.Sm, a.2.l.Sm, a.1.n < 40]) (fun a => .tup [(pushE a.1 a.2).1.sv, .v (.int .i64 (pushE a.1 a.2).2)]) (fun _ => ⟨[3], [], [], 0⟩) [3] (fun _ => rfl) follows Tryz.func29 (by kernel_rfl) Push_walk
end Go.Proofs.YtjdohgcolhpegaaGreatDoor
namespace Go.Proofs.YtjdohgcolhpegaaGreatDoor
open Go.RowKit

/-! ### Finding -/
theorem find_at {w : Wor} (hv : w.Valid) {i : Nat} (hi : i < w.l.n) : findE w (w.l.e i).iD = (i, true) := by
  have hl : lowB (fun k => (w.l.e k).iD) w.l.n (w.l.e i).iD = i := low_at (key := fun k => (w.l.e k).iD) hv.inc hi
  have hb : hitB (fun k => (w.l.e k).iD) w.l.n (w.l.e i).iD = true := hitB_iff.2 (by rw [hl]; exact ⟨hi, rfl⟩)
  unfold findE
  rw [Wor.valid_iff.2 hv]
  show (lowB (fun k => (w.l.e k).iD) w.l.n (w.l.e i).iD, hitB (fun k => (w.l.e k).iD) w.l.n (w.l.e i).iD) = _
  rw [hl, hb]
theorem find_no {w : Wor} {q : Int} (h : ∀ i, i < w.l.n → (w.l.e i).iD ≠ q) : (findE w q).2 = false := by
  cases hf : (findE w q).2 with
  | false => rfl
  | true =>
    obtain ⟨-, h1, h2⟩ := find_hit hf
    exact absurd h2 (h _ h1)
theorem get_at {w : Wor} (hv : w.Valid) {i : Nat} (hi : i < w.l.n) (q : Int) : getE w (w.l.e i).iD q = getC (w.l.e i).l q := by
  unfold getE; rw [find_at hv hi]
theorem get_no {w : Wor} {id q : Int} (h : ∀ i, i < w.l.n → (w.l.e i).iD ≠ id) : getE w id q = (Comp.no, false) := by
  unfold getE; rw [find_no h]
/-- A world with one entity more, behind all others. -/
structure Ext (w v : Wor) (m : Ent) : Prop where
  t : v.tick = w.tick
  n : v.l.n = w.l.n + 1
  e : ∀ i, i < w.l.n → v.l.e i = w.l.e i
  m : v.l.e w.l.n = m
  vw : w.Valid
  vv : v.Valid
theorem Ext.lt {w v : Wor} {m : Ent} (h : Ext w v m) {i : Nat} (hi : i < w.l.n) : (w.l.e i).iD < m.iD := by
  have := h.vv.inc i w.l.n hi (by rw [h.n]; omega)
  simp only [h.e i hi, h.m] at this
  exact this
theorem Ext.get {w v : Wor} {m : Ent} (h : Ext w v m) {id : Int} (hid : id ≠ m.iD) (q : Int) : getE v id q = getE w id q := by
  by_cases hx : ∃ i, i < w.l.n ∧ (w.l.e i).iD = id
  · obtain ⟨i, hi, rfl⟩ := hx
    rw [get_at h.vw hi]
    have := get_at h.vv (i := i) (by rw [h.n]; omega) q
    rw [h.e i hi] at this
    exact this
  · have hx : ∀ i, i < w.l.n → (w.l.e i).iD ≠ id := fun i hi he => hx ⟨i, hi, he⟩
    rw [get_no hx, get_no]
    intro i hi
    rw [h.n] at hi
    by_cases e : i = w.l.n
    · subst e; rw [h.m]; exact fun c => hid c.symm
    · rw [h.e i (by omega)]; exact hx i (by omega)
theorem Ext.getM {w v : Wor} {m : Ent} (h : Ext w v m) (q : Int) : getE v m.iD q = getC m.l q := by
  have := get_at h.vv (i := w.l.n) (by rw [h.n]; omega) q
  rw [h.m] at this
  exact this
theorem filtM_congr {α : Type} {f f' : Nat → α} {g g' : Nat → Bool} : ∀ n, (∀ i, i < n → f i = f' i ∧ g i = g' i) → filtM f g n = filtM f' g' n
  | 0, _ => rfl
  | n + 1, h => by
    obtain ⟨h1, h2⟩ := h n (by omega)
    have ih := filtM_congr n (fun i hi => h i (by omega))
    simp only [filtM, h2, h1, ih]
/-- The client's entity: it has a body, and its owner is told. -/
structure HisE (m : Ent) (c : Int) : Prop where
  b : (bodyF m).2 = true
  o : (getC m.l 4).2 = true ∧ eqC (getC m.l 4).1 ⟨4, c, 0, 0, 0⟩ = true
theorem Ext.all {w v : Wor} {m : Ent} (h : Ext w v m) (hb : (bodyF m).2 = true) : allL v = allL w ++ [(bodyF m).1] := by
  unfold allL bodiesL
  rw [h.n, filtM_yes (by rw [h.m]; exact hb), h.m]
  rw [filtM_congr (f' := fun i => (bodyF (w.l.e i)).1) (g' := fun i => (bodyF (w.l.e i)).2) w.l.n (fun i hi => by rw [h.e i hi]; exact ⟨rfl, rfl⟩)]
theorem Ext.oths {w v : Wor} {m : Ent} {c : Int} (h : Ext w v m) (hm : HisE m c) : othsL v c (allL v).length = othsL w c (allL w).length := by
  have hl : (allL v).length = (allL w).length + 1 := by rw [h.all hm.b]; simp
  have hat : ∀ i, i < (allL w).length → bodG (allL v) i = bodG (allL w) i := fun i hi => by
    unfold bodG
    rw [h.all hm.b, List.getD_eq_getElem?_getD, List.getD_eq_getElem?_getD, List.getElem?_append_left hi]
  have hlast : bodG (allL v) (allL w).length = (bodyF m).1 := by
    unfold bodG
    rw [h.all hm.b, List.getD_eq_getElem?_getD, List.getElem?_append_right (Nat.le_refl _)]
    simp
  unfold othsL
  rw [hl, filtM_no ?_]
  · refine filtM_congr _ fun i hi => ?_
    rw [hat i hi]
    refine ⟨rfl, ?_⟩
    obtain ⟨a, ha, e1, e2⟩ := (bods_of h.vw).of i hi
    have e3 : (bodG (allL w) i).iD = (w.l.e a).iD := (congrArg Body.iD e1).trans (body_id e2)
    have hne : (bodG (allL w) i).iD ≠ m.iD := by rw [e3]; have := h.lt ha; omega
    unfold keepB
    rw [h.get hne]
  · rw [hlast]
    unfold keepB
    rw [body_id hm.b, h.getM, hm.o.1, hm.o.2]
    rfl
theorem Ext.met {w v : Wor} {m : Ent} {c : Int} {p q : Vec} (h : Ext w v m) (hm : HisE m c) : metE v (othsL v c (allL v).length) p q = metE w (othsL w c (allL w).length) p q := by
  rw [h.oths hm]
  unfold metE
  split
  · rfl
  · rename_i hd
    have hd : (firstE (othsL w c (allL w).length).length (bodG (othsL w c (allL w).length)) p q).2 = 0 := by simpa using hd
    obtain ⟨j, hj, e⟩ := first_id hd
    have hne : (firstE (othsL w c (allL w).length).length (bodG (othsL w c (allL w).length)) p q).1 ≠ m.iD := by
      rw [← e]
      obtain ⟨a, ha, e1, e2⟩ := ((bods_of h.vw).oths c).of j hj
      rw [show (bodG (othsL w c (allL w).length) j).iD = (w.l.e a).iD from (congrArg Body.iD e1).trans (body_id e2)]
      have := h.lt ha; omega
    rw [h.get hne]
/-! ### Between two such worlds -/
theorem lerp_same (x n d : Int) : Df.lerpI x x n d = x := by unfold Df.lerpI; rw [Int.sub_self, Int.zero_mul, Int.zero_ediv, Int.add_zero]
theorem Ext.mv {w v : Wor} {m : Ent} (h : Ext w v m) {e : Ent} (he : e.iD ≠ m.iD) (n d : Int) : mvE v n d e = mvE w n d e := by
  by_cases hx : ∃ i, i < w.l.n ∧ (w.l.e i).iD = e.iD
  · obtain ⟨i, hi, hid⟩ := hx
    have h1 := find_at h.vw hi
    have h2 := find_at h.vv (i := i) (by rw [h.n]; omega)
    rw [h.e i hi] at h2
    rw [hid] at h1 h2
    unfold mvE
    rw [h1, h2, h.e i hi]
  · have hx : ∀ i, i < w.l.n → (w.l.e i).iD ≠ e.iD := fun i hi he => hx ⟨i, hi, he⟩
    have h1 := find_no hx
    have h2 : (findE v e.iD).2 = false := find_no fun i hi => by
      rw [h.n] at hi
      by_cases e' : i = w.l.n
      · subst e'; rw [h.m]; exact fun c => he c.symm
      · rw [h.e i (by omega)]; exact hx i (by omega)
    unfold mvE
    rw [h1, h2]
/-- Where it stands, it stays. -/
theorem Ext.mvM {w v : Wor} {m : Ent} (h : Ext w v m) (n d : Int) (hp : ∀ k, (m.l.c k).kind = 1 → (m.l.c k).v0 = (pointF m).1.x ∧ (m.l.c k).v1 = (pointF m).1.y) : mvE v n d m = m := by
  have h2 := find_at h.vv (i := w.l.n) (by rw [h.n]; omega)
  rw [h.m] at h2
  unfold mvE
  rw [h2, h.m]
  simp only
  cases (pointF m).2 with
  | false => rfl
  | true =>
    simp only
    obtain ⟨i, ⟨n', c⟩⟩ := m
    simp only at hp ⊢
    have : (fun k => moveC (pointF ⟨i, ⟨n', c⟩⟩).1 n d (c k)) = c := by
      funext k
      unfold moveC
      by_cases hk : (c k).kind = 1
      · obtain ⟨h3, h4⟩ := hp k hk
        rw [decide_eq_true hk]
        simp only
        rw [← h3, ← h4, lerp_same, lerp_same]
      · rw [decide_eq_false hk]
    rw [this]
/-! ### Histories -/
theorem histB_of {h : Wrs} (hh : h.Hist) : histB h = true := by
  unfold histB
  rw [anyN_of fun i _ hi => ?_]
  · have := hh.len
    simp only [Bool.not_false, Bool.true_and, decide_eq_true_eq]
    omega
  · unfold badH
    rw [Wor.valid_iff.2 (hh.v i (by omega))]
    simp only [Bool.not_true, Bool.false_or, Bool.and_eq_false_iff, decide_eq_false_iff_not]
    by_cases h0 : i = 0
    · left; omega
    · right
      have := hh.inc (i - 1) i (by omega) (by omega)
      simp only at this
      omega
theorem lbN_congr {key key' : Nat → Int} {q : Int} : ∀ {r k : Nat}, (∀ i, k ≤ i → i < k + r → key i = key' i) → lbN key q k r = lbN key' q k r
  | 0, _, _ => rfl
  | r + 1, k, h => by
    simp only [lbN, h k (Nat.le_refl _) (by omega), lbN_congr (r := r) (k := k + 1) (fun i h1 h2 => h i (by omega) (by omega))]
theorem lowB_congr {key key' : Nat → Int} {q : Int} {n : Nat} (h : ∀ i, i < n → key i = key' i) : lowB key n q = lowB key' n q := lbN_congr fun i _ hi => h i (by omega)
theorem hitB_congr {key key' : Nat → Int} {q : Int} {n : Nat} (h : ∀ i, i < n → key i = key' i) : hitB key n q = hitB key' n q := by
  unfold hitB
  rw [lowB_congr h]
  by_cases hl : lowB key' n q < n
  · rw [h _ hl]
  · rw [decide_eq_false (by omega : ¬ ((lowB key' n q : Nat) : Int) < n)]; rfl
/-- In each of its worlds, one entity more. -/
structure More (h v : Wrs) (m : Ent) : Prop where
  n : v.n = h.n
  e : ∀ i, i < h.n → Ext (h.w i) (v.w i) m
  hh : h.Hist
theorem More.hist {h v : Wrs} {m : Ent} (H : More h v m) : v.Hist :=
  ⟨fun i hi => (H.e i (by have := H.n; omega)).vv, fun i j h1 h2 => by
    have hn := H.n
    show (v.w i).tick < (v.w j).tick
    rw [(H.e i (by omega)).t, (H.e j (by omega)).t]
    exact H.hh.inc i j h1 (by omega), by rw [H.n]; exact H.hh.len⟩
theorem shB_eq {h v : Wrs} (h1 : h.Hist) (h2 : v.Hist) (t p : Int) : shB v t p = shB h t p := by
  unfold shB; rw [histB_of h1, histB_of h2]
theorem shown_more {h v : Wrs} {m : Ent} {t p : Int} (H : More h v m) (hp : ∀ k, (m.l.c k).kind = 1 → (m.l.c k).v0 = (pointF m).1.x ∧ (m.l.c k).v1 = (pointF m).1.y) :
    (shownE v t p).2 = (shownE h t p).2 ∧ ((shownE h t p).2 = 0 → Ext (shownE h t p).1 (shownE v t p).1 m) := by
  have hkey : ∀ i, i < h.n → 16 * (v.w i).tick = 16 * (h.w i).tick := fun i hi => by rw [(H.e i hi).t]
  have hlow : ∀ q, lowH v q = lowH h q := fun q => by unfold lowH; rw [H.n]; exact lowB_congr hkey
  have hhit : ∀ q, hitH v q = hitH h q := fun q => by unfold hitH; rw [H.n]; exact hitB_congr hkey
  unfold shownE
  rw [shB_eq H.hh H.hist]
  cases hs : shB h t p with
  | true => exact ⟨rfl, fun (c : (2 : Int) = 0) => absurd c (by decide)⟩
  | false =>
    obtain ⟨-, t0, t1, p0, p1⟩ := shB_no hs
    simp only
    rw [hlow, hhit, H.n]
    cases hx : hitH h (16 * t + p) with
    | true => exact ⟨rfl, fun _ => H.e _ (hitB_iff.1 hx).1⟩
    | false =>
      simp only
      cases hd : decide ((lowH h (16 * t + p) : Int) = 0) || decide ((lowH h (16 * t + p) : Int) = h.n) with
      | true => exact ⟨rfl, fun (c : (6 : Int) = 0) => absurd c (by decide)⟩
      | false =>
        simp only
        simp only [Bool.or_eq_false_iff, decide_eq_false_iff_not] at hd
        have hle : lowH h (16 * t + p) ≤ h.n := lowB_le
        have k1 : lowH h (16 * t + p) < h.n := by omega
        have et : ((lowH h (16 * t + p) : Int) - 1).toNat = lowH h (16 * t + p) - 1 := by omega
        rw [et]
        have k2 : lowH h (16 * t + p) - 1 < lowH h (16 * t + p) := by omega
        have a1 : 16 * (h.w (lowH h (16 * t + p) - 1)).tick < 16 * t + p := lbN_lt (key := fun i => 16 * (h.w i).tick) (Nat.zero_le _) k2
        have a2 : ¬ 16 * (h.w (lowH h (16 * t + p))).tick < 16 * t + p := lbN_ge (key := fun i => 16 * (h.w i).tick) (k := 0) (r := h.n) (by rw [Nat.zero_add]; exact k1)
        generalize hj : lowH h (16 * t + p) = j at *
        have v1 := H.hh.v _ k1
        have v2 := H.hh.v _ (Nat.lt_trans k2 k1)
        have q1 := v1.hi
        have q2 := v2.lo
        have E1 := H.e j k1
        have E2 := H.e (j - 1) (Nat.lt_trans k2 k1)
        rw [E1.t, E2.t]
        generalize hn : 16 * t + p - 16 * (h.w (j - 1)).tick = n
        generalize hd2 : 16 * (h.w j).tick - 16 * (h.w (j - 1)).tick = d
        have n0 : 0 ≤ n := by omega
        have nd : n ≤ d := by omega
        have d1 : 1 ≤ d := by omega
        have d2 : d ≤ 34359738368 := by omega
        have tt : (h.w (j - 1)).tick < (h.w j).tick := by omega
        have bb : ∀ a b : Wor, a.Valid → b.Valid → a.tick < b.tick → betB a b n d = false := fun a b ha hb hab => by
          unfold betB
          rw [Wor.valid_iff.2 ha, Wor.valid_iff.2 hb]
          simp only [Bool.or_eq_false_iff, decide_eq_false_iff_not]
          refine ⟨⟨⟨⟨⟨⟨rfl, rfl⟩, ?_⟩, ?_⟩, ?_⟩, ?_⟩, ?_⟩ <;> omega
        have b1 := bb _ _ v2 v1 tt
        have b2 := bb _ _ E2.vv E1.vv (by rw [E1.t, E2.t]; exact tt)
        obtain ⟨y1, y2⟩ := betw_valid b1
        obtain ⟨z1, z2⟩ := betw_valid b2
        refine ⟨z2.trans y2.symm, fun _ => ?_⟩
        unfold betwE at y1 z1 ⊢
        rw [b1] at y1 ⊢
        rw [b2] at z1 ⊢
        simp only at y1 z1 ⊢
        cases hnd : decide (n = d) with
        | true => exact E1
        | false =>
          rw [hnd] at y1 z1
          refine ⟨?_, ?_, fun i hi => ?_, ?_, y1, z1⟩
          · show Df.lerpI (v.w (j - 1)).tick (v.w j).tick n d = _
            rw [E1.t, E2.t]
          · exact E2.n
          · show mvE (v.w j) n d ((v.w (j - 1)).l.e i) = mvE (h.w j) n d ((h.w (j - 1)).l.e i)
            rw [E2.e i hi]
            have := E2.lt hi
            exact E1.mv (by omega) n d
          · show mvE (v.w j) n d ((v.w (j - 1)).l.e (h.w (j - 1)).l.n) = m
            rw [E2.m]
            exact E1.mvM n d hp
theorem see_more {h v : Wrs} {m : Ent} {c : Int} {f : Vec} {i : Df.Input} (H : More h v m) (hm : HisE m c) (hp : ∀ k, (m.l.c k).kind = 1 → (m.l.c k).v0 = (pointF m).1.x ∧ (m.l.c k).v1 = (pointF m).1.y) : seeE v c f i = seeE h c f i := by
  obtain ⟨h1, h2⟩ := shown_more (t := i.seen) (p := i.part) H hp
  have hb : seeB v c f i = seeB h c f i := by unfold seeB; rw [histB_of H.hh, histB_of H.hist]
  unfold seeE
  rw [hb, h1]
  split
  · rfl
  · split
    · rfl
    · rename_i hd
      have hd : (shownE h i.seen i.part).2 = 0 := by simpa using hd
      split
      · rfl
      · exact (h2 hd).met hm
theorem push_lo {h : Wrs} {w : Wor} {i : Nat} (hi : i < h.n) : (h.push w).w i = h.w i := by
  show (bif Nat.ble h.n i then w else h.w i) = _
  rw [show Nat.ble h.n i = false by cases hb : Nat.ble h.n i with | false => rfl | true => exact absurd (Nat.le_of_ble_eq_true hb) (by omega)]
  rfl
theorem push_hi {h : Wrs} {w : Wor} : (h.push w).w h.n = w := by
  show (bif Nat.ble h.n h.n then w else h.w h.n) = _
  rw [Nat.ble_eq_true_of_le (Nat.le_refl _)]
  rfl
theorem push_hist {h : Wrs} {w : Wor} (hb : pushB h w = false) (hn : h.n < 40) : h.Hist ∧ (h.push w).Hist := by
  unfold pushB at hb
  simp only [Bool.or_eq_false_iff, Bool.not_eq_false'] at hb
  obtain ⟨⟨h1, h2⟩, h3⟩ := hb
  have hh := hist_of h1
  have hw := Wor.valid_iff.1 h2
  have hl : ∀ i, i < h.n → (h.w i).tick < w.tick := fun i hi => by
    have h4 : ¬ (h.w ((h.n : Int) - 1).toNat).tick ≥ w.tick := by
      intro c
      rw [decide_eq_true c, decide_eq_true (by omega : (h.n : Int) > 0)] at h3
      cases h3
    rw [show ((h.n : Int) - 1).toNat = h.n - 1 by omega] at h4
    by_cases e : i = h.n - 1
    · subst e; omega
    · have := hh.inc i (h.n - 1) (by omega) (by omega)
      simp only at this
      omega
  refine ⟨hh, fun i hi => ?_, fun i j h4 h5 => ?_, hn⟩
  · have hi : i < h.n + 1 := hi
    by_cases e : i = h.n
    · subst e; rw [push_hi]; exact hw
    · rw [push_lo (by omega)]; exact hh.v i (by omega)
  · have h5 : j < h.n + 1 := h5
    show ((h.push w).w i).tick < ((h.push w).w j).tick
    rw [push_lo (by omega : i < h.n)]
    by_cases e : j = h.n
    · subst e; rw [push_hi]; exact hl i (by omega)
    · rw [push_lo (by omega)]; exact hh.inc i j h4 (by omega)
theorem shown_push {h : Wrs} {w : Wor} {t p : Int} (hh : h.Hist) (hp : (h.push w).Hist) (h0 : (shownE h t p).2 = 0) : shownE (h.push w) t p = shownE h t p := by
  have key : lowH h (16 * t + p) < h.n → lowH (h.push w) (16 * t + p) = lowH h (16 * t + p) := fun hl => by
    have a2 : ¬ 16 * (h.w (lowH h (16 * t + p))).tick < 16 * t + p := lbN_ge (key := fun i => 16 * (h.w i).tick) (k := 0) (r := h.n) (by rw [Nat.zero_add]; exact hl)
    refine lowB_eq (n := h.n + 1) (by omega) (fun j hj => ?_) (fun j h1 h2 => ?_)
    · show 16 * ((h.push w).w j).tick < _
      rw [push_lo (by omega)]
      exact lbN_lt (key := fun i => 16 * (h.w i).tick) (Nat.zero_le _) hj
    · show _ ≤ 16 * ((h.push w).w j).tick
      have : (h.w (lowH h (16 * t + p))).tick ≤ ((h.push w).w j).tick := by
        rcases Nat.eq_or_lt_of_le h1 with rfl | h3
        · rw [push_lo hl]; exact Int.le_refl _
        · have := hp.inc _ _ h3 h2
          simp only [push_lo (w := w) hl] at this
          exact Int.le_of_lt this
      omega
  have khit : lowH h (16 * t + p) < h.n → hitH (h.push w) (16 * t + p) = hitH h (16 * t + p) := fun hl => by
    have e := key hl
    unfold hitH hitB
    unfold lowH at e hl
    have e : lowB (fun i => 16 * ((h.push w).w i).tick) (h.push w).n (16 * t + p) = lowB (fun i => 16 * (h.w i).tick) h.n (16 * t + p) := e
    rw [e]
    simp only [push_lo (w := w) hl]
    rw [decide_eq_true (by omega : ((lowB (fun i => 16 * (h.w i).tick) h.n (16 * t + p) : Nat) : Int) < h.n), decide_eq_true (by show _ < ((h.n + 1 : Nat) : Int); omega : ((lowB (fun i => 16 * (h.w i).tick) h.n (16 * t + p) : Nat) : Int) < (h.push w).n)]
  unfold shownE at h0 ⊢
  rw [shB_eq hh hp]
  cases hs : shB h t p with
  | true => rfl
  | false =>
    rw [hs] at h0
    simp only at h0 ⊢
    have hle : lowH h (16 * t + p) ≤ h.n := lowB_le
    have hl : lowH h (16 * t + p) < h.n := by
      rcases Nat.lt_or_ge (lowH h (16 * t + p)) h.n with hl | hl
      · exact hl
      · exfalso
        have e : lowH h (16 * t + p) = h.n := by omega
        have hx : hitH h (16 * t + p) = false := by
          cases hx : hitH h (16 * t + p) with
          | false => rfl
          | true => have := (hitB_iff.1 hx).1; unfold lowH at hl; omega
        rw [hx, e, decide_eq_true (rfl : ((h.n : Nat) : Int) = h.n)] at h0
        simp only [Bool.or_true] at h0
        cases h0
    rw [khit hl, key hl]
    cases hx : hitH h (16 * t + p) with
    | true => simp only [push_lo (w := w) hl]
    | false =>
      rw [hx] at h0
      simp only at h0 ⊢
      have hz : lowH h (16 * t + p) ≠ 0 := by
        intro c
        rw [decide_eq_true (by omega : ((lowH h (16 * t + p) : Nat) : Int) = 0)] at h0
        simp only [Bool.true_or] at h0
        cases h0
      rw [decide_eq_false (by omega : ¬ ((lowH h (16 * t + p) : Nat) : Int) = 0), decide_eq_false (by omega : ¬ ((lowH h (16 * t + p) : Nat) : Int) = h.n), decide_eq_false (by show ¬ _ = ((h.n + 1 : Nat) : Int); omega : ¬ ((lowH h (16 * t + p) : Nat) : Int) = (h.push w).n)]
      simp only [Bool.or_false]
      rw [push_lo hl, push_lo (by omega : ((lowH h (16 * t + p) : Int) - 1).toNat < h.n)]
theorem see_push {h : Wrs} {w : Wor} {c : Int} {f : Vec} {i : Df.Input} (hb : pushB h w = false) (hn : h.n < 40) (h0 : (seeE h c f i).2 = 0) : seeE (h.push w) c f i = seeE h c f i := by
  obtain ⟨hh, hp⟩ := push_hist hb hn
  have e1 : seeB (h.push w) c f i = seeB h c f i := by unfold seeB; rw [histB_of hh, histB_of hp]
  unfold seeE at h0
  cases hs : seeB h c f i with
  | true => rw [hs] at h0; cases h0
  | false =>
    rw [hs] at h0
    simp only at h0
    cases hd : decide (¬ (shownE h i.seen i.part).2 = 0) with
    | true => rw [hd] at h0; cases h0
    | false =>
      have hd : (shownE h i.seen i.part).2 = 0 := by simpa using hd
      have e2 := shown_push (w := w) hh hp hd
      unfold seeE seeL
      rw [e1, e2]
end Go.Proofs.YtjdohgcolhpegaaGreatDoor
