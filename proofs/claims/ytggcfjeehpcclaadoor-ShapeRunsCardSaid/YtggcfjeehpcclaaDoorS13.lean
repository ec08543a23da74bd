/- A symbolic executor, 14: regions. -/
import Derived.Test.YtggcfjeehpcclaaDoorS12
namespace Go.Proofs.YtggcfjeehpcclaaDoor
open Go.RowKit

section
variable {PP : Program} {C : Cx PP} {Γ : List (Con C)} {nt : Nat} {ops : Array Oper} {heads : List Oper} {st0 : St} {S : Nat → St} {w0 : World} {ρe : Names} {ρ0 : Names} {a0 : Act} {W1 : World}

theorem head_done (F : Fixed Γ nt ops.toList heads st0 S) (h0 : RI C nt w0 ρe st0 ρ0 a0 W1) {listed : Array Bool} {ρ : Names} {a : Act} {W : World} (h : HI C nt w0 ρe heads st0 S ρ0 a0 W1 listed ρ a W)
    (hall : ∀ i, i < heads.length → listed.getD i false = true) : RI C nt w0 ρe (S heads.length) ρ a W := by
  have hrg := F.rg heads.length (Nat.le_refl _)
  have hk : ∀ t s, look (S heads.length).sl t = some s → s.rg = st0.rg → listed.getD s.k false = true := fun t s hs hr => hall s.k (F.ins _ (Nat.le_refl _) t s hs hr).1
  refine ⟨⟨⟨fun n sb hn => ?_, h.inj, h.low, h.grd⟩, fun n b hn => ?_, h0.base.le.trans h.le, fun n b hn => ?_, h.keep, h.sz, h.df⟩, fun t s hs => ?_, fun t s hs hr hg => ?_, fun t s hs hr => ?_, fun t s hs hr p hp => ?_⟩
  · rcases F.heap _ (Nat.le_refl _) n sb hn with ⟨h1, h2⟩ | ⟨j, hj, hwj, h3⟩
    · exact h.con n sb h1 fun i sb' hi hwi => absurd hwi (h2 i sb' hi)
    · exact h.wr j n sb hj (hall j hj) hwj fun j' sb' h1 h2 h4 => absurd h4 (h3 j' sb' h1 h2)
  · rcases h.dom n b hn with h1 | ⟨-, j, hj, -, hB, rfl⟩
    · have k1 := h0.base.dom n b h1
      have k2 := F.nm (i := 0) (j := heads.length) (by omega) (Nat.le_refl _)
      rw [F.s0] at k2
      omega
    · have := F.nm (i := j + 1) (j := heads.length) (by omega) (Nat.le_refl _)
      omega
  · rcases h.dom n b hn with h1 | ⟨h1, -⟩
    · exact h0.base.old n b h1
    · exact .inr (Nat.le_trans h0.base.keep.size h1)
  · by_cases hr : s.rg = st0.rg
    · omega
    · have := h0.rgs t s (F.out _ (Nat.le_refl _) t s hs hr)
      omega
  · rw [hrg] at hr
    have hs0 := F.out _ (Nat.le_refl _) t s hs hr
    obtain ⟨y, h1, h2⟩ := h0.out t s hs0 hr hg
    refine ⟨y, den_le h.le _ _ h1, ?_⟩
    rw [h.out t ?_]
    · exact h2
    · cases hfr : freeOf heads t with
      | true => rfl
      | false =>
        exfalso
        rcases writer t heads with hf | ⟨i, o, hi, hd⟩
        · rw [hf] at hfr; cases hfr
        · obtain ⟨g, r, R, -, -, e, -⟩ := F.own hi hd
          rw [hs] at e
          rw [Option.some.inj e] at hr
          exact hr rfl
  · rw [hrg] at hr
    exact h.ins t s hs hr (hk t s hs hr)
  · rw [hrg] at hr
    obtain ⟨s', q1, q2, -⟩ := F.atoms (md := ops) (n := heads.length) rfl s.k t s rfl hs hr p hp
    exact ⟨s', q1, by rw [hrg]; exact q2⟩

theorem head_start (F : Fixed Γ nt ops.toList heads st0 S) (h0 : RI C nt w0 ρe st0 ρ0 a0 W1) {listed : Array Bool} (hl : ∀ i, listed.getD i false = false) : HI C nt w0 ρe heads st0 S ρ0 a0 W1.drew listed ρ0 a0 W1.drew :=
  let g := (Gr.refl W1).drew
  ⟨h0.base.hok.inj, fun n b hn => ⟨(h0.base.hok.low n b hn).1, Nat.lt_of_lt_of_le (h0.base.hok.low n b hn).2 g.size⟩, h0.base.hok.grd.gr g, Names.le.refl _, fun m b hm => .inl hm, fun m sb hm _ => Cont.gr (h0.base.hok.blk m sb hm) g,
    (fun i m sb _ h => by rw [hl] at h; cases h), h0.base.keep.gr g, Nat.le_refl _, (fun t s _ _ h => by rw [hl] at h; cases h), fun t _ => rfl, h0.base.sz, h0.base.df⟩
end

/-- The tail of a region, or a region in its one order. -/
def evTail {PP : Program} {C : Cx PP} (Γ : List (Con C)) (nt : Nat) (ops : List Oper) : Nat → List Oper → St → (St → Prop) → Prop := fun k r st K => evOps (stepIn Γ nt false ops ops []) k r st K
def isPlain (full : Bool) : Op → Bool
  | .store .. => full
  | .mapUpdate .. => false
  | _ => true
/-- How many operations may come in whatever order. -/
def headLen (full : Bool) : List Oper → Nat
  | [] => 0
  | o :: r => match isPlain full o.op with | true => headLen full r + 1 | false => 0
def takeO : Nat → List Oper → List Oper
  | 0, _ => []
  | _, [] => []
  | n + 1, x :: r => x :: takeO n r
theorem takeO_eq : ∀ (n : Nat) (l : List Oper), takeO n l = l.take n
  | 0, l => by simp [takeO]
  | n + 1, [] => by simp [takeO]
  | n + 1, x :: r => by simp [takeO, takeO_eq n r]
def evRegion {PP : Program} {C : Cx PP} (Γ : List (Con C)) (nt : Nat) (full : Bool) (ops : Array Oper) (draw : Bool) : St → (St → Prop) → Prop
  | ⟨sl, H, nm, rg, _, _⟩, K => match draw with
    | false => evTail Γ nt ops.toList 0 ops.toList ⟨sl, H, nm, rg + 1, [], []⟩ K
    | true => evOps (stepIn Γ nt true ops.toList (takeO (headLen full ops.toList) ops.toList) H) 0 (takeO (headLen full ops.toList) ops.toList) ⟨sl, H, nm, rg + 1, [], []⟩
        fun st => match disjB st.rd st.ws with
          | true => evTail Γ nt ops.toList (headLen full ops.toList) (ops.toList.drop (headLen full ops.toList)) st K
          | false => False
def regionB (full : Bool) (ops : Array Oper) (draw : Bool) : Bool := match draw with | true => headB ops (headLen full ops.toList) | false => true

section
variable {PP : Program} {C : Cx PP} {Γ : List (Con C)} {nt : Nat} {w0 : World} {ρe ρ : Names} {a : Act} {W : World}

theorem Rp.enter {sl : List (Nat × Slot)} {H : List (Nat × SB)} {nm rg : Nat} {rd : List Nat} {ws : List (Nat × Nat)} (h : Rp C nt w0 ρe ⟨sl, H, nm, rg, rd, ws⟩ ρ a W) : RI C nt w0 ρe ⟨sl, H, nm, rg + 1, [], []⟩ ρ a W := by
  have hne : ∀ t s, look sl t = some s → s.rg ≠ rg + 1 := fun t s hs e => by
    have : s.rg ≤ rg := h.rgs t s hs
    omega
  exact ⟨h.base, fun t s hs => Nat.le_succ_of_le (h.rgs t s hs), fun t s hs _ hg => h.slots t s hs hg, fun t s hs hr => absurd hr (hne t s hs), fun t s hs hr => absurd hr (hne t s hs)⟩
theorem RI.leave {st : St} (h : RI C nt w0 ρe st ρ a W) : Rp C nt w0 ρe st ρ a W :=
  ⟨h.base, h.rgs, fun t s hs hg => by
    by_cases hr : s.rg = st.rg
    · exact (h.ins t s hs hr).1 (by rw [hg]; exact holds_nil a)
    · exact h.out t s hs hr hg⟩

theorem evTail_ok {ops : Array Oper} {Q : Exit → Act → World → Prop} (hgm : C.gm ≤ w0.heap.size) {K : St → Prop} (hQ : ∀ st ρ a W, K st → RI C nt w0 ρe st ρ a W → Q .normal a W) :
    ∀ (r : List Oper) (k : Nat) (st : St) (ρ : Names) (a : Act) (W : World), RI C nt w0 ρe st ρ a W → evTail Γ nt ops.toList k r st K → wpList C.P ops Q r a W
  | [], k, st, ρ, a, W, h, he => hQ st ρ a W he h
  | o :: r, k, st, ρ, a, W, h, he => by
    unfold evTail at he
    simp only [evOps] at he
    split at he
    · cases he
    · rename_i st' ob hs
      obtain ⟨h1, h2⟩ := also_ok he
      refine wpList_step fun K' hK' => ?_
      exact step_seq hgm h hs h1 fun ρ' a' W' h' => hK' _ _ (evTail_ok hgm hQ r (k + 1) st' ρ' a' W' h' h2)

theorem evRegion_ok {ops : Array Oper} {full draw : Bool} {id : Nat} {Q : Exit → Act → World → Prop} {st : St} {K : St → Prop} (hgm : C.gm ≤ w0.heap.size) (hm : C.P.follows .mixedOrders = true) (hB0 : regionB full ops draw = true) (h : Rp C nt w0 ρe st ρ a W) (he : evRegion Γ nt full ops draw st K)
    (hQ : ∀ st ρ a W, K st → Rp C nt w0 ρe st ρ a W → Q .normal a W) : (Code.region id ops draw).wp C.P Q a W := by
  obtain ⟨sl, H, nm, rg, rd, ws⟩ := st
  have hi := h.enter
  have hQ' : ∀ st ρ a W, K st → RI C nt w0 ρe st ρ a W → Q .normal a W := fun st ρ a W hk hr => hQ st ρ a W hk hr.leave
  cases draw with
  | false => exact wp_region_list (evTail_ok hgm hQ' _ _ _ _ _ _ hi he)
  | true =>
    unfold evRegion at he
    simp only at he
    have hB : headB ops (headLen full ops.toList) = true := hB0
    clear hB0
    rw [takeO_eq] at he
    have hle : headLen full ops.toList ≤ ops.toList.length := by
      generalize ops.toList = l
      induction l with
      | nil => simp [headLen]
      | cons o r ih => simp only [headLen]; split <;> simp <;> omega
    generalize headLen full ops.toList = n at he hB hle
    have hlen : (ops.toList.take n).length = n := by rw [List.length_take]; omega
    obtain ⟨hrun, hK⟩ := evOps_at _ (l := ops.toList.take n) (st0 := ⟨sl, H, nm, rg + 1, [], []⟩) (ops.toList.take n) 0 (fun j => by simp) (by simp) he
    split at hK
    · rename_i hdj
      have F : Fixed Γ nt ops.toList (ops.toList.take n) ⟨sl, H, nm, rg + 1, [], []⟩ (stAt (stepIn Γ nt true ops.toList (ops.toList.take n) H) (ops.toList.take n) ⟨sl, H, nm, rg + 1, [], []⟩) :=
        ⟨rfl, fun i o ho => hrun i o (Nat.zero_le _) ho, fun t s hs => by
          have : s.rg ≤ rg := h.rgs t s hs
          show s.rg ≠ rg + 1
          omega, fun i o ho => by
          have hl : i < n := by have := (List.getElem?_eq_some_iff.1 ho).1; omega
          rwa [List.getElem?_take_of_lt hl] at ho, fun m sb hm => by
          obtain ⟨b, vs, h1, -⟩ := h.base.hok.blk m sb hm
          exact h.base.dom m b h1, disjB_ok hdj⟩
      have hid : RI C nt w0 ρe ⟨sl, H, nm, rg + 1, [], []⟩ ρ a W.drew := hi.same ((Gr.refl W).drew)
      refine wp_region_inv (n := n) hm hB (fun listed a' W' => ∃ ρ', HI C nt w0 ρe (ops.toList.take n) ⟨sl, H, nm, rg + 1, [], []⟩ (stAt (stepIn Γ nt true ops.toList (ops.toList.take n) H) (ops.toList.take n) ⟨sl, H, nm, rg + 1, [], []⟩) ρ a W.drew listed ρ' a' W')
        ⟨ρ, head_start F hi (fun i => getD_replicate_false _ i)⟩ ?_ ?_
      · intro listed a' W' i o inv hI hin ho hu hdep K' hK'
        have hho : (ops.toList.take n)[i]? = some o := by rw [List.getElem?_take_of_lt hin]; simpa using ho
        exact head_step F hlen hid hgm listed a' W' i o inv hI hin ho hho hu hdep K' hK'
      · intro listed a' W' ⟨ρ', hI⟩ hall
        exact evTail_ok hgm hQ' _ _ _ ρ' a' W' (head_done F hid hI (by rw [hlen]; exact hall)) hK
    · cases hK
end
end Go.Proofs.YtggcfjeehpcclaaDoor
