/- The contracts of package shape, for the symbolic executor. -/
import Derived.Test.YtggcfjeehpcclaaDoorX1
import Derived.Test.YtggcfjeehpcclaaDoorE0
namespace Go.Proofs.YtggcfjeehpcclaaDoor
open Go.RowKit

theorem reads_body : Reads decBody Body.val := fun _ _ _ _ h hd => decBody_ok h hd
theorem reads_vec : Reads decVec Vec.val := fun _ _ _ _ h hd => decVec_ok h hd
theorem reads_form : Reads decForm Form.val := fun _ _ _ _ h hd => decForm_ok h hd
theorem rooms_of_grd {W : World} (h : cx.Grd W) : Rooms W := by
  obtain ⟨-, vs, h1, h2⟩ := h.2 0 ⟨[.v (.func (.func 60) #[] #[]), .v (.func (.func 61) #[] #[]), .v (.func (.func 62) #[] #[]), .v (.func (.func 63) #[] #[])], 58⟩ rfl
  obtain rfl := Option.some.inj h1
  exact ⟨h2 0 _ rfl, h2 1 _ rfl, h2 2 _ rfl, h2 3 _ rfl⟩
theorem grd_of_rooms {W : World} (h : Rooms W) : cx.Grd W := by
  refine ⟨World.block_lt_of_cell? W _ h.1, fun b sb hb => ?_⟩
  have hm := look_mem hb
  have hm' : (b, sb) ∈ ground := hm
  unfold ground at hm'
  obtain ⟨rfl, rfl⟩ := Prod.mk.inj (List.mem_singleton.1 hm')
  refine ⟨by decide, _, rfl, fun i v hv => ?_⟩
  match i, hv with
  | 0, hv => obtain rfl := Option.some.inj hv; exact h.1
  | 1, hv => obtain rfl := Option.some.inj hv; exact h.2.1
  | 2, hv => obtain rfl := Option.some.inj hv; exact h.2.2.1
  | 3, hv => obtain rfl := Option.some.inj hv; exact h.2.2.2

def Body.ok (b : Body) : Bool := vldB b.iD b.posX b.posY b.velX b.velY b.w b.h b.round b.fixed
def Body.has (b : Body) (p : Vec) : Bool := hasB b.iD b.posX b.posY b.velX b.velY b.w b.h b.round b.fixed p.x p.y
def Body.far (a b : Body) : Int := farV a.posX a.posY a.w a.h a.round b.posX b.posY b.w b.h b.round
def Body.over (a b : Body) : Bool := a.ok && b.ok && decide (a.far b < 0)
def Body.meets (a b : Body) : Bool := a.ok && b.ok && decide (a.far b ≤ 0)
def Body.touch (a b : Body) : Bool := a.ok && b.ok && decide (a.far b = 0)

def conValid : Con cx := mkCon 28 Tryd.call28 (dec1 decBody) (fun b => [b.val]) (dec1_ok reads_body) (fun _ => none) (fun b => .v (.bool b.ok)) (fun b => .bool b.ok) (fun _ _ => rfl)
  fun b W _ _ => Valid_any b.iD b.posX b.posY b.velX b.velY b.w b.h b.round b.fixed W
def conHas : Con cx := mkCon 26 Tryd.call26 (dec2 decBody decVec) (fun b => [b.1.val, b.2.val]) (dec2_ok reads_body reads_vec) (fun _ => none) (fun b => .v (.bool (b.1.has b.2))) (fun b => .bool (b.1.has b.2)) (fun _ _ => rfl)
  fun b W _ _ => Has_any b.1.iD b.1.posX b.1.posY b.1.velX b.1.velY b.1.w b.1.h b.1.round b.1.fixed b.2.x b.2.y W
def conOverlap : Con cx := mkCon 20 Tryd.call20 (dec2 decBody decBody) (fun b => [b.1.val, b.2.val]) (dec2_ok reads_body reads_body) (fun _ => none) (fun b => .v (.bool (b.1.over b.2))) (fun b => .bool (b.1.over b.2)) (fun _ _ => rfl)
  fun b W _ h => Overlap_any b.1.iD b.1.posX b.1.posY b.1.velX b.1.velY b.1.w b.1.h b.1.round b.1.fixed b.2.iD b.2.posX b.2.posY b.2.velX b.2.velY b.2.w b.2.h b.2.round b.2.fixed W (rooms_of_grd h)
def conMeet : Con cx := mkCon 22 Tryd.call22 (dec2 decBody decBody) (fun b => [b.1.val, b.2.val]) (dec2_ok reads_body reads_body) (fun _ => none) (fun b => .v (.bool (b.1.meets b.2))) (fun b => .bool (b.1.meets b.2)) (fun _ _ => rfl)
  fun b W _ h => Meet_any b.1.iD b.1.posX b.1.posY b.1.velX b.1.velY b.1.w b.1.h b.1.round b.1.fixed b.2.iD b.2.posX b.2.posY b.2.velX b.2.velY b.2.w b.2.h b.2.round b.2.fixed W (rooms_of_grd h)
def conTouch : Con cx := mkCon 21 Tryd.call21 (dec2 decBody decBody) (fun b => [b.1.val, b.2.val]) (dec2_ok reads_body reads_body) (fun _ => none) (fun b => .v (.bool (b.1.touch b.2))) (fun b => .bool (b.1.touch b.2)) (fun _ _ => rfl)
  fun b W _ h => Touch_any b.1.iD b.1.posX b.1.posY b.1.velX b.1.velY b.1.w b.1.h b.1.round b.1.fixed b.2.iD b.2.posX b.2.posY b.2.velX b.2.velY b.2.w b.2.h b.2.round b.2.fixed W (rooms_of_grd h)
def conBox : Con cx := mkCon 15 Tryd.call15 (dec4 SV.i64? SV.i64? SV.i64? SV.i64?) (fun b => [.int .i64 b.1, .int .i64 b.2.1, .int .i64 b.2.2.1, .int .i64 b.2.2.2]) (dec4_ok reads_int reads_int reads_int reads_int) (fun _ => none)
  (fun b => Body.sv ⟨0, b.1, b.2.1, 0, 0, b.2.2.1, b.2.2.2, false, false⟩) (fun b => Body.val ⟨0, b.1, b.2.1, 0, 0, b.2.2.1, b.2.2.2, false, false⟩) (fun _ _ => rfl)
  fun b W _ _ => Box_any b.1 b.2.1 b.2.2.1 b.2.2.2 W
def conRound : Con cx := mkCon 16 Tryd.call16 (dec3 SV.i64? SV.i64? SV.i64?) (fun b => [.int .i64 b.1, .int .i64 b.2.1, .int .i64 b.2.2]) (dec3_ok reads_int reads_int reads_int) (fun _ => none)
  (fun b => Body.sv ⟨0, b.1, b.2.1, 0, 0, b.2.2, b.2.2, true, false⟩) (fun b => Body.val ⟨0, b.1, b.2.1, 0, 0, b.2.2, b.2.2, true, false⟩) (fun _ _ => rfl)
  fun b W _ _ => Round_any b.1 b.2.1 b.2.2 W
def conPick : Con cx := mkCon 23 Tryd.call23 (dec2 SV.i64? SV.i64?) (fun b => [.int .i64 b.1, .int .i64 b.2]) (dec2_ok reads_int reads_int) (fun b => some (1 ≤ b.2 ∧ b.2 ≤ 1000000000 ∧ InR b.1))
  (fun b => .v (.int .i64 (pickI b.1 b.2))) (fun b => .int .i64 (pickI b.1 b.2)) (fun _ _ => rfl)
  fun b W h _ => (Pick_any b.1 b.2 W h.1 h.2.1 h.2.2.1 h.2.2.2).mono fun e W' ⟨he, hw⟩ => ⟨he, hw ▸ Gr.refl W⟩

def Form.In (f : Form) : Prop := InR f.x ∧ InR f.y ∧ InR f.w ∧ InR f.h
/-- The body that Made makes. -/
def Form.body (f : Form) : Body := ⟨0, pickI f.x 801 - 400, pickI f.y 801 - 400, 0, 0, 1 + pickI f.w 300, mkQ f.w f.h f.round, f.round, false⟩
theorem Form.body_ok (f : Form) : MadeOk f.body.posX f.body.posY f.body.w f.body.h f.body.round := made_ok f.x f.y f.w f.h f.round
def conMade : Con cx := mkCon 17 Tryd.call17 (dec1 decForm) (fun b => [b.val]) (dec1_ok reads_form) (fun b => some b.In) (fun b => b.body.sv) (fun b => b.body.val) (fun _ _ => rfl)
  fun b W h _ => made_any b.x b.y b.w b.h b.round W h.1 h.2.1 h.2.2.1 h.2.2.2
def Body.shift (b : Body) (dx dy : Int) : Body := ⟨b.iD, b.posX + dx, b.posY + dy, b.velX, b.velY, b.w, b.h, b.round, b.fixed⟩
def conShifted : Con cx := mkCon 18 Tryd.call18 (dec3 decBody SV.i64? SV.i64?) (fun b => [b.1.val, .int .i64 b.2.1, .int .i64 b.2.2]) (dec3_ok reads_body reads_int reads_int)
  (fun b => some ((-4000000000 ≤ b.1.posX + b.2.1 ∧ b.1.posX + b.2.1 ≤ 4000000000) ∧ (-4000000000 ≤ b.1.posY + b.2.2 ∧ b.1.posY + b.2.2 ≤ 4000000000))) (fun b => (b.1.shift b.2.1 b.2.2).sv) (fun b => (b.1.shift b.2.1 b.2.2).val) (fun _ _ => rfl)
  fun b W h _ => shifted_any b.1.iD b.1.posX b.1.posY b.1.velX b.1.velY b.1.w b.1.h b.1.round b.1.fixed b.2.1 b.2.2 W h.1 h.2
def conAwake : Con cx := mkCon 13 Tryd.call13 dec0 (fun _ => []) dec0_ok (fun _ => none) (fun _ => .bl true) (fun _ => .bool true) (fun _ _ => rfl)
  fun _ W _ h => awake_true W (rooms_of_grd h)
def G1 : List (Con cx) := [conValid, conHas, conOverlap, conMeet, conTouch, conBox, conRound, conPick, conMade, conShifted, conAwake]
end Go.Proofs.YtggcfjeehpcclaaDoor
