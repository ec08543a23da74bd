/- Bodies, points, forms. -/
import Derived.Test.YtggcfjeehpcclaaDoorS15
import Derived.Test.YtggcfjeehpcclaaDoorX0
namespace Go.Proofs.YtggcfjeehpcclaaDoor
open Go.RowKit

structure Body where
  iD : Int
  posX : Int
  posY : Int
  velX : Int
  velY : Int
  w : Int
  h : Int
  round : Bool
  fixed : Bool
def Body.val (b : Body) : Value := .agg #[.int .i64 b.iD, .int .i64 b.posX, .int .i64 b.posY, .int .i64 b.velX, .int .i64 b.velY, .int .i64 b.w, .int .i64 b.h, .bool b.round, .bool b.fixed]
def Body.sv (b : Body) : SV := .agg [.v (.int .i64 b.iD), .v (.int .i64 b.posX), .v (.int .i64 b.posY), .v (.int .i64 b.velX), .v (.int .i64 b.velY), .v (.int .i64 b.w), .v (.int .i64 b.h), .v (.bool b.round), .v (.bool b.fixed)]
theorem Body.sv_den (b : Body) (ρ : Names) : den ρ b.sv = some b.val := rfl
def decBody : SV → Option Body
  | .agg [a0, a1, a2, a3, a4, a5, a6, a7, a8] =>
    match a0.i64? with
    | none => none
    | some x0 =>
      match a1.i64? with
      | none => none
      | some x1 =>
        match a2.i64? with
        | none => none
        | some x2 =>
          match a3.i64? with
          | none => none
          | some x3 =>
            match a4.i64? with
            | none => none
            | some x4 =>
              match a5.i64? with
              | none => none
              | some x5 =>
                match a6.i64? with
                | none => none
                | some x6 =>
                  match a7.bool? with
                  | none => none
                  | some x7 =>
                    match a8.bool? with
                    | none => none
                    | some x8 =>
                      some ⟨x0, x1, x2, x3, x4, x5, x6, x7, x8⟩
  | _ => none
theorem decBody_ok {x : SV} {b : Body} {ρ : Names} {v : Value} (h : decBody x = some b) (hd : den ρ x = some v) : v = b.val := by
  unfold decBody at h
  split at h
  · rename_i a0 a1 a2 a3 a4 a5 a6 a7 a8
    split at h
    · cases h
    rename_i x0 h0
    split at h
    · cases h
    rename_i x1 h1
    split at h
    · cases h
    rename_i x2 h2
    split at h
    · cases h
    rename_i x3 h3
    split at h
    · cases h
    rename_i x4 h4
    split at h
    · cases h
    rename_i x5 h5
    split at h
    · cases h
    rename_i x6 h6
    split at h
    · cases h
    rename_i x7 h7
    split at h
    · cases h
    rename_i x8 h8
    obtain rfl := Option.some.inj h
    simp only [den, denL, SV.i64?_den h0, SV.i64?_den h1, SV.i64?_den h2, SV.i64?_den h3, SV.i64?_den h4, SV.i64?_den h5, SV.i64?_den h6, SV.bool?_den h7, SV.bool?_den h8] at hd
    exact (Option.some.inj hd).symm
  · cases h

structure Vec where
  x : Int
  y : Int
def Vec.val (b : Vec) : Value := .agg #[.int .i64 b.x, .int .i64 b.y]
def Vec.sv (b : Vec) : SV := .agg [.v (.int .i64 b.x), .v (.int .i64 b.y)]
theorem Vec.sv_den (b : Vec) (ρ : Names) : den ρ b.sv = some b.val := rfl
def decVec : SV → Option Vec
  | .agg [a0, a1] =>
    match a0.i64? with
    | none => none
    | some x0 =>
      match a1.i64? with
      | none => none
      | some x1 =>
        some ⟨x0, x1⟩
  | _ => none
theorem decVec_ok {x : SV} {b : Vec} {ρ : Names} {v : Value} (h : decVec x = some b) (hd : den ρ x = some v) : v = b.val := by
  unfold decVec at h
  split at h
  · rename_i a0 a1
    split at h
    · cases h
    rename_i x0 h0
    split at h
    · cases h
    rename_i x1 h1
    obtain rfl := Option.some.inj h
    simp only [den, denL, SV.i64?_den h0, SV.i64?_den h1] at hd
    exact (Option.some.inj hd).symm
  · cases h

structure Form where
  x : Int
  y : Int
  w : Int
  h : Int
  round : Bool
def Form.val (b : Form) : Value := .agg #[.int .i64 b.x, .int .i64 b.y, .int .i64 b.w, .int .i64 b.h, .bool b.round]
def Form.sv (b : Form) : SV := .agg [.v (.int .i64 b.x), .v (.int .i64 b.y), .v (.int .i64 b.w), .v (.int .i64 b.h), .v (.bool b.round)]
theorem Form.sv_den (b : Form) (ρ : Names) : den ρ b.sv = some b.val := rfl
def decForm : SV → Option Form
  | .agg [a0, a1, a2, a3, a4] =>
    match a0.i64? with
    | none => none
    | some x0 =>
      match a1.i64? with
      | none => none
      | some x1 =>
        match a2.i64? with
        | none => none
        | some x2 =>
          match a3.i64? with
          | none => none
          | some x3 =>
            match a4.bool? with
            | none => none
            | some x4 =>
              some ⟨x0, x1, x2, x3, x4⟩
  | _ => none
theorem decForm_ok {x : SV} {b : Form} {ρ : Names} {v : Value} (h : decForm x = some b) (hd : den ρ x = some v) : v = b.val := by
  unfold decForm at h
  split at h
  · rename_i a0 a1 a2 a3 a4
    split at h
    · cases h
    rename_i x0 h0
    split at h
    · cases h
    rename_i x1 h1
    split at h
    · cases h
    rename_i x2 h2
    split at h
    · cases h
    rename_i x3 h3
    split at h
    · cases h
    rename_i x4 h4
    obtain rfl := Option.some.inj h
    simp only [den, denL, SV.i64?_den h0, SV.i64?_den h1, SV.i64?_den h2, SV.i64?_den h3, SV.bool?_den h4] at hd
    exact (Option.some.inj hd).symm
  · cases h

end Go.Proofs.YtggcfjeehpcclaaDoor
