/- The seat's types and ground, for the symbolic executor with lists. -/
import Derived.Test.YtggcfjeehpcclaaDoorG18
namespace Go.Proofs.YtggcfjeehpcclaaDoor
open Go.RowKit

def types : List (Nat × TI) := [(1, ⟨1, 8, .prim, [.v .nilFunc], false⟩),
  (2, ⟨1, 8, .int .i64, [.il .i64 0], false⟩),
  (3, ⟨1, 8, .int .i64, [.il .i64 0], false⟩),
  (4, ⟨1, 1, .bool, [.bl false], false⟩),
  (5, ⟨1, 1, .int .u8, [.il .u8 0], false⟩),
  (6, ⟨1, 1, .int .u8, [.il .u8 0], false⟩),
  (7, ⟨4, 24, .struct [(0, 2), (1, 3), (2, 4), (3, 6)], [.il .i64 0, .il .i64 0, .bl false, .il .u8 0], true⟩),
  (8, ⟨4, 24, .struct [(0, 2), (1, 3), (2, 4), (3, 6)], [.il .i64 0, .il .i64 0, .bl false, .il .u8 0], true⟩),
  (12, ⟨1, 8, .int .u64, [.il .u64 0], false⟩),
  (15, ⟨1, 8, .prim, [.v (.pointer none)], false⟩),
  (16, ⟨1, 8, .prim, [.v (.pointer none)], false⟩),
  (17, ⟨1, 8, .prim, [.v (.pointer none)], false⟩),
  (18, ⟨1, 8, .struct [(0, 17)], [.v (.pointer none)], false⟩),
  (19, ⟨1, 8, .struct [(0, 17)], [.v (.pointer none)], false⟩),
  (20, ⟨1, 16, .prim, [.v .nilIface], false⟩),
  (21, ⟨1, 4, .int .i32, [.il .i32 0], false⟩),
  (22, ⟨2, 16, .struct [(0, 3), (1, 3)], [.il .i64 0, .il .i64 0], true⟩),
  (23, ⟨2, 16, .struct [(0, 3), (1, 3)], [.il .i64 0, .il .i64 0], true⟩),
  (24, ⟨9, 64, .struct [(0, 3), (1, 23), (3, 23), (5, 3), (6, 3), (7, 4), (8, 4)], [.il .i64 0, .il .i64 0, .il .i64 0, .il .i64 0, .il .i64 0, .il .i64 0, .il .i64 0, .bl false, .bl false], true⟩),
  (25, ⟨9, 64, .struct [(0, 3), (1, 23), (3, 23), (5, 3), (6, 3), (7, 4), (8, 4)], [.il .i64 0, .il .i64 0, .il .i64 0, .il .i64 0, .il .i64 0, .il .i64 0, .il .i64 0, .bl false, .bl false], true⟩),
  (26, ⟨1, 8, .prim, [.v .nilFunc], false⟩),
  (27, ⟨1, 8, .prim, [.v .nilFunc], false⟩),
  (28, ⟨1, 8, .prim, [.v .nilFunc], false⟩),
  (29, ⟨1, 8, .prim, [.v .nilFunc], false⟩),
  (30, ⟨1, 8, .prim, [.v .nilFunc], false⟩),
  (31, ⟨1, 24, .sl 25, [.v (.slice none 0 0)], false⟩),
  (32, ⟨1, 24, .sl 3, [.v (.slice none 0 0)], false⟩),
  (33, ⟨5, 40, .struct [(0, 3), (1, 3), (2, 3), (3, 3), (4, 4)], [.il .i64 0, .il .i64 0, .il .i64 0, .il .i64 0, .bl false], true⟩),
  (34, ⟨5, 40, .struct [(0, 3), (1, 3), (2, 3), (3, 3), (4, 4)], [.il .i64 0, .il .i64 0, .il .i64 0, .il .i64 0, .bl false], true⟩),
  (35, ⟨1, 8, .prim, [.v .nilFunc], false⟩),
  (36, ⟨1, 8, .prim, [.v .nilFunc], false⟩),
  (37, ⟨1, 8, .prim, [.v .nilFunc], false⟩),
  (38, ⟨1, 8, .prim, [.v .nilFunc], false⟩),
  (39, ⟨1, 8, .prim, [.v .nilFunc], false⟩),
  (40, ⟨1, 8, .prim, [.v .nilFunc], false⟩),
  (41, ⟨1, 8, .prim, [.v .nilFunc], false⟩),
  (42, ⟨1, 8, .prim, [.v .nilFunc], false⟩),
  (44, ⟨1, 8, .prim, [.v .nilFunc], false⟩),
  (45, ⟨1, 24, .sl 23, [.v (.slice none 0 0)], false⟩),
  (46, ⟨1, 8, .prim, [.v .nilFunc], false⟩),
  (47, ⟨1, 8, .prim, [.v .nilFunc], false⟩),
  (48, ⟨1, 8, .prim, [.v .nilFunc], false⟩),
  (49, ⟨1, 8, .prim, [.v .nilFunc], false⟩),
  (51, ⟨1, 8, .prim, [.v .nilFunc], false⟩),
  (52, ⟨1, 8, .prim, [.v .nilFunc], false⟩),
  (53, ⟨1, 8, .prim, [.v .nilFunc], false⟩),
  (54, ⟨1, 8, .prim, [.v .nilFunc], false⟩),
  (55, ⟨1, 8, .prim, [.v .nilFunc], false⟩),
  (56, ⟨1, 8, .prim, [.v .nilFunc], false⟩),
  (57, ⟨2, 16, .arr 2 56, [.v .nilFunc, .v .nilFunc], false⟩),
  (58, ⟨4, 32, .arr 2 57, [.v .nilFunc, .v .nilFunc, .v .nilFunc, .v .nilFunc], false⟩),
  (59, ⟨1, 8, .prim, [.v .nilFunc], false⟩),
  (60, ⟨1, 8, .prim, [.v .nilFunc], false⟩),
  (61, ⟨1, 8, .prim, [.v .nilFunc], false⟩),
  (62, ⟨1, 8, .prim, [.v .nilFunc], false⟩),
  (68, ⟨1, 8, .prim, [.v .nilFunc], false⟩),
  (69, ⟨1, 4, .int .u32, [.il .u32 0], false⟩),
  (70, ⟨1, 1, .int .u8, [.il .u8 0], false⟩),
  (71, ⟨1, 1, .int .u8, [.il .u8 0], false⟩),
  (72, ⟨1, 8, .prim, [.v .nilFunc], false⟩),
  (73, ⟨1, 8, .prim, [.v (.pointer none)], false⟩),
  (74, ⟨1, 4, .int .i32, [.il .i32 0], false⟩),
  (75, ⟨1, 4, .int .i32, [.il .i32 0], false⟩),
  (76, ⟨11, 48, .struct [(0, 12), (1, 12), (2, 69), (3, 70), (4, 5), (5, 5), (6, 71), (7, 72), (8, 73), (9, 74), (10, 75)], [.il .u64 0, .il .u64 0, .il .u32 0, .il .u8 0, .il .u8 0, .il .u8 0, .il .u8 0, .v .nilFunc, .v (.pointer none), .il .i32 0, .il .i32 0], false⟩),
  (77, ⟨11, 48, .struct [(0, 12), (1, 12), (2, 69), (3, 70), (4, 5), (5, 5), (6, 71), (7, 72), (8, 73), (9, 74), (10, 75)], [.il .u64 0, .il .u64 0, .il .u32 0, .il .u8 0, .il .u8 0, .il .u8 0, .il .u8 0, .v .nilFunc, .v (.pointer none), .il .i32 0, .il .i32 0], false⟩)]
set_option maxRecDepth 100000 in
theorem types_ok : types.all (chkT Tryd.prog) = true := by kernel_rfl
def ground : List (Nat × (List SV × TypeId)) := [(0, ([.v (.func (.func 60) #[] #[]), .v (.func (.func 61) #[] #[]), .v (.func (.func 62) #[] #[]), .v (.func (.func 63) #[] #[])], 58))]
def cx : Cx Tryd.prog := ⟨types, ground, 1, types_ok⟩
structure Vec where
  x : Int
  y : Int
def Vec.cells (b : Vec) : List SV := [.v (.int .i64 b.x), .v (.int .i64 b.y)]
def Vec.sv (b : Vec) : SV := .agg b.cells
def Vec.of (x : SV) : Vec := ⟨(hdS (x.al)).iv, (hdS (tlS (x.al))).iv⟩
def rdVec : Rd Vec := ⟨.agg [.v (.int .i64 0), .v (.int .i64 0)], Vec.of, Vec.sv, fun _ => rfl⟩

structure Body where
  iD : Int
  posX : Int
  posY : Int
  velX : Int
  velY : Int
  w : Int
  h : Int
  round : Bool
  fixed : Bool
def Body.cells (b : Body) : List SV := [.v (.int .i64 b.iD), .v (.int .i64 b.posX), .v (.int .i64 b.posY), .v (.int .i64 b.velX), .v (.int .i64 b.velY), .v (.int .i64 b.w), .v (.int .i64 b.h), .v (.bool b.round), .v (.bool b.fixed)]
def Body.sv (b : Body) : SV := .agg b.cells
def Body.of (x : SV) : Body := ⟨(hdS (x.al)).iv, (hdS (tlS (x.al))).iv, (hdS (tlS (tlS (x.al)))).iv, (hdS (tlS (tlS (tlS (x.al))))).iv, (hdS (tlS (tlS (tlS (tlS (x.al)))))).iv, (hdS (tlS (tlS (tlS (tlS (tlS (x.al))))))).iv, (hdS (tlS (tlS (tlS (tlS (tlS (tlS (x.al)))))))).iv, (hdS (tlS (tlS (tlS (tlS (tlS (tlS (tlS (x.al))))))))).bv, (hdS (tlS (tlS (tlS (tlS (tlS (tlS (tlS (tlS (x.al)))))))))).bv⟩
def rdBody : Rd Body := ⟨.agg [.v (.int .i64 0), .v (.int .i64 0), .v (.int .i64 0), .v (.int .i64 0), .v (.int .i64 0), .v (.int .i64 0), .v (.int .i64 0), .v (.bool false), .v (.bool false)], Body.of, Body.sv, fun _ => rfl⟩

end Go.Proofs.YtggcfjeehpcclaaDoor
