/- The seat's types and ground, for the symbolic executor with lists. Structures of the world; readers. store: keys, rising, Fits, Right, Valid. Places of a segment: how they compare. Structures; contracts of small functions of cast. -/
import Derived.Test.YtjdohgcolhpegaaGreatDoorG20
import Derived.Test.YtjdohgcolhpegaaGreatDoorG18
namespace Go.Proofs.YtjdohgcolhpegaaGreatDoor
open Go.RowKit

def types : List (Nat × TI) := [(1, ⟨1, 8, .prim, [.v .nilFunc], false⟩),
  (2, ⟨1, 8, .int .i64, [.il .i64 0], false⟩),
  (3, ⟨1, 8, .int .i64, [.il .i64 0], false⟩),
  (4, ⟨1, 1, .bool, [.bl false], false⟩),
  (5, ⟨1, 1, .int .u8, [.il .u8 0], false⟩),
  (6, ⟨1, 1, .int .u8, [.il .u8 0], false⟩),
  (7, ⟨4, 24, .struct [(0, 2), (1, 3), (2, 4), (3, 6)], [.il .i64 0, .il .i64 0, .bl false, .il .u8 0], true⟩),
  (8, ⟨4, 24, .struct [(0, 2), (1, 3), (2, 4), (3, 6)], [.il .i64 0, .il .i64 0, .bl false, .il .u8 0], true⟩),
  (12, ⟨1, 8, .int .u64, [.il .u64 0], false⟩),
  (15, ⟨1, 8, .ptr, [.v (.pointer none)], false⟩),
  (16, ⟨1, 8, .ptr, [.v (.pointer none)], false⟩),
  (17, ⟨1, 8, .ptr, [.v (.pointer none)], false⟩),
  (18, ⟨1, 8, .struct [(0, 17)], [.v (.pointer none)], false⟩),
  (19, ⟨1, 8, .struct [(0, 17)], [.v (.pointer none)], false⟩),
  (20, ⟨1, 16, .prim, [.v .nilIface], false⟩),
  (21, ⟨1, 4, .int .i32, [.il .i32 0], false⟩),
  (22, ⟨1, 24, .sl 25, [.v (.slice none 0 0)], false⟩),
  (23, ⟨1, 24, .sl 35, [.v (.slice none 0 0)], false⟩),
  (24, ⟨2, 32, .struct [(0, 3), (1, 23)], [.il .i64 0, .v (.slice none 0 0)], false⟩),
  (25, ⟨2, 32, .struct [(0, 3), (1, 23)], [.il .i64 0, .v (.slice none 0 0)], false⟩),
  (26, ⟨2, 16, .struct [(0, 3), (1, 3)], [.il .i64 0, .il .i64 0], true⟩),
  (27, ⟨2, 16, .struct [(0, 3), (1, 3)], [.il .i64 0, .il .i64 0], true⟩),
  (28, ⟨10, 80, .struct [(0, 3), (1, 3), (2, 3), (3, 27), (5, 4), (6, 27), (8, 3), (9, 3)], [.il .i64 0, .il .i64 0, .il .i64 0, .il .i64 0, .il .i64 0, .bl false, .il .i64 0, .il .i64 0, .il .i64 0, .il .i64 0], true⟩),
  (29, ⟨10, 80, .struct [(0, 3), (1, 3), (2, 3), (3, 27), (5, 4), (6, 27), (8, 3), (9, 3)], [.il .i64 0, .il .i64 0, .il .i64 0, .il .i64 0, .il .i64 0, .bl false, .il .i64 0, .il .i64 0, .il .i64 0, .il .i64 0], true⟩),
  (30, ⟨1, 8, .prim, [.v .nilFunc], false⟩),
  (31, ⟨1, 8, .prim, [.v .nilFunc], false⟩),
  (32, ⟨1, 8, .prim, [.v .nilFunc], false⟩),
  (33, ⟨1, 24, .sl 46, [.v (.slice none 0 0)], false⟩),
  (34, ⟨2, 32, .struct [(0, 3), (1, 33)], [.il .i64 0, .v (.slice none 0 0)], false⟩),
  (35, ⟨2, 32, .struct [(0, 3), (1, 33)], [.il .i64 0, .v (.slice none 0 0)], false⟩),
  (37, ⟨1, 8, .prim, [.v .nilFunc], false⟩),
  (38, ⟨3, 24, .struct [(0, 3), (1, 3), (2, 4)], [.il .i64 0, .il .i64 0, .bl false], true⟩),
  (39, ⟨3, 24, .struct [(0, 3), (1, 3), (2, 4)], [.il .i64 0, .il .i64 0, .bl false], true⟩),
  (40, ⟨1, 8, .int .i64, [.il .i64 0], false⟩),
  (42, ⟨1, 8, .prim, [.v .nilFunc], false⟩),
  (43, ⟨1, 8, .prim, [.v .nilFunc], false⟩),
  (44, ⟨4, 32, .arr 4 3, [.il .i64 0, .il .i64 0, .il .i64 0, .il .i64 0], true⟩),
  (45, ⟨5, 40, .struct [(0, 5), (1, 44)], [.il .u8 0, .il .i64 0, .il .i64 0, .il .i64 0, .il .i64 0], true⟩),
  (46, ⟨5, 40, .struct [(0, 5), (1, 44)], [.il .u8 0, .il .i64 0, .il .i64 0, .il .i64 0, .il .i64 0], true⟩),
  (48, ⟨1, 8, .prim, [.v .nilFunc], false⟩),
  (49, ⟨1, 8, .prim, [.v .nilFunc], false⟩),
  (50, ⟨1, 2, .int .u16, [.il .u16 0], false⟩),
  (51, ⟨1, 8, .prim, [.v .nilFunc], false⟩),
  (53, ⟨1, 8, .prim, [.v .nilFunc], false⟩),
  (54, ⟨1, 8, .prim, [.v .nilFunc], false⟩),
  (55, ⟨1, 8, .prim, [.v .nilFunc], false⟩),
  (56, ⟨1, 8, .prim, [.v .nilFunc], false⟩),
  (57, ⟨1, 8, .prim, [.v .nilFunc], false⟩),
  (58, ⟨1, 8, .prim, [.v .nilFunc], false⟩),
  (59, ⟨9, 64, .struct [(0, 3), (1, 27), (3, 27), (5, 3), (6, 3), (7, 4), (8, 4)], [.il .i64 0, .il .i64 0, .il .i64 0, .il .i64 0, .il .i64 0, .il .i64 0, .il .i64 0, .bl false, .bl false], true⟩),
  (60, ⟨9, 64, .struct [(0, 3), (1, 27), (3, 27), (5, 3), (6, 3), (7, 4), (8, 4)], [.il .i64 0, .il .i64 0, .il .i64 0, .il .i64 0, .il .i64 0, .il .i64 0, .il .i64 0, .bl false, .bl false], true⟩),
  (61, ⟨1, 24, .sl 60, [.v (.slice none 0 0)], false⟩),
  (62, ⟨1, 24, .sl 113, [.v (.slice none 0 0)], false⟩),
  (63, ⟨4, 64, .struct [(0, 61), (1, 62), (2, 27)], [.v (.slice none 0 0), .v (.slice none 0 0), .il .i64 0, .il .i64 0], false⟩),
  (64, ⟨4, 64, .struct [(0, 61), (1, 62), (2, 27)], [.v (.slice none 0 0), .v (.slice none 0 0), .il .i64 0, .il .i64 0], false⟩),
  (65, ⟨1, 8, .prim, [.v .nilFunc], false⟩),
  (67, ⟨1, 8, .prim, [.v .nilFunc], false⟩),
  (68, ⟨1, 8, .prim, [.v .nilFunc], false⟩),
  (69, ⟨1, 8, .prim, [.v .nilFunc], false⟩),
  (70, ⟨1, 8, .prim, [.v .nilFunc], false⟩),
  (72, ⟨1, 8, .prim, [.v .nilFunc], false⟩),
  (73, ⟨1, 8, .prim, [.v .nilFunc], false⟩),
  (74, ⟨1, 8, .prim, [.v .nilFunc], false⟩),
  (75, ⟨1, 8, .prim, [.v .nilFunc], false⟩),
  (76, ⟨1, 8, .prim, [.v .nilFunc], false⟩),
  (77, ⟨1, 8, .prim, [.v .nilFunc], false⟩),
  (78, ⟨1, 8, .prim, [.v .nilFunc], false⟩),
  (79, ⟨1, 8, .prim, [.v .nilFunc], false⟩),
  (80, ⟨1, 8, .prim, [.v .nilFunc], false⟩),
  (81, ⟨1, 8, .prim, [.v .nilFunc], false⟩),
  (82, ⟨1, 8, .prim, [.v .nilFunc], false⟩),
  (83, ⟨1, 24, .sl 82, [.v (.slice none 0 0)], false⟩),
  (84, ⟨1, 8, .prim, [.v .nilFunc], false⟩),
  (85, ⟨1, 8, .prim, [.v .nilFunc], false⟩),
  (86, ⟨1, 8, .prim, [.v .nilFunc], false⟩),
  (87, ⟨1, 8, .prim, [.v .nilFunc], false⟩),
  (88, ⟨1, 8, .prim, [.v .nilFunc], false⟩),
  (89, ⟨1, 8, .prim, [.v .nilFunc], false⟩),
  (90, ⟨1, 8, .prim, [.v .nilFunc], false⟩),
  (92, ⟨1, 8, .prim, [.v .nilFunc], false⟩),
  (93, ⟨1, 8, .prim, [.v .nilFunc], false⟩),
  (94, ⟨1, 8, .prim, [.v .nilFunc], false⟩),
  (95, ⟨1, 8, .prim, [.v .nilFunc], false⟩),
  (96, ⟨1, 8, .prim, [.v .nilFunc], false⟩),
  (97, ⟨1, 8, .prim, [.v .nilFunc], false⟩),
  (98, ⟨1, 8, .prim, [.v .nilFunc], false⟩),
  (99, ⟨1, 8, .prim, [.v .nilFunc], false⟩),
  (100, ⟨1, 8, .prim, [.v .nilFunc], false⟩),
  (101, ⟨1, 8, .prim, [.v .nilFunc], false⟩),
  (102, ⟨1, 8, .ptr, [.v (.pointer none)], false⟩),
  (103, ⟨1, 8, .prim, [.v .nilFunc], false⟩),
  (104, ⟨1, 24, .sl 3, [.v (.slice none 0 0)], false⟩),
  (105, ⟨1, 8, .prim, [.v .nilFunc], false⟩),
  (106, ⟨1, 8, .prim, [.v .nilFunc], false⟩),
  (107, ⟨1, 8, .prim, [.v .nilFunc], false⟩),
  (109, ⟨1, 8, .prim, [.v .nilFunc], false⟩),
  (110, ⟨1, 8, .prim, [.v .nilFunc], false⟩),
  (111, ⟨1, 8, .prim, [.v .nilFunc], false⟩),
  (112, ⟨3, 24, .struct [(0, 3), (1, 3), (2, 3)], [.il .i64 0, .il .i64 0, .il .i64 0], true⟩),
  (113, ⟨3, 24, .struct [(0, 3), (1, 3), (2, 3)], [.il .i64 0, .il .i64 0, .il .i64 0], true⟩),
  (114, ⟨1, 8, .prim, [.v .nilFunc], false⟩),
  (115, ⟨3, 24, .struct [(0, 3), (1, 3), (2, 3)], [.il .i64 0, .il .i64 0, .il .i64 0], true⟩),
  (116, ⟨3, 24, .struct [(0, 3), (1, 3), (2, 3)], [.il .i64 0, .il .i64 0, .il .i64 0], true⟩),
  (118, ⟨1, 8, .prim, [.v .nilFunc], false⟩),
  (119, ⟨1, 8, .prim, [.v .nilFunc], false⟩),
  (120, ⟨1, 8, .prim, [.v .nilFunc], false⟩),
  (121, ⟨1, 8, .prim, [.v .nilFunc], false⟩),
  (122, ⟨1, 8, .prim, [.v .nilFunc], false⟩),
  (123, ⟨1, 8, .prim, [.v .nilFunc], false⟩),
  (125, ⟨1, 8, .prim, [.v .nilFunc], false⟩),
  (126, ⟨1, 8, .prim, [.v .nilFunc], false⟩),
  (127, ⟨1, 8, .prim, [.v .nilFunc], false⟩),
  (128, ⟨1, 8, .prim, [.v .nilFunc], false⟩),
  (129, ⟨1, 8, .prim, [.v .nilFunc], false⟩),
  (130, ⟨1, 8, .prim, [.v .nilFunc], false⟩),
  (131, ⟨1, 8, .prim, [.v .nilFunc], false⟩),
  (132, ⟨1, 8, .prim, [.v .nilFunc], false⟩),
  (133, ⟨2, 16, .struct [(0, 3), (1, 3)], [.il .i64 0, .il .i64 0], true⟩),
  (134, ⟨2, 16, .struct [(0, 3), (1, 3)], [.il .i64 0, .il .i64 0], true⟩),
  (135, ⟨8, 64, .arr 4 134, [.il .i64 0, .il .i64 0, .il .i64 0, .il .i64 0, .il .i64 0, .il .i64 0, .il .i64 0, .il .i64 0], true⟩),
  (136, ⟨88, 704, .arr 11 135, [.il .i64 0, .il .i64 0, .il .i64 0, .il .i64 0, .il .i64 0, .il .i64 0, .il .i64 0, .il .i64 0, .il .i64 0, .il .i64 0, .il .i64 0, .il .i64 0, .il .i64 0, .il .i64 0, .il .i64 0, .il .i64 0, .il .i64 0, .il .i64 0, .il .i64 0, .il .i64 0, .il .i64 0, .il .i64 0, .il .i64 0, .il .i64 0, .il .i64 0, .il .i64 0, .il .i64 0, .il .i64 0, .il .i64 0, .il .i64 0, .il .i64 0, .il .i64 0, .il .i64 0, .il .i64 0, .il .i64 0, .il .i64 0, .il .i64 0, .il .i64 0, .il .i64 0, .il .i64 0, .il .i64 0, .il .i64 0, .il .i64 0, .il .i64 0, .il .i64 0, .il .i64 0, .il .i64 0, .il .i64 0, .il .i64 0, .il .i64 0, .il .i64 0, .il .i64 0, .il .i64 0, .il .i64 0, .il .i64 0, .il .i64 0, .il .i64 0, .il .i64 0, .il .i64 0, .il .i64 0, .il .i64 0, .il .i64 0, .il .i64 0, .il .i64 0, .il .i64 0, .il .i64 0, .il .i64 0, .il .i64 0, .il .i64 0, .il .i64 0, .il .i64 0, .il .i64 0, .il .i64 0, .il .i64 0, .il .i64 0, .il .i64 0, .il .i64 0, .il .i64 0, .il .i64 0, .il .i64 0, .il .i64 0, .il .i64 0, .il .i64 0, .il .i64 0, .il .i64 0, .il .i64 0, .il .i64 0, .il .i64 0], true⟩),
  (137, ⟨1, 8, .prim, [.v .nilFunc], false⟩),
  (138, ⟨1, 8, .prim, [.v .nilFunc], false⟩),
  (139, ⟨1, 8, .int .u64, [.il .u64 0], false⟩),
  (140, ⟨1, 8, .prim, [.v .nilFunc], false⟩),
  (141, ⟨1, 8, .prim, [.v .nilFunc], false⟩),
  (142, ⟨1, 8, .prim, [.v .nilFunc], false⟩),
  (143, ⟨1, 8, .mp 3 3, [.v (.map none)], false⟩),
  (145, ⟨1, 8, .prim, [.v .nilFunc], false⟩),
  (146, ⟨1, 8, .ptr, [.v (.pointer none)], false⟩),
  (147, ⟨1, 8, .prim, [.v .nilFunc], false⟩),
  (148, ⟨1, 8, .prim, [.v .nilFunc], false⟩),
  (149, ⟨1, 8, .prim, [.v .nilFunc], false⟩),
  (151, ⟨1, 8, .prim, [.v .nilFunc], false⟩),
  (152, ⟨1, 8, .prim, [.v .nilFunc], false⟩),
  (153, ⟨1, 8, .prim, [.v .nilFunc], false⟩),
  (154, ⟨1, 8, .prim, [.v .nilFunc], false⟩),
  (155, ⟨1, 8, .int .u64, [.il .u64 0], false⟩),
  (156, ⟨2, 16, .struct [(0, 155), (1, 155)], [.il .u64 0, .il .u64 0], true⟩),
  (157, ⟨2, 16, .struct [(0, 155), (1, 155)], [.il .u64 0, .il .u64 0], true⟩),
  (158, ⟨1, 8, .prim, [.v .nilFunc], false⟩),
  (159, ⟨1, 8, .prim, [.v .nilFunc], false⟩),
  (160, ⟨1, 8, .prim, [.v .nilFunc], false⟩),
  (161, ⟨1, 8, .prim, [.v .nilFunc], false⟩),
  (162, ⟨1, 8, .mp 3 116, [.v (.map none)], false⟩),
  (163, ⟨1, 8, .prim, [.v .nilFunc], false⟩),
  (164, ⟨1, 8, .prim, [.v .nilFunc], false⟩),
  (165, ⟨1, 8, .prim, [.v .nilFunc], false⟩),
  (166, ⟨1, 8, .prim, [.v .nilFunc], false⟩),
  (167, ⟨1, 8, .prim, [.v .nilFunc], false⟩),
  (168, ⟨2, 16, .struct [(0, 155), (1, 155)], [.il .u64 0, .il .u64 0], true⟩),
  (169, ⟨2, 16, .struct [(0, 155), (1, 155)], [.il .u64 0, .il .u64 0], true⟩),
  (170, ⟨3, 24, .struct [(0, 169), (2, 4)], [.il .u64 0, .il .u64 0, .bl false], true⟩),
  (171, ⟨3, 24, .struct [(0, 169), (2, 4)], [.il .u64 0, .il .u64 0, .bl false], true⟩),
  (173, ⟨1, 8, .prim, [.v .nilFunc], false⟩),
  (174, ⟨1, 8, .prim, [.v .nilFunc], false⟩),
  (175, ⟨1, 8, .prim, [.v .nilFunc], false⟩),
  (176, ⟨1, 8, .prim, [.v .nilFunc], false⟩),
  (177, ⟨1, 8, .prim, [.v .nilFunc], false⟩),
  (178, ⟨1, 8, .prim, [.v .nilFunc], false⟩),
  (179, ⟨1, 8, .prim, [.v .nilFunc], false⟩),
  (180, ⟨1, 8, .prim, [.v .nilFunc], false⟩),
  (181, ⟨8, 64, .arr 2 44, [.il .i64 0, .il .i64 0, .il .i64 0, .il .i64 0, .il .i64 0, .il .i64 0, .il .i64 0, .il .i64 0], true⟩),
  (182, ⟨1, 8, .prim, [.v .nilFunc], false⟩),
  (183, ⟨1, 8, .prim, [.v .nilFunc], false⟩),
  (184, ⟨1, 8, .prim, [.v .nilFunc], false⟩),
  (185, ⟨1, 8, .prim, [.v .nilFunc], false⟩),
  (187, ⟨1, 8, .prim, [.v .nilFunc], false⟩),
  (188, ⟨1, 8, .prim, [.v .nilFunc], false⟩),
  (189, ⟨1, 8, .prim, [.v .nilFunc], false⟩),
  (190, ⟨1, 8, .prim, [.v .nilFunc], false⟩),
  (191, ⟨1, 24, .sl 171, [.v (.slice none 0 0)], false⟩),
  (192, ⟨1, 8, .prim, [.v .nilFunc], false⟩),
  (193, ⟨1, 8, .prim, [.v .nilFunc], false⟩),
  (194, ⟨1, 8, .prim, [.v .nilFunc], false⟩),
  (195, ⟨1, 8, .prim, [.v .nilFunc], false⟩),
  (196, ⟨1, 8, .prim, [.v .nilFunc], false⟩),
  (197, ⟨1, 8, .prim, [.v .nilFunc], false⟩),
  (203, ⟨1, 4, .int .u32, [.il .u32 0], false⟩),
  (204, ⟨1, 1, .int .u8, [.il .u8 0], false⟩),
  (205, ⟨1, 1, .int .u8, [.il .u8 0], false⟩),
  (206, ⟨1, 8, .prim, [.v .nilFunc], false⟩),
  (207, ⟨1, 8, .ptr, [.v (.pointer none)], false⟩),
  (208, ⟨1, 4, .int .i32, [.il .i32 0], false⟩),
  (209, ⟨1, 4, .int .i32, [.il .i32 0], false⟩),
  (210, ⟨11, 48, .struct [(0, 12), (1, 12), (2, 203), (3, 204), (4, 5), (5, 5), (6, 205), (7, 206), (8, 207), (9, 208), (10, 209)], [.il .u64 0, .il .u64 0, .il .u32 0, .il .u8 0, .il .u8 0, .il .u8 0, .il .u8 0, .v .nilFunc, .v (.pointer none), .il .i32 0, .il .i32 0], false⟩),
  (211, ⟨11, 48, .struct [(0, 12), (1, 12), (2, 203), (3, 204), (4, 5), (5, 5), (6, 205), (7, 206), (8, 207), (9, 208), (10, 209)], [.il .u64 0, .il .u64 0, .il .u32 0, .il .u8 0, .il .u8 0, .il .u8 0, .il .u8 0, .v .nilFunc, .v (.pointer none), .il .i32 0, .il .i32 0], false⟩),
  (212, ⟨1, 8, .prim, [.v .nilFunc], false⟩)]
set_option maxRecDepth 100000 in
theorem types_ok : types.all (chkT Tryz.prog) = true := by kernel_rfl
def ground : List (Nat × (List SV × TypeId)) := [(0, ([.il .i64 0, .il .i64 0, .il .i64 0, .il .i64 0, .il .i64 0, .il .i64 0, .il .i64 0, .il .i64 0, .il .i64 (-1048576), .il .i64 1048576, .il .i64 (-1048576), .il .i64 1048576, .il .i64 0, .il .i64 0, .il .i64 0, .il .i64 0, .il .i64 (-4096), .il .i64 4096, .il .i64 (-4096), .il .i64 4096, .il .i64 0, .il .i64 0, .il .i64 0, .il .i64 0, .il .i64 1, .il .i64 16384, .il .i64 1, .il .i64 16384, .il .i64 0, .il .i64 1, .il .i64 0, .il .i64 1, .il .i64 1, .il .i64 8, .il .i64 0, .il .i64 0, .il .i64 0, .il .i64 0, .il .i64 0, .il .i64 0, .il .i64 0, .il .i64 510, .il .i64 0, .il .i64 0, .il .i64 0, .il .i64 0, .il .i64 0, .il .i64 0, .il .i64 0, .il .i64 15, .il .i64 0, .il .i64 0, .il .i64 0, .il .i64 0, .il .i64 0, .il .i64 0, .il .i64 (-2147483648), .il .i64 2147483647, .il .i64 (-2147483648), .il .i64 2147483647, .il .i64 (-2147483648), .il .i64 2147483647, .il .i64 (-2147483648), .il .i64 2147483647, .il .i64 0, .il .i64 1048576, .il .i64 0, .il .i64 1048576, .il .i64 0, .il .i64 0, .il .i64 0, .il .i64 0, .il .i64 0, .il .i64 2147483647, .il .i64 0, .il .i64 2147483647, .il .i64 0, .il .i64 2147483647, .il .i64 0, .il .i64 2147483647, .il .i64 (-2147483648), .il .i64 2147483647, .il .i64 (-2147483648), .il .i64 2147483647, .il .i64 (-2147483648), .il .i64 2147483647, .il .i64 (-2147483648), .il .i64 2147483647], 136))]
def cx : Cx Tryz.prog := ⟨types, ground, 1, types_ok⟩
end Go.Proofs.YtjdohgcolhpegaaGreatDoor
namespace Go.Proofs.YtjdohgcolhpegaaGreatDoor
open Go.RowKit

theorem follows : cx.P.follows .mixedOrders = true := by kernel_rfl
/-- A slot, as it stands. -/
def sl (t : Nat) (v : SV) : Nat × Slot := (t, ⟨0, 0, [], v⟩)
def I64 (x : Int) : Prop := -9223372036854775808 ≤ x ∧ x ≤ 9223372036854775807
def i64 (n : Int) : SV := .v (.int .i64 n)
structure Vec where
  x : Int
  y : Int
def Vec.cells (b : Vec) : List SV := [.v (.int .i64 b.x), .v (.int .i64 b.y)]
def Vec.sv (b : Vec) : SV := .agg b.cells
def Vec.of (x : SV) : Vec := ⟨(hdS (x.al)).iv, (hdS (tlS (x.al))).iv⟩
def rdVec : Rd Vec := ⟨.agg [.v (.int .i64 0), .v (.int .i64 0)], Vec.of, Vec.sv, fun _ => rfl⟩
structure Body where
  iD : Int
  posX : Int
  posY : Int
  velX : Int
  velY : Int
  w : Int
  h : Int
  round : Bool
  fixed : Bool
def Body.cells (b : Body) : List SV := [.v (.int .i64 b.iD), .v (.int .i64 b.posX), .v (.int .i64 b.posY), .v (.int .i64 b.velX), .v (.int .i64 b.velY), .v (.int .i64 b.w), .v (.int .i64 b.h), .v (.bool b.round), .v (.bool b.fixed)]
def Body.sv (b : Body) : SV := .agg b.cells
def Body.of (x : SV) : Body := ⟨(hdS (x.al)).iv, (hdS (tlS (x.al))).iv, (hdS (tlS (tlS (x.al)))).iv, (hdS (tlS (tlS (tlS (x.al))))).iv, (hdS (tlS (tlS (tlS (tlS (x.al)))))).iv, (hdS (tlS (tlS (tlS (tlS (tlS (x.al))))))).iv, (hdS (tlS (tlS (tlS (tlS (tlS (tlS (x.al)))))))).iv, (hdS (tlS (tlS (tlS (tlS (tlS (tlS (tlS (x.al))))))))).bv, (hdS (tlS (tlS (tlS (tlS (tlS (tlS (tlS (tlS (x.al)))))))))).bv⟩
def rdBody : Rd Body := ⟨.agg [.v (.int .i64 0), .v (.int .i64 0), .v (.int .i64 0), .v (.int .i64 0), .v (.int .i64 0), .v (.int .i64 0), .v (.int .i64 0), .v (.bool false), .v (.bool false)], Body.of, Body.sv, fun _ => rfl⟩
structure Comp where
  kind : Int
  v0 : Int
  v1 : Int
  v2 : Int
  v3 : Int
def Comp.cells (b : Comp) : List SV := [.v (.int .u8 b.kind), .v (.int .i64 b.v0), .v (.int .i64 b.v1), .v (.int .i64 b.v2), .v (.int .i64 b.v3)]
def Comp.sv (b : Comp) : SV := .agg b.cells
def Comp.of (x : SV) : Comp := ⟨(hdS x.al).iv, (hdS (tlS x.al)).iv, (hdS (tlS (tlS x.al))).iv, (hdS (tlS (tlS (tlS x.al)))).iv, (hdS (tlS (tlS (tlS (tlS x.al))))).iv⟩
def patC : List SV := [.v (.int .u8 0), .v (.int .i64 0), .v (.int .i64 0), .v (.int .i64 0), .v (.int .i64 0)]
def rdComp : Rd Comp := ⟨.agg patC, Comp.of, Comp.sv, fun _ => rfl⟩
/-- A list of components. -/
structure Cms where
  n : Nat
  c : Nat → Comp
def Cms.sv (l : Cms) : SV := .rs 5 l.n fun i => (l.c i).cells
def Cms.of (x : SV) : Cms := ⟨x.rn, fun i => Comp.of (.agg (x.rf i))⟩
def rdCms : Rd Cms := ⟨.rs 5 0 fun _ => patC, Cms.of, Cms.sv, fun _ => rfl⟩
structure Ent where
  iD : Int
  l : Cms
def Ent.cells (b : Ent) : List SV := [.v (.int .i64 b.iD), b.l.sv]
def Ent.sv (b : Ent) : SV := .agg b.cells
def Ent.of (x : SV) : Ent := ⟨(hdS x.al).iv, Cms.of (hdS (tlS x.al))⟩
def patE : List SV := [.v (.int .i64 0), .rs 5 0 fun _ => patC]
def rdEnt : Rd Ent := ⟨.agg patE, Ent.of, Ent.sv, fun _ => rfl⟩
structure Ens where
  n : Nat
  e : Nat → Ent
def Ens.sv (l : Ens) : SV := .rs 2 l.n fun i => (l.e i).cells
def Ens.of (x : SV) : Ens := ⟨x.rn, fun i => Ent.of (.agg (x.rf i))⟩
def rdEns : Rd Ens := ⟨.rs 2 0 fun _ => patE, Ens.of, Ens.sv, fun _ => rfl⟩
structure Wor where
  tick : Int
  l : Ens
def Wor.cells (b : Wor) : List SV := [.v (.int .i64 b.tick), b.l.sv]
def Wor.sv (b : Wor) : SV := .agg b.cells
def Wor.of (x : SV) : Wor := ⟨(hdS x.al).iv, Ens.of (hdS (tlS x.al))⟩
def rdWor : Rd Wor := ⟨.agg [.v (.int .i64 0), .rs 2 0 fun _ => patE], Wor.of, Wor.sv, fun _ => rfl⟩
end Go.Proofs.YtjdohgcolhpegaaGreatDoor
namespace Go.Proofs.YtjdohgcolhpegaaGreatDoor
open Go.RowKit

/-- Are the keys, from the k-th on, not in order? -/
def unsG (key : Nat → Int) : Nat → Nat → Bool
  | _, 0 => false
  | k, r + 1 => match decide (key k ≤ key (k - 1)) with | true => true | false => unsG key (k + 1) r
theorem unsG_step {key : Nat → Int} {k n : Nat} (h : k < n) : unsG key k (n - k) = match decide (key k ≤ key (k - 1)) with | true => true | false => unsG key (k + 1) (n - (k + 1)) := by
  rw [show n - k = (n - (k + 1)) + 1 by omega]; rfl
theorem unsG_no {key : Nat → Int} : ∀ {r k : Nat}, unsG key k r = false → ∀ i, k ≤ i → i < k + r → key (i - 1) < key i
  | 0, k, _, i, h1, h2 => by omega
  | r + 1, k, h, i, h1, h2 => by
    simp only [unsG] at h
    split at h
    · cases h
    · rename_i hk
      have hk := of_decide_eq_false hk
      rcases Nat.eq_or_lt_of_le h1 with rfl | h1
      · omega
      · exact unsG_no h i h1 (by omega)
theorem unsG_of {key : Nat → Int} : ∀ {r k : Nat}, (∀ i, k ≤ i → i < k + r → key (i - 1) < key i) → unsG key k r = false
  | 0, k, _ => rfl
  | r + 1, k, h => by
    have := h k (Nat.le_refl _) (by omega)
    simp only [unsG, decide_eq_false (by omega : ¬ key k ≤ key (k - 1))]
    exact unsG_of fun i h1 h2 => h i (by omega) (by omega)
/-- The keys increase strictly. -/
def Inc (key : Nat → Int) (n : Nat) : Prop := ∀ i j, i < j → j < n → key i < key j
theorem inc_of {key : Nat → Int} {n : Nat} (h : unsG key 1 (n - 1) = false) : Inc key n := by
  have step : ∀ i, 0 < i → i < n → key (i - 1) < key i := fun i h1 h2 => unsG_no h i h1 (by omega)
  intro i j hij hj
  induction j with
  | zero => omega
  | succ j ih =>
    have := step (j + 1) (by omega) hj
    simp only [Nat.add_sub_cancel] at this
    by_cases e : i = j
    · subst e; exact this
    · exact Int.lt_trans (ih (by omega) (by omega)) this
theorem uns_of_inc {key : Nat → Int} {n : Nat} (h : Inc key n) : unsG key 1 (n - 1) = false := unsG_of fun i h1 h2 => h (i - 1) i (by omega) (by omega)
/-- Does g hold for one of r numbers from the k-th on? -/
def anyN (g : Nat → Bool) : Nat → Nat → Bool
  | _, 0 => false
  | k, r + 1 => match g k with | true => true | false => anyN g (k + 1) r
theorem anyN_step {g : Nat → Bool} {k n : Nat} (h : k < n) : anyN g k (n - k) = match g k with | true => true | false => anyN g (k + 1) (n - (k + 1)) := by
  rw [show n - k = (n - (k + 1)) + 1 by omega]; rfl
theorem anyN_no {g : Nat → Bool} : ∀ {r k : Nat}, anyN g k r = false → ∀ i, k ≤ i → i < k + r → g i = false
  | 0, k, _, i, h1, h2 => by omega
  | r + 1, k, h, i, h1, h2 => by
    simp only [anyN] at h
    split at h
    · cases h
    · rename_i hk
      rcases Nat.eq_or_lt_of_le h1 with rfl | h1
      · exact hk
      · exact anyN_no h i h1 (by omega)
theorem anyN_of {g : Nat → Bool} : ∀ {r k : Nat}, (∀ i, k ≤ i → i < k + r → g i = false) → anyN g k r = false
  | 0, k, _ => rfl
  | r + 1, k, h => by
    simp only [anyN, h k (Nat.le_refl _) (by omega)]
    exact anyN_of fun i h1 h2 => h i (by omega) (by omega)
def bigN : Int := 9223372036854775807
set_option maxHeartbeats 2000000 in
set_option maxRecDepth 8000 in
theorem Kind_walk : ∀ a, conj ((fun _ => []) a) → evFn (C := cx) [] [] 0 noHow Tryz.f44 ((rds1 rdComp).enc a) fun v H _ => resOut ((fun a => .v (.int .u8 a.kind)) a) H v := by
  intro a _
  repeat' (first | (refine And.intro ?_ ?_) | (intro _) | exact rfl)
noncomputable def conKind : Con cx := walkCon 44 Tryz.call44 (rds1 rdComp) (fun _ => []) (fun a => .v (.int .u8 a.kind)) (fun _ => noHow) [] (fun _ => rfl) follows Tryz.func44 (by kernel_rfl) Kind_walk
set_option maxHeartbeats 2000000 in
set_option maxRecDepth 8000 in
theorem Id_walk : ∀ a, conj ((fun _ => []) a) → evFn (C := cx) [] [] 0 noHow Tryz.f46 ((rds1 rdEnt).enc a) fun v H _ => resOut ((fun a => .v (.int .i64 a.iD)) a) H v := by
  intro a _
  repeat' (first | (refine And.intro ?_ ?_) | (intro _) | exact rfl)
noncomputable def conId : Con cx := walkCon 46 Tryz.call46 (rds1 rdEnt) (fun _ => []) (fun a => .v (.int .i64 a.iD)) (fun _ => noHow) [] (fun _ => rfl) follows Tryz.func46 (by kernel_rfl) Id_walk
def risRisC (l : Cms) : Cut := ⟨Nat, fun k => 1 ≤ k ∧ (k ≤ l.n ∨ k = 1) ∧ unsG (fun i => (l.c i).kind) 1 (l.n - 1) = unsG (fun i => (l.c i).kind) k (l.n - k),
  fun k => ⟨[sl 0 l.sv, sl 1 (.v (.func (.func 44) #[] #[])), sl 5 (i64 k)], [], 0, 0, [], []⟩, fun k => l.n - k⟩
set_option maxHeartbeats 2000000 in
set_option maxRecDepth 8000 in
theorem RisC_walk : ∀ a, conj ((fun a => [(a.1.n : Int) ≤ bigN, a.2 = (.v (.func (.func 44) #[] #[]))]) a) → evFn (C := cx) [conKind] [] 0 ⟨[], [], [2], 0⟩ Tryz.f79 ((rds2 rdCms rdX).enc a) fun v H _ => resOut ((fun a => .v (.bool (!unsG (fun i => (a.1.c i).kind) 1 (a.1.n - 1)))) a) H v := by
  intro ⟨l, x⟩ ⟨hn, hx⟩
  replace hn : (l.n : Int) ≤ 9223372036854775807 := hn
  replace hx : x = .v (.func (.func 44) #[] #[]) := hx
  subst hx
  refine Exists.intro (risRisC l) ?_
  refine And.intro ?_ ?_
  · refine ⟨(1 : Nat), [], [], trivial, ⟨Nat.le_refl _, .inr rfl, rfl⟩, ?_⟩
    repeat' (first | (refine And.intro ?_ ?_) | (intro _) | exact rfl)
  refine fun (k : Nat) (hk : 1 ≤ k ∧ (k ≤ l.n ∨ k = 1) ∧ unsG (fun i => (l.c i).kind) 1 (l.n - 1) = unsG (fun i => (l.c i).kind) k (l.n - k)) => ?_
  obtain ⟨k0, k1, k2⟩ := hk
  refine And.intro (fun hb => ?_) (fun hb => ?_)
  · have hb : (k : Int) < l.n := of_decide_eq_true hb
    have e := unsG_step (key := (fun i => (l.c i).kind)) (k := k) (n := l.n) (by omega)
    have ek : ((k : Int) - 1).toNat = k - 1 := by omega
    refine And.intro (by unfold I64; omega : I64 ((k : Int) - 1)) ?_
    refine And.intro ⟨by omega, by omega⟩ ?_
    refine And.intro ⟨by omega, by omega⟩ ?_
    refine And.intro (fun hc => ?_) (fun hc => ?_)
    · have hc : decide ((l.c k).kind ≤ (l.c ((k : Int) - 1).toNat).kind) = true := hc
      rw [ek] at hc
      simp only [hc] at e
      refine Eq.trans (a := !unsG (fun i => (l.c i).kind) 1 (l.n - 1)) (b := false) ?_ rfl
      rw [k2, e]
      rfl
    · have hc : decide ((l.c k).kind ≤ (l.c ((k : Int) - 1).toNat).kind) = false := hc
      rw [ek] at hc
      simp only [hc] at e
      refine And.intro (by unfold I64; omega : I64 ((k : Int) + 1)) ?_
      refine ⟨k + 1, [], [], (by show l.n - (k + 1) < l.n - k; omega), ⟨by omega, by omega, by rw [k2, e]⟩, ?_⟩
      repeat' (first | (refine And.intro ?_ ?_) | (intro _) | exact rfl)
  · have hb : ¬ (k : Int) < l.n := of_decide_eq_false hb
    have e : unsG (fun i => (l.c i).kind) 1 (l.n - 1) = false := by rw [k2, show l.n - k = 0 by omega]; rfl
    refine Eq.trans (a := !unsG (fun i => (l.c i).kind) 1 (l.n - 1)) (b := true) ?_ rfl
    rw [e]
    rfl
noncomputable def conRisC : Con cx := walkCon 79 Tryz.call79 (rds2 rdCms rdX) (fun a => [(a.1.n : Int) ≤ bigN, a.2 = (.v (.func (.func 44) #[] #[]))]) (fun a => .v (.bool (!unsG (fun i => (a.1.c i).kind) 1 (a.1.n - 1)))) (fun _ => ⟨[], [], [2], 0⟩) [] (fun _ => rfl) follows Tryz.func79 (by kernel_rfl) RisC_walk
def risRisE (l : Ens) : Cut := ⟨Nat, fun k => 1 ≤ k ∧ (k ≤ l.n ∨ k = 1) ∧ unsG (fun i => (l.e i).iD) 1 (l.n - 1) = unsG (fun i => (l.e i).iD) k (l.n - k),
  fun k => ⟨[sl 0 l.sv, sl 1 (.v (.func (.func 46) #[] #[])), sl 5 (i64 k)], [], 0, 0, [], []⟩, fun k => l.n - k⟩
set_option maxHeartbeats 2000000 in
set_option maxRecDepth 8000 in
theorem RisE_walk : ∀ a, conj ((fun a => [(a.1.n : Int) ≤ bigN, a.2 = (.v (.func (.func 46) #[] #[]))]) a) → evFn (C := cx) [conId] [] 0 ⟨[], [], [2], 0⟩ Tryz.f45 ((rds2 rdEns rdX).enc a) fun v H _ => resOut ((fun a => .v (.bool (!unsG (fun i => (a.1.e i).iD) 1 (a.1.n - 1)))) a) H v := by
  intro ⟨l, x⟩ ⟨hn, hx⟩
  replace hn : (l.n : Int) ≤ 9223372036854775807 := hn
  replace hx : x = .v (.func (.func 46) #[] #[]) := hx
  subst hx
  refine Exists.intro (risRisE l) ?_
  refine And.intro ?_ ?_
  · refine ⟨(1 : Nat), [], [], trivial, ⟨Nat.le_refl _, .inr rfl, rfl⟩, ?_⟩
    repeat' (first | (refine And.intro ?_ ?_) | (intro _) | exact rfl)
  refine fun (k : Nat) (hk : 1 ≤ k ∧ (k ≤ l.n ∨ k = 1) ∧ unsG (fun i => (l.e i).iD) 1 (l.n - 1) = unsG (fun i => (l.e i).iD) k (l.n - k)) => ?_
  obtain ⟨k0, k1, k2⟩ := hk
  refine And.intro (fun hb => ?_) (fun hb => ?_)
  · have hb : (k : Int) < l.n := of_decide_eq_true hb
    have e := unsG_step (key := (fun i => (l.e i).iD)) (k := k) (n := l.n) (by omega)
    have ek : ((k : Int) - 1).toNat = k - 1 := by omega
    refine And.intro (by unfold I64; omega : I64 ((k : Int) - 1)) ?_
    refine And.intro ⟨by omega, by omega⟩ ?_
    refine And.intro (fun _ _ => trivial) ?_
    refine And.intro ⟨by omega, by omega⟩ ?_
    refine And.intro (fun _ _ => trivial) ?_
    refine And.intro (fun hc => ?_) (fun hc => ?_)
    · have hc : decide ((l.e k).iD ≤ (l.e ((k : Int) - 1).toNat).iD) = true := hc
      rw [ek] at hc
      simp only [hc] at e
      refine Eq.trans (a := !unsG (fun i => (l.e i).iD) 1 (l.n - 1)) (b := false) ?_ rfl
      rw [k2, e]
      rfl
    · have hc : decide ((l.e k).iD ≤ (l.e ((k : Int) - 1).toNat).iD) = false := hc
      rw [ek] at hc
      simp only [hc] at e
      refine And.intro (by unfold I64; omega : I64 ((k : Int) + 1)) ?_
      refine ⟨k + 1, [], [], (by show l.n - (k + 1) < l.n - k; omega), ⟨by omega, by omega, by rw [k2, e]⟩, ?_⟩
      repeat' (first | (refine And.intro ?_ ?_) | (intro _) | exact rfl)
  · have hb : ¬ (k : Int) < l.n := of_decide_eq_false hb
    have e : unsG (fun i => (l.e i).iD) 1 (l.n - 1) = false := by rw [k2, show l.n - k = 0 by omega]; rfl
    refine Eq.trans (a := !unsG (fun i => (l.e i).iD) 1 (l.n - 1)) (b := true) ?_ rfl
    rw [e]
    rfl
noncomputable def conRisE : Con cx := walkCon 45 Tryz.call45 (rds2 rdEns rdX) (fun a => [(a.1.n : Int) ≤ bigN, a.2 = (.v (.func (.func 46) #[] #[]))]) (fun a => .v (.bool (!unsG (fun i => (a.1.e i).iD) 1 (a.1.n - 1)))) (fun _ => ⟨[], [], [2], 0⟩) [] (fun _ => rfl) follows Tryz.func45 (by kernel_rfl) RisE_walk
def Comp.F1 (c : Comp) : Prop := c.kind = 1 → -1048576 ≤ c.v0 ∧ c.v0 ≤ 1048576 ∧ -1048576 ≤ c.v1 ∧ c.v1 ≤ 1048576 ∧ 0 ≤ c.v2 ∧ c.v2 ≤ 0 ∧ 0 ≤ c.v3 ∧ c.v3 ≤ 0
instance (c : Comp) : Decidable c.F1 := by unfold Comp.F1; infer_instance
def Comp.F2 (c : Comp) : Prop := c.kind = 2 → -4096 ≤ c.v0 ∧ c.v0 ≤ 4096 ∧ -4096 ≤ c.v1 ∧ c.v1 ≤ 4096 ∧ 0 ≤ c.v2 ∧ c.v2 ≤ 0 ∧ 0 ≤ c.v3 ∧ c.v3 ≤ 0
instance (c : Comp) : Decidable c.F2 := by unfold Comp.F2; infer_instance
def Comp.F3 (c : Comp) : Prop := c.kind = 3 → 1 ≤ c.v0 ∧ c.v0 ≤ 16384 ∧ 1 ≤ c.v1 ∧ c.v1 ≤ 16384 ∧ 0 ≤ c.v2 ∧ c.v2 ≤ 1 ∧ 0 ≤ c.v3 ∧ c.v3 ≤ 1
instance (c : Comp) : Decidable c.F3 := by unfold Comp.F3; infer_instance
def Comp.F4 (c : Comp) : Prop := c.kind = 4 → 1 ≤ c.v0 ∧ c.v0 ≤ 8 ∧ 0 ≤ c.v1 ∧ c.v1 ≤ 0 ∧ 0 ≤ c.v2 ∧ c.v2 ≤ 0 ∧ 0 ≤ c.v3 ∧ c.v3 ≤ 0
instance (c : Comp) : Decidable c.F4 := by unfold Comp.F4; infer_instance
def Comp.F5 (c : Comp) : Prop := c.kind = 5 → 0 ≤ c.v0 ∧ c.v0 ≤ 510 ∧ 0 ≤ c.v1 ∧ c.v1 ≤ 0 ∧ 0 ≤ c.v2 ∧ c.v2 ≤ 0 ∧ 0 ≤ c.v3 ∧ c.v3 ≤ 0
instance (c : Comp) : Decidable c.F5 := by unfold Comp.F5; infer_instance
def Comp.F6 (c : Comp) : Prop := c.kind = 6 → 0 ≤ c.v0 ∧ c.v0 ≤ 15 ∧ 0 ≤ c.v1 ∧ c.v1 ≤ 0 ∧ 0 ≤ c.v2 ∧ c.v2 ≤ 0 ∧ 0 ≤ c.v3 ∧ c.v3 ≤ 0
instance (c : Comp) : Decidable c.F6 := by unfold Comp.F6; infer_instance
def Comp.F7 (c : Comp) : Prop := c.kind = 7 → -2147483648 ≤ c.v0 ∧ c.v0 ≤ 2147483647 ∧ -2147483648 ≤ c.v1 ∧ c.v1 ≤ 2147483647 ∧ -2147483648 ≤ c.v2 ∧ c.v2 ≤ 2147483647 ∧ -2147483648 ≤ c.v3 ∧ c.v3 ≤ 2147483647
instance (c : Comp) : Decidable c.F7 := by unfold Comp.F7; infer_instance
def Comp.F8 (c : Comp) : Prop := c.kind = 8 → 0 ≤ c.v0 ∧ c.v0 ≤ 1048576 ∧ 0 ≤ c.v1 ∧ c.v1 ≤ 1048576 ∧ 0 ≤ c.v2 ∧ c.v2 ≤ 0 ∧ 0 ≤ c.v3 ∧ c.v3 ≤ 0
instance (c : Comp) : Decidable c.F8 := by unfold Comp.F8; infer_instance
def Comp.F9 (c : Comp) : Prop := c.kind = 9 → 0 ≤ c.v0 ∧ c.v0 ≤ 2147483647 ∧ 0 ≤ c.v1 ∧ c.v1 ≤ 2147483647 ∧ 0 ≤ c.v2 ∧ c.v2 ≤ 2147483647 ∧ 0 ≤ c.v3 ∧ c.v3 ≤ 2147483647
instance (c : Comp) : Decidable c.F9 := by unfold Comp.F9; infer_instance
def Comp.F10 (c : Comp) : Prop := c.kind = 10 → -2147483648 ≤ c.v0 ∧ c.v0 ≤ 2147483647 ∧ -2147483648 ≤ c.v1 ∧ c.v1 ≤ 2147483647 ∧ -2147483648 ≤ c.v2 ∧ c.v2 ≤ 2147483647 ∧ -2147483648 ≤ c.v3 ∧ c.v3 ≤ 2147483647
instance (c : Comp) : Decidable c.F10 := by unfold Comp.F10; infer_instance
/-- A component is valid. -/
def Comp.Fits (c : Comp) : Prop := 1 ≤ c.kind ∧ c.kind ≤ 10 ∧ c.F1 ∧ c.F2 ∧ c.F3 ∧ c.F4 ∧ c.F5 ∧ c.F6 ∧ c.F7 ∧ c.F8 ∧ c.F9 ∧ c.F10 ∧ (c.kind = 3 → c.v2 = 0 ∨ c.v0 = c.v1) ∧ (c.kind = 5 → c.v0 % 2 = 0)
instance (c : Comp) : Decidable c.Fits := by unfold Comp.Fits; infer_instance
def Comp.fits (c : Comp) : Bool := decide c.Fits
theorem fits_no {c : Comp} (h : ¬ c.Fits) : c.fits = false := decide_eq_false h
theorem fits_yes {c : Comp} (h : c.Fits) : c.fits = true := decide_eq_true h
end Go.Proofs.YtjdohgcolhpegaaGreatDoor
namespace Go.Proofs.YtjdohgcolhpegaaGreatDoor

structure Plc where
  n : Int
  s : Int
  m : Int
def cmpI (x y : Int) : Int := if x < y then -1 else if y < x then 1 else 0
/-- The comparison where the second place has no root. -/
def ordR (a b : Plc) : Int := if 0 ≤ a.n * b.m - b.n * a.m then cmpI ((a.n * b.m - b.n * a.m) * (a.n * b.m - b.n * a.m)) (b.m * b.m * a.s) else -1
/-- .. where both have roots, and the first numerator is not less. -/
def ordB (a b : Plc) : Int := if a.s - b.s - (a.n - b.n) * (a.n - b.n) < 0 then 1 else cmpI (4 * (a.n - b.n) * (a.n - b.n) * b.s) ((a.s - b.s - (a.n - b.n) * (a.n - b.n)) * (a.s - b.s - (a.n - b.n) * (a.n - b.n)))
def ordP (a b : Plc) : Int :=
  if a.s = 0 ∧ b.s = 0 then cmpI (a.n * b.m) (b.n * a.m)
  else if b.s = 0 then ordR a b
  else if a.s = 0 then - ordR b a
  else if a.n < b.n then - ordB b a
  else ordB a b

theorem cmpI_neg (x y : Int) : cmpI y x = - cmpI x y := by unfold cmpI; grind
theorem cmpI_le {x y : Int} : cmpI x y ≤ 0 ↔ x ≤ y := by unfold cmpI; grind
theorem cmpI_lt {x y : Int} : cmpI x y < 0 ↔ x < y := by unfold cmpI; grind

theorem sq_nn (x : Int) : 0 ≤ x * x := by
  rcases Int.le_total 0 x with k | k
  · exact Int.mul_nonneg k k
  · exact Int.mul_nonneg_of_nonpos_of_nonpos k k
theorem sq_le {x y : Int} (h : 0 ≤ x) (k : x ≤ y) : x * x ≤ y * y := Int.mul_le_mul k k h (Int.le_trans h k)
theorem sq_lt {x y : Int} (h : 0 ≤ x) (k : x < y) : x * x < y * y := by
  have := Int.mul_le_mul_of_nonneg_left (Int.le_of_lt k) h
  have := Int.mul_lt_mul_of_pos_right k (by omega : 0 < y)
  omega
theorem of_sq {x y : Int} (h : 0 ≤ y) (k : x * x ≤ y * y) : x ≤ y := by
  by_cases e : x ≤ y
  · exact e
  · have := sq_lt h (Int.not_le.1 e); omega
theorem ordB_same {a b : Plc} (h : a.n = b.n) : ordB b a = - ordB a b := by
  have e : a.n - b.n = 0 := by omega
  have e' : b.n - a.n = 0 := by omega
  unfold ordB cmpI
  rw [e, e']
  simp only [Int.mul_zero, Int.zero_mul, Int.sub_zero]
  by_cases h1 : a.s - b.s < 0
  · have := Int.mul_pos (by omega : 0 < b.s - a.s) (by omega : 0 < b.s - a.s)
    rw [if_pos h1, if_neg (by omega), if_pos (by omega)]
  · by_cases h2 : b.s - a.s < 0
    · have := Int.mul_pos (by omega : 0 < a.s - b.s) (by omega : 0 < a.s - b.s)
      rw [if_pos h2, if_neg h1, if_pos (by omega)]; rfl
    · have : a.s - b.s = 0 := by omega
      have k : b.s - a.s = 0 := by omega
      rw [this, k]; rfl
theorem ordP_neg (a b : Plc) : ordP b a = - ordP a b := by
  unfold ordP
  by_cases ha : a.s = 0 <;> by_cases hb : b.s = 0
  · simp only [ha, hb, and_self, if_true]; exact cmpI_neg _ _
  · simp [ha, hb]
  · simp [ha, hb]
  · simp only [ha, hb, false_and, if_false]
    by_cases h1 : a.n < b.n
    · rw [if_neg (by omega), if_pos h1]; simp
    · by_cases h2 : b.n < a.n
      · rw [if_pos h2, if_neg h1]
      · rw [if_neg h2, if_neg h1]
        exact ordB_same (by omega)

/-- (n - sqrt s) / m is at most a / b. -/
def Plc.le (w : Plc) (a b : Int) : Prop := w.n * b - a * w.m ≤ 0 ∨ (w.n * b - a * w.m) * (w.n * b - a * w.m) ≤ b * b * w.s
theorem Plc.le_flat {w : Plc} (h : w.s = 0) {a b : Int} : w.le a b ↔ w.n * b ≤ a * w.m := by
  unfold Plc.le
  rw [h, Int.mul_zero]
  constructor
  · rintro (h | h)
    · omega
    · have := sq_nn (w.n * b - a * w.m)
      have : (w.n * b - a * w.m) * (w.n * b - a * w.m) = 0 := by omega
      rcases Int.mul_eq_zero.1 this with e | e <;> omega
  · intro h; left; omega
theorem ordR_le {x y : Plc} (hs : 0 ≤ x.s) : ordR x y ≤ 0 ↔ x.le y.n y.m := by
  unfold ordR Plc.le
  split
  · rw [cmpI_le]
    constructor
    · exact .inr
    · rintro (h | h)
      · have e : x.n * y.m - y.n * x.m = 0 := by omega
        rw [e]
        have := Int.mul_nonneg (sq_nn y.m) hs
        omega
      · exact h
  · constructor
    · intro _; left; omega
    · intro _; decide
theorem ordP_le {w : Plc} (hs : 0 ≤ w.s) {a b : Int} : ordP w ⟨a, 0, b⟩ ≤ 0 ↔ w.le a b := by
  unfold ordP
  by_cases h : w.s = 0
  · simp only [h, and_self, if_true]
    rw [cmpI_le, Plc.le_flat h]
  · simp only [h, false_and, if_false, if_true]
    exact ordR_le (y := ⟨a, 0, b⟩) hs
/-- A greater number. -/
theorem Plc.le_mono {w : Plc} (hm : 0 < w.m) {a b a' b' : Int} (hb : 0 < b) (hb' : 0 < b') (h : w.le a b) (k : a * b' ≤ a' * b) : w.le a' b' := by
  unfold Plc.le at *
  have key : (w.n * b' - a' * w.m) * b ≤ (w.n * b - a * w.m) * b' := by
    have := Int.mul_le_mul_of_nonneg_right k (Int.le_of_lt hm)
    grind
  generalize w.n * b' - a' * w.m = N' at *
  generalize w.n * b - a * w.m = N at *
  by_cases hN' : N' ≤ 0
  · exact .inl hN'
  right
  have hN : 0 < N := by
    by_cases e : 0 < N
    · exact e
    · have h1 := Int.mul_pos (by omega : 0 < N') hb
      have h2 := Int.mul_nonneg (by omega : 0 ≤ -N) (Int.le_of_lt hb')
      grind
  have h1 := h.resolve_left (by omega)
  have h2 := sq_le (Int.le_of_lt (Int.mul_pos (by omega : 0 < N') hb)) key
  have h3 := Int.mul_le_mul_of_nonneg_right h1 (sq_nn b')
  have h4 : (N' * N') * (b * b) ≤ (b' * b' * w.s) * (b * b) := by grind
  exact Int.le_of_mul_le_mul_right h4 (Int.mul_pos hb hb)
/-- (n - sqrt s) / m is less than a / b. -/
def Plc.lt (w : Plc) (a b : Int) : Prop := w.n * b - a * w.m < 0 ∨ (w.n * b - a * w.m) * (w.n * b - a * w.m) < b * b * w.s
theorem ordP_lt {w : Plc} (hs : 0 ≤ w.s) {a b : Int} (hb : 0 < b) : ordP w ⟨a, 0, b⟩ < 0 ↔ w.lt a b := by
  unfold ordP Plc.lt
  have nn := sq_nn (w.n * b - a * w.m)
  by_cases h : w.s = 0
  · simp only [h, and_self, if_true]
    rw [cmpI_lt, Int.mul_zero]
    constructor
    · intro h; left; omega
    · rintro (h | h) <;> omega
  · simp only [h, false_and, if_false, if_true]
    unfold ordR
    simp only
    split
    · rw [cmpI_lt]
      constructor
      · exact .inr
      · rintro (h | h)
        · omega
        · exact h
    · constructor
      · intro _; left; omega
      · intro _; decide
theorem Plc.lt_mono {w : Plc} (hm : 0 < w.m) {a b a' b' : Int} (hb : 0 < b) (hb' : 0 < b') (h : w.lt a b) (k : a * b' ≤ a' * b) : w.lt a' b' := by
  unfold Plc.lt at *
  have key : (w.n * b' - a' * w.m) * b ≤ (w.n * b - a * w.m) * b' := by
    have := Int.mul_le_mul_of_nonneg_right k (Int.le_of_lt hm)
    grind
  generalize w.n * b' - a' * w.m = N' at *
  generalize w.n * b - a * w.m = N at *
  by_cases hN' : N' < 0
  · exact .inl hN'
  right
  have h0 := Int.mul_nonneg (by omega : 0 ≤ N') (Int.le_of_lt hb)
  have hN : 0 ≤ N := by
    by_cases e : 0 ≤ N
    · exact e
    · have h2 := Int.mul_pos (by omega : 0 < -N) hb'
      grind
  have h1 := h.resolve_left (by omega)
  have h2 := sq_le h0 key
  have h3 := Int.mul_lt_mul_of_pos_right h1 (Int.mul_pos hb' hb')
  have h4 : (N' * N') * (b * b) < (b' * b' * w.s) * (b * b) := by grind
  exact Int.lt_of_mul_lt_mul_right h4 (sq_nn b)
theorem Plc.le_lt {w : Plc} (hm : 0 < w.m) {a b a' b' : Int} (hb : 0 < b) (hb' : 0 < b') (h : w.le a b) (k : a * b' < a' * b) : w.lt a' b' := by
  unfold Plc.le at h
  unfold Plc.lt
  have key : (w.n * b' - a' * w.m) * b < (w.n * b - a * w.m) * b' := by
    have := Int.mul_lt_mul_of_pos_right k hm
    grind
  generalize w.n * b' - a' * w.m = N' at *
  generalize w.n * b - a * w.m = N at *
  by_cases hN' : N' < 0
  · exact .inl hN'
  right
  have h0 := Int.mul_nonneg (by omega : 0 ≤ N') (Int.le_of_lt hb)
  have hN : 0 < N := by
    by_cases e : 0 < N
    · exact e
    · have h2 := Int.mul_nonneg (by omega : 0 ≤ -N) (Int.le_of_lt hb')
      grind
  have h1 := h.resolve_left (by omega)
  have h2 := sq_lt h0 key
  have h3 := Int.mul_le_mul_of_nonneg_right h1 (sq_nn b')
  have h4 : (N' * N') * (b * b) < (b' * b' * w.s) * (b * b) := by grind
  exact Int.lt_of_mul_lt_mul_right h4 (sq_nn b)
theorem Plc.lt_le {w : Plc} {a b : Int} (h : w.lt a b) : w.le a b := by
  unfold Plc.lt at h
  unfold Plc.le
  omega
theorem ordB_le {x y : Plc} : ordB x y ≤ 0 ↔ 0 ≤ x.s - y.s - (x.n - y.n) * (x.n - y.n) ∧ 4 * (x.n - y.n) * (x.n - y.n) * y.s ≤ (x.s - y.s - (x.n - y.n) * (x.n - y.n)) * (x.s - y.s - (x.n - y.n) * (x.n - y.n)) := by
  unfold ordB
  split
  · constructor
    · intro h; exact absurd h (by decide)
    · intro h; omega
  · rw [cmpI_le]; constructor
    · exact fun h => ⟨by omega, h⟩
    · exact fun h => h.2
theorem ordB_ge {x y : Plc} : 0 ≤ ordB x y ↔ x.s - y.s - (x.n - y.n) * (x.n - y.n) < 0 ∨ (x.s - y.s - (x.n - y.n) * (x.n - y.n)) * (x.s - y.s - (x.n - y.n) * (x.n - y.n)) ≤ 4 * (x.n - y.n) * (x.n - y.n) * y.s := by
  unfold ordB
  split
  · rename_i h
    exact ⟨fun _ => .inl h, fun _ => by decide⟩
  · rename_i h
    rw [cmpI_neg, Int.neg_nonneg, cmpI_le]
    exact ⟨.inr, fun k => k.resolve_left h⟩
/-- Both have roots; the first numerator is not less. -/
theorem rootA {N1 N2 D S1 S2 : Int} (e : N1 = N2 + D) (h2 : 0 ≤ S2) (hE : 0 ≤ S1 - S2 - D * D) (hq : 4 * D * D * S2 ≤ (S1 - S2 - D * D) * (S1 - S2 - D * D)) (h : N2 ≤ 0 ∨ N2 * N2 ≤ S2) : N1 ≤ 0 ∨ N1 * N1 ≤ S1 := by
  by_cases h1 : N1 ≤ 0
  · exact .inl h1
  right
  by_cases k : N2 ≤ 0
  · have := sq_le (by omega : 0 ≤ N1) (by omega : N1 ≤ D); omega
  have h := h.resolve_left k
  have : 2 * N2 * D ≤ S1 - S2 - D * D := by
    refine of_sq hE (Int.le_trans ?_ hq)
    have := Int.mul_le_mul_of_nonneg_left h (sq_nn (2 * D))
    grind
  have e2 : N1 * N1 = N2 * N2 + 2 * N2 * D + D * D := by subst e; grind
  omega
theorem rootB {N1 N2 D S1 S2 : Int} (hD : 0 < D) (e : N2 = N1 + D) (hq : S2 - S1 - D * D < 0 ∨ (S2 - S1 - D * D) * (S2 - S1 - D * D) ≤ 4 * D * D * S1) (h : N2 ≤ 0 ∨ N2 * N2 ≤ S2) : N1 ≤ 0 ∨ N1 * N1 ≤ S1 := by
  by_cases h1 : N1 ≤ 0
  · exact .inl h1
  right
  have h := h.resolve_left (by omega)
  have hp := Int.mul_pos (by omega : 0 < N1) hD
  have h5 : N1 * N1 + 2 * (N1 * D) ≤ (S2 - S1 - D * D) + S1 := by subst e; grind
  rcases hq with hq | hq
  · omega
  by_cases k : N1 * N1 ≤ S1
  · exact k
  exfalso
  have h6 : 2 * (N1 * D) < S2 - S1 - D * D := by omega
  have h7 := sq_lt (by omega) h6
  have h8 := Int.mul_lt_mul_of_pos_right (by omega : S1 < N1 * N1) (Int.mul_pos hD hD)
  grind
/-- What comes before it, is not greater. -/
theorem ord_trans {x y : Plc} (hxm : 0 < x.m) (hym : 0 < y.m) (hxs : 0 ≤ x.s) (hys : 0 ≤ y.s) (hm : x.s ≠ 0 → y.s ≠ 0 → x.m = y.m) {a b : Int} (hb : 0 < b) (h : ordP x y ≤ 0) (k : y.le a b) : x.le a b := by
  by_cases hx : x.s = 0 <;> by_cases hy : y.s = 0
  · unfold ordP at h
    simp only [hx, hy, and_self, if_true] at h
    rw [cmpI_le] at h
    rw [Plc.le_flat hy] at k
    rw [Plc.le_flat hx]
    have h1 := Int.mul_le_mul_of_nonneg_right h (Int.le_of_lt hb)
    have h2 := Int.mul_le_mul_of_nonneg_right k (Int.le_of_lt hxm)
    have h3 : x.n * b * y.m ≤ a * x.m * y.m := by grind
    exact Int.le_of_mul_le_mul_right h3 hym
  · unfold ordP at h
    simp only [hx, hy, and_false, if_false, if_true] at h
    rw [Plc.le_flat hx]
    have hW : 0 ≤ ordR y x := by omega
    unfold ordR at hW
    split at hW
    rotate_left
    · exact absurd hW (by decide)
    rename_i hW0
    rw [cmpI_neg, Int.neg_nonneg, cmpI_le] at hW
    by_cases e : x.n * b ≤ a * x.m
    · exact e
    exfalso
    unfold Plc.le at k
    have h1 := Int.mul_pos hym (by omega : 0 < x.n * b - a * x.m)
    have h2 : b * (y.n * x.m - x.n * y.m) < (y.n * b - a * y.m) * x.m := by grind
    have h3 := Int.mul_nonneg (Int.le_of_lt hb) hW0
    have h4 := sq_lt h3 h2
    rcases k with k | k
    · have := Int.mul_nonneg (by omega : 0 ≤ -(y.n * b - a * y.m)) (Int.le_of_lt hxm)
      have e2 : -(y.n * b - a * y.m) * x.m = - ((y.n * b - a * y.m) * x.m) := by grind
      omega
    · have h5 := Int.mul_le_mul_of_nonneg_right k (sq_nn x.m)
      have h6 := Int.mul_le_mul_of_nonneg_left hW (sq_nn b)
      grind
  · unfold ordP at h
    simp only [hx, hy, false_and, if_false, if_true] at h
    rw [ordR_le hxs] at h
    rw [Plc.le_flat hy] at k
    exact Plc.le_mono hxm hym hb h k
  · unfold ordP at h
    simp only [hx, hy, false_and, if_false] at h
    have hm := hm hx hy
    unfold Plc.le at k ⊢
    rw [hm]
    have hbb : 0 ≤ b * b := sq_nn b
    split at h
    · rename_i hn
      rw [Int.neg_nonpos_iff, ordB_ge] at h
      refine rootB (D := (y.n - x.n) * b) (Int.mul_pos (by omega) hb) (by grind) ?_ k
      rcases h with h | h
      · left
        have := Int.mul_pos (Int.mul_pos hb hb) (by omega : 0 < -(y.s - x.s - (y.n - x.n) * (y.n - x.n)))
        grind
      · right
        have := Int.mul_le_mul_of_nonneg_left h (Int.mul_nonneg hbb hbb)
        grind
    · rename_i hn
      rw [ordB_le] at h
      refine rootA (D := (x.n - y.n) * b) (by grind) (Int.mul_nonneg hbb hys) ?_ ?_ k
      · have := Int.mul_nonneg hbb h.1
        grind
      · have := Int.mul_le_mul_of_nonneg_left h.2 (Int.mul_nonneg hbb hbb)
        grind
end Go.Proofs.YtjdohgcolhpegaaGreatDoor
namespace Go.Proofs.YtjdohgcolhpegaaGreatDoor
open Go.RowKit

def Plc.cells (b : Plc) : List SV := [.v (.int .i64 b.n), .v (.int .i64 b.s), .v (.int .i64 b.m)]
def Plc.sv (b : Plc) : SV := .agg b.cells
def Plc.of (x : SV) : Plc := ⟨(hdS (x.al)).iv, (hdS (tlS (x.al))).iv, (hdS (tlS (tlS (x.al)))).iv⟩
def rdPlc : Rd Plc := ⟨.agg [.v (.int .i64 0), .v (.int .i64 0), .v (.int .i64 0)], Plc.of, Plc.sv, fun _ => rfl⟩

structure Wd where
  hi : Int
  lo : Int
def Wd.cells (b : Wd) : List SV := [.v (.int .u64 b.hi), .v (.int .u64 b.lo)]
def Wd.sv (b : Wd) : SV := .agg b.cells
def Wd.of (x : SV) : Wd := ⟨(hdS (x.al)).iv, (hdS (tlS (x.al))).iv⟩
def rdWd : Rd Wd := ⟨.agg [.v (.int .u64 0), .v (.int .u64 0)], Wd.of, Wd.sv, fun _ => rfl⟩


theorem wu (n : Int) : IntKind.u64.wrap n = n % 18446744073709551616 := rfl
theorem p32 : (2 : Int) ^ min (Int.toNat 32) IntKind.u64.bits = 4294967296 := rfl
theorem fd32 (a : Int) : a.fdiv 4294967296 = a / 4294967296 := Int.fdiv_eq_ediv_of_nonneg a (by omega)
theorem bits_and {A i : Nat} (h : A < 18446744073709551616) (hi : i < 64) : bitsI .and .u64 (A : Int) ((2 ^ i - 1 : Nat) : Int) = ((A % 2 ^ i : Nat) : Int) := by
  have hp : 2 ^ i - 1 < 18446744073709551616 := by
    have : 2 ^ i < 2 ^ 64 := Nat.pow_lt_pow_right (by omega) hi
    omega
  unfold bitsI
  have e1 : (BitVec.ofInt 64 (A : Int)).toNat = A := by
    rw [BitVec.ofInt_natCast, BitVec.toNat_ofNat, Nat.mod_eq_of_lt (by omega)]
  have e2 : (BitVec.ofInt 64 ((2 ^ i - 1 : Nat) : Int)).toNat = 2 ^ i - 1 := by
    rw [BitVec.ofInt_natCast, BitVec.toNat_ofNat, Nat.mod_eq_of_lt (by omega)]
  have e3 : (BitVec.ofInt 64 (A : Int) &&& BitVec.ofInt 64 ((2 ^ i - 1 : Nat) : Int)).toNat = A % 2 ^ i := by
    rw [BitVec.toNat_and, e1, e2, Nat.and_two_pow_sub_one_eq_mod]
  show IntKind.u64.wrap ((BitVec.ofInt 64 (A : Int) &&& BitVec.ofInt 64 ((2 ^ i - 1 : Nat) : Int)).toNat : Int) = _
  rw [e3, wu]
  have := Nat.mod_le A (2 ^ i)
  omega
theorem and32 {a : Int} (h0 : 0 ≤ a) (h : a < 18446744073709551616) : bitsI .and .u64 a 4294967295 = a % 4294967296 := by
  obtain ⟨A, rfl⟩ := Int.eq_ofNat_of_zero_le h0
  have := bits_and (A := A) (i := 32) (by omega) (by omega)
  simpa using this
def conNaN : Con cx := walkCon (Γ := []) (Fs := []) (d := 0) 119 Tryz.call119 (rds1 (rdI .i64)) (fun _ => []) (fun n => .bl false) (fun _ => noHow) [] (fun _ => rfl) follows Tryz.func119 (by kernel_rfl)
  fun n _ => by show (_ : Bool) = _; simp
def conNaNu : Con cx := walkCon (Γ := []) (Fs := []) (d := 0) 131 Tryz.call131 (rds1 (rdI .u64)) (fun _ => []) (fun n => .bl false) (fun _ => noHow) [] (fun _ => rfl) follows Tryz.func131 (by kernel_rfl)
  fun n _ => by show (_ : Bool) = _; simp
set_option maxHeartbeats 2000000 in
set_option maxRecDepth 8000 in
theorem Cmp_walk : ∀ a, conj ((fun _ => []) a) → evFn (C := cx) [conNaN] [] 0 noHow Tryz.f95 (((rds2 (rdI .i64) (rdI .i64))).enc a) fun v H _ => resOut ((fun a => .v (.int .i64 (cmpI a.1 a.2))) a) H v := by
  intro ⟨x, y⟩ _
  repeat' (first | (refine And.intro ?_ ?_) | (intro _))
  all_goals (simp only [rds1, rds2, rds3, rdI, hdS, tlS, SV.iv, constSV, decide_eq_true_eq, decide_eq_false_iff_not] at *)
  all_goals (refine Eq.trans (a := cmpI x y) ?_ rfl; unfold cmpI; split <;> (try split) <;> first | rfl | omega)
noncomputable def conCmp : Con cx := walkCon 95 Tryz.call95 (rds2 (rdI .i64) (rdI .i64)) (fun _ => []) (fun a => .v (.int .i64 (cmpI a.1 a.2))) (fun _ => noHow) [] (fun _ => rfl) follows Tryz.func95 (by kernel_rfl) Cmp_walk
set_option maxHeartbeats 2000000 in
set_option maxRecDepth 8000 in
theorem Cmpu_walk : ∀ a, conj ((fun _ => []) a) → evFn (C := cx) [conNaNu] [] 0 noHow Tryz.f121 (((rds2 (rdI .u64) (rdI .u64))).enc a) fun v H _ => resOut ((fun a => .v (.int .i64 (cmpI a.1 a.2))) a) H v := by
  intro ⟨x, y⟩ _
  repeat' (first | (refine And.intro ?_ ?_) | (intro _))
  all_goals (simp only [rds1, rds2, rds3, rdI, hdS, tlS, SV.iv, constSV, decide_eq_true_eq, decide_eq_false_iff_not] at *)
  all_goals (refine Eq.trans (a := cmpI x y) ?_ rfl; unfold cmpI; split <;> (try split) <;> first | rfl | omega)
noncomputable def conCmpu : Con cx := walkCon 121 Tryz.call121 (rds2 (rdI .u64) (rdI .u64)) (fun _ => []) (fun a => .v (.int .i64 (cmpI a.1 a.2))) (fun _ => noHow) [] (fun _ => rfl) follows Tryz.func121 (by kernel_rfl) Cmpu_walk
def Wd.num (w : Wd) : Int := w.hi * 18446744073709551616 + w.lo
def Wd.In (w : Wd) : Prop := (0 ≤ w.hi ∧ w.hi < 18446744073709551616) ∧ 0 ≤ w.lo ∧ w.lo < 18446744073709551616
def mulW (a b : Int) : Wd := ⟨a * b / 18446744073709551616, a * b % 18446744073709551616⟩
theorem mulW_in {a b : Int} (ha : 0 ≤ a ∧ a ≤ 9223372036854775807) (hb : 0 ≤ b ∧ b ≤ 9223372036854775807) : (mulW a b).In := by
  have h1 := Int.mul_nonneg ha.1 hb.1
  have h2 : a * b ≤ 9223372036854775807 * 9223372036854775807 := Int.mul_le_mul ha.2 hb.2 hb.1 (by omega)
  unfold mulW Wd.In
  simp only
  omega
theorem mulW_num (a b : Int) : (mulW a b).num = a * b := by
  unfold mulW Wd.num
  simp only
  omega
set_option maxHeartbeats 2000000 in
set_option maxRecDepth 8000 in
theorem Mul_walk : ∀ a, conj ((fun a => [0 ≤ a.1 ∧ a.1 ≤ 9223372036854775807, 0 ≤ a.2 ∧ a.2 ≤ 9223372036854775807]) a) → evFn (C := cx) [] [] 0 noHow Tryz.f98 (((rds2 (rdI .i64) (rdI .i64))).enc a) fun v H _ => resOut ((fun a => (mulW a.1 a.2).sv) a) H v := by
  intro ⟨n, m⟩ ⟨hn, hm⟩
  obtain ⟨hm0, hm⟩ : 0 ≤ m ∧ m ≤ 9223372036854775807 := hm
  obtain ⟨hn0, hn⟩ : 0 ≤ n ∧ n ≤ 9223372036854775807 := hn
  repeat' (first | (refine And.intro ?_ ?_) | (intro _))
  all_goals (try (refine Eq.trans ?_ rfl))
  all_goals (try simp only [rds1, rds2, rds3, rdWd, rdI, Wd.of, hdS, tlS, SV.al, SV.iv, constSV, wu, p32, fd32] at *)
  all_goals (try simp only [mulW])
  all_goals (rw [show n % 18446744073709551616 = n by omega, show m % 18446744073709551616 = m by omega])
  have ha : 0 ≤ n / 4294967296 ∧ n / 4294967296 < 2147483648 := by omega
  have hb : 0 ≤ n % 4294967296 ∧ n % 4294967296 < 4294967296 := by omega
  have hc : 0 ≤ m / 4294967296 ∧ m / 4294967296 < 2147483648 := by omega
  have hd : 0 ≤ m % 4294967296 ∧ m % 4294967296 < 4294967296 := by omega
  have e1 : n = n / 4294967296 * 4294967296 + n % 4294967296 := by omega
  have e2 : m = m / 4294967296 * 4294967296 + m % 4294967296 := by omega
  have hn' : n < 18446744073709551616 := by omega
  have hm' : m < 18446744073709551616 := by omega
  simp only [and32 hn0 hn', and32 hm0 hm']
  generalize n / 4294967296 = a at *
  generalize n % 4294967296 = b at *
  generalize m / 4294967296 = c at *
  generalize m % 4294967296 = d at *
  have hs : n * m = a * c * 18446744073709551616 + (a * d + b * c) * 4294967296 + b * d := by
    rw [e1, e2]; grind
  rw [hs]
  have p1 : 0 ≤ b * d ∧ b * d ≤ 4294967295 * 4294967295 := ⟨Int.mul_nonneg hb.1 hd.1, Int.mul_le_mul (by omega) (by omega) hd.1 (by omega)⟩
  have p2 : 0 ≤ a * d ∧ a * d ≤ 2147483647 * 4294967295 := ⟨Int.mul_nonneg ha.1 hd.1, Int.mul_le_mul (by omega) (by omega) hd.1 (by omega)⟩
  have p3 : 0 ≤ b * c ∧ b * c ≤ 4294967295 * 2147483647 := ⟨Int.mul_nonneg hb.1 hc.1, Int.mul_le_mul (by omega) (by omega) hc.1 (by omega)⟩
  have p4 : 0 ≤ a * c ∧ a * c ≤ 2147483647 * 2147483647 := ⟨Int.mul_nonneg ha.1 hc.1, Int.mul_le_mul (by omega) (by omega) hc.1 (by omega)⟩
  clear hs e1 e2
  generalize b * d = P at *
  generalize a * d = Q at *
  generalize b * c = R at *
  generalize a * c = S at *
  rw [show P % 18446744073709551616 = P by omega, show Q % 18446744073709551616 = Q by omega, show R % 18446744073709551616 = R by omega, show S % 18446744073709551616 = S by omega]
  rw [show (Q + P / 4294967296) % 18446744073709551616 = Q + P / 4294967296 by omega]
  have q1 : 0 ≤ Q + P / 4294967296 := by omega
  have q2 : Q + P / 4294967296 < 18446744073709551616 := by omega
  simp only [and32 q1 q2]
  omega
noncomputable def conMul : Con cx := walkCon 98 Tryz.call98 (rds2 (rdI .i64) (rdI .i64)) (fun a => [0 ≤ a.1 ∧ a.1 ≤ 9223372036854775807, 0 ≤ a.2 ∧ a.2 ≤ 9223372036854775807]) (fun a => (mulW a.1 a.2).sv) (fun _ => noHow) [] (fun _ => rfl) follows Tryz.func98 (by kernel_rfl) Mul_walk
end Go.Proofs.YtjdohgcolhpegaaGreatDoor
