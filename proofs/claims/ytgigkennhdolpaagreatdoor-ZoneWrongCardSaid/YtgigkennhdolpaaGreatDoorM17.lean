/- The seat's types and ground, for the symbolic executor with lists.. -/
import Derived.Test.YtgigkennhdolpaaGreatDoorM16
namespace Go.Proofs.YtgigkennhdolpaaGreatDoor
open Go.RowKit
def types:List (Nat×TI):=[(1,⟨1,8,.prim,[.v .nilFunc],false⟩),
 (2,⟨1,8,.int .i64,[.il .i64 0],false⟩),
 (3,⟨1,8,.int .i64,[.il .i64 0],false⟩),
 (4,⟨1,1,.bool,[.bl false],false⟩),
 (5,⟨1,1,.int .u8,[.il .u8 0],false⟩),
 (6,⟨1,1,.int .u8,[.il .u8 0],false⟩),
 (7,⟨4,24,.struct [(0,2),(1,3),(2,4),(3,6)],[.il .i64 0,.il .i64 0,.bl false,.il .u8 0],true⟩),
 (8,⟨4,24,.struct [(0,2),(1,3),(2,4),(3,6)],[.il .i64 0,.il .i64 0,.bl false,.il .u8 0],true⟩),
 (9,⟨1,16,.str,[.v (.string ⟨#[]⟩)],false⟩),
 (10,⟨1,16,.str,[.v (.string ⟨#[]⟩)],false⟩),
 (11,⟨1,16,.str,[.v (.string ⟨#[]⟩)],false⟩),
 (12,⟨1,8,.int .u64,[.il .u64 0],false⟩),
 (13,⟨2,24,.struct [(0,9),(1,12)],[.v (.string ⟨#[]⟩),.il .u64 0],false⟩),
 (14,⟨2,24,.struct [(0,9),(1,12)],[.v (.string ⟨#[]⟩),.il .u64 0],false⟩),
 (15,⟨1,8,.ptr,[.v (.pointer none)],false⟩),
 (16,⟨1,8,.ptr,[.v (.pointer none)],false⟩),
 (17,⟨1,8,.ptr,[.v (.pointer none)],false⟩),
 (18,⟨1,8,.struct [(0,17)],[.v (.pointer none)],false⟩),
 (19,⟨1,8,.struct [(0,17)],[.v (.pointer none)],false⟩),
 (20,⟨1,16,.prim,[.v .nilIface],false⟩),
 (21,⟨1,4,.int .i32,[.il .i32 0],false⟩),
 (22,⟨2,16,.struct [(0,3),(1,3)],[.il .i64 0,.il .i64 0],true⟩),
 (23,⟨2,16,.struct [(0,3),(1,3)],[.il .i64 0,.il .i64 0],true⟩),
 (24,⟨4,32,.struct [(0,23),(2,23)],[.il .i64 0,.il .i64 0,.il .i64 0,.il .i64 0],true⟩),
 (25,⟨4,32,.struct [(0,23),(2,23)],[.il .i64 0,.il .i64 0,.il .i64 0,.il .i64 0],true⟩),
 (26,⟨1,24,.sl 42,[.v (.slice none 0 0)],false⟩),
 (27,⟨2,32,.struct [(0,3),(1,26)],[.il .i64 0,.v (.slice none 0 0)],false⟩),
 (28,⟨2,32,.struct [(0,3),(1,26)],[.il .i64 0,.v (.slice none 0 0)],false⟩),
 (29,⟨1,24,.sl 116,[.v (.slice none 0 0)],false⟩),
 (30,⟨1,24,.sl 105,[.v (.slice none 0 0)],false⟩),
 (31,⟨1,8,.int .u64,[.il .u64 0],false⟩),
 (32,⟨4,64,.struct [(0,29),(1,30),(2,31),(3,3)],[.v (.slice none 0 0),.v (.slice none 0 0),.il .u64 0,.il .i64 0],false⟩),
 (33,⟨4,64,.struct [(0,29),(1,30),(2,31),(3,3)],[.v (.slice none 0 0),.v (.slice none 0 0),.il .u64 0,.il .i64 0],false⟩),
 (34,⟨1,24,.sl 94,[.v (.slice none 0 0)],false⟩),
 (35,⟨13,168,.struct [(0,25),(4,28),(6,33),(10,34),(11,23)],[.il .i64 0,.il .i64 0,.il .i64 0,.il .i64 0,.il .i64 0,.v (.slice none 0 0),.v (.slice none 0 0),.v (.slice none 0 0),.il .u64 0,.il .i64 0,.v (.slice none 0 0),.il .i64 0,.il .i64 0],false⟩),
 (36,⟨13,168,.struct [(0,25),(4,28),(6,33),(10,34),(11,23)],[.il .i64 0,.il .i64 0,.il .i64 0,.il .i64 0,.il .i64 0,.v (.slice none 0 0),.v (.slice none 0 0),.v (.slice none 0 0),.il .u64 0,.il .i64 0,.v (.slice none 0 0),.il .i64 0,.il .i64 0],false⟩),
 (37,⟨1,8,.prim,[.v .nilFunc],false⟩),
 (38,⟨1,8,.prim,[.v .nilFunc],false⟩),
 (39,⟨1,8,.prim,[.v .nilFunc],false⟩),
 (40,⟨1,24,.sl 46,[.v (.slice none 0 0)],false⟩),
 (41,⟨2,32,.struct [(0,3),(1,40)],[.il .i64 0,.v (.slice none 0 0)],false⟩),
 (42,⟨2,32,.struct [(0,3),(1,40)],[.il .i64 0,.v (.slice none 0 0)],false⟩),
 (43,⟨1,8,.ptr,[.v (.pointer none)],false⟩),
 (44,⟨4,32,.arr 4 3,[.il .i64 0,.il .i64 0,.il .i64 0,.il .i64 0],true⟩),
 (45,⟨5,40,.struct [(0,5),(1,44)],[.il .u8 0,.il .i64 0,.il .i64 0,.il .i64 0,.il .i64 0],true⟩),
 (46,⟨5,40,.struct [(0,5),(1,44)],[.il .u8 0,.il .i64 0,.il .i64 0,.il .i64 0,.il .i64 0],true⟩),
 (47,⟨1,24,.sl 121,[.v (.slice none 0 0)],false⟩),
 (48,⟨1,24,.sl 123,[.v (.slice none 0 0)],false⟩),
 (49,⟨1,24,.sl 3,[.v (.slice none 0 0)],false⟩),
 (50,⟨3,72,.struct [(0,47),(1,48),(2,49)],[.v (.slice none 0 0),.v (.slice none 0 0),.v (.slice none 0 0)],false⟩),
 (51,⟨3,72,.struct [(0,47),(1,48),(2,49)],[.v (.slice none 0 0),.v (.slice none 0 0),.v (.slice none 0 0)],false⟩),
 (52,⟨1,8,.int .i64,[.il .i64 0],false⟩),
 (54,⟨1,8,.prim,[.v .nilFunc],false⟩),
 (55,⟨1,8,.prim,[.v .nilFunc],false⟩),
 (56,⟨1,8,.prim,[.v .nilFunc],false⟩),
 (57,⟨1,24,.sl 74,[.v (.slice none 0 0)],false⟩),
 (58,⟨1,8,.prim,[.v .nilFunc],false⟩),
 (59,⟨1,4,.int .u32,[.il .u32 0],false⟩),
 (60,⟨1,8,.prim,[.v .nilFunc],false⟩),
 (62,⟨1,8,.prim,[.v .nilFunc],false⟩),
 (64,⟨1,8,.prim,[.v .nilFunc],false⟩),
 (65,⟨1,8,.prim,[.v .nilFunc],false⟩),
 (66,⟨1,8,.prim,[.v .nilFunc],false⟩),
 (68,⟨1,8,.prim,[.v .nilFunc],false⟩),
 (69,⟨1,8,.prim,[.v .nilFunc],false⟩),
 (70,⟨1,8,.prim,[.v .nilFunc],false⟩),
 (71,⟨1,8,.prim,[.v .nilFunc],false⟩),
 (72,⟨1,8,.prim,[.v .nilFunc],false⟩),
 (73,⟨10,80,.struct [(0,3),(1,3),(2,3),(3,23),(5,4),(6,23),(8,3),(9,3)],[.il .i64 0,.il .i64 0,.il .i64 0,.il .i64 0,.il .i64 0,.bl false,.il .i64 0,.il .i64 0,.il .i64 0,.il .i64 0],true⟩),
 (74,⟨10,80,.struct [(0,3),(1,3),(2,3),(3,23),(5,4),(6,23),(8,3),(9,3)],[.il .i64 0,.il .i64 0,.il .i64 0,.il .i64 0,.il .i64 0,.bl false,.il .i64 0,.il .i64 0,.il .i64 0,.il .i64 0],true⟩),
 (75,⟨1,8,.prim,[.v .nilFunc],false⟩),
 (76,⟨1,24,.sl 140,[.v (.slice none 0 0)],false⟩),
 (77,⟨4,64,.struct [(0,29),(1,76),(2,31),(3,3)],[.v (.slice none 0 0),.v (.slice none 0 0),.il .u64 0,.il .i64 0],false⟩),
 (78,⟨4,64,.struct [(0,29),(1,76),(2,31),(3,3)],[.v (.slice none 0 0),.v (.slice none 0 0),.il .u64 0,.il .i64 0],false⟩),
 (79,⟨13,168,.struct [(0,25),(4,28),(6,78),(10,34),(11,23)],[.il .i64 0,.il .i64 0,.il .i64 0,.il .i64 0,.il .i64 0,.v (.slice none 0 0),.v (.slice none 0 0),.v (.slice none 0 0),.il .u64 0,.il .i64 0,.v (.slice none 0 0),.il .i64 0,.il .i64 0],false⟩),
 (80,⟨13,168,.struct [(0,25),(4,28),(6,78),(10,34),(11,23)],[.il .i64 0,.il .i64 0,.il .i64 0,.il .i64 0,.il .i64 0,.v (.slice none 0 0),.v (.slice none 0 0),.v (.slice none 0 0),.il .u64 0,.il .i64 0,.v (.slice none 0 0),.il .i64 0,.il .i64 0],false⟩),
 (81,⟨1,8,.prim,[.v .nilFunc],false⟩),
 (83,⟨1,8,.prim,[.v .nilFunc],false⟩),
 (85,⟨1,8,.prim,[.v .nilFunc],false⟩),
 (87,⟨1,8,.prim,[.v .nilFunc],false⟩),
 (89,⟨1,8,.prim,[.v .nilFunc],false⟩),
 (90,⟨1,8,.prim,[.v .nilFunc],false⟩),
 (91,⟨1,8,.prim,[.v .nilFunc],false⟩),
 (92,⟨1,8,.prim,[.v .nilFunc],false⟩),
 (93,⟨3,24,.struct [(0,3),(1,3),(2,3)],[.il .i64 0,.il .i64 0,.il .i64 0],true⟩),
 (94,⟨3,24,.struct [(0,3),(1,3),(2,3)],[.il .i64 0,.il .i64 0,.il .i64 0],true⟩),
 (95,⟨1,8,.prim,[.v .nilFunc],false⟩),
 (96,⟨1,8,.prim,[.v .nilFunc],false⟩),
 (97,⟨1,8,.prim,[.v .nilFunc],false⟩),
 (98,⟨1,8,.prim,[.v .nilFunc],false⟩),
 (99,⟨1,8,.prim,[.v .nilFunc],false⟩),
 (100,⟨1,8,.prim,[.v .nilFunc],false⟩),
 (101,⟨1,8,.prim,[.v .nilFunc],false⟩),
 (102,⟨1,8,.prim,[.v .nilFunc],false⟩),
 (103,⟨1,24,.sl 153,[.v (.slice none 0 0)],false⟩),
 (104,⟨4,40,.struct [(0,103),(1,3),(2,59),(3,59)],[.v (.slice none 0 0),.il .i64 0,.il .u32 0,.il .u32 0],false⟩),
 (105,⟨4,40,.struct [(0,103),(1,3),(2,59),(3,59)],[.v (.slice none 0 0),.il .i64 0,.il .u32 0,.il .u32 0],false⟩),
 (107,⟨1,8,.prim,[.v .nilFunc],false⟩),
 (109,⟨1,8,.prim,[.v .nilFunc],false⟩),
 (110,⟨1,24,.sl 1,[.v (.slice none 0 0)],false⟩),
 (111,⟨1,8,.prim,[.v .nilFunc],false⟩),
 (112,⟨1,8,.prim,[.v .nilFunc],false⟩),
 (113,⟨1,8,.prim,[.v .nilFunc],false⟩),
 (114,⟨1,8,.prim,[.v .nilFunc],false⟩),
 (115,⟨4,32,.struct [(0,9),(1,59),(2,59),(3,3)],[.v (.string ⟨#[]⟩),.il .u32 0,.il .u32 0,.il .i64 0],false⟩),
 (116,⟨4,32,.struct [(0,9),(1,59),(2,59),(3,3)],[.v (.string ⟨#[]⟩),.il .u32 0,.il .u32 0,.il .i64 0],false⟩),
 (117,⟨1,8,.prim,[.v .nilFunc],false⟩),
 (118,⟨2,16,.struct [(0,3),(1,3)],[.il .i64 0,.il .i64 0],true⟩),
 (119,⟨2,16,.struct [(0,3),(1,3)],[.il .i64 0,.il .i64 0],true⟩),
 (120,⟨3,24,.struct [(0,119),(2,52)],[.il .i64 0,.il .i64 0,.il .i64 0],true⟩),
 (121,⟨3,24,.struct [(0,119),(2,52)],[.il .i64 0,.il .i64 0,.il .i64 0],true⟩),
 (122,⟨3,24,.struct [(0,3),(1,5),(2,3)],[.il .i64 0,.il .u8 0,.il .i64 0],true⟩),
 (123,⟨3,24,.struct [(0,3),(1,5),(2,3)],[.il .i64 0,.il .u8 0,.il .i64 0],true⟩),
 (124,⟨1,8,.prim,[.v .nilFunc],false⟩),
 (126,⟨1,8,.prim,[.v .nilFunc],false⟩),
 (127,⟨1,8,.prim,[.v .nilFunc],false⟩),
 (128,⟨1,8,.prim,[.v .nilFunc],false⟩),
 (129,⟨1,8,.prim,[.v .nilFunc],false⟩),
 (130,⟨1,8,.prim,[.v .nilFunc],false⟩),
 (131,⟨1,8,.mp 3 3,[.v (.map none)],false⟩),
 (132,⟨1,8,.prim,[.v .nilFunc],false⟩),
 (133,⟨1,8,.prim,[.v .nilFunc],false⟩),
 (134,⟨1,8,.prim,[.v .nilFunc],false⟩),
 (135,⟨1,8,.prim,[.v .nilFunc],false⟩),
 (136,⟨1,8,.prim,[.v .nilFunc],false⟩),
 (137,⟨1,8,.prim,[.v .nilFunc],false⟩),
 (138,⟨1,24,.sl 182,[.v (.slice none 0 0)],false⟩),
 (139,⟨4,40,.struct [(0,138),(1,3),(2,59),(3,59)],[.v (.slice none 0 0),.il .i64 0,.il .u32 0,.il .u32 0],false⟩),
 (140,⟨4,40,.struct [(0,138),(1,3),(2,59),(3,59)],[.v (.slice none 0 0),.il .i64 0,.il .u32 0,.il .u32 0],false⟩),
 (141,⟨1,8,.prim,[.v .nilFunc],false⟩),
 (143,⟨1,8,.prim,[.v .nilFunc],false⟩),
 (144,⟨1,8,.prim,[.v .nilFunc],false⟩),
 (145,⟨1,8,.prim,[.v .nilFunc],false⟩),
 (146,⟨1,8,.prim,[.v .nilFunc],false⟩),
 (148,⟨1,8,.prim,[.v .nilFunc],false⟩),
 (149,⟨1,8,.prim,[.v .nilFunc],false⟩),
 (150,⟨1,8,.prim,[.v .nilFunc],false⟩),
 (151,⟨1,8,.prim,[.v .nilFunc],false⟩),
 (152,⟨2,16,.struct [(0,5),(1,3)],[.il .u8 0,.il .i64 0],true⟩),
 (153,⟨2,16,.struct [(0,5),(1,3)],[.il .u8 0,.il .i64 0],true⟩),
 (154,⟨1,8,.prim,[.v .nilFunc],false⟩),
 (155,⟨1,8,.prim,[.v .nilFunc],false⟩),
 (156,⟨1,8,.prim,[.v .nilFunc],false⟩),
 (157,⟨1,8,.prim,[.v .nilFunc],false⟩),
 (158,⟨1,8,.prim,[.v .nilFunc],false⟩),
 (159,⟨1,24,.sl 209,[.v (.slice none 0 0)],false⟩),
 (160,⟨4,64,.struct [(0,159),(1,34),(2,23)],[.v (.slice none 0 0),.v (.slice none 0 0),.il .i64 0,.il .i64 0],false⟩),
 (161,⟨4,64,.struct [(0,159),(1,34),(2,23)],[.v (.slice none 0 0),.v (.slice none 0 0),.il .i64 0,.il .i64 0],false⟩),
 (163,⟨1,8,.prim,[.v .nilFunc],false⟩),
 (164,⟨1,8,.prim,[.v .nilFunc],false⟩),
 (165,⟨1,8,.prim,[.v .nilFunc],false⟩),
 (166,⟨1,8,.prim,[.v .nilFunc],false⟩),
 (167,⟨1,8,.prim,[.v .nilFunc],false⟩),
 (168,⟨1,8,.prim,[.v .nilFunc],false⟩),
 (169,⟨1,8,.prim,[.v .nilFunc],false⟩),
 (170,⟨1,8,.prim,[.v .nilFunc],false⟩),
 (171,⟨1,8,.prim,[.v .nilFunc],false⟩),
 (172,⟨1,8,.prim,[.v .nilFunc],false⟩),
 (173,⟨1,8,.prim,[.v .nilFunc],false⟩),
 (174,⟨1,8,.prim,[.v .nilFunc],false⟩),
 (175,⟨1,8,.prim,[.v .nilFunc],false⟩),
 (176,⟨1,8,.prim,[.v .nilFunc],false⟩),
 (177,⟨1,8,.prim,[.v .nilFunc],false⟩),
 (178,⟨1,8,.prim,[.v .nilFunc],false⟩),
 (179,⟨1,8,.prim,[.v .nilFunc],false⟩),
 (180,⟨1,8,.prim,[.v .nilFunc],false⟩),
 (181,⟨1,8,.prim,[.v .nilFunc],false⟩),
 (182,⟨2,16,.struct [(0,5),(1,3)],[.il .u8 0,.il .i64 0],true⟩),
 (183,⟨1,8,.prim,[.v .nilFunc],false⟩),
 (184,⟨1,8,.prim,[.v .nilFunc],false⟩),
 (185,⟨1,8,.prim,[.v .nilFunc],false⟩),
 (186,⟨1,8,.prim,[.v .nilFunc],false⟩),
 (187,⟨1,8,.prim,[.v .nilFunc],false⟩),
 (188,⟨1,8,.prim,[.v .nilFunc],false⟩),
 (189,⟨1,24,.sl 47,[.v (.slice none 0 0)],false⟩),
 (197,⟨2,16,.struct [(0,192),(0,196),(1,59)],[.il .u64 0,.il .u32 0],true⟩),
 (198,⟨2,16,.struct [(0,192),(0,196),(1,59)],[.il .u64 0,.il .u32 0],true⟩),
 (199,⟨1,8,.prim,[.v .nilFunc],false⟩),
 (201,⟨1,8,.prim,[.v .nilFunc],false⟩),
 (202,⟨1,8,.prim,[.v .nilFunc],false⟩),
 (203,⟨1,8,.prim,[.v .nilFunc],false⟩),
 (204,⟨1,8,.prim,[.v .nilFunc],false⟩),
 (205,⟨1,8,.prim,[.v .nilFunc],false⟩),
 (206,⟨1,8,.prim,[.v .nilFunc],false⟩),
 (207,⟨1,8,.prim,[.v .nilFunc],false⟩),
 (208,⟨9,64,.struct [(0,3),(1,23),(3,23),(5,3),(6,3),(7,4),(8,4)],[.il .i64 0,.il .i64 0,.il .i64 0,.il .i64 0,.il .i64 0,.il .i64 0,.il .i64 0,.bl false,.bl false],true⟩),
 (209,⟨9,64,.struct [(0,3),(1,23),(3,23),(5,3),(6,3),(7,4),(8,4)],[.il .i64 0,.il .i64 0,.il .i64 0,.il .i64 0,.il .i64 0,.il .i64 0,.il .i64 0,.bl false,.bl false],true⟩),
 (210,⟨1,8,.prim,[.v .nilFunc],false⟩),
 (211,⟨1,8,.ptr,[.v (.pointer none)],false⟩),
 (212,⟨2,16,.arr 2 211,[.v (.pointer none),.v (.pointer none)],false⟩),
 (213,⟨1,8,.prim,[.v .nilFunc],false⟩),
 (214,⟨1,8,.ptr,[.v (.pointer none)],false⟩),
 (215,⟨15,144,.struct [(0,161),(4,209),(13,3),(14,3)],[.v (.slice none 0 0),.v (.slice none 0 0),.il .i64 0,.il .i64 0,.il .i64 0,.il .i64 0,.il .i64 0,.il .i64 0,.il .i64 0,.il .i64 0,.il .i64 0,.bl false,.bl false,.il .i64 0,.il .i64 0],false⟩),
 (216,⟨15,144,.struct [(0,161),(4,209),(13,3),(14,3)],[.v (.slice none 0 0),.v (.slice none 0 0),.il .i64 0,.il .i64 0,.il .i64 0,.il .i64 0,.il .i64 0,.il .i64 0,.il .i64 0,.il .i64 0,.il .i64 0,.bl false,.bl false,.il .i64 0,.il .i64 0],false⟩),
 (218,⟨1,8,.prim,[.v .nilFunc],false⟩),
 (219,⟨1,8,.prim,[.v .nilFunc],false⟩),
 (220,⟨2,2,.arr 2 5,[.il .u8 0,.il .u8 0],true⟩),
 (222,⟨1,8,.prim,[.v .nilFunc],false⟩),
 (223,⟨1,8,.prim,[.v .nilFunc],false⟩),
 (224,⟨1,8,.prim,[.v .nilFunc],false⟩),
 (225,⟨1,8,.prim,[.v .nilFunc],false⟩),
 (226,⟨1,8,.prim,[.v .nilFunc],false⟩),
 (227,⟨1,8,.mp 9 3,[.v (.map none)],false⟩),
 (229,⟨1,8,.prim,[.v .nilFunc],false⟩),
 (230,⟨1,8,.prim,[.v .nilFunc],false⟩),
 (231,⟨1,8,.prim,[.v .nilFunc],false⟩),
 (232,⟨2,16,.struct [(0,3),(1,3)],[.il .i64 0,.il .i64 0],true⟩),
 (233,⟨2,16,.struct [(0,3),(1,3)],[.il .i64 0,.il .i64 0],true⟩),
 (234,⟨32,256,.arr 16 233,[.il .i64 0,.il .i64 0,.il .i64 0,.il .i64 0,.il .i64 0,.il .i64 0,.il .i64 0,.il .i64 0,.il .i64 0,.il .i64 0,.il .i64 0,.il .i64 0,.il .i64 0,.il .i64 0,.il .i64 0,.il .i64 0,.il .i64 0,.il .i64 0,.il .i64 0,.il .i64 0,.il .i64 0,.il .i64 0,.il .i64 0,.il .i64 0,.il .i64 0,.il .i64 0,.il .i64 0,.il .i64 0,.il .i64 0,.il .i64 0,.il .i64 0,.il .i64 0],true⟩),
 (235,⟨1,8,.prim,[.v .nilFunc],false⟩),
 (236,⟨1,8,.prim,[.v .nilFunc],false⟩),
 (237,⟨1,8,.prim,[.v .nilFunc],false⟩),
 (238,⟨1,8,.prim,[.v .nilFunc],false⟩),
 (239,⟨1,8,.prim,[.v .nilFunc],false⟩),
 (240,⟨1,8,.int .u64,[.il .u64 0],false⟩),
 (241,⟨1,8,.prim,[.v .nilFunc],false⟩),
 (242,⟨2,16,.struct [(0,31),(1,31)],[.il .u64 0,.il .u64 0],true⟩),
 (243,⟨2,16,.struct [(0,31),(1,31)],[.il .u64 0,.il .u64 0],true⟩),
 (244,⟨3,24,.struct [(0,243),(2,4)],[.il .u64 0,.il .u64 0,.bl false],true⟩),
 (245,⟨3,24,.struct [(0,243),(2,4)],[.il .u64 0,.il .u64 0,.bl false],true⟩),
 (247,⟨1,8,.prim,[.v .nilFunc],false⟩),
 (248,⟨1,8,.prim,[.v .nilFunc],false⟩),
 (249,⟨1,8,.prim,[.v .nilFunc],false⟩),
 (250,⟨1,8,.prim,[.v .nilFunc],false⟩),
 (251,⟨1,8,.prim,[.v .nilFunc],false⟩),
 (252,⟨1,8,.prim,[.v .nilFunc],false⟩),
 (253,⟨2,16,.struct [(0,3),(1,3)],[.il .i64 0,.il .i64 0],true⟩),
 (254,⟨2,16,.struct [(0,3),(1,3)],[.il .i64 0,.il .i64 0],true⟩),
 (255,⟨8,64,.arr 4 254,[.il .i64 0,.il .i64 0,.il .i64 0,.il .i64 0,.il .i64 0,.il .i64 0,.il .i64 0,.il .i64 0],true⟩),
 (256,⟨88,704,.arr 11 255,[.il .i64 0,.il .i64 0,.il .i64 0,.il .i64 0,.il .i64 0,.il .i64 0,.il .i64 0,.il .i64 0,.il .i64 0,.il .i64 0,.il .i64 0,.il .i64 0,.il .i64 0,.il .i64 0,.il .i64 0,.il .i64 0,.il .i64 0,.il .i64 0,.il .i64 0,.il .i64 0,.il .i64 0,.il .i64 0,.il .i64 0,.il .i64 0,.il .i64 0,.il .i64 0,.il .i64 0,.il .i64 0,.il .i64 0,.il .i64 0,.il .i64 0,.il .i64 0,.il .i64 0,.il .i64 0,.il .i64 0,.il .i64 0,.il .i64 0,.il .i64 0,.il .i64 0,.il .i64 0,.il .i64 0,.il .i64 0,.il .i64 0,.il .i64 0,.il .i64 0,.il .i64 0,.il .i64 0,.il .i64 0,.il .i64 0,.il .i64 0,.il .i64 0,.il .i64 0,.il .i64 0,.il .i64 0,.il .i64 0,.il .i64 0,.il .i64 0,.il .i64 0,.il .i64 0,.il .i64 0,.il .i64 0,.il .i64 0,.il .i64 0,.il .i64 0,.il .i64 0,.il .i64 0,.il .i64 0,.il .i64 0,.il .i64 0,.il .i64 0,.il .i64 0,.il .i64 0,.il .i64 0,.il .i64 0,.il .i64 0,.il .i64 0,.il .i64 0,.il .i64 0,.il .i64 0,.il .i64 0,.il .i64 0,.il .i64 0,.il .i64 0,.il .i64 0,.il .i64 0,.il .i64 0,.il .i64 0,.il .i64 0],true⟩),
 (257,⟨1,8,.prim,[.v .nilFunc],false⟩),
 (258,⟨1,8,.prim,[.v .nilFunc],false⟩),
 (259,⟨1,8,.prim,[.v .nilFunc],false⟩),
 (260,⟨1,8,.ptr,[.v (.pointer none)],false⟩),
 (261,⟨1,8,.prim,[.v .nilFunc],false⟩),
 (263,⟨1,8,.int .i64,[.il .i64 0],false⟩),
 (264,⟨1,8,.prim,[.v .nilFunc],false⟩),
 (265,⟨1,8,.prim,[.v .nilFunc],false⟩),
 (266,⟨1,8,.prim,[.v .nilFunc],false⟩),
 (267,⟨1,8,.ptr,[.v (.pointer none)],false⟩),
 (268,⟨1,8,.prim,[.v .nilFunc],false⟩),
 (269,⟨1,8,.prim,[.v .nilFunc],false⟩),
 (270,⟨1,8,.prim,[.v .nilFunc],false⟩),
 (271,⟨1,8,.prim,[.v .nilFunc],false⟩),
 (272,⟨1,8,.prim,[.v .nilFunc],false⟩),
 (274,⟨1,8,.prim,[.v .nilFunc],false⟩),
 (275,⟨1,8,.prim,[.v .nilFunc],false⟩),
 (276,⟨1,8,.prim,[.v .nilFunc],false⟩),
 (277,⟨1,8,.prim,[.v .nilFunc],false⟩),
 (278,⟨1,8,.prim,[.v .nilFunc],false⟩),
 (279,⟨1,8,.prim,[.v .nilFunc],false⟩),
 (280,⟨1,8,.prim,[.v .nilFunc],false⟩),
 (281,⟨1,8,.prim,[.v .nilFunc],false⟩),
 (282,⟨1,8,.prim,[.v .nilFunc],false⟩),
 (283,⟨1,8,.prim,[.v .nilFunc],false⟩),
 (284,⟨1,8,.prim,[.v .nilFunc],false⟩),
 (285,⟨1,8,.prim,[.v .nilFunc],false⟩),
 (286,⟨1,8,.prim,[.v .nilFunc],false⟩),
 (287,⟨1,8,.prim,[.v .nilFunc],false⟩),
 (288,⟨1,8,.prim,[.v .nilFunc],false⟩),
 (289,⟨1,8,.prim,[.v .nilFunc],false⟩),
 (290,⟨1,8,.prim,[.v .nilFunc],false⟩),
 (291,⟨1,8,.prim,[.v .nilFunc],false⟩),
 (292,⟨1,8,.prim,[.v .nilFunc],false⟩),
 (293,⟨1,8,.prim,[.v .nilFunc],false⟩),
 (294,⟨1,8,.prim,[.v .nilFunc],false⟩),
 (295,⟨1,8,.prim,[.v .nilFunc],false⟩),
 (296,⟨2,8,.arr 2 59,[.il .u32 0,.il .u32 0],true⟩),
 (297,⟨1,24,.sl 5,[.v (.slice none 0 0)],false⟩),
 (298,⟨1,8,.prim,[.v .nilFunc],false⟩),
 (299,⟨1,8,.prim,[.v .nilFunc],false⟩),
 (300,⟨1,8,.prim,[.v .nilFunc],false⟩),
 (301,⟨1,8,.prim,[.v .nilFunc],false⟩),
 (302,⟨1,8,.prim,[.v .nilFunc],false⟩),
 (303,⟨1,8,.prim,[.v .nilFunc],false⟩),
 (305,⟨1,8,.prim,[.v .nilFunc],false⟩),
 (306,⟨1,8,.prim,[.v .nilFunc],false⟩),
 (307,⟨1,24,.sl 245,[.v (.slice none 0 0)],false⟩),
 (308,⟨1,8,.prim,[.v .nilFunc],false⟩),
 (309,⟨1,8,.prim,[.v .nilFunc],false⟩),
 (310,⟨1,8,.prim,[.v .nilFunc],false⟩),
 (311,⟨1,8,.prim,[.v .nilFunc],false⟩),
 (312,⟨1,8,.prim,[.v .nilFunc],false⟩),
 (313,⟨1,8,.ptr,[.v (.pointer none)],false⟩),
 (314,⟨1,8,.prim,[.v .nilFunc],false⟩),
 (315,⟨1,8,.ptr,[.v (.pointer none)],false⟩),
 (316,⟨1,8,.prim,[.v .nilFunc],false⟩),
 (317,⟨1,8,.prim,[.v .nilFunc],false⟩),
 (319,⟨1,8,.prim,[.v .nilFunc],false⟩),
 (320,⟨1,8,.prim,[.v .nilFunc],false⟩),
 (321,⟨3,24,.struct [(0,31),(1,3),(2,31)],[.il .u64 0,.il .i64 0,.il .u64 0],true⟩),
 (322,⟨3,24,.struct [(0,31),(1,3),(2,31)],[.il .u64 0,.il .i64 0,.il .u64 0],true⟩),
 (323,⟨1,8,.prim,[.v .nilFunc],false⟩),
 (324,⟨1,8,.prim,[.v .nilFunc],false⟩),
 (325,⟨1,8,.int .i64,[.il .i64 0],false⟩),
 (327,⟨1,8,.prim,[.v .nilFunc],false⟩),
 (328,⟨1,8,.prim,[.v .nilFunc],false⟩),
 (329,⟨1,8,.prim,[.v .nilFunc],false⟩),
 (330,⟨1,8,.prim,[.v .nilFunc],false⟩),
 (331,⟨1,8,.prim,[.v .nilFunc],false⟩),
 (332,⟨1,8,.prim,[.v .nilFunc],false⟩),
 (333,⟨1,8,.prim,[.v .nilFunc],false⟩),
 (334,⟨1,8,.prim,[.v .nilFunc],false⟩),
 (335,⟨1,8,.prim,[.v .nilFunc],false⟩),
 (336,⟨1,8,.prim,[.v .nilFunc],false⟩),
 (337,⟨1,8,.prim,[.v .nilFunc],false⟩),
 (338,⟨1,8,.ptr,[.v (.pointer none)],false⟩),
 (339,⟨1,8,.int .u64,[.il .u64 0],false⟩),
 (340,⟨1,8,.prim,[.v .nilFunc],false⟩),
 (341,⟨15,176,.struct [(0,105),(4,42),(6,322),(9,3),(10,3),(11,49),(12,49),(13,339),(14,3)],[.v (.slice none 0 0),.il .i64 0,.il .u32 0,.il .u32 0,.il .i64 0,.v (.slice none 0 0),.il .u64 0,.il .i64 0,.il .u64 0,.il .i64 0,.il .i64 0,.v (.slice none 0 0),.v (.slice none 0 0),.il .u64 0,.il .i64 0],false⟩),
 (342,⟨15,176,.struct [(0,105),(4,42),(6,322),(9,3),(10,3),(11,49),(12,49),(13,339),(14,3)],[.v (.slice none 0 0),.il .i64 0,.il .u32 0,.il .u32 0,.il .i64 0,.v (.slice none 0 0),.il .u64 0,.il .i64 0,.il .u64 0,.il .i64 0,.il .i64 0,.v (.slice none 0 0),.v (.slice none 0 0),.il .u64 0,.il .i64 0],false⟩),
 (343,⟨1,8,.prim,[.v .nilFunc],false⟩),
 (344,⟨1,8,.prim,[.v .nilFunc],false⟩),
 (345,⟨1,8,.prim,[.v .nilFunc],false⟩),
 (346,⟨1,8,.prim,[.v .nilFunc],false⟩),
 (347,⟨1,8,.prim,[.v .nilFunc],false⟩),
 (348,⟨1,8,.int .u64,[.il .u64 0],false⟩),
 (349,⟨1,8,.prim,[.v .nilFunc],false⟩),
 (350,⟨1,8,.prim,[.v .nilFunc],false⟩),
 (351,⟨1,8,.prim,[.v .nilFunc],false⟩),
 (352,⟨1,8,.prim,[.v .nilFunc],false⟩),
 (353,⟨1,24,.sl 31,[.v (.slice none 0 0)],false⟩),
 (355,⟨1,8,.mp 5 358,[.v (.map none)],false⟩),
 (356,⟨1,8,.prim,[.v .nilFunc],false⟩),
 (357,⟨1,8,.prim,[.v .nilFunc],false⟩),
 (358,⟨1,8,.prim,[.v .nilFunc],false⟩),
 (359,⟨1,8,.prim,[.v .nilFunc],false⟩),
 (360,⟨1,8,.ptr,[.v (.pointer none)],false⟩),
 (361,⟨1,8,.prim,[.v .nilFunc],false⟩),
 (362,⟨1,8,.prim,[.v .nilFunc],false⟩),
 (363,⟨1,8,.prim,[.v .nilFunc],false⟩),
 (364,⟨2,16,.arr 2 363,[.v .nilFunc,.v .nilFunc],false⟩),
 (365,⟨4,32,.arr 2 364,[.v .nilFunc,.v .nilFunc,.v .nilFunc,.v .nilFunc],false⟩),
 (366,⟨1,8,.prim,[.v .nilFunc],false⟩),
 (368,⟨1,8,.prim,[.v .nilFunc],false⟩),
 (370,⟨1,8,.prim,[.v .nilFunc],false⟩),
 (371,⟨1,8,.prim,[.v .nilFunc],false⟩),
 (372,⟨2,16,.struct [(0,339),(1,3)],[.il .u64 0,.il .i64 0],true⟩),
 (373,⟨2,16,.struct [(0,339),(1,3)],[.il .u64 0,.il .i64 0],true⟩),
 (374,⟨1,8,.ptr,[.v (.pointer none)],false⟩),
 (375,⟨1,8,.prim,[.v .nilFunc],false⟩),
 (377,⟨1,8,.prim,[.v .nilFunc],false⟩),
 (378,⟨1,8,.prim,[.v .nilFunc],false⟩),
 (379,⟨4,40,.struct [(0,17),(1,17),(2,17),(3,9)],[.v (.pointer none),.v (.pointer none),.v (.pointer none),.v (.string ⟨#[]⟩)],false⟩),
 (380,⟨4,40,.struct [(0,17),(1,17),(2,17),(3,9)],[.v (.pointer none),.v (.pointer none),.v (.pointer none),.v (.string ⟨#[]⟩)],false⟩),
 (384,⟨1,1,.int .u8,[.il .u8 0],false⟩),
 (385,⟨1,1,.int .u8,[.il .u8 0],false⟩),
 (386,⟨1,8,.prim,[.v .nilFunc],false⟩),
 (387,⟨1,8,.ptr,[.v (.pointer none)],false⟩),
 (388,⟨1,4,.int .i32,[.il .i32 0],false⟩),
 (389,⟨1,4,.int .i32,[.il .i32 0],false⟩),
 (390,⟨11,48,.struct [(0,12),(1,12),(2,59),(3,384),(4,5),(5,5),(6,385),(7,386),(8,387),(9,388),(10,389)],[.il .u64 0,.il .u64 0,.il .u32 0,.il .u8 0,.il .u8 0,.il .u8 0,.il .u8 0,.v .nilFunc,.v (.pointer none),.il .i32 0,.il .i32 0],false⟩),
 (391,⟨11,48,.struct [(0,12),(1,12),(2,59),(3,384),(4,5),(5,5),(6,385),(7,386),(8,387),(9,388),(10,389)],[.il .u64 0,.il .u64 0,.il .u32 0,.il .u8 0,.il .u8 0,.il .u8 0,.il .u8 0,.v .nilFunc,.v (.pointer none),.il .i32 0,.il .i32 0],false⟩)]
set_option maxRecDepth 100000 in
theorem xz:types.all (Ns Tryz.prog)=true:=by kernel_rfl
def ground:List (Nat×(List SV×TypeId)):=[(0,([.il .i64 0,.il .i64 0,.il .i64 0,.il .i64 0,.il .i64 0,.il .i64 0,.il .i64 0,.il .i64 0,.il .i64 (-1048576),.il .i64 1048576,.il .i64 (-1048576),.il .i64 1048576,.il .i64 0,.il .i64 0,.il .i64 0,.il .i64 0,.il .i64 (-4096),.il .i64 4096,.il .i64 (-4096),.il .i64 4096,.il .i64 0,.il .i64 0,.il .i64 0,.il .i64 0,.il .i64 1,.il .i64 16384,.il .i64 1,.il .i64 16384,.il .i64 0,.il .i64 1,.il .i64 0,.il .i64 1,.il .i64 1,.il .i64 8,.il .i64 0,.il .i64 0,.il .i64 0,.il .i64 0,.il .i64 0,.il .i64 0,.il .i64 0,.il .i64 510,.il .i64 0,.il .i64 0,.il .i64 0,.il .i64 0,.il .i64 0,.il .i64 0,.il .i64 0,.il .i64 15,.il .i64 0,.il .i64 0,.il .i64 0,.il .i64 0,.il .i64 0,.il .i64 0,.il .i64 (-2147483648),.il .i64 2147483647,.il .i64 (-2147483648),.il .i64 2147483647,.il .i64 (-2147483648),.il .i64 2147483647,.il .i64 (-2147483648),.il .i64 2147483647,.il .i64 0,.il .i64 1048576,.il .i64 0,.il .i64 1048576,.il .i64 0,.il .i64 0,.il .i64 0,.il .i64 0,.il .i64 0,.il .i64 2147483647,.il .i64 0,.il .i64 2147483647,.il .i64 0,.il .i64 2147483647,.il .i64 0,.il .i64 2147483647,.il .i64 (-2147483648),.il .i64 2147483647,.il .i64 (-2147483648),.il .i64 2147483647,.il .i64 (-2147483648),.il .i64 2147483647,.il .i64 (-2147483648),.il .i64 2147483647],256)),(1,([.v (.func (.func 302) #[] #[]),.v (.func (.func 303) #[] #[]),.v (.func (.func 304) #[] #[]),.v (.func (.func 305) #[] #[])],365))]
def cx:Cx Tryz.prog:={T:=types,G:=ground,gm:=2,hT:=xz}
theorem follows:cx.P.follows .mixedOrders=true:=by kernel_rfl
def sl(t:Nat)(v:SV):Nat×Slot:=(t,⟨0,0,[],v⟩)
def UP(x:Int):Prop:=-9223372036854775808<=x∧x<=9223372036854775807
def i64(n:Int):SV:=.v (.int .i64 n)
structure Vec where
 x:Int
 y:Int
def Vec.cells(b:Vec):List SV:=[.v (.int .i64 b.x),.v (.int .i64 b.y)]
def Vec.sv(b:Vec):SV:=.agg b.cells
def Vec.of(x:SV):Vec:=⟨(VL (x.al)).iv,(VL (Vx (x.al))).iv⟩
def eI:Rd Vec:=⟨.agg [.v (.int .i64 0),.v (.int .i64 0)],Vec.of,Vec.sv,λ_=>rfl⟩
structure Body where
 iD:Int
 posX:Int
 posY:Int
 velX:Int
 velY:Int
 w:Int
 h:Int
 round:Bool
 fixed:Bool
def Body.cells(b:Body):List SV:=[.v (.int .i64 b.iD),.v (.int .i64 b.posX),.v (.int .i64 b.posY),.v (.int .i64 b.velX),.v (.int .i64 b.velY),.v (.int .i64 b.w),.v (.int .i64 b.h),.v (.bool b.round),.v (.bool b.fixed)]
def Body.sv(b:Body):SV:=.agg b.cells
def Body.of(x:SV):Body:=⟨(VL (x.al)).iv,(VL (Vx (x.al))).iv,(VL (Vx (Vx (x.al)))).iv,(VL (Vx (Vx (Vx (x.al))))).iv,(VL (Vx (Vx (Vx (Vx (x.al)))))).iv,(VL (Vx (Vx (Vx (Vx (Vx (x.al))))))).iv,(VL (Vx (Vx (Vx (Vx (Vx (Vx (x.al)))))))).iv,(VL (Vx (Vx (Vx (Vx (Vx (Vx (Vx (x.al))))))))).bv,(VL (Vx (Vx (Vx (Vx (Vx (Vx (Vx (Vx (x.al)))))))))).bv⟩
def oX:Rd Body:=⟨.agg [.v (.int .i64 0),.v (.int .i64 0),.v (.int .i64 0),.v (.int .i64 0),.v (.int .i64 0),.v (.int .i64 0),.v (.int .i64 0),.v (.bool false),.v (.bool false)],Body.of,Body.sv,λ_=>rfl⟩
structure bd where
 kind:Int
 v0:Int
 v1:Int
 v2:Int
 v3:Int
def bd.cells(b:bd):List SV:=[.v (.int .u8 b.kind),.v (.int .i64 b.v0),.v (.int .i64 b.v1),.v (.int .i64 b.v2),.v (.int .i64 b.v3)]
def bd.sv(b:bd):SV:=.agg b.cells
def bd.of(x:SV):bd:=⟨(VL x.al).iv,(VL (Vx x.al)).iv,(VL (Vx (Vx x.al))).iv,(VL (Vx (Vx (Vx x.al)))).iv,(VL (Vx (Vx (Vx (Vx x.al))))).iv⟩
def HY:List SV:=[.v (.int .u8 0),.v (.int .i64 0),.v (.int .i64 0),.v (.int .i64 0),.v (.int .i64 0)]
def gV:Rd bd:=⟨.agg HY,bd.of,bd.sv,λ_=>rfl⟩
structure WL where
 n:Nat
 c:Nat->bd
def WL.sv(l:WL):SV:=.rs 5 l.n λi=>(l.c i).cells
def WL.of(x:SV):WL:=⟨x.rn,λi=>bd.of (.agg (x.rf i))⟩
def jc:Rd WL:=⟨.rs 5 0 λ_=>HY,WL.of,WL.sv,λ_=>rfl⟩
structure U3 where
 iD:Int
 l:WL
def U3.cells(b:U3):List SV:=[.v (.int .i64 b.iD),b.l.sv]
def U3.sv(b:U3):SV:=.agg b.cells
def U3.of(x:SV):U3:=⟨(VL x.al).iv,WL.of (VL (Vx x.al))⟩
def HX:List SV:=[.v (.int .i64 0),.rs 5 0 λ_=>HY]
def g8:Rd U3:=⟨.agg HX,U3.of,U3.sv,λ_=>rfl⟩
structure WU where
 n:Nat
 e:Nat->U3
def WU.sv(l:WU):SV:=.rs 2 l.n λi=>(l.e i).cells
def WU.of(x:SV):WU:=⟨x.rn,λi=>U3.of (.agg (x.rf i))⟩
def Cz:Rd WU:=⟨.rs 2 0 λ_=>HX,WU.of,WU.sv,λ_=>rfl⟩
structure U8 where
 tick:Int
 l:WU
def U8.cells(b:U8):List SV:=[.v (.int .i64 b.tick),b.l.sv]
def U8.sv(b:U8):SV:=.agg b.cells
def U8.of(x:SV):U8:=⟨(VL x.al).iv,WU.of (VL (Vx x.al))⟩
def c8:Rd U8:=⟨.agg [.v (.int .i64 0),.rs 2 0 λ_=>HX],U8.of,U8.sv,λ_=>rfl⟩
def tS:Nat->List SV->List SV
 | 0,l=>l
 | k+1,l=>tS k (Vx l)
def aS(k:Nat)(x:SV):SV:=VL (tS k x.al)
def Pp:SV:=.rs 2 0 λ_=>HX
structure j7 where
 a:Int
 b:Int
 len:Int
def j7.cells(b:j7):List SV:=[.v (.int .i64 b.a),.v (.int .i64 b.b),.v (.int .i64 b.len)]
def j7.sv(b:j7):SV:=.agg b.cells
def j7.of(x:SV):j7:=⟨(aS 0 x).iv,(aS 1 x).iv,(aS 2 x).iv⟩
def xZ:List SV:=[.v (.int .i64 0),.v (.int .i64 0),.v (.int .i64 0)]
def HG:Rd j7:=⟨.agg xZ,j7.of,j7.sv,λ_=>rfl⟩
structure Yt where
 n:Nat
 e:Nat->j7
def Yt.sv(l:Yt):SV:=.rs 3 l.n λi=>(l.e i).cells
def Yt.of(x:SV):Yt:=⟨x.rn,λi=>j7.of (.agg (x.rf i))⟩
def vU:SV:=.rs 3 0 λ_=>xZ
def mX:Rd Yt:=⟨vU,Yt.of,Yt.sv,λ_=>rfl⟩
structure Inp where
 client:Int
 seq:Int
 tick:Int
 moveX:Int
 moveY:Int
 fire:Bool
 aimX:Int
 aimY:Int
 seen:Int
 part:Int
def Inp.cells(b:Inp):List SV:=[.v (.int .i64 b.client),.v (.int .i64 b.seq),.v (.int .i64 b.tick),.v (.int .i64 b.moveX),.v (.int .i64 b.moveY),.v (.bool b.fire),.v (.int .i64 b.aimX),.v (.int .i64 b.aimY),.v (.int .i64 b.seen),.v (.int .i64 b.part)]
def Inp.sv(b:Inp):SV:=.agg b.cells
def Inp.of(x:SV):Inp:=⟨(aS 0 x).iv,(aS 1 x).iv,(aS 2 x).iv,(aS 3 x).iv,(aS 4 x).iv,(aS 5 x).bv,(aS 6 x).iv,(aS 7 x).iv,(aS 8 x).iv,(aS 9 x).iv⟩
def CJ:List SV:=[.v (.int .i64 0),.v (.int .i64 0),.v (.int .i64 0),.v (.int .i64 0),.v (.int .i64 0),.v (.bool false),.v (.int .i64 0),.v (.int .i64 0),.v (.int .i64 0),.v (.int .i64 0)]
def Ol:Rd Inp:=⟨.agg CJ,Inp.of,Inp.sv,λ_=>rfl⟩
structure bX where
 n:Nat
 e:Nat->Inp
def bX.sv(l:bX):SV:=.rs 10 l.n λi=>(l.e i).cells
def bX.of(x:SV):bX:=⟨x.rn,λi=>Inp.of (.agg (x.rf i))⟩
def LG:SV:=.rs 10 0 λ_=>CJ
def gU:Rd bX:=⟨LG,bX.of,bX.sv,λ_=>rfl⟩
structure Aa where
 name:ByteArray
 reads:Int
 writes:Int
 prog:Int
def Aa.cells(b:Aa):List SV:=[.v (.string b.name),.v (.int .u32 b.reads),.v (.int .u32 b.writes),.v (.int .i64 b.prog)]
def Aa.of(x:SV):Aa:=⟨(aS 0 x).str,(aS 1 x).iv,(aS 2 x).iv,(aS 3 x).iv⟩
def HW:List SV:=[.v (.string ⟨#[]⟩),.v (.int .u32 0),.v (.int .u32 0),.v (.int .i64 0)]
structure lg where
 n:Nat
 e:Nat->Aa
def lg.sv(l:lg):SV:=.rs 4 l.n λi=>(l.e i).cells
def lg.of(x:SV):lg:=⟨x.rn,λi=>Aa.of (.agg (x.rf i))⟩
def vT:SV:=.rs 4 0 λ_=>HW
def nw:Rd lg:=⟨vT,lg.of,lg.sv,λ_=>rfl⟩
structure YI where
 op:Int
 a:Int
def YI.cells(b:YI):List SV:=[.v (.int .u8 b.op),.v (.int .i64 b.a)]
def YI.sv(b:YI):SV:=.agg b.cells
def YI.of(x:SV):YI:=⟨(aS 0 x).iv,(aS 1 x).iv⟩
def CI:List SV:=[.v (.int .u8 0),.v (.int .i64 0)]
def qa:Rd YI:=⟨.agg CI,YI.of,YI.sv,λ_=>rfl⟩
structure fh where
 n:Nat
 e:Nat->YI
def fh.sv(l:fh):SV:=.rs 2 l.n λi=>(l.e i).cells
def fh.of(x:SV):fh:=⟨x.rn,λi=>YI.of (.agg (x.rf i))⟩
def CL:SV:=.rs 2 0 λ_=>CI
def nx:Rd fh:=⟨CL,fh.of,fh.sv,λ_=>rfl⟩
structure Ww where
 code:fh
 locals:Int
 reads:Int
 writes:Int
def Ww.cells(b:Ww):List SV:=[b.code.sv,.v (.int .i64 b.locals),.v (.int .u32 b.reads),.v (.int .u32 b.writes)]
def Ww.sv(b:Ww):SV:=.agg b.cells
def Ww.of(x:SV):Ww:=⟨fh.of (aS 0 x),(aS 1 x).iv,(aS 2 x).iv,(aS 3 x).iv⟩
def CH:List SV:=[CL,.v (.int .i64 0),.v (.int .u32 0),.v (.int .u32 0)]
def uG:Rd Ww:=⟨.agg CH,Ww.of,Ww.sv,λ_=>rfl⟩
structure xn where
 n:Nat
 e:Nat->Ww
def xn.sv(l:xn):SV:=.rs 4 l.n λi=>(l.e i).cells
def xn.of(x:SV):xn:=⟨x.rn,λi=>Ww.of (.agg (x.rf i))⟩
def CK:SV:=.rs 4 0 λ_=>CH
structure Xi where
 systems:lg
 progs:xn
 seed:Int
 fuel:Int
def Xi.cells(b:Xi):List SV:=[b.systems.sv,b.progs.sv,.v (.int .u64 b.seed),.v (.int .i64 b.fuel)]
def Xi.sv(b:Xi):SV:=.agg b.cells
def Xi.of(x:SV):Xi:=⟨lg.of (aS 0 x),xn.of (aS 1 x),(aS 2 x).iv,(aS 3 x).iv⟩
def LC:List SV:=[vT,CK,.v (.int .u64 0),.v (.int .i64 0)]
def mW:Rd Xi:=⟨.agg LC,Xi.of,Xi.sv,λ_=>rfl⟩
structure Va where
 areaLowX:Int
 areaLowY:Int
 areaHighX:Int
 areaHighY:Int
 wTick:Int
 wEntities:WU
 setupSystems:lg
 setupProgs:xn
 setupSeed:Int
 setupFuel:Int
 ropes:Yt
 gravityX:Int
 gravityY:Int
def Va.cells(b:Va):List SV:=[.v (.int .i64 b.areaLowX),.v (.int .i64 b.areaLowY),.v (.int .i64 b.areaHighX),.v (.int .i64 b.areaHighY),.v (.int .i64 b.wTick),b.wEntities.sv,b.setupSystems.sv,b.setupProgs.sv,.v (.int .u64 b.setupSeed),.v (.int .i64 b.setupFuel),b.ropes.sv,.v (.int .i64 b.gravityX),.v (.int .i64 b.gravityY)]
def Va.sv(b:Va):SV:=.agg b.cells
def Va.of(x:SV):Va:=⟨(aS 0 x).iv,(aS 1 x).iv,(aS 2 x).iv,(aS 3 x).iv,(aS 4 x).iv,WU.of (aS 5 x),lg.of (aS 6 x),xn.of (aS 7 x),(aS 8 x).iv,(aS 9 x).iv,Yt.of (aS 10 x),(aS 11 x).iv,(aS 12 x).iv⟩
def LB:List SV:=[.v (.int .i64 0),.v (.int .i64 0),.v (.int .i64 0),.v (.int .i64 0),.v (.int .i64 0),Pp,vT,CK,.v (.int .u64 0),.v (.int .i64 0),vU,.v (.int .i64 0),.v (.int .i64 0)]
def dD:Rd Va:=⟨.agg LB,Va.of,Va.sv,λ_=>rfl⟩
structure Stop where
 iD:Int
 along:Int
 byI:Int
def Stop.cells(b:Stop):List SV:=[.v (.int .i64 b.iD),.v (.int .u8 b.along),.v (.int .i64 b.byI)]
structure j0 where
 n:Nat
 e:Nat->Stop
def j0.sv(l:j0):SV:=.rs 3 l.n λi=>(l.e i).cells
def TM:List SV:=[.v (.int .i64 0),.v (.int .i64 0),.v (.int .i64 0),.v (.int .i64 0),.v (.int .i64 0),.v (.int .i64 0),.v (.int .i64 0),.v (.bool false),.v (.bool false)]
structure Bds where
 n:Nat
 e:Nat->Body
def Bds.sv(l:Bds):SV:=.rs 9 l.n λi=>(l.e i).cells
def Bds.of(x:SV):Bds:=⟨x.rn,λi=>Body.of (.agg (x.rf i))⟩
def AX:SV:=.rs 9 0 λ_=>TM
def CB:Rd Bds:=⟨AX,Bds.of,Bds.sv,λ_=>rfl⟩
structure WY where
 bodies:Bds
 ropes:Yt
 gravityX:Int
 gravityY:Int
def WY.cells(b:WY):List SV:=[b.bodies.sv,b.ropes.sv,.v (.int .i64 b.gravityX),.v (.int .i64 b.gravityY)]
def WY.sv(b:WY):SV:=.agg b.cells
def WY.of(x:SV):WY:=⟨Bds.of (aS 0 x),Yt.of (aS 1 x),(aS 2 x).iv,(aS 3 x).iv⟩
def LD:List SV:=[AX,vU,.v (.int .i64 0),.v (.int .i64 0)]
def p9:Rd WY:=⟨.agg LD,WY.of,WY.sv,λ_=>rfl⟩
structure Xq where
 sBodies:Bds
 sRopes:Yt
 sGravityX:Int
 sGravityY:Int
 bID:Int
 bPosX:Int
 bPosY:Int
 bVelX:Int
 bVelY:Int
 bW:Int
 bH:Int
 bRound:Bool
 bFixed:Bool
 axis:Int
 sign:Int
def Xq.cells(b:Xq):List SV:=[b.sBodies.sv,b.sRopes.sv,.v (.int .i64 b.sGravityX),.v (.int .i64 b.sGravityY),.v (.int .i64 b.bID),.v (.int .i64 b.bPosX),.v (.int .i64 b.bPosY),.v (.int .i64 b.bVelX),.v (.int .i64 b.bVelY),.v (.int .i64 b.bW),.v (.int .i64 b.bH),.v (.bool b.bRound),.v (.bool b.bFixed),.v (.int .i64 b.axis),.v (.int .i64 b.sign)]
def Xq.sv(b:Xq):SV:=.agg b.cells
def Xq.of(x:SV):Xq:=⟨Bds.of (aS 0 x),Yt.of (aS 1 x),(aS 2 x).iv,(aS 3 x).iv,(aS 4 x).iv,(aS 5 x).iv,(aS 6 x).iv,(aS 7 x).iv,(aS 8 x).iv,(aS 9 x).iv,(aS 10 x).iv,(aS 11 x).bv,(aS 12 x).bv,(aS 13 x).iv,(aS 14 x).iv⟩
def LF:List SV:=[AX,vU,.v (.int .i64 0),.v (.int .i64 0),.v (.int .i64 0),.v (.int .i64 0),.v (.int .i64 0),.v (.int .i64 0),.v (.int .i64 0),.v (.int .i64 0),.v (.int .i64 0),.v (.bool false),.v (.bool false),.v (.int .i64 0),.v (.int .i64 0)]
def HH:Rd Xq:=⟨.agg LF,Xq.of,Xq.sv,λ_=>rfl⟩
def kD(n locals:Int)(i:YI):Bool:=
 if i.op=1 then true
 else if i.op=2∨i.op=3 then decide (0<=i.a)&&decide (i.a<=locals-1)
 else if i.op=4∨i.op=5 then decide (1<=i.a)&&decide (i.a<=10)
 else if i.op=11∨i.op=12∨i.op=13 then decide (0<=i.a)&&decide (i.a<=n)
 else if i.op=9 then(decide (7<=i.a)&&decide (i.a<=20))||(decide (23<=i.a)&&decide (i.a<=24))
 else decide (1<=i.op)&&decide (i.op<=15)&&decide (i.a=0)
def dP(i:YI)(at_:Int):XP:=
 if i.op=11 then⟨1,λ_=>i.a⟩
 else if i.op=12∨i.op=13 then⟨2,λk=>bif Nat.beq k 0 then at_+1 else i.a⟩
 else if i.op=14∨i.op=15 then⟨0,λ_=>0⟩
 else⟨1,λ_=>at_+1⟩
def tkI(op:Int):Int:=[0,0,0,1,1,2,0,0,1,1,1,0,1,1,0,0].getD op.toNat 0
def Xo(op:Int):Int:=[0,1,1,0,1,0,1,1,1,1,1,0,0,0,0,0].getD op.toNat 0
def bR(i:YI):Int:=if i.op=9∧10<=i.a then 2 else tkI i.op
def js(d:Nat->Int)(i:Nat)(v:Int):Nat->Int:=λj=>bif Nat.beq j i then v else d j
def XG(d1:Int)(f:Nat->Int):Nat->Nat->(Nat->Int)->List Int->Nat->Option ((Nat->Int)×List Int×Nat)
 | 0,_,d,T,n=>some (d,T,n)
 | m+1,j,d,T,n=>
  if d (f j).toNat=0 then XG d1 f m (j+1) (js d (f j).toNat d1) (T.take n++[f j]) (n+1)
  else if d (f j).toNat=d1 then XG d1 f m (j+1) d T n
  else none
def lz(p:Ww):Nat->(Nat->Int)->List Int->Nat->Bool
 | 0,_,_,_=>false
 | _+1,d,_,0=>decide (d p.code.n<=1)
 | k+1,d,T,n+1=>
  if T.getD n 0=p.code.n then lz p k d T n
  else if d (T.getD n 0).toNat-1<bR (p.code.e (T.getD n 0).toNat) then false
  else if 64<d (T.getD n 0).toNat-1+(Xo (p.code.e (T.getD n 0).toNat).op-bR (p.code.e (T.getD n 0).toNat)) then false
  else match XG (d (T.getD n 0).toNat-1+(Xo (p.code.e (T.getD n 0).toNat).op-bR (p.code.e (T.getD n 0).toNat))+1) (dP (p.code.e (T.getD n 0).toNat) (T.getD n 0)).g (dP (p.code.e (T.getD n 0).toNat) (T.getD n 0)).n 0 d T n with
   | none=>false
   | some (d',T',n')=>lz p k d' T' n'
def Jv:Nat->Int:=js (λ_=>0) 0 1
def kZ(p:Ww):Bool:=lz p (2*p.code.n+4) Jv [0] 1
def gD(d:Nat->Int):Nat->Nat
 | 0=>0
 | m+1=>gD d m+if d m=0 then 1 else 0
theorem DU(d:Nat->Int):∀m,gD d m<=m
 | 0=>I' 0
 | m+1=>by have:=DU d m;unfold gD;split<;>omega
theorem Cf(d:Nat->Int)(i:Nat)(v:Int):js d i v i=v:=by unfold js;rw[show Nat.beq i i=true from UG i];rfl
theorem vA(d:Nat->Int){i j:Nat}(v:Int)(h:j≠i):js d i v j=d j:=by
 unfold js;cases hb:Nat.beq j i with
 | true=>exact Up (Nb hb) h
 | false=>rfl
theorem vl{d e:Nat->Int} : ∀{m:Nat},(∀j,j<m->d j=e j)->gD d m=gD e m
 | 0,_=>rfl
 | m+1,h=>by unfold gD;rw[vl λj hj=>h j (by omega),h m (by omega)]
theorem jT{d:Nat->Int}{i:Nat}{v:Int}(h0:d i=0)(hv:v≠0):∀{m:Nat},i<m->gD (js d i v) m+1=gD d m
 | 0,h=>Up h (F' i)
 | m+1,h=>by unfold gD;rcases UD (Nat.le_of_lt_succ h) with rfl|h1;rw[Cf,Uv hv,Uw h0,vl λj hj=>vA d v (by omega)];rw[vA d v (by omega:m≠i)];have:=jT h0 hv h1;omega
structure jo (N:Nat) (d:Nat->Int) (T:List Int) (n:Nat):Prop where
 d:∀j,j<=N->0<=d j∧d j<=65
 t:∀i,i<n->0<=T.getD i 0∧T.getD i 0<=N
 n:n<=T.length
theorem jo.pop{N:Nat}{d:Nat->Int}{T:List Int}{n:Nat}(h:jo N d T (n+1)):jo N d T n:=⟨h.d,λi hi=>h.t i (by omega),by have:=h.n;omega⟩
theorem jQ{T:List Int}{n:Nat}{x:Int}(hn:n<=T.length){i:Nat}(hi:i<n+1):(T.take n++[x]).getD i 0=bif Nat.ble n i then x else T.getD i 0:=by
 cases hb:Nat.ble n i with
 | true=>
  have:=L' hb;obtain rfl:i=n:=(by omega);simp[List.getD_eq_getElem?_getD,Nat.min_eq_left hn]
 | false=>
  have h1:i<n:=(by rcases Nat.lt_or_ge i n with h|h;exact h;rw[Nat.ble_eq_true_of_le h] at hb;cases hb);simp[List.getD_eq_getElem?_getD,M' (show i<(T.take n).length by simp;omega),List.getElem?_take,h1]
theorem jo.push{N:Nat}{d:Nat->Int}{T:List Int}{n i:Nat}{x v:Int}(h:jo N d T n)(hx:0<=x∧x<=N)(hv:0<=v∧v<=65):jo N (js d i v) (T.take n++[x]) (n+1):=by
 refine⟨λj hj=>?_,λj hj=>?_,?_⟩;rcases Nat.decEq j i with k|k;rw[vA d v k];exact h.d j hj;rw[k,Cf];exact hv
 ·rw[jQ h.n hj];cases hb:Nat.ble n j with
  | true=>exact hx
  | false=>
   refine h.t j ?_;rcases Nat.lt_or_ge j n with k|k;exact k;rw[Nat.ble_eq_true_of_le k] at hb;cases hb
 have:=h.n;simp;omega
theorem qY{d1:Int}{f:Nat->Int}{m j:Nat}{d:Nat->Int}{T:List Int}{n:Nat}(h:d (f j).toNat=0):XG d1 f (m+1) j d T n=XG d1 f m (j+1) (js d (f j).toNat d1) (T.take n++[f j]) (n+1):=by rw[XG,Uw h]
theorem qX{d1:Int}{f:Nat->Int}{m j:Nat}{d:Nat->Int}{T:List Int}{n:Nat}(h:¬d (f j).toNat=0)(h1:d (f j).toNat=d1):XG d1 f (m+1) j d T n=XG d1 f m (j+1) d T n:=by rw[XG,Uv h,Uw h1]
theorem qZ{d1:Int}{f:Nat->Int}{m j:Nat}{d:Nat->Int}{T:List Int}{n:Nat}(h:¬d (f j).toNat=0)(h1:¬d (f j).toNat=d1):XG d1 f (m+1) j d T n=none:=by rw[XG,Uv h,Uv h1]
theorem CS{N:Nat}{locals:Int}{i:YI}{a:Int}(hr:kD N locals i=true)(ha:0<=a∧a<N)(k:Nat):0<=(dP i a).g k∧(dP i a).g k<=N:=by
 unfold dP;unfold kD at hr;split;rename_i h;simp only[h] at hr;simpa using hr;split
 ·rename_i h;have:0<=i.a∧i.a<=N:=by rcases h with h|h<;>(simp only[h] at hr;simpa using hr)
  show 0<=(bif Nat.beq k 0 then a+1 else i.a)∧(bif Nat.beq k 0 then a+1 else i.a)<=N;cases Nat.beq k 0<;>simp only[cond_true,cond_false]<;>omega
 split;exact⟨Int.le_refl 0,by show (0:Int)<=N;omega⟩;exact⟨by show 0<=a+1;omega,by show a+1<=(N:Int);omega⟩
theorem Iq(i:YI)(a:Int):(dP i a).n<=2:=by unfold dP;split;exact(by decide:1<=2);split;exact I' 2;split;exact(by decide:0<=2);exact(by decide:1<=2)
theorem getD_in{l:List Int}{a:Int}(h:∀x∈l,0<=x∧x<=a)(ha:0<=a)(n:Nat):0<=l.getD n 0∧l.getD n 0<=a:=by
 rw[List.getD_eq_getElem?_getD];cases hn:l[n]? with
 | none=>exact⟨Int.le_refl 0,ha⟩
 | some x=>exact h x (UF hn)
theorem xB(i:YI):0<=bR i∧bR i<=2:=by unfold bR;split;decide;exact getD_in (by decide) (by decide) _
theorem Ec(o:Int):0<=Xo o∧Xo o<=1:=getD_in (by decide) (by decide) _
end Go.Proofs.YtgigkennhdolpaaGreatDoor
