/- The seat's types and ground, for the symbolic executor with lists. Contracts of small functions. Watches, inputs; the contract of Valid. Wide numbers. -/
import Derived.Test.YtgigkennhdolpaaGreatDoorM17
namespace Go.Proofs.YtgigkennhdolpaaGreatDoor
open Go.RowKit
def types:List (Nat×TI):=[(1,⟨1,8,.prim,[.v .nilFunc],false⟩),
 (2,⟨1,8,.int .i64,[.il .i64 0],false⟩),
 (3,⟨1,8,.int .i64,[.il .i64 0],false⟩),
 (4,⟨1,1,.bool,[.bl false],false⟩),
 (5,⟨1,1,.int .u8,[.il .u8 0],false⟩),
 (6,⟨1,1,.int .u8,[.il .u8 0],false⟩),
 (7,⟨4,24,.struct [(0,2),(1,3),(2,4),(3,6)],[.il .i64 0,.il .i64 0,.bl false,.il .u8 0],true⟩),
 (8,⟨4,24,.struct [(0,2),(1,3),(2,4),(3,6)],[.il .i64 0,.il .i64 0,.bl false,.il .u8 0],true⟩),
 (9,⟨1,16,.prim,[.v (.string ⟨#[]⟩)],false⟩),
 (10,⟨1,16,.prim,[.v (.string ⟨#[]⟩)],false⟩),
 (11,⟨1,16,.prim,[.v (.string ⟨#[]⟩)],false⟩),
 (12,⟨1,8,.int .u64,[.il .u64 0],false⟩),
 (13,⟨2,24,.struct [(0,9),(1,12)],[.v (.string ⟨#[]⟩),.il .u64 0],false⟩),
 (14,⟨2,24,.struct [(0,9),(1,12)],[.v (.string ⟨#[]⟩),.il .u64 0],false⟩),
 (15,⟨1,8,.ptr,[.v (.pointer none)],false⟩),
 (16,⟨1,8,.ptr,[.v (.pointer none)],false⟩),
 (17,⟨1,8,.ptr,[.v (.pointer none)],false⟩),
 (18,⟨1,8,.struct [(0,17)],[.v (.pointer none)],false⟩),
 (19,⟨1,8,.struct [(0,17)],[.v (.pointer none)],false⟩),
 (20,⟨1,16,.prim,[.v .nilIface],false⟩),
 (21,⟨1,4,.int .i32,[.il .i32 0],false⟩),
 (22,⟨2,16,.struct [(0,3),(1,3)],[.il .i64 0,.il .i64 0],true⟩),
 (23,⟨2,16,.struct [(0,3),(1,3)],[.il .i64 0,.il .i64 0],true⟩),
 (24,⟨4,32,.struct [(0,23),(2,23)],[.il .i64 0,.il .i64 0,.il .i64 0,.il .i64 0],true⟩),
 (25,⟨4,32,.struct [(0,23),(2,23)],[.il .i64 0,.il .i64 0,.il .i64 0,.il .i64 0],true⟩),
 (26,⟨1,24,.sl 42,[.v (.slice none 0 0)],false⟩),
 (27,⟨2,32,.struct [(0,3),(1,26)],[.il .i64 0,.v (.slice none 0 0)],false⟩),
 (28,⟨2,32,.struct [(0,3),(1,26)],[.il .i64 0,.v (.slice none 0 0)],false⟩),
 (29,⟨1,24,.sl 116,[.v (.slice none 0 0)],false⟩),
 (30,⟨1,24,.sl 105,[.v (.slice none 0 0)],false⟩),
 (31,⟨1,8,.int .u64,[.il .u64 0],false⟩),
 (32,⟨4,64,.struct [(0,29),(1,30),(2,31),(3,3)],[.v (.slice none 0 0),.v (.slice none 0 0),.il .u64 0,.il .i64 0],false⟩),
 (33,⟨4,64,.struct [(0,29),(1,30),(2,31),(3,3)],[.v (.slice none 0 0),.v (.slice none 0 0),.il .u64 0,.il .i64 0],false⟩),
 (34,⟨1,24,.sl 94,[.v (.slice none 0 0)],false⟩),
 (35,⟨13,168,.struct [(0,25),(4,28),(6,33),(10,34),(11,23)],[.il .i64 0,.il .i64 0,.il .i64 0,.il .i64 0,.il .i64 0,.v (.slice none 0 0),.v (.slice none 0 0),.v (.slice none 0 0),.il .u64 0,.il .i64 0,.v (.slice none 0 0),.il .i64 0,.il .i64 0],false⟩),
 (36,⟨13,168,.struct [(0,25),(4,28),(6,33),(10,34),(11,23)],[.il .i64 0,.il .i64 0,.il .i64 0,.il .i64 0,.il .i64 0,.v (.slice none 0 0),.v (.slice none 0 0),.v (.slice none 0 0),.il .u64 0,.il .i64 0,.v (.slice none 0 0),.il .i64 0,.il .i64 0],false⟩),
 (37,⟨1,8,.prim,[.v .nilFunc],false⟩),
 (38,⟨1,8,.prim,[.v .nilFunc],false⟩),
 (39,⟨1,8,.prim,[.v .nilFunc],false⟩),
 (40,⟨1,24,.sl 46,[.v (.slice none 0 0)],false⟩),
 (41,⟨2,32,.struct [(0,3),(1,40)],[.il .i64 0,.v (.slice none 0 0)],false⟩),
 (42,⟨2,32,.struct [(0,3),(1,40)],[.il .i64 0,.v (.slice none 0 0)],false⟩),
 (43,⟨1,8,.ptr,[.v (.pointer none)],false⟩),
 (44,⟨4,32,.arr 4 3,[.il .i64 0,.il .i64 0,.il .i64 0,.il .i64 0],true⟩),
 (45,⟨5,40,.struct [(0,5),(1,44)],[.il .u8 0,.il .i64 0,.il .i64 0,.il .i64 0,.il .i64 0],true⟩),
 (46,⟨5,40,.struct [(0,5),(1,44)],[.il .u8 0,.il .i64 0,.il .i64 0,.il .i64 0,.il .i64 0],true⟩),
 (47,⟨1,24,.sl 121,[.v (.slice none 0 0)],false⟩),
 (48,⟨1,24,.sl 123,[.v (.slice none 0 0)],false⟩),
 (49,⟨1,24,.sl 3,[.v (.slice none 0 0)],false⟩),
 (50,⟨3,72,.struct [(0,47),(1,48),(2,49)],[.v (.slice none 0 0),.v (.slice none 0 0),.v (.slice none 0 0)],false⟩),
 (51,⟨3,72,.struct [(0,47),(1,48),(2,49)],[.v (.slice none 0 0),.v (.slice none 0 0),.v (.slice none 0 0)],false⟩),
 (52,⟨1,8,.int .i64,[.il .i64 0],false⟩),
 (54,⟨1,8,.prim,[.v .nilFunc],false⟩),
 (55,⟨1,8,.prim,[.v .nilFunc],false⟩),
 (56,⟨1,8,.prim,[.v .nilFunc],false⟩),
 (57,⟨1,24,.sl 74,[.v (.slice none 0 0)],false⟩),
 (58,⟨1,8,.prim,[.v .nilFunc],false⟩),
 (59,⟨1,4,.int .u32,[.il .u32 0],false⟩),
 (60,⟨1,8,.prim,[.v .nilFunc],false⟩),
 (62,⟨1,8,.prim,[.v .nilFunc],false⟩),
 (64,⟨1,8,.prim,[.v .nilFunc],false⟩),
 (65,⟨1,8,.prim,[.v .nilFunc],false⟩),
 (66,⟨1,8,.prim,[.v .nilFunc],false⟩),
 (68,⟨1,8,.prim,[.v .nilFunc],false⟩),
 (69,⟨1,8,.prim,[.v .nilFunc],false⟩),
 (70,⟨1,8,.prim,[.v .nilFunc],false⟩),
 (71,⟨1,8,.prim,[.v .nilFunc],false⟩),
 (72,⟨1,8,.prim,[.v .nilFunc],false⟩),
 (73,⟨10,80,.struct [(0,3),(1,3),(2,3),(3,23),(5,4),(6,23),(8,3),(9,3)],[.il .i64 0,.il .i64 0,.il .i64 0,.il .i64 0,.il .i64 0,.bl false,.il .i64 0,.il .i64 0,.il .i64 0,.il .i64 0],true⟩),
 (74,⟨10,80,.struct [(0,3),(1,3),(2,3),(3,23),(5,4),(6,23),(8,3),(9,3)],[.il .i64 0,.il .i64 0,.il .i64 0,.il .i64 0,.il .i64 0,.bl false,.il .i64 0,.il .i64 0,.il .i64 0,.il .i64 0],true⟩),
 (75,⟨1,8,.prim,[.v .nilFunc],false⟩),
 (76,⟨1,24,.sl 140,[.v (.slice none 0 0)],false⟩),
 (77,⟨4,64,.struct [(0,29),(1,76),(2,31),(3,3)],[.v (.slice none 0 0),.v (.slice none 0 0),.il .u64 0,.il .i64 0],false⟩),
 (78,⟨4,64,.struct [(0,29),(1,76),(2,31),(3,3)],[.v (.slice none 0 0),.v (.slice none 0 0),.il .u64 0,.il .i64 0],false⟩),
 (79,⟨13,168,.struct [(0,25),(4,28),(6,78),(10,34),(11,23)],[.il .i64 0,.il .i64 0,.il .i64 0,.il .i64 0,.il .i64 0,.v (.slice none 0 0),.v (.slice none 0 0),.v (.slice none 0 0),.il .u64 0,.il .i64 0,.v (.slice none 0 0),.il .i64 0,.il .i64 0],false⟩),
 (80,⟨13,168,.struct [(0,25),(4,28),(6,78),(10,34),(11,23)],[.il .i64 0,.il .i64 0,.il .i64 0,.il .i64 0,.il .i64 0,.v (.slice none 0 0),.v (.slice none 0 0),.v (.slice none 0 0),.il .u64 0,.il .i64 0,.v (.slice none 0 0),.il .i64 0,.il .i64 0],false⟩),
 (81,⟨1,8,.prim,[.v .nilFunc],false⟩),
 (83,⟨1,8,.prim,[.v .nilFunc],false⟩),
 (85,⟨1,8,.prim,[.v .nilFunc],false⟩),
 (87,⟨1,8,.prim,[.v .nilFunc],false⟩),
 (89,⟨1,8,.prim,[.v .nilFunc],false⟩),
 (90,⟨1,8,.prim,[.v .nilFunc],false⟩),
 (91,⟨1,8,.prim,[.v .nilFunc],false⟩),
 (92,⟨1,8,.prim,[.v .nilFunc],false⟩),
 (93,⟨3,24,.struct [(0,3),(1,3),(2,3)],[.il .i64 0,.il .i64 0,.il .i64 0],true⟩),
 (94,⟨3,24,.struct [(0,3),(1,3),(2,3)],[.il .i64 0,.il .i64 0,.il .i64 0],true⟩),
 (95,⟨1,8,.prim,[.v .nilFunc],false⟩),
 (96,⟨1,8,.prim,[.v .nilFunc],false⟩),
 (97,⟨1,8,.prim,[.v .nilFunc],false⟩),
 (98,⟨1,8,.prim,[.v .nilFunc],false⟩),
 (99,⟨1,8,.prim,[.v .nilFunc],false⟩),
 (100,⟨1,8,.prim,[.v .nilFunc],false⟩),
 (101,⟨1,8,.prim,[.v .nilFunc],false⟩),
 (102,⟨1,8,.prim,[.v .nilFunc],false⟩),
 (103,⟨1,24,.sl 153,[.v (.slice none 0 0)],false⟩),
 (104,⟨4,40,.struct [(0,103),(1,3),(2,59),(3,59)],[.v (.slice none 0 0),.il .i64 0,.il .u32 0,.il .u32 0],false⟩),
 (105,⟨4,40,.struct [(0,103),(1,3),(2,59),(3,59)],[.v (.slice none 0 0),.il .i64 0,.il .u32 0,.il .u32 0],false⟩),
 (107,⟨1,8,.prim,[.v .nilFunc],false⟩),
 (109,⟨1,8,.prim,[.v .nilFunc],false⟩),
 (110,⟨1,24,.sl 1,[.v (.slice none 0 0)],false⟩),
 (111,⟨1,8,.prim,[.v .nilFunc],false⟩),
 (112,⟨1,8,.prim,[.v .nilFunc],false⟩),
 (113,⟨1,8,.prim,[.v .nilFunc],false⟩),
 (114,⟨1,8,.prim,[.v .nilFunc],false⟩),
 (115,⟨4,32,.struct [(0,9),(1,59),(2,59),(3,3)],[.v (.string ⟨#[]⟩),.il .u32 0,.il .u32 0,.il .i64 0],false⟩),
 (116,⟨4,32,.struct [(0,9),(1,59),(2,59),(3,3)],[.v (.string ⟨#[]⟩),.il .u32 0,.il .u32 0,.il .i64 0],false⟩),
 (117,⟨1,8,.prim,[.v .nilFunc],false⟩),
 (118,⟨2,16,.struct [(0,3),(1,3)],[.il .i64 0,.il .i64 0],true⟩),
 (119,⟨2,16,.struct [(0,3),(1,3)],[.il .i64 0,.il .i64 0],true⟩),
 (120,⟨3,24,.struct [(0,119),(2,52)],[.il .i64 0,.il .i64 0,.il .i64 0],true⟩),
 (121,⟨3,24,.struct [(0,119),(2,52)],[.il .i64 0,.il .i64 0,.il .i64 0],true⟩),
 (122,⟨3,24,.struct [(0,3),(1,5),(2,3)],[.il .i64 0,.il .u8 0,.il .i64 0],true⟩),
 (123,⟨3,24,.struct [(0,3),(1,5),(2,3)],[.il .i64 0,.il .u8 0,.il .i64 0],true⟩),
 (124,⟨1,8,.prim,[.v .nilFunc],false⟩),
 (126,⟨1,8,.prim,[.v .nilFunc],false⟩),
 (127,⟨1,8,.prim,[.v .nilFunc],false⟩),
 (128,⟨1,8,.prim,[.v .nilFunc],false⟩),
 (129,⟨1,8,.prim,[.v .nilFunc],false⟩),
 (130,⟨1,8,.prim,[.v .nilFunc],false⟩),
 (131,⟨1,8,.mp 3 3,[.v (.map none)],false⟩),
 (132,⟨1,8,.prim,[.v .nilFunc],false⟩),
 (133,⟨1,8,.prim,[.v .nilFunc],false⟩),
 (134,⟨1,8,.prim,[.v .nilFunc],false⟩),
 (135,⟨1,8,.prim,[.v .nilFunc],false⟩),
 (136,⟨1,8,.prim,[.v .nilFunc],false⟩),
 (137,⟨1,8,.prim,[.v .nilFunc],false⟩),
 (138,⟨1,24,.sl 182,[.v (.slice none 0 0)],false⟩),
 (139,⟨4,40,.struct [(0,138),(1,3),(2,59),(3,59)],[.v (.slice none 0 0),.il .i64 0,.il .u32 0,.il .u32 0],false⟩),
 (140,⟨4,40,.struct [(0,138),(1,3),(2,59),(3,59)],[.v (.slice none 0 0),.il .i64 0,.il .u32 0,.il .u32 0],false⟩),
 (141,⟨1,8,.prim,[.v .nilFunc],false⟩),
 (143,⟨1,8,.prim,[.v .nilFunc],false⟩),
 (144,⟨1,8,.prim,[.v .nilFunc],false⟩),
 (145,⟨1,8,.prim,[.v .nilFunc],false⟩),
 (146,⟨1,8,.prim,[.v .nilFunc],false⟩),
 (148,⟨1,8,.prim,[.v .nilFunc],false⟩),
 (149,⟨1,8,.prim,[.v .nilFunc],false⟩),
 (150,⟨1,8,.prim,[.v .nilFunc],false⟩),
 (151,⟨1,8,.prim,[.v .nilFunc],false⟩),
 (152,⟨2,16,.struct [(0,5),(1,3)],[.il .u8 0,.il .i64 0],true⟩),
 (153,⟨2,16,.struct [(0,5),(1,3)],[.il .u8 0,.il .i64 0],true⟩),
 (154,⟨1,8,.prim,[.v .nilFunc],false⟩),
 (155,⟨1,8,.prim,[.v .nilFunc],false⟩),
 (156,⟨1,8,.prim,[.v .nilFunc],false⟩),
 (157,⟨1,8,.prim,[.v .nilFunc],false⟩),
 (158,⟨1,8,.prim,[.v .nilFunc],false⟩),
 (159,⟨1,24,.sl 209,[.v (.slice none 0 0)],false⟩),
 (160,⟨4,64,.struct [(0,159),(1,34),(2,23)],[.v (.slice none 0 0),.v (.slice none 0 0),.il .i64 0,.il .i64 0],false⟩),
 (161,⟨4,64,.struct [(0,159),(1,34),(2,23)],[.v (.slice none 0 0),.v (.slice none 0 0),.il .i64 0,.il .i64 0],false⟩),
 (163,⟨1,8,.prim,[.v .nilFunc],false⟩),
 (164,⟨1,8,.prim,[.v .nilFunc],false⟩),
 (165,⟨1,8,.prim,[.v .nilFunc],false⟩),
 (166,⟨1,8,.prim,[.v .nilFunc],false⟩),
 (167,⟨1,8,.prim,[.v .nilFunc],false⟩),
 (168,⟨1,8,.prim,[.v .nilFunc],false⟩),
 (169,⟨1,8,.prim,[.v .nilFunc],false⟩),
 (170,⟨1,8,.prim,[.v .nilFunc],false⟩),
 (171,⟨1,8,.prim,[.v .nilFunc],false⟩),
 (172,⟨1,8,.prim,[.v .nilFunc],false⟩),
 (173,⟨1,8,.prim,[.v .nilFunc],false⟩),
 (174,⟨1,8,.prim,[.v .nilFunc],false⟩),
 (175,⟨1,8,.prim,[.v .nilFunc],false⟩),
 (176,⟨1,8,.prim,[.v .nilFunc],false⟩),
 (177,⟨1,8,.prim,[.v .nilFunc],false⟩),
 (178,⟨1,8,.prim,[.v .nilFunc],false⟩),
 (179,⟨1,8,.prim,[.v .nilFunc],false⟩),
 (180,⟨1,8,.prim,[.v .nilFunc],false⟩),
 (181,⟨1,8,.prim,[.v .nilFunc],false⟩),
 (182,⟨2,16,.struct [(0,5),(1,3)],[.il .u8 0,.il .i64 0],true⟩),
 (183,⟨1,8,.prim,[.v .nilFunc],false⟩),
 (184,⟨1,8,.prim,[.v .nilFunc],false⟩),
 (185,⟨1,8,.prim,[.v .nilFunc],false⟩),
 (186,⟨1,8,.prim,[.v .nilFunc],false⟩),
 (187,⟨1,8,.prim,[.v .nilFunc],false⟩),
 (188,⟨1,8,.prim,[.v .nilFunc],false⟩),
 (189,⟨1,24,.sl 47,[.v (.slice none 0 0)],false⟩),
 (197,⟨2,16,.struct [(0,192),(0,196),(1,59)],[.il .u64 0,.il .u32 0],true⟩),
 (198,⟨2,16,.struct [(0,192),(0,196),(1,59)],[.il .u64 0,.il .u32 0],true⟩),
 (199,⟨1,8,.prim,[.v .nilFunc],false⟩),
 (201,⟨1,8,.prim,[.v .nilFunc],false⟩),
 (202,⟨1,8,.prim,[.v .nilFunc],false⟩),
 (203,⟨1,8,.prim,[.v .nilFunc],false⟩),
 (204,⟨1,8,.prim,[.v .nilFunc],false⟩),
 (205,⟨1,8,.prim,[.v .nilFunc],false⟩),
 (206,⟨1,8,.prim,[.v .nilFunc],false⟩),
 (207,⟨1,8,.prim,[.v .nilFunc],false⟩),
 (208,⟨9,64,.struct [(0,3),(1,23),(3,23),(5,3),(6,3),(7,4),(8,4)],[.il .i64 0,.il .i64 0,.il .i64 0,.il .i64 0,.il .i64 0,.il .i64 0,.il .i64 0,.bl false,.bl false],true⟩),
 (209,⟨9,64,.struct [(0,3),(1,23),(3,23),(5,3),(6,3),(7,4),(8,4)],[.il .i64 0,.il .i64 0,.il .i64 0,.il .i64 0,.il .i64 0,.il .i64 0,.il .i64 0,.bl false,.bl false],true⟩),
 (210,⟨1,8,.prim,[.v .nilFunc],false⟩),
 (211,⟨1,8,.ptr,[.v (.pointer none)],false⟩),
 (212,⟨2,16,.arr 2 211,[.v (.pointer none),.v (.pointer none)],false⟩),
 (213,⟨1,8,.prim,[.v .nilFunc],false⟩),
 (214,⟨1,8,.ptr,[.v (.pointer none)],false⟩),
 (215,⟨15,144,.struct [(0,161),(4,209),(13,3),(14,3)],[.v (.slice none 0 0),.v (.slice none 0 0),.il .i64 0,.il .i64 0,.il .i64 0,.il .i64 0,.il .i64 0,.il .i64 0,.il .i64 0,.il .i64 0,.il .i64 0,.bl false,.bl false,.il .i64 0,.il .i64 0],false⟩),
 (216,⟨15,144,.struct [(0,161),(4,209),(13,3),(14,3)],[.v (.slice none 0 0),.v (.slice none 0 0),.il .i64 0,.il .i64 0,.il .i64 0,.il .i64 0,.il .i64 0,.il .i64 0,.il .i64 0,.il .i64 0,.il .i64 0,.bl false,.bl false,.il .i64 0,.il .i64 0],false⟩),
 (218,⟨1,8,.prim,[.v .nilFunc],false⟩),
 (219,⟨1,8,.prim,[.v .nilFunc],false⟩),
 (220,⟨2,2,.arr 2 5,[.il .u8 0,.il .u8 0],true⟩),
 (222,⟨1,8,.prim,[.v .nilFunc],false⟩),
 (223,⟨1,8,.prim,[.v .nilFunc],false⟩),
 (224,⟨1,8,.prim,[.v .nilFunc],false⟩),
 (225,⟨1,8,.prim,[.v .nilFunc],false⟩),
 (226,⟨1,8,.prim,[.v .nilFunc],false⟩),
 (227,⟨1,8,.mp 9 3,[.v (.map none)],false⟩),
 (229,⟨1,8,.prim,[.v .nilFunc],false⟩),
 (230,⟨1,8,.prim,[.v .nilFunc],false⟩),
 (231,⟨1,8,.prim,[.v .nilFunc],false⟩),
 (232,⟨2,16,.struct [(0,3),(1,3)],[.il .i64 0,.il .i64 0],true⟩),
 (233,⟨2,16,.struct [(0,3),(1,3)],[.il .i64 0,.il .i64 0],true⟩),
 (234,⟨32,256,.arr 16 233,[.il .i64 0,.il .i64 0,.il .i64 0,.il .i64 0,.il .i64 0,.il .i64 0,.il .i64 0,.il .i64 0,.il .i64 0,.il .i64 0,.il .i64 0,.il .i64 0,.il .i64 0,.il .i64 0,.il .i64 0,.il .i64 0,.il .i64 0,.il .i64 0,.il .i64 0,.il .i64 0,.il .i64 0,.il .i64 0,.il .i64 0,.il .i64 0,.il .i64 0,.il .i64 0,.il .i64 0,.il .i64 0,.il .i64 0,.il .i64 0,.il .i64 0,.il .i64 0],true⟩),
 (235,⟨1,8,.prim,[.v .nilFunc],false⟩),
 (236,⟨1,8,.prim,[.v .nilFunc],false⟩),
 (237,⟨1,8,.prim,[.v .nilFunc],false⟩),
 (238,⟨1,8,.prim,[.v .nilFunc],false⟩),
 (239,⟨1,8,.prim,[.v .nilFunc],false⟩),
 (240,⟨1,8,.int .u64,[.il .u64 0],false⟩),
 (241,⟨1,8,.prim,[.v .nilFunc],false⟩),
 (242,⟨2,16,.struct [(0,31),(1,31)],[.il .u64 0,.il .u64 0],true⟩),
 (243,⟨2,16,.struct [(0,31),(1,31)],[.il .u64 0,.il .u64 0],true⟩),
 (244,⟨3,24,.struct [(0,243),(2,4)],[.il .u64 0,.il .u64 0,.bl false],true⟩),
 (245,⟨3,24,.struct [(0,243),(2,4)],[.il .u64 0,.il .u64 0,.bl false],true⟩),
 (247,⟨1,8,.prim,[.v .nilFunc],false⟩),
 (248,⟨1,8,.prim,[.v .nilFunc],false⟩),
 (249,⟨1,8,.prim,[.v .nilFunc],false⟩),
 (250,⟨1,8,.prim,[.v .nilFunc],false⟩),
 (251,⟨1,8,.prim,[.v .nilFunc],false⟩),
 (252,⟨1,8,.prim,[.v .nilFunc],false⟩),
 (253,⟨2,16,.struct [(0,3),(1,3)],[.il .i64 0,.il .i64 0],true⟩),
 (254,⟨2,16,.struct [(0,3),(1,3)],[.il .i64 0,.il .i64 0],true⟩),
 (255,⟨8,64,.arr 4 254,[.il .i64 0,.il .i64 0,.il .i64 0,.il .i64 0,.il .i64 0,.il .i64 0,.il .i64 0,.il .i64 0],true⟩),
 (256,⟨88,704,.arr 11 255,[.il .i64 0,.il .i64 0,.il .i64 0,.il .i64 0,.il .i64 0,.il .i64 0,.il .i64 0,.il .i64 0,.il .i64 0,.il .i64 0,.il .i64 0,.il .i64 0,.il .i64 0,.il .i64 0,.il .i64 0,.il .i64 0,.il .i64 0,.il .i64 0,.il .i64 0,.il .i64 0,.il .i64 0,.il .i64 0,.il .i64 0,.il .i64 0,.il .i64 0,.il .i64 0,.il .i64 0,.il .i64 0,.il .i64 0,.il .i64 0,.il .i64 0,.il .i64 0,.il .i64 0,.il .i64 0,.il .i64 0,.il .i64 0,.il .i64 0,.il .i64 0,.il .i64 0,.il .i64 0,.il .i64 0,.il .i64 0,.il .i64 0,.il .i64 0,.il .i64 0,.il .i64 0,.il .i64 0,.il .i64 0,.il .i64 0,.il .i64 0,.il .i64 0,.il .i64 0,.il .i64 0,.il .i64 0,.il .i64 0,.il .i64 0,.il .i64 0,.il .i64 0,.il .i64 0,.il .i64 0,.il .i64 0,.il .i64 0,.il .i64 0,.il .i64 0,.il .i64 0,.il .i64 0,.il .i64 0,.il .i64 0,.il .i64 0,.il .i64 0,.il .i64 0,.il .i64 0,.il .i64 0,.il .i64 0,.il .i64 0,.il .i64 0,.il .i64 0,.il .i64 0,.il .i64 0,.il .i64 0,.il .i64 0,.il .i64 0,.il .i64 0,.il .i64 0,.il .i64 0,.il .i64 0,.il .i64 0,.il .i64 0],true⟩),
 (257,⟨1,8,.prim,[.v .nilFunc],false⟩),
 (258,⟨1,8,.prim,[.v .nilFunc],false⟩),
 (259,⟨1,8,.prim,[.v .nilFunc],false⟩),
 (260,⟨1,8,.ptr,[.v (.pointer none)],false⟩),
 (261,⟨1,8,.prim,[.v .nilFunc],false⟩),
 (263,⟨1,8,.int .i64,[.il .i64 0],false⟩),
 (264,⟨1,8,.prim,[.v .nilFunc],false⟩),
 (265,⟨1,8,.prim,[.v .nilFunc],false⟩),
 (266,⟨1,8,.prim,[.v .nilFunc],false⟩),
 (267,⟨1,8,.ptr,[.v (.pointer none)],false⟩),
 (268,⟨1,8,.prim,[.v .nilFunc],false⟩),
 (269,⟨1,8,.prim,[.v .nilFunc],false⟩),
 (270,⟨1,8,.prim,[.v .nilFunc],false⟩),
 (271,⟨1,8,.prim,[.v .nilFunc],false⟩),
 (272,⟨1,8,.prim,[.v .nilFunc],false⟩),
 (274,⟨1,8,.prim,[.v .nilFunc],false⟩),
 (275,⟨1,8,.prim,[.v .nilFunc],false⟩),
 (276,⟨1,8,.prim,[.v .nilFunc],false⟩),
 (277,⟨1,8,.prim,[.v .nilFunc],false⟩),
 (278,⟨1,8,.prim,[.v .nilFunc],false⟩),
 (279,⟨1,8,.prim,[.v .nilFunc],false⟩),
 (280,⟨1,8,.prim,[.v .nilFunc],false⟩),
 (281,⟨1,8,.prim,[.v .nilFunc],false⟩),
 (282,⟨1,8,.prim,[.v .nilFunc],false⟩),
 (283,⟨1,8,.prim,[.v .nilFunc],false⟩),
 (284,⟨1,8,.prim,[.v .nilFunc],false⟩),
 (285,⟨1,8,.prim,[.v .nilFunc],false⟩),
 (286,⟨1,8,.prim,[.v .nilFunc],false⟩),
 (287,⟨1,8,.prim,[.v .nilFunc],false⟩),
 (288,⟨1,8,.prim,[.v .nilFunc],false⟩),
 (289,⟨1,8,.prim,[.v .nilFunc],false⟩),
 (290,⟨1,8,.prim,[.v .nilFunc],false⟩),
 (291,⟨1,8,.prim,[.v .nilFunc],false⟩),
 (292,⟨1,8,.prim,[.v .nilFunc],false⟩),
 (293,⟨1,8,.prim,[.v .nilFunc],false⟩),
 (294,⟨1,8,.prim,[.v .nilFunc],false⟩),
 (295,⟨1,8,.prim,[.v .nilFunc],false⟩),
 (296,⟨2,8,.arr 2 59,[.il .u32 0,.il .u32 0],true⟩),
 (297,⟨1,24,.sl 5,[.v (.slice none 0 0)],false⟩),
 (298,⟨1,8,.prim,[.v .nilFunc],false⟩),
 (299,⟨1,8,.prim,[.v .nilFunc],false⟩),
 (300,⟨1,8,.prim,[.v .nilFunc],false⟩),
 (301,⟨1,8,.prim,[.v .nilFunc],false⟩),
 (302,⟨1,8,.prim,[.v .nilFunc],false⟩),
 (303,⟨1,8,.prim,[.v .nilFunc],false⟩),
 (305,⟨1,8,.prim,[.v .nilFunc],false⟩),
 (306,⟨1,8,.prim,[.v .nilFunc],false⟩),
 (307,⟨1,24,.sl 245,[.v (.slice none 0 0)],false⟩),
 (308,⟨1,8,.prim,[.v .nilFunc],false⟩),
 (309,⟨1,8,.prim,[.v .nilFunc],false⟩),
 (310,⟨1,8,.prim,[.v .nilFunc],false⟩),
 (311,⟨1,8,.prim,[.v .nilFunc],false⟩),
 (312,⟨1,8,.prim,[.v .nilFunc],false⟩),
 (313,⟨1,8,.ptr,[.v (.pointer none)],false⟩),
 (314,⟨1,8,.prim,[.v .nilFunc],false⟩),
 (315,⟨1,8,.ptr,[.v (.pointer none)],false⟩),
 (316,⟨1,8,.prim,[.v .nilFunc],false⟩),
 (317,⟨1,8,.prim,[.v .nilFunc],false⟩),
 (319,⟨1,8,.prim,[.v .nilFunc],false⟩),
 (320,⟨1,8,.prim,[.v .nilFunc],false⟩),
 (321,⟨3,24,.struct [(0,31),(1,3),(2,31)],[.il .u64 0,.il .i64 0,.il .u64 0],true⟩),
 (322,⟨3,24,.struct [(0,31),(1,3),(2,31)],[.il .u64 0,.il .i64 0,.il .u64 0],true⟩),
 (323,⟨1,8,.prim,[.v .nilFunc],false⟩),
 (324,⟨1,8,.prim,[.v .nilFunc],false⟩),
 (325,⟨1,8,.int .i64,[.il .i64 0],false⟩),
 (327,⟨1,8,.prim,[.v .nilFunc],false⟩),
 (328,⟨1,8,.prim,[.v .nilFunc],false⟩),
 (329,⟨1,8,.prim,[.v .nilFunc],false⟩),
 (330,⟨1,8,.prim,[.v .nilFunc],false⟩),
 (331,⟨1,8,.prim,[.v .nilFunc],false⟩),
 (332,⟨1,8,.prim,[.v .nilFunc],false⟩),
 (333,⟨1,8,.prim,[.v .nilFunc],false⟩),
 (334,⟨1,8,.prim,[.v .nilFunc],false⟩),
 (335,⟨1,8,.prim,[.v .nilFunc],false⟩),
 (336,⟨1,8,.prim,[.v .nilFunc],false⟩),
 (337,⟨1,8,.prim,[.v .nilFunc],false⟩),
 (338,⟨1,8,.ptr,[.v (.pointer none)],false⟩),
 (339,⟨1,8,.int .u64,[.il .u64 0],false⟩),
 (340,⟨1,8,.prim,[.v .nilFunc],false⟩),
 (341,⟨15,176,.struct [(0,105),(4,42),(6,322),(9,3),(10,3),(11,49),(12,49),(13,339),(14,3)],[.v (.slice none 0 0),.il .i64 0,.il .u32 0,.il .u32 0,.il .i64 0,.v (.slice none 0 0),.il .u64 0,.il .i64 0,.il .u64 0,.il .i64 0,.il .i64 0,.v (.slice none 0 0),.v (.slice none 0 0),.il .u64 0,.il .i64 0],false⟩),
 (342,⟨15,176,.struct [(0,105),(4,42),(6,322),(9,3),(10,3),(11,49),(12,49),(13,339),(14,3)],[.v (.slice none 0 0),.il .i64 0,.il .u32 0,.il .u32 0,.il .i64 0,.v (.slice none 0 0),.il .u64 0,.il .i64 0,.il .u64 0,.il .i64 0,.il .i64 0,.v (.slice none 0 0),.v (.slice none 0 0),.il .u64 0,.il .i64 0],false⟩),
 (343,⟨1,8,.prim,[.v .nilFunc],false⟩),
 (344,⟨1,8,.prim,[.v .nilFunc],false⟩),
 (345,⟨1,8,.prim,[.v .nilFunc],false⟩),
 (346,⟨1,8,.prim,[.v .nilFunc],false⟩),
 (347,⟨1,8,.prim,[.v .nilFunc],false⟩),
 (348,⟨1,8,.int .u64,[.il .u64 0],false⟩),
 (349,⟨1,8,.prim,[.v .nilFunc],false⟩),
 (350,⟨1,8,.prim,[.v .nilFunc],false⟩),
 (351,⟨1,8,.prim,[.v .nilFunc],false⟩),
 (352,⟨1,8,.prim,[.v .nilFunc],false⟩),
 (353,⟨1,24,.sl 31,[.v (.slice none 0 0)],false⟩),
 (355,⟨1,8,.mp 5 358,[.v (.map none)],false⟩),
 (356,⟨1,8,.prim,[.v .nilFunc],false⟩),
 (357,⟨1,8,.prim,[.v .nilFunc],false⟩),
 (358,⟨1,8,.prim,[.v .nilFunc],false⟩),
 (359,⟨1,8,.prim,[.v .nilFunc],false⟩),
 (360,⟨1,8,.ptr,[.v (.pointer none)],false⟩),
 (361,⟨1,8,.prim,[.v .nilFunc],false⟩),
 (362,⟨1,8,.prim,[.v .nilFunc],false⟩),
 (363,⟨1,8,.prim,[.v .nilFunc],false⟩),
 (364,⟨2,16,.arr 2 363,[.v .nilFunc,.v .nilFunc],false⟩),
 (365,⟨4,32,.arr 2 364,[.v .nilFunc,.v .nilFunc,.v .nilFunc,.v .nilFunc],false⟩),
 (366,⟨1,8,.prim,[.v .nilFunc],false⟩),
 (368,⟨1,8,.prim,[.v .nilFunc],false⟩),
 (370,⟨1,8,.prim,[.v .nilFunc],false⟩),
 (371,⟨1,8,.prim,[.v .nilFunc],false⟩),
 (372,⟨2,16,.struct [(0,339),(1,3)],[.il .u64 0,.il .i64 0],true⟩),
 (373,⟨2,16,.struct [(0,339),(1,3)],[.il .u64 0,.il .i64 0],true⟩),
 (374,⟨1,8,.ptr,[.v (.pointer none)],false⟩),
 (375,⟨1,8,.prim,[.v .nilFunc],false⟩),
 (377,⟨1,8,.prim,[.v .nilFunc],false⟩),
 (378,⟨1,8,.prim,[.v .nilFunc],false⟩),
 (379,⟨4,40,.struct [(0,17),(1,17),(2,17),(3,9)],[.v (.pointer none),.v (.pointer none),.v (.pointer none),.v (.string ⟨#[]⟩)],false⟩),
 (380,⟨4,40,.struct [(0,17),(1,17),(2,17),(3,9)],[.v (.pointer none),.v (.pointer none),.v (.pointer none),.v (.string ⟨#[]⟩)],false⟩),
 (384,⟨1,1,.int .u8,[.il .u8 0],false⟩),
 (385,⟨1,1,.int .u8,[.il .u8 0],false⟩),
 (386,⟨1,8,.prim,[.v .nilFunc],false⟩),
 (387,⟨1,8,.ptr,[.v (.pointer none)],false⟩),
 (388,⟨1,4,.int .i32,[.il .i32 0],false⟩),
 (389,⟨1,4,.int .i32,[.il .i32 0],false⟩),
 (390,⟨11,48,.struct [(0,12),(1,12),(2,59),(3,384),(4,5),(5,5),(6,385),(7,386),(8,387),(9,388),(10,389)],[.il .u64 0,.il .u64 0,.il .u32 0,.il .u8 0,.il .u8 0,.il .u8 0,.il .u8 0,.v .nilFunc,.v (.pointer none),.il .i32 0,.il .i32 0],false⟩),
 (391,⟨11,48,.struct [(0,12),(1,12),(2,59),(3,384),(4,5),(5,5),(6,385),(7,386),(8,387),(9,388),(10,389)],[.il .u64 0,.il .u64 0,.il .u32 0,.il .u8 0,.il .u8 0,.il .u8 0,.il .u8 0,.v .nilFunc,.v (.pointer none),.il .i32 0,.il .i32 0],false⟩)]
set_option maxRecDepth 100000 in
theorem types_ok:types.all (chkT Tryz.prog)=true:=by kernel_rfl
def ground:List (Nat×(List SV×TypeId)):=[(0,([.il .i64 0,.il .i64 0,.il .i64 0,.il .i64 0,.il .i64 0,.il .i64 0,.il .i64 0,.il .i64 0,.il .i64 (-1048576),.il .i64 1048576,.il .i64 (-1048576),.il .i64 1048576,.il .i64 0,.il .i64 0,.il .i64 0,.il .i64 0,.il .i64 (-4096),.il .i64 4096,.il .i64 (-4096),.il .i64 4096,.il .i64 0,.il .i64 0,.il .i64 0,.il .i64 0,.il .i64 1,.il .i64 16384,.il .i64 1,.il .i64 16384,.il .i64 0,.il .i64 1,.il .i64 0,.il .i64 1,.il .i64 1,.il .i64 8,.il .i64 0,.il .i64 0,.il .i64 0,.il .i64 0,.il .i64 0,.il .i64 0,.il .i64 0,.il .i64 510,.il .i64 0,.il .i64 0,.il .i64 0,.il .i64 0,.il .i64 0,.il .i64 0,.il .i64 0,.il .i64 15,.il .i64 0,.il .i64 0,.il .i64 0,.il .i64 0,.il .i64 0,.il .i64 0,.il .i64 (-2147483648),.il .i64 2147483647,.il .i64 (-2147483648),.il .i64 2147483647,.il .i64 (-2147483648),.il .i64 2147483647,.il .i64 (-2147483648),.il .i64 2147483647,.il .i64 0,.il .i64 1048576,.il .i64 0,.il .i64 1048576,.il .i64 0,.il .i64 0,.il .i64 0,.il .i64 0,.il .i64 0,.il .i64 2147483647,.il .i64 0,.il .i64 2147483647,.il .i64 0,.il .i64 2147483647,.il .i64 0,.il .i64 2147483647,.il .i64 (-2147483648),.il .i64 2147483647,.il .i64 (-2147483648),.il .i64 2147483647,.il .i64 (-2147483648),.il .i64 2147483647,.il .i64 (-2147483648),.il .i64 2147483647],256))]
def cx:Cx Tryz.prog:={T:=types,G:=ground,gm:=1,hT:=types_ok}
end Go.Proofs.YtgigkennhdolpaaGreatDoor
namespace Go.Proofs.YtgigkennhdolpaaGreatDoor.Df
open Go.RowKit
theorem follows:cx.P.follows .mixedOrders=true:=by kernel_rfl
def sl(t:Nat)(v:SV):Nat×Slot:=(t,⟨0,0,[],v⟩)
def conNaN:Con cx:=ah (Γ:=[]) (Fs:=[]) (d:=0) 198 Tryz.call198 (bM (rdI .i64)) (fun _=>[]) (fun n=>.v (.bool false)) (fun _=>aw) [] (fun _=>rfl) follows Tryz.func198 (by kernel_rfl)
 fun n _=>by show (_:Bool)=_;simp
end Go.Proofs.YtgigkennhdolpaaGreatDoor.Df
namespace Go.Proofs.YtgigkennhdolpaaGreatDoor.Df
open Go.RowKit
structure Vec where
 x:Int
 y:Int
def Vec.cells(b:Vec):List SV:=[.v (.int .i64 b.x),.v (.int .i64 b.y)]
def Vec.sv(b:Vec):SV:=.agg b.cells
def Vec.of(x:SV):Vec:=⟨(hdS (x.al)).iv,(hdS (tlS (x.al))).iv⟩
def dW:Rd Vec:=⟨.agg [.v (.int .i64 0),.v (.int .i64 0)],Vec.of,Vec.sv,fun _=>rfl⟩
end Go.Proofs.YtgigkennhdolpaaGreatDoor.Df
namespace Go.Proofs.YtgigkennhdolpaaGreatDoor.Df
open Go.RowKit
set_option maxRecDepth 8000
set_option maxHeartbeats 2000000
structure Sz where
 hi:Int
 lo:Int
def Sz.cells(b:Sz):List SV:=[.v (.int .u64 b.hi),.v (.int .u64 b.lo)]
def Sz.sv(b:Sz):SV:=.agg b.cells
def Sz.of(x:SV):Sz:=⟨(hdS (x.al)).iv,(hdS (tlS (x.al))).iv⟩
def fF:Rd Sz:=⟨.agg [.v (.int .u64 0),.v (.int .u64 0)],Sz.of,Sz.sv,fun _=>rfl⟩
structure W where
 hi:Int
 lo:Int
 neg:Bool
def W.cells(b:W):List SV:=[.v (.int .u64 b.hi),.v (.int .u64 b.lo),.v (.bool b.neg)]
def W.sv(b:W):SV:=.agg b.cells
def W.of(x:SV):W:=⟨(hdS (x.al)).iv,(hdS (tlS (x.al))).iv,(hdS (tlS (tlS (x.al)))).bv⟩
def rdW:Rd W:=⟨.agg [.v (.int .u64 0),.v (.int .u64 0),.v (.bool false)],W.of,W.sv,fun _=>rfl⟩
theorem wu(n:Int):IntKind.u64.wrap n=n%18446744073709551616:=rfl
theorem wi(n:Int):IntKind.i64.wrap n=if 9223372036854775808≤n%18446744073709551616 then n%18446744073709551616-18446744073709551616 else n%18446744073709551616:=by
 unfold IntKind.wrap
 show (if (true&&decide (n%18446744073709551616≥9223372036854775808))=true then _ else _)=_
 simp only[Bool.true_and,decide_eq_true_eq,ge_iff_le]
 rfl
theorem p32:(2:Int)^min (Int.toNat 32) IntKind.u64.bits=4294967296:=rfl
theorem p63:(2:Int)^min (Int.toNat 63) IntKind.u64.bits=9223372036854775808:=rfl
theorem p1:(2:Int)^min (Int.toNat 1) IntKind.u64.bits=2:=rfl
theorem fd32(a:Int):a.fdiv 4294967296=a/4294967296:=Int.fdiv_eq_ediv_of_nonneg a (by omega)
theorem fd63(a:Int):a.fdiv 9223372036854775808=a/9223372036854775808:=Int.fdiv_eq_ediv_of_nonneg a (by omega)
theorem bits_or{i A B:Nat}(hb:B<2^i)(h:A*2^i+B<18446744073709551616):eK .or .u64 ((A*2^i:Nat):Int) (B:Int)=((A*2^i+B:Nat):Int):=by
 unfold eK
 have e1:(BitVec.ofInt 64 ((A*2^i:Nat):Int)).toNat=A*2^i:=by
  rw[BitVec.ofInt_natCast,BitVec.toNat_ofNat,Nat.mod_eq_of_lt (by omega)]
 have e2:(BitVec.ofInt 64 ((B:Nat):Int)).toNat=B:=by
  rw[BitVec.ofInt_natCast,BitVec.toNat_ofNat,Nat.mod_eq_of_lt (by omega)]
 have e3:(BitVec.ofInt 64 ((A*2^i:Nat):Int) ||| BitVec.ofInt 64 ((B:Nat):Int)).toNat=A*2^i+B:=by
  rw[BitVec.toNat_or,e1,e2,←Nat.shiftLeft_eq,Nat.shiftLeft_add_eq_or_of_lt hb]
 show IntKind.u64.wrap ((BitVec.ofInt 64 ((A*2^i:Nat):Int) ||| BitVec.ofInt 64 ((B:Nat):Int)).toNat:Int)=_
 rw[e3,wu]
 omega
theorem bits_and{A i:Nat}(h:A<18446744073709551616)(hi:i<64):eK .and .u64 (A:Int) ((2^i-1:Nat):Int)=((A%2^i:Nat):Int):=by
 have hp:2^i-1<18446744073709551616:=by
  have:2^i<2^64:=Nat.pow_lt_pow_right (by omega) hi
  omega
 unfold eK
 have e1:(BitVec.ofInt 64 (A:Int)).toNat=A:=by
  rw[BitVec.ofInt_natCast,BitVec.toNat_ofNat,Nat.mod_eq_of_lt (by omega)]
 have e2:(BitVec.ofInt 64 ((2^i-1:Nat):Int)).toNat=2^i-1:=by
  rw[BitVec.ofInt_natCast,BitVec.toNat_ofNat,Nat.mod_eq_of_lt (by omega)]
 have e3:(BitVec.ofInt 64 (A:Int) &&& BitVec.ofInt 64 ((2^i-1:Nat):Int)).toNat=A%2^i:=by
  rw[BitVec.toNat_and,e1,e2,Nat.and_two_pow_sub_one_eq_mod]
 show IntKind.u64.wrap ((BitVec.ofInt 64 (A:Int) &&& BitVec.ofInt 64 ((2^i-1:Nat):Int)).toNat:Int)=_
 rw[e3,wu]
 have:=Nat.mod_le A (2^i)
 omega
theorem and32{a:Int}(h0:0≤a)(h:a<18446744073709551616):eK .and .u64 a 4294967295=a%4294967296:=by
 obtain⟨A,rfl⟩:=Int.eq_ofNat_of_zero_le h0
 have:=bits_and (A:=A) (i:=32) (by omega) (by omega)
 simpa using this
theorem or32{a b:Int}(ha:0≤a)(hb:0≤b)(hb':b<4294967296)(ha':a<4294967296):eK .or .u64 (a*4294967296) b=a*4294967296+b:=by
 obtain⟨A,rfl⟩:=Int.eq_ofNat_of_zero_le ha
 obtain⟨B,rfl⟩:=Int.eq_ofNat_of_zero_le hb
 have:=bits_or (A:=A) (B:=B) (i:=32) (by omega) (by omega)
 simpa using this
theorem or1{a b:Int}(ha:0≤a)(hb:0≤b)(hb':b<2)(ha':a<9223372036854775808):eK .or .u64 (a*2) b=a*2+b:=by
 obtain⟨A,rfl⟩:=Int.eq_ofNat_of_zero_le ha
 obtain⟨B,rfl⟩:=Int.eq_ofNat_of_zero_le hb
 have:=bits_or (A:=A) (B:=B) (i:=1) (by omega) (by omega)
 simpa using this
def u64(n:Int):Prop:=0≤n∧n<18446744073709551616
def Sz.In(s:Sz):Prop:=u64 s.hi∧u64 s.lo
def W.In(s:W):Prop:=u64 s.hi∧u64 s.lo
def jQ(s:Sz)(n:Bool):W:=⟨s.hi,s.lo,n&&!(decide (s.hi=0)&&decide (s.lo=0))⟩
def wOf(n:Int):W:=⟨0,n.natAbs,decide (n<0)⟩
def cU(a b:Int):W:=⟨0,(a-b).natAbs,decide (a<b)⟩
def iN(s t:Sz):Bool:=decide (s.hi<t.hi)||decide (s.hi=t.hi)&&decide (s.lo<t.lo)
def mE(a b:Int):Sz:=⟨a*b/18446744073709551616,a*b%18446744073709551616⟩
def mB(a b:W):W:=jQ (mE a.lo b.lo) (a.neg != b.neg)
def lG(s:Sz)(d:Int):Sz:=⟨(s.hi*18446744073709551616+s.lo)/d/18446744073709551616,(s.hi*18446744073709551616+s.lo)/d%18446744073709551616⟩
def szRem(s:Sz)(d:Int):Int:=(s.hi*18446744073709551616+s.lo)%d
def wTrunc(a b:W):W:=jQ (lG ⟨a.hi,a.lo⟩ b.lo) (a.neg != b.neg)
theorem Made_walk:∀a,aK ((fun a=>[]) a)→aX (C:=cx) [] [] 0 aw Tryz.f200 ((aV fF rdB).enc a) fun v H _=>ai ((fun a=>(jQ a.1 a.2).sv) a) H v:=by
 intro⟨s,n⟩ _
 repeat' (first|(refine Ai ?_ ?_)|(intro _))
 all_goals (try (refine Eq.trans ?_ rfl))
 all_goals (try simp only[bM,aV,dO,fF,rdW,rdB,rdI,Sz.of,W.of,hdS,tlS,SV.al,SV.iv,SV.bv,cI,decide_eq_true_eq,decide_eq_false_iff_not] at *)
 all_goals first|rfl|(simp only[jQ];done)|(simp[jQ,Bool.not_and];done)|trace_state
noncomputable def m7:Con cx:=ah 200 Tryz.call200 (aV fF rdB) _ _ (fun _=>aw) [] (fun _=>rfl) follows Tryz.func200 (by kernel_rfl) Made_walk
theorem Of_walk:∀a,aK ((fun a=>[InR a]) a)→aX (C:=cx) [m7] [] 0 aw Tryz.f147 ((bM (rdI .i64)).enc a) fun v H _=>ai ((fun a=>(wOf a).sv) a) H v:=by
 intro n (hn:InR n)
 unfold InR at hn
 repeat' (first|(refine Ai ?_ ?_)|(intro _))
 all_goals (try (refine Eq.trans ?_ rfl))
 all_goals (try simp only[bM,aV,dO,fF,rdW,rdB,rdI,Sz.of,W.of,hdS,tlS,SV.al,SV.iv,SV.bv,cI,decide_eq_true_eq,decide_eq_false_iff_not] at *)
 all_goals simp only[wOf,jQ,wu]
 all_goals first|omega|grind|trace_state
noncomputable def conOf:Con cx:=ah 147 Tryz.call147 (bM (rdI .i64)) _ _ (fun _=>aw) [] (fun _=>rfl) follows Tryz.func147 (by kernel_rfl) Of_walk
theorem Diff_walk:∀a,aK ((fun a=>[InR a.1,InR a.2]) a)→aX (C:=cx) [m7] [] 0 aw Tryz.f199 ((aV (rdI .i64) (rdI .i64)).enc a) fun v H _=>ai ((fun a=>(cU a.1 a.2).sv) a) H v:=by
 intro⟨n,m⟩ ⟨hn,hm⟩
 replace hm:InR m:=hm
 replace hn:InR n:=hn
 unfold InR at hn hm
 repeat' (first|(refine Ai ?_ ?_)|(intro _))
 all_goals (try (refine Eq.trans ?_ rfl))
 all_goals (try simp only[bM,aV,dO,fF,rdW,rdB,rdI,Sz.of,W.of,hdS,tlS,SV.al,SV.iv,SV.bv,cI,decide_eq_true_eq,decide_eq_false_iff_not] at *)
 all_goals simp only[cU,jQ,wu]
 all_goals first|omega|grind|trace_state
noncomputable def conDiff:Con cx:=ah 199 Tryz.call199 (aV (rdI .i64) (rdI .i64)) _ _ (fun _=>aw) [] (fun _=>rfl) follows Tryz.func199 (by kernel_rfl) Diff_walk
theorem SLess_walk:∀a,aK ((fun a=>[]) a)→aX (C:=cx) [] [] 0 aw Tryz.f148 ((aV fF fF).enc a) fun v H _=>ai ((fun a=>.v (.bool (iN a.1 a.2))) a) H v:=by
 intro⟨s,t⟩ _
 all_goals (try (refine Eq.trans ?_ rfl))
 all_goals (try simp only[bM,aV,dO,fF,rdW,rdB,rdI,Sz.of,W.of,hdS,tlS,SV.al,SV.iv,SV.bv,cI,decide_eq_true_eq,decide_eq_false_iff_not] at *)
 all_goals simp only[iN]
 all_goals trace_state
noncomputable def conSLess:Con cx:=ah 148 Tryz.call148 (aV fF fF) _ _ (fun _=>aw) [] (fun _=>rfl) follows Tryz.func148 (by kernel_rfl) SLess_walk
theorem Times_walk:∀a,aK ((fun a=>[u64 a.1,0≤a.2∧a.2<4294967296]) a)→aX (C:=cx) [] [] 0 aw Tryz.f202 ((aV (rdI .u64) (rdI .u64)).enc a) fun v H _=>ai ((fun a=>(mE a.1 a.2).sv) a) H v:=by
 intro⟨n,m⟩ ⟨hn,hm⟩
 obtain⟨hm0,hm⟩:0≤m∧m<4294967296:=hm
 obtain⟨hn0,hn⟩:0≤n∧n<18446744073709551616:=hn
 repeat' (first|(refine Ai ?_ ?_)|(intro _))
 all_goals (try (refine Eq.trans ?_ rfl))
 all_goals (try simp only[bM,aV,dO,fF,rdW,rdB,rdI,Sz.of,W.of,hdS,tlS,SV.al,SV.iv,SV.bv,cI,decide_eq_true_eq,decide_eq_false_iff_not] at *)
 all_goals simp only[mE,wu,p32,fd32]
 all_goals
  have ha:0≤n/4294967296∧n/4294967296<4294967296:=by omega
  have hb:0≤n%4294967296∧n%4294967296<4294967296:=by omega
  have hm':m%4294967296=m:=by omega
  have hm2:m/4294967296=0:=by omega
  have hP0:0≤n%4294967296*m:=Int.mul_nonneg hb.1 hm0
  have hQ0:0≤n/4294967296*m:=Int.mul_nonneg ha.1 hm0
  have hP1:n%4294967296*m≤4294967295*4294967295:=Int.mul_le_mul (by omega) (by omega) hm0 (by omega)
  have hQ1:n/4294967296*m≤4294967295*4294967295:=Int.mul_le_mul (by omega) (by omega) hm0 (by omega)
  have hs:n*m=n/4294967296*m*4294967296+n%4294967296*m:=by
   rw[Int.mul_right_comm,←Int.add_mul]
   congr 1
   omega
  rw[hs]
  simp only[and32 hn0 hn,and32 hm0 (show m<18446744073709551616 by omega),hm',hm2,Int.mul_zero]
  generalize n%4294967296*m=P at *
  generalize n/4294967296*m=Q at *
  clear hs
  rw[show P%18446744073709551616=P by omega,show Q%18446744073709551616=Q by omega]
  rw[show (Q+P/4294967296)%18446744073709551616=Q+P/4294967296 by omega]
  rw[and32 (a:=Q+P/4294967296) (by omega) (by omega)]
 ·omega
 ·rw[and32 (a:=P) (by omega) (by omega),show ((Q+P/4294967296)%4294967296+0%18446744073709551616)%18446744073709551616*4294967296%18446744073709551616=(Q+P/4294967296)%4294967296*4294967296 by omega,or32 (by omega) (by omega) (by omega) (by omega)]
  omega
noncomputable def conTimes:Con cx:=ah 202 Tryz.call202 (aV (rdI .u64) (rdI .u64)) _ _ (fun _=>aw) [] (fun _=>rfl) follows Tryz.func202 (by kernel_rfl) Times_walk
end Go.Proofs.YtgigkennhdolpaaGreatDoor.Df
