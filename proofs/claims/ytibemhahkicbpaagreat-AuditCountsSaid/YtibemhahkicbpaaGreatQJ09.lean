/- Lemmas; conditions told. -/
import Derived.Test.YtibemhahkicbpaaGreatQJ08
import Derived.Test.YtibemhahkicbpaaGreatProg
import Derived.Shelf.Abstract
set_option maxRecDepth 99999
set_option maxHeartbeats 0
set_option linter.unusedSimpArgs false
set_option linter.unusedVariables false
namespace Go.Proofs.YtibemhahkicbpaaGreat
open List(all_eq_true mem_range getElem?_eq_getElem set_cons_succ getElem?_set_ne getElem?_set_self length_set)
open Nat(zero_add lt_of_lt_of_le le_refl add_zero)
section
open Tryz
def QoI:List (Nat×TI):=[(1,⟨1,false,0,[],[.nilFunc],none,8,false,7,true⟩),
 (2,⟨1,false,0,[],[.int .i64 0],some .i64,8,false,3,true⟩),
 (3,⟨1,false,0,[],[.int .i64 0],some .i64,8,false,3,true⟩),
 (4,⟨1,false,0,[],[.bool false],none,1,false,5,true⟩),
 (5,⟨1,false,0,[],[.int .u8 0],some .u8,1,false,3,true⟩),
 (6,⟨1,false,0,[],[.int .u8 0],some .u8,1,false,3,true⟩),
 (7,⟨4,true,0,[(0,2),(1,3),(2,4),(3,6)],[.int .i64 0,.int .i64 0,.bool false,.int .u8 0],none,24,false,1,true⟩),
 (8,⟨4,true,0,[(0,2),(1,3),(2,4),(3,6)],[.int .i64 0,.int .i64 0,.bool false,.int .u8 0],none,24,false,1,true⟩),
 (9,⟨1,false,0,[],[.string ⟨#[]⟩],none,16,false,6,true⟩),
 (10,⟨1,false,0,[],[.string ⟨#[]⟩],none,16,false,6,true⟩),
 (11,⟨1,false,0,[],[.string ⟨#[]⟩],none,16,false,6,true⟩),
 (12,⟨1,false,0,[],[.int .u64 0],some .u64,8,false,3,true⟩),
 (13,⟨2,true,0,[(0,9),(1,12)],[.string ⟨#[]⟩,.int .u64 0],none,24,false,1,true⟩),
 (14,⟨2,true,0,[(0,9),(1,12)],[.string ⟨#[]⟩,.int .u64 0],none,24,false,1,true⟩),
 (15,⟨1,false,0,[],[.pointer none],none,8,false,4,true⟩),
 (16,⟨1,false,0,[],[.pointer none],none,8,false,4,true⟩),
 (17,⟨1,false,0,[],[.pointer none],none,8,false,4,true⟩),
 (18,⟨1,true,0,[(0,17)],[.pointer none],none,8,false,1,true⟩),
 (19,⟨1,true,0,[(0,17)],[.pointer none],none,8,false,1,true⟩),
 (21,⟨1,false,0,[],[.int .i32 0],some .i32,4,false,3,true⟩),
 (22,⟨1,false,5,[],[.slice none 0 0],none,24,true,2,true⟩),
 (23,⟨1,false,3,[],[.slice none 0 0],none,24,true,2,true⟩),
 (24,⟨1,false,0,[],[.nilFunc],none,8,false,7,true⟩),
 (25,⟨1,false,0,[],[.nilFunc],none,8,false,7,true⟩),
 (26,⟨1,false,21,[],[.slice none 0 0],none,24,true,2,true⟩),
 (27,⟨4,true,0,[(0,3),(1,3),(2,26),(3,23)],[.int .i64 0,.int .i64 0,.slice none 0 0,.slice none 0 0],none,64,false,1,true⟩),
 (28,⟨4,true,0,[(0,3),(1,3),(2,26),(3,23)],[.int .i64 0,.int .i64 0,.slice none 0 0,.slice none 0 0],none,64,false,1,true⟩),
 (29,⟨1,false,0,[],[.pointer none],none,8,false,4,true⟩),
 (30,⟨1,false,146,[],[.slice none 0 0],none,24,true,2,true⟩),
 (31,⟨7,true,0,[(0,28),(4,29),(5,3),(6,30)],[.int .i64 0,.int .i64 0,.slice none 0 0,.slice none 0 0,.pointer none,.int .i64 0,.slice none 0 0],none,104,false,1,true⟩),
 (32,⟨7,true,0,[(0,28),(4,29),(5,3),(6,30)],[.int .i64 0,.int .i64 0,.slice none 0 0,.slice none 0 0,.pointer none,.int .i64 0,.slice none 0 0],none,104,false,1,true⟩),
 (33,⟨1,false,0,[],[.nilFunc],none,8,false,7,true⟩),
 (34,⟨1,false,0,[],[.pointer none],none,8,false,4,true⟩),
 (35,⟨1,false,0,[],[.nilFunc],none,8,false,7,true⟩),
 (36,⟨1,false,0,[],[.pointer none],none,8,false,4,true⟩),
 (37,⟨5,true,0,[(0,29),(1,3),(2,3),(3,3),(4,36)],[.pointer none,.int .i64 0,.int .i64 0,.int .i64 0,.pointer none],none,40,false,1,true⟩),
 (38,⟨5,true,0,[(0,29),(1,3),(2,3),(3,3),(4,36)],[.pointer none,.int .i64 0,.int .i64 0,.int .i64 0,.pointer none],none,40,false,1,true⟩),
 (40,⟨1,false,0,[],[.nilFunc],none,8,false,7,true⟩),
 (41,⟨2,true,0,[(0,3),(1,3)],[.int .i64 0,.int .i64 0],none,16,false,1,true⟩),
 (42,⟨2,true,0,[(0,3),(1,3)],[.int .i64 0,.int .i64 0],none,16,false,1,true⟩),
 (44,⟨1,false,0,[],[.nilFunc],none,8,false,7,true⟩),
 (45,⟨7,true,0,[(0,23),(1,3),(2,3),(3,3),(4,3),(5,4),(6,22)],[.slice none 0 0,.int .i64 0,.int .i64 0,.int .i64 0,.int .i64 0,.bool false,.slice none 0 0],none,88,false,1,true⟩),
 (46,⟨7,true,0,[(0,23),(1,3),(2,3),(3,3),(4,3),(5,4),(6,22)],[.slice none 0 0,.int .i64 0,.int .i64 0,.int .i64 0,.int .i64 0,.bool false,.slice none 0 0],none,88,false,1,true⟩),
 (48,⟨1,false,0,[],[.nilFunc],none,8,false,7,true⟩),
 (49,⟨1,false,58,[],[.slice none 0 0],none,24,true,2,true⟩),
 (50,⟨1,false,0,[],[.nilFunc],none,8,false,7,true⟩),
 (51,⟨4,true,0,[(0,3),(1,3),(2,26),(3,23)],[.int .i64 0,.int .i64 0,.slice none 0 0,.slice none 0 0],none,64,false,1,true⟩),
 (52,⟨1,false,9,[],[.slice none 0 0],none,24,true,2,true⟩),
 (53,⟨1,false,107,[],[.slice none 0 0],none,24,true,2,true⟩),
 (54,⟨1,false,157,[],[.slice none 0 0],none,24,true,2,true⟩),
 (55,⟨8,true,0,[(0,22),(1,51),(5,52),(6,53),(7,54)],[.slice none 0 0,.int .i64 0,.int .i64 0,.slice none 0 0,.slice none 0 0,.slice none 0 0,.slice none 0 0,.slice none 0 0],none,160,false,1,true⟩),
 (56,⟨8,true,0,[(0,22),(1,51),(5,52),(6,53),(7,54)],[.slice none 0 0,.int .i64 0,.int .i64 0,.slice none 0 0,.slice none 0 0,.slice none 0 0,.slice none 0 0,.slice none 0 0],none,160,false,1,true⟩),
 (57,⟨3,true,0,[(0,21),(1,3),(2,3)],[.int .i32 0,.int .i64 0,.int .i64 0],none,24,false,1,true⟩),
 (58,⟨3,true,0,[(0,21),(1,3),(2,3)],[.int .i32 0,.int .i64 0,.int .i64 0],none,24,false,1,true⟩),
 (59,⟨3,true,0,[(0,3),(1,3),(2,3)],[.int .i64 0,.int .i64 0,.int .i64 0],none,24,false,1,true⟩),
 (60,⟨3,true,0,[(0,3),(1,3),(2,3)],[.int .i64 0,.int .i64 0,.int .i64 0],none,24,false,1,true⟩),
 (62,⟨1,false,0,[],[.nilFunc],none,8,false,7,true⟩),
 (63,⟨1,false,0,[],[.nilFunc],none,8,false,7,true⟩),
 (64,⟨1,false,0,[],[.nilFunc],none,8,false,7,true⟩),
 (65,⟨1,false,0,[],[.nilFunc],none,8,false,7,true⟩),
 (67,⟨1,false,0,[],[.nilFunc],none,8,false,7,true⟩),
 (68,⟨1,false,0,[],[.nilFunc],none,8,false,7,true⟩),
 (69,⟨1,false,0,[],[.nilFunc],none,8,false,7,true⟩),
 (71,⟨1,false,0,[],[.nilFunc],none,8,false,7,true⟩),
 (72,⟨1,false,0,[],[.nilFunc],none,8,false,7,true⟩),
 (73,⟨1,false,0,[],[.nilFunc],none,8,false,7,true⟩),
 (74,⟨1,false,23,[],[.slice none 0 0],none,24,true,2,true⟩),
 (75,⟨1,false,0,[],[.nilFunc],none,8,false,7,true⟩),
 (76,⟨1,false,46,[],[.slice none 0 0],none,24,true,2,true⟩),
 (77,⟨1,false,0,[],[.nilFunc],none,8,false,7,true⟩),
 (78,⟨1,false,38,[],[.slice none 0 0],none,24,true,2,true⟩),
 (79,⟨1,false,0,[],[.nilFunc],none,8,false,7,true⟩),
 (80,⟨1,false,0,[],[.nilFunc],none,8,false,7,true⟩),
 (81,⟨1,false,0,[],[.nilFunc],none,8,false,7,true⟩),
 (82,⟨12,true,3,[],[.int .i64 0,.int .i64 0,.int .i64 0,.int .i64 0,.int .i64 0,.int .i64 0,.int .i64 0,.int .i64 0,.int .i64 0,.int .i64 0,.int .i64 0,.int .i64 0],none,96,false,112,true⟩),
 (83,⟨6,true,3,[],[.int .i64 0,.int .i64 0,.int .i64 0,.int .i64 0,.int .i64 0,.int .i64 0],none,48,false,106,true⟩),
 (84,⟨26,true,0,[(0,3),(1,3),(2,3),(3,3),(4,3),(5,3),(6,3),(7,3),(8,82),(20,83)],[.int .i64 0,.int .i64 0,.int .i64 0,.int .i64 0,.int .i64 0,.int .i64 0,.int .i64 0,.int .i64 0,.int .i64 0,.int .i64 0,.int .i64 0,.int .i64 0,.int .i64 0,.int .i64 0,.int .i64 0,.int .i64 0,.int .i64 0,.int .i64 0,.int .i64 0,.int .i64 0,.int .i64 0,.int .i64 0,.int .i64 0,.int .i64 0,.int .i64 0,.int .i64 0],none,208,false,1,true⟩),
 (85,⟨26,true,0,[(0,3),(1,3),(2,3),(3,3),(4,3),(5,3),(6,3),(7,3),(8,82),(20,83)],[.int .i64 0,.int .i64 0,.int .i64 0,.int .i64 0,.int .i64 0,.int .i64 0,.int .i64 0,.int .i64 0,.int .i64 0,.int .i64 0,.int .i64 0,.int .i64 0,.int .i64 0,.int .i64 0,.int .i64 0,.int .i64 0,.int .i64 0,.int .i64 0,.int .i64 0,.int .i64 0,.int .i64 0,.int .i64 0,.int .i64 0,.int .i64 0,.int .i64 0,.int .i64 0],none,208,false,1,true⟩),
 (86,⟨1,false,0,[],[.nilFunc],none,8,false,7,true⟩),
 (87,⟨1,false,0,[],[.nilFunc],none,8,false,7,true⟩),
 (88,⟨26,true,0,[(0,3),(1,3),(2,3),(3,3),(4,3),(5,3),(6,3),(7,3),(8,82),(20,83)],[.int .i64 0,.int .i64 0,.int .i64 0,.int .i64 0,.int .i64 0,.int .i64 0,.int .i64 0,.int .i64 0,.int .i64 0,.int .i64 0,.int .i64 0,.int .i64 0,.int .i64 0,.int .i64 0,.int .i64 0,.int .i64 0,.int .i64 0,.int .i64 0,.int .i64 0,.int .i64 0,.int .i64 0,.int .i64 0,.int .i64 0,.int .i64 0,.int .i64 0,.int .i64 0],none,208,false,1,true⟩),
 (89,⟨1,false,0,[],[.nilFunc],none,8,false,7,true⟩),
 (90,⟨1,false,0,[],[.nilFunc],none,8,false,7,true⟩),
 (91,⟨1,false,0,[],[.nilFunc],none,8,false,7,true⟩),
 (92,⟨1,false,0,[],[.nilFunc],none,8,false,7,true⟩),
 (93,⟨1,false,0,[],[.nilFunc],none,8,false,7,true⟩),
 (94,⟨1,false,0,[],[.pointer none],none,8,false,4,true⟩),
 (95,⟨1,false,0,[],[.nilFunc],none,8,false,7,true⟩),
 (96,⟨1,false,0,[],[.nilFunc],none,8,false,7,true⟩),
 (97,⟨1,false,0,[],[.pointer none],none,8,false,4,true⟩),
 (98,⟨2,true,0,[(0,26),(1,23)],[.slice none 0 0,.slice none 0 0],none,48,false,1,true⟩),
 (99,⟨2,true,0,[(0,26),(1,23)],[.slice none 0 0,.slice none 0 0],none,48,false,1,true⟩),
 (100,⟨1,false,99,[],[.slice none 0 0],none,24,true,2,true⟩),
 (101,⟨3,true,0,[(0,22),(1,94),(2,100)],[.slice none 0 0,.pointer none,.slice none 0 0],none,56,false,1,true⟩),
 (102,⟨3,true,0,[(0,22),(1,94),(2,100)],[.slice none 0 0,.pointer none,.slice none 0 0],none,56,false,1,true⟩),
 (103,⟨1,false,0,[],[.nilFunc],none,8,false,7,true⟩),
 (104,⟨1,false,0,[],[.nilFunc],none,8,false,7,true⟩),
 (105,⟨1,false,0,[],[.nilFunc],none,8,false,7,true⟩),
 (106,⟨3,true,0,[(0,3),(1,3),(2,22)],[.int .i64 0,.int .i64 0,.slice none 0 0],none,40,false,1,true⟩),
 (107,⟨3,true,0,[(0,3),(1,3),(2,22)],[.int .i64 0,.int .i64 0,.slice none 0 0],none,40,false,1,true⟩),
 (108,⟨1,false,0,[],[.nilFunc],none,8,false,7,true⟩),
 (109,⟨1,false,0,[],[.nilFunc],none,8,false,7,true⟩),
 (110,⟨1,false,112,[],[.slice none 0 0],none,24,true,2,true⟩),
 (111,⟨1,false,0,[],[.nilFunc],none,8,false,7,true⟩),
 (112,⟨3,true,0,[(0,21),(1,3),(2,3)],[.int .i32 0,.int .i64 0,.int .i64 0],none,24,false,1,true⟩),
 (113,⟨3,true,0,[(0,3),(1,3),(2,3)],[.int .i64 0,.int .i64 0,.int .i64 0],none,24,false,1,true⟩),
 (114,⟨1,false,119,[],[.slice none 0 0],none,24,true,2,true⟩),
 (115,⟨6,true,0,[(0,113),(3,114),(4,4),(5,4)],[.int .i64 0,.int .i64 0,.int .i64 0,.slice none 0 0,.bool false,.bool false],none,56,false,1,true⟩),
 (116,⟨6,true,0,[(0,113),(3,114),(4,4),(5,4)],[.int .i64 0,.int .i64 0,.int .i64 0,.slice none 0 0,.bool false,.bool false],none,56,false,1,true⟩),
 (117,⟨1,false,0,[],[.nilFunc],none,8,false,7,true⟩),
 (118,⟨9,true,0,[(0,113),(3,113),(6,113)],[.int .i64 0,.int .i64 0,.int .i64 0,.int .i64 0,.int .i64 0,.int .i64 0,.int .i64 0,.int .i64 0,.int .i64 0],none,72,false,1,true⟩),
 (119,⟨9,true,0,[(0,113),(3,113),(6,113)],[.int .i64 0,.int .i64 0,.int .i64 0,.int .i64 0,.int .i64 0,.int .i64 0,.int .i64 0,.int .i64 0,.int .i64 0],none,72,false,1,true⟩),
 (120,⟨1,false,0,[],[.nilFunc],none,8,false,7,true⟩),
 (121,⟨1,false,0,[],[.nilFunc],none,8,false,7,true⟩),
 (122,⟨1,false,0,[],[.nilFunc],none,8,false,7,true⟩),
 (123,⟨1,false,128,[],[.slice none 0 0],none,24,true,2,true⟩),
 (124,⟨6,true,0,[(0,60),(3,123),(4,4),(5,4)],[.int .i64 0,.int .i64 0,.int .i64 0,.slice none 0 0,.bool false,.bool false],none,56,false,1,true⟩),
 (125,⟨6,true,0,[(0,60),(3,123),(4,4),(5,4)],[.int .i64 0,.int .i64 0,.int .i64 0,.slice none 0 0,.bool false,.bool false],none,56,false,1,true⟩),
 (126,⟨1,false,0,[],[.nilFunc],none,8,false,7,true⟩),
 (127,⟨9,true,0,[(0,60),(3,60),(6,60)],[.int .i64 0,.int .i64 0,.int .i64 0,.int .i64 0,.int .i64 0,.int .i64 0,.int .i64 0,.int .i64 0,.int .i64 0],none,72,false,1,true⟩),
 (128,⟨9,true,0,[(0,60),(3,60),(6,60)],[.int .i64 0,.int .i64 0,.int .i64 0,.int .i64 0,.int .i64 0,.int .i64 0,.int .i64 0,.int .i64 0,.int .i64 0],none,72,false,1,true⟩),
 (129,⟨1,false,0,[],[.nilFunc],none,8,false,7,true⟩),
 (130,⟨1,false,0,[],[.nilFunc],none,8,false,7,true⟩),
 (131,⟨1,false,0,[],[.nilFunc],none,8,false,7,true⟩),
 (132,⟨1,false,0,[],[.nilFunc],none,8,false,7,true⟩),
 (133,⟨1,false,0,[],[.nilFunc],none,8,false,7,true⟩),
 (134,⟨1,false,0,[],[.nilFunc],none,8,false,7,true⟩),
 (135,⟨1,false,0,[],[.nilFunc],none,8,false,7,true⟩),
 (136,⟨1,false,0,[],[.nilFunc],none,8,false,7,true⟩),
 (137,⟨1,false,0,[],[.nilFunc],none,8,false,7,true⟩),
 (138,⟨1,false,0,[],[.nilFunc],none,8,false,7,true⟩),
 (139,⟨1,false,0,[],[.int .i64 0],some .i64,8,false,3,true⟩),
 (141,⟨1,false,0,[],[.nilFunc],none,8,false,7,true⟩),
 (142,⟨1,false,0,[],[.nilFunc],none,8,false,7,true⟩),
 (143,⟨1,false,0,[],[.nilFunc],none,8,false,7,true⟩),
 (144,⟨1,false,0,[],[.nilFunc],none,8,false,7,true⟩),
 (145,⟨3,true,0,[(0,42),(2,3)],[.int .i64 0,.int .i64 0,.int .i64 0],none,24,false,1,true⟩),
 (146,⟨3,true,0,[(0,42),(2,3)],[.int .i64 0,.int .i64 0,.int .i64 0],none,24,false,1,true⟩),
 (147,⟨1,false,149,[],[.slice none 0 0],none,24,true,2,true⟩),
 (148,⟨1,false,0,[],[.nilFunc],none,8,false,7,true⟩),
 (149,⟨2,true,3,[],[.int .i64 0,.int .i64 0],none,16,false,102,true⟩),
 (150,⟨1,false,153,[],[.slice none 0 0],none,24,true,2,true⟩),
 (151,⟨1,false,0,[],[.nilFunc],none,8,false,7,true⟩),
 (152,⟨4,true,0,[(0,3),(1,3),(2,3),(3,4)],[.int .i64 0,.int .i64 0,.int .i64 0,.bool false],none,32,false,1,true⟩),
 (153,⟨4,true,0,[(0,3),(1,3),(2,3),(3,4)],[.int .i64 0,.int .i64 0,.int .i64 0,.bool false],none,32,false,1,true⟩),
 (155,⟨1,false,0,[],[.nilFunc],none,8,false,7,true⟩),
 (156,⟨3,true,0,[(0,3),(1,3),(2,3)],[.int .i64 0,.int .i64 0,.int .i64 0],none,24,false,1,true⟩),
 (157,⟨3,true,0,[(0,3),(1,3),(2,3)],[.int .i64 0,.int .i64 0,.int .i64 0],none,24,false,1,true⟩),
 (158,⟨1,false,0,[],[.nilFunc],none,8,false,7,true⟩),
 (159,⟨1,false,0,[],[.nilFunc],none,8,false,7,true⟩),
 (160,⟨1,false,0,[],[.pointer none],none,8,false,4,true⟩),
 (161,⟨2,true,0,[(0,160),(1,22)],[.pointer none,.slice none 0 0],none,32,false,1,true⟩),
 (162,⟨2,true,0,[(0,160),(1,22)],[.pointer none,.slice none 0 0],none,32,false,1,true⟩),
 (163,⟨8,true,9,[],[.string ⟨#[]⟩,.string ⟨#[]⟩,.string ⟨#[]⟩,.string ⟨#[]⟩,.string ⟨#[]⟩,.string ⟨#[]⟩,.string ⟨#[]⟩,.string ⟨#[]⟩],none,128,false,108,true⟩),
 (164,⟨8,true,3,[],[.int .i64 0,.int .i64 0,.int .i64 0,.int .i64 0,.int .i64 0,.int .i64 0,.int .i64 0,.int .i64 0],none,64,false,108,true⟩),
 (168,⟨1,false,0,[],[.nilFunc],none,8,false,7,true⟩),
 (169,⟨1,false,0,[],[.nilFunc],none,8,false,7,true⟩),
 (170,⟨1,false,0,[],[.nilFunc],none,8,false,7,true⟩),
 (171,⟨1,false,0,[],[.nilFunc],none,8,false,7,true⟩),
 (173,⟨1,false,0,[],[.nilFunc],none,8,false,7,true⟩),
 (175,⟨1,false,0,[],[.nilFunc],none,8,false,7,true⟩),
 (176,⟨1,false,182,[],[.slice none 0 0],none,24,true,2,true⟩),
 (177,⟨1,true,0,[(0,176)],[.slice none 0 0],none,24,false,1,true⟩),
 (178,⟨1,true,0,[(0,176)],[.slice none 0 0],none,24,false,1,true⟩),
 (179,⟨1,false,0,[],[.pointer none],none,8,false,4,true⟩),
 (180,⟨1,false,0,[],[.nilFunc],none,8,false,7,true⟩),
 (181,⟨6,true,0,[(0,3),(1,3),(2,3),(3,4),(4,22),(5,23)],[.int .i64 0,.int .i64 0,.int .i64 0,.bool false,.slice none 0 0,.slice none 0 0],none,80,false,1,true⟩),
 (182,⟨6,true,0,[(0,3),(1,3),(2,3),(3,4),(4,22),(5,23)],[.int .i64 0,.int .i64 0,.int .i64 0,.bool false,.slice none 0 0,.slice none 0 0],none,80,false,1,true⟩),
 (183,⟨1,false,185,[],[.slice none 0 0],none,24,true,2,true⟩),
 (184,⟨1,false,0,[],[.nilFunc],none,8,false,7,true⟩),
 (185,⟨4,true,0,[(0,3),(1,3),(2,3),(3,4)],[.int .i64 0,.int .i64 0,.int .i64 0,.bool false],none,32,false,1,true⟩),
 (186,⟨1,false,0,[],[.nilFunc],none,8,false,7,true⟩),
 (188,⟨1,false,0,[],[.nilFunc],none,8,false,7,true⟩),
 (189,⟨1,false,0,[],[.nilFunc],none,8,false,7,true⟩),
 (190,⟨1,false,0,[],[.nilFunc],none,8,false,7,true⟩),
 (191,⟨1,false,0,[],[.nilFunc],none,8,false,7,true⟩),
 (192,⟨1,false,0,[],[.nilFunc],none,8,false,7,true⟩),
 (193,⟨1,false,0,[],[.nilFunc],none,8,false,7,true⟩),
 (194,⟨1,false,0,[],[.nilFunc],none,8,false,7,true⟩),
 (195,⟨1,false,0,[],[.pointer none],none,8,false,4,true⟩),
 (196,⟨1,false,113,[],[.slice none 0 0],none,24,true,2,true⟩),
 (197,⟨1,false,0,[],[.nilFunc],none,8,false,7,true⟩),
 (198,⟨2,true,0,[(0,196),(1,3)],[.slice none 0 0,.int .i64 0],none,32,false,1,true⟩),
 (199,⟨2,true,0,[(0,196),(1,3)],[.slice none 0 0,.int .i64 0],none,32,false,1,true⟩),
 (200,⟨1,false,0,[],[.nilFunc],none,8,false,7,true⟩),
 (202,⟨1,false,0,[],[.nilFunc],none,8,false,7,true⟩),
 (203,⟨1,false,0,[],[.nilFunc],none,8,false,7,true⟩),
 (204,⟨1,false,0,[],[.nilFunc],none,8,false,7,true⟩),
 (205,⟨1,false,0,[],[.nilFunc],none,8,false,7,true⟩),
 (207,⟨1,false,0,[],[.nilFunc],none,8,false,7,true⟩),
 (208,⟨1,false,0,[],[.nilFunc],none,8,false,7,true⟩),
 (209,⟨1,false,0,[],[.nilFunc],none,8,false,7,true⟩),
 (210,⟨1,false,60,[],[.slice none 0 0],none,24,true,2,true⟩),
 (211,⟨1,false,0,[],[.nilFunc],none,8,false,7,true⟩),
 (212,⟨1,false,0,[],[.nilFunc],none,8,false,7,true⟩),
 (214,⟨1,false,0,[],[.nilFunc],none,8,false,7,true⟩),
 (215,⟨1,false,0,[],[.nilFunc],none,8,false,7,true⟩),
 (216,⟨1,false,0,[],[.nilFunc],none,8,false,7,true⟩),
 (217,⟨1,false,0,[],[.nilFunc],none,8,false,7,true⟩),
 (218,⟨1,false,0,[],[.pointer none],none,8,false,4,true⟩),
 (219,⟨1,false,0,[],[.nilFunc],none,8,false,7,true⟩),
 (220,⟨1,false,0,[],[.nilFunc],none,8,false,7,true⟩),
 (221,⟨1,false,0,[],[.nilFunc],none,8,false,7,true⟩),
 (222,⟨1,false,0,[],[.nilFunc],none,8,false,7,true⟩),
 (223,⟨1,false,0,[],[.nilFunc],none,8,false,7,true⟩),
 (224,⟨1,false,0,[],[.nilFunc],none,8,false,7,true⟩),
 (225,⟨1,false,0,[],[.pointer none],none,8,false,4,true⟩),
 (227,⟨1,false,0,[],[.nilFunc],none,8,false,7,true⟩),
 (228,⟨1,false,0,[],[.nilFunc],none,8,false,7,true⟩),
 (229,⟨1,false,0,[],[.nilFunc],none,8,false,7,true⟩),
 (230,⟨1,false,0,[],[.int .u64 0],some .u64,8,false,3,true⟩),
 (231,⟨3,true,0,[(0,9),(1,3),(2,3)],[.string ⟨#[]⟩,.int .i64 0,.int .i64 0],none,32,false,1,true⟩),
 (232,⟨3,true,0,[(0,9),(1,3),(2,3)],[.string ⟨#[]⟩,.int .i64 0,.int .i64 0],none,32,false,1,true⟩),
 (233,⟨15,true,232,[],[.string ⟨#[]⟩,.int .i64 0,.int .i64 0,.string ⟨#[]⟩,.int .i64 0,.int .i64 0,.string ⟨#[]⟩,.int .i64 0,.int .i64 0,.string ⟨#[]⟩,.int .i64 0,.int .i64 0,.string ⟨#[]⟩,.int .i64 0,.int .i64 0],none,160,false,105,true⟩),
 (234,⟨1,false,0,[],[.nilFunc],none,8,false,7,true⟩),
 (236,⟨1,false,0,[],[.nilFunc],none,8,false,7,true⟩),
 (237,⟨1,false,0,[],[.nilFunc],none,8,false,7,true⟩),
 (238,⟨1,false,0,[],[.nilFunc],none,8,false,7,true⟩),
 (239,⟨1,false,0,[],[.nilFunc],none,8,false,7,true⟩),
 (240,⟨1,false,0,[],[.nilFunc],none,8,false,7,true⟩),
 (241,⟨1,false,0,[],[.nilFunc],none,8,false,7,true⟩),
 (242,⟨1,false,0,[],[.nilFunc],none,8,false,7,true⟩),
 (243,⟨1,false,0,[],[.nilFunc],none,8,false,7,true⟩),
 (244,⟨1,false,0,[],[.nilFunc],none,8,false,7,true⟩),
 (245,⟨1,false,0,[],[.nilFunc],none,8,false,7,true⟩),
 (246,⟨1,false,0,[],[.nilFunc],none,8,false,7,true⟩),
 (247,⟨1,false,0,[],[.nilFunc],none,8,false,7,true⟩),
 (248,⟨1,false,0,[],[.nilFunc],none,8,false,7,true⟩),
 (249,⟨1,false,0,[],[.nilFunc],none,8,false,7,true⟩),
 (250,⟨1,false,0,[],[.nilFunc],none,8,false,7,true⟩),
 (251,⟨1,false,0,[],[.nilFunc],none,8,false,7,true⟩),
 (253,⟨1,false,0,[],[.nilFunc],none,8,false,7,true⟩),
 (254,⟨1,false,0,[],[.nilFunc],none,8,false,7,true⟩),
 (255,⟨1,false,0,[],[.nilFunc],none,8,false,7,true⟩),
 (256,⟨1,false,0,[],[.int .i64 0],some .i64,8,false,3,true⟩),
 (258,⟨1,false,0,[],[.nilFunc],none,8,false,7,true⟩),
 (259,⟨1,false,0,[],[.nilFunc],none,8,false,7,true⟩),
 (260,⟨1,false,0,[],[.nilFunc],none,8,false,7,true⟩),
 (261,⟨1,false,0,[],[.nilFunc],none,8,false,7,true⟩),
 (262,⟨1,false,0,[],[.nilFunc],none,8,false,7,true⟩),
 (263,⟨1,false,0,[],[.int .u32 0],some .u32,4,false,3,true⟩),
 (264,⟨1,false,0,[],[.nilFunc],none,8,false,7,true⟩),
 (265,⟨1,false,0,[],[.int .u64 0],some .u64,8,false,3,true⟩),
 (266,⟨1,false,0,[],[.nilFunc],none,8,false,7,true⟩),
 (267,⟨1,false,0,[],[.nilFunc],none,8,false,7,true⟩),
 (268,⟨1,false,0,[],[.nilFunc],none,8,false,7,true⟩),
 (269,⟨1,false,0,[],[.nilFunc],none,8,false,7,true⟩),
 (270,⟨1,false,0,[],[.nilFunc],none,8,false,7,true⟩),
 (271,⟨1,false,0,[],[.nilFunc],none,8,false,7,true⟩),
 (272,⟨1,false,0,[],[.nilFunc],none,8,false,7,true⟩),
 (273,⟨1,false,0,[],[.nilFunc],none,8,false,7,true⟩),
 (274,⟨1,false,0,[],[.nilFunc],none,8,false,7,true⟩),
 (275,⟨1,false,0,[],[.nilFunc],none,8,false,7,true⟩),
 (276,⟨1,false,0,[],[.nilFunc],none,8,false,7,true⟩),
 (277,⟨1,false,0,[],[.nilFunc],none,8,false,7,true⟩),
 (278,⟨1,false,0,[],[.nilFunc],none,8,false,7,true⟩),
 (279,⟨1,false,0,[],[.int .u64 0],some .u64,8,false,3,true⟩),
 (280,⟨1,false,0,[],[.nilFunc],none,8,false,7,true⟩),
 (281,⟨1,false,0,[],[.nilFunc],none,8,false,7,true⟩),
 (282,⟨1,false,0,[],[.nilFunc],none,8,false,7,true⟩),
 (283,⟨1,false,0,[],[.pointer none],none,8,false,4,true⟩),
 (284,⟨1,false,0,[],[.nilFunc],none,8,false,7,true⟩),
 (285,⟨1,false,0,[],[.nilFunc],none,8,false,7,true⟩),
 (286,⟨1,false,0,[],[.nilFunc],none,8,false,7,true⟩),
 (287,⟨1,false,0,[],[.nilFunc],none,8,false,7,true⟩),
 (288,⟨1,false,0,[],[.pointer none],none,8,false,4,true⟩),
 (289,⟨1,false,0,[],[.nilFunc],none,8,false,7,true⟩),
 (290,⟨1,false,0,[],[.nilFunc],none,8,false,7,true⟩),
 (291,⟨1,false,0,[],[.nilFunc],none,8,false,7,true⟩),
 (292,⟨1,false,0,[],[.nilFunc],none,8,false,7,true⟩),
 (293,⟨1,false,0,[],[.nilFunc],none,8,false,7,true⟩),
 (294,⟨1,false,0,[],[.nilFunc],none,8,false,7,true⟩),
 (295,⟨2,true,0,[(0,21),(1,21)],[.int .i32 0,.int .i32 0],none,8,false,1,true⟩),
 (296,⟨2,true,0,[(0,21),(1,21)],[.int .i32 0,.int .i32 0],none,8,false,1,true⟩),
 (297,⟨1,false,296,[],[.slice none 0 0],none,24,true,2,true⟩),
 (298,⟨1,false,0,[],[.nilFunc],none,8,false,7,true⟩),
 (299,⟨1,false,0,[],[.nilFunc],none,8,false,7,true⟩),
 (301,⟨1,false,0,[],[.nilFunc],none,8,false,7,true⟩),
 (302,⟨4,true,0,[(0,17),(1,17),(2,17),(3,9)],[.pointer none,.pointer none,.pointer none,.string ⟨#[]⟩],none,40,false,1,true⟩),
 (303,⟨4,true,0,[(0,17),(1,17),(2,17),(3,9)],[.pointer none,.pointer none,.pointer none,.string ⟨#[]⟩],none,40,false,1,true⟩),
 (304,⟨0,true,16,[],[],none,0,false,100,true⟩),
 (305,⟨0,true,0,[(0,304)],[],none,0,false,1,true⟩),
 (306,⟨0,true,0,[(0,304)],[],none,0,false,1,true⟩),
 (307,⟨1,false,0,[],[.int .u8 0],some .u8,1,false,3,true⟩),
 (308,⟨1,false,0,[],[.int .u8 0],some .u8,1,false,3,true⟩),
 (309,⟨1,false,0,[],[.nilFunc],none,8,false,7,true⟩),
 (310,⟨1,false,0,[],[.int .i32 0],some .i32,4,false,3,true⟩),
 (311,⟨1,false,0,[],[.int .i32 0],some .i32,4,false,3,true⟩),
 (312,⟨11,true,0,[(0,12),(1,12),(2,263),(3,307),(4,5),(5,5),(6,308),(7,309),(8,225),(9,310),(10,311)],[.int .u64 0,.int .u64 0,.int .u32 0,.int .u8 0,.int .u8 0,.int .u8 0,.int .u8 0,.nilFunc,.pointer none,.int .i32 0,.int .i32 0],none,48,false,1,true⟩),
 (313,⟨11,true,0,[(0,12),(1,12),(2,263),(3,307),(4,5),(5,5),(6,308),(7,309),(8,225),(9,310),(10,311)],[.int .u64 0,.int .u64 0,.int .u32 0,.int .u8 0,.int .u8 0,.int .u8 0,.int .u8 0,.nilFunc,.pointer none,.int .i32 0,.int .i32 0],none,48,false,1,true⟩),
 (314,⟨1,false,0,[],[.nilFunc],none,8,false,7,true⟩)]
def tys:Tys:=fun _=>QoI
theorem Q6k:TyOk prog tys:=by
 show QeQ prog QoI;unfold QoI;repeat refine TyOk.cons (TiOk.of (by kernel_rfl) (by kernel_rfl) (by kernel_rfl)) ?_
 exact TyOk.nil
end
section
open Go.RowKit Go.Lib
section
variable {P:Program}{ty:Tys}{w0 w:World}{g0:Gh}{o0:List Ob}{N:Nat}{s s':St}{a:Act}
theorem Q8B(ρ:List (Option Nat)){l:Eqs}(h:Qod o0 ρ s s'=some l)(hl:Qe l)(hs:Sim w0 g0 o0 N s a w):Sim w0 g0 o0 N s' a w:=by
 unfold Qod at h;split at h
 ·rename_i hk
  obtain⟨ho,hh,hn⟩:=hk;obtain⟨⟨l1,h1,vS⟩,l2,h2,v8⟩:=Q37 h hl;have hF:Fits s.ob s'.ob ρ:=Q4M _ _ _ h2 v8;obtain⟨g,M,hS,h0⟩:=hs.rel
  have head:∀j,j<o0.length->ρ[j]?=some (some j):=fun j hj=>by
   have:=all_eq_true.1 hh j (mem_range.2 hj)
   simp only[Bool.and_eq_true,beq_iff_eq]at this;exact this.1
  refine⟨hs.defers,hs.size,g.ren ρ,M.ren hF ho,fun t=>?_,?_⟩
  ·have:∀(l:List (Nat×AV)) (q:Eqs),Qoj s s' ρ l=some q->Qe q->ARel w (g.ren ρ) s'.ob (a.tmps.getD t undef) (lk t l):=by
    intro l;induction l with
    |nil=>intro _ _ _;trivial
    |cons p r ih =>
     obtain⟨u,x'⟩:=p;intro q hq hql;obtain⟨⟨q1,e1,a1⟩,q2,e2,a2⟩:=Q37 hq hql;show ARel w (g.ren ρ) s'.ob _ (if t=u then x' else lk t r);by_cases e:t=u
     ·subst e
      rw[if_pos rfl];exact Q88 hF ho (hS t) e1 a1
     ·rw[if_neg e];exact ih q2 e2 a2
   exact this _ _ h1 vS
  ·refine⟨h0.os,h0.tape,h0.output,h0.size,h0.keep,fun b id hG=>?_,h0.imm,⟨h0.ext.A,fun id hid=>?_,fun id hb=>?_,fun id hb=>?_,fun id et sz fz e xs hr=>?_,fun b id hG hs=>?_⟩,?_⟩
   ·obtain⟨i,_,h3⟩:=Q39 hG
    exact h0.own b i h3
   ·rw[Q3r (head id hid)];exact h0.ext.loc id hid
   ·exact hF.isB (head id (Q4o hb)) (h0.ext.isb id hb)
   ·exact hF.isI (head id (Q5g hb)) (h0.ext.isi id hb)
   ·have hid:=Qa hr
    obtain⟨fz1,e1,xs1,h3,h4,h5⟩:=h0.ext.row id et sz fz e xs hr;obtain⟨fz2,e2,h6,_⟩:=hF.row (head id hid) h3
    have he:e1=e2\/e<e2:=by
     have:=all_eq_true.1 hh id (mem_range.2 hid)
     simp only[Bool.and_eq_true,hr,h3,h6,beq_iff_eq,Bool.or_eq_true,decide_eq_true_eq]at this;exact this.2
    rcases he with he|he
    rotate_left
    ·exact⟨fz2,e2,xs1,h6,by omega,fun qg=>by omega⟩
    subst he;exact⟨fz2,e1,xs1,h6,h4,fun qg=>⟨(h5 qg).1,fun b hb=>⟨Q6i ho (head id hid) ((h5 qg).2 b hb).1,((h5 qg).2 b hb).2⟩⟩⟩
   ·obtain⟨et,sz,fz,fz',e,xs,xs',h3,h4⟩:=hs
    have hid:=Qa h3;obtain⟨fz1,e1,xs1,h5,h6,h7⟩:=h0.ext.row id et sz fz e xs h3;obtain⟨fz2,e2,h8,_⟩:=hF.row (head id hid) h5;rw[h8]at h4;obtain⟨rfl,rfl,rfl⟩:fz2=fz'/\e2=e/\xs1=xs':=by simpa using h4
    have he:e1=e2:=by
     have:=all_eq_true.1 hh id (mem_range.2 hid)
     simp only[Bool.and_eq_true,h3,h5,h8,beq_iff_eq,Bool.or_eq_true,decide_eq_true_eq]at this;omega
    subst he;obtain⟨h9,ju⟩:=h0.ext.sub b id hG ⟨_,_,_,_,_,_,_,h3,h5⟩;have yw:=Q4F (g:=g) ho (head id hid) ((h7 rfl).2 b hG).1;exact⟨yw.trans h9,ju⟩
   ·rw[<-hF.1];exact hn
 ·cases h
end
theorem Qc1(p:Nat->Prop)(h:∃n,p n):∃n,p n/\∀m,p m->n<=m:=by
 obtain⟨n,hn⟩:=h;induction n using Nat.strongRecOn with
 |_ n ih =>
  by_cases h:∃m,m<n/\p m
  ·obtain⟨m,h1,h2⟩:=h
   exact ih m h1 h2
  ·exact⟨n,hn,fun m hm=>Nat.le_of_not_lt fun jA=>h ⟨m,jA,hm⟩⟩
def Qn2(o0:List Ob)(s s':St):Prop:=∃ρ l,Qod o0 ρ s s'=some l/\Qe l
section
variable {P:Program}{ty:Tys}{w0:World}{g0:Gh}{o0:List Ob}{N:Nat}
def Q1{X:Type}(o0:List Ob)(S:X->St)(J:X->Prop)(μ:X->Nat)(x:X)(Q:Ex->St->Prop):Ex->St->Prop
 |.normal,s=>∃x',J x'/\μ x'<μ x/\Qn2 o0 s (S x')
 |e,s=>Q e s
theorem Qcq(hT:TyOk P ty)(hm:P.follows .mixedOrders=true){cs:Nat->List AV->List Ob->Option (AV×List Ob)}{ord:Nat->OT}{c:Code}(hd:Q4p N c=true)(ho:Q40 .any ty ord c=true)
  {X:Type} (S:X->St) (J:X->Prop) (μ:X->Nat) {Q:Ex->St->Prop} {s:St} (x0:X) (h0:J x0) (hS:Qn2 o0 s (S x0))
  (round:∀x,J x->(Q4 std ty cs ord c (fun e s=>.leaf e s) (S x)).ok P w0 g0 o0 N (Q1 o0 S J μ x Q)):WP P w0 g0 o0 N (.loop c) Q s:=by
 intro a w hs;obtain⟨ρ,l,hl,hE⟩:=hS;let I:Act->World->Prop:=fun a w=>∃x,J x/\Sim w0 g0 o0 N (S x) a w
 let pm:Act->World->Nat->Prop:=fun a w n=>∃x,J x/\Sim w0 g0 o0 N (S x) a w/\μ x=n
 let m:Act->World->Nat:=fun a w=>open Classical in if h:∃n,pm a w n then Classical.choose (Qc1 _ h)else 0
 have ym:∀a w,I a w->pm a w (m a w)/\∀k,pm a w k->m a w<=k:=fun a w hI=>by
  have h:∃n,pm a w n:=by
   obtain⟨x,h1,h2⟩:=hI;exact⟨μ x,x,h1,h2,rfl⟩
  have e:m a w=Classical.choose (Qc1 _ h):=dif_pos h;rw[e];exact Classical.choose_spec (Qc1 _ h)
 refine wp_loop I m ⟨x0,h0,Q8B ρ hl hE hs⟩ fun a w hI=>?_
 obtain⟨⟨x,hJ,hx,hμ⟩,jH⟩:=ym a w hI;refine Q5j (Q:=Q1 o0 S J μ x Q) hT hm c _ _ (S x) a w hd ho (fun c a d v w h=>?_) (fun e s a' w' jl hq=>?_) hx (round x hJ)
 ·obtain⟨e',s',h1,h2,h3⟩:=h
  cases e'<;>cases h1
 ·cases e with
  |normal =>
   obtain⟨x',h1,h2,ρ',l',h3,h4⟩:=hq;have jW:=Q8B ρ' h3 h4 jl;have nQ:I a' w':=⟨x',h1,jW⟩;refine⟨nQ,Nat.lt_of_le_of_lt ((ym a' w' nQ).2 _ ⟨x',h1,jW,rfl⟩) ?_⟩;rw[<-hμ];exact h2
  |exit i=>exact⟨.exit i,s,rfl,jl,hq⟩
  |ret=>exact⟨.ret,s,rfl,jl,hq⟩
end
section
variable {P:Program}{w w':World}{g:Gh}{ob:List Ob}
theorem Q2A{vs:List Value}(h:Q4X w g ob vs []):vs=[]:=List.eq_nil_of_length_eq_zero h.1
theorem Q13{vs:List Value}{x:AV}{r:List AV}(h:Q4X w g ob vs (x::r)):∃v vs',vs=v::vs'/\ARel1 w g ob v x/\Q4X w g ob vs' r:=by
 cases vs with
 |nil=>exact absurd h.1 (by simp)
 |cons v vs=>exact⟨v,vs,rfl,h.2 0 v x rfl rfl,by simpa using h.1,fun j a b ha hb=>h.2 (j+1) a b (by simpa using ha) (by simpa using hb)⟩
theorem Q31{v u:Value}(h:ARel1 w g ob v (.val u)):v=u:=ARel.valEq (ARel1.to h)
theorem QnT{v:Value}{sz:Nat}{xs:List AV}(h:ARel1 w g [] v (.slc sz xs))(M:Mem w g []) :
  ∃A c ys,v=.slice A xs.length c/\Rd w (fun _=>True) sz A xs.length c ys/\Alike w g.A ys (QQ xs) :=
 Q4L (s:=⟨[],[]⟩) M (ARel1.to h) rfl
theorem QbZ{A:Nat->Nat->Prop}{us:List Value}:∀{ys:List Value},Alike w A ys (us.map .val)->ys=us:=by
 induction us with
 |nil=>intro ys h;exact List.eq_nil_of_length_eq_zero h.1
 |cons u us ih =>
  intro ys h;cases ys with
  |nil=>exact absurd h.1 (by simp)
  |cons y ys =>
   have h1:PRel w A y (.val u):=h.2 0 y (.val u) rfl rfl;have h2:y=u:=by cases h1;rfl
   rw[h2,ih (ys:=ys) ⟨by simpa using h.1,fun j a b ha hb=>h.2 (j+1) a b (by simpa using ha) (by simpa using hb)⟩]
theorem Qai(us:List Value):QQ (us.map .val)=us.map .val:=by
 induction us with
 |nil=>rfl
 |cons u us ih=>simp only[QQ,List.map_cons,List.flatMap_cons]at ih ⊢;rw[ih];rfl
theorem Qln{A':Nat->Nat->Prop}{S:Nat->Prop}{sz n c:Nat}{A:Option Addr}{ys:List Value}{xs:List AV}(hr:Rd w S sz A n c ys)(hS:∀b o,S b->A' b o)(hn:n=xs.length)(hw:∀x∈xs,x.cells.length=sz)(hA:∀a,A=some a->∃b o,a=⟨b,o,none⟩)
  (ja:Alike w A' ys (QQ xs)):PRel w A' (.slice A n c) (.slc sz xs):=by
 subst hn;obtain⟨h1,h2,h3,h4,h5⟩:=hr;cases A with
 |none =>
  have hc:=h4 rfl;subst hc;have:xs=[]:=List.eq_nil_of_length_eq_zero (by omega)
  subst this;exact PRel.nil sz
 |some a =>
  obtain⟨b,o,rfl⟩:=hA a rfl
  have pos:∀(j:Nat) u,(QQ xs)[j]?=some u->0<xs.length:=fun j u hu=>by
   cases xs with
   |nil=>simp at hu
   |cons _ _=>simp
  have h5':0<xs.length->S b/\∀j u,ys[j]?=some u->w.cell? ⟨b,o+j,none⟩=some u:=fun h=>by
   obtain⟨b',o',h6,h7,h8⟩:=h5 h;cases h6;exact⟨h7,h8⟩
  have get:∀(j:Nat) u,(QQ xs)[j]?=some u->∃y,ys[j]?=some y/\ys.getD j undef=y:=fun j u hu=>by
   have hj:j<ys.length:=by rw[ja.1];exact Qa hu
   exact⟨ys[j],getElem?_eq_getElem hj,by rw[List.getD_eq_getElem?_getD,getElem?_eq_getElem hj];rfl⟩
  refine PRel.slc b o c sz xs (fun j=>ys.getD j undef) h2 h3 hw (fun j u hu=>?_) (fun j u hu=>?_)
  ·obtain⟨y,hy,he⟩:=get j u hu
   obtain⟨h7,h8⟩:=h5' (pos j u hu);exact⟨hS _ _ h7,by rw[he];exact h8 j y hy⟩
  ·obtain⟨y,hy,he⟩:=get j u hu
   rw[he];exact ja.2 j y u hy hu
theorem Qh2:∀{vs:List Value}{xs ys:List AV},Q4X w g ob vs xs->leT xs ys->Q4X w g ob vs ys
 |vs,[],[],h,_=>h
 |_,[],_::_,_,hl=>hl.elim
 |_,_::_,[],_,hl=>hl.elim
 | [],x::r,y::r',h,_=>absurd h.1 (by simp)
 |v::vs,x::r,y::r',h,hl=>by
  have h1:=h.2 0 v x rfl rfl;have h2:Q4X w g ob vs r':=Qh2 (xs:=r) ⟨by simpa using h.1,fun j a b ha hb=>h.2 (j+1) a b (by simpa using ha) (by simpa using hb)⟩ hl.2
  refine⟨by simp[h2.1],fun j a b ha hb=>?_⟩
  cases j with
  |zero =>
   obtain rfl:v=a:=by simpa using ha
   obtain rfl:y=b:=by simpa using hb
   exact Qay h1 hl.1
  |succ j=>exact h2.2 j a b (by simpa using ha) (by simpa using hb)
theorem BCall.le{f:Nat}{args args':List AV}{ob ob':List Ob}{res:AV}(h:BCall P f args' ob res ob')(hl:leT args args'):BCall P f args ob res ob' :=
 ⟨h.1,fun w g vs M hL=>h.2 w g vs M (Qh2 hL hl)⟩
theorem BCall.forget{f:Nat}{args:List AV}{ob ob':List Ob}{res:AV}(h:BCall P f args ob res ob'):BCall P f args ob .dead ob' :=
 ⟨h.1,fun w g vs M hL=>(h.2 w g vs M hL).mono fun e w' ⟨v,g',h1,h2,h3,h4⟩=>⟨v,g',h1,h2,trivial,h4⟩⟩
theorem BCall.res{f:Nat}{args:List AV}{ob ob':List Ob}{res res':AV}(h:BCall P f args ob res ob')(hl:leA res res'):BCall P f args ob res' ob' :=
 ⟨h.1,fun w g vs M hL=>(h.2 w g vs M hL).mono fun e w' ⟨v,g',h1,h2,h3,h4⟩=>⟨v,g',h1,h2,Q9I h3 hl,h4⟩⟩
theorem BCall.hand{f:Nat}{args:List AV}{res:AV}(he:∀vs w,(callFunc f vs).run P w=.ok (.enter f vs) w)
  (h:∀(w:World)(g:Gh)(vs:List Value),Mem w g []->Q4X w g [] vs args->Calls P f vs.toArray w fun e w'=>∃v,e=.returned v/\Below w.heap.size w w'/\ARel w' (g.imm w w') [] v res):BCall P f args [] res [] :=
 ⟨he,fun w g vs M hL=>(h w g vs M hL).mono fun e w' ⟨v,h1,hb,hr⟩=>⟨v,g.imm w w',h1,M.immNew hb,hr,Step.immNew M hb⟩⟩
end
end
section
open Go.RowKit Go.Lib Tryz
def Q6g(x:UInt8):AV:=.val (.int .u8 x.toNat)
def QgR(r:Int):AV:=.val (.int .i32 r)
def Qgf(n:Int):AV:=.val (.int .i64 n)
def Q2(b:List UInt8):List AV:=b.map Q6g
def Q0(l:List Int):List AV:=l.map QgR
def Q9(l:List Int):List AV:=l.map Qgf
theorem QdT{α:Type}(f:α->AV){l:List α}{i:Int}(h0:0<=i)(h1:i<l.length)(d:α):(l.map f)[i.toNat]?.getD .dead=f (l[i.toNat]?.getD d):=by
 have:i.toNat<l.length:=by omega
 simp[this]
theorem Q11(l:List UInt8):(Q2 l).length=l.length:=by simp[Q2]
theorem Qx(l:List Int):(Q0 l).length=l.length:=by simp[Q0]
theorem Q2w(l:List Int):(Q9 l).length=l.length:=by simp[Q9]
theorem Q95(a b:List Int):Q0 (a++b)=Q0 a++Q0 b:=by simp[Q0]
theorem Q4T(a b:List Int):Q9 (a++b)=Q9 a++Q9 b:=by simp[Q9]
theorem Qey(n:Int):Q9 [n]=[.val (.int .i64 n)]:=rfl
theorem QJ{l:List Int}{i:Int}(h0:0<=i)(h1:i<l.length):(Q0 l)[i.toNat]?.getD .dead=.val (.int .i32 (l[i.toNat]?.getD 0)):=QdT QgR h0 h1 0
theorem Q2T{l:List Int}{i:Int}(h0:0<=i)(h1:i<l.length):(Q9 l)[i.toNat]?.getD .dead=.val (.int .i64 (l[i.toNat]?.getD 0)):=QdT Qgf h0 h1 0
theorem Qhr(n:Int):std.inR .i64 n↔(-9223372036854775808<=n/\n<=9223372036854775807):=Iff.rfl
theorem S0:(false=true)=False/\(true=false)=False/\(∀p:Prop,(False->p)=True)/\(∀p:Prop,(True->p)=p)/\(∀p:Prop,(p/\True)=p)/\(∀p:Prop,(True/\p)=p):=by simp
theorem S1:Q3t []=True/\(∀q r,Q3t (q::r)=(q.q/\Q3t r))/\(∀c,(AV.agg c).cells=c)/\(∀v,(AV.val v).cells=[.val v])/\(∀a b,(AV.slc a b).cells=[.slc a b])/\(∀c,(AV.ref c).cells=[.ref c])/\(∀c,(AV.opt c).cells=[.opt c])/\(∀c,(AV.tup c).cells=[.tup c])/\(∀a b,(AV.box a b).cells=[.box a b])/\(∀a b,(AV.row a b).cells=[.row a b])/\(∀a b c,(AV.rowk a b c).cells=[.rowk a b c])/\(∀a b c d,(AV.rptr a b c d).cells=[.rptr a b c d])/\(∀c,(AV.kb c).cells=[.kb c])/\(∀c,(AV.iter c).cells=[.iter c])/\AV.dead.cells=[.dead] /\
  (∀k n,intOf (.val (.int k n))=n)/\(∀b,Q5y (.val (.bool b))=b)/\(∀z xs,Q2x (.slc z xs)=xs)/\(∀v,Q2x (.val v)=[])/\IntKind.min .i64=-9223372036854775808/\IntKind.max .i64=9223372036854775807/\IntKind.min .i32=-2147483648/\IntKind.max .i32=2147483647 :=
 ⟨rfl,fun _ _=>rfl,fun _=>rfl,fun _=>rfl,fun _ _=>rfl,fun _=>rfl,fun _=>rfl,fun _=>rfl,fun _ _=>rfl,fun _ _=>rfl,fun _ _ _=>rfl,fun _ _ _ _=>rfl,fun _=>rfl,fun _=>rfl,rfl,fun _ _=>rfl,fun _=>rfl,fun _ _=>rfl,fun _=>rfl,rfl,rfl,rfl,rfl⟩
theorem gI{a b:Int}(h:a=b):AV.val (.int .i64 a)=.val (.int .i64 b):=congrArg _ (congrArg _ h)
theorem gA{n:Nat}{a b:List AV}(h:a=b):AV.slc n a=.slc n b:=congrArg _ h
def Tg{α:Type}(_:α)(P:Prop):Prop:=P
theorem tg{α:Type}{x:α}{P:Prop}(h:∀y,x=y->P):Tg x P:=h x rfl
theorem zA{A B:Prop}(a:A)(b:B):A/\B:=⟨a,b⟩
theorem cv0 {Q P:Prop} (k:Q) (h:Q->P:=by
 generalize hp:std=p
 first
  |(generalize hT:Q4 p tys _ _ _ _ _=T;with_unfolding_all cbv at hT;subst hT)
  |(generalize hT:Q53 p tys _ _ _ _=T;with_unfolding_all cbv at hT;subst hT)
 intro k;simp only[Tree.ok,Q1,S0];subst hp;exact k):P:=h k
theorem cv1 {a1:Type} (x1:a1) {Q P:Prop} (k:Q) (h:Tg x1 <| (Q->P):=by
 refine tg fun y1 h1=>?_
 try rw[h1]
 generalize hp:std=p
 first
  |(generalize hT:Q4 p tys _ _ _ _ _=T;with_unfolding_all cbv at hT;subst hT)
  |(generalize hT:Q53 p tys _ _ _ _=T;with_unfolding_all cbv at hT;subst hT)
 intro k;simp only[Tree.ok,Q1,S0];subst hp h1;exact k):P:=h k
theorem cv2 {a1 a2:Type} (x1:a1) (x2:a2) {Q P:Prop} (k:Q) (h:Tg x1 <| Tg x2 <| (Q->P):=by
 refine tg fun y1 h1=>?_
 try rw[h1]
 refine tg fun y2 h2=>?_
 try rw[h2]
 generalize hp:std=p
 first
  |(generalize hT:Q4 p tys _ _ _ _ _=T;with_unfolding_all cbv at hT;subst hT)
  |(generalize hT:Q53 p tys _ _ _ _=T;with_unfolding_all cbv at hT;subst hT)
 intro k;simp only[Tree.ok,Q1,S0];subst hp h1 h2;exact k):P:=h k
theorem cv3 {a1 a2 a3:Type} (x1:a1) (x2:a2) (x3:a3) {Q P:Prop} (k:Q) (h:Tg x1 <| Tg x2 <| Tg x3 <| (Q->P):=by
 refine tg fun y1 h1=>?_
 try rw[h1]
 refine tg fun y2 h2=>?_
 try rw[h2]
 refine tg fun y3 h3=>?_
 try rw[h3]
 generalize hp:std=p
 first
  |(generalize hT:Q4 p tys _ _ _ _ _=T;with_unfolding_all cbv at hT;subst hT)
  |(generalize hT:Q53 p tys _ _ _ _=T;with_unfolding_all cbv at hT;subst hT)
 intro k;simp only[Tree.ok,Q1,S0];subst hp h1 h2 h3;exact k):P:=h k
theorem cv4 {a1 a2 a3 a4:Type} (x1:a1) (x2:a2) (x3:a3) (x4:a4) {Q P:Prop} (k:Q) (h:Tg x1 <| Tg x2 <| Tg x3 <| Tg x4 <| (Q->P):=by
 refine tg fun y1 h1=>?_
 try rw[h1]
 refine tg fun y2 h2=>?_
 try rw[h2]
 refine tg fun y3 h3=>?_
 try rw[h3]
 refine tg fun y4 h4=>?_
 try rw[h4]
 generalize hp:std=p
 first
  |(generalize hT:Q4 p tys _ _ _ _ _=T;with_unfolding_all cbv at hT;subst hT)
  |(generalize hT:Q53 p tys _ _ _ _=T;with_unfolding_all cbv at hT;subst hT)
 intro k;simp only[Tree.ok,Q1,S0];subst hp h1 h2 h3 h4;exact k):P:=h k
theorem cv5 {a1 a2 a3 a4 a5:Type} (x1:a1) (x2:a2) (x3:a3) (x4:a4) (x5:a5) {Q P:Prop} (k:Q) (h:Tg x1 <| Tg x2 <| Tg x3 <| Tg x4 <| Tg x5 <| (Q->P):=by
 refine tg fun y1 h1=>?_
 try rw[h1]
 refine tg fun y2 h2=>?_
 try rw[h2]
 refine tg fun y3 h3=>?_
 try rw[h3]
 refine tg fun y4 h4=>?_
 try rw[h4]
 refine tg fun y5 h5=>?_
 try rw[h5]
 generalize hp:std=p
 first
  |(generalize hT:Q4 p tys _ _ _ _ _=T;with_unfolding_all cbv at hT;subst hT)
  |(generalize hT:Q53 p tys _ _ _ _=T;with_unfolding_all cbv at hT;subst hT)
 intro k;simp only[Tree.ok,Q1,S0];subst hp h1 h2 h3 h4 h5;exact k):P:=h k
theorem cv6 {a1 a2 a3 a4 a5 a6:Type} (x1:a1) (x2:a2) (x3:a3) (x4:a4) (x5:a5) (x6:a6) {Q P:Prop} (k:Q) (h:Tg x1 <| Tg x2 <| Tg x3 <| Tg x4 <| Tg x5 <| Tg x6 <| (Q->P):=by
 refine tg fun y1 h1=>?_
 try rw[h1]
 refine tg fun y2 h2=>?_
 try rw[h2]
 refine tg fun y3 h3=>?_
 try rw[h3]
 refine tg fun y4 h4=>?_
 try rw[h4]
 refine tg fun y5 h5=>?_
 try rw[h5]
 refine tg fun y6 h6=>?_
 try rw[h6]
 generalize hp:std=p
 first
  |(generalize hT:Q4 p tys _ _ _ _ _=T;with_unfolding_all cbv at hT;subst hT)
  |(generalize hT:Q53 p tys _ _ _ _=T;with_unfolding_all cbv at hT;subst hT)
 intro k;simp only[Tree.ok,Q1,S0];subst hp h1 h2 h3 h4 h5 h6;exact k):P:=h k
theorem cv7 {a1 a2 a3 a4 a5 a6 a7:Type} (x1:a1) (x2:a2) (x3:a3) (x4:a4) (x5:a5) (x6:a6) (x7:a7) {Q P:Prop} (k:Q) (h:Tg x1 <| Tg x2 <| Tg x3 <| Tg x4 <| Tg x5 <| Tg x6 <| Tg x7 <| (Q->P):=by
 refine tg fun y1 h1=>?_
 try rw[h1]
 refine tg fun y2 h2=>?_
 try rw[h2]
 refine tg fun y3 h3=>?_
 try rw[h3]
 refine tg fun y4 h4=>?_
 try rw[h4]
 refine tg fun y5 h5=>?_
 try rw[h5]
 refine tg fun y6 h6=>?_
 try rw[h6]
 refine tg fun y7 h7=>?_
 try rw[h7]
 generalize hp:std=p
 first
  |(generalize hT:Q4 p tys _ _ _ _ _=T;with_unfolding_all cbv at hT;subst hT)
  |(generalize hT:Q53 p tys _ _ _ _=T;with_unfolding_all cbv at hT;subst hT)
 intro k;simp only[Tree.ok,Q1,S0];subst hp h1 h2 h3 h4 h5 h6 h7;exact k):P:=h k
theorem cv8 {a1 a2 a3 a4 a5 a6 a7 a8:Type} (x1:a1) (x2:a2) (x3:a3) (x4:a4) (x5:a5) (x6:a6) (x7:a7) (x8:a8) {Q P:Prop} (k:Q) (h:Tg x1 <| Tg x2 <| Tg x3 <| Tg x4 <| Tg x5 <| Tg x6 <| Tg x7 <| Tg x8 <| (Q->P):=by
 refine tg fun y1 h1=>?_
 try rw[h1]
 refine tg fun y2 h2=>?_
 try rw[h2]
 refine tg fun y3 h3=>?_
 try rw[h3]
 refine tg fun y4 h4=>?_
 try rw[h4]
 refine tg fun y5 h5=>?_
 try rw[h5]
 refine tg fun y6 h6=>?_
 try rw[h6]
 refine tg fun y7 h7=>?_
 try rw[h7]
 refine tg fun y8 h8=>?_
 try rw[h8]
 generalize hp:std=p
 first
  |(generalize hT:Q4 p tys _ _ _ _ _=T;with_unfolding_all cbv at hT;subst hT)
  |(generalize hT:Q53 p tys _ _ _ _=T;with_unfolding_all cbv at hT;subst hT)
 intro k;simp only[Tree.ok,Q1,S0];subst hp h1 h2 h3 h4 h5 h6 h7 h8;exact k):P:=h k
theorem cv9 {a1 a2 a3 a4 a5 a6 a7 a8 a9:Type} (x1:a1) (x2:a2) (x3:a3) (x4:a4) (x5:a5) (x6:a6) (x7:a7) (x8:a8) (x9:a9) {Q P:Prop} (k:Q) (h:Tg x1 <| Tg x2 <| Tg x3 <| Tg x4 <| Tg x5 <| Tg x6 <| Tg x7 <| Tg x8 <| Tg x9 <| (Q->P):=by
 refine tg fun y1 h1=>?_
 try rw[h1]
 refine tg fun y2 h2=>?_
 try rw[h2]
 refine tg fun y3 h3=>?_
 try rw[h3]
 refine tg fun y4 h4=>?_
 try rw[h4]
 refine tg fun y5 h5=>?_
 try rw[h5]
 refine tg fun y6 h6=>?_
 try rw[h6]
 refine tg fun y7 h7=>?_
 try rw[h7]
 refine tg fun y8 h8=>?_
 try rw[h8]
 refine tg fun y9 h9=>?_
 try rw[h9]
 generalize hp:std=p
 first
  |(generalize hT:Q4 p tys _ _ _ _ _=T;with_unfolding_all cbv at hT;subst hT)
  |(generalize hT:Q53 p tys _ _ _ _=T;with_unfolding_all cbv at hT;subst hT)
 intro k;simp only[Tree.ok,Q1,S0];subst hp h1 h2 h3 h4 h5 h6 h7 h8 h9;exact k):P:=h k
theorem Qqc {a1 a2 a3 a4 a5 a6 a7 a8 a9 a10:Type} (x1:a1) (x2:a2) (x3:a3) (x4:a4) (x5:a5) (x6:a6) (x7:a7) (x8:a8) (x9:a9) (x10:a10) {Q P:Prop} (k:Q) (h:Tg x1 <| Tg x2 <| Tg x3 <| Tg x4 <| Tg x5 <| Tg x6 <| Tg x7 <| Tg x8 <| Tg x9 <| Tg x10 <| (Q->P):=by
 refine tg fun y1 h1=>?_
 try rw[h1]
 refine tg fun y2 h2=>?_
 try rw[h2]
 refine tg fun y3 h3=>?_
 try rw[h3]
 refine tg fun y4 h4=>?_
 try rw[h4]
 refine tg fun y5 h5=>?_
 try rw[h5]
 refine tg fun y6 h6=>?_
 try rw[h6]
 refine tg fun y7 h7=>?_
 try rw[h7]
 refine tg fun y8 h8=>?_
 try rw[h8]
 refine tg fun y9 h9=>?_
 try rw[h9]
 refine tg fun y10 ju=>?_
 try rw[ju]
 generalize hp:std=p
 first
  |(generalize hT:Q4 p tys _ _ _ _ _=T;with_unfolding_all cbv at hT;subst hT)
  |(generalize hT:Q53 p tys _ _ _ _=T;with_unfolding_all cbv at hT;subst hT)
 intro k;simp only[Tree.ok,Q1,S0];subst hp h1 h2 h3 h4 h5 h6 h7 h8 h9 ju;exact k):P:=h k
theorem aU {H0 G Q:Prop} (H:H0) (k:Q) (h:H0->Q->G:=by
 intro H k
 first
  |(with_reducible refine And.intro (fun hx=>absurd hx (by first|(try simp[std,S1,H])<;>omega|omega)) (fun _=>k))
  |(with_reducible refine And.intro (fun _=>k) (fun hx=>absurd hx (by first|(try simp[std,S1,H])<;>omega|omega)))
  |(with_reducible refine And.intro (by first|(try simp[std,S1,H])<;>omega|omega) k)):G:=h H k
theorem aC {H0 G Q:Prop} (H:H0) (k:Q) (h:H0->Q->G:=by
 intro H k
 first
  |(with_reducible refine And.intro (fun hx=>absurd hx (by (first|(simp[H];done)|omega))) (fun _=>k))
  |(with_reducible refine And.intro (fun _=>k) (fun hx=>absurd hx (by (first|(simp[H];done)|omega))))):G:=h H k
theorem eq0 {P:Prop} (h:P:=by
 repeat first
  |exact trivial
  |refine⟨rfl,?_⟩):P:=h
theorem eq1 {H1 P:Prop} (e1:H1) (h:H1->P:=by
 intro e1
 repeat first
  |exact trivial
  |refine⟨rfl,?_⟩
  |refine⟨e1,?_⟩
  |refine⟨gI e1,?_⟩
  |refine⟨gA e1,?_⟩
  |refine⟨gB e1,?_⟩
  |refine⟨gR e1,?_⟩
  |refine⟨gT e1,?_⟩):P:=h e1
theorem eq2 {H1 H2 P:Prop} (e1:H1) (e2:H2) (h:H1->H2->P:=by
 intro e1 e2
 repeat first
  |exact trivial
  |refine⟨rfl,?_⟩
  |refine⟨e1,?_⟩
  |refine⟨gI e1,?_⟩
  |refine⟨gA e1,?_⟩
  |refine⟨gB e1,?_⟩
  |refine⟨gR e1,?_⟩
  |refine⟨gT e1,?_⟩
  |refine⟨e2,?_⟩
  |refine⟨gI e2,?_⟩
  |refine⟨gA e2,?_⟩
  |refine⟨gB e2,?_⟩
  |refine⟨gR e2,?_⟩
  |refine⟨gT e2,?_⟩):P:=h e1 e2
theorem eq3 {H1 H2 H3 P:Prop} (e1:H1) (e2:H2) (e3:H3) (h:H1->H2->H3->P:=by
 intro e1 e2 e3
 repeat first
  |exact trivial
  |refine⟨rfl,?_⟩
  |refine⟨e1,?_⟩
  |refine⟨gI e1,?_⟩
  |refine⟨gA e1,?_⟩
  |refine⟨gB e1,?_⟩
  |refine⟨gR e1,?_⟩
  |refine⟨gT e1,?_⟩
  |refine⟨e2,?_⟩
  |refine⟨gI e2,?_⟩
  |refine⟨gA e2,?_⟩
  |refine⟨gB e2,?_⟩
  |refine⟨gR e2,?_⟩
  |refine⟨gT e2,?_⟩
  |refine⟨e3,?_⟩
  |refine⟨gI e3,?_⟩
  |refine⟨gA e3,?_⟩
  |refine⟨gB e3,?_⟩
  |refine⟨gR e3,?_⟩
  |refine⟨gT e3,?_⟩):P:=h e1 e2 e3
theorem QpA:prog.follows .mixedOrders=true:=by kernel_rfl
theorem fnO(keep:Bool)(cs:Nat->List AV->List Ob->Option (AV×List Ob))(ord:Nat->OT){f:Nat}{fn:Func}{c:Code}{args:List AV}{ob:List Ob}{res:AV}{ob':List Ob}(hf:prog.funcs[f]?=some fn)(hb:fn.body=some c)(h:∀w0 g0,(Q4 std tys cs ord c (Q53 std tys keep fn.results.toList) ⟨ent 0 args,ob⟩).ok prog w0 g0 ob fn.ntmps (FinOk ob res ob'))
  (hk : (Nat.ble args.length fn.ntmps && (Q4p fn.ntmps c && (Q40 .any tys ord c && !(fn.name == "runtime.NumGoroutine")))) = true := by kernel_rfl) : BCall prog f args ob res ob' := by
 simp only[Bool.and_eq_true,Bool.not_eq_true']at hk;exact Qcg keep Q6k QpA hf hb (enters_of hf hk.2.2.2 hb) (Nat.le_of_ble_eq_true hk.1) hk.2.1 hk.2.2.1 h
theorem fnN(cs:Nat->List AV->List Ob->Option (AV×List Ob)){f:Nat}{fn:Func}{c:Code}{args:List AV}{ob:List Ob}{res:AV}{ob':List Ob}(hf:prog.funcs[f]?=some fn)(hb:fn.body=some c)(h:∀w0 g0,(Q4 std tys cs (fun _=>.nil) c (Q53 std tys false fn.results.toList) ⟨ent 0 args,ob⟩).ok prog w0 g0 ob fn.ntmps (FinOk ob res ob'))
  (hk : (Nat.ble args.length fn.ntmps && (Q4p fn.ntmps c && (Q40 .any tys (fun _ => .nil) c && !(fn.name == "runtime.NumGoroutine")))) = true := by kernel_rfl) : BCall prog f args ob res ob' :=
 fnO false cs _ hf hb h hk
theorem Q1h{w0:World}{g0:Gh}{o0:List Ob}{N:Nat}(cs:Nat->List AV->List Ob->Option (AV×List Ob)){c:Code}(X:Type)(S:X->St)(J:X->Prop)(μ:X->Nat){Q:Ex->St->Prop}{s:St}(x0:X)(h0:J x0)(hS:Qn2 o0 s (S x0))
  (round:∀x,J x->(Q4 std tys cs (fun _=>.nil) c (fun e s=>.leaf e s) (S x)).ok prog w0 g0 o0 N (Q1 o0 S J μ x Q)) (hk:(Q4p N c&&Q40 .any tys (fun _=>.nil) c)=true:=by kernel_rfl):WP prog w0 g0 o0 N (.loop c) Q s:=by
 rw[Bool.and_eq_true]at hk;exact Qcq Q6k QpA hk.1 hk.2 S J μ x0 h0 hS round
def Len{α:Type}(xs:List α)(n:Int):Prop:=n=xs.length
theorem Len.eq{α:Type}{xs:List α}{n:Int}(h:Len xs n):n=(xs.length:Int):=h
theorem Q15{l:List Int}{n:Int}(h:Len l n):(((Q0 l).length:Nat):Int)=n:=by rw[Qx];exact h.symm
theorem QE{α:Type}(xs:List α):∃n,Len xs n:=⟨_,rfl⟩
def cs0:Nat->List AV->List Ob->Option (AV×List Ob):=fun _ _ _=>none
theorem Q83(xs:List AV)(hn:xs.length<=1000000000):BCall prog 86 [.slc 1 xs] [] (.slc 1 xs) []:=by
 refine fnN (cs0) func86 rfl fun _ _=>?_
 with_reducible refine cv0 ?_
 refine⟨fun h=>.pure rfl ?_,?_,.pure rfl (.inl rfl)⟩
 ·have h:xs=[]:=h
  subst h;exact .inr (.inl ⟨rfl,_,rfl⟩)
 ·show 0+xs.length<=1000000000
  omega
theorem QjT(xs:List AV)(hn:xs.length<=1000000000):BCall prog 214 [.slc 1 xs] [] (.slc 1 xs) []:=by
 refine fnN (cs0) func214 rfl fun _ _=>?_
 with_reducible refine cv0 ?_
 refine⟨fun h=>.pure rfl ?_,?_,.pure rfl (.inl rfl)⟩
 ·have h:xs=[]:=h
  subst h;exact .inr (.inl ⟨rfl,_,rfl⟩)
 ·show 0+xs.length<=1000000000
  omega
theorem Qfo(xs:List AV)(hn:xs.length<=1000000000):BCall prog 121 [.slc 1 xs] [] (.slc 1 xs) []:=by
 refine fnN (cs0) func121 rfl fun _ _=>?_
 with_reducible refine cv0 ?_
 refine⟨fun h=>.pure rfl ?_,?_,.pure rfl (.inl rfl)⟩
 ·have h:xs=[]:=h
  subst h;exact .inr (.inl ⟨rfl,_,rfl⟩)
 ·show 0+xs.length<=1000000000
  omega
end
section
open Go.RowKit Go.Lib
section
variable {w:World}{g:Gh}{ob:List Ob}
def Gh.kid(g:Gh)(w:World)(id:Nat)(b:Option Nat)(n:Nat):Gh where
 A b' o:=g.A b' o\/(b=some b'/\o<n)
 G b':=if b=some b' then some id else g.G b'
 loc:=g.loc
 sub b':=if b=some b' then true else g.sub b'
theorem Qnt(M:Mem w g ob){id ep i:Nat}{xs:List AV}(h:ob[id]?=some (.row Q5U 2 false ep xs)){b c:Nat}(hv:RowV w g id Q5U 2 (.slice (some ⟨b,0,none⟩) xs.length c) xs)
  {a u:AV} (hx:xs[i]?=some (.agg [a,u])) {us:List AV} (hu:u=.slc 1 us\/(u=.val (.slice none 0 0)/\us=[])) :
  ∃y zs,w.cell? ⟨b,i * 2+1,none⟩=some y/\w.ownsRow 0 Qiz 1 y us.length zs/\y.oneCell'=true/\Alike w g.A zs (QQ us)/\(∀x∈us,x.cells.length=1)/\∀b',y.ownBlock=some b'->g.G b'=some id/\g.sub b'=true/\(∀o,us.length<=o->¬g.A b' o)/\b'<w.heap.size:=by
 obtain⟨ys,ho,hG,ja,hw,jL,jW⟩:=hv;have jS:=Qa hx;have vn:=Q30 xs hw;have hj:i * 2+1<ys.length:=by rw[ja.1,vn];omega
 have hyj:=getElem?_eq_getElem hj;have hcell:=ho.cells (g:=b) rfl _ _ hyj;rw[Addr.add_mid,zero_add]at hcell
 have huj:(QQ xs)[i * 2+1]?=some u:=by
  rw[Q6E xs hw i _ hx 1 (by omega)];rfl
 have hrel:=ja.2 _ _ _ hyj huj;generalize ys[i * 2+1]=y at hyj hcell hrel;obtain⟨⟨k,zs,h1,h2⟩,h3⟩:=jW rfl _ _ hyj (by omega)
 have vJ:=hrel.one;-- its length,and its cells by content
 have key:k=us.length/\Alike w g.A zs (QQ us)/\∀x∈us,x.cells.length=1:=by
  rcases hu with rfl|⟨rfl,rfl⟩
  ·cases hrel with
   |nil =>
    rcases h1.2 with ⟨_,h4⟩|⟨b',cap,cur,h4,_⟩
    ·subst h4
     have:zs=[]:=List.eq_nil_of_length_eq_zero (by have:=h1.1;omega)
     subst this;exact⟨rfl,Alike.nil,fun x hx=>by cases hx⟩
    ·cases h4
   |slc b' o c' _ _ f hc hm pT vH qM =>
    rcases h1.2 with ⟨h4,_⟩|⟨b2,cap,cur,h4,h5⟩
    ·cases h4
    ·cases h4
     refine⟨rfl,?_,pT⟩;have xj:=Q30 us pT;have kp:zs.length=us.length * 1:=h1.1;refine⟨by rw[kp,xj],fun j y' u' vQ jd=>?_⟩
     have e1:=h1.cells (g:=b') rfl j y' vQ;rw[Addr.add_mid,zero_add]at e1;have e2:=(vH j u' jd).2;rw[zero_add,e1]at e2;obtain rfl:y'=f j:=Option.some.inj e2;exact qM j u' jd
  ·cases hrel
   rcases h1.2 with ⟨_,h4⟩|⟨b',cap,cur,h4,_⟩
   ·subst h4
    have:zs=[]:=List.eq_nil_of_length_eq_zero (by have:=h1.1;omega)
    subst this;exact⟨rfl,Alike.nil,fun x hx=>by cases hx⟩
   ·cases h4
 obtain⟨rfl,jm,cZ⟩:=key;refine⟨y,zs,hcell,h1,vJ,jm,cZ,fun b' gY=>?_⟩
 obtain⟨h4,h5,h6⟩:=h2 b' gY;exact⟨h4,h5,h6,(M.own b' id h4).1⟩
theorem Qf2:∀(xs:List AV),(∀x∈xs,x.cells.length=2)->∀(i:Nat)(a u u':AV),xs[i]?=some (.agg [a,u])->QQ (xs.set i (.agg [a,u']))=(QQ xs).set (i * 2+1) u'
 | [],_,i,a,u,u',h=>by simp at h
 |x::r,hw,0,a,u,u',h=>by
  obtain rfl:x=.agg [a,u]:=by simpa using h
  rfl
 |x::r,hw,i+1,a,u,u',h=>by
  have ih:=Qf2 r (fun y hy=>hw y (List.mem_cons_of_mem _ hy)) i a u u' (by simpa using h)
  have hx:=hw x (List.mem_cons_self ..)
  obtain⟨p,q,nR⟩:∃p q,x.cells=[p,q]:=by
   match x.cells,hx with
   | [p,q],_=>exact⟨p,q,rfl⟩
  have e1:QQ (x::r)=p::q::QQ r:=by simp[nR]
  have e2:QQ (x::r.set i (.agg [a,u']))=p::q::QQ (r.set i (.agg [a,u'])):=by simp[nR]
  rw[set_cons_succ,e1,e2,ih,show(i+1) * 2+1=(i * 2+1)+1+1 by omega,set_cons_succ,set_cons_succ]
theorem Qnw(M:Mem w g ob){id ep i:Nat}{xs:List AV}(h:ob[id]?=some (.row Q5U 2 false ep xs)){b c:Nat}(hv:RowV w g id Q5U 2 (.slice (some ⟨b,0,none⟩) xs.length c) xs)
  {a u:AV} (hx:xs[i]?=some (.agg [a,u])) {us:List AV} {y:Value} {zs:List Value} (hcell:w.cell? ⟨b,i * 2+1,none⟩=some y) (jM:w.ownsRow 0 Qiz 1 y us.length zs) (ja:Alike w g.A zs (QQ us)) (hus:∀x∈us,x.cells.length=1)
  (ya:∀b',y.ownBlock=some b'->g.G b'=some id/\g.sub b'=true/\(∀o,us.length<=o->¬g.A b' o)/\b'<w.heap.size)
  {w1 w2:World} {v':Value} {n:Int} (z6:Below w.heap.size w w1) (xh:w2.ownsRow 0 Qiz 1 v' (us.length+1) (zs++[.int .i64 n])) (hg:w1.grownBy w2 y.ownBlock) (yZ:v'.ownBlock=y.ownBlock\/v'.ownBlock=some w1.heap.size)
  (yH:∀bb kk,bb<w1.heap.size->(y.ownBlock=some bb->kk<us.length * 1)->w2.cell? ⟨bb,kk,none⟩=w1.cell? ⟨bb,kk,none⟩) :
  ∃g3,Mem (w2.setCells b (i * 2+1) [v']) g3 (ob.set id (.row Q5U 2 false (ep+1) (xs.set i (.agg [a,.slc 1 (us++[.val (.int .i64 n)])])))) /\
   Step w g ob (w2.setCells b (i * 2+1) [v']) g3 (ob.set id (.row Q5U 2 false (ep+1) (xs.set i (.agg [a,.slc 1 (us++[.val (.int .i64 n)])])))) /\
   RowV (w2.setCells b (i * 2+1) [v']) g3 id Q5U 2 (.slice (some ⟨b,0,none⟩) xs.length c) (xs.set i (.agg [a,.slc 1 (us++[.val (.int .i64 n)])])):=by
 obtain⟨w3,zP⟩:=exq (w2.setCells b (i * 2+1) [v']);obtain⟨g3,yy⟩:=exq (g.kid w id v'.ownBlock (us.length+1));rw[<-zP];have hid:=Qa h;have jS:=Qa hx;obtain⟨ys,ho,hG,gK,xZ,jL,jW⟩:=hv;have vI:=hG b rfl;have yG:=jL b rfl;have jY:=(M.own b id vI).1;-- blocks: the main one,the slice's,what is new
 have kH:∀b',y.ownBlock=some b'->b'≠b:=fun b' hb e=>by
  have:=(ya b' hb).2.1
  rw[e,yG]at this;cases this
 have vN:∀b',v'.ownBlock=some b'->(y.ownBlock=some b'/\b'<w.heap.size)\/w.heap.size<=b':=fun b' hb=>by
  rcases yZ with e|e
  ·rw[e]at hb;exact .inl ⟨hb,(ya b' hb).2.2.2⟩
  ·rw[e]at hb;cases hb;exact .inr z6.size
 have keep:∀b',b'<w.heap.size->b'≠b->y.ownBlock≠some b'->w3.heap[b']?=w.heap[b']?:=fun b' h1 h2 h3=>by
  rw[zP,Q1N (k:=0) h2,hg.block b' (lt_of_lt_of_le h1 z6.size) (fun e=>h3 e.symm),z6.block b' h1]
 have keepc:∀b' o,b'<w.heap.size->b'≠b->(y.ownBlock=some b'->o<us.length)->w3.cell? ⟨b',o,none⟩=w.cell? ⟨b',o,none⟩:=fun b' o h1 h2 h3=>by
  rw[zP,World.cell?_of_block (w:=w2) (Q1N (k:=0) h2),yH b' o (lt_of_lt_of_le h1 z6.size) (fun e=>by have:=h3 e;omega),World.cell?_of_block (w:=w) (z6.block b' h1)]
 have jj:w.heap.size<=w3.heap.size:=by
  rw[zP,Q3o];exact Nat.le_trans z6.size hg.size
 have nomain:∀o,¬g.A b o:=fun o hA=>by
  obtain⟨et,sz,e,xs2,h1,_⟩:=(M.imm b o hA).2 id vI yG;rw[h]at h1;cases h1
 have hA:∀b' o,g.A b' o->w3.cell? ⟨b',o,none⟩=w.cell? ⟨b',o,none⟩:=fun b' o h1=>by
  refine keepc b' o (M.imm b' o h1).1 (fun e=>nomain o (e ▸ h1)) (fun e=>?_)
  refine Nat.lt_of_not_le fun h2=>(ya b' e).2.2.1 o h2 h1
 have oldG:∀b',b'<w.heap.size->g3.G b'=g.G b':=fun b' h1=>by
  rw[yy];show(if v'.ownBlock=some b' then some id else g.G b')=_
  split
  ·rename_i e
   rcases vN b' e with ⟨h2,_⟩|h2
   ·exact((ya b' h2).1).symm
   ·omega
  ·rfl
 have oldS:∀b',b'<w.heap.size->g3.sub b'=g.sub b':=fun b' h1=>by
  rw[yy];show(if v'.ownBlock=some b' then true else g.sub b')=_
  split
  ·rename_i e
   rcases vN b' e with ⟨h2,_⟩|h2
   ·exact((ya b' h2).2.1).symm
   ·omega
  ·rfl
 have newA:∀b' o,g3.A b' o->g.A b' o\/(v'.ownBlock=some b'/\o<us.length+1):=fun b' o h1=>by rw[yy]at h1;exact h1
 have upA:∀b' o,g.A b' o->g3.A b' o:=fun b' o h1=>by rw[yy];exact .inl h1
 have G3:∀b' k,g3.G b'=some k->(b'<w.heap.size/\g.G b'=some k)\/(v'.ownBlock=some b'/\k=id):=fun b' k h1=>by
  rw[yy]at h1;have h1:(if v'.ownBlock=some b' then some id else g.G b')=some k:=h1;split at h1
  ·rename_i e;exact .inr ⟨e,(Option.some.inj h1).symm⟩
  ·exact .inl ⟨(M.own b' k h1).1,h1⟩
 have vlt:∀b',v'.ownBlock=some b'->b'<w3.heap.size:=fun b' hb=>by
  rw[zP,Q3o];exact(xh.lt b' hb).2
 -- other rows and boxes
 have other:∀b' k,g.G b'=some k->k≠id->w3.heap[b']?=w.heap[b']?:=fun b' k h1 h2=>by
  refine keep b' (M.own b' k h1).1 (fun e=>?_) (fun e=>?_)
  ·rw[e,vI]at h1;exact h2 (Option.some.inj h1).symm
  ·rw[(ya b' e).1]at h1;exact h2 (Option.some.inj h1).symm
 have E:Ext w g ob w3 g3 (ob.set id (.row Q5U 2 false (ep+1) (xs.set i (.agg [a,.slc 1 (us++[.val (.int .i64 n)])])))):=by
  refine⟨fun b' o h1=>⟨upA b' o h1,hA b' o h1⟩,fun _ _=>by rw[yy];rfl,fun k hk=>?_,fun k hk=>?_,fun k et sz fz e xs2 hk=>?_,fun b' k hGk hs=>?_⟩
  ·have:k≠id:=by rintro rfl;rw[h]at hk;exact hk
   rw[getElem?_set_ne (Ne.symm this)];exact hk
  ·have:k≠id:=by rintro rfl;rw[h]at hk;exact hk
   rw[getElem?_set_ne (Ne.symm this)];exact hk
  ·by_cases e':k=id
   ·subst e'
    rw[h]at hk;cases hk;exact⟨false,ep+1,_,getElem?_set_self hid,by omega,fun h1=>by omega⟩
   ·exact⟨fz,e,xs2,by rw[getElem?_set_ne (Ne.symm e')];exact hk,le_refl _,fun _=>⟨rfl,fun b' gY=>⟨by rw[oldG b' (M.own b' k gY).1];exact gY,other b' k gY e'⟩⟩⟩
  ·have e':k≠id:=by
    rintro rfl;obtain⟨et,sz,fz,fz',e,xs2,xs3,h1,h2⟩:=hs;rw[h]at h1;cases h1;rw[getElem?_set_self hid]at h2;have:=Option.some.inj h2
    injection this with _ _ _ h3
    omega
   refine⟨oldS b' (M.own b' k hGk).1,fun _ o h1=>?_⟩
   rcases newA b' o h1 with h2|⟨h2,_⟩
   ·exact h2
   ·rcases vN b' h2 with ⟨h3,_⟩|h3
    ·rw[(ya b' h3).1]at hGk;exact absurd (Option.some.inj hGk).symm e'
    ·have:=(M.own b' k hGk).1;omega
 have jn:RowV w3 g3 id Q5U 2 (.slice (some ⟨b,0,none⟩) xs.length c) (xs.set i (.agg [a,.slc 1 (us++[.val (.int .i64 n)])])):=by
  have hvne:∀b',v'.ownBlock=some b'->b'≠b:=fun b' hb=>by
   rcases vN b' hb with ⟨h1,_⟩|h1
   ·exact kH b' h1
   ·omega
  have kg:w3.ownsRow 0 Qiz 1 v' (us.length+1) (zs++[.int .i64 n]):=Q3A xh fun b' hb=>by rw[zP];exact Q1N (k:=0) (hvne b' hb)
  have vn:=Q30 xs xZ;have yi:i * 2+1<ys.length:=by rw[gK.1,vn];omega
  have hfs:=Qf2 xs xZ i a u (.slc 1 (us++[.val (.int .i64 n)])) hx;have qZ:(us++[AV.val (.int .i64 n)]).length=us.length+1:=by simp
  have pT:∀x∈us++[AV.val (.int .i64 n)],x.cells.length=1:=fun x hx=>by
   rcases List.mem_append.1 hx with h1|h1
   ·exact hus x h1
   ·obtain rfl:x=.val (.int .i64 n):=by simpa using h1
    rfl
  have cd:QQ (us++[AV.val (.int .i64 n)])=QQ us++[.val (.int .i64 n)]:=by simp[AV.cells]
  have xV:Alike w3 g3.A (zs++[.int .i64 n]) (QQ (us++[AV.val (.int .i64 n)])):=by
   rw[cd];refine(ja.keep E.A).append ⟨rfl,fun j y' u' h1 h2=>?_⟩
   cases j with
   |zero =>
    obtain rfl:Value.int .i64 n=y':=by simpa using h1
    obtain rfl:AV.val (.int .i64 n)=u':=by simpa using h2
    exact PRel.val _ rfl
   |succ j=>simp at h1
  have hvP:PRel w3 g3.A v' (.slc 1 (us++[.val (.int .i64 n)])):=by
   rcases kg.2 with ⟨_,h1⟩|⟨b',cap,cur,h1,h2,h3,h4,h5,h6,h7⟩
   ·omega
   ·subst h1
    rw[<-qZ]at h4 kg ⊢;have kp:(zs++[Value.int .i64 n]).length=(us++[AV.val (.int .i64 n)]).length * 1:=kg.1;have xj:=Q30 (us++[AV.val (.int .i64 n)]) pT
    have get:∀(j:Nat) u',(QQ (us++[AV.val (.int .i64 n)]))[j]?=some u'->j<(zs++[Value.int .i64 n]).length/\(zs++[Value.int .i64 n])[j]?=some ((zs++[Value.int .i64 n]).getD j undef):=fun j u' jd=>by
     have h8:=Qa jd;rw[xj]at h8;have h9:j<(zs++[Value.int .i64 n]).length:=by omega
     exact⟨h9,by rw[List.getD_eq_getElem?_getD,getElem?_eq_getElem h9];rfl⟩
    refine PRel.slc b' 0 cap 1 _ (fun j=>(zs++[Value.int .i64 n]).getD j undef) h4 h5 pT (fun j u' jd=>⟨?_,?_⟩) (fun j u' jd=>?_)
    ·rw[yy]
     refine .inr ⟨rfl,?_⟩;have:=(get j u' jd).1
     rw[kp,qZ]at this;omega
    ·have:=kg.cells (g:=b') rfl j _ (get j u' jd).2
     rw[Addr.add_mid,zero_add]at this;rw[zero_add];exact this
    ·exact xV.2 j _ u' (get j u' jd).2 jd
  rcases ho.2 with ⟨h1,_⟩|⟨b0,cap,cur,h1,h2,h3,h4,h5,h6,h7⟩
  ·cases h1
  ·cases h1
   have hh2:w2.heap[b]?=some (.cells cur Q5U (0,0)):=by
    rw[hg.block b (lt_of_lt_of_le jY z6.size) (fun e=>kH b e.symm rfl),z6.block b jY]
    exact h3
   have hjc:i * 2+1<cur.size:=by
    have:ys.length<=cur.size:=by rw[<-h7,List.length_take];simp;omega
    omega
   have hh3:=Q3x (W:=w2) [v'] (i * 2+1) w2 cur hh2 (by simp;omega)
   have gc:cur.toList.take (i * 2+1)++([v']++cur.toList.drop (i * 2+1 + [v'].length))=cur.toList.set (i * 2+1) v':=by
    rw[List.set_eq_take_append_cons_drop,if_pos (by simpa using hjc)]
    rfl
   rw[gc]at hh3;refine⟨ys.set (i * 2+1) v',⟨by rw[length_set,length_set];exact ho.1,.inr ⟨b,c,(cur.toList.set (i * 2+1) v').toArray,by rw[length_set],Nat.zero_le _,by rw[zP];exact hh3,by rw[length_set];exact h4,h5,by simpa using h6,?_⟩⟩,fun b' hb=>?_,?_,?_,fun b' hb=>?_,fun _ j y' vQ hj=>?_⟩
   ·rw[length_set]
    show((cur.toList.set (i * 2+1) v').toArray.toList).take _=_
    rw[List.toList_toArray,List.take_set,h7]
   ·obtain rfl:b=b':=by simpa[Value.ownBlock]using hb
    rw[oldG b jY];exact vI
   ·rw[hfs]
    refine⟨by rw[length_set,length_set];exact gK.1,fun j y' u' h8 h9=>?_⟩
    by_cases e:j=i * 2+1
    ·subst e
     rw[getElem?_set_self yi]at h8;rw[getElem?_set_self (by rw[<-gK.1];exact yi)]at h9
     cases h8;cases h9;exact hvP
    ·rw[getElem?_set_ne (Ne.symm e)]at h8 h9
     exact(gK.2 j y' u' h8 h9).keep E.A
   ·intro x yB
    rcases List.mem_or_eq_of_mem_set yB with h1|h1
    ·exact xZ x h1
    ·rw[h1];rfl
   ·obtain rfl:b=b':=by simpa[Value.ownBlock]using hb
    rw[oldS b jY];exact yG
   ·have hy0:ys[i * 2+1]?=some y:=by
     have e1:=getElem?_eq_getElem yi;have e2:=ho.cells (g:=b) rfl _ _ e1;rw[Addr.add_mid,zero_add,hcell]at e2;rw[e1,<-Option.some.inj e2]
    -- a block that another one owns
    have oldne:∀(j:Nat) y',ys[j]?=some y'->j % 2=1->j≠i * 2+1->∀b',y'.ownBlock=some b'->v'.ownBlock≠some b'/\y.ownBlock≠some b'/\b'≠b/\b'<w.heap.size:=fun j y' h8 h9 ju b' hb=>by
     obtain⟨⟨k,zs',yw,xl⟩,zr⟩:=jW rfl j y' h8 h9;obtain⟨pY,h15,_⟩:=xl b' hb;have kJ:y.ownBlock≠some b':=fun e=>ju (zr _ y b' hy0 (by omega) e hb).symm
     have jA:=(M.own b' id pY).1;refine⟨fun e=>?_,kJ,fun e=>?_,jA⟩
     ·rcases vN b' e with ⟨h16,_⟩|h16
      ·exact kJ h16
      ·omega
     ·rw[e,yG]at h15;cases h15
    by_cases e:j=i * 2+1
    ·subst e
     rw[getElem?_set_self yi]at vQ;cases vQ;refine⟨⟨us.length+1,_,kg,fun b' hb=>⟨?_,?_,fun o yK kE=>?_⟩⟩,fun k z b' hz hk xg hvb'=>?_⟩
     ·rw[yy]
      show(if v'.ownBlock=some b' then some id else g.G b')=_
      rw[if_pos hb]
     ·rw[yy]
      show(if v'.ownBlock=some b' then true else g.sub b')=_
      rw[if_pos hb]
     ·rcases newA b' o kE with h8|⟨_,h8⟩
      ·rcases vN b' hb with ⟨h9,_⟩|h9
       ·exact(ya b' h9).2.2.1 o (by omega) h8
       ·have:=(M.imm b' o h8).1;omega
      ·omega
     ·refine Classical.byContradiction fun jJ=>?_
      rw[getElem?_set_ne (Ne.symm jJ)]at hz;exact(oldne k z hz hk jJ b' xg).1 hvb'
    ·rw[getElem?_set_ne (Ne.symm e)]at vQ
     obtain⟨⟨k,zs',yw,xl⟩,zr⟩:=jW rfl j y' vQ hj;refine⟨⟨k,zs',Q3A yw fun b' hb=>?_,fun b' hb=>?_⟩,fun k' z b' hz zm xg nS=>?_⟩
     ·obtain⟨h8,h9,ju,pY⟩:=oldne j y' vQ hj e b' hb
      exact keep b' pY ju h9
     ·obtain⟨h8,h9,ju,pY⟩:=oldne j y' vQ hj e b' hb
      obtain⟨h15,h16,nT⟩:=xl b' hb;refine⟨by rw[oldG b' pY];exact h15,by rw[oldS b' pY];exact h16,fun o yK kE=>?_⟩
      rcases newA b' o kE with pZ|⟨pZ,_⟩
      ·exact nT o yK pZ
      ·exact h8 pZ
     ·by_cases e2:k'=i * 2+1
      ·subst e2
       rw[getElem?_set_self yi]at hz;cases hz;exact absurd xg (oldne j y' vQ hj e b' nS).1
      ·rw[getElem?_set_ne (Ne.symm e2)]at hz
       exact zr k' z b' hz zm xg nS
 refine⟨g3,?_,?_,jn⟩
 ·refine⟨fun k cs hk=>?_,fun k cs hk j u hj=>?_,fun k s p hk=>?_,fun b' k hk=>?_,fun b' o kE=>?_,fun k et sz fz e xs2 hk=>?_,fun b' hs=>?_,fun b1 b2 k h1 h2 hs jl=>?_⟩
  ·have e':k≠id:=by rintro rfl;rw[getElem?_set_self hid]at hk;cases hk
   rw[getElem?_set_ne (Ne.symm e')]at hk;obtain⟨h1,cur,T,h2,h3⟩:=M.box k cs hk;have hl:g3.loc k=g.loc k:=by rw[yy];rfl
   exact⟨by rw[hl,oldG _ (M.own _ _ h1).1];exact h1,cur,T,by rw[hl,other _ _ h1 e'];exact h2,h3.ext E⟩
  ·have e':k≠id:=by rintro rfl;rw[getElem?_set_self hid]at hk;cases hk
   rw[getElem?_set_ne (Ne.symm e')]at hk;obtain⟨h1,y',h2,h3⟩:=M.fbox k cs hk j u hj;have hl:g3.loc k=g.loc k:=by rw[yy];rfl
   exact⟨by rw[hl];exact upA _ _ h1,y',by rw[hl,hA _ _ h1];exact h2,h3.keep E.A⟩
  ·have e':k≠id:=by rintro rfl;rw[getElem?_set_self hid]at hk;cases hk
   rw[getElem?_set_ne (Ne.symm e')]at hk;obtain⟨h1,h2⟩:=M.iter k s p hk;have hl:g3.loc k=g.loc k:=by rw[yy];rfl
   exact⟨by rw[hl,oldG _ (M.own _ _ h1).1];exact h1,by rw[hl,other _ _ h1 e'];exact h2⟩
  ·rw[length_set]
   rcases G3 b' k hk with ⟨h1,h2⟩|⟨h1,rfl⟩
   ·exact⟨lt_of_lt_of_le h1 jj,(M.own b' k h2).2⟩
   ·exact⟨vlt b' h1,hid⟩
  ·rcases newA b' o kE with h1|⟨h1,h2⟩
   ·have h3:=M.imm b' o h1
    refine⟨lt_of_lt_of_le h3.1 jj,fun k hk hs=>?_⟩
    rw[oldG b' h3.1]at hk;rw[oldS b' h3.1]at hs;obtain⟨et,sz,e,xs2,h4,h5⟩:=h3.2 k hk hs;have e':k≠id:=by rintro rfl;rw[h]at h4;cases h4
    exact⟨et,sz,e,xs2,by rw[getElem?_set_ne (Ne.symm e')];exact h4,h5⟩
   ·refine⟨vlt b' h1,fun k hk hs=>?_⟩
    rw[yy]at hs;have hs:(if v'.ownBlock=some b' then true else g.sub b')=false:=hs;rw[if_pos h1]at hs;cases hs
  ·by_cases e':k=id
   ·subst e'
    rw[getElem?_set_self hid]at hk;cases hk;refine⟨by omega,fun x yB=>?_⟩
    rcases List.mem_or_eq_of_mem_set yB with h1|h1
    ·exact xZ x h1
    ·rw[h1];rfl
   ·rw[getElem?_set_ne (Ne.symm e')]at hk;exact M.roww k _ _ _ _ _ hk
  ·rw[yy]at hs
   have hs:(if v'.ownBlock=some b' then true else g.sub b')=true:=hs;split at hs
   ·rename_i h1
    refine⟨id,_,_,_,_,_,?_,getElem?_set_self hid⟩;rw[yy];show(if v'.ownBlock=some b' then some id else g.G b')=_
    rw[if_pos h1]
   ·obtain⟨k,et,sz,fz,e,xs2,h1,h2⟩:=M.nsub b' hs
    have h3:g3.G b'=some k:=by rw[oldG b' (M.own b' k h1).1];exact h1
    by_cases e':k=id
    ·subst e'
     exact⟨k,_,_,_,_,_,h3,getElem?_set_self hid⟩
    ·exact⟨k,et,sz,fz,e,xs2,h3,by rw[getElem?_set_ne (Ne.symm e')];exact h2⟩
  ·have main:∀b' k,g3.G b'=some k->g3.sub b'=false->g.G b'=some k/\g.sub b'=false:=fun b' k h1 h2=>by
    rw[yy]at h1 h2;have h1:(if v'.ownBlock=some b' then some id else g.G b')=some k:=h1;have h2:(if v'.ownBlock=some b' then true else g.sub b')=false:=h2;split at h2
    ·cases h2
    ·rename_i e
     rw[if_neg e]at h1;exact⟨h1,h2⟩
   exact M.uniq b1 b2 k (main b1 k h1 hs).1 (main b2 k h2 jl).1 (main b1 k h1 hs).2 (main b2 k h2 jl).2
 ·have hr:=Q3i b [v'] (i * 2+1) w2
  refine⟨?_,?_,?_,jj,fun b' h1 h2=>?_,fun b' k hk=>?_,fun b' o kE=>?_,E,by simp⟩
  ·rw[zP,hr.1,hg.os,z6.os]
  ·rw[zP,hr.2.1,hg.tape,z6.tape]
  ·rw[zP,hr.2.2,hg.output,z6.output]
  ·exact keep b' h1 (fun e=>by rw[e,vI]at h2;cases h2) (fun e=>by rw[(ya b' e).1]at h2;cases h2)
  ·rcases G3 b' k hk with ⟨_,h2⟩|⟨h1,rfl⟩
   ·exact .inl ⟨k,h2⟩
   ·rcases vN b' h1 with ⟨h2,_⟩|h2
    ·exact .inl ⟨_,(ya b' h2).1⟩
    ·exact .inr h2
  ·rcases newA b' o kE with h1|⟨h1,_⟩
   ·exact .inl h1
   ·rcases vN b' h1 with ⟨h2,_⟩|h2
    ·exact .inr (.inl ⟨_,(ya b' h2).1⟩)
    ·exact .inr (.inr h2)
end
end
section
open Go.RowKit Go.Lib Tryz
section
variable {P:Program}{ops:Array Oper}{R:Exit->Act->World->Prop}{a:Act}{w w':World}{i:Nat}{rest:List Nat}{o:Oper}{ty:Tys}
theorem Q2M{v:Value}(ho:ops[i]?=some o)(hg:o.guard=none)(hr:(execOp a.eval o).run P w=.ok (.value v) w')(h:wpOps P ops R rest (a.put o.dst v) w'):wpOps P ops R (i::rest) a w:=by
 unfold wpOps;rw[ho];simp only[Region.wanted,hg,if_true];exact .inl (Q6x hr h)
theorem QfV(ho:ops[i]?=some o)(hg:o.guard=none)(hr:(execOp a.eval o).run P w=.ok .skip w')(h:wpOps P ops R rest (a.put o.dst undef) w'):wpOps P ops R (i::rest) a w:=by
 unfold wpOps;rw[ho];simp only[Region.wanted,hg,if_true];refine .inl ?_;unfold Oper.wp;rw[hr];exact h
theorem Qki(d:Nat)(v:Value):(a.put (some d) v).tmps.size=a.tmps.size:=by
 show(a.tmps.setIfInBounds d v).size=_
 simp
theorem Qlf{d:Nat}(h:d<a.tmps.size)(v:Value)(t:Nat):(a.put (some d) v).eval (.tmp t)=if t=d then v else a.eval (.tmp t):=by
 show(a.tmps.setIfInBounds d v).getD t undef=if t=d then v else a.tmps.getD t undef
 by_cases e:t=d
 ·subst e;simp[Array.getD_eq_getD_getElem?,h]
 ·rw[if_neg e]
  simp only[Array.getD_eq_getD_getElem?];rw[Array.getElem?_setIfInBounds_ne (Ne.symm e)]
structure At (N:Nat) (a:Act) (f:Nat->Value):Prop where
 defers:a.defers=[]
 size:a.tmps.size=N
 ev:∀t,a.eval (.tmp t)=f t
theorem At.put{N:Nat}{f:Nat->Value}(h:At N a f){d:Nat}(hd:d<N)(v:Value):At N (a.put (some d) v) fun t=>if t=d then v else f t :=
 ⟨h.defers,by rw[Qki];exact h.size,fun t=>by rw[Qlf (by rw[h.size];exact hd)];rw[h.ev]⟩
theorem Qa2{x:Operand}(ho:o.op=.move x\/o.op=.assign x):(execOp a.eval o).run P w=.ok (.value (a.eval x)) w:=by
 rcases ho with ho|ho<;>simp only[execOp,ho]<;>rfl
theorem Q7u{x:Operand}{ad:Addr}(ho:o.op=.nilCheck x)(hv:a.eval x=.pointer (some ad)):(execOp a.eval o).run P w=.ok (.value (.pointer (some ad))) w:=by
 simp only[execOp,ho,hv]<;>rfl
theorem Q7n(hT:TyOk P ty){T:Nat}{x:Operand}{f off t b u:Nat}(ho:o.op=.fieldAddr T x f)(hf:(Q5 T ty).flds[f]?=some (off,t))(yJ:fOk ty t=true)
  (hv:a.eval x=.pointer (some ⟨b,u,none⟩)):(execOp a.eval o).run P w=.ok (.value (.pointer (some ⟨b,u+off,none⟩))) w:=by
 obtain⟨fs,fd,h1,h2,h3⟩:=(QfJ hT hf).strct' hf;obtain⟨rfl,rfl⟩:off=fd.offset/\t=fd.type:=by simpa using h3
 simp only[fOk,Bool.and_eq_true,bne_iff_ne,ne_eq]at yJ;have hs:=(Q2S hT yJ.1).size w;simp only[execOp,ho];refine Q2t ?_;rw[hv];simp[Instr.fieldAt,run_underlying h1,h2,Instr.sureAddr,fieldPlace,hs,yJ.2,Addr.add_mid]
theorem Qit(hT:TyOk P ty){T:Nat}{x:Operand}{b u:Nat}{y:Value}(ho:o.op=.load T x)(jE:(Q5 T ty).ok=true)(nE:(Q5 T ty).agg=false)
  (hv:a.eval x=.pointer (some ⟨b,u,none⟩)) (hc:w.cell? ⟨b,u,none⟩=some y):(execOp a.eval o).run P w=.ok (.value y) w:=by
 have:=(Q2S hT jE).isAgg w
 rw[nE]at this;simp only[execOp,ho];refine Q2t ?_;rw[hv];simp[Instr.loadAt,Instr.sureAddr,loadVar,this,hc]
theorem Qg7(hT:TyOk P ty){T:Nat}{x y:Operand}{b u:Nat}{v:Value}(ho:o.op=.store T x y)(jE:(Q5 T ty).ok=true)(jj:(Q5 T ty).size=1)
  (hv:a.eval x=.pointer (some ⟨b,u,none⟩)) (hy:a.eval y=v) (h1:v.oneCell'=true) {z:Value} (hc:w.cell? ⟨b,u,none⟩=some z) (hf:w.frozen? ⟨b,u,none⟩=false) :
  (execOp a.eval o).run P w=.ok .skip (w.setCells b u [v]):=by
 have jI:=run_storeCells_cells (P:=P) b u [v] 0 w (fun j hj=>by
  obtain rfl:j=0:=by simpa using hj
  show(w.cell? ⟨b,u,none⟩).isSome=true
  rw[hc];rfl) (fun j hj=>by
  obtain rfl:j=0:=by simpa using hj
  exact hf) (fun v' hv'=>by
  obtain rfl:v'=v:=by simpa using hv'
  exact h1)
 rw[add_zero]at jI;have hsT:=(Q2S hT jE).size w;rw[jj]at hsT;have vH:v.cells=#[v]:=Qcd h1;simp only[execOp,ho,Instr.storeAt,hv,hy,Instr.sureAddr,storeVar,Sem.run_bind,Sem.run_pure,Result.andThen_ok,hsT,vH];simp[jI]
theorem Qnr{x y:Operand}{T U:Nat}{v:Value}(ho:o.op=.call { callee:=.builtin .append,args:=#[x,y],argTypes:=#[T,U] })(hr:(Builtin.append_ #[T,U] o.type #[a.eval x,a.eval y]).run P w=.ok v w') :
  (execOp a.eval o).run P w=.ok (.value v) w':=by
 obtain⟨cs,hc⟩:=Q5Y (P:=P) (a:=a) ho w;rw[hc];show(do pure (Next.value (<-Builtin.append_ #[T,U] o.type (Array.map a.eval #[x,y]))):Sem Next).run P w=_
 refine Q2t ?_;simpa using hr
end
section
variable {w0:World}{g0:Gh}{o0:List Ob}
theorem QbD{w:World}{b o:Nat}{v:Value}{cur:Array Value}{T:TypeId}{fr:Nat×Nat}(h:w.heap[b]?=some (.cells cur T fr))(hv:cur[o]?=some v):w.setCells b o [v]=w:=by
 have e:cur.setIfInBounds o v=cur:=by
  apply Array.ext';refine List.ext_getElem? fun j=>?_
  rw[Array.getElem?_toList,Array.getElem?_toList,Array.getElem?_setIfInBounds];split
  ·rename_i e;subst e
   split
   ·exact hv.symm
   ·rename_i hn;rw[Array.getElem?_eq_none (by omega)]
  ·rfl
 show({ w with heap:=_ }:World)=w
 have e2:(w.heap.modify b fun
   |.cells c elem frozen=>.cells (if(none:Option Nat).isSome then c else c.setIfInBounds o v) elem frozen
   |o=>o)=w.heap:=by
  apply Array.ext';refine List.ext_getElem? fun j=>?_
  rw[Array.getElem?_toList,Array.getElem?_toList,Array.getElem?_modify];split
  ·rename_i e3;subst e3
   rw[h];simp[e]
  ·rfl
 exact congrArg (fun x=>({ w with heap:=x }:World)) e2
theorem QiL{ob:List Ob}{args:List AV}{g:Gh}{w:World}{vs:List Value}{N:Nat}(M:Mem w g ob)(hL:Q4X w g ob vs args)(hn:args.length<=N) :
  Sim w g ob N ⟨ent 0 args,ob⟩ { tmps:=vs.toArray++Array.replicate (N-vs.toArray.size) undef,defers:=[] } w:=by
 have jB:vs.length=args.length:=hL.1;refine⟨rfl,?_,g,M,fun t=>?_,Step.refl⟩
 ·simp;omega
 ·show ARel w g ob _ (lk t (ent 0 args))
  rw[QfN];simp only[Nat.zero_le,if_true,Nat.sub_zero];by_cases ht:t<args.length
  ·rw[List.getD_eq_getElem?_getD,getElem?_eq_getElem ht,Option.getD_some]
   have e:(vs.toArray++Array.replicate (N-vs.toArray.size) undef).getD t undef=vs[t]'(by omega):=by
    rw[Array.getD_eq_getD_getElem?,Array.getElem?_append_left (by simp;omega)]
    simp[show t<vs.length by omega]
   rw[e];exact(hL.2 t _ _ (getElem?_eq_getElem (by omega)) (getElem?_eq_getElem ht)).to
  ·rw[List.getD_eq_getElem?_getD,List.getElem?_eq_none (by omega)]
   trivial
end
theorem QcW{P:Program}{fn:Func}(h:fn.results=#[])(tmps:Array Value)(w:World):(results fn tmps).run P w=.ok (.tuple #[]) w:=by
 simp[results,h]
noncomputable def kidR0:Code:=match f42.body with|some (.seq c _)=>c|_=>.skip
noncomputable def kidR1:Code:=match f42.body with|some (.seq _ c)=>c|_=>.skip
def Qoq(ob:List Ob)(k:Nat)(i n:Int)(e:Ex)(s:St):Prop:=e=.normal/\s.ob=ob/\lk 4 s.tm=.rptr k 0 i 0/\lk 1 s.tm=.val (.int .i64 n)
theorem Qni{ob:List Ob}{k:Nat}{bs tp:AV}{xs:List AV}(hb:ob[0]?=some (.box [bs,tp,.row k 0]))(hk:ob[k]?=some (.row Q5U 2 false 0 xs)){i n:Int}
  (v9:∀w0 g0,(Q4 std tys cs0 (fun _=>.nil) kidR0 (fun e s=>.leaf e s) ⟨ent 0 [.box 0 0,.val (.int .i64 n)],ob⟩).ok prog w0 g0 ob 26 (Qoq ob k i n))
  {a u:AV} {us:List AV} (hi:0<=i) (hx:xs[i.toNat]?=some (.agg [a,u])) (hu:u=.slc 1 us\/(u=.val (.slice none 0 0)/\us=[])) (hul:us.length<=1000000) :
  BCall prog 42 [.box 0 0,.val (.int .i64 n)] ob (.tup []) ((ob.set k (.row Q5U 2 false 1 (xs.set i.toNat (.agg [a,.slc 1 (us++[.val (.int .i64 n)])])))).set 0 (.box [bs,tp,.row k 1])):=by
 refine⟨enters_of func42 (by kernel_rfl) rfl,fun w0 g0 vs M0 hL=>calls_of_wp func42 (c:=.seq kidR0 kidR1) rfl ?_⟩
 refine wp_seq (Q5j (w0:=w0) (g0:=g0) (o0:=ob) (N:=26) (Q:=Qoq ob k i n) (cs:=cs0) (ord:=fun _=>.nil) Q6k (by kernel_rfl) kidR0 (fun e s=>.leaf e s) _ ⟨ent 0 [.box 0 0,.val (.int .i64 n)],ob⟩ _ w0 (by kernel_rfl) (by kernel_rfl) (fun c a d v w h=>h) (fun e s ac w hs hq=>?_) (QiL M0 hL (Nat.le_of_ble_eq_true rfl)) (v9 w0 g0))
 obtain⟨rfl,j2,h4,h1⟩:=(show Qoq ob k i n e s from hq);show kidR1.wp _ _ ac w;refine wp_region ?_;show wpOps _ _ _ [0,1,2,3,4,5,6,7,8,9,10] ac w;obtain⟨hdf,jj,g,M,hS,h0⟩:=hs;rw[j2]at M h0;have q8:k≠0:=by rintro rfl;rw[hb]at hk;cases hk
 -- what the slots ge
 have hp:=hS 4;rw[h4,j2]at hp;obtain⟨_,et,sz,fz,ee,xs',yM,_,xS⟩:=(show ARel0 w g ob _ (.rptr k 0 i 0) from hp);rw[hk]at yM;cases yM;obtain⟨b,c,hpv,_,jS,hRV⟩:=xS rfl;have hn:=hS 1;rw[h1]at hn;have hnv:=hn.valEq;-- the maker's box
 obtain⟨hG0,cur,T0,hh0,jk⟩:=M.box 0 _ hb;have vH:cur.toList.length=3:=jk.1;obtain⟨v,hv⟩:∃v,cur.toList[2]?=some v:=⟨_,getElem?_eq_getElem (by omega)⟩
 obtain⟨⟨gz,et,sz,fz,ee,xs',yM,_,cG⟩,_⟩:=jk.2 2 v (.row k 0) hv rfl;rw[hk]at yM;cases yM;have hRB:=cG rfl;obtain⟨ysP,hoP,hGP,_,_,hsP,_⟩:=hRV;obtain⟨ysB,hoB,hGB,_,_,yz,_⟩:=(show RowV w g k Q5U 2 v xs from hRB);rcases hoB.2 with ⟨_,h00⟩|⟨bB,cap,curB,rfl,_,hhB,_,_,_,_⟩
 ·omega
 obtain rfl:b=bB:=M.uniq _ _ k (hGP b rfl) (hGB bB rfl) (hsP b rfl) (yz bB rfl);obtain⟨y,zs,hcell,jM,vJ,ja,hus,ya⟩:=Qnt M hk hRB hx hu;have vI:=hGB b rfl;have jY:=(M.own b k vI).1
 have kH:y.ownBlock≠some b:=fun e=>by
  have:=(ya b e).2.1
  rw[yz b rfl]at this;cases this
 have h0ne:g.loc 0≠b:=fun e=>by
  rw[e,vI]at hG0;exact q8 (Option.some.inj hG0)
 have h0ny:y.ownBlock≠some (g.loc 0):=fun e=>by
  have:=(ya _ e).1
  rw[hG0]at this;exact q8 (Option.some.inj this).symm
 -- one operation after the other
 have A0:At 26 ac (fun t=>ac.eval (.tmp t)):=⟨hdf,jj,fun _=>rfl⟩
 have e4:ac.eval (.tmp 4)=.pointer (some ⟨b,i.toNat * 2+0,none⟩):=hpv;have e1:ac.eval (.tmp 1)=.int .i64 n:=hnv;generalize p4:Value.pointer (some ⟨b,i.toNat * 2+0,none⟩)=PV at e4;refine Q2M rfl rfl (Qa2 (x:=.tmp 4) (.inl rfl)) ?_;rw[e4];show wpOps _ _ _ [1,2,3,4,5,6,7,8,9,10] (ac.put (some 16) PV) w;have A1:=A0.put (d:=16) (by decide) PV
 generalize ac.put (some 16) PV=a1 at A1 ⊢;refine Q2M rfl rfl (Qa2 (x:=.tmp 4) (.inl rfl)) ?_;rw[show a1.eval (.tmp 4)=PV by rw[A1.ev];exact e4]
 show wpOps _ _ _ [2,3,4,5,6,7,8,9,10] (a1.put (some 17) PV) w;have A2:=A1.put (d:=17) (by decide) PV
 generalize a1.put (some 17) PV=a2 at A2 ⊢;refine Q2M rfl rfl (Q7u (x:=.tmp 17) (ad:=⟨b,i.toNat * 2+0,none⟩) rfl (by rw[A2.ev,p4];rfl)) ?_
 rw[p4];show wpOps _ _ _ [3,4,5,6,7,8,9,10] (a2.put (some 18) PV) w;have A3:=A2.put (d:=18) (by decide) PV
 generalize a2.put (some 18) PV=a3 at A3 ⊢;refine Q2M rfl rfl (Q7n Q6k (x:=.tmp 18) (off:=1) (t:=23) rfl (by kernel_rfl) (by kernel_rfl) (b:=b) (u:=i.toNat * 2+0) (by rw[A3.ev,p4];rfl)) ?_
 rw[add_zero];generalize hFV:Value.pointer (some ⟨b,i.toNat * 2+1,none⟩)=FV;show wpOps _ _ _ [4,5,6,7,8,9,10] (a3.put (some 19) FV) w;have A4:=A3.put (d:=19) (by decide) FV
 generalize a3.put (some 19) FV=a4 at A4 ⊢;refine Q2M rfl rfl (Qit Q6k (x:=.tmp 19) rfl (by kernel_rfl) (by kernel_rfl) (b:=b) (u:=i.toNat * 2+1) (by rw[A4.ev,hFV];rfl) hcell) ?_
 show wpOps _ _ _ [5,6,7,8,9,10] (a4.put (some 20) y) w;have A5:=A4.put (d:=20) (by decide) y
 generalize a4.put (some 20) y=a5 at A5 ⊢;refine Q2M rfl rfl (Qa2 (x:=.tmp 1) (.inl rfl)) ?_;rw[show a5.eval (.tmp 1)=.int .i64 n by rw[A5.ev];exact e1]
 generalize hNV:Value.int .i64 n=NV;show wpOps _ _ _ [6,7,8,9,10] (a5.put (some 21) NV) w;have A6:=A5.put (d:=21) (by decide) NV
 generalize a5.put (some 21) NV=a6 at A6 ⊢;-- the slice of one number
 obtain⟨e,xm,qg,te,z4,_⟩:=Q4R Q6k (T:=23) (sz:=1) (by kernel_rfl)
 obtain⟨ie,z,ga,vR,kF,pW,ko⟩:=te.i;have hek:e=Qiz:=qg.trans (by kernel_rfl)
 rw[z4]at vR
 have cx:z.cells.size=1:=by
  have:=congrArg List.length ko
  rw[Array.length_toList,te.zl,z4]at this;exact this
 have hN1:NV.cells=#[NV]:=by rw[<-hNV];rfl
 obtain⟨c',hf,zk⟩:=Q8U (sz:=1) [NV] 0 ((Array.range (1 * 1)).map (z.cells[· % z.cells.size]!)) (fun v' hv'=>by
  obtain rfl:v'=NV:=by simpa using hv'
  rw[hN1];rfl) (by simp)
 obtain rfl:c'=#[NV]:=by
  apply Array.ext';rw[zk];simp[hN1]
 have hrB:(Instr.buildSlice 23 1 #[(0,NV)]).run prog w=.ok (.slice (some ⟨w.heap.size,0,none⟩) 1 1) (w.alloc (.cells #[NV] e)) :=
  run_buildSlice w 23 e 1 _ _ ie z xm ga pW (by rw[vR];decide) (by rw[vR];decide) (by rw[vR];exact hf)
 refine Q2M (w':=w.alloc (.cells #[NV] e)) (v:=.slice (some ⟨w.heap.size,0,none⟩) 1 1) rfl rfl (by
  simp only[execOp];refine Q2t ?_
  have:(#[(0,Operand.tmp 21)].map fun(x:Nat×Operand)=>(x.1,a6.eval x.2))=#[(0,NV)]:=by
   simp[A6.ev]
  rw[<-this]at hrB;exact hrB) ?_
 have hhN:(w.alloc (.cells #[NV] e)).heap[w.heap.size]?=some (.cells #[NV] e (0,0)):=Q6H w _;have gM:Below w.heap.size w (w.alloc (.cells #[NV] e)):=(Below.refl _ w).alloc (le_refl _) _;have ge:∀b',b'<w.heap.size->(w.alloc (.cells #[NV] e)).heap[b']?=w.heap[b']?:=fun b' h=>Q4n h
 generalize hSV:Value.slice (some ⟨w.heap.size,0,none⟩) 1 1=SV;show wpOps _ _ _ [7,8,9,10] (a6.put (some 22) SV) _;generalize w.alloc (.cells #[NV] e)=w1 at hhN gM ge ⊢;have A7:=A6.put (d:=22) (by decide) SV
 generalize a6.put (some 22) SV=a7 at A7 ⊢
 obtain⟨v',w2,hrA,xh,hg,yZ,yH⟩:=QaZ (P:=prog) (w:=w1) (t:=23) (u:=23) (ty:=23) xm xm (.inl ⟨_,rfl⟩) ga pW vR (by rw[kF];exact te.by_) cx
  (Q3A (hek ▸ jM) fun b' gY=>ge b' (ya b' gY).2.2.2) (x:=SV) (m:=1) (news:=[NV]) rfl (fun W=>by rw[<-hSV];rfl)
  (fun W hW=>by
    rw[<-hSV];refine run_firstCells_some (P:=prog) W 1 1 _ _ _ [NV] rfl (fun j u hj=>?_)
    cases j with
    |zero =>
     obtain rfl:NV=u:=by simpa using hj
     show W.cell? ⟨w.heap.size,0+0,none⟩=_;simp[World.cell?,hW,hhN]
    |succ j=>simp at hj) (fun u hu=>by
    obtain rfl:u=NV:=by simpa using hu
    rw[<-hNV];rfl) (by omega)
 refine Q2M rfl rfl (Qnr (x:=.tmp 20) (y:=.tmp 22) rfl (by
  rw[show a7.eval (.tmp 20)=y by rw[A7.ev];rfl,show a7.eval (.tmp 22)=SV by rw[A7.ev];rfl]
  exact hrA)) ?_
 show wpOps _ _ _ [8,9,10] (a7.put (some 23) v') w2;have A8:=A7.put (d:=23) (by decide) v'
 generalize a7.put (some 23) v'=a8 at A8 ⊢;refine Q2M rfl rfl (Q7u (x:=.tmp 16) (ad:=⟨b,i.toNat * 2+0,none⟩) rfl (by rw[A8.ev,p4];rfl)) ?_
 rw[p4];show wpOps _ _ _ [9,10] (a8.put (some 24) PV) w2;have A9:=A8.put (d:=24) (by decide) PV
 generalize a8.put (some 24) PV=a9 at A9 ⊢;refine Q2M rfl rfl (Q7n Q6k (x:=.tmp 24) (off:=1) (t:=23) rfl (by kernel_rfl) (by kernel_rfl) (b:=b) (u:=i.toNat * 2+0) (by rw[A9.ev,p4];rfl)) ?_
 rw[add_zero,hFV];show wpOps _ _ _ [10] (a9.put (some 25) FV) w2;have A10:=A9.put (d:=25) (by decide) FV
 generalize a9.put (some 25) FV=a10 at A10 ⊢
 have hh2:w2.heap[b]?=w.heap[b]?:=by
  rw[hg.block b (lt_of_lt_of_le jY gM.size) (fun e=>kH e.symm),ge b jY]
 have hv'1:v'.oneCell'=true:=by
  rcases xh.2 with ⟨_,h00⟩|⟨b',cap',cur',rfl,_⟩
  ·omega
  ·rfl
 refine QfV (w':=w2.setCells b (i.toNat * 2+1) [v']) rfl rfl (Qg7 Q6k (x:=.tmp 25) (y:=.tmp 23) rfl (by kernel_rfl) (by kernel_rfl) (by rw[A10.ev,hFV];rfl) (by rw[A10.ev];rfl) hv'1 (z:=y)
  (by rw[World.cell?_of_block (w:=w) hh2];exact hcell) (by simp[World.frozen?,hh2,hhB])) ?_
 obtain⟨g3,M3,S3,R3⟩:=Qnw M hk hRB hx hcell jM ja hus ya (n:=n) gM (hNV ▸ hek ▸ xh) hg yZ yH;generalize zP:w2.setCells b (i.toNat * 2+1) [v']=w3 at M3 S3 R3 ⊢
 have vt:(ob.set k (.row Q5U 2 false (0+1) (xs.set i.toNat (.agg [a,.slc 1 (us++[.val (.int .i64 n)])]))))[0]?=some (.box [bs,tp,.row k 0]):=by
  rw[getElem?_set_ne q8];exact hb
 have kj:g3.loc 0=g.loc 0:=S3.ext.loc 0 (Qa hb)
 have hh3:w3.heap[g.loc 0]?=some (.cells cur T0 (0,0)):=by
  have jA:=(M.own _ _ hG0).1;rw[<-zP,Q1N (k:=0) h0ne,hg.block _ (lt_of_lt_of_le jA gM.size) (fun e=>h0ny e.symm),ge _ jA]
  exact hh0
 have M4:=M3.store vt (off:=2) (vs:=[Value.slice (some ⟨b,0,none⟩) xs.length cap]) (us:=[.row k 1]) ⟨rfl,fun j y' u' vQ jd=>by
  cases j with
  |zero =>
   obtain rfl:Value.slice (some ⟨b,0,none⟩) xs.length cap=y':=by simpa using vQ
   obtain rfl:AV.row k 1=u':=by simpa using jd
   exact⟨⟨rfl,Q5U,2,false,1,_,getElem?_set_self (Qa hk),le_refl _,fun _=>by
    have zt:(xs.set i.toNat (.agg [a,.slc 1 (us++[.val (.int .i64 n)])])).length=xs.length:=by rw[length_set]
    exact R3⟩,rfl⟩
  |succ j=>simp at vQ⟩ (le_refl _)
 have S4:=Step.store M3 vt 2 [Value.slice (some ⟨b,0,none⟩) xs.length cap] [bs,tp,.row k 1];rw[kj,QbD hh3 (by rw[<-Array.getElem?_toList];exact hv)]at M4 S4
 show bodyPost _ _ _ .normal _ _;subst hNV;exact⟨A10.defers,_,QcW rfl _ _,_,g3,rfl,M4,⟨#[],rfl,rfl,fun j y' u' h=>by simp at h⟩,(h0.trans S3).trans S4⟩
