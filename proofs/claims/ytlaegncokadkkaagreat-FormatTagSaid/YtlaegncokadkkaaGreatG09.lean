/- Lemmas, conditions told -/
import Derived.Test.YtlaegncokadkkaaGreatG08
import Derived.Test.YtlaegncokadkkaaGreatProg
import Derived.Shelf.Abstract
import Derived.LoopN
set_option maxRecDepth 99999
set_option maxHeartbeats 0
set_option linter.unusedSimpArgs false
set_option linter.unusedVariables false
namespace Go.Proofs.YtlaegncokadkkaaGreat
open Nat(eq_of_beq_eq_true)
section
open Tryz
def Qn5:List (Nat×TI):=[(1,⟨1,false,0,[],[.nilFunc],none,8,false,7,true,0⟩),
 (2,⟨1,false,0,[],[.int .i64 0],some .i64,8,false,3,true,0⟩),
 (3,⟨1,false,0,[],[.int .i64 0],some .i64,8,false,3,true,0⟩),
 (4,⟨1,false,0,[],[.bool false],none,1,false,5,true,0⟩),
 (5,⟨1,false,0,[],[.int .u8 0],some .u8,1,false,3,true,0⟩),
 (6,⟨1,false,0,[],[.int .u8 0],some .u8,1,false,3,true,0⟩),
 (7,⟨4,true,0,[(0,2),(1,3),(2,4),(3,6)],[.int .i64 0,.int .i64 0,.bool false,.int .u8 0],none,24,false,1,true,0⟩),
 (8,⟨4,true,0,[(0,2),(1,3),(2,4),(3,6)],[.int .i64 0,.int .i64 0,.bool false,.int .u8 0],none,24,false,1,true,0⟩),
 (9,⟨1,false,0,[],[.string ⟨#[]⟩],none,16,false,6,true,0⟩),
 (10,⟨1,false,0,[],[.string ⟨#[]⟩],none,16,false,6,true,0⟩),
 (11,⟨1,false,0,[],[.string ⟨#[]⟩],none,16,false,6,true,0⟩),
 (12,⟨1,false,0,[],[.int .u64 0],some .u64,8,false,3,true,0⟩),
 (13,⟨2,true,0,[(0,9),(1,12)],[.string ⟨#[]⟩,.int .u64 0],none,24,false,1,true,0⟩),
 (14,⟨2,true,0,[(0,9),(1,12)],[.string ⟨#[]⟩,.int .u64 0],none,24,false,1,true,0⟩),
 (15,⟨1,false,0,[],[.pointer none],none,8,false,4,true,0⟩),
 (16,⟨1,false,0,[],[.pointer none],none,8,false,4,true,0⟩),
 (17,⟨1,false,0,[],[.pointer none],none,8,false,4,true,0⟩),
 (18,⟨1,true,0,[(0,17)],[.pointer none],none,8,false,1,true,0⟩),
 (19,⟨1,true,0,[(0,17)],[.pointer none],none,8,false,1,true,0⟩),
 (21,⟨1,false,0,[],[.int .i32 0],some .i32,4,false,3,true,0⟩),
 (22,⟨7,true,0,[(0,3),(1,3),(2,3),(3,3),(4,3),(5,4),(6,4)],[.int .i64 0,.int .i64 0,.int .i64 0,.int .i64 0,.int .i64 0,.bool false,.bool false],none,48,false,1,true,0⟩),
 (23,⟨7,true,0,[(0,3),(1,3),(2,3),(3,3),(4,3),(5,4),(6,4)],[.int .i64 0,.int .i64 0,.int .i64 0,.int .i64 0,.int .i64 0,.bool false,.bool false],none,48,false,1,true,0⟩),
 (24,⟨1,false,21,[],[.slice none 0 0],none,24,true,2,true,0⟩),
 (25,⟨1,false,0,[],[.nilFunc],none,8,false,7,true,0⟩),
 (26,⟨1,false,0,[],[.nilFunc],none,8,false,7,true,0⟩),
 (27,⟨7,true,0,[(0,3),(1,3),(2,3),(3,3),(4,3),(5,4),(6,4)],[.int .i64 0,.int .i64 0,.int .i64 0,.int .i64 0,.int .i64 0,.bool false,.bool false],none,48,false,1,true,0⟩),
 (28,⟨1,false,0,[],[.nilFunc],none,8,false,7,true,0⟩),
 (29,⟨1,false,0,[],[.nilFunc],none,8,false,7,true,0⟩),
 (30,⟨1,false,0,[],[.nilFunc],none,8,false,7,true,0⟩),
 (31,⟨1,false,0,[],[.nilFunc],none,8,false,7,true,0⟩),
 (32,⟨1,false,0,[],[.nilFunc],none,8,false,7,true,0⟩),
 (33,⟨3,true,0,[(0,3),(1,3),(2,3)],[.int .i64 0,.int .i64 0,.int .i64 0],none,24,false,1,true,0⟩),
 (34,⟨3,true,0,[(0,3),(1,3),(2,3)],[.int .i64 0,.int .i64 0,.int .i64 0],none,24,false,1,true,0⟩),
 (35,⟨1,false,43,[],[.slice none 0 0],none,24,true,2,true,0⟩),
 (36,⟨6,true,0,[(0,34),(3,35),(4,4),(5,4)],[.int .i64 0,.int .i64 0,.int .i64 0,.slice none 0 0,.bool false,.bool false],none,56,false,1,true,0⟩),
 (37,⟨6,true,0,[(0,34),(3,35),(4,4),(5,4)],[.int .i64 0,.int .i64 0,.int .i64 0,.slice none 0 0,.bool false,.bool false],none,56,false,1,true,0⟩),
 (38,⟨1,false,0,[],[.nilFunc],none,8,false,7,true,0⟩),
 (39,⟨1,false,0,[],[.nilFunc],none,8,false,7,true,0⟩),
 (40,⟨1,false,0,[],[.nilFunc],none,8,false,7,true,0⟩),
 (41,⟨1,false,24,[],[.slice none 0 0],none,24,true,2,true,0⟩),
 (42,⟨9,true,0,[(0,34),(3,34),(6,34)],[.int .i64 0,.int .i64 0,.int .i64 0,.int .i64 0,.int .i64 0,.int .i64 0,.int .i64 0,.int .i64 0,.int .i64 0],none,72,false,1,true,0⟩),
 (43,⟨9,true,0,[(0,34),(3,34),(6,34)],[.int .i64 0,.int .i64 0,.int .i64 0,.int .i64 0,.int .i64 0,.int .i64 0,.int .i64 0,.int .i64 0,.int .i64 0],none,72,false,1,true,0⟩),
 (44,⟨1,false,0,[],[.nilFunc],none,8,false,7,true,0⟩),
 (45,⟨1,false,0,[],[.nilFunc],none,8,false,7,true,0⟩),
 (46,⟨1,false,0,[],[.nilFunc],none,8,false,7,true,0⟩),
 (47,⟨1,false,0,[],[.nilFunc],none,8,false,7,true,0⟩),
 (48,⟨1,false,0,[],[.nilFunc],none,8,false,7,true,0⟩),
 (49,⟨1,false,0,[],[.nilFunc],none,8,false,7,true,0⟩),
 (50,⟨1,false,0,[],[.nilFunc],none,8,false,7,true,0⟩),
 (51,⟨3,true,0,[(0,3),(1,3),(2,3)],[.int .i64 0,.int .i64 0,.int .i64 0],none,24,false,1,true,0⟩),
 (52,⟨1,false,58,[],[.slice none 0 0],none,24,true,2,true,0⟩),
 (53,⟨6,true,0,[(0,51),(3,52),(4,4),(5,4)],[.int .i64 0,.int .i64 0,.int .i64 0,.slice none 0 0,.bool false,.bool false],none,56,false,1,true,0⟩),
 (54,⟨6,true,0,[(0,51),(3,52),(4,4),(5,4)],[.int .i64 0,.int .i64 0,.int .i64 0,.slice none 0 0,.bool false,.bool false],none,56,false,1,true,0⟩),
 (55,⟨1,false,0,[],[.nilFunc],none,8,false,7,true,0⟩),
 (56,⟨1,false,0,[],[.nilFunc],none,8,false,7,true,0⟩),
 (57,⟨9,true,0,[(0,51),(3,51),(6,51)],[.int .i64 0,.int .i64 0,.int .i64 0,.int .i64 0,.int .i64 0,.int .i64 0,.int .i64 0,.int .i64 0,.int .i64 0],none,72,false,1,true,0⟩),
 (58,⟨9,true,0,[(0,51),(3,51),(6,51)],[.int .i64 0,.int .i64 0,.int .i64 0,.int .i64 0,.int .i64 0,.int .i64 0,.int .i64 0,.int .i64 0,.int .i64 0],none,72,false,1,true,0⟩),
 (59,⟨1,false,0,[],[.nilFunc],none,8,false,7,true,0⟩),
 (60,⟨1,false,0,[],[.nilFunc],none,8,false,7,true,0⟩),
 (61,⟨1,false,0,[],[.nilFunc],none,8,false,7,true,0⟩),
 (62,⟨1,false,0,[],[.nilFunc],none,8,false,7,true,0⟩),
 (63,⟨1,false,0,[],[.nilFunc],none,8,false,7,true,0⟩),
 (64,⟨1,false,5,[],[.slice none 0 0],none,24,true,2,true,0⟩),
 (66,⟨1,false,0,[],[.nilFunc],none,8,false,7,true,0⟩),
 (67,⟨1,false,0,[],[.nilFunc],none,8,false,7,true,0⟩),
 (68,⟨1,false,0,[],[.pointer none],none,8,false,4,true,0⟩),
 (69,⟨1,false,34,[],[.slice none 0 0],none,24,true,2,true,0⟩),
 (70,⟨1,false,0,[],[.nilFunc],none,8,false,7,true,0⟩),
 (71,⟨2,true,0,[(0,69),(1,3)],[.slice none 0 0,.int .i64 0],none,32,false,1,true,0⟩),
 (72,⟨2,true,0,[(0,69),(1,3)],[.slice none 0 0,.int .i64 0],none,32,false,1,true,0⟩),
 (73,⟨1,false,0,[],[.nilFunc],none,8,false,7,true,0⟩),
 (75,⟨1,false,0,[],[.nilFunc],none,8,false,7,true,0⟩),
 (76,⟨1,false,0,[],[.nilFunc],none,8,false,7,true,0⟩),
 (77,⟨1,false,0,[],[.nilFunc],none,8,false,7,true,0⟩),
 (78,⟨1,false,0,[],[.nilFunc],none,8,false,7,true,0⟩),
 (79,⟨3,true,9,[],[.string ⟨#[]⟩,.string ⟨#[]⟩,.string ⟨#[]⟩],none,48,false,103,true,0⟩),
 (80,⟨1,false,51,[],[.slice none 0 0],none,24,true,2,true,0⟩),
 (81,⟨1,false,0,[],[.nilFunc],none,8,false,7,true,0⟩),
 (82,⟨1,false,0,[],[.nilFunc],none,8,false,7,true,0⟩),
 (84,⟨1,false,0,[],[.nilFunc],none,8,false,7,true,0⟩),
 (85,⟨3,true,0,[(0,9),(1,9),(2,9)],[.string ⟨#[]⟩,.string ⟨#[]⟩,.string ⟨#[]⟩],none,48,false,1,true,0⟩),
 (86,⟨3,true,0,[(0,9),(1,9),(2,9)],[.string ⟨#[]⟩,.string ⟨#[]⟩,.string ⟨#[]⟩],none,48,false,1,true,0⟩),
 (87,⟨1,false,307,[],[.slice none 0 0],none,24,true,2,true,0⟩),
 (88,⟨1,false,346,[],[.slice none 0 0],none,24,true,2,true,0⟩),
 (89,⟨1,false,91,[],[.slice none 0 0],none,24,true,2,true,0⟩),
 (90,⟨9,true,0,[(0,3),(1,86),(4,87),(5,88),(6,9),(7,9),(8,89)],[.int .i64 0,.string ⟨#[]⟩,.string ⟨#[]⟩,.string ⟨#[]⟩,.slice none 0 0,.slice none 0 0,.string ⟨#[]⟩,.string ⟨#[]⟩,.slice none 0 0],none,160,false,1,true,0⟩),
 (91,⟨9,true,0,[(0,3),(1,86),(4,87),(5,88),(6,9),(7,9),(8,89)],[.int .i64 0,.string ⟨#[]⟩,.string ⟨#[]⟩,.string ⟨#[]⟩,.slice none 0 0,.slice none 0 0,.string ⟨#[]⟩,.string ⟨#[]⟩,.slice none 0 0],none,160,false,1,true,0⟩),
 (92,⟨13,true,0,[(0,3),(1,3),(2,91),(11,3),(12,4)],[.int .i64 0,.int .i64 0,.int .i64 0,.string ⟨#[]⟩,.string ⟨#[]⟩,.string ⟨#[]⟩,.slice none 0 0,.slice none 0 0,.string ⟨#[]⟩,.string ⟨#[]⟩,.slice none 0 0,.int .i64 0,.bool false],none,192,false,1,true,0⟩),
 (93,⟨13,true,0,[(0,3),(1,3),(2,91),(11,3),(12,4)],[.int .i64 0,.int .i64 0,.int .i64 0,.string ⟨#[]⟩,.string ⟨#[]⟩,.string ⟨#[]⟩,.slice none 0 0,.slice none 0 0,.string ⟨#[]⟩,.string ⟨#[]⟩,.slice none 0 0,.int .i64 0,.bool false],none,192,false,1,true,0⟩),
 (94,⟨1,false,0,[],[.nilFunc],none,8,false,7,true,0⟩),
 (95,⟨1,false,0,[],[.nilFunc],none,8,false,7,true,0⟩),
 (96,⟨1,false,0,[],[.pointer none],none,8,false,4,true,0⟩),
 (97,⟨1,false,3,[],[.slice none 0 0],none,24,true,2,true,0⟩),
 (98,⟨4,true,0,[(0,3),(1,3),(2,24),(3,97)],[.int .i64 0,.int .i64 0,.slice none 0 0,.slice none 0 0],none,64,false,1,true,0⟩),
 (99,⟨4,true,0,[(0,3),(1,3),(2,24),(3,97)],[.int .i64 0,.int .i64 0,.slice none 0 0,.slice none 0 0],none,64,false,1,true,0⟩),
 (100,⟨1,false,0,[],[.pointer none],none,8,false,4,true,0⟩),
 (101,⟨1,false,233,[],[.slice none 0 0],none,24,true,2,true,0⟩),
 (102,⟨7,true,0,[(0,99),(4,100),(5,3),(6,101)],[.int .i64 0,.int .i64 0,.slice none 0 0,.slice none 0 0,.pointer none,.int .i64 0,.slice none 0 0],none,104,false,1,true,0⟩),
 (103,⟨7,true,0,[(0,99),(4,100),(5,3),(6,101)],[.int .i64 0,.int .i64 0,.slice none 0 0,.slice none 0 0,.pointer none,.int .i64 0,.slice none 0 0],none,104,false,1,true,0⟩),
 (104,⟨1,false,0,[],[.nilFunc],none,8,false,7,true,0⟩),
 (105,⟨15,true,0,[(0,27),(7,103),(14,24)],[.int .i64 0,.int .i64 0,.int .i64 0,.int .i64 0,.int .i64 0,.bool false,.bool false,.int .i64 0,.int .i64 0,.slice none 0 0,.slice none 0 0,.pointer none,.int .i64 0,.slice none 0 0,.slice none 0 0],none,176,false,1,true,0⟩),
 (106,⟨15,true,0,[(0,27),(7,103),(14,24)],[.int .i64 0,.int .i64 0,.int .i64 0,.int .i64 0,.int .i64 0,.bool false,.bool false,.int .i64 0,.int .i64 0,.slice none 0 0,.slice none 0 0,.pointer none,.int .i64 0,.slice none 0 0,.slice none 0 0],none,176,false,1,true,0⟩),
 (107,⟨1,false,0,[],[.nilFunc],none,8,false,7,true,0⟩),
 (108,⟨1,false,0,[],[.nilFunc],none,8,false,7,true,0⟩),
 (109,⟨1,false,0,[],[.nilFunc],none,8,false,7,true,0⟩),
 (111,⟨1,false,0,[],[.nilFunc],none,8,false,7,true,0⟩),
 (112,⟨1,false,0,[],[.nilFunc],none,8,false,7,true,0⟩),
 (113,⟨1,false,0,[],[.int .u64 0],some .u64,8,false,3,true,0⟩),
 (115,⟨1,false,0,[],[.nilFunc],none,8,false,7,true,0⟩),
 (116,⟨1,false,0,[],[.nilFunc],none,8,false,7,true,0⟩),
 (117,⟨1,false,120,[],[.slice none 0 0],none,24,true,2,true,0⟩),
 (118,⟨1,false,0,[],[.nilFunc],none,8,false,7,true,0⟩),
 (119,⟨3,true,0,[(0,21),(1,3),(2,3)],[.int .i32 0,.int .i64 0,.int .i64 0],none,24,false,1,true,0⟩),
 (120,⟨3,true,0,[(0,21),(1,3),(2,3)],[.int .i32 0,.int .i64 0,.int .i64 0],none,24,false,1,true,0⟩),
 (121,⟨2,true,0,[(0,3),(1,3)],[.int .i64 0,.int .i64 0],none,16,false,1,true,0⟩),
 (122,⟨2,true,0,[(0,3),(1,3)],[.int .i64 0,.int .i64 0],none,16,false,1,true,0⟩),
 (124,⟨1,false,0,[],[.pointer none],none,8,false,4,true,0⟩),
 (125,⟨1,false,0,[],[.pointer none],none,8,false,4,true,0⟩),
 (126,⟨1,false,0,[],[.nilFunc],none,8,false,7,true,0⟩),
 (127,⟨1,false,0,[],[.pointer none],none,8,false,4,true,0⟩),
 (128,⟨23,true,0,[(0,64),(1,103),(8,3),(9,127),(10,125),(11,4),(12,4),(13,4),(14,91)],[.slice none 0 0,.int .i64 0,.int .i64 0,.slice none 0 0,.slice none 0 0,.pointer none,.int .i64 0,.slice none 0 0,.int .i64 0,.pointer none,.pointer none,.bool false,.bool false,.bool false,.int .i64 0,.string ⟨#[]⟩,.string ⟨#[]⟩,.string ⟨#[]⟩,.slice none 0 0,.slice none 0 0,.string ⟨#[]⟩,.string ⟨#[]⟩,.slice none 0 0],none,320,false,1,true,0⟩),
 (129,⟨23,true,0,[(0,64),(1,103),(8,3),(9,127),(10,125),(11,4),(12,4),(13,4),(14,91)],[.slice none 0 0,.int .i64 0,.int .i64 0,.slice none 0 0,.slice none 0 0,.pointer none,.int .i64 0,.slice none 0 0,.int .i64 0,.pointer none,.pointer none,.bool false,.bool false,.bool false,.int .i64 0,.string ⟨#[]⟩,.string ⟨#[]⟩,.string ⟨#[]⟩,.slice none 0 0,.slice none 0 0,.string ⟨#[]⟩,.string ⟨#[]⟩,.slice none 0 0],none,320,false,1,true,0⟩),
 (130,⟨1,false,0,[],[.nilFunc],none,8,false,7,true,0⟩),
 (131,⟨1,false,0,[],[.pointer none],none,8,false,4,true,0⟩),
 (132,⟨1,false,0,[],[.nilFunc],none,8,false,7,true,0⟩),
 (133,⟨1,false,0,[],[.nilFunc],none,8,false,7,true,0⟩),
 (134,⟨1,false,0,[],[.pointer none],none,8,false,4,true,0⟩),
 (135,⟨2,true,0,[(0,24),(1,97)],[.slice none 0 0,.slice none 0 0],none,48,false,1,true,0⟩),
 (136,⟨2,true,0,[(0,24),(1,97)],[.slice none 0 0,.slice none 0 0],none,48,false,1,true,0⟩),
 (137,⟨1,false,136,[],[.slice none 0 0],none,24,true,2,true,0⟩),
 (138,⟨3,true,0,[(0,64),(1,131),(2,137)],[.slice none 0 0,.pointer none,.slice none 0 0],none,56,false,1,true,0⟩),
 (139,⟨3,true,0,[(0,64),(1,131),(2,137)],[.slice none 0 0,.pointer none,.slice none 0 0],none,56,false,1,true,0⟩),
 (140,⟨1,false,0,[],[.nilFunc],none,8,false,7,true,0⟩),
 (141,⟨1,false,0,[],[.nilFunc],none,8,false,7,true,0⟩),
 (142,⟨1,false,9,[],[.slice none 0 0],none,24,true,2,true,0⟩),
 (143,⟨1,false,146,[],[.slice none 0 0],none,24,true,2,true,0⟩),
 (144,⟨1,false,0,[],[.pointer none],none,8,false,4,true,0⟩),
 (145,⟨5,true,0,[(0,100),(1,3),(2,3),(3,3),(4,144)],[.pointer none,.int .i64 0,.int .i64 0,.int .i64 0,.pointer none],none,40,false,1,true,0⟩),
 (146,⟨5,true,0,[(0,100),(1,3),(2,3),(3,3),(4,144)],[.pointer none,.int .i64 0,.int .i64 0,.int .i64 0,.pointer none],none,40,false,1,true,0⟩),
 (147,⟨1,false,0,[],[.nilFunc],none,8,false,7,true,0⟩),
 (148,⟨1,false,0,[],[.nilFunc],none,8,false,7,true,0⟩),
 (149,⟨1,false,0,[],[.nilFunc],none,8,false,7,true,0⟩),
 (150,⟨1,false,0,[],[.nilFunc],none,8,false,7,true,0⟩),
 (151,⟨1,false,0,[],[.nilFunc],none,8,false,7,true,0⟩),
 (153,⟨1,false,0,[],[.nilFunc],none,8,false,7,true,0⟩),
 (154,⟨1,false,0,[],[.nilFunc],none,8,false,7,true,0⟩),
 (155,⟨1,false,0,[],[.nilFunc],none,8,false,7,true,0⟩),
 (156,⟨1,false,0,[],[.nilFunc],none,8,false,7,true,0⟩),
 (157,⟨1,false,64,[],[.slice none 0 0],none,24,true,2,true,0⟩),
 (158,⟨1,false,0,[],[.nilFunc],none,8,false,7,true,0⟩),
 (159,⟨1,false,0,[],[.nilFunc],none,8,false,7,true,0⟩),
 (160,⟨1,false,0,[],[.nilFunc],none,8,false,7,true,0⟩),
 (161,⟨1,false,0,[],[.nilFunc],none,8,false,7,true,0⟩),
 (162,⟨1,false,0,[],[.nilFunc],none,8,false,7,true,0⟩),
 (163,⟨1,false,0,[],[.nilFunc],none,8,false,7,true,0⟩),
 (164,⟨1,false,0,[],[.nilFunc],none,8,false,7,true,0⟩),
 (165,⟨1,false,0,[],[.int .u32 0],some .u32,4,false,3,true,0⟩),
 (167,⟨1,false,0,[],[.nilFunc],none,8,false,7,true,0⟩),
 (168,⟨1,false,0,[],[.int .u64 0],some .u64,8,false,3,true,0⟩),
 (170,⟨1,false,0,[],[.nilFunc],none,8,false,7,true,0⟩),
 (171,⟨1,false,0,[],[.nilFunc],none,8,false,7,true,0⟩),
 (173,⟨1,false,0,[],[.nilFunc],none,8,false,7,true,0⟩),
 (174,⟨4,true,0,[(0,127),(1,142),(2,3),(3,3)],[.pointer none,.slice none 0 0,.int .i64 0,.int .i64 0],none,48,false,1,true,0⟩),
 (175,⟨4,true,0,[(0,127),(1,142),(2,3),(3,3)],[.pointer none,.slice none 0 0,.int .i64 0,.int .i64 0],none,48,false,1,true,0⟩),
 (176,⟨1,false,0,[],[.nilFunc],none,8,false,7,true,0⟩),
 (177,⟨4,true,0,[(0,3),(1,3),(2,3),(3,4)],[.int .i64 0,.int .i64 0,.int .i64 0,.bool false],none,32,false,1,true,0⟩),
 (178,⟨4,true,0,[(0,3),(1,3),(2,3),(3,4)],[.int .i64 0,.int .i64 0,.int .i64 0,.bool false],none,32,false,1,true,0⟩),
 (180,⟨1,false,0,[],[.nilFunc],none,8,false,7,true,0⟩),
 (181,⟨1,false,0,[],[.nilFunc],none,8,false,7,true,0⟩),
 (182,⟨1,false,0,[],[.nilFunc],none,8,false,7,true,0⟩),
 (183,⟨1,false,320,[],[.map none],none,8,false,8,true,354⟩),
 (184,⟨1,false,219,[],[.map none],none,8,false,8,true,9⟩),
 (185,⟨4,true,0,[(0,183),(1,184),(2,4),(3,3)],[.map none,.map none,.bool false,.int .i64 0],none,32,false,1,true,0⟩),
 (186,⟨4,true,0,[(0,183),(1,184),(2,4),(3,3)],[.map none,.map none,.bool false,.int .i64 0],none,32,false,1,true,0⟩),
 (187,⟨1,false,0,[],[.nilFunc],none,8,false,7,true,0⟩),
 (188,⟨1,false,190,[],[.slice none 0 0],none,24,true,2,true,0⟩),
 (189,⟨1,false,0,[],[.nilFunc],none,8,false,7,true,0⟩),
 (190,⟨3,true,0,[(0,21),(1,3),(2,3)],[.int .i32 0,.int .i64 0,.int .i64 0],none,24,false,1,true,0⟩),
 (191,⟨1,false,197,[],[.slice none 0 0],none,24,true,2,true,0⟩),
 (192,⟨1,true,0,[(0,191)],[.slice none 0 0],none,24,false,1,true,0⟩),
 (193,⟨1,true,0,[(0,191)],[.slice none 0 0],none,24,false,1,true,0⟩),
 (194,⟨1,false,0,[],[.pointer none],none,8,false,4,true,0⟩),
 (195,⟨1,false,0,[],[.nilFunc],none,8,false,7,true,0⟩),
 (196,⟨6,true,0,[(0,3),(1,3),(2,3),(3,4),(4,64),(5,97)],[.int .i64 0,.int .i64 0,.int .i64 0,.bool false,.slice none 0 0,.slice none 0 0],none,80,false,1,true,0⟩),
 (197,⟨6,true,0,[(0,3),(1,3),(2,3),(3,4),(4,64),(5,97)],[.int .i64 0,.int .i64 0,.int .i64 0,.bool false,.slice none 0 0,.slice none 0 0],none,80,false,1,true,0⟩),
 (198,⟨1,false,178,[],[.slice none 0 0],none,24,true,2,true,0⟩),
 (199,⟨1,false,0,[],[.nilFunc],none,8,false,7,true,0⟩),
 (200,⟨1,false,0,[],[.nilFunc],none,8,false,7,true,0⟩),
 (201,⟨1,false,0,[],[.int .i64 0],some .i64,8,false,3,true,0⟩),
 (203,⟨1,false,0,[],[.nilFunc],none,8,false,7,true,0⟩),
 (205,⟨1,false,0,[],[.nilFunc],none,8,false,7,true,0⟩),
 (207,⟨1,false,0,[],[.nilFunc],none,8,false,7,true,0⟩),
 (208,⟨1,false,0,[],[.nilFunc],none,8,false,7,true,0⟩),
 (209,⟨3,true,0,[(0,3),(1,3),(2,3)],[.int .i64 0,.int .i64 0,.int .i64 0],none,24,false,1,true,0⟩),
 (210,⟨13,true,0,[(0,209),(3,209),(6,209),(9,209),(12,4)],[.int .i64 0,.int .i64 0,.int .i64 0,.int .i64 0,.int .i64 0,.int .i64 0,.int .i64 0,.int .i64 0,.int .i64 0,.int .i64 0,.int .i64 0,.int .i64 0,.bool false],none,104,false,1,true,0⟩),
 (211,⟨13,true,0,[(0,209),(3,209),(6,209),(9,209),(12,4)],[.int .i64 0,.int .i64 0,.int .i64 0,.int .i64 0,.int .i64 0,.int .i64 0,.int .i64 0,.int .i64 0,.int .i64 0,.int .i64 0,.int .i64 0,.int .i64 0,.bool false],none,104,false,1,true,0⟩),
 (212,⟨1,false,0,[],[.nilFunc],none,8,false,7,true,0⟩),
 (213,⟨2,true,0,[(0,3),(1,3)],[.int .i64 0,.int .i64 0],none,16,false,1,true,0⟩),
 (214,⟨2,true,0,[(0,3),(1,3)],[.int .i64 0,.int .i64 0],none,16,false,1,true,0⟩),
 (216,⟨1,false,0,[],[.nilFunc],none,8,false,7,true,0⟩),
 (217,⟨1,false,0,[],[.nilFunc],none,8,false,7,true,0⟩),
 (218,⟨1,false,0,[],[.nilFunc],none,8,false,7,true,0⟩),
 (219,⟨1,false,221,[],[.slice none 0 0],none,24,true,2,true,0⟩),
 (220,⟨5,true,0,[(0,9),(1,9),(2,142),(3,3),(4,24)],[.string ⟨#[]⟩,.string ⟨#[]⟩,.slice none 0 0,.int .i64 0,.slice none 0 0],none,88,false,1,true,0⟩),
 (221,⟨5,true,0,[(0,9),(1,9),(2,142),(3,3),(4,24)],[.string ⟨#[]⟩,.string ⟨#[]⟩,.slice none 0 0,.int .i64 0,.slice none 0 0],none,88,false,1,true,0⟩),
 (222,⟨1,false,0,[],[.nilFunc],none,8,false,7,true,0⟩),
 (223,⟨1,false,0,[],[.nilFunc],none,8,false,7,true,0⟩),
 (224,⟨1,false,0,[],[.nilFunc],none,8,false,7,true,0⟩),
 (225,⟨1,false,0,[],[.nilFunc],none,8,false,7,true,0⟩),
 (226,⟨1,false,0,[],[.nilFunc],none,8,false,7,true,0⟩),
 (227,⟨1,false,0,[],[.nilFunc],none,8,false,7,true,0⟩),
 (228,⟨1,false,0,[],[.nilFunc],none,8,false,7,true,0⟩),
 (229,⟨1,false,0,[],[.nilFunc],none,8,false,7,true,0⟩),
 (230,⟨2,true,0,[(0,3),(1,3)],[.int .i64 0,.int .i64 0],none,16,false,1,true,0⟩),
 (231,⟨2,true,0,[(0,3),(1,3)],[.int .i64 0,.int .i64 0],none,16,false,1,true,0⟩),
 (232,⟨3,true,0,[(0,231),(2,3)],[.int .i64 0,.int .i64 0,.int .i64 0],none,24,false,1,true,0⟩),
 (233,⟨3,true,0,[(0,231),(2,3)],[.int .i64 0,.int .i64 0,.int .i64 0],none,24,false,1,true,0⟩),
 (234,⟨1,false,0,[],[.nilFunc],none,8,false,7,true,0⟩),
 (235,⟨1,false,0,[],[.nilFunc],none,8,false,7,true,0⟩),
 (236,⟨1,false,0,[],[.nilFunc],none,8,false,7,true,0⟩),
 (237,⟨1,false,0,[],[.nilFunc],none,8,false,7,true,0⟩),
 (238,⟨1,false,0,[],[.nilFunc],none,8,false,7,true,0⟩),
 (239,⟨1,false,0,[],[.nilFunc],none,8,false,7,true,0⟩),
 (240,⟨1,false,0,[],[.nilFunc],none,8,false,7,true,0⟩),
 (241,⟨1,false,0,[],[.nilFunc],none,8,false,7,true,0⟩),
 (242,⟨9,true,0,[(0,103),(7,3),(8,4)],[.int .i64 0,.int .i64 0,.slice none 0 0,.slice none 0 0,.pointer none,.int .i64 0,.slice none 0 0,.int .i64 0,.bool false],none,120,false,1,true,0⟩),
 (243,⟨9,true,0,[(0,103),(7,3),(8,4)],[.int .i64 0,.int .i64 0,.slice none 0 0,.slice none 0 0,.pointer none,.int .i64 0,.slice none 0 0,.int .i64 0,.bool false],none,120,false,1,true,0⟩),
 (244,⟨1,false,0,[],[.pointer none],none,8,false,4,true,0⟩),
 (245,⟨1,false,0,[],[.nilFunc],none,8,false,7,true,0⟩),
 (246,⟨3,true,0,[(0,9),(1,3),(2,3)],[.string ⟨#[]⟩,.int .i64 0,.int .i64 0],none,32,false,1,true,0⟩),
 (247,⟨3,true,0,[(0,9),(1,3),(2,3)],[.string ⟨#[]⟩,.int .i64 0,.int .i64 0],none,32,false,1,true,0⟩),
 (248,⟨15,true,247,[],[.string ⟨#[]⟩,.int .i64 0,.int .i64 0,.string ⟨#[]⟩,.int .i64 0,.int .i64 0,.string ⟨#[]⟩,.int .i64 0,.int .i64 0,.string ⟨#[]⟩,.int .i64 0,.int .i64 0,.string ⟨#[]⟩,.int .i64 0,.int .i64 0],none,160,false,105,true,0⟩),
 (249,⟨1,false,0,[],[.nilFunc],none,8,false,7,true,0⟩),
 (250,⟨1,false,0,[],[.nilFunc],none,8,false,7,true,0⟩),
 (251,⟨1,false,0,[],[.nilFunc],none,8,false,7,true,0⟩),
 (252,⟨1,false,0,[],[.nilFunc],none,8,false,7,true,0⟩),
 (253,⟨1,false,0,[],[.nilFunc],none,8,false,7,true,0⟩),
 (254,⟨1,false,0,[],[.nilFunc],none,8,false,7,true,0⟩),
 (256,⟨1,false,0,[],[.nilFunc],none,8,false,7,true,0⟩),
 (257,⟨1,false,0,[],[.nilFunc],none,8,false,7,true,0⟩),
 (258,⟨1,false,0,[],[.pointer none],none,8,false,4,true,0⟩),
 (259,⟨2,true,0,[(0,258),(1,64)],[.pointer none,.slice none 0 0],none,32,false,1,true,0⟩),
 (260,⟨2,true,0,[(0,258),(1,64)],[.pointer none,.slice none 0 0],none,32,false,1,true,0⟩),
 (264,⟨1,false,0,[],[.nilFunc],none,8,false,7,true,0⟩),
 (265,⟨1,false,0,[],[.nilFunc],none,8,false,7,true,0⟩),
 (266,⟨1,false,0,[],[.pointer none],none,8,false,4,true,0⟩),
 (267,⟨1,false,209,[],[.slice none 0 0],none,24,true,2,true,0⟩),
 (268,⟨1,false,0,[],[.nilFunc],none,8,false,7,true,0⟩),
 (269,⟨3,true,0,[(0,24),(1,267),(2,3)],[.slice none 0 0,.slice none 0 0,.int .i64 0],none,56,false,1,true,0⟩),
 (270,⟨3,true,0,[(0,24),(1,267),(2,3)],[.slice none 0 0,.slice none 0 0,.int .i64 0],none,56,false,1,true,0⟩),
 (271,⟨1,false,0,[],[.nilFunc],none,8,false,7,true,0⟩),
 (272,⟨1,false,0,[],[.nilFunc],none,8,false,7,true,0⟩),
 (273,⟨1,false,0,[],[.pointer none],none,8,false,4,true,0⟩),
 (275,⟨1,false,0,[],[.pointer none],none,8,false,4,true,0⟩),
 (276,⟨4,true,0,[(0,127),(1,3),(2,142),(3,3)],[.pointer none,.int .i64 0,.slice none 0 0,.int .i64 0],none,48,false,1,true,0⟩),
 (277,⟨4,true,0,[(0,127),(1,3),(2,142),(3,3)],[.pointer none,.int .i64 0,.slice none 0 0,.int .i64 0],none,48,false,1,true,0⟩),
 (278,⟨1,false,0,[],[.nilFunc],none,8,false,7,true,0⟩),
 (279,⟨1,false,0,[],[.nilFunc],none,8,false,7,true,0⟩),
 (280,⟨1,false,0,[],[.nilFunc],none,8,false,7,true,0⟩),
 (281,⟨1,false,0,[],[.nilFunc],none,8,false,7,true,0⟩),
 (282,⟨1,false,0,[],[.nilFunc],none,8,false,7,true,0⟩),
 (283,⟨1,false,0,[],[.nilFunc],none,8,false,7,true,0⟩),
 (284,⟨1,false,0,[],[.nilFunc],none,8,false,7,true,0⟩),
 (285,⟨1,false,0,[],[.nilFunc],none,8,false,7,true,0⟩),
 (286,⟨2,true,0,[(0,21),(1,21)],[.int .i32 0,.int .i32 0],none,8,false,1,true,0⟩),
 (287,⟨2,true,0,[(0,21),(1,21)],[.int .i32 0,.int .i32 0],none,8,false,1,true,0⟩),
 (288,⟨1,false,287,[],[.slice none 0 0],none,24,true,2,true,0⟩),
 (289,⟨1,false,0,[],[.nilFunc],none,8,false,7,true,0⟩),
 (290,⟨1,false,0,[],[.nilFunc],none,8,false,7,true,0⟩),
 (291,⟨1,false,0,[],[.nilFunc],none,8,false,7,true,0⟩),
 (292,⟨1,false,0,[],[.nilFunc],none,8,false,7,true,0⟩),
 (293,⟨1,false,0,[],[.nilFunc],none,8,false,7,true,0⟩),
 (295,⟨1,false,0,[],[.nilFunc],none,8,false,7,true,0⟩),
 (296,⟨1,false,0,[],[.nilFunc],none,8,false,7,true,0⟩),
 (298,⟨1,false,0,[],[.nilFunc],none,8,false,7,true,0⟩),
 (300,⟨1,false,0,[],[.nilFunc],none,8,false,7,true,0⟩),
 (302,⟨1,false,0,[],[.nilFunc],none,8,false,7,true,0⟩),
 (303,⟨1,false,0,[],[.nilFunc],none,8,false,7,true,0⟩),
 (304,⟨1,false,0,[],[.nilFunc],none,8,false,7,true,0⟩),
 (305,⟨1,false,0,[],[.nilFunc],none,8,false,7,true,0⟩),
 (306,⟨2,true,0,[(0,9),(1,9)],[.string ⟨#[]⟩,.string ⟨#[]⟩],none,32,false,1,true,0⟩),
 (307,⟨2,true,0,[(0,9),(1,9)],[.string ⟨#[]⟩,.string ⟨#[]⟩],none,32,false,1,true,0⟩),
 (308,⟨2,true,0,[(0,244),(1,87)],[.pointer none,.slice none 0 0],none,32,false,1,true,0⟩),
 (309,⟨2,true,0,[(0,244),(1,87)],[.pointer none,.slice none 0 0],none,32,false,1,true,0⟩),
 (310,⟨1,false,0,[],[.nilFunc],none,8,false,7,true,0⟩),
 (311,⟨1,false,0,[],[.nilFunc],none,8,false,7,true,0⟩),
 (312,⟨1,false,0,[],[.nilFunc],none,8,false,7,true,0⟩),
 (313,⟨1,false,0,[],[.nilFunc],none,8,false,7,true,0⟩),
 (314,⟨1,false,0,[],[.pointer none],none,8,false,4,true,0⟩),
 (315,⟨1,false,0,[],[.nilFunc],none,8,false,7,true,0⟩),
 (316,⟨1,false,0,[],[.nilFunc],none,8,false,7,true,0⟩),
 (317,⟨1,false,0,[],[.nilFunc],none,8,false,7,true,0⟩),
 (318,⟨1,false,0,[],[.nilFunc],none,8,false,7,true,0⟩),
 (319,⟨9,true,0,[(0,3),(1,9),(2,24),(3,4),(4,9),(5,9),(6,9),(7,9),(8,219)],[.int .i64 0,.string ⟨#[]⟩,.slice none 0 0,.bool false,.string ⟨#[]⟩,.string ⟨#[]⟩,.string ⟨#[]⟩,.string ⟨#[]⟩,.slice none 0 0],none,144,false,1,true,0⟩),
 (320,⟨9,true,0,[(0,3),(1,9),(2,24),(3,4),(4,9),(5,9),(6,9),(7,9),(8,219)],[.int .i64 0,.string ⟨#[]⟩,.slice none 0 0,.bool false,.string ⟨#[]⟩,.string ⟨#[]⟩,.string ⟨#[]⟩,.string ⟨#[]⟩,.slice none 0 0],none,144,false,1,true,0⟩),
 (322,⟨1,false,0,[],[.nilFunc],none,8,false,7,true,0⟩),
 (323,⟨1,false,0,[],[.nilFunc],none,8,false,7,true,0⟩),
 (324,⟨1,false,0,[],[.nilFunc],none,8,false,7,true,0⟩),
 (325,⟨1,false,0,[],[.nilFunc],none,8,false,7,true,0⟩),
 (326,⟨1,false,0,[],[.nilFunc],none,8,false,7,true,0⟩),
 (327,⟨1,false,0,[],[.nilFunc],none,8,false,7,true,0⟩),
 (328,⟨1,false,0,[],[.nilFunc],none,8,false,7,true,0⟩),
 (329,⟨1,false,0,[],[.nilFunc],none,8,false,7,true,0⟩),
 (330,⟨1,false,0,[],[.pointer none],none,8,false,4,true,0⟩),
 (331,⟨2,true,0,[(0,24),(1,3)],[.slice none 0 0,.int .i64 0],none,32,false,1,true,0⟩),
 (332,⟨2,true,0,[(0,24),(1,3)],[.slice none 0 0,.int .i64 0],none,32,false,1,true,0⟩),
 (334,⟨1,false,0,[],[.nilFunc],none,8,false,7,true,0⟩),
 (335,⟨1,false,0,[],[.nilFunc],none,8,false,7,true,0⟩),
 (336,⟨1,false,0,[],[.nilFunc],none,8,false,7,true,0⟩),
 (337,⟨1,false,340,[],[.slice none 0 0],none,24,true,2,true,0⟩),
 (338,⟨1,false,0,[],[.nilFunc],none,8,false,7,true,0⟩),
 (339,⟨3,true,0,[(0,9),(1,24),(2,4)],[.string ⟨#[]⟩,.slice none 0 0,.bool false],none,48,false,1,true,0⟩),
 (340,⟨3,true,0,[(0,9),(1,24),(2,4)],[.string ⟨#[]⟩,.slice none 0 0,.bool false],none,48,false,1,true,0⟩),
 (341,⟨1,false,0,[],[.nilFunc],none,8,false,7,true,0⟩),
 (343,⟨1,false,0,[],[.nilFunc],none,8,false,7,true,0⟩),
 (344,⟨1,false,0,[],[.nilFunc],none,8,false,7,true,0⟩),
 (345,⟨5,true,0,[(0,86),(3,9),(4,4)],[.string ⟨#[]⟩,.string ⟨#[]⟩,.string ⟨#[]⟩,.string ⟨#[]⟩,.bool false],none,72,false,1,true,0⟩),
 (346,⟨5,true,0,[(0,86),(3,9),(4,4)],[.string ⟨#[]⟩,.string ⟨#[]⟩,.string ⟨#[]⟩,.string ⟨#[]⟩,.bool false],none,72,false,1,true,0⟩),
 (347,⟨1,false,0,[],[.nilFunc],none,8,false,7,true,0⟩),
 (348,⟨1,false,0,[],[.nilFunc],none,8,false,7,true,0⟩),
 (350,⟨1,false,0,[],[.nilFunc],none,8,false,7,true,0⟩),
 (351,⟨1,false,0,[],[.nilFunc],none,8,false,7,true,0⟩),
 (352,⟨1,false,0,[],[.nilFunc],none,8,false,7,true,0⟩),
 (353,⟨2,true,0,[(0,3),(1,9)],[.int .i64 0,.string ⟨#[]⟩],none,24,false,1,true,0⟩),
 (354,⟨2,true,0,[(0,3),(1,9)],[.int .i64 0,.string ⟨#[]⟩],none,24,false,1,true,0⟩),
 (355,⟨1,false,0,[],[.nilFunc],none,8,false,7,true,0⟩),
 (356,⟨1,false,0,[],[.nilFunc],none,8,false,7,true,0⟩),
 (357,⟨1,false,0,[],[.nilFunc],none,8,false,7,true,0⟩),
 (358,⟨1,false,0,[],[.nilFunc],none,8,false,7,true,0⟩),
 (359,⟨1,false,0,[],[.nilFunc],none,8,false,7,true,0⟩),
 (361,⟨1,false,0,[],[.nilFunc],none,8,false,7,true,0⟩),
 (362,⟨1,false,0,[],[.nilFunc],none,8,false,7,true,0⟩),
 (364,⟨1,false,0,[],[.nilFunc],none,8,false,7,true,0⟩),
 (365,⟨1,false,0,[],[.nilFunc],none,8,false,7,true,0⟩),
 (366,⟨1,false,0,[],[.nilFunc],none,8,false,7,true,0⟩),
 (367,⟨1,false,0,[],[.nilFunc],none,8,false,7,true,0⟩),
 (368,⟨1,false,0,[],[.nilFunc],none,8,false,7,true,0⟩),
 (370,⟨1,false,0,[],[.nilFunc],none,8,false,7,true,0⟩),
 (371,⟨1,false,0,[],[.nilFunc],none,8,false,7,true,0⟩),
 (373,⟨1,false,0,[],[.nilFunc],none,8,false,7,true,0⟩),
 (374,⟨1,false,0,[],[.nilFunc],none,8,false,7,true,0⟩),
 (375,⟨1,false,0,[],[.nilFunc],none,8,false,7,true,0⟩),
 (376,⟨1,false,0,[],[.nilFunc],none,8,false,7,true,0⟩),
 (377,⟨1,false,0,[],[.pointer none],none,8,false,4,true,0⟩),
 (378,⟨1,false,0,[],[.pointer none],none,8,false,4,true,0⟩),
 (379,⟨2,true,0,[(0,24),(1,3)],[.slice none 0 0,.int .i64 0],none,32,false,1,true,0⟩),
 (380,⟨2,true,0,[(0,24),(1,3)],[.slice none 0 0,.int .i64 0],none,32,false,1,true,0⟩),
 (381,⟨1,false,0,[],[.nilFunc],none,8,false,7,true,0⟩),
 (382,⟨1,false,0,[],[.nilFunc],none,8,false,7,true,0⟩),
 (383,⟨1,false,0,[],[.nilFunc],none,8,false,7,true,0⟩),
 (385,⟨1,false,0,[],[.nilFunc],none,8,false,7,true,0⟩),
 (387,⟨1,false,0,[],[.nilFunc],none,8,false,7,true,0⟩),
 (388,⟨1,false,0,[],[.nilFunc],none,8,false,7,true,0⟩),
 (389,⟨1,false,0,[],[.nilFunc],none,8,false,7,true,0⟩),
 (391,⟨1,false,0,[],[.nilFunc],none,8,false,7,true,0⟩),
 (392,⟨1,false,0,[],[.nilFunc],none,8,false,7,true,0⟩),
 (393,⟨1,false,0,[],[.nilFunc],none,8,false,7,true,0⟩),
 (394,⟨1,false,0,[],[.nilFunc],none,8,false,7,true,0⟩),
 (395,⟨1,false,0,[],[.nilFunc],none,8,false,7,true,0⟩),
 (396,⟨1,false,0,[],[.nilFunc],none,8,false,7,true,0⟩),
 (397,⟨1,false,0,[],[.nilFunc],none,8,false,7,true,0⟩),
 (398,⟨1,false,0,[],[.nilFunc],none,8,false,7,true,0⟩),
 (399,⟨1,false,0,[],[.nilFunc],none,8,false,7,true,0⟩),
 (400,⟨0,true,0,[],[],none,0,false,1,true,0⟩),
 (401,⟨0,true,0,[],[],none,0,false,1,true,0⟩),
 (403,⟨1,false,0,[],[.nilFunc],none,8,false,7,true,0⟩),
 (404,⟨1,false,0,[],[.nilFunc],none,8,false,7,true,0⟩),
 (405,⟨1,false,0,[],[.nilFunc],none,8,false,7,true,0⟩),
 (406,⟨1,false,409,[],[.slice none 0 0],none,24,true,2,true,0⟩),
 (407,⟨1,false,0,[],[.nilFunc],none,8,false,7,true,0⟩),
 (408,⟨5,true,0,[(0,3),(1,3),(2,3),(3,21),(4,9)],[.int .i64 0,.int .i64 0,.int .i64 0,.int .i32 0,.string ⟨#[]⟩],none,48,false,1,true,0⟩),
 (409,⟨5,true,0,[(0,3),(1,3),(2,3),(3,21),(4,9)],[.int .i64 0,.int .i64 0,.int .i64 0,.int .i32 0,.string ⟨#[]⟩],none,48,false,1,true,0⟩),
 (410,⟨1,false,0,[],[.nilFunc],none,8,false,7,true,0⟩),
 (411,⟨1,false,0,[],[.nilFunc],none,8,false,7,true,0⟩),
 (412,⟨1,false,0,[],[.nilFunc],none,8,false,7,true,0⟩),
 (413,⟨1,false,0,[],[.nilFunc],none,8,false,7,true,0⟩),
 (414,⟨1,false,0,[],[.pointer none],none,8,false,4,true,0⟩),
 (415,⟨1,false,0,[],[.nilFunc],none,8,false,7,true,0⟩),
 (416,⟨1,false,0,[],[.nilFunc],none,8,false,7,true,0⟩),
 (417,⟨1,false,0,[],[.pointer none],none,8,false,4,true,0⟩),
 (418,⟨1,false,0,[],[.nilFunc],none,8,false,7,true,0⟩),
 (419,⟨1,false,0,[],[.nilFunc],none,8,false,7,true,0⟩),
 (420,⟨1,false,0,[],[.nilFunc],none,8,false,7,true,0⟩),
 (421,⟨1,false,0,[],[.nilFunc],none,8,false,7,true,0⟩),
 (422,⟨1,false,0,[],[.nilFunc],none,8,false,7,true,0⟩),
 (423,⟨1,false,0,[],[.nilFunc],none,8,false,7,true,0⟩),
 (424,⟨1,false,0,[],[.nilFunc],none,8,false,7,true,0⟩),
 (425,⟨1,false,0,[],[.nilFunc],none,8,false,7,true,0⟩),
 (426,⟨4,true,0,[(0,17),(1,17),(2,17),(3,9)],[.pointer none,.pointer none,.pointer none,.string ⟨#[]⟩],none,40,false,1,true,0⟩),
 (427,⟨4,true,0,[(0,17),(1,17),(2,17),(3,9)],[.pointer none,.pointer none,.pointer none,.string ⟨#[]⟩],none,40,false,1,true,0⟩),
 (428,⟨0,true,16,[],[],none,0,false,100,true,0⟩),
 (429,⟨0,true,0,[(0,428)],[],none,0,false,1,true,0⟩),
 (430,⟨0,true,0,[(0,428)],[],none,0,false,1,true,0⟩),
 (431,⟨1,false,0,[],[.int .u8 0],some .u8,1,false,3,true,0⟩),
 (432,⟨1,false,0,[],[.int .u8 0],some .u8,1,false,3,true,0⟩),
 (433,⟨1,false,0,[],[.nilFunc],none,8,false,7,true,0⟩),
 (434,⟨1,false,0,[],[.int .i32 0],some .i32,4,false,3,true,0⟩),
 (435,⟨1,false,0,[],[.int .i32 0],some .i32,4,false,3,true,0⟩),
 (436,⟨11,true,0,[(0,12),(1,12),(2,165),(3,431),(4,5),(5,5),(6,432),(7,433),(8,314),(9,434),(10,435)],[.int .u64 0,.int .u64 0,.int .u32 0,.int .u8 0,.int .u8 0,.int .u8 0,.int .u8 0,.nilFunc,.pointer none,.int .i32 0,.int .i32 0],none,48,false,1,true,0⟩),
 (437,⟨11,true,0,[(0,12),(1,12),(2,165),(3,431),(4,5),(5,5),(6,432),(7,433),(8,314),(9,434),(10,435)],[.int .u64 0,.int .u64 0,.int .u32 0,.int .u8 0,.int .u8 0,.int .u8 0,.int .u8 0,.nilFunc,.pointer none,.int .i32 0,.int .i32 0],none,48,false,1,true,0⟩),
 (438,⟨1,false,0,[],[.nilFunc],none,8,false,7,true,0⟩)]
def tys:Tys:=fun _=>Qn5
theorem Q5W:TyOk prog tys:=by
 show Qdq prog Qn5;unfold Qn5;repeat refine TyOk.cons (TiOk.of (by kernel_rfl) (by kernel_rfl) (by kernel_rfl) (by kernel_rfl)) ?_
 exact TyOk.nil
end
section
open Go.RowKit Go.Lib Tryz
def Q4Q(x:UInt8):AV:=.val (.int .u8 x.toNat)
def Q5U(r:Int):AV:=.val (.int .i32 r)
def Qo4(n:Int):AV:=.val (.int .i64 n)
def Q5(b:List UInt8):List AV:=b.map Q4Q
def Q0(l:List Int):List AV:=l.map Q5U
def Qh(l:List Int):List AV:=l.map Qo4
theorem QjU{α:Type}(f:α->AV){l:List α}{i:Int}(h0:0<=i)(h1:i<l.length)(d:α):(l.map f)[i.toNat]?.getD .dead=f (l[i.toNat]?.getD d):=by
 have:i.toNat<l.length:=by omega
 simp[this]
theorem Q2W(l:List UInt8):(Q5 l).length=l.length:=by simp[Q5]
theorem Q6(l:List Int):(Q0 l).length=l.length:=by simp[Q0]
theorem Q5C(l:List Int):(Qh l).length=l.length:=by simp[Qh]
theorem Qy(a b:List Int):Q0 (a++b)=Q0 a++Q0 b:=by simp[Q0]
theorem Q7i(a b:List Int):Qh (a++b)=Qh a++Qh b:=by simp[Qh]
theorem QiO(n:Int):Qh [n]=[.val (.int .i64 n)]:=rfl
theorem Q25{l:List Int}{i:Int}(h0:0<=i)(h1:i<l.length):(Q0 l)[i.toNat]?.getD .dead=.val (.int .i32 (l[i.toNat]?.getD 0)):=QjU Q5U h0 h1 0
theorem Q4w{l:List Int}{i:Int}(h0:0<=i)(h1:i<l.length):(Qh l)[i.toNat]?.getD .dead=.val (.int .i64 (l[i.toNat]?.getD 0)):=QjU Qo4 h0 h1 0
theorem QfM(n:Int):std.inR .i64 n↔(-9223372036854775808<=n/\n<=9223372036854775807):=Iff.rfl
theorem S0:(false=true)=False/\(true=false)=False/\(∀p:Prop,(False->p)=True)/\(∀p:Prop,(True->p)=p)/\(∀p:Prop,(p/\True)=p)/\(∀p:Prop,(True/\p)=p):=by simp
theorem S1:Q3R []=True/\(∀q r,Q3R (q::r)=(q.q/\Q3R r))/\(∀c,(AV.agg c).cells=c)/\(∀v,(AV.val v).cells=[.val v])/\(∀a b,(AV.slc a b).cells=[.slc a b])/\(∀c,(AV.ref c).cells=[.ref c])/\(∀c,(AV.opt c).cells=[.opt c])/\(∀c,(AV.tup c).cells=[.tup c])/\(∀a b,(AV.box a b).cells=[.box a b])/\(∀a b,(AV.row a b).cells=[.row a b])/\(∀a b c,(AV.rowk a b c).cells=[.rowk a b c])/\(∀a b c d,(AV.rptr a b c d).cells=[.rptr a b c d])/\(∀c,(AV.kb c).cells=[.kb c])/\(∀c,(AV.iter c).cells=[.iter c])/\AV.dead.cells=[.dead] /\
  (∀k n,intOf (.val (.int k n))=n)/\(∀b,Q8M (.val (.bool b))=b)/\(∀z xs,Q3z (.slc z xs)=xs)/\(∀v,Q3z (.val v)=[])/\IntKind.min .i64=-9223372036854775808/\IntKind.max .i64=9223372036854775807/\IntKind.min .i32=-2147483648/\IntKind.max .i32=2147483647 :=
 ⟨rfl,fun _ _=>rfl,fun _=>rfl,fun _=>rfl,fun _ _=>rfl,fun _=>rfl,fun _=>rfl,fun _=>rfl,fun _ _=>rfl,fun _ _=>rfl,fun _ _ _=>rfl,fun _ _ _ _=>rfl,fun _=>rfl,fun _=>rfl,rfl,fun _ _=>rfl,fun _=>rfl,fun _ _=>rfl,fun _=>rfl,rfl,rfl,rfl,rfl⟩
theorem gI{a b:Int}(h:a=b):AV.val (.int .i64 a)=.val (.int .i64 b):=congrArg _ (congrArg _ h)
theorem gR{a b:Int}(h:a=b):AV.val (.int .i32 a)=.val (.int .i32 b):=congrArg _ (congrArg _ h)
theorem gT{a b:ByteArray}(h:a=b):AV.val (.string a)=.val (.string b):=congrArg _ (congrArg _ h)
theorem gA{n:Nat}{a b:List AV}(h:a=b):AV.slc n a=.slc n b:=congrArg _ h
def Tg{α:Type}(_:α)(P:Prop):Prop:=P
theorem tg{α:Type}{x:α}{P:Prop}(h:∀y,x=y->P):Tg x P:=h x rfl
theorem zA{A B:Prop}(a:A)(b:B):A/\B:=⟨a,b⟩
theorem cv0 {Q P:Prop} (k:Q) (h:Q->P:=by
 generalize hp:std=p
 first
  |(generalize hT:QU p tys _ _ _ _ _=T;with_unfolding_all cbv at hT;subst hT)
  |(generalize hT:Q5o p tys _ _ _ _=T;with_unfolding_all cbv at hT;subst hT)
 intro k;simp only[Tree.ok,Q2z,S0];subst hp;exact k):P:=h k
theorem cv1 {a1:Type} (x1:a1) {Q P:Prop} (k:Q) (h:Tg x1 <| (Q->P):=by
 refine tg fun y1 h1=>?_
 try rw[h1]
 generalize hp:std=p
 first
  |(generalize hT:QU p tys _ _ _ _ _=T;with_unfolding_all cbv at hT;subst hT)
  |(generalize hT:Q5o p tys _ _ _ _=T;with_unfolding_all cbv at hT;subst hT)
 intro k;simp only[Tree.ok,Q2z,S0];subst hp h1;exact k):P:=h k
theorem cv2 {a1 a2:Type} (x1:a1) (x2:a2) {Q P:Prop} (k:Q) (h:Tg x1 <| Tg x2 <| (Q->P):=by
 refine tg fun y1 h1=>?_
 try rw[h1]
 refine tg fun y2 h2=>?_
 try rw[h2]
 generalize hp:std=p
 first
  |(generalize hT:QU p tys _ _ _ _ _=T;with_unfolding_all cbv at hT;subst hT)
  |(generalize hT:Q5o p tys _ _ _ _=T;with_unfolding_all cbv at hT;subst hT)
 intro k;simp only[Tree.ok,Q2z,S0];subst hp h1 h2;exact k):P:=h k
theorem cv3 {a1 a2 a3:Type} (x1:a1) (x2:a2) (x3:a3) {Q P:Prop} (k:Q) (h:Tg x1 <| Tg x2 <| Tg x3 <| (Q->P):=by
 refine tg fun y1 h1=>?_
 try rw[h1]
 refine tg fun y2 h2=>?_
 try rw[h2]
 refine tg fun y3 h3=>?_
 try rw[h3]
 generalize hp:std=p
 first
  |(generalize hT:QU p tys _ _ _ _ _=T;with_unfolding_all cbv at hT;subst hT)
  |(generalize hT:Q5o p tys _ _ _ _=T;with_unfolding_all cbv at hT;subst hT)
 intro k;simp only[Tree.ok,Q2z,S0];subst hp h1 h2 h3;exact k):P:=h k
theorem cv4 {a1 a2 a3 a4:Type} (x1:a1) (x2:a2) (x3:a3) (x4:a4) {Q P:Prop} (k:Q) (h:Tg x1 <| Tg x2 <| Tg x3 <| Tg x4 <| (Q->P):=by
 refine tg fun y1 h1=>?_
 try rw[h1]
 refine tg fun y2 h2=>?_
 try rw[h2]
 refine tg fun y3 h3=>?_
 try rw[h3]
 refine tg fun y4 h4=>?_
 try rw[h4]
 generalize hp:std=p
 first
  |(generalize hT:QU p tys _ _ _ _ _=T;with_unfolding_all cbv at hT;subst hT)
  |(generalize hT:Q5o p tys _ _ _ _=T;with_unfolding_all cbv at hT;subst hT)
 intro k;simp only[Tree.ok,Q2z,S0];subst hp h1 h2 h3 h4;exact k):P:=h k
theorem cv6 {a1 a2 a3 a4 a5 a6:Type} (x1:a1) (x2:a2) (x3:a3) (x4:a4) (x5:a5) (x6:a6) {Q P:Prop} (k:Q) (h:Tg x1 <| Tg x2 <| Tg x3 <| Tg x4 <| Tg x5 <| Tg x6 <| (Q->P):=by
 refine tg fun y1 h1=>?_
 try rw[h1]
 refine tg fun y2 h2=>?_
 try rw[h2]
 refine tg fun y3 h3=>?_
 try rw[h3]
 refine tg fun y4 h4=>?_
 try rw[h4]
 refine tg fun y5 h5=>?_
 try rw[h5]
 refine tg fun y6 h6=>?_
 try rw[h6]
 generalize hp:std=p
 first
  |(generalize hT:QU p tys _ _ _ _ _=T;with_unfolding_all cbv at hT;subst hT)
  |(generalize hT:Q5o p tys _ _ _ _=T;with_unfolding_all cbv at hT;subst hT)
 intro k;simp only[Tree.ok,Q2z,S0];subst hp h1 h2 h3 h4 h5 h6;exact k):P:=h k
theorem cv8 {a1 a2 a3 a4 a5 a6 a7 a8:Type} (x1:a1) (x2:a2) (x3:a3) (x4:a4) (x5:a5) (x6:a6) (x7:a7) (x8:a8) {Q P:Prop} (k:Q) (h:Tg x1 <| Tg x2 <| Tg x3 <| Tg x4 <| Tg x5 <| Tg x6 <| Tg x7 <| Tg x8 <| (Q->P):=by
 refine tg fun y1 h1=>?_
 try rw[h1]
 refine tg fun y2 h2=>?_
 try rw[h2]
 refine tg fun y3 h3=>?_
 try rw[h3]
 refine tg fun y4 h4=>?_
 try rw[h4]
 refine tg fun y5 h5=>?_
 try rw[h5]
 refine tg fun y6 h6=>?_
 try rw[h6]
 refine tg fun y7 h7=>?_
 try rw[h7]
 refine tg fun y8 h8=>?_
 try rw[h8]
 generalize hp:std=p
 first
  |(generalize hT:QU p tys _ _ _ _ _=T;with_unfolding_all cbv at hT;subst hT)
  |(generalize hT:Q5o p tys _ _ _ _=T;with_unfolding_all cbv at hT;subst hT)
 intro k;simp only[Tree.ok,Q2z,S0];subst hp h1 h2 h3 h4 h5 h6 h7 h8;exact k):P:=h k
theorem Q5j {a1 a2 a3 a4 a5 a6 a7 a8 a9 a10:Type} (x1:a1) (x2:a2) (x3:a3) (x4:a4) (x5:a5) (x6:a6) (x7:a7) (x8:a8) (x9:a9) (x10:a10) {Q P:Prop} (k:Q) (h:Tg x1 <| Tg x2 <| Tg x3 <| Tg x4 <| Tg x5 <| Tg x6 <| Tg x7 <| Tg x8 <| Tg x9 <| Tg x10 <| (Q->P):=by
 refine tg fun y1 h1=>?_
 try rw[h1]
 refine tg fun y2 h2=>?_
 try rw[h2]
 refine tg fun y3 h3=>?_
 try rw[h3]
 refine tg fun y4 h4=>?_
 try rw[h4]
 refine tg fun y5 h5=>?_
 try rw[h5]
 refine tg fun y6 h6=>?_
 try rw[h6]
 refine tg fun y7 h7=>?_
 try rw[h7]
 refine tg fun y8 h8=>?_
 try rw[h8]
 refine tg fun y9 h9=>?_
 try rw[h9]
 refine tg fun y10 qX=>?_
 try rw[qX]
 generalize hp:std=p
 first
  |(generalize hT:QU p tys _ _ _ _ _=T;with_unfolding_all cbv at hT;subst hT)
  |(generalize hT:Q5o p tys _ _ _ _=T;with_unfolding_all cbv at hT;subst hT)
 intro k;simp only[Tree.ok,Q2z,S0];subst hp h1 h2 h3 h4 h5 h6 h7 h8 h9 qX;exact k):P:=h k
theorem aU {H0 G Q:Prop} (H:H0) (k:Q) (h:H0->Q->G:=by
 intro H k
 first
  |(with_reducible refine And.intro (fun hx=>absurd hx (by first|(try simp[std,S1,H])<;>omega|omega)) (fun _=>k))
  |(with_reducible refine And.intro (fun _=>k) (fun hx=>absurd hx (by first|(try simp[std,S1,H])<;>omega|omega)))
  |(with_reducible refine And.intro (by first|(try simp[std,S1,H])<;>omega|omega) k)):G:=h H k
theorem eq0 {P:Prop} (h:P:=by
 repeat first
  |exact trivial
  |refine⟨rfl,?_⟩):P:=h
theorem eq1 {H1 P:Prop} (e1:H1) (h:H1->P:=by
 intro e1
 repeat first
  |exact trivial
  |refine⟨rfl,?_⟩
  |refine⟨e1,?_⟩
  |refine⟨gI e1,?_⟩
  |refine⟨gA e1,?_⟩
  |refine⟨gB e1,?_⟩
  |refine⟨gR e1,?_⟩
  |refine⟨gT e1,?_⟩):P:=h e1
theorem eq2 {H1 H2 P:Prop} (e1:H1) (e2:H2) (h:H1->H2->P:=by
 intro e1 e2
 repeat first
  |exact trivial
  |refine⟨rfl,?_⟩
  |refine⟨e1,?_⟩
  |refine⟨gI e1,?_⟩
  |refine⟨gA e1,?_⟩
  |refine⟨gB e1,?_⟩
  |refine⟨gR e1,?_⟩
  |refine⟨gT e1,?_⟩
  |refine⟨e2,?_⟩
  |refine⟨gI e2,?_⟩
  |refine⟨gA e2,?_⟩
  |refine⟨gB e2,?_⟩
  |refine⟨gR e2,?_⟩
  |refine⟨gT e2,?_⟩):P:=h e1 e2
theorem eq3 {H1 H2 H3 P:Prop} (e1:H1) (e2:H2) (e3:H3) (h:H1->H2->H3->P:=by
 intro e1 e2 e3
 repeat first
  |exact trivial
  |refine⟨rfl,?_⟩
  |refine⟨e1,?_⟩
  |refine⟨gI e1,?_⟩
  |refine⟨gA e1,?_⟩
  |refine⟨gB e1,?_⟩
  |refine⟨gR e1,?_⟩
  |refine⟨gT e1,?_⟩
  |refine⟨e2,?_⟩
  |refine⟨gI e2,?_⟩
  |refine⟨gA e2,?_⟩
  |refine⟨gB e2,?_⟩
  |refine⟨gR e2,?_⟩
  |refine⟨gT e2,?_⟩
  |refine⟨e3,?_⟩
  |refine⟨gI e3,?_⟩
  |refine⟨gA e3,?_⟩
  |refine⟨gB e3,?_⟩
  |refine⟨gR e3,?_⟩
  |refine⟨gT e3,?_⟩):P:=h e1 e2 e3
theorem eq4 {H1 H2 H3 H4 P:Prop} (e1:H1) (e2:H2) (e3:H3) (e4:H4) (h:H1->H2->H3->H4->P:=by
 intro e1 e2 e3 e4
 repeat first
  |exact trivial
  |refine⟨rfl,?_⟩
  |refine⟨e1,?_⟩
  |refine⟨gI e1,?_⟩
  |refine⟨gA e1,?_⟩
  |refine⟨gB e1,?_⟩
  |refine⟨gR e1,?_⟩
  |refine⟨gT e1,?_⟩
  |refine⟨e2,?_⟩
  |refine⟨gI e2,?_⟩
  |refine⟨gA e2,?_⟩
  |refine⟨gB e2,?_⟩
  |refine⟨gR e2,?_⟩
  |refine⟨gT e2,?_⟩
  |refine⟨e3,?_⟩
  |refine⟨gI e3,?_⟩
  |refine⟨gA e3,?_⟩
  |refine⟨gB e3,?_⟩
  |refine⟨gR e3,?_⟩
  |refine⟨gT e3,?_⟩
  |refine⟨e4,?_⟩
  |refine⟨gI e4,?_⟩
  |refine⟨gA e4,?_⟩
  |refine⟨gB e4,?_⟩
  |refine⟨gR e4,?_⟩
  |refine⟨gT e4,?_⟩):P:=h e1 e2 e3 e4
theorem eq5 {H1 H2 H3 H4 H5 P:Prop} (e1:H1) (e2:H2) (e3:H3) (e4:H4) (e5:H5) (h:H1->H2->H3->H4->H5->P:=by
 intro e1 e2 e3 e4 e5
 repeat first
  |exact trivial
  |refine⟨rfl,?_⟩
  |refine⟨e1,?_⟩
  |refine⟨gI e1,?_⟩
  |refine⟨gA e1,?_⟩
  |refine⟨gB e1,?_⟩
  |refine⟨gR e1,?_⟩
  |refine⟨gT e1,?_⟩
  |refine⟨e2,?_⟩
  |refine⟨gI e2,?_⟩
  |refine⟨gA e2,?_⟩
  |refine⟨gB e2,?_⟩
  |refine⟨gR e2,?_⟩
  |refine⟨gT e2,?_⟩
  |refine⟨e3,?_⟩
  |refine⟨gI e3,?_⟩
  |refine⟨gA e3,?_⟩
  |refine⟨gB e3,?_⟩
  |refine⟨gR e3,?_⟩
  |refine⟨gT e3,?_⟩
  |refine⟨e4,?_⟩
  |refine⟨gI e4,?_⟩
  |refine⟨gA e4,?_⟩
  |refine⟨gB e4,?_⟩
  |refine⟨gR e4,?_⟩
  |refine⟨gT e4,?_⟩
  |refine⟨e5,?_⟩
  |refine⟨gI e5,?_⟩
  |refine⟨gA e5,?_⟩
  |refine⟨gB e5,?_⟩
  |refine⟨gR e5,?_⟩
  |refine⟨gT e5,?_⟩):P:=h e1 e2 e3 e4 e5
theorem QbC:prog.follows .mixedOrders=true:=by kernel_rfl
theorem fnO(keep:Bool)(cs:Nat->List AV->List Ob->Option (AV×List Ob))(ord:Nat->OT){f:Nat}{fn:Func}{c:Code}{args:List AV}{ob:List Ob}{res:AV}{ob':List Ob}(hf:prog.funcs[f]?=some fn)(hb:fn.body=some c)(h:∀w0 g0,(QU std tys cs ord c (Q5o std tys keep fn.results.toList) ⟨ent 0 args,ob⟩).ok [] prog w0 g0 ob fn.ntmps (FinOk ob res ob'))
  (hk : (Nat.ble args.length fn.ntmps && (Q1g fn.ntmps c && (Q1e .any tys ord c && !(fn.name == "runtime.NumGoroutine")))) = true := by kernel_rfl) : BCall prog f args ob res ob' := by
 simp only[Bool.and_eq_true,Bool.not_eq_true']at hk;exact Q8j keep Q5W QbC hf hb (enters_of hf hk.2.2.2 hb) (Nat.le_of_ble_eq_true hk.1) hk.2.1 hk.2.2.1 h
theorem fnN(cs:Nat->List AV->List Ob->Option (AV×List Ob)){f:Nat}{fn:Func}{c:Code}{args:List AV}{ob:List Ob}{res:AV}{ob':List Ob}(hf:prog.funcs[f]?=some fn)(hb:fn.body=some c)(h:∀w0 g0,(QU std tys cs (fun _=>.nil) c (Q5o std tys false fn.results.toList) ⟨ent 0 args,ob⟩).ok [] prog w0 g0 ob fn.ntmps (FinOk ob res ob'))
  (hk : (Nat.ble args.length fn.ntmps && (Q1g fn.ntmps c && (Q1e .any tys (fun _ => .nil) c && !(fn.name == "runtime.NumGoroutine")))) = true := by kernel_rfl) : BCall prog f args ob res ob' :=
 fnO false cs _ hf hb h hk
theorem Q1p{Df:List Deferred}{w0:World}{g0:Gh}{o0:List Ob}{N:Nat}(cs:Nat->List AV->List Ob->Option (AV×List Ob)){c:Code}(X:Type)(S:X->St)(J:X->Prop)(μ:X->Nat){Q:Ex->St->Prop}{s:St}(x0:X)(h0:J x0)(hS:QkR o0 s (S x0))
  (round:∀x,J x->(QU std tys cs (fun _=>.nil) c (fun e s=>.leaf e s) (S x)).ok Df prog w0 g0 o0 N (Q2z o0 S J μ x Q)) (hk:(Q1g N c&&Q1e .any tys (fun _=>.nil) c)=true:=by kernel_rfl):WP Df prog w0 g0 o0 N (.loop c) Q s:=by
 rw[Bool.and_eq_true]at hk;exact Q8f Q5W QbC hk.1 hk.2 S J μ x0 h0 hS round
theorem Qgj{Df:List Deferred}{w0:World}{g0:Gh}{o0:List Ob}{N:Nat}(cs:Nat->List AV->List Ob->Option (AV×List Ob))(ord:Nat->OT){c:Code}(X:Type)(S:X->St)(J:X->Prop)(μ:X->Nat){Q:Ex->St->Prop}{s:St}(x0:X)(h0:J x0)(hS:QkR o0 s (S x0))
  (round:∀x,J x->(QU std tys cs ord c (fun e s=>.leaf e s) (S x)).ok Df prog w0 g0 o0 N (Q2z o0 S J μ x Q)) (hk:(Q1g N c&&Q1e .any tys ord c)=true:=by kernel_rfl):WP Df prog w0 g0 o0 N (.loop c) Q s:=by
 rw[Bool.and_eq_true]at hk;exact Q8f Q5W QbC hk.1 hk.2 S J μ x0 h0 hS round
def Len{α:Type}(xs:List α)(n:Int):Prop:=n=xs.length
theorem Len.eq{α:Type}{xs:List α}{n:Int}(h:Len xs n):n=(xs.length:Int):=h
theorem Q4r{l:List Int}{n:Int}(h:Len l n):(((Q0 l).length:Nat):Int)=n:=by rw[Q6];exact h.symm
theorem QC{α:Type}(xs:List α):∃n,Len xs n:=⟨_,rfl⟩
def cs0:Nat->List AV->List Ob->Option (AV×List Ob):=fun _ _ _=>none
theorem Q5a(xs:List AV)(hn:xs.length<=1000000000):BCall prog 100 [.slc 1 xs] [] (.slc 1 xs) []:=by
 refine fnN (cs0) func100 rfl fun _ _=>?_
 with_reducible refine cv0 ?_
 refine⟨fun h=>.pure rfl ?_,?_,.pure rfl (.inl rfl)⟩
 ·have h:xs=[]:=h
  subst h;exact .inr (.inl ⟨rfl,_,rfl⟩)
 ·show 0+xs.length<=1000000000
  omega
theorem QdG(xs:List AV)(hn:xs.length<=1000000000):BCall prog 45 [.slc 1 xs] [] (.slc 1 xs) []:=by
 refine fnN (cs0) func45 rfl fun _ _=>?_
 with_reducible refine cv0 ?_
 refine⟨fun h=>.pure rfl ?_,?_,.pure rfl (.inl rfl)⟩
 ·have h:xs=[]:=h
  subst h;exact .inr (.inl ⟨rfl,_,rfl⟩)
 ·show 0+xs.length<=1000000000
  omega
theorem QcL(xs:List AV)(hn:xs.length<=1000000000):BCall prog 130 [.slc 1 xs] [] (.slc 1 xs) []:=by
 refine fnN (cs0) func130 rfl fun _ _=>?_
 with_reducible refine cv0 ?_
 refine⟨fun h=>.pure rfl ?_,?_,.pure rfl (.inl rfl)⟩
 ·have h:xs=[]:=h
  subst h;exact .inr (.inl ⟨rfl,_,rfl⟩)
 ·show 0+xs.length<=1000000000
  omega
theorem Qmp{a b:ByteArray}(h:a.data.toList=b.data.toList):a=b:=by
 cases a;cases b;exact congrArg ByteArray.mk (Array.ext' h)
def vEq:Value->Value->Bool
 |.int k a,.int k' b=>decide (k=k')&&decide (a=b)
 |.bool a,.bool b=>a == b
 |.string a,.string b=>decide (a.data.toList=b.data.toList)
 |.slice none a b,.slice none c d=>Nat.beq a c&&Nat.beq b d
 |.pointer none,.pointer none=>true
 |.nilFunc,.nilFunc=>true
 |.func (.func f) a b,.func (.func g) c d=>Nat.beq f g&&((a.isEmpty&&b.isEmpty)&&(c.isEmpty&&d.isEmpty))
 |_,_=>false
theorem QmB{x y:Value}(h:vEq x y=true):x=y:=by
 unfold vEq at h;split at h
 ·simp only[Bool.and_eq_true,decide_eq_true_eq]at h
  rw[h.1,h.2]
 ·rw[eq_of_beq h]
 ·rw[Qmp (of_decide_eq_true h)]
 ·simp only[Bool.and_eq_true]at h
  rw[eq_of_beq_eq_true h.1,eq_of_beq_eq_true h.2]
 ·rfl
 ·rfl
 ·simp only[Bool.and_eq_true,Array.isEmpty_iff]at h
  rw[eq_of_beq_eq_true h.1,h.2.1.1,h.2.1.2,h.2.2.1,h.2.2.2]
 ·cases h
def Q6X{α:Type}(f:α->α->Bool):List α->List α->Bool
 | [],[]=>true
 |x::r,y::r'=>f x y&&Q6X f r r'
 |_,_=>false
theorem Q2w{α:Type}{f:α->α->Bool}(h:∀x y,f x y=true->x=y):∀l l':List α,Q6X f l l'=true->l=l'
 | [],[],_=>rfl
 | [],_::_,e=>by cases e
 |_::_,[],e=>by cases e
 |x::r,y::r',e=>by
  simp only[Q6X,Bool.and_eq_true]at e;rw[h x y e.1,Q2w h r r' e.2]
def aEq:Nat->AV->AV->Bool
 |0,_,_=>false
 |n+1,x,y=>match x,y with
  |.val a,.val b=>vEq a b
  |.slc s xs,.slc s' ys=>Nat.beq s s'&&Q6X (aEq n) xs ys
  |.agg xs,.agg ys=>Q6X (aEq n) xs ys
  |.ref xs,.ref ys=>Q6X (aEq n) xs ys
  |.tup xs,.tup ys=>Q6X (aEq n) xs ys
  |.box i o,.box j p=>Nat.beq i j&&Nat.beq o p
  |.row i o,.row j p=>Nat.beq i j&&Nat.beq o p
  |.rowk i o k,.rowk j p l=>Nat.beq i j&&(Nat.beq o p&&decide (k=l))
  |.rptr i o k z,.rptr j p l z'=>Nat.beq i j&&(Nat.beq o p&&(decide (k=l)&&Nat.beq z z'))
  |.kb a,.kb b=>a == b
  |.iter i,.iter j=>Nat.beq i j
  |.clo f i o t,.clo g j p u=>Nat.beq f g&&(Nat.beq i j&&(Nat.beq o p&&t == u))
  |.opt a,.opt b=>aEq n a b
  |.dead,.dead=>true
  |_,_=>false
theorem Q5F:∀(n:Nat)(x y:AV),aEq n x y=true->x=y
 |0,_,_,h=>by cases h
 |n+1,x,y,h=>by
  have ih:=Q5F n;unfold aEq at h;split at h
  ·rw[QmB h]
  ·simp only[Bool.and_eq_true]at h;rw[eq_of_beq_eq_true h.1,Q2w ih _ _ h.2]
  ·rw[Q2w ih _ _ h]
  ·rw[Q2w ih _ _ h]
  ·rw[Q2w ih _ _ h]
  ·simp only[Bool.and_eq_true]at h;rw[eq_of_beq_eq_true h.1,eq_of_beq_eq_true h.2]
  ·simp only[Bool.and_eq_true]at h;rw[eq_of_beq_eq_true h.1,eq_of_beq_eq_true h.2]
  ·simp only[Bool.and_eq_true,decide_eq_true_eq]at h;rw[eq_of_beq_eq_true h.1,eq_of_beq_eq_true h.2.1,h.2.2]
  ·simp only[Bool.and_eq_true,decide_eq_true_eq]at h;rw[eq_of_beq_eq_true h.1,eq_of_beq_eq_true h.2.1,h.2.2.1,eq_of_beq_eq_true h.2.2.2]
  ·rw[eq_of_beq h]
  ·rw[eq_of_beq_eq_true h]
  ·simp only[Bool.and_eq_true]at h;rw[eq_of_beq_eq_true h.1,eq_of_beq_eq_true h.2.1,eq_of_beq_eq_true h.2.2.1,eq_of_beq h.2.2.2]
  ·rw[ih _ _ h]
  ·rfl
  ·cases h
def oEq:Ob->Ob->Bool
 |.box a,.box b=>Q6X (aEq 40) a b
 |.fbox a,.fbox b=>Q6X (aEq 40) a b
 |.row a b c d xs,.row a' b' c' d' ys=>Nat.beq a a'&&(Nat.beq b b'&&((c == c')&&(Nat.beq d d'&&Q6X (aEq 40) xs ys)))
 |.iter (.str a p),.iter (.str b q)=>decide (a.data.toList=b.data.toList)&&Nat.beq p q
 |.iter (.map a),.iter (.map b)=>Q6X (aEq 40) (Q5s a) (Q5s b)
 |.gone,.gone=>true
 |_,_=>false
theorem QeN{x y:Ob}(h:oEq x y=true):x=y:=by
 have ih:=Q5F 40;unfold oEq at h;split at h
 ·rw[Q2w ih _ _ h]
 ·rw[Q2w ih _ _ h]
 ·simp only[Bool.and_eq_true]at h
  rw[eq_of_beq_eq_true h.1,eq_of_beq_eq_true h.2.1,eq_of_beq h.2.2.1,eq_of_beq_eq_true h.2.2.2.1,Q2w ih _ _ h.2.2.2.2]
 ·simp only[Bool.and_eq_true]at h
  rw[Qmp (of_decide_eq_true h.1),eq_of_beq_eq_true h.2]
 ·rw[Q6u (Q2w ih _ _ h)]
 ·rfl
 ·cases h
def Qn1(l:Eqs):Bool:=l.all fun q=>aEq 40 q.1 q.2
theorem Qfy:∀l:Eqs,Qn1 l=true->Qf l
 | [],_=>trivial
 |(a,b)::r,h=>by
  simp only[Qn1,List.all_cons,Bool.and_eq_true]at h;exact⟨Q5F 40 _ _ h.1,Qfy r h.2⟩
def Eqv(s s':St):Prop:=s.ob=s'.ob/\(∀t,lk t s.tm=lk t s'.tm)/\(∀k r,s.tm=[(k,r)]->s'.tm=[(k,r)])
def Qnj(s s':St):Bool:=Q6X oEq s.ob s'.ob&&(match s.tm,s'.tm with
 | [(k,r)],[(k',r')]=>Nat.beq k k'&&aEq 40 r r'
 | [(_,_)],_=>false
 |l,l'=>(l.all fun q=>aEq 40 (lk q.1 l) (lk q.1 l'))&&(l'.all fun q=>aEq 40 (lk q.1 l) (lk q.1 l')))
theorem Qfe{t:Nat}:∀l:List (Nat×AV),(∀q∈l,q.1≠t)->lk t l=.dead
 | [],_=>rfl
 |(u,x)::r,h=>by
  show(if t=u then x else lk t r)=_
  rw[if_neg (fun e=>h _ (List.mem_cons_self ..) e.symm)]
  exact Qfe r fun q hq=>h q (List.mem_cons_of_mem _ hq)
theorem QkH{s s':St}(h:Qnj s s'=true):Eqv s s':=by
 unfold Qnj at h;rw[Bool.and_eq_true]at h;refine⟨Q2w (fun _ _=>QeN) _ _ h.1,?_⟩
 have h:=h.2;split at h
 ·rename_i k r k' r' h1 h2
  rw[Bool.and_eq_true]at h;have e1:=eq_of_beq_eq_true h.1;have e2:=Q5F 40 _ _ h.2;subst e1 e2;rw[h1,h2];exact⟨fun _=>rfl,fun _ _ e=>e⟩
 ·cases h
 ·rename_i l l' h1 h2
  refine⟨fun t=>?_,fun k r e=>by first|exact absurd e (h1 k r)|exact absurd e (h2 k r)⟩
  rw[Bool.and_eq_true,List.all_eq_true,List.all_eq_true]at h;by_cases ha:∃q∈s.tm,q.1=t
  ·obtain⟨q,hq,rfl⟩:=ha
   exact Q5F 40 _ _ (h.1 q hq)
  ·by_cases hb:∃q∈s'.tm,q.1=t
   ·obtain⟨q,hq,rfl⟩:=hb
    exact Q5F 40 _ _ (h.2 q hq)
   ·rw[Qfe _ (fun q hq e=>ha ⟨q,hq,e⟩),Qfe _ (fun q hq e=>hb ⟨q,hq,e⟩)]
def Qmw:Ex->Ex->Bool
 |.normal,.normal=>true
 |.ret,.ret=>true
 |.exit i,.exit j=>Nat.beq i j
 |_,_=>false
theorem Qm8{x y:Ex}(h:Qmw x y=true):x=y:=by
 unfold Qmw at h;split at h
 ·rfl
 ·rfl
 ·rw[eq_of_beq_eq_true h]
 ·cases h
def Qgf:Option (Ex×St)->Option (Ex×St)->Option (Ex×St)
 |some (e,s),some (e',s')=>match Qmw e e'&&Qnj s s' with
  |true=>some (e,s)
  |false=>none
 |_,_=>none
def Q2I(ask:Nat->List Srt->Bool)(lp:Code->St->Option (Ex×St)):Tree->Option (Ex×St)
 |.leaf e s=>match e with
  |.pan _=>none
  |_=>some (e,s)
 |.br c t f=>match c with
  |true=>Q2I ask lp t
  |false=>Q2I ask lp f
 |.need q t=>match q.b with
  |true=>Q2I ask lp t
  |false=>none
 |.call _ _ _ _ _ t=>Q2I ask lp t
 |.loop body s K=>match lp body s with
  |some (e,s')=>Q2I ask lp (K e s')
  |none=>none
 |.both a b=>Qgf (Q2I ask lp a) (Q2I ask lp b)
 |.either q a b=>match q.b with
  |true=>Qgf (Q2I ask lp a) (Q2I ask lp b)
  |false=>Q2I ask lp b
 |.ask T sh t=>match ask T sh with
  |true=>Q2I ask lp t
  |false=>none
 |.askK T sh t=>match ask T sh with
  |true=>Q2I ask lp t
  |false=>none
 |.pan _ _ _ _=>none
 |.nxt _ _ _ _ _=>none
 |.prop _ _=>none
 |.look k es f n=>match Qbt k 0 es with
  |some (some (j,v))=>Q2I ask lp (f j v)
  |some none=>Q2I ask lp n
  |none=>none
 |.stuck _=>none
def Tree.cal(C:Nat->List AV->List Ob->AV->List Ob->Prop)(B:Code->Prop):Tree->Prop
 |.leaf _ _=>True
 |.br _ t f=>t.cal C B/\f.cal C B
 |.need _ t=>t.cal C B
 |.call f a o r o' t=>C f a o r o'/\t.cal C B
 |.loop body _ K=>B body/\∀e s,(K e s).cal C B
 |.both a b=>a.cal C B/\b.cal C B
 |.either _ a b=>a.cal C B/\b.cal C B
 |.ask _ _ t=>t.cal C B
 |.askK _ _ t=>t.cal C B
 |.pan _ _ _ _=>True
 |.nxt _ _ _ f t=>(∀j p,(f j p).cal C B)/\t.cal C B
 |.prop _ t=>t.cal C B
 |.look _ _ f n=>(∀j v,(f j v).cal C B)/\n.cal C B
 |.stuck _=>True
section
variable {P:Program}{Df:List Deferred}{w0:World}{g0:Gh}{o0:List Ob}{N:Nat}{Q:Ex->St->Prop}
theorem Q57{x y:Option (Ex×St)}{e:Ex}{s:St}(h:Qgf x y=some (e,s)):x=some (e,s)/\∃s',y=some (e,s')/\Eqv s s':=by
 unfold Qgf at h;split at h
 ·rename_i e1 s1 e2 s2
  split at h
  ·rename_i hb
   rw[Bool.and_eq_true]at hb;obtain⟨rfl,rfl⟩:e1=e/\s1=s:=by simpa using h
   refine⟨rfl,s2,?_,QkH hb.2⟩;rw[Qm8 hb.1]
  ·cases h
 ·cases h
theorem Qlq{ask:Nat->List Srt->Bool}{lp:Code->St->Option (Ex×St)}(ha:∀T sh,ask T sh=true->QbQ P T sh/\Q7l P T sh){B:Code->Prop}(hl:∀body s e s',B body->lp body s=some (e,s')->WP Df P w0 g0 o0 N (.loop body) (fun e2 s2=>e2=e/\s2=s') s)
  (hQ:∀e s s',Q e s->Eqv s s'->Q e s'):∀(t:Tree)(e:Ex)(s:St),t.cal (fun f a o r o'=>BCall P f a o r o') B->Q2I ask lp t=some (e,s)->Q e s->t.ok Df P w0 g0 o0 N Q:=by
 intro t;induction t with
 |leaf e s =>
  intro e' s' _ h hq;unfold Q2I at h;split at h
  ·cases h
  ·obtain⟨rfl,rfl⟩:e=e'/\s=s':=by simpa using h
   exact hq
 |br c t f iht ihf =>
  intro e s hc h hq;cases c with
  |true=>exact⟨fun _=>iht e s hc.1 h hq,fun h=>(by cases h)⟩
  |false=>exact⟨fun h=>(by cases h),fun _=>ihf e s hc.2 h hq⟩
 |need q t ih =>
  intro e s hc h hq;unfold Q2I at h;split at h
  ·rename_i hb
   exact⟨q.h.1 hb,ih e s hc h hq⟩
  ·cases h
 |call f a o r o' t ih =>
  intro e s hc h hq;exact⟨hc.1,ih e s hc.2 h hq⟩
 |loop body s0 K ih =>
  intro e s hc h hq;unfold Q2I at h;split at h
  ·rename_i e1 s1 h1
   intro a w hs;refine wp_mono (hl body s0 e1 s1 hc.1 h1 a w hs) fun x a' w' hx=>?_
   obtain⟨e',s',cY,ht,cZ,rfl,rfl⟩:=hx;exact⟨_,_,cY,ht,cZ,ih _ _ e s (hc.2 _ _) h hq⟩
  ·cases h
 |both a b iha ihb =>
  intro e s hc h hq;obtain⟨h1,s',h2,h3⟩:=Q57 h;exact⟨iha e s hc.1 h1 hq,ihb e s' hc.2 h2 (hQ e s s' hq h3)⟩
 |either q a b iha ihb =>
  intro e s hc h hq;unfold Q2I at h;split at h
  ·obtain⟨h1,s',h2,h3⟩:=Q57 h
   exact⟨fun _=>iha e s hc.1 h1 hq,ihb e s' hc.2 h2 (hQ e s s' hq h3)⟩
  ·rename_i hb
   exact⟨fun yG=>(by rw[q.h.2 yG]at hb;cases hb),ihb e s hc.2 h hq⟩
 |ask T sh t ih =>
  intro e s hc h hq;unfold Q2I at h;split at h
  ·rename_i hb
   exact⟨(ha T sh hb).1,ih e s hc h hq⟩
  ·cases h
 |askK T sh t ih =>
  intro e s hc h hq;unfold Q2I at h;split at h
  ·rename_i hb
   exact⟨(ha T sh hb).2,ih e s hc h hq⟩
  ·cases h
 |pan f a o v=>intro e s _ h;cases h
 |nxt q es Q33 f t ihf ih=>intro e s _ h;cases h
 |prop q t ih=>intro e s _ h;cases h
 |look k es f n ihf ih =>
  intro e s hc h hq;unfold Q2I at h;unfold Tree.ok;split at h
  ·rename_i j v hl
   rw[hl];exact ihf j v e s (hc.1 j v) h hq
  ·rename_i hl
   rw[hl];exact ih e s hc.2 h hq
  ·cases h
 |stuck n=>intro e s _ h;cases h
def Qg8:Option (AV×List Ob)->Option (AV×List Ob)->Option (AV×List Ob)
 |some (r,o),some (r',o')=>match aEq 40 r r'&&Q6X oEq o o' with
  |true=>some (r,o)
  |false=>none
 |_,_=>none
theorem Q9U{x y:Option (AV×List Ob)}{z:AV×List Ob}(h:Qg8 x y=some z):x=some z/\y=some z:=by
 unfold Qg8 at h;split at h
 ·split at h
  ·rename_i hb
   rw[Bool.and_eq_true]at hb;cases h;exact⟨rfl,by rw[Q5F 40 _ _ hb.1,Q2w (fun _ _=>QeN) _ _ hb.2]⟩
  ·cases h
 ·cases h
def Q3x(fin:St->Option (AV×List Ob))(ask:Nat->List Srt->Bool)(lp:Code->St->Option (Ex×St)):Tree->Option (AV×List Ob)
 |.leaf e s=>match e with
  |.pan _=>none
  |_=>fin s
 |.br c t f=>match c with
  |true=>Q3x fin ask lp t
  |false=>Q3x fin ask lp f
 |.need q t=>match q.b with
  |true=>Q3x fin ask lp t
  |false=>none
 |.call _ _ _ _ _ t=>Q3x fin ask lp t
 |.loop body s K=>match lp body s with
  |some (e,s')=>Q3x fin ask lp (K e s')
  |none=>none
 |.both a b=>Qg8 (Q3x fin ask lp a) (Q3x fin ask lp b)
 |.either q a b=>match q.b with
  |true=>Qg8 (Q3x fin ask lp a) (Q3x fin ask lp b)
  |false=>Q3x fin ask lp b
 |.ask T sh t=>match ask T sh with
  |true=>Q3x fin ask lp t
  |false=>none
 |.askK T sh t=>match ask T sh with
  |true=>Q3x fin ask lp t
  |false=>none
 |.pan _ _ _ _=>none
 |.nxt _ _ _ _ _=>none
 |.prop _ _=>none
 |.look k es f n=>match Qbt k 0 es with
  |some (some (j,v))=>Q3x fin ask lp (f j v)
  |some none=>Q3x fin ask lp n
  |none=>none
 |.stuck _=>none
theorem QfB{fin:St->Option (AV×List Ob)}{ask:Nat->List Srt->Bool}{lp:Code->St->Option (Ex×St)}(ha:∀T sh,ask T sh=true->QbQ P T sh/\Q7l P T sh){B:Code->Prop}(hl:∀body s e s',B body->lp body s=some (e,s')->WP Df P w0 g0 o0 N (.loop body) (fun e2 s2=>e2=e/\s2=s') s)
  {z:AV×List Ob} (hQ:∀e s,fin s=some z->Q e s):∀(t:Tree),t.cal (fun f a o r o'=>BCall P f a o r o') B->Q3x fin ask lp t=some z->t.ok Df P w0 g0 o0 N Q:=by
 intro t;induction t with
 |leaf e s =>
  intro _ h;unfold Q3x at h;split at h
  ·cases h
  ·exact hQ e s h
 |br c t f iht ihf =>
  intro hc h;cases c with
  |true=>exact⟨fun _=>iht hc.1 h,fun h=>(by cases h)⟩
  |false=>exact⟨fun h=>(by cases h),fun _=>ihf hc.2 h⟩
 |need q t ih =>
  intro hc h;unfold Q3x at h;split at h
  ·rename_i hb
   exact⟨q.h.1 hb,ih hc h⟩
  ·cases h
 |call f a o r o' t ih=>intro hc h;exact⟨hc.1,ih hc.2 h⟩
 |loop body s0 K ih =>
  intro hc h;unfold Q3x at h;split at h
  ·rename_i e1 s1 h1
   intro a w hs;refine wp_mono (hl body s0 e1 s1 hc.1 h1 a w hs) fun x a' w' hx=>?_
   obtain⟨e',s',cY,ht,cZ,rfl,rfl⟩:=hx;exact⟨_,_,cY,ht,cZ,ih _ _ (hc.2 _ _) h⟩
  ·cases h
 |both a b iha ihb =>
  intro hc h;obtain⟨h1,h2⟩:=Q9U h;exact⟨iha hc.1 h1,ihb hc.2 h2⟩
 |either q a b iha ihb =>
  intro hc h;unfold Q3x at h;split at h
  ·obtain⟨h1,h2⟩:=Q9U h
   exact⟨fun _=>iha hc.1 h1,ihb hc.2 h2⟩
  ·rename_i hb
   exact⟨fun yG=>(by rw[q.h.2 yG]at hb;cases hb),ihb hc.2 h⟩
 |ask T sh t ih =>
  intro hc h;unfold Q3x at h;split at h
  ·rename_i hb
   exact⟨(ha T sh hb).1,ih hc h⟩
  ·cases h
 |askK T sh t ih =>
  intro hc h;unfold Q3x at h;split at h
  ·rename_i hb
   exact⟨(ha T sh hb).2,ih hc h⟩
  ·cases h
 |pan f a o v=>intro _ h;cases h
 |nxt q es Q33 f t ihf ih=>intro _ h;cases h
 |prop q t ih=>intro _ h;cases h
 |look k es f n ihf ih =>
  intro hc h;unfold Q3x at h;unfold Tree.ok;split at h
  ·rename_i j v hl
   rw[hl];exact ihf j v (hc.1 j v) h
  ·rename_i hl
   rw[hl];exact ih hc.2 h
  ·cases h
 |stuck n=>intro _ h;cases h
theorem QbW{ask:Nat->List Srt->Bool}{lp:Code->St->Option (Ex×St)}:∀(t:Tree)(e:Ex)(s:St),Q2I ask lp t=some (e,s)->∀v,e≠.pan v:=by
 intro t;induction t with
 |leaf e s =>
  intro e' s' h v;unfold Q2I at h;split at h
  ·cases h
  ·rename_i jL
   obtain⟨rfl,rfl⟩:e=e'/\s=s':=by simpa using h
   exact fun h=>jL v h
 |br c t f iht ihf=>intro e s h;cases c with|true=>exact iht e s h|false=>exact ihf e s h
 |need q t ih =>
  intro e s h;unfold Q2I at h;split at h
  ·exact ih e s h
  ·cases h
 |call f a o r o' t ih=>exact ih
 |loop body s0 K ih =>
  intro e s h;unfold Q2I at h;split at h
  ·exact ih _ _ e s h
  ·cases h
 |both a b iha ihb=>intro e s h;exact iha e s (Q57 h).1
 |either q a b iha ihb =>
  intro e s h;unfold Q2I at h;split at h
  ·exact iha e s (Q57 h).1
  ·exact ihb e s h
 |ask T sh t ih =>
  intro e s h;unfold Q2I at h;split at h
  ·exact ih e s h
  ·cases h
 |askK T sh t ih =>
  intro e s h;unfold Q2I at h;split at h
  ·exact ih e s h
  ·cases h
 |pan f a o v=>intro e s h;cases h
 |nxt q es Q33 f t ihf ih=>intro e s h;cases h
 |prop q t ih=>intro e s h;cases h
 |look k es f n ihf ih =>
  intro e s h;unfold Q2I at h;split at h
  ·exact ihf _ _ e s h
  ·exact ih e s h
  ·cases h
 |stuck n=>intro e s h;cases h
end
section
variable {p:Pr}{ty:Tys}{cs:Nat->List AV->List Ob->Option (AV×List Ob)}{C:Nat->List AV->List Ob->AV->List Ob->Prop}{B:Code->Prop}
theorem QiT{K:St->Tree}(hK:∀s,(K s).cal C B)(o:Oper)(s:St)(op:Op):(Q2u p ty K o s op).cal C B:=by
 unfold Q2u;repeat' split
 all_goals first
  |trivial
  |exact hK _
theorem Qgq{K:St->Tree}(hK:∀s,(K s).cal C B)(o:Oper)(s:St)(T:Nat)(a x:Operand):(Q7P p ty K o s T a x).cal C B:=by
 unfold Q7P;repeat' split
 all_goals first
  |trivial
  |exact hK _
theorem Qe9{KT:Nat}{k:AV}{t:Tree}(h:t.cal C B):(QbR ty KT k t).cal C B:=by
 unfold QbR;repeat' split
 all_goals first
  |trivial
  |exact h
theorem Qiw{K:St->Tree}(hK:∀s,(K s).cal C B)(o:Oper)(s:St)(T:Nat)(x i:Operand)(c:Bool):(Q7R ty K o s T x i c).cal C B:=by
 unfold Q7R;split
 ·split
  ·refine Qe9 (show(Tree.look _ _ _ _).cal C B from⟨fun _ _=>hK _,?_⟩)
   unfold QmZ;repeat' split
   all_goals first
    |exact hK _
    |trivial
  ·trivial
 ·trivial
theorem Ql4{K:St->Tree}(hK:∀s,(K s).cal C B)(o:Oper)(s:St)(T:Nat)(m i x:Operand):(Qah p ty K o s T m i x).cal C B:=by
 unfold Qah;repeat' split
 all_goals first
  |trivial
  |exact Qe9 (show(Tree.look _ _ _ _).cal C B from⟨fun _ _=>hK _,hK _⟩)
theorem Q92(hcs:∀o g a ob r o',Q6E cs o g a ob=some (r,o')->C g a ob r o'/\∀t,r≠.tup (.dead::t)){K:St->Tree}(hK:∀s,(K s).cal C B)(o:Oper)(s:St):(aop p ty cs K o s).cal C B:=by
 unfold aop;split;all_goals try simp only
 all_goals repeat' split
 all_goals first
  |trivial
  |exact hK _
  |exact QiT hK _ _ _
  |exact Qgq hK _ _ _ _ _
  |exact Qiw hK _ _ _ _ _ _
  |exact Ql4 hK _ _ _ _ _ _
  |exact⟨hK _,hK _⟩
  |exact⟨fun _ _=>hK _,hK _⟩
  |(rename_i h _;exact⟨(hcs _ _ _ _ _ _ h).1,hK _⟩)
  |(rename_i h;exact⟨(hcs _ _ _ _ _ _ h).1,hK _⟩)
  |(rename_i h _;exact absurd rfl ((hcs _ _ _ _ _ _ h).2 _))
  |(rename_i h;exact absurd rfl ((hcs _ _ _ _ _ _ h).2 _))
theorem QhY(hcs:∀o g a ob r o',Q6E cs o g a ob=some (r,o')->C g a ob r o'/\∀t,r≠.tup (.dead::t)){ops:List Oper}{K:St->Tree}(hK:∀s,(K s).cal C B):∀(t:OT)(s:St),(Q4m p ty cs ops K t s).cal C B:=by
 intro t;induction t with
 |nil=>intro s;exact hK s
 |fork a b iha ihb=>intro s;exact⟨iha s,ihb s⟩
 |cons i r ih =>
  intro s;have hr:∀s,(Q4m p ty cs ops K r s).cal C B:=ih;unfold Q4m;split
  ·trivial
  ·split
   ·exact Q92 hcs hr _ _
   ·split
    ·trivial
    ·repeat' split
     all_goals first
      |trivial
      |exact hr _
      |exact Q92 hcs hr _ _
      |exact⟨Q92 hcs hr _ _,hr _⟩
      |exact⟨hr _,Q92 hcs hr _ _⟩
theorem Q8i(hcs:∀o g a ob r o',Q6E cs o g a ob=some (r,o')->C g a ob r o'/\∀t,r≠.tup (.dead::t)){ord:Nat->OT}{N:Nat}:∀(c:Code)(K:Ex->St->Tree),Q1g N c=true->Q1e .any ty ord c=true->(∀e s,(K e s).cal C (fun b=>Q1g N b=true/\Q1e .any ty ord b=true))->∀s,(QU p ty cs ord c K s).cal C (fun b=>Q1g N b=true/\Q1e .any ty ord b=true):=by
 intro c;induction c with
 |skip=>intro K _ _ hK s;exact hK _ _
 |region id ops draw=>intro K _ _ hK s;exact QhY hcs (fun s=>hK _ s) _ _
 |seq a b iha ihb =>
  intro K hd ho hK s;simp only[Q1g,Q1e,Bool.and_eq_true]at hd ho;refine iha _ hd.1 ho.1 (fun e s=>?_) s
  cases e with
  |normal=>exact ihb K hd.2 ho.2 hK s
  |exit i=>exact hK _ _
  |ret=>exact hK _ _
  |pan v=>exact hK _ _
 |cond c a b iha ihb =>
  intro K hd ho hK s;simp only[Q1g,Q1e,Bool.and_eq_true]at hd ho;unfold QU;repeat' split
  all_goals first
   |trivial
   |exact iha K hd.1 ho.1 hK _
   |exact ihb K hd.2 ho.2 hK _
   |exact⟨iha K hd.1 ho.1 hK _,ihb K hd.2 ho.2 hK _⟩
 |block id c ih =>
  intro K hd ho hK s;simp only[Q1g,Q1e]at hd ho;refine ih _ hd ho (fun e s=>?_) s
  cases e with
  |normal=>exact hK _ _
  |ret=>exact hK _ _
  |pan v=>exact hK _ _
  |exit i=>simp only;split<;>exact hK _ _
 |loop c ih =>
  intro K hd ho hK s;simp only[Q1g,Q1e]at hd ho;exact⟨⟨hd,ho⟩,fun e s=>hK e s⟩
 |exit i=>intro K _ _ hK s;exact hK _ _
 |ret=>intro K _ _ hK s;exact hK _ _
 |_=>intro K _ _ hK s;trivial
end
def Qj8(ks:List Nat)(s:St):St:=⟨ks.map fun t=>(t,lk t s.tm),s.ob⟩
def Qdf(l:List (Nat×AV)):List Nat:=l.foldr (fun q r=>if r.any (Nat.beq q.1)then r else q.1::r) []
def QcW(ks:List Nat)(e:Ex)(s:St):Tree:=match e with
 |.normal=>.leaf .normal (Qj8 ks s)
 |e=>.leaf e s
def lpF(ask:Nat->List Srt->Bool)(ty:Tys)(cs:Nat->List AV->List Ob->Option (AV×List Ob))(ord:Nat->OT):Nat->Code->St->Option (Ex×St)
 |0,_,_=>none
 |k+1,body,s=>match Q2I ask (lpF ask ty cs ord k) (QU std ty cs ord body (QcW (Qdf s.tm)) s)with
  |some (.normal,s')=>lpF ask ty cs ord k body s'
  |some (e,s')=>some (e,s')
  |none=>none
theorem Q9c{ask:Nat->List Srt->Bool}{ty:Tys}{cs:Nat->List AV->List Ob->Option (AV×List Ob)}{ord:Nat->OT}:∀(k:Nat)(body:Code)(s:St)(e:Ex)(s':St),lpF ask ty cs ord k body s=some (e,s')->∀v,e≠.pan v
 |0,_,_,_,_,h=>by cases h
 |k+1,body,s,e,s',h=>by
  unfold lpF at h;split at h
  ·exact Q9c k body _ e s' h
  ·rename_i e1 s1 _ h1
   obtain⟨rfl,rfl⟩:e1=e/\s1=s':=by simpa using h
   exact QbW _ _ _ h1
  ·cases h
section
variable {P:Program}{ty:Tys}{Df:List Deferred}{w0:World}{g0:Gh}{o0:List Ob}{N:Nat}{w:World}{a:Act}
theorem QfL(t:Nat)(s:St):∀ks:List Nat,lk t (ks.map fun t=>(t,lk t s.tm))=lk t s.tm\/lk t (ks.map fun t=>(t,lk t s.tm))=.dead
 | []=>.inr rfl
 |k::r=>by
  show(if t=k then lk k s.tm else lk t (r.map _))=_\/(if t=k then lk k s.tm else lk t (r.map _))=_
  split
  ·rename_i h;rw[h];exact .inl rfl
  ·exact QfL t s r
theorem Qkq{s:St}(ks:List Nat)(hs:Sim Df w0 g0 o0 N s a w):Sim Df w0 g0 o0 N (Qj8 ks s) a w:=by
 obtain⟨g,M,hS,h0⟩:=hs.rel;refine⟨hs.defers,hs.size,g,M,fun t=>?_,h0⟩
 show ARel w g s.ob _ (lk t (ks.map fun t=>(t,lk t s.tm)))
 rcases QfL t s ks with h|h
 ·rw[h];exact hS t
 ·rw[h];trivial
theorem Qco{s s':St}(h:Eqv s s')(hs:Sim Df w0 g0 o0 N s' a w):Sim Df w0 g0 o0 N s a w:=by
 obtain⟨g,M,hS,h0⟩:=hs.rel;have e:=h.1;refine⟨hs.defers,hs.size,g,by rw[e];exact M,fun t=>?_,by rw[e];exact h0⟩
 show ARel w g s.ob _ (lk t s.tm);rw[h.2.1 t,e];exact hS t
theorem Eqv.refl(s:St):Eqv s s:=⟨rfl,fun _=>rfl,fun _ _ h=>h⟩
theorem Eqv.trans{s s' s'':St}(h:Eqv s s')(k:Eqv s' s''):Eqv s s'':=⟨h.1.trans k.1,fun t=>(h.2.1 t).trans (k.2.1 t),fun i r e=>k.2.2 i r (h.2.2 i r e)⟩
theorem Q8a(hT:TyOk P ty)(hm:P.follows .mixedOrders=true){ask:Nat->List Srt->Bool}(ha:∀T sh,ask T sh=true->QbQ P T sh/\Q7l P T sh){cs:Nat->List AV->List Ob->Option (AV×List Ob)}(hcs:∀o g a ob r o',Q6E cs o g a ob=some (r,o')->BCall P g a ob r o'/\∀t,r≠.tup (.dead::t)){ord:Nat->OT} :
  ∀(k:Nat)(body:Code)(s:St)(e:Ex)(s':St),Q1g N body=true/\Q1e .any ty ord body=true->lpF ask ty cs ord k body s=some (e,s')->∀a w,Sim Df w0 g0 o0 N s a w->Code.rounds P body (fun x a w=>x=e.conv/\Sim Df w0 g0 o0 N s' a w) k a w
 |0,_,_,_,_,_,h=>by cases h
 |k+1,body,s,e,s',hB,h=>by
  intro a w hs;have ih:=Q8a hT hm ha hcs (ord:=ord) k;have hnp:=Q9c _ _ _ _ _ h
  have hl:∀body s e s',Q1g N body=true/\Q1e .any ty ord body=true->lpF ask ty cs ord k body s=some (e,s')->WP Df P w0 g0 o0 N (.loop body) (fun e2 s2=>e2=e/\s2=s') s:=fun b s e s' hB h a w hs=>by
   refine wp_mono (wp_loop_rounds k (ih b s e s' hB h a w hs)) fun x a' w' hx=>?_
   exact⟨e,s',hx.1,fun v hv=>absurd hv (Q9c k _ _ _ _ h v),hx.2,rfl,rfl⟩
  unfold lpF at h
  have go:∀e1 s1,Q2I ask (lpF ask ty cs ord k) (QU std ty cs ord body (QcW (Qdf s.tm)) s)=some (e1,s1) ->
    (QU std ty cs ord body (QcW (Qdf s.tm)) s).ok Df P w0 g0 o0 N (fun e2 s2=>e2=e1/\Eqv s1 s2):=fun e1 s1 h1 =>
   Qlq ha hl (fun e s s' hq hv=>⟨hq.1,hq.2.trans hv⟩) _ e1 s1 (Q8i hcs body _ hB.1 hB.2 (fun e s=>by cases e<;>trivial) s) h1 ⟨rfl,Eqv.refl _⟩
  have fin:∀e1 s1,Q2I ask (lpF ask ty cs ord k) (QU std ty cs ord body (QcW (Qdf s.tm)) s)=some (e1,s1)->(e1=.normal->lpF ask ty cs ord k body s1=some (e,s'))->(e1≠.normal->e1=e/\s1=s') ->
    body.wp P (Exit.then (Code.rounds P body (fun x a w=>x=e.conv/\Sim Df w0 g0 o0 N s' a w) k) (fun x a w=>x=e.conv/\Sim Df w0 g0 o0 N s' a w)) a w:=fun e1 s1 h1 hn hx=>by
   refine Q2n (Q:=fun e2 s2=>e2=e1/\Eqv s1 s2) hT hm body (QcW (Qdf s.tm)) _ s a w hB.1 hB.2 (fun c a d v w h=>?_) (fun e2 s2 a' w' _ qN hq=>?_) (fun v s2 a' w' _ _ hq=>absurd hq.1.symm (QbW _ _ _ h1 v)) hs (go e1 s1 h1)
   ·have h1:Exit.panic c=e.conv:=h.1
    cases e<;>first|exact absurd rfl (hnp _)|cases h1
   ·cases e2 with
    |normal =>
     obtain⟨h2,h3⟩:=(show Ex.normal=e1/\Eqv s1 (Qj8 _ s2) from hq);exact ih body s1 e s' hB (hn h2.symm) a' w' (Qco h3 (Qkq _ qN))
    |exit i =>
     obtain⟨h2,h3⟩:=(show Ex.exit i=e1/\Eqv s1 s2 from hq);obtain⟨h4,h5⟩:=hx (by rw[<-h2];simp)
     rw[h5]at h3;exact⟨by rw[<-h4,<-h2],Qco h3 qN⟩
    |ret =>
     obtain⟨h2,h3⟩:=(show Ex.ret=e1/\Eqv s1 s2 from hq);obtain⟨h4,h5⟩:=hx (by rw[<-h2];simp)
     rw[h5]at h3;exact⟨by rw[<-h4,<-h2],Qco h3 qN⟩
    |pan v=>exact absurd (show Ex.pan v=e1 from hq.1).symm (QbW _ _ _ h1 v)
  show body.wp P _ a w;split at h
  ·rename_i s1 h1
   exact fin .normal s1 h1 (fun _=>h) (fun h=>absurd rfl h)
  ·rename_i e1 s1 jL h1
   obtain⟨rfl,rfl⟩:e1=e/\s1=s':=by simpa using h
   exact fin e1 s1 h1 (fun h=>absurd h jL) (fun _=>⟨rfl,rfl⟩)
  ·cases h
end
def mvC(ob:List Ob)(ρ:List Nat):AV->AV
 |.box i o=>match Q1c i ρ with|some j=>.box j o|none=>.dead
 |.row i e=>match ob[i]? with
  |some (.row _ _ _ e2 _)=>(match Nat.beq e2 e with
   |true=>(match Q1c i ρ with|some j=>.row j e|none=>.dead)
   |false=>.dead)
  |_=>.dead
 |.rowk _ _ _=>.dead
 |.rptr _ _ _ _=>.dead
 |.iter i=>match Q1c i ρ with|some j=>.iter j|none=>.dead
 |.clo f i o t=>match Q1c i ρ with|some j=>.clo f j o t|none=>.dead
 |.kb b=>.val (.bool b)
 |x=>x
def mv1(ob:List Ob)(ρ:List Nat):AV->AV
 |.agg cs=>.agg (cs.map (mvC ob ρ))
 |x=>mvC ob ρ x
def mvR(ob:List Ob)(ρ:List Nat):AV->AV
 |.tup xs=>.tup (xs.map (mv1 ob ρ))
 |x=>mv1 ob ρ x
def mvO(ob:List Ob)(ρ:List Nat):Ob->Ob
 |.box cs=>.box (cs.map (mvC ob ρ))
 |x=>x
def QoH:AV->List Nat
 |.tup xs=>xs.flatMap QcK
 |x=>QcK x
def Qib:AV->Bool
 |.tup xs=>xs.all fun|.tup _=>false|_=>true
 |_=>true
theorem QcB:∀xs:List AV,leL xs xs
 | []=>trivial
 |_::r=>⟨.inl rfl,QcB r⟩
theorem Q1j{x:AV}(h:∀xs,x≠.tup xs):QhQ x x:=by
 cases x with
 |agg cs=>exact QcB cs
 |tup xs=>exact absurd rfl (h xs)
 |_=>exact .inl rfl
theorem Q9F{x:AV}(h:Qib x=true):leA x x:=by
 cases x with
 |tup xs =>
  have key:∀xs:List AV,(xs.all fun|.tup _=>false|_=>true)=true->leT xs xs:=by
   intro xs;induction xs with
   |nil=>intro _;trivial
   |cons y r ih =>
    intro h;simp only[List.all_cons,Bool.and_eq_true]at h;exact⟨Q1j (fun zs e=>by rw[e]at h;cases h.1),ih h.2⟩
  exact key xs h
 |val a=>exact Q1j (x:=.val a) (fun xs e=>nomatch e)
 |slc a b=>exact Q1j (x:=.slc a b) (fun xs e=>nomatch e)
 |agg a=>exact Q1j (x:=.agg a) (fun xs e=>nomatch e)
 |ref a=>exact Q1j (x:=.ref a) (fun xs e=>nomatch e)
 |box a b=>exact Q1j (x:=.box a b) (fun xs e=>nomatch e)
 |row a b=>exact Q1j (x:=.row a b) (fun xs e=>nomatch e)
 |rowk a b c=>exact Q1j (x:=.rowk a b c) (fun xs e=>nomatch e)
 |rptr a b c d=>exact Q1j (x:=.rptr a b c d) (fun xs e=>nomatch e)
 |kb a=>exact Q1j (x:=.kb a) (fun xs e=>nomatch e)
 |iter a=>exact Q1j (x:=.iter a) (fun xs e=>nomatch e)
 |clo a b c d=>exact Q1j (x:=.clo a b c d) (fun xs e=>nomatch e)
 |opt a=>exact Q1j (x:=.opt a) (fun xs e=>nomatch e)
 |dead=>exact Q1j (x:=.dead) (fun xs e=>nomatch e)
def QnA(o0:List Ob)(r:AV)(ob:List Ob):Option (AV×List Ob) :=
 match Nat.beq o0.length 0&&QnV r&&Qib r with
 |true=>some (r,[])
 |false =>
  let ρ:=Q9V ob 400 (List.range o0.length) ((List.range o0.length).flatMap (fun i=>Qmr (ob.getD i .gone))++QoH r)
  let ob':=ρ.map fun i=>mvO ob ρ (ob.getD i .gone)
  let r':=mvR ob ρ r
  match Qib r'&&(Q1N (ρ.map some)&&(QdV o0 ob ob' (ρ.map some)&&Nat.ble o0.length ρ.length))with
  |true=>(match both (QgI ob ob' (ρ.map some) r r') (Q7C ob ob' (ρ.map some) (ρ.map some) ob')with
   |some l=>if Qn1 l=true then some (r',ob')else none
   |none=>none)
  |false=>none
theorem QkQ{o0:List Ob}{r res:AV}{ob ob':List Ob}{k:Nat}{e:Ex}(h:QnA o0 r ob=some (res,ob')):FinOk o0 res ob' e ⟨[(k,r)],ob⟩:=by
 unfold QnA at h;split at h
 ·rename_i hb
  simp only[Bool.and_eq_true]at hb;obtain⟨rfl,rfl⟩:r=res/\[]=ob':=by simpa using h
  have:o0=[]:=List.eq_nil_of_length_eq_zero (eq_of_beq_eq_true hb.1.1)
  subst this;exact FinOk.pure hb.1.2 (Q9F hb.2)
 ·simp only at h
  split at h
  ·rename_i hb
   simp only[Bool.and_eq_true]at hb;split at h
   ·rename_i l hl
    split at h
    ·rename_i he
     simp only[Option.some.injEq,Prod.mk.injEq]at h;obtain⟨h1,h2⟩:=h;rw[h1]at hl hb;rw[h2]at hl hb;exact⟨_,_,_,hb.2.1,hb.2.2.1,by rw[List.length_map];exact Nat.le_of_ble_eq_true hb.2.2.2,hl,Qfy l he,Q9F hb.1⟩
    ·cases h
   ·cases h
  ·cases h
def okW:AV->Bool
 |.rowk _ _ _|.rptr _ _ _ _|.kb _|.dead|.tup _|.iter _=>false
 |_=>true
theorem QjJ{x:AV}(h:okW x=true):x.live=true:=by cases x<;>first|rfl|cases h
def QmH(ty:Tys)(rs:List ResultVar)(e:Ex)(s:St):Tree:=match e with
 |.exit _=>.stuck 70
 |.pan v=>.leaf (.pan v) s
 |_=>match Q3s (rs.map (Q6I ty s))with
  |some [_]=>.stuck 71
  |some xs=>(match xs.all okW with|true=>.leaf .ret ⟨[(0,.tup xs)],s.ob⟩|false=>.stuck 72)
  |none=>.stuck 73
theorem QgD{P:Program}{ty:Tys}(hT:TyOk P ty)(hm:P.follows .mixedOrders=true){cs:Nat->List AV->List Ob->Option (AV×List Ob)}{ord:Nat->OT}
  {f:Nat} {fn:Func} {c:Code} {args:List AV} {ob:List Ob} {res:AV} {ob':List Ob} (hf:P.funcs[f]?=some fn) (hb:fn.body=some c) (he:∀vs w,(callFunc f vs).run P w=.ok (.enter f vs) w)
  (hn:args.length<=fn.ntmps) (hd:Q1g fn.ntmps c=true) (ho:Q1e .any ty ord c=true)
  (h:∀w0 g0,(QU std ty cs ord c (QmH ty fn.results.toList) ⟨ent 0 args,ob⟩).ok [] P w0 g0 ob fn.ntmps (FinOk ob res ob')):BCall P f args ob res ob':=by
 refine⟨he,fun w g vs M hL=>calls_of_wp hf hb ?_⟩
 have jC:vs.length=args.length:=hL.1;refine Q2n (w0:=w) (g0:=g) (o0:=ob) (N:=fn.ntmps) (Q:=FinOk ob res ob') hT hm c _ _ ⟨ent 0 args,ob⟩ _ w hd ho (fun c a d v w h=>h) (fun e s a w' ht hs hq=>?_) (fun v s a w' ht _ hq=>by unfold FinOk at hq;rw[ht]at hq;exact hq.elim) ⟨rfl,?_,g,M,fun t=>?_,Step.refl⟩ (h w g)
 ·have fin:∀{T:Tree},T=(match Q3s (fn.results.toList.map (Q6I ty s))with|some [_]=>.stuck 71|some xs=>(match xs.all okW with|true=>.leaf .ret ⟨[(0,.tup xs)],s.ob⟩|false=>.stuck 72)|none=>.stuck 73)->T.ok [] P w g ob fn.ntmps (FinOk ob res ob') ->
    a.defers=[]/\∃v,(results fn a.tmps).run P w'=.ok v w'/\∃v' g',Ending.returned v=.returned v'/\Mem w' g' ob'/\ARel w' g' ob' v' res/\Step w g ob w' g' ob':=fun {T} qx hq=>by
   obtain⟨g',M',hS,h0⟩:=hs.rel;cases hx:Q3s (fn.results.toList.map (Q6I ty s))with
   |none=>rw[hx]at qx;subst qx;exact(show False from hq).elim
   |some xs =>
    rw[hx]at qx;obtain⟨us,kW,hl,jk⟩:=Qaj hT M' hS _ _ hx
    have jQ:(results fn a.tmps).run P w'=.ok (if h:us.toArray.size=1 then us.toArray[0]else .tuple us.toArray) w':=by
     rw[Q9v,Array.mapM_eq_mapM_toList,Sem.run_bind]
     have:(List.toArray <$> (fn.results.toList.mapM (Q9A a.tmps))).run P w'=.ok us.toArray w':=by
      rw[map_eq_pure_bind,Sem.run_bind,kW];rfl
     rw[this];rfl
    have many:xs.length≠1->T=(match xs.all okW with|true=>.leaf .ret ⟨[(0,.tup xs)],s.ob⟩|false=>.stuck 72)->a.defers=[]/\∃v,(results fn a.tmps).run P w'=.ok v w'/\∃v' g',Ending.returned v=.returned v'/\Mem w' g' ob'/\ARel w' g' ob' v' res/\Step w g ob w' g' ob':=fun jL qx=>by
     cases hw:xs.all okW with
     |false=>rw[hw]at qx;subst qx;exact(show False from hq).elim
     |true =>
      rw[hw]at qx;subst qx;obtain⟨ρ,r',l,h1,h2,h3,h4,h5,h6⟩:=(show FinOk ob res ob' .ret ⟨[(0,.tup xs)],s.ob⟩ from hq);obtain⟨⟨l1,e1,a1⟩,l2,e2,a2⟩:=Q1y h4 h5;have hF:Fits s.ob ob' ρ:=Q2B _ _ _ e2 a2;have:¬us.toArray.size=1:=by simp;omega
      rw[dif_neg this]at jQ;have hv:ARel w' g' s.ob (.tuple us.toArray) (.tup xs):=⟨us.toArray,rfl,by simpa using hl,fun j y u hy hu=>(jk j y u (by simpa using hy) hu).to1 (QjJ (List.all_eq_true.1 hw u (List.mem_of_getElem? hu)))⟩
      exact⟨hs.defers,_,jQ,_,g'.ren ρ,rfl,M'.ren hF h1,Q6a (Q4X hF h1 hv e1 a1) h6,Q5x hF h1 h2 h3 h0⟩
    cases xs with
    |nil=>exact many (by simp) qx
    |cons x r =>
     cases r with
     |cons x' r'=>exact many (by simp) qx
     |nil=>subst qx;exact(show False from hq).elim
  cases e with
  |normal=>exact fin rfl hq
  |ret=>exact fin rfl hq
  |exit i=>exact(show False from hq).elim
  |pan v=>exact(by have hq:FinOk ob res ob' (.pan v) s:=hq;unfold FinOk at hq;rw[ht v rfl]at hq;exact hq.elim)
 ·simp;omega
 ·show ARel w g ob _ (lk t (ent 0 args))
  rw[Q9w];simp only[Nat.zero_le,if_true,Nat.sub_zero];by_cases ht:t<args.length
  ·rw[List.getD_eq_getElem?_getD,List.getElem?_eq_getElem ht,Option.getD_some]
   have e:(vs.toArray++Array.replicate (fn.ntmps-vs.toArray.size) undef).getD t undef=vs[t]'(by omega):=by
    rw[Array.getD_eq_getD_getElem?,Array.getElem?_append_left (by simp;omega)]
    simp[show t<vs.length by omega]
   rw[e];exact(hL.2 t _ _ (List.getElem?_eq_getElem (by omega)) (List.getElem?_eq_getElem ht)).to
  ·rw[List.getD_eq_getElem?_getD,List.getElem?_eq_none (by omega)]
   trivial
def Qmn(fn:Func):Bool:=!fn.resultTypes.toList.any roT
def QnH(f:Nat)(fn:Func):Ex->St->Tree:=match QmT f with
 |true=>QmH tys fn.results.toList
 |false=>Q5o std tys (Qmn fn) fn.results.toList
structure FnI where
 fn:Func
 c:Code
 ord:Nat->OT
def gd(cs:Nat->List AV->List Ob->Option (AV×List Ob)):Nat->List AV->List Ob->Option (AV×List Ob):=fun g a o=>match cs g a o with
 |some (.tup (.dead::_),_)=>none
 |r=>r
def Qdh(ob:List Ob):St->Option (AV×List Ob)
 |⟨[(_,r)],ob1⟩=>QnA ob r ob1
 |_=>none
theorem QfJ{ob:List Ob}{s:St}{r:AV}{o':List Ob}{e:Ex}(h:Qdh ob s=some (r,o')):FinOk ob r o' e s:=by
 unfold Qdh at h;split at h
 ·exact QkQ h
 ·cases h
def Q4p(tab:Nat->Option FnI)(base:Nat->List AV->List Ob->Option (AV×List Ob))(ask:Nat->List Srt->Bool)(lf:Nat):Nat->Nat->List AV->List Ob->Option (AV×List Ob)
 |0,_,_,_=>none
 |n+1,f,args,ob=>match base f args ob with
  |some r=>some r
  |none=>match tab f with
   |none=>none
   |some F=>match Nat.ble args.length F.fn.ntmps with
    |false=>none
    |true=>Q3x (Qdh ob) ask (lpF ask tys (gd (Q4p tab base ask lf n)) F.ord lf) (QU std tys (gd (Q4p tab base ask lf n)) F.ord F.c (QnH f F.fn) ⟨ent 0 args,ob⟩)
def FnI.good(f : Nat)(F : FnI) : Prop := prog.funcs[f]? = some F.fn ∧ F.fn.body = some F.c ∧ (Q1g F.fn.ntmps F.c && (Q1e .any tys F.ord F.c && !(F.fn.name == "runtime.NumGoroutine"))) = true
theorem Q2k{tab:Nat->Option FnI}{base:Nat->List AV->List Ob->Option (AV×List Ob)}{ask:Nat->List Srt->Bool}{lf:Nat}(ht:∀f F,tab f=some F->f<1000000/\F.good f)(hb:∀f a o r o',base f a o=some (r,o')->f<1000000/\BCall prog f a o r o')
  (ha:∀T sh,ask T sh=true->QbQ prog T sh/\Q7l prog T sh):∀(n f:Nat)(args:List AV)(ob:List Ob)(r:AV)(o':List Ob),Q4p tab base ask lf n f args ob=some (r,o')->f<1000000/\BCall prog f args ob r o'
 |0,_,_,_,_,_,h=>by cases h
 |n+1,f,args,ob,r,o',h=>by
  have ih:=Q2k ht hb ha n (lf:=lf)
  have vh:∀g a ob r o',gd (Q4p tab base ask lf n) g a ob=some (r,o')->Q4p tab base ask lf n g a ob=some (r,o')/\∀t,r≠.tup (.dead::t):=fun g a ob r o' h=>by
   unfold gd at h;split at h
   ·cases h
   ·rename_i jL
    exact⟨h,fun t e=>jL t o' (by rw[<-e];exact h)⟩
  have hcs:∀o g a ob r o',Q6E (gd (Q4p tab base ask lf n)) o g a ob=some (r,o')->BCall prog g a ob r o'/\∀t,r≠.tup (.dead::t):=fun o g a ob r o' h=>by
   unfold Q6E at h;split at h
   ·rename_i r1 h1
    obtain rfl:r1=(r,o'):=by simpa using h
    exact⟨(ih _ _ _ _ _ (vh _ _ _ _ _ h1).1).2,(vh _ _ _ _ _ h1).2⟩
   ·split at h
    ·have:=(ih _ _ _ _ _ (vh _ _ _ _ _ h).1).1
     omega
    ·cases h
  unfold Q4p at h;split at h
  ·rename_i r1 h1
   obtain rfl:r1=(r,o'):=by simpa using h
   exact hb _ _ _ _ _ h1
  ·split at h
   ·cases h
   ·rename_i F hF
    obtain⟨jE,h1,h2,h3⟩:=ht f F hF;simp only[Bool.and_eq_true,Bool.not_eq_true']at h3;split at h
    ·cases h
    ·rename_i jF
     have qa:∀(E:Ex->St->Tree),(∀e s,(E e s).cal (fun f a o r o'=>BCall prog f a o r o') (fun b=>Q1g F.fn.ntmps b=true/\Q1e .any tys F.ord b=true))->Q3x (Qdh ob) ask (lpF ask tys (gd (Q4p tab base ask lf n)) F.ord lf) (QU std tys (gd (Q4p tab base ask lf n)) F.ord F.c E ⟨ent 0 args,ob⟩)=some (r,o') ->
       ∀w0 g0,(QU std tys (gd (Q4p tab base ask lf n)) F.ord F.c E ⟨ent 0 args,ob⟩).ok [] prog w0 g0 ob F.fn.ntmps (FinOk ob r o'):=fun E hE hr w0 g0=>by
      refine QfB (fin:=Qdh ob) (lp:=lpF ask tys (gd (Q4p tab base ask lf n)) F.ord lf) (B:=fun b=>Q1g F.fn.ntmps b=true/\Q1e .any tys F.ord b=true) ha (fun body s e s' hB hl a w hs=>?_) (fun e s hf=>QfJ hf) _ (Q8i hcs F.c _ h3.1 h3.2.1 hE _) hr
      refine wp_mono (wp_loop_rounds lf (Q8a Q5W QbC ha hcs lf body s e s' hB hl a w hs)) fun x a' w' hx=>?_
      exact⟨e,s',hx.1,fun v hv=>absurd hv (Q9c lf _ _ _ _ hl v),hx.2,rfl,rfl⟩
     unfold QnH at h;split at h
     ·refine⟨jE,QgD (cs:=gd (Q4p tab base ask lf n)) (ord:=F.ord) Q5W QbC h1 h2 (enters_of h1 h3.2.2 h2) (Nat.le_of_ble_eq_true jF) h3.1 h3.2.1 (qa _ (fun e s=>?_) h)⟩
      unfold QmH;split
      ·trivial
      ·trivial
      ·split
       ·trivial
       ·split<;>trivial
       ·trivial
     ·refine⟨jE,Q8j (Qmn F.fn) (cs:=gd (Q4p tab base ask lf n)) (ord:=F.ord) Q5W QbC h1 h2 (enters_of h1 h3.2.2 h2) (Nat.le_of_ble_eq_true jF) h3.1 h3.2.1 (qa _ (fun e s=>?_) h)⟩
      unfold Q5o;split
      ·trivial
      ·trivial
      ·split<;>trivial
def OT.th(l:List Nat)(t:OT):OT:=match l with
 | []=>t
 |i::r=>.cons i (OT.th r t)
def Qb5:List (Nat×FnI)->Prop
 | []=>True
 |(f,F)::r=>(f<1000000/\F.good f)/\Qb5 r
def Qj9(l:List (Nat×FnI))(f:Nat):Option FnI:=match l with
 | []=>none
 |(g,F)::r=>match Nat.beq f g with
  |true=>some F
  |false=>Qj9 r f
theorem Q5g:∀{l:List (Nat×FnI)},Qb5 l->∀f F,Qj9 l f=some F->f<1000000/\F.good f
 | [],_,_,_,h=>by cases h
 |(g,G)::r,hg,f,F,h=>by
  unfold Qj9 at h;split at h
  ·rename_i he
   obtain rfl:G=F:=by simpa using h
   rw[eq_of_beq_eq_true he];exact hg.1
  ·exact Q5g hg.2 f F h
def Q61:Nat->List Srt->Bool:=fun _ _=>false
