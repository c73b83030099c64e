/- Lemmas, conditions told -/
import Derived.Test.YtlaegncokadkkaaGreatG19
set_option maxRecDepth 99999
set_option maxHeartbeats 0
set_option linter.unusedSimpArgs false
set_option linter.unusedVariables false
namespace Go.Proofs.YtlaegncokadkkaaGreat
open Nat(le_of_ble_eq_true)
open Go.RowKit Go.Lib
section
open Tryz
noncomputable def Ie_new:List (Nat×FnI):=[
 (8,⟨f8,f8.body.getD .skip,fun _=>.nil⟩),
 (28,⟨f28,f28.body.getD .skip,fun id=>match id with|3=>.of [0,2,3,1,4,5]|_=>.nil⟩),
 (9,⟨f9,f9.body.getD .skip,fun _=>.nil⟩),
 (29,⟨f29,f29.body.getD .skip,fun _=>.nil⟩),
 (47,⟨f47,f47.body.getD .skip,fun id=>match id with|13=>.of [0,1,2,3,4,5,8,6,7,9,10]|_=>.nil⟩),
 (67,⟨f67,f67.body.getD .skip,fun _=>.nil⟩),
 (81,⟨f81,f81.body.getD .skip,fun _=>.nil⟩),
 (309,⟨f309,f309.body.getD .skip,fun _=>.nil⟩),
 (48,⟨f48,f48.body.getD .skip,fun _=>.nil⟩),
 (75,⟨f75,f75.body.getD .skip,fun id=>match id with|4=>.of [0,1,2,3,4,5,6,7,8,9,12,10,11,13,14,15]|_=>.nil⟩),
 (5,⟨f5,f5.body.getD .skip,fun id=>match id with|14=>.of [0,1,2,3,4,5,6,7,8,9,10,11,15,16,12,13,14,17,18]|15=>.of [0,1,2,4,5,6,7,11,3,8,9,10,12,13]|_=>.nil⟩),
 (13,⟨f13,f13.body.getD .skip,fun id=>match id with|1=>.th [0,1,2,3,4,5,6,7,9,10,11,12,13,14,15,16,17] (.fork (.of [8,18,19,20,21]) (.of [18,8,19,20,21]))|_=>.nil⟩),
 (33,⟨f33,f33.body.getD .skip,fun id=>match id with|2=>.of [0,1,2,3,4,5,6,7,8,9,10,11,12,13,14,15,16,17,18,19,20,21,22,23,24,25,27,28,29,31,32,33,26,30,34,35]|4=>.of [0,2,3,4,1,5,6]|_=>.nil⟩),
 (52,⟨f52,f52.body.getD .skip,fun _=>.nil⟩),
 (14,⟨f14,f14.body.getD .skip,fun _=>.nil⟩),
 (34,⟨f34,f34.body.getD .skip,fun _=>.nil⟩),
 (35,⟨f35,f35.body.getD .skip,fun _=>.nil⟩),
 (15,⟨f15,f15.body.getD .skip,fun _=>.nil⟩),
 (16,⟨f16,f16.body.getD .skip,fun _=>.nil⟩),
 (18,⟨f18,f18.body.getD .skip,fun _=>.nil⟩),
 (76,⟨f76,f76.body.getD .skip,fun _=>.nil⟩),
 (120,⟨f120,f120.body.getD .skip,fun id=>match id with|3=>.of [0,1,2,3,4,5,6,7,8,9,10,11,13,14,12,15,16,17]|_=>.nil⟩),
 (165,⟨f165,f165.body.getD .skip,fun _=>.nil⟩),
 (209,⟨f209,f209.body.getD .skip,fun _=>.nil⟩),
 (246,⟨f246,f246.body.getD .skip,fun _=>.nil⟩),
 (247,⟨f247,f247.body.getD .skip,fun _=>.nil⟩),
 (245,⟨f245,f245.body.getD .skip,fun _=>.nil⟩),
 (278,⟨f278,f278.body.getD .skip,fun _=>.nil⟩),
 (248,⟨f248,f248.body.getD .skip,fun _=>.nil⟩),
 (249,⟨f249,f249.body.getD .skip,fun _=>.nil⟩),
 (210,⟨f210,f210.body.getD .skip,fun id=>match id with|2=>.th [0,1] (.fork (.th [2] (.fork (.of [3,4,5,6]) (.of [4,3,5,6]))) (.of [4,2,3,5,6]))|_=>.nil⟩),
 (250,⟨f250,f250.body.getD .skip,fun _=>.nil⟩),
 (252,⟨f252,f252.body.getD .skip,fun id=>match id with|5=>.of [0,1,2,3,4,5,6,7,8,11,9,10]|_=>.nil⟩),
 (279,⟨f279,f279.body.getD .skip,fun id=>match id with|7=>.of [0,1,2,3,7,4,5,6]|17=>.th [0,1,2,3,4,5,6,7,8,9,10,11,12,13,14,15,16,17,18,19,20,26,27,28,29] (.fork (.th [21,22,23] (.fork (.th [24,25] (.fork (.th [30,31,32] (.fork (.of [33,34,35,36,37,38]) (.of [36,33,34,35,37,38]))) (.of [36,30,31,32,33,34,35,37,38]))) (.fork (.th [30,31,32] (.fork (.th [24,25] (.fork (.of [33,34,35,36,37,38]) (.of [36,33,34,35,37,38]))) (.fork (.th [33,34] (.fork (.of [24,25,35,36,37,38]) (.of [36,24,25,35,37,38]))) (.of [36,24,25,33,34,35,37,38])))) (.of [36,24,25,30,31,32,33,34,35,37,38])))) (.fork (.th [30,31,32] (.fork (.th [21,22,23] (.fork (.th [24,25] (.fork (.of [33,34,35,36,37,38]) (.of [36,33,34,35,37,38]))) (.fork (.th [33,34] (.fork (.of [24,25,35,36,37,38]) (.of [36,24,25,35,37,38]))) (.of [36,24,25,33,34,35,37,38])))) (.fork (.th [33,34] (.fork (.th [21,22,23] (.fork (.of [24,25,35,36,37,38]) (.of [36,24,25,35,37,38]))) (.of [36,21,22,23,24,25,35,37,38]))) (.of [36,21,22,23,24,25,33,34,35,37,38])))) (.of [36,21,22,23,24,25,30,31,32,33,34,35,37,38])))|_=>.nil⟩),
 (306,⟨f306,f306.body.getD .skip,fun _=>.nil⟩),
 (308,⟨f308,f308.body.getD .skip,fun _=>.nil⟩),
 (251,⟨f251,f251.body.getD .skip,fun _=>.nil⟩),
 (166,⟨f166,f166.body.getD .skip,fun _=>.nil⟩),
 (74,⟨f74,f74.body.getD .skip,fun _=>.nil⟩),
 (119,⟨f119,f119.body.getD .skip,fun _=>.nil⟩),
 (211,⟨f211,f211.body.getD .skip,fun id=>match id with|0=>.of [0,1,2,3,4,6,7,8,9,10,5,11,12,13]|_=>.nil⟩),
 (168,⟨f168,f168.body.getD .skip,fun _=>.nil⟩),
 (260,⟨f260,f260.body.getD .skip,fun _=>.nil⟩),
 (261,⟨f261,f261.body.getD .skip,fun _=>.nil⟩),
 (262,⟨f262,f262.body.getD .skip,fun _=>.nil⟩),
 (285,⟨f285,f285.body.getD .skip,fun _=>.nil⟩),
 (313,⟨f313,f313.body.getD .skip,fun _=>.nil⟩),
 (333,⟨f333,f333.body.getD .skip,fun _=>.nil⟩),
 (286,⟨f286,f286.body.getD .skip,fun _=>.nil⟩),
 (230,⟨f230,f230.body.getD .skip,fun _=>.nil⟩),
 (263,⟨f263,f263.body.getD .skip,fun _=>.nil⟩),
 (287,⟨f287,f287.body.getD .skip,fun _=>.nil⟩),
 (192,⟨f192,f192.body.getD .skip,fun _=>.nil⟩)]
theorem Qha:Qb5 Ie_new:=by
 unfold Ie_new;refine⟨⟨le_of_ble_eq_true rfl,func8,rfl,by kernel_rfl⟩,?_⟩
 refine⟨⟨le_of_ble_eq_true rfl,func28,rfl,by kernel_rfl⟩,?_⟩
 refine⟨⟨le_of_ble_eq_true rfl,func9,rfl,by kernel_rfl⟩,?_⟩
 refine⟨⟨le_of_ble_eq_true rfl,func29,rfl,by kernel_rfl⟩,?_⟩
 refine⟨⟨le_of_ble_eq_true rfl,func47,rfl,by kernel_rfl⟩,?_⟩
 refine⟨⟨le_of_ble_eq_true rfl,func67,rfl,by kernel_rfl⟩,?_⟩
 refine⟨⟨le_of_ble_eq_true rfl,func81,rfl,by kernel_rfl⟩,?_⟩
 refine⟨⟨le_of_ble_eq_true rfl,func309,rfl,by kernel_rfl⟩,?_⟩
 refine⟨⟨le_of_ble_eq_true rfl,func48,rfl,by kernel_rfl⟩,?_⟩
 refine⟨⟨le_of_ble_eq_true rfl,func75,rfl,by kernel_rfl⟩,?_⟩
 refine⟨⟨le_of_ble_eq_true rfl,func5,rfl,by kernel_rfl⟩,?_⟩
 refine⟨⟨le_of_ble_eq_true rfl,func13,rfl,by kernel_rfl⟩,?_⟩
 refine⟨⟨le_of_ble_eq_true rfl,func33,rfl,by kernel_rfl⟩,?_⟩
 refine⟨⟨le_of_ble_eq_true rfl,func52,rfl,by kernel_rfl⟩,?_⟩
 refine⟨⟨le_of_ble_eq_true rfl,func14,rfl,by kernel_rfl⟩,?_⟩
 refine⟨⟨le_of_ble_eq_true rfl,func34,rfl,by kernel_rfl⟩,?_⟩
 refine⟨⟨le_of_ble_eq_true rfl,func35,rfl,by kernel_rfl⟩,?_⟩
 refine⟨⟨le_of_ble_eq_true rfl,func15,rfl,by kernel_rfl⟩,?_⟩
 refine⟨⟨le_of_ble_eq_true rfl,func16,rfl,by kernel_rfl⟩,?_⟩
 refine⟨⟨le_of_ble_eq_true rfl,func18,rfl,by kernel_rfl⟩,?_⟩
 refine⟨⟨le_of_ble_eq_true rfl,func76,rfl,by kernel_rfl⟩,?_⟩
 refine⟨⟨le_of_ble_eq_true rfl,func120,rfl,by kernel_rfl⟩,?_⟩
 refine⟨⟨le_of_ble_eq_true rfl,func165,rfl,by kernel_rfl⟩,?_⟩
 refine⟨⟨le_of_ble_eq_true rfl,func209,rfl,by kernel_rfl⟩,?_⟩
 refine⟨⟨le_of_ble_eq_true rfl,func246,rfl,by kernel_rfl⟩,?_⟩
 refine⟨⟨le_of_ble_eq_true rfl,func247,rfl,by kernel_rfl⟩,?_⟩
 refine⟨⟨le_of_ble_eq_true rfl,func245,rfl,by kernel_rfl⟩,?_⟩
 refine⟨⟨le_of_ble_eq_true rfl,func278,rfl,by kernel_rfl⟩,?_⟩
 refine⟨⟨le_of_ble_eq_true rfl,func248,rfl,by kernel_rfl⟩,?_⟩
 refine⟨⟨le_of_ble_eq_true rfl,func249,rfl,by kernel_rfl⟩,?_⟩
 refine⟨⟨le_of_ble_eq_true rfl,func210,rfl,by kernel_rfl⟩,?_⟩
 refine⟨⟨le_of_ble_eq_true rfl,func250,rfl,by kernel_rfl⟩,?_⟩
 refine⟨⟨le_of_ble_eq_true rfl,func252,rfl,by kernel_rfl⟩,?_⟩
 refine⟨⟨le_of_ble_eq_true rfl,func279,rfl,by kernel_rfl⟩,?_⟩
 refine⟨⟨le_of_ble_eq_true rfl,func306,rfl,by kernel_rfl⟩,?_⟩
 refine⟨⟨le_of_ble_eq_true rfl,func308,rfl,by kernel_rfl⟩,?_⟩
 refine⟨⟨le_of_ble_eq_true rfl,func251,rfl,by kernel_rfl⟩,?_⟩
 refine⟨⟨le_of_ble_eq_true rfl,func166,rfl,by kernel_rfl⟩,?_⟩
 refine⟨⟨le_of_ble_eq_true rfl,func74,rfl,by kernel_rfl⟩,?_⟩
 refine⟨⟨le_of_ble_eq_true rfl,func119,rfl,by kernel_rfl⟩,?_⟩
 refine⟨⟨le_of_ble_eq_true rfl,func211,rfl,by kernel_rfl⟩,?_⟩
 refine⟨⟨le_of_ble_eq_true rfl,func168,rfl,by kernel_rfl⟩,?_⟩
 refine⟨⟨le_of_ble_eq_true rfl,func260,rfl,by kernel_rfl⟩,?_⟩
 refine⟨⟨le_of_ble_eq_true rfl,func261,rfl,by kernel_rfl⟩,?_⟩
 refine⟨⟨le_of_ble_eq_true rfl,func262,rfl,by kernel_rfl⟩,?_⟩
 refine⟨⟨le_of_ble_eq_true rfl,func285,rfl,by kernel_rfl⟩,?_⟩
 refine⟨⟨le_of_ble_eq_true rfl,func313,rfl,by kernel_rfl⟩,?_⟩
 refine⟨⟨le_of_ble_eq_true rfl,func333,rfl,by kernel_rfl⟩,?_⟩
 refine⟨⟨le_of_ble_eq_true rfl,func286,rfl,by kernel_rfl⟩,?_⟩
 refine⟨⟨le_of_ble_eq_true rfl,func230,rfl,by kernel_rfl⟩,?_⟩
 refine⟨⟨le_of_ble_eq_true rfl,func263,rfl,by kernel_rfl⟩,?_⟩
 refine⟨⟨le_of_ble_eq_true rfl,func287,rfl,by kernel_rfl⟩,?_⟩
 refine⟨⟨le_of_ble_eq_true rfl,func192,rfl,by kernel_rfl⟩,?_⟩
 exact trivial
noncomputable def Ie_tab (f:Nat):Option FnI:=match Qj9 Fg_tab f with
 |some F=>some F
 |none=>Qj9 Ie_new f
theorem Q2c(f:Nat)(F:FnI)(h:Ie_tab f=some F):f<1000000/\F.good f:=by
 unfold Ie_tab at h;split at h
 ·rename_i G hG
  cases h;exact Q5g QhK f _ hG
 ·exact Q5g Qha f F h
def ie0:AV:=.agg [.val (.string ⟨#[]⟩),.val (.string ⟨#[]⟩)]
def ie1:AV:=.slc 1 [.val (.int .u8 60),.val (.int .u8 97),.val (.int .u8 62)]
def ie2:AV:=.slc 1 [.val (.int .i64 0),.val (.int .i64 1),.val (.int .i64 2)]
def ie3:AV:=.slc 1 [.val (.int .i32 60),.val (.int .i32 97),.val (.int .i32 62)]
def ie4:AV:=.slc 1 [.val (.int .u8 60),.val (.int .u8 47),.val (.int .u8 97),.val (.int .u8 62)]
def ie5:AV:=.agg [.val (.string ⟨#[]⟩),.val (.string ⟨#[120]⟩),.val (.string ⟨#[]⟩),.val (.string ⟨#[49]⟩),.val (.bool true)]
def ie6:AV:=.agg [.val (.int .i64 20),.val (.int .i64 17),.val (.int .i64 5),.val (.bool false),.slc 1 [],.slc 1 [.val (.int .i64 3)]]
def ie7:AV:=.agg [.val (.int .i64 8),.val (.int .i64 3),.val (.int .i64 1),.val (.bool true),ie1,.slc 1 []]
def ie8:AV:=.agg [.val (.int .i64 21),.val (.int .i64 17),.val (.int .i64 4),.val (.bool false),.slc 1 [],ie2]
def ie9:AV:=.agg [.val (.int .i64 10),.val (.int .i64 4),.val (.int .i64 1),.val (.bool true),ie4,.slc 1 []]
def QoA:AV:=.slc 1 [.val (.int .u8 60),.val (.int .u8 98),.val (.int .u8 32),.val (.int .u8 120),.val (.int .u8 61),.val (.int .u8 34),.val (.int .u8 49),.val (.int .u8 34),.val (.int .u8 47),.val (.int .u8 62)]
def Qod:AV:=.slc 1 [.val (.int .i32 60),.val (.int .i32 98),.val (.int .i32 32),.val (.int .i32 120),.val (.int .i32 61),.val (.int .i32 34),.val (.int .i32 49),.val (.int .i32 34),.val (.int .i32 47),.val (.int .i32 62)]
def QaA:AV:=.agg [.val (.string ⟨#[120,109,108]⟩),.val (.string ⟨#[104,116,116,112,58,47,47,119,119,119,46,119,51,46,111,114,103,47,88,77,76,47,49,57,57,56,47,110,97,109,101,115,112,97,99,101]⟩)]
def QoB:AV:=.agg [.val (.int .i64 2),.val (.string ⟨#[]⟩),.val (.string ⟨#[98]⟩),.val (.string ⟨#[]⟩),.slc 2 [],.slc 5 [ie5],.val (.string ⟨#[]⟩),.val (.string ⟨#[]⟩),.slc 9 []]
def Qou:AV:=.agg [.val (.int .i64 9),.val (.int .i64 10),.val (.int .i64 1),.val (.bool true),QoA,.slc 1 []]
def Qn9:AV:=.agg [.val (.int .i64 2),.val (.string ⟨#[]⟩),.val (.string ⟨#[98]⟩),.val (.string ⟨#[]⟩),.val (.slice none 0 0),.slc 5 [ie5],.val (.string ⟨#[]⟩),.val (.string ⟨#[]⟩),.val (.slice none 0 0)]
def Q6y:AV:=.slc 1 [.val (.int .u8 60),.val (.int .u8 97),.val (.int .u8 62),.val (.int .u8 60),.val (.int .u8 98),.val (.int .u8 32),.val (.int .u8 120),.val (.int .u8 61),.val (.int .u8 34),.val (.int .u8 49),.val (.int .u8 34),.val (.int .u8 47),.val (.int .u8 62),.val (.int .u8 60),.val (.int .u8 47),.val (.int .u8 97),.val (.int .u8 62)]
def Q4u:AV:=.slc 1 [.val (.int .i32 60),.val (.int .i32 97),.val (.int .i32 62),.val (.int .i32 60),.val (.int .i32 98),.val (.int .i32 32),.val (.int .i32 120),.val (.int .i32 61),.val (.int .i32 34),.val (.int .i32 49),.val (.int .i32 34),.val (.int .i32 47),.val (.int .i32 62),.val (.int .i32 60),.val (.int .i32 47),.val (.int .i32 97),.val (.int .i32 62)]
def Q4o:AV:=.slc 1 [.val (.int .i64 0),.val (.int .i64 1),.val (.int .i64 2),.val (.int .i64 3),.val (.int .i64 4),.val (.int .i64 5),.val (.int .i64 6),.val (.int .i64 7),.val (.int .i64 8),.val (.int .i64 9),.val (.int .i64 10),.val (.int .i64 11),.val (.int .i64 12),.val (.int .i64 13),.val (.int .i64 14),.val (.int .i64 15),.val (.int .i64 16),.val (.int .i64 17)]
def QmE:AV:=.agg [.val (.int .i64 2),.val (.string ⟨#[]⟩),.val (.string ⟨#[97]⟩),.val (.string ⟨#[]⟩),.val (.slice none 0 0),.val (.slice none 0 0),.val (.string ⟨#[]⟩),.val (.string ⟨#[]⟩),.slc 9 [QoB]]
def Q4s:AV:=.slc 6 [ie7,Qou,ie9,ie8,ie6]
def Qmy:AV:=.agg [.val (.int .i64 0),.val (.int .i64 0),Q4u,Q4o,.ref [Q4s],.val (.int .i64 4),.slc 3 [],.val (.int .i64 0),.val (.bool false)]
def Qla:AV:=.agg [.val (.int .i64 0),.val (.int .i64 0),Q4u,Q4o,.ref [Q4s],.val (.int .i64 4),.slc 3 [],.val (.int .i64 3),.val (.bool false)]
def Qcd:List UInt8:=[60,97,62,60,98,32,120,61,34,49,34,47,62,60,47,97,62]
def Q63:List AV:=[.box 0 0,Qmy,ie3,.val (.string ⟨#[97]⟩)]
def Q5R:List Ob:=[.box [Q6y,.val (.int .i64 0),.val (.int .i64 0),Q4u,Q4o,.ref [Q4s],.val (.int .i64 4),.slc 3 [],.val (.int .i64 0),.val (.pointer none),.box 1 0,.val (.bool false),.val (.bool false),.val (.bool true),.val (.int .i64 1),.val (.string ⟨#[]⟩),.val (.string ⟨#[]⟩),.val (.string ⟨#[]⟩),.val (.slice none 0 0),.val (.slice none 0 0),.val (.string ⟨#[]⟩),.val (.string ⟨#[]⟩),.val (.slice none 0 0)],.box [.val (.pointer none),.val (.slice none 0 0),.val (.int .i64 0),.val (.int .i64 0)]]
def Q62:AV:=.val (.slice none 0 0)
def Q5X:List Ob:=[.box [Q6y,.val (.int .i64 0),.val (.int .i64 0),Q4u,Q4o,.ref [Q4s],.val (.int .i64 4),.slc 3 [],.val (.int .i64 0),.val (.pointer none),.box 1 0,.val (.bool false),.val (.bool false),.val (.bool true),.val (.int .i64 1),.val (.string ⟨#[]⟩),.val (.string ⟨#[]⟩),.val (.string ⟨#[]⟩),.val (.slice none 0 0),.val (.slice none 0 0),.val (.string ⟨#[]⟩),.val (.string ⟨#[]⟩),.val (.slice none 0 0)],.box [.val (.pointer none),.val (.slice none 0 0),.val (.int .i64 0),.val (.int .i64 0)]]
theorem Qeu:BCall prog 229 Q63 Q5R Q62 Q5X:=(Q2k (lf:=100) Q2c (Q2N (L:=[]) trivial) (ask:=Q61) Q1K 60 _ _ _ _ _ (by kernel_rfl)).2
def Q6P:List AV:=[.box 0 0,Qmy,ie3,.val (.string ⟨#[97]⟩),.box 2 0]
def Q6L:List Ob:=[.box [Q6y,.val (.int .i64 0),.val (.int .i64 0),Q4u,Q4o,.ref [Q4s],.val (.int .i64 4),.slc 3 [],.val (.int .i64 0),.val (.pointer none),.box 1 0,.val (.bool false),.val (.bool false),.val (.bool true),.val (.int .i64 1),.val (.string ⟨#[]⟩),.val (.string ⟨#[]⟩),.val (.string ⟨#[]⟩),.val (.slice none 0 0),.val (.slice none 0 0),.val (.string ⟨#[]⟩),.val (.string ⟨#[]⟩),.val (.slice none 0 0)],.box [.val (.pointer none),.val (.slice none 0 0),.val (.int .i64 0),.val (.int .i64 0)],.box [.val (.pointer none),.row 3 0],.row 307 2 false 0 [ie0,QaA]]
def Q6Y:AV:=.tup [.agg [.val (.int .i64 2),.val (.string ⟨#[]⟩),.val (.string ⟨#[97]⟩),.val (.string ⟨#[]⟩),.val (.slice none 0 0),.val (.slice none 0 0),.val (.string ⟨#[]⟩),.val (.string ⟨#[]⟩),.val (.slice none 0 0)],.box 4 0]
def Q6M:List Ob:=[.box [Q6y,.val (.int .i64 0),.val (.int .i64 0),Q4u,Q4o,.ref [Q4s],.val (.int .i64 4),.slc 3 [],.val (.int .i64 0),.val (.pointer none),.box 1 0,.val (.bool false),.val (.bool false),.val (.bool true),.val (.int .i64 1),.val (.string ⟨#[]⟩),.val (.string ⟨#[]⟩),.val (.string ⟨#[]⟩),.val (.slice none 0 0),.val (.slice none 0 0),.val (.string ⟨#[]⟩),.val (.string ⟨#[]⟩),.val (.slice none 0 0)],.box [.val (.pointer none),.val (.slice none 0 0),.val (.int .i64 0),.val (.int .i64 0)],.box [.val (.pointer none),.row 3 0],.row 307 2 false 0 [ie0,QaA],.box [.box 2 0,.val (.slice none 0 0)]]
def QfW:List BE:=[⟨229,Q63,Q5R,Q62,Q5X⟩]
theorem QiJ:Q4R QfW:=by
 unfold QfW;exact⟨⟨rfl,Qeu⟩,trivial⟩
theorem Qh3:BCall prog 188 Q6P Q6L Q6Y Q6M:=(Q2k (lf:=100) Q2c (Q2N QiJ) (ask:=Q61) Q1K 60 _ _ _ _ _ (by kernel_rfl)).2
def Q8t:List AV:=[.box 0 0,Qla,Qod,.val (.string ⟨#[98]⟩)]
def Q7T:List Ob:=[.box [Q6y,.val (.int .i64 0),.val (.int .i64 0),Q4u,Q4o,.ref [Q4s],.val (.int .i64 4),.slc 3 [],.val (.int .i64 0),.val (.pointer none),.box 1 0,.val (.bool false),.val (.bool false),.val (.bool true),.val (.int .i64 1),.val (.string ⟨#[]⟩),.val (.string ⟨#[]⟩),.val (.string ⟨#[]⟩),.val (.slice none 0 0),.val (.slice none 0 0),.val (.string ⟨#[]⟩),.val (.string ⟨#[]⟩),.val (.slice none 0 0)],.box [.val (.pointer none),.val (.slice none 0 0),.val (.int .i64 0),.val (.int .i64 0)]]
def Q7X:AV:=.slc 3 [.agg [.val (.string ⟨#[120]⟩),.slc 1 [.val (.int .i32 49)],.val (.bool true)]]
def Q7U:List Ob:=[.box [Q6y,.val (.int .i64 0),.val (.int .i64 0),Q4u,Q4o,.ref [Q4s],.val (.int .i64 4),.slc 3 [],.val (.int .i64 0),.val (.pointer none),.box 1 0,.val (.bool false),.val (.bool false),.val (.bool true),.val (.int .i64 1),.val (.string ⟨#[]⟩),.val (.string ⟨#[]⟩),.val (.string ⟨#[]⟩),.val (.slice none 0 0),.val (.slice none 0 0),.val (.string ⟨#[]⟩),.val (.string ⟨#[]⟩),.val (.slice none 0 0)],.box [.val (.pointer none),.val (.slice none 0 0),.val (.int .i64 0),.val (.int .i64 0)]]
def Qgg:List BE:=[⟨229,Q63,Q5R,Q62,Q5X⟩,⟨188,Q6P,Q6L,Q6Y,Q6M⟩]
theorem QiE:Q4R Qgg:=by
 unfold Qgg;exact⟨⟨rfl,Qeu⟩,⟨rfl,Qh3⟩,trivial⟩
theorem Qk7:BCall prog 229 Q8t Q7T Q7X Q7U:=(Q2k (lf:=100) Q2c (Q2N QiE) (ask:=Q61) Q1K 60 _ _ _ _ _ (by kernel_rfl)).2
def Q9B:List AV:=[.box 0 0,Qla,Qod,.val (.string ⟨#[98]⟩),.box 2 0]
def Q9e:List Ob:=[.box [Q6y,.val (.int .i64 0),.val (.int .i64 0),Q4u,Q4o,.ref [Q4s],.val (.int .i64 4),.slc 3 [],.val (.int .i64 0),.val (.pointer none),.box 1 0,.val (.bool false),.val (.bool false),.val (.bool true),.val (.int .i64 1),.val (.string ⟨#[]⟩),.val (.string ⟨#[]⟩),.val (.string ⟨#[]⟩),.val (.slice none 0 0),.val (.slice none 0 0),.val (.string ⟨#[]⟩),.val (.string ⟨#[]⟩),.val (.slice none 0 0)],.box [.val (.pointer none),.val (.slice none 0 0),.val (.int .i64 0),.val (.int .i64 0)],.box [.box 3 0,.val (.slice none 0 0)],.box [.val (.pointer none),.row 4 0],.row 307 2 false 0 [ie0,QaA]]
def Qa3:AV:=.tup [Qn9,.box 5 0]
def Q9f:List Ob:=[.box [Q6y,.val (.int .i64 0),.val (.int .i64 0),Q4u,Q4o,.ref [Q4s],.val (.int .i64 4),.slc 3 [],.val (.int .i64 0),.val (.pointer none),.box 1 0,.val (.bool false),.val (.bool false),.val (.bool true),.val (.int .i64 1),.val (.string ⟨#[]⟩),.val (.string ⟨#[]⟩),.val (.string ⟨#[]⟩),.val (.slice none 0 0),.val (.slice none 0 0),.val (.string ⟨#[]⟩),.val (.string ⟨#[]⟩),.val (.slice none 0 0)],.box [.val (.pointer none),.val (.slice none 0 0),.val (.int .i64 0),.val (.int .i64 0)],.box [.box 3 0,.val (.slice none 0 0)],.box [.val (.pointer none),.row 4 0],.row 307 2 false 0 [ie0,QaA],.box [.box 2 0,.val (.slice none 0 0)]]
def QfI:List BE:=[⟨229,Q63,Q5R,Q62,Q5X⟩,⟨188,Q6P,Q6L,Q6Y,Q6M⟩,⟨229,Q8t,Q7T,Q7X,Q7U⟩]
theorem Qi1:Q4R QfI:=by
 unfold QfI;exact⟨⟨rfl,Qeu⟩,⟨rfl,Qh3⟩,⟨rfl,Qk7⟩,trivial⟩
theorem QlY:BCall prog 188 Q9B Q9e Qa3 Q9f:=(Q2k (lf:=100) Q2c (Q2N Qi1) (ask:=Q61) Q1K 60 _ _ _ _ _ (by kernel_rfl)).2
def Qc2:List AV:=[.box 0 0,Qla,.val (.int .i64 1),.box 2 0]
def QbP:List Ob:=[.box [Q6y,.val (.int .i64 0),.val (.int .i64 0),Q4u,Q4o,.ref [Q4s],.val (.int .i64 4),.slc 3 [],.val (.int .i64 0),.val (.pointer none),.box 1 0,.val (.bool false),.val (.bool false),.val (.bool true),.val (.int .i64 1),.val (.string ⟨#[]⟩),.val (.string ⟨#[]⟩),.val (.string ⟨#[]⟩),.val (.slice none 0 0),.val (.slice none 0 0),.val (.string ⟨#[]⟩),.val (.string ⟨#[]⟩),.val (.slice none 0 0)],.box [.val (.pointer none),.val (.slice none 0 0),.val (.int .i64 0),.val (.int .i64 0)],.box [.box 3 0,.val (.slice none 0 0)],.box [.val (.pointer none),.row 4 0],.row 307 2 false 0 [ie0,QaA]]
def QbF:AV:=Qn9
def Qc1:List Ob:=[.box [Q6y,.val (.int .i64 0),.val (.int .i64 0),Q4u,Q4o,.ref [Q4s],.val (.int .i64 4),.slc 3 [],.val (.int .i64 0),.val (.pointer none),.box 1 0,.val (.bool false),.val (.bool false),.val (.bool true),.val (.int .i64 1),.val (.string ⟨#[]⟩),.val (.string ⟨#[]⟩),.val (.string ⟨#[]⟩),.val (.slice none 0 0),.val (.slice none 0 0),.val (.string ⟨#[]⟩),.val (.string ⟨#[]⟩),.val (.slice none 0 0)],.box [.val (.pointer none),.val (.slice none 0 0),.val (.int .i64 0),.val (.int .i64 0)],.box [.box 3 0,.val (.slice none 0 0)],.box [.val (.pointer none),.row 4 0],.row 307 2 false 0 [ie0,QaA]]
def Qg2:List BE:=[⟨229,Q63,Q5R,Q62,Q5X⟩,⟨188,Q6P,Q6L,Q6Y,Q6M⟩,⟨229,Q8t,Q7T,Q7X,Q7U⟩,⟨188,Q9B,Q9e,Qa3,Q9f⟩]
theorem Qjw:Q4R Qg2:=by
 unfold Qg2;exact⟨⟨rfl,Qeu⟩,⟨rfl,Qh3⟩,⟨rfl,Qk7⟩,⟨rfl,QlY⟩,trivial⟩
theorem Qn6:BCall prog 140 Qc2 QbP QbF Qc1:=(Q2k (lf:=100) Q2c (Q2N Qjw) (ask:=Q61) Q1K 60 _ _ _ _ _ (by kernel_rfl)).2
def Qfp:List AV:=[.box 0 0,Qla,.slc 1 [.val (.int .i64 1)],.box 2 0]
def QeH:List Ob:=[.box [Q6y,.val (.int .i64 0),.val (.int .i64 0),Q4u,Q4o,.ref [Q4s],.val (.int .i64 4),.slc 3 [],.val (.int .i64 0),.val (.pointer none),.box 1 0,.val (.bool false),.val (.bool false),.val (.bool true),.val (.int .i64 1),.val (.string ⟨#[]⟩),.val (.string ⟨#[]⟩),.val (.string ⟨#[]⟩),.val (.slice none 0 0),.val (.slice none 0 0),.val (.string ⟨#[]⟩),.val (.string ⟨#[]⟩),.val (.slice none 0 0)],.box [.val (.pointer none),.val (.slice none 0 0),.val (.int .i64 0),.val (.int .i64 0)],.box [.box 3 0,.val (.slice none 0 0)],.box [.val (.pointer none),.row 4 0],.row 307 2 false 0 [ie0,QaA]]
def QeU:AV:=.slc 9 [Qn9]
def QeF:List Ob:=[.box [Q6y,.val (.int .i64 0),.val (.int .i64 0),Q4u,Q4o,.ref [Q4s],.val (.int .i64 4),.slc 3 [],.val (.int .i64 0),.val (.pointer none),.box 1 0,.val (.bool false),.val (.bool false),.val (.bool true),.val (.int .i64 1),.val (.string ⟨#[]⟩),.val (.string ⟨#[]⟩),.val (.string ⟨#[]⟩),.val (.slice none 0 0),.val (.slice none 0 0),.val (.string ⟨#[]⟩),.val (.string ⟨#[]⟩),.val (.slice none 0 0)],.box [.val (.pointer none),.val (.slice none 0 0),.val (.int .i64 0),.val (.int .i64 0)],.box [.box 3 0,.val (.slice none 0 0)],.box [.val (.pointer none),.row 4 0],.row 307 2 false 0 [ie0,QaA]]
def Qg4:List BE:=[⟨229,Q63,Q5R,Q62,Q5X⟩,⟨188,Q6P,Q6L,Q6Y,Q6M⟩,⟨229,Q8t,Q7T,Q7X,Q7U⟩,⟨188,Q9B,Q9e,Qa3,Q9f⟩,⟨140,Qc2,QbP,QbF,Qc1⟩]
theorem QiM:Q4R Qg4:=by
 unfold Qg4;exact⟨⟨rfl,Qeu⟩,⟨rfl,Qh3⟩,⟨rfl,Qk7⟩,⟨rfl,QlY⟩,⟨rfl,Qn6⟩,trivial⟩
theorem QnQ:BCall prog 190 Qfp QeH QeU QeF:=(Q2k (lf:=100) Q2c (Q2N QiM) (ask:=Q61) Q1K 60 _ _ _ _ _ (by kernel_rfl)).2
def QhT:List AV:=[.box 0 0,Qmy,.val (.int .i64 3),.box 2 0]
def Qip:List Ob:=[.box [Q6y,.val (.int .i64 0),.val (.int .i64 0),Q4u,Q4o,.ref [Q4s],.val (.int .i64 4),.slc 3 [],.val (.int .i64 0),.val (.pointer none),.box 1 0,.val (.bool false),.val (.bool false),.val (.bool true),.val (.int .i64 1),.val (.string ⟨#[]⟩),.val (.string ⟨#[]⟩),.val (.string ⟨#[]⟩),.val (.slice none 0 0),.val (.slice none 0 0),.val (.string ⟨#[]⟩),.val (.string ⟨#[]⟩),.val (.slice none 0 0)],.box [.val (.pointer none),.val (.slice none 0 0),.val (.int .i64 0),.val (.int .i64 0)],.box [.val (.pointer none),.row 3 0],.row 307 2 false 0 [ie0,QaA]]
def Qil:AV:=QmE
def Qk6:List Ob:=[.box [Q6y,.val (.int .i64 0),.val (.int .i64 0),Q4u,Q4o,.ref [Q4s],.val (.int .i64 4),.slc 3 [],.val (.int .i64 0),.val (.pointer none),.box 1 0,.val (.bool false),.val (.bool false),.val (.bool true),.val (.int .i64 1),.val (.string ⟨#[]⟩),.val (.string ⟨#[]⟩),.val (.string ⟨#[]⟩),.val (.slice none 0 0),.val (.slice none 0 0),.val (.string ⟨#[]⟩),.val (.string ⟨#[]⟩),.val (.slice none 0 0)],.box [.val (.pointer none),.val (.slice none 0 0),.val (.int .i64 0),.val (.int .i64 0)],.box [.val (.pointer none),.row 3 0],.row 307 2 false 0 [ie0,QaA]]
def QfK:List BE:=[⟨229,Q63,Q5R,Q62,Q5X⟩,⟨188,Q6P,Q6L,Q6Y,Q6M⟩,⟨229,Q8t,Q7T,Q7X,Q7U⟩,⟨188,Q9B,Q9e,Qa3,Q9f⟩,⟨140,Qc2,QbP,QbF,Qc1⟩,⟨190,Qfp,QeH,QeU,QeF⟩]
theorem Qjv:Q4R QfK:=by
 unfold QfK;exact⟨⟨rfl,Qeu⟩,⟨rfl,Qh3⟩,⟨rfl,Qk7⟩,⟨rfl,QlY⟩,⟨rfl,Qn6⟩,⟨rfl,QnQ⟩,trivial⟩
theorem Qow:BCall prog 140 QhT Qip Qil Qk6:=(Q2k (lf:=100) Q2c (Q2N Qjv) (ask:=Q61) Q1K 60 _ _ _ _ _ (by kernel_rfl)).2
def QjW:List AV:=[.box 0 0]
def QiB:List Ob:=[.box [Q6y,.val (.int .i64 0),.val (.int .i64 0),Q4u,Q4o,.ref [Q4s],.val (.int .i64 4),.slc 3 [],.val (.int .i64 0),.val (.pointer none),.box 1 0,.val (.bool false),.val (.bool false),.val (.bool false),.val (.int .i64 1),.val (.string ⟨#[]⟩),.val (.string ⟨#[]⟩),.val (.string ⟨#[]⟩),.val (.slice none 0 0),.val (.slice none 0 0),.val (.string ⟨#[]⟩),.val (.string ⟨#[]⟩),.val (.slice none 0 0)],.box [.val (.pointer none),.val (.slice none 0 0),.val (.int .i64 0),.val (.int .i64 0)]]
def QjX:AV:=.tup []
def Qif:List Ob:=[.box [Q6y,.val (.int .i64 0),.val (.int .i64 0),Q4u,Q4o,.ref [Q4s],.val (.int .i64 4),.slc 3 [],.val (.int .i64 0),.val (.pointer none),.box 1 0,.val (.bool false),.val (.bool false),.val (.bool true),.val (.int .i64 1),.val (.string ⟨#[]⟩),.val (.string ⟨#[]⟩),.val (.string ⟨#[]⟩),.val (.slice none 0 0),.val (.slice none 0 0),.val (.string ⟨#[]⟩),.val (.string ⟨#[]⟩),.row 2 1],.box [.val (.pointer none),.val (.slice none 0 0),.val (.int .i64 0),.val (.int .i64 0)],.row 91 9 false 1 [QmE]]
def QfZ:List BE:=[⟨229,Q63,Q5R,Q62,Q5X⟩,⟨188,Q6P,Q6L,Q6Y,Q6M⟩,⟨229,Q8t,Q7T,Q7X,Q7U⟩,⟨188,Q9B,Q9e,Qa3,Q9f⟩,⟨140,Qc2,QbP,QbF,Qc1⟩,⟨190,Qfp,QeH,QeU,QeF⟩,⟨140,QhT,Qip,Qil,Qk6⟩]
theorem Qjt:Q4R QfZ:=by
 unfold QfZ;exact⟨⟨rfl,Qeu⟩,⟨rfl,Qh3⟩,⟨rfl,Qk7⟩,⟨rfl,QlY⟩,⟨rfl,Qn6⟩,⟨rfl,QnQ⟩,⟨rfl,Qow⟩,trivial⟩
theorem Qoy:BCall prog 58 QjW QiB QjX Qif:=(Q2k (lf:=100) Q2c (Q2N Qjt) (ask:=Q61) Q1K 60 _ _ _ _ _ (by kernel_rfl)).2
theorem QnO:Qms (Q2f Qcd) (Qby Qcd)=.agg [.val (.int .i64 0),.val (.int .i64 0),Q4u,Q4o,.ref [Q4s],.val (.int .i64 4),.slc 3 []]:=by cbv
theorem QdZ:BCall prog 46 [.slc 1 (Q5 Qcd)] [] (.agg [.val (.int .i64 0),.val (.int .i64 0),Q4u,Q4o,.ref [Q4s],.val (.int .i64 4),.slc 3 []]) []:=by
 rw[<-QnO];exact Qm1 Qcd (by decide)
def Qmh:List BE:=[⟨46,[.slc 1 (Q5 Qcd)],[],.agg [.val (.int .i64 0),.val (.int .i64 0),Q4u,Q4o,.ref [Q4s],.val (.int .i64 4),.slc 3 []],[]⟩,⟨58,QjW,QiB,QjX,Qif⟩]
theorem Qnn:Q4R Qmh:=by
 unfold Qmh;exact⟨⟨rfl,QdZ⟩,⟨rfl,Qoy⟩,trivial⟩
def Qos:AV:=.agg [.val (.int .i64 0),.val (.int .i64 0),.val (.int .i64 1),.val (.string ⟨#[]⟩),.val (.string ⟨#[]⟩),.val (.string ⟨#[]⟩),.val (.slice none 0 0),.val (.slice none 0 0),.val (.string ⟨#[]⟩),.val (.string ⟨#[]⟩),.slc 9 [QmE],.val (.int .i64 0),.val (.bool false)]
theorem Qjp:BCall prog 44 [.slc 1 (Q5 Qcd),.val (.int .i64 0)] [] Qos [] :=
 QgW Q2c (Q2N Qnn) (ask:=Q61) Q1K (lf:=100) 60 Qcd 0 (by kernel_rfl)
