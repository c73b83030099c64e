/- Lemmas, conditions told -/
import Derived.Test.YtibemhahkicbpaaGreatJ23
set_option maxRecDepth 99999
set_option maxHeartbeats 0
set_option linter.unusedSimpArgs false
set_option linter.unusedVariables false
namespace Go.Proofs.YtibemhahkicbpaaGreat
open Nat(le_of_ble_eq_true)
open Go.RowKit Go.Lib
section
open Tryz
noncomputable def aw22_tab:List (Nat×FnI):=[
 (20,⟨f20,f20.body.getD .skip,fun _=>.nil⟩),
 (16,⟨f16,f16.body.getD .skip,fun id=>match id with|7=>.of [0,1,2,3,7,4,5,6]|17=>.th [0,1,2,3,4,5,6,7,8,9,10,11,12,13,14,15,16,17,18,19,20,26,27,28,29] (.fork (.th [21,22,23] (.fork (.th [24,25] (.fork (.th [30,31,32] (.fork (.of [33,34,35,36,37,38]) (.of [36,33,34,35,37,38]))) (.of [36,30,31,32,33,34,35,37,38]))) (.fork (.th [30,31,32] (.fork (.th [24,25] (.fork (.of [33,34,35,36,37,38]) (.of [36,33,34,35,37,38]))) (.fork (.th [33,34] (.fork (.of [24,25,35,36,37,38]) (.of [36,24,25,35,37,38]))) (.of [36,24,25,33,34,35,37,38])))) (.of [36,24,25,30,31,32,33,34,35,37,38])))) (.fork (.th [30,31,32] (.fork (.th [21,22,23] (.fork (.th [24,25] (.fork (.of [33,34,35,36,37,38]) (.of [36,33,34,35,37,38]))) (.fork (.th [33,34] (.fork (.of [24,25,35,36,37,38]) (.of [36,24,25,35,37,38]))) (.of [36,24,25,33,34,35,37,38])))) (.fork (.th [33,34] (.fork (.th [21,22,23] (.fork (.of [24,25,35,36,37,38]) (.of [36,24,25,35,37,38]))) (.of [36,21,22,23,24,25,35,37,38]))) (.of [36,21,22,23,24,25,33,34,35,37,38])))) (.of [36,21,22,23,24,25,30,31,32,33,34,35,37,38])))|_=>.nil⟩),
 (21,⟨f21,f21.body.getD .skip,fun _=>.nil⟩),
 (55,⟨f55,f55.body.getD .skip,fun _=>.nil⟩),
 (115,⟨f115,f115.body.getD .skip,fun _=>.nil⟩),
 (117,⟨f117,f117.body.getD .skip,fun _=>.nil⟩),
 (118,⟨f118,f118.body.getD .skip,fun _=>.nil⟩),
 (23,⟨f23,f23.body.getD .skip,fun id=>match id with|1=>.th [0,2,4,5,6,7] (.fork (.th [1] (.fork (.of [3,8,9,10,11]) (.of [8,3,9,10,11]))) (.fork (.th [3] (.fork (.of [1,8,9,10,11]) (.of [8,1,9,10,11]))) (.of [8,1,3,9,10,11])))|_=>.nil⟩),
 (58,⟨f58,f58.body.getD .skip,fun _=>.nil⟩),
 (24,⟨f24,f24.body.getD .skip,fun _=>.nil⟩),
 (59,⟨f59,f59.body.getD .skip,fun _=>.nil⟩),
 (54,⟨f54,f54.body.getD .skip,fun _=>.nil⟩),
 (113,⟨f113,f113.body.getD .skip,fun _=>.nil⟩),
 (114,⟨f114,f114.body.getD .skip,fun _=>.nil⟩)]
theorem Qsz:Qt3 aw22_tab:=by
 unfold aw22_tab;refine⟨⟨le_of_ble_eq_true rfl,func20,rfl,by kernel_rfl⟩,?_⟩
 refine⟨⟨le_of_ble_eq_true rfl,func16,rfl,by kernel_rfl⟩,?_⟩
 refine⟨⟨le_of_ble_eq_true rfl,func21,rfl,by kernel_rfl⟩,?_⟩
 refine⟨⟨le_of_ble_eq_true rfl,func55,rfl,by kernel_rfl⟩,?_⟩
 refine⟨⟨le_of_ble_eq_true rfl,func115,rfl,by kernel_rfl⟩,?_⟩
 refine⟨⟨le_of_ble_eq_true rfl,func117,rfl,by kernel_rfl⟩,?_⟩
 refine⟨⟨le_of_ble_eq_true rfl,func118,rfl,by kernel_rfl⟩,?_⟩
 refine⟨⟨le_of_ble_eq_true rfl,func23,rfl,by kernel_rfl⟩,?_⟩
 refine⟨⟨le_of_ble_eq_true rfl,func58,rfl,by kernel_rfl⟩,?_⟩
 refine⟨⟨le_of_ble_eq_true rfl,func24,rfl,by kernel_rfl⟩,?_⟩
 refine⟨⟨le_of_ble_eq_true rfl,func59,rfl,by kernel_rfl⟩,?_⟩
 refine⟨⟨le_of_ble_eq_true rfl,func54,rfl,by kernel_rfl⟩,?_⟩
 refine⟨⟨le_of_ble_eq_true rfl,func113,rfl,by kernel_rfl⟩,?_⟩
 refine⟨⟨le_of_ble_eq_true rfl,func114,rfl,by kernel_rfl⟩,?_⟩
 exact trivial
def QqR:List UInt8:=[60,97,62,60,98,47,62,60,99,32,100,61,39,101,39,47,62,60,47,97,62]
def QuP:List AV:=[.agg [.val (.int .i64 8),.val (.int .i64 3),.val (.int .i64 1),.val (.bool true),.slc 1 [.val (.int .u8 60),.val (.int .u8 97),.val (.int .u8 62)],.slc 1 []],.agg [.val (.int .i64 9),.val (.int .i64 4),.val (.int .i64 1),.val (.bool true),.slc 1 [.val (.int .u8 60),.val (.int .u8 98),.val (.int .u8 47),.val (.int .u8 62)],.slc 1 []],.agg [.val (.int .i64 9),.val (.int .i64 10),.val (.int .i64 1),.val (.bool true),.slc 1 [.val (.int .u8 60),.val (.int .u8 99),.val (.int .u8 32),.val (.int .u8 100),.val (.int .u8 61),.val (.int .u8 39),.val (.int .u8 101),.val (.int .u8 39),.val (.int .u8 47),.val (.int .u8 62)],.slc 1 []],.agg [.val (.int .i64 10),.val (.int .i64 4),.val (.int .i64 1),.val (.bool true),.slc 1 [.val (.int .u8 60),.val (.int .u8 47),.val (.int .u8 97),.val (.int .u8 62)],.slc 1 []],.agg [.val (.int .i64 21),.val (.int .i64 21),.val (.int .i64 5),.val (.bool false),.slc 1 [],.slc 1 [.val (.int .i64 0),.val (.int .i64 1),.val (.int .i64 2),.val (.int .i64 3)]],.agg [.val (.int .i64 20),.val (.int .i64 21),.val (.int .i64 6),.val (.bool false),.slc 1 [],.slc 1 [.val (.int .i64 4)]]]
def QrN:AV:=.agg [.val (.int .i64 0),.val (.int .i64 0),.slc 1 [.val (.int .i32 60),.val (.int .i32 97),.val (.int .i32 62),.val (.int .i32 60),.val (.int .i32 98),.val (.int .i32 47),.val (.int .i32 62),.val (.int .i32 60),.val (.int .i32 99),.val (.int .i32 32),.val (.int .i32 100),.val (.int .i32 61),.val (.int .i32 39),.val (.int .i32 101),.val (.int .i32 39),.val (.int .i32 47),.val (.int .i32 62),.val (.int .i32 60),.val (.int .i32 47),.val (.int .i32 97),.val (.int .i32 62)],.slc 1 [.val (.int .i64 0),.val (.int .i64 1),.val (.int .i64 2),.val (.int .i64 3),.val (.int .i64 4),.val (.int .i64 5),.val (.int .i64 6),.val (.int .i64 7),.val (.int .i64 8),.val (.int .i64 9),.val (.int .i64 10),.val (.int .i64 11),.val (.int .i64 12),.val (.int .i64 13),.val (.int .i64 14),.val (.int .i64 15),.val (.int .i64 16),.val (.int .i64 17),.val (.int .i64 18),.val (.int .i64 19),.val (.int .i64 20),.val (.int .i64 21)],.ref [.slc 6 QuP],.val (.int .i64 5),.slc 3 []]
theorem QsU:Q8c (Qb QqR) (Qu QqR)=QrN:=by cbv
theorem Qul:BCall prog 13 [.slc 1 (Q2 QqR)] [] QrN []:=by
 rw[<-QsU];exact Qn7 QqR (by decide)
def Qsj:AV:=.tup [.agg [.opt (.ref [.slc 6 QuP]),.val (.int .i64 2),.val (.int .i64 7),.val (.int .i64 2),.opt (.ref [.ref [.slc 6 QuP],.val (.int .i64 4),.val (.int .i64 0),.val (.int .i64 0),.opt (.ref [.ref [.slc 6 QuP],.val (.int .i64 5),.val (.int .i64 0),.val (.int .i64 0),.opt (.val (.pointer none))])])],.val (.bool true)]
theorem Qun:BCall prog 15 [QrN,.slc 1 (Q9 [1])] [] Qsj []:=by
 have hO:=Q8f QqR (by decide)
 have h:=QsB (Qb QqR) (Qu QqR) (QL (Qu QqR)).n rfl QqR 400000 hO.ar (Qeb QqR) (by decide) (by decide) ⟨hO.root,[],[],by show QqR=[]++(pr (QL (Qu QqR)).n (Qu QqR).n.length++[]);rw[hO.p];simp,rfl⟩ [1] (by decide) (by decide)
 have e2:AV.tup [.agg (oC (Q3 (QL (Qu QqR)).n) (QqO (QL (Qu QqR)).n (QqQ (QL (Qu QqR)).n (.root (Qu QqR).n.length) 0) [1])),.val (.bool (QqO (QL (Qu QqR)).n (QqQ (QL (Qu QqR)).n (.root (Qu QqR).n.length) 0) [1]).isSome)]=Qsj:=by cbv
 rw[e2,QsU]at h;exact h
def QuQ:AV:=.slc 3 [.agg [.val (.int .i32 60),.val (.int .i64 0),.val (.int .i64 1)],.agg [.val (.int .i32 99),.val (.int .i64 1),.val (.int .i64 1)],.agg [.val (.int .i32 32),.val (.int .i64 2),.val (.int .i64 1)],.agg [.val (.int .i32 100),.val (.int .i64 3),.val (.int .i64 1)],.agg [.val (.int .i32 61),.val (.int .i64 4),.val (.int .i64 1)],.agg [.val (.int .i32 39),.val (.int .i64 5),.val (.int .i64 1)],.agg [.val (.int .i32 101),.val (.int .i64 6),.val (.int .i64 1)],.agg [.val (.int .i32 39),.val (.int .i64 7),.val (.int .i64 1)],.agg [.val (.int .i32 47),.val (.int .i64 8),.val (.int .i64 1)],.agg [.val (.int .i32 62),.val (.int .i64 9),.val (.int .i64 1)]]
theorem Quw:BCall prog 48 [.val (.int .i64 0),.slc 1 (Q2 [60,99,32,100,61,39,101,39,47,62])] [] QuQ []:=by
 have e:AV.slc 3 (QP (Q4B 0 [60,99,32,100,61,39,101,39,47,62]))=QuQ:=by cbv
 rw[<-e];exact Qez _ _ (by decide)
def QuR:AV:=.agg [.val (.int .i64 2),.val (.int .i64 1),.val (.int .i64 2),.slc 9 [.agg [.val (.int .i64 2),.val (.int .i64 3),.val (.int .i64 4),.val (.int .i64 5),.val (.int .i64 5),.val (.int .i64 8),.val (.int .i64 7),.val (.int .i64 2),.val (.int .i64 8)]],.val (.bool true),.val (.bool true)]
theorem Quq:BCall prog 49 [.slc 1 (Q0 [60,99,32,100,61,39,101,39,47,62]),.val (.int .i64 0),.val (.int .i64 10)] [] QuR []:=by
 have e:AV.agg [.val (.int .i64 (QD [60,99,32,100,61,39,101,39,47,62] 0 10).name.kind),.val (.int .i64 (QD [60,99,32,100,61,39,101,39,47,62] 0 10).name.from_),.val (.int .i64 (QD [60,99,32,100,61,39,101,39,47,62] 0 10).name.to),.slc 9 (Qh (QD [60,99,32,100,61,39,101,39,47,62] 0 10).attrs),.val (.bool (QD [60,99,32,100,61,39,101,39,47,62] 0 10).right),.val (.bool (QD [60,99,32,100,61,39,101,39,47,62] 0 10).empty)]=QuR:=by cbv
 rw[<-e];exact QfE [60,99,32,100,61,39,101,39,47,62] (by decide) 0 10 (by decide) (by decide) (by decide)
theorem Qur:BCall prog 50 [.agg [.val (.int .i64 0),.val (.int .i64 0),.slc 1 (Q0 [60,99,32,100,61,39,101,39,47,62]),.val (.slice none 0 0)],.val (.int .i64 3),.val (.int .i64 4)] [] (.val (.string ⟨#[100]⟩)) []:=by
 have e:AV.val (.string ⟨(Q3Q ((([60,99,32,100,61,39,101,39,47,62]:List Int).drop (3:Int).toNat).take ((4:Int)-3).toNat)).toArray⟩)=.val (.string ⟨#[100]⟩):=by cbv
 rw[<-e];exact Qjr [60,99,32,100,61,39,101,39,47,62] (by decide) 3 4 (by decide) (by decide) (by decide) (by decide)
def QsK:List BE:=[
 ⟨13,[.slc 1 (Q2 QqR)],[],QrN,[]⟩,
 ⟨15,[QrN,.slc 1 (Q9 [1])],[],Qsj,[]⟩,
 ⟨48,[.val (.int .i64 0),.slc 1 (Q2 [60,99,32,100,61,39,101,39,47,62])],[],QuQ,[]⟩,
 ⟨49,[.slc 1 (Q0 [60,99,32,100,61,39,101,39,47,62]),.val (.int .i64 0),.val (.int .i64 10)],[],QuR,[]⟩,
 ⟨50,[.agg [.val (.int .i64 0),.val (.int .i64 0),.slc 1 (Q0 [60,99,32,100,61,39,101,39,47,62]),.val (.slice none 0 0)],.val (.int .i64 3),.val (.int .i64 4)],[],.val (.string ⟨#[100]⟩),[]⟩]
theorem Qtz:Qt2 QsK:=by
 unfold QsK;refine⟨⟨rfl,Qul⟩,?_⟩;refine⟨⟨rfl,Qun⟩,?_⟩;refine⟨⟨rfl,Quw⟩,?_⟩;refine⟨⟨rfl,Quq⟩,?_⟩;refine⟨⟨rfl,Qur⟩,?_⟩;exact trivial
theorem QtM:EqOk prog 42 [.int .i64,.int .i64]:=EqOk.plan Q6k (by kernel_rfl) (by kernel_rfl) (by kernel_rfl) (by kernel_rfl)
def QrJ(T:Nat)(sh:List Srt):Bool:=match T,sh with
 |42,[.int .i64,.int .i64]=>true
 |_,_=>false
theorem Qth:∀T sh,QrJ T sh=true->EqOk prog T sh:=fun T sh h=>by
 unfold QrJ at h;split at h
 ·exact QtM
 ·cases h
theorem Qte:BCall prog 20 [] [] (.val (.bool true)) [] :=
 QuN Qsz Qtz (ask:=QrJ) Qth (lf:=100) (n:=40) (by kernel_rfl)
