/-
  Parts of the proof, joined: Uc. Conditions: as each theorem says.
-/
import Derived.Test.YtibemhahkicbpaaGreatQI12
import Derived.Test.YtibemhahkicbpaaGreatQI22
import Derived.Test.YtibemhahkicbpaaGreatQI21
set_option maxRecDepth 100000
set_option maxHeartbeats 8000000
namespace Go.Proofs.YtibemhahkicbpaaGreat
open Go.RowKit Go.Lib Tryz
theorem Q7w {l:List Node}:∀ (k:Nat) (st:List Cur) (j:Nat),(Q1y l k st).length<k→Q1y l (k+j) st=Q1y l k st
 |0,st,j,h=>by cases h
 |k+1,st,j,h=>by
  rw[show k+1+j=(k+j)+1 by omega]
  unfold Q1y at h ⊢
  cases hg:st.getLast? with
  |none=>rfl
  |some x =>
   rw[hg] at h
   simp only[List.length_cons] at h
   simp only
   rw[Q7w k _ j (by omega)]
noncomputable def aw33_tab:List (Nat×FnI):=[
 (34,⟨f34,f34.body.getD .skip,fun _=>.nil⟩),
 (31,⟨f31,f31.body.getD .skip,fun _=>.nil⟩),
 (69,⟨f69,f69.body.getD .skip,fun _=>.nil⟩),
 (122,⟨f122,f122.body.getD .skip,fun _=>.nil⟩),
 (29,⟨f29,f29.body.getD .skip,fun _=>.nil⟩),
 (67,⟨f67,f67.body.getD .skip,fun _=>.nil⟩),
 (118,⟨f118,f118.body.getD .skip,fun _=>.nil⟩),
 (70,⟨f70,f70.body.getD .skip,fun _=>.nil⟩),
 (55,⟨f55,f55.body.getD .skip,fun _=>.nil⟩),
 (115,⟨f115,f115.body.getD .skip,fun _=>.nil⟩),
 (117,⟨f117,f117.body.getD .skip,fun _=>.nil⟩),
 (123,⟨f123,f123.body.getD .skip,fun _=>.nil⟩),
 (61,⟨f61,f61.body.getD .skip,fun _=>.nil⟩),
 (64,⟨f64,f64.body.getD .skip,fun _=>.nil⟩),
 (125,⟨f125,f125.body.getD .skip,fun id=>match id with|1=>.th [0,1,3,4,5] (.fork (.of [2,6,7,8]) (.of [6,2,7,8]))|_=>.nil⟩),
 (59,⟨f59,f59.body.getD .skip,fun _=>.nil⟩),
 (150,⟨f150,f150.body.getD .skip,fun _=>.nil⟩),
 (124,⟨f124,f124.body.getD .skip,fun _=>.nil⟩),
 (149,⟨f149,f149.body.getD .skip,fun _=>.nil⟩),
 (191,⟨f191,f191.body.getD .skip,fun _=>.nil⟩),
 (219,⟨f219,f219.body.getD .skip,fun _=>.nil⟩),
 (173,⟨f173,f173.body.getD .skip,fun _=>.nil⟩)]
theorem Qbq:QdN aw33_tab:=by
 unfold aw33_tab
 refine⟨⟨Nat.le_of_ble_eq_true rfl,func34,rfl,by kernel_rfl⟩,?_⟩
 refine⟨⟨Nat.le_of_ble_eq_true rfl,func31,rfl,by kernel_rfl⟩,?_⟩
 refine⟨⟨Nat.le_of_ble_eq_true rfl,func69,rfl,by kernel_rfl⟩,?_⟩
 refine⟨⟨Nat.le_of_ble_eq_true rfl,func122,rfl,by kernel_rfl⟩,?_⟩
 refine⟨⟨Nat.le_of_ble_eq_true rfl,func29,rfl,by kernel_rfl⟩,?_⟩
 refine⟨⟨Nat.le_of_ble_eq_true rfl,func67,rfl,by kernel_rfl⟩,?_⟩
 refine⟨⟨Nat.le_of_ble_eq_true rfl,func118,rfl,by kernel_rfl⟩,?_⟩
 refine⟨⟨Nat.le_of_ble_eq_true rfl,func70,rfl,by kernel_rfl⟩,?_⟩
 refine⟨⟨Nat.le_of_ble_eq_true rfl,func55,rfl,by kernel_rfl⟩,?_⟩
 refine⟨⟨Nat.le_of_ble_eq_true rfl,func115,rfl,by kernel_rfl⟩,?_⟩
 refine⟨⟨Nat.le_of_ble_eq_true rfl,func117,rfl,by kernel_rfl⟩,?_⟩
 refine⟨⟨Nat.le_of_ble_eq_true rfl,func123,rfl,by kernel_rfl⟩,?_⟩
 refine⟨⟨Nat.le_of_ble_eq_true rfl,func61,rfl,by kernel_rfl⟩,?_⟩
 refine⟨⟨Nat.le_of_ble_eq_true rfl,func64,rfl,by kernel_rfl⟩,?_⟩
 refine⟨⟨Nat.le_of_ble_eq_true rfl,func125,rfl,by kernel_rfl⟩,?_⟩
 refine⟨⟨Nat.le_of_ble_eq_true rfl,func59,rfl,by kernel_rfl⟩,?_⟩
 refine⟨⟨Nat.le_of_ble_eq_true rfl,func150,rfl,by kernel_rfl⟩,?_⟩
 refine⟨⟨Nat.le_of_ble_eq_true rfl,func124,rfl,by kernel_rfl⟩,?_⟩
 refine⟨⟨Nat.le_of_ble_eq_true rfl,func149,rfl,by kernel_rfl⟩,?_⟩
 refine⟨⟨Nat.le_of_ble_eq_true rfl,func191,rfl,by kernel_rfl⟩,?_⟩
 refine⟨⟨Nat.le_of_ble_eq_true rfl,func219,rfl,by kernel_rfl⟩,?_⟩
 refine⟨⟨Nat.le_of_ble_eq_true rfl,func173,rfl,by kernel_rfl⟩,?_⟩
 exact trivial
def aw33_b:List UInt8:=[60,97,32,120,61,39,49,39,47,62]
def QcO:AV:=.agg [.val (.int .i64 0),.val (.int .i64 0),.slc 1 [.val (.int .i32 60),.val (.int .i32 97),.val (.int .i32 32),.val (.int .i32 120),.val (.int .i32 61),.val (.int .i32 39),.val (.int .i32 49),.val (.int .i32 39),.val (.int .i32 47),.val (.int .i32 62)],.slc 1 [.val (.int .i64 0),.val (.int .i64 1),.val (.int .i64 2),.val (.int .i64 3),.val (.int .i64 4),.val (.int .i64 5),.val (.int .i64 6),.val (.int .i64 7),.val (.int .i64 8),.val (.int .i64 9),.val (.int .i64 10)],.ref [.slc 6 [.agg [.val (.int .i64 9),.val (.int .i64 10),.val (.int .i64 1),.val (.bool true),.slc 1 [.val (.int .u8 60),.val (.int .u8 97),.val (.int .u8 32),.val (.int .u8 120),.val (.int .u8 61),.val (.int .u8 39),.val (.int .u8 49),.val (.int .u8 39),.val (.int .u8 47),.val (.int .u8 62)],.slc 1 []],.agg [.val (.int .i64 20),.val (.int .i64 10),.val (.int .i64 2),.val (.bool false),.slc 1 [],.slc 1 [.val (.int .i64 0)]]]],.val (.int .i64 1),.slc 3 []]
theorem Qjb:Q5H (Q6 aw33_b) (Qd aw33_b)=QcO:=by cbv
theorem QjR:BCall prog 13 [.slc 1 (Q5 aw33_b)] [] QcO []:=by
 rw[←Qjb];exact QdQ aw33_b (by decide)
def QfR:List AV:=[.agg [.val (.int .i64 9),.val (.int .i64 10),.val (.int .i64 1),.val (.bool true),.slc 1 [.val (.int .u8 60),.val (.int .u8 97),.val (.int .u8 32),.val (.int .u8 120),.val (.int .u8 61),.val (.int .u8 39),.val (.int .u8 49),.val (.int .u8 39),.val (.int .u8 47),.val (.int .u8 62)],.slc 1 []],.agg [.val (.int .i64 20),.val (.int .i64 10),.val (.int .i64 2),.val (.bool false),.slc 1 [],.slc 1 [.val (.int .i64 0)]]]
def Qev:List AV:=[.agg [.ref [.slc 6 QfR],.val (.int .i64 1),.val (.int .i64 0),.val (.int .i64 0),.val (.pointer none)],.val (.int .i64 1073741824)]
def Q7I:AV:=.slc 5 [.agg [.opt (.ref [.slc 6 [.agg [.val (.int .i64 9),.val (.int .i64 10),.val (.int .i64 1),.val (.bool true),.slc 1 [.val (.int .u8 60),.val (.int .u8 97),.val (.int .u8 32),.val (.int .u8 120),.val (.int .u8 61),.val (.int .u8 39),.val (.int .u8 49),.val (.int .u8 39),.val (.int .u8 47),.val (.int .u8 62)],.slc 1 []],.agg [.val (.int .i64 20),.val (.int .i64 10),.val (.int .i64 2),.val (.bool false),.slc 1 [],.slc 1 [.val (.int .i64 0)]]]]),.val (.int .i64 1),.val (.int .i64 0),.val (.int .i64 0),.opt (.val (.pointer none))],.agg [.opt (.ref [.slc 6 [.agg [.val (.int .i64 9),.val (.int .i64 10),.val (.int .i64 1),.val (.bool true),.slc 1 [.val (.int .u8 60),.val (.int .u8 97),.val (.int .u8 32),.val (.int .u8 120),.val (.int .u8 61),.val (.int .u8 39),.val (.int .u8 49),.val (.int .u8 39),.val (.int .u8 47),.val (.int .u8 62)],.slc 1 []],.agg [.val (.int .i64 20),.val (.int .i64 10),.val (.int .i64 2),.val (.bool false),.slc 1 [],.slc 1 [.val (.int .i64 0)]]]]),.val (.int .i64 0),.val (.int .i64 0),.val (.int .i64 0),.opt (.ref [.ref [.slc 6 [.agg [.val (.int .i64 9),.val (.int .i64 10),.val (.int .i64 1),.val (.bool true),.slc 1 [.val (.int .u8 60),.val (.int .u8 97),.val (.int .u8 32),.val (.int .u8 120),.val (.int .u8 61),.val (.int .u8 39),.val (.int .u8 49),.val (.int .u8 39),.val (.int .u8 47),.val (.int .u8 62)],.slc 1 []],.agg [.val (.int .i64 20),.val (.int .i64 10),.val (.int .i64 2),.val (.bool false),.slc 1 [],.slc 1 [.val (.int .i64 0)]]]],.val (.int .i64 1),.val (.int .i64 0),.val (.int .i64 0),.opt (.val (.pointer none))])]]
theorem QjT:BCall prog 30 Qev [] Q7I []:=by
 have hO:=Q6y aw33_b (by decide)
 have h:=Qga (Qp (Qd aw33_b)).n aw33_b.length 400000 hO.ar (by decide) (by decide) (Cur.root (Qd aw33_b).n.length) hO.root 1073741824 (by decide)
 have e0:(Q1y (Qp (Qd aw33_b)).n 30 [(Cur.root (Qd aw33_b).n.length)]).length<30:=by
  have:(Q1y (Qp (Qd aw33_b)).n 30 [(Cur.root (Qd aw33_b).n.length)]).length=(Q1O Q7I).length:=by cbv
  rw[this];decide
 have ew:Q4A (Qp (Qd aw33_b)).n (Cur.root (Qd aw33_b).n.length) 1073741824=Q1y (Qp (Qd aw33_b)).n 30 [(Cur.root (Qd aw33_b).n.length)]:=Q7w 30 [(Cur.root (Qd aw33_b).n.length)] 1073741794 e0
 rw[ew] at h
 have e2:AV.slc 5 (QC (Q0 (Qp (Qd aw33_b)).n) (Q1y (Qp (Qd aw33_b)).n 30 [(Cur.root (Qd aw33_b).n.length)]))=Q7I:=by cbv
 have e1:AV.agg ((Cur.root (Qd aw33_b).n.length).el (Q0 (Qp (Qd aw33_b)).n))=.agg [.opt (.ref [.slc 6 QfR]),.val (.int .i64 1),.val (.int .i64 0),.val (.int .i64 0),.opt (.val (.pointer none))]:=by cbv
 rw[e1,e2] at h
 exact h.le ⟨⟨.inr (.inr (.inl ⟨rfl,trivial⟩)),.inl rfl,.inl rfl,.inl rfl,.inr (.inr (.inl ⟨rfl,trivial⟩)),trivial⟩,.inl rfl,trivial⟩
theorem QjL:BCall prog 48 [.val (.int .i64 0),.slc 1 (Q5 [60,97,32,120,61,39,49,39,47,62])] [] (.slc 3 [.agg [.val (.int .i32 60),.val (.int .i64 0),.val (.int .i64 1)],.agg [.val (.int .i32 97),.val (.int .i64 1),.val (.int .i64 1)],.agg [.val (.int .i32 32),.val (.int .i64 2),.val (.int .i64 1)],.agg [.val (.int .i32 120),.val (.int .i64 3),.val (.int .i64 1)],.agg [.val (.int .i32 61),.val (.int .i64 4),.val (.int .i64 1)],.agg [.val (.int .i32 39),.val (.int .i64 5),.val (.int .i64 1)],.agg [.val (.int .i32 49),.val (.int .i64 6),.val (.int .i64 1)],.agg [.val (.int .i32 39),.val (.int .i64 7),.val (.int .i64 1)],.agg [.val (.int .i32 47),.val (.int .i64 8),.val (.int .i64 1)],.agg [.val (.int .i32 62),.val (.int .i64 9),.val (.int .i64 1)]]) []:=by
 have e:AV.slc 3 (QS (Q4E 0 [60,97,32,120,61,39,49,39,47,62]))=.slc 3 [.agg [.val (.int .i32 60),.val (.int .i64 0),.val (.int .i64 1)],.agg [.val (.int .i32 97),.val (.int .i64 1),.val (.int .i64 1)],.agg [.val (.int .i32 32),.val (.int .i64 2),.val (.int .i64 1)],.agg [.val (.int .i32 120),.val (.int .i64 3),.val (.int .i64 1)],.agg [.val (.int .i32 61),.val (.int .i64 4),.val (.int .i64 1)],.agg [.val (.int .i32 39),.val (.int .i64 5),.val (.int .i64 1)],.agg [.val (.int .i32 49),.val (.int .i64 6),.val (.int .i64 1)],.agg [.val (.int .i32 39),.val (.int .i64 7),.val (.int .i64 1)],.agg [.val (.int .i32 47),.val (.int .i64 8),.val (.int .i64 1)],.agg [.val (.int .i32 62),.val (.int .i64 9),.val (.int .i64 1)]]:=by cbv
 rw[←e];exact Q8X _ _ (by decide)
theorem Qkh:BCall prog 49 [.slc 1 (Q1 [60,97,32,120,61,39,49,39,47,62]),.val (.int .i64 0),.val (.int .i64 10)] [] (.agg [.val (.int .i64 2),.val (.int .i64 1),.val (.int .i64 2),.slc 9 [.agg [.val (.int .i64 2),.val (.int .i64 3),.val (.int .i64 4),.val (.int .i64 5),.val (.int .i64 5),.val (.int .i64 8),.val (.int .i64 7),.val (.int .i64 2),.val (.int .i64 8)]],.val (.bool true),.val (.bool true)]) []:=by
 have e:AV.agg [.val (.int .i64 (Qy [60,97,32,120,61,39,49,39,47,62] 0 10).name.kind),.val (.int .i64 (Qy [60,97,32,120,61,39,49,39,47,62] 0 10).name.from_),.val (.int .i64 (Qy [60,97,32,120,61,39,49,39,47,62] 0 10).name.to),.slc 9 (Qo (Qy [60,97,32,120,61,39,49,39,47,62] 0 10).attrs),.val (.bool (Qy [60,97,32,120,61,39,49,39,47,62] 0 10).right),.val (.bool (Qy [60,97,32,120,61,39,49,39,47,62] 0 10).empty)]=.agg [.val (.int .i64 2),.val (.int .i64 1),.val (.int .i64 2),.slc 9 [.agg [.val (.int .i64 2),.val (.int .i64 3),.val (.int .i64 4),.val (.int .i64 5),.val (.int .i64 5),.val (.int .i64 8),.val (.int .i64 7),.val (.int .i64 2),.val (.int .i64 8)]],.val (.bool true),.val (.bool true)]:=by cbv
 rw[←e];exact QaR [60,97,32,120,61,39,49,39,47,62] (by decide) 0 10 (by decide) (by decide) (by decide)
theorem Qkq:BCall prog 50 [.agg [.val (.int .i64 0),.val (.int .i64 0),.slc 1 (Q1 [60,97,32,120,61,39,49,39,47,62]),.val (.slice none 0 0)],.val (.int .i64 3),.val (.int .i64 4)] [] (.val (.string ⟨#[120]⟩)) []:=by
 have e:AV.val (.string ⟨(Q3b ((([60,97,32,120,61,39,49,39,47,62]:List Int).drop (3:Int).toNat).take ((4:Int)-3).toNat)).toArray⟩)=.val (.string ⟨#[120]⟩):=by cbv
 rw[←e];exact QbV [60,97,32,120,61,39,49,39,47,62] (by decide) 3 4 (by decide) (by decide) (by decide) (by decide)
theorem QkB:BCall prog 87 [.slc 1 (Q1 [60,97,32,120,61,39,49,39,47,62])] [] (.slc 4 [.agg [.val (.int .i64 9),.val (.int .i64 0),.val (.int .i64 10),.val (.bool true)]]) []:=by
 have e:AV.slc 4 (QO (Q14 [60,97,32,120,61,39,49,39,47,62]))=.slc 4 [.agg [.val (.int .i64 9),.val (.int .i64 0),.val (.int .i64 10),.val (.bool true)]]:=by cbv
 rw[←e];exact Q8A _ (by decide)
def Qe8:List BE:=[
 ⟨13,[.slc 1 (Q5 aw33_b)],[],QcO,[]⟩,
 ⟨30,Qev,[],Q7I,[]⟩,
 ⟨48,[.val (.int .i64 0),.slc 1 (Q5 [60,97,32,120,61,39,49,39,47,62])],[],.slc 3 [.agg [.val (.int .i32 60),.val (.int .i64 0),.val (.int .i64 1)],.agg [.val (.int .i32 97),.val (.int .i64 1),.val (.int .i64 1)],.agg [.val (.int .i32 32),.val (.int .i64 2),.val (.int .i64 1)],.agg [.val (.int .i32 120),.val (.int .i64 3),.val (.int .i64 1)],.agg [.val (.int .i32 61),.val (.int .i64 4),.val (.int .i64 1)],.agg [.val (.int .i32 39),.val (.int .i64 5),.val (.int .i64 1)],.agg [.val (.int .i32 49),.val (.int .i64 6),.val (.int .i64 1)],.agg [.val (.int .i32 39),.val (.int .i64 7),.val (.int .i64 1)],.agg [.val (.int .i32 47),.val (.int .i64 8),.val (.int .i64 1)],.agg [.val (.int .i32 62),.val (.int .i64 9),.val (.int .i64 1)]],[]⟩,
 ⟨49,[.slc 1 (Q1 [60,97,32,120,61,39,49,39,47,62]),.val (.int .i64 0),.val (.int .i64 10)],[],.agg [.val (.int .i64 2),.val (.int .i64 1),.val (.int .i64 2),.slc 9 [.agg [.val (.int .i64 2),.val (.int .i64 3),.val (.int .i64 4),.val (.int .i64 5),.val (.int .i64 5),.val (.int .i64 8),.val (.int .i64 7),.val (.int .i64 2),.val (.int .i64 8)]],.val (.bool true),.val (.bool true)],[]⟩,
 ⟨50,[.agg [.val (.int .i64 0),.val (.int .i64 0),.slc 1 (Q1 [60,97,32,120,61,39,49,39,47,62]),.val (.slice none 0 0)],.val (.int .i64 3),.val (.int .i64 4)],[],.val (.string ⟨#[120]⟩),[]⟩,
 ⟨87,[.slc 1 (Q1 [60,97,32,120,61,39,49,39,47,62])],[],.slc 4 [.agg [.val (.int .i64 9),.val (.int .i64 0),.val (.int .i64 10),.val (.bool true)]],[]⟩]
theorem Qgt:Qek Qe8:=by
 unfold Qe8
 refine⟨⟨rfl,QjR⟩,?_⟩
 refine⟨⟨rfl,QjT⟩,?_⟩
 refine⟨⟨rfl,QjL⟩,?_⟩
 refine⟨⟨rfl,Qkh⟩,?_⟩
 refine⟨⟨rfl,Qkq⟩,?_⟩
 refine⟨⟨rfl,QkB⟩,?_⟩
 exact trivial
def Qbd:Nat→List Srt→Bool:=Qlh
theorem QeO:∀ T sh,Qbd T sh=true→Qc7 prog T sh:=Qiz
theorem QfM:BCall prog 34 [] [] (.val (.bool true)) [] :=
 Qlp Qbq Qgt (ask:=Qbd) QeO (lf:=100) (n:=40) (by kernel_rfl)
end Go.Proofs.YtibemhahkicbpaaGreat
