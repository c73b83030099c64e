/- Lemmas, conditions told -/
import Derived.Test.YtibemhahkicbpaaGreatK17
set_option maxRecDepth 99999
set_option maxHeartbeats 0
set_option linter.unusedSimpArgs false
set_option linter.unusedVariables false
namespace Go.Proofs.YtibemhahkicbpaaGreat
open List(mem_cons_self mem_cons_of_mem length_append flatMap_cons append_assoc length_singleton mem_append cons_append foldl_cons foldl_nil dropLast_subset mem_singleton mem_cons length_cons append_nil getElem?_eq_getElem flatMap_append map_cons)
open Nat(le_of_ble_eq_true le_refl)
open Int(toNat_natCast)
open Go.RowKit Go.Lib
section
open Tryz
noncomputable def aw22_tab:List (Nat×FnI):=[
 (20,⟨f20,f20.body.getD .skip,fun _=>.nil⟩),
 (16,⟨f16,f16.body.getD .skip,fun id=>match id with|7=>.of [0,1,2,3,7,4,5,6]|17=>.th [0,1,2,3,4,5,6,7,8,9,10,11,12,13,14,15,16,17,18,19,20,26,27,28,29] (.fork (.th [21,22,23] (.fork (.th [24,25] (.fork (.th [30,31,32] (.fork (.of [33,34,35,36,37,38]) (.of [36,33,34,35,37,38]))) (.of [36,30,31,32,33,34,35,37,38]))) (.fork (.th [30,31,32] (.fork (.th [24,25] (.fork (.of [33,34,35,36,37,38]) (.of [36,33,34,35,37,38]))) (.fork (.th [33,34] (.fork (.of [24,25,35,36,37,38]) (.of [36,24,25,35,37,38]))) (.of [36,24,25,33,34,35,37,38])))) (.of [36,24,25,30,31,32,33,34,35,37,38])))) (.fork (.th [30,31,32] (.fork (.th [21,22,23] (.fork (.th [24,25] (.fork (.of [33,34,35,36,37,38]) (.of [36,33,34,35,37,38]))) (.fork (.th [33,34] (.fork (.of [24,25,35,36,37,38]) (.of [36,24,25,35,37,38]))) (.of [36,24,25,33,34,35,37,38])))) (.fork (.th [33,34] (.fork (.th [21,22,23] (.fork (.of [24,25,35,36,37,38]) (.of [36,24,25,35,37,38]))) (.of [36,21,22,23,24,25,35,37,38]))) (.of [36,21,22,23,24,25,33,34,35,37,38])))) (.of [36,21,22,23,24,25,30,31,32,33,34,35,37,38])))|_=>.nil⟩),
 (21,⟨f21,f21.body.getD .skip,fun _=>.nil⟩),
 (55,⟨f55,f55.body.getD .skip,fun _=>.nil⟩),
 (115,⟨f115,f115.body.getD .skip,fun _=>.nil⟩),
 (117,⟨f117,f117.body.getD .skip,fun _=>.nil⟩),
 (118,⟨f118,f118.body.getD .skip,fun _=>.nil⟩),
 (23,⟨f23,f23.body.getD .skip,fun id=>match id with|1=>.th [0,2,4,5,6,7] (.fork (.th [1] (.fork (.of [3,8,9,10,11]) (.of [8,3,9,10,11]))) (.fork (.th [3] (.fork (.of [1,8,9,10,11]) (.of [8,1,9,10,11]))) (.of [8,1,3,9,10,11])))|_=>.nil⟩),
 (58,⟨f58,f58.body.getD .skip,fun _=>.nil⟩),
 (24,⟨f24,f24.body.getD .skip,fun _=>.nil⟩),
 (59,⟨f59,f59.body.getD .skip,fun _=>.nil⟩),
 (54,⟨f54,f54.body.getD .skip,fun _=>.nil⟩),
 (113,⟨f113,f113.body.getD .skip,fun _=>.nil⟩),
 (114,⟨f114,f114.body.getD .skip,fun _=>.nil⟩)]
theorem Qsz:Qt3 aw22_tab:=by
 unfold aw22_tab;refine⟨⟨le_of_ble_eq_true rfl,func20,rfl,by kernel_rfl⟩,?_⟩
 refine⟨⟨le_of_ble_eq_true rfl,func16,rfl,by kernel_rfl⟩,?_⟩
 refine⟨⟨le_of_ble_eq_true rfl,func21,rfl,by kernel_rfl⟩,?_⟩
 refine⟨⟨le_of_ble_eq_true rfl,func55,rfl,by kernel_rfl⟩,?_⟩
 refine⟨⟨le_of_ble_eq_true rfl,func115,rfl,by kernel_rfl⟩,?_⟩
 refine⟨⟨le_of_ble_eq_true rfl,func117,rfl,by kernel_rfl⟩,?_⟩
 refine⟨⟨le_of_ble_eq_true rfl,func118,rfl,by kernel_rfl⟩,?_⟩
 refine⟨⟨le_of_ble_eq_true rfl,func23,rfl,by kernel_rfl⟩,?_⟩
 refine⟨⟨le_of_ble_eq_true rfl,func58,rfl,by kernel_rfl⟩,?_⟩
 refine⟨⟨le_of_ble_eq_true rfl,func24,rfl,by kernel_rfl⟩,?_⟩
 refine⟨⟨le_of_ble_eq_true rfl,func59,rfl,by kernel_rfl⟩,?_⟩
 refine⟨⟨le_of_ble_eq_true rfl,func54,rfl,by kernel_rfl⟩,?_⟩
 refine⟨⟨le_of_ble_eq_true rfl,func113,rfl,by kernel_rfl⟩,?_⟩
 refine⟨⟨le_of_ble_eq_true rfl,func114,rfl,by kernel_rfl⟩,?_⟩
 exact trivial
def QqR:List UInt8:=[60,97,62,60,98,47,62,60,99,32,100,61,39,101,39,47,62,60,47,97,62]
def QuP:List AV:=[.agg [.val (.int .i64 8),.val (.int .i64 3),.val (.int .i64 1),.val (.bool true),.slc 1 [.val (.int .u8 60),.val (.int .u8 97),.val (.int .u8 62)],.slc 1 []],.agg [.val (.int .i64 9),.val (.int .i64 4),.val (.int .i64 1),.val (.bool true),.slc 1 [.val (.int .u8 60),.val (.int .u8 98),.val (.int .u8 47),.val (.int .u8 62)],.slc 1 []],.agg [.val (.int .i64 9),.val (.int .i64 10),.val (.int .i64 1),.val (.bool true),.slc 1 [.val (.int .u8 60),.val (.int .u8 99),.val (.int .u8 32),.val (.int .u8 100),.val (.int .u8 61),.val (.int .u8 39),.val (.int .u8 101),.val (.int .u8 39),.val (.int .u8 47),.val (.int .u8 62)],.slc 1 []],.agg [.val (.int .i64 10),.val (.int .i64 4),.val (.int .i64 1),.val (.bool true),.slc 1 [.val (.int .u8 60),.val (.int .u8 47),.val (.int .u8 97),.val (.int .u8 62)],.slc 1 []],.agg [.val (.int .i64 21),.val (.int .i64 21),.val (.int .i64 5),.val (.bool false),.slc 1 [],.slc 1 [.val (.int .i64 0),.val (.int .i64 1),.val (.int .i64 2),.val (.int .i64 3)]],.agg [.val (.int .i64 20),.val (.int .i64 21),.val (.int .i64 6),.val (.bool false),.slc 1 [],.slc 1 [.val (.int .i64 4)]]]
def QrN:AV:=.agg [.val (.int .i64 0),.val (.int .i64 0),.slc 1 [.val (.int .i32 60),.val (.int .i32 97),.val (.int .i32 62),.val (.int .i32 60),.val (.int .i32 98),.val (.int .i32 47),.val (.int .i32 62),.val (.int .i32 60),.val (.int .i32 99),.val (.int .i32 32),.val (.int .i32 100),.val (.int .i32 61),.val (.int .i32 39),.val (.int .i32 101),.val (.int .i32 39),.val (.int .i32 47),.val (.int .i32 62),.val (.int .i32 60),.val (.int .i32 47),.val (.int .i32 97),.val (.int .i32 62)],.slc 1 [.val (.int .i64 0),.val (.int .i64 1),.val (.int .i64 2),.val (.int .i64 3),.val (.int .i64 4),.val (.int .i64 5),.val (.int .i64 6),.val (.int .i64 7),.val (.int .i64 8),.val (.int .i64 9),.val (.int .i64 10),.val (.int .i64 11),.val (.int .i64 12),.val (.int .i64 13),.val (.int .i64 14),.val (.int .i64 15),.val (.int .i64 16),.val (.int .i64 17),.val (.int .i64 18),.val (.int .i64 19),.val (.int .i64 20),.val (.int .i64 21)],.ref [.slc 6 QuP],.val (.int .i64 5),.slc 3 []]
theorem QsU:Q8c (Qb QqR) (Qu QqR)=QrN:=by cbv
theorem Qul:BCall prog 13 [.slc 1 (Q2 QqR)] [] QrN []:=by
 rw[<-QsU];exact Qn7 QqR (by decide)
def Qsj:AV:=.tup [.agg [.opt (.ref [.slc 6 QuP]),.val (.int .i64 2),.val (.int .i64 7),.val (.int .i64 2),.opt (.ref [.ref [.slc 6 QuP],.val (.int .i64 4),.val (.int .i64 0),.val (.int .i64 0),.opt (.ref [.ref [.slc 6 QuP],.val (.int .i64 5),.val (.int .i64 0),.val (.int .i64 0),.opt (.val (.pointer none))])])],.val (.bool true)]
theorem Qun:BCall prog 15 [QrN,.slc 1 (Q9 [1])] [] Qsj []:=by
 have hO:=Q8f QqR (by decide)
 have h:=QsB (Qb QqR) (Qu QqR) (QL (Qu QqR)).n rfl QqR 400000 hO.ar (Qeb QqR) (by decide) (by decide) ⟨hO.root,[],[],by show QqR=[]++(pr (QL (Qu QqR)).n (Qu QqR).n.length++[]);rw[hO.p];simp,rfl⟩ [1] (by decide) (by decide)
 have e2:AV.tup [.agg (oC (Q3 (QL (Qu QqR)).n) (QqO (QL (Qu QqR)).n (QqQ (QL (Qu QqR)).n (.root (Qu QqR).n.length) 0) [1])),.val (.bool (QqO (QL (Qu QqR)).n (QqQ (QL (Qu QqR)).n (.root (Qu QqR).n.length) 0) [1]).isSome)]=Qsj:=by cbv
 rw[e2,QsU]at h;exact h
def QuQ:AV:=.slc 3 [.agg [.val (.int .i32 60),.val (.int .i64 0),.val (.int .i64 1)],.agg [.val (.int .i32 99),.val (.int .i64 1),.val (.int .i64 1)],.agg [.val (.int .i32 32),.val (.int .i64 2),.val (.int .i64 1)],.agg [.val (.int .i32 100),.val (.int .i64 3),.val (.int .i64 1)],.agg [.val (.int .i32 61),.val (.int .i64 4),.val (.int .i64 1)],.agg [.val (.int .i32 39),.val (.int .i64 5),.val (.int .i64 1)],.agg [.val (.int .i32 101),.val (.int .i64 6),.val (.int .i64 1)],.agg [.val (.int .i32 39),.val (.int .i64 7),.val (.int .i64 1)],.agg [.val (.int .i32 47),.val (.int .i64 8),.val (.int .i64 1)],.agg [.val (.int .i32 62),.val (.int .i64 9),.val (.int .i64 1)]]
theorem Quw:BCall prog 48 [.val (.int .i64 0),.slc 1 (Q2 [60,99,32,100,61,39,101,39,47,62])] [] QuQ []:=by
 have e:AV.slc 3 (QP (Q4B 0 [60,99,32,100,61,39,101,39,47,62]))=QuQ:=by cbv
 rw[<-e];exact Qez _ _ (by decide)
def QuR:AV:=.agg [.val (.int .i64 2),.val (.int .i64 1),.val (.int .i64 2),.slc 9 [.agg [.val (.int .i64 2),.val (.int .i64 3),.val (.int .i64 4),.val (.int .i64 5),.val (.int .i64 5),.val (.int .i64 8),.val (.int .i64 7),.val (.int .i64 2),.val (.int .i64 8)]],.val (.bool true),.val (.bool true)]
theorem Quq:BCall prog 49 [.slc 1 (Q0 [60,99,32,100,61,39,101,39,47,62]),.val (.int .i64 0),.val (.int .i64 10)] [] QuR []:=by
 have e:AV.agg [.val (.int .i64 (QD [60,99,32,100,61,39,101,39,47,62] 0 10).name.kind),.val (.int .i64 (QD [60,99,32,100,61,39,101,39,47,62] 0 10).name.from_),.val (.int .i64 (QD [60,99,32,100,61,39,101,39,47,62] 0 10).name.to),.slc 9 (Qh (QD [60,99,32,100,61,39,101,39,47,62] 0 10).attrs),.val (.bool (QD [60,99,32,100,61,39,101,39,47,62] 0 10).right),.val (.bool (QD [60,99,32,100,61,39,101,39,47,62] 0 10).empty)]=QuR:=by cbv
 rw[<-e];exact QfE [60,99,32,100,61,39,101,39,47,62] (by decide) 0 10 (by decide) (by decide) (by decide)
theorem Qur:BCall prog 50 [.agg [.val (.int .i64 0),.val (.int .i64 0),.slc 1 (Q0 [60,99,32,100,61,39,101,39,47,62]),.val (.slice none 0 0)],.val (.int .i64 3),.val (.int .i64 4)] [] (.val (.string ⟨#[100]⟩)) []:=by
 have e:AV.val (.string ⟨(Q3Q ((([60,99,32,100,61,39,101,39,47,62]:List Int).drop (3:Int).toNat).take ((4:Int)-3).toNat)).toArray⟩)=.val (.string ⟨#[100]⟩):=by cbv
 rw[<-e];exact Qjr [60,99,32,100,61,39,101,39,47,62] (by decide) 3 4 (by decide) (by decide) (by decide) (by decide)
def QsK:List BE:=[
 ⟨13,[.slc 1 (Q2 QqR)],[],QrN,[]⟩,
 ⟨15,[QrN,.slc 1 (Q9 [1])],[],Qsj,[]⟩,
 ⟨48,[.val (.int .i64 0),.slc 1 (Q2 [60,99,32,100,61,39,101,39,47,62])],[],QuQ,[]⟩,
 ⟨49,[.slc 1 (Q0 [60,99,32,100,61,39,101,39,47,62]),.val (.int .i64 0),.val (.int .i64 10)],[],QuR,[]⟩,
 ⟨50,[.agg [.val (.int .i64 0),.val (.int .i64 0),.slc 1 (Q0 [60,99,32,100,61,39,101,39,47,62]),.val (.slice none 0 0)],.val (.int .i64 3),.val (.int .i64 4)],[],.val (.string ⟨#[100]⟩),[]⟩]
theorem Qtz:Qt2 QsK:=by
 unfold QsK;refine⟨⟨rfl,Qul⟩,?_⟩;refine⟨⟨rfl,Qun⟩,?_⟩;refine⟨⟨rfl,Quw⟩,?_⟩;refine⟨⟨rfl,Quq⟩,?_⟩;refine⟨⟨rfl,Qur⟩,?_⟩;exact trivial
theorem QtM:EqOk prog 42 [.int .i64,.int .i64]:=EqOk.plan Q6k (by kernel_rfl) (by kernel_rfl) (by kernel_rfl) (by kernel_rfl)
def QrJ(T:Nat)(sh:List Srt):Bool:=match T,sh with
 |42,[.int .i64,.int .i64]=>true
 |_,_=>false
theorem Qth:∀T sh,QrJ T sh=true->EqOk prog T sh:=fun T sh h=>by
 unfold QrJ at h;split at h
 ·exact QtM
 ·cases h
theorem Qte:BCall prog 20 [] [] (.val (.bool true)) [] :=
 QuN Qsz Qtz (ask:=QrJ) Qth (lf:=100) (n:=40) (by kernel_rfl)
end
structure El where
 path:List Int
 fr:Int
 to:Int
 inn:Int
 out:Int
 emp:Bool
 tag:Option (List UInt8)
 deriving Inhabited
structure Al where
 o:List El
 op:List Int
 ct:List Int
 at_:Int
 last:Int
 pa:List Int
def QqY(l:List Int):List Int:=l.dropLast++[(l.getLast?.getD 0)+1]
def QqP(s:Al)(e:Ev):Al :=
 if e.do_=1 then { s with pa:=s.pa++[s.ct.getLast?.getD 0],ct:=QqY s.ct++[0],op:=s.op++[(s.o.length:Int)],o:=s.o++[⟨s.pa++[s.ct.getLast?.getD 0],s.at_,0,-1,0,false,none⟩] }
 else if e.do_=3 then { s with o:=s.o.modify (s.op.getLast?.getD 0).toNat (fun x=>{ x with to:=s.at_,out:=s.last }),op:=s.op.dropLast,ct:=s.ct.dropLast,pa:=s.pa.dropLast }
 else if e.kind=9 then { s with o:=s.o++[⟨s.pa++[s.ct.getLast?.getD 0],s.at_,s.at_+e.b.length,0,0,true,some e.b⟩],ct:=QqY s.ct,last:=s.at_,at_:=s.at_+e.b.length }
 else { s with o:=if s.op≠[]/\(s.o[(s.op.getLast?.getD 0).toNat]?.getD default).inn<0 then s.o.modify (s.op.getLast?.getD 0).toNat (fun x=>{ x with inn:=s.at_+e.b.length,tag:=some e.b })else s.o,last:=s.at_,at_:=s.at_+e.b.length }
def alF(ev:List Ev):Al:=ev.foldl QqP ⟨[],[],[0],0,0,[]⟩
def Qrg(g:Int->List Int->Int->List El)(l:List Node):List Int->List Int->Int->Int->List El
 | [],_,_,_=>[]
 |x::r,p,i,f=>g x (p++[i]) f++Qrg g l r p (if QqN l x=true then i+1 else i) (f+(pr l x).length)
def elF(l:List Node):Nat->Int->List Int->Int->List El
 |0,_,_,_=>[]
 |m+1,n,p,f =>
  if Q1f l n=9 then [⟨p,f,f+(pr l n).length,0,0,true,some (pr l n)⟩]
  else if Q1f l n=21 then⟨p,f,f+(pr l n).length,f+(pr l ((Qn l n).kids.head?.getD 0)).length,f+(pr l n).length-(pr l ((Qn l n).kids.getLast?.getD 0)).length,false,some (pr l ((Qn l n).kids.head?.getD 0))⟩::Qrg (elF l m) l (Qn l n).kids p 0 f
  else []
structure Shape (l:List Node):Prop where
 b:∀n:Int,0<=n->n<l.length->Q1f l n=21->(Qn l n).b=[]
 first:∀n:Int,0<=n->n<l.length->Q1f l n=21->∃x r,(Qn l n).kids=x::r/\Q1f l x≠21/\Q1f l x≠9/\r≠[]
 last:∀n:Int,0<=n->n<l.length->Q1f l n=21->∀x,(Qn l n).kids.getLast?=some x->Q1f l x≠21
def Qs1(s:Al):Prop:=¬(s.op≠[]/\(s.o[(s.op.getLast?.getD 0).toNat]?.getD default).inn<0)
def QrC(l:List Node)(ks:List Int):Int:=((ks.map fun k=>(pr l k).length).sum:Nat)
theorem Qrb(l:List Node)(x:Int)(r:List Int):QrC l (x::r)=(pr l x).length+QrC l r:=by simp[QrC]
theorem QrF(c:List Int)(i:Int):QqY (c++[i])=c++[i+1]:=by simp[QqY]
theorem QtP(s:Al)(k:Int)(b:List UInt8)(hk:k≠9)(hq:Qs1 s):QqP s ⟨2,k,b⟩={ s with last:=s.at_,at_:=s.at_+b.length }:=by
 unfold QqP;rw[if_neg (by decide:¬(2:Int)=1),if_neg (by decide:¬(2:Int)=3),if_neg hk,if_neg hq]
def upI(l:List Node)(n i:Int):Int:=if QqN l n=true then i+1 else i
def QtL(l:List Node)(m:Nat)(n:Int):Prop:=∀(o:List El)(op c:List Int)(i a la:Int)(p:List Int),Qs1 ⟨o,op,c++[i],a,la,p⟩->(∀x∈op,0<=x/\x<o.length)->0<=a ->
 ∃la',(spF l m n false).foldl QqP ⟨o,op,c++[i],a,la,p⟩=⟨o++elF l m n (p++[i]) a,op,c++[upI l n i],a+(pr l n).length,la',p⟩/\(Q1f l n≠21->la'=a)
theorem QsA(f:El->El):∀(o:List El)(x:El)(r:List El),(o++x::r).modify o.length f=o++f x::r
 | [],x,r=>rfl
 |y::o,x,r=>by
  have:=QsA f o x r
  simpa using this
theorem QrO(c:List Int)(i:Int):(c++[i]).getLast?.getD 0=i:=by simp
theorem Qsq(c:List Int)(i:Int):(c++[i]).dropLast=c:=by simp
theorem QtF(o:List El)(x:El)(r:List El):(o++x::r)[o.length]?.getD default=x:=by simp
theorem Qtb{o o':List El}{op c c' p p':List Int}{a a' la la':Int}(h:Qs1 ⟨o,op,c,a,la,p⟩)(vC:∀x∈op,0<=x/\x<o.length):Qs1 ⟨o++o',op,c',a',la',p'⟩:=by
 rintro⟨h1,h2⟩;refine h ⟨h1,?_⟩
 have hm:op.getLast?.getD 0∈op:=by
  cases hl:op.getLast? with
  |none=>exact absurd (List.getLast?_eq_none_iff.1 hl) h1
  |some x=>exact List.mem_of_getLast? hl
 have:=vC _ hm
 have h2:((o++o')[(op.getLast?.getD 0).toNat]?.getD default).inn<0:=h2;rw[List.getElem?_append_left (by omega)]at h2
 exact h2
theorem Qsm{l:List Node}{m:Nat}:∀(ks:List Int),(∀k∈ks,QtL l m k)->∀(o:List El)(op c:List Int)(i a la:Int)(p:List Int),Qs1 ⟨o,op,c++[i],a,la,p⟩->(∀x∈op,0<=x/\x<o.length)->0<=a ->
  ∃la' i',(ks.flatMap fun k=>spF l m k false).foldl QqP ⟨o,op,c++[i],a,la,p⟩=⟨o++Qrg (elF l m) l ks p i a,op,c++[i'],a+QrC l ks,la',p⟩/\(∀x,ks.getLast?=some x->Q1f l x≠21->la'=a+QrC l ks-(pr l x).length)
 | [],_,o,op,c,i,a,la,p,_,_,_=>⟨la,i,by simp[Qrg,QrC],fun x h=>by cases h⟩
 |k::r,hk,o,op,c,i,a,la,p,hq,vC,ha=>by
  obtain⟨la1,h1,h2⟩:=hk k mem_cons_self o op c i a la p hq vC ha;obtain⟨la2,i2,h3,h4⟩:=Qsm r (fun x hx=>hk x (mem_cons_of_mem _ hx)) (o++elF l m k (p++[i]) a) op c (upI l k i) (a+(pr l k).length) la1 p (Qtb hq vC) (fun x hx=>by have:=vC x hx;rw[length_append];omega) (by omega)
  refine⟨la2,i2,?_,fun x hx yB=>?_⟩
  ·rw[flatMap_cons,List.foldl_append,h1,h3,Qrb,Qrg,append_assoc,Int.add_assoc];rfl
  ·cases r with
   |nil =>
    obtain rfl:k=x:=by simpa using hx
    have e:la2=la1:=by
     have h3:(⟨_,_,_,_,la1,_⟩:Al)=⟨_,_,_,_,la2,_⟩:=h3;injection h3 with _ _ _ _ h5 _
     exact h5.symm
    rw[e,h2 yB];simp[QrC]
   |cons y r =>
    rw[List.getLast?_cons_cons]at hx;rw[h4 x hx yB,Qrb l k];omega
theorem QsD{l:List Node}(hw:Wf l)(hs:Shape l){n:Int}(h0:0<=n)(h1:n<l.length)(hk:Q1f l n=21):((pr l n).length:Int)=QrC l (Qn l n).kids:=by
 rw[Qh3 hw h0 h1,hs.b n h0 h1 hk,List.nil_append,List.length_flatMap,QrC]
theorem QsY{l:List Node}(hw:Wf l)(hs:Shape l):∀(m:Nat)(n:Int),0<=n->n<l.length->n.toNat<m->QtL l m n
 |0,n,h0,h1,h2=>by omega
 |m+1,n,h0,h1,h2=>by
  intro o op c i a la p hq vC ha;by_cases hk:Q1f l n=21
  ·obtain⟨x,r,e1,e2,e3,e4⟩:=hs.first n h0 h1 hk
   have jy:∀k∈(Qn l n).kids,0<=k/\k<l.length/\k.toNat<m:=fun k h=>by have:=hw n h0 h1 k h;omega
   have hx:=jy x (by rw[e1];exact mem_cons_self)
   have hm:m≠0:=by omega
   have es:spF l (m+1) n false=⟨1,0,[]⟩::((⟨2,Q1f l x,pr l x⟩:Ev)::r.flatMap (fun k=>spF l m k false))++[⟨3,0,[]⟩]:=by
    have ex:spF l m x false=[⟨2,Q1f l x,pr l x⟩]:=by
     obtain⟨m',rfl⟩:∃m',m=m'+1:=⟨m-1,by omega⟩
     rw[spF,if_pos ⟨e2,rfl⟩];rfl
    rw[spF,if_neg (fun h=>h.1 hk),if_neg (by decide),if_neg (by decide),e1,flatMap_cons,ex];rfl
   have jY:QqN l n=true:=by rw[QqN,hk];rfl
   have hq1:Qs1 ⟨o++[⟨p++[i],a,0,a+(pr l x).length,0,false,some (pr l x)⟩],op++[(o.length:Int)],c++[i+1]++[0],a+(pr l x).length,a,p++[i]⟩:=by
    rintro⟨_,h⟩;have h:((o++[(⟨p++[i],a,0,a+(pr l x).length,0,false,some (pr l x)⟩:El)])[((op++[(o.length:Int)]).getLast?.getD 0).toNat]?.getD default).inn<0:=h;rw[QrO,toNat_natCast,QtF]at h;have h:a+(pr l x).length<0:=h;omega
   obtain⟨la2,i2,h3,h4⟩:=Qsm (l:=l) (m:=m) r (fun k h=>QsY hw hs m k (jy k (by rw[e1];exact mem_cons_of_mem _ h)).1 (jy k (by rw[e1];exact mem_cons_of_mem _ h)).2.1 (jy k (by rw[e1];exact mem_cons_of_mem _ h)).2.2) _ _ _ _ _ _ _ hq1 (fun y hy=>by
    rw[length_append,length_singleton];rcases mem_append.1 hy with hy|hy
    ·have:=vC y hy;omega
    ·obtain rfl:y=o.length:=by simpa using hy
     omega) (by omega)
   refine⟨la2,?_,fun h=>absurd hk h⟩
   have ji:la2=a+(pr l n).length-(pr l ((Qn l n).kids.getLast?.getD 0)).length:=by
    cases hr:r.getLast? with
    |none=>exact absurd (List.getLast?_eq_none_iff.1 hr) e4
    |some y =>
     have hy:(Qn l n).kids.getLast?=some y:=by
      rw[e1,List.getLast?_cons,hr];rfl
     rw[h4 y hr (hs.last n h0 h1 hk y hy),QsD hw hs h0 h1 hk,hy,e1,Qrb];simp;omega
   have yV:a+(pr l x).length+QrC l r=a+(pr l n).length:=by rw[QsD hw hs h0 h1 hk,e1,Qrb];omega
   have s1:QqP ⟨o,op,c++[i],a,la,p⟩ ⟨1,0,[]⟩=⟨o++[⟨p++[i],a,0,-1,0,false,none⟩],op++[(o.length:Int)],c++[i+1]++[0],a,la,p++[i]⟩:=by
    unfold QqP;rw[if_pos rfl,QrF];simp
   have s2:QqP ⟨o++[⟨p++[i],a,0,-1,0,false,none⟩],op++[(o.length:Int)],c++[i+1]++[0],a,la,p++[i]⟩ ⟨2,Q1f l x,pr l x⟩=⟨o++[⟨p++[i],a,0,a+(pr l x).length,0,false,some (pr l x)⟩],op++[(o.length:Int)],c++[i+1]++[0],a+(pr l x).length,a,p++[i]⟩:=by
    unfold QqP;rw[if_neg (by decide:¬(2:Int)=1),if_neg (by decide:¬(2:Int)=3),if_neg e3]
    simp only[QrO,toNat_natCast,QtF,QsA];rw[if_pos ⟨by simp,by decide⟩]
   rw[es,cons_append,foldl_cons,s1,cons_append,foldl_cons,s2,List.foldl_append,h3,yV];simp only[foldl_cons,foldl_nil];unfold QqP;rw[if_neg (by decide:¬(3:Int)=1),if_pos rfl]
   have e5:elF l (m+1) n (p++[i]) a=⟨p++[i],a,a+(pr l n).length,a+(pr l x).length,la2,false,some (pr l x)⟩::Qrg (elF l m) l r (p++[i]) 0 (a+(pr l x).length):=by
    have ex:∀q f,elF l m x q f=[]:=fun q f=>by
     obtain⟨m',rfl⟩:∃m',m=m'+1:=⟨m-1,by omega⟩
     rw[elF,if_neg e3,if_neg e2]
    have jI:QqN l x=false:=by simp[QqN,e2,e3]
    rw[elF,if_neg (by rw[hk];decide),if_pos hk,ji]
    rw[e1,Qrg,ex,jI];rfl
   rw[e5,upI,jY];simp only[QrO,Qsq,toNat_natCast,if_true,append_assoc,List.singleton_append,QsA]
   have e6:(c++[i+1,i2]).dropLast=c++[i+1]:=by
    rw[show c++[i+1,i2]=(c++[i+1])++[i2] by simp]
    exact Qsq _ _
   rw[e6]
  ·have es:spF l (m+1) n false=[⟨2,Q1f l n,pr l n⟩]:=by rw[spF,if_pos ⟨hk,rfl⟩];rfl
   rw[es];by_cases h9:Q1f l n=9
   ·refine⟨a,?_,fun _=>rfl⟩
    have jY:QqN l n=true:=by rw[QqN,h9];rfl
    simp only[foldl_cons,foldl_nil];unfold QqP;rw[if_neg (by decide:¬(2:Int)=1),if_neg (by decide:¬(2:Int)=3),if_pos h9,elF,if_pos h9,upI,if_pos jY,QrF]
    simp
   ·refine⟨a,?_,fun _=>rfl⟩
    have jY:QqN l n=false:=by simp[QqN,hk,h9]
    rw[foldl_cons,foldl_nil,QtP _ _ _ h9 hq,elF,if_neg h9,if_neg hk,upI,jY];simp
def Qso(l:List Node)(n:Int):List El:=Qrg (elF l n.toNat) l (Qn l n).kids [] 0 0
theorem Qu1{l:List Node}(hw:Wf l)(hs:Shape l){n:Int}(h0:0<=n)(h1:n<l.length):(alF (spV l n true)).o=Qso l n:=by
 have jy:∀k∈(Qn l n).kids,QtL l n.toNat k:=fun k h=>by
  have:=hw n h0 h1 k h
  exact QsY hw hs _ k this.1 (by omega) (by omega)
 obtain⟨la,i',h,_⟩:=Qsm (Qn l n).kids jy [] [] [] 0 0 0 [] (fun h=>h.1 rfl) (fun x hx=>by cases hx) (Int.le_refl 0)
 have e:spV l n true=(Qn l n).kids.flatMap fun k=>spF l n.toNat k false:=by
  rw[spV,spF,if_neg (fun h=>absurd h.2 (by decide)),if_pos rfl,if_pos rfl];simp
 have h:((Qn l n).kids.flatMap fun k=>spF l n.toNat k false).foldl QqP ⟨[],[],[0],0,0,[]⟩=_:=h
 rw[alF,e,h];rfl
def QqZ:List Ev->Nat->Prop
 | [],_=>True
 |e::r,d=>if e.do_=1 then QqZ r (d+1)else if e.do_=3 then 0<d/\QqZ r (d-1)else QqZ r d
def Qr3(ev:List Ev):Int:=((ev.map fun e=>e.b.length).sum:Nat)
theorem Qrk(e:Ev)(r:List Ev):Qr3 (e::r)=e.b.length+Qr3 r:=by simp[Qr3]
theorem Qsu(a b:List Ev):Qr3 (a++b)=Qr3 a+Qr3 b:=by simp[Qr3]
theorem Qrv(a:List Ev):0<=Qr3 a:=by unfold Qr3;omega
structure AlOk (d:Nat) (B K:Int) (s:Al):Prop where
 op:s.op.length=d
 ct:s.ct.length=d+1
 pa:s.pa.length=d
 opr:∀x∈s.op,0<=x/\x<s.o.length
 ctr:∀x∈s.ct,0<=x/\x<=K
 par:∀x∈s.pa,0<=x/\x<=K
 a0:0<=s.at_/\s.at_<=B
 la:0<=s.last/\s.last<=B
 ol:(s.o.length:Int)<=K
 dl:(d:Int)<=K
theorem QrE{l:List Int}{K x:Int}(h:∀x∈l,0<=x/\x<=K)(hK:0<=K)(hx:x∈QqY l):0<=x/\x<=K+1:=by
 rcases mem_append.1 hx with hx|hx
 ·have:=h x (dropLast_subset _ hx);omega
 ·obtain rfl:x=(l.getLast?.getD 0)+1:=by simpa using hx
  cases hl:l.getLast? with
  |none=>simp;omega
  |some y =>
   have:=h y (List.mem_of_getLast? hl)
   simp;omega
theorem Qrd{l:List Int}(h:l.length≠0):(QqY l).length=l.length:=by
 rw[QqY,length_append,List.length_dropLast,length_singleton];omega
theorem AlOk.last_ct{d:Nat}{B K:Int}{s:Al}(h:AlOk d B K s):0<=s.ct.getLast?.getD 0/\s.ct.getLast?.getD 0<=K:=by
 cases hl:s.ct.getLast? with
 |none =>
  have:=List.getLast?_eq_none_iff.1 hl
  have h2:=h.ct;rw[this]at h2;simp at h2
 |some y=>exact h.ctr y (List.mem_of_getLast? hl)
theorem AlOk.step{d:Nat}{B K:Int}{s:Al}{e:Ev}{r:List Ev}(h:AlOk d B K s)(hK:0<=K)(hn:QqZ (e::r) d)(hb:s.at_+e.b.length<=B):∃d',AlOk d' B (K+1) (QqP s e)/\QqZ r d':=by
 have hc:=h.last_ct;have hct:=h.ct;unfold QqP;rw[QqZ]at hn;split at hn
 ·rename_i h1
  refine⟨d+1,?_,hn⟩;rw[if_pos h1];refine⟨by simp[h.op],by simp[Qrd (l:=s.ct) (by omega),h.ct],by simp[h.pa],fun x hx=>?_,fun x hx=>?_,fun x hx=>?_,h.a0,h.la,?_,by have:=h.dl;omega⟩
  ·simp only[length_append,length_singleton]
   rcases mem_append.1 hx with hx|hx
   ·have:=h.opr x hx;omega
   ·obtain rfl:x=s.o.length:=by simpa using hx
    omega
  ·rcases mem_append.1 hx with hx|hx
   ·exact QrE h.ctr hK hx
   ·obtain rfl:x=0:=by simpa using hx
    omega
  ·rcases mem_append.1 hx with hx|hx
   ·have:=h.par x hx;omega
   ·obtain rfl:x=s.ct.getLast?.getD 0:=by simpa using hx
    omega
  ·have:=h.ol
   simp only[length_append,length_singleton];omega
 ·rename_i h1
  rw[if_neg h1];split at hn
  ·rename_i h3
   refine⟨d-1,?_,hn.2⟩;rw[if_pos h3];have h4:=hn.1;refine⟨by simp[h.op],by simp[h.ct];omega,by simp[h.pa],fun x hx=>?_,fun x hx=>?_,fun x hx=>?_,h.a0,h.la,?_,by have:=h.dl;omega⟩
   ·have:=h.opr x (dropLast_subset _ hx)
    simpa using this
   ·have:=h.ctr x (dropLast_subset _ hx);omega
   ·have:=h.par x (dropLast_subset _ hx);omega
   ·have:=h.ol;simp;omega
  ·rename_i h3
   rw[if_neg h3];have a1:=h.a0;have a2:=h.ol;split
   ·refine⟨d,⟨h.op,by simp[Qrd (l:=s.ct) (by omega),h.ct],h.pa,fun x hx=>?_,fun x hx=>QrE h.ctr hK hx,fun x hx=>by have:=h.par x hx;omega,?_,a1,?_,by have:=h.dl;omega⟩,hn⟩
    ·have:=h.opr x hx
     simp only[length_append,length_singleton];omega
    ·show 0<=s.at_+e.b.length/\s.at_+e.b.length<=B
     omega
    ·simp only[length_append,length_singleton];omega
   ·refine⟨d,⟨h.op,h.ct,h.pa,fun x hx=>?_,fun x hx=>by have:=h.ctr x hx;omega,fun x hx=>by have:=h.par x hx;omega,?_,a1,?_,by have:=h.dl;omega⟩,hn⟩
    ·have:=h.opr x hx
     show 0<=x/\x<((if _ then _ else _:List El).length:Int);split<;>simpa using this
    ·show 0<=s.at_+e.b.length/\s.at_+e.b.length<=B
     omega
    ·show((if _ then _ else _:List El).length:Int)<=K+1
     split<;>(try simp)<;>omega
theorem QrA{l:List Node}{m:Nat}:∀(ks:List Int),(∀k∈ks,∀r d,QqZ r d->QqZ (spF l m k false++r) d)->∀r d,QqZ r d->QqZ ((ks.flatMap fun k=>spF l m k false)++r) d
 | [],_,_,_,h=>h
 |k::ks,hk,r,d,h=>by
  rw[flatMap_cons,append_assoc];exact hk k mem_cons_self _ _ (QrA ks (fun x hx=>hk x (mem_cons_of_mem _ hx)) r d h)
theorem Qsd{l:List Node}:∀(m:Nat)(n:Int)(r:List Ev)(d:Nat),QqZ r d->QqZ (spF l m n false++r) d
 |0,_,_,_,h=>h
 |m+1,n,r,d,h=>by
  rw[spF];split
  ·exact h
  ·rw[if_neg (by decide),if_neg (by decide),append_assoc,append_assoc]
   show QqZ (⟨1,0,[]⟩::_) d;rw[QqZ,if_pos rfl];refine QrA _ (fun k _=>Qsd m k) _ _ ?_
   show QqZ (⟨3,0,[]⟩::r) (d+1);rw[QqZ,if_neg (by decide:¬(3:Int)=1),if_pos rfl]
   exact⟨by omega,h⟩
theorem Qtc{l:List Node}(n:Int):QqZ (spV l n true) 0:=by
 have e:spV l n true=(Qn l n).kids.flatMap (fun k=>spF l n.toNat k false)++[]:=by
  rw[spV,spF,if_neg (fun h=>absurd h.2 (by decide)),if_pos rfl,if_pos rfl];simp
 rw[e];exact QrA _ (fun k _=>Qsd _ k) [] 0 trivial
def QuF(g:Int->List Int->Int->List El):Prop:=∀n p f,∀e∈g n p f,∃s,e.path=p++s
theorem Qrh{g:Int->List Int->Int->List El}{l:List Node}(hg:QuF g):∀(ks:List Int)(p:List Int)(i f:Int),∀e∈Qrg g l ks p i f,∃j s,i<=j/\e.path=p++j::s
 | [],_,_,_,e,h=>by cases h
 |k::r,p,i,f,e,h=>by
  rw[Qrg]at h;rcases mem_append.1 h with h|h
  ·obtain⟨s,hs⟩:=hg _ _ _ e h
   exact⟨i,s,Int.le_refl i,by rw[hs,append_assoc];rfl⟩
  ·obtain⟨j,s,h1,h2⟩:=Qrh hg r p _ _ e h
   refine⟨j,s,?_,h2⟩;split at h1<;>omega
theorem Qru(l:List Node):∀m,QuF (elF l m)
 |0,_,_,_,e,h=>by cases h
 |m+1,n,p,f,e,h=>by
  rw[elF]at h;split at h
  ·obtain rfl:=mem_singleton.1 h
   exact⟨[],by simp⟩
  ·split at h
   ·rcases mem_cons.1 h with rfl|h
    ·exact⟨[],by simp⟩
    ·obtain⟨j,s,_,h2⟩:=Qrh (Qru l m) _ _ _ _ e h
     exact⟨j::s,h2⟩
   ·cases h
theorem QqU(l:List Node):∀r,QqO l none r=none
 | []=>rfl
 |_::_=>rfl
theorem QtZ{l:List Node}{n:Int}(h:¬QqN l n=true)(m:Nat)(p:List Int)(f:Int):elF l m n p f=[]:=by
 have h1:Q1f l n≠21/\Q1f l n≠9:=by simpa[QqN]using h
 cases m with
 |zero=>rfl
 |succ m=>rw[elF,if_neg h1.2,if_neg h1.1]
theorem Qs5(l:List Node)(a:List Int)(k:Int):Q1Z l (a++[k])=Q1Z l a+Q1c l k:=by simp[Q1Z]
theorem Qtv{l:List Node}{n:Int}:∀e∈Qso l n,∃j s,0<=j/\e.path=j::s:=fun e he=>Qrh (Qru l _) _ [] _ _ e he
section
open Tryz
def Qpv:List AV:=[.opt (.val (.pointer none)),.val (.int .i64 0),.val (.int .i64 0),.val (.int .i64 0),.opt (.val (.pointer none))]
theorem Qmr(l:List Node)(n:Int):BCall prog 61 [.agg ((Cur.root n).el (Q3 l))] [] (.tup [.agg Qpv,.val (.bool false)]) []:=by
 rw[Cur.el];refine fnN (cs0) func61 rfl fun _ _=>?_
 with_reducible refine cv1 (Q3 l) ?_
 refine⟨fun _=>.pure rfl ?_,fun h=>absurd (show true=false from h) (by decide)⟩
 exact⟨⟨.inr (.inr (.inl ⟨rfl,trivial⟩)),.inl rfl,.inl rfl,.inl rfl,.inr (.inr (.inl ⟨rfl,trivial⟩)),trivial⟩,.inl rfl,trivial⟩
theorem Qoy(l:List Node)(n f k:Int)(up:Cur):BCall prog 61 [.agg ((Cur.kid n f k up).el (Q3 l))] [] (.tup [.agg (up.el (Q3 l)),.val (.bool true)]) []:=by
 rw[Cur.el,Cur.el];have hU:Q56 (upO (Q3 l) up):=QcJ _ _;obtain⟨un,vo⟩:=exq up.n;obtain⟨uf,k5⟩:=exq up.f;obtain⟨uk,cu⟩:=exq up.k;have e:upO (Q3 l) (Cur.kid n f k up)=.ref [.ref [.slc 6 (Q3 l)],.val (.int .i64 un),.val (.int .i64 uf),.val (.int .i64 uk),.opt (upO (Q3 l) up)]:=by rw[vo,k5,cu];rfl
 rw[e,<-vo,<-k5,<-cu];show BCall _ _ [.agg [_,.val (.int .i64 n),.val (.int .i64 f),.val (.int .i64 k),_]] _ _ _;clear e vo k5 cu;refine fnN (cs0) func61 rfl fun _ _=>?_
 with_reducible refine cv2 (upO (Q3 l) up) (Q3 l) ?_
 exact⟨fun h=>absurd (show false=true from h) (by decide),fun _=>⟨⟨trivial,rfl⟩,⟨trivial,rfl,rfl,rfl,hU,trivial⟩,.pure rfl ⟨⟨.inl rfl,.inl rfl,.inl rfl,.inl rfl,.inl rfl,trivial⟩,.inl rfl,trivial⟩⟩⟩
def Q16(l:List Node):Cur->Int
 |.root n=>if Q1f l n=21 then 1 else 0
 |.kid n _ _ up=>(if Q1f l n=21 then 1 else 0)+Q16 l up
def Q2U:Cur->Nat
 |.root _=>1
 |.kid _ _ _ up=>Q2U up+1
def upC:Cur->Cur
 |.root n=>.root n
 |.kid _ _ _ up=>up
def Q4g:Cur->Bool
 |.root _=>false
 |.kid _ _ _ _=>true
def pA(N:List AV):Bool->AV
 |true=>.ref [.slc 6 N]
 |false=>.val (.pointer none)
def nI:Bool->Cur->Int
 |true,c=>c.n
 |false,_=>0
def fI:Bool->Cur->Int
 |true,c=>c.f
 |false,_=>0
def kI:Bool->Cur->Int
 |true,c=>c.k
 |false,_=>0
def uA(N:List AV):Bool->Cur->AV
 |true,c=>upO N c
 |false,_=>.val (.pointer none)
def QjF(N:List AV)(ok:Bool)(c:Cur):List AV:=[.opt (pA N ok),.val (.int .i64 (nI ok c)),.val (.int .i64 (fI ok c)),.val (.int .i64 (kI ok c)),.opt (uA N ok c)]
theorem Qq7(l:List Node)(c:Cur):BCall prog 61 [.agg (QjF (Q3 l) true c)] [] (.tup [.agg (QjF (Q3 l) (Q4g c) (upC c)),.val (.bool (Q4g c))]) []:=by
 cases c with
 |root n=>exact Qmr l n
 |kid n f k up=>exact Qoy l n f k up
end
def Qr5(l:List Node):List Int->Int
 | []=>0
 |x::r=>(if QqN l x=true then 1 else 0)+Qr5 l r
theorem Qsp(l:List Node):∀(a b:List Int),Qr5 l (a++b)=Qr5 l a+Qr5 l b
 | [],b=>by simp[Qr5]
 |x::a,b=>by rw[cons_append,Qr5,Qr5,Qsp l a b];omega
theorem QrM(l:List Node):∀(a:List Int),0<=Qr5 l a/\Qr5 l a<=a.length
 | []=>⟨Int.le_refl 0,Int.le_refl 0⟩
 |x::a=>by
  have:=QrM l a
  rw[Qr5,length_cons];split<;>omega
def QrD(l:List Node):Cur->List Int->Option (List Int×Int×Int)
 |.root _,_=>none
 |.kid _ _ k u,o=>if Q1f l u.n=21 then QrD l u (o++[Qr5 l ((Qg l u).take k.toNat)])else some (o.reverse,Qr5 l ((Qg l u).take k.toNat),u.n)
def Qra:Cur->List Int
 |.root _=>[]
 |.kid _ _ k u=>Qra u++[k]
def Qrr(l:List Node)(rt:Int)(c:Cur)(p:List Int):Bool:=match QqO l (QqQ l (.root rt) 0) p with
 |none=>false
 |some d=>d.n == c.n&&decide (Qra d=Qra c)
def ofO(l:List Node)(rt:Int)(c:Cur):List Int×Bool :=
 if QqN l c.n=true then(match QrD l c []with
  |none=>([],false)
  |some (o,n,u)=>(o,decide (n=0)&&(decide (u=rt)&&Qrr l rt c o)))
 else([],false)
theorem Qsh{l:List Node}:∀(ks:List Int)(n i k:Int),QqT l ks n i=some k->Qr5 l (ks.take (k-i).toNat)=n
 | [],_,_,_,h=>by cases h
 |x::r,n,i,k,h=>by
  have hr:=QqW _ _ _ _ h;rw[QqT]at h;by_cases hx:QqN l x=true
  ·rw[if_pos hx]at h
   by_cases hn:n=0
   ·rw[if_pos hn]at h
    obtain rfl:i=k:=by simpa using h
    rw[Int.sub_self,hn];rfl
   ·rw[if_neg hn]at h
    have h2:=QqW _ _ _ _ h;have ih:=Qsh r (n-1) (i+1) k h;rw[show(k-i).toNat=(k-(i+1)).toNat+1 by omega,List.take_succ_cons,Qr5,if_pos hx,ih];omega
  ·rw[if_neg hx]at h
   have h2:=QqW _ _ _ _ h;have ih:=Qsh r n (i+1) k h;rw[show(k-i).toNat=(k-(i+1)).toNat+1 by omega,List.take_succ_cons,Qr5,if_neg hx,ih];omega
theorem Qvd{l:List Node}:∀(ks:List Int)(k:Nat)(i:Int),k<ks.length->QqN l (ks[k]?.getD 0)=true->QqT l ks (Qr5 l (ks.take k)) i=some (i+k)
 | [],_,_,h,_=>by cases h
 |x::r,0,i,_,h=>by
  have h:QqN l x=true:=h;rw[QqT,if_pos h,if_pos (show Qr5 l (List.take 0 (x::r))=0 from rfl)];simp
 |x::r,k+1,i,hk,h=>by
  have ih:=Qvd r k (i+1) (by simpa using hk) h
  have hc:=QrM l (r.take k);rw[List.take_succ_cons,Qr5,QqT];split
  ·rw[if_neg (by omega),show 1+Qr5 l (r.take k)-1=Qr5 l (r.take k) by omega,ih];congr 1;omega
  ·rw[Int.zero_add,ih];congr 1;omega
theorem Qrn{l:List Node}{c0 c1:Cur}{x:Int}(h:QqQ l c0 x=some c1):∃k:Int,0<=k/\k<(Qg l c0).length/\c1=Q34 l c0 k/\Qr5 l ((Qg l c0).take k.toNat)=x/\QqN l c1.n=true:=by
 obtain⟨k,h1,rfl⟩:=Option.map_eq_some_iff.1 h;obtain⟨h2,h3,h4⟩:=QqW _ _ _ _ h1;have h5:=Qsh _ _ _ _ h1;rw[Int.sub_zero]at h4 h5;exact⟨k,h2,by omega,rfl,h5,h4⟩
theorem Qvi{l:List Node}{c:Cur}{k:Int}(h0:0<=k)(h1:k<(Qg l c).length)(he:QqN l (Q34 l c k).n=true):QqQ l c (Qr5 l ((Qg l c).take k.toNat))=some (Q34 l c k):=by
 have:=Qvd (l:=l) (Qg l c) k.toNat 0 (by omega) he
 rw[QqQ,this,Option.map_some,Int.zero_add,show((k.toNat:Nat):Int)=k by omega]
section
open Tryz
def pvI(k:Int):Int:=k + -1
theorem QtN(l:List Node)(hw:∀n,0<=Q1c l n)(n f k:Int)(u:Cur)(ok:CurOk l u)(hk:0<=k/\k<=1000000) :
  BCall prog 62 [.agg ((Cur.kid n f k u).el (Q3 l))] [] (.tup [.agg (dE l u (pvI k)),.val (.bool (dOk l u (pvI k)))]) []:=by
 have cB:=Qsr l hw n f k (-1) u ok hk (by omega)
 unfold pvI;unfold dE at cB ⊢;simp only[Cur.el]at cB ⊢;show BCall _ _ [.agg [.opt (.ref [.slc 6 (Q3 l)]),.val (.int .i64 n),.val (.int .i64 f),.val (.int .i64 k),.opt (upO (Q3 l) (Cur.kid n f k u))]] _ _ _;have cB:BCall prog 116 [.agg [.opt (.ref [.slc 6 (Q3 l)]),.val (.int .i64 n),.val (.int .i64 f),.val (.int .i64 k),.opt (upO (Q3 l) (Cur.kid n f k u))],.val (.int .i64 (-1))] [] (.tup [.agg [.opt (pE l u (k + -1)),.val (.int .i64 (nE l u (k + -1))),.val (.int .i64 (fE l u (k + -1))),.val (.int .i64 (kE l u (k + -1))),.opt (uE l u (k + -1))],.val (.bool (dOk l u (k + -1)))]) []:=cB;obtain⟨U,hU⟩:=exq (upO (Q3 l) (Cur.kid n f k u));rw[<-hU]at cB ⊢;clear hU;refine fnN (Qus (pE l u (k + -1)) (nE l u (k + -1)) (fE l u (k + -1)) (kE l u (k + -1)) (uE l u (k + -1)) (dOk l u (k + -1))) func62 rfl fun _ _=>?_
 with_reducible refine cv7 (pE l u (k + -1)) (nE l u (k + -1)) (fE l u (k + -1)) (kE l u (k + -1)) (uE l u (k + -1)) (dOk l u (k + -1)) (Q3 l) ?_
 exact⟨cB,.pure rfl ⟨⟨.inl rfl,.inl rfl,.inl rfl,.inl rfl,.inl rfl,trivial⟩,.inl rfl,trivial⟩⟩
theorem Qsi(l:List Node)(c:Cur):BCall prog 64 [.agg (c.el (Q3 l))] [] (.val (.int .i64 c.n)) []:=by
 rw[Cur.el];obtain⟨cn,vE⟩:=exq c.n;obtain⟨cf,vY⟩:=exq c.f;obtain⟨ck,vP⟩:=exq c.k;rw[<-vE,<-vY,<-vP];refine fnN (cs0) func64 rfl fun _ _=>?_
 with_reducible refine cv2 (upO (Q3 l) c) (Q3 l) ?_
 exact .pure rfl (.inl rfl)
theorem QtB(a b:List Int)(ha:a.length<=1000000)(hb:b.length<=1000000):BCall prog 119 [.slc 1 (Q9 a),.slc 1 (Q9 b)] [] (.val (.bool (decide (a=b)))) []:=by
 obtain⟨n,hn⟩:=QE a;obtain⟨m,hm⟩:=QE b;have cr:std.len (Q9 a)=n:=by show((Q9 a).length:Int)=n;rw[Q2w,hn.eq]
 have gN:std.len (Q9 b)=m:=by show((Q9 b).length:Int)=m;rw[Q2w,hm.eq]
 have qC:0<=n/\n<=1000000:=by rw[hn.eq];omega
 have ju:n=m↔a.length=b.length:=by rw[hn.eq,hm.eq];omega
 have j5:∀i:Int,0<=i->i<n->std.nth (std.cel (std.at_ (Q9 a) i)) 0=.val (.int .i64 (a[i.toNat]?.getD 0)):=fun i h0 h1=>QdH h0 (by rw[<-hn.eq];exact h1)
 have hbt:∀i:Int,0<=i->i<m->std.nth (std.cel (std.at_ (Q9 b) i)) 0=.val (.int .i64 (b[i.toNat]?.getD 0)):=fun i h0 h1=>QdH h0 (by rw[<-hm.eq];exact h1)
 have jH:∀i:Int,0<=i->i<n->n=m->a.take i.toNat=b.take i.toNat->(a.take (i+1).toNat=b.take (i+1).toNat↔a[i.toNat]?.getD 0=b[i.toNat]?.getD 0):=fun i h0 h1 h2 h3=>by
  have e1:=hn.eq;have e2:=hm.eq;rw[show(i+1).toNat=i.toNat+1 by omega]
  exact Qsc (by omega) (by omega) h3
 have qm:n=m->a.take n.toNat=b.take n.toNat->a=b:=fun h h2=>by
  have e1:=hn.eq;have e2:=hm.eq;rwa [List.take_of_length_le (by omega),List.take_of_length_le (by omega)]at h2
 obtain⟨R,hR⟩:=exq (decide (a=b));rw[<-hR];have hT:a=b->R=true:=fun h=>by rw[hR,h];simp
 have hF:¬a=b->R=false:=fun h=>by rw[hR];exact decide_eq_false h
 clear hR ha hb;refine fnN (cs0) func119 rfl fun _ _=>?_
 with_reducible refine cv2 (Q9 a) (Q9 b) ?_
 refine⟨fun h=>?_,fun h=>?_⟩
 ·have h:(!(std.len (Q9 a) == std.len (Q9 b)))=true:=h
  rw[cr,gN]at h;rw[hF (fun e=>by have:=ju.2 (congrArg List.length e);simp[this]at h)]
  exact .pure rfl (.inl rfl)
 ·have h:(!(std.len (Q9 a) == std.len (Q9 b)))=false:=h
  rw[cr,gN]at h;have ju:n=m:=by simpa using h
  refine Q1h (cs0) (Int) (fun i=>⟨[(0,.slc 1 (Q9 a)),(1,.slc 1 (Q9 b)),(12,.val (.int .i64 n)),(13,.val (.int .i64 i))],[]⟩) (fun i=>0<=i/\i<=n/\a.take i.toNat=b.take i.toNat) (fun i=>(n-i).toNat) 0 ?_ ?_ ?_
  ·exact⟨Int.le_refl 0,qC.1,by simp⟩
  ·refine⟨[],_,rfl,?_⟩
   exact eq1 cr
  ·rintro i ⟨jK,qh,hi⟩
   have jK:0<=i:=jK;have qh:i<=n:=qh;have hi:a.take i.toNat=b.take i.toNat:=hi;with_reducible refine cv2 (Q9 a) (Q9 b) ?_
   refine⟨fun h2=>?_,fun h2=>?_⟩
   ·have jL:i<n:=of_decide_eq_true h2
    have hx:=j5 i jK jL;have hy:=hbt i jK (ju ▸ jL);have hs:=jH i jK jL ju hi;refine⟨⟨jK,by show i<std.len (Q9 a);rw[cr];exact jL⟩,⟨QmM hx,trivial⟩,⟨jK,by show i<std.len (Q9 b);rw[gN,<-ju];exact jL⟩,⟨QmM hy,trivial⟩,fun h3=>?_,fun h3=>?_⟩
    ·have h3:(!(std.int (std.nth (std.cel (std.at_ (Q9 a) i)) 0) == std.int (std.nth (std.cel (std.at_ (Q9 b) i)) 0)))=true:=h3
     rw[Ql3 hx,Ql3 hy]at h3;rw[hF (fun e=>by rw[e]at h3;simp at h3)]
     with_reducible refine cv2 (Q9 a) (Q9 b) ?_
     exact .pure rfl (.inl rfl)
    ·have h3:(!(std.int (std.nth (std.cel (std.at_ (Q9 a) i)) 0) == std.int (std.nth (std.cel (std.at_ (Q9 b) i)) 0)))=false:=h3
     rw[Ql3 hx,Ql3 hy]at h3;refine⟨?_,i+1,⟨by omega,by omega,hs.2 (by simpa using h3)⟩,by omega,[],_,rfl,?_⟩
     ·show std.inR .i64 (i+1)
      rw[Qhr];omega
     ·exact eq0
   ·have jL:i=n:=by
     have h2:¬i<n:=of_decide_eq_false h2;omega
    rw[jL]at hi;rw[hT (qm ju hi),if_pos trivial];with_reducible refine cv2 (Q9 a) (Q9 b) ?_
    exact .pure rfl (.inl rfl)
def Qr9:Cur->List Int
 |.root _=>[]
 |.kid _ _ k u=>k::Qr9 u
theorem Qrm:∀c,Qra c=(Qr9 c).reverse
 |.root _=>rfl
 |.kid _ _ k u=>by rw[Qra,Qr9,List.reverse_cons,Qrm u]
theorem Qrp:∀c,(Qr9 c).length<Q2U c
 |.root _=>Nat.one_pos
 |.kid _ _ k u=>by have:=Qrp u;show(Qr9 u).length+1<Q2U u+1;omega
def Qr7(l:List AV):List AV:=l.reverse
theorem Qr1(l:List Int):Qr7 (Q9 l)=Q9 l.reverse:=by rw[Qr7,Q9,Q9,List.map_reverse]
def Quy(rv:List AV->List AV):Nat->List AV->List Ob->Option (AV×List Ob):=fun f args ob=>match f,args with
 |63,[.row 0 0]=>(match ob with
  | [.row t 1 false 0 xs]=>some (.tup [],[.row t 1 false 0 (rv xs)])
  |_=>none)
 |_,_=>none
def QuH(N:List AV):Option Cur->AV
 |none=>.box 0 0
 |some y=>.opt (upO N y)
def Qub(c:Cur):Option Cur->Cur
 |none=>c
 |some y=>upC y
theorem Qtx(l:List Node)(c:Cur)(hc:Q2U c<=1000000):BCall prog 120 [.agg (c.el (Q3 l))] [] (.slc 1 (Q9 (Qra c))) []:=by
 have jF:=Qrp c;obtain⟨R,hR⟩:=exq (Qr9 c);rw[Qrm,<-hR];rw[<-hR]at jF;rw[Cur.el];obtain⟨cn,vE⟩:=exq c.n;obtain⟨cf,vY⟩:=exq c.f;obtain⟨ck,vP⟩:=exq c.k;rw[<-vE,<-vY,<-vP];refine fnN (Quy Qr7) func120 rfl fun _ _=>?_
 with_reducible refine cv3 Qr7 (upO (Q3 l) c) (Q3 l) ?_
 refine Q1h (Quy Qr7) (Option Cur×List Int) (fun x=>⟨[(1,.box 0 0),(3,.row 1 0),(4,QuH (Q3 l) x.1)],[.box [.opt (.ref [.slc 6 (Q3 l)]),.val (.int .i64 cn),.val (.int .i64 cf),.val (.int .i64 ck),.opt (upO (Q3 l) c)],.row 3 1 false 0 (Q9 x.2)]⟩) (fun x=>x.2++Qr9 (Qub c x.1)=R/\(∀y,x.1=some y->Q4g y=true)) (fun x=>Q2U (Qub c x.1)+(if x.1.isSome=true then 0 else 1)) (none,[]) ?_ ?_ ?_
 ·exact⟨by rw[hR];rfl,fun y h=>by cases h⟩
 ·refine⟨[some 0,none],_,rfl,?_⟩
  exact eq0
 ·rintro⟨o,xs⟩ ⟨hJ,hk⟩
  have jq:xs.length<=1000000:=by
   have:=congrArg List.length hJ
   rw[length_append]at this;simp only at this
   omega
  have cR:=Qs0 xs jq;rw[<-Qr1]at cR
  have cd:∀v:Int,std.bnd (Q9 xs) [.val (.int .i64 v)]:=fun v=>by
   show(Q9 xs).length+1<=1000000000
   rw[Q2w];omega
  have j4:∀v:Int,std.app (Q9 xs) [.val (.int .i64 v)]=Q9 (xs++[v]):=fun v=>(Q4T xs [v]).symm
  cases o with
  |none =>
   have hJ:xs++Qr9 c=R:=hJ;obtain⟨U,hU⟩:=exq (upO (Q3 l) c);rw[<-hU];show Tree.ok _ _ _ _ _ _ (Q4 std tys _ _ _ _ ⟨[(1,.box 0 0),(3,.row 1 0),(4,.box 0 0)],_⟩);with_reducible refine cv3 Qr7 (Q3 l) (Q9 xs) ?_
   refine⟨fun h=>⟨cd ck,(some c,xs++[ck]),⟨?_,fun y h9=>?_⟩,?_,[some 0,some 1],_,rfl,?_⟩,fun h=>?_⟩
   ·cases c with
    |root n=>rw[hU]at h;exact absurd (show(!Q9k (.val (.pointer none)))=true from h) (by decide)
    |kid n f k u =>
     show(xs++[ck])++Qr9 u=R
     rw[<-hJ,vP,append_assoc];rfl
   ·obtain rfl:c=y:=by simpa using h9
    cases c with
    |root n=>rw[hU]at h;exact absurd (show(!Q9k (.val (.pointer none)))=true from h) (by decide)
    |kid n f k u=>rfl
   ·cases c with
    |root n=>rw[hU]at h;exact absurd (show(!Q9k (.val (.pointer none)))=true from h) (by decide)
    |kid n f k u =>
     show Q2U u+0<Q2U u+1+1;omega
   ·subst hU
    have e:=j4 ck;exact eq1 e
   ·have jj:Qr9 c=[]:=by
     cases c with
     |root n=>rfl
     |kid n f k u=>rw[hU]at h;exact absurd (show true=false from h) Bool.noConfusion
    rw[jj,append_nil]at hJ;rw[if_pos trivial];with_reducible refine cv3 Qr7 (Q3 l) (Q9 xs) ?_
    refine⟨cR,.pure rfl (.inl ?_)⟩;rw[Qr1,hJ]
  |some y =>
   cases y with
   |root n=>exact absurd (hk _ rfl) Bool.false_ne_true
   |kid n f k u =>
    have hJ:xs++Qr9 u=R:=hJ;obtain⟨un,vo⟩:=exq u.n;obtain⟨uf,k5⟩:=exq u.f;obtain⟨uk,cu⟩:=exq u.k;have e:QuH (Q3 l) (some (.kid n f k u))=.opt (.ref [.ref [.slc 6 (Q3 l)],.val (.int .i64 un),.val (.int .i64 uf),.val (.int .i64 uk),.opt (upO (Q3 l) u)]):=by rw[vo,k5,cu];rfl
    simp only
    rw[e];obtain⟨V,hV⟩:=exq (upO (Q3 l) u);rw[<-hV];with_reducible refine cv4 Qr7 (upO (Q3 l) c) (Q3 l) (Q9 xs) ?_
    have hVp:Q56 V:=by rw[hV];exact QcJ _ _
    refine⟨⟨trivial,rfl⟩,⟨hVp,trivial⟩,fun h=>⟨⟨trivial,rfl⟩,⟨QmM rfl,trivial⟩,cd uk,⟨trivial,rfl⟩,⟨hVp,trivial⟩,(some u,xs++[uk]),⟨?_,fun y h9=>?_⟩,?_,[some 0,some 1],_,rfl,?_⟩,fun h=>?_⟩
    ·cases u with
     |root n=>rw[hV]at h;exact absurd (show false=true from h) Bool.noConfusion
     |kid n f k w =>
      show(xs++[uk])++Qr9 w=R
      rw[<-hJ,cu,append_assoc];rfl
    ·obtain rfl:u=y:=by simpa using h9
     cases u with
     |root n=>rw[hV]at h;exact absurd (show false=true from h) Bool.noConfusion
     |kid n f k w=>rfl
    ·cases u with
     |root n=>rw[hV]at h;exact absurd (show false=true from h) Bool.noConfusion
     |kid n f k w =>
      show Q2U w+0<Q2U w+1+0;omega
    ·subst hV
     have e:=j4 uk;exact eq1 e
    ·have jj:Qr9 u=[]:=by
      cases u with
      |root n=>rfl
      |kid n f k w=>rw[hV]at h;exact absurd (show true=false from h) Bool.noConfusion
     rw[jj,append_nil]at hJ;rw[if_pos trivial];with_reducible refine cv4 Qr7 (upO (Q3 l) c) (Q3 l) (Q9 xs) ?_
     refine⟨cR,.pure rfl (.inl ?_)⟩;rw[Qr1,hJ]
theorem QrK{l:List Node}{c c':Cur}{x:Int}(h:QqQ l c x=some c'):Q2U c'=Q2U c+1:=by
 obtain⟨k,_,_,rfl,_⟩:=Qrn h;rfl
theorem QrT{l:List Node}:∀(p:List Int)(c c':Cur),QqO l (some c) p=some c'->Q2U c'=Q2U c+p.length
 | [],c,c',h=>by
  obtain rfl:c=c':=by simpa[QqO]using h
  rfl
 |x::p,c,c',h=>by
  rw[QqO]at h;split at h
  ·cases h
  ·cases hs:QqQ l c x with
   |none=>rw[hs,QqU]at h;cases h
   |some d =>
    rw[hs]at h;rw[QrT p d c' h,QrK hs,length_cons];omega
theorem Qsa{l:List Node}{rt:Int}{p:List Int}{d:Cur}(h:QqO l (QqQ l (.root rt) 0) p=some d):Q2U d=p.length+2:=by
 cases hs:QqQ l (.root rt) 0 with
 |none=>rw[hs,QqU]at h;cases h
 |some c =>
  rw[hs]at h;rw[QrT p c d h,QrK hs];show 1+1+p.length=_;omega
def Qug(q:AV)(n f k:Int)(u:AV)(ok:Bool)(P D:List AV)(eq:List AV->List AV->Bool)(cn:Int):Nat->List AV->List Ob->Option (AV×List Ob):=fun g args _=>match g,args with
 |15,[.agg _,.slc 1 _]=>some (.tup [.agg [.opt q,.val (.int .i64 n),.val (.int .i64 f),.val (.int .i64 k),.opt u],.val (.bool ok)],[])
 |1000018,_=>some (.val (.int .i64 n),[])
 |1000020,_=>some (.val (.int .i64 cn),[])
 |1000025,_=>some (.slc 1 D,[])
 |1000027,_=>some (.slc 1 P,[])
 |119,[.slc 1 a,.slc 1 b]=>some (.val (.bool (eq a b)),[])
 |_,_=>none
def Qu5(D P:List Int)(_ _:List AV):Bool:=decide (D=P)
theorem QtX(t:Txt)(m:Mk)(l:List Node)(hl:(QL m).n=l)(b:List UInt8)(C:Nat)(ha:Ar l)(ho:∀x∈l,Q4Q x)(hb:b.length<=1000000)(hC:C<=1000000)(hc:QuV l b C (.root m.n.length))(c:Cur)(hh:Q2U c<=1000000)(p:List Int)(hp:p.length<=900000)(qX:∀x∈p,x<=9223372036854775807) :
  BCall prog 65 [Q8c t m,.agg (c.el (Q3 l)),.slc 1 (Q9 p)] [] (.val (.bool (Qrr l m.n.length c p))) []:=by
 have cE:=QsB t m l hl b C ha ho hb hC hc p (by omega) qX
 have jH:Qrr l m.n.length c p=(match QqO l (QqQ l (.root m.n.length) 0) p with|none=>false|some d=>d.n == c.n&&decide (Qra d=Qra c)):=rfl
 have yA:∀d,QqO l (QqQ l (.root m.n.length) 0) p=some d->Q2U d=p.length+2:=fun d h=>Qsa h
 obtain⟨E,hE⟩:=exq (QqO l (QqQ l (.root m.n.length) 0) p);rw[<-hE]at cE jH yA;rw[jH];have cN:=Qsi l c;have cP:=Qtx l c hh;clear jH hE;unfold Q8c at cE ⊢;rw[hl]at cE ⊢;rw[Cur.el]at cN cP ⊢;obtain⟨cn,vE⟩:=exq c.n;obtain⟨cf,vY⟩:=exq c.f;obtain⟨ck,vP⟩:=exq c.k;rw[<-vE,<-vY,<-vP]at cN cP ⊢;obtain⟨PL,za⟩:=exq (Qra c);rw[<-za]at cP ⊢
 have jv:PL.length<=1000000:=by
  rw[za,Qrm,List.length_reverse];have:=Qrp c
  omega
 obtain⟨rt,q7⟩:=exq (m.n.length:Int);rw[<-q7]at cE ⊢;clear hl q7 hc vE vY vP za;cases E with
 |none =>
  simp only[oC]at cE;refine fnO false (Qug (oP (Q3 l) none) 0 0 0 (oU (Q3 l) none) false (Q9 PL) (Q9 PL) (Qu5 PL PL) cn) (fun id=>match id with|2=> .of [0,1,2,4,3,5,6,7,8,9,11,10,12,13,14,15]|_=>.nil) func65 rfl fun _ _=>?_
  with_reducible refine Qqc (oP (Q3 l) none) (oU (Q3 l) none) (Q9 PL) (Qu5 PL PL) (upO (Q3 l) c) (Q3 l) (Q0 t.r) (Q9 t.off) (Qk m.d) (Q9 p) ?_
  exact⟨cE,.pure rfl (.inl rfl)⟩
 |some d =>
  have cNd:=Qsi l d;have cPd:=Qtx l d (by rw[yA d rfl];omega)
  have kj:(Qra d).length<=1000000:=by
   rw[Qrm,List.length_reverse];have:=Qrp d
   have:=yA d rfl
   omega
  have cQ:=QtB (Qra d) PL kj jv;obtain⟨DL,hDL⟩:=exq (Qra d);rw[<-hDL]at cPd cQ;simp only[oC]at cE;have e:(match some d with|none=>false|some d=>d.n == cn&&decide (Qra d=PL))=(d.n == cn&&decide (DL=PL)):=by rw[hDL]
  rw[e];have cE:BCall _ _ _ _ (.tup [.agg [.opt (.ref [.slc 6 (Q3 l)]),.val (.int .i64 d.n),.val (.int .i64 d.f),.val (.int .i64 d.k),.opt (upO (Q3 l) d)],.val (.bool true)]) _:=cE;rw[Cur.el]at cNd cPd;obtain⟨dn,zi⟩:=exq d.n;obtain⟨df,nk⟩:=exq d.f;obtain⟨dk,hdk⟩:=exq d.k;rw[<-zi,<-nk,<-hdk]at cNd cPd cE;rw[<-zi];clear zi nk hdk hDL e yA;refine fnO false (Qug (.ref [.slc 6 (Q3 l)]) dn df dk (upO (Q3 l) d) true (Q9 PL) (Q9 DL) (Qu5 DL PL) cn) (fun id=>match id with|2=> .of [0,1,2,4,3,5,6,7,8,9,11,10,12,13,14,15]|_=>.nil) func65 rfl fun _ _=>?_
  with_reducible refine Qqc (upO (Q3 l) d) (Q9 PL) (Q9 DL) (Qu5 DL PL) (upO (Q3 l) c) (Q3 l) (Q0 t.r) (Q9 t.off) (Qk m.d) (Q9 p) ?_
  refine⟨cE,cNd,cN,fun h=>⟨cPd,cP,cQ,.pure rfl (.inl ?_)⟩,fun h=>.pure rfl (.inl ?_)⟩
  ·have h:(dn == cn)=true:=h
   rw[h];rfl
  ·have h:(dn == cn)=false:=h
   rw[h];rfl
def QrY(l:List Node)(b:List UInt8)(C:Nat):Cur->Prop
 |.root _=>True
 |.kid _ _ k u=>0<=k/\k<(Qg l u).length/\QuV l b C u/\QrY l b C u
def QsM(el:Int->Bool)(kd:Int->Int)(q:AV)(un uf uk:Int)(uu:AV)(ib:Bool)(p0:Int->AV)(n0 f0 k0:Int->Int)(u0:Int->AV)(ok:Int->Bool)(pv:Int->Int)(rv:List AV->List AV)(sb:Bool):Nat->List AV->List Ob->Option (AV×List Ob):=fun g args ob=>match g,args with
 |60,[.agg [_,.val (.int .i64 n),_,_,_]]=>some (.val (.bool (el n)),[])
 |61,[.agg _]=>some (.tup [.agg [.opt q,.val (.int .i64 un),.val (.int .i64 uf),.val (.int .i64 uk),.opt uu],.val (.bool ib)],[])
 |62,[.agg [_,_,_,.val (.int .i64 k),_]]=>some (.tup [.agg [.opt (p0 (pv k)),.val (.int .i64 (n0 (pv k))),.val (.int .i64 (f0 (pv k))),.val (.int .i64 (k0 (pv k))),.opt (u0 (pv k))],.val (.bool (ok (pv k)))],[])
 |55,[.agg [_,.val (.int .i64 n),_,_,_]]=>some (.val (.int .i64 (kd n)),[])
 |64,[.agg [_,.val (.int .i64 n),_,_,_]]=>some (.val (.int .i64 n),[])
 |63,[.row 0 0]=>(match ob with
  | [.row t 1 false 0 xs]=>some (.tup [],[.row t 1 false 0 (rv xs)])
  |_=>none)
 |65,_=>some (.val (.bool sb),[])
 |_,_=>none
def Quz:Nat->List AV->List Ob->Option (AV×List Ob):=fun g _ _=>match g with
 |60=>some (.val (.bool true),[])
 |_=>none
def QuA:Nat->List AV->List Ob->Option (AV×List Ob):=fun g _ _=>match g with
 |60=>some (.val (.bool false),[])
 |_=>none
def Qu3(R:Option (List Int×Int×Int))(rt:Int)(st:List Int->Bool):AV:=match R with
 |none=>.tup [.slc 1 (Q9 []),.val (.bool false)]
 |some (o,n,u)=>.tup [.slc 1 (Q9 o),.val (.bool (decide (n=0)&&(decide (u=rt)&&st o)))]
def QuD(l:List Node)(st:List Int->Bool)(x:Cur×List Int):Nat->List AV->List Ob->Option (AV×List Ob) :=
 QsM (QqN l) (Q1f l) (pA (Q3 l) (Q4g x.1)) (nI (Q4g x.1) (upC x.1)) (fI (Q4g x.1) (upC x.1)) (kI (Q4g x.1) (upC x.1)) (uA (Q3 l) (Q4g x.1) (upC x.1)) (Q4g x.1)
  (pE l (upC x.1)) (nE l (upC x.1)) (fE l (upC x.1)) (kE l (upC x.1)) (uE l (upC x.1)) (dOk l (upC x.1)) pvI Qr7 (st x.2.reverse)
theorem QuJ(t:Txt)(m:Mk)(l:List Node)(hl:(QL m).n=l)(b:List UInt8)(C:Nat)(ha:Ar l)(hb:b.length<=1000000)(hC:C<=1000000)(c:Cur)(hu:QrY l b C c)(hh:Q2U c<=900000)(st:List Int->Bool)
  (jH:∀p:List Int,p.length<=900000->(∀x∈p,0<=x/\x<=1000000)->BCall prog 65 [Q8c t m,.agg (c.el (Q3 l)),.slc 1 (Q9 p)] [] (.val (.bool (st p))) []) (he:QqN l c.n=true) :
  BCall prog 25 [Q8c t m,.agg (c.el (Q3 l))] [] (Qu3 (QrD l c []) m.n.length st) []:=by
 have cL:=Qrj l c;rw[he]at cL;obtain⟨R,hR⟩:=exq (QrD l c []);rw[<-hR];obtain⟨rt,q7⟩:=exq (m.n.length:Int);unfold Q8c at jH ⊢;rw[hl]at jH ⊢;rw[<-q7]at jH ⊢;rw[Cur.el]at cL jH ⊢;obtain⟨cn,vE⟩:=exq c.n;obtain⟨cf,vY⟩:=exq c.f;obtain⟨ck,vP⟩:=exq c.k;rw[<-vE,<-vY,<-vP]at cL jH ⊢;have jY:QqN l cn=true:=by rw[vE];exact he
 refine fnO false (Quz) (fun id=>match id with|18=> .of [0,1,2,3,4,6,7,5,8,9,10,11,12,13,14,15,16,17]|_=>.nil) func25 rfl fun _ _=>?_
 with_reducible refine cv7 (upO (Q3 l) c) (Q3 l) (Q0 t.r) (Q9 t.off) (Qk m.d) t.kind t.bom ?_
 refine⟨cL,fun h=>absurd (show false=true from h) Bool.noConfusion,fun _=>?_⟩
 refine Q46 (cs:=QuD l st) (ord:=fun id=>match id with|18=> .of [0,1,2,3,4,6,7,5,8,9,10,11,12,13,14,15,16,17]|_=>.nil) Q6k (by kernel_rfl) (by kernel_rfl) (by kernel_rfl) (X:=Cur×List Int) (fun x=>⟨[(2,.box 0 0),(3,.box 1 0),(6,.row 2 0),(7,.box 3 0)],[.box [.val (.int .i64 t.kind),.val (.int .i64 t.bom),.slc 1 (Q0 t.r),.slc 1 (Q9 t.off),.ref [.slc 6 (Q3 l)],.val (.int .i64 rt),.slc 3 (Qk m.d)],.box [.opt (.ref [.slc 6 (Q3 l)]),.val (.int .i64 cn),.val (.int .i64 cf),.val (.int .i64 ck),.opt (upO (Q3 l) c)],.row 3 1 false 0 (Q9 x.2),.box [.opt (.ref [.slc 6 (Q3 l)]),.val (.int .i64 x.1.n),.val (.int .i64 x.1.f),.val (.int .i64 x.1.k),.opt (upO (Q3 l) x.1)]]⟩) (fun x=>QrD l x.1 x.2=R/\QrY l b C x.1/\x.2.length+Q2U x.1<=900000/\∀y∈x.2,0<=y/\y<=1000000) (fun x=>Q2U x.1) (c,[]) ?_ ?_ ?_
 ·exact⟨hR.symm,hu,by simpa using hh,fun y h=>by cases h⟩
 ·refine⟨[some 0,some 1,none,some 2],_,rfl,?_⟩
  subst vE vY vP;exact eq0
 ·rintro⟨x,out⟩ ⟨hJ,hux,yr,qX⟩
  have hJ:QrD l x out=R:=hJ;have hux:QrY l b C x:=hux;have yr:out.length+Q2U x<=900000:=yr;have qX:∀y∈out,0<=y/\y<=1000000:=qX;have cU:=Qq7 l x;cases x with
  |root n =>
   show Tree.ok _ _ _ _ _ _ (Q4 std tys (QsM (QqN l) (Q1f l) (.val (.pointer none)) 0 0 0 (.val (.pointer none)) false (pE l (.root n)) (nE l (.root n)) (fE l (.root n)) (kE l (.root n)) (uE l (.root n)) (dOk l (.root n)) pvI Qr7 (st out.reverse)) _ _ _ ⟨[(2,.box 0 0),(3,.box 1 0),(6,.row 2 0),(7,.box 3 0)],[_,_,_,.box [.opt (.ref [.slc 6 (Q3 l)]),.val (.int .i64 n),.val (.int .i64 0),.val (.int .i64 0),.opt (.val (.pointer none))]]⟩);generalize jY:QqN l=el;generalize jD:Q1f l=kd;generalize pX:pE l (.root n)=p0;generalize jn:nE l (.root n)=n0;generalize qf:fE l (.root n)=f0;generalize qS:kE l (.root n)=k0;generalize xD:uE l (.root n)=u0;generalize jC:dOk l (.root n)=ok;generalize kU:pvI=pv;with_reducible refine Qqc Qr7 (st out.reverse) (upO (Q3 l) c) (Q3 l) (Q0 t.r) (Q9 t.off) (Qk m.d) t.kind t.bom (Q9 out) ?_
   subst jY jD pX jn qf qS xD jC kU;refine⟨cU,fun _=>?_,fun h=>absurd (show true=false from h) Bool.noConfusion⟩
   with_reducible refine cv8 (upO (Q3 l) c) (Q3 l) (Q0 t.r) (Q9 t.off) (Qk m.d) t.kind t.bom (Q9 out) ?_
   rw[<-hJ];exact .pure rfl ⟨.inr (.inl ⟨rfl,_,rfl⟩),.inl rfl,trivial⟩
  |kid n f k u =>
   obtain⟨qS,jU,hcu,huu⟩:=hux;have jC:=hcu.1.ok ha (by omega) hC
   obtain⟨z,hz⟩:=QE (Qg l u);have hz9:z<=1000000:=by rw[hz.eq];have:=jC.n;omega
   have hkz:k<z:=by rw[hz.eq];exact jU
   have cP:=QtN l ha.ok.w n f k u jC ⟨qS,by omega⟩
   have cR:=Qs0 out (by omega)
   rw[<-Qr1]at cR;have cS:=jH out.reverse (by rw[List.length_reverse];omega) (fun y hy=>qX y (List.mem_reverse.1 hy))
   have cK:=Qrc l u;have cN:=Qsi l u;have jL:∀j:Int,0<=j->j<z->dOk l u j=true:=fun j h0 h1=>decide_eq_true ⟨h0,by rw[<-hz.eq];exact h1⟩
   have xY:∀j:Int,¬0<=j->dOk l u j=false:=fun j h1=>decide_eq_false fun h=>h1 h.1
   have jY:∀j:Int,0<=j->j<z->BCall prog 60 [.agg (dE l u j)] [] (.val (.bool (QqN l (nE l u j)))) []:=fun j h0 h1=>by
    rw[Qrx (jL j h0 h1),nE,if_pos (jL j h0 h1)];exact Qrj l _
   have k6:∀j:Int,0<=j->j<z->BCall prog 62 [.agg (dE l u j)] [] (.tup [.agg (dE l u (pvI (kE l u j))),.val (.bool (dOk l u (pvI (kE l u j))))]) []:=fun j h0 h1=>by
    rw[Qrx (jL j h0 h1),kE,if_pos (jL j h0 h1)];exact QtN l ha.ok.w _ _ j u jC ⟨h0,by omega⟩
   have hkE:∀j:Int,0<=j->j<z->kE l u j=j:=fun j h0 h1=>by rw[kE,if_pos (jL j h0 h1)]
   obtain⟨ce,v9⟩:=exq (fun j=>Qr5 l ((Qg l u).take j.toNat):Int->Int)
   have hce0:ce 0=0:=by rw[v9];rfl
   have nQ:∀j,0<=ce j/\ce j<=1000000:=fun j=>by
    have h1:=QrM l ((Qg l u).take j.toNat);rw[List.length_take]at h1;have:=hz.eq
    rw[v9];show 0<=Qr5 l ((Qg l u).take j.toNat)/\Qr5 l ((Qg l u).take j.toNat)<=1000000;omega
   have hces:∀j:Int,0<=j->j<z->ce (j+1)=ce j+(if QqN l (nE l u j)=true then 1 else 0):=fun j h0 h1=>by
    have zL:j.toNat<(Qg l u).length:=by have:=hz.eq;omega
    have e:nE l u j=(Qg l u)[j.toNat]:=by
     rw[nE,if_pos (jL j h0 h1)];show(Qg l u)[j.toNat]?.getD 0=_
     rw[getElem?_eq_getElem zL];rfl
    rw[v9,e];show Qr5 l ((Qg l u).take (j+1).toNat)=_;rw[show(j+1).toNat=j.toNat+1 by omega,List.take_add_one,getElem?_eq_getElem zL,Qsp]
    show _+((if QqN l (Qg l u)[j.toNat]=true then 1 else 0)+0)=_;rw[Int.add_zero]
   have j9:(if Q1f l u.n=21 then QrD l u (out++[ce k])else some (out.reverse,ce k,u.n))=R:=by rw[v9];exact hJ
   have hhu:Q2U u+1+out.length<=900000:=by
    have:Q2U (.kid n f k u)=Q2U u+1:=rfl
    omega
   have hkx:=hkE k qS hkz;clear hJ v9 yr cU;show Tree.ok _ _ _ _ _ _ (Q4 std tys (QsM (QqN l) (Q1f l) (.ref [.slc 6 (Q3 l)]) u.n u.f u.k (upO (Q3 l) u) true (pE l u) (nE l u) (fE l u) (kE l u) (uE l u) (dOk l u) pvI Qr7 (st out.reverse)) _ _ _ ⟨[(2,.box 0 0),(3,.box 1 0),(6,.row 2 0),(7,.box 3 0)],[_,_,_,.box [.opt (.ref [.slc 6 (Q3 l)]),.val (.int .i64 n),.val (.int .i64 f),.val (.int .i64 k),.opt (upO (Q3 l) (.kid n f k u))]]⟩);have cU:=Qoy l n f k u;simp only[Cur.el,dE]at cU cP jY k6 cK cN;obtain⟨un,vo⟩:=exq u.n;obtain⟨uf,k5⟩:=exq u.f;obtain⟨uk,cu⟩:=exq u.k;rw[<-vo,<-k5,<-cu]at cU cK cN ⊢;rw[<-vo]at j9;obtain⟨X,hX⟩:=exq (upO (Q3 l) (.kid n f k u));rw[<-hX]at cU cP ⊢;generalize qy:st out.reverse=sb;generalize hU:upO (Q3 l) c=U;generalize zT:t.kind=TK;generalize gY:t.bom=TM;generalize gZ:Q0 t.r=RR;generalize hO:Q9 t.off=O;generalize vT:Qk m.d=D';generalize zU:Q9 out=XS;generalize hV:upO (Q3 l) u=V;generalize jY:QqN l=el;with_reducible refine Qqc (Q1f l) (pE l u) (nE l u) (fE l u) (kE l u) (uE l u) (dOk l u) pvI Qr7 (Q3 l) ?_
   subst qy hU zT gY gZ hO vT zU hV jY;refine⟨cU,fun h=>absurd (show false=true from h) Bool.noConfusion,fun _=>⟨cP,?_⟩⟩
   refine Quc (QsM (QqN l) (Q1f l) (.ref [.slc 6 (Q3 l)]) un uf uk (upO (Q3 l) u) true (pE l u) (nE l u) (fE l u) (kE l u) (uE l u) (dOk l u) pvI Qr7 (st out.reverse)) (fun id=>match id with|18=> .of [0,1,2,3,4,6,7,5,8,9,10,11,12,13,14,15,16,17]|_=>.nil) (Int×Int) (fun y=>⟨[(2,.box 0 0),(3,.box 1 0),(6,.row 2 0),(7,.box 3 0),(8,.box 4 0),(10,.val (.int .i64 y.2)),(11,.box 5 0),(12,.val (.bool (dOk l u y.1)))],[.box [.val (.int .i64 t.kind),.val (.int .i64 t.bom),.slc 1 (Q0 t.r),.slc 1 (Q9 t.off),.ref [.slc 6 (Q3 l)],.val (.int .i64 rt),.slc 3 (Qk m.d)],.box [.opt (.ref [.slc 6 (Q3 l)]),.val (.int .i64 cn),.val (.int .i64 cf),.val (.int .i64 ck),.opt (upO (Q3 l) c)],.row 3 1 false 0 (Q9 out),.box [.opt (.ref [.slc 6 (Q3 l)]),.val (.int .i64 n),.val (.int .i64 f),.val (.int .i64 k),.opt X],.box [.opt (.ref [.slc 6 (Q3 l)]),.val (.int .i64 un),.val (.int .i64 uf),.val (.int .i64 uk),.opt (upO (Q3 l) u)],.box [.opt (pE l u y.1),.val (.int .i64 (nE l u y.1)),.val (.int .i64 (fE l u y.1)),.val (.int .i64 (kE l u y.1)),.opt (uE l u y.1)]]⟩) (fun y=>-1<=y.1/\y.1<z/\0<=y.2/\y.2+ce (y.1+1)=ce k) (fun y=>(y.1+1).toNat) (pvI k,0) ?_ ?_ ?_
   ·refine⟨?_,?_,Int.le_refl 0,?_⟩
    ·show -1<=k + -1;omega
    ·show k + -1<z;omega
    ·show 0+ce (k + -1+1)=ce k
     rw[show k + -1+1=k by omega];omega
   ·refine⟨[some 0,some 1,some 2,some 3,some 4,some 5],_,rfl,?_⟩
    exact eq0
   ·rintro⟨j,e⟩ ⟨z9,vj,he0,pU⟩
    have z9:-1<=j:=z9;have vj:j<z:=vj;have he0:0<=e:=he0;have pU:e+ce (j+1)=ce k:=pU;have hTk:=nQ k;have hTj:=nQ (j+1);generalize qy:st out.reverse=sb;generalize hU:upO (Q3 l) c=U;generalize zT:t.kind=TK;generalize gY:t.bom=TM;generalize gZ:Q0 t.r=RR;generalize hO:Q9 t.off=O;generalize vT:Qk m.d=D';generalize zU:Q9 out=XS;generalize hV:upO (Q3 l) u=V;generalize jY:QqN l=el;with_reducible refine Qqc (Q1f l) (pE l u) (nE l u) (fE l u) (kE l u) (uE l u) (dOk l u) pvI Qr7 (Q3 l) ?_
    subst qy hU zT gY gZ hO vT zU hV jY;refine⟨fun h=>?_,fun h=>?_⟩
    ·have hjp:0<=j:=by
      by_cases h9:0<=j
      ·exact h9
      ·rw[xY j h9]at h;exact absurd h Bool.false_ne_true
     have yH:=hkE j hjp vj;have cx:=k6 j hjp vj;have cl:=jY j hjp vj;have hs:=hces j hjp vj;rw[yH]at cx cl;rw[yH];have kU:pvI j+1=j:=by show j + -1+1=j;omega
     refine⟨cl,fun h2=>⟨?_,cx,(pvI j,e+1),⟨by show -1<=j + -1;omega,by show j + -1<z;omega,by show 0<=e+1;omega,?_⟩,by show(pvI j+1).toNat<(j+1).toNat;rw[kU];omega,[some 0,some 1,some 2,some 3,some 4,some 6],_,rfl,?_⟩,fun h2=>⟨cx,(pvI j,e),⟨by show -1<=j + -1;omega,by show j + -1<z;omega,he0,?_⟩,by show(pvI j+1).toNat<(j+1).toNat;rw[kU];omega,[some 0,some 1,some 2,some 3,some 4,some 6],_,rfl,?_⟩⟩
     ·show std.inR .i64 (e+1)
      rw[Qhr];omega
     ·show e+1+ce (pvI j+1)=ce k
      rw[kU];rw[if_pos h2]at hs;omega
     ·exact eq0
     ·show e+ce (pvI j+1)=ce k
      rw[kU];have h2:QqN l (nE l u j)=false:=h2;rw[if_neg (by rw[h2];exact Bool.false_ne_true)]at hs
      omega
     ·exact eq0
    ·have hjm:j=-1:=by
      by_cases h9:0<=j
      ·rw[jL j h9 vj]at h;exact absurd h.symm Bool.false_ne_true
      ·omega
     have pU:e=ce k:=by
      rw[hjm]at pU;have e2:ce (-1+1)=0:=hce0;omega
     rw[if_pos trivial];generalize qy:st out.reverse=sb;generalize hU:upO (Q3 l) c=U;generalize zT:t.kind=TK;generalize gY:t.bom=TM;generalize gZ:Q0 t.r=RR;generalize hO:Q9 t.off=O;generalize vT:Qk m.d=D';generalize zU:Q9 out=XS;generalize hV:upO (Q3 l) u=V;generalize jY:QqN l=el;with_reducible refine Qqc (Q1f l) (pE l u) (nE l u) (fE l u) (kE l u) (uE l u) (dOk l u) pvI Qr7 (Q3 l) ?_
     subst qy hU zT gY gZ hO vT zU hV jY;rw[<-Qr1]at cS;refine⟨cK,fun h1=>?_,fun h1=>?_⟩
     ·have h1:(!(Q1f l un == 21))=true:=h1
      have jc:Q1f l un≠21:=by simpa using h1
      rw[if_neg jc,<-pU]at j9;have hR1:Qu3 R rt st=.tup [.slc 1 (Qr7 (Q9 out)),.val (.bool (decide (e=0)&&(decide (un=rt)&&st out.reverse)))]:=by rw[<-j9,Qu3,Qr1]
      rw[hR1];refine⟨cR,fun h2=>⟨cN,fun h3=>⟨cS,?_⟩,fun h3=>?_⟩,fun h2=>?_⟩
      ·have h2:(e == 0)=true:=h2
       have h3:(un == rt)=true:=h3;generalize qy:st out.reverse=sb;generalize hU:upO (Q3 l) c=U;generalize zT:t.kind=TK;generalize gY:t.bom=TM;generalize gZ:Q0 t.r=RR;generalize hO:Q9 t.off=O;generalize vT:Qk m.d=D';generalize zU:Q9 out=XS;generalize hV:upO (Q3 l) u=V;generalize jY:QqN l=el;with_reducible refine Qqc (Q1f l) (pE l u) (nE l u) (fE l u) (kE l u) (uE l u) (dOk l u) pvI Qr7 (Q3 l) ?_
       subst qy hU zT gY gZ hO vT zU hV jY;refine .pure rfl ⟨.inl rfl,.inl ?_,trivial⟩;rw[decide_eq_true (eq_of_beq h2),decide_eq_true (eq_of_beq h3)];rfl
      ·have h2:(e == 0)=true:=h2
       have h3:(un == rt)=false:=h3;generalize qy:st out.reverse=sb;generalize hU:upO (Q3 l) c=U;generalize zT:t.kind=TK;generalize gY:t.bom=TM;generalize gZ:Q0 t.r=RR;generalize hO:Q9 t.off=O;generalize vT:Qk m.d=D';generalize zU:Q9 out=XS;generalize hV:upO (Q3 l) u=V;generalize jY:QqN l=el;with_reducible refine Qqc (Q1f l) (pE l u) (nE l u) (fE l u) (kE l u) (uE l u) (dOk l u) pvI Qr7 (Q3 l) ?_
       subst qy hU zT gY gZ hO vT zU hV jY;refine .pure rfl ⟨.inl rfl,.inl ?_,trivial⟩;rw[decide_eq_false (fun h=>by rw[h]at h3;simp at h3:¬un=rt)];simp
      ·have h2:(e == 0)=false:=h2
       generalize qy:st out.reverse=sb;generalize hU:upO (Q3 l) c=U;generalize zT:t.kind=TK;generalize gY:t.bom=TM;generalize gZ:Q0 t.r=RR;generalize hO:Q9 t.off=O;generalize vT:Qk m.d=D';generalize zU:Q9 out=XS;generalize hV:upO (Q3 l) u=V;generalize jY:QqN l=el;with_reducible refine Qqc (Q1f l) (pE l u) (nE l u) (fE l u) (kE l u) (uE l u) (dOk l u) pvI Qr7 (Q3 l) ?_
       subst qy hU zT gY gZ hO vT zU hV jY;refine .pure rfl ⟨.inl rfl,.inl ?_,trivial⟩;rw[decide_eq_false (fun h=>by rw[h]at h2;simp at h2:¬e=0)];rfl
     ·have h1:(!(Q1f l un == 21))=false:=h1
      have jc:Q1f l un=21:=by simpa using h1
      rw[if_pos jc,<-pU]at j9
      have cd:std.bnd (Q9 out) [.val (.int .i64 e)]:=by
       show(Q9 out).length+1<=1000000000
       rw[Q2w];omega
      refine⟨cd,(u,out++[e]),⟨j9,huu,?_,fun y hy=>?_⟩,Nat.lt_succ_self _,[some 0,some 1,some 2,some 7],_,rfl,?_⟩
      ·show(out++[e]).length+Q2U u<=900000
       rw[length_append,length_singleton];omega
      ·rcases mem_append.1 hy with hy|hy
       ·exact qX y hy
       ·obtain rfl:=mem_singleton.1 hy
        omega
      ·have e9:std.app (Q9 out) [.val (.int .i64 e)]=Q9 (out++[e]):=(Q4T out [e]).symm
       subst vo k5 cu;exact eq1 e9
theorem Qu0(t:Txt)(m:Mk)(l:List Node)(hl:(QL m).n=l)(c:Cur)(he:QqN l c.n=false) :
  BCall prog 25 [Q8c t m,.agg (c.el (Q3 l))] [] (.tup [.slc 1 (Q9 []),.val (.bool false)]) []:=by
 have cL:=Qrj l c;rw[he]at cL;obtain⟨rt,q7⟩:=exq (m.n.length:Int);unfold Q8c;rw[hl,<-q7];rw[Cur.el]at cL ⊢;obtain⟨cn,vE⟩:=exq c.n;obtain⟨cf,vY⟩:=exq c.f;obtain⟨ck,vP⟩:=exq c.k;rw[<-vE,<-vY,<-vP]at cL ⊢;clear he hl q7;refine fnO false (QuA) (fun id=>match id with|18=> .of [0,1,2,3,4,6,7,5,8,9,10,11,12,13,14,15,16,17]|_=>.nil) func25 rfl fun _ _=>?_
 with_reducible refine cv7 (upO (Q3 l) c) (Q3 l) (Q0 t.r) (Q9 t.off) (Qk m.d) t.kind t.bom ?_
 exact⟨cL,fun _=>.pure rfl ⟨.inr (.inl ⟨rfl,_,rfl⟩),.inl rfl,trivial⟩,fun h=>absurd (show true=false from h) Bool.noConfusion⟩
theorem QuM(t:Txt)(m:Mk)(l:List Node)(hl:(QL m).n=l)(b:List UInt8)(C:Nat)(ha:Ar l)(ho:∀x∈l,Q4Q x)(hb:b.length<=1000000)(hC:C<=1000000)(hc:QuV l b C (.root m.n.length))(c:Cur)(hu:QrY l b C c)(hh:Q2U c<=900000) :
  BCall prog 25 [Q8c t m,.agg (c.el (Q3 l))] [] (.tup [.slc 1 (Q9 (ofO l m.n.length c).1),.val (.bool (ofO l m.n.length c).2)]) []:=by
 cases he:QqN l c.n with
 |false =>
  have e:ofO l m.n.length c=([],false):=by rw[ofO,if_neg (by rw[he];exact Bool.false_ne_true)]
  rw[e];exact Qu0 t m l hl c he
 |true =>
  have h:=QuJ t m l hl b C ha hb hC c hu hh (Qrr l m.n.length c) (fun p hp hx=>QtX t m l hl b C ha ho hb hC hc c (by omega) p hp (fun x h=>by have:=hx x h;omega)) he
  have e:Qu3 (QrD l c []) m.n.length (Qrr l m.n.length c)=.tup [.slc 1 (Q9 (ofO l m.n.length c).1),.val (.bool (ofO l m.n.length c).2)]:=by
   rw[ofO,if_pos he];cases QrD l c []with
   |none=>rfl
   |some x=>rfl
  rw[<-e];exact h
end
def QuK(l:List Node)(rt:Int):Prop:=∀n:Int,n≠rt->(Qn l n).kids≠[]->Q1f l n=21
theorem Qv5{α:Type}{l:List Node}{W C:Nat}(ha:Ar l)(S e:Cur->List α)(Q:Cur->Prop)(hQ:∀c,CurIn l W C c->Q c->∀k:Nat,k<(Qg l c).length->Q (Q34 l c k))
  (hS:∀c,CurIn l W C c->Q c->S c=e c++(QuT l c (Qg l c).length).reverse.flatMap S):∀(n:Nat)(st:List Cur),(∀x∈st,CurIn l W C x/\Q x)->coC l st<=n->(Q3I l n st).flatMap e=st.reverse.flatMap S
 |0,st,_,h=>by
  have:=Qds l st
  obtain rfl:st=[]:=List.eq_nil_of_length_eq_zero (by omega)
  rfl
 |n+1,st,hin,h=>by
  by_cases hne:st=[]
  ·subst hne
   rw[Q9V];rfl
  ·obtain⟨st0,x,rfl⟩:∃st0 x,st=st0++[x]:=⟨st.dropLast,st.getLast hne,(List.dropLast_concat_getLast hne).symm⟩
   obtain⟨hx,hxr⟩:=hin x (by simp)
   have h5:coC l [x]=1+coL l (Qg l x):=by
    show co l x.n+0=_;rw[Nat.add_zero,Qbd ha.wf hx.h0 hx.h1];rfl
   have hd:=Q8w l x _ (le_refl _);rw[List.take_length]at hd;rw[Q5m,h5]at h
   have hdq:∀k,k<=(Qg l x).length->∀y∈QuT l x k,Q y:=fun k=>by
    induction k with
    |zero=>intro _ y hy;cases hy
    |succ k ih =>
     intro hk y hy;rcases mem_cons.1 hy with rfl|hy
     ·exact hQ x hx hxr k hk
     ·exact ih (by omega) y hy
   have ih:=Qv5 ha S e Q hQ hS n (st0++QuT l x (Qg l x).length) (fun y hy=>by
    rcases mem_append.1 hy with hy|hy
    ·exact hin y (List.mem_append_left _ hy)
    ·exact⟨Q8n ha hx _ (le_refl _) y hy,hdq _ (le_refl _) y hy⟩) (by rw[Q5m,hd];omega)
   rw[Qab,flatMap_cons,ih,List.reverse_append,List.reverse_append,flatMap_append,List.reverse_singleton,flatMap_append,<-append_assoc,<-hS x hx hxr];simp
theorem Qvc{l:List Node}{W C:Nat}(ha:Ar l){c:Cur}(hc:CurIn l W C c):∀n,(Q6o l c n).length<=co l c.n:=by
 have key:∀(n:Nat)(st:List Cur),(∀x∈st,CurIn l W C x)->(Q3I l n st).length<=coC l st:=fun n=>by
  induction n with
  |zero=>intro st _;exact Nat.zero_le _
  |succ n ih =>
   intro st hin;by_cases hne:st=[]
   ·subst hne
    rw[Q9V];exact Nat.zero_le _
   ·obtain⟨st0,x,rfl⟩:∃st0 x,st=st0++[x]:=⟨st.dropLast,st.getLast hne,(List.dropLast_concat_getLast hne).symm⟩
    have hx:=hin x (by simp)
    have h5:coC l [x]=1+coL l (Qg l x):=by
     show co l x.n+0=_;rw[Nat.add_zero,Qbd ha.wf hx.h0 hx.h1];rfl
    have hd:=Q8w l x _ (le_refl _);rw[List.take_length]at hd
    have h9:=ih (st0++QuT l x (Qg l x).length) (fun y hy=>by
     rcases mem_append.1 hy with hy|hy
     ·exact hin y (List.mem_append_left _ hy)
     ·exact Q8n ha hx _ (le_refl _) y hy)
    rw[Q5m,hd]at h9;rw[Qab,length_cons,Q5m,h5];omega
 intro n;have:=key n [c] (fun x hx=>by obtain rfl:=mem_singleton.1 hx;exact hc)
 show(Q3I l n [c]).length<=_
 simpa[coC]using this
theorem QuY(l:List Node)(c:Cur):∀k,(QuT l c k).reverse=(List.range' 0 k).map fun i=>Q34 l c (i:Nat)
 |0=>rfl
 |k+1=>by rw[QuT,List.reverse_cons,QuY l c k,List.range'_concat,List.map_append];simp
def opC(l:List Node):Cur->List Int
 |.root _=>[]
 |.kid _ _ k u=>opC l u++[Qr5 l ((Qg l u).take k.toNat)]
def hd0:List Int->List (List Int)
 |0::s=>[s]
 |_=>[]
theorem Qv4{g g':Int->List Int->Int->List El}{l:List Node}:∀(ks:List Int),(∀k∈ks,g k=g' k)->∀(p:List Int)(i f:Int),Qrg g l ks p i f=Qrg g' l ks p i f
 | [],_,_,_,_=>rfl
 |k::r,h,p,i,f=>by rw[Qrg,Qrg,h k mem_cons_self,Qv4 r fun x hx=>h x (mem_cons_of_mem _ hx)]
theorem Qv1{l:List Node}(hw:Wf l):∀(f f':Nat)(n:Int),0<=n->n<l.length->n.toNat<f->n.toNat<f'->elF l f n=elF l f' n
 |0,_,_,_,_,h,_=>by omega
 |_,0,_,_,_,_,h=>by omega
 |f+1,f'+1,n,h0,h1,h2,h3=>by
  funext p a
  rw[elF,elF]
  have hk:=Qv4 (l:=l) (g:=elF l f) (g':=elF l f') (Qn l n).kids (fun k hk=>by
   have:=hw n h0 h1 k hk
   exact Qv1 hw f f' k this.1 (by omega) (by omega) (by omega)) p 0 a
  rw[hk]
def elS(l:List Node):Cur->List El
 |.root n=>Qso l n
 |.kid n f k u=>elF l (n.toNat+1) n (opC l (.kid n f k u)) f
def QuU(l:List Node)(c:Cur):List (List Int):=(elS l c).flatMap fun x=>hd0 x.path
def QuW(l:List Node)(c:Cur):List (List Int):=if Q4g c=true/\QqN l c.n=true then hd0 (opC l c)else []
theorem Qvg{l:List Node}{m:Nat}{c:Cur}(hm:∀k∈Qg l c,elF l m k=elF l (k.toNat+1) k)(hw:∀k∈Qg l c,((pr l k).length:Int)=Q1c l k) :
  ∀(ks pre:List Int)(k:Nat)(i f:Int),Qg l c=pre++ks->pre.length=k->i=Qr5 l pre->f=c.f+Q1Z l pre ->
   (Qrg (elF l m) l ks (opC l c) i f).flatMap (fun x=>hd0 x.path)=((List.range' k ks.length).map fun j=>Q34 l c (j:Nat)).flatMap (QuU l)
 | [],_,_,_,_,_,_,_,_=>rfl
 |y::ks,pre,k,i,f,hk,hp,hi,hf=>by
  have e2:(Qg l c).take k=pre:=by rw[hk,<-hp];simp
  have hd:Q34 l c (k:Int)=.kid y f k c:=by
   have e1:(Qg l c)[k]?=some y:=by rw[hk,List.getElem?_append_right (by omega),hp,Nat.sub_self];rfl
   rw[Q34,toNat_natCast,e1,e2,hf];rfl
  have hmem:y∈Qg l c:=by rw[hk];simp
  have ih:=Qvg hm hw ks (pre++[y]) (k+1) (if QqN l y=true then i+1 else i) (f+(pr l y).length) (by rw[hk];simp) (by simp[hp]) (by
   rw[Qsp,hi,Qr5,Qr5];split<;>omega) (by rw[Qs5,hw y hmem,hf];omega)
  rw[Qrg,flatMap_append,ih,length_cons,List.range'_succ,map_cons,flatMap_cons,hd,hm y hmem]
  have e3:opC l (.kid y f k c)=opC l c++[i]:=by
   show opC l c++[Qr5 l ((Qg l c).take (k:Int).toNat)]=_;rw[toNat_natCast,e2,hi]
  show _=(elF l (y.toNat+1) y (opC l (.kid y f k c)) f).flatMap _++_;rw[e3]
def Qvs(rt:Int):Cur->Prop
 |.root n=>n=rt
 |.kid n _ _ _=>n≠rt
theorem Qvb{l:List Node}{W C:Nat}{rt:Int}(ha:Ar l)(ho:QuK l rt)(hrt:QqN l rt=false){c:Cur}(hc:CurIn l W C c)(hq:Qvs rt c) :
  QuU l c=QuW l c++(QuT l c (Qg l c).length).reverse.flatMap (QuU l):=by
 have hkid:∀k∈Qg l c,0<=k/\k<c.n:=ha.wf c.n hc.h0 hc.h1;have hwd:∀k∈Qg l c,((pr l k).length:Int)=Q1c l k:=fun k hk=>(ha.wide k (hkid k hk).1 (by have:=hkid k hk;have:=hc.h1;omega)).symm
 have hm:∀m:Nat,c.n.toNat<=m->∀k∈Qg l c,elF l m k=elF l (k.toNat+1) k:=fun m hm k hk=>by
  have:=hkid k hk
  have:=hc.h1
  exact Qv1 ha.wf _ _ k (hkid k hk).1 (by omega) (by omega) (by omega)
 have key:=Qvg (hm c.n.toNat (le_refl _)) hwd (Qg l c) [] 0 0 c.f rfl rfl rfl (by simp[Q1Z])
 rw[QuY,<-key];cases c with
 |root n=>rfl
 |kid n f k u =>
  show(elF l (n.toNat+1) n (opC l (.kid n f k u)) f).flatMap _=(if Q4g (Cur.kid n f k u)=true/\QqN l (Cur.kid n f k u).n=true then hd0 (opC l (Cur.kid n f k u))else [])++(Qrg (elF l n.toNat) l (Qn l n).kids (opC l (.kid n f k u)) 0 f).flatMap _
  by_cases h9:Q1f l n=9
  ·have hk:(Qn l n).kids=[]:=Decidable.byContradiction fun h=>by
    have:=ho n hq h
    rw[h9]at this;exact absurd this (by decide)
   rw[elF,if_pos h9,if_pos (show Q4g (Cur.kid n f k u)=true/\QqN l (Cur.kid n f k u).n=true from⟨rfl,by show QqN l n=true;rw[QqN,h9];rfl⟩),hk]
   simp[Qrg]
  ·by_cases h21:Q1f l n=21
   ·rw[elF,if_neg h9,if_pos h21,if_pos (show Q4g (Cur.kid n f k u)=true/\QqN l (Cur.kid n f k u).n=true from⟨rfl,by show QqN l n=true;rw[QqN,h21];rfl⟩),flatMap_cons]
   ·have hk:(Qn l n).kids=[]:=Decidable.byContradiction fun h=>h21 (ho n hq h)
    rw[elF,if_neg h9,if_neg h21,if_neg (fun h:Q4g (Cur.kid n f k u)=true/\QqN l (Cur.kid n f k u).n=true=>by have h2:QqN l n=true:=h.2;simp[QqN,h9,h21]at h2),hk]
    rfl
def Chain(l:List Node)(rt:Int):Cur->Prop
 |.root n=>n=rt
 |.kid n f k u=>n≠rt/\0<=k/\k<(Qg l u).length/\.kid n f k u=Q34 l u k/\Chain l rt u
theorem Chain.nr{l:List Node}{rt:Int}:∀{c:Cur},Chain l rt c->Qvs rt c
 |.root _,h=>h
 |.kid _ _ _ _,h=>h.1
theorem Chain.le{l:List Node}{W C:Nat}{rt:Int}{c:Cur}(ha:Ar l)(hc:CurIn l W C c)(hr:c.n<=rt)(h:Chain l rt c){k:Nat}(hk:k<(Qg l c).length):Chain l rt (Q34 l c k)/\(Q34 l c k).n<=rt:=by
 have hm:(Qg l c)[(k:Int).toNat]?.getD 0=(Qg l c)[k]:=by rw[toNat_natCast,getElem?_eq_getElem hk];rfl
 have q:=ha.wf c.n hc.h0 hc.h1 _ (List.getElem_mem hk);have q1:(Qg l c)[k]<c.n:=q.2;refine⟨⟨?_,by omega,by omega,rfl,h⟩,?_⟩
 ·rw[hm];omega
 ·show(Qg l c)[(k:Int).toNat]?.getD 0<=rt
  rw[hm];omega
theorem Chain.k21{l:List Node}{rt:Int}(ho:QuK l rt){n f k:Int}{u:Cur}(h:Chain l rt (.kid n f k u))(hu:Q4g u=true):Q1f l u.n=21:=by
 obtain⟨_,h0,h1,_,h2⟩:=h
 have hne:(Qn l u.n).kids≠[]:=fun e=>by
  have:(Qg l u).length=0:=by rw[Qg,e];rfl
  omega
 cases u with
 |root n=>cases hu
 |kid n' f' k' u'=>exact ho _ h2.nr hne
theorem Qva{l:List Node}{c:Cur}(h:Q4g c=true):∃j s,opC l c=j::s:=by
 cases c with
 |root n=>cases h
 |kid n f k u =>
  show ∃j s,opC l u++[_]=j::s;cases opC l u with
  |nil=>exact⟨_,_,rfl⟩
  |cons a b=>exact⟨_,_,rfl⟩
theorem Qv9{l:List Node}{rt:Int}(ho:QuK l rt)(hrt:Q1f l rt≠21):∀(c:Cur),Chain l rt c->∀(j:Int)(s o:List Int),opC l c=j::s->QrD l c o=some (s++o.reverse,j,rt)
 |.root n,_,j,s,o,h=>by cases h
 |.kid n f k u,hc,j,s,o,h=>by
  have h:opC l u++[Qr5 l ((Qg l u).take k.toNat)]=j::s:=h;show(if Q1f l u.n=21 then QrD l u (o++[Qr5 l ((Qg l u).take k.toNat)])else some (o.reverse,Qr5 l ((Qg l u).take k.toNat),u.n))=_
  cases hu:Q4g u with
  |true =>
   rw[if_pos (hc.k21 ho hu)];obtain⟨j',s',e⟩:=Qva (l:=l) hu;rw[Qv9 ho hrt u hc.2.2.2.2 j' s' _ e];rw[e]at h;injection h with h1 h2
   subst h1 h2;simp
  |false =>
   cases u with
   |kid _ _ _ _=>cases hu
   |root n' =>
    obtain rfl:n'=rt:=hc.2.2.2.2;have h:[Qr5 l ((Qg l (.root n')).take k.toNat)]=j::s:=h;injection h with h1 h2
    subst h1 h2;show(if Q1f l n'=21 then _ else some (o.reverse,_,n'))=_
    rw[if_neg hrt];rfl
theorem QuZ(l:List Node)(x:Int):∀(a:List Int)(o:Option Cur),QqO l o (a++[x])=(QqO l o a).bind fun c=>if x<0 then none else QqQ l c x
 | [],none=>rfl
 | [],some c=>by
  show(if x<0 then none else QqO l (QqQ l c x) [])=if x<0 then none else QqQ l c x
  split
  ·rfl
  ·cases QqQ l c x<;>rfl
 |y::a,none=>rfl
 |y::a,some c=>by
  show(if y<0 then none else QqO l (QqQ l c y) (a++[x]))=Option.bind (if y<0 then none else QqO l (QqQ l c y) a) _
  split
  ·rfl
  ·exact QuZ l x a _
theorem Qv7{l:List Node}{rt:Int}(ho:QuK l rt):∀(c:Cur),Chain l rt c->Q4g c=true->QqN l c.n=true->∀s,opC l c=0::s->QqO l (QqQ l (.root rt) 0) s=some c
 |.root n,_,h,_,_,_=>by cases h
 |.kid n f k u,hc,_,he,s,h=>by
  obtain⟨_,k0,k1,e,hu2⟩:=id hc;have h:opC l u++[Qr5 l ((Qg l u).take k.toNat)]=0::s:=h
  have hs:QqQ l u (Qr5 l ((Qg l u).take k.toNat))=some (.kid n f k u):=by
   rw[e];exact Qvi k0 k1 (by rw[<-e];exact he)
  cases hu:Q4g u with
  |true =>
   obtain⟨j',s',e'⟩:=Qva (l:=l) hu;rw[e']at h;injection h with h1 h2
   subst h1;have h21:=Chain.k21 ho hc hu;have ih:=Qv7 ho u hu2 hu (by rw[QqN,h21];rfl) s' e'
   rw[<-h2];show QqO l (QqQ l (.root rt) 0) (s'++[Qr5 l ((Qg l u).take k.toNat)])=_;rw[QuZ,ih];show(if Qr5 l ((Qg l u).take k.toNat)<0 then none else _)=_
   rw[if_neg (by have:=(QrM l ((Qg l u).take k.toNat)).1;omega),hs]
  |false =>
   cases u with
   |kid _ _ _ _=>cases hu
   |root n' =>
    obtain rfl:n'=rt:=hu2;have h:[Qr5 l ((Qg l (.root n')).take k.toNat)]=0::s:=h;injection h with h1 h2
    rw[h1]at hs;subst h2;rw[hs];rfl
def ofL(l:List Node)(rt:Int)(c:Cur):List (List Int):=if(ofO l rt c).2=true then [(ofO l rt c).1]else []
theorem Qvt{l:List Node}{rt:Int}(ho:QuK l rt)(hrt:QqN l rt=false){c:Cur}(hc:Chain l rt c):ofL l rt c=QuW l c:=by
 have hrt':Q1f l rt≠21:=fun h=>by rw[QqN,h]at hrt;cases hrt
 unfold ofL;by_cases he:QqN l c.n=true
 ·cases hk:Q4g c with
  |false =>
   cases c with
   |kid _ _ _ _=>cases hk
   |root n =>
    obtain rfl:n=rt:=hc;have he:QqN l n=true:=he;rw[hrt]at he;cases he
  |true =>
   obtain⟨j,s,e⟩:=Qva (l:=l) hk;have h1:=Qv9 ho hrt' c hc j s [] e;have h2:ofO l rt c=(s,decide (j=0)&&(decide (rt=rt)&&Qrr l rt c s)):=by rw[ofO,if_pos he,h1];simp
   have hp:QuW l c=hd0 (j::s):=by rw[QuW,if_pos ⟨hk,he⟩,e]
   rw[hp,h2];by_cases hj:j=0
   ·subst hj
    have h3:Qrr l rt c s=true:=by rw[Qrr,Qv7 ho c hc hk he s e];simp
    rw[h3];simp[hd0]
   ·have:hd0 (j::s)=[]:=by
     unfold hd0;split
     ·rename_i h
      injection h with h _
      exact absurd h hj
     ·rfl
    rw[this];simp[hj]
 ·have hp:QuW l c=[]:=by rw[QuW,if_neg (fun h=>he h.2)]
  rw[hp,ofO,if_neg he];rfl
theorem Qv2{l:List Node}{W C:Nat}{rt:Int}(ha:Ar l)(ho:QuK l rt)(hrt:QqN l rt=false){c:Cur}(hc:CurIn l W C c)(hr:c.n<=rt)(hq:Chain l rt c){N:Nat}(hN:co l c.n<=N) :
  (Q6o l c N).flatMap (ofL l rt)=QuU l c:=by
 have h1:=Qv5 (W:=W) (C:=C) ha (QuU l) (ofL l rt) (fun c=>Chain l rt c/\c.n<=rt) (fun c hc hq k hk=>hq.1.le ha hc hq.2 hk) (fun c hc hq=>by
  rw[Qvt ho hrt hq.1];exact Qvb ha ho hrt hc hq.1.nr) N [c] (fun x hx=>by obtain rfl:=mem_singleton.1 hx;exact⟨hc,hq,hr⟩) (by simpa[coC]using hN)
 rw[Q6o,h1];simp
theorem Qv0{l:List Node}{m:Nat}{c:Cur}(hop:opC l c=[])(hm:∀k∈Qg l c,elF l m k=elF l (k.toNat+1) k)(hw:∀k∈Qg l c,((pr l k).length:Int)=Q1c l k) :
  ∀(ks pre:List Int)(k:Nat)(f:Int),Qg l c=pre++ks->pre.length=k->Qr5 l pre=0->f=c.f+Q1Z l pre ->
   (Qrg (elF l m) l ks [] 0 f).flatMap (fun x=>hd0 x.path)=match(QqT l ks 0 (k:Int)).map (Q34 l c)with|none=>[]|some c'=>QuU l c'
 | [],_,_,_,_,_,_,_=>rfl
 |y::ks,pre,k,f,hk,hp,hi,hf=>by
  have hmem:y∈Qg l c:=by rw[hk];simp
  rw[Qrg,flatMap_append,QqT];by_cases hy:QqN l y=true
  ·rw[if_pos hy,if_pos rfl,if_pos hy]
   have e2:(Qg l c).take k=pre:=by rw[hk,<-hp];simp
   have hd:Q34 l c (k:Int)=.kid y f k c:=by
    have e1:(Qg l c)[k]?=some y:=by rw[hk,List.getElem?_append_right (by omega),hp,Nat.sub_self];rfl
    rw[Q34,toNat_natCast,e1,e2,hf];rfl
   have hB:(Qrg (elF l m) l ks [] (0+1) (f+(pr l y).length)).flatMap (fun x=>hd0 x.path)=[]:=by
    rw[List.flatMap_eq_nil_iff];intro e he;obtain⟨j,s,h1,h2⟩:=Qrh (Qru l m) _ _ _ _ e he;rw[h2];show hd0 (j::s)=[];unfold hd0;split
    ·rename_i h
     injection h with h _
     omega
    ·rfl
   have e3:opC l (.kid y f k c)=[0]:=by
    show opC l c++[Qr5 l ((Qg l c).take (k:Int).toNat)]=_;rw[toNat_natCast,e2,hi,hop];rfl
   rw[hB,append_nil,hm y hmem,Option.map_some,hd];show _=(elF l (y.toNat+1) y (opC l (.kid y f k c)) f).flatMap _;rw[e3];rfl
  ·have ih:=Qv0 hop hm hw ks (pre++[y]) (k+1) (f+(pr l y).length) (by rw[hk];simp) (by simp[hp]) (by rw[Qsp,hi,Qr5,Qr5,if_neg hy];rfl) (by rw[Qs5,hw y hmem,hf];omega)
   rw[if_neg hy,if_neg hy,QtZ hy,List.flatMap_nil,List.nil_append,ih];show _=_;rw[show((k+1:Nat):Int)=(k:Int)+1 by omega]
theorem Qv8{l:List Node}{rt:Int}(ha:Ar l)(h0:0<=rt)(h1:rt<l.length):(Qso l rt).flatMap (fun x=>hd0 x.path)=match QqQ l (.root rt) 0 with|none=>[]|some c'=>QuU l c':=by
 have hkid:∀k∈Qg l (.root rt),0<=k/\k<rt:=ha.wf rt h0 h1
 exact Qv0 (c:=.root rt) rfl (fun k hk=>by
  have:=hkid k hk
  exact Qv1 ha.wf _ _ k this.1 (by omega) (by omega) (by omega)) (fun k hk=>(ha.wide k (hkid k hk).1 (by have:=hkid k hk;omega)).symm) (Qg l (.root rt)) [] 0 0 rfl rfl rfl (by simp[Q1Z,Cur.f])
section
open Tryz
def Qvy(p:List Int):AV:=.slc 1 (Q9 p)
def QuS(l:List (List Int)):List AV:=l.map Qvy
theorem Qvo(a b:List (List Int)):QuS (a++b)=QuS a++QuS b:=by simp[QuS]
theorem Qv6(a:List (List Int)):(QuS a).length=a.length:=by simp[QuS]
def Qvv(C:List AV)(ok:Bool)(WA O:List AV)(is:Bool):Nat->List AV->List Ob->Option (AV×List Ob):=fun g _ _=>match g with
 |15=>some (.tup [.agg C,.val (.bool ok)],[])
 |30=>some (.slc 5 WA,[])
 |25=>some (.tup [.slc 1 O,.val (.bool is)],[])
 |_=>none
theorem Qvh(TR TO D:List AV)(l:List Node)(tk tm rt:Int)(cE:BCall prog 15 [.agg [.val (.int .i64 tk),.val (.int .i64 tm),.slc 1 TR,.slc 1 TO,.ref [.slc 6 (Q3 l)],.val (.int .i64 rt),.slc 3 D],.slc 1 []] [] (.tup [.agg [.opt (.val (.pointer none)),.val (.int .i64 0),.val (.int .i64 0),.val (.int .i64 0),.opt (.val (.pointer none))],.val (.bool false)]) []) :
  BCall prog 27 [.agg [.val (.int .i64 tk),.val (.int .i64 tm),.slc 1 TR,.slc 1 TO,.ref [.slc 6 (Q3 l)],.val (.int .i64 rt),.slc 3 D]] [] (.slc 1 []) []:=by
 have cE:=cE.le (args:=[.agg [.val (.int .i64 tk),.val (.int .i64 tm),.slc 1 TR,.slc 1 TO,.ref [.slc 6 (Q3 l)],.val (.int .i64 rt),.slc 3 D],.val (.slice none 0 0)]) ⟨⟨.inl rfl,.inl rfl,.inl rfl,.inl rfl,.inl rfl,.inl rfl,.inl rfl,trivial⟩,.inr (.inl ⟨rfl,_,rfl⟩),trivial⟩;refine fnN (Qvv ([.opt (.val (.pointer none)),.val (.int .i64 0),.val (.int .i64 0),.val (.int .i64 0),.opt (.val (.pointer none))]) false [] [] false) func27 rfl fun _ _=>?_
 with_reducible refine cv1 (Q3 l) ?_
 exact⟨cE,fun _=>.pure rfl (.inr (.inl ⟨rfl,_,rfl⟩)),fun h=>absurd (show true=false from h) Bool.noConfusion⟩
theorem Qvj(TR TO D:List AV)(l:List Node)(tk tm rt cn cf ck:Int)(U:AV)(hU:Q56 U)(ws:List Cur)(hws:ws.length<=1000000)
  (cE:BCall prog 15 [.agg [.val (.int .i64 tk),.val (.int .i64 tm),.slc 1 TR,.slc 1 TO,.ref [.slc 6 (Q3 l)],.val (.int .i64 rt),.slc 3 D],.slc 1 []] [] (.tup [.agg [.opt (.ref [.slc 6 (Q3 l)]),.val (.int .i64 cn),.val (.int .i64 cf),.val (.int .i64 ck),.opt U],.val (.bool true)]) [])
  (cW:BCall prog 30 [.agg [.opt (.ref [.slc 6 (Q3 l)]),.val (.int .i64 cn),.val (.int .i64 cf),.val (.int .i64 ck),.opt U],.val (.int .i64 1073741824)] [] (.slc 5 (QW (Q3 l) ws)) [])
  (cO:∀x∈ws,BCall prog 25 [.agg [.val (.int .i64 tk),.val (.int .i64 tm),.slc 1 TR,.slc 1 TO,.ref [.slc 6 (Q3 l)],.val (.int .i64 rt),.slc 3 D],.agg (x.el (Q3 l))] [] (.tup [.slc 1 (Q9 (ofO l rt x).1),.val (.bool (ofO l rt x).2)]) []) :
  BCall prog 27 [.agg [.val (.int .i64 tk),.val (.int .i64 tm),.slc 1 TR,.slc 1 TO,.ref [.slc 6 (Q3 l)],.val (.int .i64 rt),.slc 3 D]] [] (.slc 1 (QuS (ws.flatMap (ofL l rt)))) []:=by
 have cE:=cE.le (args:=[.agg [.val (.int .i64 tk),.val (.int .i64 tm),.slc 1 TR,.slc 1 TO,.ref [.slc 6 (Q3 l)],.val (.int .i64 rt),.slc 3 D],.val (.slice none 0 0)]) ⟨⟨.inl rfl,.inl rfl,.inl rfl,.inl rfl,.inl rfl,.inl rfl,.inl rfl,trivial⟩,.inr (.inl ⟨rfl,_,rfl⟩),trivial⟩;obtain⟨n,hn⟩:=QE ws;have xg:std.len (QW (Q3 l) ws)=n:=by show((QW (Q3 l) ws).length:Int)=n;rw[Q3q,hn.eq]
 have jn:0<=n/\n<=1000000:=by rw[hn.eq];omega
 refine fnN (Qvv ([.opt (.ref [.slc 6 (Q3 l)]),.val (.int .i64 cn),.val (.int .i64 cf),.val (.int .i64 ck),.opt U]) true (QW (Q3 l) ws) [] false) func27 rfl fun _ _=>?_
 with_reducible refine cv2 (QW (Q3 l) ws) (Q3 l) ?_
 refine⟨cE,fun h=>absurd (show false=true from h) Bool.noConfusion,fun _=>⟨cW,?_⟩⟩
 refine Q46 (cs:=(fun x:Int×List (List Int)=>Qvv ([.opt (.ref [.slc 6 (Q3 l)]),.val (.int .i64 cn),.val (.int .i64 cf),.val (.int .i64 ck),.opt U]) true (QW (Q3 l) ws) (Q9 (ofO l rt (ws[x.1.toNat]?.getD (.root 0))).1) (ofO l rt (ws[x.1.toNat]?.getD (.root 0))).2)) (ord:=fun _=>.nil) Q6k (by kernel_rfl) (by kernel_rfl) (by kernel_rfl) (X:=Int×List (List Int)) (fun x=>⟨[(1,.box 0 0),(3,.row 1 0),(18,.slc 5 (QW (Q3 l) ws)),(19,.val (.int .i64 n)),(20,.val (.int .i64 x.1))],[.box [.val (.int .i64 tk),.val (.int .i64 tm),.slc 1 TR,.slc 1 TO,.ref [.slc 6 (Q3 l)],.val (.int .i64 rt),.slc 3 D],.row 23 1 false 0 (QuS x.2)]⟩) (fun x=>0<=x.1/\x.1<=n/\x.2=(ws.take x.1.toNat).flatMap (ofL l rt)) (fun x=>(n-x.1).toNat) (0,[]) ?_ ?_ ?_
 ·exact⟨Int.le_refl 0,jn.1,rfl⟩
 ·refine⟨[some 0,none],_,rfl,?_⟩
  exact eq1 xg
 ·rintro⟨i,out⟩ ⟨jK,qh,ho⟩
  have jK:0<=i:=jK;have qh:i<=n:=qh;have ho:out=(ws.take i.toNat).flatMap (ofL l rt):=ho;obtain⟨x,hx⟩:=exq (ws[i.toNat]?.getD (.root 0));simp only
  rw[<-hx];obtain⟨O,hO⟩:=exq (Q9 (ofO l rt x).1);obtain⟨is,cy⟩:=exq ((ofO l rt x).2);rw[<-hO,<-cy];with_reducible refine cv3 (QW (Q3 l) ws) (Q3 l) (QuS out) ?_
  have jR:out.length<=1000000:=by
   have h9:∀zs:List Cur,(zs.flatMap (ofL l rt)).length<=zs.length:=fun zs=>by
    induction zs with
    |nil=>exact le_refl _
    |cons z zs ih =>
     have:(ofL l rt z).length<=1:=by unfold ofL;split<;>simp
     rw[flatMap_cons,length_append,length_cons];omega
   have:=h9 (ws.take i.toNat)
   rw[List.length_take]at this;rw[ho];omega
  refine⟨fun h=>?_,fun h=>?_⟩
  ·have jL:i<n:=of_decide_eq_true h
   have hk:i.toNat<ws.length:=by have:=hn.eq;omega
   have yB:x=ws[i.toNat]:=by rw[hx,getElem?_eq_getElem hk];rfl
   have hxm:x∈ws:=by rw[yB];exact List.getElem_mem hk
   have j5:std.at_ (QW (Q3 l) ws) i=.agg (x.el (Q3 l)):=by
    show(QW (Q3 l) ws).getD i.toNat .dead=_
    rw[List.getD_eq_getElem?_getD,QW,List.getElem?_map,getElem?_eq_getElem hk,yB];rfl
   have hUx:Q56 (.opt (upO (Q3 l) x)):=QcJ _ _
   have nR:(std.all [std.hasP (std.nth (std.cel (std.at_ (QW (Q3 l) ws) i)) 0),std.hasI .i64 (std.nth (std.cel (std.at_ (QW (Q3 l) ws) i)) 1),std.hasI .i64 (std.nth (std.cel (std.at_ (QW (Q3 l) ws) i)) 2),std.hasI .i64 (std.nth (std.cel (std.at_ (QW (Q3 l) ws) i)) 3),std.hasP (std.nth (std.cel (std.at_ (QW (Q3 l) ws) i)) 4)]).q:=by
    rw[j5];exact⟨trivial,rfl,rfl,rfl,hUx,trivial⟩
   have cO2:BCall prog 25 [.agg [.val (.int .i64 tk),.val (.int .i64 tm),.slc 1 TR,.slc 1 TO,.ref [.slc 6 (Q3 l)],.val (.int .i64 rt),.slc 3 D],.agg [.opt (std.uno (std.nth (std.cel (std.at_ (QW (Q3 l) ws) i)) 0)),.val (.int .i64 (std.int (std.nth (std.cel (std.at_ (QW (Q3 l) ws) i)) 1))),.val (.int .i64 (std.int (std.nth (std.cel (std.at_ (QW (Q3 l) ws) i)) 2))),.val (.int .i64 (std.int (std.nth (std.cel (std.at_ (QW (Q3 l) ws) i)) 3))),.opt (std.uno (std.nth (std.cel (std.at_ (QW (Q3 l) ws) i)) 4))]] [] (.tup [.slc 1 O,.val (.bool is)]) []:=by
    rw[j5,hO,cy];exact cO x hxm
   have vM:(ws.take (i+1).toNat).flatMap (ofL l rt)=out++ofL l rt x:=by
    rw[show(i+1).toNat=i.toNat+1 by omega,List.take_add_one,getElem?_eq_getElem hk,flatMap_append,<-ho,yB];simp
   have qI:(std.inR .i64 (std.add i 1)).q:=by
    show std.inR .i64 (i+1);rw[Qhr];omega
   refine⟨⟨jK,by show i<std.len (QW (Q3 l) ws);rw[xg];exact jL⟩,nR,cO2,fun h2=>?_,fun h2=>?_⟩
   ·have e1:ofL l rt x=[(ofO l rt x).1]:=by rw[ofL,<-cy,h2];rfl
    rw[e1]at vM;have e2:std.app (QuS out) [.slc 1 O]=QuS (out++[(ofO l rt x).1]):=by rw[Qvo,hO];rfl
    refine⟨?_,qI,(i+1,out++[(ofO l rt x).1]),⟨by show 0<=i+1;omega,by show i+1<=n;omega,vM.symm⟩,by show(n-(i+1)).toNat<(n-i).toNat;omega,[some 0,some 1],_,rfl,?_⟩
    ·show(QuS out).length+1<=1000000000
     rw[Qv6];omega
    ·exact eq1 e2
   ·have e1:ofL l rt x=[]:=by rw[ofL,<-cy,h2];rfl
    rw[e1,append_nil]at vM;refine⟨qI,(i+1,out),⟨by show 0<=i+1;omega,by show i+1<=n;omega,vM.symm⟩,by show(n-(i+1)).toNat<(n-i).toNat;omega,[some 0,some 1],_,rfl,?_⟩
    exact eq0
  ·have jL:i=n:=by
    have h:¬i<n:=of_decide_eq_false h;omega
   rw[List.take_of_length_le (by have:=hn.eq;omega)]at ho
   rw[if_pos trivial,<-ho];with_reducible refine cv3 (QW (Q3 l) ws) (Q3 l) (QuS out) ?_
   exact .pure rfl (.inl rfl)
end
theorem QlU{l:List Node}(hw:Wf l):∀(m:Nat)(n:Int)(top:Bool),0<=n->n<l.length->n.toNat<m->(spV l n top).length<=2 * co l n
 |0,_,_,_,_,h=>by omega
 |m+1,n,top,h0,h1,h2=>by
  rw[Q8I hw h0 h1,Qbd hw h0 h1];split
  ·simp;omega
  ·have:((Qn l n).kids.flatMap (fun k=>spV l k false)).length<=2 * ((Qn l n).kids.map (co l)).sum:=by
    have hk:∀k∈(Qn l n).kids,(spV l k false).length<=2 * co l k:=fun k hk=>by
     have:=hw n h0 h1 k hk
     exact QlU hw m k false this.1 (by omega) (by omega)
    generalize (Qn l n).kids=ks at hk ⊢;induction ks with
    |nil=>simp
    |cons k r ih =>
     have h3:=hk k (mem_cons_self ..);have h4:=ih fun x hx=>hk x (mem_cons_of_mem _ hx)
     simp only[flatMap_cons,length_append,map_cons,List.sum_cons];omega
   simp only[length_append];have h5:(if top=true then([]:List Ev)else [⟨1,0,[]⟩]).length<=1:=by split<;>simp
   have h6:(if top=true then([]:List Ev)else [⟨3,0,[]⟩]).length<=1:=by split<;>simp
   omega
