/- Lemmas, conditions told -/
import Derived.Test.YtnlbhaeimmenoaaGreatG09
import Derived.Laws.StructEq
import Derived.WideShapes
import Derived.LoopN
set_option maxRecDepth 99999
set_option maxHeartbeats 0
set_option linter.unusedSimpArgs false
set_option linter.unusedVariables false
namespace Go.Proofs.YtnlbhaeimmenoaaGreat
open List(length_append length_singleton append_nil getElem_drop getD_eq_getElem?_getD getElem?_eq_getElem getElem?_take length_take length_drop map_take map_drop map_cons all_eq_true mem_map all_cons)
open Nat(le_refl mod_lt eq_of_beq_eq_true)
open Go.RowKit Go.Lib
section
open Tryz
def QS(l:List Tok):List AV:=l.map Tok.av
theorem Q7L(l:List Tok):(QS l).length=l.length:=by simp[QS]
theorem Qf8(a b:List Tok):QS (a++b)=QS a++QS b:=by simp[QS]
theorem QdT(t:Tok):QS [t]=[.agg [.val (.int .i64 t.kind),.val (.int .i64 t.from_),.val (.int .i64 t.to),.val (.bool t.whole)]]:=rfl
def Qrb(t:(Nat×Nat×Bool)×Nat):Tok:=⟨t.1.1,t.2,t.1.2.1,t.1.2.2⟩
def Q1L(l:List Int)(k:Nat):List Tok:=(Q4Q l k).map Qrb
def Q2E(l:List Int):List Tok:=Q1L l 0
theorem Q1w{l:List Int}{k:Nat}(h:k<l.length):Q1L l k=Q13 l k::Q1L l (Qd l k).2.1:=by
 rw[Q1L,QbH l k h];rfl
theorem Q1a{l:List Int}{k:Nat}(h:¬k<l.length):Q1L l k=[]:=by rw[Q1L,QcH l k h];rfl
def Q4l(l:List Int)(k:Int):Tok:=if 0<=k/\k<l.length then Q13 l k.toNat else⟨0,0,0,false⟩
def Q8y(l:List Int)(k:Int):Bool:=decide (0<=k/\k<l.length)
theorem QjZ(l:List Int)(hl:l.length<=1000000000)(k:Int)(h0:0<=k):BCall prog 95 [.slc 1 (Q0 l),.val (.int .i64 k)] [] (.tup [.agg [.val (.int .i64 (Q4l l k).kind),.val (.int .i64 (Q4l l k).from_),.val (.int .i64 (Q4l l k).to),.val (.bool (Q4l l k).whole)],.val (.bool (Q8y l k))]) []:=by
 by_cases h:k<l.length
 ·rw[Q4l,if_pos ⟨h0,h⟩,Q8y,decide_eq_true ⟨h0,h⟩]
  exact QpB l hl k h0 h
 ·have:¬(0<=k/\k<l.length):=fun x=>h x.2
  rw[Q4l,if_neg this,Q8y,decide_eq_false this];exact Qj0 l k h0 (by omega)
def csN(kd fr to:Int->Int)(wh ok:Int->Bool):Nat->List AV->List Ob->Option (AV×List Ob):=fun f args _=>match f,args with
 |95,[.slc 1 _,.val (.int .i64 k)]=>some (.tup [.agg [.val (.int .i64 (kd k)),.val (.int .i64 (fr k)),.val (.int .i64 (to k)),.val (.bool (wh k))],.val (.bool (ok k))],[])
 |_,_=>none
theorem Qe8(l:List Int)(hl:l.length<=1000000):BCall prog 49 [.slc 1 (Q0 l)] [] (.slc 4 (QS (Q2E l))) []:=by
 have n7:=fun k h0=>QjZ l (by omega) k h0
 obtain⟨kd,jD⟩:=exq (fun k=>(Q4l l k).kind:Int->Int)
 obtain⟨fr,qy⟩:=exq (fun k=>(Q4l l k).from_:Int->Int)
 obtain⟨to,zN⟩:=exq (fun k=>(Q4l l k).to:Int->Int)
 obtain⟨wh,xO⟩:=exq (fun k=>(Q4l l k).whole:Int->Bool)
 obtain⟨ok,jA⟩:=exq (Q8y l:Int->Bool);have n7:∀k,0<=k->BCall prog 95 [.slc 1 (Q0 l),.val (.int .i64 k)] [] (.tup [.agg [.val (.int .i64 (kd k)),.val (.int .i64 (fr k)),.val (.int .i64 (to k)),.val (.bool (wh k))],.val (.bool (ok k))]) []:=fun k h0=>by rw[jD,qy,zN,xO,jA];exact n7 k h0
 obtain⟨n,hn⟩:=QG l
 have jb:∀k:Int,0<=k->k<n->to k=((Qd l k.toNat).2.1:Nat)/\k<to k/\to k<=n/\Q13 l k.toNat=⟨kd k,fr k,to k,wh k⟩/\ok k=true:=fun k h0 h1=>by
  have e:=hn.eq;have h2:Q4l l k=Q13 l k.toNat:=by rw[Q4l,if_pos ⟨h0,by omega⟩]
  have h3:=Q2a l k.toNat (by omega)
  have h4:to k=((Qd l k.toNat).2.1:Nat):=by rw[zN];simp only[h2];rfl
  refine⟨h4,by omega,by omega,?_,?_⟩
  ·rw[jD,qy,zN,xO];simp only[h2]
  ·rw[jA];simp[Q8y];omega
 have vW:∀k:Int,0<=k->¬k<n->ok k=false:=fun k h0 h1=>by
  have e:=hn.eq;rw[jA];simp[Q8y];omega
 clear jD qy zN xO jA;refine fnN (csN kd fr to wh ok) func49 rfl fun _ _=>?_
 with_reducible refine cv1 (Q0 l) ?_
 refine⟨n7 0 (by omega),?_⟩
 refine Q1h (csN kd fr to wh ok) (List Tok×Int) (fun x=>⟨[(0,.slc 1 (Q0 l)),(3,.row 0 0),(4,.box 1 0),(5,.val (.bool (ok x.2)))],[.row 126 4 false 0 (QS x.1),.box [.val (.int .i64 (kd x.2)),.val (.int .i64 (fr x.2)),.val (.int .i64 (to x.2)),.val (.bool (wh x.2))]]⟩) (fun x=>0<=x.2/\x.2<=n/\x.1++Q1L l x.2.toNat=Q2E l/\(x.1.length:Int)<=x.2) (fun x=>(n-x.2).toNat) ([],0) ?_ ?_ ?_
 ·have:=hn.eq
  exact⟨by omega,by simp only;omega,rfl,by simp⟩
 ·exact⟨[none,some 0],_,rfl,by simp[Qm,lk,QS]⟩
 ·rintro⟨out,k⟩ ⟨js,jj,j6,j2⟩
  simp only at js jj j6 j2
  have jR:=Q7L out;have en:=hn.eq;have n8:out.length<=1000000:=by omega
  obtain⟨q,hq⟩:=QG out;have qE:q<=k:=by rw[hq.eq];exact j2
  clear en;by_cases hk:k<n
  ·obtain⟨s1,s2,s3,s4,s5⟩:=jb k js hk
   have s6:=n7 (to k) (by omega)
   have en:=hn.eq
   have hG:out++[⟨kd k,fr k,to k,wh k⟩]++Q1L l (to k).toNat=Q2E l:=by
    rw[<-j6,Q1w (k:=k.toNat) (by omega),s4,s1,Int.toNat_natCast];simp
   clear s1 en;with_reducible refine cv2 (Q0 l) (QS out) ?_
   have eq:=hq.eq;with_reducible repeat' first|refine aU (zA jR <| zA s5 s6) ?_|refine And.intro ?_ ?_|intro hb
   exact⟨(out++[⟨kd k,fr k,to k,wh k⟩],to k),⟨by simp only;omega,s3,hG,by show((out++[_]).length:Int)<=to k;simp only[length_append,length_singleton];omega⟩,by simp only;omega,[some 0,some 3],_,rfl,by simp[Qm,lk,std,Qf8,QdT]⟩
  ·have s5:=vW k js hk
   have en:=hn.eq;have hG:out=Q2E l:=by rw[<-j6,Q1a (by omega),append_nil]
   clear en;with_reducible refine cv2 (Q0 l) (QS out) ?_
   with_reducible repeat' first|refine aU s5 ?_|refine And.intro ?_ ?_|intro hb
   rw[if_pos trivial];with_reducible refine cv2 (Q0 l) (QS out) ?_
   exact .pure rfl (.inl (by rw[hG]))
def Q1t(l:List Int):Int:=if l.getD 0 0=34\/l.getD 0 0=39 then(match(l.drop 1).findIdx? (· == l.getD 0 0)with|some k=>k+2|none=>0)else 0
theorem Qiu{l:List Int}{i:Int}(hq:l.getD 0 0=34\/l.getD 0 0=39)(h1:1<=i)(h2:i<l.length)(h3:∀j:Int,1<=j->j<i->l.getD j.toNat 0≠l.getD 0 0)(h4:l.getD i.toNat 0=l.getD 0 0):Q1t l=i+1:=by
 have hk:i.toNat-1<(l.drop 1).length:=by simp;omega
 have e:(l.drop 1).findIdx? (· == l.getD 0 0)=some (i.toNat-1):=by
  rw[List.findIdx?_eq_some_iff_getElem];refine⟨hk,?_,fun j hj=>?_⟩
  ·have h5:1+(i.toNat-1)=i.toNat:=by omega
   have h6:i.toNat<l.length:=by omega
   simp only[getElem_drop,h5,beq_iff_eq];rw[<-h4,getD_eq_getElem?_getD,getElem?_eq_getElem h6];rfl
  ·have h6:j+1<l.length:=by omega
   have h7:=h3 ((j+1:Nat):Int) (by omega) (by omega)
   rw[Int.toNat_natCast,getD_eq_getElem?_getD,getElem?_eq_getElem h6]at h7;simpa[getElem_drop]using h7
 simp only[Q1t,if_pos hq,e];omega
theorem Qg3{l:List Int}(h3:∀j:Int,1<=j->j<l.length->l.getD j.toNat 0≠l.getD 0 0):Q1t l=0:=by
 have e:(l.drop 1).findIdx? (· == l.getD 0 0)=none:=by
  rw[List.findIdx?_eq_none_iff];intro x hx;obtain⟨j,hj,rfl⟩:=List.mem_iff_getElem.1 hx;have h6:j+1<l.length:=by simp at hj;omega
  have h7:=h3 ((j+1:Nat):Int) (by omega) (by omega)
  rw[Int.toNat_natCast,getD_eq_getElem?_getD,getElem?_eq_getElem h6]at h7;simpa[getElem_drop]using h7
 simp only[Q1t,e];split<;>rfl
theorem QnH(l:List Int)(hl:l≠[])(xP:l.length<=1000000000):BCall prog 137 [.slc 1 (Q0 l)] [] (.val (.int .i64 (Q1t l))) []:=by
 refine Ql1 (cs:=cs0) (ord:=fun _=>.nil) Q80 (by kernel_rfl) func137 rfl (enters_of func137 (by kernel_rfl) rfl) (Nat.le_of_ble_eq_true rfl) (by kernel_rfl) (by kernel_rfl) ?_
 intro w0 g0;generalize hp:std=p;generalize hx:Q0 l=xs;generalize hT:Q1o p tys cs0 _ _ _ _=T;cbv at hT;subst hT;simp only[Tree.ok];subst hp hx;have jf:0<l.length:=List.length_pos_iff.2 hl;have jH:=Qx l;have a0:(Q0 l)[0]?.getD .dead=.val (.int .i32 (l[0]?.getD 0)):=QN (i:=0) (Int.le_refl 0) (by omega)
 refine⟨?_,?_,fun h1=>⟨?_,?_,fun h2=>.pure rfl (.inl ?_),fun h2=>?_⟩,fun h1=>?_⟩
 ·simp[std,jH,jf]
 ·simp[std,Q3W,a0,AV.cells,RowKit.intOf]
 ·simp[std,jH,jf]
 ·simp[std,Q3W,a0,AV.cells,RowKit.intOf]
 ·simp[std,a0,AV.cells,RowKit.intOf]at h1 h2
  simp[Q1t,h1,h2]
 all_goals
  have hq:l.getD 0 0=34\/l.getD 0 0=39:=by
   first
    |(simp[std,a0,AV.cells,RowKit.intOf]at h2;exact .inr h2)
    |(simp[std,a0,AV.cells,RowKit.intOf]at h1;exact .inl h1)
  refine QbN (cs:=cs0) (ord:=fun _=>.nil) Q80 (by kernel_rfl) (by kernel_rfl) (by kernel_rfl) (X:=Int) (fun i=>⟨[(0,.slc 1 (Q0 l)),(3,.val (.int .i64 i))],[]⟩)
   (fun i=>1<=i/\i<=l.length/\∀j:Int,1<=j->j<i->l.getD j.toNat 0≠l.getD 0 0) (fun i=>(l.length-i).toNat) 1 ⟨by omega,by omega,fun j h1 h2=>by omega⟩ ⟨[],_,rfl,?_⟩ ?_
  ·exact⟨rfl,rfl,trivial⟩
  ·rintro i ⟨qn,pS,hi3⟩
   clear h1;generalize hp:std=p;generalize hx:Q0 l=xs;generalize hT:Q1o p tys cs0 _ _ _ _=T;cbv at hT;subst hT;simp only[Tree.ok,Q1u];subst hp hx;refine⟨fun h1=>?_,fun h1=>?_⟩
   ·have h1:i<l.length:=by simpa[std,jH]using h1
    have ai:=QN (l:=l) (i:=i) (by omega) h1
    refine⟨?_,?_,?_,?_,fun h2=>⟨?_,?_⟩,fun h2=>⟨?_,i+1,⟨?_,?_,fun j h3 h4=>?_⟩,?_,[],_,rfl,?_⟩⟩
    ·simp[std,jH];omega
    ·simp[std,Q3W,ai,AV.cells,RowKit.intOf]
    ·simp[std,jH,jf]
    ·simp[std,Q3W,a0,AV.cells,RowKit.intOf]
    ·show(-9223372036854775808:Int)<=_/\_<=(9223372036854775807:Int)
     simp[std];omega
    ·generalize hp:std=p
     generalize hx:Q0 l=xs;generalize hT:Q68 p tys _ _ _ _=T;cbv at hT;subst hT;subst hp hx;refine FinOk.pure rfl (.inl ?_);have e:l.getD i.toNat 0=l.getD 0 0:=by simpa[std,ai,a0,AV.cells,RowKit.intOf]using h2
     rw[Qiu hq qn h1 hi3 e];rfl
    ·show(-9223372036854775808:Int)<=_/\_<=(9223372036854775807:Int)
     simp[std];omega
    ·show(1:Int)<=i+1
     omega
    ·show i+1<=(l.length:Int)
     omega
    ·by_cases qg:j=i
     ·subst qg
      simpa[std,ai,a0,AV.cells,RowKit.intOf]using h2
     ·exact hi3 j h3 (by omega)
    ·show((l.length:Int)-(i+1)).toNat<((l.length:Int)-i).toNat
     omega
    ·exact⟨rfl,rfl,trivial⟩
   ·have h1:¬i<l.length:=by simpa[std,jH]using h1
    generalize hp:std=p;generalize hx:Q0 l=xs;generalize hT:Q1o p tys cs0 _ _ _ _=T;cbv at hT;subst hT hp hx;rw[if_pos trivial];refine FinOk.pure rfl (.inl ?_);rw[Qg3 (l:=l) (fun j h3 h4=>hi3 j h3 (Int.lt_of_lt_of_le h4 (Int.not_lt.1 h1)))]
def Qj(l:List Int)(first:Bool):Int×Int :=
 if first=true/\Q3 l 0 [60,47]=true then(1,2)
 else if first=true/\l.getD 0 0=60 then(1,1)
 else if 0<(Q2L Qb l 0:Int)then(3,(Q2L Qb l 0:Int))
 else if 0<(Qk l 0:Int)then(2,(Qk l 0:Int))
 else if l.getD 0 0=61 then(4,1)
 else if 0<Q1t l then(5,Q1t l)
 else if((l.length:Int)=2/\Q3 l 0 [47,62]=true)\/((l.length:Int)=1/\l.getD 0 0=62)then(6,(l.length:Int))
 else(7,1)
def csP(run lead val:Int)(st:ByteArray->Bool):Nat->List AV->List Ob->Option (AV×List Ob):=fun f args _=>match f,args with
 |131,_=>some (.val (.int .i64 run),[])
 |136,_=>some (.val (.int .i64 lead),[])
 |137,_=>some (.val (.int .i64 val),[])
 |138,[_,_,.val (.string s)]=>some (.val (.bool (st s)),[])
 |_,_=>none
theorem QnA(l:List Int)(hl:l≠[])(xP:l.length<=1000000000)(first:Bool):BCall prog 102 [.slc 1 (Q0 l),.val (.bool first)] [] (.tup [.val (.int .i64 (Qj l first).1),.val (.int .i64 (Qj l first).2)]) []:=by
 obtain⟨run,jc⟩:=exq ((Q2L Qb l 0:Int):Int);obtain⟨lead,jF⟩:=exq ((Qk l 0:Int):Int);obtain⟨val,hval⟩:=exq (Q1t l);obtain⟨st,jG⟩:=exq (fun s=>Q3 l 0 s.data.toList:ByteArray->Bool)
 have b1:BCall prog 131 [.slc 1 (Q0 l),.val (.int .i64 0),.val (.func (.func 135) #[] #[])] [] (.val (.int .i64 run)) []:=by
  rw[jc];exact Qqx l 0 Qb 135 QkZ (fun w=>Qlp w)
 have b2:BCall prog 136 [.slc 1 (Q0 l),.val (.int .i64 0)] [] (.val (.int .i64 lead)) []:=by
  rw[jF];exact QpL l 0 (by omega) (by omega)
 have b3:BCall prog 137 [.slc 1 (Q0 l)] [] (.val (.int .i64 val)) []:=by
  rw[hval];exact QnH l hl xP
 have b4:∀s:ByteArray,s.size<=10->BCall prog 138 [.slc 1 (Q0 l),.val (.int .i64 0),.val (.string s)] [] (.val (.bool (st s))) []:=fun s hs=>by
  rw[jG];exact Qmv l xP 0 (by omega) (by omega) s (by omega)
 obtain⟨n,hn⟩:=QG l;have e1:st ⟨#[60,47]⟩=Q3 l 0 [60,47]:=by rw[jG]
 have e2:st ⟨#[47,62]⟩=Q3 l 0 [47,62]:=by rw[jG]
 have hP:Qj l first=((if first=true/\st ⟨#[60,47]⟩=true then(1,2)
   else if first=true/\l.getD 0 0=60 then(1,1)
   else if 0<run then(3,run)
   else if 0<lead then(2,lead)
   else if l.getD 0 0=61 then(4,1)
   else if 0<val then(5,val)
   else if(n=2/\st ⟨#[47,62]⟩=true)\/(n=1/\l.getD 0 0=62)then(6,n)
   else(7,1)):Int×Int):=by
  rw[e1,e2,jc,jF,hval,hn.eq];rfl
 rw[hP];clear hP e1 e2 jG hval jF jc;have jf:0<l.length:=List.length_pos_iff.2 hl;have a0:=QN (l:=l) (i:=0) (Int.le_refl 0) (by omega)
 obtain⟨r0,vC⟩:=exq (l.getD 0 0);have a0:(Q0 l)[0]?.getD .dead=.val (.int .i32 r0):=by rw[vC,getD_eq_getElem?_getD];exact a0
 have a1:∀h:0<(Q0 l).length,(Q0 l)[0]'h=.val (.int .i32 r0):=fun h=>by rw[getElem?_eq_getElem h]at a0;exact a0
 rw[<-vC];clear vC;cases first
 all_goals
  refine fnN (csP run lead val st) func102 rfl fun _ _=>?_
  with_reducible refine cv1 (Q0 l) ?_
  have en:=hn.eq;have jH:=Qx l;have gP:0<(Q0 l).length:=by omega
  have qT:(((Q0 l).length:Nat):Int)=n:=by omega
  have b5:=b4 ⟨#[60,47]⟩ (by decide)
  have b6:=b4 ⟨#[47,62]⟩ (by decide)
  with_reducible repeat' first|refine aU (zA a0 <| zA a1 <| zA qT <| zA gP <| zA b1 <| zA b2 <| zA b3 <| zA b5 b6) ?_|refine And.intro ?_ ?_|(intro hb;try simp[std,S1,a0,a1,qT,gP,b1,b2,b3,b5,b6]at hb)
  all_goals
   first
    |refine .pure rfl ⟨.inl ?_,.inl ?_,trivial⟩
     all_goals
      try simp only[std,qT]
      clear en jH qT gP jf hn b1 b2 b3 b4 b5 b6
     all_goals first
      |(simp[*];done)
      |((repeat' split)<;>first|rfl|omega|(simp_all;done)|(simp_all;omega))
    |skip
 all_goals trace_state
structure TPart where
 kind:Int
 from_:Int
 to:Int
 deriving Inhabited
def TPart.av(x:TPart):AV:=.agg [.val (.int .i64 x.kind),.val (.int .i64 x.from_),.val (.int .i64 x.to)]
def Q7(l:List TPart):List AV:=l.map TPart.av
def Qn:TPart:=⟨0,0,0⟩
theorem Q19(l:List TPart):(Q7 l).length=l.length:=by simp[Q7]
theorem Qb7(a b:List TPart):Q7 (a++b)=Q7 a++Q7 b:=by simp[Q7]
theorem Q7s(x:TPart):Q7 [x]=[.agg [.val (.int .i64 x.kind),.val (.int .i64 x.from_),.val (.int .i64 x.to)]]:=rfl
theorem Q25{l:List TPart}{i:Int}(h0:0<=i)(h1:i<l.length):(Q7 l)[i.toNat]?.getD .dead=(l[i.toNat]?.getD Qn).av:=QfP TPart.av h0 h1 Qn
def QP(l:List TPart)(a:Nat)(ks:List Int):Bool:=((l.drop a).take ks.length).map TPart.kind == ks
theorem Q3c{l:List TPart}{a:Nat}{ks:List Int}(ha:a<=l.length):QP l a ks=true↔(a+ks.length<=l.length/\∀j,j<ks.length->(l[a+j]?.getD Qn).kind=ks[j]?.getD 0):=by
 have at_:a+ks.length<=l.length->∀j,j<ks.length->(((l.drop a).take ks.length).map TPart.kind)[j]?=some (l[a+j]?.getD Qn).kind:=fun h j hj=>by
  have h1:a+j<l.length:=by omega
  simp[getElem?_take,List.getElem?_drop,hj,h1]
 rw[QP,beq_iff_eq];constructor
 ·intro h
  have h1:a+ks.length<=l.length:=by
   have:=congrArg List.length h
   simp only[List.length_map,length_take,length_drop]at this;omega
  refine⟨h1,fun j hj=>?_⟩
  have h2:=at_ h1 j hj;rw[h]at h2;rw[h2];rfl
 ·rintro⟨h1,h2⟩
  refine List.ext_getElem? fun j=>?_
  by_cases hj:j<ks.length
  ·rw[at_ h1 j hj,h2 j hj,getElem?_eq_getElem hj];rfl
  ·rw[List.getElem?_eq_none (by simp;omega),List.getElem?_eq_none (by omega)]
theorem Q6D(l:List TPart)(hl:l.length<=1000000000)(a:Int)(h0:0<=a)(h1:a<=l.length)(ks:List Int)(hk:ks.length<=10)(res:AV)(a':Int)
  (hhit:QP l a.toNat ks=true->res=.slc 3 (Q7 ((l.drop a.toNat).take ks.length))/\a'=a+ks.length) (yf:QP l a.toNat ks=false->res=.val (.slice none 0 0)/\a'=a) :
  BCall prog 61 [.box 0 0,.slc 1 (Q9 ks)] [.box [.slc 3 (Q7 l),.val (.int .i64 a)]] res [.box [.slc 3 (Q7 l),.val (.int .i64 a')]]:=by
 obtain⟨n,hn⟩:=QG l;obtain⟨m,hm⟩:=QG ks;refine fnN (cs0) func61 rfl fun _ _=>?_
 have qX:=Q19 l;have qN:=Q31 ks;have xQ:=Q3c (l:=l) (a:=a.toNat) (ks:=ks) (by omega)
 with_reducible refine cv2 (Q7 l) (Q9 ks) ?_
 have en:=hn.eq;have em:=hm.eq;replace h1:a<=(l.length:Int):=h1;refine⟨?_,fun h=>?_,fun h=>?_⟩
 ·refine(Qhu _).2 ?_
  simp only[std,qX];omega
 ·have h:(l.length:Int)-a<ks.length:=by simpa[std,qX,qN]using h
  obtain⟨rfl,rfl⟩:=yf (by
   rw[Bool.eq_false_iff];intro h2;have:=(xQ.1 h2).1
   omega)
  exact⟨[some 0],.val (.slice none 0 0),_,rfl,rfl,le_refl _,rfl,by simp[Qm],.inl rfl⟩
 ·have h:¬(l.length:Int)-a<ks.length:=by simpa[std,qX,qN]using h
  refine Q1h (cs0) (Int) (fun i=>⟨[(0,.box 0 0),(1,.slc 1 (Q9 ks)),(21,.slc 1 (Q9 ks)),(22,.val (.int .i64 m)),(23,.val (.int .i64 i))],[.box [.slc 3 (Q7 l),.val (.int .i64 a)]]⟩) (fun i=>0<=i/\i<=m/\∀j:Nat,(j:Int)<i->(l[a.toNat+j]?.getD Qn).kind=ks[j]?.getD 0) (fun i=>(m-i).toNat) 0 ?_ ?_ ?_
  ·exact⟨by omega,by omega,fun j hj=>by omega⟩
  ·refine⟨[some 0],_,rfl,?_⟩
   simp[Qm,lk,std,qN,em]
  ·have qq:a+m<=n:=by omega
   clear h;rintro i ⟨jN,him,hi⟩;rcases Int.lt_or_eq_of_le him with jB|j4
   ·have jX:=Q3L (l:=ks) jN (by omega)
    have pC:=Q25 (l:=l) (i:=a+i) (by omega) (by omega)
    have pD:(a+i).toNat=a.toNat+i.toNat:=by omega
    rw[pD]at pC;have c7:∀j:Nat,j<i.toNat->(l[a.toNat+j]?.getD Qn).kind=ks[j]?.getD 0:=fun j hj=>hi j (by omega)
    clear hi;clear en em;with_reducible refine cv2 (Q7 l) (Q9 ks) ?_
    have en:=hn.eq;have em:=hm.eq;have hib:a+i<(l.length:Int):=by omega
    repeat' first
     |(with_reducible refine And.intro (fun hx=>absurd hx (by first|(try simp[std,S1,jX,pC,pD,TPart.av,qX,qN,jB,jN,hib])<;>omega|omega)) (fun _=>?_))
     |(with_reducible refine And.intro (fun _=>?_) (fun hx=>absurd hx (by first|(try simp[std,S1,jX,pC,pD,TPart.av,qX,qN,jB,jN,hib])<;>omega|omega)))
     |(with_reducible refine And.intro (by first|(try simp[std,S1,jX,pC,pD,TPart.av,qX,qN,jB,jN,hib])<;>omega|omega) ?_)
     |(with_reducible refine And.intro ?_ ?_)
     |(with_reducible intro hb)
    ·have jI:¬(l[a.toNat+i.toNat]?.getD Qn).kind=ks[i.toNat]?.getD 0:=by
      simpa[std,jX,pC,pD,TPart.av,AV.cells,RowKit.intOf]using hb
     obtain⟨rfl,rfl⟩:=yf (by
      rw[Bool.eq_false_iff];intro h2;exact jI ((xQ.1 h2).2 i.toNat (by omega)))
     with_reducible refine cv2 (Q7 l) (Q9 ks) ?_
     exact⟨[some 0],.val (.slice none 0 0),_,rfl,rfl,le_refl _,rfl,by simp[Qm],.inl rfl⟩
    ·have he:(l[a.toNat+i.toNat]?.getD Qn).kind=ks[i.toNat]?.getD 0:=by
      simpa[std,jX,pC,pD,TPart.av,AV.cells,RowKit.intOf]using hb
     refine⟨i+1,⟨by omega,by omega,fun j hj=>?_⟩,by omega,[some 0],_,rfl,by simp[Qm,lk,std]⟩
     have hj:(j:Int)<i+1:=hj;by_cases qg:j<i.toNat
     ·exact c7 j qg
     ·obtain rfl:j=i.toNat:=by omega
      exact he
   ·obtain⟨rfl,rfl⟩:=hhit (xQ.2 ⟨by omega,fun j hj=>hi j (by omega)⟩)
    have jU:std.cut (Q7 l) a (a+m)=Q7 ((l.drop a.toNat).take ks.length):=by
     show((Q7 l).drop a.toNat).take (a+m-a).toNat=_
     rw[show(a+m-a).toNat=ks.length by omega,Q7,Q7,map_take,map_drop]
    have zT:std.len (Q9 ks)=m:=by simp only[std,qN,em]
    have xE:a+(ks.length:Int)=a+m:=by omega
    rw[xE,<-jU];clear en em hi;with_reducible refine cv2 (Q7 l) (Q9 ks) ?_
    with_reducible repeat' first|refine aU j4 ?_|refine And.intro ?_ ?_|intro hb
    rw[if_pos trivial];with_reducible refine cv2 (Q7 l) (Q9 ks) ?_
    have en:=hn.eq;have em:=hm.eq
    repeat' first
     |(with_reducible refine And.intro (fun hx=>absurd hx (by first|(try simp[std,S1,zT,qX,qN,<-em])<;>omega|omega)) (fun _=>?_))
     |(with_reducible refine And.intro (fun _=>?_) (fun hx=>absurd hx (by first|(try simp[std,S1,zT,qX,qN,<-em])<;>omega|omega)))
     |(with_reducible refine And.intro (by first|(try simp[std,S1,zT,qX,qN,<-em])<;>omega|omega) ?_)
     |(with_reducible refine And.intro ?_ ?_)
     |(with_reducible intro hb)
    have zo:std.add a (std.len (Q9 ks))=a+m:=by rw[zT];rfl
    refine⟨[some 0],.slc 3 (std.cut (Q7 l) a (a+m)),_,rfl,rfl,le_refl _,rfl,⟨?_,rfl,?_,trivial⟩,.inl rfl⟩
    ·show AV.slc 3 (std.cut (Q7 l) a (std.add a (std.len (Q9 ks))))=_
     rw[zo]
    ·show AV.val (.int .i64 (std.add a (std.len (Q9 ks))))=_
     rw[zo]
theorem Qll(l:List Int):0<=Q1t l/\Q1t l<=l.length:=by
 unfold Q1t;split
 ·cases h:(l.drop 1).findIdx? (· == l.getD 0 0)with
  |none=>simp
  |some k =>
   have:=(List.findIdx?_eq_some_iff_getElem.1 h).1
   simp at this;simp only;omega
 ·omega
theorem Q3i(l:List Int)(first:Bool)(h:l≠[]):1<=(Qj l first).2/\(Qj l first).2<=l.length:=by
 have hp:0<l.length:=List.length_pos_iff.2 h;unfold Qj;split
 ·rename_i h1
  have:=Q10 l 0 _ (by omega) h1.2
  simp only[List.length_cons,List.length_nil]at this;simp only;omega
 ·split
  ·simp only;omega
  ·split
   ·rename_i h1
    have:Q2L Qb l 0<=l.length:=by
     rw[Q2L,if_neg (by omega)]
     have:=(List.takeWhile_sublist Qb (l:=l.drop (0:Int).toNat)).length_le
     simpa using this
    simp only;omega
   ·split
    ·rename_i h1
     have:Qk l 0<=l.length:=by
      unfold Qk;split
      ·omega
      ·split
       ·have:=(List.takeWhile_sublist Qp (l:=l.drop 0)).length_le
        simpa using this
       ·omega
     simp only;omega
    ·split
     ·simp only;omega
     ·split
      ·have:=Qll l
       simp only;omega
      ·split<;>(simp only;omega)
def Qt(at_:Int)(first:Bool)(r:List Int):List TPart :=
 if h:r=[]then []else⟨(Qj r first).1,at_,at_+(Qj r first).2⟩::Qt (at_+(Qj r first).2) false (r.drop (Qj r first).2.toNat)
termination_by r.length
decreasing_by
 have:=Q3i r first h
 simp only[length_drop];omega
def QT(l:List Int)(from_ to:Int):List TPart:=Qt from_ true ((l.take to.toNat).drop from_.toNat)
def pkA(xs:List AV)(b:Bool):Int:=(Qj (xs.map RowKit.intOf) b).1
def pnA(xs:List AV)(b:Bool):Int:=(Qj (xs.map RowKit.intOf) b).2
theorem Q51(l:List Int):(Q0 l).map RowKit.intOf=l:=by
 induction l with
 |nil=>rfl
 |cons x r ih=>rw[Q0,map_cons,map_cons];rw[Q0]at ih;rw[ih];rfl
def Qqd(pk pn:List AV->Bool->Int):Nat->List AV->List Ob->Option (AV×List Ob):=fun f args _=>match f,args with
 |102,[.slc 1 xs,.val (.bool b)]=>some (.tup [.val (.int .i64 (pk xs b)),.val (.int .i64 (pn xs b))],[])
 |_,_=>none
theorem Qdp(l:List Int)(hl:l.length<=1000000000)(from_ to:Int)(h0:0<=from_)(h1:from_<=to)(h2:to<=l.length) :
  BCall prog 60 [.slc 1 (Q0 l),.val (.int .i64 from_),.val (.int .i64 to)] [] (.slc 3 (Q7 (QT l from_ to))) []:=by
 obtain⟨n,hn⟩:=QG l;have pA:to<=n:=by rw[hn.eq];exact h2
 have yQ:n<=1000000000:=by rw[hn.eq];omega
 clear h2;refine fnN (Qqd pkA pnA) func60 rfl fun _ _=>?_
 with_reducible refine cv3 pkA pnA (Q0 l) ?_
 have en:=hn.eq;have qB:=Qx l;have kK:(((Q0 l).length:Nat):Int)=n:=by omega
 with_reducible repeat' first|refine aU (zA kK <| zA h0 <| zA h1 pA) ?_|refine And.intro ?_ ?_|intro hb
 refine Q1h (Qqd pkA pnA) (List TPart×Int) (fun x=>⟨[(0,.slc 1 (Q0 l)),(1,.val (.int .i64 from_)),(2,.val (.int .i64 to)),(7,.row 0 0),(8,.val (.int .i64 x.2))],[.row 85 3 false 0 (Q7 x.1)]⟩) (fun x=>from_<=x.2/\x.2<=to/\x.1++Qt x.2 (decide (x.2=from_)) ((l.take to.toNat).drop x.2.toNat)=QT l from_ to/\x.1.length<=x.2.toNat) (fun x=>(to-x.2).toNat) ([],from_) ?_ ?_ ?_
 ·exact⟨by omega,h1,by simp[QT],by simp⟩
 ·exact⟨[none],_,rfl,by simp[Qm,lk,Q7]⟩
 ·rintro⟨out,k⟩ ⟨js,jj,j6,j2⟩
  simp only at js jj j6 j2
  have jR:=Q19 out;by_cases hk:k<to
  ·obtain⟨r,hr⟩:=exq ((l.take to.toNat).drop k.toNat)
   have kT:r.length=to.toNat-k.toNat:=by rw[hr,length_drop,length_take];omega
   have xR:r≠[]:=by intro h;rw[h]at kT;simp at kT;omega
   have jU:std.cut (Q0 l) k to=Q0 r:=by
    show((Q0 l).drop k.toNat).take (to-k).toNat=_
    rw[hr,Q0,Q0,map_drop,map_take,List.drop_take];congr 1;omega
   obtain⟨first,hf⟩:=exq (decide (k=from_))
   have j4:std.eqI k from_=first:=by
    rw[hf];show(k == from_)=decide (k=from_)
    by_cases h:k=from_<;>simp[h]
   have hpn:=Q3i r first xR
   have hb:=QnA r xR (by omega) first
   obtain⟨K,hK⟩:=exq ((Qj r first).1)
   obtain⟨N,hN⟩:=exq ((Qj r first).2)
   have ch:pkA (std.cut (Q0 l) k to) (std.eqI k from_)=K:=by rw[jU,j4,pkA,Q51,hK]
   have pa:pnA (std.cut (Q0 l) k to) (std.eqI k from_)=N:=by rw[jU,j4,pnA,Q51,hN]
   rw[<-hK,<-hN]at hb
   have hb:BCall prog 102 [.slc 1 (std.cut (Q0 l) k to),.val (.bool (std.eqI k from_))] [] (.tup [.val (.int .i64 (pkA (std.cut (Q0 l) k to) (std.eqI k from_))),.val (.int .i64 (pnA (std.cut (Q0 l) k to) (std.eqI k from_)))]) []:=by
    rw[ch,pa,jU,j4];exact hb
   have hG:out++[⟨K,k,k+N⟩]++Qt (k+N) (decide (k+N=from_)) ((l.take to.toNat).drop (k+N).toNat)=QT l from_ to:=by
    have e1:decide (k+N=from_)=false:=by simp;omega
    have e2:(l.take to.toNat).drop (k+N).toNat=r.drop N.toNat:=by rw[hr,List.drop_drop];congr 1;omega
    have e3:Qt k first r=⟨K,k,k+N⟩::Qt (k+N) false (r.drop N.toNat):=by
     conv=>lhs;rw[Qt]
     rw[dif_neg xR,<-hK,<-hN]
    rw[e1,e2,<-j6,<-hf,<-hr,e3];simp
   have hN1:1<=N:=by rw[hN];exact hpn.1
   have cr:k+N<=to:=by rw[hN];omega
   clear hpn hf en;with_reducible refine cv4 pkA pnA (Q0 l) (Q7 out) ?_
   have en:=hn.eq;have zo:std.add k (pnA (std.cut (Q0 l) k to) (std.eqI k from_))=k+N:=by rw[pa];rfl
   have jS:std.inR .i64 (std.add k (pnA (std.cut (Q0 l) k to) (std.eqI k from_))):=by
    rw[zo];exact(Qhu _).2 (by omega)
   refine⟨fun _=>⟨?_,hb,jS,?_,jS,(out++[⟨K,k,k+N⟩],k+N),⟨by simp only;omega,cr,hG,by simp only[length_append,length_singleton];omega⟩,by simp only;omega,[some 0],_,rfl,?_⟩,fun h=>?_⟩
   ·simp only[std,qB];omega
   ·simp only[std,jR,length_singleton];omega
   ·refine⟨rfl,rfl,rfl,rfl,?_,?_,trivial⟩
    ·show AV.val (.int .i64 (std.add k (pnA (std.cut (Q0 l) k to) (std.eqI k from_))))=_
     rw[zo]
    ·show AV.slc 0 (std.app (Q7 out) [.agg [.val (.int .i64 (pkA (std.cut (Q0 l) k to) (std.eqI k from_))),.val (.int .i64 k),.val (.int .i64 (std.add k (pnA (std.cut (Q0 l) k to) (std.eqI k from_))))]])=_
     rw[zo,ch,Qb7,Q7s];rfl
   ·simp[std]at h;omega
  ·have hG:out=QT l from_ to:=by
    have:(l.take to.toNat).drop k.toNat=[]:=List.drop_eq_nil_of_le (by rw[length_take];omega)
    rw[<-j6,this,Qt,dif_pos rfl,append_nil]
   clear en;with_reducible refine cv4 pkA pnA (Q0 l) (Q7 out) ?_
   with_reducible repeat' first|refine aU hk ?_|refine And.intro ?_ ?_|intro hb
   rw[if_pos trivial];with_reducible refine cv4 pkA pnA (Q0 l) (Q7 out) ?_
   exact .pure rfl (.inl (by rw[hG]))
end
def QqU(ob ob2 ob2' obr:List Ob)(ρ ρ':List (Option Nat)):Bool:=(List.range ob.length).all fun i=>match Qjj ρ i with
 |some j=>ρ'[i]? == some (some j)&&(match ob[i]?,ob2[j]?,ob2'[j]?,obr[i]? with
  |some (.row _ _ _ e0 _),some (.row _ _ _ e2 _),some (.row _ _ _ e2' _),some (.row _ _ _ er _)=>decide (e0<er)||(e0 == er&&e2 == e2')
  |_,_,_,_=>true)
 |none=>false
section
variable {w w':World}{g g':Gh}{ob ob2 ob2' obr:List Ob}{ρ ρ':List (Option Nat)}
theorem Qin(hF:Fits ob ob2 ρ)(ho:Q2w ρ=true)(kU:Fits ob2' obr ρ')(yK:Q2w ρ'=true)(hi:QqU ob ob2 ob2' obr ρ ρ'=true)(hn:ob.length<=obr.length)(h0:Step w (g.ren ρ) ob2 w' g' ob2'):Step w g ob w' (g'.ren ρ') obr:=by
 have head:∀i,i<ob.length->∃j,ρ[j]?=some (some i)/\ρ'[i]?=some (some j)/\∀e0 e2 e2' er et sz fz xs et2 sz2 fz2 xs2 et3 sz3 fz3 xs3 et4 sz4 fz4 xs4,
   ob[i]?=some (.row et sz fz e0 xs)->ob2[j]?=some (.row et2 sz2 fz2 e2 xs2)->ob2'[j]?=some (.row et3 sz3 fz3 e2' xs3)->obr[i]?=some (.row et4 sz4 fz4 er xs4)->e0<er\/(e0=er/\e2=e2'):=fun i c7=>by
  have:=all_eq_true.1 hi i (List.mem_range.2 c7)
  split at this
  ·rename_i j hj
   simp only[Bool.and_eq_true,beq_iff_eq]at this;refine⟨j,QdD hj,this.1,?_⟩;intro e0 e2 e2' er et sz fz xs et2 sz2 fz2 xs2 et3 sz3 fz3 xs3 et4 sz4 fz4 xs4 h1 h2 h3 h4;have h5:=this.2;simp only[h1,h2,h3,h4,Bool.or_eq_true,Bool.and_eq_true,beq_iff_eq,decide_eq_true_eq]at h5;exact h5
  ·cases this
 refine⟨h0.os,h0.tape,h0.output,h0.size,fun b hb hG=>h0.keep b hb (by simp[Gh.ren,hG]),fun b id hG=>?_,fun b o hA=>?_,⟨h0.ext.A,fun id hid=>?_,fun id hb=>?_,fun id hb=>?_,fun id et sz fz e xs hr=>?_,fun b id hG hs=>?_⟩,hn⟩
 ·obtain⟨i,_,h3⟩:=Q33 hG
  rcases h0.own b i h3 with ⟨id',h4⟩|h4
  ·obtain⟨i',_,h5⟩:=Q33 h4
   exact .inl ⟨i',h5⟩
  ·exact .inr h4
 ·rcases h0.imm b o hA with h1|⟨id,h1⟩|h1
  ·exact .inl h1
  ·obtain⟨i',_,h5⟩:=Q33 h1
   exact .inr (.inl ⟨i',h5⟩)
  ·exact .inr (.inr h1)
 ·obtain⟨j,h1,h2,_⟩:=head id hid
  have hj:j<ob2.length:=hF.1 ▸ Q8 h1;rw[Q29 h2,h0.ext.loc j hj,Q29 h1]
 ·obtain⟨j,h1,h2,_⟩:=head id (Q4j hb)
  exact kU.isB h2 (h0.ext.isb j (hF.isB h1 hb))
 ·obtain⟨j,h1,h2,_⟩:=head id (Q5b hb)
  exact kU.isI h2 (h0.ext.isi j (hF.isI h1 hb))
 ·obtain⟨j,h1,h2,h3⟩:=head id (Q8 hr)
  obtain⟨fz2,e2,h4,_⟩:=hF.row h1 hr;obtain⟨fz3,e3,xs3,h5,h6,h7⟩:=h0.ext.row j et sz fz2 e2 xs h4;obtain⟨fz4,e4,h8,_⟩:=kU.row h2 h5;refine⟨fz4,e4,xs3,h8,by rcases h3 _ _ _ _ _ _ _ _ _ _ _ _ _ _ _ _ _ _ _ _ hr h4 h5 h8 with h|h<;>omega,fun he=>?_⟩
  have ql:e3=e2:=by
   rcases h3 _ _ _ _ _ _ _ _ _ _ _ _ _ _ _ _ _ _ _ _ hr h4 h5 h8 with h|h
   ·omega
   ·exact h.2.symm
  exact(h7 ql).turn (fun b hb=>⟨Q5B ho h1 hb,Q3R ho h1 hb⟩) (fun b _ vn=>Q5B yK h2 vn) rfl
 ·obtain⟨et,sz,fz,fz',e,xs,xs',h4,h5⟩:=hs
  obtain⟨j,h1,h2,h3⟩:=head id (Q8 h4);obtain⟨fz2,e2,h6,_⟩:=hF.row h1 h4;obtain⟨fz3,e3,xs3,h7,h8,h9⟩:=h0.ext.row j et sz fz2 e2 xs h6;obtain⟨fz4,e4,q9,_⟩:=kU.row h2 h7;rw[q9]at h5;obtain⟨rfl,rfl,rfl⟩:fz4=fz'/\e4=e/\xs3=xs':=by simpa using h5
  have ql:e2=e3:=by
   rcases h3 _ _ _ _ _ _ _ _ _ _ _ _ _ _ _ _ _ _ _ _ h4 h6 h7 q9 with h|h
   ·omega
   ·exact h.2
  subst ql;have p4:=Q5B (g:=g) ho h1 hG;obtain⟨vn,zX⟩:=h0.ext.sub b j p4 ⟨_,_,_,_,_,_,_,h6,h7⟩;have hG3:=(h9 rfl).G p4;have e1:=Q3R (g:=g) ho h1 hG;have e2:=Q3R (g:=g') yK h2 hG3;exact⟨e2.trans (vn.trans e1),fun hb=>zX (by rw[e1];exact hb)⟩
theorem BCall.tell{P:Program}{f:Nat}{args args2:List AV}{res2 res' res:AV}{l l':Eqs}(h:BCall P f args2 ob2 res2 ob2')(ρ ρ':List (Option Nat))(h1:Q2w ρ=true)(vu:Q2w ρ'=true)(hi:QqU ob ob2 ob2' obr ρ ρ'=true)(hn:ob.length<=obr.length)
  (ha:both (Qct ob ob2 ρ args args2) (Q87 ob ob2 ρ ρ ob2)=some l) (hl:Qm l) (hr:both (Qi7 ob2' obr ρ' res2 res') (Q87 ob2' obr ρ' ρ' obr)=some l') (nZ:Qm l') (h6:leA res' res):BCall P f args ob res obr:=by
 refine⟨h.1,fun w g vs M hL=>?_⟩
 obtain⟨⟨l1,e1,a1⟩,l2,e2,a2⟩:=Q35 ha hl;obtain⟨⟨l3,e3,a3⟩,l4,e4,a4⟩:=Q35 hr nZ;have hF:Fits ob ob2 ρ:=Q4y _ _ _ e2 a2;have kU:Fits ob2' obr ρ':=Q4y _ _ _ e4 a4;obtain⟨k1,k2⟩:=Q90 hF h1 _ _ _ _ e1 a1 hL.1 hL.2;refine(h.2 w (g.ren ρ) vs (M.ren hF h1) ⟨k1,k2⟩).mono fun e w' ⟨v,g',k1,k2,k3,k4⟩=>?_
 exact⟨v,g'.ren ρ',k1,k2.ren kU vu,Q9A (Qa5 kU vu k3 e3 a3) h6,Qin hF h1 kU vu hi hn k4⟩
end
section
variable {P:Program}{ty:Tys}{w0:World}{g0:Gh}{o0:List Ob}{N:Nat}
theorem Qal(hT:TyOk P ty)(hm:P.follows .mixedOrders=true){ord:Nat->OT}{c:Code}(hd:Q2h N c=true)(ho:Q28 .any ty ord c=true)
  {X:Type} (cs:X->Nat->List AV->List Ob->Option (AV×List Ob)) (S:X->St) (J:X->Prop) (μ:X->Nat) {Q:Ex->St->Prop} {s:St} (x0:X) (h0:J x0) (hS:Qot o0 s (S x0))
  (round:∀x,J x->(Q1o std ty (cs x) ord c (fun e s=>.leaf e s) (S x)).ok P w0 g0 o0 N (Q1u o0 S J μ x Q)):WP P w0 g0 o0 N (.loop c) Q s:=by
 intro a w hs;obtain⟨ρ,l,hl,hE⟩:=hS;let I:Act->World->Prop:=fun a w=>∃x,J x/\Sim w0 g0 o0 N (S x) a w
 let pm:Act->World->Nat->Prop:=fun a w n=>∃x,J x/\Sim w0 g0 o0 N (S x) a w/\μ x=n
 let m:Act->World->Nat:=fun a w=>open Classical in if h:∃n,pm a w n then Classical.choose (QbM _ h)else 0
 have yj:∀a w,I a w->pm a w (m a w)/\∀k,pm a w k->m a w<=k:=fun a w hI=>by
  have h:∃n,pm a w n:=by
   obtain⟨x,h1,h2⟩:=hI;exact⟨μ x,x,h1,h2,rfl⟩
  have e:m a w=Classical.choose (QbM _ h):=dif_pos h;rw[e];exact Classical.choose_spec (QbM _ h)
 refine wp_loop I m ⟨x0,h0,Q89 ρ hl hE hs⟩ fun a w hI=>?_
 obtain⟨⟨x,hJ,hx,hμ⟩,jJ⟩:=yj a w hI;refine Q4i (Q:=Q1u o0 S J μ x Q) hT hm c _ _ (S x) a w hd ho (fun c a d v w h=>?_) (fun e s a' w' ht jd hq=>?_) (fun v s a w ht hs h=>⟨.pan v,s,rfl,fun _ _=>ht,hs,h⟩) hx (round x hJ)
 ·obtain⟨e',s',h1,ht,h2,h3⟩:=h
  cases e'<;>cases h1
  have et:s'.tm=[]:=ht _ rfl;obtain⟨g,M,_,h0⟩:=h2.rel;exact⟨.pan _,s',rfl,ht,⟨h2.defers,by have:=h2.size;simpa[Act.put]using this,g,M,fun t=>by rw[et];trivial,h0⟩,h3⟩
 ·cases e with
  |normal =>
   obtain⟨x',h1,h2,ρ',l',h3,h4⟩:=hq;have jV:=Q89 ρ' h3 h4 jd;have p5:I a' w':=⟨x',h1,jV⟩;refine⟨p5,Nat.lt_of_le_of_lt ((yj a' w' p5).2 _ ⟨x',h1,jV,rfl⟩) ?_⟩;rw[<-hμ];exact h2
  |exit i=>exact⟨.exit i,s,rfl,ht,jd,hq⟩
  |ret=>exact⟨.ret,s,rfl,ht,jd,hq⟩
  |pan v=>exact⟨.pan v,s,rfl,ht,jd,hq⟩
end
theorem Qp1{α:Type}(f:α->AV){l:List α}{i:Int}(h0:0<=i)(h1:i<l.length)(d:α):std.at_ (l.map f) i=f (l[i.toNat]?.getD d):=by
 show(l.map f).getD i.toNat .dead=_
 rw[getD_eq_getElem?_getD];exact QfP f h0 h1 d
theorem QfB{l:List Int}{i:Int}(h0:0<=i)(h1:i<l.length):std.nth (std.cel (std.at_ (Q9 l) i)) 0=.val (.int .i64 (l[i.toNat]?.getD 0)):=by rw[Q9,Qp1 QfI h0 h1 0];rfl
theorem Qnb{x:AV}{n:Int}{k:IntKind}(h:x=.val (.int k n)):std.hasI k x:=by subst h;rfl
theorem QkA{x:AV}{n:Int}{k:IntKind}(h:x=.val (.int k n)):std.int x=n:=by subst h;rfl
section
open Tryz
inductive Cur where
 |root (n:Int)
 |kid (n f k:Int) (up:Cur)
 deriving Inhabited
def Cur.n:Cur->Int
 |.root n=>n
 |.kid n _ _ _=>n
def Cur.f:Cur->Int
 |.root _=>0
 |.kid _ f _ _=>f
def Cur.k:Cur->Int
 |.root _=>0
 |.kid _ _ k _=>k
def upO(N:List AV):Cur->AV
 |.root _=>.val (.pointer none)
 |.kid _ _ _ up=>.ref [.ref [.slc 6 N],.val (.int .i64 up.n),.val (.int .i64 up.f),.val (.int .i64 up.k),.opt (upO N up)]
def Cur.cs(N:List AV)(c:Cur):List AV:=[.ref [.slc 6 N],.val (.int .i64 c.n),.val (.int .i64 c.f),.val (.int .i64 c.k),.opt (upO N c)]
def QqD:List AV:=[.val (.pointer none),.val (.int .i64 0),.val (.int .i64 0),.val (.int .i64 0),.val (.pointer none)]
theorem Qh9(N:List AV)(c:Cur):Q5C (upO N c):=by cases c<;>trivial
def Qi(l:List Node)(c:Cur):List Int:=(Qh l c.n).kids
def Q2Y(l:List Node)(c:Cur)(k:Int):Cur:=.kid ((Qi l c)[k.toNat]?.getD 0) (c.f+Q1X l ((Qi l c).take k.toNat)) k c
def Qrj(len:List AV->Int):Nat->List AV->List Ob->Option (AV×List Ob):=fun f args _=>match f,args with
 |53,[.ref [.slc 6 xs]]=>some (.val (.int .i64 (len xs)),[])
 |_,_=>none
theorem QpG(l:List Node)(n:Int)(h0:0<=n)(h1:n<l.length):BCall prog 26 [.ref [.slc 6 (Q1 l)],.val (.int .i64 n)] [] (.tup [.agg ((Cur.root n).cs (Q1 l)),.val (.int .i64 0)]) []:=by
 have cL:=QbT l;have jH:Q5k (Q1 l)=l.length:=by rw[Q5k,Q1g]
 refine fnN (Qrj Q5k) func26 rfl fun _ _=>?_
 with_reducible refine cv2 Q5k (Q1 l) ?_
 refine⟨fun h=>?_,fun _=>⟨cL,fun h=>?_,fun _=>.pure rfl ⟨⟨.inl rfl,.inl rfl,.inl rfl,.inl rfl,.inr (.inr (.inl ⟨rfl,trivial⟩)),trivial⟩,.inl rfl,trivial⟩⟩⟩
 ·have h:n<0:=of_decide_eq_true h
  omega
 ·have h:Q5k (Q1 l)<=n:=of_decide_eq_true h
  omega
def QqC(kd:Int->List AV)(w:Int->Int):Nat->List AV->List Ob->Option (AV×List Ob):=fun f args _=>match f,args with
 |27,[.ref [.slc 6 _],.val (.int .i64 n)]=>some (.slc 1 (kd n),[])
 |56,[.ref [.slc 6 _],.val (.int .i64 n)]=>some (.val (.int .i64 (w n)),[])
 |_,_=>none
theorem QmP(l:List Node)(c:Cur)(k:Int)(h0:0<=k)(h1:k<(Qi l c).length)(hn:(Qi l c).length<=1000000)(hw:∀n,0<=Q17 l n)(hs:Q1X l (Qi l c)<=2147483647)(qh:0<=c.f)(qi:c.f<=2147483647) :
  BCall prog 28 [.agg (c.cs (Q1 l)),.val (.int .i64 k)] [] (.tup [.agg ((Q2Y l c k).cs (Q1 l)),.val (.bool true)]) []:=by
 have cK:=Qm5 l c.n (by show(Qi l c).length<=_;omega)
 have cW:=fun n=>Qol l n
 obtain⟨cn,yV⟩:=exq c.n;obtain⟨cf,gu⟩:=exq c.f;obtain⟨ck,zZ⟩:=exq c.k;obtain⟨ks,vM⟩:=exq (Qi l c);obtain⟨m,hm⟩:=QG ks;have hkN:Q21 l cn=Q9 ks:=by rw[yV,vM];rfl
 rw[<-vM]at h1 hn hs;rw[<-gu]at qh qi;have gp:k<m:=by rw[hm.eq];exact h1
 have jH:=Q31 ks;have qN:std.len (Q21 l cn)=m:=by show((Q21 l cn).length:Int)=_;rw[hkN,jH,hm.eq]
 have hE:(Q2Y l c k).cs (Q1 l)=[.ref [.slc 6 (Q1 l)],.val (.int .i64 (ks[k.toNat]?.getD 0)),.val (.int .i64 (cf+Q1X l (ks.take k.toNat))),.val (.int .i64 k),.opt (.ref [.ref [.slc 6 (Q1 l)],.val (.int .i64 cn),.val (.int .i64 cf),.val (.int .i64 ck),.opt (upO (Q1 l) c)])]:=by
  rw[vM,gu,yV,zZ];rfl
 rw[hE,Cur.cs,<-yV,<-gu,<-zZ];rw[<-yV]at cK;have cK:BCall prog 27 [.ref [.slc 6 (Q1 l)],.val (.int .i64 cn)] [] (.slc 1 (Q21 l cn)) []:=cK;have jX:=Q3L (l:=ks) h0 h1
 have jU:std.cut (Q9 ks) 0 k=Q9 (ks.take k.toNat):=by
  show((Q9 ks).drop (0:Int).toNat).take (k-0).toNat=_
  simp[Q9,map_take]
 clear h1 hE;refine fnN (QqC (Q21 l) (Q17 l)) func28 rfl fun _ _=>?_
 with_reducible refine cv4 (Q21 l) (Q17 l) (upO (Q1 l) c) (Q1 l) ?_
 refine⟨cK,fun h=>?_,fun _=>⟨fun h=>?_,fun _=>⟨?_,?_⟩⟩⟩
 ·have h:k<0:=of_decide_eq_true h
  omega
 ·have h:std.len (Q21 l cn)<=k:=of_decide_eq_true h
  rw[qN]at h;omega
 ·show std.cutok 0 k (std.len (Q21 l cn))
  rw[qN];exact⟨Int.le_refl _,h0,by omega⟩
 have qW:std.len (Q9 (ks.take k.toNat))=k:=by
  show((Q9 (ks.take k.toNat)).length:Int)=k
  have:=hm.eq
  rw[Q31,length_take];omega
 rw[<-hkN]at jU;obtain⟨aw,pH⟩:=exq (fun i=>cf+Q1X l (ks.take i.toNat):Int->Int)
 have p8:cf+Q1X l (ks.take k.toNat)=aw k:=by rw[pH]
 rw[p8];have cy:std.len (std.cut (Q21 l cn) 0 k)=k:=by rw[jU,qW]
 refine Q1h (QqC (Q21 l) (Q17 l)) (Int) (fun i=>⟨[(1,.val (.int .i64 k)),(2,.box 0 0),(4,.box 1 0),(6,.slc 1 (Q9 ks)),(7,.val (.int .i64 (aw i))),(28,.slc 1 (Q9 (ks.take k.toNat))),(29,.val (.int .i64 k)),(30,.val (.int .i64 i))],[.box [.ref [.slc 6 (Q1 l)],.val (.int .i64 cn),.val (.int .i64 cf),.val (.int .i64 ck),.opt (upO (Q1 l) c)],.box QqD]⟩) (fun i=>0<=i/\i<=k) (fun i=>(k-i).toNat) 0 ?_ ?_ ?_
 ·exact⟨Int.le_refl _,h0⟩
 ·refine⟨[some 0,some 1],_,rfl,?_⟩
  have cJ:cf=aw 0:=by rw[pH];simp[Q1X]
  repeat first
   |exact trivial
   |refine⟨gA hkN,?_⟩
   |refine⟨gA jU,?_⟩
   |refine⟨gI cy,?_⟩
   |refine⟨gI cJ,?_⟩
   |refine⟨rfl,?_⟩
 ·rintro i ⟨jN,qn⟩
  have yv:=Q5t hw (ks.take i.toNat);have gS:=Q9B hw ks i.toNat;rcases Int.lt_or_eq_of_le qn with jB|j4
  ·have jo:=hm.eq
   have j3:i.toNat<ks.length:=by omega
   have hx:(Q9 (ks.take k.toNat))[i.toNat]?.getD .dead=.val (.int .i64 (ks[i.toNat]?.getD 0)):=by
    have:=Q3L (l:=ks.take k.toNat) (i:=i) jN (by rw[length_take];omega)
    rw[this,getElem?_take,if_pos (by omega)]
   have cz:=QfB (l:=ks.take k.toNat) (i:=i) jN (by rw[length_take];omega)
   rw[getElem?_take,if_pos (by omega)]at cz
   have jM:Q1X l (ks.take (i+1).toNat)=Q1X l (ks.take i.toNat)+Q17 l (ks[i.toNat]?.getD 0):=by
    rw[show(i+1).toNat=i.toNat+1 by omega,List.take_add_one,getElem?_eq_getElem j3]
    show(((ks.take i.toNat)++[ks[i.toNat]]).map (Q17 l)).sum=_
    rw[List.map_append,List.sum_append];simp[Q1X]
   have zI:=Q9B hw ks (i+1).toNat;rw[jM]at zI;have hw4:=hw (ks[i.toNat]?.getD 0);have pi:aw (i+1)=aw i+Q17 l (ks[i.toNat]?.getD 0):=by rw[pH];simp only[jM];omega
   have hawi:aw i=cf+Q1X l (ks.take i.toNat):=by rw[pH]
   have vB:0<=aw i+Q17 l (ks[i.toNat]?.getD 0)/\aw i+Q17 l (ks[i.toNat]?.getD 0)<=4294967294:=by omega
   obtain⟨y,hy⟩:=exq (ks[i.toNat]?.getD 0);rw[<-hy]at hx cz pi vB;clear jo yv gS zI jM hw4 hawi pH p8;have hlt':=jB;with_reducible refine cv6 (Q21 l) (Q17 l) (upO (Q1 l) c) (Q1 l) (Q9 ks) (Q9 (ks.take k.toNat)) ?_
   have hy3:=cz;have pG:=QkA cz;have e1:aw i+Q17 l y=aw (i+1):=pi.symm;refine⟨fun _=>⟨?_,⟨?_,trivial⟩,cW _,?_,?_,i+1,⟨by omega,by omega⟩,by omega,[some 0,some 1],_,rfl,?_⟩,fun h=>?_⟩
   ·show 0<=i/\i<std.len (Q9 (ks.take k.toNat))
    rw[qW];omega
   ·show std.nth (std.cel (std.at_ (Q9 (ks.take k.toNat)) i)) 0=.val (.int .i64 (std.int (std.nth (std.cel (std.at_ (Q9 (ks.take k.toNat)) i)) 0)))
    rw[pG,hy3]
   ·show(-9223372036854775808:Int)<=aw i+Q17 l (std.int (std.nth (std.cel (std.at_ (Q9 (ks.take k.toNat)) i)) 0))/\aw i+Q17 l (std.int (std.nth (std.cel (std.at_ (Q9 (ks.take k.toNat)) i)) 0))<=(9223372036854775807:Int)
    rw[pG];omega
   ·show(-9223372036854775808:Int)<=i+1/\i+1<=(9223372036854775807:Int)
    have:=hm.eq
    omega
   ·have e2:std.add (aw i) (Q17 l (std.int (std.nth (std.cel (std.at_ (Q9 (ks.take k.toNat)) i)) 0)))=aw (i+1):=by rw[pG];exact e1
    exact eq1 e2
   ·have h:¬i<k:=of_decide_eq_false h
    omega
  ·rw[j4]
   clear yv gS pH p8;with_reducible refine cv6 (Q21 l) (Q17 l) (upO (Q1 l) c) (Q1 l) (Q9 ks) (Q9 (ks.take k.toNat)) ?_
   refine⟨fun h=>?_,fun _=>?_⟩
   ·have h:k<k:=of_decide_eq_true h
    omega
   rw[if_pos trivial];with_reducible refine cv6 (Q21 l) (Q17 l) (upO (Q1 l) c) (Q1 l) (Q9 ks) (Q9 (ks.take k.toNat)) ?_
   have hkm:=hm.eq;have hcl3:std.len (Q9 ks)=m:=by show((Q9 ks).length:Int)=m;rw[Q31,hm.eq]
   have hc:=QfB (l:=ks) h0 (by omega)
   refine⟨?_,⟨Qnb hc,trivial⟩,.pure rfl ⟨⟨.inl rfl,.inl (gI (QkA hc)),.inl rfl,.inl rfl,.inr (.inr (.inl ⟨rfl,trivial⟩)),trivial⟩,.inl rfl,trivial⟩⟩;show 0<=k/\k<std.len (Q9 ks);rw[hcl3];omega
def Qrg(k:Int->Int):Nat->List AV->List Ob->Option (AV×List Ob):=fun f args _=>match f,args with
 |29,[.ref [.slc 6 _],.val (.int .i64 n)]=>some (.val (.int .i64 (k n)),[])
 |_,_=>none
theorem Qng(l:List Node)(c:Cur):BCall prog 11 [.agg (c.cs (Q1 l))] [] (.val (.int .i64 (Qh l c.n).kind)) []:=by
 have cK:=QfN l c.n;rw[Cur.cs];obtain⟨cn,yV⟩:=exq c.n;obtain⟨cf,gu⟩:=exq c.f;obtain⟨ck,zZ⟩:=exq c.k;rw[<-yV]at cK ⊢;rw[<-gu,<-zZ];refine fnN (Qrg (QO l)) func11 rfl fun _ _=>?_
 with_reducible refine cv3 (QO l) (upO (Q1 l) c) (Q1 l) ?_
 exact⟨cK,.pure rfl (.inl rfl)⟩
def toC(l:List Node):Cur->List Int->Option Cur
 |c,[]=>some c
 |c,k::r=>if 0<=k/\k<(Qi l c).length then toC l (Q2Y l c k) r else none
structure CurOk (l:List Node) (c:Cur):Prop where
 n:(Qi l c).length<=1000000
 s:Q1X l (Qi l c)<=2147483647
 f0:0<=c.f
 f1:c.f<=2147483647
end
section
variable {P:Program}{ty:Tys}
end
def gl(w:World):Gh:=⟨fun b _=>b<w.heap.size,fun _=>none,fun _=>0,fun _=>false⟩
theorem QmL(w:World):Mem w (gl w) [] :=
 ⟨(fun id cs h=>by simp at h),(fun id cs h=>by simp at h),(fun id y h=>by simp at h),(fun b id h=>by cases h),(fun b o h=>⟨h,fun id h2=>by cases h2⟩),(fun id et sz fz e xs h=>by simp at h),(fun b h=>by cases h),(fun b b' id h=>by cases h)⟩
theorem BCall.law{P:Program}{f:Nat}{vs:List Value}{args:List AV}{res:Value}(h:BCall P f args [] (.val res) [])(w:World)(hL:Q2R w (gl w) [] vs args) :
  Calls P f vs.toArray w fun e w'=>e=.returned res/\Below w.heap.size w w' :=
 (h.2 w (gl w) vs (QmL w) hL).mono fun e w' ⟨v,g',k1,k2,k3,k4⟩=>by
  have hv:v=res:=ARel.valEq (g:=g') (w:=w') (ob:=[]) k3;subst hv;exact⟨k1,k4.os,k4.tape,k4.output,k4.size,fun b hb=>k4.keep b hb rfl⟩
theorem argL_nil{w:World}{g:Gh}{ob:List Ob}:Q2R w g ob [] []:=⟨rfl,fun j v x h=>by simp at h⟩
theorem argL_cons{w:World}{g:Gh}{ob:List Ob}{v:Value}{x:AV}{vs:List Value}{xs:List AV}(h:ARel1 w g ob v x)(hr:Q2R w g ob vs xs):Q2R w g ob (v::vs) (x::xs):=by
 refine⟨by simp[hr.1],fun j u y hu hy=>?_⟩
 cases j with
 |zero =>
  obtain rfl:v=u:=by simpa using hu
  obtain rfl:x=y:=by simpa using hy
  exact h
 |succ j=>exact hr.2 j u y (by simpa using hu) (by simpa using hy)
theorem okWide_spot{P:Program}{W:World}{r:Reach}{base:Nat}{t e:TypeId}{x:Addr}{l c:Nat}(ht:P.underlying t=some (.slice e))(h:Value.okWide P W r base t (.slice (some x) l c)):x.spot=none:=by
 simp only[Value.okWide,ht,Cell.okWide,Cell.ok]at h;exact h.2.2.2.1
def Qko(k:IntKind)(w:World)(a:Option Addr)(len cap:Nat)(zs:List Int):Prop :=
 (a=none/\len=0/\cap=0/\zs=[]) \/
 ∃x,a=some x/\len<=cap/\cap<=maxLen/\zs.length=cap/\(∀i,i<zs.length->w.cell? (x.add i)=some (.int k (zs.getD i 0)))/\∀n∈zs,(Lit.int k n).wf=true
theorem Qlz{k:IntKind}{w:World}{a:Option Addr}{len cap:Nat}{zs:List Int}(h:Qko k w a len cap zs)(hs:∀x,a=some x->x.spot=none) :
  ARel1 w (gl w) [] (.slice a len cap) (.slc 1 ((zs.take len).map fun n=>.val (.int k n))):=by
 have hr:=(QbZ h).1
 have hl:len=((zs.take len).map fun n=>AV.val (.int k n)).length:=by
  rcases h with ⟨_,rfl,_,rfl⟩|⟨x,_,h1,_,h2,_⟩
  ·rfl
  ·simp;omega
 refine QgC hr (fun b o hb=>hb) hl (fun x hx=>by obtain⟨n,_,rfl⟩:=mem_map.1 hx;rfl) (fun x hx=>?_) ?_
 ·obtain⟨b,o,s⟩:=x
  exact⟨b,o,by rw[show s=none from hs _ hx]⟩
 ·have:QF ((zs.take len).map fun n=>AV.val (.int k n))=((zs.take len).map (Value.int k)).map .val:=by
   generalize zs.take len=l;induction l with
   |nil=>rfl
   |cons n r ih=>simp only[map_cons,QF,List.flatMap_cons]at ih ⊢;rw[ih];rfl
  rw[this];refine⟨by simp,fun j y u hy hu=>?_⟩
  rw[List.getElem?_map,hy]at hu;obtain rfl:AV.val y=u:=by simpa using hu
  obtain⟨n,_,rfl⟩:=mem_map.1 (List.mem_of_getElem? hy);exact PRel.val _ rfl
theorem QpE{n:Int}(h:(Lit.int .u8 n).wf=true):((UInt8.ofNat n.toNat).toNat:Int)=n:=by
 have h:0<=n/\n<=255:=by simpa[Lit.wf,IntKind.min,IntKind.max,IntKind.signed,IntKind.bits]using h
 rw[UInt8.toNat_ofNat'];omega
theorem arg_bytes{w:World}{a:Option Addr}{len cap:Nat}{zs:List Int}(h:Qko .u8 w a len cap zs)(hs:∀x,a=some x->x.spot=none) :
  ARel1 w (gl w) [] (.slice a len cap) (.slc 1 (Q4 ((zs.take len).map fun n=>UInt8.ofNat n.toNat))):=by
 have h1:=Qlz h hs;have h2:=(QbZ h).2
 have e:Q4 ((zs.take len).map fun n=>UInt8.ofNat n.toNat)=(zs.take len).map fun n=>.val (.int .u8 n):=by
  rw[Q4,List.map_map];refine List.map_congr_left fun n hn=>?_
  show AV.val (.int .u8 ((UInt8.ofNat n.toNat).toNat:Int))=_;rw[QpE (h2 n hn)]
 rw[e];exact h1
section
open Tryz
def bsB(l:List UInt8):ByteArray:=⟨l.toArray⟩
theorem Q5g(a b:List UInt8):std.catS (bsB a) (bsB b)=bsB (a++b):=by
 show(bsB a)++(bsB b)=bsB (a++b)
 have h:((bsB a)++(bsB b)).data=(bsB (a++b)).data:=by
  rw[ByteArray.data_append];simp[bsB]
 cases hx:(bsB a)++(bsB b);rw[hx]at h;cases hy:bsB (a++b);rw[hy]at h;exact congrArg ByteArray.mk h
theorem Q3p(a:List UInt8):(bsB a).size=a.length:=by simp[bsB,ByteArray.size]
def Q98(n:Nat):List UInt8:=if n<10 then [UInt8.ofNat (48+n)]else Q98 (n / 10)++[UInt8.ofNat (48+n % 10)]
termination_by n
decreasing_by omega
def Q36(n:Int):List UInt8:=if n<0 then [45]else Q98 n.toNat
theorem Qmf(n:Nat):0<(Q98 n).length:=by
 rw[Q98];split<;>simp
theorem Ql2:∀n:Nat,∀k:Nat,1<=k->n<10 ^ k->(Q98 n).length<=k:=by
 intro n;induction n using Nat.strongRecOn with
 |_ n ih =>
  intro k hk hn;rw[Q98];split
  ·simpa using hk
  ·rename_i h
   rw[length_append,length_singleton];obtain⟨k',rfl⟩:∃k',k=k'+1:=⟨k-1,by omega⟩
   have h1:n / 10<10 ^ k':=by rw[Nat.pow_succ]at hn;omega
   have h2:1<=k':=by
    rcases Nat.eq_zero_or_pos k' with rfl|h2
    ·simp at hn;omega
    ·exact h2
   have:=ih (n / 10) (by omega) k' h2 h1
   omega
theorem Q7X(n:Int)(h:n<=9223372036854775807):(Q36 n).length<=19:=by
 rw[Q36];split
 ·simp
 ·exact Ql2 _ 19 (by decide) (by omega)
theorem Qky(n:Int):0<(Q36 n).length:=by
 rw[Q36];split
 ·simp
 ·exact Qmf _
def Q6n(n:Int):List UInt8:=[UInt8.ofNat (48+(n.toNat % 10))]
theorem Qeu(n:Int)(h:0<=n):std.strB [.val (.int .u8 (std.wrap .u8 (std.add 48 (std.rem n 10))))]=bsB (Q6n n):=by
 have h1:std.rem n 10=((n.toNat % 10:Nat):Int):=by
  show n.tmod 10=_;rw[Int.tmod_eq_emod_of_nonneg h];omega
 rw[h1];have h2:n.toNat % 10<10:=mod_lt _ (by decide)
 generalize hk:n.toNat % 10=k at h2;have e:Q6n n=[UInt8.ofNat (48+k)]:=by rw[Q6n,hk]
 rw[e];have:∀k:Nat,k<10->std.strB [.val (.int .u8 (std.wrap .u8 (std.add 48 (k:Int))))]=bsB [UInt8.ofNat (48+k)]:=by decide
 exact this k h2
theorem QhP(n:Int)(h:0<=n):(std.isB [.val (.int .u8 (std.wrap .u8 (std.add 48 (std.rem n 10))))]).q:=by
 have h1:std.rem n 10=((n.toNat % 10:Nat):Int):=by
  show n.tmod 10=_;rw[Int.tmod_eq_emod_of_nonneg h];omega
 rw[h1];have h2:n.toNat % 10<10:=mod_lt _ (by decide)
 generalize n.toNat % 10=k at h2;have:∀k:Nat,k<10->(std.isB [.val (.int .u8 (std.wrap .u8 (std.add 48 (k:Int))))]).b=true:=by decide
 exact(std.isB _).h.1 (this k h2)
theorem Qcs(n:Int)(h:10<=n):Q98 n.toNat=Q98 (n / 10).toNat++Q6n n:=by
 rw[Q98,if_neg (by omega),Q6n]
 congr 2
 omega
theorem Qc4(n:Int)(h0:0<=n)(h:n<10):Q98 n.toNat=Q6n n:=by
 rw[Q98,if_pos (by omega),Q6n]
 congr 2
 omega
theorem Qls(n:Int)(h0:-9223372036854775808<=n)(h1:n<=9223372036854775807):BCall prog 15 [.val (.int .i64 n)] [] (.val (.string (bsB (Q36 n)))) []:=by
 obtain⟨D,hD⟩:=exq (Q36 n);rw[<-hD];refine fnN (cs0) func15 rfl fun _ _=>?_
 with_reducible refine cv0 ?_
 refine Q1h (cs0) (Int×List UInt8×Bool) (fun x=>⟨[(0,.val (.int .i64 x.1)),(2,.val (.string ⟨#[]⟩)),(3,.val (.string (bsB x.2.1))),(4,.val (.bool x.2.2))],[]⟩) (fun x=>(x.2.2=true->0<=n/\0<=x.1/\x.1<=9223372036854775807/\Q98 x.1.toNat++x.2.1=D)/\(x.2.2=false->(n<0/\x.2.1=[])\/(0<=n/\x.2.1=D))) (fun x=>if x.2.2=true then x.1.toNat+1 else 0) (n,[],decide (0<=n)) ?_ ?_ ?_
 ·refine⟨fun h=>?_,fun h=>?_⟩
  ·have h:0<=n:=of_decide_eq_true h
   exact⟨h,h,h1,by rw[hD,Q36,if_neg (by omega),append_nil]⟩
  ·have h:¬0<=n:=of_decide_eq_false h
   exact .inl ⟨by omega,rfl⟩
 ·exact⟨[],_,rfl,by simp[Qm,lk,std,bsB]⟩
 ·rintro⟨m,s,ok⟩ ⟨jj,j6⟩
  simp only at jj j6
  cases ok with
  |true =>
   obtain⟨qa,k0,k1,k2⟩:=jj rfl;have hDl:D.length<=19:=by rw[hD];exact Q7X n h1
   clear hD;clear jj j6;have hS:=Qeu m k0;have hI:=QhP m k0;have hc:=Q5g (Q6n m) s;generalize qu:bsB s=S at hc;have hq:std.quo m 10=m / 10:=Int.tdiv_eq_ediv_of_nonneg k0;have hr:std.rem m 10=m % 10:=Int.tmod_eq_emod_of_nonneg k0;have pl:std.catS (std.strB [.val (.int .u8 (std.wrap .u8 (std.add 48 (std.rem m 10))))]) S=bsB (Q6n m++s):=by rw[hS];exact hc
   have jB:std.ltI 0 (std.quo m 10)=decide (0<m / 10):=by rw[hq];rfl
   have hSz:S.size<=19:=by
    have:=congrArg List.length k2
    rw[length_append]at this;rw[<-qu,Q3p];omega
   with_reducible refine cv0 ?_
   refine⟨⟨show(10:Int)≠0 by decide,?_,trivial⟩,?_,hI,?_,⟨show(10:Int)≠0 by decide,?_,trivial⟩,(m / 10,Q6n m++s,decide (0<m / 10)),⟨fun h=>?_,fun h=>?_⟩,?_,[],_,rfl,?_⟩
   ·show -9223372036854775808<=std.rem m 10/\std.rem m 10<=9223372036854775807
    rw[hr];omega
   ·show -9223372036854775808<=48+std.rem m 10/\48+std.rem m 10<=9223372036854775807
    rw[hr];omega
   ·show(((std.strB [.val (.int .u8 (std.wrap .u8 (std.add 48 (std.rem m 10))))]).size+S.size:Nat):Int)<=9223372036854775807
    rw[hS,Q3p,show(Q6n m).length=1 from rfl];omega
   ·show -9223372036854775808<=std.quo m 10/\std.quo m 10<=9223372036854775807
    rw[hq];omega
   ·have h:0<m / 10:=of_decide_eq_true h
    refine⟨qa,by show 0<=m / 10;omega,by show m / 10<=_;omega,?_⟩
    show Q98 (m / 10).toNat++(Q6n m++s)=D;rw[<-List.append_assoc,<-Qcs m (by omega)];exact k2
   ·have h:¬0<m / 10:=of_decide_eq_false h
    refine .inr ⟨qa,?_⟩;show Q6n m++s=D;rw[<-Qc4 m k0 (by omega)];exact k2
   ·show(if decide (0<m / 10)=true then(m / 10).toNat+1 else 0)<(if True then m.toNat+1 else 0)
    rw[if_pos trivial];split
    ·rename_i h
     have h:0<m / 10:=of_decide_eq_true h;omega
    ·omega
   ·rw[<-qu]
    rw[<-qu]at pl;exact eq3 hq pl jB
  |false =>
   have j2:=j6 rfl;clear jj j6;generalize qu:bsB s=S
   have hE:std.eqS S ⟨#[]⟩=s.isEmpty:=by
    rw[<-qu];show((bsB s).toList == (⟨#[]⟩:ByteArray).toList)=_
    rw[ByteArray.toList_eq,ByteArray.toList_eq];cases s<;>simp[bsB]
   with_reducible refine cv0 ?_
   rw[if_pos trivial];with_reducible refine cv0 ?_
   refine⟨fun h=>?_,fun h=>?_⟩
   ·have h:s.isEmpty=true:=hE.symm.trans h
    refine .pure rfl (.inl ?_);have hs:s=[]:=by simpa using h
    rcases j2 with ⟨h2,_⟩|⟨h2,h3⟩
    ·rw[hD,Q36,if_pos h2];rfl
    ·have:=Qky n
     rw[<-hD,<-h3,hs]at this;simp at this
   ·have h:s.isEmpty=false:=hE.symm.trans h
    refine .pure rfl (.inl ?_);rcases j2 with ⟨_,h3⟩|⟨_,h3⟩
    ·rw[h3]at h;simp at h
    ·rw[<-qu,h3]
def Qqg(nb:Int->ByteArray):Nat->List AV->List Ob->Option (AV×List Ob):=fun f args _=>match f,args with
 |19,[.val (.int .i64 n)]=>some (.val (.string (nb n)),[])
 |_,_=>none
theorem QiE(n:Int)(h0:-9223372036854775808<=n)(h1:n<=9223372036854775807):BCall prog 19 [.val (.int .i64 n)] [] (.val (.string (bsB (Q36 n)))) []:=by
 have key:∀(k:Nat)(n:Int),n<=9223372036854775807->-9223372036854775808<=n->n.toNat<k->BCall prog 19 [.val (.int .i64 n)] [] (.val (.string (bsB (Q36 n)))) []:=by
  intro k;induction k with
  |zero=>intro n _ _ h;omega
  |succ k ih =>
   intro n h1 h0 hk;by_cases zP:n<0
   ·have jB:std.ltI n 0=true:=decide_eq_true zP
    have hN:Q36 n=[45]:=by rw[Q36,if_pos zP]
    rw[hN];clear ih;refine fnN (Qqg (fun n=>bsB (Q36 n))) func19 rfl fun _ _=>?_
    with_reducible refine cv1 ((fun n=>bsB (Q36 n))) ?_
    refine⟨fun _=>.pure rfl (.inl rfl),fun h=>?_⟩
    have h:std.ltI n 0=false:=h;rw[jB]at h;cases h
   ·have k0:0<=n:=by omega
    have hS:=Qeu n k0;have hI:=QhP n k0;have hq:std.quo n 10=n / 10:=Int.tdiv_eq_ediv_of_nonneg k0;have hr:std.rem n 10=n % 10:=Int.tmod_eq_emod_of_nonneg k0;have jB:std.ltI n 0=false:=decide_eq_false zP;have jH:=Q7X (n / 10) (by omega)
    have c1:=Q5g (Q36 (n / 10)) (Q6n n)
    have jb:10<=n->Q36 n=Q36 (n / 10)++Q6n n:=fun h=>by
     rw[Q36,if_neg (by omega),Q36,if_neg (by omega)];exact Qcs n h
    have ji:n<10->Q36 n=Q6n n:=fun h=>by rw[Q36,if_neg (by omega)];exact Qc4 n k0 h
    have ih':=ih (n / 10);clear ih;refine fnN (Qqg (fun n=>bsB (Q36 n))) func19 rfl fun _ _=>?_
    with_reducible refine cv1 ((fun n=>bsB (Q36 n))) ?_
    refine⟨fun h=>?_,fun _=>⟨⟨show(10:Int)≠0 by decide,?_,trivial⟩,?_,hI,fun h=>.pure rfl (.inl ?_),fun h=>⟨⟨show(10:Int)≠0 by decide,?_,trivial⟩,?_,?_,.pure rfl (.inl ?_)⟩⟩⟩
    ·have h:std.ltI n 0=true:=h
     rw[jB]at h;cases h
    ·show -9223372036854775808<=std.rem n 10/\std.rem n 10<=9223372036854775807
     rw[hr];omega
    ·show -9223372036854775808<=48+std.rem n 10/\48+std.rem n 10<=9223372036854775807
     rw[hr];omega
    ·have h:n<10:=of_decide_eq_true h
     rw[ji h];exact congrArg (fun x=>AV.val (.string x)) hS
    ·show -9223372036854775808<=std.quo n 10/\std.quo n 10<=9223372036854775807
     rw[hq];omega
    ·have h:¬n<10:=of_decide_eq_false h
     show BCall _ _ [.val (.int .i64 (std.quo n 10))] [] (.val (.string (bsB (Q36 (std.quo n 10))))) [];rw[hq];exact ih' (by omega) (by omega) (by omega)
    ·show(((bsB (Q36 (std.quo n 10))).size+(std.strB [.val (.int .u8 (std.wrap .u8 (std.add 48 (std.rem n 10))))]).size:Nat):Int)<=9223372036854775807
     rw[hS,hq,Q3p,Q3p,show(Q6n n).length=1 from rfl];omega
    ·have h:¬n<10:=of_decide_eq_false h
     show AV.val (.string (std.catS (bsB (Q36 (std.quo n 10))) (std.strB [.val (.int .u8 (std.wrap .u8 (std.add 48 (std.rem n 10))))])))=_;rw[hS,hq,c1,jb (by omega)]
 exact key (n.toNat+1) n h1 h0 (by omega)
end
section
open Tryz
theorem QoP{a b:ByteArray}(h:a.data.toList=b.data.toList):a=b:=by
 cases a;cases b;exact congrArg ByteArray.mk (Array.ext' h)
def vEq:Value->Value->Bool
 |.int k a,.int k' b=>decide (k=k')&&decide (a=b)
 |.bool a,.bool b=>a == b
 |.string a,.string b=>decide (a.data.toList=b.data.toList)
 |.slice none a b,.slice none c d=>Nat.beq a c&&Nat.beq b d
 |.pointer none,.pointer none=>true
 |.func (.func f) a b,.func (.func g) c d=>Nat.beq f g&&((a.isEmpty&&b.isEmpty)&&(c.isEmpty&&d.isEmpty))
 |_,_=>false
theorem Qq6{x y:Value}(h:vEq x y=true):x=y:=by
 unfold vEq at h;split at h
 ·simp only[Bool.and_eq_true,decide_eq_true_eq]at h
  rw[h.1,h.2]
 ·rw[eq_of_beq h]
 ·rw[QoP (of_decide_eq_true h)]
 ·simp only[Bool.and_eq_true]at h
  rw[eq_of_beq_eq_true h.1,eq_of_beq_eq_true h.2]
 ·rfl
 ·simp only[Bool.and_eq_true,Array.isEmpty_iff]at h
  rw[eq_of_beq_eq_true h.1,h.2.1.1,h.2.1.2,h.2.2.1,h.2.2.2]
 ·cases h
def Q8q{α:Type}(f:α->α->Bool):List α->List α->Bool
 | [],[]=>true
 |x::r,y::r'=>f x y&&Q8q f r r'
 |_,_=>false
theorem Q3r{α:Type}{f:α->α->Bool}(h:∀x y,f x y=true->x=y):∀l l':List α,Q8q f l l'=true->l=l'
 | [],[],_=>rfl
 | [],_::_,e=>by cases e
 |_::_,[],e=>by cases e
 |x::r,y::r',e=>by
  simp only[Q8q,Bool.and_eq_true]at e;rw[h x y e.1,Q3r h r r' e.2]
def aEq:Nat->AV->AV->Bool
 |0,_,_=>false
 |n+1,x,y=>match x,y with
  |.val a,.val b=>vEq a b
  |.slc s xs,.slc s' ys=>Nat.beq s s'&&Q8q (aEq n) xs ys
  |.agg xs,.agg ys=>Q8q (aEq n) xs ys
  |.ref xs,.ref ys=>Q8q (aEq n) xs ys
  |.tup xs,.tup ys=>Q8q (aEq n) xs ys
  |.box i o,.box j p=>Nat.beq i j&&Nat.beq o p
  |.row i o,.row j p=>Nat.beq i j&&Nat.beq o p
  |.rowk i o k,.rowk j p l=>Nat.beq i j&&(Nat.beq o p&&decide (k=l))
  |.rptr i o k z,.rptr j p l z'=>Nat.beq i j&&(Nat.beq o p&&(decide (k=l)&&Nat.beq z z'))
  |.kb a,.kb b=>a == b
  |.iter i,.iter j=>Nat.beq i j
  |.opt a,.opt b=>aEq n a b
  |.dead,.dead=>true
  |_,_=>false
theorem Q7F:∀(n:Nat)(x y:AV),aEq n x y=true->x=y
 |0,_,_,h=>by cases h
 |n+1,x,y,h=>by
  have ih:=Q7F n;unfold aEq at h;split at h
  ·rw[Qq6 h]
  ·simp only[Bool.and_eq_true]at h;rw[eq_of_beq_eq_true h.1,Q3r ih _ _ h.2]
  ·rw[Q3r ih _ _ h]
  ·rw[Q3r ih _ _ h]
  ·rw[Q3r ih _ _ h]
  ·simp only[Bool.and_eq_true]at h;rw[eq_of_beq_eq_true h.1,eq_of_beq_eq_true h.2]
  ·simp only[Bool.and_eq_true]at h;rw[eq_of_beq_eq_true h.1,eq_of_beq_eq_true h.2]
  ·simp only[Bool.and_eq_true,decide_eq_true_eq]at h;rw[eq_of_beq_eq_true h.1,eq_of_beq_eq_true h.2.1,h.2.2]
  ·simp only[Bool.and_eq_true,decide_eq_true_eq]at h;rw[eq_of_beq_eq_true h.1,eq_of_beq_eq_true h.2.1,h.2.2.1,eq_of_beq_eq_true h.2.2.2]
  ·rw[eq_of_beq h]
  ·rw[eq_of_beq_eq_true h]
  ·rw[ih _ _ h]
  ·rfl
  ·cases h
def oEq:Ob->Ob->Bool
 |.box a,.box b=>Q8q (aEq 40) a b
 |.fbox a,.fbox b=>Q8q (aEq 40) a b
 |.row a b c d xs,.row a' b' c' d' ys=>Nat.beq a a'&&(Nat.beq b b'&&((c == c')&&(Nat.beq d d'&&Q8q (aEq 40) xs ys)))
 |.iter (.str a p),.iter (.str b q)=>decide (a.data.toList=b.data.toList)&&Nat.beq p q
 |.iter (.map a),.iter (.map b)=>Q8q (aEq 40) (Q5h a) (Q5h b)
 |.gone,.gone=>true
 |_,_=>false
theorem Qku{x y:Ob}(h:oEq x y=true):x=y:=by
 have ih:=Q7F 40;unfold oEq at h;split at h
 ·rw[Q3r ih _ _ h]
 ·rw[Q3r ih _ _ h]
 ·simp only[Bool.and_eq_true]at h
  rw[eq_of_beq_eq_true h.1,eq_of_beq_eq_true h.2.1,eq_of_beq h.2.2.1,eq_of_beq_eq_true h.2.2.2.1,Q3r ih _ _ h.2.2.2.2]
 ·simp only[Bool.and_eq_true]at h
  rw[QoP (of_decide_eq_true h.1),eq_of_beq_eq_true h.2]
 ·rw[Q6N (Q3r ih _ _ h)]
 ·rfl
 ·cases h
def Qpy(l:Eqs):Bool:=l.all fun q=>aEq 40 q.1 q.2
theorem Qhn:∀l:Eqs,Qpy l=true->Qm l
 | [],_=>trivial
 |(a,b)::r,h=>by
  simp only[Qpy,all_cons,Bool.and_eq_true]at h;exact⟨Q7F 40 _ _ h.1,Qhn r h.2⟩
def Eqv(s s':St):Prop:=s.ob=s'.ob/\(∀t,lk t s.tm=lk t s'.tm)/\(∀k r,s.tm=[(k,r)]->s'.tm=[(k,r)])
def QpW(s s':St):Bool:=Q8q oEq s.ob s'.ob&&(match s.tm,s'.tm with
 | [(k,r)],[(k',r')]=>Nat.beq k k'&&aEq 40 r r'
 | [(_,_)],_=>false
 |l,l'=>(l.all fun q=>aEq 40 (lk q.1 l) (lk q.1 l'))&&(l'.all fun q=>aEq 40 (lk q.1 l) (lk q.1 l')))
theorem QfS{t:Nat}:∀l:List (Nat×AV),(∀q∈l,q.1≠t)->lk t l=.dead
 | [],_=>rfl
 |(u,x)::r,h=>by
  show(if t=u then x else lk t r)=_
  rw[if_neg (fun e=>h _ (List.mem_cons_self ..) e.symm)]
  exact QfS r fun q hq=>h q (List.mem_cons_of_mem _ hq)
theorem Qob{s s':St}(h:QpW s s'=true):Eqv s s':=by
 unfold QpW at h;rw[Bool.and_eq_true]at h;refine⟨Q3r (fun _ _=>Qku) _ _ h.1,?_⟩
 have h:=h.2;split at h
 ·rename_i k r k' r' h1 h2
  rw[Bool.and_eq_true]at h;have e1:=eq_of_beq_eq_true h.1;have e2:=Q7F 40 _ _ h.2;subst e1 e2;rw[h1,h2];exact⟨fun _=>rfl,fun _ _ e=>e⟩
 ·cases h
 ·rename_i l l' h1 h2
  refine⟨fun t=>?_,fun k r e=>by first|exact absurd e (h1 k r)|exact absurd e (h2 k r)⟩
  rw[Bool.and_eq_true,all_eq_true,all_eq_true]at h;by_cases ha:∃q∈s.tm,q.1=t
  ·obtain⟨q,hq,rfl⟩:=ha
   exact Q7F 40 _ _ (h.1 q hq)
  ·by_cases hb:∃q∈s'.tm,q.1=t
   ·obtain⟨q,hq,rfl⟩:=hb
    exact Q7F 40 _ _ (h.2 q hq)
   ·rw[QfS _ (fun q hq e=>ha ⟨q,hq,e⟩),QfS _ (fun q hq e=>hb ⟨q,hq,e⟩)]
def QpF:Ex->Ex->Bool
 |.normal,.normal=>true
 |.ret,.ret=>true
 |.exit i,.exit j=>Nat.beq i j
 |_,_=>false
theorem QnP{x y:Ex}(h:QpF x y=true):x=y:=by
 unfold QpF at h;split at h
 ·rfl
 ·rfl
 ·rw[eq_of_beq_eq_true h]
 ·cases h
def Qhs:Option (Ex×St)->Option (Ex×St)->Option (Ex×St)
 |some (e,s),some (e',s')=>match QpF e e'&&QpW s s' with
  |true=>some (e,s)
  |false=>none
 |_,_=>none
def Q39(ask:Nat->List Srt->Bool)(lp:Code->St->Option (Ex×St)):Tree->Option (Ex×St)
 |.leaf e s=>match e with
  |.pan _=>none
  |_=>some (e,s)
 |.br c t f=>match c with
  |true=>Q39 ask lp t
  |false=>Q39 ask lp f
 |.need q t=>match q.b with
  |true=>Q39 ask lp t
  |false=>none
 |.call _ _ _ _ _ t=>Q39 ask lp t
 |.loop body s K=>match lp body s with
  |some (e,s')=>Q39 ask lp (K e s')
  |none=>none
 |.both a b=>Qhs (Q39 ask lp a) (Q39 ask lp b)
 |.either q a b=>match q.b with
  |true=>Qhs (Q39 ask lp a) (Q39 ask lp b)
  |false=>Q39 ask lp b
 |.ask T sh t=>match ask T sh with
  |true=>Q39 ask lp t
  |false=>none
 |.askK T sh t=>match ask T sh with
  |true=>Q39 ask lp t
  |false=>none
 |.pan _ _ _ _=>none
 |.nxt _ _ _ _ _=>none
 |.prop _ _=>none
 |.look k es f n=>match Qah k 0 es with
  |some (some (j,v))=>Q39 ask lp (f j v)
  |some none=>Q39 ask lp n
  |none=>none
 |.stuck _=>none
def Tree.cal(C:Nat->List AV->List Ob->AV->List Ob->Prop)(B:Code->Prop):Tree->Prop
 |.leaf _ _=>True
 |.br _ t f=>t.cal C B/\f.cal C B
 |.need _ t=>t.cal C B
 |.call f a o r o' t=>C f a o r o'/\t.cal C B
 |.loop body _ K=>B body/\∀e s,(K e s).cal C B
 |.both a b=>a.cal C B/\b.cal C B
 |.either _ a b=>a.cal C B/\b.cal C B
 |.ask _ _ t=>t.cal C B
 |.askK _ _ t=>t.cal C B
 |.pan _ _ _ _=>True
 |.nxt _ _ _ f t=>(∀j p,(f j p).cal C B)/\t.cal C B
 |.prop _ t=>t.cal C B
 |.look _ _ f n=>(∀j v,(f j v).cal C B)/\n.cal C B
 |.stuck _=>True
section
variable {P:Program}{w0:World}{g0:Gh}{o0:List Ob}{N:Nat}{Q:Ex->St->Prop}
theorem Q5N{x y:Option (Ex×St)}{e:Ex}{s:St}(h:Qhs x y=some (e,s)):x=some (e,s)/\∃s',y=some (e,s')/\Eqv s s':=by
 unfold Qhs at h;split at h
 ·rename_i e1 s1 e2 s2
  split at h
  ·rename_i hb
   rw[Bool.and_eq_true]at hb;obtain⟨rfl,rfl⟩:e1=e/\s1=s:=by simpa using h
   refine⟨rfl,s2,?_,Qob hb.2⟩;rw[QnP hb.1]
  ·cases h
 ·cases h
theorem QgO{ask:Nat->List Srt->Bool}{lp:Code->St->Option (Ex×St)}(ha:∀T sh,ask T sh=true->Qfw P T sh/\Q9o P T sh){B:Code->Prop}(hl:∀body s e s',B body->lp body s=some (e,s')->WP P w0 g0 o0 N (.loop body) (fun e2 s2=>e2=e/\s2=s') s)
  (hQ:∀e s s',Q e s->Eqv s s'->Q e s'):∀(t:Tree)(e:Ex)(s:St),t.cal (fun f a o r o'=>BCall P f a o r o') B->Q39 ask lp t=some (e,s)->Q e s->t.ok P w0 g0 o0 N Q:=by
 intro t;induction t with
 |leaf e s =>
  intro e' s' _ h hq;unfold Q39 at h;split at h
  ·cases h
  ·obtain⟨rfl,rfl⟩:e=e'/\s=s':=by simpa using h
   exact hq
 |br c t f iht ihf =>
  intro e s hc h hq;cases c with
  |true=>exact⟨fun _=>iht e s hc.1 h hq,fun h=>(by cases h)⟩
  |false=>exact⟨fun h=>(by cases h),fun _=>ihf e s hc.2 h hq⟩
 |need q t ih =>
  intro e s hc h hq;unfold Q39 at h;split at h
  ·rename_i hb
   exact⟨q.h.1 hb,ih e s hc h hq⟩
  ·cases h
 |call f a o r o' t ih =>
  intro e s hc h hq;exact⟨hc.1,ih e s hc.2 h hq⟩
 |loop body s0 K ih =>
  intro e s hc h hq;unfold Q39 at h;split at h
  ·rename_i e1 s1 h1
   intro a w hs;refine wp_mono (hl body s0 e1 s1 hc.1 h1 a w hs) fun x a' w' hx=>?_
   obtain⟨e',s',gt,ht,pf,rfl,rfl⟩:=hx;exact⟨_,_,gt,ht,pf,ih _ _ e s (hc.2 _ _) h hq⟩
  ·cases h
 |both a b iha ihb =>
  intro e s hc h hq;obtain⟨h1,s',h2,h3⟩:=Q5N h;exact⟨iha e s hc.1 h1 hq,ihb e s' hc.2 h2 (hQ e s s' hq h3)⟩
 |either q a b iha ihb =>
  intro e s hc h hq;unfold Q39 at h;split at h
  ·obtain⟨h1,s',h2,h3⟩:=Q5N h
   exact⟨fun _=>iha e s hc.1 h1 hq,ihb e s' hc.2 h2 (hQ e s s' hq h3)⟩
  ·rename_i hb
   exact⟨fun vh=>(by rw[q.h.2 vh]at hb;cases hb),ihb e s hc.2 h hq⟩
 |ask T sh t ih =>
  intro e s hc h hq;unfold Q39 at h;split at h
  ·rename_i hb
   exact⟨(ha T sh hb).1,ih e s hc h hq⟩
  ·cases h
 |askK T sh t ih =>
  intro e s hc h hq;unfold Q39 at h;split at h
  ·rename_i hb
   exact⟨(ha T sh hb).2,ih e s hc h hq⟩
  ·cases h
 |pan f a o v=>intro e s _ h;cases h
 |nxt q es seen f t ihf ih=>intro e s _ h;cases h
 |prop q t ih=>intro e s _ h;cases h
 |look k es f n ihf ih =>
  intro e s hc h hq;unfold Q39 at h;unfold Tree.ok;split at h
  ·rename_i j v hl
   rw[hl];exact ihf j v e s (hc.1 j v) h hq
  ·rename_i hl
   rw[hl];exact ih e s hc.2 h hq
  ·cases h
 |stuck n=>intro e s _ h;cases h
theorem Qdd{ask:Nat->List Srt->Bool}{lp:Code->St->Option (Ex×St)}:∀(t:Tree)(e:Ex)(s:St),Q39 ask lp t=some (e,s)->∀v,e≠.pan v:=by
 intro t;induction t with
 |leaf e s =>
  intro e' s' h v;unfold Q39 at h;split at h
  ·cases h
  ·rename_i jI
   obtain⟨rfl,rfl⟩:e=e'/\s=s':=by simpa using h
   exact fun h=>jI v h
 |br c t f iht ihf=>intro e s h;cases c with|true=>exact iht e s h|false=>exact ihf e s h
 |need q t ih =>
  intro e s h;unfold Q39 at h;split at h
  ·exact ih e s h
  ·cases h
 |call f a o r o' t ih=>exact ih
 |loop body s0 K ih =>
  intro e s h;unfold Q39 at h;split at h
  ·exact ih _ _ e s h
  ·cases h
 |both a b iha ihb=>intro e s h;exact iha e s (Q5N h).1
 |either q a b iha ihb =>
  intro e s h;unfold Q39 at h;split at h
  ·exact iha e s (Q5N h).1
  ·exact ihb e s h
 |ask T sh t ih =>
  intro e s h;unfold Q39 at h;split at h
  ·exact ih e s h
  ·cases h
 |askK T sh t ih =>
  intro e s h;unfold Q39 at h;split at h
  ·exact ih e s h
  ·cases h
 |pan f a o v=>intro e s h;cases h
 |nxt q es seen f t ihf ih=>intro e s h;cases h
 |prop q t ih=>intro e s h;cases h
 |look k es f n ihf ih =>
  intro e s h;unfold Q39 at h;split at h
  ·exact ihf _ _ e s h
  ·exact ih e s h
  ·cases h
 |stuck n=>intro e s h;cases h
end
section
variable {p:Pr}{ty:Tys}{cs:Nat->List AV->List Ob->Option (AV×List Ob)}{C:Nat->List AV->List Ob->AV->List Ob->Prop}{B:Code->Prop}
theorem Qk5{K:St->Tree}(hK:∀s,(K s).cal C B)(o:Oper)(s:St)(op:Op):(Q37 p ty K o s op).cal C B:=by
 unfold Q37;repeat' split
 all_goals first
  |trivial
  |exact hK _
theorem QiK{K:St->Tree}(hK:∀s,(K s).cal C B)(o:Oper)(s:St)(T:Nat)(a x:Operand):(Q8h p ty K o s T a x).cal C B:=by
 unfold Q8h;repeat' split
 all_goals first
  |trivial
  |exact hK _
theorem Qfr{KT:Nat}{k:AV}{t:Tree}(h:t.cal C B):(Qde ty KT k t).cal C B:=by
 unfold Qde;repeat' split
 all_goals first
  |trivial
  |exact h
theorem Ql7{K:St->Tree}(hK:∀s,(K s).cal C B)(o:Oper)(s:St)(T:Nat)(x i:Operand)(c:Bool):(Q7S ty K o s T x i c).cal C B:=by
 unfold Q7S;split
 ·split
  ·refine Qfr (show(Tree.look _ _ _ _).cal C B from⟨fun _ _=>hK _,?_⟩)
   unfold Qpp;repeat' split
   all_goals first
    |exact hK _
    |trivial
  ·trivial
 ·trivial
theorem Qo0{K:St->Tree}(hK:∀s,(K s).cal C B)(o:Oper)(s:St)(T:Nat)(m i x:Operand):(Q9Y p ty K o s T m i x).cal C B:=by
 unfold Q9Y;repeat' split
 all_goals first
  |trivial
  |exact Qfr (show(Tree.look _ _ _ _).cal C B from⟨fun _ _=>hK _,hK _⟩)
theorem Q9I(hcs:∀o g a ob r o',Qar cs o g a ob=some (r,o')->C g a ob r o'/\∀t,r≠.tup (.dead::t)){K:St->Tree}(hK:∀s,(K s).cal C B)(o:Oper)(s:St):(aop p ty cs K o s).cal C B:=by
 unfold aop;split;all_goals try simp only
 all_goals repeat' split
 all_goals first
  |trivial
  |exact hK _
  |exact Qk5 hK _ _ _
  |exact QiK hK _ _ _ _ _
  |exact Ql7 hK _ _ _ _ _ _
  |exact Qo0 hK _ _ _ _ _ _
  |exact⟨hK _,hK _⟩
  |exact⟨fun _ _=>hK _,hK _⟩
  |(rename_i h _;exact⟨(hcs _ _ _ _ _ _ h).1,hK _⟩)
  |(rename_i h;exact⟨(hcs _ _ _ _ _ _ h).1,hK _⟩)
  |(rename_i h _;exact absurd rfl ((hcs _ _ _ _ _ _ h).2 _))
  |(rename_i h;exact absurd rfl ((hcs _ _ _ _ _ _ h).2 _))
theorem QlZ(hcs:∀o g a ob r o',Qar cs o g a ob=some (r,o')->C g a ob r o'/\∀t,r≠.tup (.dead::t)){ops:List Oper}{K:St->Tree}(hK:∀s,(K s).cal C B):∀(t:OT)(s:St),(Q52 p ty cs ops K t s).cal C B:=by
 intro t;induction t with
 |nil=>intro s;exact hK s
 |fork a b iha ihb=>intro s;exact⟨iha s,ihb s⟩
 |cons i r ih =>
  intro s;have hr:∀s,(Q52 p ty cs ops K r s).cal C B:=ih;unfold Q52;split
  ·trivial
  ·split
   ·exact Q9I hcs hr _ _
   ·split
    ·trivial
    ·repeat' split
     all_goals first
      |trivial
      |exact hr _
      |exact Q9I hcs hr _ _
      |exact⟨Q9I hcs hr _ _,hr _⟩
      |exact⟨hr _,Q9I hcs hr _ _⟩
theorem Qcy(hcs:∀o g a ob r o',Qar cs o g a ob=some (r,o')->C g a ob r o'/\∀t,r≠.tup (.dead::t)){ord:Nat->OT}{N:Nat}:∀(c:Code)(K:Ex->St->Tree),Q2h N c=true->Q28 .any ty ord c=true->(∀e s,(K e s).cal C (fun b=>Q2h N b=true/\Q28 .any ty ord b=true))->∀s,(Q1o p ty cs ord c K s).cal C (fun b=>Q2h N b=true/\Q28 .any ty ord b=true):=by
 intro c;induction c with
 |skip=>intro K _ _ hK s;exact hK _ _
 |region id ops draw=>intro K _ _ hK s;exact QlZ hcs (fun s=>hK _ s) _ _
 |seq a b iha ihb =>
  intro K hd ho hK s;simp only[Q2h,Q28,Bool.and_eq_true]at hd ho;refine iha _ hd.1 ho.1 (fun e s=>?_) s
  cases e with
  |normal=>exact ihb K hd.2 ho.2 hK s
  |exit i=>exact hK _ _
  |ret=>exact hK _ _
  |pan v=>exact hK _ _
 |cond c a b iha ihb =>
  intro K hd ho hK s;simp only[Q2h,Q28,Bool.and_eq_true]at hd ho;unfold Q1o;repeat' split
  all_goals first
   |trivial
   |exact iha K hd.1 ho.1 hK _
   |exact ihb K hd.2 ho.2 hK _
   |exact⟨iha K hd.1 ho.1 hK _,ihb K hd.2 ho.2 hK _⟩
 |block id c ih =>
  intro K hd ho hK s;simp only[Q2h,Q28]at hd ho;refine ih _ hd ho (fun e s=>?_) s
  cases e with
  |normal=>exact hK _ _
  |ret=>exact hK _ _
  |pan v=>exact hK _ _
  |exit i=>simp only;split<;>exact hK _ _
 |loop c ih =>
  intro K hd ho hK s;simp only[Q2h,Q28]at hd ho;exact⟨⟨hd,ho⟩,fun e s=>hK e s⟩
 |exit i=>intro K _ _ hK s;exact hK _ _
 |ret=>intro K _ _ hK s;exact hK _ _
 |_=>intro K _ _ hK s;trivial
end
def Qk8(ks:List Nat)(s:St):St:=⟨ks.map fun t=>(t,lk t s.tm),s.ob⟩
def Qei(l:List (Nat×AV)):List Nat:=l.foldr (fun q r=>if r.any (Nat.beq q.1)then r else q.1::r) []
def QfA(ks:List Nat)(e:Ex)(s:St):Tree:=match e with
 |.normal=>.leaf .normal (Qk8 ks s)
 |e=>.leaf e s
def lpF(ask:Nat->List Srt->Bool)(ty:Tys)(cs:Nat->List AV->List Ob->Option (AV×List Ob))(ord:Nat->OT):Nat->Code->St->Option (Ex×St)
 |0,_,_=>none
 |k+1,body,s=>match Q39 ask (lpF ask ty cs ord k) (Q1o std ty cs ord body (QfA (Qei s.tm)) s)with
  |some (.normal,s')=>lpF ask ty cs ord k body s'
  |some (e,s')=>some (e,s')
  |none=>none
theorem Qd2{ask:Nat->List Srt->Bool}{ty:Tys}{cs:Nat->List AV->List Ob->Option (AV×List Ob)}{ord:Nat->OT}:∀(k:Nat)(body:Code)(s:St)(e:Ex)(s':St),lpF ask ty cs ord k body s=some (e,s')->∀v,e≠.pan v
 |0,_,_,_,_,h=>by cases h
 |k+1,body,s,e,s',h=>by
  unfold lpF at h;split at h
  ·exact Qd2 k body _ e s' h
  ·rename_i e1 s1 _ h1
   obtain⟨rfl,rfl⟩:e1=e/\s1=s':=by simpa using h
   exact Qdd _ _ _ h1
  ·cases h
section
variable {P:Program}{ty:Tys}{w0:World}{g0:Gh}{o0:List Ob}{N:Nat}{w:World}{a:Act}
theorem Qi2(t:Nat)(s:St):∀ks:List Nat,lk t (ks.map fun t=>(t,lk t s.tm))=lk t s.tm\/lk t (ks.map fun t=>(t,lk t s.tm))=.dead
 | []=>.inr rfl
 |k::r=>by
  show(if t=k then lk k s.tm else lk t (r.map _))=_\/(if t=k then lk k s.tm else lk t (r.map _))=_
  split
  ·rename_i h;rw[h];exact .inl rfl
  ·exact Qi2 t s r
theorem Qkp{s:St}(ks:List Nat)(hs:Sim w0 g0 o0 N s a w):Sim w0 g0 o0 N (Qk8 ks s) a w:=by
 obtain⟨g,M,hS,h0⟩:=hs.rel;refine⟨hs.defers,hs.size,g,M,fun t=>?_,h0⟩
 show ARel w g s.ob _ (lk t (ks.map fun t=>(t,lk t s.tm)))
 rcases Qi2 t s ks with h|h
 ·rw[h];exact hS t
 ·rw[h];trivial
theorem Qd6{s s':St}(h:Eqv s s')(hs:Sim w0 g0 o0 N s' a w):Sim w0 g0 o0 N s a w:=by
 obtain⟨g,M,hS,h0⟩:=hs.rel;have e:=h.1;refine⟨hs.defers,hs.size,g,by rw[e];exact M,fun t=>?_,by rw[e];exact h0⟩
 show ARel w g s.ob _ (lk t s.tm);rw[h.2.1 t,e];exact hS t
theorem Eqv.refl(s:St):Eqv s s:=⟨rfl,fun _=>rfl,fun _ _ h=>h⟩
theorem Eqv.trans{s s' s'':St}(h:Eqv s s')(k:Eqv s' s''):Eqv s s'':=⟨h.1.trans k.1,fun t=>(h.2.1 t).trans (k.2.1 t),fun i r e=>k.2.2 i r (h.2.2 i r e)⟩
theorem QbS(hT:TyOk P ty)(hm:P.follows .mixedOrders=true){ask:Nat->List Srt->Bool}(ha:∀T sh,ask T sh=true->Qfw P T sh/\Q9o P T sh){cs:Nat->List AV->List Ob->Option (AV×List Ob)}(hcs:∀o g a ob r o',Qar cs o g a ob=some (r,o')->BCall P g a ob r o'/\∀t,r≠.tup (.dead::t)){ord:Nat->OT} :
  ∀(k:Nat)(body:Code)(s:St)(e:Ex)(s':St),Q2h N body=true/\Q28 .any ty ord body=true->lpF ask ty cs ord k body s=some (e,s')->∀a w,Sim w0 g0 o0 N s a w->Code.rounds P body (fun x a w=>x=e.conv/\Sim w0 g0 o0 N s' a w) k a w
 |0,_,_,_,_,_,h=>by cases h
 |k+1,body,s,e,s',hB,h=>by
  intro a w hs;have ih:=QbS hT hm ha hcs (ord:=ord) k;have hnp:=Qd2 _ _ _ _ _ h
  have hl:∀body s e s',Q2h N body=true/\Q28 .any ty ord body=true->lpF ask ty cs ord k body s=some (e,s')->WP P w0 g0 o0 N (.loop body) (fun e2 s2=>e2=e/\s2=s') s:=fun b s e s' hB h a w hs=>by
   refine wp_mono (wp_loop_rounds k (ih b s e s' hB h a w hs)) fun x a' w' hx=>?_
   exact⟨e,s',hx.1,fun v hv=>absurd hv (Qd2 k _ _ _ _ h v),hx.2,rfl,rfl⟩
  unfold lpF at h
  have go:∀e1 s1,Q39 ask (lpF ask ty cs ord k) (Q1o std ty cs ord body (QfA (Qei s.tm)) s)=some (e1,s1) ->
    (Q1o std ty cs ord body (QfA (Qei s.tm)) s).ok P w0 g0 o0 N (fun e2 s2=>e2=e1/\Eqv s1 s2):=fun e1 s1 h1 =>
   QgO ha hl (fun e s s' hq hv=>⟨hq.1,hq.2.trans hv⟩) _ e1 s1 (Qcy hcs body _ hB.1 hB.2 (fun e s=>by cases e<;>trivial) s) h1 ⟨rfl,Eqv.refl _⟩
  have fin:∀e1 s1,Q39 ask (lpF ask ty cs ord k) (Q1o std ty cs ord body (QfA (Qei s.tm)) s)=some (e1,s1)->(e1=.normal->lpF ask ty cs ord k body s1=some (e,s'))->(e1≠.normal->e1=e/\s1=s') ->
    body.wp P (Exit.then (Code.rounds P body (fun x a w=>x=e.conv/\Sim w0 g0 o0 N s' a w) k) (fun x a w=>x=e.conv/\Sim w0 g0 o0 N s' a w)) a w:=fun e1 s1 h1 hn hx=>by
   refine Q4i (Q:=fun e2 s2=>e2=e1/\Eqv s1 s2) hT hm body (QfA (Qei s.tm)) _ s a w hB.1 hB.2 (fun c a d v w h=>?_) (fun e2 s2 a' w' _ jV hq=>?_) (fun v s2 a' w' _ _ hq=>absurd hq.1.symm (Qdd _ _ _ h1 v)) hs (go e1 s1 h1)
   ·have h1:Exit.panic c=e.conv:=h.1
    cases e<;>first|exact absurd rfl (hnp _)|cases h1
   ·cases e2 with
    |normal =>
     obtain⟨h2,h3⟩:=(show Ex.normal=e1/\Eqv s1 (Qk8 _ s2) from hq);exact ih body s1 e s' hB (hn h2.symm) a' w' (Qd6 h3 (Qkp _ jV))
    |exit i =>
     obtain⟨h2,h3⟩:=(show Ex.exit i=e1/\Eqv s1 s2 from hq);obtain⟨h4,h5⟩:=hx (by rw[<-h2];simp)
     rw[h5]at h3;exact⟨by rw[<-h4,<-h2],Qd6 h3 jV⟩
    |ret =>
     obtain⟨h2,h3⟩:=(show Ex.ret=e1/\Eqv s1 s2 from hq);obtain⟨h4,h5⟩:=hx (by rw[<-h2];simp)
     rw[h5]at h3;exact⟨by rw[<-h4,<-h2],Qd6 h3 jV⟩
    |pan v=>exact absurd (show Ex.pan v=e1 from hq.1).symm (Qdd _ _ _ h1 v)
  show body.wp P _ a w;split at h
  ·rename_i s1 h1
   exact fin .normal s1 h1 (fun _=>h) (fun h=>absurd rfl h)
  ·rename_i e1 s1 jI h1
   obtain⟨rfl,rfl⟩:e1=e/\s1=s':=by simpa using h
   exact fin e1 s1 h1 (fun h=>absurd h jI) (fun _=>⟨rfl,rfl⟩)
  ·cases h
end
def mvC(ρ:List Nat):AV->AV
 |.box i o=>match Q1R i ρ with|some j=>.box j o|none=>.dead
 |.row i e=>match Q1R i ρ with|some j=>.row j e|none=>.dead
 |.rowk _ _ _=>.dead
 |.rptr _ _ _ _=>.dead
 |.iter i=>match Q1R i ρ with|some j=>.iter j|none=>.dead
 |.kb b=>.val (.bool b)
 |x=>x
def mv1(ρ:List Nat):AV->AV
 |.agg cs=>.agg (cs.map (mvC ρ))
 |x=>mvC ρ x
def mvR(ρ:List Nat):AV->AV
 |.tup xs=>.tup (xs.map (mv1 ρ))
 |x=>mv1 ρ x
def mvO(ρ:List Nat):Ob->Ob
 |.box cs=>.box (cs.map (mvC ρ))
 |x=>x
def Qrc:AV->List Nat
 |.tup xs=>xs.flatMap QhJ
 |x=>QhJ x
def Qka:AV->Bool
 |.tup xs=>xs.all fun|.tup _=>false|_=>true
 |_=>true
theorem QfD:∀xs:List AV,leL xs xs
 | []=>trivial
 |_::r=>⟨.inl rfl,QfD r⟩
theorem Q1Y{x:AV}(h:∀xs,x≠.tup xs):Qfm x x:=by
 cases x with
 |agg cs=>exact QfD cs
 |tup xs=>exact absurd rfl (h xs)
 |_=>exact .inl rfl
theorem Qfz{x:AV}(h:Qka x=true):leA x x:=by
 cases x with
 |tup xs =>
  have key:∀xs:List AV,(xs.all fun|.tup _=>false|_=>true)=true->leT xs xs:=by
   intro xs;induction xs with
   |nil=>intro _;trivial
   |cons y r ih =>
    intro h;simp only[all_cons,Bool.and_eq_true]at h;exact⟨Q1Y (fun zs e=>by rw[e]at h;cases h.1),ih h.2⟩
  exact key xs h
 |val a=>exact Q1Y (x:=.val a) (fun xs e=>nomatch e)
 |slc a b=>exact Q1Y (x:=.slc a b) (fun xs e=>nomatch e)
 |agg a=>exact Q1Y (x:=.agg a) (fun xs e=>nomatch e)
 |ref a=>exact Q1Y (x:=.ref a) (fun xs e=>nomatch e)
 |box a b=>exact Q1Y (x:=.box a b) (fun xs e=>nomatch e)
 |row a b=>exact Q1Y (x:=.row a b) (fun xs e=>nomatch e)
 |rowk a b c=>exact Q1Y (x:=.rowk a b c) (fun xs e=>nomatch e)
 |rptr a b c d=>exact Q1Y (x:=.rptr a b c d) (fun xs e=>nomatch e)
 |kb a=>exact Q1Y (x:=.kb a) (fun xs e=>nomatch e)
 |iter a=>exact Q1Y (x:=.iter a) (fun xs e=>nomatch e)
 |opt a=>exact Q1Y (x:=.opt a) (fun xs e=>nomatch e)
 |dead=>exact Q1Y (x:=.dead) (fun xs e=>nomatch e)
def Qp3(o0:List Ob)(r:AV)(ob:List Ob):Option (AV×List Ob) :=
 match Nat.beq o0.length 0&&Qqo r&&Qka r with
 |true=>some (r,[])
 |false =>
  let ρ:=Qdx ob 400 (List.range o0.length) ((List.range o0.length).flatMap (fun i=>QoR (ob.getD i .gone))++Qrc r)
  let ob':=ρ.map fun i=>mvO ρ (ob.getD i .gone)
  let r':=mvR ρ r
  match Qka r'&&(Q2w (ρ.map some)&&(QeO o0 ob ob' (ρ.map some)&&Nat.ble o0.length ρ.length))with
  |true=>(match both (Qi7 ob ob' (ρ.map some) r r') (Q87 ob ob' (ρ.map some) (ρ.map some) ob')with
   |some l=>if Qpy l=true then some (r',ob')else none
   |none=>none)
  |false=>none
theorem Qoy{o0:List Ob}{r res:AV}{ob ob':List Ob}{k:Nat}{e:Ex}(h:Qp3 o0 r ob=some (res,ob')):FinOk o0 res ob' e ⟨[(k,r)],ob⟩:=by
 unfold Qp3 at h;split at h
 ·rename_i hb
  simp only[Bool.and_eq_true]at hb;obtain⟨rfl,rfl⟩:r=res/\[]=ob':=by simpa using h
  have:o0=[]:=List.eq_nil_of_length_eq_zero (eq_of_beq_eq_true hb.1.1)
  subst this;exact FinOk.pure hb.1.2 (Qfz hb.2)
 ·simp only at h
  split at h
  ·rename_i hb
   simp only[Bool.and_eq_true]at hb;split at h
   ·rename_i l hl
    split at h
    ·rename_i he
     simp only[Option.some.injEq,Prod.mk.injEq]at h;obtain⟨h1,h2⟩:=h;rw[h1]at hl hb;rw[h2]at hl hb;exact⟨_,_,_,hb.2.1,hb.2.2.1,by rw[List.length_map];exact Nat.le_of_ble_eq_true hb.2.2.2,hl,Qhn l he,Qfz hb.1⟩
    ·cases h
   ·cases h
  ·cases h
structure FnI where
 fn:Func
 c:Code
 ord:Nat->OT
def gd(cs:Nat->List AV->List Ob->Option (AV×List Ob)):Nat->List AV->List Ob->Option (AV×List Ob):=fun g a o=>match cs g a o with
 |some (.tup (.dead::_),_)=>none
 |r=>r
def QbD(tab:Nat->Option FnI)(base:Nat->List AV->List Ob->Option (AV×List Ob))(ask:Nat->List Srt->Bool)(lf:Nat):Nat->Nat->List AV->List Ob->Option (AV×List Ob)
 |0,_,_,_=>none
 |n+1,f,args,ob=>match base f args ob with
  |some r=>some r
  |none=>match tab f with
   |none=>none
   |some F=>match Nat.ble args.length F.fn.ntmps with
    |false=>none
    |true=>match Q39 ask (lpF ask tys (gd (QbD tab base ask lf n)) F.ord lf) (Q1o std tys (gd (QbD tab base ask lf n)) F.ord F.c (Q68 std tys true F.fn.results.toList) ⟨ent 0 args,ob⟩)with
     |some (_,⟨[(_,r)],ob1⟩)=>Qp3 ob r ob1
     |_=>none
def FnI.good(f : Nat)(F : FnI) : Prop := prog.funcs[f]? = some F.fn ∧ F.fn.body = some F.c ∧ (Q2h F.fn.ntmps F.c && (Q28 .any tys F.ord F.c && !(F.fn.name == "runtime.NumGoroutine"))) = true
theorem QjV{tab:Nat->Option FnI}{base:Nat->List AV->List Ob->Option (AV×List Ob)}{ask:Nat->List Srt->Bool}{lf:Nat}(ht:∀f F,tab f=some F->f<1000000/\F.good f)(hb:∀f a o r o',base f a o=some (r,o')->f<1000000/\BCall prog f a o r o')
  (ha:∀T sh,ask T sh=true->Qfw prog T sh/\Q9o prog T sh):∀(n f:Nat)(args:List AV)(ob:List Ob)(r:AV)(o':List Ob),QbD tab base ask lf n f args ob=some (r,o')->f<1000000/\BCall prog f args ob r o'
 |0,_,_,_,_,_,h=>by cases h
 |n+1,f,args,ob,r,o',h=>by
  have ih:=QjV ht hb ha n (lf:=lf)
  have ze:∀g a ob r o',gd (QbD tab base ask lf n) g a ob=some (r,o')->QbD tab base ask lf n g a ob=some (r,o')/\∀t,r≠.tup (.dead::t):=fun g a ob r o' h=>by
   unfold gd at h;split at h
   ·cases h
   ·rename_i jI
    exact⟨h,fun t e=>jI t o' (by rw[<-e];exact h)⟩
  have hcs:∀o g a ob r o',Qar (gd (QbD tab base ask lf n)) o g a ob=some (r,o')->BCall prog g a ob r o'/\∀t,r≠.tup (.dead::t):=fun o g a ob r o' h=>by
   unfold Qar at h;split at h
   ·rename_i r1 h1
    obtain rfl:r1=(r,o'):=by simpa using h
    exact⟨(ih _ _ _ _ _ (ze _ _ _ _ _ h1).1).2,(ze _ _ _ _ _ h1).2⟩
   ·split at h
    ·have:=(ih _ _ _ _ _ (ze _ _ _ _ _ h).1).1
     omega
    ·cases h
  unfold QbD at h;split at h
  ·rename_i r1 h1
   obtain rfl:r1=(r,o'):=by simpa using h
   exact hb _ _ _ _ _ h1
  ·split at h
   ·cases h
   ·rename_i F hF
    obtain⟨jB,h1,h2,h3⟩:=ht f F hF;simp only[Bool.and_eq_true,Bool.not_eq_true']at h3;split at h
    ·cases h
    ·rename_i jJ
     split at h
     ·rename_i e1 k1 r1 ob1 hr
      refine⟨jB,Q93 true (cs:=gd (QbD tab base ask lf n)) (ord:=F.ord) Q80 QnG h1 h2 (enters_of h1 h3.2.2 h2) (Nat.le_of_ble_eq_true jJ) h3.1 h3.2.1 fun w0 g0=>?_⟩
      refine QgO (lp:=lpF ask tys (gd (QbD tab base ask lf n)) F.ord lf) (B:=fun b=>Q2h F.fn.ntmps b=true/\Q28 .any tys F.ord b=true) ha (fun body s e s' hB hl a w hs=>?_) (fun e s s' hq hv=>?_) _ _ _ (Qcy hcs F.c _ h3.1 h3.2.1 (fun e s=>?_) _) hr (Qoy h)
      ·refine wp_mono (wp_loop_rounds lf (QbS Q80 QnG ha hcs lf body s e s' hB hl a w hs)) fun x a' w' hx=>?_
       exact⟨e,s',hx.1,fun v hv=>absurd hv (Qd2 lf _ _ _ _ hl v),hx.2,rfl,rfl⟩
      ·unfold FinOk at hq ⊢
       split at hq
       ·rename_i k2 r2 h4
        rw[hv.2.2 _ _ h4];simp only
        rw[<-hv.1];exact hq
       ·exact hq.elim
      ·unfold Q68
       split
       ·trivial
       ·trivial
       ·split<;>trivial
     ·cases h
def OT.th(l:List Nat)(t:OT):OT:=match l with
 | []=>t
 |i::r=>.cons i (OT.th r t)
def Qi1:List (Nat×FnI)->Prop
 | []=>True
 |(f,F)::r=>(f<1000000/\F.good f)/\Qi1 r
def QnB(l:List (Nat×FnI))(f:Nat):Option FnI:=match l with
 | []=>none
 |(g,F)::r=>match Nat.beq f g with
  |true=>some F
  |false=>QnB r f
theorem Qki:∀{l:List (Nat×FnI)},Qi1 l->∀f F,QnB l f=some F->f<1000000/\F.good f
 | [],_,_,_,h=>by cases h
 |(g,G)::r,hg,f,F,h=>by
  unfold QnB at h;split at h
  ·rename_i he
   obtain rfl:G=F:=by simpa using h
   rw[eq_of_beq_eq_true he];exact hg.1
  ·exact Qki hg.2 f F h
def Qqv:Nat->List Srt->Bool:=fun _ _=>false
end
structure Rp where
 a0:Int
 a1:Int
 a2:Int
 a3:Int
 a4:Int
 a5:Int
 a6:Int
 a7:Int
 t0:Int
 t1:Int
 t2:Int
 t3:Int
 t4:Int
 t5:Int
 t6:Int
 t7:Int
 t8:Int
 t9:Int
 t10:Int
 t11:Int
 w0:Int
 w1:Int
 w2:Int
 w3:Int
 w4:Int
 w5:Int
def Rp.hd(r:Rp):List Int:=[r.a0,r.a1,r.a2,r.a3,r.a4,r.a5,r.a6,r.a7]
def Rp.wr(r:Rp):List Int:=[r.w1,r.w2,r.w3,r.w4,r.w5]
def Rp.all(r:Rp):List Int:=[r.a0,r.a1,r.a2,r.a3,r.a4,r.a5,r.a6,r.a7,r.t0,r.t1,r.t2,r.t3,r.t4,r.t5,r.t6,r.t7,r.t8,r.t9,r.t10,r.t11,r.w0,r.w1,r.w2,r.w3,r.w4,r.w5]
def Rp.cs(r:Rp):List AV:=[.val (.int .i64 r.a0),.val (.int .i64 r.a1),.val (.int .i64 r.a2),.val (.int .i64 r.a3),.val (.int .i64 r.a4),.val (.int .i64 r.a5),.val (.int .i64 r.a6),.val (.int .i64 r.a7),.val (.int .i64 r.t0),.val (.int .i64 r.t1),.val (.int .i64 r.t2),.val (.int .i64 r.t3),.val (.int .i64 r.t4),.val (.int .i64 r.t5),.val (.int .i64 r.t6),.val (.int .i64 r.t7),.val (.int .i64 r.t8),.val (.int .i64 r.t9),.val (.int .i64 r.t10),.val (.int .i64 r.t11),.val (.int .i64 r.w0),.val (.int .i64 r.w1),.val (.int .i64 r.w2),.val (.int .i64 r.w3),.val (.int .i64 r.w4),.val (.int .i64 r.w5)]
def Rp.ok(r:Rp):Prop:=∀x∈r.all,-9223372036854775808<=x/\x<=9223372036854775807
section
open Tryz
theorem Qa(l:List Int)(hl:l.length<=1000000000)(hi:I32 l)(k:Int)(h0:0<=k)(hk:k<=l.length)(s:ByteArray)(hs:s.size<=1000000000):BCall prog 81 [.slc 1 (Q0 l),.val (.int .i64 k),.val (.string s)] [] (.val (.bool (Q3 l k.toNat s.data.toList))) []:=by
 refine BCall.hand (enters_of func81 (by kernel_rfl) rfl) fun w g vs M hL=>?_
 obtain⟨v1,vs1,rfl,h1,hL⟩:=QX hL;obtain⟨v2,vs2,rfl,h2,hL⟩:=QX hL;obtain⟨v3,vs3,rfl,h3,hL⟩:=QX hL;obtain rfl:=Q2T hL;obtain⟨A,c,rfl,hr⟩:=Q4g h1 M;obtain rfl:=Q3v h2;obtain rfl:=Q3v h3;have:=QdS _ A _ c l k.toNat s w hr (by omega) hl hs hi
 rw[Int.toNat_of_nonneg h0]at this;exact this.mono fun e w' ⟨h,hb⟩=>⟨_,h,hb,PRel.val _ rfl⟩
theorem Q4w(l:List Int)(hl:l.length<=1000000000)(k:Int)(h0:0<=k)(hk:k<=1000000000):BCall prog 121 [.slc 1 (Q0 l),.val (.int .i64 k)] [] (.val (.int .i64 (Qk l k.toNat))) []:=by
 refine BCall.hand (enters_of func121 (by kernel_rfl) rfl) fun w g vs M hL=>?_
 obtain⟨v1,vs1,rfl,h1,hL⟩:=QX hL;obtain⟨v2,vs2,rfl,h2,hL⟩:=QX hL;obtain rfl:=Q2T hL;obtain⟨A,c,rfl,hr⟩:=Q4g h1 M;obtain rfl:=Q3v h2;have:=Qj1 _ A _ c l k.toNat w hr (by omega) hl
 rw[Int.toNat_of_nonneg h0]at this;exact this.mono fun e w' ⟨h,hb⟩=>⟨_,h,hb ▸ Below.refl _ _,PRel.val _ rfl⟩
theorem Q9X(r:Int):BCall prog 122 [.val (.int .i32 r)] [] (.val (.bool (Qb r))) []:=by
 refine BCall.hand (enters_of func122 (by kernel_rfl) rfl) fun w g vs M hL=>?_
 obtain⟨v1,vs1,rfl,h1,hL⟩:=QX hL;obtain rfl:=Q2T hL;obtain rfl:=Q3v h1;exact(QgB r w).mono fun e w' ⟨h,hb⟩=>⟨_,h,hb ▸ Below.refl _ _,PRel.val _ rfl⟩
theorem Q6h(r:Int):BCall prog 85 [.val (.int .i32 r)] [] (.val (.bool (Qf r))) []:=by
 refine BCall.hand (enters_of func85 (by kernel_rfl) rfl) fun w g vs M hL=>?_
 obtain⟨v1,vs1,rfl,h1,hL⟩:=QX hL;obtain rfl:=Q2T hL;obtain rfl:=Q3v h1;exact(Q4I r w).mono fun e w' ⟨h,hb⟩=>⟨_,h,hb ▸ Below.refl _ _,PRel.val _ rfl⟩
def QlU(a b c:Bool)(r:Int):Int:=if c=true then r-55 else if b=true then r-87 else if a=true then r-48 else -1
def Q1j(r base:Int):Int:=if base<=QlU (isF r 48 57) (isF r 97 102) (isF r 65 70) r then -1 else QlU (isF r 48 57) (isF r 97 102) (isF r 65 70) r
theorem Qq3(r lo hi:Int):BCall prog 118 [.val (.int .i32 r),.val (.int .i32 lo),.val (.int .i32 hi)] [] (.val (.bool (isF r lo hi))) []:=by
 refine BCall.hand (enters_of func118 (by kernel_rfl) rfl) fun w g vs M hL=>?_
 obtain⟨v1,vs1,rfl,h1,hL⟩:=QX hL;obtain⟨v2,vs2,rfl,h2,hL⟩:=QX hL;obtain⟨v3,vs3,rfl,h3,hL⟩:=QX hL;obtain rfl:=Q2T hL;obtain rfl:=Q3v h1;obtain rfl:=Q3v h2;obtain rfl:=Q3v h3;exact(Q2O r lo hi w).mono fun e w' ⟨h,hb⟩=>⟨_,h,hb ▸ Below.refl _ _,PRel.val _ rfl⟩
def Qr6(a b c:Bool):Nat->List AV->List Ob->Option (AV×List Ob):=fun f args _=>match f,args with
 |118,[.val (.int .i32 _),.val (.int .i32 48),.val (.int .i32 57)]=>some (.val (.bool a),[])
 |118,[.val (.int .i32 _),.val (.int .i32 97),.val (.int .i32 102)]=>some (.val (.bool b),[])
 |118,[.val (.int .i32 _),.val (.int .i32 65),.val (.int .i32 70)]=>some (.val (.bool c),[])
 |_,_=>none
theorem Q4L(r base:Int)(hr:-1<=r/\r<=1114111):BCall prog 120 [.val (.int .i32 r),.val (.int .i64 base)] [] (.val (.int .i64 (Q1j r base))) []:=by
 have ca:=Qq3 r 48 57;have cb:=Qq3 r 97 102;have cc:=Qq3 r 65 70;obtain⟨a,ha⟩:=exq (isF r 48 57);obtain⟨b,hb⟩:=exq (isF r 97 102);obtain⟨c,hc⟩:=exq (isF r 65 70);rw[<-ha]at ca;rw[<-hb]at cb;rw[<-hc]at cc;obtain⟨R,hR⟩:=exq (Q1j r base);rw[<-hR];rw[Q1j,<-ha,<-hb,<-hc]at hR;have hw:IntKind.wrap .i64 r=r:=Q43 .i64 r ⟨by show(-9223372036854775808:Int)<=r;omega,by show r<=(9223372036854775807:Int);omega⟩
 clear ha hb hc;refine fnN (Qr6 a b c) func120 rfl fun _ _=>?_
 with_reducible refine cv0 ?_
 simp only[std,hw,decide_eq_true_eq,decide_eq_false_iff_not]
 repeat' first
  |(with_reducible apply And.intro)
  |(with_reducible intro hh)
 all_goals first
  |exact ca
  |exact cb
  |exact cc
  |(show(-9223372036854775808:Int)<=_;omega)
  |(show _<=(9223372036854775807:Int);omega)
  |(refine .pure rfl (.inl ?_);simp_all [QlU])
