/- Lemmas, conditions told -/
import Derived.Test.YtibemhahkicbpaaGreatL08
set_option maxRecDepth 99999
set_option maxHeartbeats 0
set_option linter.unusedSimpArgs false
set_option linter.unusedVariables false
namespace Go.Proofs.YtibemhahkicbpaaGreat
open Go.RowKit Go.Lib
section
open Tryz
theorem Q6Q(n:Nat)(h:n<2 ^ 32):(BitVec.ofInt 32 (n:Int)).toNat=n:=by
 rw[BitVec.toNat_ofInt];omega
theorem Q5n(n:Int)(h0:-2147483648<=n)(h1:n<=2147483647):IntKind.wrap .i32 n=n:=Q4d .i32 n ⟨h0,h1⟩
theorem Qhj(a b:Nat)(ha:a<256)(hb:b<256):Q6d .or .i32 ((a:Int) * 256) b=a * 256+b:=by
 have h1:((a:Int) * 256)=((a * 256:Nat):Int):=by omega
 have h2:(a * 256 ||| b:Nat)=a * 256+b:=by
  have:=Nat.two_pow_add_eq_or_of_lt (i:=8) (b:=b) (by omega) a
  rw[Nat.mul_comm a 256,<-this]
 show IntKind.wrap .i32 (((BitVec.ofInt 32 ((a:Int) * 256)) ||| (BitVec.ofInt 32 (b:Int))).toNat:Int)=_
 rw[BitVec.toNat_or,h1,Q6Q _ (by omega),Q6Q _ (by omega),h2,Q5n _ (by omega) (by omega)]
 omega
theorem QkB(u:Nat)(h:u<65536):Q6d .and .i32 (u:Int) 1023=(u % 1024:Nat):=by
 show IntKind.wrap .i32 (((BitVec.ofInt 32 (u:Int)) &&& (BitVec.ofInt 32 1023)).toNat:Int)=_;rw[BitVec.toNat_and,Q6Q _ (by omega),show(BitVec.ofInt 32 1023).toNat=2 ^ 10-1 from rfl,Nat.and_two_pow_sub_one_eq_mod,Q5n _ (by omega) (by omega)]
theorem Qkj:∀r,r<1024->r &&& 4294966272=0:=by decide
theorem Qj5:∀q,q<64->(2 ^ 10 * q) &&& 4294966272=2 ^ 10 * q:=by decide
theorem QlV(u:Nat)(h:u<65536):Q6d .andNot .i32 (u:Int) 1023=(u / 1024 * 1024:Nat):=by
 show IntKind.wrap .i32 (((BitVec.ofInt 32 (u:Int)) &&& ~~~ (BitVec.ofInt 32 1023)).toNat:Int)=_
 have h1:(u &&& 4294966272:Nat)=u / 1024 * 1024:=by
  have h2:2 ^ 10 * (u / 1024) ||| (u % 1024)=u:=by
   rw[<-Nat.two_pow_add_eq_or_of_lt (i:=10) (b:=u % 1024) (by omega) (u / 1024)]
   omega
  have h3:=Qkj (u % 1024) (by omega)
  have h4:=Qj5 (u / 1024) (by omega)
  have h5:(2 ^ 10 * (u / 1024) ||| (u % 1024)) &&& 4294966272=u / 1024 * 1024:=by
   rw[Nat.and_or_distrib_right,h3,h4,Nat.or_zero];omega
  rw[h2]at h5;exact h5
 rw[BitVec.toNat_and,Q6Q _ (by omega),show(~~~ (BitVec.ofInt 32 1023)).toNat=4294966272 from rfl,h1,Q5n _ (by omega) (by omega)]
def Q1e(big:Bool)(x y:UInt8):Int:=if big then x.toNat * 256+y.toNat else y.toNat * 256+x.toNat
theorem Q79(x:UInt8):std.wrap .i32 (x.toNat:Int)=x.toNat:=Q5n _ (by omega) (by have:=x.toNat_lt;omega)
theorem Qer(x:UInt8):Qjb .i32 (x.toNat:Int) 8=(x.toNat:Int) * 256:=by
 show IntKind.wrap .i32 ((x.toNat:Int) * 2 ^ min (8:Int).toNat 32)=_;rw[show(2:Int) ^ min (8:Int).toNat 32=256 from rfl];have:=x.toNat_lt
 exact Q5n _ (by omega) (by omega)
theorem Qny(x y:UInt8):BCall prog 180 [Q6g x,Q6g y] [] (.val (.int .i32 (Q1e true x y))) []:=by
 unfold Q6g;refine fnN (cs0) func180 rfl fun _ _=>?_
 with_reducible refine cv2 ((x.toNat:Int)) ((y.toNat:Int)) ?_
 refine⟨by simp[std],.pure rfl (.inl ?_)⟩
 show AV.val (.int .i32 (Q6d .or .i32 (Qjb .i32 (std.wrap .i32 (x.toNat:Int)) 8) (std.wrap .i32 (y.toNat:Int))))=_;rw[Q79,Q79,Qer,Qhj _ _ x.toNat_lt y.toNat_lt];rfl
theorem Qn6(x y:UInt8):BCall prog 181 [Q6g x,Q6g y] [] (.val (.int .i32 (Q1e false x y))) []:=by
 unfold Q6g;refine fnN (cs0) func181 rfl fun _ _=>?_
 with_reducible refine cv2 ((x.toNat:Int)) ((y.toNat:Int)) ?_
 refine⟨by simp[std],.pure rfl (.inl ?_)⟩
 show AV.val (.int .i32 (Q6d .or .i32 (Qjb .i32 (std.wrap .i32 (y.toNat:Int)) 8) (std.wrap .i32 (x.toNat:Int))))=_;rw[Q79,Q79,Qer,Qhj _ _ y.toNat_lt x.toNat_lt];rfl
theorem Qnl(big:Bool):BCall prog 143 [.val (.bool big)] [] (.val (.func (.func (if big then 180 else 181)) #[] #[])) []:=by
 refine fnN (cs0) func143 rfl fun _ _=>?_
 with_reducible refine cv0 ?_
 exact⟨fun h=>.pure rfl (.inl (by rw[h];rfl)),fun h=>.pure rfl (.inl (by rw[h];rfl))⟩
structure Itm where
 r:Int
 off:Int
 n:Int
 deriving Inhabited
def Itm.av(x:Itm):AV:=.agg [.val (.int .i32 x.r),.val (.int .i64 x.off),.val (.int .i64 x.n)]
def QP(l:List Itm):List AV:=l.map Itm.av
theorem Q3m(l:List Itm):(QP l).length=l.length:=by simp[QP]
theorem Q1I(a b:List Itm):QP (a++b)=QP a++QP b:=by simp[QP]
theorem Q1J(x:Itm):QP [x]=[.agg [.val (.int .i32 x.r),.val (.int .i64 x.off),.val (.int .i64 x.n)]]:=rfl
def Q1j(big:Bool)(l:List UInt8):Int×Int:=match l with
 | []=>(-1,0)
 | [_]=>(-1,1)
 |x::y::r =>
  let u:=Q1e big x y
  let one:Int×Int:=if 55296<=u/\u<57344 then(-1,2)else(u,2)
  match r with
  |x2::y2::_=>if(55296<=u/\u<56320)/\(56320<=Q1e big x2 y2/\Q1e big x2 y2<57344)then(65536+(u-55296) * 1024+(Q1e big x2 y2-56320),4)else one
  |_=>one
theorem Q6Z(big:Bool)(l:List UInt8)(h:l≠[]):1<=(Q1j big l).2/\(Q1j big l).2<=l.length:=by
 unfold Q1j;match l,h with
 | [_],_=>simp
 | [x,y],_=>simp only;split<;>simp
 | [x,y,z],_=>simp only;split<;>simp
 |x::y::x2::y2::r,_=>simp only;split<;>(try split)<;>simp<;>omega
def Q1x(big:Bool)(off:Int)(l:List UInt8):List Itm :=
 if h:l=[]then []else⟨(Q1j big l).1,off,(Q1j big l).2⟩::Q1x big (off+(Q1j big l).2) (l.drop (Q1j big l).2.toNat)
termination_by l.length
decreasing_by
 have:=Q6Z big l h
 simp only[List.length_drop];omega
theorem Q33(big:Bool)(x y:UInt8):0<=Q1e big x y/\Q1e big x y<65536:=by
 have:=x.toNat_lt
 have:=y.toNat_lt
 unfold Q1e;split<;>omega
theorem Qos(big:Bool)(x y:UInt8):BCall prog (if big then 180 else 181) [Q6g x,Q6g y] [] (.val (.int .i32 (Q1e big x y))) []:=by
 cases big
 ·exact Qn6 x y
 ·exact Qny x y
def csW(g:Nat)(unit:AV->AV->Int):Nat->List AV->List Ob->Option (AV×List Ob):=fun _ args _=>match args with
 | [.val (.bool _)]=>some (.val (.func (.func g) #[] #[]),[])
 | [.val (.int .u8 x),.val (.int .u8 y)]=>some (.val (.int .i32 (unit (.val (.int .u8 x)) (.val (.int .u8 y)))),[])
 |_=>none
def Qar(big:Bool)(x y:AV):Int:=Q1e big (Q35 x) (Q35 y)
theorem QG(big:Bool)(x y:UInt8):Qar big (.val (.int .u8 (x.toNat:Int))) (.val (.int .u8 (y.toNat:Int)))=Q1e big x y:=by
 simp[Qar,Q35]
theorem Q2J{big:Bool}{b:List UInt8}{out:List Itm}{a R n:Int}(h0:0<=a)(h1:a.toNat<=b.length)(h2:out++Q1x big a (b.drop a.toNat)=Q1x big 0 b)(h3:out.length<=a.toNat){r:List UInt8}(hr:b.drop a.toNat=r)(jQ:r≠[])(hs:Q1j big r=(R,n)) :
  0<=a+n/\(a+n).toNat<=b.length/\out++[⟨R,a,n⟩]++Q1x big (a+n) (b.drop (a+n).toNat)=Q1x big 0 b/\(out++[(⟨R,a,n⟩:Itm)]).length<=(a+n).toNat/\b.length-(a+n).toNat<b.length-a.toNat:=by
 have h4:=Q6Z big r jQ;rw[hs]at h4;simp only at h4
 have h5:r.length=b.length-a.toNat:=by rw[<-hr,List.length_drop]
 refine⟨by omega,by omega,?_,by simp;omega,by omega⟩
 have e:Q1x big a r=⟨R,a,n⟩::Q1x big (a+n) (r.drop n.toNat):=by
  rw[Q1x,dif_neg jQ,hs]
 rw[<-h2,hr,e,<-hr,List.drop_drop,show(a+n).toNat=a.toNat+n.toNat by omega]
 simp
theorem Qla(big:Bool)(b:List UInt8)(hb:b.length<=1000000000):BCall prog 99 [.slc 1 (Q2 b),.val (.bool big)] [] (.slc 3 (QP (Q1x big 0 b))) []:=by
 obtain⟨g,hg⟩:=exq (if big then 180 else 181);have hUs:BCall prog 143 [.val (.bool big)] [] (.val (.func (.func g) #[] #[])) []:=by rw[hg];exact Qnl big
 have hUn:∀x y:UInt8,BCall prog g [.val (.int .u8 (x.toNat:Int)),.val (.int .u8 (y.toNat:Int))] [] (.val (.int .i32 (Q1e big x y))) []:=fun x y=>by rw[hg];exact Qos big x y
 clear hg;refine fnN (csW g (Qar big)) func99 rfl fun _ _=>?_
 with_reducible refine cv2 (Qar big) (Q2 b) ?_
 refine⟨hUs,?_⟩;refine Q1h (csW g (Qar big)) (List Itm×Int) (fun x=>⟨[(0,.slc 1 (Q2 b)),(5,.row 0 0),(6,.val (.func (.func g) #[] #[])),(7,.val (.int .i64 x.2))],[.row 112 3 false 0 (QP x.1)]⟩) (fun x=>0<=x.2/\x.2.toNat<=b.length/\x.1++Q1x big x.2 (b.drop x.2.toNat)=Q1x big 0 b/\x.1.length<=x.2.toNat) (fun x=>b.length-x.2.toNat) ([],0) ?_ ?_ ?_
 ·simp
 ·exact⟨[none],_,rfl,by simp[Qe,lk,QP]⟩
 ·rintro⟨out,at_⟩ ⟨jq,qE,jb,j5⟩
  simp only at jq qE jb j5
  with_reducible refine cv3 (Qar big) (Q2 b) (QP out) ?_
  have jW:=Q11 b;have qd:(b.drop at_.toNat).length=b.length-at_.toNat:=List.length_drop;have vr:∀j:Nat,b[at_.toNat+j]?=(b.drop at_.toNat)[j]?:=fun j=>by rw[List.getElem?_drop]
  have get:∀(j:Nat)(x:UInt8),(b.drop at_.toNat)[j]?=some x->(Q2 b)[at_.toNat+j]?.getD .dead=.val (.int .u8 x.toNat)/\∀h:at_.toNat+j<(Q2 b).length,(Q2 b)[at_.toNat+j]'h=.val (.int .u8 x.toNat):=fun j x hx=>by
   rw[<-vr]at hx;have h1:(Q2 b)[at_.toNat+j]?=some (.val (.int .u8 x.toNat)):=by simp[Q2,hx,Q6g]
   exact⟨by rw[h1];rfl,fun h=>by rw[List.getElem?_eq_getElem h]at h1;exact Option.some.inj h1⟩
  have n1:(at_+1).toNat=at_.toNat+1:=by omega
  have n2:(at_+2).toNat=at_.toNat+2:=by omega
  have n3:(at_+2+1).toNat=at_.toNat+3:=by omega
  generalize hr:b.drop at_.toNat=r at vr get qd jb;match r,hr with
  | [],hr =>
   simp only[List.length_nil]at qd;with_reducible repeat' first|refine aU jW ?_|refine zA ?_ ?_|intro hb
   rw[if_pos trivial];with_reducible refine cv3 (Qar big) (Q2 b) (QP out) ?_
   refine .pure rfl (.inl ?_);rw[<-jb,Q1x,dif_pos rfl,List.append_nil]
  | [x],hr =>
   simp only[List.length_singleton]at qd;obtain⟨g0,g0'⟩:=get 0 x rfl;rw[Nat.add_zero]at g0 g0';have jJ:(b.length:Int)=at_+1:=by omega
   have jR:=Q3m out;have jH:=Q2J (r:=[x]) jq qE (hr ▸ jb) j5 hr (by simp) (R:=-1) (n:=1) rfl
   repeat' first
    |(with_reducible refine And.intro (fun hx=>absurd hx (by first|(try simp[std,S1,jW,jR,g0,g0',n1,n2,n3,QG,jJ])<;>omega|omega)) (fun _=>?_))
    |(with_reducible refine And.intro (fun _=>?_) (fun hx=>absurd hx (by first|(try simp[std,S1,jW,jR,g0,g0',n1,n2,n3,QG,jJ])<;>omega|omega)))
    |(with_reducible refine And.intro (by first|(try simp[std,S1,jW,jR,g0,g0',n1,n2,n3,QG,jJ])<;>omega|omega) ?_)
    |(with_reducible refine zA ?_ ?_)
    |(with_reducible intro hb)
   all_goals
    refine⟨(out++[⟨-1,at_,1⟩],at_+1),⟨jH.1,jH.2.1,jH.2.2.1,jH.2.2.2.1⟩,jH.2.2.2.2,[some 0],_,rfl,?_⟩;simp[Qe,lk,std,AV.cells,intOf,Q1I,Q1J,jW,jR,g0,g0',n1,n2,n3,QG,jJ]<;>first|omega|(split<;>omega)|trace_state
  |x::y::r,hr =>
   obtain⟨g0,g0'⟩:=get 0 x rfl;obtain⟨g1,g1'⟩:=get 1 y rfl;rw[Nat.add_zero]at g0 g0';have hU:=hUn x y;have jR:=Q3m out;have xr:=Q33 big x y;simp only[List.length_cons]at qd;match r,hr with
   | [],hr =>
    have jJ:(b.length:Int)=at_+2:=by simp only[List.length_nil,List.length_singleton]at qd;omega
    have jI:Q1j big [x,y]=(if 55296<=Q1e big x y/\Q1e big x y<57344 then(-1,2)else(Q1e big x y,2)):=rfl;obtain⟨u,hu⟩:=exq (Q1e big x y);have ja:=hu.symm;rw[<-hu]at jI hU xr;by_cases h1:55296<=u/\u<57344
    ·rw[if_pos h1]at jI
     have jH:=Q2J (r:=[x,y]) jq qE (hr ▸ jb) j5 hr (by simp) jI
     obtain⟨qy,qx⟩:=h1
     repeat' first
      |(with_reducible refine And.intro (fun hx=>absurd hx (by first|(try simp[std,S1,jW,jR,g0,g0',n1,n2,n3,QG,jJ,g1,g1',ja,hU,qy,qx])<;>omega|omega)) (fun _=>?_))
      |(with_reducible refine And.intro (fun _=>?_) (fun hx=>absurd hx (by first|(try simp[std,S1,jW,jR,g0,g0',n1,n2,n3,QG,jJ,g1,g1',ja,hU,qy,qx])<;>omega|omega)))
      |(with_reducible refine And.intro (by first|(try simp[std,S1,jW,jR,g0,g0',n1,n2,n3,QG,jJ,g1,g1',ja,hU,qy,qx])<;>omega|omega) ?_)
      |(with_reducible refine zA ?_ ?_)
      |(with_reducible intro hb)
     all_goals
      refine⟨(out++[⟨-1,at_,2⟩],at_+2),⟨jH.1,jH.2.1,jH.2.2.1,jH.2.2.2.1⟩,jH.2.2.2.2,[some 0],_,rfl,?_⟩;simp[Qe,lk,std,AV.cells,intOf,Q1I,Q1J,jW,jR,g0,g0',n1,n2,n3,QG,jJ,g1,g1',ja,hU,qy,qx]<;>first|omega|(split<;>omega)|trace_state
    ·rw[if_neg h1]at jI
     have jH:=Q2J (r:=[x,y]) jq qE (hr ▸ jb) j5 hr (by simp) jI
     rcases(by omega:u<55296\/55296<=u)with qy|qy
     ·have vG:¬55296<=u:=by omega
      repeat' first
       |(with_reducible refine And.intro (fun hx=>absurd hx (by first|(try simp[std,S1,jW,jR,g0,g0',n1,n2,n3,QG,jJ,g1,g1',ja,hU,vG])<;>omega|omega)) (fun _=>?_))
       |(with_reducible refine And.intro (fun _=>?_) (fun hx=>absurd hx (by first|(try simp[std,S1,jW,jR,g0,g0',n1,n2,n3,QG,jJ,g1,g1',ja,hU,vG])<;>omega|omega)))
       |(with_reducible refine And.intro (by first|(try simp[std,S1,jW,jR,g0,g0',n1,n2,n3,QG,jJ,g1,g1',ja,hU,vG])<;>omega|omega) ?_)
       |(with_reducible refine zA ?_ ?_)
       |(with_reducible intro hb)
      all_goals
       refine⟨(out++[⟨u,at_,2⟩],at_+2),⟨jH.1,jH.2.1,jH.2.2.1,jH.2.2.2.1⟩,jH.2.2.2.2,[some 0],_,rfl,?_⟩;simp[Qe,lk,std,AV.cells,intOf,Q1I,Q1J,jW,jR,g0,g0',n1,n2,n3,QG,jJ,g1,g1',ja,hU,vG]<;>first|omega|(split<;>omega)|trace_state
     ·have qx:¬u<57344:=by omega
      have vG:¬u<56320:=by omega
      repeat' first
       |(with_reducible refine And.intro (fun hx=>absurd hx (by first|(try simp[std,S1,jW,jR,g0,g0',n1,n2,n3,QG,jJ,g1,g1',ja,hU,qy,qx,vG])<;>omega|omega)) (fun _=>?_))
       |(with_reducible refine And.intro (fun _=>?_) (fun hx=>absurd hx (by first|(try simp[std,S1,jW,jR,g0,g0',n1,n2,n3,QG,jJ,g1,g1',ja,hU,qy,qx,vG])<;>omega|omega)))
       |(with_reducible refine And.intro (by first|(try simp[std,S1,jW,jR,g0,g0',n1,n2,n3,QG,jJ,g1,g1',ja,hU,qy,qx,vG])<;>omega|omega) ?_)
       |(with_reducible refine zA ?_ ?_)
       |(with_reducible intro hb)
      all_goals
       refine⟨(out++[⟨u,at_,2⟩],at_+2),⟨jH.1,jH.2.1,jH.2.2.1,jH.2.2.2.1⟩,jH.2.2.2.2,[some 0],_,rfl,?_⟩;simp[Qe,lk,std,AV.cells,intOf,Q1I,Q1J,jW,jR,g0,g0',n1,n2,n3,QG,jJ,g1,g1',ja,hU,qy,qx,vG]<;>first|omega|(split<;>omega)|trace_state
   | [z],hr =>
    have jJ:(b.length:Int)=at_+3:=by simp only[List.length_nil,List.length_singleton]at qd;omega
    have jI:Q1j big [x,y,z]=(if 55296<=Q1e big x y/\Q1e big x y<57344 then(-1,2)else(Q1e big x y,2)):=rfl;obtain⟨u,hu⟩:=exq (Q1e big x y);have ja:=hu.symm;rw[<-hu]at jI hU xr;by_cases h1:55296<=u/\u<57344
    ·rw[if_pos h1]at jI
     have jH:=Q2J (r:=[x,y,z]) jq qE (hr ▸ jb) j5 hr (by simp) jI
     obtain⟨qy,qx⟩:=h1
     repeat' first
      |(with_reducible refine And.intro (fun hx=>absurd hx (by first|(try simp[std,S1,jW,jR,g0,g0',n1,n2,n3,QG,jJ,g1,g1',ja,hU,qy,qx])<;>omega|omega)) (fun _=>?_))
      |(with_reducible refine And.intro (fun _=>?_) (fun hx=>absurd hx (by first|(try simp[std,S1,jW,jR,g0,g0',n1,n2,n3,QG,jJ,g1,g1',ja,hU,qy,qx])<;>omega|omega)))
      |(with_reducible refine And.intro (by first|(try simp[std,S1,jW,jR,g0,g0',n1,n2,n3,QG,jJ,g1,g1',ja,hU,qy,qx])<;>omega|omega) ?_)
      |(with_reducible refine zA ?_ ?_)
      |(with_reducible intro hb)
     all_goals
      refine⟨(out++[⟨-1,at_,2⟩],at_+2),⟨jH.1,jH.2.1,jH.2.2.1,jH.2.2.2.1⟩,jH.2.2.2.2,[some 0],_,rfl,?_⟩;simp[Qe,lk,std,AV.cells,intOf,Q1I,Q1J,jW,jR,g0,g0',n1,n2,n3,QG,jJ,g1,g1',ja,hU,qy,qx]<;>first|omega|(split<;>omega)|trace_state
    ·rw[if_neg h1]at jI
     have jH:=Q2J (r:=[x,y,z]) jq qE (hr ▸ jb) j5 hr (by simp) jI
     rcases(by omega:u<55296\/55296<=u)with qy|qy
     ·have vG:¬55296<=u:=by omega
      repeat' first
       |(with_reducible refine And.intro (fun hx=>absurd hx (by first|(try simp[std,S1,jW,jR,g0,g0',n1,n2,n3,QG,jJ,g1,g1',ja,hU,vG])<;>omega|omega)) (fun _=>?_))
       |(with_reducible refine And.intro (fun _=>?_) (fun hx=>absurd hx (by first|(try simp[std,S1,jW,jR,g0,g0',n1,n2,n3,QG,jJ,g1,g1',ja,hU,vG])<;>omega|omega)))
       |(with_reducible refine And.intro (by first|(try simp[std,S1,jW,jR,g0,g0',n1,n2,n3,QG,jJ,g1,g1',ja,hU,vG])<;>omega|omega) ?_)
       |(with_reducible refine zA ?_ ?_)
       |(with_reducible intro hb)
      all_goals
       refine⟨(out++[⟨u,at_,2⟩],at_+2),⟨jH.1,jH.2.1,jH.2.2.1,jH.2.2.2.1⟩,jH.2.2.2.2,[some 0],_,rfl,?_⟩;simp[Qe,lk,std,AV.cells,intOf,Q1I,Q1J,jW,jR,g0,g0',n1,n2,n3,QG,jJ,g1,g1',ja,hU,vG]<;>first|omega|(split<;>omega)|trace_state
     ·have qx:¬u<57344:=by omega
      have vG:¬u<56320:=by omega
      repeat' first
       |(with_reducible refine And.intro (fun hx=>absurd hx (by first|(try simp[std,S1,jW,jR,g0,g0',n1,n2,n3,QG,jJ,g1,g1',ja,hU,qy,qx,vG])<;>omega|omega)) (fun _=>?_))
       |(with_reducible refine And.intro (fun _=>?_) (fun hx=>absurd hx (by first|(try simp[std,S1,jW,jR,g0,g0',n1,n2,n3,QG,jJ,g1,g1',ja,hU,qy,qx,vG])<;>omega|omega)))
       |(with_reducible refine And.intro (by first|(try simp[std,S1,jW,jR,g0,g0',n1,n2,n3,QG,jJ,g1,g1',ja,hU,qy,qx,vG])<;>omega|omega) ?_)
       |(with_reducible refine zA ?_ ?_)
       |(with_reducible intro hb)
      all_goals
       refine⟨(out++[⟨u,at_,2⟩],at_+2),⟨jH.1,jH.2.1,jH.2.2.1,jH.2.2.2.1⟩,jH.2.2.2.2,[some 0],_,rfl,?_⟩;simp[Qe,lk,std,AV.cells,intOf,Q1I,Q1J,jW,jR,g0,g0',n1,n2,n3,QG,jJ,g1,g1',ja,hU,qy,qx,vG]<;>first|omega|(split<;>omega)|trace_state
   |x2::y2::rr,hr =>
    obtain⟨g2,g2'⟩:=get 2 x2 rfl;obtain⟨g3,g3'⟩:=get 3 y2 rfl;have v6:=hUn x2 y2;obtain⟨m,hm⟩:=exq ((rr.length:Int):Int);have jJ:(b.length:Int)=at_+(4+m):=by simp only[List.length_cons]at qd;omega
    have jI:Q1j big (x::y::x2::y2::rr)=if(55296<=Q1e big x y/\Q1e big x y<56320)/\(56320<=Q1e big x2 y2/\Q1e big x2 y2<57344)then(65536+(Q1e big x y-55296) * 1024+(Q1e big x2 y2-56320),4)else(if 55296<=Q1e big x y/\Q1e big x y<57344 then(-1,2)else(Q1e big x y,2)):=rfl;have xQ:=Q33 big x2 y2
    have vE:Q6d .andNot .i32 (Q1e big x2 y2) 1023=Q1e big x2 y2 / 1024 * 1024:=by
     have:=QlV (Q1e big x2 y2).toNat (by omega)
     rw[Int.toNat_of_nonneg xQ.1]at this;rw[this];omega
    have hand:Q6d .and .i32 (Q1e big x2 y2) 1023=Q1e big x2 y2 % 1024:=by
     have:=QkB (Q1e big x2 y2).toNat (by omega)
     rw[Int.toNat_of_nonneg xQ.1]at this;rw[this];omega
    obtain⟨u,hu⟩:=exq (Q1e big x y);obtain⟨u2,nu⟩:=exq (Q1e big x2 y2);have ja:=hu.symm;have yz:=nu.symm;rw[<-hu]at jI hU xr;rw[<-nu]at jI v6 xQ vE hand;have qA:¬(4+m<4):=by omega
    have qm:¬(4+m<2):=by omega
    by_cases hh:55296<=u/\u<56320
    ·by_cases hl:56320<=u2/\u2<57344
     ·rw[if_pos ⟨hh,hl⟩]at jI
      have jH:=Q2J jq qE (hr ▸ jb) j5 hr (by simp) jI
      have z5:u2 / 1024 * 1024=56320:=by omega
      have yN:u2 % 1024=u2-56320:=by omega
      have zh:Qjb .i32 (u-55296) 10=(u-55296) * 1024:=by
       show IntKind.wrap .i32 ((u-55296) * 2 ^ min (10:Int).toNat 32)=_;rw[show(2:Int) ^ min (10:Int).toNat 32=1024 from rfl];exact Q5n _ (by omega) (by omega)
      rw[z5]at vE;rw[yN]at hand;obtain⟨z8,kD⟩:=hh
      repeat' first
       |(with_reducible refine And.intro (fun hx=>absurd hx (by first|(try simp[std,S1,jW,jR,g0,g0',n1,n2,n3,QG,jJ,g1,g1',g2,g2',g3,g3',ja,yz,hU,v6,vE,hand,zh,qA,qm,z8,kD])<;>omega|omega)) (fun _=>?_))
       |(with_reducible refine And.intro (fun _=>?_) (fun hx=>absurd hx (by first|(try simp[std,S1,jW,jR,g0,g0',n1,n2,n3,QG,jJ,g1,g1',g2,g2',g3,g3',ja,yz,hU,v6,vE,hand,zh,qA,qm,z8,kD])<;>omega|omega)))
       |(with_reducible refine And.intro (by first|(try simp[std,S1,jW,jR,g0,g0',n1,n2,n3,QG,jJ,g1,g1',g2,g2',g3,g3',ja,yz,hU,v6,vE,hand,zh,qA,qm,z8,kD])<;>omega|omega) ?_)
       |(with_reducible refine zA ?_ ?_)
       |(with_reducible intro hb)
      all_goals
       refine⟨(out++[⟨65536+(u-55296) * 1024+(u2-56320),at_,4⟩],at_+4),⟨jH.1,jH.2.1,jH.2.2.1,jH.2.2.2.1⟩,jH.2.2.2.2,[some 0],_,rfl,?_⟩;simp[Qe,lk,std,AV.cells,intOf,Q1I,Q1J,jW,jR,g0,g0',n1,n2,n3,QG,jJ,g1,g1',g2,g2',g3,g3',ja,yz,hU,v6,vE,hand,zh,qA,qm,z8,kD]<;>first|omega|(split<;>omega)|trace_state
     ·rw[if_neg (fun h=>hl h.2),if_pos ⟨hh.1,by omega⟩]at jI
      have jH:=Q2J jq qE (hr ▸ jb) j5 hr (by simp) jI
      have z5:¬u2 / 1024 * 1024=56320:=by omega
      obtain⟨z8,kD⟩:=hh;have nv:u<57344:=by omega
      repeat' first
       |(with_reducible refine And.intro (fun hx=>absurd hx (by first|(try simp[std,S1,jW,jR,g0,g0',n1,n2,n3,QG,jJ,g1,g1',g2,g2',g3,g3',ja,yz,hU,v6,vE,z5,qA,qm,z8,kD,nv])<;>omega|omega)) (fun _=>?_))
       |(with_reducible refine And.intro (fun _=>?_) (fun hx=>absurd hx (by first|(try simp[std,S1,jW,jR,g0,g0',n1,n2,n3,QG,jJ,g1,g1',g2,g2',g3,g3',ja,yz,hU,v6,vE,z5,qA,qm,z8,kD,nv])<;>omega|omega)))
       |(with_reducible refine And.intro (by first|(try simp[std,S1,jW,jR,g0,g0',n1,n2,n3,QG,jJ,g1,g1',g2,g2',g3,g3',ja,yz,hU,v6,vE,z5,qA,qm,z8,kD,nv])<;>omega|omega) ?_)
       |(with_reducible refine zA ?_ ?_)
       |(with_reducible intro hb)
      all_goals
       refine⟨(out++[⟨-1,at_,2⟩],at_+2),⟨jH.1,jH.2.1,jH.2.2.1,jH.2.2.2.1⟩,jH.2.2.2.2,[some 0],_,rfl,?_⟩;simp[Qe,lk,std,AV.cells,intOf,Q1I,Q1J,jW,jR,g0,g0',n1,n2,n3,QG,jJ,g1,g1',g2,g2',g3,g3',ja,yz,hU,v6,vE,z5,qA,qm,z8,kD,nv]<;>first|omega|(split<;>omega)|trace_state
    ·rw[if_neg (fun h=>hh h.1)]at jI
     by_cases h1:55296<=u/\u<57344
     ·rw[if_pos h1]at jI
      have jH:=Q2J jq qE (hr ▸ jb) j5 hr (by simp) jI
      have z8:¬u<56320:=by omega
      obtain⟨qy,qx⟩:=h1
      repeat' first
       |(with_reducible refine And.intro (fun hx=>absurd hx (by first|(try simp[std,S1,jW,jR,g0,g0',n1,n2,n3,QG,jJ,g1,g1',ja,hU,qA,qm,z8,qy,qx])<;>omega|omega)) (fun _=>?_))
       |(with_reducible refine And.intro (fun _=>?_) (fun hx=>absurd hx (by first|(try simp[std,S1,jW,jR,g0,g0',n1,n2,n3,QG,jJ,g1,g1',ja,hU,qA,qm,z8,qy,qx])<;>omega|omega)))
       |(with_reducible refine And.intro (by first|(try simp[std,S1,jW,jR,g0,g0',n1,n2,n3,QG,jJ,g1,g1',ja,hU,qA,qm,z8,qy,qx])<;>omega|omega) ?_)
       |(with_reducible refine zA ?_ ?_)
       |(with_reducible intro hb)
      all_goals
       refine⟨(out++[⟨-1,at_,2⟩],at_+2),⟨jH.1,jH.2.1,jH.2.2.1,jH.2.2.2.1⟩,jH.2.2.2.2,[some 0],_,rfl,?_⟩;simp[Qe,lk,std,AV.cells,intOf,Q1I,Q1J,jW,jR,g0,g0',n1,n2,n3,QG,jJ,g1,g1',ja,hU,qA,qm,z8,qy,qx]<;>first|omega|(split<;>omega)|trace_state
     ·rw[if_neg h1]at jI
      have jH:=Q2J jq qE (hr ▸ jb) j5 hr (by simp) jI
      rcases(by omega:u<55296\/55296<=u)with qy|qy
      ·have vG:¬55296<=u:=by omega
       repeat' first
        |(with_reducible refine And.intro (fun hx=>absurd hx (by first|(try simp[std,S1,jW,jR,g0,g0',n1,n2,n3,QG,jJ,g1,g1',ja,hU,qA,qm,vG])<;>omega|omega)) (fun _=>?_))
        |(with_reducible refine And.intro (fun _=>?_) (fun hx=>absurd hx (by first|(try simp[std,S1,jW,jR,g0,g0',n1,n2,n3,QG,jJ,g1,g1',ja,hU,qA,qm,vG])<;>omega|omega)))
        |(with_reducible refine And.intro (by first|(try simp[std,S1,jW,jR,g0,g0',n1,n2,n3,QG,jJ,g1,g1',ja,hU,qA,qm,vG])<;>omega|omega) ?_)
        |(with_reducible refine zA ?_ ?_)
        |(with_reducible intro hb)
       all_goals
        refine⟨(out++[⟨u,at_,2⟩],at_+2),⟨jH.1,jH.2.1,jH.2.2.1,jH.2.2.2.1⟩,jH.2.2.2.2,[some 0],_,rfl,?_⟩;simp[Qe,lk,std,AV.cells,intOf,Q1I,Q1J,jW,jR,g0,g0',n1,n2,n3,QG,jJ,g1,g1',ja,hU,qA,qm,vG]<;>first|omega|(split<;>omega)|trace_state
      ·have qx:¬u<57344:=by omega
       have vG:¬u<56320:=by omega
       repeat' first
        |(with_reducible refine And.intro (fun hx=>absurd hx (by first|(try simp[std,S1,jW,jR,g0,g0',n1,n2,n3,QG,jJ,g1,g1',ja,hU,qA,qm,qy,qx,vG])<;>omega|omega)) (fun _=>?_))
        |(with_reducible refine And.intro (fun _=>?_) (fun hx=>absurd hx (by first|(try simp[std,S1,jW,jR,g0,g0',n1,n2,n3,QG,jJ,g1,g1',ja,hU,qA,qm,qy,qx,vG])<;>omega|omega)))
        |(with_reducible refine And.intro (by first|(try simp[std,S1,jW,jR,g0,g0',n1,n2,n3,QG,jJ,g1,g1',ja,hU,qA,qm,qy,qx,vG])<;>omega|omega) ?_)
        |(with_reducible refine zA ?_ ?_)
        |(with_reducible intro hb)
       all_goals
        refine⟨(out++[⟨u,at_,2⟩],at_+2),⟨jH.1,jH.2.1,jH.2.2.1,jH.2.2.2.1⟩,jH.2.2.2.2,[some 0],_,rfl,?_⟩;simp[Qe,lk,std,AV.cells,intOf,Q1I,Q1J,jW,jR,g0,g0',n1,n2,n3,QG,jJ,g1,g1',ja,hU,qA,qm,qy,qx,vG]<;>first|omega|(split<;>omega)|trace_state
