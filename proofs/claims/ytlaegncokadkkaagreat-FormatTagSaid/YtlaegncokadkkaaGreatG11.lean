/- Lemmas, conditions told -/
import Derived.Test.YtlaegncokadkkaaGreatG09
set_option maxRecDepth 99999
set_option maxHeartbeats 0
set_option linter.unusedSimpArgs false
set_option linter.unusedVariables false
namespace Go.Proofs.YtlaegncokadkkaaGreat
open Go.RowKit Go.Lib
section
open Tryz
theorem Q6n(n:Nat)(h:n<2 ^ 32):(BitVec.ofInt 32 (n:Int)).toNat=n:=by
 rw[BitVec.toNat_ofInt];omega
theorem Q5Y(n:Int)(h0:-2147483648<=n)(h1:n<=2147483647):IntKind.wrap .i32 n=n:=Q52 .i32 n ⟨h0,h1⟩
theorem QfP(a b:Nat)(ha:a<256)(hb:b<256):Q5q .or .i32 ((a:Int) * 256) b=a * 256+b:=by
 have h1:((a:Int) * 256)=((a * 256:Nat):Int):=by omega
 have h2:(a * 256 ||| b:Nat)=a * 256+b:=by
  have:=Nat.two_pow_add_eq_or_of_lt (i:=8) (b:=b) (by omega) a
  rw[Nat.mul_comm a 256,<-this]
 show IntKind.wrap .i32 (((BitVec.ofInt 32 ((a:Int) * 256)) ||| (BitVec.ofInt 32 (b:Int))).toNat:Int)=_
 rw[BitVec.toNat_or,h1,Q6n _ (by omega),Q6n _ (by omega),h2,Q5Y _ (by omega) (by omega)]
 omega
theorem Qko(u:Nat)(h:u<65536):Q5q .and .i32 (u:Int) 1023=(u % 1024:Nat):=by
 show IntKind.wrap .i32 (((BitVec.ofInt 32 (u:Int)) &&& (BitVec.ofInt 32 1023)).toNat:Int)=_;rw[BitVec.toNat_and,Q6n _ (by omega),show(BitVec.ofInt 32 1023).toNat=2 ^ 10-1 from rfl,Nat.and_two_pow_sub_one_eq_mod,Q5Y _ (by omega) (by omega)]
theorem Qi6:∀r,r<1024->r &&& 4294966272=0:=by decide
theorem QhF:∀q,q<64->(2 ^ 10 * q) &&& 4294966272=2 ^ 10 * q:=by decide
theorem Qjy(u:Nat)(h:u<65536):Q5q .andNot .i32 (u:Int) 1023=(u / 1024 * 1024:Nat):=by
 show IntKind.wrap .i32 (((BitVec.ofInt 32 (u:Int)) &&& ~~~ (BitVec.ofInt 32 1023)).toNat:Int)=_
 have h1:(u &&& 4294966272:Nat)=u / 1024 * 1024:=by
  have h2:2 ^ 10 * (u / 1024) ||| (u % 1024)=u:=by
   rw[<-Nat.two_pow_add_eq_or_of_lt (i:=10) (b:=u % 1024) (by omega) (u / 1024)]
   omega
  have h3:=Qi6 (u % 1024) (by omega)
  have h4:=QhF (u / 1024) (by omega)
  have h5:(2 ^ 10 * (u / 1024) ||| (u % 1024)) &&& 4294966272=u / 1024 * 1024:=by
   rw[Nat.and_or_distrib_right,h3,h4,Nat.or_zero];omega
  rw[h2]at h5;exact h5
 rw[BitVec.toNat_and,Q6n _ (by omega),show(~~~ (BitVec.ofInt 32 1023)).toNat=4294966272 from rfl,h1,Q5Y _ (by omega) (by omega)]
def Q16(big:Bool)(x y:UInt8):Int:=if big then x.toNat * 256+y.toNat else y.toNat * 256+x.toNat
theorem Q6h(x:UInt8):std.wrap .i32 (x.toNat:Int)=x.toNat:=Q5Y _ (by omega) (by have:=x.toNat_lt;omega)
theorem Qe2(x:UInt8):QgQ .i32 (x.toNat:Int) 8=(x.toNat:Int) * 256:=by
 show IntKind.wrap .i32 ((x.toNat:Int) * 2 ^ min (8:Int).toNat 32)=_;rw[show(2:Int) ^ min (8:Int).toNat 32=256 from rfl];have:=x.toNat_lt
 exact Q5Y _ (by omega) (by omega)
theorem Qlx(x y:UInt8):BCall prog 235 [Q4Q x,Q4Q y] [] (.val (.int .i32 (Q16 true x y))) []:=by
 unfold Q4Q;refine fnN (cs0) func235 rfl fun _ _=>?_
 with_reducible refine cv2 ((x.toNat:Int)) ((y.toNat:Int)) ?_
 refine⟨by simp[std],.pure rfl (.inl ?_)⟩
 show AV.val (.int .i32 (Q5q .or .i32 (QgQ .i32 (std.wrap .i32 (x.toNat:Int)) 8) (std.wrap .i32 (y.toNat:Int))))=_;rw[Q6h,Q6h,Qe2,QfP _ _ x.toNat_lt y.toNat_lt];rfl
theorem Qlh(x y:UInt8):BCall prog 236 [Q4Q x,Q4Q y] [] (.val (.int .i32 (Q16 false x y))) []:=by
 unfold Q4Q;refine fnN (cs0) func236 rfl fun _ _=>?_
 with_reducible refine cv2 ((x.toNat:Int)) ((y.toNat:Int)) ?_
 refine⟨by simp[std],.pure rfl (.inl ?_)⟩
 show AV.val (.int .i32 (Q5q .or .i32 (QgQ .i32 (std.wrap .i32 (y.toNat:Int)) 8) (std.wrap .i32 (x.toNat:Int))))=_;rw[Q6h,Q6h,Qe2,QfP _ _ y.toNat_lt x.toNat_lt];rfl
theorem Qm4(big:Bool):BCall prog 194 [.val (.bool big)] [] (.val (.func (.func (if big then 235 else 236)) #[] #[])) []:=by
 refine fnN (cs0) func194 rfl fun _ _=>?_
 with_reducible refine cv0 ?_
 exact⟨fun h=>.pure rfl (.inl (by rw[h];rfl)),fun h=>.pure rfl (.inl (by rw[h];rfl))⟩
structure Itm where
 r:Int
 off:Int
 n:Int
 deriving Inhabited
def Itm.av(x:Itm):AV:=.agg [.val (.int .i32 x.r),.val (.int .i64 x.off),.val (.int .i64 x.n)]
def Q1H(l:List Itm):List AV:=l.map Itm.av
theorem Q5y(l:List Itm):(Q1H l).length=l.length:=by simp[Q1H]
theorem Q21(a b:List Itm):Q1H (a++b)=Q1H a++Q1H b:=by simp[Q1H]
theorem Q23(x:Itm):Q1H [x]=[.agg [.val (.int .i32 x.r),.val (.int .i64 x.off),.val (.int .i64 x.n)]]:=rfl
def Q43(big:Bool)(l:List UInt8):Int×Int:=match l with
 | []=>(-1,0)
 | [_]=>(-1,1)
 |x::y::r =>
  let u:=Q16 big x y
  let one:Int×Int:=if 55296<=u/\u<57344 then(-1,2)else(u,2)
  match r with
  |x2::y2::_=>if(55296<=u/\u<56320)/\(56320<=Q16 big x2 y2/\Q16 big x2 y2<57344)then(65536+(u-55296) * 1024+(Q16 big x2 y2-56320),4)else one
  |_=>one
theorem Qc0(big:Bool)(l:List UInt8)(h:l≠[]):1<=(Q43 big l).2/\(Q43 big l).2<=l.length:=by
 unfold Q43;match l,h with
 | [_],_=>simp
 | [x,y],_=>simp only;split<;>simp
 | [x,y,z],_=>simp only;split<;>simp
 |x::y::x2::y2::r,_=>simp only;split<;>(try split)<;>simp<;>omega
def Q2V(big:Bool)(off:Int)(l:List UInt8):List Itm :=
 if h:l=[]then []else⟨(Q43 big l).1,off,(Q43 big l).2⟩::Q2V big (off+(Q43 big l).2) (l.drop (Q43 big l).2.toNat)
termination_by l.length
decreasing_by
 have:=Qc0 big l h
 simp only[List.length_drop];omega
theorem Q9X(big:Bool)(x y:UInt8):0<=Q16 big x y/\Q16 big x y<65536:=by
 have:=x.toNat_lt
 have:=y.toNat_lt
 unfold Q16;split<;>omega
theorem Qnq(big:Bool)(x y:UInt8):BCall prog (if big then 235 else 236) [Q4Q x,Q4Q y] [] (.val (.int .i32 (Q16 big x y))) []:=by
 cases big
 ·exact Qlh x y
 ·exact Qlx x y
def csW(g:Nat)(unit:AV->AV->Int):Nat->List AV->List Ob->Option (AV×List Ob):=fun _ args _=>match args with
 | [.val (.bool _)]=>some (.val (.func (.func g) #[] #[]),[])
 | [.val (.int .u8 x),.val (.int .u8 y)]=>some (.val (.int .i32 (unit (.val (.int .u8 x)) (.val (.int .u8 y)))),[])
 |_=>none
def Q9Q(big:Bool)(x y:AV):Int:=Q16 big (Q2K x) (Q2K y)
theorem Qm(big:Bool)(x y:UInt8):Q9Q big (.val (.int .u8 (x.toNat:Int))) (.val (.int .u8 (y.toNat:Int)))=Q16 big x y:=by
 simp[Q9Q,Q2K]
theorem Q2C{big:Bool}{b:List UInt8}{out:List Itm}{a R n:Int}(h0:0<=a)(h1:a.toNat<=b.length)(h2:out++Q2V big a (b.drop a.toNat)=Q2V big 0 b)(h3:out.length<=a.toNat){r:List UInt8}(hr:b.drop a.toNat=r)(jL:r≠[])(hs:Q43 big r=(R,n)) :
  0<=a+n/\(a+n).toNat<=b.length/\out++[⟨R,a,n⟩]++Q2V big (a+n) (b.drop (a+n).toNat)=Q2V big 0 b/\(out++[(⟨R,a,n⟩:Itm)]).length<=(a+n).toNat/\b.length-(a+n).toNat<b.length-a.toNat:=by
 have h4:=Qc0 big r jL;rw[hs]at h4;simp only at h4
 have h5:r.length=b.length-a.toNat:=by rw[<-hr,List.length_drop]
 refine⟨by omega,by omega,?_,by simp;omega,by omega⟩
 have e:Q2V big a r=⟨R,a,n⟩::Q2V big (a+n) (r.drop n.toNat):=by
  rw[Q2V,dif_neg jL,hs]
 rw[<-h2,hr,e,<-hr,List.drop_drop,show(a+n).toNat=a.toNat+n.toNat by omega]
 simp
theorem Qju(big:Bool)(b:List UInt8)(hb:b.length<=1000000000):BCall prog 144 [.slc 1 (Q5 b),.val (.bool big)] [] (.slc 3 (Q1H (Q2V big 0 b))) []:=by
 obtain⟨g,hg⟩:=exq (if big then 235 else 236);have hUs:BCall prog 194 [.val (.bool big)] [] (.val (.func (.func g) #[] #[])) []:=by rw[hg];exact Qm4 big
 have hUn:∀x y:UInt8,BCall prog g [.val (.int .u8 (x.toNat:Int)),.val (.int .u8 (y.toNat:Int))] [] (.val (.int .i32 (Q16 big x y))) []:=fun x y=>by rw[hg];exact Qnq big x y
 clear hg;refine fnN (csW g (Q9Q big)) func144 rfl fun _ _=>?_
 with_reducible refine cv2 (Q9Q big) (Q5 b) ?_
 refine⟨hUs,?_⟩;refine Q1p (csW g (Q9Q big)) (List Itm×Int) (fun x=>⟨[(0,.slc 1 (Q5 b)),(5,.row 0 0),(6,.val (.func (.func g) #[] #[])),(7,.val (.int .i64 x.2))],[.row 190 3 false 0 (Q1H x.1)]⟩) (fun x=>0<=x.2/\x.2.toNat<=b.length/\x.1++Q2V big x.2 (b.drop x.2.toNat)=Q2V big 0 b/\x.1.length<=x.2.toNat) (fun x=>b.length-x.2.toNat) ([],0) ?_ ?_ ?_
 ·simp
 ·exact⟨[none],_,rfl,by simp[Qf,lk,Q1H]⟩
 ·rintro⟨out,at_⟩ ⟨q8,qU,js,jb⟩
  simp only at q8 qU js jb
  with_reducible refine cv3 (Q9Q big) (Q5 b) (Q1H out) ?_
  have jV:=Q2W b;have qI:(b.drop at_.toNat).length=b.length-at_.toNat:=List.length_drop;have yg:∀j:Nat,b[at_.toNat+j]?=(b.drop at_.toNat)[j]?:=fun j=>by rw[List.getElem?_drop]
  have get:∀(j:Nat)(x:UInt8),(b.drop at_.toNat)[j]?=some x->(Q5 b)[at_.toNat+j]?.getD .dead=.val (.int .u8 x.toNat)/\∀h:at_.toNat+j<(Q5 b).length,(Q5 b)[at_.toNat+j]'h=.val (.int .u8 x.toNat):=fun j x hx=>by
   rw[<-yg]at hx;have h1:(Q5 b)[at_.toNat+j]?=some (.val (.int .u8 x.toNat)):=by simp[Q5,hx,Q4Q]
   exact⟨by rw[h1];rfl,fun h=>by rw[List.getElem?_eq_getElem h]at h1;exact Option.some.inj h1⟩
  have n1:(at_+1).toNat=at_.toNat+1:=by omega
  have n2:(at_+2).toNat=at_.toNat+2:=by omega
  have n3:(at_+2+1).toNat=at_.toNat+3:=by omega
  generalize hr:b.drop at_.toNat=r at yg get qI js;match r,hr with
  | [],hr =>
   simp only[List.length_nil]at qI;with_reducible repeat' first|refine aU jV ?_|refine zA ?_ ?_|intro hb
   rw[if_pos trivial];with_reducible refine cv3 (Q9Q big) (Q5 b) (Q1H out) ?_
   refine .pure rfl (.inl ?_);rw[<-js,Q2V,dif_pos rfl,List.append_nil]
  | [x],hr =>
   simp only[List.length_singleton]at qI;obtain⟨g0,g0'⟩:=get 0 x rfl;rw[Nat.add_zero]at g0 g0';have jF:(b.length:Int)=at_+1:=by omega
   have jP:=Q5y out;have jM:=Q2C (r:=[x]) q8 qU (hr ▸ js) jb hr (by simp) (R:=-1) (n:=1) rfl
   repeat' first
    |(with_reducible refine And.intro (fun hx=>absurd hx (by first|(try simp[std,S1,jV,jP,g0,g0',n1,n2,n3,Qm,jF])<;>omega|omega)) (fun _=>?_))
    |(with_reducible refine And.intro (fun _=>?_) (fun hx=>absurd hx (by first|(try simp[std,S1,jV,jP,g0,g0',n1,n2,n3,Qm,jF])<;>omega|omega)))
    |(with_reducible refine And.intro (by first|(try simp[std,S1,jV,jP,g0,g0',n1,n2,n3,Qm,jF])<;>omega|omega) ?_)
    |(with_reducible refine And.intro ?_ ?_)
    |(with_reducible intro hb)
   all_goals
    refine⟨(out++[⟨-1,at_,1⟩],at_+1),⟨jM.1,jM.2.1,jM.2.2.1,jM.2.2.2.1⟩,jM.2.2.2.2,[some 0],_,rfl,?_⟩;simp[Qf,lk,std,AV.cells,intOf,Q21,Q23,jV,jP,g0,g0',n1,n2,n3,Qm,jF]<;>first|omega|(split<;>omega)|trace_state
  |x::y::r,hr =>
   obtain⟨g0,g0'⟩:=get 0 x rfl;obtain⟨g1,g1'⟩:=get 1 y rfl;rw[Nat.add_zero]at g0 g0';have hU:=hUn x y;have jP:=Q5y out;have cM:=Q9X big x y;simp only[List.length_cons]at qI;match r,hr with
   | [],hr =>
    have jF:(b.length:Int)=at_+2:=by simp only[List.length_nil,List.length_singleton]at qI;omega
    have jI:Q43 big [x,y]=(if 55296<=Q16 big x y/\Q16 big x y<57344 then(-1,2)else(Q16 big x y,2)):=rfl;obtain⟨u,hu⟩:=exq (Q16 big x y);have j0:=hu.symm;rw[<-hu]at jI hU cM;by_cases h1:55296<=u/\u<57344
    ·rw[if_pos h1]at jI
     have jM:=Q2C (r:=[x,y]) q8 qU (hr ▸ js) jb hr (by simp) jI
     obtain⟨q9,q7⟩:=h1
     repeat' first
      |(with_reducible refine And.intro (fun hx=>absurd hx (by first|(try simp[std,S1,jV,jP,g0,g0',n1,n2,n3,Qm,jF,g1,g1',j0,hU,q9,q7])<;>omega|omega)) (fun _=>?_))
      |(with_reducible refine And.intro (fun _=>?_) (fun hx=>absurd hx (by first|(try simp[std,S1,jV,jP,g0,g0',n1,n2,n3,Qm,jF,g1,g1',j0,hU,q9,q7])<;>omega|omega)))
      |(with_reducible refine And.intro (by first|(try simp[std,S1,jV,jP,g0,g0',n1,n2,n3,Qm,jF,g1,g1',j0,hU,q9,q7])<;>omega|omega) ?_)
      |(with_reducible refine And.intro ?_ ?_)
      |(with_reducible intro hb)
     all_goals
      refine⟨(out++[⟨-1,at_,2⟩],at_+2),⟨jM.1,jM.2.1,jM.2.2.1,jM.2.2.2.1⟩,jM.2.2.2.2,[some 0],_,rfl,?_⟩;simp[Qf,lk,std,AV.cells,intOf,Q21,Q23,jV,jP,g0,g0',n1,n2,n3,Qm,jF,g1,g1',j0,hU,q9,q7]<;>first|omega|(split<;>omega)|trace_state
    ·rw[if_neg h1]at jI
     have jM:=Q2C (r:=[x,y]) q8 qU (hr ▸ js) jb hr (by simp) jI
     rcases(by omega:u<55296\/55296<=u)with q9|q9
     ·have qq:¬55296<=u:=by omega
      repeat' first
       |(with_reducible refine And.intro (fun hx=>absurd hx (by first|(try simp[std,S1,jV,jP,g0,g0',n1,n2,n3,Qm,jF,g1,g1',j0,hU,qq])<;>omega|omega)) (fun _=>?_))
       |(with_reducible refine And.intro (fun _=>?_) (fun hx=>absurd hx (by first|(try simp[std,S1,jV,jP,g0,g0',n1,n2,n3,Qm,jF,g1,g1',j0,hU,qq])<;>omega|omega)))
       |(with_reducible refine And.intro (by first|(try simp[std,S1,jV,jP,g0,g0',n1,n2,n3,Qm,jF,g1,g1',j0,hU,qq])<;>omega|omega) ?_)
       |(with_reducible refine And.intro ?_ ?_)
       |(with_reducible intro hb)
      all_goals
       refine⟨(out++[⟨u,at_,2⟩],at_+2),⟨jM.1,jM.2.1,jM.2.2.1,jM.2.2.2.1⟩,jM.2.2.2.2,[some 0],_,rfl,?_⟩;simp[Qf,lk,std,AV.cells,intOf,Q21,Q23,jV,jP,g0,g0',n1,n2,n3,Qm,jF,g1,g1',j0,hU,qq]<;>first|omega|(split<;>omega)|trace_state
     ·have q7:¬u<57344:=by omega
      have qq:¬u<56320:=by omega
      repeat' first
       |(with_reducible refine And.intro (fun hx=>absurd hx (by first|(try simp[std,S1,jV,jP,g0,g0',n1,n2,n3,Qm,jF,g1,g1',j0,hU,q9,q7,qq])<;>omega|omega)) (fun _=>?_))
       |(with_reducible refine And.intro (fun _=>?_) (fun hx=>absurd hx (by first|(try simp[std,S1,jV,jP,g0,g0',n1,n2,n3,Qm,jF,g1,g1',j0,hU,q9,q7,qq])<;>omega|omega)))
       |(with_reducible refine And.intro (by first|(try simp[std,S1,jV,jP,g0,g0',n1,n2,n3,Qm,jF,g1,g1',j0,hU,q9,q7,qq])<;>omega|omega) ?_)
       |(with_reducible refine And.intro ?_ ?_)
       |(with_reducible intro hb)
      all_goals
       refine⟨(out++[⟨u,at_,2⟩],at_+2),⟨jM.1,jM.2.1,jM.2.2.1,jM.2.2.2.1⟩,jM.2.2.2.2,[some 0],_,rfl,?_⟩;simp[Qf,lk,std,AV.cells,intOf,Q21,Q23,jV,jP,g0,g0',n1,n2,n3,Qm,jF,g1,g1',j0,hU,q9,q7,qq]<;>first|omega|(split<;>omega)|trace_state
   | [z],hr =>
    have jF:(b.length:Int)=at_+3:=by simp only[List.length_nil,List.length_singleton]at qI;omega
    have jI:Q43 big [x,y,z]=(if 55296<=Q16 big x y/\Q16 big x y<57344 then(-1,2)else(Q16 big x y,2)):=rfl;obtain⟨u,hu⟩:=exq (Q16 big x y);have j0:=hu.symm;rw[<-hu]at jI hU cM;by_cases h1:55296<=u/\u<57344
    ·rw[if_pos h1]at jI
     have jM:=Q2C (r:=[x,y,z]) q8 qU (hr ▸ js) jb hr (by simp) jI
     obtain⟨q9,q7⟩:=h1
     repeat' first
      |(with_reducible refine And.intro (fun hx=>absurd hx (by first|(try simp[std,S1,jV,jP,g0,g0',n1,n2,n3,Qm,jF,g1,g1',j0,hU,q9,q7])<;>omega|omega)) (fun _=>?_))
      |(with_reducible refine And.intro (fun _=>?_) (fun hx=>absurd hx (by first|(try simp[std,S1,jV,jP,g0,g0',n1,n2,n3,Qm,jF,g1,g1',j0,hU,q9,q7])<;>omega|omega)))
      |(with_reducible refine And.intro (by first|(try simp[std,S1,jV,jP,g0,g0',n1,n2,n3,Qm,jF,g1,g1',j0,hU,q9,q7])<;>omega|omega) ?_)
      |(with_reducible refine And.intro ?_ ?_)
      |(with_reducible intro hb)
     all_goals
      refine⟨(out++[⟨-1,at_,2⟩],at_+2),⟨jM.1,jM.2.1,jM.2.2.1,jM.2.2.2.1⟩,jM.2.2.2.2,[some 0],_,rfl,?_⟩;simp[Qf,lk,std,AV.cells,intOf,Q21,Q23,jV,jP,g0,g0',n1,n2,n3,Qm,jF,g1,g1',j0,hU,q9,q7]<;>first|omega|(split<;>omega)|trace_state
    ·rw[if_neg h1]at jI
     have jM:=Q2C (r:=[x,y,z]) q8 qU (hr ▸ js) jb hr (by simp) jI
     rcases(by omega:u<55296\/55296<=u)with q9|q9
     ·have qq:¬55296<=u:=by omega
      repeat' first
       |(with_reducible refine And.intro (fun hx=>absurd hx (by first|(try simp[std,S1,jV,jP,g0,g0',n1,n2,n3,Qm,jF,g1,g1',j0,hU,qq])<;>omega|omega)) (fun _=>?_))
       |(with_reducible refine And.intro (fun _=>?_) (fun hx=>absurd hx (by first|(try simp[std,S1,jV,jP,g0,g0',n1,n2,n3,Qm,jF,g1,g1',j0,hU,qq])<;>omega|omega)))
       |(with_reducible refine And.intro (by first|(try simp[std,S1,jV,jP,g0,g0',n1,n2,n3,Qm,jF,g1,g1',j0,hU,qq])<;>omega|omega) ?_)
       |(with_reducible refine And.intro ?_ ?_)
       |(with_reducible intro hb)
      all_goals
       refine⟨(out++[⟨u,at_,2⟩],at_+2),⟨jM.1,jM.2.1,jM.2.2.1,jM.2.2.2.1⟩,jM.2.2.2.2,[some 0],_,rfl,?_⟩;simp[Qf,lk,std,AV.cells,intOf,Q21,Q23,jV,jP,g0,g0',n1,n2,n3,Qm,jF,g1,g1',j0,hU,qq]<;>first|omega|(split<;>omega)|trace_state
     ·have q7:¬u<57344:=by omega
      have qq:¬u<56320:=by omega
      repeat' first
       |(with_reducible refine And.intro (fun hx=>absurd hx (by first|(try simp[std,S1,jV,jP,g0,g0',n1,n2,n3,Qm,jF,g1,g1',j0,hU,q9,q7,qq])<;>omega|omega)) (fun _=>?_))
       |(with_reducible refine And.intro (fun _=>?_) (fun hx=>absurd hx (by first|(try simp[std,S1,jV,jP,g0,g0',n1,n2,n3,Qm,jF,g1,g1',j0,hU,q9,q7,qq])<;>omega|omega)))
       |(with_reducible refine And.intro (by first|(try simp[std,S1,jV,jP,g0,g0',n1,n2,n3,Qm,jF,g1,g1',j0,hU,q9,q7,qq])<;>omega|omega) ?_)
       |(with_reducible refine And.intro ?_ ?_)
       |(with_reducible intro hb)
      all_goals
       refine⟨(out++[⟨u,at_,2⟩],at_+2),⟨jM.1,jM.2.1,jM.2.2.1,jM.2.2.2.1⟩,jM.2.2.2.2,[some 0],_,rfl,?_⟩;simp[Qf,lk,std,AV.cells,intOf,Q21,Q23,jV,jP,g0,g0',n1,n2,n3,Qm,jF,g1,g1',j0,hU,q9,q7,qq]<;>first|omega|(split<;>omega)|trace_state
   |x2::y2::rr,hr =>
    obtain⟨g2,g2'⟩:=get 2 x2 rfl;obtain⟨g3,g3'⟩:=get 3 y2 rfl;have g7:=hUn x2 y2;obtain⟨m,hm⟩:=exq ((rr.length:Int):Int);have jF:(b.length:Int)=at_+(4+m):=by simp only[List.length_cons]at qI;omega
    have jI:Q43 big (x::y::x2::y2::rr)=if(55296<=Q16 big x y/\Q16 big x y<56320)/\(56320<=Q16 big x2 y2/\Q16 big x2 y2<57344)then(65536+(Q16 big x y-55296) * 1024+(Q16 big x2 y2-56320),4)else(if 55296<=Q16 big x y/\Q16 big x y<57344 then(-1,2)else(Q16 big x y,2)):=rfl;have k6:=Q9X big x2 y2
    have qm:Q5q .andNot .i32 (Q16 big x2 y2) 1023=Q16 big x2 y2 / 1024 * 1024:=by
     have:=Qjy (Q16 big x2 y2).toNat (by omega)
     rw[Int.toNat_of_nonneg k6.1]at this;rw[this];omega
    have hand:Q5q .and .i32 (Q16 big x2 y2) 1023=Q16 big x2 y2 % 1024:=by
     have:=Qko (Q16 big x2 y2).toNat (by omega)
     rw[Int.toNat_of_nonneg k6.1]at this;rw[this];omega
    obtain⟨u,hu⟩:=exq (Q16 big x y);obtain⟨u2,xk⟩:=exq (Q16 big x2 y2);have j0:=hu.symm;have yS:=xk.symm;rw[<-hu]at jI hU cM;rw[<-xk]at jI g7 k6 qm hand;have qF:¬(4+m<4):=by omega
    have qL:¬(4+m<2):=by omega
    by_cases hh:55296<=u/\u<56320
    ·by_cases hl:56320<=u2/\u2<57344
     ·rw[if_pos ⟨hh,hl⟩]at jI
      have jM:=Q2C q8 qU (hr ▸ js) jb hr (by simp) jI
      have yw:u2 / 1024 * 1024=56320:=by omega
      have yn:u2 % 1024=u2-56320:=by omega
      have v7:QgQ .i32 (u-55296) 10=(u-55296) * 1024:=by
       show IntKind.wrap .i32 ((u-55296) * 2 ^ min (10:Int).toNat 32)=_;rw[show(2:Int) ^ min (10:Int).toNat 32=1024 from rfl];exact Q5Y _ (by omega) (by omega)
      rw[yw]at qm;rw[yn]at hand;obtain⟨vg,g8⟩:=hh
      repeat' first
       |(with_reducible refine And.intro (fun hx=>absurd hx (by first|(try simp[std,S1,jV,jP,g0,g0',n1,n2,n3,Qm,jF,g1,g1',g2,g2',g3,g3',j0,yS,hU,g7,qm,hand,v7,qF,qL,vg,g8])<;>omega|omega)) (fun _=>?_))
       |(with_reducible refine And.intro (fun _=>?_) (fun hx=>absurd hx (by first|(try simp[std,S1,jV,jP,g0,g0',n1,n2,n3,Qm,jF,g1,g1',g2,g2',g3,g3',j0,yS,hU,g7,qm,hand,v7,qF,qL,vg,g8])<;>omega|omega)))
       |(with_reducible refine And.intro (by first|(try simp[std,S1,jV,jP,g0,g0',n1,n2,n3,Qm,jF,g1,g1',g2,g2',g3,g3',j0,yS,hU,g7,qm,hand,v7,qF,qL,vg,g8])<;>omega|omega) ?_)
       |(with_reducible refine And.intro ?_ ?_)
       |(with_reducible intro hb)
      all_goals
       refine⟨(out++[⟨65536+(u-55296) * 1024+(u2-56320),at_,4⟩],at_+4),⟨jM.1,jM.2.1,jM.2.2.1,jM.2.2.2.1⟩,jM.2.2.2.2,[some 0],_,rfl,?_⟩;simp[Qf,lk,std,AV.cells,intOf,Q21,Q23,jV,jP,g0,g0',n1,n2,n3,Qm,jF,g1,g1',g2,g2',g3,g3',j0,yS,hU,g7,qm,hand,v7,qF,qL,vg,g8]<;>first|omega|(split<;>omega)|trace_state
     ·rw[if_neg (fun h=>hl h.2),if_pos ⟨hh.1,by omega⟩]at jI
      have jM:=Q2C q8 qU (hr ▸ js) jb hr (by simp) jI
      have yw:¬u2 / 1024 * 1024=56320:=by omega
      obtain⟨vg,g8⟩:=hh;have p7:u<57344:=by omega
      repeat' first
       |(with_reducible refine And.intro (fun hx=>absurd hx (by first|(try simp[std,S1,jV,jP,g0,g0',n1,n2,n3,Qm,jF,g1,g1',g2,g2',g3,g3',j0,yS,hU,g7,qm,yw,qF,qL,vg,g8,p7])<;>omega|omega)) (fun _=>?_))
       |(with_reducible refine And.intro (fun _=>?_) (fun hx=>absurd hx (by first|(try simp[std,S1,jV,jP,g0,g0',n1,n2,n3,Qm,jF,g1,g1',g2,g2',g3,g3',j0,yS,hU,g7,qm,yw,qF,qL,vg,g8,p7])<;>omega|omega)))
       |(with_reducible refine And.intro (by first|(try simp[std,S1,jV,jP,g0,g0',n1,n2,n3,Qm,jF,g1,g1',g2,g2',g3,g3',j0,yS,hU,g7,qm,yw,qF,qL,vg,g8,p7])<;>omega|omega) ?_)
       |(with_reducible refine And.intro ?_ ?_)
       |(with_reducible intro hb)
      all_goals
       refine⟨(out++[⟨-1,at_,2⟩],at_+2),⟨jM.1,jM.2.1,jM.2.2.1,jM.2.2.2.1⟩,jM.2.2.2.2,[some 0],_,rfl,?_⟩;simp[Qf,lk,std,AV.cells,intOf,Q21,Q23,jV,jP,g0,g0',n1,n2,n3,Qm,jF,g1,g1',g2,g2',g3,g3',j0,yS,hU,g7,qm,yw,qF,qL,vg,g8,p7]<;>first|omega|(split<;>omega)|trace_state
    ·rw[if_neg (fun h=>hh h.1)]at jI
     by_cases h1:55296<=u/\u<57344
     ·rw[if_pos h1]at jI
      have jM:=Q2C q8 qU (hr ▸ js) jb hr (by simp) jI
      have vg:¬u<56320:=by omega
      obtain⟨q9,q7⟩:=h1
      repeat' first
       |(with_reducible refine And.intro (fun hx=>absurd hx (by first|(try simp[std,S1,jV,jP,g0,g0',n1,n2,n3,Qm,jF,g1,g1',j0,hU,qF,qL,vg,q9,q7])<;>omega|omega)) (fun _=>?_))
       |(with_reducible refine And.intro (fun _=>?_) (fun hx=>absurd hx (by first|(try simp[std,S1,jV,jP,g0,g0',n1,n2,n3,Qm,jF,g1,g1',j0,hU,qF,qL,vg,q9,q7])<;>omega|omega)))
       |(with_reducible refine And.intro (by first|(try simp[std,S1,jV,jP,g0,g0',n1,n2,n3,Qm,jF,g1,g1',j0,hU,qF,qL,vg,q9,q7])<;>omega|omega) ?_)
       |(with_reducible refine And.intro ?_ ?_)
       |(with_reducible intro hb)
      all_goals
       refine⟨(out++[⟨-1,at_,2⟩],at_+2),⟨jM.1,jM.2.1,jM.2.2.1,jM.2.2.2.1⟩,jM.2.2.2.2,[some 0],_,rfl,?_⟩;simp[Qf,lk,std,AV.cells,intOf,Q21,Q23,jV,jP,g0,g0',n1,n2,n3,Qm,jF,g1,g1',j0,hU,qF,qL,vg,q9,q7]<;>first|omega|(split<;>omega)|trace_state
     ·rw[if_neg h1]at jI
      have jM:=Q2C q8 qU (hr ▸ js) jb hr (by simp) jI
      rcases(by omega:u<55296\/55296<=u)with q9|q9
      ·have qq:¬55296<=u:=by omega
       repeat' first
        |(with_reducible refine And.intro (fun hx=>absurd hx (by first|(try simp[std,S1,jV,jP,g0,g0',n1,n2,n3,Qm,jF,g1,g1',j0,hU,qF,qL,qq])<;>omega|omega)) (fun _=>?_))
        |(with_reducible refine And.intro (fun _=>?_) (fun hx=>absurd hx (by first|(try simp[std,S1,jV,jP,g0,g0',n1,n2,n3,Qm,jF,g1,g1',j0,hU,qF,qL,qq])<;>omega|omega)))
        |(with_reducible refine And.intro (by first|(try simp[std,S1,jV,jP,g0,g0',n1,n2,n3,Qm,jF,g1,g1',j0,hU,qF,qL,qq])<;>omega|omega) ?_)
        |(with_reducible refine And.intro ?_ ?_)
        |(with_reducible intro hb)
       all_goals
        refine⟨(out++[⟨u,at_,2⟩],at_+2),⟨jM.1,jM.2.1,jM.2.2.1,jM.2.2.2.1⟩,jM.2.2.2.2,[some 0],_,rfl,?_⟩;simp[Qf,lk,std,AV.cells,intOf,Q21,Q23,jV,jP,g0,g0',n1,n2,n3,Qm,jF,g1,g1',j0,hU,qF,qL,qq]<;>first|omega|(split<;>omega)|trace_state
      ·have q7:¬u<57344:=by omega
       have qq:¬u<56320:=by omega
       repeat' first
        |(with_reducible refine And.intro (fun hx=>absurd hx (by first|(try simp[std,S1,jV,jP,g0,g0',n1,n2,n3,Qm,jF,g1,g1',j0,hU,qF,qL,q9,q7,qq])<;>omega|omega)) (fun _=>?_))
        |(with_reducible refine And.intro (fun _=>?_) (fun hx=>absurd hx (by first|(try simp[std,S1,jV,jP,g0,g0',n1,n2,n3,Qm,jF,g1,g1',j0,hU,qF,qL,q9,q7,qq])<;>omega|omega)))
        |(with_reducible refine And.intro (by first|(try simp[std,S1,jV,jP,g0,g0',n1,n2,n3,Qm,jF,g1,g1',j0,hU,qF,qL,q9,q7,qq])<;>omega|omega) ?_)
        |(with_reducible refine And.intro ?_ ?_)
        |(with_reducible intro hb)
       all_goals
        refine⟨(out++[⟨u,at_,2⟩],at_+2),⟨jM.1,jM.2.1,jM.2.2.1,jM.2.2.2.1⟩,jM.2.2.2.2,[some 0],_,rfl,?_⟩;simp[Qf,lk,std,AV.cells,intOf,Q21,Q23,jV,jP,g0,g0',n1,n2,n3,Qm,jF,g1,g1',j0,hU,qF,qL,q9,q7,qq]<;>first|omega|(split<;>omega)|trace_state
