/- Lemmas, conditions told -/
import Derived.Test.YtnlbhaeimmenoaaGreatG09
set_option maxRecDepth 99999
set_option maxHeartbeats 0
set_option linter.unusedSimpArgs false
set_option linter.unusedVariables false
namespace Go.Proofs.YtnlbhaeimmenoaaGreat
open Go.RowKit Go.Lib
section
open Tryz
theorem Q6B(n:Nat)(h:n<2 ^ 32):(BitVec.ofInt 32 (n:Int)).toNat=n:=by
 rw[BitVec.toNat_ofInt];omega
theorem Q5p(n:Int)(h0:-2147483648<=n)(h1:n<=2147483647):IntKind.wrap .i32 n=n:=Q43 .i32 n ⟨h0,h1⟩
theorem Qh5(a b:Nat)(ha:a<256)(hb:b<256):Q65 .or .i32 ((a:Int) * 256) b=a * 256+b:=by
 have h1:((a:Int) * 256)=((a * 256:Nat):Int):=by omega
 have h2:(a * 256 ||| b:Nat)=a * 256+b:=by
  have:=Nat.two_pow_add_eq_or_of_lt (i:=8) (b:=b) (by omega) a
  rw[Nat.mul_comm a 256,<-this]
 show IntKind.wrap .i32 (((BitVec.ofInt 32 ((a:Int) * 256)) ||| (BitVec.ofInt 32 (b:Int))).toNat:Int)=_
 rw[BitVec.toNat_or,h1,Q6B _ (by omega),Q6B _ (by omega),h2,Q5p _ (by omega) (by omega)]
 omega
theorem QmC(u:Nat)(h:u<65536):Q65 .and .i32 (u:Int) 1023=(u % 1024:Nat):=by
 show IntKind.wrap .i32 (((BitVec.ofInt 32 (u:Int)) &&& (BitVec.ofInt 32 1023)).toNat:Int)=_;rw[BitVec.toNat_and,Q6B _ (by omega),show(BitVec.ofInt 32 1023).toNat=2 ^ 10-1 from rfl,Nat.and_two_pow_sub_one_eq_mod,Q5p _ (by omega) (by omega)]
theorem Qk9:∀r,r<1024->r &&& 4294966272=0:=by decide
theorem Qit:∀q,q<64->(2 ^ 10 * q) &&& 4294966272=2 ^ 10 * q:=by decide
theorem Qmz(u:Nat)(h:u<65536):Q65 .andNot .i32 (u:Int) 1023=(u / 1024 * 1024:Nat):=by
 show IntKind.wrap .i32 (((BitVec.ofInt 32 (u:Int)) &&& ~~~ (BitVec.ofInt 32 1023)).toNat:Int)=_
 have h1:(u &&& 4294966272:Nat)=u / 1024 * 1024:=by
  have h2:2 ^ 10 * (u / 1024) ||| (u % 1024)=u:=by
   rw[<-Nat.two_pow_add_eq_or_of_lt (i:=10) (b:=u % 1024) (by omega) (u / 1024)]
   omega
  have h3:=Qk9 (u % 1024) (by omega)
  have h4:=Qit (u / 1024) (by omega)
  have h5:(2 ^ 10 * (u / 1024) ||| (u % 1024)) &&& 4294966272=u / 1024 * 1024:=by
   rw[Nat.and_or_distrib_right,h3,h4,Nat.or_zero];omega
  rw[h2]at h5;exact h5
 rw[BitVec.toNat_and,Q6B _ (by omega),show(~~~ (BitVec.ofInt 32 1023)).toNat=4294966272 from rfl,h1,Q5p _ (by omega) (by omega)]
def Q1b(big:Bool)(x y:UInt8):Int:=if big then x.toNat * 256+y.toNat else y.toNat * 256+x.toNat
theorem Q6F(x:UInt8):std.wrap .i32 (x.toNat:Int)=x.toNat:=Q5p _ (by omega) (by have:=x.toNat_lt;omega)
theorem Qea(x:UInt8):QjR .i32 (x.toNat:Int) 8=(x.toNat:Int) * 256:=by
 show IntKind.wrap .i32 ((x.toNat:Int) * 2 ^ min (8:Int).toNat 32)=_;rw[show(2:Int) ^ min (8:Int).toNat 32=256 from rfl];have:=x.toNat_lt
 exact Q5p _ (by omega) (by omega)
theorem Qoo(x y:UInt8):BCall prog 146 [Q64 x,Q64 y] [] (.val (.int .i32 (Q1b true x y))) []:=by
 unfold Q64;refine fnN (cs0) func146 rfl fun _ _=>?_
 with_reducible refine cv2 ((x.toNat:Int)) ((y.toNat:Int)) ?_
 refine⟨by simp[std],.pure rfl (.inl ?_)⟩
 show AV.val (.int .i32 (Q65 .or .i32 (QjR .i32 (std.wrap .i32 (x.toNat:Int)) 8) (std.wrap .i32 (y.toNat:Int))))=_;rw[Q6F,Q6F,Qea,Qh5 _ _ x.toNat_lt y.toNat_lt];rfl
theorem Qnj(x y:UInt8):BCall prog 147 [Q64 x,Q64 y] [] (.val (.int .i32 (Q1b false x y))) []:=by
 unfold Q64;refine fnN (cs0) func147 rfl fun _ _=>?_
 with_reducible refine cv2 ((x.toNat:Int)) ((y.toNat:Int)) ?_
 refine⟨by simp[std],.pure rfl (.inl ?_)⟩
 show AV.val (.int .i32 (Q65 .or .i32 (QjR .i32 (std.wrap .i32 (y.toNat:Int)) 8) (std.wrap .i32 (x.toNat:Int))))=_;rw[Q6F,Q6F,Qea,Qh5 _ _ y.toNat_lt x.toNat_lt];rfl
theorem QnJ(big:Bool):BCall prog 128 [.val (.bool big)] [] (.val (.func (.func (if big then 146 else 147)) #[] #[])) []:=by
 refine fnN (cs0) func128 rfl fun _ _=>?_
 with_reducible refine cv0 ?_
 exact⟨fun h=>.pure rfl (.inl (by rw[h];rfl)),fun h=>.pure rfl (.inl (by rw[h];rfl))⟩
structure Itm where
 r:Int
 off:Int
 n:Int
 deriving Inhabited
def Itm.av(x:Itm):AV:=.agg [.val (.int .i32 x.r),.val (.int .i64 x.off),.val (.int .i64 x.n)]
def QM(l:List Itm):List AV:=l.map Itm.av
theorem Q3o(l:List Itm):(QM l).length=l.length:=by simp[QM]
theorem Q1B(a b:List Itm):QM (a++b)=QM a++QM b:=by simp[QM]
theorem Q1A(x:Itm):QM [x]=[.agg [.val (.int .i32 x.r),.val (.int .i64 x.off),.val (.int .i64 x.n)]]:=rfl
def Q1d(big:Bool)(l:List UInt8):Int×Int:=match l with
 | []=>(-1,0)
 | [_]=>(-1,1)
 |x::y::r =>
  let u:=Q1b big x y
  let one:Int×Int:=if 55296<=u/\u<57344 then(-1,2)else(u,2)
  match r with
  |x2::y2::_=>if(55296<=u/\u<56320)/\(56320<=Q1b big x2 y2/\Q1b big x2 y2<57344)then(65536+(u-55296) * 1024+(Q1b big x2 y2-56320),4)else one
  |_=>one
theorem Q6L(big:Bool)(l:List UInt8)(h:l≠[]):1<=(Q1d big l).2/\(Q1d big l).2<=l.length:=by
 unfold Q1d;match l,h with
 | [_],_=>simp
 | [x,y],_=>simp only;split<;>simp
 | [x,y,z],_=>simp only;split<;>simp
 |x::y::x2::y2::r,_=>simp only;split<;>(try split)<;>simp<;>omega
def Q1n(big:Bool)(off:Int)(l:List UInt8):List Itm :=
 if h:l=[]then []else⟨(Q1d big l).1,off,(Q1d big l).2⟩::Q1n big (off+(Q1d big l).2) (l.drop (Q1d big l).2.toNat)
termination_by l.length
decreasing_by
 have:=Q6L big l h
 simp only[List.length_drop];omega
theorem Q2Z(big:Bool)(x y:UInt8):0<=Q1b big x y/\Q1b big x y<65536:=by
 have:=x.toNat_lt
 have:=y.toNat_lt
 unfold Q1b;split<;>omega
theorem Qpu(big:Bool)(x y:UInt8):BCall prog (if big then 146 else 147) [Q64 x,Q64 y] [] (.val (.int .i32 (Q1b big x y))) []:=by
 cases big
 ·exact Qnj x y
 ·exact Qoo x y
def csW(g:Nat)(unit:AV->AV->Int):Nat->List AV->List Ob->Option (AV×List Ob):=fun _ args _=>match args with
 | [.val (.bool _)]=>some (.val (.func (.func g) #[] #[]),[])
 | [.val (.int .u8 x),.val (.int .u8 y)]=>some (.val (.int .i32 (unit (.val (.int .u8 x)) (.val (.int .u8 y)))),[])
 |_=>none
def QaR(big:Bool)(x y:AV):Int:=Q1b big (Q2V x) (Q2V y)
theorem Qw(big:Bool)(x y:UInt8):QaR big (.val (.int .u8 (x.toNat:Int))) (.val (.int .u8 (y.toNat:Int)))=Q1b big x y:=by
 simp[QaR,Q2V]
theorem Q2I{big:Bool}{b:List UInt8}{out:List Itm}{a R n:Int}(h0:0<=a)(h1:a.toNat<=b.length)(h2:out++Q1n big a (b.drop a.toNat)=Q1n big 0 b)(h3:out.length<=a.toNat){r:List UInt8}(hr:b.drop a.toNat=r)(jI:r≠[])(hs:Q1d big r=(R,n)) :
  0<=a+n/\(a+n).toNat<=b.length/\out++[⟨R,a,n⟩]++Q1n big (a+n) (b.drop (a+n).toNat)=Q1n big 0 b/\(out++[(⟨R,a,n⟩:Itm)]).length<=(a+n).toNat/\b.length-(a+n).toNat<b.length-a.toNat:=by
 have h4:=Q6L big r jI;rw[hs]at h4;simp only at h4
 have h5:r.length=b.length-a.toNat:=by rw[<-hr,List.length_drop]
 refine⟨by omega,by omega,?_,by simp;omega,by omega⟩
 have e:Q1n big a r=⟨R,a,n⟩::Q1n big (a+n) (r.drop n.toNat):=by
  rw[Q1n,dif_neg jI,hs]
 rw[<-h2,hr,e,<-hr,List.drop_drop,show(a+n).toNat=a.toNat+n.toNat by omega]
 simp
theorem QkV(big:Bool)(b:List UInt8)(hb:b.length<=1000000000):BCall prog 94 [.slc 1 (Q4 b),.val (.bool big)] [] (.slc 3 (QM (Q1n big 0 b))) []:=by
 obtain⟨g,hg⟩:=exq (if big then 146 else 147);have hUs:BCall prog 128 [.val (.bool big)] [] (.val (.func (.func g) #[] #[])) []:=by rw[hg];exact QnJ big
 have hUn:∀x y:UInt8,BCall prog g [.val (.int .u8 (x.toNat:Int)),.val (.int .u8 (y.toNat:Int))] [] (.val (.int .i32 (Q1b big x y))) []:=fun x y=>by rw[hg];exact Qpu big x y
 clear hg;refine fnN (csW g (QaR big)) func94 rfl fun _ _=>?_
 with_reducible refine cv2 (QaR big) (Q4 b) ?_
 refine⟨hUs,?_⟩;refine Q1h (csW g (QaR big)) (List Itm×Int) (fun x=>⟨[(0,.slc 1 (Q4 b)),(5,.row 0 0),(6,.val (.func (.func g) #[] #[])),(7,.val (.int .i64 x.2))],[.row 116 3 false 0 (QM x.1)]⟩) (fun x=>0<=x.2/\x.2.toNat<=b.length/\x.1++Q1n big x.2 (b.drop x.2.toNat)=Q1n big 0 b/\x.1.length<=x.2.toNat) (fun x=>b.length-x.2.toNat) ([],0) ?_ ?_ ?_
 ·simp
 ·exact⟨[none],_,rfl,by simp[Qm,lk,QM]⟩
 ·rintro⟨out,at_⟩ ⟨js,jj,j6,j2⟩
  simp only at js jj j6 j2
  with_reducible refine cv3 (QaR big) (Q4 b) (QM out) ?_
  have jW:=Q1c b;have qB:(b.drop at_.toNat).length=b.length-at_.toNat:=List.length_drop;have zM:∀j:Nat,b[at_.toNat+j]?=(b.drop at_.toNat)[j]?:=fun j=>by rw[List.getElem?_drop]
  have get:∀(j:Nat)(x:UInt8),(b.drop at_.toNat)[j]?=some x->(Q4 b)[at_.toNat+j]?.getD .dead=.val (.int .u8 x.toNat)/\∀h:at_.toNat+j<(Q4 b).length,(Q4 b)[at_.toNat+j]'h=.val (.int .u8 x.toNat):=fun j x hx=>by
   rw[<-zM]at hx;have h1:(Q4 b)[at_.toNat+j]?=some (.val (.int .u8 x.toNat)):=by simp[Q4,hx,Q64]
   exact⟨by rw[h1];rfl,fun h=>by rw[List.getElem?_eq_getElem h]at h1;exact Option.some.inj h1⟩
  have n1:(at_+1).toNat=at_.toNat+1:=by omega
  have n2:(at_+2).toNat=at_.toNat+2:=by omega
  have n3:(at_+2+1).toNat=at_.toNat+3:=by omega
  generalize hr:b.drop at_.toNat=r at zM get qB j6;match r,hr with
  | [],hr =>
   simp only[List.length_nil]at qB;with_reducible repeat' first|refine aU jW ?_|refine And.intro ?_ ?_|intro hb
   rw[if_pos trivial];with_reducible refine cv3 (QaR big) (Q4 b) (QM out) ?_
   refine .pure rfl (.inl ?_);rw[<-j6,Q1n,dif_pos rfl,List.append_nil]
  | [x],hr =>
   simp only[List.length_singleton]at qB;obtain⟨g0,g0'⟩:=get 0 x rfl;rw[Nat.add_zero]at g0 g0';have jJ:(b.length:Int)=at_+1:=by omega
   have jR:=Q3o out;have jM:=Q2I (r:=[x]) js jj (hr ▸ j6) j2 hr (by simp) (R:=-1) (n:=1) rfl
   repeat' first
    |(with_reducible refine And.intro (fun hx=>absurd hx (by first|(try simp[std,S1,jW,jR,g0,g0',n1,n2,n3,Qw,jJ])<;>omega|omega)) (fun _=>?_))
    |(with_reducible refine And.intro (fun _=>?_) (fun hx=>absurd hx (by first|(try simp[std,S1,jW,jR,g0,g0',n1,n2,n3,Qw,jJ])<;>omega|omega)))
    |(with_reducible refine And.intro (by first|(try simp[std,S1,jW,jR,g0,g0',n1,n2,n3,Qw,jJ])<;>omega|omega) ?_)
    |(with_reducible refine And.intro ?_ ?_)
    |(with_reducible intro hb)
   all_goals
    refine⟨(out++[⟨-1,at_,1⟩],at_+1),⟨jM.1,jM.2.1,jM.2.2.1,jM.2.2.2.1⟩,jM.2.2.2.2,[some 0],_,rfl,?_⟩;simp[Qm,lk,std,AV.cells,RowKit.intOf,Q1B,Q1A,jW,jR,g0,g0',n1,n2,n3,Qw,jJ]<;>first|omega|(split<;>omega)|trace_state
  |x::y::r,hr =>
   obtain⟨g0,g0'⟩:=get 0 x rfl;obtain⟨g1,g1'⟩:=get 1 y rfl;rw[Nat.add_zero]at g0 g0';have hU:=hUn x y;have jR:=Q3o out;have cY:=Q2Z big x y;simp only[List.length_cons]at qB;match r,hr with
   | [],hr =>
    have jJ:(b.length:Int)=at_+2:=by simp only[List.length_nil,List.length_singleton]at qB;omega
    have jG:Q1d big [x,y]=(if 55296<=Q1b big x y/\Q1b big x y<57344 then(-1,2)else(Q1b big x y,2)):=rfl;obtain⟨u,hu⟩:=exq (Q1b big x y);have ja:=hu.symm;rw[<-hu]at jG hU cY;by_cases h1:55296<=u/\u<57344
    ·rw[if_pos h1]at jG
     have jM:=Q2I (r:=[x,y]) js jj (hr ▸ j6) j2 hr (by simp) jG
     obtain⟨qt,qp⟩:=h1
     repeat' first
      |(with_reducible refine And.intro (fun hx=>absurd hx (by first|(try simp[std,S1,jW,jR,g0,g0',n1,n2,n3,Qw,jJ,g1,g1',ja,hU,qt,qp])<;>omega|omega)) (fun _=>?_))
      |(with_reducible refine And.intro (fun _=>?_) (fun hx=>absurd hx (by first|(try simp[std,S1,jW,jR,g0,g0',n1,n2,n3,Qw,jJ,g1,g1',ja,hU,qt,qp])<;>omega|omega)))
      |(with_reducible refine And.intro (by first|(try simp[std,S1,jW,jR,g0,g0',n1,n2,n3,Qw,jJ,g1,g1',ja,hU,qt,qp])<;>omega|omega) ?_)
      |(with_reducible refine And.intro ?_ ?_)
      |(with_reducible intro hb)
     all_goals
      refine⟨(out++[⟨-1,at_,2⟩],at_+2),⟨jM.1,jM.2.1,jM.2.2.1,jM.2.2.2.1⟩,jM.2.2.2.2,[some 0],_,rfl,?_⟩;simp[Qm,lk,std,AV.cells,RowKit.intOf,Q1B,Q1A,jW,jR,g0,g0',n1,n2,n3,Qw,jJ,g1,g1',ja,hU,qt,qp]<;>first|omega|(split<;>omega)|trace_state
    ·rw[if_neg h1]at jG
     have jM:=Q2I (r:=[x,y]) js jj (hr ▸ j6) j2 hr (by simp) jG
     rcases(by omega:u<55296\/55296<=u)with qt|qt
     ·have vD:¬55296<=u:=by omega
      repeat' first
       |(with_reducible refine And.intro (fun hx=>absurd hx (by first|(try simp[std,S1,jW,jR,g0,g0',n1,n2,n3,Qw,jJ,g1,g1',ja,hU,vD])<;>omega|omega)) (fun _=>?_))
       |(with_reducible refine And.intro (fun _=>?_) (fun hx=>absurd hx (by first|(try simp[std,S1,jW,jR,g0,g0',n1,n2,n3,Qw,jJ,g1,g1',ja,hU,vD])<;>omega|omega)))
       |(with_reducible refine And.intro (by first|(try simp[std,S1,jW,jR,g0,g0',n1,n2,n3,Qw,jJ,g1,g1',ja,hU,vD])<;>omega|omega) ?_)
       |(with_reducible refine And.intro ?_ ?_)
       |(with_reducible intro hb)
      all_goals
       refine⟨(out++[⟨u,at_,2⟩],at_+2),⟨jM.1,jM.2.1,jM.2.2.1,jM.2.2.2.1⟩,jM.2.2.2.2,[some 0],_,rfl,?_⟩;simp[Qm,lk,std,AV.cells,RowKit.intOf,Q1B,Q1A,jW,jR,g0,g0',n1,n2,n3,Qw,jJ,g1,g1',ja,hU,vD]<;>first|omega|(split<;>omega)|trace_state
     ·have qp:¬u<57344:=by omega
      have vD:¬u<56320:=by omega
      repeat' first
       |(with_reducible refine And.intro (fun hx=>absurd hx (by first|(try simp[std,S1,jW,jR,g0,g0',n1,n2,n3,Qw,jJ,g1,g1',ja,hU,qt,qp,vD])<;>omega|omega)) (fun _=>?_))
       |(with_reducible refine And.intro (fun _=>?_) (fun hx=>absurd hx (by first|(try simp[std,S1,jW,jR,g0,g0',n1,n2,n3,Qw,jJ,g1,g1',ja,hU,qt,qp,vD])<;>omega|omega)))
       |(with_reducible refine And.intro (by first|(try simp[std,S1,jW,jR,g0,g0',n1,n2,n3,Qw,jJ,g1,g1',ja,hU,qt,qp,vD])<;>omega|omega) ?_)
       |(with_reducible refine And.intro ?_ ?_)
       |(with_reducible intro hb)
      all_goals
       refine⟨(out++[⟨u,at_,2⟩],at_+2),⟨jM.1,jM.2.1,jM.2.2.1,jM.2.2.2.1⟩,jM.2.2.2.2,[some 0],_,rfl,?_⟩;simp[Qm,lk,std,AV.cells,RowKit.intOf,Q1B,Q1A,jW,jR,g0,g0',n1,n2,n3,Qw,jJ,g1,g1',ja,hU,qt,qp,vD]<;>first|omega|(split<;>omega)|trace_state
   | [z],hr =>
    have jJ:(b.length:Int)=at_+3:=by simp only[List.length_nil,List.length_singleton]at qB;omega
    have jG:Q1d big [x,y,z]=(if 55296<=Q1b big x y/\Q1b big x y<57344 then(-1,2)else(Q1b big x y,2)):=rfl;obtain⟨u,hu⟩:=exq (Q1b big x y);have ja:=hu.symm;rw[<-hu]at jG hU cY;by_cases h1:55296<=u/\u<57344
    ·rw[if_pos h1]at jG
     have jM:=Q2I (r:=[x,y,z]) js jj (hr ▸ j6) j2 hr (by simp) jG
     obtain⟨qt,qp⟩:=h1
     repeat' first
      |(with_reducible refine And.intro (fun hx=>absurd hx (by first|(try simp[std,S1,jW,jR,g0,g0',n1,n2,n3,Qw,jJ,g1,g1',ja,hU,qt,qp])<;>omega|omega)) (fun _=>?_))
      |(with_reducible refine And.intro (fun _=>?_) (fun hx=>absurd hx (by first|(try simp[std,S1,jW,jR,g0,g0',n1,n2,n3,Qw,jJ,g1,g1',ja,hU,qt,qp])<;>omega|omega)))
      |(with_reducible refine And.intro (by first|(try simp[std,S1,jW,jR,g0,g0',n1,n2,n3,Qw,jJ,g1,g1',ja,hU,qt,qp])<;>omega|omega) ?_)
      |(with_reducible refine And.intro ?_ ?_)
      |(with_reducible intro hb)
     all_goals
      refine⟨(out++[⟨-1,at_,2⟩],at_+2),⟨jM.1,jM.2.1,jM.2.2.1,jM.2.2.2.1⟩,jM.2.2.2.2,[some 0],_,rfl,?_⟩;simp[Qm,lk,std,AV.cells,RowKit.intOf,Q1B,Q1A,jW,jR,g0,g0',n1,n2,n3,Qw,jJ,g1,g1',ja,hU,qt,qp]<;>first|omega|(split<;>omega)|trace_state
    ·rw[if_neg h1]at jG
     have jM:=Q2I (r:=[x,y,z]) js jj (hr ▸ j6) j2 hr (by simp) jG
     rcases(by omega:u<55296\/55296<=u)with qt|qt
     ·have vD:¬55296<=u:=by omega
      repeat' first
       |(with_reducible refine And.intro (fun hx=>absurd hx (by first|(try simp[std,S1,jW,jR,g0,g0',n1,n2,n3,Qw,jJ,g1,g1',ja,hU,vD])<;>omega|omega)) (fun _=>?_))
       |(with_reducible refine And.intro (fun _=>?_) (fun hx=>absurd hx (by first|(try simp[std,S1,jW,jR,g0,g0',n1,n2,n3,Qw,jJ,g1,g1',ja,hU,vD])<;>omega|omega)))
       |(with_reducible refine And.intro (by first|(try simp[std,S1,jW,jR,g0,g0',n1,n2,n3,Qw,jJ,g1,g1',ja,hU,vD])<;>omega|omega) ?_)
       |(with_reducible refine And.intro ?_ ?_)
       |(with_reducible intro hb)
      all_goals
       refine⟨(out++[⟨u,at_,2⟩],at_+2),⟨jM.1,jM.2.1,jM.2.2.1,jM.2.2.2.1⟩,jM.2.2.2.2,[some 0],_,rfl,?_⟩;simp[Qm,lk,std,AV.cells,RowKit.intOf,Q1B,Q1A,jW,jR,g0,g0',n1,n2,n3,Qw,jJ,g1,g1',ja,hU,vD]<;>first|omega|(split<;>omega)|trace_state
     ·have qp:¬u<57344:=by omega
      have vD:¬u<56320:=by omega
      repeat' first
       |(with_reducible refine And.intro (fun hx=>absurd hx (by first|(try simp[std,S1,jW,jR,g0,g0',n1,n2,n3,Qw,jJ,g1,g1',ja,hU,qt,qp,vD])<;>omega|omega)) (fun _=>?_))
       |(with_reducible refine And.intro (fun _=>?_) (fun hx=>absurd hx (by first|(try simp[std,S1,jW,jR,g0,g0',n1,n2,n3,Qw,jJ,g1,g1',ja,hU,qt,qp,vD])<;>omega|omega)))
       |(with_reducible refine And.intro (by first|(try simp[std,S1,jW,jR,g0,g0',n1,n2,n3,Qw,jJ,g1,g1',ja,hU,qt,qp,vD])<;>omega|omega) ?_)
       |(with_reducible refine And.intro ?_ ?_)
       |(with_reducible intro hb)
      all_goals
       refine⟨(out++[⟨u,at_,2⟩],at_+2),⟨jM.1,jM.2.1,jM.2.2.1,jM.2.2.2.1⟩,jM.2.2.2.2,[some 0],_,rfl,?_⟩;simp[Qm,lk,std,AV.cells,RowKit.intOf,Q1B,Q1A,jW,jR,g0,g0',n1,n2,n3,Qw,jJ,g1,g1',ja,hU,qt,qp,vD]<;>first|omega|(split<;>omega)|trace_state
   |x2::y2::rr,hr =>
    obtain⟨g2,g2'⟩:=get 2 x2 rfl;obtain⟨g3,g3'⟩:=get 3 y2 rfl;have vo:=hUn x2 y2;obtain⟨m,hm⟩:=exq ((rr.length:Int):Int);have jJ:(b.length:Int)=at_+(4+m):=by simp only[List.length_cons]at qB;omega
    have jG:Q1d big (x::y::x2::y2::rr)=if(55296<=Q1b big x y/\Q1b big x y<56320)/\(56320<=Q1b big x2 y2/\Q1b big x2 y2<57344)then(65536+(Q1b big x y-55296) * 1024+(Q1b big x2 y2-56320),4)else(if 55296<=Q1b big x y/\Q1b big x y<57344 then(-1,2)else(Q1b big x y,2)):=rfl;have xM:=Q2Z big x2 y2
    have vA:Q65 .andNot .i32 (Q1b big x2 y2) 1023=Q1b big x2 y2 / 1024 * 1024:=by
     have:=Qmz (Q1b big x2 y2).toNat (by omega)
     rw[Int.toNat_of_nonneg xM.1]at this;rw[this];omega
    have hand:Q65 .and .i32 (Q1b big x2 y2) 1023=Q1b big x2 y2 % 1024:=by
     have:=QmC (Q1b big x2 y2).toNat (by omega)
     rw[Int.toNat_of_nonneg xM.1]at this;rw[this];omega
    obtain⟨u,hu⟩:=exq (Q1b big x y);obtain⟨u2,hu2⟩:=exq (Q1b big x2 y2);have ja:=hu.symm;have yl:=hu2.symm;rw[<-hu]at jG hU cY;rw[<-hu2]at jG vo xM vA hand;have qU:¬(4+m<4):=by omega
    have q7:¬(4+m<2):=by omega
    by_cases hh:55296<=u/\u<56320
    ·by_cases hl:56320<=u2/\u2<57344
     ·rw[if_pos ⟨hh,hl⟩]at jG
      have jM:=Q2I js jj (hr ▸ j6) j2 hr (by simp) jG
      have yg:u2 / 1024 * 1024=56320:=by omega
      have yI:u2 % 1024=u2-56320:=by omega
      have yE:QjR .i32 (u-55296) 10=(u-55296) * 1024:=by
       show IntKind.wrap .i32 ((u-55296) * 2 ^ min (10:Int).toNat 32)=_;rw[show(2:Int) ^ min (10:Int).toNat 32=1024 from rfl];exact Q5p _ (by omega) (by omega)
      rw[yg]at vA;rw[yI]at hand;obtain⟨z7,cj⟩:=hh
      repeat' first
       |(with_reducible refine And.intro (fun hx=>absurd hx (by first|(try simp[std,S1,jW,jR,g0,g0',n1,n2,n3,Qw,jJ,g1,g1',g2,g2',g3,g3',ja,yl,hU,vo,vA,hand,yE,qU,q7,z7,cj])<;>omega|omega)) (fun _=>?_))
       |(with_reducible refine And.intro (fun _=>?_) (fun hx=>absurd hx (by first|(try simp[std,S1,jW,jR,g0,g0',n1,n2,n3,Qw,jJ,g1,g1',g2,g2',g3,g3',ja,yl,hU,vo,vA,hand,yE,qU,q7,z7,cj])<;>omega|omega)))
       |(with_reducible refine And.intro (by first|(try simp[std,S1,jW,jR,g0,g0',n1,n2,n3,Qw,jJ,g1,g1',g2,g2',g3,g3',ja,yl,hU,vo,vA,hand,yE,qU,q7,z7,cj])<;>omega|omega) ?_)
       |(with_reducible refine And.intro ?_ ?_)
       |(with_reducible intro hb)
      all_goals
       refine⟨(out++[⟨65536+(u-55296) * 1024+(u2-56320),at_,4⟩],at_+4),⟨jM.1,jM.2.1,jM.2.2.1,jM.2.2.2.1⟩,jM.2.2.2.2,[some 0],_,rfl,?_⟩;simp[Qm,lk,std,AV.cells,RowKit.intOf,Q1B,Q1A,jW,jR,g0,g0',n1,n2,n3,Qw,jJ,g1,g1',g2,g2',g3,g3',ja,yl,hU,vo,vA,hand,yE,qU,q7,z7,cj]<;>first|omega|(split<;>omega)|trace_state
     ·rw[if_neg (fun h=>hl h.2),if_pos ⟨hh.1,by omega⟩]at jG
      have jM:=Q2I js jj (hr ▸ j6) j2 hr (by simp) jG
      have yg:¬u2 / 1024 * 1024=56320:=by omega
      obtain⟨z7,cj⟩:=hh;have nW:u<57344:=by omega
      repeat' first
       |(with_reducible refine And.intro (fun hx=>absurd hx (by first|(try simp[std,S1,jW,jR,g0,g0',n1,n2,n3,Qw,jJ,g1,g1',g2,g2',g3,g3',ja,yl,hU,vo,vA,yg,qU,q7,z7,cj,nW])<;>omega|omega)) (fun _=>?_))
       |(with_reducible refine And.intro (fun _=>?_) (fun hx=>absurd hx (by first|(try simp[std,S1,jW,jR,g0,g0',n1,n2,n3,Qw,jJ,g1,g1',g2,g2',g3,g3',ja,yl,hU,vo,vA,yg,qU,q7,z7,cj,nW])<;>omega|omega)))
       |(with_reducible refine And.intro (by first|(try simp[std,S1,jW,jR,g0,g0',n1,n2,n3,Qw,jJ,g1,g1',g2,g2',g3,g3',ja,yl,hU,vo,vA,yg,qU,q7,z7,cj,nW])<;>omega|omega) ?_)
       |(with_reducible refine And.intro ?_ ?_)
       |(with_reducible intro hb)
      all_goals
       refine⟨(out++[⟨-1,at_,2⟩],at_+2),⟨jM.1,jM.2.1,jM.2.2.1,jM.2.2.2.1⟩,jM.2.2.2.2,[some 0],_,rfl,?_⟩;simp[Qm,lk,std,AV.cells,RowKit.intOf,Q1B,Q1A,jW,jR,g0,g0',n1,n2,n3,Qw,jJ,g1,g1',g2,g2',g3,g3',ja,yl,hU,vo,vA,yg,qU,q7,z7,cj,nW]<;>first|omega|(split<;>omega)|trace_state
    ·rw[if_neg (fun h=>hh h.1)]at jG
     by_cases h1:55296<=u/\u<57344
     ·rw[if_pos h1]at jG
      have jM:=Q2I js jj (hr ▸ j6) j2 hr (by simp) jG
      have z7:¬u<56320:=by omega
      obtain⟨qt,qp⟩:=h1
      repeat' first
       |(with_reducible refine And.intro (fun hx=>absurd hx (by first|(try simp[std,S1,jW,jR,g0,g0',n1,n2,n3,Qw,jJ,g1,g1',ja,hU,qU,q7,z7,qt,qp])<;>omega|omega)) (fun _=>?_))
       |(with_reducible refine And.intro (fun _=>?_) (fun hx=>absurd hx (by first|(try simp[std,S1,jW,jR,g0,g0',n1,n2,n3,Qw,jJ,g1,g1',ja,hU,qU,q7,z7,qt,qp])<;>omega|omega)))
       |(with_reducible refine And.intro (by first|(try simp[std,S1,jW,jR,g0,g0',n1,n2,n3,Qw,jJ,g1,g1',ja,hU,qU,q7,z7,qt,qp])<;>omega|omega) ?_)
       |(with_reducible refine And.intro ?_ ?_)
       |(with_reducible intro hb)
      all_goals
       refine⟨(out++[⟨-1,at_,2⟩],at_+2),⟨jM.1,jM.2.1,jM.2.2.1,jM.2.2.2.1⟩,jM.2.2.2.2,[some 0],_,rfl,?_⟩;simp[Qm,lk,std,AV.cells,RowKit.intOf,Q1B,Q1A,jW,jR,g0,g0',n1,n2,n3,Qw,jJ,g1,g1',ja,hU,qU,q7,z7,qt,qp]<;>first|omega|(split<;>omega)|trace_state
     ·rw[if_neg h1]at jG
      have jM:=Q2I js jj (hr ▸ j6) j2 hr (by simp) jG
      rcases(by omega:u<55296\/55296<=u)with qt|qt
      ·have vD:¬55296<=u:=by omega
       repeat' first
        |(with_reducible refine And.intro (fun hx=>absurd hx (by first|(try simp[std,S1,jW,jR,g0,g0',n1,n2,n3,Qw,jJ,g1,g1',ja,hU,qU,q7,vD])<;>omega|omega)) (fun _=>?_))
        |(with_reducible refine And.intro (fun _=>?_) (fun hx=>absurd hx (by first|(try simp[std,S1,jW,jR,g0,g0',n1,n2,n3,Qw,jJ,g1,g1',ja,hU,qU,q7,vD])<;>omega|omega)))
        |(with_reducible refine And.intro (by first|(try simp[std,S1,jW,jR,g0,g0',n1,n2,n3,Qw,jJ,g1,g1',ja,hU,qU,q7,vD])<;>omega|omega) ?_)
        |(with_reducible refine And.intro ?_ ?_)
        |(with_reducible intro hb)
       all_goals
        refine⟨(out++[⟨u,at_,2⟩],at_+2),⟨jM.1,jM.2.1,jM.2.2.1,jM.2.2.2.1⟩,jM.2.2.2.2,[some 0],_,rfl,?_⟩;simp[Qm,lk,std,AV.cells,RowKit.intOf,Q1B,Q1A,jW,jR,g0,g0',n1,n2,n3,Qw,jJ,g1,g1',ja,hU,qU,q7,vD]<;>first|omega|(split<;>omega)|trace_state
      ·have qp:¬u<57344:=by omega
       have vD:¬u<56320:=by omega
       repeat' first
        |(with_reducible refine And.intro (fun hx=>absurd hx (by first|(try simp[std,S1,jW,jR,g0,g0',n1,n2,n3,Qw,jJ,g1,g1',ja,hU,qU,q7,qt,qp,vD])<;>omega|omega)) (fun _=>?_))
        |(with_reducible refine And.intro (fun _=>?_) (fun hx=>absurd hx (by first|(try simp[std,S1,jW,jR,g0,g0',n1,n2,n3,Qw,jJ,g1,g1',ja,hU,qU,q7,qt,qp,vD])<;>omega|omega)))
        |(with_reducible refine And.intro (by first|(try simp[std,S1,jW,jR,g0,g0',n1,n2,n3,Qw,jJ,g1,g1',ja,hU,qU,q7,qt,qp,vD])<;>omega|omega) ?_)
        |(with_reducible refine And.intro ?_ ?_)
        |(with_reducible intro hb)
       all_goals
        refine⟨(out++[⟨u,at_,2⟩],at_+2),⟨jM.1,jM.2.1,jM.2.2.1,jM.2.2.2.1⟩,jM.2.2.2.2,[some 0],_,rfl,?_⟩;simp[Qm,lk,std,AV.cells,RowKit.intOf,Q1B,Q1A,jW,jR,g0,g0',n1,n2,n3,Qw,jJ,g1,g1',ja,hU,qU,q7,qt,qp,vD]<;>first|omega|(split<;>omega)|trace_state
