/- Lemmas, conditions told -/
import Derived.Test.YtnlbhaeimmenoaaGreatG14
set_option maxRecDepth 99999
set_option maxHeartbeats 0
set_option linter.unusedSimpArgs false
set_option linter.unusedVariables false
namespace Go.Proofs.YtnlbhaeimmenoaaGreat
open Go.RowKit Go.Lib
section
open Tryz
theorem Qcc{l:List TPart}{a:Int}(h0:0<=a)(h1:a<=l.length){x:TAttr}{b:Int}(h:Q1S l a=some (x,b)):a<b/\b<=l.length:=by
 have sk:∀(a:Int)(k:Int),0<=a->a<=l.length->a<=Q3T l a k/\Q3T l a k<=l.length:=fun a k h2 h3=>by
  obtain⟨h4,h5,_⟩:=Q96 l a k h2 h3;rcases h4 with h4|h4<;>omega
 have hit:∀(a:Int)(k:Int),0<=a->a<=l.length->QP l a.toNat [k]=true->a<l.length:=fun a k h2 h3 h4=>by
  have:=(Q3c (l:=l) (a:=a.toNat) (ks:=[k]) (by omega)).1 h4
  simp only[List.length_singleton]at this;omega
 unfold Q1S at h;split at h
 ·rename_i h2
  have g1:=hit a 3 h0 h1 h2.1;have g2:=hit (a+1) 2 (by omega) (by omega) h2.2
  have g3:=sk (a+2) 3 (by omega) (by omega)
  simp only at h
  split at h
  ·rename_i h3
   have g4:=hit _ 4 (by omega) g3.2 h3
   have g5:=sk (Q3T l (a+2) 3+1) 3 (by omega) (by omega)
   split at h
   ·rename_i h4
    have g6:=hit _ 5 (by omega) g5.2 h4
    have:=Option.some.inj h
    have:=(Prod.mk.inj this).2
    omega
   ·cases h
  ·cases h
 ·cases h
theorem Q8X{l:List TPart}{a:Int}(h0:0<=a)(h1:a<=l.length)(h:Q1y l a=true):a<Q1M l a/\Q1M l a<=l.length:=by
 unfold Q1y at h;unfold Q1M;cases hg:Q1S l a with
 |none=>rw[hg]at h;cases h
 |some x=>exact Qcc h0 h1 hg
theorem Qcw{l:List TPart}{a:Int}(h:Q1y l a=false):Q1M l a=a:=by
 unfold Q1y at h;unfold Q1M;cases hg:Q1S l a with
 |none=>rfl
 |some x=>rw[hg]at h;cases h
def Qz(l:List TPart):Nat->Int->List TAttr×Int
 |0,a=>([],a)
 |f+1,a=>if Q1y l a=true then(QD l a::(Qz l f (Q1M l a)).1,(Qz l f (Q1M l a)).2)else([],a)
structure TTag where
 name:TPart
 attrs:List TAttr
 right:Bool
 empty:Bool
def Q1f(ps:List TPart):TTag :=
 if QP ps 0 [1,2]=true then
  let q:=Qz ps (ps.length+1) 2
  let b:=Q3T ps q.2 3
  if QP ps b.toNat [6]=true/\(ps.length:Int)<=b+1 then
   let e:=decide ((ps[b.toNat]?.getD Qn).to-(ps[b.toNat]?.getD Qn).from_=2)
   let r:=decide ((ps[0]?.getD Qn).to-(ps[0]?.getD Qn).from_=1)||(decide (q.1.length=0)&&!e)
   ⟨ps[1]?.getD Qn,q.1,r,e&&r⟩
  else⟨ps[1]?.getD Qn,q.1,false,false⟩
 else⟨Qn,[],false,false⟩
def QB(l:List Int)(from_ to:Int):TTag:=Q1f (QT l from_ to)
theorem Q7J(r:List Int):∀(n:Nat)(r:List Int)(at_:Int)(first:Bool),r.length<=n->∀x∈Qt at_ first r,at_<=x.from_/\x.from_<x.to/\x.to<=at_+r.length:=by
 intro n;induction n with
 |zero =>
  intro r at_ first h x hx
  have:r=[]:=List.eq_nil_of_length_eq_zero (by omega)
  rw[this,Qt,dif_pos rfl]at hx;cases hx
 |succ n ih =>
  intro r at_ first h x hx
  by_cases hr:r=[]
  ·rw[hr,Qt,dif_pos rfl]at hx;cases hx
  ·have hn:=Q3i r first hr
   rw[Qt,dif_neg hr]at hx;rcases List.mem_cons.1 hx with rfl|hx
   ·simp only;omega
   ·have:=ih (r.drop (Qj r first).2.toNat) _ false (by rw[List.length_drop];omega) x hx
    rw[List.length_drop]at this;omega
def Qej(ps:List TPart):Prop:=∀x∈ps,0<=x.from_/\x.from_<=x.to/\x.to<=1000000000
theorem Q5D{ps:List TPart}(h:Qej ps)(i:Nat):0<=(ps[i]?.getD Qn).from_/\(ps[i]?.getD Qn).from_<=(ps[i]?.getD Qn).to/\(ps[i]?.getD Qn).to<=1000000000:=by
 cases hi:ps[i]? with
 |none=>simp[Qn]
 |some x=>exact h x (List.mem_of_getElem? hi)
theorem Q4W(a b:List TAttr):QL (a++b)=QL a++QL b:=by simp[QL]
theorem Q54(a:List TAttr):(QL a).length=a.length:=by simp[QL]
def csR(ps:List AV)(r22 r53:AV)(a22 a50 a53:Int)(ce:Int->Nat->Int)(ok:Int->Bool)(nx:Int->Int):Nat->List AV->List Ob->Option (AV×List Ob):=fun f args ob=>match f with
 |60=>some (.slc 3 ps,[])
 |62=>match ob with
  | [.box [q,.val (.int .i64 a)]]=>some (.tup [.agg [.val (.int .i64 (ce a 0)),.val (.int .i64 (ce a 1)),.val (.int .i64 (ce a 2)),.val (.int .i64 (ce a 3)),.val (.int .i64 (ce a 4)),.val (.int .i64 (ce a 5)),.val (.int .i64 (ce a 6)),.val (.int .i64 (ce a 7)),.val (.int .i64 (ce a 8))],.val (.bool (ok a))],[.box [q,.val (.int .i64 (nx a))]])
  |_=>none
 |1000022=>match ob with
  | [.box [q,_]]=>some (r22,[.box [q,.val (.int .i64 a22)]])
  |_=>none
 |1000050=>match ob with
  | [.box [q,_]]=>some (.dead,[.box [q,.val (.int .i64 a50)]])
  |_=>none
 |1000053=>match ob with
  | [.box [q,_]]=>some (r53,[.box [q,.val (.int .i64 a53)]])
  |_=>none
 |_=>none
def ceF(ps:List TPart)(a:Int)(j:Nat):Int:=RowKit.intOf ((QD ps a).cs.getD j .dead)
theorem Qjk(l:List Int)(hl:l.length<=1000000000)(from_ to:Int)(h0:0<=from_)(h1:from_<=to)(h2:to<=l.length)(ps:List TPart)(jm:ps=QT l from_ to)(qX:ps.length<=1000000000)(yM:QP ps 0 [1,2]=false) :
  BCall prog 32 [.slc 1 (Q0 l),.val (.int .i64 from_),.val (.int .i64 to)] [] (.agg [.val (.int .i64 0),.val (.int .i64 0),.val (.int .i64 0),.slc 9 [],.val (.bool false),.val (.bool false)]) []:=by
 have cP:=Qdp l hl from_ to h0 h1 h2;rw[<-jm]at cP;have c22:=Q3b ps qX 0 (by omega) (by omega) [1,2] (by simp) yM
 clear h2;refine fnN (csR (Q7 ps) (.val (.slice none 0 0)) .dead 0 0 0 (fun _ _=>0) (fun _=>false) (fun a=>a)) func32 rfl fun _ _=>?_
 with_reducible refine cv2 (Q7 ps) (Q0 l) ?_
 exact⟨cP,c22,.pure rfl ⟨.inl rfl,.inl rfl,.inl rfl,.inr (.inl ⟨rfl,_,rfl⟩),.inl rfl,.inl rfl,trivial⟩⟩
theorem Q2H{l:List TPart}:∀(f:Nat)(a:Int),0<=a->a<=l.length->a<=(Qz l f a).2/\(Qz l f a).2<=l.length
 |0,a,h0,h1=>⟨Int.le_refl _,h1⟩
 |f+1,a,h0,h1=>by
  rw[Qz];split
  ·rename_i h
   have h2:=Q8X h0 h1 h;have h3:=Q2H (l:=l) f (Q1M l a) (by omega) h2.2
   simp only;omega
  ·exact⟨Int.le_refl _,h1⟩
theorem QjE(l:List Int)(hl:l.length<=1000000000)(from_ to:Int)(h0:0<=from_)(h1:from_<=to)(h2:to<=l.length)(ps:List TPart)(jm:ps=QT l from_ to)(qX:ps.length<=1000000)(yx:Qej ps)(yM:QP ps 0 [1,2]=true)
  (qW:QP ps (Q3T ps (Qz ps (ps.length+1) 2).2 3).toNat [6]=false) :
  BCall prog 32 [.slc 1 (Q0 l),.val (.int .i64 from_),.val (.int .i64 to)] [] (.agg [.val (.int .i64 (Q1f ps).name.kind),.val (.int .i64 (Q1f ps).name.from_),.val (.int .i64 (Q1f ps).name.to),.slc 9 (QL (Q1f ps).attrs),.val (.bool (Q1f ps).right),.val (.bool (Q1f ps).empty)]) []:=by
 have cP:=Qdp l hl from_ to h0 h1 h2;rw[<-jm]at cP;obtain⟨n,hn⟩:=QG ps
 have qa:2<=n:=by
  have:=(Q3c (l:=ps) (a:=0) (ks:=[1,2]) (by omega)).1 yM
  simp only[List.length_cons,List.length_nil]at this;rw[hn.eq];omega
 have qf:n<=1000000:=by rw[hn.eq];omega
 obtain⟨o,ho⟩:=exq (ps[0]?.getD Qn);obtain⟨nm,qO⟩:=exq (ps[1]?.getD Qn)
 have c22:=Q6D ps (by omega) 0 (by omega) (by omega) [1,2] (by simp) (.slc 3 [.agg [.val (.int .i64 o.kind),.val (.int .i64 o.from_),.val (.int .i64 o.to)],.agg [.val (.int .i64 nm.kind),.val (.int .i64 nm.from_),.val (.int .i64 nm.to)]]) 2
  (fun _=>⟨by
    have e:=hn.eq;match ps,qa,e,ho,qO with
    | [],h,e,_,_=>simp at e;omega
    | [_],h,e,_,_=>simp at e;omega
    |x::y::r,_,_,ho,hq=>rw[ho,hq];rfl,rfl⟩) (fun h=>by rw[show(0:Int).toNat=0 from rfl,yM]at h;cases h)
 obtain⟨ats,qY⟩:=exq ((Qz ps (ps.length+1) 2).1);obtain⟨ae,vX⟩:=exq ((Qz ps (ps.length+1) 2).2);rw[<-vX]at qW
 have qo:0<=ae/\ae<=n:=by
  have e:=hn.eq;have:=Q2H (l:=ps) (ps.length+1) 2 (by omega) (by omega)
  rw[<-vX]at this;omega
 obtain⟨b,hb⟩:=exq (Q3T ps ae 3)
 have yB:0<=b/\b<=n:=by
  have e:=hn.eq;have:=Q96 ps ae 3 qo.1 (by omega)
  rw[<-hb]at this;omega
 have c50:BCall prog 61 [.box 0 0,.slc 1 [.val (.int .i64 3)]] [.box [.slc 3 (Q7 ps),.val (.int .i64 ae)]] .dead [.box [.slc 3 (Q7 ps),.val (.int .i64 b)]]:=by
  rw[hb];exact(Q53 ps (by omega) ae qo.1 (by rw[<-hn.eq];exact qo.2) 3).2.2
 rw[<-hb]at qW;obtain⟨q,hq⟩:=exq (ps[b.toNat]?.getD Qn);obtain⟨b1,jg⟩:=exq (b+1);have c53:=Q3b ps (by omega) b yB.1 (by rw[<-hn.eq];exact yB.2) [6] (by simp) qW
 have hR:Q1f ps=⟨nm,ats,false,false⟩:=by
  simp only[Q1f,yM,if_true,<-qY,<-vX,<-hb,qW,<-qO,Bool.false_eq_true,false_and,if_false]
 have so:=Q5D yx 0;have sq:=Q5D yx b.toNat;rw[<-ho]at so;rw[<-hq]at sq;obtain⟨ce,yR⟩:=exq (ceF ps);obtain⟨ok,jA⟩:=exq (Q1y ps);obtain⟨nx,jM⟩:=exq (Q1M ps)
 have cA:∀a:Int,0<=a->a<=n->BCall prog 62 [.box 0 0] [.box [.slc 3 (Q7 ps),.val (.int .i64 a)]] (.tup [.agg [.val (.int .i64 (ce a 0)),.val (.int .i64 (ce a 1)),.val (.int .i64 (ce a 2)),.val (.int .i64 (ce a 3)),.val (.int .i64 (ce a 4)),.val (.int .i64 (ce a 5)),.val (.int .i64 (ce a 6)),.val (.int .i64 (ce a 7)),.val (.int .i64 (ce a 8))],.val (.bool (ok a))]) [.box [.slc 3 (Q7 ps),.val (.int .i64 (nx a))]]:=fun a h3 h4=>by
  rw[yR,jA,jM];exact QkE ps (by omega) a h3 (by rw[<-hn.eq];exact h4)
 have zM:∀a:Int,0<=a->a<=n->ok a=true->a<nx a/\nx a<=n:=fun a h3 h4 h5=>by
  rw[jA]at h5;rw[jM,hn.eq];exact Q8X h3 (by rw[<-hn.eq];exact h4) h5
 have ct:∀a:Int,ok a=false->nx a=a:=fun a h3=>by rw[jA]at h3;rw[jM];exact Qcw h3
 have qm:∀a:Int,QL [QD ps a]=[.agg [.val (.int .i64 (ce a 0)),.val (.int .i64 (ce a 1)),.val (.int .i64 (ce a 2)),.val (.int .i64 (ce a 3)),.val (.int .i64 (ce a 4)),.val (.int .i64 (ce a 5)),.val (.int .i64 (ce a 6)),.val (.int .i64 (ce a 7)),.val (.int .i64 (ce a 8))]]:=fun a=>by rw[yR];rfl
 have n9:∀(f:Nat)(a:Int),ok a=true->Qz ps (f+1) a=(QD ps a::(Qz ps f (nx a)).1,(Qz ps f (nx a)).2):=fun f a h=>by
  rw[jA]at h;rw[jM,Qz,if_pos h]
 have cu:∀(f:Nat)(a:Int),ok a=false->Qz ps (f+1) a=([],a):=fun f a h=>by
  rw[jA]at h;rw[Qz,if_neg (by rw[h];exact Bool.false_ne_true)]
 rw[hR];clear qW yM yR jA jM hR h2 ho qO hq hb;refine fnN (csR (Q7 ps) (.slc 3 [.agg [.val (.int .i64 o.kind),.val (.int .i64 o.from_),.val (.int .i64 o.to)],.agg [.val (.int .i64 nm.kind),.val (.int .i64 nm.from_),.val (.int .i64 nm.to)]]) (.val (.slice none 0 0)) 2 b b ce ok nx) func32 rfl fun _ _=>?_
 with_reducible refine cv2 (Q7 ps) (Q0 l) ?_
 have en:=hn.eq
 repeat' first
  |exact cP
  |exact c22
  |exact cA 2 (by omega) qa
  |(with_reducible refine And.intro (fun hx=>absurd hx (by simp[std])) ?_)
  |(with_reducible refine And.intro (by (first|(simp[std,Q3W,AV.cells,RowKit.intOf];done)|exact cP|exact c22|exact cA 2 (by omega) qa)) ?_)
  |(with_reducible refine And.intro ?_ ?_)
  |(with_reducible intro _)
 refine Q1h (csR (Q7 ps) (.slc 3 [.agg [.val (.int .i64 o.kind),.val (.int .i64 o.from_),.val (.int .i64 o.to)],.agg [.val (.int .i64 nm.kind),.val (.int .i64 nm.from_),.val (.int .i64 nm.to)]]) (.val (.slice none 0 0)) 2 b b ce ok nx) (List TAttr×Int) (fun x=>⟨[(6,.box 0 0),(7,.box 1 0),(8,.box 2 0),(9,.slc 3 [.agg [.val (.int .i64 o.kind),.val (.int .i64 o.from_),.val (.int .i64 o.to)],.agg [.val (.int .i64 nm.kind),.val (.int .i64 nm.from_),.val (.int .i64 nm.to)]]),(10,.box 3 0),(11,.val (.bool (ok x.2)))],[.box [.val (.int .i64 0),.val (.int .i64 0),.val (.int .i64 0),.val (.slice none 0 0),.val (.bool false),.val (.bool false)],.box [.val (.int .i64 nm.kind),.val (.int .i64 nm.from_),.val (.int .i64 nm.to),.row 4 0,.val (.bool false),.val (.bool false)],.box [.slc 3 (Q7 ps),.val (.int .i64 (nx x.2))],.box [.val (.int .i64 (ce x.2 0)),.val (.int .i64 (ce x.2 1)),.val (.int .i64 (ce x.2 2)),.val (.int .i64 (ce x.2 3)),.val (.int .i64 (ce x.2 4)),.val (.int .i64 (ce x.2 5)),.val (.int .i64 (ce x.2 6)),.val (.int .i64 (ce x.2 7)),.val (.int .i64 (ce x.2 8))],.row 143 9 false 0 (QL x.1)]⟩) (fun x=>0<=x.2/\x.2<=n/\(∃f:Nat,n-x.2<f/\x.1++(Qz ps f x.2).1=ats/\(Qz ps f x.2).2=ae)/\x.1.length<=x.2.toNat) (fun x=>(n-x.2).toNat) ([],2) ?_ ?_ ?_
 ·exact⟨by simp,qa,⟨ps.length+1,by simp only;omega,by rw[qY];rfl,by rw[vX]⟩,by simp⟩
 ·exact⟨[some 0,some 1,some 2,some 4,none],_,rfl,by simp[Qm,lk,std,AV.cells,RowKit.intOf,QL]⟩
 ·rintro⟨out,a⟩ ⟨js,jj,⟨f,j6,j2,qE⟩,hZ⟩
  simp only at js jj j6 j2 qE hZ
  have jR:=Q54 out;obtain⟨f,rfl⟩:∃f',f=f'+1:=⟨f-1,by omega⟩
  cases jn:ok a with
  |true =>
   have e1:=zM a js jj jn;have cN:=cA (nx a) (by omega) e1.2
   rw[n9 f a jn]at j2 qE;have hG:out++[QD ps a]++(Qz ps f (nx a)).1=ats:=by rw[<-j2];simp
   have zx:=qm a;have yS:n-nx a<f:=by omega
   have yT:(out++[QD ps a]).length<=(nx a).toNat:=by simp only[List.length_append,List.length_singleton];omega
   have hJ6:out.length<=1000000:=by omega
   clear en j6;with_reducible refine cv3 (Q7 ps) (Q0 l) (QL out) ?_
   repeat' first
    |exact cN
    |(with_reducible refine And.intro (fun _=>?_) (fun hx=>absurd (jn.symm.trans hx) (by decide)))
    |(with_reducible refine And.intro (by (first|exact cN|(simp[std,jR];omega))) ?_)
    |(with_reducible intro _)
   refine⟨(out++[QD ps a],nx a),⟨by simp only;omega,e1.2,⟨f,yS,hG,qE⟩,yT⟩,by simp only;omega,[some 0,some 1,some 2,some 6,some 4],_,rfl,?_⟩
   simp[Qm,lk,std,Q4W,zx]
  |false =>
   have e1:=ct a jn;rw[cu f a jn]at j2 qE;simp only[List.append_nil]at j2 qE;have pb:out.length<=1000000:=by omega
   rw[e1,qE];subst j2;clear en j6;with_reducible refine cv3 (Q7 ps) (Q0 l) (QL out) ?_
   repeat' first
    |(with_reducible refine And.intro (fun hx=>absurd (jn.symm.trans hx) (by decide)) (fun _=>?_))
    |(with_reducible intro _)
   rw[if_pos trivial];with_reducible refine cv3 (Q7 ps) (Q0 l) (QL out) ?_
   exact⟨c50,c53,.pure rfl ⟨.inl rfl,.inl rfl,.inl rfl,.inl rfl,.inl rfl,.inl rfl,trivial⟩⟩
theorem Ql3(l:List Int)(hl:l.length<=1000000000)(from_ to:Int)(h0:0<=from_)(h1:from_<=to)(h2:to<=l.length)(ps:List TPart)(jm:ps=QT l from_ to)(qX:ps.length<=1000000)(yx:Qej ps)(yM:QP ps 0 [1,2]=true)
  (qW:QP ps (Q3T ps (Qz ps (ps.length+1) 2).2 3).toNat [6]=true) :
  BCall prog 32 [.slc 1 (Q0 l),.val (.int .i64 from_),.val (.int .i64 to)] [] (.agg [.val (.int .i64 (Q1f ps).name.kind),.val (.int .i64 (Q1f ps).name.from_),.val (.int .i64 (Q1f ps).name.to),.slc 9 (QL (Q1f ps).attrs),.val (.bool (Q1f ps).right),.val (.bool (Q1f ps).empty)]) []:=by
 have cP:=Qdp l hl from_ to h0 h1 h2;rw[<-jm]at cP;obtain⟨n,hn⟩:=QG ps
 have qa:2<=n:=by
  have:=(Q3c (l:=ps) (a:=0) (ks:=[1,2]) (by omega)).1 yM
  simp only[List.length_cons,List.length_nil]at this;rw[hn.eq];omega
 have qf:n<=1000000:=by rw[hn.eq];omega
 obtain⟨o,ho⟩:=exq (ps[0]?.getD Qn);obtain⟨nm,qO⟩:=exq (ps[1]?.getD Qn)
 have c22:=Q6D ps (by omega) 0 (by omega) (by omega) [1,2] (by simp) (.slc 3 [.agg [.val (.int .i64 o.kind),.val (.int .i64 o.from_),.val (.int .i64 o.to)],.agg [.val (.int .i64 nm.kind),.val (.int .i64 nm.from_),.val (.int .i64 nm.to)]]) 2
  (fun _=>⟨by
    have e:=hn.eq;match ps,qa,e,ho,qO with
    | [],h,e,_,_=>simp at e;omega
    | [_],h,e,_,_=>simp at e;omega
    |x::y::r,_,_,ho,hq=>rw[ho,hq];rfl,rfl⟩) (fun h=>by rw[show(0:Int).toNat=0 from rfl,yM]at h;cases h)
 obtain⟨ats,qY⟩:=exq ((Qz ps (ps.length+1) 2).1);obtain⟨ae,vX⟩:=exq ((Qz ps (ps.length+1) 2).2);rw[<-vX]at qW
 have qo:0<=ae/\ae<=n:=by
  have e:=hn.eq;have:=Q2H (l:=ps) (ps.length+1) 2 (by omega) (by omega)
  rw[<-vX]at this;omega
 obtain⟨b,hb⟩:=exq (Q3T ps ae 3)
 have yB:0<=b/\b<=n:=by
  have e:=hn.eq;have:=Q96 ps ae 3 qo.1 (by omega)
  rw[<-hb]at this;omega
 have c50:BCall prog 61 [.box 0 0,.slc 1 [.val (.int .i64 3)]] [.box [.slc 3 (Q7 ps),.val (.int .i64 ae)]] .dead [.box [.slc 3 (Q7 ps),.val (.int .i64 b)]]:=by
  rw[hb];exact(Q53 ps (by omega) ae qo.1 (by rw[<-hn.eq];exact qo.2) 3).2.2
 rw[<-hb]at qW;obtain⟨q,hq⟩:=exq (ps[b.toNat]?.getD Qn);obtain⟨b1,jg⟩:=exq (b+1);have c53:=(Q3w ps (by omega) b yB.1 (by rw[<-hn.eq];exact yB.2) 6 qW).2
 rw[<-hq,<-jg]at c53
 have hR:Q1f ps=if n<=b1 then⟨nm,ats,decide (o.to-o.from_=1)||(decide (ats.length=0)&&!decide (q.to-q.from_=2)),decide (q.to-q.from_=2)&&(decide (o.to-o.from_=1)||(decide (ats.length=0)&&!decide (q.to-q.from_=2)))⟩else⟨nm,ats,false,false⟩:=by
  simp only[Q1f,yM,if_true,<-qY,<-vX,<-hb,qW,<-hq,<-ho,<-qO,true_and,hn.eq,jg]
 have so:=Q5D yx 0;have sq:=Q5D yx b.toNat;rw[<-ho]at so;rw[<-hq]at sq;obtain⟨ce,yR⟩:=exq (ceF ps);obtain⟨ok,jA⟩:=exq (Q1y ps);obtain⟨nx,jM⟩:=exq (Q1M ps)
 have cA:∀a:Int,0<=a->a<=n->BCall prog 62 [.box 0 0] [.box [.slc 3 (Q7 ps),.val (.int .i64 a)]] (.tup [.agg [.val (.int .i64 (ce a 0)),.val (.int .i64 (ce a 1)),.val (.int .i64 (ce a 2)),.val (.int .i64 (ce a 3)),.val (.int .i64 (ce a 4)),.val (.int .i64 (ce a 5)),.val (.int .i64 (ce a 6)),.val (.int .i64 (ce a 7)),.val (.int .i64 (ce a 8))],.val (.bool (ok a))]) [.box [.slc 3 (Q7 ps),.val (.int .i64 (nx a))]]:=fun a h3 h4=>by
  rw[yR,jA,jM];exact QkE ps (by omega) a h3 (by rw[<-hn.eq];exact h4)
 have zM:∀a:Int,0<=a->a<=n->ok a=true->a<nx a/\nx a<=n:=fun a h3 h4 h5=>by
  rw[jA]at h5;rw[jM,hn.eq];exact Q8X h3 (by rw[<-hn.eq];exact h4) h5
 have ct:∀a:Int,ok a=false->nx a=a:=fun a h3=>by rw[jA]at h3;rw[jM];exact Qcw h3
 have qm:∀a:Int,QL [QD ps a]=[.agg [.val (.int .i64 (ce a 0)),.val (.int .i64 (ce a 1)),.val (.int .i64 (ce a 2)),.val (.int .i64 (ce a 3)),.val (.int .i64 (ce a 4)),.val (.int .i64 (ce a 5)),.val (.int .i64 (ce a 6)),.val (.int .i64 (ce a 7)),.val (.int .i64 (ce a 8))]]:=fun a=>by rw[yR];rfl
 have n9:∀(f:Nat)(a:Int),ok a=true->Qz ps (f+1) a=(QD ps a::(Qz ps f (nx a)).1,(Qz ps f (nx a)).2):=fun f a h=>by
  rw[jA]at h;rw[jM,Qz,if_pos h]
 have cu:∀(f:Nat)(a:Int),ok a=false->Qz ps (f+1) a=([],a):=fun f a h=>by
  rw[jA]at h;rw[Qz,if_neg (by rw[h];exact Bool.false_ne_true)]
 rw[hR];clear qW yM yR jA jM hR h2 ho qO hq hb;refine fnN (csR (Q7 ps) (.slc 3 [.agg [.val (.int .i64 o.kind),.val (.int .i64 o.from_),.val (.int .i64 o.to)],.agg [.val (.int .i64 nm.kind),.val (.int .i64 nm.from_),.val (.int .i64 nm.to)]]) (.slc 3 [.agg [.val (.int .i64 q.kind),.val (.int .i64 q.from_),.val (.int .i64 q.to)]]) 2 b b1 ce ok nx) func32 rfl fun _ _=>?_
 with_reducible refine cv2 (Q7 ps) (Q0 l) ?_
 have en:=hn.eq
 repeat' first
  |exact cP
  |exact c22
  |exact cA 2 (by omega) qa
  |(with_reducible refine And.intro (fun hx=>absurd hx (by simp[std])) ?_)
  |(with_reducible refine And.intro (by (first|(simp[std,Q3W,AV.cells,RowKit.intOf];done)|exact cP|exact c22|exact cA 2 (by omega) qa)) ?_)
  |(with_reducible refine And.intro ?_ ?_)
  |(with_reducible intro _)
 refine Q1h (csR (Q7 ps) (.slc 3 [.agg [.val (.int .i64 o.kind),.val (.int .i64 o.from_),.val (.int .i64 o.to)],.agg [.val (.int .i64 nm.kind),.val (.int .i64 nm.from_),.val (.int .i64 nm.to)]]) (.slc 3 [.agg [.val (.int .i64 q.kind),.val (.int .i64 q.from_),.val (.int .i64 q.to)]]) 2 b b1 ce ok nx) (List TAttr×Int) (fun x=>⟨[(6,.box 0 0),(7,.box 1 0),(8,.box 2 0),(9,.slc 3 [.agg [.val (.int .i64 o.kind),.val (.int .i64 o.from_),.val (.int .i64 o.to)],.agg [.val (.int .i64 nm.kind),.val (.int .i64 nm.from_),.val (.int .i64 nm.to)]]),(10,.box 3 0),(11,.val (.bool (ok x.2)))],[.box [.val (.int .i64 0),.val (.int .i64 0),.val (.int .i64 0),.val (.slice none 0 0),.val (.bool false),.val (.bool false)],.box [.val (.int .i64 nm.kind),.val (.int .i64 nm.from_),.val (.int .i64 nm.to),.row 4 0,.val (.bool false),.val (.bool false)],.box [.slc 3 (Q7 ps),.val (.int .i64 (nx x.2))],.box [.val (.int .i64 (ce x.2 0)),.val (.int .i64 (ce x.2 1)),.val (.int .i64 (ce x.2 2)),.val (.int .i64 (ce x.2 3)),.val (.int .i64 (ce x.2 4)),.val (.int .i64 (ce x.2 5)),.val (.int .i64 (ce x.2 6)),.val (.int .i64 (ce x.2 7)),.val (.int .i64 (ce x.2 8))],.row 143 9 false 0 (QL x.1)]⟩) (fun x=>0<=x.2/\x.2<=n/\(∃f:Nat,n-x.2<f/\x.1++(Qz ps f x.2).1=ats/\(Qz ps f x.2).2=ae)/\x.1.length<=x.2.toNat) (fun x=>(n-x.2).toNat) ([],2) ?_ ?_ ?_
 ·exact⟨by simp,qa,⟨ps.length+1,by simp only;omega,by rw[qY];rfl,by rw[vX]⟩,by simp⟩
 ·exact⟨[some 0,some 1,some 2,some 4,none],_,rfl,by simp[Qm,lk,std,AV.cells,RowKit.intOf,QL]⟩
 ·rintro⟨out,a⟩ ⟨js,jj,⟨f,j6,j2,qE⟩,hZ⟩
  simp only at js jj j6 j2 qE hZ
  have jR:=Q54 out;obtain⟨f,rfl⟩:∃f',f=f'+1:=⟨f-1,by omega⟩
  cases jn:ok a with
  |true =>
   have e1:=zM a js jj jn;have cN:=cA (nx a) (by omega) e1.2
   rw[n9 f a jn]at j2 qE;have hG:out++[QD ps a]++(Qz ps f (nx a)).1=ats:=by rw[<-j2];simp
   have zx:=qm a;have yS:n-nx a<f:=by omega
   have yT:(out++[QD ps a]).length<=(nx a).toNat:=by simp only[List.length_append,List.length_singleton];omega
   have hJ6:out.length<=1000000:=by omega
   clear en j6;with_reducible refine cv3 (Q7 ps) (Q0 l) (QL out) ?_
   repeat' first
    |exact cN
    |(with_reducible refine And.intro (fun _=>?_) (fun hx=>absurd (jn.symm.trans hx) (by decide)))
    |(with_reducible refine And.intro (by (first|exact cN|(simp[std,jR];omega))) ?_)
    |(with_reducible intro _)
   refine⟨(out++[QD ps a],nx a),⟨by simp only;omega,e1.2,⟨f,yS,hG,qE⟩,yT⟩,by simp only;omega,[some 0,some 1,some 2,some 6,some 4],_,rfl,?_⟩
   simp[Qm,lk,std,Q4W,zx]
  |false =>
   have e1:=ct a jn;rw[cu f a jn]at j2 qE;simp only[List.append_nil]at j2 qE;have pb:out.length<=1000000:=by omega
   rw[e1,qE];subst j2;clear en j6;with_reducible refine cv3 (Q7 ps) (Q0 l) (QL out) ?_
   repeat' first
    |(with_reducible refine And.intro (fun hx=>absurd (jn.symm.trans hx) (by decide)) (fun _=>?_))
    |(with_reducible intro _)
   rw[if_pos trivial];with_reducible refine cv3 (Q7 ps) (Q0 l) (QL out) ?_
   have en:=hn.eq;have hpl2:=Q19 ps;have xS:(((Q7 ps).length:Nat):Int)=n:=by omega
   refine⟨c50,c53,fun h=>absurd h (by simp[std]),fun h=>?_,fun h=>?_⟩
   ·have h:b1<n:=by simpa[std,xS]using h
    rw[if_neg (by omega)]
    exact .pure rfl ⟨.inl rfl,.inl rfl,.inl rfl,.inl rfl,.inl rfl,.inl rfl,trivial⟩
   ·have h:¬b1<n:=by simpa[std,xS]using h
    rw[if_pos (by omega)]
    simp only
    obtain⟨x,hx⟩:=exq (q.to-q.from_);obtain⟨y,hy⟩:=exq (o.to-o.from_);rw[<-hx,<-hy];have vz:=hx.symm;have vS:=hy.symm;with_reducible repeat' first|refine aU (zA vz <| zA vS jR) ?_|refine And.intro ?_ ?_|(intro hb;try simp[std,S1,vz,vS,jR]at hb)
    all_goals
     refine .pure rfl ⟨.inl rfl,.inl rfl,.inl rfl,.inl rfl,.inl ?_,.inl ?_,trivial⟩
    all_goals
     clear cP c22 c50 c53 cA zM ct qm n9 cu hx hy qY vX en xS hpl2
    all_goals first
     |(simp[*,std,AV.cells,RowKit.intOf,Q2o];done)
     |(simp_all [std,AV.cells,RowKit.intOf,Q2o];done)
     |trace_state
