/- Lemmas, conditions told -/
import Derived.Test.YtibemhahkicbpaaGreatL13
set_option maxRecDepth 99999
set_option maxHeartbeats 0
set_option linter.unusedSimpArgs false
set_option linter.unusedVariables false
namespace Go.Proofs.YtibemhahkicbpaaGreat
open Go.RowKit Go.Lib
section
open Tryz
theorem QbO{l:List TPart}{a:Int}(h0:0<=a)(h1:a<=l.length){x:TAttr}{b:Int}(h:Q1q l a=some (x,b)):a<b/\b<=l.length:=by
 have sk:∀(a:Int)(k:Int),0<=a->a<=l.length->a<=Q3y l a k/\Q3y l a k<=l.length:=fun a k h2 h3=>by
  obtain⟨h4,h5,_⟩:=Q8O l a k h2 h3;rcases h4 with h4|h4<;>omega
 have hit:∀(a:Int)(k:Int),0<=a->a<=l.length->QO l a.toNat [k]=true->a<l.length:=fun a k h2 h3 h4=>by
  have:=(Q29 (l:=l) (a:=a.toNat) (ks:=[k]) (by omega)).1 h4
  simp only[List.length_singleton]at this;omega
 unfold Q1q at h;split at h
 ·rename_i h2
  have g1:=hit a 3 h0 h1 h2.1;have g2:=hit (a+1) 2 (by omega) (by omega) h2.2
  have g3:=sk (a+2) 3 (by omega) (by omega)
  simp only at h
  split at h
  ·rename_i h3
   have g4:=hit _ 4 (by omega) g3.2 h3
   have g5:=sk (Q3y l (a+2) 3+1) 3 (by omega) (by omega)
   split at h
   ·rename_i h4
    have g6:=hit _ 5 (by omega) g5.2 h4
    have:=Option.some.inj h
    have:=(Prod.mk.inj this).2
    omega
   ·cases h
  ·cases h
 ·cases h
theorem Q71{l:List TPart}{a:Int}(h0:0<=a)(h1:a<=l.length)(h:Q1p l a=true):a<Q1z l a/\Q1z l a<=l.length:=by
 unfold Q1p at h;unfold Q1z;cases hg:Q1q l a with
 |none=>rw[hg]at h;cases h
 |some x=>exact QbO h0 h1 hg
theorem Qcj{l:List TPart}{a:Int}(h:Q1p l a=false):Q1z l a=a:=by
 unfold Q1p at h;unfold Q1z;cases hg:Q1q l a with
 |none=>rfl
 |some x=>rw[hg]at h;cases h
def Qy(l:List TPart):Nat->Int->List TAttr×Int
 |0,a=>([],a)
 |f+1,a=>if Q1p l a=true then(QH l a::(Qy l f (Q1z l a)).1,(Qy l f (Q1z l a)).2)else([],a)
structure TTag where
 name:TPart
 attrs:List TAttr
 right:Bool
 empty:Bool
def Q1l(ps:List TPart):TTag :=
 if QO ps 0 [1,2]=true then
  let q:=Qy ps (ps.length+1) 2
  let b:=Q3y ps q.2 3
  if QO ps b.toNat [6]=true/\(ps.length:Int)<=b+1 then
   let e:=decide ((ps[b.toNat]?.getD Qm).to-(ps[b.toNat]?.getD Qm).from_=2)
   let r:=decide ((ps[0]?.getD Qm).to-(ps[0]?.getD Qm).from_=1)||(decide (q.1.length=0)&&!e)
   ⟨ps[1]?.getD Qm,q.1,r,e&&r⟩
  else⟨ps[1]?.getD Qm,q.1,false,false⟩
 else⟨Qm,[],false,false⟩
def QD(l:List Int)(from_ to:Int):TTag:=Q1l (QS l from_ to)
theorem Q48(r:List Int):∀(n:Nat)(r:List Int)(at_:Int)(first:Bool),r.length<=n->∀x∈QB at_ first r,at_<=x.from_/\x.from_<x.to/\x.to<=at_+r.length:=by
 intro n;induction n with
 |zero =>
  intro r at_ first h x hx
  have:r=[]:=List.eq_nil_of_length_eq_zero (by omega)
  rw[this,QB,dif_pos rfl]at hx;cases hx
 |succ n ih =>
  intro r at_ first h x hx
  by_cases hr:r=[]
  ·rw[hr,QB,dif_pos rfl]at hx;cases hx
  ·have hn:=Q3n r first hr
   rw[QB,dif_neg hr]at hx;rcases List.mem_cons.1 hx with rfl|hx
   ·simp only;omega
   ·have:=ih (r.drop (Qt r first).2.toNat) _ false (by rw[List.length_drop];omega) x hx
    rw[List.length_drop]at this;omega
def QdE(ps:List TPart):Prop:=∀x∈ps,0<=x.from_/\x.from_<=x.to/\x.to<=1000000000
theorem Q5z{ps:List TPart}(h:QdE ps)(i:Nat):0<=(ps[i]?.getD Qm).from_/\(ps[i]?.getD Qm).from_<=(ps[i]?.getD Qm).to/\(ps[i]?.getD Qm).to<=1000000000:=by
 cases hi:ps[i]? with
 |none=>simp[Qm]
 |some x=>exact h x (List.mem_of_getElem? hi)
theorem Q4S(a b:List TAttr):Qh (a++b)=Qh a++Qh b:=by simp[Qh]
theorem Q3v(a:List TAttr):(Qh a).length=a.length:=by simp[Qh]
def csR(ps:List AV)(r22 r53:AV)(a22 a50 a53:Int)(ce:Int->Nat->Int)(ok:Int->Bool)(nx:Int->Int):Nat->List AV->List Ob->Option (AV×List Ob):=fun f args ob=>match f with
 |100=>some (.slc 3 ps,[])
 |102=>match ob with
  | [.box [q,.val (.int .i64 a)]]=>some (.tup [.agg [.val (.int .i64 (ce a 0)),.val (.int .i64 (ce a 1)),.val (.int .i64 (ce a 2)),.val (.int .i64 (ce a 3)),.val (.int .i64 (ce a 4)),.val (.int .i64 (ce a 5)),.val (.int .i64 (ce a 6)),.val (.int .i64 (ce a 7)),.val (.int .i64 (ce a 8))],.val (.bool (ok a))],[.box [q,.val (.int .i64 (nx a))]])
  |_=>none
 |1000022=>match ob with
  | [.box [q,_]]=>some (r22,[.box [q,.val (.int .i64 a22)]])
  |_=>none
 |1000050=>match ob with
  | [.box [q,_]]=>some (.dead,[.box [q,.val (.int .i64 a50)]])
  |_=>none
 |1000053=>match ob with
  | [.box [q,_]]=>some (r53,[.box [q,.val (.int .i64 a53)]])
  |_=>none
 |_=>none
def ceF(ps:List TPart)(a:Int)(j:Nat):Int:=intOf ((QH ps a).cs.getD j .dead)
theorem Qis(l:List Int)(hl:l.length<=1000000000)(from_ to:Int)(h0:0<=from_)(h1:from_<=to)(h2:to<=l.length)(ps:List TPart)(jp:ps=QS l from_ to)(jz:ps.length<=1000000000)(vN:QO ps 0 [1,2]=false) :
  BCall prog 49 [.slc 1 (Q0 l),.val (.int .i64 from_),.val (.int .i64 to)] [] (.agg [.val (.int .i64 0),.val (.int .i64 0),.val (.int .i64 0),.slc 9 [],.val (.bool false),.val (.bool false)]) []:=by
 have cP:=QcI l hl from_ to h0 h1 h2;rw[<-jp]at cP;have c22:=Q3a ps jz 0 (by omega) (by omega) [1,2] (by simp) vN
 clear h2;refine fnN (csR (Q8 ps) (.val (.slice none 0 0)) .dead 0 0 0 (fun _ _=>0) (fun _=>false) (fun a=>a)) func49 rfl fun _ _=>?_
 with_reducible refine cv2 (Q8 ps) (Q0 l) ?_
 exact⟨cP,c22,.pure rfl ⟨.inl rfl,.inl rfl,.inl rfl,.inr (.inl ⟨rfl,_,rfl⟩),.inl rfl,.inl rfl,trivial⟩⟩
theorem Q2L{l:List TPart}:∀(f:Nat)(a:Int),0<=a->a<=l.length->a<=(Qy l f a).2/\(Qy l f a).2<=l.length
 |0,a,h0,h1=>⟨Int.le_refl _,h1⟩
 |f+1,a,h0,h1=>by
  rw[Qy];split
  ·rename_i h
   have h2:=Q71 h0 h1 h;have h3:=Q2L (l:=l) f (Q1z l a) (by omega) h2.2
   simp only;omega
  ·exact⟨Int.le_refl _,h1⟩
theorem QiR(l:List Int)(hl:l.length<=1000000000)(from_ to:Int)(h0:0<=from_)(h1:from_<=to)(h2:to<=l.length)(ps:List TPart)(jp:ps=QS l from_ to)(jz:ps.length<=1000000)(zT:QdE ps)(vN:QO ps 0 [1,2]=true)
  (qu:QO ps (Q3y ps (Qy ps (ps.length+1) 2).2 3).toNat [6]=false) :
  BCall prog 49 [.slc 1 (Q0 l),.val (.int .i64 from_),.val (.int .i64 to)] [] (.agg [.val (.int .i64 (Q1l ps).name.kind),.val (.int .i64 (Q1l ps).name.from_),.val (.int .i64 (Q1l ps).name.to),.slc 9 (Qh (Q1l ps).attrs),.val (.bool (Q1l ps).right),.val (.bool (Q1l ps).empty)]) []:=by
 have cP:=QcI l hl from_ to h0 h1 h2;rw[<-jp]at cP;obtain⟨n,hn⟩:=QE ps
 have js:2<=n:=by
  have:=(Q29 (l:=ps) (a:=0) (ks:=[1,2]) (by omega)).1 vN
  simp only[List.length_cons,List.length_nil]at this;rw[hn.eq];omega
 have qB:n<=1000000:=by rw[hn.eq];omega
 obtain⟨o,ho⟩:=exq (ps[0]?.getD Qm);obtain⟨nm,qU⟩:=exq (ps[1]?.getD Qm)
 have c22:=Q6V ps (by omega) 0 (by omega) (by omega) [1,2] (by simp) (.slc 3 [.agg [.val (.int .i64 o.kind),.val (.int .i64 o.from_),.val (.int .i64 o.to)],.agg [.val (.int .i64 nm.kind),.val (.int .i64 nm.from_),.val (.int .i64 nm.to)]]) 2
  (fun _=>⟨by
    have e:=hn.eq;match ps,js,e,ho,qU with
    | [],h,e,_,_=>simp at e;omega
    | [_],h,e,_,_=>simp at e;omega
    |x::y::r,_,_,ho,hq=>rw[ho,hq];rfl,rfl⟩) (fun h=>by rw[show(0:Int).toNat=0 from rfl,vN]at h;cases h)
 obtain⟨ats,q6⟩:=exq ((Qy ps (ps.length+1) 2).1);obtain⟨ae,v7⟩:=exq ((Qy ps (ps.length+1) 2).2);rw[<-v7]at qu
 have qv:0<=ae/\ae<=n:=by
  have e:=hn.eq;have:=Q2L (l:=ps) (ps.length+1) 2 (by omega) (by omega)
  rw[<-v7]at this;omega
 obtain⟨b,hb⟩:=exq (Q3y ps ae 3)
 have yD:0<=b/\b<=n:=by
  have e:=hn.eq;have:=Q8O ps ae 3 qv.1 (by omega)
  rw[<-hb]at this;omega
 have c50:BCall prog 101 [.box 0 0,.slc 1 [.val (.int .i64 3)]] [.box [.slc 3 (Q8 ps),.val (.int .i64 ae)]] .dead [.box [.slc 3 (Q8 ps),.val (.int .i64 b)]]:=by
  rw[hb];exact(Q55 ps (by omega) ae qv.1 (by rw[<-hn.eq];exact qv.2) 3).2.2
 rw[<-hb]at qu;obtain⟨q,hq⟩:=exq (ps[b.toNat]?.getD Qm);obtain⟨b1,jg⟩:=exq (b+1);have c53:=Q3a ps (by omega) b yD.1 (by rw[<-hn.eq];exact yD.2) [6] (by simp) qu
 have hR:Q1l ps=⟨nm,ats,false,false⟩:=by
  simp only[Q1l,vN,if_true,<-q6,<-v7,<-hb,qu,<-qU,Bool.false_eq_true,false_and,if_false]
 have so:=Q5z zT 0;have sq:=Q5z zT b.toNat;rw[<-ho]at so;rw[<-hq]at sq;obtain⟨ce,yX⟩:=exq (ceF ps);obtain⟨ok,jC⟩:=exq (Q1p ps);obtain⟨nx,jH⟩:=exq (Q1z ps)
 have cA:∀a:Int,0<=a->a<=n->BCall prog 102 [.box 0 0] [.box [.slc 3 (Q8 ps),.val (.int .i64 a)]] (.tup [.agg [.val (.int .i64 (ce a 0)),.val (.int .i64 (ce a 1)),.val (.int .i64 (ce a 2)),.val (.int .i64 (ce a 3)),.val (.int .i64 (ce a 4)),.val (.int .i64 (ce a 5)),.val (.int .i64 (ce a 6)),.val (.int .i64 (ce a 7)),.val (.int .i64 (ce a 8))],.val (.bool (ok a))]) [.box [.slc 3 (Q8 ps),.val (.int .i64 (nx a))]]:=fun a h3 h4=>by
  rw[yX,jC,jH];exact QkE ps (by omega) a h3 (by rw[<-hn.eq];exact h4)
 have vr:∀a:Int,0<=a->a<=n->ok a=true->a<nx a/\nx a<=n:=fun a h3 h4 h5=>by
  rw[jC]at h5;rw[jH,hn.eq];exact Q71 h3 (by rw[<-hn.eq];exact h4) h5
 have kG:∀a:Int,ok a=false->nx a=a:=fun a h3=>by rw[jC]at h3;rw[jH];exact Qcj h3
 have vQ:∀a:Int,Qh [QH ps a]=[.agg [.val (.int .i64 (ce a 0)),.val (.int .i64 (ce a 1)),.val (.int .i64 (ce a 2)),.val (.int .i64 (ce a 3)),.val (.int .i64 (ce a 4)),.val (.int .i64 (ce a 5)),.val (.int .i64 (ce a 6)),.val (.int .i64 (ce a 7)),.val (.int .i64 (ce a 8))]]:=fun a=>by rw[yX];rfl
 have hgo:∀(f:Nat)(a:Int),ok a=true->Qy ps (f+1) a=(QH ps a::(Qy ps f (nx a)).1,(Qy ps f (nx a)).2):=fun f a h=>by
  rw[jC]at h;rw[jH,Qy,if_pos h]
 have kH:∀(f:Nat)(a:Int),ok a=false->Qy ps (f+1) a=([],a):=fun f a h=>by
  rw[jC]at h;rw[Qy,if_neg (by rw[h];exact Bool.false_ne_true)]
 rw[hR];clear qu vN yX jC jH hR h2 ho qU hq hb;refine fnN (csR (Q8 ps) (.slc 3 [.agg [.val (.int .i64 o.kind),.val (.int .i64 o.from_),.val (.int .i64 o.to)],.agg [.val (.int .i64 nm.kind),.val (.int .i64 nm.from_),.val (.int .i64 nm.to)]]) (.val (.slice none 0 0)) 2 b b ce ok nx) func49 rfl fun _ _=>?_
 with_reducible refine cv2 (Q8 ps) (Q0 l) ?_
 have en:=hn.eq
 repeat' first
  |exact cP
  |exact c22
  |exact cA 2 (by omega) js
  |(with_reducible refine And.intro (fun hx=>absurd hx (by simp[std])) ?_)
  |(with_reducible refine And.intro (by (first|(simp[std,Q3t,AV.cells,intOf];done)|exact cP|exact c22|exact cA 2 (by omega) js)) ?_)
  |(with_reducible refine zA ?_ ?_)
  |(with_reducible intro _)
 refine Q1h (csR (Q8 ps) (.slc 3 [.agg [.val (.int .i64 o.kind),.val (.int .i64 o.from_),.val (.int .i64 o.to)],.agg [.val (.int .i64 nm.kind),.val (.int .i64 nm.from_),.val (.int .i64 nm.to)]]) (.val (.slice none 0 0)) 2 b b ce ok nx) (List TAttr×Int) (fun x=>⟨[(6,.box 0 0),(7,.box 1 0),(8,.box 2 0),(9,.slc 3 [.agg [.val (.int .i64 o.kind),.val (.int .i64 o.from_),.val (.int .i64 o.to)],.agg [.val (.int .i64 nm.kind),.val (.int .i64 nm.from_),.val (.int .i64 nm.to)]]),(10,.box 3 0),(11,.val (.bool (ok x.2)))],[.box [.val (.int .i64 0),.val (.int .i64 0),.val (.int .i64 0),.val (.slice none 0 0),.val (.bool false),.val (.bool false)],.box [.val (.int .i64 nm.kind),.val (.int .i64 nm.from_),.val (.int .i64 nm.to),.row 4 0,.val (.bool false),.val (.bool false)],.box [.slc 3 (Q8 ps),.val (.int .i64 (nx x.2))],.box [.val (.int .i64 (ce x.2 0)),.val (.int .i64 (ce x.2 1)),.val (.int .i64 (ce x.2 2)),.val (.int .i64 (ce x.2 3)),.val (.int .i64 (ce x.2 4)),.val (.int .i64 (ce x.2 5)),.val (.int .i64 (ce x.2 6)),.val (.int .i64 (ce x.2 7)),.val (.int .i64 (ce x.2 8))],.row 119 9 false 0 (Qh x.1)]⟩) (fun x=>0<=x.2/\x.2<=n/\(∃f:Nat,n-x.2<f/\x.1++(Qy ps f x.2).1=ats/\(Qy ps f x.2).2=ae)/\x.1.length<=x.2.toNat) (fun x=>(n-x.2).toNat) ([],2) ?_ ?_ ?_
 ·exact⟨by simp,js,⟨ps.length+1,by simp only;omega,by rw[q6];rfl,by rw[v7]⟩,by simp⟩
 ·exact⟨[some 0,some 1,some 2,some 4,none],_,rfl,by simp[Qe,lk,std,AV.cells,intOf,Qh]⟩
 ·rintro⟨out,a⟩ ⟨jq,qE,⟨f,jb,j5,qJ⟩,gD⟩
  simp only at jq qE jb j5 qJ gD
  have jR:=Q3v out;obtain⟨f,rfl⟩:∃f',f=f'+1:=⟨f-1,by omega⟩
  cases jl:ok a with
  |true =>
   have e1:=vr a jq qE jl;have cN:=cA (nx a) (by omega) e1.2
   rw[hgo f a jl]at j5 qJ;have hG:out++[QH ps a]++(Qy ps f (nx a)).1=ats:=by rw[<-j5];simp
   have yu:=vQ a;have yY:n-nx a<f:=by omega
   have yZ:(out++[QH ps a]).length<=(nx a).toNat:=by simp only[List.length_append,List.length_singleton];omega
   have hJ6:out.length<=1000000:=by omega
   clear en jb;with_reducible refine cv3 (Q8 ps) (Q0 l) (Qh out) ?_
   repeat' first
    |exact cN
    |(with_reducible refine And.intro (fun _=>?_) (fun hx=>absurd (jl.symm.trans hx) (by decide)))
    |(with_reducible refine And.intro (by (first|exact cN|(simp[std,jR];omega))) ?_)
    |(with_reducible intro _)
   refine⟨(out++[QH ps a],nx a),⟨by simp only;omega,e1.2,⟨f,yY,hG,qJ⟩,yZ⟩,by simp only;omega,[some 0,some 1,some 2,some 6,some 4],_,rfl,?_⟩
   simp[Qe,lk,std,Q4S,yu]
  |false =>
   have e1:=kG a jl;rw[kH f a jl]at j5 qJ;simp only[List.append_nil]at j5 qJ;have px:out.length<=1000000:=by omega
   rw[e1,qJ];subst j5;clear en jb;with_reducible refine cv3 (Q8 ps) (Q0 l) (Qh out) ?_
   repeat' first
    |(with_reducible refine And.intro (fun hx=>absurd (jl.symm.trans hx) (by decide)) (fun _=>?_))
    |(with_reducible intro _)
   rw[if_pos trivial];with_reducible refine cv3 (Q8 ps) (Q0 l) (Qh out) ?_
   exact⟨c50,c53,.pure rfl ⟨.inl rfl,.inl rfl,.inl rfl,.inl rfl,.inl rfl,.inl rfl,trivial⟩⟩
theorem Qlo(l:List Int)(hl:l.length<=1000000000)(from_ to:Int)(h0:0<=from_)(h1:from_<=to)(h2:to<=l.length)(ps:List TPart)(jp:ps=QS l from_ to)(jz:ps.length<=1000000)(zT:QdE ps)(vN:QO ps 0 [1,2]=true)
  (qu:QO ps (Q3y ps (Qy ps (ps.length+1) 2).2 3).toNat [6]=true) :
  BCall prog 49 [.slc 1 (Q0 l),.val (.int .i64 from_),.val (.int .i64 to)] [] (.agg [.val (.int .i64 (Q1l ps).name.kind),.val (.int .i64 (Q1l ps).name.from_),.val (.int .i64 (Q1l ps).name.to),.slc 9 (Qh (Q1l ps).attrs),.val (.bool (Q1l ps).right),.val (.bool (Q1l ps).empty)]) []:=by
 have cP:=QcI l hl from_ to h0 h1 h2;rw[<-jp]at cP;obtain⟨n,hn⟩:=QE ps
 have js:2<=n:=by
  have:=(Q29 (l:=ps) (a:=0) (ks:=[1,2]) (by omega)).1 vN
  simp only[List.length_cons,List.length_nil]at this;rw[hn.eq];omega
 have qB:n<=1000000:=by rw[hn.eq];omega
 obtain⟨o,ho⟩:=exq (ps[0]?.getD Qm);obtain⟨nm,qU⟩:=exq (ps[1]?.getD Qm)
 have c22:=Q6V ps (by omega) 0 (by omega) (by omega) [1,2] (by simp) (.slc 3 [.agg [.val (.int .i64 o.kind),.val (.int .i64 o.from_),.val (.int .i64 o.to)],.agg [.val (.int .i64 nm.kind),.val (.int .i64 nm.from_),.val (.int .i64 nm.to)]]) 2
  (fun _=>⟨by
    have e:=hn.eq;match ps,js,e,ho,qU with
    | [],h,e,_,_=>simp at e;omega
    | [_],h,e,_,_=>simp at e;omega
    |x::y::r,_,_,ho,hq=>rw[ho,hq];rfl,rfl⟩) (fun h=>by rw[show(0:Int).toNat=0 from rfl,vN]at h;cases h)
 obtain⟨ats,q6⟩:=exq ((Qy ps (ps.length+1) 2).1);obtain⟨ae,v7⟩:=exq ((Qy ps (ps.length+1) 2).2);rw[<-v7]at qu
 have qv:0<=ae/\ae<=n:=by
  have e:=hn.eq;have:=Q2L (l:=ps) (ps.length+1) 2 (by omega) (by omega)
  rw[<-v7]at this;omega
 obtain⟨b,hb⟩:=exq (Q3y ps ae 3)
 have yD:0<=b/\b<=n:=by
  have e:=hn.eq;have:=Q8O ps ae 3 qv.1 (by omega)
  rw[<-hb]at this;omega
 have c50:BCall prog 101 [.box 0 0,.slc 1 [.val (.int .i64 3)]] [.box [.slc 3 (Q8 ps),.val (.int .i64 ae)]] .dead [.box [.slc 3 (Q8 ps),.val (.int .i64 b)]]:=by
  rw[hb];exact(Q55 ps (by omega) ae qv.1 (by rw[<-hn.eq];exact qv.2) 3).2.2
 rw[<-hb]at qu;obtain⟨q,hq⟩:=exq (ps[b.toNat]?.getD Qm);obtain⟨b1,jg⟩:=exq (b+1);have c53:=(Q3B ps (by omega) b yD.1 (by rw[<-hn.eq];exact yD.2) 6 qu).2
 rw[<-hq,<-jg]at c53
 have hR:Q1l ps=if n<=b1 then⟨nm,ats,decide (o.to-o.from_=1)||(decide (ats.length=0)&&!decide (q.to-q.from_=2)),decide (q.to-q.from_=2)&&(decide (o.to-o.from_=1)||(decide (ats.length=0)&&!decide (q.to-q.from_=2)))⟩else⟨nm,ats,false,false⟩:=by
  simp only[Q1l,vN,if_true,<-q6,<-v7,<-hb,qu,<-hq,<-ho,<-qU,true_and,hn.eq,jg]
 have so:=Q5z zT 0;have sq:=Q5z zT b.toNat;rw[<-ho]at so;rw[<-hq]at sq;obtain⟨ce,yX⟩:=exq (ceF ps);obtain⟨ok,jC⟩:=exq (Q1p ps);obtain⟨nx,jH⟩:=exq (Q1z ps)
 have cA:∀a:Int,0<=a->a<=n->BCall prog 102 [.box 0 0] [.box [.slc 3 (Q8 ps),.val (.int .i64 a)]] (.tup [.agg [.val (.int .i64 (ce a 0)),.val (.int .i64 (ce a 1)),.val (.int .i64 (ce a 2)),.val (.int .i64 (ce a 3)),.val (.int .i64 (ce a 4)),.val (.int .i64 (ce a 5)),.val (.int .i64 (ce a 6)),.val (.int .i64 (ce a 7)),.val (.int .i64 (ce a 8))],.val (.bool (ok a))]) [.box [.slc 3 (Q8 ps),.val (.int .i64 (nx a))]]:=fun a h3 h4=>by
  rw[yX,jC,jH];exact QkE ps (by omega) a h3 (by rw[<-hn.eq];exact h4)
 have vr:∀a:Int,0<=a->a<=n->ok a=true->a<nx a/\nx a<=n:=fun a h3 h4 h5=>by
  rw[jC]at h5;rw[jH,hn.eq];exact Q71 h3 (by rw[<-hn.eq];exact h4) h5
 have kG:∀a:Int,ok a=false->nx a=a:=fun a h3=>by rw[jC]at h3;rw[jH];exact Qcj h3
 have vQ:∀a:Int,Qh [QH ps a]=[.agg [.val (.int .i64 (ce a 0)),.val (.int .i64 (ce a 1)),.val (.int .i64 (ce a 2)),.val (.int .i64 (ce a 3)),.val (.int .i64 (ce a 4)),.val (.int .i64 (ce a 5)),.val (.int .i64 (ce a 6)),.val (.int .i64 (ce a 7)),.val (.int .i64 (ce a 8))]]:=fun a=>by rw[yX];rfl
 have hgo:∀(f:Nat)(a:Int),ok a=true->Qy ps (f+1) a=(QH ps a::(Qy ps f (nx a)).1,(Qy ps f (nx a)).2):=fun f a h=>by
  rw[jC]at h;rw[jH,Qy,if_pos h]
 have kH:∀(f:Nat)(a:Int),ok a=false->Qy ps (f+1) a=([],a):=fun f a h=>by
  rw[jC]at h;rw[Qy,if_neg (by rw[h];exact Bool.false_ne_true)]
 rw[hR];clear qu vN yX jC jH hR h2 ho qU hq hb;refine fnN (csR (Q8 ps) (.slc 3 [.agg [.val (.int .i64 o.kind),.val (.int .i64 o.from_),.val (.int .i64 o.to)],.agg [.val (.int .i64 nm.kind),.val (.int .i64 nm.from_),.val (.int .i64 nm.to)]]) (.slc 3 [.agg [.val (.int .i64 q.kind),.val (.int .i64 q.from_),.val (.int .i64 q.to)]]) 2 b b1 ce ok nx) func49 rfl fun _ _=>?_
 with_reducible refine cv2 (Q8 ps) (Q0 l) ?_
 have en:=hn.eq
 repeat' first
  |exact cP
  |exact c22
  |exact cA 2 (by omega) js
  |(with_reducible refine And.intro (fun hx=>absurd hx (by simp[std])) ?_)
  |(with_reducible refine And.intro (by (first|(simp[std,Q3t,AV.cells,intOf];done)|exact cP|exact c22|exact cA 2 (by omega) js)) ?_)
  |(with_reducible refine zA ?_ ?_)
  |(with_reducible intro _)
 refine Q1h (csR (Q8 ps) (.slc 3 [.agg [.val (.int .i64 o.kind),.val (.int .i64 o.from_),.val (.int .i64 o.to)],.agg [.val (.int .i64 nm.kind),.val (.int .i64 nm.from_),.val (.int .i64 nm.to)]]) (.slc 3 [.agg [.val (.int .i64 q.kind),.val (.int .i64 q.from_),.val (.int .i64 q.to)]]) 2 b b1 ce ok nx) (List TAttr×Int) (fun x=>⟨[(6,.box 0 0),(7,.box 1 0),(8,.box 2 0),(9,.slc 3 [.agg [.val (.int .i64 o.kind),.val (.int .i64 o.from_),.val (.int .i64 o.to)],.agg [.val (.int .i64 nm.kind),.val (.int .i64 nm.from_),.val (.int .i64 nm.to)]]),(10,.box 3 0),(11,.val (.bool (ok x.2)))],[.box [.val (.int .i64 0),.val (.int .i64 0),.val (.int .i64 0),.val (.slice none 0 0),.val (.bool false),.val (.bool false)],.box [.val (.int .i64 nm.kind),.val (.int .i64 nm.from_),.val (.int .i64 nm.to),.row 4 0,.val (.bool false),.val (.bool false)],.box [.slc 3 (Q8 ps),.val (.int .i64 (nx x.2))],.box [.val (.int .i64 (ce x.2 0)),.val (.int .i64 (ce x.2 1)),.val (.int .i64 (ce x.2 2)),.val (.int .i64 (ce x.2 3)),.val (.int .i64 (ce x.2 4)),.val (.int .i64 (ce x.2 5)),.val (.int .i64 (ce x.2 6)),.val (.int .i64 (ce x.2 7)),.val (.int .i64 (ce x.2 8))],.row 119 9 false 0 (Qh x.1)]⟩) (fun x=>0<=x.2/\x.2<=n/\(∃f:Nat,n-x.2<f/\x.1++(Qy ps f x.2).1=ats/\(Qy ps f x.2).2=ae)/\x.1.length<=x.2.toNat) (fun x=>(n-x.2).toNat) ([],2) ?_ ?_ ?_
 ·exact⟨by simp,js,⟨ps.length+1,by simp only;omega,by rw[q6];rfl,by rw[v7]⟩,by simp⟩
 ·exact⟨[some 0,some 1,some 2,some 4,none],_,rfl,by simp[Qe,lk,std,AV.cells,intOf,Qh]⟩
 ·rintro⟨out,a⟩ ⟨jq,qE,⟨f,jb,j5,qJ⟩,gD⟩
  simp only at jq qE jb j5 qJ gD
  have jR:=Q3v out;obtain⟨f,rfl⟩:∃f',f=f'+1:=⟨f-1,by omega⟩
  cases jl:ok a with
  |true =>
   have e1:=vr a jq qE jl;have cN:=cA (nx a) (by omega) e1.2
   rw[hgo f a jl]at j5 qJ;have hG:out++[QH ps a]++(Qy ps f (nx a)).1=ats:=by rw[<-j5];simp
   have yu:=vQ a;have yY:n-nx a<f:=by omega
   have yZ:(out++[QH ps a]).length<=(nx a).toNat:=by simp only[List.length_append,List.length_singleton];omega
   have hJ6:out.length<=1000000:=by omega
   clear en jb;with_reducible refine cv3 (Q8 ps) (Q0 l) (Qh out) ?_
   repeat' first
    |exact cN
    |(with_reducible refine And.intro (fun _=>?_) (fun hx=>absurd (jl.symm.trans hx) (by decide)))
    |(with_reducible refine And.intro (by (first|exact cN|(simp[std,jR];omega))) ?_)
    |(with_reducible intro _)
   refine⟨(out++[QH ps a],nx a),⟨by simp only;omega,e1.2,⟨f,yY,hG,qJ⟩,yZ⟩,by simp only;omega,[some 0,some 1,some 2,some 6,some 4],_,rfl,?_⟩
   simp[Qe,lk,std,Q4S,yu]
  |false =>
   have e1:=kG a jl;rw[kH f a jl]at j5 qJ;simp only[List.append_nil]at j5 qJ;have px:out.length<=1000000:=by omega
   rw[e1,qJ];subst j5;clear en jb;with_reducible refine cv3 (Q8 ps) (Q0 l) (Qh out) ?_
   repeat' first
    |(with_reducible refine And.intro (fun hx=>absurd (jl.symm.trans hx) (by decide)) (fun _=>?_))
    |(with_reducible intro _)
   rw[if_pos trivial];with_reducible refine cv3 (Q8 ps) (Q0 l) (Qh out) ?_
   have en:=hn.eq;have hpl2:=Q1d ps;have xW:(((Q8 ps).length:Nat):Int)=n:=by omega
   refine⟨c50,c53,fun h=>absurd h (by simp[std]),fun h=>?_,fun h=>?_⟩
   ·have h:b1<n:=by simpa[std,xW]using h
    rw[if_neg (by omega)]
    exact .pure rfl ⟨.inl rfl,.inl rfl,.inl rfl,.inl rfl,.inl rfl,.inl rfl,trivial⟩
   ·have h:¬b1<n:=by simpa[std,xW]using h
    rw[if_pos (by omega)]
    simp only
    obtain⟨x,hx⟩:=exq (q.to-q.from_);obtain⟨y,hy⟩:=exq (o.to-o.from_);rw[<-hx,<-hy];have yG:=hx.symm;have vZ:=hy.symm;with_reducible repeat' first|refine aU (zA yG <| zA vZ jR) ?_|refine zA ?_ ?_|(intro hb;try simp[std,S1,yG,vZ,jR]at hb)
    all_goals
     refine .pure rfl ⟨.inl rfl,.inl rfl,.inl rfl,.inl rfl,.inl ?_,.inl ?_,trivial⟩
    all_goals
     clear cP c22 c50 c53 cA vr kG vQ hgo kH hx hy q6 v7 en xW hpl2
    all_goals first
     |(simp[*,std,AV.cells,intOf,Q2x];done)
     |(simp_all [std,AV.cells,intOf,Q2x];done)
     |trace_state
