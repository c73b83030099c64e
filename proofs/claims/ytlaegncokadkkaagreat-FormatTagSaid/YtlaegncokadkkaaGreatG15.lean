/- Lemmas, conditions told -/
import Derived.Test.YtlaegncokadkkaaGreatG14
set_option maxRecDepth 99999
set_option maxHeartbeats 0
set_option linter.unusedSimpArgs false
set_option linter.unusedVariables false
namespace Go.Proofs.YtlaegncokadkkaaGreat
open Go.RowKit Go.Lib
section
open Tryz
theorem Qbe{l:List TPart}{a:Int}(h0:0<=a)(h1:a<=l.length){x:TAttr}{b:Int}(h:Q1b l a=some (x,b)):a<b/\b<=l.length:=by
 have sk:∀(a:Int)(k:Int),0<=a->a<=l.length->a<=Q35 l a k/\Q35 l a k<=l.length:=fun a k h2 h3=>by
  obtain⟨h4,h5,_⟩:=Q4D l a k h2 h3;rcases h4 with h4|h4<;>omega
 have hit:∀(a:Int)(k:Int),0<=a->a<=l.length->Qz l a.toNat [k]=true->a<l.length:=fun a k h2 h3 h4=>by
  have:=(Q2Y (l:=l) (a:=a.toNat) (ks:=[k]) (by omega)).1 h4
  simp only[List.length_singleton]at this;omega
 unfold Q1b at h;split at h
 ·rename_i h2
  have g1:=hit a 3 h0 h1 h2.1;have g2:=hit (a+1) 2 (by omega) (by omega) h2.2
  have g3:=sk (a+2) 3 (by omega) (by omega)
  simp only at h
  split at h
  ·rename_i h3
   have g4:=hit _ 4 (by omega) g3.2 h3
   have g5:=sk (Q35 l (a+2) 3+1) 3 (by omega) (by omega)
   split at h
   ·rename_i h4
    have g6:=hit _ 5 (by omega) g5.2 h4
    have:=Option.some.inj h
    have:=(Prod.mk.inj this).2
    omega
   ·cases h
  ·cases h
 ·cases h
theorem Q64{l:List TPart}{a:Int}(h0:0<=a)(h1:a<=l.length)(h:Q17 l a=true):a<Q1f l a/\Q1f l a<=l.length:=by
 unfold Q17 at h;unfold Q1f;cases hg:Q1b l a with
 |none=>rw[hg]at h;cases h
 |some x=>exact Qbe h0 h1 hg
theorem Qb7{l:List TPart}{a:Int}(h:Q17 l a=false):Q1f l a=a:=by
 unfold Q17 at h;unfold Q1f;cases hg:Q1b l a with
 |none=>rfl
 |some x=>rw[hg]at h;cases h
def Qi(l:List TPart):Nat->Int->List TAttr×Int
 |0,a=>([],a)
 |f+1,a=>if Q17 l a=true then(Qq l a::(Qi l f (Q1f l a)).1,(Qi l f (Q1f l a)).2)else([],a)
structure TTag where
 name:TPart
 attrs:List TAttr
 right:Bool
 empty:Bool
def Q19(ps:List TPart):TTag :=
 if Qz ps 0 [1,2]=true then
  let q:=Qi ps (ps.length+1) 2
  let b:=Q35 ps q.2 3
  if Qz ps b.toNat [6]=true/\(ps.length:Int)<=b+1 then
   let e:=decide ((ps[b.toNat]?.getD Qe).to-(ps[b.toNat]?.getD Qe).from_=2)
   let r:=decide ((ps[0]?.getD Qe).to-(ps[0]?.getD Qe).from_=1)||(decide (q.1.length=0)&&!e)
   ⟨ps[1]?.getD Qe,q.1,r,e&&r⟩
  else⟨ps[1]?.getD Qe,q.1,false,false⟩
 else⟨Qe,[],false,false⟩
def Qa(l:List Int)(from_ to:Int):TTag:=Q19 (QI l from_ to)
theorem Q51(r:List Int):∀(n:Nat)(r:List Int)(at_:Int)(first:Bool),r.length<=n->∀x∈QQ at_ first r,at_<=x.from_/\x.from_<x.to/\x.to<=at_+r.length:=by
 intro n;induction n with
 |zero =>
  intro r at_ first h x hx
  have:r=[]:=List.eq_nil_of_length_eq_zero (by omega)
  rw[this,QQ,dif_pos rfl]at hx;cases hx
 |succ n ih =>
  intro r at_ first h x hx
  by_cases hr:r=[]
  ·rw[hr,QQ,dif_pos rfl]at hx;cases hx
  ·have hn:=Q5z r first hr
   rw[QQ,dif_neg hr]at hx;rcases List.mem_cons.1 hx with rfl|hx
   ·simp only;omega
   ·have:=ih (r.drop (QE r first).2.toNat) _ false (by rw[List.length_drop];omega) x hx
    rw[List.length_drop]at this;omega
def Qdr(ps:List TPart):Prop:=∀x∈ps,0<=x.from_/\x.from_<=x.to/\x.to<=1000000000
theorem Q4U{ps:List TPart}(h:Qdr ps)(i:Nat):0<=(ps[i]?.getD Qe).from_/\(ps[i]?.getD Qe).from_<=(ps[i]?.getD Qe).to/\(ps[i]?.getD Qe).to<=1000000000:=by
 cases hi:ps[i]? with
 |none=>simp[Qe]
 |some x=>exact h x (List.mem_of_getElem? hi)
theorem Q4a(a b:List TAttr):Qj (a++b)=Qj a++Qj b:=by simp[Qj]
theorem Q1X(a:List TAttr):(Qj a).length=a.length:=by simp[Qj]
def csR(ps:List AV)(r22 r53:AV)(a22 a50 a53:Int)(ce:Int->Nat->Int)(ok:Int->Bool)(nx:Int->Int):Nat->List AV->List Ob->Option (AV×List Ob):=fun f args ob=>match f with
 |30=>some (.slc 3 ps,[])
 |32=>match ob with
  | [.box [q,.val (.int .i64 a)]]=>some (.tup [.agg [.val (.int .i64 (ce a 0)),.val (.int .i64 (ce a 1)),.val (.int .i64 (ce a 2)),.val (.int .i64 (ce a 3)),.val (.int .i64 (ce a 4)),.val (.int .i64 (ce a 5)),.val (.int .i64 (ce a 6)),.val (.int .i64 (ce a 7)),.val (.int .i64 (ce a 8))],.val (.bool (ok a))],[.box [q,.val (.int .i64 (nx a))]])
  |_=>none
 |1000022=>match ob with
  | [.box [q,_]]=>some (r22,[.box [q,.val (.int .i64 a22)]])
  |_=>none
 |1000050=>match ob with
  | [.box [q,_]]=>some (.dead,[.box [q,.val (.int .i64 a50)]])
  |_=>none
 |1000053=>match ob with
  | [.box [q,_]]=>some (r53,[.box [q,.val (.int .i64 a53)]])
  |_=>none
 |_=>none
def ceF(ps:List TPart)(a:Int)(j:Nat):Int:=intOf ((Qq ps a).cs.getD j .dead)
theorem Qgs(l:List Int)(hl:l.length<=1000000000)(from_ to:Int)(h0:0<=from_)(h1:from_<=to)(h2:to<=l.length)(ps:List TPart)(qD:ps=QI l from_ to)(jw:ps.length<=1000000000)(vr:Qz ps 0 [1,2]=false) :
  BCall prog 10 [.slc 1 (Q0 l),.val (.int .i64 from_),.val (.int .i64 to)] [] (.agg [.val (.int .i64 0),.val (.int .i64 0),.val (.int .i64 0),.slc 9 [],.val (.bool false),.val (.bool false)]) []:=by
 have cP:=QbY l hl from_ to h0 h1 h2;rw[<-qD]at cP;have c22:=Q2s ps jw 0 (by omega) (by omega) [1,2] (by simp) vr
 clear h2;refine fnN (csR (Q3 ps) (.val (.slice none 0 0)) .dead 0 0 0 (fun _ _=>0) (fun _=>false) (fun a=>a)) func10 rfl fun _ _=>?_
 with_reducible refine cv2 (Q3 ps) (Q0 l) ?_
 exact⟨cP,c22,.pure rfl ⟨.inl rfl,.inl rfl,.inl rfl,.inr (.inl ⟨rfl,_,rfl⟩),.inl rfl,.inl rfl,trivial⟩⟩
theorem Q27{l:List TPart}:∀(f:Nat)(a:Int),0<=a->a<=l.length->a<=(Qi l f a).2/\(Qi l f a).2<=l.length
 |0,a,h0,h1=>⟨Int.le_refl _,h1⟩
 |f+1,a,h0,h1=>by
  rw[Qi];split
  ·rename_i h
   have h2:=Q64 h0 h1 h;have h3:=Q27 (l:=l) f (Q1f l a) (by omega) h2.2
   simp only;omega
  ·exact⟨Int.le_refl _,h1⟩
theorem Qhb(l:List Int)(hl:l.length<=1000000000)(from_ to:Int)(h0:0<=from_)(h1:from_<=to)(h2:to<=l.length)(ps:List TPart)(qD:ps=QI l from_ to)(jw:ps.length<=1000000)(zN:Qdr ps)(vr:Qz ps 0 [1,2]=true)
  (qY:Qz ps (Q35 ps (Qi ps (ps.length+1) 2).2 3).toNat [6]=false) :
  BCall prog 10 [.slc 1 (Q0 l),.val (.int .i64 from_),.val (.int .i64 to)] [] (.agg [.val (.int .i64 (Q19 ps).name.kind),.val (.int .i64 (Q19 ps).name.from_),.val (.int .i64 (Q19 ps).name.to),.slc 9 (Qj (Q19 ps).attrs),.val (.bool (Q19 ps).right),.val (.bool (Q19 ps).empty)]) []:=by
 have cP:=QbY l hl from_ to h0 h1 h2;rw[<-qD]at cP;obtain⟨n,hn⟩:=QC ps
 have qZ:2<=n:=by
  have:=(Q2Y (l:=ps) (a:=0) (ks:=[1,2]) (by omega)).1 vr
  simp only[List.length_cons,List.length_nil]at this;rw[hn.eq];omega
 have qi:n<=1000000:=by rw[hn.eq];omega
 obtain⟨o,ho⟩:=exq (ps[0]?.getD Qe);obtain⟨nm,qG⟩:=exq (ps[1]?.getD Qe)
 have c22:=Q6d ps (by omega) 0 (by omega) (by omega) [1,2] (by simp) (.slc 3 [.agg [.val (.int .i64 o.kind),.val (.int .i64 o.from_),.val (.int .i64 o.to)],.agg [.val (.int .i64 nm.kind),.val (.int .i64 nm.from_),.val (.int .i64 nm.to)]]) 2
  (fun _=>⟨by
    have e:=hn.eq;match ps,qZ,e,ho,qG with
    | [],h,e,_,_=>simp at e;omega
    | [_],h,e,_,_=>simp at e;omega
    |x::y::r,_,_,ho,hq=>rw[ho,hq];rfl,rfl⟩) (fun h=>by rw[show(0:Int).toNat=0 from rfl,vr]at h;cases h)
 obtain⟨ats,jN⟩:=exq ((Qi ps (ps.length+1) 2).1);obtain⟨ae,vC⟩:=exq ((Qi ps (ps.length+1) 2).2);rw[<-vC]at qY
 have q6:0<=ae/\ae<=n:=by
  have e:=hn.eq;have:=Q27 (l:=ps) (ps.length+1) 2 (by omega) (by omega)
  rw[<-vC]at this;omega
 obtain⟨b,hb⟩:=exq (Q35 ps ae 3)
 have vW:0<=b/\b<=n:=by
  have e:=hn.eq;have:=Q4D ps ae 3 q6.1 (by omega)
  rw[<-hb]at this;omega
 have c50:BCall prog 31 [.box 0 0,.slc 1 [.val (.int .i64 3)]] [.box [.slc 3 (Q3 ps),.val (.int .i64 ae)]] .dead [.box [.slc 3 (Q3 ps),.val (.int .i64 b)]]:=by
  rw[hb];exact(Q46 ps (by omega) ae q6.1 (by rw[<-hn.eq];exact q6.2) 3).2.2
 rw[<-hb]at qY;obtain⟨q,hq⟩:=exq (ps[b.toNat]?.getD Qe);obtain⟨b1,j9⟩:=exq (b+1);have c53:=Q2s ps (by omega) b vW.1 (by rw[<-hn.eq];exact vW.2) [6] (by simp) qY
 have hR:Q19 ps=⟨nm,ats,false,false⟩:=by
  simp only[Q19,vr,if_true,<-jN,<-vC,<-hb,qY,<-qG,Bool.false_eq_true,false_and,if_false]
 have so:=Q4U zN 0;have sq:=Q4U zN b.toNat;rw[<-ho]at so;rw[<-hq]at sq;obtain⟨ce,vv⟩:=exq (ceF ps);obtain⟨ok,jB⟩:=exq (Q17 ps);obtain⟨nx,jM⟩:=exq (Q1f ps)
 have cA:∀a:Int,0<=a->a<=n->BCall prog 32 [.box 0 0] [.box [.slc 3 (Q3 ps),.val (.int .i64 a)]] (.tup [.agg [.val (.int .i64 (ce a 0)),.val (.int .i64 (ce a 1)),.val (.int .i64 (ce a 2)),.val (.int .i64 (ce a 3)),.val (.int .i64 (ce a 4)),.val (.int .i64 (ce a 5)),.val (.int .i64 (ce a 6)),.val (.int .i64 (ce a 7)),.val (.int .i64 (ce a 8))],.val (.bool (ok a))]) [.box [.slc 3 (Q3 ps),.val (.int .i64 (nx a))]]:=fun a h3 h4=>by
  rw[vv,jB,jM];exact Qky ps (by omega) a h3 (by rw[<-hn.eq];exact h4)
 have yg:∀a:Int,0<=a->a<=n->ok a=true->a<nx a/\nx a<=n:=fun a h3 h4 h5=>by
  rw[jB]at h5;rw[jM,hn.eq];exact Q64 h3 (by rw[<-hn.eq];exact h4) h5
 have gb:∀a:Int,ok a=false->nx a=a:=fun a h3=>by rw[jB]at h3;rw[jM];exact Qb7 h3
 have qh:∀a:Int,Qj [Qq ps a]=[.agg [.val (.int .i64 (ce a 0)),.val (.int .i64 (ce a 1)),.val (.int .i64 (ce a 2)),.val (.int .i64 (ce a 3)),.val (.int .i64 (ce a 4)),.val (.int .i64 (ce a 5)),.val (.int .i64 (ce a 6)),.val (.int .i64 (ce a 7)),.val (.int .i64 (ce a 8))]]:=fun a=>by rw[vv];rfl
 have p9:∀(f:Nat)(a:Int),ok a=true->Qi ps (f+1) a=(Qq ps a::(Qi ps f (nx a)).1,(Qi ps f (nx a)).2):=fun f a h=>by
  rw[jB]at h;rw[jM,Qi,if_pos h]
 have gc:∀(f:Nat)(a:Int),ok a=false->Qi ps (f+1) a=([],a):=fun f a h=>by
  rw[jB]at h;rw[Qi,if_neg (by rw[h];exact Bool.false_ne_true)]
 rw[hR];clear qY vr vv jB jM hR h2 ho qG hq hb;refine fnN (csR (Q3 ps) (.slc 3 [.agg [.val (.int .i64 o.kind),.val (.int .i64 o.from_),.val (.int .i64 o.to)],.agg [.val (.int .i64 nm.kind),.val (.int .i64 nm.from_),.val (.int .i64 nm.to)]]) (.val (.slice none 0 0)) 2 b b ce ok nx) func10 rfl fun _ _=>?_
 with_reducible refine cv2 (Q3 ps) (Q0 l) ?_
 have en:=hn.eq
 repeat' first
  |exact cP
  |exact c22
  |exact cA 2 (by omega) qZ
  |(with_reducible refine And.intro (fun hx=>absurd hx (by simp[std])) ?_)
  |(with_reducible refine And.intro (by (first|(simp[std,Q3R,AV.cells,intOf];done)|exact cP|exact c22|exact cA 2 (by omega) qZ)) ?_)
  |(with_reducible refine And.intro ?_ ?_)
  |(with_reducible intro _)
 refine Q1p (csR (Q3 ps) (.slc 3 [.agg [.val (.int .i64 o.kind),.val (.int .i64 o.from_),.val (.int .i64 o.to)],.agg [.val (.int .i64 nm.kind),.val (.int .i64 nm.from_),.val (.int .i64 nm.to)]]) (.val (.slice none 0 0)) 2 b b ce ok nx) (List TAttr×Int) (fun x=>⟨[(6,.box 0 0),(7,.box 1 0),(8,.box 2 0),(9,.slc 3 [.agg [.val (.int .i64 o.kind),.val (.int .i64 o.from_),.val (.int .i64 o.to)],.agg [.val (.int .i64 nm.kind),.val (.int .i64 nm.from_),.val (.int .i64 nm.to)]]),(10,.box 3 0),(11,.val (.bool (ok x.2)))],[.box [.val (.int .i64 0),.val (.int .i64 0),.val (.int .i64 0),.val (.slice none 0 0),.val (.bool false),.val (.bool false)],.box [.val (.int .i64 nm.kind),.val (.int .i64 nm.from_),.val (.int .i64 nm.to),.row 4 0,.val (.bool false),.val (.bool false)],.box [.slc 3 (Q3 ps),.val (.int .i64 (nx x.2))],.box [.val (.int .i64 (ce x.2 0)),.val (.int .i64 (ce x.2 1)),.val (.int .i64 (ce x.2 2)),.val (.int .i64 (ce x.2 3)),.val (.int .i64 (ce x.2 4)),.val (.int .i64 (ce x.2 5)),.val (.int .i64 (ce x.2 6)),.val (.int .i64 (ce x.2 7)),.val (.int .i64 (ce x.2 8))],.row 43 9 false 0 (Qj x.1)]⟩) (fun x=>0<=x.2/\x.2<=n/\(∃f:Nat,n-x.2<f/\x.1++(Qi ps f x.2).1=ats/\(Qi ps f x.2).2=ae)/\x.1.length<=x.2.toNat) (fun x=>(n-x.2).toNat) ([],2) ?_ ?_ ?_
 ·exact⟨by simp,qZ,⟨ps.length+1,by simp only;omega,by rw[jN];rfl,by rw[vC]⟩,by simp⟩
 ·exact⟨[some 0,some 1,some 2,some 4,none],_,rfl,by simp[Qf,lk,std,AV.cells,intOf,Qj]⟩
 ·rintro⟨out,a⟩ ⟨q8,qU,⟨f,js,jb,jy⟩,zO⟩
  simp only at q8 qU js jb jy zO
  have jP:=Q1X out;obtain⟨f,rfl⟩:∃f',f=f'+1:=⟨f-1,by omega⟩
  cases jm:ok a with
  |true =>
   have e1:=yg a q8 qU jm;have cN:=cA (nx a) (by omega) e1.2
   rw[p9 f a jm]at jb jy;have hG:out++[Qq ps a]++(Qi ps f (nx a)).1=ats:=by rw[<-jb];simp
   have zI:=qh a;have vw:n-nx a<f:=by omega
   have vy:(out++[Qq ps a]).length<=(nx a).toNat:=by simp only[List.length_append,List.length_singleton];omega
   have hJ6:out.length<=1000000:=by omega
   clear en js;with_reducible refine cv3 (Q3 ps) (Q0 l) (Qj out) ?_
   repeat' first
    |exact cN
    |(with_reducible refine And.intro (fun _=>?_) (fun hx=>absurd (jm.symm.trans hx) (by decide)))
    |(with_reducible refine And.intro (by (first|exact cN|(simp[std,jP];omega))) ?_)
    |(with_reducible intro _)
   refine⟨(out++[Qq ps a],nx a),⟨by simp only;omega,e1.2,⟨f,vw,hG,jy⟩,vy⟩,by simp only;omega,[some 0,some 1,some 2,some 6,some 4],_,rfl,?_⟩
   simp[Qf,lk,std,Q4a,zI]
  |false =>
   have e1:=gb a jm;rw[gc f a jm]at jb jy;simp only[List.append_nil]at jb jy;have pa:out.length<=1000000:=by omega
   rw[e1,jy];subst jb;clear en js;with_reducible refine cv3 (Q3 ps) (Q0 l) (Qj out) ?_
   repeat' first
    |(with_reducible refine And.intro (fun hx=>absurd (jm.symm.trans hx) (by decide)) (fun _=>?_))
    |(with_reducible intro _)
   rw[if_pos trivial];with_reducible refine cv3 (Q3 ps) (Q0 l) (Qj out) ?_
   exact⟨c50,c53,.pure rfl ⟨.inl rfl,.inl rfl,.inl rfl,.inl rfl,.inl rfl,.inl rfl,trivial⟩⟩
theorem QjI(l:List Int)(hl:l.length<=1000000000)(from_ to:Int)(h0:0<=from_)(h1:from_<=to)(h2:to<=l.length)(ps:List TPart)(qD:ps=QI l from_ to)(jw:ps.length<=1000000)(zN:Qdr ps)(vr:Qz ps 0 [1,2]=true)
  (qY:Qz ps (Q35 ps (Qi ps (ps.length+1) 2).2 3).toNat [6]=true) :
  BCall prog 10 [.slc 1 (Q0 l),.val (.int .i64 from_),.val (.int .i64 to)] [] (.agg [.val (.int .i64 (Q19 ps).name.kind),.val (.int .i64 (Q19 ps).name.from_),.val (.int .i64 (Q19 ps).name.to),.slc 9 (Qj (Q19 ps).attrs),.val (.bool (Q19 ps).right),.val (.bool (Q19 ps).empty)]) []:=by
 have cP:=QbY l hl from_ to h0 h1 h2;rw[<-qD]at cP;obtain⟨n,hn⟩:=QC ps
 have qZ:2<=n:=by
  have:=(Q2Y (l:=ps) (a:=0) (ks:=[1,2]) (by omega)).1 vr
  simp only[List.length_cons,List.length_nil]at this;rw[hn.eq];omega
 have qi:n<=1000000:=by rw[hn.eq];omega
 obtain⟨o,ho⟩:=exq (ps[0]?.getD Qe);obtain⟨nm,qG⟩:=exq (ps[1]?.getD Qe)
 have c22:=Q6d ps (by omega) 0 (by omega) (by omega) [1,2] (by simp) (.slc 3 [.agg [.val (.int .i64 o.kind),.val (.int .i64 o.from_),.val (.int .i64 o.to)],.agg [.val (.int .i64 nm.kind),.val (.int .i64 nm.from_),.val (.int .i64 nm.to)]]) 2
  (fun _=>⟨by
    have e:=hn.eq;match ps,qZ,e,ho,qG with
    | [],h,e,_,_=>simp at e;omega
    | [_],h,e,_,_=>simp at e;omega
    |x::y::r,_,_,ho,hq=>rw[ho,hq];rfl,rfl⟩) (fun h=>by rw[show(0:Int).toNat=0 from rfl,vr]at h;cases h)
 obtain⟨ats,jN⟩:=exq ((Qi ps (ps.length+1) 2).1);obtain⟨ae,vC⟩:=exq ((Qi ps (ps.length+1) 2).2);rw[<-vC]at qY
 have q6:0<=ae/\ae<=n:=by
  have e:=hn.eq;have:=Q27 (l:=ps) (ps.length+1) 2 (by omega) (by omega)
  rw[<-vC]at this;omega
 obtain⟨b,hb⟩:=exq (Q35 ps ae 3)
 have vW:0<=b/\b<=n:=by
  have e:=hn.eq;have:=Q4D ps ae 3 q6.1 (by omega)
  rw[<-hb]at this;omega
 have c50:BCall prog 31 [.box 0 0,.slc 1 [.val (.int .i64 3)]] [.box [.slc 3 (Q3 ps),.val (.int .i64 ae)]] .dead [.box [.slc 3 (Q3 ps),.val (.int .i64 b)]]:=by
  rw[hb];exact(Q46 ps (by omega) ae q6.1 (by rw[<-hn.eq];exact q6.2) 3).2.2
 rw[<-hb]at qY;obtain⟨q,hq⟩:=exq (ps[b.toNat]?.getD Qe);obtain⟨b1,j9⟩:=exq (b+1);have c53:=(Q2T ps (by omega) b vW.1 (by rw[<-hn.eq];exact vW.2) 6 qY).2
 rw[<-hq,<-j9]at c53
 have hR:Q19 ps=if n<=b1 then⟨nm,ats,decide (o.to-o.from_=1)||(decide (ats.length=0)&&!decide (q.to-q.from_=2)),decide (q.to-q.from_=2)&&(decide (o.to-o.from_=1)||(decide (ats.length=0)&&!decide (q.to-q.from_=2)))⟩else⟨nm,ats,false,false⟩:=by
  simp only[Q19,vr,if_true,<-jN,<-vC,<-hb,qY,<-hq,<-ho,<-qG,true_and,hn.eq,j9]
 have so:=Q4U zN 0;have sq:=Q4U zN b.toNat;rw[<-ho]at so;rw[<-hq]at sq;obtain⟨ce,vv⟩:=exq (ceF ps);obtain⟨ok,jB⟩:=exq (Q17 ps);obtain⟨nx,jM⟩:=exq (Q1f ps)
 have cA:∀a:Int,0<=a->a<=n->BCall prog 32 [.box 0 0] [.box [.slc 3 (Q3 ps),.val (.int .i64 a)]] (.tup [.agg [.val (.int .i64 (ce a 0)),.val (.int .i64 (ce a 1)),.val (.int .i64 (ce a 2)),.val (.int .i64 (ce a 3)),.val (.int .i64 (ce a 4)),.val (.int .i64 (ce a 5)),.val (.int .i64 (ce a 6)),.val (.int .i64 (ce a 7)),.val (.int .i64 (ce a 8))],.val (.bool (ok a))]) [.box [.slc 3 (Q3 ps),.val (.int .i64 (nx a))]]:=fun a h3 h4=>by
  rw[vv,jB,jM];exact Qky ps (by omega) a h3 (by rw[<-hn.eq];exact h4)
 have yg:∀a:Int,0<=a->a<=n->ok a=true->a<nx a/\nx a<=n:=fun a h3 h4 h5=>by
  rw[jB]at h5;rw[jM,hn.eq];exact Q64 h3 (by rw[<-hn.eq];exact h4) h5
 have gb:∀a:Int,ok a=false->nx a=a:=fun a h3=>by rw[jB]at h3;rw[jM];exact Qb7 h3
 have qh:∀a:Int,Qj [Qq ps a]=[.agg [.val (.int .i64 (ce a 0)),.val (.int .i64 (ce a 1)),.val (.int .i64 (ce a 2)),.val (.int .i64 (ce a 3)),.val (.int .i64 (ce a 4)),.val (.int .i64 (ce a 5)),.val (.int .i64 (ce a 6)),.val (.int .i64 (ce a 7)),.val (.int .i64 (ce a 8))]]:=fun a=>by rw[vv];rfl
 have p9:∀(f:Nat)(a:Int),ok a=true->Qi ps (f+1) a=(Qq ps a::(Qi ps f (nx a)).1,(Qi ps f (nx a)).2):=fun f a h=>by
  rw[jB]at h;rw[jM,Qi,if_pos h]
 have gc:∀(f:Nat)(a:Int),ok a=false->Qi ps (f+1) a=([],a):=fun f a h=>by
  rw[jB]at h;rw[Qi,if_neg (by rw[h];exact Bool.false_ne_true)]
 rw[hR];clear qY vr vv jB jM hR h2 ho qG hq hb;refine fnN (csR (Q3 ps) (.slc 3 [.agg [.val (.int .i64 o.kind),.val (.int .i64 o.from_),.val (.int .i64 o.to)],.agg [.val (.int .i64 nm.kind),.val (.int .i64 nm.from_),.val (.int .i64 nm.to)]]) (.slc 3 [.agg [.val (.int .i64 q.kind),.val (.int .i64 q.from_),.val (.int .i64 q.to)]]) 2 b b1 ce ok nx) func10 rfl fun _ _=>?_
 with_reducible refine cv2 (Q3 ps) (Q0 l) ?_
 have en:=hn.eq
 repeat' first
  |exact cP
  |exact c22
  |exact cA 2 (by omega) qZ
  |(with_reducible refine And.intro (fun hx=>absurd hx (by simp[std])) ?_)
  |(with_reducible refine And.intro (by (first|(simp[std,Q3R,AV.cells,intOf];done)|exact cP|exact c22|exact cA 2 (by omega) qZ)) ?_)
  |(with_reducible refine And.intro ?_ ?_)
  |(with_reducible intro _)
 refine Q1p (csR (Q3 ps) (.slc 3 [.agg [.val (.int .i64 o.kind),.val (.int .i64 o.from_),.val (.int .i64 o.to)],.agg [.val (.int .i64 nm.kind),.val (.int .i64 nm.from_),.val (.int .i64 nm.to)]]) (.slc 3 [.agg [.val (.int .i64 q.kind),.val (.int .i64 q.from_),.val (.int .i64 q.to)]]) 2 b b1 ce ok nx) (List TAttr×Int) (fun x=>⟨[(6,.box 0 0),(7,.box 1 0),(8,.box 2 0),(9,.slc 3 [.agg [.val (.int .i64 o.kind),.val (.int .i64 o.from_),.val (.int .i64 o.to)],.agg [.val (.int .i64 nm.kind),.val (.int .i64 nm.from_),.val (.int .i64 nm.to)]]),(10,.box 3 0),(11,.val (.bool (ok x.2)))],[.box [.val (.int .i64 0),.val (.int .i64 0),.val (.int .i64 0),.val (.slice none 0 0),.val (.bool false),.val (.bool false)],.box [.val (.int .i64 nm.kind),.val (.int .i64 nm.from_),.val (.int .i64 nm.to),.row 4 0,.val (.bool false),.val (.bool false)],.box [.slc 3 (Q3 ps),.val (.int .i64 (nx x.2))],.box [.val (.int .i64 (ce x.2 0)),.val (.int .i64 (ce x.2 1)),.val (.int .i64 (ce x.2 2)),.val (.int .i64 (ce x.2 3)),.val (.int .i64 (ce x.2 4)),.val (.int .i64 (ce x.2 5)),.val (.int .i64 (ce x.2 6)),.val (.int .i64 (ce x.2 7)),.val (.int .i64 (ce x.2 8))],.row 43 9 false 0 (Qj x.1)]⟩) (fun x=>0<=x.2/\x.2<=n/\(∃f:Nat,n-x.2<f/\x.1++(Qi ps f x.2).1=ats/\(Qi ps f x.2).2=ae)/\x.1.length<=x.2.toNat) (fun x=>(n-x.2).toNat) ([],2) ?_ ?_ ?_
 ·exact⟨by simp,qZ,⟨ps.length+1,by simp only;omega,by rw[jN];rfl,by rw[vC]⟩,by simp⟩
 ·exact⟨[some 0,some 1,some 2,some 4,none],_,rfl,by simp[Qf,lk,std,AV.cells,intOf,Qj]⟩
 ·rintro⟨out,a⟩ ⟨q8,qU,⟨f,js,jb,jy⟩,zO⟩
  simp only at q8 qU js jb jy zO
  have jP:=Q1X out;obtain⟨f,rfl⟩:∃f',f=f'+1:=⟨f-1,by omega⟩
  cases jm:ok a with
  |true =>
   have e1:=yg a q8 qU jm;have cN:=cA (nx a) (by omega) e1.2
   rw[p9 f a jm]at jb jy;have hG:out++[Qq ps a]++(Qi ps f (nx a)).1=ats:=by rw[<-jb];simp
   have zI:=qh a;have vw:n-nx a<f:=by omega
   have vy:(out++[Qq ps a]).length<=(nx a).toNat:=by simp only[List.length_append,List.length_singleton];omega
   have hJ6:out.length<=1000000:=by omega
   clear en js;with_reducible refine cv3 (Q3 ps) (Q0 l) (Qj out) ?_
   repeat' first
    |exact cN
    |(with_reducible refine And.intro (fun _=>?_) (fun hx=>absurd (jm.symm.trans hx) (by decide)))
    |(with_reducible refine And.intro (by (first|exact cN|(simp[std,jP];omega))) ?_)
    |(with_reducible intro _)
   refine⟨(out++[Qq ps a],nx a),⟨by simp only;omega,e1.2,⟨f,vw,hG,jy⟩,vy⟩,by simp only;omega,[some 0,some 1,some 2,some 6,some 4],_,rfl,?_⟩
   simp[Qf,lk,std,Q4a,zI]
  |false =>
   have e1:=gb a jm;rw[gc f a jm]at jb jy;simp only[List.append_nil]at jb jy;have pa:out.length<=1000000:=by omega
   rw[e1,jy];subst jb;clear en js;with_reducible refine cv3 (Q3 ps) (Q0 l) (Qj out) ?_
   repeat' first
    |(with_reducible refine And.intro (fun hx=>absurd (jm.symm.trans hx) (by decide)) (fun _=>?_))
    |(with_reducible intro _)
   rw[if_pos trivial];with_reducible refine cv3 (Q3 ps) (Q0 l) (Qj out) ?_
   have en:=hn.eq;have hpl2:=QK ps;have ke:(((Q3 ps).length:Nat):Int)=n:=by omega
   refine⟨c50,c53,fun h=>absurd h (by simp[std]),fun h=>?_,fun h=>?_⟩
   ·have h:b1<n:=by simpa[std,ke]using h
    rw[if_neg (by omega)]
    exact .pure rfl ⟨.inl rfl,.inl rfl,.inl rfl,.inl rfl,.inl rfl,.inl rfl,trivial⟩
   ·have h:¬b1<n:=by simpa[std,ke]using h
    rw[if_pos (by omega)]
    simp only
    obtain⟨x,hx⟩:=exq (q.to-q.from_);obtain⟨y,hy⟩:=exq (o.to-o.from_);rw[<-hx,<-hy];have vt:=hx.symm;have vA:=hy.symm;with_reducible repeat' first|refine aU (zA vt <| zA vA jP) ?_|refine And.intro ?_ ?_|(intro hb;try simp[std,S1,vt,vA,jP]at hb)
    all_goals
     refine .pure rfl ⟨.inl rfl,.inl rfl,.inl rfl,.inl rfl,.inl ?_,.inl ?_,trivial⟩
    all_goals
     clear cP c22 c50 c53 cA yg gb qh p9 gc hx hy jN vC en ke hpl2
    all_goals first
     |(simp[*,std,AV.cells,intOf,Q3z];done)
     |(simp_all [std,AV.cells,intOf,Q3z];done)
     |trace_state
