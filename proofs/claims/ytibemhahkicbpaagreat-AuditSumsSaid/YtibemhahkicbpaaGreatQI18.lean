/-
  Parts of the proof, joined: TgT. Conditions: as each theorem says.
-/
import Derived.Test.YtibemhahkicbpaaGreatQI17
import Derived.Test.YtibemhahkicbpaaGreatQI13
set_option maxRecDepth 100000
set_option maxHeartbeats 8000000
namespace Go.Proofs.YtibemhahkicbpaaGreat
open Go.RowKit Go.Lib Tryz
theorem QfJ {l:List TPart}{a:Int}(h0:0≤a)(h1:a≤l.length){x:TAttr}{b:Int}(h:Q25 l a=some (x,b)):a<b∧b≤l.length:=by
 have sk:∀ (a:Int) (k:Int),0≤a→a≤l.length→a≤Q3e l a k∧Q3e l a k≤l.length:=fun a k h2 h3=>by
  obtain⟨h4,h5,_⟩:=Q75 l a k h2 h3
  rcases h4 with h4|h4<;>omega
 have hit:∀ (a:Int) (k:Int),0≤a→a≤l.length→QG l a.toNat [k]=true→a<l.length:=fun a k h2 h3 h4=>by
  have:=(Q1K (l:=l) (a:=a.toNat) (ks:=[k]) (by omega)).1 h4
  simp only[List.length_singleton] at this
  omega
 unfold Q25 at h
 split at h
 ·rename_i h2
  have g1:=hit a 3 h0 h1 h2.1
  have g2:=hit (a+1) 2 (by omega) (by omega) h2.2
  have g3:=sk (a+2) 3 (by omega) (by omega)
  simp only at h
  split at h
  ·rename_i h3
   have g4:=hit _ 4 (by omega) g3.2 h3
   have g5:=sk (Q3e l (a+2) 3+1) 3 (by omega) (by omega)
   split at h
   ·rename_i h4
    have g6:=hit _ 5 (by omega) g5.2 h4
    have:=Option.some.inj h
    have:=(Prod.mk.inj this).2
    omega
   ·cases h
  ·cases h
 ·cases h
theorem Q5o {l:List TPart}{a:Int}(h0:0≤a)(h1:a≤l.length)(h:Q24 l a=true):a<Q1z l a∧Q1z l a≤l.length:=by
 unfold Q24 at h
 unfold Q1z
 cases hg:Q25 l a with
 |none=>rw[hg] at h;cases h
 |some x=>exact QfJ h0 h1 hg
theorem Q9T {l:List TPart}{a:Int}(h:Q24 l a=false):Q1z l a=a:=by
 unfold Q24 at h
 unfold Q1z
 cases hg:Q25 l a with
 |none=>rfl
 |some x=>rw[hg] at h;cases h
def QE (l:List TPart):Nat→Int→List TAttr×Int
 |0,a=>([],a)
 |f+1,a=>if Q24 l a=true then (QY l a::(QE l f (Q1z l a)).1,(QE l f (Q1z l a)).2) else ([],a)
structure TTag where
 name:TPart
 attrs:List TAttr
 right:Bool
 empty:Bool
def Q1w (ps:List TPart):TTag :=
 if QG ps 0 [1,2]=true then
  let q:=QE ps (ps.length+1) 2
  let b:=Q3e ps q.2 3
  if QG ps b.toNat [6]=true∧(ps.length:Int)≤b+1 then
   let e:=decide ((ps[b.toNat]?.getD Qu).to-(ps[b.toNat]?.getD Qu).from_=2)
   let r:=decide ((ps[0]?.getD Qu).to-(ps[0]?.getD Qu).from_=1)||(decide (q.1.length=0)&&!e)
   ⟨ps[1]?.getD Qu,q.1,r,e&&r⟩
  else ⟨ps[1]?.getD Qu,q.1,false,false⟩
 else ⟨Qu,[],false,false⟩
def Qy (l:List Int)(from_ to:Int):TTag:=Q1w (Q12 l from_ to)
theorem Q4t (r:List Int):∀ (n:Nat) (r:List Int) (at_:Int) (first:Bool),r.length≤n→∀ x∈Qt at_ first r,at_≤x.from_∧x.from_<x.to∧x.to≤at_+r.length:=by
 intro n
 induction n with
 |zero =>
  intro r at_ first h x hx
  have:r=[]:=List.eq_nil_of_length_eq_zero (by omega)
  rw[this,Qt,dif_pos rfl] at hx
  cases hx
 |succ n ih =>
  intro r at_ first h x hx
  by_cases hr:r=[]
  ·rw[hr,Qt,dif_pos rfl] at hx;cases hx
  ·have hn:=Q3g r first hr
   rw[Qt,dif_neg hr] at hx
   rcases List.mem_cons.1 hx with rfl|hx
   ·simp only;omega
   ·have:=ih (r.drop (Qr r first).2.toNat) _ false (by rw[List.length_drop];omega) x hx
    rw[List.length_drop] at this
    omega
def Qe2 (ps:List TPart):Prop:=∀ x∈ps,0≤x.from_∧x.from_≤x.to∧x.to≤1000000000
theorem Q6A {ps:List TPart}(h:Qe2 ps)(i:Nat):0≤(ps[i]?.getD Qu).from_∧(ps[i]?.getD Qu).from_≤(ps[i]?.getD Qu).to∧(ps[i]?.getD Qu).to≤1000000000:=by
 cases hi:ps[i]? with
 |none=>simp[Qu]
 |some x=>exact h x (List.mem_of_getElem? hi)
theorem Q8R (a b:List TAttr):Qo (a++b)=Qo a++Qo b:=by simp[Qo]
theorem Q5X (a:List TAttr):(Qo a).length=a.length:=by simp[Qo]
def csR (ps:List AV)(r22 r53:AV)(a22 a50 a53:Int)(ce:Int→Nat→Int)(ok:Int→Bool)(nx:Int→Int):Nat→List AV→List Ob→Option (AV×List Ob):=fun f args ob=>match f with
 |100=>some (.slc 3 ps,[])
 |102=>match ob with
  | [.box [q,.val (.int .i64 a)]]=>some (.tup [.agg [.val (.int .i64 (ce a 0)),.val (.int .i64 (ce a 1)),.val (.int .i64 (ce a 2)),.val (.int .i64 (ce a 3)),.val (.int .i64 (ce a 4)),.val (.int .i64 (ce a 5)),.val (.int .i64 (ce a 6)),.val (.int .i64 (ce a 7)),.val (.int .i64 (ce a 8))],.val (.bool (ok a))],[.box [q,.val (.int .i64 (nx a))]])
  |_=>none
 |1000022=>match ob with
  | [.box [q,_]]=>some (r22,[.box [q,.val (.int .i64 a22)]])
  |_=>none
 |1000050=>match ob with
  | [.box [q,_]]=>some (.dead,[.box [q,.val (.int .i64 a50)]])
  |_=>none
 |1000053=>match ob with
  | [.box [q,_]]=>some (r53,[.box [q,.val (.int .i64 a53)]])
  |_=>none
 |_=>none
def ceF (ps:List TPart)(a:Int)(j:Nat):Int:=Qg ((QY ps a).cs.getD j .dead)
theorem QeV (l:List Int)(hl:l.length≤1000000000)(from_ to:Int)(h0:0≤from_)(h1:from_≤to)(h2:to≤l.length)(ps:List TPart)(hps:ps=Q12 l from_ to)(hpl:ps.length≤1000000000)(hop:QG ps 0 [1,2]=false) :
  BCall prog 49 [.slc 1 (Q1 l),.val (.int .i64 from_),.val (.int .i64 to)] [] (.agg [.val (.int .i64 0),.val (.int .i64 0),.val (.int .i64 0),.slc 9 [],.val (.bool false),.val (.bool false)]) []:=by
 have cP:=QaW l hl from_ to h0 h1 h2
 rw[←hps] at cP
 have c22:=Q2i ps hpl 0 (by omega) (by omega) [1,2] (by simp) hop
 clear h2
 refine fnN (cs:=csR (Qf ps) (.val (.slice none 0 0)) .dead 0 0 0 (fun _ _=>0) (fun _=>false) (fun a=>a)) func49 rfl (by kernel_rfl) ?_
 intro w0 g0
 generalize hp:std=p,hqs:Qf ps=qs,hrs:Q1 l=rs
 generalize hT:Q8 p tys (csR qs (.val (.slice none 0 0)) .dead 0 0 0 (fun _ _=>0) (fun _=>false) (fun a=>a)) _ _ _ _=T
 cbv at hT
 subst hT
 simp only[Tree.ok,Q4,S0]
 subst hp hqs hrs
 exact⟨cP,c22,.pure rfl ⟨.inl rfl,.inl rfl,.inl rfl,.inr (.inl ⟨rfl,_,rfl⟩),.inl rfl,.inl rfl,trivial⟩⟩
theorem Q3Y {l:List TPart}:∀ (f:Nat) (a:Int),0≤a→a≤l.length→a≤(QE l f a).2∧(QE l f a).2≤l.length
 |0,a,h0,h1=>⟨Int.le_refl _,h1⟩
 |f+1,a,h0,h1=>by
  rw[QE]
  split
  ·rename_i h
   have h2:=Q5o h0 h1 h
   have h3:=Q3Y (l:=l) f (Q1z l a) (by omega) h2.2
   simp only;omega
  ·exact⟨Int.le_refl _,h1⟩
theorem Qfq (l:List Int)(hl:l.length≤1000000000)(from_ to:Int)(h0:0≤from_)(h1:from_≤to)(h2:to≤l.length)(ps:List TPart)(hps:ps=Q12 l from_ to)(hpl:ps.length≤1000000)(hsm:Qe2 ps)(hop:QG ps 0 [1,2]=true)
  (hcl:QG ps (Q3e ps (QE ps (ps.length+1) 2).2 3).toNat [6]=false) :
  BCall prog 49 [.slc 1 (Q1 l),.val (.int .i64 from_),.val (.int .i64 to)] [] (.agg [.val (.int .i64 (Q1w ps).name.kind),.val (.int .i64 (Q1w ps).name.from_),.val (.int .i64 (Q1w ps).name.to),.slc 9 (Qo (Q1w ps).attrs),.val (.bool (Q1w ps).right),.val (.bool (Q1w ps).empty)]) []:=by
 have cP:=QaW l hl from_ to h0 h1 h2
 rw[←hps] at cP
 obtain⟨n,hn⟩:=QX ps
 have hn0:2≤n:=by
  have:=(Q1K (l:=ps) (a:=0) (ks:=[1,2]) (by omega)).1 hop
  simp only[List.length_cons,List.length_nil] at this
  rw[hn.eq];omega
 have hnm:n≤1000000:=by rw[hn.eq];omega
 obtain⟨o,ho⟩:=exq (ps[0]?.getD Qu)
 obtain⟨nm,hnmE⟩:=exq (ps[1]?.getD Qu)
 have c22:=Q5i ps (by omega) 0 (by omega) (by omega) [1,2] (by simp) (.slc 3 [.agg [.val (.int .i64 o.kind),.val (.int .i64 o.from_),.val (.int .i64 o.to)],.agg [.val (.int .i64 nm.kind),.val (.int .i64 nm.from_),.val (.int .i64 nm.to)]]) 2
  (fun _=>⟨by
    have e:=hn.eq
    match ps,hn0,e,ho,hnmE with
    | [],h,e,_,_=>simp at e;omega
    | [_],h,e,_,_=>simp at e;omega
    |x::y::r,_,_,ho,hq=>rw[ho,hq];rfl,rfl⟩) (fun h=>by rw[show (0:Int).toNat=0 from rfl,hop] at h;cases h)
 obtain⟨ats,hats⟩:=exq ((QE ps (ps.length+1) 2).1)
 obtain⟨ae,hae⟩:=exq ((QE ps (ps.length+1) 2).2)
 rw[←hae] at hcl
 have hae0:0≤ae∧ae≤n:=by
  have e:=hn.eq
  have:=Q3Y (l:=ps) (ps.length+1) 2 (by omega) (by omega)
  rw[←hae] at this
  omega
 obtain⟨b,hb⟩:=exq (Q3e ps ae 3)
 have hbr:0≤b∧b≤n:=by
  have e:=hn.eq
  have:=Q75 ps ae 3 hae0.1 (by omega)
  rw[←hb] at this
  omega
 have c50:BCall prog 101 [.box 0 0,.slc 1 [.val (.int .i64 3)]] [.box [.slc 3 (Qf ps),.val (.int .i64 ae)]] .dead [.box [.slc 3 (Qf ps),.val (.int .i64 b)]]:=by
  rw[hb];exact (Q3K ps (by omega) ae hae0.1 (by rw[←hn.eq];exact hae0.2) 3).2.2
 rw[←hb] at hcl
 obtain⟨q,hq⟩:=exq (ps[b.toNat]?.getD Qu)
 obtain⟨b1,hb1⟩:=exq (b+1)
 have c53:=Q2i ps (by omega) b hbr.1 (by rw[←hn.eq];exact hbr.2) [6] (by simp) hcl
 have hR:Q1w ps=⟨nm,ats,false,false⟩:=by
  simp only[Q1w,hop,if_true,←hats,←hae,←hb,hcl,←hnmE,Bool.false_eq_true,false_and,if_false]
 have so:=Q6A hsm 0
 have sq:=Q6A hsm b.toNat
 rw[←ho] at so
 rw[←hq] at sq
 obtain⟨ce,hce⟩:=exq (ceF ps)
 obtain⟨ok,hok⟩:=exq (Q24 ps)
 obtain⟨nx,hnx⟩:=exq (Q1z ps)
 have cA:∀ a:Int,0≤a→a≤n→BCall prog 102 [.box 0 0] [.box [.slc 3 (Qf ps),.val (.int .i64 a)]] (.tup [.agg [.val (.int .i64 (ce a 0)),.val (.int .i64 (ce a 1)),.val (.int .i64 (ce a 2)),.val (.int .i64 (ce a 3)),.val (.int .i64 (ce a 4)),.val (.int .i64 (ce a 5)),.val (.int .i64 (ce a 6)),.val (.int .i64 (ce a 7)),.val (.int .i64 (ce a 8))],.val (.bool (ok a))]) [.box [.slc 3 (Qf ps),.val (.int .i64 (nx a))]]:=fun a h3 h4=>by
  rw[hce,hok,hnx];exact QgM ps (by omega) a h3 (by rw[←hn.eq];exact h4)
 have hgt:∀ a:Int,0≤a→a≤n→ok a=true→a<nx a∧nx a≤n:=fun a h3 h4 h5=>by
  rw[hok] at h5;rw[hnx,hn.eq];exact Q5o h3 (by rw[←hn.eq];exact h4) h5
 have heq':∀ a:Int,ok a=false→nx a=a:=fun a h3=>by rw[hok] at h3;rw[hnx];exact Q9T h3
 have hone:∀ a:Int,Qo [QY ps a]=[.agg [.val (.int .i64 (ce a 0)),.val (.int .i64 (ce a 1)),.val (.int .i64 (ce a 2)),.val (.int .i64 (ce a 3)),.val (.int .i64 (ce a 4)),.val (.int .i64 (ce a 5)),.val (.int .i64 (ce a 6)),.val (.int .i64 (ce a 7)),.val (.int .i64 (ce a 8))]]:=fun a=>by rw[hce];rfl
 have hgo:∀ (f:Nat) (a:Int),ok a=true→QE ps (f+1) a=(QY ps a::(QE ps f (nx a)).1,(QE ps f (nx a)).2):=fun f a h=>by
  rw[hok] at h;rw[hnx,QE,if_pos h]
 have hgo':∀ (f:Nat) (a:Int),ok a=false→QE ps (f+1) a=([],a):=fun f a h=>by
  rw[hok] at h;rw[QE,if_neg (by rw[h];exact Bool.false_ne_true)]
 rw[hR]
 clear hcl hop hce hok hnx hR h2 ho hnmE hq hb
 refine fnN (cs:=csR (Qf ps) (.slc 3 [.agg [.val (.int .i64 o.kind),.val (.int .i64 o.from_),.val (.int .i64 o.to)],.agg [.val (.int .i64 nm.kind),.val (.int .i64 nm.from_),.val (.int .i64 nm.to)]]) (.val (.slice none 0 0)) 2 b b ce ok nx) func49 rfl (by kernel_rfl) ?_
 intro w0 g0
 generalize hp:std=p,hqs:Qf ps=qs,hrs:Q1 l=rs
 generalize hT:Q8 p tys (csR qs (.slc 3 [.agg [.val (.int .i64 o.kind),.val (.int .i64 o.from_),.val (.int .i64 o.to)],.agg [.val (.int .i64 nm.kind),.val (.int .i64 nm.from_),.val (.int .i64 nm.to)]]) (.val (.slice none 0 0)) 2 b b ce ok nx) _ _ _ _=T
 cbv at hT
 subst hT
 simp only[Tree.ok,Q4,S0]
 subst hp hqs hrs
 have en:=hn.eq
 repeat' first
  |exact cP
  |exact c22
  |exact cA 2 (by omega) hn0
  |(with_reducible refine And.intro (fun hx=>absurd hx (by simp[std])) ?_)
  |(with_reducible refine And.intro (by (first|(simp[std,Q2H,AV.cells,Qg];done)|exact cP|exact c22|exact cA 2 (by omega) hn0)) ?_)
  |(with_reducible refine And.intro ?_ ?_)
  |(with_reducible intro _)
 refine Q1P (cs:=csR (Qf ps) (.slc 3 [.agg [.val (.int .i64 o.kind),.val (.int .i64 o.from_),.val (.int .i64 o.to)],.agg [.val (.int .i64 nm.kind),.val (.int .i64 nm.from_),.val (.int .i64 nm.to)]]) (.val (.slice none 0 0)) 2 b b ce ok nx) (by kernel_rfl) (X:=List TAttr×Int) (fun x=>⟨[(6,.box 0 0),(7,.box 1 0),(8,.box 2 0),(9,.slc 3 [.agg [.val (.int .i64 o.kind),.val (.int .i64 o.from_),.val (.int .i64 o.to)],.agg [.val (.int .i64 nm.kind),.val (.int .i64 nm.from_),.val (.int .i64 nm.to)]]),(10,.box 3 0),(11,.val (.bool (ok x.2)))],[.box [.val (.int .i64 0),.val (.int .i64 0),.val (.int .i64 0),.val (.slice none 0 0),.val (.bool false),.val (.bool false)],.box [.val (.int .i64 nm.kind),.val (.int .i64 nm.from_),.val (.int .i64 nm.to),.row 4 0,.val (.bool false),.val (.bool false)],.box [.slc 3 (Qf ps),.val (.int .i64 (nx x.2))],.box [.val (.int .i64 (ce x.2 0)),.val (.int .i64 (ce x.2 1)),.val (.int .i64 (ce x.2 2)),.val (.int .i64 (ce x.2 3)),.val (.int .i64 (ce x.2 4)),.val (.int .i64 (ce x.2 5)),.val (.int .i64 (ce x.2 6)),.val (.int .i64 (ce x.2 7)),.val (.int .i64 (ce x.2 8))],.row 119 9 false 0 (Qo x.1)]⟩) (fun x=>0≤x.2∧x.2≤n∧(∃ f:Nat,n-x.2<f∧x.1++(QE ps f x.2).1=ats∧(QE ps f x.2).2=ae)∧x.1.length≤x.2.toNat) (fun x=>(n-x.2).toNat) ([],2) ?_ ?_ ?_
 ·exact⟨by simp,hn0,⟨ps.length+1,by simp only;omega,by rw[hats];rfl,by rw[hae]⟩,by simp⟩
 ·exact⟨[some 0,some 1,some 2,some 4,none],_,rfl,by simp[Qh,lk,std,AV.cells,Qg,Qo]⟩
 ·rintro⟨out,a⟩ ⟨hJ0,hJ1,⟨f,hJ2,hJ3,hJ4⟩,hJ5⟩
  simp only at hJ0 hJ1 hJ2 hJ3 hJ4 hJ5
  have hol:=Q5X out
  obtain⟨f,rfl⟩:∃ f',f=f'+1:=⟨f-1,by omega⟩
  cases hoka:ok a with
  |true =>
   have e1:=hgt a hJ0 hJ1 hoka
   have cN:=cA (nx a) (by omega) e1.2
   rw[hgo f a hoka] at hJ3 hJ4
   have hG:out++[QY ps a]++(QE ps f (nx a)).1=ats:=by rw[←hJ3];simp
   have ho1:=hone a
   have hJ2':n-nx a<f:=by omega
   have hJ5':(out++[QY ps a]).length≤(nx a).toNat:=by simp only[List.length_append,List.length_singleton];omega
   have hJ6:out.length≤1000000:=by omega
   clear en hJ2
   generalize hp:std=p,hqs:Qf ps=qs,hrs:Q1 l=rs,hu:Qo out=u
   generalize hT:Q8 p tys (csR qs (.slc 3 [.agg [.val (.int .i64 o.kind),.val (.int .i64 o.from_),.val (.int .i64 o.to)],.agg [.val (.int .i64 nm.kind),.val (.int .i64 nm.from_),.val (.int .i64 nm.to)]]) (.val (.slice none 0 0)) 2 b b ce ok nx) _ _ _ _=T
   cbv at hT
   subst hT
   simp only[Tree.ok,Q4,S0]
   subst hp hqs hrs hu
   repeat' first
    |exact cN
    |(with_reducible refine And.intro (fun _=>?_) (fun hx=>absurd (hoka.symm.trans hx) (by decide)))
    |(with_reducible refine And.intro (by (first|exact cN|(simp[std,hol];omega))) ?_)
    |(with_reducible intro _)
   refine⟨(out++[QY ps a],nx a),⟨by simp only;omega,e1.2,⟨f,hJ2',hG,hJ4⟩,hJ5'⟩,by simp only;omega,[some 0,some 1,some 2,some 6,some 4],_,rfl,?_⟩
   simp[Qh,lk,std,Q8R,ho1]
  |false =>
   have e1:=heq' a hoka
   rw[hgo' f a hoka] at hJ3 hJ4
   simp only[List.append_nil] at hJ3 hJ4
   have hoL:out.length≤1000000:=by omega
   rw[e1,hJ4]
   subst hJ3
   clear en hJ2
   generalize hp:std=p,hqs:Qf ps=qs,hrs:Q1 l=rs,hu:Qo out=u
   generalize hT:Q8 p tys (csR qs (.slc 3 [.agg [.val (.int .i64 o.kind),.val (.int .i64 o.from_),.val (.int .i64 o.to)],.agg [.val (.int .i64 nm.kind),.val (.int .i64 nm.from_),.val (.int .i64 nm.to)]]) (.val (.slice none 0 0)) 2 b b ce ok nx) _ _ _ _=T
   cbv at hT
   subst hT
   simp only[Tree.ok,Q4,S0]
   subst hp hqs hrs hu
   repeat' first
    |(with_reducible refine And.intro (fun hx=>absurd (hoka.symm.trans hx) (by decide)) (fun _=>?_))
    |(with_reducible intro _)
   rw[if_pos trivial]
   generalize hp:std=p,hqs:Qf ps=qs,hrs:Q1 l=rs,hu:Qo out=u
   generalize hT:Q8 p tys (csR qs (.slc 3 [.agg [.val (.int .i64 o.kind),.val (.int .i64 o.from_),.val (.int .i64 o.to)],.agg [.val (.int .i64 nm.kind),.val (.int .i64 nm.from_),.val (.int .i64 nm.to)]]) (.val (.slice none 0 0)) 2 b b ce ok nx) _ _ _ _=T
   cbv at hT
   subst hT
   simp only[Tree.ok,Q4,S0]
   subst hp hqs hrs hu
   exact⟨c50,c53,.pure rfl ⟨.inl rfl,.inl rfl,.inl rfl,.inl rfl,.inl rfl,.inl rfl,trivial⟩⟩
theorem Qhz (l:List Int)(hl:l.length≤1000000000)(from_ to:Int)(h0:0≤from_)(h1:from_≤to)(h2:to≤l.length)(ps:List TPart)(hps:ps=Q12 l from_ to)(hpl:ps.length≤1000000)(hsm:Qe2 ps)(hop:QG ps 0 [1,2]=true)
  (hcl:QG ps (Q3e ps (QE ps (ps.length+1) 2).2 3).toNat [6]=true) :
  BCall prog 49 [.slc 1 (Q1 l),.val (.int .i64 from_),.val (.int .i64 to)] [] (.agg [.val (.int .i64 (Q1w ps).name.kind),.val (.int .i64 (Q1w ps).name.from_),.val (.int .i64 (Q1w ps).name.to),.slc 9 (Qo (Q1w ps).attrs),.val (.bool (Q1w ps).right),.val (.bool (Q1w ps).empty)]) []:=by
 have cP:=QaW l hl from_ to h0 h1 h2
 rw[←hps] at cP
 obtain⟨n,hn⟩:=QX ps
 have hn0:2≤n:=by
  have:=(Q1K (l:=ps) (a:=0) (ks:=[1,2]) (by omega)).1 hop
  simp only[List.length_cons,List.length_nil] at this
  rw[hn.eq];omega
 have hnm:n≤1000000:=by rw[hn.eq];omega
 obtain⟨o,ho⟩:=exq (ps[0]?.getD Qu)
 obtain⟨nm,hnmE⟩:=exq (ps[1]?.getD Qu)
 have c22:=Q5i ps (by omega) 0 (by omega) (by omega) [1,2] (by simp) (.slc 3 [.agg [.val (.int .i64 o.kind),.val (.int .i64 o.from_),.val (.int .i64 o.to)],.agg [.val (.int .i64 nm.kind),.val (.int .i64 nm.from_),.val (.int .i64 nm.to)]]) 2
  (fun _=>⟨by
    have e:=hn.eq
    match ps,hn0,e,ho,hnmE with
    | [],h,e,_,_=>simp at e;omega
    | [_],h,e,_,_=>simp at e;omega
    |x::y::r,_,_,ho,hq=>rw[ho,hq];rfl,rfl⟩) (fun h=>by rw[show (0:Int).toNat=0 from rfl,hop] at h;cases h)
 obtain⟨ats,hats⟩:=exq ((QE ps (ps.length+1) 2).1)
 obtain⟨ae,hae⟩:=exq ((QE ps (ps.length+1) 2).2)
 rw[←hae] at hcl
 have hae0:0≤ae∧ae≤n:=by
  have e:=hn.eq
  have:=Q3Y (l:=ps) (ps.length+1) 2 (by omega) (by omega)
  rw[←hae] at this
  omega
 obtain⟨b,hb⟩:=exq (Q3e ps ae 3)
 have hbr:0≤b∧b≤n:=by
  have e:=hn.eq
  have:=Q75 ps ae 3 hae0.1 (by omega)
  rw[←hb] at this
  omega
 have c50:BCall prog 101 [.box 0 0,.slc 1 [.val (.int .i64 3)]] [.box [.slc 3 (Qf ps),.val (.int .i64 ae)]] .dead [.box [.slc 3 (Qf ps),.val (.int .i64 b)]]:=by
  rw[hb];exact (Q3K ps (by omega) ae hae0.1 (by rw[←hn.eq];exact hae0.2) 3).2.2
 rw[←hb] at hcl
 obtain⟨q,hq⟩:=exq (ps[b.toNat]?.getD Qu)
 obtain⟨b1,hb1⟩:=exq (b+1)
 have c53:=(Q2D ps (by omega) b hbr.1 (by rw[←hn.eq];exact hbr.2) 6 hcl).2
 rw[←hq,←hb1] at c53
 have hR:Q1w ps=if n≤b1 then ⟨nm,ats,decide (o.to-o.from_=1)||(decide (ats.length=0)&&!decide (q.to-q.from_=2)),decide (q.to-q.from_=2)&&(decide (o.to-o.from_=1)||(decide (ats.length=0)&&!decide (q.to-q.from_=2)))⟩ else ⟨nm,ats,false,false⟩:=by
  simp only[Q1w,hop,if_true,←hats,←hae,←hb,hcl,←hq,←ho,←hnmE,true_and,hn.eq,hb1]
 have so:=Q6A hsm 0
 have sq:=Q6A hsm b.toNat
 rw[←ho] at so
 rw[←hq] at sq
 obtain⟨ce,hce⟩:=exq (ceF ps)
 obtain⟨ok,hok⟩:=exq (Q24 ps)
 obtain⟨nx,hnx⟩:=exq (Q1z ps)
 have cA:∀ a:Int,0≤a→a≤n→BCall prog 102 [.box 0 0] [.box [.slc 3 (Qf ps),.val (.int .i64 a)]] (.tup [.agg [.val (.int .i64 (ce a 0)),.val (.int .i64 (ce a 1)),.val (.int .i64 (ce a 2)),.val (.int .i64 (ce a 3)),.val (.int .i64 (ce a 4)),.val (.int .i64 (ce a 5)),.val (.int .i64 (ce a 6)),.val (.int .i64 (ce a 7)),.val (.int .i64 (ce a 8))],.val (.bool (ok a))]) [.box [.slc 3 (Qf ps),.val (.int .i64 (nx a))]]:=fun a h3 h4=>by
  rw[hce,hok,hnx];exact QgM ps (by omega) a h3 (by rw[←hn.eq];exact h4)
 have hgt:∀ a:Int,0≤a→a≤n→ok a=true→a<nx a∧nx a≤n:=fun a h3 h4 h5=>by
  rw[hok] at h5;rw[hnx,hn.eq];exact Q5o h3 (by rw[←hn.eq];exact h4) h5
 have heq':∀ a:Int,ok a=false→nx a=a:=fun a h3=>by rw[hok] at h3;rw[hnx];exact Q9T h3
 have hone:∀ a:Int,Qo [QY ps a]=[.agg [.val (.int .i64 (ce a 0)),.val (.int .i64 (ce a 1)),.val (.int .i64 (ce a 2)),.val (.int .i64 (ce a 3)),.val (.int .i64 (ce a 4)),.val (.int .i64 (ce a 5)),.val (.int .i64 (ce a 6)),.val (.int .i64 (ce a 7)),.val (.int .i64 (ce a 8))]]:=fun a=>by rw[hce];rfl
 have hgo:∀ (f:Nat) (a:Int),ok a=true→QE ps (f+1) a=(QY ps a::(QE ps f (nx a)).1,(QE ps f (nx a)).2):=fun f a h=>by
  rw[hok] at h;rw[hnx,QE,if_pos h]
 have hgo':∀ (f:Nat) (a:Int),ok a=false→QE ps (f+1) a=([],a):=fun f a h=>by
  rw[hok] at h;rw[QE,if_neg (by rw[h];exact Bool.false_ne_true)]
 rw[hR]
 clear hcl hop hce hok hnx hR h2 ho hnmE hq hb
 refine fnN (cs:=csR (Qf ps) (.slc 3 [.agg [.val (.int .i64 o.kind),.val (.int .i64 o.from_),.val (.int .i64 o.to)],.agg [.val (.int .i64 nm.kind),.val (.int .i64 nm.from_),.val (.int .i64 nm.to)]]) (.slc 3 [.agg [.val (.int .i64 q.kind),.val (.int .i64 q.from_),.val (.int .i64 q.to)]]) 2 b b1 ce ok nx) func49 rfl (by kernel_rfl) ?_
 intro w0 g0
 generalize hp:std=p,hqs:Qf ps=qs,hrs:Q1 l=rs
 generalize hT:Q8 p tys (csR qs (.slc 3 [.agg [.val (.int .i64 o.kind),.val (.int .i64 o.from_),.val (.int .i64 o.to)],.agg [.val (.int .i64 nm.kind),.val (.int .i64 nm.from_),.val (.int .i64 nm.to)]]) (.slc 3 [.agg [.val (.int .i64 q.kind),.val (.int .i64 q.from_),.val (.int .i64 q.to)]]) 2 b b1 ce ok nx) _ _ _ _=T
 cbv at hT
 subst hT
 simp only[Tree.ok,Q4,S0]
 subst hp hqs hrs
 have en:=hn.eq
 repeat' first
  |exact cP
  |exact c22
  |exact cA 2 (by omega) hn0
  |(with_reducible refine And.intro (fun hx=>absurd hx (by simp[std])) ?_)
  |(with_reducible refine And.intro (by (first|(simp[std,Q2H,AV.cells,Qg];done)|exact cP|exact c22|exact cA 2 (by omega) hn0)) ?_)
  |(with_reducible refine And.intro ?_ ?_)
  |(with_reducible intro _)
 refine Q1P (cs:=csR (Qf ps) (.slc 3 [.agg [.val (.int .i64 o.kind),.val (.int .i64 o.from_),.val (.int .i64 o.to)],.agg [.val (.int .i64 nm.kind),.val (.int .i64 nm.from_),.val (.int .i64 nm.to)]]) (.slc 3 [.agg [.val (.int .i64 q.kind),.val (.int .i64 q.from_),.val (.int .i64 q.to)]]) 2 b b1 ce ok nx) (by kernel_rfl) (X:=List TAttr×Int) (fun x=>⟨[(6,.box 0 0),(7,.box 1 0),(8,.box 2 0),(9,.slc 3 [.agg [.val (.int .i64 o.kind),.val (.int .i64 o.from_),.val (.int .i64 o.to)],.agg [.val (.int .i64 nm.kind),.val (.int .i64 nm.from_),.val (.int .i64 nm.to)]]),(10,.box 3 0),(11,.val (.bool (ok x.2)))],[.box [.val (.int .i64 0),.val (.int .i64 0),.val (.int .i64 0),.val (.slice none 0 0),.val (.bool false),.val (.bool false)],.box [.val (.int .i64 nm.kind),.val (.int .i64 nm.from_),.val (.int .i64 nm.to),.row 4 0,.val (.bool false),.val (.bool false)],.box [.slc 3 (Qf ps),.val (.int .i64 (nx x.2))],.box [.val (.int .i64 (ce x.2 0)),.val (.int .i64 (ce x.2 1)),.val (.int .i64 (ce x.2 2)),.val (.int .i64 (ce x.2 3)),.val (.int .i64 (ce x.2 4)),.val (.int .i64 (ce x.2 5)),.val (.int .i64 (ce x.2 6)),.val (.int .i64 (ce x.2 7)),.val (.int .i64 (ce x.2 8))],.row 119 9 false 0 (Qo x.1)]⟩) (fun x=>0≤x.2∧x.2≤n∧(∃ f:Nat,n-x.2<f∧x.1++(QE ps f x.2).1=ats∧(QE ps f x.2).2=ae)∧x.1.length≤x.2.toNat) (fun x=>(n-x.2).toNat) ([],2) ?_ ?_ ?_
 ·exact⟨by simp,hn0,⟨ps.length+1,by simp only;omega,by rw[hats];rfl,by rw[hae]⟩,by simp⟩
 ·exact⟨[some 0,some 1,some 2,some 4,none],_,rfl,by simp[Qh,lk,std,AV.cells,Qg,Qo]⟩
 ·rintro⟨out,a⟩ ⟨hJ0,hJ1,⟨f,hJ2,hJ3,hJ4⟩,hJ5⟩
  simp only at hJ0 hJ1 hJ2 hJ3 hJ4 hJ5
  have hol:=Q5X out
  obtain⟨f,rfl⟩:∃ f',f=f'+1:=⟨f-1,by omega⟩
  cases hoka:ok a with
  |true =>
   have e1:=hgt a hJ0 hJ1 hoka
   have cN:=cA (nx a) (by omega) e1.2
   rw[hgo f a hoka] at hJ3 hJ4
   have hG:out++[QY ps a]++(QE ps f (nx a)).1=ats:=by rw[←hJ3];simp
   have ho1:=hone a
   have hJ2':n-nx a<f:=by omega
   have hJ5':(out++[QY ps a]).length≤(nx a).toNat:=by simp only[List.length_append,List.length_singleton];omega
   have hJ6:out.length≤1000000:=by omega
   clear en hJ2
   generalize hp:std=p,hqs:Qf ps=qs,hrs:Q1 l=rs,hu:Qo out=u
   generalize hT:Q8 p tys (csR qs (.slc 3 [.agg [.val (.int .i64 o.kind),.val (.int .i64 o.from_),.val (.int .i64 o.to)],.agg [.val (.int .i64 nm.kind),.val (.int .i64 nm.from_),.val (.int .i64 nm.to)]]) (.slc 3 [.agg [.val (.int .i64 q.kind),.val (.int .i64 q.from_),.val (.int .i64 q.to)]]) 2 b b1 ce ok nx) _ _ _ _=T
   cbv at hT
   subst hT
   simp only[Tree.ok,Q4,S0]
   subst hp hqs hrs hu
   repeat' first
    |exact cN
    |(with_reducible refine And.intro (fun _=>?_) (fun hx=>absurd (hoka.symm.trans hx) (by decide)))
    |(with_reducible refine And.intro (by (first|exact cN|(simp[std,hol];omega))) ?_)
    |(with_reducible intro _)
   refine⟨(out++[QY ps a],nx a),⟨by simp only;omega,e1.2,⟨f,hJ2',hG,hJ4⟩,hJ5'⟩,by simp only;omega,[some 0,some 1,some 2,some 6,some 4],_,rfl,?_⟩
   simp[Qh,lk,std,Q8R,ho1]
  |false =>
   have e1:=heq' a hoka
   rw[hgo' f a hoka] at hJ3 hJ4
   simp only[List.append_nil] at hJ3 hJ4
   have hoL:out.length≤1000000:=by omega
   rw[e1,hJ4]
   subst hJ3
   clear en hJ2
   generalize hp:std=p,hqs:Qf ps=qs,hrs:Q1 l=rs,hu:Qo out=u
   generalize hT:Q8 p tys (csR qs (.slc 3 [.agg [.val (.int .i64 o.kind),.val (.int .i64 o.from_),.val (.int .i64 o.to)],.agg [.val (.int .i64 nm.kind),.val (.int .i64 nm.from_),.val (.int .i64 nm.to)]]) (.slc 3 [.agg [.val (.int .i64 q.kind),.val (.int .i64 q.from_),.val (.int .i64 q.to)]]) 2 b b1 ce ok nx) _ _ _ _=T
   cbv at hT
   subst hT
   simp only[Tree.ok,Q4,S0]
   subst hp hqs hrs hu
   repeat' first
    |(with_reducible refine And.intro (fun hx=>absurd (hoka.symm.trans hx) (by decide)) (fun _=>?_))
    |(with_reducible intro _)
   rw[if_pos trivial]
   generalize hp:std=p,hqs:Qf ps=qs,hrs:Q1 l=rs,hu:Qo out=u
   generalize hT:Q8 p tys (csR qs (.slc 3 [.agg [.val (.int .i64 o.kind),.val (.int .i64 o.from_),.val (.int .i64 o.to)],.agg [.val (.int .i64 nm.kind),.val (.int .i64 nm.from_),.val (.int .i64 nm.to)]]) (.slc 3 [.agg [.val (.int .i64 q.kind),.val (.int .i64 q.from_),.val (.int .i64 q.to)]]) 2 b b1 ce ok nx) _ _ _ _=T
   cbv at hT
   subst hT
   simp only[Tree.ok,Q4,S0]
   subst hp hqs hrs hu
   have en:=hn.eq
   have hpl2:=Q6a ps
   have hpl3:(((Qf ps).length:Nat):Int)=n:=by omega
   refine⟨c50,c53,fun h=>absurd h (by simp[std]),fun h=>?_,fun h=>?_⟩
   ·have h:b1<n:=by simpa[std,hpl3] using h
    rw[if_neg (by omega)]
    exact .pure rfl ⟨.inl rfl,.inl rfl,.inl rfl,.inl rfl,.inl rfl,.inl rfl,trivial⟩
   ·have h:¬ b1<n:=by simpa[std,hpl3] using h
    rw[if_pos (by omega)]
    simp only
    obtain⟨x,hx⟩:=exq (q.to-q.from_)
    obtain⟨y,hy⟩:=exq (o.to-o.from_)
    rw[←hx,←hy]
    have hx':=hx.symm
    have hy':=hy.symm
    repeat' first
     |(with_reducible refine And.intro (fun hx=>absurd hx (by first|(try simp[std,S1,hx',hy',hol])<;>omega|omega)) (fun _=>?_))
     |(with_reducible refine And.intro (fun _=>?_) (fun hx=>absurd hx (by first|(try simp[std,S1,hx',hy',hol])<;>omega|omega)))
     |(with_reducible refine And.intro (by first|(try simp[std,S1,hx',hy',hol])<;>omega|omega) ?_)
     |(with_reducible refine And.intro ?_ ?_)
     |(with_reducible intro hb;try simp[std,S1,hx',hy',hol] at hb)
    all_goals
     refine .pure rfl ⟨.inl rfl,.inl rfl,.inl rfl,.inl rfl,.inl ?_,.inl ?_,trivial⟩
    all_goals
     clear cP c22 c50 c53 cA hgt heq' hone hgo hgo' hx hy hats hae en hpl3 hpl2
    all_goals first
     |(simp[*,std,AV.cells,Qg,Q1O];done)
     |(simp_all [std,AV.cells,Qg,Q1O];done)
     |trace_state
end Go.Proofs.YtibemhahkicbpaaGreat
