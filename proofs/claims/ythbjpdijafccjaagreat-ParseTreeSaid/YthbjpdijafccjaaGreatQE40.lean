/-
  Parts of the proof, joined: Wr. Conditions: as each theorem says.
-/
import Derived.Test.YthbjpdijafccjaaGreatQE39
set_option maxRecDepth 100000
set_option maxHeartbeats 8000000
namespace Go.Proofs.YthbjpdijafccjaaGreat
open Go.RowKit Go.Lib Tryz
theorem QgY (l:List Int)(hl:l.length≤1000000)(hu:Un l)(from_ to:Int)(h0:0≤from_)(h1:from_≤to)(h2:to≤l.length)(ps:List TPart)(hps:ps=QU l from_ to)(k0:kdF ps 0=1)(k1:kdF ps 1=2)(ats:List TAttr)(ae:Int)(hats:ats=(QE ps (ps.length+1) 2).1)(hae:ae=(QE ps (ps.length+1) 2).2)(b:Int)(hb:b=bkF ps ae)(kb:kdF ps b=6)(hlast:b+1=ps.length):BCall prog 38 [.slc 1 (Q0 l),.val (.int .i64 from_),.val (.int .i64 to)] [] (Q80 (Q1j ps)) []:=by
 have hpl:ps.length≤1000000:=by have:=Q4G (l:=l) (f:=from_) (u:=to);rw[hps];omega
 have cP:=Q6k l hl hu from_ to h0 h1 h2
 rw[←hps] at cP
 obtain⟨n,hn⟩:=Qy ps
 have hn0:2≤n:=by
  have:=Q8o (by omega) k1 (by decide)
  rw[hn.eq];omega
 have hnm:n≤1000000:=by rw[hn.eq];omega
 obtain⟨o,ho⟩:=exq (ps[0]?.getD Ql)
 obtain⟨nm,hnmE⟩:=exq (ps[1]?.getD Ql)
 have r0:(Q9 ps)[0]?.getD .dead=o.av:=by rw[ho];exact Q24 (i:=0) (by omega) (by have:=hn.eq;omega)
 have r1:(Q9 ps)[1]?.getD .dead=nm.av:=by rw[hnmE];exact Q24 (i:=1) (by omega) (by have:=hn.eq;omega)
 have hae0:0≤ae∧ae≤n:=by
  have e:=hn.eq
  have:=Q2D (l:=ps) (ps.length+1) 2 (by omega) (by omega)
  rw[←hae] at this
  omega
 have hbr:0≤b∧b≤ae+1:=by
  rw[hb,bkF]
  split<;>omega
 obtain⟨q,hq⟩:=exq (ps[b.toNat]?.getD Ql)
 have rb:(Q9 ps)[b.toNat]?.getD .dead=q.av:=by rw[hq];exact Q24 hbr.1 (Q8o hbr.1 kb (by decide))
 have ho12:o.to-o.from_=1∨o.to-o.from_=2:=by rw[ho,hps];exact QfR (by rw[←hps];exact k0)
 have hsm:QcS ps:=fun x hx=>by
  have h9:x∈QD from_ true ((l.take to.toNat).drop from_.toNat):=by rw[hps] at hx;exact hx
  have:=Q7l ((l.take to.toNat).drop from_.toNat) _ _ from_ true (Nat.le_refl _) x h9
  rw[List.length_drop,List.length_take] at this
  omega
 have so:=Q5k hsm 0
 have sq:=Q5k hsm b.toNat
 rw[←ho] at so
 rw[←hq] at sq
 clear hsm
 obtain⟨x,hx⟩:=exq (q.to-q.from_)
 obtain⟨y,hy⟩:=exq (o.to-o.from_)
 have cK0:=Q3r ps (by omega) 0 (by omega)
 have cK1:=Q3r ps (by omega) 1 (by omega)
 have cB:=Q43 ps (by omega) ae hae0.1 (by omega)
 rw[←hb] at cB
 have cKb:=Q3r ps (by omega) b hbr.1
 have hR:Q1j ps=⟨nm,ats,decide (y=1)||(decide (ats.length=0)&&!decide (x=2)),decide (x=2)&&(decide (y=1)||(decide (ats.length=0)&&!decide (x=2)))⟩:=by simp only[Q1j,show QM ps 0 [1,2]=true from by rw[Q59,k0,k1];rfl,if_true,←hats,←hae,QeV,←hb,Q41 ps b 6 (by decide),←ho,←hnmE,decide_eq_true_eq];rw[if_pos ⟨kb,by omega⟩,←hq,←hx,←hy]
 rw[hR,Q80]
 clear hR
 obtain⟨K,hK⟩:=exq (kdF ps)
 obtain⟨B,hB⟩:=exq (bkF ps)
 simp only[←hK,←hB] at k0 k1 hb cB cK0 cK1 cKb kb 
 obtain⟨ce,hce⟩:=exq (ceF ps)
 obtain⟨nx,hnx⟩:=exq (nxF ps)
 have cA:∀ a:Int,0≤a→a≤n→BCall prog 67 [.slc 3 (Q9 ps),.val (.int .i64 a)] [] (.tup [.agg [.val (.int .i64 (ce a 0)),.val (.int .i64 (ce a 1)),.val (.int .i64 (ce a 2)),.val (.int .i64 (ce a 3)),.val (.int .i64 (ce a 4)),.val (.int .i64 (ce a 5)),.val (.int .i64 (ce a 6)),.val (.int .i64 (ce a 7)),.val (.int .i64 (ce a 8))],.val (.int .i64 (nx a))]) []:=fun a h3 h4=>by
  rw[hce,hnx];exact Qbq ps (by omega) a h3 (by omega)
 have hnok:∀ a:Int,0≤a→a≤n→(Q1z ps a=true∧a<nx a∧nx a≤n∧Q1H ps a=nx a)∨(Q1z ps a=false∧nx a=-1):=fun a h3 h4=>by
  rw[hnx,hn.eq];exact QhT h3 (by rw[←hn.eq];exact h4)
 have hone:∀ a:Int,QI [QF ps a]=[.agg [.val (.int .i64 (ce a 0)),.val (.int .i64 (ce a 1)),.val (.int .i64 (ce a 2)),.val (.int .i64 (ce a 3)),.val (.int .i64 (ce a 4)),.val (.int .i64 (ce a 5)),.val (.int .i64 (ce a 6)),.val (.int .i64 (ce a 7)),.val (.int .i64 (ce a 8))]]:=fun a=>by rw[hce];rfl
 have cB:BCall prog 68 [.slc 3 (Q9 ps),.val (.int .i64 ae)] [] (.val (.int .i64 (B ae))) []:=by rw[←hb];exact cB
 rw[hb] at cKb kb 
 clear hce hnx hK hB ho hnmE hq hps
 refine fnN (cs:=Q4M (Q9 ps) K B ce nx) func38 rfl (by kernel_rfl) ?_
 intro w0 g0
 generalize hp:std=p,hqs:Q9 ps=qs,hrs:Q0 l=rs
 generalize hT:Q5 p tys (Q4M qs K B ce nx) _ _ _ _=T
 cbv at hT
 subst hT
 simp only[Tree.ok,Q1,S0]
 subst hp hqs hrs
 have hxn:(((Q9 ps).length:Nat):Int)=n:=by have:=hn.eq;have:=Q16 ps;omega
 repeat' first
  |(with_reducible refine And.intro (fun hx=>absurd hx (by first|(try simp[std,S1,k0,k1,hxn,hn0,r1,TPart.av])<;>omega|omega)) (fun _=>?_))
  |(with_reducible refine And.intro (fun _=>?_) (fun hx=>absurd hx (by first|(try simp[std,S1,k0,k1,hxn,hn0,r1,TPart.av])<;>omega|omega)))
  |(with_reducible refine And.intro (by first|(try simp[std,S1,k0,k1,hxn,hn0,r1,TPart.av])<;>omega|omega) ?_)
  |(with_reducible refine And.intro ?_ ?_)
  |(with_reducible intro hb)
 all_goals first
  |exact cP
  |exact cK0
  |exact cK1
  |skip
 refine Q1r (cs:=Q4M (Q9 ps) K B ce nx) (by kernel_rfl) (X:=List TAttr×Int×Int) (fun x=>⟨[(6,.box 0 0),(7,.slc 3 (Q9 ps)),(8,.box 1 0),(9,.val (.int .i64 x.2.1)),(10,.val (.int .i64 x.2.2))],[.box [.val (.int .i64 0),.val (.int .i64 0),.val (.int .i64 0),.val (.slice none 0 0),.val (.bool false),.val (.bool false)],.box [.val (.int .i64 nm.kind),.val (.int .i64 nm.from_),.val (.int .i64 nm.to),.row 2 0,.val (.bool false),.val (.bool false)],.row 142 9 false 0 (QI x.1)]⟩) (fun x=>0≤x.2.2∧2+x.2.2≤x.2.1∧x.2.1≤n∧(∃ f:Nat,n-x.2.1<f∧x.1++(QE ps f x.2.1).1=ats∧(QE ps f x.2.1).2=ae)∧(x.1.length:Int)≤x.2.1) (fun x=>(n-x.2.1).toNat) ([],2,0) ?_ ?_ ?_
 ·exact⟨by simp,by simp,hn0,⟨ps.length+1,by have:=hn.eq;simp only;omega,by rw[hats];rfl,by rw[hae]⟩,by simp⟩
 ·exact⟨[some 0,some 1,none],_,rfl,by simp[Qe,lk,std,r1,TPart.av,AV.cells,intOf,QI]⟩
 ·rintro⟨out,a,i⟩ ⟨hJi,hJ0,hJ1,⟨f,hJ2,hJ3,hJ4⟩,hJ5⟩
  simp only at hJi hJ0 hJ1 hJ2 hJ3 hJ4 hJ5
  have hol:=Q4r out
  obtain⟨f,rfl⟩:∃ f',f=f'+1:=⟨f-1,by omega⟩
  have cN:=cA a (by omega) hJ1
  have hin:i<n:=by omega
  have hoL:out.length≤1000000:=by omega
  obtain⟨m,hm⟩:=Qy out
  rcases hnok a (by omega) hJ1 with ⟨hoka,g1,g2,g3⟩|⟨hoka,g1⟩
  ·rw[QE,if_pos hoka,g3] at hJ3 hJ4
   have hG:out++[QF ps a]++(QE ps f (nx a)).1=ats:=by rw[←hJ3];simp
   have ho1:=hone a
   have hJ2':n-nx a<f:=by omega
   have hJ5':((out++[QF ps a]).length:Int)≤nx a:=by simp only[List.length_append,List.length_singleton];omega
   have hnn:¬ nx a<0:=by omega
   have ha0:0≤a:=by omega
   clear hxn hJ2 g3 hJ5 hJ3
   generalize hp:std=p,hqs:Q9 ps=qs,hrs:Q0 l=rs,hu:QI out=u
   generalize hT:Q5 p tys (Q4M qs K B ce nx) _ _ _ _=T
   cbv at hT
   subst hT
   simp only[Tree.ok,Q1,S0]
   subst hp hqs hrs hu
   have hxn:(((Q9 ps).length:Nat):Int)=n:=by have:=hn.eq;have:=Q16 ps;omega
   repeat' first
    |(with_reducible refine And.intro (fun hx=>absurd hx (by first|(try simp[std,S1,hxn,hol,hin,hnn,hJi])<;>omega|omega)) (fun _=>?_))
    |(with_reducible refine And.intro (fun _=>?_) (fun hx=>absurd hx (by first|(try simp[std,S1,hxn,hol,hin,hnn,hJi])<;>omega|omega)))
    |(with_reducible refine And.intro (by first|(try simp[std,S1,hxn,hol,hin,hnn,hJi])<;>omega|omega) ?_)
    |(with_reducible refine And.intro ?_ ?_)
    |(with_reducible intro hb)
   all_goals first
    |exact cN
    |skip
   refine⟨(out++[QF ps a],nx a,i+1),⟨by simp only;omega,by simp only;omega,g2,⟨f,hJ2',hG,hJ4⟩,hJ5'⟩,by simp only;omega,[some 0,some 1,some 2],_,rfl,?_⟩
   simp[Qe,lk,std,Q4x,ho1]
  ·rw[QE,if_neg (by rw[hoka];exact Bool.false_ne_true)] at hJ3 hJ4
   simp only[List.append_nil] at hJ3 hJ4
   have hnn:nx a<0:=by omega
   clear g1
   rw[←hJ3]
   rw[←hJ4] at hae0 hbr cB cKb kb 
   have hb9:b=B a:=by rw[hJ4];exact hb
   clear hxn hJ2 hats hae hJ3 hJ4 hb
   generalize hp:std=p,hqs:Q9 ps=qs,hrs:Q0 l=rs,hu:QI out=u
   generalize hT:Q5 p tys (Q4M qs K B ce nx) _ _ _ _=T
   cbv at hT
   subst hT
   simp only[Tree.ok,Q1,S0]
   subst hp hqs hrs hu
   have hxn:(((Q9 ps).length:Nat):Int)=n:=by have:=hn.eq;have:=Q16 ps;omega
   repeat' first
    |(with_reducible refine And.intro (fun hx=>absurd hx (by first|(try simp[std,S1,hxn,hol,hin,hnn,hJi])<;>omega|omega)) (fun _=>?_))
    |(with_reducible refine And.intro (fun _=>?_) (fun hx=>absurd hx (by first|(try simp[std,S1,hxn,hol,hin,hnn,hJi])<;>omega|omega)))
    |(with_reducible refine And.intro (by first|(try simp[std,S1,hxn,hol,hin,hnn,hJi])<;>omega|omega) ?_)
    |(with_reducible refine And.intro ?_ ?_)
    |(with_reducible intro hb)
   all_goals first
    |exact cN
    |skip
   rw[if_pos trivial]
   have hlast:B a+1=n:=by rw[←hb9,hn.eq];exact hlast
   rw[hb9] at rb
   generalize hp:std=p,hqs:Q9 ps=qs,hrs:Q0 l=rs,hu:QI out=u
   generalize hT:Q5 p tys (Q4M qs K B ce nx) _ _ _ _=T
   cbv at hT
   subst hT
   simp only[Tree.ok,Q1,S0]
   subst hp hqs hrs hu
   have hx':=hx.symm
   have hy':=hy.symm
   rw[←hy] at ho12
   have ev:∀ v:Int,v=2∨¬ v=2:=fun v=>by omega
   have el:out.length=0∨¬ out.length=0:=by omega
   rcases ev x with x2|x2
   all_goals rcases el with l0|l0
   all_goals rcases ho12 with y1|y1
   all_goals
    repeat' first
     |(with_reducible refine And.intro (fun hx=>absurd hx (by first|(try simp[std,S1,kb,hxn,hlast,hbr,rb,r0,TPart.av,hx',hy',x2,y1,l0,hol])<;>omega|omega)) (fun _=>?_))
     |(with_reducible refine And.intro (fun _=>?_) (fun hx=>absurd hx (by first|(try simp[std,S1,kb,hxn,hlast,hbr,rb,r0,TPart.av,hx',hy',x2,y1,l0,hol])<;>omega|omega)))
     |(with_reducible refine And.intro (by first|(try simp[std,S1,kb,hxn,hlast,hbr,rb,r0,TPart.av,hx',hy',x2,y1,l0,hol])<;>omega|omega) ?_)
     |(with_reducible refine And.intro ?_ ?_)
     |(with_reducible intro hb)
   all_goals first
    |exact cB
    |exact cKb
    |(refine (QeO _).2 ?_;simp[std,rb,r0,TPart.av,AV.cells,intOf,hx',hy',x2,y1];done)
    |(refine (QeO _).2 ?_;simp[std,rb,r0,TPart.av,AV.cells,intOf,hx',hy'];omega)
    |(refine .pure rfl ⟨.inl rfl,.inl rfl,.inl rfl,.inl rfl,.inl ?_,.inl ?_,trivial⟩<;>simp[std,rb,r0,TPart.av,AV.cells,intOf,Q2o,hx',hy',x2,y1,l0,hol])
theorem Qf7 (l:List Int)(hl:l.length≤1000000)(hu:Un l)(from_ to:Int)(h0:0≤from_)(h1:from_≤to)(h2:to≤l.length):BCall prog 38 [.slc 1 (Q0 l),.val (.int .i64 from_),.val (.int .i64 to)] [] (Q80 (QR l from_ to)) []:=by
 rw[QR]
 obtain⟨ps,hps⟩:=exq (QU l from_ to)
 rw[←hps]
 by_cases k0:kdF ps 0=1
 ·by_cases k1:kdF ps 1=2
  ·by_cases kb:kdF ps (bkF ps (QE ps (ps.length+1) 2).2)=6
   ·by_cases hlast:bkF ps (QE ps (ps.length+1) 2).2+1=ps.length
    ·exact QgY l hl hu from_ to h0 h1 h2 ps hps k0 k1 _ _ rfl rfl _ rfl kb hlast
    ·exact Qhv l hl hu from_ to h0 h1 h2 ps hps k0 k1 _ _ rfl rfl _ rfl kb hlast
   ·exact QiR l hl hu from_ to h0 h1 h2 ps hps k0 k1 _ _ rfl rfl _ rfl kb
  ·have e:Q1j ps=⟨Ql,[],false,false⟩:=by
    rw[Q1j,if_neg]
    rw[Q59,decide_eq_true_eq]
    exact fun e=>k1 e.2
   rw[e]
   exact QcN l hl hu from_ to h0 h1 h2 ps hps k0 k1
 ·have e:Q1j ps=⟨Ql,[],false,false⟩:=by
   rw[Q1j,if_neg]
   rw[Q59,decide_eq_true_eq]
   exact fun e=>k0 e.1
  rw[e]
  exact Qcm l hl hu from_ to h0 h1 h2 ps hps k0
end Go.Proofs.YthbjpdijafccjaaGreat
