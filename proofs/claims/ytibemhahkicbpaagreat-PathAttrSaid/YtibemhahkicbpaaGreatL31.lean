/- Lemmas, conditions told -/
import Derived.Test.YtibemhahkicbpaaGreatL23
import Derived.Test.YtibemhahkicbpaaGreatL19
import Derived.Test.YtibemhahkicbpaaGreatL20
set_option maxRecDepth 99999
set_option maxHeartbeats 0
set_option linter.unusedSimpArgs false
set_option linter.unusedVariables false
namespace Go.Proofs.YtibemhahkicbpaaGreat
open Go.RowKit Go.Lib
section
variable {m:Mk}
end
section
variable {m:Mk}
end
def m1(L:List Ev):Nat:=(L.filter fun e=>decide (e.do_=1)).length
def n1(L:List (Ev×Int)):Nat:=(L.filter fun p=>decide (p.1.do_=1)).length
def cw(ds:List Dg):Nat:=(ds.filter fun d=>decide (d.c=1)).length
def s1(s:RSt):Nat:=m1 (s.ev.map Evr.ev)
section
variable {wt:List UInt8->Nat}
end
def shA(d:Int)(x:TAttr):TAttr:=⟨shP d x.name,shP d x.value,⟨x.all.kind,x.all.from_+d,x.all.to+d⟩⟩
theorem QaK{ps:List TPart}{n:Nat}{k:Int}(h:QO ps n [k]=true):n<ps.length:=by
 rcases Nat.lt_or_ge n ps.length with hl|hl
 ·exact hl
 ·unfold QO at h
  rw[List.drop_of_length_le hl]at h;cases h
theorem QfI(d:Int){ps:List TPart}{n:Nat}(h:n<ps.length):(ps.map (shP d))[n]?.getD Qm=shP d (ps[n]?.getD Qm):=by
 rw[List.getElem?_map,List.getElem?_eq_getElem h];rfl
theorem Qp4(d:Int)(ps:List TPart)(a k:Int):Q3y (ps.map (shP d)) a k=Q3y ps a k:=by unfold Q3y;rw[Q8o]
theorem Qi3(d:Int)(ps:List TPart)(a:Int):Q1q (ps.map (shP d)) a=(Q1q ps a).map fun x=>(shA d x.1,x.2):=by
 unfold Q1q;simp only[Q8o,Qp4];split
 ·rename_i h1
  split
  ·split
   ·rename_i h3
    rw[QfI d (QaK h1.1),QfI d (QaK h1.2),QfI d (QaK h3)];rfl
   ·rfl
  ·rfl
 ·rfl
theorem Qa0(d:Int)(ps:List TPart):∀(f:Nat)(a:Int),Qy (ps.map (shP d)) f a=((Qy ps f a).1.map (shA d),(Qy ps f a).2)
 |0,a=>rfl
 |f+1,a=>by
  have h:=Qi3 d ps a;have e1:Q1p (ps.map (shP d)) a=Q1p ps a:=by unfold Q1p;rw[h];cases Q1q ps a<;>rfl
  have e2:Q1z (ps.map (shP d)) a=Q1z ps a:=by unfold Q1z;rw[h];cases Q1q ps a<;>rfl
  have ih:=Qa0 d ps f (Q1z ps a);unfold Qy;rw[e1,e2];by_cases ho:Q1p ps a=true
  ·have e3:QH (ps.map (shP d)) a=shA d (QH ps a):=by
    unfold Q1p at ho;unfold QH;rw[h];cases hg:Q1q ps a with
    |none=>rw[hg]at ho;cases ho
    |some x=>rfl
   rw[if_pos ho,if_pos ho,e3,ih];rfl
  ·rw[if_neg ho,if_neg ho];rfl
theorem Qa5(ps:List TPart):(Q1l ps).attrs=if QO ps 0 [1,2]=true then(Qy ps (ps.length+1) 2).1 else []:=by
 unfold Q1l;split
 ·simp only
  split
  ·rfl
  ·rfl
 ·rfl
theorem Qhm(l:List Int){f u:Int}(h0:0<=f)(h1:f<=u)(h2:u<=l.length):(QD l f u).attrs=(QD ((l.drop f.toNat).take (u-f).toNat) 0 ((l.drop f.toNat).take (u-f).toNat).length).attrs.map (shA f):=by
 obtain⟨s,hs⟩:=exq ((l.drop f.toNat).take (u-f).toNat);have jT:(l.take u.toNat).drop f.toNat=s:=by rw[hs,List.drop_take];congr 1;omega
 have e1:QS s 0 s.length=QB 0 true s:=by
  unfold QS;rw[Int.toNat_natCast,List.take_length];rfl
 have e2:QS l f u=(QB 0 true s).map (shP f):=by
  unfold QS;rw[jT];have:=Q7J f s.length s 0 true (Nat.le_refl _)
  rw[Int.zero_add]at this;exact this
 rw[<-hs];unfold QD;rw[e1,e2,Qa5,Qa5,Q8o,Qa0,List.length_map];split<;>rfl
def cD(ds:List Dg)(k:Int):Nat:=(ds.filter fun d=>decide (d.c=k)).length
theorem Qew:∀(n:Nat)(r:List Int)(at_:Int)(first:Bool),r.length<=n->∀p∈QB at_ first r,p.kind=2->∀c∈(r.drop (p.from_-at_).toNat).take (p.to-p.from_).toNat,Qq c=true:=by
 intro n;induction n with
 |zero =>
  intro r at_ first h p hp
  obtain rfl:r=[]:=List.eq_nil_of_length_eq_zero (by omega)
  rw[QB,dif_pos rfl]at hp;cases hp
 |succ n ih =>
  intro r at_ first h p hp hk
  by_cases hr:r=[]
  ·rw[hr,QB,dif_pos rfl]at hp;cases hp
  ·have hn:=Q3n r first hr
   rw[Q2f hr]at hp;rcases List.mem_cons.1 hp with rfl|hp
   ·have hk:(Qt r first).1=2:=hk
    have jF:(Qt r first).2=(Qj r 0:Int):=by
     unfold Qt at hk ⊢;split at hk
     ·simp at hk
     ·rename_i h0
      rw[if_neg h0];split at hk
      ·simp at hk
      ·rename_i h1
       rw[if_neg h1];split at hk
       ·simp at hk
       ·rename_i h2
        rw[if_neg h2];split at hk
        ·rename_i h3
         rw[if_pos h3]
        ·split at hk
         ·simp at hk
         ·split at hk
          ·simp at hk
          ·split at hk<;>simp at hk
    show ∀c∈(r.drop (at_-at_).toNat).take ((at_+(Qt r first).2)-at_).toNat,Qq c=true
    rw[show(at_-at_).toNat=0 by omega,List.drop_zero,show((at_+(Qt r first).2)-at_).toNat=Qj r 0 by omega]
    exact QaA r
   ·have jM:=Q48 r n (r.drop (Qt r first).2.toNat) (at_+(Qt r first).2) false (by rw[List.length_drop];omega) p hp
    have h1:=ih (r.drop (Qt r first).2.toNat) (at_+(Qt r first).2) false (by rw[List.length_drop];omega) p hp hk
    rw[List.drop_drop,show(Qt r first).2.toNat+(p.from_-(at_+(Qt r first).2)).toNat=(p.from_-at_).toNat by omega]at h1
    exact h1
theorem QfT(l:List Int):∀x∈(QD l 0 l.length).attrs,∀c∈(l.drop x.name.from_.toNat).take (x.name.to-x.name.from_).toNat,Qq c=true:=by
 have e1:QS l 0 l.length=QB 0 true l:=by
  unfold QS;rw[Int.toNat_natCast,List.take_length];rfl
 intro x hx;have hx:x∈(Q1l (QB 0 true l)).attrs:=by rw[<-e1];exact hx
 rw[Qa5]at hx;split at hx
 ·rename_i ht
  have jJ:=((Q29 (Nat.zero_le _)).1 ht).1;have jJ:2<=(QB 0 true l).length:=by simpa using jJ
  obtain⟨h1,h2⟩:=Q7y _ _ 2 (by omega) (by omega) x hx
  have h3:=Qew l.length l 0 true (Nat.le_refl _) x.name h1 h2;rw[Int.sub_zero]at h3;exact h3
 ·cases hx
structure NamT (l:List Int) (p:TPart):Prop where
 h0:0<=p.from_
 h1:p.from_<p.to
 h2:p.to<=l.length
 s:runesBytes ((l.drop p.from_.toNat).take (p.to-p.from_).toNat)=anS l p
theorem Qip{l:List Int}(h:∀x∈l,0<Qr x):Q3Q l=Q10 l:=by
 have key:∀x∈l,(if x=-1 then []else Q10 [x])=Q10 [x]:=fun x hx=>by
  have:=h x hx
  rw[if_neg];rintro rfl;exact absurd this (by decide)
 have e:Q10 l=l.flatMap fun x=>Q10 [x]:=by
  clear h key;induction l with
  |nil=>rfl
  |cons a r ih=>rw[List.flatMap_cons,<-ih];simp[Q10]
 rw[e,Q3Q];exact congrArg List.flatten (List.map_congr_left key)
theorem Qnq{l:List Int}(h:∀x∈l,0<Qr x):runesBytes l=⟨(Q3Q l).toArray⟩:=by
 have e:=Qat h;rw[Qip h,<-e]
theorem QiN(l:List Int){f u:Int}(h0:0<=f)(h1:f<=u)(h2:u<=l.length):∀x∈(QD l f u).attrs,NamT l x.name:=fun x hx=>by
 rw[Qhm l h0 h1 h2]at hx;obtain⟨y,hy,rfl⟩:=List.mem_map.1 hx;obtain⟨s,hs⟩:=exq ((l.drop f.toNat).take (u-f).toNat);rw[<-hs]at hy;have ze:(s.length:Int)=u-f:=by rw[hs,List.length_take,List.length_drop];omega
 obtain⟨k0,k1,k2,_⟩:=Q7N s y hy;have hc:=QfT s y hy
 have e:(l.drop (shA f y).name.from_.toNat).take ((shA f y).name.to-(shA f y).name.from_).toNat=(s.drop y.name.from_.toNat).take (y.name.to-y.name.from_).toNat:=by
  show(l.drop (y.name.from_+f).toNat).take ((y.name.to+f)-(y.name.from_+f)).toNat=_
  rw[hs,List.drop_take,List.drop_drop,List.take_take,show(y.name.from_+f).toNat=f.toNat+y.name.from_.toNat by omega,show min (y.name.to-y.name.from_).toNat ((u-f).toNat-y.name.from_.toNat)=((y.name.to+f)-(y.name.from_+f)).toNat by omega]
 refine⟨?_,?_,?_,?_⟩
 ·show 0<=y.name.from_+f;omega
 ·show y.name.from_+f<y.name.to+f;omega
 ·show y.name.to+f<=_;omega
 ·unfold anS
  rw[e];exact Qnq fun c zm=>QbS (hc c zm)
