/- Lemmas, conditions told -/
import Derived.Test.YtibemhahkicbpaaGreatL17
set_option maxRecDepth 99999
set_option maxHeartbeats 0
set_option linter.unusedSimpArgs false
set_option linter.unusedVariables false
namespace Go.Proofs.YtibemhahkicbpaaGreat
open Nat(zero_le le_refl)
open Go.RowKit Go.Lib
theorem QfY{x:List Int}(h:0<Qj x 0):∃r0 rs,x=r0::rs/\Qp r0=true:=by
 cases x with
 |nil=>simp[Qj]at h
 |cons r0 rs =>
  refine⟨r0,rs,rfl,?_⟩;by_cases hq:Qp r0=true
  ·exact hq
  ·have:Qj (r0::rs) 0=0:=by show(if Qp r0 then _ else 0)=0;rw[if_neg hq]
   omega
theorem Qge:∀(n:Nat)(r:List Int)(at_:Int)(first:Bool),r.length<=n->∀p∈QB at_ first r,p.kind=2->∃r0,r[(p.from_-at_).toNat]?=some r0/\Qp r0=true:=by
 intro n;induction n with
 |zero =>
  intro r at_ first h p hp
  obtain rfl:r=[]:=List.eq_nil_of_length_eq_zero (by omega)
  rw[QB,dif_pos rfl]at hp;cases hp
 |succ n ih =>
  intro r at_ first h p hp hk
  by_cases hr:r=[]
  ·rw[hr,QB,dif_pos rfl]at hp;cases hp
  ·have hn:=Q3n r first hr
   rw[Q2f hr]at hp;rcases List.mem_cons.1 hp with rfl|hp
   ·have hk:(Qt r first).1=2:=hk
    have jF:0<Qj r 0:=by
     unfold Qt at hk;split at hk
     ·simp at hk
     ·split at hk
      ·simp at hk
      ·split at hk
       ·simp at hk
       ·split at hk
        ·rename_i h;omega
        ·split at hk
         ·simp at hk
         ·split at hk
          ·simp at hk
          ·split at hk<;>simp at hk
    obtain⟨r0,rs,rfl,h0⟩:=QfY jF;exact⟨r0,by show(r0::rs)[(at_-at_).toNat]?=_;rw[Int.sub_self];rfl,h0⟩
   ·have jM:=Q48 r n (r.drop (Qt r first).2.toNat) (at_+(Qt r first).2) false (by rw[List.length_drop];omega) p hp
    obtain⟨r0,h1,h2⟩:=ih (r.drop (Qt r first).2.toNat) (at_+(Qt r first).2) false (by rw[List.length_drop];omega) p hp hk
    refine⟨r0,?_,h2⟩;rw[List.getElem?_drop]at h1;rw[<-h1];congr 1
    omega
theorem Q7y(ps:List TPart):∀(f:Nat)(a:Int),0<=a->a<=ps.length->∀x∈(Qy ps f a).1,x.name∈ps/\x.name.kind=2
 |0,a,_,_,x,hx=>by cases hx
 |f+1,a,h0,h1,x,hx=>by
  unfold Qy at hx;split at hx
  ·rename_i jC
   rcases List.mem_cons.1 hx with rfl|hx
   ·have hs:∃y,Q1q ps a=some y:=Option.isSome_iff_exists.1 jC
    obtain⟨y,hy⟩:=hs;rw[QH,hy];unfold Q1q at hy;split at hy
    ·rename_i ht
     have jJ:=(Q29 (l:=ps) (a:=a.toNat) (ks:=[3]) (by omega)).1 ht.1
     have yb:=(Q29 (l:=ps) (a:=(a+1).toNat) (ks:=[2]) (by have:=jJ.1;simp at this;omega)).1 ht.2
     have jA:(a+1).toNat<ps.length:=by have:=yb.1;simp at this;omega
     have jD:(ps[(a+1).toNat]?.getD Qm).kind=2:=yb.2 0 (by decide)
     simp only at hy
     split at hy
     ·split at hy
      ·simp only[Option.some.injEq]at hy
       subst hy;show ps[(a+1).toNat]?.getD Qm∈ps/\_;refine⟨?_,jD⟩;rw[List.getElem?_eq_getElem jA];exact List.getElem_mem jA
      ·cases hy
     ·cases hy
    ·cases hy
   ·have hg:=Q71 h0 h1 jC
    exact Q7y ps f _ (by omega) hg.2 x hx
  ·cases hx
structure NamIn (l:List Int) (p:TPart):Prop where
 h0:0<=p.from_
 h1:p.from_<p.to
 h2:p.to<=l.length
 ld:Qpk ((l.drop p.from_.toNat).take (p.to-p.from_).toNat)
theorem Q7N(l:List Int):∀x∈(QD l 0 l.length).attrs,NamIn l x.name:=by
 have e1:QS l 0 l.length=QB 0 true l:=by
  unfold QS;rw[Int.toNat_natCast,List.take_length];rfl
 intro x hx;have hx:x∈(Q1l (QB 0 true l)).attrs:=by rw[<-e1];exact hx
 have hm:x∈(Qy (QB 0 true l) ((QB 0 true l).length+1) 2).1/\2<=(QB 0 true l).length:=by
  unfold Q1l at hx;split at hx
  ·rename_i ht
   have jJ:=((Q29 (zero_le _)).1 ht).1;refine⟨?_,by simpa using jJ⟩
   simp only at hx
   split at hx<;>exact hx
  ·cases hx
 obtain⟨h1,h2⟩:=Q7y _ _ 2 (by omega) (by omega) x hm.1
 have jM:=Q48 l l.length l 0 true (le_refl _) x.name h1;obtain⟨r0,h3,h4⟩:=Qge l.length l 0 true (le_refl _) x.name h1 h2;rw[Int.sub_zero]at h3;refine⟨by omega,jM.2.1,by omega,?_⟩
 have jA:x.name.from_.toNat<l.length:=by omega
 rw[List.drop_eq_getElem_cons jA,show(x.name.to-x.name.from_).toNat=(x.name.to-x.name.from_).toNat-1+1 by omega,List.take_succ_cons]
 refine⟨_,_,rfl,?_⟩;rw[List.getElem?_eq_getElem jA]at h3;rw[Option.some.inj h3];exact h4
def anS(l:List Int)(p:TPart):ByteArray:=⟨(Q3Q ((l.drop p.from_.toNat).take (p.to-p.from_).toNat)).toArray⟩
def stS(l:List Int)(f u:Int):ByteArray:=⟨(Q3Q ((l.drop f.toNat).take (u-f).toNat)).toArray⟩
theorem Q9a(ps:List TPart):∀(f:Nat)(a:Int),(Qy ps f a).1.length<=f
 |0,a=>le_refl _
 |f+1,a=>by
  unfold Qy;split
  ·have:=Q9a ps f (Q1z ps a)
   simp only[List.length_cons];omega
  ·exact zero_le _
theorem Q3S(l:List Int)(f u:Int):(QD l f u).attrs.length<=(QS l f u).length+1:=by
 unfold QD;generalize QS l f u=ps;unfold Q1l;split
 ·have h:=Q9a ps (ps.length+1) 2
  simp only
  split<;>exact h
 ·exact zero_le _
theorem QvD{ps:List TPart}{a:Int}(h0:0<=a)(h1:a<=ps.length){k:Int}(h:QO ps a.toNat [k]=true):a<ps.length:=by
 have:=((Q29 (l:=ps) (a:=a.toNat) (ks:=[k]) (by omega)).1 h).1
 simp only[List.length_singleton]at this;omega
theorem QvH{ps:List TPart}{a:Int}(h0:0<=a)(h1:a<ps.length):ps[a.toNat]?.getD Qm∈ps:=by
 have h2:a.toNat<ps.length:=by omega
 rw[List.getElem?_eq_getElem h2];exact List.getElem_mem h2
theorem QvI(ps:List TPart):∀(f:Nat)(a:Int),0<=a->a<=ps.length->∀x∈(Qy ps f a).1,x.name∈ps/\x.value∈ps/\(∃q∈ps,x.all.from_=q.from_)/\x.all.to=x.value.to
 |0,a,_,_,x,hx=>by cases hx
 |f+1,a,h0,h1,x,hx=>by
  unfold Qy at hx;split at hx
  ·rename_i jC
   rcases List.mem_cons.1 hx with rfl|hx
   ·have hs:∃y,Q1q ps a=some y:=Option.isSome_iff_exists.1 jC
    obtain⟨y,hy⟩:=hs;rw[QH,hy];unfold Q1q at hy;split at hy
    ·rename_i ht
     have jJ:=QvD h0 h1 ht.1;have hle2:=QvD (a:=a+1) (by omega) (by omega) ht.2
     obtain⟨hb,j7,_⟩:=Q8O ps (a+2) 3 (by omega) (by omega)
     simp only at hy
     split at hy
     ·rename_i h4
      have hle3:=QvD (by omega) j7 h4
      obtain⟨hc,yO,_⟩:=Q8O ps (Q3y ps (a+2) 3+1) 3 (by omega) (by omega)
      split at hy
      ·rename_i h5
       have hle4:=QvD (by omega) yO h5
       simp only[Option.some.injEq]at hy;subst hy;exact⟨QvH (by omega) hle2,QvH (by omega) hle4,⟨_,QvH h0 jJ,rfl⟩,rfl⟩
      ·cases hy
     ·cases hy
    ·cases hy
   ·have hg:=Q71 h0 h1 jC
    exact QvI ps f _ (by omega) hg.2 x hx
  ·cases hx
structure AttIn (l:List Int) (x:TAttr):Prop where
 n0:0<=x.name.from_
 n1:x.name.from_<x.name.to
 n2:x.name.to<=l.length
 v0:0<=x.value.from_
 v1:x.value.from_<x.value.to
 v2:x.value.to<=l.length
 a0:0<=x.all.from_
 a1:x.all.from_<=l.length
 a2:x.all.to=x.value.to
theorem QvO(l:List Int):∀x∈(QD l 0 l.length).attrs,AttIn l x:=by
 have e1:QS l 0 l.length=QB 0 true l:=by
  unfold QS;rw[Int.toNat_natCast,List.take_length];rfl
 intro x hx;have hx:x∈(Q1l (QB 0 true l)).attrs:=by rw[<-e1];exact hx
 have hm:x∈(Qy (QB 0 true l) ((QB 0 true l).length+1) 2).1/\2<=(QB 0 true l).length:=by
  unfold Q1l at hx;split at hx
  ·rename_i ht
   have jJ:=((Q29 (zero_le _)).1 ht).1;refine⟨?_,by simpa using jJ⟩
   simp only at hx
   split at hx<;>exact hx
  ·cases hx
 obtain⟨h1,h2,⟨q,h3,h4⟩,h5⟩:=QvI _ _ 2 (by omega) (by omega) x hm.1
 have hn:=Q48 l l.length l 0 true (le_refl _) x.name h1;have hv:=Q48 l l.length l 0 true (le_refl _) x.value h2;have hq:=Q48 l l.length l 0 true (le_refl _) q h3;exact⟨by omega,hn.2.1,by omega,by omega,hv.2.1,by omega,by omega,by omega,h5⟩
