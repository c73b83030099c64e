/- Lemmas; conditions told. -/
import Derived.Test.YtibemhahkicbpaaGreatQJ22
set_option maxRecDepth 99999
set_option maxHeartbeats 0
set_option linter.unusedSimpArgs false
set_option linter.unusedVariables false
namespace Go.Proofs.YtibemhahkicbpaaGreat
open List(take_take length_take drop_take take_of_length_le eq_nil_of_length_eq_zero length_drop map_cons drop_drop getElem?_map map_take getElem?_eq_getElem getElem_mem length_append mem_cons map_congr_left length_singleton mem_append_left map_append mem_map)
open Nat(le_refl zero_add zero_le)
open Int(toNat_natCast lt_or_eq_of_le)
open Go.RowKit Go.Lib
theorem Q9l(l:List UInt8)(h:(Qo l).1≠-1):0<Qr (Qo l).1:=by
 have h':¬((decodeL l).1=65533/\(decodeL l).2=1):=fun hh=>h (by rw[Qo,if_pos hh])
 rw[Qo,if_neg h'];show 0<Qr ((decodeL l).1:Int);clear h;rw[decodeL_N]at h' ⊢;have k0:=(l.getD 0 0).toNat_lt;have k1:=(l.getD 1 0).toNat_lt;have k2:=(l.getD 2 0).toNat_lt;have k3:=(l.getD 3 0).toNat_lt;rcases decodeN_shape l.length (l.getD 0 0).toNat (l.getD 1 0).toNat (l.getD 2 0).toNat (l.getD 3 0).toNat with ⟨c,e⟩|⟨c1,c2,c3,cv,e⟩|⟨c1,c2,c3,c4,cv,cs,e⟩|⟨c1,c2,c3,c4,c5,cv,cw,e⟩|e
 all_goals (rw[e]at h' ⊢;dsimp only at h' ⊢)
 all_goals (try (exact absurd ⟨rfl,rfl⟩ h'))
 all_goals (unfold Qr;repeat' split)
 all_goals omega
theorem QfO(l:List UInt8)(n:Nat)(jJ:l≠[])(hn:(Qo l).2<=n):Qo (l.take n)=Qo l:=by
 by_cases h:(Qo l).1=-1
 ·have h2:Qo l=(-1,1):=by
   unfold Qo at h ⊢;split
   ·rfl
   ·rename_i h3
    rw[if_neg h3]at h;simp only at h
    omega
  have h1:1<=n:=by rw[h2]at hn;exact hn
  have zq:l.take n≠[]:=by
   intro h3;rcases List.take_eq_nil_iff.1 h3 with h3|h3
   ·omega
   ·exact jJ h3
  by_cases h3:(Qo (l.take n)).1=-1
  ·rw[h2]
   unfold Qo at h3 ⊢;split
   ·rfl
   ·rename_i h4
    rw[if_neg h4]at h3;simp only at h3
    omega
  ·have g:=Q5k _ zq h3
   have jH:=Q5T _ zq;refine absurd ⟨l.drop (Qo (l.take n)).2,?_⟩ (Qfs l h _ (Q9l _ h3));rw[<-g,take_take,Nat.min_eq_left (by rw[length_take]at jH;omega),List.take_append_drop]
 ·have g:=Q5k _ jJ h
  have hw:=Q9l _ h
  have e:l.take n=encodeRune (Qo l).1++(l.drop (Qo l).2).take (n-(Qo l).2):=by
   rw[<-g,<-drop_take];conv=>lhs;rw[<-List.take_append_drop (Qo l).2 (l.take n),take_take,Nat.min_eq_left hn]
  have e2:l=encodeRune (Qo l).1++l.drop (Qo l).2:=by rw[<-g,List.take_append_drop]
  rw[e,Q49 _ hw];conv=>rhs;rw[e2,Q49 _ hw]
theorem Q8G(big:Bool)(x y:UInt8):(Q1j big [x,y]).2=2:=by
 unfold Q1j;simp only;split<;>rfl
theorem Qi6(big:Bool)(l:List UInt8)(n:Nat)(jJ:l≠[])(h:(Q1j big l).2<=n):Q1j big (l.take n)=Q1j big l:=by
 match l,jJ with
 | [x],_ =>
  have h:(1:Int)<=n:=h;rw[take_of_length_le (by simp;omega)]
 | [x,y],_ =>
  rw[Q8G]at h;rw[take_of_length_le (by simp;omega)]
 | [x,y,z],_ =>
  have e:Q1j big [x,y,z]=Q1j big [x,y]:=rfl;rw[e,Q8G]at h;by_cases h2:n=2
  ·subst h2;rfl
  ·rw[take_of_length_le (by simp;omega)]
 |x::y::x2::y2::r,_ =>
  have e:Q1j big (x::y::x2::y2::r)=if(55296<=Q1e big x y/\Q1e big x y<56320)/\(56320<=Q1e big x2 y2/\Q1e big x2 y2<57344)then(65536+(Q1e big x y-55296) * 1024+(Q1e big x2 y2-56320),4)else Q1j big [x,y]:=rfl;by_cases hC:(55296<=Q1e big x y/\Q1e big x y<56320)/\(56320<=Q1e big x2 y2/\Q1e big x2 y2<57344)
  ·rw[e,if_pos hC]at h ⊢
   have h:(4:Int)<=n:=h;obtain⟨m,rfl⟩:∃m,n=m+4:=⟨n-4,by omega⟩
   show Q1j big (x::y::x2::y2::r.take m)=_;exact if_pos hC
  ·rw[e,if_neg hC]at h ⊢
   rw[Q8G]at h;by_cases h2:n=2
   ·subst h2;rfl
   ·by_cases h3:n=3
    ·subst h3;rfl
    ·obtain⟨m,rfl⟩:∃m,n=m+4:=⟨n-4,by omega⟩
     show Q1j big (x::y::x2::y2::r.take m)=_;exact if_neg hC
def Q2d(kind:Int)(l:List UInt8):Int×Nat:=if kind=0 then Qo l else((Q1j (decide (kind=1)) l).1,(Q1j (decide (kind=1)) l).2.toNat)
theorem Q7g(kind:Int)(l:List UInt8)(jJ:l≠[]):1<=(Q2d kind l).2/\(Q2d kind l).2<=l.length:=by
 unfold Q2d;split
 ·exact⟨Q57 l,Q5T l jJ⟩
 ·have:=Q6Z (decide (kind=1)) l jJ
  simp only
  omega
theorem Qjd(kind:Int)(l:List UInt8)(n:Nat)(jJ:l≠[])(h:(Q2d kind l).2<=n):Q2d kind (l.take n)=Q2d kind l:=by
 unfold Q2d at h ⊢;split
 ·rename_i hk
  rw[if_pos hk]at h;exact QfO l n jJ h
 ·rename_i hk
  rw[if_neg hk]at h;simp only at h
  rw[Qi6 _ l n jJ (by omega)]
def Qf3(kind:Int)(n off:Nat)(l:List UInt8):List Itm:=if kind=0 then(Q1u n off l).map Qb7 else if kind=1 then Q1x true off l else if kind=2 then Q1x false off l else []
theorem Q5F(kind:Int)(n off:Nat):Qf3 kind n off []=[]:=by
 unfold Qf3;rw[Q2y,Q1x,dif_pos rfl,Q1x,dif_pos rfl];simp
theorem QcG(big:Bool)(off:Nat){l:List UInt8}(jJ:l≠[]):Q1x big off l=⟨(Q1j big l).1,(off:Int),((Q1j big l).2.toNat:Int)⟩::Q1x big ((off+(Q1j big l).2.toNat:Nat):Int) (l.drop (Q1j big l).2.toNat):=by
 have:=Q6Z big l jJ
 have e1:((Q1j big l).2.toNat:Int)=(Q1j big l).2:=Int.toNat_of_nonneg (by omega)
 have e2:((off+(Q1j big l).2.toNat:Nat):Int)=(off:Int)+(Q1j big l).2:=by rw[Int.natCast_add,e1]
 rw[e2,e1];conv=>lhs;rw[Q1x,dif_neg jJ]
theorem Q8M{kind:Int}(hk:kind=0\/kind=1\/kind=2){l:List UInt8}(jJ:l≠[])(n off:Nat):Qf3 kind (n+1) off l=⟨(Q2d kind l).1,off,(Q2d kind l).2⟩::Qf3 kind n (off+(Q2d kind l).2) (l.drop (Q2d kind l).2):=by
 rcases hk with rfl|rfl|rfl
 ·obtain⟨b,t,rfl⟩:=List.exists_cons_of_ne_nil jJ
  rfl
 ·exact QcG true off jJ
 ·exact QcG false off jJ
theorem Qf6{kind:Int}(hk:kind=0\/kind=1\/kind=2):∀(n off:Nat)(l:List UInt8),l.length<=n->(Qf3 kind n off l).length<=l.length
 |0,off,l,h=>by
  obtain rfl:l=[]:=eq_nil_of_length_eq_zero (by omega)
  rw[Q5F];exact le_refl _
 |n+1,off,l,h=>by
  by_cases jJ:l=[]
  ·subst jJ
   rw[Q5F];exact le_refl _
  ·have hs:=Q7g kind l jJ
   have ih:=Qf6 hk n (off+(Q2d kind l).2) (l.drop (Q2d kind l).2) (by rw[length_drop];omega)
   rw[length_drop]at ih;rw[Q8M hk jJ,List.length_cons];omega
theorem QkM{kind:Int}(hk:kind=0\/kind=1\/kind=2)(l:List UInt8):(Q4B kind l).length<=l.length:=Qf6 hk l.length 0 l (le_refl _)
def wdK(kind:Int):Nat->List UInt8->Nat
 |0,_=>0
 |j+1,l=>if l=[]then 0 else(Q2d kind l).2+wdK kind j (l.drop (Q2d kind l).2)
def rnK(kind:Int):Nat->List UInt8->List Int
 |0,_=>[]
 |n+1,l=>if l=[]then []else(Q2d kind l).1::rnK kind n (l.drop (Q2d kind l).2)
theorem Q8j(kind:Int)(j:Nat):wdK kind j []=0:=by cases j<;>rfl
theorem Q59(kind:Int)(n:Nat):rnK kind n []=[]:=by cases n<;>rfl
theorem QjM{kind:Int}(hk:kind=0\/kind=1\/kind=2):∀(n off:Nat)(l:List UInt8),l.length<=n->(Qf3 kind n off l).map Itm.r=rnK kind n l
 |0,off,l,h=>by
  obtain rfl:l=[]:=eq_nil_of_length_eq_zero (by omega)
  rw[Q5F];rfl
 |n+1,off,l,h=>by
  by_cases jJ:l=[]
  ·subst jJ
   rw[Q5F];rfl
  ·have hs:=Q7g kind l jJ
   rw[Q8M hk jJ,rnK,if_neg jJ,map_cons,QjM hk n _ _ (by rw[length_drop];omega)]
theorem QeN{kind:Int}(hk:kind=0\/kind=1\/kind=2):∀(n off:Nat)(l:List UInt8),l.length<=n->∀j,j<=(Qf3 kind n off l).length->((Qf3 kind n off l).map Itm.off++[((off+l.length:Nat):Int)])[j]?=some ((off+wdK kind j l:Nat):Int)
 |0,off,l,h,j,hj=>by
  obtain rfl:l=[]:=eq_nil_of_length_eq_zero (by omega)
  rw[Q5F]at hj ⊢;obtain rfl:j=0:=by simpa using hj
  rfl
 |n+1,off,l,h,j,hj=>by
  by_cases jJ:l=[]
  ·subst jJ
   rw[Q5F]at hj ⊢;obtain rfl:j=0:=by simpa using hj
   rfl
  ·have hs:=Q7g kind l jJ
   rw[Q8M hk jJ]at hj ⊢;cases j with
   |zero=>rfl
   |succ j =>
    have ih:=QeN hk n (off+(Q2d kind l).2) (l.drop (Q2d kind l).2) (by rw[length_drop];omega) j (by simpa using hj)
    rw[length_drop,show off+(Q2d kind l).2+(l.length-(Q2d kind l).2)=off+l.length by omega]at ih
    rw[wdK,if_neg jJ,<-Nat.add_assoc,<-ih];rfl
theorem Qaz(kind:Int):∀(n m:Nat)(l:List UInt8),l.length<=n->l.length<=m->rnK kind n l=rnK kind m l
 |0,m,l,h,_=>by
  obtain rfl:l=[]:=eq_nil_of_length_eq_zero (by omega)
  rw[Q59,Q59]
 |n+1,0,l,_,h=>by
  obtain rfl:l=[]:=eq_nil_of_length_eq_zero (by omega)
  rw[Q59,Q59]
 |n+1,m+1,l,h1,h2=>by
  by_cases jJ:l=[]
  ·subst jJ;rfl
  ·have hs:=Q7g kind l jJ
   rw[rnK,rnK,if_neg jJ,if_neg jJ,Qaz kind n m _ (by rw[length_drop];omega) (by rw[length_drop];omega)]
theorem QdP(kind:Int):∀(n j:Nat)(l:List UInt8),l.length<=n->rnK kind n (l.take (wdK kind j l))=(rnK kind n l).take j
 |0,j,l,h=>by
  obtain rfl:l=[]:=eq_nil_of_length_eq_zero (by omega)
  rw[Q8j];simp[rnK]
 |n+1,j,l,h=>by
  by_cases jJ:l=[]
  ·subst jJ
   rw[Q8j,Q59];simp[Q59]
  ·have hs:=Q7g kind l jJ
   cases j with
   |zero=>rfl
   |succ j =>
    have ih:=QdP kind n j (l.drop (Q2d kind l).2) (by rw[length_drop];omega)
    rw[wdK,if_neg jJ]
    have zq:l.take ((Q2d kind l).2+wdK kind j (l.drop (Q2d kind l).2))≠[]:=by
     intro h3;rcases List.take_eq_nil_iff.1 h3 with h3|h3
     ·omega
     ·exact jJ h3
    rw[rnK,if_neg zq,Qjd kind l _ jJ (by omega),drop_take,show(Q2d kind l).2+wdK kind j (l.drop (Q2d kind l).2)-(Q2d kind l).2=wdK kind j (l.drop (Q2d kind l).2) by omega,ih,rnK,if_neg jJ]
    rfl
theorem Qee(kind:Int):∀(n j:Nat)(l:List UInt8),l.length<=n->rnK kind n (l.drop (wdK kind j l))=(rnK kind n l).drop j
 |0,j,l,h=>by
  obtain rfl:l=[]:=eq_nil_of_length_eq_zero (by omega)
  rw[Q8j];simp[rnK]
 |n+1,j,l,h=>by
  by_cases jJ:l=[]
  ·subst jJ
   rw[Q8j,Q59];simp[Q59]
  ·have hs:=Q7g kind l jJ
   cases j with
   |zero=>rfl
   |succ j =>
    have ih:=Qee kind n j (l.drop (Q2d kind l).2) (by rw[length_drop];omega)
    rw[wdK,if_neg jJ,<-drop_drop,Qaz kind (n+1) n _ (by rw[length_drop,length_drop];omega) (by rw[length_drop,length_drop];omega),ih]
    conv=>rhs;rw[rnK,if_neg jJ]
    rfl
theorem Qh6(kind:Int):∀(f g:Nat)(l:List UInt8),wdK kind (f+g) l=wdK kind f l+wdK kind g (l.drop (wdK kind f l))
 |0,g,l=>by rw[zero_add];show _=0+wdK kind g (l.drop 0);rw[zero_add,List.drop_zero]
 |f+1,g,l=>by
  by_cases jJ:l=[]
  ·subst jJ;simp[Q8j]
  ·rw[show f+1+g=(f+g)+1 by omega,wdK,if_neg jJ,wdK,if_neg jJ,Qh6 kind f g,drop_drop]
   omega
theorem Qct{kind:Int}(hk:kind=0\/kind=1\/kind=2)(l:List UInt8):Q2i kind l=rnK kind l.length l:=QjM hk l.length 0 l (le_refl _)
theorem QgM(b:List UInt8){j:Nat}(hj:j<=(Qb b).r.length):Q1s (Qb b) j=((QX b).2.toNat+wdK (QX b).1 j (b.drop (QX b).2.toNat):Nat):=by
 have hb:=Q4h b
 have gC:j<=(Q2V b).length:=by
  have:(Qb b).r.length=(Q2V b).length:=List.length_map _
  omega
 have h:=QeN (Q54 b) (b.drop (QX b).2.toNat).length 0 (b.drop (QX b).2.toNat) (le_refl _) j gC;have h:((Q2V b).map Itm.off++[((0+(b.drop (QX b).2.toNat).length:Nat):Int)])[j]?=some ((0+wdK (QX b).1 j (b.drop (QX b).2.toNat):Nat):Int):=h;rw[zero_add,zero_add,length_drop,show((b.length-(QX b).2.toNat:Nat):Int)=(b.length:Int)-(QX b).2 by omega]at h
 show((Qb b).off[(j:Int).toNat]?.getD 0:Int)=_
 rw[Qe7,toNat_natCast,getElem?_map,h];show(_+_:Int)=_
 rw[Int.natCast_add,Int.toNat_of_nonneg hb.1,Int.add_comm]
theorem Qeo(b:List UInt8){f u:Int}(h0:0<=f)(h1:f<=u)(h2:u<=(Qb b).r.length):Q2i (Qb b).kind (QU (Qb b) b f u)=((Qb b).r.drop f.toNat).take (u-f).toNat:=by
 obtain⟨i,rfl⟩:=Int.eq_ofNat_of_zero_le h0;obtain⟨g,rfl⟩:∃g:Nat,u=((i+g:Nat):Int):=⟨(u-i).toNat,by omega⟩
 obtain⟨c,hc⟩:=exq (b.drop (QX b).2.toNat);have e1:((Qb b).off[(i:Int).toNat]?.getD 0:Int)=_:=QgM b (j:=i) (by omega)
 have e2:((Qb b).off[((i+g:Nat):Int).toNat]?.getD 0:Int)=_:=QgM b (j:=i+g) (by omega)
 have hr:(Qb b).r=rnK (QX b).1 c.length c:=by rw[hc];exact Qct (Q54 b) _
 have hs:QU (Qb b) b i ((i+g:Nat):Int)=(c.drop (wdK (QX b).1 i c)).take (wdK (QX b).1 g (c.drop (wdK (QX b).1 i c))):=by
  unfold QU;rw[e1,e2,<-hc,toNat_natCast,Qh6,<-drop_drop,<-hc];congr 1
  omega
 rw[hs,hr,show(((i+g:Nat):Int)-(i:Int)).toNat=g by omega,toNat_natCast]
 show Q2i (QX b).1 _=_;rw[Qct (Q54 b),Qaz _ _ c.length _ (le_refl _) (by rw[length_take,length_drop];omega),QdP _ _ _ _ (by rw[length_drop];omega),Qee _ _ _ _ (le_refl _)]
def shP(d:Int)(x:TPart):TPart:=⟨x.kind,x.from_+d,x.to+d⟩
theorem Q2f{r:List Int}(h:r≠[])(a:Int)(first:Bool):QB a first r=⟨(Qt r first).1,a,a+(Qt r first).2⟩::QB (a+(Qt r first).2) false (r.drop (Qt r first).2.toNat):=by
 conv=>lhs;rw[QB,dif_neg h]
theorem Q7J(d:Int):∀(n:Nat)(r:List Int)(a:Int)(first:Bool),r.length<=n->QB (a+d) first r=(QB a first r).map (shP d)
 |0,r,a,first,h=>by
  obtain rfl:r=[]:=eq_nil_of_length_eq_zero (by omega)
  rw[QB,dif_pos rfl,QB,dif_pos rfl];rfl
 |n+1,r,a,first,h=>by
  by_cases hr:r=[]
  ·rw[QB,dif_pos hr,QB,dif_pos hr];rfl
  ·have hn:=Q3n r first hr
   have ih:=Q7J d n (r.drop (Qt r first).2.toNat) (a+(Qt r first).2) false (by rw[length_drop];omega)
   rw[Q2f hr,Q2f hr,map_cons,<-ih,shP,show a+d+(Qt r first).2=a+(Qt r first).2+d by omega]
theorem Q8o(d:Int)(ps:List TPart)(a:Nat)(ks:List Int):QO (ps.map (shP d)) a ks=QO ps a ks:=by
 unfold QO;rw[<-List.map_drop,<-map_take,List.map_map];rfl
theorem Qa9(ps:List TPart):(Q1l ps).name=if QO ps 0 [1,2]=true then ps[1]?.getD Qm else Qm:=by
 unfold Q1l;split
 ·simp only
  split
  ·rfl
  ·rfl
 ·rfl
def Qhk(r:List Int):List Int:=Qs ⟨0,0,r,[]⟩ 0 r.length
theorem Qg4(t:Txt){f u:Int}(h0:0<=f)(h1:f<=u)(h2:u<=t.r.length):Qhk ((t.r.drop f.toNat).take (u-f).toNat)=Qs t f u:=by
 obtain⟨s,hs⟩:=exq ((t.r.drop f.toNat).take (u-f).toNat);have zJ:(s.length:Int)=u-f:=by rw[hs,length_take,length_drop];omega
 have jW:(t.r.take u.toNat).drop f.toNat=s:=by rw[hs,drop_take];congr 1;omega
 have e1:QS s 0 s.length=QB 0 true s:=by
  unfold QS;rw[toNat_natCast,List.take_length];rfl
 have e2:QS t.r f u=(QB 0 true s).map (shP f):=by
  unfold QS;rw[jW];have:=Q7J f s.length s 0 true (le_refl _)
  rw[Int.zero_add]at this;exact this
 rw[<-hs];unfold Qhk Qs QD;rw[e1,e2,Qa9,Qa9,Q8o];obtain⟨ps,ji⟩:=exq (QB 0 true s);rw[<-ji];split
 ·rename_i ht
  have hl:=((Q29 (zero_le _)).1 ht).1;have hl:2<=ps.length:=by simpa using hl
  have jR:∀x∈ps,_:=fun x hx=>Q48 s s.length s 0 true (le_refl _) x (by rw[<-ji];exact hx)
  rw[getElem?_map,getElem?_eq_getElem (show 1<ps.length by omega)]
  have hp:=jR ps[1] (getElem_mem _);show(s.drop ps[1].from_.toNat).take (ps[1].to-ps[1].from_).toNat=(t.r.drop (ps[1].from_+f).toNat).take ((ps[1].to+f)-(ps[1].from_+f)).toNat
  rw[hs,drop_take,drop_drop,take_take,show(ps[1].from_+f).toNat=f.toNat+ps[1].from_.toNat by omega,show min (ps[1].to-ps[1].from_).toNat ((u-f).toNat-ps[1].from_.toNat)=((ps[1].to+f)-(ps[1].from_+f)).toNat by omega]
 ·rfl
theorem QaM{r:Int}(h:Qp r=true):0<Qr r:=by
 have key:∀x∈startSp,0<=x.1/\x.2<=1114111/\(x.2<55296\/57343<x.1):=by decide
 obtain⟨x,hx,hr⟩:=List.any_eq_true.1 (show startSp.any (fun x=>decide (x.1<=r)&&decide (r<=x.2))=true from h)
 have hk:=key x hx;simp only[Bool.and_eq_true,decide_eq_true_eq]at hr;unfold Qr;repeat' split
 all_goals omega
def n01(b:Bool):Nat:=if b then 1 else 0
theorem Qfc{l:List Node}{x:Node}:Q1f (l++[x]) l.length=x.kind:=by unfold Q1f;rw[Q36]
def Qpk(nm:List Int):Prop:=∃r0 rs,nm=r0::rs/\Qp r0=true
section
variable {K:Int}{m:Mk}{X:List UInt8}{B D c:Nat}
theorem QmK{s0:List Opn}{y x:Opn}(jL:m.s=s0++[y]++[x])(kind:Int)(bs:List UInt8) :
  (Q22 m.n.length (Q20 (QI kind bs) m)).n=(m.n++[QI kind bs])++[Q1i (m.n++[QI kind bs]) 21 (x.kids++[(m.n.length:Int)])]/\(Q22 m.n.length (Q20 (QI kind bs) m)).s=s0++[⟨y.name,y.kids++[((m.n++[QI kind bs]).length:Int)]⟩]:=by
 have eT:QZ (Q3g (m.n.length:Int) (Q20 (QI kind bs) m)).s=⟨x.name,x.kids++[(m.n.length:Int)]⟩:=by
  show QZ (Q2k m.n.length m.s)=_;rw[jL,Q2D,Q8k]
 constructor
 ·show(m.n++[QI kind bs])++[Q1i (m.n++[QI kind bs]) 21 (QZ (Q3g (m.n.length:Int) (Q20 (QI kind bs) m)).s).kids]=_
  rw[eT]
 ·show Q2k ((m.n++[QI kind bs]).length:Int) ((Q2k m.n.length m.s).take ((Q2k m.n.length m.s).length-1))=_
  have e2:(Q2k m.n.length m.s).take ((Q2k m.n.length m.s).length-1)=s0++[y]:=by
   rw[jL,Q2D,show(s0++[y]++[(⟨x.name,x.kids++[(m.n.length:Int)]⟩:Opn)]).length-1=(s0++[y]).length by simp]
   exact List.take_left
  rw[e2,Q2D]
theorem QhW{s:List Opn}(hs:2<=s.length):∃s0 y,s=s0++[y]++[QZ s]:=by
 obtain⟨s1,jL⟩:=Q2r (s:=s) (by omega)
 have vS:1<=s1.length:=by rw[jL]at hs;simp at hs;omega
 obtain⟨s0,qt⟩:=Q2r vS;exact⟨s0,QZ s1,by rw[<-qt];exact jL⟩
def sz(m:Mk):Nat:=m.n.length+2 * m.s.length
end
section
variable {m:Mk}{X:List UInt8}{B D S:Nat}{b:List UInt8}{f u:Int}
end
theorem QhT(l:List Int)(k:Nat):(Q1n l k).1≠21:=by
 unfold Q1n;repeat' split
 all_goals (intro h;simp at h)
theorem Q7E(l:List Int)(kd k skip:Nat)(bs:List UInt8):(Q14 l kd k skip bs).1=kd:=by unfold Q14;split<;>rfl
theorem Qf9(l:List Int)(k:Nat):(Ql l k).1≠21:=by
 unfold Ql;split
 ·unfold Q1H
  split
  ·rw[Q7E];decide
  ·split
   ·rw[Q7E];decide
   ·split
    ·rw[Q7E];decide
    ·split
     ·exact(by decide:(7:Nat)≠21)
     ·split
      ·exact(by decide:(10:Nat)≠21)
      ·split
       ·unfold Q1D
        repeat' split
        all_goals (intro h;simp at h)
       ·exact(by decide:(11:Nat)≠21)
 ·split
  ·exact QhT l k
  ·split
   ·exact(by decide:(11:Nat)≠21)
   ·exact(by decide:(1:Nat)≠21)
section
open Tryz
theorem Qjr(l:List Int)(hl:l.length<=1000000)(f u:Int)(h0:0<=f)(h1:f<=u)(h2:u<=l.length)(jJ:Q3Q ((l.drop f.toNat).take (u-f).toNat)≠[]) :
  BCall prog 50 [.agg [.val (.int .i64 0),.val (.int .i64 0),.slc 1 (Q0 l),.val (.slice none 0 0)],.val (.int .i64 f),.val (.int .i64 u)] [] (.val (.string ⟨(Q3Q ((l.drop f.toNat).take (u-f).toNat)).toArray⟩)) []:=by
 obtain⟨i,rfl⟩:=Int.eq_ofNat_of_zero_le h0;obtain⟨j,rfl⟩:=Int.eq_ofNat_of_zero_le (Int.le_trans h0 h1);have e1:((i:Int).toNat)=i:=toNat_natCast i;have e2:((j:Int)-(i:Int)).toNat=j-i:=by omega
 rw[e1,e2]at jJ ⊢;refine BCall.hand (enters_of func50 (by kernel_rfl) rfl) fun w g vs M hL=>?_
 obtain⟨v1,vs1,rfl,k1,hL⟩:=Q13 hL;obtain⟨v2,vs2,rfl,k2,hL⟩:=Q13 hL;obtain⟨v3,vs3,rfl,k3,hL⟩:=Q13 hL;obtain rfl:=Q2A hL;obtain rfl:=ARel.valEq (ob:=[]) k2;obtain rfl:=ARel.valEq (ob:=[]) k3;obtain⟨cs,rfl,hc⟩:=k1
 obtain⟨c0,c1,c2,c3,rfl⟩:∃c0 c1 c2 c3,cs=#[c0,c1,c2,c3]:=by
  rcases cs with ⟨l4⟩
  match l4,hc.1 with
  | [a,b,c,d],_=>exact⟨a,b,c,d,rfl⟩
 obtain rfl:=ARel.valEq (ob:=[]) (hc.2 0 c0 _ rfl rfl).1;obtain rfl:=ARel.valEq (ob:=[]) (hc.2 1 c1 _ rfl rfl).1;obtain rfl:=ARel.valEq (ob:=[]) (hc.2 3 c3 _ rfl rfl).1;obtain⟨A,c,rfl,hr⟩:=Q4j (hc.2 2 c2 _ rfl rfl).1 M;exact(Qe6 _ A _ c l i j w hr (by omega) (by omega) hl jJ).mono fun e w' ⟨h,hb⟩=>⟨_,h,hb,.val _ rfl⟩
theorem Qlm{nm:List Int}(h:Qpk nm):Q3Q nm≠[]:=by
 obtain⟨r0,rs,rfl,h0⟩:=h;have hw:=QaM h0;have hb:r0≠-1:=by rintro rfl;exact absurd hw (by decide)
 have e:Q3Q (r0::rs)=Q10 [r0]++Q3Q rs:=by
  show(if r0=-1 then []else Q10 [r0])++Q3Q rs=_
  rw[if_neg hb]
 have h1:(Q10 [r0]).length=Qr r0:=by
  have:Q10 [r0]=encodeRune r0:=by
   show Q2I r0++[]=_;rw[Q2I,if_neg (by omega),List.append_nil]
  rw[this,Q47 r0 hw]
 intro h2;have:=congrArg List.length h2
 rw[e,length_append,h1]at this;simp at this;omega
theorem QfY{x:List Int}(h:0<Qj x 0):∃r0 rs,x=r0::rs/\Qp r0=true:=by
 cases x with
 |nil=>simp[Qj]at h
 |cons r0 rs =>
  refine⟨r0,rs,rfl,?_⟩;by_cases hq:Qp r0=true
  ·exact hq
  ·have:Qj (r0::rs) 0=0:=by show(if Qp r0 then _ else 0)=0;rw[if_neg hq]
   omega
theorem Qge:∀(n:Nat)(r:List Int)(at_:Int)(first:Bool),r.length<=n->∀p∈QB at_ first r,p.kind=2->∃r0,r[(p.from_-at_).toNat]?=some r0/\Qp r0=true:=by
 intro n;induction n with
 |zero =>
  intro r at_ first h p hp
  obtain rfl:r=[]:=eq_nil_of_length_eq_zero (by omega)
  rw[QB,dif_pos rfl]at hp;cases hp
 |succ n ih =>
  intro r at_ first h p hp hk
  by_cases hr:r=[]
  ·rw[hr,QB,dif_pos rfl]at hp;cases hp
  ·have hn:=Q3n r first hr
   rw[Q2f hr]at hp;rcases mem_cons.1 hp with rfl|hp
   ·have hk:(Qt r first).1=2:=hk
    have jF:0<Qj r 0:=by
     unfold Qt at hk;split at hk
     ·simp at hk
     ·split at hk
      ·simp at hk
      ·split at hk
       ·simp at hk
       ·split at hk
        ·rename_i h;omega
        ·split at hk
         ·simp at hk
         ·split at hk
          ·simp at hk
          ·split at hk<;>simp at hk
    obtain⟨r0,rs,rfl,h0⟩:=QfY jF;exact⟨r0,by show(r0::rs)[(at_-at_).toNat]?=_;rw[Int.sub_self];rfl,h0⟩
   ·have jR:=Q48 r n (r.drop (Qt r first).2.toNat) (at_+(Qt r first).2) false (by rw[length_drop];omega) p hp
    obtain⟨r0,h1,h2⟩:=ih (r.drop (Qt r first).2.toNat) (at_+(Qt r first).2) false (by rw[length_drop];omega) p hp hk
    refine⟨r0,?_,h2⟩;rw[List.getElem?_drop]at h1;rw[<-h1];congr 1
    omega
theorem Q7y(ps:List TPart):∀(f:Nat)(a:Int),0<=a->a<=ps.length->∀x∈(Qy ps f a).1,x.name∈ps/\x.name.kind=2
 |0,a,_,_,x,hx=>by cases hx
 |f+1,a,h0,h1,x,hx=>by
  unfold Qy at hx;split at hx
  ·rename_i jE
   rcases mem_cons.1 hx with rfl|hx
   ·have hs:∃y,Q1q ps a=some y:=Option.isSome_iff_exists.1 jE
    obtain⟨y,hy⟩:=hs;rw[QH,hy];unfold Q1q at hy;split at hy
    ·rename_i ht
     have jH:=(Q29 (l:=ps) (a:=a.toNat) (ks:=[3]) (by omega)).1 ht.1
     have yV:=(Q29 (l:=ps) (a:=(a+1).toNat) (ks:=[2]) (by have:=jH.1;simp at this;omega)).1 ht.2
     have jA:(a+1).toNat<ps.length:=by have:=yV.1;simp at this;omega
     have jD:(ps[(a+1).toNat]?.getD Qm).kind=2:=yV.2 0 (by decide)
     simp only at hy
     split at hy
     ·split at hy
      ·simp only[Option.some.injEq]at hy
       subst hy;show ps[(a+1).toNat]?.getD Qm∈ps/\_;refine⟨?_,jD⟩;rw[getElem?_eq_getElem jA];exact getElem_mem jA
      ·cases hy
     ·cases hy
    ·cases hy
   ·have hg:=Q71 h0 h1 jE
    exact Q7y ps f _ (by omega) hg.2 x hx
  ·cases hx
structure NamIn (l:List Int) (p:TPart):Prop where
 h0:0<=p.from_
 h1:p.from_<p.to
 h2:p.to<=l.length
 ld:Qpk ((l.drop p.from_.toNat).take (p.to-p.from_).toNat)
theorem Q7N(l:List Int):∀x∈(QD l 0 l.length).attrs,NamIn l x.name:=by
 have e1:QS l 0 l.length=QB 0 true l:=by
  unfold QS;rw[toNat_natCast,List.take_length];rfl
 intro x hx;have hx:x∈(Q1l (QB 0 true l)).attrs:=by rw[<-e1];exact hx
 have hm:x∈(Qy (QB 0 true l) ((QB 0 true l).length+1) 2).1/\2<=(QB 0 true l).length:=by
  unfold Q1l at hx;split at hx
  ·rename_i ht
   have jH:=((Q29 (zero_le _)).1 ht).1;refine⟨?_,by simpa using jH⟩
   simp only at hx
   split at hx<;>exact hx
  ·cases hx
 obtain⟨h1,h2⟩:=Q7y _ _ 2 (by omega) (by omega) x hm.1
 have jR:=Q48 l l.length l 0 true (le_refl _) x.name h1;obtain⟨r0,h3,h4⟩:=Qge l.length l 0 true (le_refl _) x.name h1 h2;rw[Int.sub_zero]at h3;refine⟨by omega,jR.2.1,by omega,?_⟩
 have jA:x.name.from_.toNat<l.length:=by omega
 rw[List.drop_eq_getElem_cons jA,show(x.name.to-x.name.from_).toNat=(x.name.to-x.name.from_).toNat-1+1 by omega,List.take_succ_cons]
 refine⟨_,_,rfl,?_⟩;rw[getElem?_eq_getElem jA]at h3;rw[Option.some.inj h3];exact h4
def Q5t(s t:ByteArray):ByteArray:=if Q1T s t=true then s.extract t.size s.size else s
def QpX(pre:ByteArray->ByteArray->Bool):Nat->List AV->List Ob->Option (AV×List Ob):=fun f args _=>match f,args with
 |173,[.val (.string s),.val (.string t)]=>some (.val (.bool (pre s t)),[])
 |_,_=>none
theorem QnG(s t:ByteArray):BCall prog 219 [.val (.string s),.val (.string t)] [] (.tup [.val (.string (Q5t s t)),.val (.bool (Q1T s t))]) []:=by
 have cH:=QnX s t;refine fnN (QpX Q1T) func219 rfl fun _ _=>?_
 with_reducible refine cv1 Q1T ?_
 refine⟨cH,fun h=>?_,fun h=>⟨?_,?_⟩⟩
 ·have e:Q1T s t=false:=by
   have h:(!Q1T s t)=true:=h;simpa using h
  refine .pure rfl ⟨.inl ?_,.inl ?_,trivial⟩
  ·rw[Q5t,e];rfl
  ·rw[e]
 ·have e:Q1T s t=true:=by
   have h:(!Q1T s t)=false:=h;simpa using h
  have h2:t.size<=s.size:=by
   rw[Q1T,Bool.and_eq_true]at e;exact of_decide_eq_true e.1
  show(0:Int)<=(t.size:Int)/\(t.size:Int)<=(s.size:Int)/\(s.size:Int)<=(s.size:Int)
  omega
 ·have e:Q1T s t=true:=by
   have h:(!Q1T s t)=false:=h;simpa using h
  refine .pure rfl ⟨.inl ?_,.inl ?_,trivial⟩
  ·rw[Q5t,if_pos e];rfl
  ·rw[e]
def QpS(s:ByteArray)(b:Bool):Nat->List AV->List Ob->Option (AV×List Ob):=fun f args _=>match f,args with
 |219,[.val (.string _),.val (.string _)]=>some (.tup [.val (.string s),.val (.bool b)],[])
 |_,_=>none
theorem QoC(s t:ByteArray):BCall prog 191 [.val (.string s),.val (.string t)] [] (.tup [.val (.string (Q5t s t)),.val (.bool (Q1T s t))]) []:=by
 have cH:=QnG s t;generalize Q5t s t=u at cH ⊢;generalize Q1T s t=b at cH ⊢;refine fnN (QpS u b) func191 rfl fun _ _=>?_
 with_reducible refine cv0 ?_
 exact⟨cH,.pure rfl ⟨.inl rfl,.inl rfl,trivial⟩⟩
theorem QjN(s:ByteArray)(hs:s.size<=300000000):BCall prog 192 [.val (.string s)] [] (.val (.bool (Q3w s.data.toList))) []:=by
 refine BCall.hand (enters_of func192 (by kernel_rfl) rfl) fun w g vs M hL=>?_
 obtain⟨v1,vs1,rfl,k1,hL⟩:=Q13 hL;obtain rfl:=Q2A hL;obtain rfl:=Q31 k1;exact(Qi1 s w hs).mono fun e w' ⟨h,hb⟩=>⟨_,h,hb,.val _ rfl⟩
def Q94:ByteArray:=⟨#[120,109,108,110,115]⟩
def Q1v:ByteArray:=⟨#[120,109,108,110,115,58]⟩
def Q6e(q:ByteArray):ByteArray×Bool :=
 if std.eqS q Q94=true then(⟨#[]⟩,true)
 else if Q1T q Q1v=true/\Q3w (Q5t q Q1v).data.toList=true then(Q5t q Q1v,true)else(⟨#[]⟩,false)
def QpU(u:ByteArray)(b pl:Bool):Nat->List AV->List Ob->Option (AV×List Ob):=fun f args _=>match f,args with
 |191,[.val (.string _),.val (.string _)]=>some (.tup [.val (.string u),.val (.bool b)],[])
 |192,[.val (.string _)]=>some (.val (.bool pl),[])
 |_,_=>none
theorem Qjc(s t:ByteArray):(Q5t s t).size<=s.size:=by
 rw[Q5t];split
 ·rw[ByteArray.size_extract];omega
 ·exact le_refl _
theorem Qgd(q:ByteArray)(hq:q.size<=300000000):BCall prog 149 [.val (.string q)] [] (.tup [.val (.string (Q6e q).1),.val (.bool (Q6e q).2)]) []:=by
 have cC:=QoC q Q1v;have cP:=QjN (Q5t q Q1v) (Nat.le_trans (Qjc _ _) hq)
 have hD:Q6e q=if std.eqS q Q94=true then(⟨#[]⟩,true)
  else if Q1T q Q1v=true/\Q3w (Q5t q Q1v).data.toList=true then(Q5t q Q1v,true)else(⟨#[]⟩,false):=rfl
 generalize Q3w (Q5t q Q1v).data.toList=pl at cP hD;generalize Q5t q Q1v=u at cC cP hD;generalize Q1T q Q1v=b at cC hD;generalize Q6e q=R at hD ⊢;refine fnN (QpU u b pl) func149 rfl fun _ _=>?_
 with_reducible refine cv0 ?_
 refine⟨fun h=>?_,fun h=>⟨cC,?_⟩⟩
 ·have h:std.eqS q Q94=true:=h
  rw[if_pos h]at hD;exact .pure rfl ⟨.inl (by rw[hD]),.inl (by rw[hD]),trivial⟩
 ·have h:std.eqS q Q94=false:=h
  rw[if_neg (by rw[h];decide)]at hD
  cases b with
  |false=>exact⟨fun _=>.pure rfl ⟨.inl (by rw[hD];rfl),.inl (by rw[hD];rfl),trivial⟩,fun h1=>absurd (show true=false from h1) (by decide)⟩
  |true =>
   refine⟨fun h1=>absurd (show false=true from h1) (by decide),fun _=>⟨cP,?_⟩⟩
   cases pl with
   |false=>exact⟨fun _=>.pure rfl ⟨.inl (by rw[hD];rfl),.inl (by rw[hD];rfl),trivial⟩,fun h1=>absurd (show true=false from h1) (by decide)⟩
   |true=>exact⟨fun h1=>absurd (show false=true from h1) (by decide),fun _=>.pure rfl ⟨.inl (by rw[hD];rfl),.inl (by rw[hD];rfl),trivial⟩⟩
def anS(l:List Int)(p:TPart):ByteArray:=⟨(Q3Q ((l.drop p.from_.toNat).take (p.to-p.from_).toNat)).toArray⟩
def Q6c(l:List Int)(a:TAttr):Bool:=(Q6e (anS l a.name)).2
def Q2e(l:List Int)(al:List TAttr):Nat:=(al.filter (Q6c l)).length
def QaX(l:List Int)(al:List TAttr)(r:Rp):Rp:={ r with a6:=r.a6+al.length,a7:=r.a7+Q2e l al }
theorem Q5E(l:List Int)(al:List TAttr):Q2e l al<=al.length:=List.length_filter_le _ _
theorem Qaj(l:List Int)(al:List TAttr){k:Nat}(h:k<al.length):Q2e l (al.take (k+1))=Q2e l (al.take k)+(if Q6c l (al[k]?.getD tattr0)=true then 1 else 0):=by
 rw[Q2e,Q2e,List.take_succ_eq_append_getElem h,List.filter_append,length_append,getElem?_eq_getElem h];congr 1
 show(List.filter (Q6c l) [al[k]]).length=if Q6c l al[k]=true then 1 else 0
 rw[List.filter_cons];split<;>rfl
def Qkz(rk rf rt:Int)(ra:List AV)(rr re:Bool)(st:Int->Int->ByteArray)(d1:ByteArray->ByteArray)(d2:ByteArray->Bool):Nat->List AV->List Ob->Option (AV×List Ob):=fun f args _=>match f,args with
 |49,[.slc 1 _,.val (.int .i64 _),.val (.int .i64 _)]=>some (.agg [.val (.int .i64 rk),.val (.int .i64 rf),.val (.int .i64 rt),.slc 9 ra,.val (.bool rr),.val (.bool re)],[])
 |50,[.agg _,.val (.int .i64 f),.val (.int .i64 u)]=>some (.val (.string (st f u)),[])
 |149,[.val (.string q)]=>some (.tup [.val (.string (d1 q)),.val (.bool (d2 q))],[])
 |_,_=>none
def stS(l:List Int)(f u:Int):ByteArray:=⟨(Q3Q ((l.drop f.toNat).take (u-f).toNat)).toArray⟩
def d1S(q:ByteArray):ByteArray:=(Q6e q).1
def d2S(q:ByteArray):Bool:=(Q6e q).2
theorem Q9a(ps:List TPart):∀(f:Nat)(a:Int),(Qy ps f a).1.length<=f
 |0,a=>le_refl _
 |f+1,a=>by
  unfold Qy;split
  ·have:=Q9a ps f (Q1z ps a)
   simp only[List.length_cons];omega
  ·exact zero_le _
theorem Q3S(l:List Int)(f u:Int):(QD l f u).attrs.length<=(QS l f u).length+1:=by
 unfold QD;generalize QS l f u=ps;unfold Q1l;split
 ·have h:=Q9a ps (ps.length+1) 2
  simp only
  split<;>exact h
 ·exact zero_le _
theorem Qo1(l:List Int)(hl:l.length<=1000000)(r:Rp)(h6:0<=r.a6/\r.a6<=1000000000000)(h7:0<=r.a7/\r.a7<=1000000000000) :
  BCall prog 124 [.box 0 0,.slc 1 (Q0 l)] [.box r.cs] (.tup []) [.box (QaX l (QD l 0 l.length).attrs r).cs]:=by
 have cR:=QfE l hl 0 l.length (Int.le_refl _) (by omega) (Int.le_refl _)
 have qC:=Q7N l;obtain⟨n,hn⟩:=QE l;have jB:std.len (Q0 l)=n:=by show((Q0 l).length:Int)=n;rw[Qx,hn.eq]
 rw[<-hn.eq]at cR qC ⊢
 have ja:(QD l 0 n).attrs.length<=1000002:=by
  have h1:=Q3S l 0 n;have h2:=Q45 l 0 n;omega
 obtain⟨R1,qv⟩:=exq (QaX l (QD l 0 n).attrs r);rw[<-qv];generalize (QD l 0 n).name.kind=rk at cR;generalize (QD l 0 n).name.from_=rf at cR;generalize (QD l 0 n).name.to=rt at cR;generalize (QD l 0 n).attrs=al at cR qC qv ja;generalize (QD l 0 n).right=rr at cR;generalize (QD l 0 n).empty=re at cR;obtain⟨m,hm⟩:=QE al;have vr:std.len (Qh al)=m:=by show((Qh al).length:Int)=m;rw[Q3v,hm.eq]
 unfold Rp.cs;refine fnN (Qkz rk rf rt (Qh al) rr re (stS l) d1S d2S) func124 rfl fun _ _=>?_
 with_reducible refine cv5 (Qh al) (stS l) d1S d2S (Q0 l) ?_
 refine⟨by rw[<-jB]at cR;exact cR,?_⟩
 refine Q1h (Qkz rk rf rt (Qh al) rr re (stS l) d1S d2S) (Int×Int×Int) (fun x=>⟨[(0,.box 0 0),(4,.box 1 0),(15,.slc 9 (Qh al)),(16,.val (.int .i64 m)),(17,.val (.int .i64 x.1))],[.box [.val (.int .i64 r.a0),.val (.int .i64 r.a1),.val (.int .i64 r.a2),.val (.int .i64 r.a3),.val (.int .i64 r.a4),.val (.int .i64 r.a5),.val (.int .i64 x.2.1),.val (.int .i64 x.2.2),.val (.int .i64 r.t0),.val (.int .i64 r.t1),.val (.int .i64 r.t2),.val (.int .i64 r.t3),.val (.int .i64 r.t4),.val (.int .i64 r.t5),.val (.int .i64 r.t6),.val (.int .i64 r.t7),.val (.int .i64 r.t8),.val (.int .i64 r.t9),.val (.int .i64 r.t10),.val (.int .i64 r.t11),.val (.int .i64 r.w0),.val (.int .i64 r.w1),.val (.int .i64 r.w2),.val (.int .i64 r.w3),.val (.int .i64 r.w4),.val (.int .i64 r.w5)],.box [.val (.int .i64 0),.val (.int .i64 0),.slc 1 (Q0 l),.val (.slice none 0 0)]]⟩) (fun x=>0<=x.1/\x.1<=m/\x.2.1=r.a6+x.1/\x.2.2=r.a7+Q2e l (al.take x.1.toNat)) (fun x=>(m-x.1).toNat) (0,r.a6,r.a7) ?_ ?_ ?_
 ·exact⟨Int.le_refl _,by have:=hm.eq;show(0:Int)<=m;omega,(Int.add_zero _).symm,(Int.add_zero _).symm⟩
 ·refine⟨[some 0,some 1],_,rfl,?_⟩
  exact eq1 vr
 ·rintro⟨i,A,B⟩ ⟨jK,qE,hA,hB⟩
  simp only at jK qE hA hB
  obtain⟨nb,q6⟩:∃nb,IsN (Q2e l (al.take i.toNat)) nb:=⟨_,rfl⟩;rw[<-q6.eq]at hB;have jY:=Q5E l (al.take i.toNat);rw[length_take]at jY;rcases lt_or_eq_of_le qE with jA|jZ
  ·have jS:i.toNat<al.length:=by have:=hm.eq;omega
   have jP:=Qaj l al jS;obtain⟨x,hx⟩:=exq (al[i.toNat]);have ng:al[i.toNat]?.getD tattr0=x:=by rw[getElem?_eq_getElem jS,hx];rfl
   rw[ng]at jP;have zd:x∈al:=by rw[hx];exact getElem_mem jS
   have jU:std.at_ (Qh al) i=x.av:=by
    show(Qh al).getD i.toNat .dead=_
    rw[List.getD_eq_getElem?_getD,Qh,getElem?_map,getElem?_eq_getElem jS,hx];rfl
   have hN:=qC x zd;have cS:=Qjr l hl x.name.from_ x.name.to hN.h0 (by have:=hN.h1;omega) hN.h2 (Qlm hN.ld)
   have zJ:(stS l x.name.from_ x.name.to).size<=300000000:=by
    rw[stS];have h1:=Qba ((l.drop x.name.from_.toNat).take (x.name.to-x.name.from_).toNat)
    have h2:((l.drop x.name.from_.toNat).take (x.name.to-x.name.from_).toNat).length<=l.length:=by
     rw[length_take,length_drop];omega
    show(Q3Q _).toArray.size<=_
    rw[List.size_toArray];omega
   have cD:=Qgd (stS l x.name.from_ x.name.to) zJ;have hml2:m<=1000002:=by have:=hm.eq;omega
   have hA0:0<=A/\A<=1000002000000:=by omega
   have hnb1:0<=nb/\nb<=1000002:=by rw[q6.eq];omega
   have hB0:0<=B/\B<=1000002000000:=by omega
   have hX:∀j:Nat,std.nth (std.cel (std.at_ (Qh al) i)) j=x.cs.getD j .dead:=fun j=>by rw[jU];rfl
   have h1:std.int (std.nth (std.cel (std.at_ (Qh al) i)) 1)=x.name.from_:=by rw[hX];rfl
   have h2:std.int (std.nth (std.cel (std.at_ (Qh al) i)) 2)=x.name.to:=by rw[hX];rfl
   have hq:∀j:Nat,j<9->std.nth (std.cel (std.at_ (Qh al) i)) j=.val (.int .i64 (std.int (std.nth (std.cel (std.at_ (Qh al) i)) j))):=fun j hj=>by
    rw[hX];rcases j with _|_|_|_|_|_|_|_|_|j<;>first|rfl|omega
   have qa:stS l (std.int (std.nth (std.cel (std.at_ (Qh al) i)) 1)) (std.int (std.nth (std.cel (std.at_ (Qh al) i)) 2))=stS l x.name.from_ x.name.to:=by rw[h1,h2]
   have jb:std.ltI i m=true:=decide_eq_true jA;have zw:Q6c l x=d2S (stS l x.name.from_ x.name.to):=rfl;rw[zw]at jP;clear jS hx ng zd jY ja hX zw;with_reducible refine cv5 (Qh al) (stS l) d1S d2S (Q0 l) ?_
   refine⟨fun _=>⟨⟨jK,?_⟩,⟨hq 0 (by decide),hq 1 (by decide),hq 2 (by decide),hq 3 (by decide),hq 4 (by decide),hq 5 (by decide),hq 6 (by decide),hq 7 (by decide),hq 8 (by decide),trivial⟩,?_,?_,?_,fun hd=>?_,fun hd=>?_⟩,fun h=>absurd (jb.symm.trans h) (by decide)⟩
   ·show i<std.len (Qh al)
    rw[vr];exact jA
   ·show -9223372036854775808<=A+1/\A+1<=9223372036854775807
    omega
   ·show BCall _ _ [.agg _,.val (.int .i64 (std.int (std.nth (std.cel (std.at_ (Qh al) i)) 1))),.val (.int .i64 (std.int (std.nth (std.cel (std.at_ (Qh al) i)) 2)))] [] (.val (.string (stS l (std.int (std.nth (std.cel (std.at_ (Qh al) i)) 1)) (std.int (std.nth (std.cel (std.at_ (Qh al) i)) 2))))) []
    rw[h1,h2];exact cS
   ·show BCall _ _ [.val (.string (stS l (std.int (std.nth (std.cel (std.at_ (Qh al) i)) 1)) (std.int (std.nth (std.cel (std.at_ (Qh al) i)) 2))))] [] (.tup [.val (.string (d1S (stS l (std.int (std.nth (std.cel (std.at_ (Qh al) i)) 1)) (std.int (std.nth (std.cel (std.at_ (Qh al) i)) 2))))),.val (.bool (d2S (stS l (std.int (std.nth (std.cel (std.at_ (Qh al) i)) 1)) (std.int (std.nth (std.cel (std.at_ (Qh al) i)) 2)))))]) []
    rw[qa];exact cD
   ·have hd:d2S (stS l x.name.from_ x.name.to)=true:=by rw[<-qa];exact hd
    rw[if_pos hd]at jP;refine⟨(show(-9223372036854775808:Int)<=B+1/\B+1<=(9223372036854775807:Int) from by omega),(show(-9223372036854775808:Int)<=i+1/\i+1<=(9223372036854775807:Int) from by omega),(i+1,A+1,B+1),⟨?_,?_,?_,?_⟩,?_,[some 0,some 1],_,rfl,?_⟩
    ·show 0<=i+1;omega
    ·show i+1<=m;omega
    ·show A+1=r.a6+(i+1);omega
    ·show B+1=r.a7+Q2e l (al.take (i+1).toNat)
     have e:=q6.eq;rw[show(i+1).toNat=i.toNat+1 by omega,jP];omega
    ·show(m-(i+1)).toNat<(m-i).toNat;omega
    ·exact eq1 vr
   ·have hd:d2S (stS l x.name.from_ x.name.to)=false:=by rw[<-qa];exact hd
    rw[if_neg (by rw[hd];decide)]at jP
    refine⟨(show(-9223372036854775808:Int)<=i+1/\i+1<=(9223372036854775807:Int) from by omega),(i+1,A+1,B),⟨?_,?_,?_,?_⟩,?_,[some 0,some 1],_,rfl,?_⟩
    ·show 0<=i+1;omega
    ·show i+1<=m;omega
    ·show A+1=r.a6+(i+1);omega
    ·show B=r.a7+Q2e l (al.take (i+1).toNat)
     have e:=q6.eq;rw[show(i+1).toNat=i.toNat+1 by omega,jP];omega
    ·show(m-(i+1)).toNat<(m-i).toNat;omega
    ·exact eq1 vr
  ·have ht:al.take i.toNat=al:=take_of_length_le (by have:=hm.eq;omega)
   rw[q6.eq,ht]at hB;have v8:std.ltI i m=false:=decide_eq_false (by omega)
   have e6:R1.a6=A:=by rw[qv];show r.a6+(al.length:Int)=A;have:=hm.eq;omega
   have e7:R1.a7=B:=by rw[qv];show r.a7+(Q2e l al:Int)=B;omega
   have eR:R1={ r with a6:=A,a7:=B }:=by rw[<-e6,<-e7,qv];rfl
   rw[eR];clear e6 e7 eR qv hA hB ht;with_reducible refine cv5 (Qh al) (stS l) d1S d2S (Q0 l) ?_
   refine⟨fun h=>absurd (v8.symm.trans h) (by decide),fun _=>?_⟩
   rw[if_pos trivial];with_reducible refine cv2 (Qh al) (Q0 l) ?_
   refine⟨[some 0],.tup [],_,rfl,rfl,le_refl _,rfl,?_,trivial⟩;exact eq0
section
variable {w w':World}{A':Nat->Nat->Prop}
end
theorem Qkt(b:List UInt8)(s:ByteArray):BCall prog 140 [.slc 1 (Q2 b),.val (.string s)] [] (.val (.bool (s.data.toList.isPrefixOf b))) []:=by
 obtain⟨n,hn⟩:=QE b;have jB:std.len (Q2 b)=n:=by show((Q2 b).length:Int)=n;rw[Q11,hn.eq]
 obtain⟨z,hz⟩:∃z:Int,IsN s.size z:=⟨_,rfl⟩;have jj:std.szS s=z:=hz.eq.symm;refine fnN (cs0) func140 rfl fun _ _=>?_
 with_reducible refine cv1 (Q2 b) ?_
 have hzn:=hz.eq
 have key:std.cut (Q2 b) 0 z=Q2 (b.take s.size):=by
  show((Q2 b).drop (0:Int).toNat).take (z-0).toNat=_
  rw[hzn];simp[Q2,map_take]
 refine⟨fun h=>⟨?_,?_,.pure rfl (.inl ?_)⟩,fun h=>.pure rfl (.inl ?_)⟩
 ·have h:std.szS s<=std.len (Q2 b):=of_decide_eq_true h
  show 0<=(0:Int)/\0<=std.szS s/\std.szS s<=std.len (Q2 b);rw[jj]at h ⊢;omega
 ·show std.isB (std.cut (Q2 b) 0 (std.szS s))
  rw[jj,key];exact QaC _
 ·show AV.val (.bool (std.eqS (std.strB (std.cut (Q2 b) 0 (std.szS s))) s))=_
  rw[jj,key,Qgy];show AV.val (.bool ((⟨(b.take s.size).toArray⟩:ByteArray).toList == s.toList))=_;rw[ByteArray.toList_eq,ByteArray.toList_eq];congr 2
  have e:s.size=s.data.toList.length:=by simp
  rw[Bool.eq_iff_iff,beq_iff_eq,List.isPrefixOf_iff_prefix,List.prefix_iff_eq_take,e];exact⟨fun h=>h.symm,fun h=>h.symm⟩
 ·have h:¬std.szS s<=std.len (Q2 b):=of_decide_eq_false h
  rw[jj,jB]at h
  have hx:s.data.toList.isPrefixOf b=false:=by
   cases hp:s.data.toList.isPrefixOf b with
   |false=>rfl
   |true =>
    exfalso;have:=(List.isPrefixOf_iff_prefix.1 hp).length_le
    have e:s.size=s.data.toList.length:=by simp
    have:=hn.eq
    omega
  rw[hx]
def QpY(bg:ByteArray->Bool):Nat->List AV->List Ob->Option (AV×List Ob):=fun f args _=>match f,args with
 |140,[.slc 1 _,.val (.string s)]=>some (.val (.bool (bg s)),[])
 |_,_=>none
def bgA(b:List UInt8)(s:ByteArray):Bool:=s.data.toList.isPrefixOf b
theorem Qj1(b:List UInt8):BCall prog 91 [.slc 1 (Q2 b)] [] (.tup [.val (.int .i64 (QX b).1),.val (.int .i64 (QX b).2)]) []:=by
 have cB:=fun s=>Qkt b s
 have cB:∀s,BCall prog 140 [.slc 1 (Q2 b),.val (.string s)] [] (.val (.bool (bgA b s))) []:=cB;obtain⟨K,hK⟩:=exq (QX b);rw[<-hK];refine fnN (QpY (bgA b)) func91 rfl fun _ _=>?_
 with_reducible refine cv2 (bgA b) (Q2 b) ?_
 have e:K=if bgA b ⟨#[254,255]⟩=true then(1,2)else if bgA b ⟨#[255,254]⟩=true then(2,2)else if bgA b ⟨#[239,187,191]⟩=true then(0,3)else if bgA b ⟨#[0,60,0,63]⟩=true then(1,0)else if bgA b ⟨#[60,0,63,0]⟩=true then(2,0)else(0,0):=by
  rw[hK];unfold QX kR signsL bgA;simp only[List.drop_zero,List.find?];cases [254,255].isPrefixOf b<;>cases [255,254].isPrefixOf b<;>cases [239,187,191].isPrefixOf b<;>cases [0,60,0,63].isPrefixOf b<;>cases [60,0,63,0].isPrefixOf b<;>rfl
 rw[e];refine⟨cB _,fun h1=>?_,fun h1=>⟨cB _,fun h2=>?_,fun h2=>⟨cB _,fun h3=>?_,fun h3=>⟨cB _,fun h4=>?_,fun h4=>⟨cB _,fun h5=>?_,fun h5=>?_⟩⟩⟩⟩⟩
 all_goals
  simp only[*];exact .pure rfl ⟨.inl rfl,.inl rfl,trivial⟩
structure Ev where
 do_:Int
 kind:Int
 b:List UInt8
 deriving Inhabited,DecidableEq
def spF(l:List Node):Nat->Int->Bool->List Ev
 |0,_,_=>[]
 |f+1,n,top=>if(Qn l n).kind≠21/\top=false then [⟨2,(Qn l n).kind,pr l n⟩]
  else(if top=true then []else [⟨1,0,[]⟩])++(Qn l n).kids.flatMap (fun k=>spF l f k false)++(if top=true then []else [⟨3,0,[]⟩])
def spV(l:List Node)(n:Int)(top:Bool):List Ev:=spF l (n.toNat+1) n top
theorem QdO{l:List Node}(hw:Wf l):∀(f f':Nat)(n:Int)(top:Bool),0<=n->n<l.length->n.toNat<f->n.toNat<f'->spF l f n top=spF l f' n top
 |0,_,_,_,_,_,h,_=>by omega
 |_+1,0,_,_,_,_,_,h=>by omega
 |f+1,f'+1,n,top,h0,h1,h2,h3=>by
  simp only[spF]
  have:(Qn l n).kids.flatMap (fun k=>spF l f k false)=(Qn l n).kids.flatMap (fun k=>spF l f' k false):=by
   refine congrArg List.flatten (map_congr_left fun k hk=>?_)
   have:=hw n h0 h1 k hk
   exact QdO hw f f' k false this.1 (by omega) (by omega) (by omega)
  rw[this]
theorem Q8I{l:List Node}(hw:Wf l){n:Int}(h0:0<=n)(h1:n<l.length)(top:Bool):spV l n top=if(Qn l n).kind≠21/\top=false then [⟨2,(Qn l n).kind,pr l n⟩]
  else(if top=true then []else [⟨1,0,[]⟩])++(Qn l n).kids.flatMap (fun k=>spV l k false)++(if top=true then []else [⟨3,0,[]⟩]):=by
 show spF l (n.toNat+1) n top=_;simp only[spF]
 have:(Qn l n).kids.flatMap (fun k=>spF l n.toNat k false)=(Qn l n).kids.flatMap (fun k=>spV l k false):=by
  refine congrArg List.flatten (map_congr_left fun k hk=>?_)
  have:=hw n h0 h1 k hk
  exact QdO hw _ _ k false this.1 (by omega) (by omega) (by omega)
 rw[this]
end
theorem QlU{l:List Node}(hw:Wf l):∀(m:Nat)(n:Int)(top:Bool),0<=n->n<l.length->n.toNat<m->(spV l n top).length<=2 * co l n
 |0,_,_,_,_,h=>by omega
 |m+1,n,top,h0,h1,h2=>by
  rw[Q8I hw h0 h1,Qbd hw h0 h1];split
  ·simp;omega
  ·have:((Qn l n).kids.flatMap (fun k=>spV l k false)).length<=2 * ((Qn l n).kids.map (co l)).sum:=by
    have hk:∀k∈(Qn l n).kids,(spV l k false).length<=2 * co l k:=fun k hk=>by
     have:=hw n h0 h1 k hk
     exact QlU hw m k false this.1 (by omega) (by omega)
    generalize (Qn l n).kids=ks at hk ⊢;induction ks with
    |nil=>simp
    |cons k r ih =>
     have h3:=hk k (List.mem_cons_self ..);have h4:=ih fun x hx=>hk x (List.mem_cons_of_mem _ hx)
     simp only[List.flatMap_cons,length_append,map_cons,List.sum_cons];omega
   simp only[length_append];have h5:(if top=true then([]:List Ev)else [⟨1,0,[]⟩]).length<=1:=by split<;>simp
   have h6:(if top=true then([]:List Ev)else [⟨3,0,[]⟩]).length<=1:=by split<;>simp
   omega
structure Evr where
 do_:Int
 kind:Int
 b:Option (List UInt8)
 deriving Inhabited
def Evr.ev(x:Evr):Ev:=⟨x.do_,x.kind,x.b.getD []⟩
def Evr.ba(x:Evr):AV:=match x.b with|some b=>.slc 1 (Q2 b)|none=>Qno
def Evr.av(x:Evr):AV:=.agg [.val (.int .i64 x.do_),.val (.int .i64 x.kind),x.ba]
def Qv(l:List Evr):List AV:=l.map Evr.av
theorem Q8i(a b:List Evr):Qv (a++b)=Qv a++Qv b:=by simp[Qv]
theorem Q6A(a:List Evr):(Qv a).length=a.length:=by simp[Qv]
structure RSt where
 op:List (List Int)
 ev:List Evr
 wr:List Dg
 deriving Inhabited
def Q1R(t:Txt)(c f u:Int)(s:RSt):RSt:=⟨s.op,s.ev,s.wr++[⟨Q1s t f,Q1s t u,c⟩]⟩
def Q1K(t:Txt)(b:List UInt8)(kind f u:Int)(s:RSt):RSt:=⟨s.op,s.ev++[⟨2,kind,some (QU t b f u)⟩],s.wr⟩
def Q2h(t:Txt)(a:Int)(s:RSt):RSt:=⟨s.op.take (s.op.length-1),s.ev++[⟨2,22,none⟩,⟨3,0,none⟩],s.wr++[⟨Q1s t a,Q1s t a,4⟩]⟩
def Q2G(op:List (List Int))(nm:List Int):Nat->Int
 |0=>-1
 |k+1=>if op[k]?.getD []=nm then k else Q2G op nm k
def Q1g(t:Txt)(f:Int)(k:Nat):Nat->RSt->RSt
 |0,s=>s
 |n+1,s=>if k<s.op.length then Q1g t f k n (Q2h t f s)else s
def Q4x(t:Txt)(b:List UInt8)(kind f u:Int)(s:RSt):RSt :=
 if 64<=s.op.length then Q1K t b kind f u (Q1R t 5 f u s)
 else Q1K t b kind f u ⟨s.op++[Qs t f u],s.ev++[⟨1,0,none⟩],s.wr⟩
def Qbt(t:Txt)(b:List UInt8)(kind f u:Int)(s:RSt):RSt :=
 if Q2G s.op (Qs t f u) s.op.length<0 then Q1K t b kind f u (Q1R t 3 f u s)
 else
  let s1:=Q1K t b kind f u (Q1g t f ((Q2G s.op (Qs t f u) s.op.length).toNat+1) (s.op.length+1) s)
  ⟨s1.op.take (Q2G s.op (Qs t f u) s.op.length).toNat,s1.ev++[⟨3,0,none⟩],s1.wr⟩
def Q63(t:Txt)(b:List UInt8)(kind f u:Int)(wh:Bool)(s:RSt):RSt :=
 let s1:=if wh=false then Q1R t 1 f u s else if(kind=8\/kind=9\/kind=10)/\(QD t.r f u).right=false then Q1R t 2 f u s else s
 if wh=true/\kind=8/\0<(Qs t f u).length then Q4x t b kind f u s1
 else if wh=true/\kind=10 then Qbt t b kind f u s1
 else Q1K t b kind f u s1
def Q64(t:Txt)(b:List UInt8)(s:RSt)(x:Tok):RSt:=Q63 t b x.kind x.from_ x.to x.whole s
def QcN(t:Txt)(b:List UInt8)(s:RSt):RSt :=
 let s1:=(Q1r t.r).foldl (Q64 t b) s
 Q1g t t.r.length 0 (s1.op.length+1) s1
def Q2N(b:List UInt8):RSt:=⟨[],if 0<(QX b).2 then [⟨2,23,some (b.take (QX b).2.toNat)⟩]else [],[]⟩
def Q1b(b:List UInt8):RSt:=QcN (Qb b) b (Q2N b)
theorem QgG{l:List Node}(h:Wf l)(x:Node):∀(f:Nat)(n:Int)(top:Bool),0<=n->n<l.length->spF (l++[x]) f n top=spF l f n top
 |0,_,_,_,_=>rfl
 |f+1,n,top,h0,h1=>by
  simp only[spF,Q43 h0 h1];have e1:pr (l++[x]) n=pr l n:=QdB h x h0 h1
  have e2:(Qn l n).kids.flatMap (fun k=>spF (l++[x]) f k false)=(Qn l n).kids.flatMap (fun k=>spF l f k false):=by
   refine congrArg List.flatten (map_congr_left fun k hk=>?_)
   have:=h n h0 h1 k hk
   exact QgG h x f k false this.1 (by omega)
  rw[e1,e2]
theorem Qon{l:List Node}(h:Wf l)(x:Node){n:Int}(top:Bool)(h0:0<=n)(h1:n<l.length):spV (l++[x]) n top=spV l n top:=QgG h x _ n top h0 h1
def spL(l:List Node)(ks:List Int):List Ev:=ks.flatMap fun k=>spV l k false
theorem Q5V{l:List Node}(h:Wf l)(x:Node){ks:List Int}(hk:InR l ks):spL (l++[x]) ks=spL l ks :=
 congrArg List.flatten (map_congr_left fun k zm=>Qon h x false (hk k zm).1 (hk k zm).2)
theorem Qdi(l:List Node)(a b:List Int):spL l (a++b)=spL l a++spL l b:=by simp[spL]
theorem Q9H(l:List Node)(k:Int):spL l [k]=spV l k false:=by simp[spL]
theorem QcK{l:List Node}(h:Ar l){kind:Int}(hk:kind≠21)(bs:List UInt8):spV (l++[QI kind bs]) l.length false=[⟨2,kind,bs⟩]:=by
 have ha:=Q4A h kind bs;rw[Q8I ha.1.wf (by omega) (by simp only[length_append,length_singleton];omega),Q36,if_pos ⟨hk,rfl⟩,ha.2];rfl
theorem QhU{l:List Node}(h:Ar l){ks:List Int}(hk:InR l ks):spV (l++[Q1i l 21 ks]) l.length false=⟨1,0,[]⟩::(spL l ks++[⟨3,0,[]⟩]):=by
 have ha:=Q6S h 21 hk;rw[Q8I ha.1.wf (by omega) (by simp only[length_append,length_singleton];omega),Q36,if_neg (fun e=>e.1 rfl),if_neg (by decide),if_neg (by decide)]
 show [_]++spL (l++[Q1i l 21 ks]) ks++_=_;rw[Q5V h.wf _ hk];rfl
theorem QmG{l:List Node}(h:Ar l){ks:List Int}(hk:InR l ks):spV (l++[Q1i l 20 ks]) l.length true=spL l ks:=by
 have ha:=Q6S h 20 hk;rw[Q8I ha.1.wf (by omega) (by simp only[length_append,length_singleton];omega),Q36,if_neg (fun e=>by cases e.2),if_pos rfl,if_pos rfl]
 show []++spL (l++[Q1i l 20 ks]) ks++[]=_;rw[Q5V h.wf _ hk,List.nil_append,List.append_nil]
def evO(l:List Node)(x:Opn):List Ev:=⟨1,0,[]⟩::spL l x.kids
def evS(l:List Node)(s:List Opn):List Ev:=s.flatMap (evO l)
theorem Q6P(l:List Node)(s:List Opn)(x:Opn):evS l (s++[x])=evS l s++evO l x:=by simp[evS]
theorem Q9A{l:List Node}(h:Wf l)(x:Node){s:List Opn}(hs:∀y∈s,InR l y.kids):evS (l++[x]) s=evS l s :=
 congrArg List.flatten (map_congr_left fun y hy=>by unfold evO;rw[Q5V h x (hs y hy)])
structure Rel (m:Mk) (s:RSt):Prop where
 op:s.op=(m.s.drop 1).map Opn.name
 wr:s.wr=m.d
 ev:(⟨1,0,[]⟩:Ev)::s.ev.map Evr.ev=evS m.n m.s
theorem QhY{s:List Opn}(hs:s≠[])(x:Opn):(s++[x]).drop 1=s.drop 1++[x]:=by
 cases s with
 |nil=>exact absurd rfl hs
 |cons a r=>rfl
section
variable {m:Mk}{s:RSt}{X:List UInt8}{B D:Nat}
theorem Rel.len(h:Rel m s):s.op.length=m.s.length-1:=by rw[h.op];simp
theorem Rel.wrong(h:Rel m s)(t:Txt)(c f u:Int):Rel (QV t c f u m) (Q1R t c f u s) :=
 ⟨h.op,by show s.wr++_=m.d++_;rw[h.wr],h.ev⟩
theorem Rel.leaf(hm:MkInv m X B D)(h:Rel m s){kind:Int}(hk:kind≠21)(bs:List UInt8)(q:Option (List UInt8))(hq:q.getD []=bs):Rel (Q3g m.n.length (Q20 (QI kind bs) m)) ⟨s.op,s.ev++[⟨2,kind,q⟩],s.wr⟩:=by
 obtain⟨s0,qt⟩:=Q2r hm.s1;generalize QZ m.s=y at qt;have hr:=hm.rng;have ho:=h.op;have he:=h.ev;rw[qt]at hr ho he;have v9:∀z∈s0,InR m.n z.kids:=fun z hz=>hr z (mem_append_left _ hz)
 have zC:InR m.n y.kids:=hr y (by simp)
 refine⟨?_,h.wr,?_⟩
 ·show s.op=((Q2k m.n.length m.s).drop 1).map Opn.name
  rw[qt,Q2D,ho];cases s0<;>simp
 ·show(⟨1,0,[]⟩:Ev)::(s.ev++[(⟨2,kind,q⟩:Evr)]).map Evr.ev=evS (m.n++[QI kind bs]) (Q2k m.n.length m.s)
  rw[Q6P]at he;rw[qt,Q2D,Q6P,Q9A hm.ar.wf _ v9];unfold evO;rw[Qdi,Q9H,Q5V hm.ar.wf _ zC,QcK hm.ar hk,map_append,<-List.cons_append,he];unfold evO Evr.ev;rw[<-hq];simp
theorem Rel.push(hm:MkInv m X B D)(h:Rel m s)(bs:List UInt8)(nm:List Int)(k:Int)(hk:k≠21):Rel (Q3g m.n.length (Q20 (QI k bs) { m with s:=m.s++[⟨nm,[]⟩] })) ⟨s.op++[nm],(s.ev++[⟨1,0,none⟩])++[⟨2,k,some bs⟩],s.wr⟩:=by
 have jJ:m.s≠[]:=fun e=>by have:=hm.s1;rw[e]at this;simp at this
 refine⟨?_,h.wr,?_⟩
 ·show s.op++[nm]=((Q2k m.n.length (m.s++[⟨nm,[]⟩])).drop 1).map Opn.name
  rw[Q2D,QhY jJ,map_append,<-h.op];rfl
 ·show(⟨1,0,[]⟩:Ev)::((s.ev++[(⟨1,0,none⟩:Evr)])++[(⟨2,k,some bs⟩:Evr)]).map Evr.ev=evS (m.n++[QI k bs]) (Q2k m.n.length (m.s++[⟨nm,[]⟩]))
  rw[Q2D,Q6P,Q9A hm.ar.wf _ hm.rng,<-h.ev];unfold evO;rw[List.nil_append,Q9H,QcK hm.ar hk];simp[Evr.ev]
theorem Qig(s0:List Opn)(y x:Opn)(z:List Int):(((s0++[y]++[x]).drop 1).map Opn.name).take ((((s0++[y]++[x]).drop 1).map Opn.name).length-1)=((s0++[(⟨y.name,z⟩:Opn)]).drop 1).map Opn.name:=by
 cases s0 with
 |nil=>rfl
 |cons a r =>
  have e:((a::r++[y]++[x]).drop 1).map Opn.name=(r.map Opn.name++[y.name])++[x.name]:=by simp
  rw[e,length_append,length_singleton,Nat.add_sub_cancel,List.take_left];simp
theorem Rel.shut(hm:MkInv m X B D)(h:Rel m s)(hs:2<=m.s.length){kind:Int}(hk:kind≠21)(bs:List UInt8)(q:Option (List UInt8))(hq:q.getD []=bs) :
  Rel (Q22 m.n.length (Q20 (QI kind bs) m)) ⟨s.op.take (s.op.length-1),s.ev++[⟨2,kind,q⟩,⟨3,0,none⟩],s.wr⟩:=by
 obtain⟨s0,y,jL⟩:=QhW hs;generalize QZ m.s=x at jL;obtain⟨en,es⟩:=QmK jL kind bs;obtain⟨vC,gV⟩:=Q4A hm.ar kind bs;have hr:=hm.rng;have ho:=h.op;have he:=h.ev;rw[jL]at hr ho he;have v9:∀z∈s0,InR m.n z.kids:=fun z hz=>hr z (mem_append_left _ (mem_append_left _ hz))
 have zC:InR m.n y.kids:=hr y (mem_append_left _ (by simp))
 have zS:InR m.n x.kids:=hr x (by simp)
 have yC:InR (m.n++[QI kind bs]) (x.kids++[(m.n.length:Int)]):=fun k hk=>by
  rcases List.mem_append.1 hk with hk|hk
  ·exact zS.more _ k hk
  ·obtain rfl:k=(m.n.length:Int):=by simpa using hk
   simp;omega
 have jc:=QhU vC yC
 have e1:spL (m.n++[QI kind bs]) (x.kids++[(m.n.length:Int)])=spL m.n x.kids++[⟨2,kind,bs⟩]:=by
  rw[Qdi,Q9H,Q5V hm.ar.wf _ zS,QcK hm.ar hk]
 rw[e1]at jc;obtain⟨l1,hl⟩:=exq (m.n++[QI kind bs]);rw[<-hl]at jc en es vC;generalize Q1i l1 21 (x.kids++[(m.n.length:Int)])=z at jc en
 have up0:evS (l1++[z]) s0=evS m.n s0:=by
  rw[Q9A vC.wf z (fun q hq=>by rw[hl];exact(v9 q hq).more _),hl,Q9A hm.ar.wf _ v9]
 have upy:spL (l1++[z]) y.kids=spL m.n y.kids:=by
  rw[Q5V vC.wf z (by rw[hl];exact zC.more _),hl,Q5V hm.ar.wf _ zC]
 refine⟨?_,h.wr,?_⟩
 ·show s.op.take (s.op.length-1)=_
  rw[es,ho,Qig]
 ·show(⟨1,0,[]⟩:Ev)::(s.ev++[(⟨2,kind,q⟩:Evr),⟨3,0,none⟩]).map Evr.ev=_
  rw[Q6P,Q6P]at he;rw[en,es,Q6P,up0,map_append,<-List.cons_append,he];unfold evO;rw[Qdi,Q9H,upy,jc,<-hq];simp[Evr.ev]
theorem Rel.miss(hm:MkInv m X B D)(h:Rel m s)(hs:2<=m.s.length)(t:Txt)(a:Int):Rel (Q3l t a m) (Q2h t a s) :=
 Rel.shut (Q1P hm t 4 a a) (h.wrong t 4 a a) hs (kind:=22) (by decide) [] none rfl
end
theorem Rel.missGo(t:Txt)(f:Int)(k:Nat){X:List UInt8}{B D:Nat}:∀(n:Nat)(m:Mk)(s:RSt),MkInv m X B D->Rel m s->Rel (Go.Proofs.YtibemhahkicbpaaGreat.missGo t f k n m) (Q1g t f k n s)
 |0,m,s,_,h=>h
 |n+1,m,s,hm,h=>by
  show Rel (if _ then _ else _) (if _ then _ else _);rw[h.len];split
  ·exact Rel.missGo t f k n _ _ (Q5D hm (by omega) t f).1 (h.miss hm (by omega) t f)
  ·exact h
theorem QgH(s:List Opn)(nm:List Int):∀k,((Q2g s nm k:Nat):Int)=Q2G ((s.drop 1).map Opn.name) nm k+1
 |0=>rfl
 |k+1=>by
  unfold Q2g Q2G
  have e:((s.drop 1).map Opn.name)[k]?.getD []=(s[k+1]?.getD ⟨[],[]⟩).name:=by
   rw[getElem?_map,List.getElem?_drop,Nat.add_comm 1 k];cases s[k+1]?<;>rfl
  rw[e];split
  ·rfl
  ·exact QgH s nm k
theorem Qa8(t:Txt)(f:Int)(k:Nat):∀(n:Nat)(s:RSt),k<=s.op.length->s.op.length<=n+k->(Q1g t f k n s).op.length=k
 |0,s,h1,h2=>by show s.op.length=k;omega
 |n+1,s,h1,h2=>by
  show(if _ then _ else _:RSt).op.length=k
  split
  ·have e:(Q2h t f s).op.length=s.op.length-1:=by show(s.op.take (s.op.length-1)).length=_;rw[length_take];omega
   exact Qa8 t f k n _ (by omega) (by omega)
  ·omega
section
variable {m:Mk}{s:RSt}{X:List UInt8}{B D:Nat}{t:Txt}{b:List UInt8}{f u:Int}
theorem Rel.lk(hm:MkInv m X B D)(h:Rel m s){kind:Int}(hk:kind≠21):Rel (lkF t b kind f u m) (Q1K t b kind f u s) :=
 Rel.leaf hm h hk (QU t b f u) (some (QU t b f u)) rfl
theorem Rel.start(hm:MkInv m X B D)(h:Rel m s){kind:Int}(hk:kind≠21):Rel (Q1G t b kind f u m) (Q4x t b kind f u s):=by
 have h1:=hm.s1;unfold Q1G Q4x;rw[h.len];by_cases hc:64<m.s.length
 ·rw[if_pos hc,if_pos (by omega)]
  exact Rel.lk (Q1P hm t 5 f u) (h.wrong t 5 f u) hk
 ·rw[if_neg hc,if_neg (by omega)]
  exact Rel.push hm h (QU t b f u) (Qs t f u) kind hk
theorem Rel.end_(hm:MkInv m X B D)(h:Rel m s){kind:Int}(hk:kind≠21):Rel (Q2Y t b kind f u m) (Qbt t b kind f u s):=by
 have h1:=hm.s1;have hf:=QgH m.s (Qs t f u) (m.s.length-1);have jH:=Q61 m.s (Qs t f u) (m.s.length-1);rw[<-h.op]at hf;unfold Q2Y Qbt;rw[h.len];simp only
 generalize hK:Q2g m.s (Qs t f u) (m.s.length-1)=K at hf jH ⊢;generalize hR:Q2G s.op (Qs t f u) (m.s.length-1)=r at hf ⊢;by_cases hc:K=0
 ·rw[if_pos hc,if_pos (by omega)]
  exact Rel.lk (Q1P hm t 3 f u) (h.wrong t 3 f u) hk
 ·rw[if_neg hc,if_neg (by omega)]
  have hr:r.toNat+1=K:=by omega
  rw[show m.s.length-1+1=m.s.length by omega,hr]
  obtain⟨h3,h4⟩:=Q7R t f K m.s.length m hm (by omega) (by omega)
  have h5:=Rel.missGo t f K m.s.length m s hm h;have h6:=h5.len;have h7:=Rel.shut h3 h5 (by omega) hk (QU t b f u) (some (QU t b f u)) rfl
  have e:r.toNat=(Q1g t f K m.s.length s).op.length-1:=by omega
  show Rel _ ⟨(Q1g t f K m.s.length s).op.take r.toNat,((Q1g t f K m.s.length s).ev++[_])++[_],_⟩;rw[e,List.append_assoc];exact h7
theorem Rel.token(hm:MkInv m X B D)(h:Rel m s){kind:Int}(hk:kind≠21)(wh:Bool):Rel (Q26 t b kind f u wh m) (Q63 t b kind f u wh s):=by
 unfold Q26 Q63;simp only
 generalize qT:(if wh=false then QV t 1 f u m else if(kind=8\/kind=9\/kind=10)/\(QD t.r f u).right=false then QV t 2 f u m else m)=m1;generalize jL:(if wh=false then Q1R t 1 f u s else if(kind=8\/kind=9\/kind=10)/\(QD t.r f u).right=false then Q1R t 2 f u s else s)=s1
 have h3:∃D',MkInv m1 X B D'/\Rel m1 s1:=by
  rw[<-qT,<-jL];split
  ·exact⟨_,Q1P hm t 1 f u,h.wrong t 1 f u⟩
  ·split
   ·exact⟨_,Q1P hm t 2 f u,h.wrong t 2 f u⟩
   ·exact⟨_,hm,h⟩
 obtain⟨D',h3,h4⟩:=h3;split
 ·exact Rel.start h3 h4 hk
 ·split
  ·exact Rel.end_ h3 h4 hk
  ·exact Rel.lk h3 h4 hk
end
theorem Rel.toks{t:Txt}{b:List UInt8}(ok:TxtOk t b)(hr:t.r.length<=1000000):∀(n k:Nat)(m:Mk)(s:RSt)(B D:Nat),t.r.length-k<=n->k<=t.r.length->MkI m (Q6y t b k) B D->Rel m s ->
  Rel ((Q1S t.r k).foldl (Q7k t b) m) ((Q1S t.r k).foldl (Q64 t b) s)
 |0,k,m,s,B,D,h,hk,hi,hc=>by
  rw[Q1k (by omega)];exact hc
 |n+1,k,m,s,B,D,h,hk,hi,hc=>by
  by_cases jA:k<t.r.length
  ·obtain⟨h1,h2,h3,h4⟩:=Q9S t.r jA
   rw[Q1O jA,List.foldl_cons,List.foldl_cons];have:=hi.token t b hr (Q1m t.r k).kind (Q1m t.r k).from_ (Q1m t.r k).to (Q1m t.r k).whole
   rw[h1,h2,Q7B ok (by omega) (by omega) (by omega)]at this
   have jD:(Q1m t.r k).kind≠21:=by
    show(((Ql t.r k).1:Nat):Int)≠21
    have:=Qf9 t.r k
    omega
   have h5:Rel (Q26 t b (Q1m t.r k).kind k ((Ql t.r k).2.1:Nat) (Q1m t.r k).whole m) (Q64 t b s (Q1m t.r k)):=Rel.token hi.i hc jD _;exact Rel.toks ok hr n (Ql t.r k).2.1 _ _ (B+3) (D+3) (by omega) h4 this h5
  ·rw[Q1k jA];exact hc
theorem QhJ(b:List UInt8):Rel (Q3s b) (Q2N b):=by
 have h0:Rel mk0 ⟨[],[],[]⟩:=⟨rfl,rfl,rfl⟩;unfold Q3s Q2N;split
 ·exact Rel.leaf mk0_inv.i h0 (kind:=23) (by decide) _ (some _) rfl
 ·exact h0
theorem Q8S(b:List UInt8)(hb:b.length<=100000):(Q1b b).wr=(Qu b).d/\(Q1b b).ev.map Evr.ev=spV (QL (Qu b)).n (Qu b).n.length true:=by
 have hs:=Q6r b hb;have ok:=(Q3N b).1;have hi:=Q6Y b;obtain⟨h1,h2⟩:=Qda ok hs.hr hi;have h3:=Rel.toks ok hs.hr (Qb b).r.length 0 _ _ _ _ (by omega) (by omega) hi (QhJ b)
 have h4:=(QaO ok hs.hr (Qb b).r.length 0 _ _ _ (by omega) (by omega) hi)
 have hR:Rel (Qu b) (Q1b b):=by
  show Rel (missGo _ _ _ _ _) (Q1g _ _ _ _ _);have e:=h3.len;have jL:=h4.i.s1;show Rel (missGo (Qb b) _ 0 ((Q1S (Qb b).r 0).foldl (Q7k (Qb b) b) (Q3s b)).s.length ((Q1S (Qb b).r 0).foldl (Q7k (Qb b) b) (Q3s b))) (Q1g (Qb b) _ 0 (((Q1S (Qb b).r 0).foldl (Q64 (Qb b) b) (Q2N b)).op.length+1) ((Q1S (Qb b).r 0).foldl (Q64 (Qb b) b) (Q2N b)));rw[e,show ∀x:Nat,1<=x->x-1+1=x from fun x hx=>by omega]
  ·exact Rel.missGo _ _ _ _ _ _ h4.i h3
  ·exact jL
 refine⟨hR.wr,?_⟩;have h2:(Qu b).s.length=1:=h2;obtain⟨x,hx⟩:=List.length_eq_one_iff.1 h2;have hr:=h1.i.rng;have yB:(Q8R (Qb b) b (Q3s b)).s=[x]:=hx;rw[yB]at hr;have he:=hR.ev;rw[hx]at he
 have he2:(Q1b b).ev.map Evr.ev=spL (Qu b).n x.kids:=by
  have:evS (Qu b).n [x]=⟨1,0,[]⟩::spL (Qu b).n x.kids:=by simp[evS,evO]
  rw[this]at he;exact(List.cons.inj he).2
 rw[he2]
 have e3:(QL (Qu b)).n=(Qu b).n++[Q1i (Qu b).n 20 x.kids]:=by
  show(Qu b).n++[Q1i (Qu b).n 20 (QZ (Qu b).s).kids]=_
  rw[hx];rfl
 rw[e3];exact(QmG h1.i.ar (hr x (by simp))).symm
section
open Tryz
def rAt(l:List Int)(i:Int):Int:=l[i.toNat]?.getD 0
theorem Qd4{l:List Int}{k:Nat}(h:k<l.length):rAt l k=l[k]:=by rw[rAt,toNat_natCast,getElem?_eq_getElem h];rfl
theorem Qhy{l:List Int}{q i:Int}(h0:0<=i)(h1:i<l.length):Q2p l q i.toNat=if rAt l i=q then((i+1).toNat,true)else Q2p l q (i+1).toNat:=by
 have h2:i.toNat<l.length:=by omega
 have e:rAt l i=l[i.toNat]:=by rw[rAt,getElem?_eq_getElem h2];rfl
 rw[e];conv=>lhs;rw[Q2p,dif_pos h2]
 rw[show(i+1).toNat=i.toNat+1 by omega]
def QC(l:List Int)(k:Int):Int:=if(Q1a l k.toNat).2=true then((Q1a l k.toNat).1:Nat)else -1
theorem Qih(l:List Int)(hl:l.length<=1000000000)(k:Int)(h0:0<=k)(h1:k<l.length):BCall prog 195 [.slc 1 (Q0 l),.val (.int .i64 k)] [] (.val (.int .i64 (QC l k))) []:=by
 obtain⟨n,hn⟩:=QE l;obtain⟨R,hR⟩:=exq (QC l k:Int);rw[<-hR];have jt:=Qx l;obtain⟨q,hq⟩:=exq (rAt l k)
 have hk:Q1a l k.toNat=Q2p l q (k+1).toNat:=by
  rw[Q1a,List.getD_eq_getElem?_getD,hq,rAt,show(k+1).toNat=k.toNat+1 by omega]
 rw[QC,hk]at hR;have ak:=QJ (l:=l) h0 (by omega)
 have en:=hn.eq;have jX:k<n:=by omega
 clear hk;refine fnN (cs0) func195 rfl fun _ _=>?_
 with_reducible refine cv1 (Q0 l) ?_
 have jC:=Q15 hn;with_reducible repeat' first|refine aU jC ?_|refine zA ?_ ?_|intro hb
 refine Q1h (cs0) (Int) (fun i=>⟨[(0,.slc 1 (Q0 l)),(1,.val (.int .i64 k)),(5,.val (.int .i64 i))],[]⟩) (fun i=>k+1<=i/\i<=n/\Q2p l q i.toNat=Q2p l q (k+1).toNat) (fun i=>(n-i).toNat) (k+1) ?_ ?_ ?_
 ·exact⟨Int.le_refl _,by show k+1<=n;omega,rfl⟩
 ·exact⟨[],_,rfl,by simp[Qe,lk,std]⟩
 ·rintro i ⟨jK,jR,hi⟩
  have jK:k+1<=i:=jK;have jR:i<=n:=jR;have hi:Q2p l q i.toNat=Q2p l q (k+1).toNat:=hi;rcases lt_or_eq_of_le jR with jA|jZ
  ·have ai:=QJ (l:=l) (i:=i) (by omega) (by omega)
   have jI:=Qhy (l:=l) (q:=q) (i:=i) (by omega) (by omega)
   rw[hi]at jI;clear en jC hi;with_reducible refine cv1 (Q0 l) ?_
   have jC:=Q15 hn;have en:=hn.eq;with_reducible repeat' first|refine aU (zA ai <| zA ak <| zA jC <| zA jA jK) ?_|refine zA ?_ ?_|intro hb
   ·have j4:rAt l i=q:=by rw[hq];simpa[std,ai,ak,AV.cells,intOf,rAt]using hb
    have qz:R=i+1:=by rw[hR,jI,if_pos j4,if_pos rfl];show(((i+1).toNat:Nat):Int)=_;omega
    with_reducible refine cv1 (Q0 l) ?_
    refine .pure rfl (.inl ?_);rw[qz];rfl
   ·have j4:¬rAt l i=q:=by rw[hq];simpa[std,ai,ak,AV.cells,intOf,rAt]using hb
    rw[if_neg j4]at jI;exact⟨i+1,⟨by omega,by omega,jI.symm⟩,by omega,[],_,rfl,by simp[Qe,lk,std]⟩
  ·have yd:Q2p l q i.toNat=(l.length,false):=by rw[Q2p,dif_neg (by omega)]
   have qz:R=-1:=by rw[hR,<-hi,yd];rfl
   rw[jZ];clear en jC hi yd;with_reducible refine cv1 (Q0 l) ?_
   have jC:=Q15 hn;with_reducible repeat' first|refine aU jC ?_|refine zA ?_ ?_|intro hb
   ·rw[if_pos trivial]
    with_reducible refine cv1 (Q0 l) ?_
    refine .pure rfl (.inl ?_);rw[qz]
def Q1B(kd k t:Int)(w:Bool):AV:=.agg [.val (.int .i64 kd),.val (.int .i64 k),.val (.int .i64 t),.val (.bool w)]
theorem Qk6{l:List Int}{i:Int}(h0:0<=i)(h1:i<l.length):Q2q l i.toNat=if rAt l i=62 then((i+1).toNat,true)else if rAt l i=60 then(i.toNat,false)else Q2q l (i+1).toNat:=by
 have h2:i.toNat<l.length:=by omega
 have e:rAt l i=l[i.toNat]:=by rw[rAt,getElem?_eq_getElem h2];rfl
 rw[e];conv=>lhs;rw[Q2q,dif_pos h2]
 rw[show(i+1).toNat=i.toNat+1 by omega]
theorem Qoz(l:List Int)(hl:l.length<=1000000000)(k:Int)(h0:0<=k)(h1:k+2<=l.length):BCall prog 154 [.slc 1 (Q0 l),.val (.int .i64 k)] [] (Q1B 10 k ((Q3h l k.toNat).2.1:Nat) (Q3h l k.toNat).2.2) []:=by
 obtain⟨n,hn⟩:=QE l;have jt:=Qx l;obtain⟨rt,zW⟩:=exq (((Q2q l (k+2).toNat).1:Nat):Int);obtain⟨rb,vP⟩:=exq ((Q2q l (k+2).toNat).2:Bool)
 have e:Q1B 10 k ((Q3h l k.toNat).2.1:Nat) (Q3h l k.toNat).2.2=Q1B 10 k rt rb:=by
  rw[zW,vP,Q3h,show(k+2).toNat=k.toNat+2 by omega]
 rw[e,Q1B];have en:=hn.eq;have jX:k+2<=n:=by omega
 clear e h1;refine fnN (cs0) func154 rfl fun _ _=>?_
 with_reducible refine cv1 (Q0 l) ?_
 have jC:=Q15 hn;with_reducible repeat' first|refine aU jC ?_|refine zA ?_ ?_|intro hb
 refine Q1h (cs0) (Int) (fun i=>⟨[(0,.slc 1 (Q0 l)),(1,.val (.int .i64 k)),(4,.box 0 0),(5,.val (.int .i64 i))],[.box [.val (.int .i64 0),.val (.int .i64 0),.val (.int .i64 0),.val (.bool false)]]⟩) (fun i=>k+2<=i/\i<=n/\Q2q l i.toNat=Q2q l (k+2).toNat) (fun i=>(n-i).toNat) (k+2) ?_ ?_ ?_
 ·exact⟨Int.le_refl _,jX,rfl⟩
 ·refine⟨[some 0],_,rfl,?_⟩
  exact eq0
 ·rintro i ⟨jK,jR,hi⟩
  have jK:k+2<=i:=jK;have jR:i<=n:=jR;have hi:Q2q l i.toNat=Q2q l (k+2).toNat:=hi;rcases lt_or_eq_of_le jR with jA|jZ
  ·have ai:=QJ (l:=l) (i:=i) (by omega) (by omega)
   have jI:=Qk6 (l:=l) (i:=i) (by omega) (by omega)
   rw[hi]at jI;clear en jC hi;with_reducible refine cv1 (Q0 l) ?_
   have jC:=Q15 hn;have en:=hn.eq;with_reducible repeat' first|refine aU (zA ai <| zA jC <| zA jA jK) ?_|refine zA ?_ ?_|intro hb
   ·have j4:rAt l i=62:=by simpa[std,ai,AV.cells,intOf,rAt]using hb
    rw[if_pos j4]at jI;have yV:rt=i+1:=by rw[zW,jI];show(((i+1).toNat:Nat):Int)=_;omega
    have gj:rb=true:=by rw[vP,jI]
    with_reducible refine cv1 (Q0 l) ?_
    exact .pure rfl ⟨.inl rfl,.inl rfl,.inl (by rw[yV];rfl),.inl (by rw[gj]),trivial⟩
   ·rename_i j5
    have j9:¬rAt l i=62:=by simpa[std,ai,AV.cells,intOf,rAt]using j5
    have j4:rAt l i=60:=by simpa[std,ai,AV.cells,intOf,rAt]using hb
    rw[if_neg j9,if_pos j4]at jI;have yV:rt=i:=by rw[zW,jI];show((i.toNat:Nat):Int)=_;omega
    have gj:rb=false:=by rw[vP,jI]
    with_reducible refine cv1 (Q0 l) ?_
    exact .pure rfl ⟨.inl rfl,.inl rfl,.inl (by rw[yV]),.inl (by rw[gj]),trivial⟩
   ·rename_i j5
    have j9:¬rAt l i=62:=by simpa[std,ai,AV.cells,intOf,rAt]using j5
    have j4:¬rAt l i=60:=by simpa[std,ai,AV.cells,intOf,rAt]using hb
    rw[if_neg j9,if_neg j4]at jI;refine⟨i+1,⟨by omega,by omega,jI.symm⟩,by omega,[some 0],_,rfl,?_⟩
    exact eq0
  ·have yd:Q2q l i.toNat=(l.length,false):=by rw[Q2q,dif_neg (by omega)]
   have yV:rt=n:=by rw[zW,<-hi,yd,hn.eq]
   have j4:rb=false:=by rw[vP,<-hi,yd]
   rw[jZ];clear en jC hi yd;with_reducible refine cv1 (Q0 l) ?_
   have jC:=Q15 hn;with_reducible repeat' first|refine aU jC ?_|refine zA ?_ ?_|intro hb
   ·rw[if_pos trivial]
    with_reducible refine cv1 (Q0 l) ?_
    exact .pure rfl ⟨.inl rfl,.inl rfl,.inl (by rw[yV];exact congrArg _ (congrArg _ jC)),.inl (by rw[j4]),trivial⟩
def Q6K(l:List Int)(f:Int)(bs:List UInt8):Int:=match Q3Z l f.toNat l.length bs with
 |none=>-1
 |some j=>(j:Int)
def QhS(st:Int->Bool):Nat->List AV->List Ob->Option (AV×List Ob):=fun f args _=>match f,args with
 |151,[.slc 1 _,.val (.int .i64 k),.val (.string _)]=>some (.val (.bool (st k)),[])
 |_,_=>none
def stI(l:List Int)(bs:List UInt8)(k:Int):Bool:=Q6 l k.toNat bs
theorem Qnv(l:List Int)(hl:l.length<=1000000000)(vi:I32 l)(f:Int)(h0:0<=f)(hf:f<=2000000000)(s:ByteArray)(hs:s.size<=1000000000) :
  BCall prog 193 [.slc 1 (Q0 l),.val (.int .i64 f),.val (.int .i64 l.length),.val (.string s)] [] (.val (.int .i64 (Q6K l f s.data.toList))) []:=by
 obtain⟨n,hn⟩:=QE l;have cS:∀k:Int,0<=k->k<=n->BCall prog 151 [.slc 1 (Q0 l),.val (.int .i64 k),.val (.string s)] [] (.val (.bool (stI l s.data.toList k))) []:=fun k k0 k1=>Qc l hl vi k k0 (by have:=hn.eq;omega) s hs
 have jt:=Qx l;have zJ:s.data.toList.length=s.size:=by simp
 obtain⟨z,hz⟩:∃z:Int,IsN s.size z:=⟨_,rfl⟩;have jp:0<=z:=by have:=hz.eq;omega
 have qA:z<=1000000000:=by have:=hz.eq;omega
 have jj:std.szS s=z:=hz.eq.symm;obtain⟨R,hR⟩:=exq (Q6K l f s.data.toList:Int);rw[<-hR,<-hn.eq];obtain⟨bs,kx⟩:=exq s.data.toList;rw[<-kx]at zJ hR cS;have qO:n<=1000000000:=by have:=hn.eq;omega
 clear kx vi;refine fnN (QhS (stI l bs)) func193 rfl fun _ _=>?_
 with_reducible refine cv2 (Q0 l) (stI l bs) ?_
 refine Q1h (QhS (stI l bs)) (Int) (fun i=>⟨[(0,.slc 1 (Q0 l)),(2,.val (.int .i64 n)),(3,.val (.string s)),(9,.val (.int .i64 i))],[]⟩) (fun i=>f<=i/\i<=2000000001/\∀j:Nat,f.toNat<=j->j<i.toNat->Q6 l j bs=false) (fun i=>(n+1-i).toNat) f ?_ ?_ ?_
 ·exact⟨Int.le_refl _,by omega,fun j h1 h2=>by omega⟩
 ·refine⟨[],_,rfl,?_⟩
  exact eq0
 ·rintro i ⟨jK,jR,hi⟩
  have jK:f<=i:=jK;have jR:i<=2000000001:=jR;have hi:∀j:Nat,f.toNat<=j->j<i.toNat->Q6 l j bs=false:=hi
  have vT:¬(i<=n/\i+z<=n)->R=-1:=fun h=>by
   have qu:=hn.eq;have qB:=hz.eq;rw[hR,Q6K,Qb0 l f.toNat l.length bs (fun j h1 h2=>hi j h1 (by omega))]
  by_cases vl:i<=n
  ·by_cases yH:i+z<=n
   ·have cSi:=cS i (by omega) (by omega)
    clear vT;with_reducible refine cv2 (Q0 l) (stI l bs) ?_
    have jC:=Q15 hn;have yp:(s.size:Int)=z:=hz.eq.symm;with_reducible repeat' first|refine aU (zA jC <| zA yp <| zA vl <| zA yH jK) ?_|refine zA ?_ ?_|intro hb
    ·have hb:Q6 l i.toNat bs=true:=hb
     have qz:R=i:=by
      have qu:=hn.eq;have qB:=hz.eq;rw[hR,Q6K,Qc7 l f.toNat l.length bs i.toNat (by omega) (by omega) hi hb]
      show((i.toNat:Nat):Int)=i
      omega
     with_reducible refine cv2 (Q0 l) (stI l bs) ?_
     refine .pure rfl (.inl ?_);rw[qz]
    ·have hb:Q6 l i.toNat bs=false:=hb
     refine⟨i+1,⟨by omega,by omega,fun j h1 h2=>?_⟩,by omega,[],_,rfl,?_⟩
     ·by_cases hj:j<i.toNat
      ·exact hi j h1 hj
      ·obtain rfl:j=i.toNat:=by omega
       exact hb
     ·exact eq0
   ·have qz:=vT (fun h=>yH h.2)
    clear vT;with_reducible refine cv2 (Q0 l) (stI l bs) ?_
    have jC:=Q15 hn;have yp:(s.size:Int)=z:=hz.eq.symm;with_reducible repeat' first|refine aU (zA jC <| zA yp <| zA vl <| zA yH jK) ?_|refine zA ?_ ?_|intro hb
    all_goals
     rw[if_pos trivial];with_reducible refine cv2 (Q0 l) (stI l bs) ?_
     refine .pure rfl (.inl ?_);rw[qz]
  ·have qz:=vT (fun h=>vl h.1)
   clear vT;with_reducible refine cv2 (Q0 l) (stI l bs) ?_
   have jC:=Q15 hn;have yp:(s.size:Int)=z:=hz.eq.symm;with_reducible repeat' first|refine aU (zA jC <| zA yp <| zA vl jK) ?_|refine zA ?_ ?_|intro hb
   all_goals
    rw[if_pos trivial];with_reducible refine cv2 (Q0 l) (stI l bs) ?_
    refine .pure rfl (.inl ?_);rw[qz]
def Q3C(l:List Int)(f:Int)(bs:List UInt8):Int:=if Q6K l f bs<0 then(l.length:Int)else Q6K l f bs+(bs.length:Int)
def Q3F(l:List Int)(f:Int)(bs:List UInt8):Bool:=!decide (Q6K l f bs<0)
theorem Q5L(l:List Int)(kd k sk:Nat)(bs:List UInt8)(h:k+sk<=l.length):(Q14 l kd k sk bs).1=kd/\((Q14 l kd k sk bs).2.1:Int)=Q3C l ((k:Int)+sk) bs/\(Q14 l kd k sk bs).2.2=Q3F l ((k:Int)+sk) bs:=by
 unfold Q14 Q3C Q3F Q6K;rw[Nat.min_eq_left h,show((k:Int)+(sk:Int)).toNat=k+sk by omega]
 cases Q3Z l (k+sk) l.length bs with
 |none=>exact⟨rfl,rfl,rfl⟩
 |some j =>
  have:¬((j:Int)<0):=by omega
  simp only[if_neg this,decide_eq_false this];exact⟨trivial,by omega,rfl⟩
def Qpo(R:Int):Nat->List AV->List Ob->Option (AV×List Ob):=fun f args _=>match f,args with
 |193,[.slc 1 _,.val (.int .i64 _),.val (.int .i64 _),.val (.string _)]=>some (.val (.int .i64 R),[])
 |_,_=>none
theorem QkI(l:List Int)(f:Int)(bs:List UInt8):Q6K l f bs<=l.length:=by
 unfold Q6K;cases h:Q3Z l f.toNat l.length bs with
 |none=>show(-1:Int)<=_;omega
 |some j=>have:=(Qek l _ _ bs j h).2;show(j:Int)<=_;omega
theorem Q8v(l:List Int)(hl:l.length<=1000000000)(vi:I32 l)(kd k sk:Int)(h0:0<=k)(h1:0<=sk)(h2:k+sk<=l.length)(s:ByteArray)(hs:s.size<=1000000000) :
  BCall prog 152 [.slc 1 (Q0 l),.val (.int .i64 kd),.val (.int .i64 k),.val (.int .i64 sk),.val (.string s)] [] (Q1B kd k (Q3C l (k+sk) s.data.toList) (Q3F l (k+sk) s.data.toList)) []:=by
 have cF:=Qnv l hl vi (k+sk) (by omega) (by omega) s hs
 have zJ:s.data.toList.length=s.size:=by simp
 have qv:=QkI l (k+sk) s.data.toList;obtain⟨n,hn⟩:=QE l;have jt:=Qx l;rw[<-hn.eq]at cF qv h2;obtain⟨z,hz⟩:∃z:Int,IsN s.size z:=⟨_,rfl⟩;have jp:0<=z:=by have:=hz.eq;omega
 have qA:z<=1000000000:=by have:=hz.eq;omega
 obtain⟨R,hR⟩:=exq (Q6K l (k+sk) s.data.toList:Int);have qO:n<=1000000000:=by have:=hn.eq;omega
 have e:Q1B kd k (Q3C l (k+sk) s.data.toList) (Q3F l (k+sk) s.data.toList)=Q1B kd k (if R<0 then n else R+z) (!decide (R<0)):=by
  rw[Q3C,Q3F,<-hR,zJ,<-hn.eq,hz.eq]
 rw[e,Q1B];rw[<-hR]at cF qv;clear e hR zJ;obtain⟨T,j0⟩:=exq ((if R<0 then n else R+z));obtain⟨B,hB9⟩:=exq (!decide (R<0));rw[<-j0,<-hB9];obtain⟨fr,qK⟩:=exq (k+sk);rw[<-qK]at cF h2;refine fnN (Qpo R) func152 rfl fun _ _=>?_
 with_reducible refine cv1 (Q0 l) ?_
 have jC:=Q15 hn;have yp:(s.size:Int)=z:=hz.eq.symm
 have cF2:BCall prog 193 [.slc 1 (Q0 l),.val (.int .i64 (std.add k sk)),.val (.int .i64 (std.len (Q0 l))),.val (.string s)] [] (.val (.int .i64 R)) []:=by
  rw[show std.add k sk=fr from qK.symm,show std.len (Q0 l)=n from jC];exact cF
 with_reducible repeat' first|refine aU (zA jC <| zA yp <| zA qK h2) ?_|refine zA ?_ ?_|intro hb
 ·have hb:R<0:=of_decide_eq_true hb
  rw[if_pos hb]at j0;exact .pure rfl ⟨.inl rfl,.inl rfl,.inl (by rw[j0];exact congrArg _ (congrArg _ jC)),.inl (by rw[hB9,decide_eq_true hb];rfl),trivial⟩
 ·have hb:¬R<0:=of_decide_eq_false hb
  show(-9223372036854775808:Int)<=R+s.size/\R+s.size<=(9223372036854775807:Int)
  omega
 ·have hb:¬R<0:=of_decide_eq_false hb
  rw[if_neg hb]at j0;exact .pure rfl ⟨.inl rfl,.inl rfl,.inl (by rw[j0,<-yp];rfl),.inl (by rw[hB9,decide_eq_false hb];rfl),trivial⟩
theorem QlC(l:List Int)(hl:l.length<=1000000000)(f:Int)(h0:0<=f)(h1:f<=l.length):BCall prog 222 [.slc 1 (Q0 l),.val (.int .i64 f)] [] (.slc 1 (Q0 (qL l f.toNat))) []:=by
 refine BCall.hand (enters_of func222 (by kernel_rfl) rfl) fun w g vs M hL=>?_
 obtain⟨v1,vs1,rfl,yY,hL⟩:=Q13 hL;obtain⟨v2,vs2,rfl,h2',hL⟩:=Q13 hL;obtain rfl:=Q2A hL;obtain⟨A,c,rfl,hr⟩:=Q4j yY M;obtain rfl:=Q31 h2';have:=QfG _ A _ c l f.toNat w hr (by omega) hl
 rw[Int.toNat_of_nonneg h0]at this;refine this.mono fun e w' ⟨b,h,vB,hb⟩=>⟨_,h,hb,?_⟩
 have hr3:Rd w' (fun b=>w.heap.size<=b/\b<w'.heap.size) 1 (some ⟨b,0,none⟩) l.length l.length (rc (qL l f.toNat)) :=
  ⟨vB.len,vB.le,vB.max,vB.nil,fun h0=>by
   obtain⟨b',o',e',hS,hc⟩:=vB.at_ h0;refine⟨b',o',e',⟨hS,?_⟩,hc⟩;have v8:(rc (qL l f.toNat)).length=l.length:=by simp[rc,qL,qTo]
   exact World.block_lt_of_cell? w' _ (hc 0 _ (getElem?_eq_getElem (by omega)))⟩
 refine Qln hr3 (fun b o hb=>.inr hb) (by rw[Qx,qL,QgV]) (fun x hx=>by obtain⟨n,_,rfl⟩:=mem_map.1 hx;rfl) (fun x hx=>by cases hx;exact⟨_,_,rfl⟩) ?_
 have e:Q0 (qL l f.toNat)=(rc (qL l f.toNat)).map .val:=by simp[Q0,rc,QgR]
 rw[e,Qai];refine⟨by simp,fun j y u hy hu=>?_⟩
 rw[getElem?_map,hy]at hu;obtain rfl:AV.val y=u:=by simpa using hu
 obtain⟨n,_,rfl⟩:=mem_map.1 (List.mem_of_getElem? hy);exact PRel.val _ rfl
def Qbx(l:List Int)(f:Nat)(a b:Int)(i:Nat):Bool:=decide (QbG l f (i-f)=0)&&(decide (rAt l i=a)||decide (rAt l i=b))
def frF(l:List Int)(f:Nat)(a b:Int)(k:Nat):Option Nat:=(List.range' k (l.length-k)).find? (Qbx l f a b)
theorem Q8e(l:List Int)(f:Nat)(a b:Int){k:Nat}(h:¬k<l.length):frF l f a b k=none:=by
 rw[frF,show l.length-k=0 by omega];rfl
theorem Q6M(l:List Int)(f:Nat)(a b:Int){k:Nat}(h:k<l.length):frF l f a b k=if Qbx l f a b k=true then some k else frF l f a b (k+1):=by
 rw[frF,show l.length-k=(l.length-(k+1))+1 by omega,List.range'_succ,List.find?_cons]
 cases Qbx l f a b k<;>rfl
def Q8C(l:List Int)(s:Bool)(k:Nat):Option Nat:=if(QN l s k).2=true\/(QN l s k).1<l.length then some (QN l s k).1 else none
def Qg3(l:List Int)(s:Bool)(q:Int)(k:Nat):Option Nat:=if(Q2p l q k).2=true then Q8C l s (Q2p l q k).1 else none
def isQ(q:Int):Prop:=q=34\/q=39
def Qbm(s:Bool):Int:=if s then 60 else 62
theorem QnR(s:Bool):Qbm s=60\/Qbm s=62:=by cases s<;>simp[Qbm]
theorem QoM(l:List Int)(f:Nat)(s:Bool):∀(n m:Nat),l.length-(f+m)<=n ->
  (qSt l f m=0->frF l f (Qbm s) 62 (f+m)=Q8C l s (f+m))/\(isQ (qSt l f m)->frF l f (Qbm s) 62 (f+m)=Qg3 l s (qSt l f m) (f+m)):=by
 intro n;induction n with
 |zero =>
  intro m h;have hk:¬f+m<l.length:=by omega
  refine⟨fun _=>?_,fun _=>?_⟩
  ·rw[Q8e l f _ _ hk,Q8C,Q2l l s _ hk,if_neg (by simp)]
  ·rw[Q8e l f _ _ hk,Qg3,Q3L l _ _ hk,if_neg (by simp)]
 |succ n ih =>
  intro m h;by_cases hk:f+m<l.length
  ·obtain⟨ih1,ih2⟩:=ih (m+1) (by omega)
   rw[<-Nat.add_assoc]at ih1 ih2;have hg:l[f+m]?.getD 0=l[f+m]:=by rw[getElem?_eq_getElem hk];rfl
   have hra:rAt l ((f+m:Nat):Int)=l[f+m]:=Qd4 hk;have hs:qSt l f (m+1)=(Q2Q (qSt l f m) l[f+m]).1:=by rw[qSt,hg]
   have ho:QbG l f (f+m-f)=(Q2Q (qSt l f m) l[f+m]).2:=by rw[QbG,show f+m-f=m by omega,hg]
   have v5:=QnR s;rw[Q6M l f _ _ hk,Qbx,ho,hra];rw[hs]at ih1 ih2;generalize hr:l[f+m]=r at *;refine⟨fun h0=>?_,fun hq=>?_⟩
   ·rw[h0]at ih1 ih2 ⊢
    by_cases k5:r=34\/r=39
    ·have e:Q2Q 0 r=(r,0):=by rw[Q2Q,if_pos ⟨rfl,k5⟩]
     rw[e]at ih1 ih2 ⊢
     have cJ:¬((decide ((0:Int)=0)&&(decide (r=Qbm s)||decide (r=62)))=true):=by
      simp only[decide_true,Bool.true_and,Bool.or_eq_true,decide_eq_true_eq];omega
     rw[if_neg cJ,ih2 k5];have hqq:Q3k l[f+m]=true:=by rw[hr];rcases k5 with rfl|rfl<;>rfl
     rw[Q8C,Q50 l s _ hk hqq,Qg3];have hqd:Q1a l (f+m)=Q2p l r (f+m+1):=by rw[Q1a,List.getD_eq_getElem?_getD,getElem?_eq_getElem hk,<-hr];rfl
     rw[hqd];cases hb:(Q2p l r (f+m+1)).2 with
     |true=>rw[if_pos rfl];rfl
     |false =>
      rw[if_neg (by decide)]
      have vT:(Q2p l r (f+m+1)).1=l.length:=by
       have key:∀(n k:Nat),l.length-k<=n->(Q2p l r k).2=false->(Q2p l r k).1=l.length:=by
        intro n;induction n with
        |zero=>intro k h1 h2;rw[Q3L l r k (by omega)]
        |succ n ih3 =>
         intro k h1 h2;by_cases h3:k<l.length
         ·by_cases h4:l[k]=r
          ·rw[Q6C l r k h3 h4]at h2;cases h2
          ·rw[Q5Q l r k h3 h4]at h2 ⊢
           exact ih3 _ (by omega) h2
         ·rw[Q3L l r k h3]
       exact key _ _ (le_refl _) hb
      rw[vT,Q2l l s _ (by omega),if_neg (by simp)]
    ·have e:Q2Q 0 r=(0,0):=by rw[Q2Q,if_neg (fun h=>k5 h.2),if_neg (fun h=>h.1 rfl)]
     rw[e]at ih1 ⊢
     have qV:Q3k l[f+m]=false:=by
      rw[hr];simp only[Q3k,Bool.or_eq_false_iff,beq_eq_false_iff_ne];omega
     by_cases j5:r=62
     ·subst j5
      rw[if_pos (by simp),Q8C,Q5K l s _ hk hr,if_pos (.inl rfl)]
     ·by_cases jQ:r=60/\s=true
      ·obtain⟨rfl,rfl⟩:=jQ
       rw[if_pos (by decide),Q8C,Q7e l _ hk hr,if_pos (.inr hk)]
      ·have cJ:¬((decide ((0:Int)=0)&&(decide (r=Qbm s)||decide (r=62)))=true):=by
        simp only[decide_true,Bool.true_and,Bool.or_eq_true,decide_eq_true_eq];rintro(h|h)
        ·cases s with
         |true=>exact jQ ⟨h,rfl⟩
         |false=>exact j5 h
        ·exact j5 h
       rw[if_neg cJ,ih1 rfl,Q8C,Q8C,Q4k l s _ hk qV (by rw[hr];exact j5) (by rw[hr];exact jQ)]
   ·generalize qSt l f m=q at *
    have vF:q≠0:=by rcases hq with rfl|rfl<;>decide
    by_cases gO:r=q
    ·have e:Q2Q q r=(0,0):=by rw[Q2Q,if_neg (fun h=>vF h.1),if_pos ⟨vF,gO⟩]
     rw[e]at ih1 ⊢
     have cJ:¬((decide ((0:Int)=0)&&(decide (r=Qbm s)||decide (r=62)))=true):=by
      simp only[decide_true,Bool.true_and,Bool.or_eq_true,decide_eq_true_eq];rcases hq with rfl|rfl<;>omega
     rw[if_neg cJ,ih1 rfl,Qg3,Q6C l q _ hk (by rw[hr];exact gO),if_pos rfl]
    ·have e:Q2Q q r=(q,q):=by rw[Q2Q,if_neg (fun h=>vF h.1),if_neg (fun h=>gO h.2)]
     rw[e]at ih2 ⊢
     have cJ:¬((decide (q=0)&&(decide (r=Qbm s)||decide (r=62)))=true):=by
      rw[decide_eq_false vF];simp
     rw[if_neg cJ,ih2 hq,Qg3,Qg3,Q5Q l q _ hk (by rw[hr];exact gO)]
  ·refine⟨fun _=>?_,fun _=>?_⟩
   ·rw[Q8e l f _ _ hk,Q8C,Q2l l s _ hk,if_neg (by simp)]
   ·rw[Q8e l f _ _ hk,Qg3,Q3L l _ _ hk,if_neg (by simp)]
theorem QeG(l:List Int)(f:Nat)(s:Bool):frF l f (Qbm s) 62 f=Q8C l s f:=(QoM l f s l.length 0 (by omega)).1 rfl
def Q9N(l:List Int)(f:Nat)(a b:Int):Int:=match frF l f a b f with
 |none=>-1
 |some j=>(j:Int)
def Qfr(Q:List AV):Nat->List AV->List Ob->Option (AV×List Ob):=fun f args _=>match f,args with
 |222,[.slc 1 _,.val (.int .i64 _)]=>some (.slc 1 Q,[])
 |_,_=>none
theorem Qpd(l:List Int)(f:Nat){i:Int}(h0:(f:Int)<=i)(h1:i<l.length):(qL l f)[i.toNat]?.getD 0=QbG l f (i.toNat-f):=by
 rw[qL,qTo,getElem?_map,List.getElem?_range (by omega)]
 show(if f<=i.toNat/\i.toNat<l.length then _ else(0:Int))=_
 rw[if_pos ⟨by omega,by omega⟩]
theorem Qhw(l:List Int)(hl:l.length<=1000000000)(f:Int)(h0:0<=f)(h1:f<=l.length)(a b:Int):BCall prog 198 [.slc 1 (Q0 l),.val (.int .i64 f),.val (.int .i32 a),.val (.int .i32 b)] [] (.val (.int .i64 (Q9N l f.toNat a b))) []:=by
 have cQ:=QlC l hl f h0 h1;obtain⟨n,hn⟩:=QE l;have jt:=Qx l;obtain⟨fn,cm⟩:=exq f.toNat;rw[<-cm]at cQ ⊢;have hqa:∀i:Int,f<=i->i<n->(qL l fn)[i.toNat]?.getD 0=QbG l fn (i.toNat-fn):=fun i hi yk=>Qpd l fn (by omega) (by have:=hn.eq;omega)
 have hql:(qL l fn).length=l.length:=QgV l fn _;have hqx:=Qx (qL l fn);generalize qL l fn=qs at cQ hqa hql hqx;obtain⟨R,hR⟩:=exq (Q9N l fn a b:Int);rw[<-hR];rw[Q9N]at hR;have hfn1:f<=n:=by have:=hn.eq;omega
 have qO:n<=1000000000:=by have:=hn.eq;omega
 refine fnN (Qfr (Q0 qs)) func198 rfl fun _ _=>?_
 with_reducible refine cv2 (Q0 l) (Q0 qs) ?_
 refine⟨cQ,?_⟩;refine Q1h (Qfr (Q0 qs)) (Int) (fun i=>⟨[(0,.slc 1 (Q0 l)),(2,.val (.int .i32 a)),(3,.val (.int .i32 b)),(9,.slc 1 (Q0 qs)),(10,.val (.int .i64 i))],[]⟩) (fun i=>f<=i/\i<=n/\frF l fn a b i.toNat=frF l fn a b fn) (fun i=>(n-i).toNat) f ?_ ?_ ?_
 ·exact⟨Int.le_refl _,hfn1,by rw[cm]⟩
 ·refine⟨[],_,rfl,?_⟩
  exact eq0
 ·rintro i ⟨jK,jR,qK⟩
  have jK:f<=i:=jK;have jR:i<=n:=jR;have qK:frF l fn a b i.toNat=frF l fn a b fn:=qK;rcases lt_or_eq_of_le jR with jA|jZ
  ·have ai:=QJ (l:=l) (i:=i) (by omega) (by have:=hn.eq;omega)
   have aq:=QJ (l:=qs) (i:=i) (by omega) (by have:=hn.eq;omega)
   have hqi:=hqa i jK jA;have zh:l[i.toNat]?.getD 0=rAt l i:=rfl;have jS:i.toNat<l.length:=by have:=hn.eq;omega
   have yq:Qbx l fn a b i.toNat=(decide (qs[i.toNat]?.getD 0=0)&&(decide (l[i.toNat]?.getD 0=a)||decide (l[i.toNat]?.getD 0=b))):=by
    rw[Qbx,hqi,rAt,toNat_natCast]
   by_cases cq:qs[i.toNat]?.getD 0=0
   ·by_cases ca:l[i.toNat]?.getD 0=a
    ·have qz:R=i:=by
      have hh:Qbx l fn a b i.toNat=true:=by rw[yq];rw[decide_eq_true cq,decide_eq_true ca];rfl
      rw[hR,<-qK,Q6M l fn a b (by omega),if_pos hh]
      show((i.toNat:Nat):Int)=i
      omega
     clear qK hR yq hqi zh;with_reducible refine cv2 (Q0 l) (Q0 qs) ?_
     have jC:=Q15 hn;have vV:(((Q0 qs).length:Nat):Int)=n:=by have:=hn.eq;omega
     with_reducible repeat' first|refine aU (zA jC <| zA vV <| zA ai <| zA aq <| zA jA <| zA jK <| zA h0 <| zA cq ca) ?_|refine zA ?_ ?_|intro hb
     all_goals
      with_reducible refine cv2 (Q0 l) (Q0 qs) ?_
      refine .pure rfl (.inl ?_);rw[qz]
    ·by_cases cb:l[i.toNat]?.getD 0=b
     ·have qz:R=i:=by
       have hh:Qbx l fn a b i.toNat=true:=by rw[yq];rw[decide_eq_true cq,decide_eq_true cb,decide_eq_false ca];rfl
       rw[hR,<-qK,Q6M l fn a b (by omega),if_pos hh]
       show((i.toNat:Nat):Int)=i
       omega
      clear qK hR yq hqi zh;with_reducible refine cv2 (Q0 l) (Q0 qs) ?_
      have jC:=Q15 hn;have vV:(((Q0 qs).length:Nat):Int)=n:=by have:=hn.eq;omega
      with_reducible repeat' first|refine aU (zA jC <| zA vV <| zA ai <| zA aq <| zA jA <| zA jK <| zA h0 <| zA cq <| zA ca cb) ?_|refine zA ?_ ?_|intro hb
      all_goals
       with_reducible refine cv2 (Q0 l) (Q0 qs) ?_
       refine .pure rfl (.inl ?_);rw[qz]
     ·have jI:frF l fn a b i.toNat=frF l fn a b (i+1).toNat:=by
       have hh:¬Qbx l fn a b i.toNat=true:=by rw[yq];rw[decide_eq_true cq,decide_eq_false ca,decide_eq_false cb];simp
       rw[Q6M l fn a b (by omega),if_neg hh,show(i+1).toNat=i.toNat+1 by omega]
      rw[qK]at jI;clear qK hR yq hqi zh;with_reducible refine cv2 (Q0 l) (Q0 qs) ?_
      have jC:=Q15 hn;have vV:(((Q0 qs).length:Nat):Int)=n:=by have:=hn.eq;omega
      with_reducible repeat' first|refine aU (zA jC <| zA vV <| zA ai <| zA aq <| zA jA <| zA jK <| zA h0 <| zA cq <| zA ca cb) ?_|refine zA ?_ ?_|intro hb
      all_goals
       refine⟨i+1,⟨by omega,by omega,jI.symm⟩,by omega,[],_,rfl,?_⟩
       exact eq0
   ·have jI:frF l fn a b i.toNat=frF l fn a b (i+1).toNat:=by
     have hh:¬Qbx l fn a b i.toNat=true:=by rw[yq];rw[decide_eq_false cq];simp
     rw[Q6M l fn a b (by omega),if_neg hh,show(i+1).toNat=i.toNat+1 by omega]
    rw[qK]at jI;clear qK hR yq hqi zh;with_reducible refine cv2 (Q0 l) (Q0 qs) ?_
    have jC:=Q15 hn;have vV:(((Q0 qs).length:Nat):Int)=n:=by have:=hn.eq;omega
    with_reducible repeat' first|refine aU (zA jC <| zA vV <| zA ai <| zA aq <| zA jA <| zA jK <| zA h0 cq) ?_|refine zA ?_ ?_|intro hb
    all_goals
     refine⟨i+1,⟨by omega,by omega,jI.symm⟩,by omega,[],_,rfl,?_⟩
     exact eq0
  ·have yd:frF l fn a b i.toNat=none:=Q8e l fn a b (by have:=hn.eq;omega)
   have qz:R=-1:=by rw[hR,<-qK,yd]
   rw[jZ];clear qK yd;with_reducible refine cv2 (Q0 l) (Q0 qs) ?_
   have jC:=Q15 hn;with_reducible repeat' first|refine aU jC ?_|refine zA ?_ ?_|intro hb
   ·rw[if_pos trivial]
    with_reducible refine cv2 (Q0 l) (Q0 qs) ?_
    refine .pure rfl (.inl ?_);rw[qz]
theorem QhZ(l:List Int)(s:Bool):∀(n k:Nat),l.length-k<=n->((QN l s k).2=true->rAt l ((QN l s k).1:Nat)=62)/\((QN l s k).2=false->(QN l s k).1<l.length->rAt l ((QN l s k).1:Nat)=60):=by
 intro n;induction n with
 |zero =>
  intro k h;rw[Q2l l s k (by omega)]
  exact⟨fun h2=>(by cases h2),fun _ h2=>absurd h2 (Nat.lt_irrefl _)⟩
 |succ n ih =>
  intro k h;by_cases hk:k<l.length
  ·cases hq:Q3k l[k]with
   |true =>
    rw[Q50 l s k hk hq];have:=Q2C l k hk
    exact ih _ (by omega)
   |false =>
    by_cases j5:l[k]=62
    ·rw[Q5K l s k hk j5]
     exact⟨fun _=>(by rw[Qd4 hk];exact j5),fun h2=>(by cases h2)⟩
    ·by_cases jQ:l[k]=60/\s=true
     ·obtain⟨jQ,rfl⟩:=jQ
      rw[Q7e l k hk jQ];exact⟨fun h2=>(by cases h2),fun _ _=>by rw[Qd4 hk];exact jQ⟩
     ·rw[Q4k l s k hk hq j5 jQ]
      exact ih _ (by omega)
  ·rw[Q2l l s k hk]
   exact⟨fun h2=>(by cases h2),fun _ h2=>absurd h2 (Nat.lt_irrefl _)⟩
def Q9e(F:Int):Nat->List AV->List Ob->Option (AV×List Ob):=fun f args _=>match f,args with
 |198,[.slc 1 _,.val (.int .i64 _),.val (.int .i32 _),.val (.int .i32 _)]=>some (.val (.int .i64 F),[])
 |_,_=>none
theorem Qi7(l:List Int)(hl:l.length<=1000000000)(k:Int)(h0:0<=k)(h1:k<l.length):BCall prog 156 [.slc 1 (Q0 l),.val (.int .i64 k)] [] (Q1B ((Q1D l k.toNat).1:Nat) k ((Q1D l k.toNat).2.1:Nat) (Q1D l k.toNat).2.2) []:=by
 have cF:=Qhw l hl (k+1) (by omega) (by omega) 60 62
 have cd:=QeG l (k+1).toNat true;have pC:=QhZ l true l.length (k+1).toNat (by omega)
 have yb:=Q38 l true l.length (k+1).toNat (by omega) (by omega)
 have jX:(k+1).toNat=k.toNat+1:=by omega
 obtain⟨n,hn⟩:=QE l;have jt:=Qx l;obtain⟨F,hF⟩:=exq (Q9N l (k+1).toNat 60 62:Int);rw[<-hF]at cF;rw[Q9N,show(60:Int)=Qbm true from rfl,cd,Q8C]at hF;rw[Q1D,<-jX];obtain⟨p,hp⟩:=exq ((QN l true (k+1).toNat).1);obtain⟨w,hw⟩:=exq ((QN l true (k+1).toNat).2);rw[<-hp,<-hw]at hF pC yb ⊢;have jr:k<n:=by have:=hn.eq;omega
 have qO:n<=1000000000:=by have:=hn.eq;omega
 obtain⟨kd,jD⟩:=exq ((((if w=false then((8:Nat),p,false)else if l[p-1]?=some 47 then(9,p+1,true)else(8,p+1,true)):Nat×Nat×Bool).1:Nat):Int);obtain⟨tt,jG⟩:=exq ((((if w=false then((8:Nat),p,false)else if l[p-1]?=some 47 then(9,p+1,true)else(8,p+1,true)):Nat×Nat×Bool).2.1:Nat):Int);obtain⟨ww,jN⟩:=exq (((if w=false then((8:Nat),p,false)else if l[p-1]?=some 47 then(9,p+1,true)else(8,p+1,true)):Nat×Nat×Bool).2.2:Bool);rw[<-jD,<-jG,<-jN,Q1B];by_cases hc:w=true\/p<l.length
 ·rw[if_pos hc]at hF
  have hF:F=(p:Int):=hF
  have qD:p<l.length:=by
   rcases hc with h|h
   ·exact yb.2.2 h
   ·exact h
  have zX:k+1<=F:=by omega
  have hF1:F<n:=by have:=hn.eq;omega
  have af:=QJ (l:=l) (i:=F) (by omega) (by omega)
  have ap:=QJ (l:=l) (i:=F-1) (by omega) (by omega)
  have eF:rAt l F=rAt l (p:Int):=by rw[hF]
  cases cr:w with
  |false =>
   have jQ:l[F.toNat]?.getD 0=60:=by show rAt l F=60;rw[eF];exact pC.2 cr qD
   rw[cr,if_pos rfl]at jD jG jN;have jD:kd=8:=jD;have jG:tt=F:=by rw[hF];exact jG
   have jN:ww=false:=jN;clear hF pC yb hc hp hw cr eF cd qD;refine fnN (Q9e F) func156 rfl fun _ _=>?_
   with_reducible refine cv1 (Q0 l) ?_
   have jC:=Q15 hn;with_reducible repeat' first|refine aU (zA jC <| zA af <| zA ap <| zA zX <| zA hF1 jQ) ?_|refine zA ?_ ?_|intro hb
   all_goals exact .pure rfl ⟨.inl (by rw[jD]),.inl rfl,.inl (by first|(rw[jG];done)|(rw[jG];exact congrArg _ (congrArg _ jC.symm))|(rw[jG];exact congrArg _ (congrArg _ jC))|(rw[jG];rfl)),.inl (by rw[jN]),trivial⟩
  |true =>
   have j5:¬l[F.toNat]?.getD 0=60:=by
    have:rAt l F=62:=by rw[eF];exact pC.1 cr
    show ¬rAt l F=60;rw[this];decide
   have gV:(F-1).toNat=p-1:=by omega
   have hft:(F-1).toNat=F.toNat-1:=by omega
   have ap2:=ap;rw[hft]at ap2;have pD:p-1<l.length:=by omega
   rw[cr,if_neg (by decide)]at jD jG jN
   by_cases vG:l[p-1]?=some 47
   ·have hg:l[(F-1).toNat]?.getD 0=47:=by rw[gV,vG];rfl
    rw[if_pos vG]at jD jG jN;have jD:kd=9:=jD;have jG:tt=F+1:=by rw[hF];show tt=_;rw[jG];show((p+1:Nat):Int)=_;omega
    have jN:ww=true:=jN;clear hF pC yb hc hp hw cr eF cd qD vG gV pD;refine fnN (Q9e F) func156 rfl fun _ _=>?_
    with_reducible refine cv1 (Q0 l) ?_
    have jC:=Q15 hn;have cM:=hg;rw[hft]at cM;with_reducible repeat' first|refine aU (zA jC <| zA af <| zA ap <| zA ap2 <| zA zX <| zA hF1 <| zA j5 <| zA hg cM) ?_|refine zA ?_ ?_|intro hb
    all_goals exact .pure rfl ⟨.inl (by rw[jD]),.inl rfl,.inl (by first|(rw[jG];done)|(rw[jG];exact congrArg _ (congrArg _ jC.symm))|(rw[jG];exact congrArg _ (congrArg _ jC))|(rw[jG];rfl)),.inl (by rw[jN]),trivial⟩
   ·have hg:¬l[(F-1).toNat]?.getD 0=47:=by
     rw[gV,getElem?_eq_getElem pD]at *;intro h;exact vG (congrArg some h)
    rw[if_neg vG]at jD jG jN;have jD:kd=8:=jD;have jG:tt=F+1:=by rw[hF];show tt=_;rw[jG];show((p+1:Nat):Int)=_;omega
    have jN:ww=true:=jN;clear hF pC yb hc hp hw cr eF cd qD vG gV pD;refine fnN (Q9e F) func156 rfl fun _ _=>?_
    with_reducible refine cv1 (Q0 l) ?_
    have jC:=Q15 hn;have cM:=hg;rw[hft]at cM;with_reducible repeat' first|refine aU (zA jC <| zA af <| zA ap <| zA ap2 <| zA zX <| zA hF1 <| zA j5 <| zA hg cM) ?_|refine zA ?_ ?_|intro hb
    all_goals exact .pure rfl ⟨.inl (by rw[jD]),.inl rfl,.inl (by first|(rw[jG];done)|(rw[jG];exact congrArg _ (congrArg _ jC.symm))|(rw[jG];exact congrArg _ (congrArg _ jC))|(rw[jG];rfl)),.inl (by rw[jN]),trivial⟩
 ·rw[if_neg hc]at hF
  have hF:F=-1:=hF;have cr:w=false:=by cases w with|true=>exact absurd (.inl rfl) hc|false=>rfl
  have qD:p=l.length:=by have:=yb.2.1;have:¬p<l.length:=fun h=>hc (.inr h);omega
  rw[cr,if_pos rfl]at jD jG jN;have jD:kd=8:=jD;have jG:tt=n:=by rw[jG];show(p:Int)=n;have:=hn.eq;omega
  have jN:ww=false:=jN;clear pC yb hc hp hw cr cd qD;have hFn:F<0:=by omega
  clear hF;refine fnN (Q9e F) func156 rfl fun _ _=>?_
  with_reducible refine cv1 (Q0 l) ?_
  have jC:=Q15 hn;with_reducible repeat' first|refine aU (zA jC hFn) ?_|refine zA ?_ ?_|intro hb
  all_goals exact .pure rfl ⟨.inl (by rw[jD]),.inl rfl,.inl (by first|(rw[jG];done)|(rw[jG];exact congrArg _ (congrArg _ jC.symm))|(rw[jG];exact congrArg _ (congrArg _ jC))|(rw[jG];rfl)),.inl (by rw[jN]),trivial⟩
end
theorem QiH(x:Int)(h:0<Qr x):Q10 [x]=encodeRune x:=by
 have e:Q10 [x]=Q2I x:=by simp[Q10]
 rw[e,Q2I,if_neg (by omega)]
def ofI:Int->List Int->List Itm
 |_,[]=>[]
 |a,x::r=>⟨x,a,(Q10 [x]).length⟩::ofI (a+(Q10 [x]).length) r
theorem Q6J(x:Int)(r:List Int):Q10 (x::r)=Q10 [x]++Q10 r:=by
 simp[Q10]
theorem Ql6:∀(l:List Int)(a:Int),(ofI a l).map Itm.r=l
 | [],_=>rfl
 |x::r,a=>by simp only[ofI,map_cons,Ql6]
theorem Q9Z:∀(l:List Int)(a:Nat),(∀x∈l,0<Qr x)->(Q1u (Q10 l).length a (Q10 l)).map Qb7=ofI a l
 | [],a,_=>by simp[Q10,Q2y,ofI]
 |x::r,a,h=>by
  have hx:=h x (List.mem_cons_self ..);have e1:=QiH x hx;have hw:=Q47 x hx
  have jJ:Q10 (x::r)≠[]:=fun h=>by
   have:=congrArg List.length h
   rw[Q6J,length_append,e1,hw]at this;simp at this;omega
  have hf:=Q49 x hx (Q10 r);rw[<-e1,<-Q6J]at hf;rw[Q5W a _ jJ,hf];simp only[map_cons,ofI]
  have ed:(Q10 (x::r)).drop (Qr x)=Q10 r:=by
   rw[Q6J,e1,<-hw,List.drop_left]
  rw[ed,Q9Z r (a+Qr x) fun y hy=>h y (List.mem_cons_of_mem _ hy),e1,hw]
  rfl
