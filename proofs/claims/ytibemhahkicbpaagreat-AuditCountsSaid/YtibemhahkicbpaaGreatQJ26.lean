/- Lemmas; conditions told. -/
import Derived.Test.YtibemhahkicbpaaGreatQJ23
import Derived.Test.YtibemhahkicbpaaGreatQJ24
set_option maxRecDepth 99999
set_option maxHeartbeats 0
set_option linter.unusedSimpArgs false
set_option linter.unusedVariables false
namespace Go.Proofs.YtibemhahkicbpaaGreat
open List(length_map mem_cons getElem?_eq_getElem getElem_mem getElem?_map foldl_cons mem_cons_self mem_cons_of_mem flatMap_cons append_assoc append_nil flatMap_append take_length map_append map_cons)
open Nat(le_refl add_zero zero_add zero_le)
open Go.RowKit Go.Lib
section
open Tryz
def Q42(K:Int)(l:List Node)(c:Cur)(r:Rp):Rp :=
 if Q1f l c.n=21 then { r with a4:=r.a4+1,a5:=std.maxI r.a5 (Q16 l c) }
 else if Q1f l c.n=9 then QaX (ruN K l c.n) (QD (ruN K l c.n) 0 (ruN K l c.n).length).attrs { r with a4:=r.a4+1 }
 else if Q1f l c.n=8 then QaX (ruN K l c.n) (QD (ruN K l c.n) 0 (ruN K l c.n).length).attrs r
 else r
def QpJ(kd dp n A6 A7:Int)(RU:List AV):Nat->List AV->List Ob->Option (AV×List Ob):=fun f args ob=>match f,args with
 |55,[.agg _]=>some (.val (.int .i64 kd),[])
 |123,[.agg _]=>some (.val (.int .i64 dp),[])
 |64,[.agg _]=>some (.val (.int .i64 n),[])
 |125,[.agg _,.val (.int .i64 _)]=>some (.slc 1 RU,[])
 |124,[.box 0 0,.slc 1 _]=>match ob with
  | [.box [c0,c1,c2,c3,c4,c5,_,_,c8,c9,c10,c11,c12,c13,c14,c15,c16,c17,c18,c19,c20,c21,c22,c23,c24,c25]] =>
   some (.tup [],[.box [c0,c1,c2,c3,c4,c5,.val (.int .i64 A6),.val (.int .i64 A7),c8,c9,c10,c11,c12,c13,c14,c15,c16,c17,c18,c19,c20,c21,c22,c23,c24,c25]])
  |_=>none
 |_,_=>none
theorem Qop(t:Txt)(m:Mk)(c:Cur)(r:Rp)(hp:PrOk (QL m).n c.n)(ji:(Q4B t.kind (pr (QL m).n c.n)).length<=1000000)(hc:Q2U c<=1000000)
  (h4:0<=r.a4/\r.a4<=1000000000000) (h5:0<=r.a5/\r.a5<=1000000000000) (h6:0<=r.a6/\r.a6<=1000000000000) (h7:0<=r.a7/\r.a7<=1000000000000) :
  BCall prog 70 [.box 0 0,Q8c t m,.agg (c.el (Q3 (QL m).n))] [.box r.cs] (.tup []) [.box (Q42 t.kind (QL m).n c r).cs]:=by
 have cK:=QdI (QL m).n c;have cN:=QmQ (QL m).n c;have cR:=QlD t m c.n hp ji;have cD:=Qmb (QL m).n c hc;have qM:(ruN t.kind (QL m).n c.n).length<=1000000:=by rw[ruN,Q2i,length_map];exact ji
 have cT9:=Qo1 (ruN t.kind (QL m).n c.n) qM { r with a4:=r.a4+1 } h6 h7
 have cT8:=Qo1 (ruN t.kind (QL m).n c.n) qM r h6 h7;obtain⟨R1,qv⟩:=exq (Q42 t.kind (QL m).n c r);rw[<-qv];unfold Q42 at qv;unfold Q8c at cR ⊢;rw[Cur.el]at cK cN cD ⊢;generalize Q16 (QL m).n c=dp at cD qv;generalize Q1f (QL m).n c.n=kd at cK qv;generalize ruN t.kind (QL m).n c.n=ru at cR cT8 cT9 qv;generalize (QD ru 0 ru.length).attrs=al at cT8 cT9 qv;unfold QaX at cT8 cT9 qv;obtain⟨A6,hA6⟩:=exq (r.a6+al.length);obtain⟨A7,hA7⟩:=exq (r.a7+Q2e ru al);simp only at cT8 cT9 qv
 rw[<-hA6,<-hA7]at cT8 cT9 qv;unfold Rp.cs at cT8 cT9;simp only at cT8 cT9
 generalize (QL m).n=l at cK cN cR cD ⊢;generalize upO (Q3 l) c=U at cK cN cD ⊢;generalize c.n=n at cK cN cR cD ⊢;generalize c.f=cf at cK cN cD ⊢;generalize c.k=ck at cK cN cD ⊢;generalize t.kind=K at cR ⊢;generalize t.bom=M at cR ⊢;generalize Q0 t.r=R at cR ⊢;generalize Q9 t.off=O at cR ⊢;generalize Qk m.d=D at cR ⊢;generalize (m.n.length:Int)=rt at cR ⊢;clear hp ji hc qM hA6 hA7;unfold Rp.cs;refine fnN (QpJ kd dp n A6 A7 (Q0 ru)) func70 rfl fun _ _=>?_
 with_reducible refine cv2 (Q0 ru) (Q3 l) ?_
 refine⟨cK,fun h=>?_,fun h=>⟨fun h9=>?_,fun h9=>⟨fun h8=>?_,fun h8=>?_⟩⟩⟩
 ·have e:kd=21:=of_decide_eq_true h
  rw[if_pos e]at qv;rw[qv];refine⟨(show(-9223372036854775808:Int)<=r.a4+1/\r.a4+1<=(9223372036854775807:Int) from by omega),cD,[some 0],.tup [],_,rfl,rfl,le_refl _,rfl,?_,trivial⟩
  exact eq0
 ·have e:¬kd=21:=of_decide_eq_false h
  have e9:kd=9:=of_decide_eq_true h9;rw[if_neg e,if_pos e9]at qv;rw[qv];refine⟨(show(-9223372036854775808:Int)<=r.a4+1/\r.a4+1<=(9223372036854775807:Int) from by omega),cN,cR,cT9,[some 0],.tup [],_,rfl,rfl,le_refl _,rfl,?_,trivial⟩
  exact eq0
 ·have e:¬kd=21:=of_decide_eq_false h
  have e9:¬kd=9:=of_decide_eq_false h9;have e8:kd=8:=of_decide_eq_true h8;rw[if_neg e,if_neg e9,if_pos e8]at qv;rw[qv];refine⟨cN,cR,cT8,[some 0],.tup [],_,rfl,rfl,le_refl _,rfl,?_,trivial⟩;exact eq0
 ·have e:¬kd=21:=of_decide_eq_false h
  have e9:¬kd=9:=of_decide_eq_false h9;have e8:¬kd=8:=of_decide_eq_false h8;rw[if_neg e,if_neg e9,if_neg e8]at qv;rw[qv];refine⟨[some 0],.tup [],_,rfl,rfl,le_refl _,rfl,?_,trivial⟩;exact eq0
theorem QaL{l:List Node}(hw:Wf l){c:Cur}(h0:0<=c.n)(h1:c.n<l.length){K:Int}(h:Q2U c+c.n<=K):∀k,k<=(Qg l c).length->∀x∈downs l c k,0<=x.n/\x.n<l.length/\(Q2U x:Int)+x.n<=K
 |0,_,x,hx=>by cases hx
 |k+1,hk,x,hx=>by
  rcases mem_cons.1 hx with rfl|hx
  ·have hm:(Qg l c)[(k:Int).toNat]?.getD 0=(Qg l c)[k]:=by rw[Int.toNat_natCast,getElem?_eq_getElem (by omega)];rfl
   obtain⟨q0,q1⟩:=hw c.n h0 h1 _ (getElem_mem (by omega:k<(Qg l c).length))
   have e:(Q34 l c k).n=(Qg l c)[k]:=hm;have e2:Q2U (Q34 l c k)=Q2U c+1:=rfl;have q0:0<=(Qg l c)[k]:=q0;have q1:(Qg l c)[k]<c.n:=q1;rw[e,e2];omega
  ·exact QaL hw h0 h1 h k (by omega) x hx
theorem QiP{l:List Node}(hw:Wf l){c:Cur}(h0:0<=c.n)(h1:c.n<l.length)(n:Nat):∀x∈Q6o l c n,(Q2U x:Int)<=Q2U c+c.n:=fun x hx=>by
 have h:=Q6a (l:=l) (Q:=fun x=>0<=x.n/\x.n<l.length/\(Q2U x:Int)+x.n<=Q2U c+c.n) (fun y hy z hz=>QaL hw hy.1 hy.2.1 hy.2.2 _ (le_refl _) z hz) n [c] (fun y hy=>by
  obtain rfl:y=c:=by simpa using hy
  exact⟨h0,h1,Int.le_refl _⟩) x hx
 obtain⟨a,_,b⟩:=h;omega
def wrR(r:Rp)(d:Dg):Rp :=
 if d.c=1 then { r with w1:=r.w1+1 } else if d.c=2 then { r with w2:=r.w2+1 } else if d.c=3 then { r with w3:=r.w3+1 }
 else if d.c=4 then { r with w4:=r.w4+1 } else if d.c=5 then { r with w5:=r.w5+1 } else r
def QbY(K:Int)(l:List Node)(ws:List Cur)(r:Rp):Rp:=ws.foldl (fun r c=>Q42 K l c r) r
def Q7Y(ds:List Dg)(r:Rp):Rp:=ds.foldl wrR r
def Q7H(b:List UInt8):Rp:=Q7Y (Qu b).d (QbY (Qb b).kind (QL (Qu b)).n (Q6o (QL (Qu b)).n (.root (Qu b).n.length) 1073741824) (Qcv b.length (Qb b).r fun k=>Q1L (Q1r (Qb b).r) k))
structure Rp.lo (r:Rp) (i:Int):Prop where
 e4:0<=r.a4/\r.a4<=i
 e5:0<=r.a5/\r.a5<=1000000
 e6:0<=r.a6/\r.a6<=402 * i
 e7:0<=r.a7/\r.a7<=402 * i
theorem Qm9(l:List Int)(al:List TAttr)(hal:al.length<=402){r:Rp}{i:Int}(h:r.lo i):(QaX l al r).lo (i+1):=by
 have hb:=Q5E l al;obtain⟨h4,h5,h6,h7⟩:=h;unfold QaX;exact⟨by show 0<=r.a4/\r.a4<=i+1;omega,h5,by show 0<=r.a6+(al.length:Int)/\r.a6+(al.length:Int)<=402 * (i+1);omega,by show 0<=r.a7+(Q2e l al:Int)/\r.a7+(Q2e l al:Int)<=402 * (i+1);omega⟩
theorem QlJ(K:Int)(l:List Node)(c:Cur)(hc:Q2U c<=1000000)(hr:(ruN K l c.n).length<=400){r:Rp}{i:Int}(h:r.lo i):(Q42 K l c r).lo (i+1):=by
 have hd:=Q3Y l c
 have hal:(QD (ruN K l c.n) 0 (ruN K l c.n).length).attrs.length<=402:=by
  have h1:=Q3S (ruN K l c.n) 0 (ruN K l c.n).length;have h2:=Q45 (ruN K l c.n) 0 (ruN K l c.n).length;omega
 obtain⟨h4,h5,h6,h7⟩:=h;unfold Q42;split
 ·refine⟨by show 0<=r.a4+1/\r.a4+1<=i+1;omega,?_,by show 0<=r.a6/\r.a6<=402 * (i+1);omega,by show 0<=r.a7/\r.a7<=402 * (i+1);omega⟩
  show 0<=(if r.a5<Q16 l c then Q16 l c else r.a5)/\(if r.a5<Q16 l c then Q16 l c else r.a5)<=1000000;split<;>omega
 ·split
  ·have hb:=Q5E (ruN K l c.n) (QD (ruN K l c.n) 0 (ruN K l c.n).length).attrs
   generalize (QD (ruN K l c.n) 0 (ruN K l c.n).length).attrs=al at hal hb;unfold QaX;exact⟨by show 0<=r.a4+1/\r.a4+1<=i+1;omega,h5,by show 0<=r.a6+(al.length:Int)/\r.a6+(al.length:Int)<=402 * (i+1);omega,by show 0<=r.a7+(Q2e _ al:Int)/\r.a7+(Q2e _ al:Int)<=402 * (i+1);omega⟩
  ·split
   ·exact Qm9 _ _ hal ⟨h4,h5,h6,h7⟩
   ·exact⟨by omega,h5,by omega,by omega⟩
structure Rp.wo (r:Rp) (i:Int):Prop where
 e1:0<=r.w1/\r.w1<=i
 e2:0<=r.w2/\r.w2<=i
 e3:0<=r.w3/\r.w3<=i
 e4:0<=r.w4/\r.w4<=i
 e5:0<=r.w5/\r.w5<=i
theorem QoU{r:Rp}{i:Int}(h:r.wo i)(d:Dg):(wrR r d).wo (i+1):=by
 obtain⟨h1,h2,h3,h4,h5⟩:=h;unfold wrR;split
 ·exact⟨by show 0<=r.w1+1/\r.w1+1<=i+1;omega,by show 0<=r.w2/\r.w2<=i+1;omega,by show 0<=r.w3/\r.w3<=i+1;omega,by show 0<=r.w4/\r.w4<=i+1;omega,by show 0<=r.w5/\r.w5<=i+1;omega⟩
 split
 ·exact⟨by show 0<=r.w1/\r.w1<=i+1;omega,by show 0<=r.w2+1/\r.w2+1<=i+1;omega,by show 0<=r.w3/\r.w3<=i+1;omega,by show 0<=r.w4/\r.w4<=i+1;omega,by show 0<=r.w5/\r.w5<=i+1;omega⟩
 split
 ·exact⟨by show 0<=r.w1/\r.w1<=i+1;omega,by show 0<=r.w2/\r.w2<=i+1;omega,by show 0<=r.w3+1/\r.w3+1<=i+1;omega,by show 0<=r.w4/\r.w4<=i+1;omega,by show 0<=r.w5/\r.w5<=i+1;omega⟩
 split
 ·exact⟨by show 0<=r.w1/\r.w1<=i+1;omega,by show 0<=r.w2/\r.w2<=i+1;omega,by show 0<=r.w3/\r.w3<=i+1;omega,by show 0<=r.w4+1/\r.w4+1<=i+1;omega,by show 0<=r.w5/\r.w5<=i+1;omega⟩
 split
 ·exact⟨by show 0<=r.w1/\r.w1<=i+1;omega,by show 0<=r.w2/\r.w2<=i+1;omega,by show 0<=r.w3/\r.w3<=i+1;omega,by show 0<=r.w4/\r.w4<=i+1;omega,by show 0<=r.w5+1/\r.w5+1<=i+1;omega⟩
 ·exact⟨by omega,by omega,by omega,by omega,by omega⟩
theorem Qin{α β:Type}(f:α->β->α)(a:α)(l:List β){k:Nat}(h:k<l.length):(l.take (k+1)).foldl f a=f ((l.take k).foldl f a) l[k]:=by
 rw[List.take_succ_eq_append_getElem h,List.foldl_append];rfl
def rp0:Rp:=⟨0,0,0,0,0,0,0,0,0,0,0,0,0,0,0,0,0,0,0,0,0,0,0,0,0,0⟩
theorem QjI(K:Int)(l:List Node)(c:Cur){r:Rp}{i:Int}(h:r.wo i):(Q42 K l c r).wo i:=by
 obtain⟨h1,h2,h3,h4,h5⟩:=h;unfold Q42 QaX;repeat' split
 all_goals exact⟨h1,h2,h3,h4,h5⟩
theorem QdG(b:List UInt8)(hb:b.length<=100000):(Qu b).d.length<=400000:=by
 have hs:=Q6r b hb;have hr:=(Q3N b).2.2.1;obtain⟨h1,h2⟩:=Qda hs.ok hs.hr (Q6Y b);have h1:MkI (Qu b) b (3+3 * (Qb b).r.length) (2+3 * (Qb b).r.length):=h1;have hd:=h1.i.d;omega
def Qbs(K M rt:Int)(R O N D WA:List AV)(T0 N1:Rp):Nat->List AV->List Ob->Option (AV×List Ob):=fun f args _=>match f,args with
 |13,[.slc 1 _]=>some (.agg [.val (.int .i64 K),.val (.int .i64 M),.slc 1 R,.slc 1 O,.ref [.slc 6 N],.val (.int .i64 rt),.slc 3 D],[])
 |69,[.box 0 0,.agg _]=>some (.tup [],[.box T0.cs])
 |70,[.box 0 0,.agg _,.agg _]=>some (.tup [],[.box N1.cs])
 |29,[.agg _]=>some (.agg [.opt (.ref [.slc 6 N]),.val (.int .i64 rt),.val (.int .i64 0),.val (.int .i64 0),.opt (.val (.pointer none))],[])
 |30,[.agg _,.val (.int .i64 _)]=>some (.slc 5 WA,[])
 |_,_=>none
theorem QgB(b:List UInt8)(hl:b.length<=400):BCall prog 31 [.slc 1 (Q2 b)] [] (.agg (Q7H b).cs) []:=by
 have hO:=Q8f b (by omega)
 have hN:=Qeb b;have hS:=(Qdr b).d;have cP:=Qn7 b (by omega)
 have hrl:=(Q3N b).2.2.1;have hdn:=QdG b (by omega)
 have hkd:(Qb b).kind=0\/(Qb b).kind=1\/(Qb b).kind=2:=Q54 b;have cX:=QoS b.length (Qb b) (by omega)
 have cC:=(Qir (Qb b) (Qu b)).res (res':=.agg ((Cur.root (Qu b).n.length).el (Q3 (QL (Qu b)).n))) ⟨.inr (.inr (.inl ⟨rfl,trivial⟩)),.inl rfl,.inl rfl,.inl rfl,.inl rfl,trivial⟩;have cW:=Qob (QL (Qu b)).n b.length 400000 hO.ar (by omega) (by omega) (.root (Qu b).n.length) hO.root 1073741824 (by omega)
 have hAt:CurB (QL (Qu b)).n b 400000 (.root (Qu b).n.length):=⟨hO.root,[],[],by show b=[]++(pr (QL (Qu b)).n (Qu b).n.length++[]);rw[hO.p];simp,rfl⟩
 have hAll:=Ql4 hO.ar hN hAt 1073741824;have hHi:=QiP hO.ar.wf (c:=.root (Qu b).n.length) (by show(0:Int)<=((Qu b).n.length:Int);omega) hO.root.h1 1073741824
 have hln:=hO.n;have har:=hO.ar;obtain⟨RR,hRR⟩:=exq (Q7H b);rw[<-hRR];unfold Q7H at hRR
 have cNd:∀c:Cur,c∈Q6o (QL (Qu b)).n (.root (Qu b).n.length) 1073741824->∀(i:Int)(r:Rp),0<=i->i<=1073741824->r.lo i->BCall prog 70 [.box 0 0,Q8c (Qb b) (Qu b),.agg (c.el (Q3 (QL (Qu b)).n))] [.box r.cs] (.tup []) [.box (Q42 (Qb b).kind (QL (Qu b)).n c r).cs]/\(Q42 (Qb b).kind (QL (Qu b)).n c r).lo (i+1):=fun c hc i r hi0 hi hr=>by
  have hx:=hAll c hc;have hp:=CurB.pr har (by omega) (by omega) (by omega) hx
  have hh:=hHi c hc
  have hroot:(Q2U (.root (Qu b).n.length):Int)+(Cur.root (Qu b).n.length).n<=400001:=by
   show((1:Nat):Int)+((Qu b).n.length:Int)<=400001
   have:=QcT (Qu b)
   omega
  have hpl:(pr (QL (Qu b)).n c.n).length<=400:=by
   have h1:=hx.1.w;have h2:=har.wide c.n hx.1.h0 hx.1.h1;have h3:=hx.1.f0;omega
  have hpc:=QkM hkd (pr (QL (Qu b)).n c.n);have hru:(ruN (Qb b).kind (QL (Qu b)).n c.n).length<=400:=by rw[ruN,Q2i,length_map];omega
  obtain⟨h4,h5,h6,h7⟩:=hr;exact⟨Qop (Qb b) (Qu b) c r hp (by omega) (by omega) (by omega) (by omega) (by omega) (by omega),QlJ _ _ _ (by omega) hru ⟨h4,h5,h6,h7⟩⟩
 generalize Qu b=m at cP cC cX cW cNd hln har hS hRR hdn;generalize Qb b=t at cP cC cX cNd hRR;obtain⟨rt,hrt⟩:=exq (m.n.length:Int);unfold Q8c at cP cC cNd;simp only[Cur.el]at cC cW;rw[<-hrt]at cP cC cW cNd hRR;have hwn:(Q6o (QL m).n (.root rt) 1073741824).length<=1073741824:=Qbj _ _ _;obtain⟨nb,hnb⟩:=QE b;rw[<-hnb.eq]at cX hRR;obtain⟨T0,hT0⟩:=exq (Qcv nb t.r fun k=>Q1L (Q1r t.r) k)
 rw[<-hT0]at cX hRR;have hlo0:T0.lo 0:=by rw[hT0];exact⟨⟨Int.le_refl _,Int.le_refl _⟩,⟨Int.le_refl _,(show(0:Int)<=1000000 from by decide)⟩,⟨Int.le_refl _,(show(0:Int)<=402 * 0 from by decide)⟩,⟨Int.le_refl _,(show(0:Int)<=402 * 0 from by decide)⟩⟩
 have hwo0:T0.wo 0:=by rw[hT0];exact⟨⟨Int.le_refl _,Int.le_refl _⟩,⟨Int.le_refl _,Int.le_refl _⟩,⟨Int.le_refl _,Int.le_refl _⟩,⟨Int.le_refl _,Int.le_refl _⟩,⟨Int.le_refl _,Int.le_refl _⟩⟩
 clear hT0;generalize Q6o (QL m).n (.root rt) 1073741824=ws at cW hwn cNd hRR;unfold Txt.cs at cX;generalize (QL m).n=l at cP cC cW cNd hRR;generalize m.d=ds at cP cC cNd hS hRR hdn;generalize t.kind=K at cP cC cNd cX hRR;generalize t.bom=M at cP cC cNd cX;generalize hR:Q0 t.r=R at cP cC cX cNd;generalize Q9 t.off=O at cP cC cX cNd;generalize hRW:QbY K l ws T0=RW at hRR;clear hO hN hAt hrt hR hAll hHi hln har hrl hkd;have hblen:std.len (Q2 b)=nb:=by show((Q2 b).length:Int)=nb;rw[Q11,hnb.eq]
 obtain⟨nw,hnw⟩:=QE ws;have hwl:std.len (QW (Q3 l) ws)=nw:=by show((QW (Q3 l) ws).length:Int)=nw;rw[Q3q,hnw.eq]
 obtain⟨nd,hnd⟩:=QE ds;have hdl:std.len (Qk ds)=nd:=by show((Qk ds).length:Int)=nd;rw[Qk,length_map,hnd.eq]
 have hz:(0:Int)<=0:=Int.le_refl _;refine fnN (Qbs K M rt R O (Q3 l) (Qk ds) (QW (Q3 l) ws) T0 T0) func31 rfl fun _ _=>?_
 with_reducible refine cv4 (QW (Q3 l) ws) (Q3 l) (Qk ds) (Q2 b) ?_
 have cX2:BCall prog 69 [.box 0 0,.agg [.val (.int .i64 K),.val (.int .i64 M),.slc 1 R,.slc 1 O]] [.box (Rp.cs ⟨std.len (Q2 b),0,0,0,0,0,0,0,0,0,0,0,0,0,0,0,0,0,0,0,0,0,0,0,0,0⟩)] (.tup []) [.box T0.cs]:=by rw[hblen];exact cX
 refine⟨cP,cX2,cC,cW,?_⟩;refine Q46 (cs:=(fun x:Int×Rp=>Qbs K M rt R O (Q3 l) (Qk ds) (QW (Q3 l) ws) T0 (Q42 K l (ws[x.1.toNat]?.getD (.root 0)) x.2))) (ord:=fun _=>.nil) Q6k (by kernel_rfl) (by kernel_rfl) (by kernel_rfl) (X:=Int×Rp) (fun x=>⟨[(2,.box 0 0),(3,.box 1 0),(4,.box 2 0),(19,.slc 5 (QW (Q3 l) ws)),(20,.val (.int .i64 nw)),(21,.val (.int .i64 x.1))],[.box rp0.cs,.box [.val (.int .i64 K),.val (.int .i64 M),.slc 1 R,.slc 1 O,.ref [.slc 6 (Q3 l)],.val (.int .i64 rt),.slc 3 (Qk ds)],.box x.2.cs]⟩) (fun x=>0<=x.1/\x.1<=nw/\x.2.lo x.1/\x.2.wo 0/\QbY K l (ws.drop x.1.toNat) x.2=RW) (fun x=>(nw-x.1).toNat) (0,T0) ?_ ?_ ?_
 ·exact⟨Int.le_refl _,by have:=hnw.eq;show(0:Int)<=nw;omega,hlo0,hwo0,hRW⟩
 ·refine⟨[some 0,some 1,some 2],_,rfl,?_⟩
  exact eq1 hwl
 ·rintro⟨i,r⟩ ⟨hi0,hi1,hlo,hwo,hJ⟩
  simp only at hi0 hi1 hlo hwo hJ
  rcases Int.lt_or_eq_of_le hi1 with hlt|heq
  ·have hil:i.toNat<ws.length:=by have:=hnw.eq;omega
   have hx:ws[i.toNat]?.getD (.root 0)=ws[i.toNat]:=by rw[getElem?_eq_getElem hil];rfl
   have hat:(QW (Q3 l) ws).getD i.toNat .dead=.agg ((ws[i.toNat]?.getD (.root 0)).el (Q3 l)):=by
    rw[List.getD_eq_getElem?_getD,QW,getElem?_map,getElem?_eq_getElem hil];rfl
   have hnw2:nw<=1073741824:=by have:=hnw.eq;omega
   obtain⟨cNo,hlo1⟩:=cNd (ws[i.toNat]?.getD (.root 0)) (by rw[hx];exact getElem_mem hil) i r hi0 (by omega) hlo
   have hwo1:(Q42 K l (ws[i.toNat]?.getD (.root 0)) r).wo 0:=QjI K l _ hwo;rw[List.drop_eq_getElem_cons hil,<-hx]at hJ;have hJ1:QbY K l (ws.drop (i.toNat+1)) (Q42 K l (ws[i.toNat]?.getD (.root 0)) r)=RW:=hJ;clear hJ;simp only
   generalize Q42 K l (ws[i.toNat]?.getD (.root 0)) r=r1 at cNo hlo1 hwo1 hJ1;generalize ws[i.toNat]?.getD (.root 0)=x at cNo hat;have hUx:Q56 (.opt (upO (Q3 l) x)):=QcJ _ _;clear hx hil;with_reducible refine cv4 (QW (Q3 l) ws) (Q3 l) (Qk ds) (Q2 b) ?_
   have hwl2:((QW (Q3 l) ws).length:Int)=nw:=hwl;simp only[Cur.el]at cNo;unfold Rp.cs at cNo;simp only[std,hat,Cur.el,AV.cells,List.getD_cons_zero,List.getD_cons_succ,intOf,Qma,Q3t,hwl2,decide_eq_true_eq,decide_eq_false_iff_not,beq_self_eq_true,Bool.not_true,Bool.false_eq_true,Bool.true_eq_false,false_implies,true_implies,and_true];refine⟨fun _=>⟨⟨hi0,hlt⟩,⟨by trivial,trivial,trivial,trivial,hUx⟩,cNo,(show(-9223372036854775808:Int)<=i+1/\i+1<=(9223372036854775807:Int) from by omega),(i+1,r1),⟨?_,?_,hlo1,hwo1,?_⟩,?_,[some 0,some 1,some 2],_,rfl,?_⟩,fun h=>absurd hlt h⟩
   ·show 0<=i+1;omega
   ·show i+1<=nw;omega
   ·show QbY K l (ws.drop (i+1).toNat) r1=RW
    rw[show(i+1).toNat=i.toNat+1 by omega];exact hJ1
   ·show(nw-(i+1)).toNat<(nw-i).toNat;omega
   ·exact eq1 hwl
  ·have hJ2:r=RW:=by
    rw[List.drop_eq_nil_of_le (by have:=hnw.eq;omega)]at hJ
    exact hJ
   rw[heq];subst hJ2;clear hJ hlo hi0 hi1 heq cNd hlo0 hwo0;simp only
   generalize Q42 K l _ r=r1;with_reducible refine cv4 (QW (Q3 l) ws) (Q3 l) (Qk ds) (Q2 b) ?_
   refine⟨fun h=>absurd (of_decide_eq_true h) (by omega),fun _=>?_⟩
   rw[if_pos trivial];with_reducible refine cv4 (QW (Q3 l) ws) (Q3 l) (Qk ds) (Q2 b) ?_
   refine Q1h (Qbs K M rt R O (Q3 l) (Qk ds) (QW (Q3 l) ws) T0 T0) (Int×Rp) (fun x=>⟨[(2,.box 0 0),(4,.box 1 0),(30,.slc 3 (Qk ds)),(31,.val (.int .i64 nd)),(32,.val (.int .i64 x.1))],[.box rp0.cs,.box x.2.cs]⟩) (fun x=>0<=x.1/\x.1<=nd/\x.2.wo x.1/\Q7Y (ds.drop x.1.toNat) x.2=RR) (fun x=>(nd-x.1).toNat) (0,r) ?_ ?_ ?_
   ·exact⟨Int.le_refl _,by have:=hnd.eq;show(0:Int)<=nd;omega,hwo,hRR.symm⟩
   ·refine⟨[some 0,some 2],_,rfl,?_⟩
    exact eq1 hdl
   ·clear hwo hRR hwl hnw hblen hnb cP cX cX2 cC cW hRW
    clear r;rintro⟨i,r⟩ ⟨hi0,hi1,hwo,hJ⟩;simp only at hi0 hi1 hwo hJ
    rcases Int.lt_or_eq_of_le hi1 with hlt|heq
    ·have hil:i.toNat<ds.length:=by have:=hnd.eq;omega
     obtain⟨x,hx⟩:=exq (ds[i.toNat]);have hxm:x∈ds:=by rw[hx];exact getElem_mem hil
     have hat:std.at_ (Qk ds) i=x.av:=by
      show(Qk ds).getD i.toNat .dead=_
      rw[List.getD_eq_getElem?_getD,Qk,getElem?_map,getElem?_eq_getElem hil,hx];rfl
     obtain⟨_,_,_,hk0,hk1⟩:=hS x hxm;have hwo1:=QoU hwo x;rw[List.drop_eq_getElem_cons hil,<-hx]at hJ;have hJ1:Q7Y (ds.drop (i.toNat+1)) (wrR r x)=RR:=hJ;rw[show i.toNat+1=(i+1).toNat by omega]at hJ1
     obtain⟨kd,hkd⟩:=exq x.c;have hX:std.int (std.nth (std.cel (std.at_ (Qk ds) i)) 2)=kd:=by rw[hat,hkd];rfl
     have hX0:(std.all [std.hasI .i64 (std.nth (std.cel (std.at_ (Qk ds) i)) 0),std.hasI .i64 (std.nth (std.cel (std.at_ (Qk ds) i)) 1),std.hasI .i64 (std.nth (std.cel (std.at_ (Qk ds) i)) 2)]).q:=by rw[hat];exact⟨rfl,rfl,rfl,trivial⟩
     have hlt2:std.ltI i nd=true:=decide_eq_true hlt;have hin:i<std.len (Qk ds):=by rw[hdl];exact hlt
     obtain⟨r1,hr1⟩:=exq (wrR r x);rw[<-hr1]at hwo1 hJ1;unfold wrR at hr1;rw[<-hkd]at hr1 hk0 hk1;have hnd9:nd<=400000:=by rw[hnd.eq];omega
     obtain⟨b1,b2,b3,b4,b5⟩:=hwo
     have hfr:∀w:Int,0<=w/\w<=i->(std.inR .i64 (std.add w 1)).q:=fun w hw=>by
      show -9223372036854775808<=w+1/\w+1<=9223372036854775807;omega
     clear hx hxm hat hkd hJ hil hS;obtain rfl|rfl|rfl|rfl|rfl:kd=1\/kd=2\/kd=3\/kd=4\/kd=5:=by omega
     all_goals
      simp only[Int.reduceEq,if_true,if_false]at hr1;generalize hC:Code.region 12 _ _=C12;generalize hp:std=p;generalize hWA:QW (Q3 l) ws=WA;generalize hNA:Q3 l=NA;generalize hDD:Qk ds=DD;rw[hp,hDD]at hX;generalize hT:Q4 p tys (Qbs K M rt R O NA DD WA T0 T0) _ _ _ _=T;cbv at hT;obtain⟨dd,hdd⟩:∃dd:Nat,1+1=dd:=⟨_,rfl⟩;cbv at hdd;rw[hX]at hT;subst hC;cbv at hT;subst hT;simp only[Tree.ok,Q1,S0];subst hp hDD;subst hr1;refine⟨fun _=>⟨⟨hi0,hin⟩,hX0,(by first|exact hfr _ b1|exact hfr _ b2|exact hfr _ b3|exact hfr _ b4|exact hfr _ b5),(show(-9223372036854775808:Int)<=i+1/\i+1<=(9223372036854775807:Int) from by omega),(i+1,_),⟨?_,?_,hwo1,hJ1⟩,?_,[some 0,some 1],_,rfl,?_⟩,fun h=>absurd (hlt2.symm.trans h) (by decide)⟩
      ·show 0<=i+1;omega
      ·show i+1<=nd;omega
      ·show(nd-(i+1)).toNat<(nd-i).toNat;omega
      ·exact eq1 hdl
    ·have hJ2:r=RR:=by
      rw[List.drop_eq_nil_of_le (by have:=hnd.eq;omega)]at hJ
      exact hJ
     subst hJ2;have hl3:std.ltI i nd=false:=decide_eq_false (by omega)
     clear hJ hwo hS;unfold Rp.cs;generalize Code.region 12 _ _=C12;with_reducible refine cv3 (QW (Q3 l) ws) (Q3 l) (Qk ds) ?_
     refine⟨fun h=>absurd (hl3.symm.trans h) (by decide),fun _=>?_⟩
     rw[if_pos trivial];with_reducible refine cv3 (QW (Q3 l) ws) (Q3 l) (Qk ds) ?_
     exact .pure rfl ⟨.inl rfl,.inl rfl,.inl rfl,.inl rfl,.inl rfl,.inl rfl,.inl rfl,.inl rfl,.inl rfl,.inl rfl,.inl rfl,.inl rfl,.inl rfl,.inl rfl,.inl rfl,.inl rfl,.inl rfl,.inl rfl,.inl rfl,.inl rfl,.inl rfl,.inl rfl,.inl rfl,.inl rfl,.inl rfl,.inl rfl,trivial⟩
end
def Qak(x:Node):Prop:=x.kind=21\/x.kids=[]
def MkL(m:Mk):Prop:=∀x∈m.n,Qak x
theorem Q5a{l:List Node}(h:∀x∈l,Qak x){y:Node}(hy:Qak y):∀x∈l++[y],Qak x:=fun x hx=>by
 rcases List.mem_append.1 hx with hx|hx
 ·exact h x hx
 ·obtain rfl:x=y:=by simpa using hx
  exact hy
section
variable {m:Mk}
theorem MkL.lk(h:MkL m)(t:Txt)(b:List UInt8)(kind f u:Int):MkL (lkF t b kind f u m):=Q5a (y:=QI kind _) h (.inr rfl)
theorem MkL.shut(h:MkL m)(kind:Int)(bs:List UInt8)(a:Int):MkL (Q22 a (Q20 (QI kind bs) m)):=Q5a (y:=Q1i _ 21 _) (Q5a (y:=QI kind bs) h (.inr rfl)) (.inl rfl)
theorem MkL.miss(h:MkL m)(t:Txt)(a:Int):MkL (Q3l t a m):=MkL.shut (m:=QV t 4 a a m) h _ _ _
end
theorem MkL.missGo(t:Txt)(f:Int)(k:Nat):∀(j:Nat)(m:Mk),MkL m->MkL (missGo t f k j m)
 |0,_,h=>h
 |j+1,m,h=>by
  show MkL (if _ then _ else _);split
  ·exact MkL.missGo t f k j _ (h.miss t _)
  ·exact h
section
variable {m:Mk}
theorem MkL.token(h:MkL m)(t:Txt)(b:List UInt8)(kind f u:Int)(wh:Bool):MkL (Q26 t b kind f u wh m):=by
 unfold Q26;simp only
 generalize hm1:(if wh=false then QV t 1 f u m else if(kind=8\/kind=9\/kind=10)/\(QD t.r f u).right=false then QV t 2 f u m else m)=m1
 have h1:MkL m1:=by
  rw[<-hm1];split
  ·exact h
  ·split
   ·exact h
   ·exact h
 split
 ·unfold Q1G
  split
  ·exact MkL.lk (m:=QV t 5 f u m1) h1 t b kind f u
  ·exact MkL.lk (m:={ m1 with s:=m1.s++[⟨Qs t f u,[]⟩] }) h1 t b kind f u
 ·split
  ·unfold Q2Y
   simp only
   split
   ·exact MkL.lk (m:=QV t 3 f u m1) h1 t b kind f u
   ·exact MkL.shut (MkL.missGo t f _ _ _ h1) _ _ _
  ·exact h1.lk t b kind f u
end
theorem MkL.toks(t:Txt)(b:List UInt8):∀(ts:List Tok)(m:Mk),MkL m->MkL (ts.foldl (Q7k t b) m)
 | [],m,h=>h
 |x::ts,m,h=>by
  rw[foldl_cons];exact MkL.toks t b ts _ (h.token t b _ _ _ _)
theorem QnC(b:List UInt8):MkL (Qu b):=by
 refine MkL.missGo _ _ _ _ _ (MkL.toks _ _ _ _ ?_);unfold Q3s;have h0:MkL mk0:=fun x hx=>by cases hx
 split
 ·exact Q5a (y:=QI 23 _) h0 (.inr rfl)
 ·exact h0
theorem QkV(b:List UInt8):∀n:Int,0<=n->n<(Qu b).n.length->Qak (Qn (QL (Qu b)).n n):=fun n h0 h1=>by
 have hlt:n.toNat<(Qu b).n.length:=by omega
 have e:Qn (QL (Qu b)).n n=(Qu b).n[n.toNat]:=by
  show Qn ((Qu b).n++[_]) n=_;rw[Qn,if_pos ⟨h0,by simp only[List.length_append,List.length_singleton];omega⟩,List.getElem?_append_left hlt,getElem?_eq_getElem hlt];rfl
 rw[e];exact QnC b _ (getElem_mem hlt)
def pz:Int->List Ev->List (Ev×Int)
 |_,[]=>[]
 |d,e::r=>if e.do_=1 then(e,d+1)::pz (d+1) r else if e.do_=3 then pz (d-1) r else(e,d)::pz d r
def evC(l:List Node):Cur->List (Ev×Int)
 |.root _=>[]
 |.kid n f k up=>if Q1f l n=21 then [(⟨1,0,[]⟩,Q16 l (.kid n f k up))]else [(⟨2,Q1f l n,pr l n⟩,Q16 l (.kid n f k up))]
def QpM(l:List Node):Cur->Int
 |.root _=>0
 |.kid _ _ _ up=>Q16 l up
def QmR:Cur->Bool
 |.root _=>true
 |.kid ..=>false
def Qej(l:List Node)(c:Cur):List (Ev×Int):=pz (QpM l c) (spV l c.n (QmR c))
theorem QfW(l:List Node)(hw:Wf l):∀(f:Nat)(n:Int),n.toNat<f->0<=n->n<l.length->∀(d:Int)(r:List Ev),pz d (spV l n false++r)=pz d (spV l n false)++pz d r
 |0,_,h,_,_,_,_=>by omega
 |f+1,n,h,h0,h1,d,r=>by
  rw[Q8I hw h0 h1];split
  ·rfl
  ·rw[if_neg (by decide),if_neg (by decide)]
   have key:∀(ks:List Int),(∀k∈ks,0<=k/\k<n)->∀(d:Int)(r:List Ev),pz d (ks.flatMap (fun k=>spV l k false)++r)=pz d (ks.flatMap (fun k=>spV l k false))++pz d r:=by
    intro ks;induction ks with
    |nil=>intro _ d r;rfl
    |cons k ks ih =>
     intro hk d r;obtain⟨k0,k1⟩:=hk k (mem_cons_self ..);have ih:=ih fun y hy=>hk y (mem_cons_of_mem _ hy)
     rw[flatMap_cons,append_assoc,QfW l hw f k (by omega) k0 (by omega) d,QfW l hw f k (by omega) k0 (by omega) d,ih d r,append_assoc]
   have hk:=hw n h0 h1;show pz d ((⟨1,0,[]⟩:Ev)::((Qn l n).kids.flatMap (fun k=>spV l k false)++[⟨3,0,[]⟩])++r)=pz d ((⟨1,0,[]⟩:Ev)::((Qn l n).kids.flatMap (fun k=>spV l k false)++[⟨3,0,[]⟩]))++pz d r
   have c1:∀q:List Ev,pz d ((⟨1,0,[]⟩:Ev)::q)=(⟨1,0,[]⟩,d+1)::pz (d+1) q:=fun q=>rfl
   rw[List.cons_append,c1,c1,append_assoc,key _ hk,key _ hk]
   have e3:pz (d+1) ([⟨3,0,[]⟩]++r)=pz d r:=by
    show pz (d+1-1) r=pz d r;rw[Int.add_sub_cancel]
   have e4:pz (d+1) [⟨3,0,[]⟩]=[]:=rfl;rw[e3,e4,append_nil,List.cons_append]
theorem Qhp(l:List Node)(hw:Wf l)(ks:List Int)(hk:InR l ks)(d:Int)(r:List Ev):pz d (ks.flatMap (fun k=>spV l k false)++r)=ks.flatMap (fun k=>pz d (spV l k false))++pz d r:=by
 induction ks with
 |nil=>rfl
 |cons k ks ih =>
  obtain⟨k0,k1⟩:=hk k (mem_cons_self ..);rw[flatMap_cons,flatMap_cons,append_assoc,QfW l hw (k.toNat+1) k (by omega) k0 k1,ih fun y hy=>hk y (mem_cons_of_mem _ hy),append_assoc]
theorem QeR(l:List Node)(c:Cur):∀k,k<=(Qg l c).length->(downs l c k).reverse.flatMap (Qej l)=((Qg l c).take k).flatMap (fun n=>pz (Q16 l c) (spV l n false))
 |0,_=>rfl
 |k+1,h=>by
  have h1:k<(Qg l c).length:=h;have e:(Qg l c)[(k:Int).toNat]?.getD 0=(Qg l c)[k]:=by rw[Int.toNat_natCast,getElem?_eq_getElem h1];rfl
  have ih:=QeR l c k (by omega)
  show(Q34 l c k::downs l c k).reverse.flatMap (Qej l)=_
  rw[List.reverse_cons,flatMap_append,ih,List.take_add_one,getElem?_eq_getElem h1,flatMap_append];congr 1
  have e2:(Q34 l c k).n=(Qg l c)[k]:=e;show Qej l (Q34 l c k)++[]=pz (Q16 l c) (spV l (Qg l c)[k] false)++[];rw[append_nil,append_nil];show pz (Q16 l c) (spV l (Q34 l c k).n false)=_;rw[e2]
def Qea(R:Int):Cur->Prop
 |.root n=>n=R
 |.kid n _ _ _=>n<R
theorem Qnn{l:List Node}{W C:Nat}{R:Int}(ha:Ar l)(hR:Q1f l R=20)(hL:∀n:Int,0<=n->n<R->Qak (Qn l n)){c:Cur}(hc:CurIn l W C c)(hr:Qea R c) :
  Qej l c=evC l c++(downs l c (Qg l c).length).reverse.flatMap (Qej l):=by
 rw[QeR l c _ (le_refl _),take_length];have hk:InR l (Qg l c):=hc.kids ha;have hsp:=Q8I ha.wf hc.h0 hc.h1 (QmR c);unfold Qej;rw[hsp];cases c with
 |root n =>
  obtain rfl:n=R:=hr
  rw[if_neg (fun h=>by cases h.2),show QmR (.root n)=true from rfl,if_pos rfl,if_pos rfl,List.nil_append,show Q16 l (.root n)=0 from by
   show(if Q1f l n=21 then(1:Int)else 0)=0
   rw[hR];rfl]
  have:=Qhp l ha.wf (Qg l (.root n)) hk 0 []
  rw[show pz 0 []=[] from rfl,append_nil,append_nil]at this;rw[append_nil];exact this
 |kid n f k up =>
  have hn:n<R:=hr;rw[show QmR (.kid n f k up)=false from rfl];by_cases h21:Q1f l n=21
  ·rw[if_neg (fun h=>h.1 h21),if_neg (by decide),if_neg (by decide)]
   have hd:Q16 l (.kid n f k up)=1+Q16 l up:=by
    show(if Q1f l n=21 then(1:Int)else 0)+Q16 l up=_
    rw[if_pos h21]
   have he:evC l (.kid n f k up)=[(⟨1,0,[]⟩,Q16 l (.kid n f k up))]:=by show(if Q1f l n=21 then _ else _)=_;rw[if_pos h21]
   rw[he,hd];have:=Qhp l ha.wf (Qg l (.kid n f k up)) hk (Q16 l up+1) [⟨3,0,[]⟩]
   show(⟨1,0,[]⟩,Q16 l up+1)::pz (Q16 l up+1) ((Qg l (.kid n f k up)).flatMap (fun k=>spV l k false)++[⟨3,0,[]⟩])=_
   rw[this,Int.add_comm 1];show _::(_++[])=_;rw[append_nil];rfl
  ·rw[if_pos ⟨h21,rfl⟩]
   have hd:Q16 l (.kid n f k up)=Q16 l up:=by
    show(if Q1f l n=21 then(1:Int)else 0)+Q16 l up=_
    rw[if_neg h21,Int.zero_add]
   have he:evC l (.kid n f k up)=[(⟨2,Q1f l n,pr l n⟩,Q16 l (.kid n f k up))]:=by show(if Q1f l n=21 then _ else _)=_;rw[if_neg h21]
   have hkn:Qg l (.kid n f k up)=[]:=(hL n hc.h0 hn).resolve_left h21;rw[he,hd,hkn];rfl
theorem Qdm{l:List Node}{W C:Nat}{R:Int}(ha:Ar l){c:Cur}(hc:CurIn l W C c)(hr:Qea R c):∀k,k<=(Qg l c).length->∀x∈downs l c k,Qea R x
 |0,_,x,hx=>by cases hx
 |k+1,hk,x,hx=>by
  rcases mem_cons.1 hx with rfl|hx
  ·have hm:(Qg l c)[(k:Int).toNat]?.getD 0=(Qg l c)[k]:=by rw[Int.toNat_natCast,getElem?_eq_getElem (by omega)];rfl
   obtain⟨_,q1⟩:=ha.wf c.n hc.h0 hc.h1 _ (getElem_mem (by omega:k<(Qg l c).length))
   have q1:(Qg l c)[k]<c.n:=q1
   have hcr:c.n<=R:=by
    cases c with
    |root n=>exact Int.le_of_eq hr
    |kid n f k up=>exact Int.le_of_lt hr
   show(Qg l c)[(k:Int).toNat]?.getD 0<R
   rw[hm];omega
  ·exact Qdm ha hc hr k (by omega) x hx
theorem Qcm{l:List Node}{W C:Nat}{R:Int}(ha:Ar l)(hR:Q1f l R=20)(hL:∀n:Int,0<=n->n<R->Qak (Qn l n)):∀(n:Nat)(st:List Cur),(∀x∈st,CurIn l W C x/\Qea R x)->coC l st<=n->(Q3I l n st).flatMap (evC l)=st.reverse.flatMap (Qej l)
 |0,st,_,h=>by
  have:=Qds l st
  obtain rfl:st=[]:=List.eq_nil_of_length_eq_zero (by omega)
  rfl
 |n+1,st,hin,h=>by
  by_cases hne:st=[]
  ·subst hne
   rw[Q9V];rfl
  ·obtain⟨st0,x,rfl⟩:∃st0 x,st=st0++[x]:=⟨st.dropLast,st.getLast hne,(List.dropLast_concat_getLast hne).symm⟩
   obtain⟨hx,hxr⟩:=hin x (by simp)
   have h5:coC l [x]=1+coL l (Qg l x):=by
    show co l x.n+0=_;rw[add_zero,Qbd ha.wf hx.h0 hx.h1];rfl
   have hd:=Q8w l x _ (le_refl _);rw[take_length]at hd;rw[Q5m,h5]at h
   have ih:=Qcm ha hR hL n (st0++downs l x (Qg l x).length) (fun y hy=>by
    rcases List.mem_append.1 hy with hy|hy
    ·exact hin y (List.mem_append_left _ hy)
    ·exact⟨Q8n ha hx _ (le_refl _) y hy,Qdm ha hx hxr _ (le_refl _) y hy⟩) (by rw[Q5m,hd];omega)
   rw[Qab,flatMap_cons,ih,List.reverse_append,List.reverse_append,flatMap_append,List.reverse_singleton,flatMap_append,<-append_assoc,<-Qnn ha hR hL hx hxr];simp
theorem QmZ(b:List UInt8)(hb:b.length<=100000):(Q6o (QL (Qu b)).n (.root (Qu b).n.length) 1073741824).flatMap (evC (QL (Qu b)).n)=pz 0 (spV (QL (Qu b)).n (Qu b).n.length true):=by
 have hO:=Q8f b hb;have hR:Q1f (QL (Qu b)).n (Qu b).n.length=20:=Qfc
 have h:=Qcm (W:=b.length) (C:=400000) hO.ar hR (QkV b) 1073741824 [.root (Qu b).n.length] (fun x hx=>by
  obtain rfl:x=.root (Qu b).n.length:=by simpa using hx
  exact⟨hO.root,rfl⟩) (by
  show co (QL (Qu b)).n (Qu b).n.length+0<=_;have:=hO.c
  omega)
 unfold Q6o;rw[h];show Qej _ _++[]=_;rw[append_nil];rfl
def Q1U(K:Int)(r:Rp)(p:Ev×Int):Rp :=
 if p.1.do_=1 then { r with a4:=r.a4+1,a5:=std.maxI r.a5 p.2 }
 else if p.1.kind=9 then QaX (Q2i K p.1.b) (QD (Q2i K p.1.b) 0 (Q2i K p.1.b).length).attrs { r with a4:=r.a4+1 }
 else if p.1.kind=8 then QaX (Q2i K p.1.b) (QD (Q2i K p.1.b) 0 (Q2i K p.1.b).length).attrs r
 else r
theorem QiT(K:Int){l:List Node}{R:Int}(hR:Q1f l R=20){c:Cur}(hc:Qea R c)(r:Rp):Q42 K l c r=(evC l c).foldl (Q1U K) r:=by
 cases c with
 |root n =>
  obtain rfl:n=R:=hc;unfold Q42;have e:Q1f l (Cur.root n).n=20:=hR;rw[e,if_neg (by decide),if_neg (by decide),if_neg (by decide)];rfl
 |kid n f k up =>
  have e:(Cur.kid n f k up).n=n:=rfl;unfold Q42;rw[e];by_cases h:Q1f l n=21
  ·rw[if_pos h]
   have he:evC l (.kid n f k up)=[(⟨1,0,[]⟩,Q16 l (.kid n f k up))]:=by show(if Q1f l n=21 then _ else _)=_;rw[if_pos h]
   rw[he];rfl
  ·rw[if_neg h]
   have he:evC l (.kid n f k up)=[(⟨2,Q1f l n,pr l n⟩,Q16 l (.kid n f k up))]:=by show(if Q1f l n=21 then _ else _)=_;rw[if_neg h]
   rw[he];show _=Q1U K r (⟨2,Q1f l n,pr l n⟩,Q16 l (.kid n f k up));unfold Q1U;rw[if_neg (show ¬(2:Int)=1 by decide)];rfl
theorem Qbl(K:Int){l:List Node}{R:Int}(hR:Q1f l R=20):∀(ws:List Cur)(r:Rp),(∀c∈ws,Qea R c)->QbY K l ws r=(ws.flatMap (evC l)).foldl (Q1U K) r
 | [],_,_=>rfl
 |c::ws,r,h=>by
  rw[flatMap_cons,List.foldl_append,<-QiT K hR (h c (mem_cons_self ..))];exact Qbl K hR ws _ fun x hx=>h x (mem_cons_of_mem _ hx)
def Qj0(b:List UInt8):Rp:=Qcv b.length (Qb b).r fun k=>Q1L (Q1r (Qb b).r) k
theorem QjH(b:List UInt8)(hb:b.length<=100000):Q7H b=Q7Y (Q1b b).wr ((pz 0 ((Q1b b).ev.map Evr.ev)).foldl (Q1U (Qb b).kind) (Qj0 b)):=by
 have hO:=Q8f b hb;obtain⟨h1,h2⟩:=Q8S b hb;have hR:Q1f (QL (Qu b)).n (Qu b).n.length=20:=Qfc
 have hin:∀c∈Q6o (QL (Qu b)).n (.root (Qu b).n.length) 1073741824,Qea (Qu b).n.length c:=fun c hc=>(Q6a (l:=(QL (Qu b)).n) (Q:=fun c=>CurIn (QL (Qu b)).n b.length 400000 c/\Qea (Qu b).n.length c) (fun x hx y hy=>⟨Q8n hO.ar hx.1 _ (le_refl _) y hy,Qdm hO.ar hx.1 hx.2 _ (le_refl _) y hy⟩) 1073741824 [.root (Qu b).n.length] (fun x hx=>by
  obtain rfl:x=.root (Qu b).n.length:=by simpa using hx
  exact⟨hO.root,rfl⟩) c hc).2
 unfold Q7H;rw[h1,h2,<-QmZ b hb,Qbl _ hR _ _ hin];rfl
def m1(L:List Ev):Nat:=(L.filter fun e=>decide (e.do_=1)).length
def m9(L:List Ev):Nat:=(L.filter fun e=>decide (e.do_≠1/\e.do_≠3/\e.kind=9)).length
def n1(L:List (Ev×Int)):Nat:=(L.filter fun p=>decide (p.1.do_=1)).length
def n9(L:List (Ev×Int)):Nat:=(L.filter fun p=>decide (p.1.do_≠1/\p.1.kind=9)).length
theorem Q2s{α:Type}(q:α->Bool)(x:α)(l:List α):((x::l).filter q).length=n01 (q x)+(l.filter q).length:=by
 rw[List.filter_cons];cases q x with
 |true=>rw[if_pos rfl,List.length_cons];show _=1+_;omega
 |false=>rw[if_neg (by decide)];show _=0+_;omega
theorem Q8s:∀(L:List Ev)(d:Int),n1 (pz d L)=m1 L/\n9 (pz d L)=m9 L/\∀p∈pz d L,p.2<=d+m1 L
 | [],d=>⟨rfl,rfl,fun p hp=>by cases hp⟩
 |e::L,d=>by
  have c1:m1 (e::L)=n01 (decide (e.do_=1))+m1 L:=Q2s _ _ _;have c9:m9 (e::L)=n01 (decide (e.do_≠1/\e.do_≠3/\e.kind=9))+m9 L:=Q2s _ _ _;have q1:∀x M,n1 (x::M)=n01 (decide (x.1.do_=1))+n1 M:=fun x M=>Q2s _ _ _
  have q9:∀x M,n9 (x::M)=n01 (decide (x.1.do_≠1/\x.1.kind=9))+n9 M:=fun x M=>Q2s _ _ _
  unfold pz;by_cases h:e.do_=1
  ·obtain⟨i1,i9,ip⟩:=Q8s L (d+1)
   rw[if_pos h,q1,q9,c1,c9,i1,i9];have e9:decide (e.do_≠1/\e.do_≠3/\e.kind=9)=decide (e.do_≠1/\e.kind=9):=by simp[h]
   have e1:n01 (decide (e.do_=1))=1:=by rw[decide_eq_true h];rfl
   rw[e9,e1];refine⟨rfl,rfl,fun p hp=>?_⟩
   rcases mem_cons.1 hp with rfl|hp
   ·show d+1<=_;omega
   ·have:=ip p hp;omega
  ·rw[if_neg h]
   have e1:n01 (decide (e.do_=1))=0:=by rw[decide_eq_false h];rfl
   by_cases h3:e.do_=3
   ·obtain⟨i1,i9,ip⟩:=Q8s L (d-1)
    rw[if_pos h3,c1,c9,i1,i9,e1];have e9:decide (e.do_≠1/\e.do_≠3/\e.kind=9)=false:=by simp[h3]
    rw[e9];refine⟨(zero_add _).symm,(zero_add _).symm,fun p hp=>?_⟩
    have:=ip p hp;omega
   ·obtain⟨i1,i9,ip⟩:=Q8s L d
    rw[if_neg h3,q1,q9,c1,c9,i1,i9,e1];have e9:decide (e.do_≠1/\e.do_≠3/\e.kind=9)=decide (e.do_≠1/\e.kind=9):=by simp[h3]
    rw[e9];refine⟨?_,rfl,fun p hp=>?_⟩
    ·rfl
    ·rcases mem_cons.1 hp with rfl|hp
     ·show d<=_;omega
     ·have:=ip p hp;omega
structure Rp.txt (r q:Rp):Prop where
 a0:r.a0=q.a0
 a1:r.a1=q.a1
 a2:r.a2=q.a2
 a3:r.a3=q.a3
 t:[r.t0,r.t1,r.t2,r.t3,r.t4,r.t5,r.t6,r.t7,r.t8,r.t9,r.t10,r.t11]=[q.t0,q.t1,q.t2,q.t3,q.t4,q.t5,q.t6,q.t7,q.t8,q.t9,q.t10,q.t11]
theorem Rp.txt.refl(r:Rp):r.txt r:=⟨rfl,rfl,rfl,rfl,rfl⟩
theorem Rp.txt.trans{r q s:Rp}(h:r.txt q)(k:q.txt s):r.txt s:=⟨h.a0.trans k.a0,h.a1.trans k.a1,h.a2.trans k.a2,h.a3.trans k.a3,h.t.trans k.t⟩
structure StepR (r q:Rp) (n m:Nat) (B:Int):Prop where
 x:q.txt r
 w:q.w1=r.w1
 a4:q.a4=r.a4+n+m
 a5:q.a5<=B
 a7:q.a7<=q.a6
theorem Qc4(K:Int):∀(L:List (Ev×Int)) (r:Rp) (B:Int),r.a7<=r.a6->r.a5<=B->(∀p∈L,p.2<=B)->StepR r (L.foldl (Q1U K) r) (n1 L) (n9 L) B
 | [],r,B,h7,h5,_=>⟨.refl r,rfl,by show r.a4=r.a4+((0:Nat):Int)+((0:Nat):Int);omega,h5,h7⟩
 |p::L,r,B,h7,h5,hp=>by
  have hp0:=hp p (mem_cons_self ..)
  have key:StepR r (Q1U K r p) (n01 (decide (p.1.do_=1))) (n01 (decide (p.1.do_≠1/\p.1.kind=9))) B:=by
   have hb:∀l al,Q2e l al<=al.length:=Q5E;unfold Q1U;by_cases h:p.1.do_=1
   ·rw[if_pos h,decide_eq_true h]
    have e:decide (p.1.do_≠1/\p.1.kind=9)=false:=by simp[h]
    rw[e];refine⟨⟨rfl,rfl,rfl,rfl,rfl⟩,rfl,?_,?_,h7⟩
    ·show r.a4+1=r.a4+((1:Nat):Int)+((0:Nat):Int);omega
    ·show(if r.a5<p.2 then p.2 else r.a5)<=B
     split<;>assumption
   ·rw[if_neg h,decide_eq_false h]
    by_cases h9:p.1.kind=9
    ·rw[if_pos h9]
     have e:decide (p.1.do_≠1/\p.1.kind=9)=true:=by simp[h,h9]
     rw[e];generalize (Q2i K p.1.b)=l;have hb:=hb l (QD l 0 l.length).attrs;generalize (QD l 0 l.length).attrs=al at hb;refine⟨⟨rfl,rfl,rfl,rfl,rfl⟩,rfl,?_,h5,?_⟩
     ·show r.a4+1=r.a4+((0:Nat):Int)+((1:Nat):Int);omega
     ·show r.a7+(Q2e l al:Int)<=r.a6+(al.length:Int);omega
    ·rw[if_neg h9]
     have e:decide (p.1.do_≠1/\p.1.kind=9)=false:=by simp[h9]
     rw[e];split
     ·generalize (Q2i K p.1.b)=l
      have hb:=hb l (QD l 0 l.length).attrs;generalize (QD l 0 l.length).attrs=al at hb;refine⟨⟨rfl,rfl,rfl,rfl,rfl⟩,rfl,?_,h5,?_⟩
      ·show r.a4=r.a4+((0:Nat):Int)+((0:Nat):Int);omega
      ·show r.a7+(Q2e l al:Int)<=r.a6+(al.length:Int);omega
     ·exact⟨.refl r,rfl,by show r.a4=r.a4+((0:Nat):Int)+((0:Nat):Int);omega,h5,h7⟩
  have ih:=Qc4 K L (Q1U K r p) B key.a7 key.a5 fun x hx=>hp x (mem_cons_of_mem _ hx)
  have q1:n1 (p::L)=n01 (decide (p.1.do_=1))+n1 L:=Q2s _ _ _;have q9:n9 (p::L)=n01 (decide (p.1.do_≠1/\p.1.kind=9))+n9 L:=Q2s _ _ _;rw[foldl_cons,q1,q9];refine⟨ih.x.trans key.x,ih.w.trans key.w,?_,ih.a5,ih.a7⟩;have k4:=key.a4;rw[ih.a4,k4];omega
def cw(ds:List Dg):Nat:=(ds.filter fun d=>decide (d.c=1)).length
def s1(s:RSt):Nat:=m1 (s.ev.map Evr.ev)
def s9(s:RSt):Nat:=m9 (s.ev.map Evr.ev)
theorem Q8q{α:Type}(q:α->Bool)(a b:List α):((a++b).filter q).length=(a.filter q).length+(b.filter q).length:=by rw[List.filter_append,List.length_append]
structure Cnt (s u:RSt) (a b c:Nat):Prop where
 e1:s1 u=s1 s+a
 e9:s9 u=s9 s+b
 w:cw u.wr=cw s.wr+c
theorem Cnt.refl(s:RSt):Cnt s s 0 0 0:=⟨rfl,rfl,rfl⟩
theorem Cnt.trans{s u v:RSt}{a b c a' b' c':Nat}(h:Cnt s u a b c)(k:Cnt u v a' b' c'):Cnt s v (a+a') (b+b') (c+c'):=by
 obtain⟨h1,h2,h3⟩:=h;obtain⟨k1,k2,k3⟩:=k;exact⟨by omega,by omega,by omega⟩
theorem QaR(s:RSt)(op:List (List Int))(E:List Evr)(D:List Dg):Cnt s ⟨op,s.ev++E,s.wr++D⟩ (m1 (E.map Evr.ev)) (m9 (E.map Evr.ev)) (cw D):=by
 refine⟨?_,?_,Q8q _ _ _⟩
 ·unfold s1
  rw[map_append];exact Q8q _ _ _
 ·unfold s9
  rw[map_append];exact Q8q _ _ _
theorem QfH(s:RSt)(op:List (List Int))(E:List Evr):Cnt s ⟨op,s.ev++E,s.wr⟩ (m1 (E.map Evr.ev)) (m9 (E.map Evr.ev)) 0:=by
 have h:=QaR s op E [];rw[append_nil]at h;exact h
theorem Q7i(t:Txt)(c f u:Int)(s:RSt):Cnt s (Q1R t c f u s) 0 0 (n01 (decide (c=1))):=by
 have h:=QaR s s.op [] [⟨Q1s t f,Q1s t u,c⟩];rw[append_nil]at h;have e:cw [(⟨Q1s t f,Q1s t u,c⟩:Dg)]=n01 (decide (c=1)):=Q2s _ _ _;rw[e]at h;exact h
theorem Q6w(t:Txt)(b:List UInt8)(k f u:Int)(s:RSt):Cnt s (Q1K t b k f u s) 0 (n01 (decide (k=9))) 0:=by
 have h:=QfH s s.op [⟨2,k,some (QU t b f u)⟩];have e1:m1 ([(⟨2,k,some (QU t b f u)⟩:Evr)].map Evr.ev)=0:=rfl
 have e9:m9 ([(⟨2,k,some (QU t b f u)⟩:Evr)].map Evr.ev)=n01 (decide (k=9)):=by
  refine(Q2s _ _ _).trans ?_;show n01 (decide ((2:Int)≠1/\(2:Int)≠3/\k=9))+0=_;by_cases hk:k=9<;>simp[hk]
 rw[e1,e9]at h;exact h
theorem Qka(t:Txt)(a:Int)(s:RSt):Cnt s (Q2h t a s) 0 0 0 :=
 QaR s (s.op.take (s.op.length-1)) [⟨2,22,none⟩,⟨3,0,none⟩] [⟨Q1s t a,Q1s t a,4⟩]
theorem Q7C(t:Txt)(f:Int)(k:Nat):∀(n:Nat)(s:RSt),Cnt s (Q1g t f k n s) 0 0 0
 |0,s=>.refl s
 |n+1,s=>by
  show Cnt s (if _ then _ else _) 0 0 0;split
  ·exact(Qka t f s).trans (Q7C t f k n _)
  ·exact .refl s
theorem Qio(t:Txt)(b:List UInt8)(kind f u:Int)(wh:Bool)(s:RSt):∃a c,Cnt s (Q63 t b kind f u wh s) a (n01 (decide (kind=9))) c/\a<=n01 (decide (kind=8))/\n01 (decide (wh=false))<=c:=by
 unfold Q63;simp only
 generalize hs1:(if wh=false then Q1R t 1 f u s else if(kind=8\/kind=9\/kind=10)/\(QD t.r f u).right=false then Q1R t 2 f u s else s)=s1
 have h1:Cnt s s1 0 0 (n01 (decide (wh=false))):=by
  rw[<-hs1];split
  ·rename_i h
   rw[decide_eq_true h];exact Q7i t 1 f u s
  ·rename_i h
   rw[decide_eq_false h];split
   ·exact Q7i t 2 f u s
   ·exact .refl s
 clear hs1;split
 ·rename_i h
  have e9:n01 (decide (kind=9))=0:=by rw[h.2.1];rfl
  have e8:n01 (decide (kind=8))=1:=by rw[h.2.1];rfl
  rw[e8,e9];unfold Q4x;split
  ·have h2:=(h1.trans (Q7i t 5 f u s1)).trans (Q6w t b kind f u _)
   rw[e9]at h2;exact⟨_,_,h2,zero_le _,le_refl _⟩
  ·have h2:=(h1.trans (QfH s1 (s1.op++[Qs t f u]) [⟨1,0,none⟩])).trans (Q6w t b kind f u _)
   rw[e9]at h2;exact⟨_,_,h2,le_refl _,le_refl _⟩
 ·split
  ·rename_i h
   have e9:n01 (decide (kind=9))=0:=by rw[h.2];rfl
   rw[e9];unfold Qbt;split
   ·have h2:=(h1.trans (Q7i t 3 f u s1)).trans (Q6w t b kind f u _)
    rw[e9]at h2;exact⟨_,_,h2,zero_le _,le_refl _⟩
   ·have h2:=(h1.trans (Q7C t f ((Q2G s1.op (Qs t f u) s1.op.length).toNat+1) (s1.op.length+1) s1)).trans (Q6w t b kind f u _)
    rw[e9]at h2;have h3:=h2.trans (QfH _ ((Q1K t b kind f u (Q1g t f ((Q2G s1.op (Qs t f u) s1.op.length).toNat+1) (s1.op.length+1) s1)).op.take (Q2G s1.op (Qs t f u) s1.op.length).toNat) [⟨3,0,none⟩]);exact⟨_,_,h3,zero_le _,le_refl _⟩
  ·have h2:=h1.trans (Q6w t b kind f u s1)
   rw[zero_add (n01 _)]at h2;exact⟨_,_,h2,zero_le _,le_refl _⟩
theorem Q8J(x:Tok)(ts:List Tok)(k:Int):Q1L (x::ts) k=n01 (x.kind == k)+Q1L ts k:=Q2s _ _ _
theorem QeA(t:Txt)(b:List UInt8)(l:List Int):∀(ts:List Tok)(s:RSt),(∀x∈ts,TokOk l x)->∃a c,Cnt s (ts.foldl (Q64 t b) s) a (Q1L ts 9) c/\a<=Q1L ts 8/\Q1L ts 11<=c
 | [],s,_=>⟨0,0,.refl s,le_refl _,le_refl _⟩
 |x::ts,s,h=>by
  obtain⟨a,c,h1,h2,h3⟩:=Qio t b x.kind x.from_ x.to x.whole s;obtain⟨a',c',k1,k2,k3⟩:=QeA t b l ts (Q64 t b s x) fun y hy=>h y (mem_cons_of_mem _ hy)
  have hb:n01 (decide (x.kind=11))<=n01 (decide (x.whole=false)):=by
   by_cases e:x.kind=11
   ·rw[(h x (mem_cons_self ..)).br e];rw[decide_eq_true e];exact le_refl 1
   ·rw[decide_eq_false e];exact zero_le _
  rw[foldl_cons,Q8J,Q8J,Q8J];exact⟨_,_,h1.trans k1,Nat.add_le_add h2 k2,Nat.add_le_add (Nat.le_trans hb h3) k3⟩
theorem Qi2(b:List UInt8):s1 (Q1b b)<=Q1L (Q1r (Qb b).r) 8/\s9 (Q1b b)=Q1L (Q1r (Qb b).r) 9/\Q1L (Q1r (Qb b).r) 11<=cw (Q1b b).wr:=by
 obtain⟨a,c,h1,h2,h3⟩:=QeA (Qb b) b (Qb b).r (Q1r (Qb b).r) (Q2N b) (Q6p _);have h4:=h1.trans (Q7C (Qb b) (Qb b).r.length 0 (((Q1r (Qb b).r).foldl (Q64 (Qb b) b) (Q2N b)).op.length+1) _);obtain⟨k1,k9,kw⟩:=h4;have f1:s1 (Q2N b)=0:=by unfold Q2N;split<;>rfl
 have f9:s9 (Q2N b)=0:=by unfold Q2N;split<;>rfl
 have fw:cw (Q2N b).wr=0:=rfl;have k1:s1 (Q1b b)=_:=k1;have k9:s9 (Q1b b)=_:=k9;have kw:cw (Q1b b).wr=_:=kw;exact⟨by omega,by omega,by omega⟩
def dS(d:Int)(e:Ev):Int:=if e.do_=1 then d+1 else if e.do_=3 then d-1 else d
def Q3R(x:Int×Int)(e:Ev):Int×Int:=(dS x.1 e,if x.2<dS x.1 e then dS x.1 e else x.2)
theorem Qna(K:Int)(r:Rp)(p:Ev×Int)(h:¬p.1.do_=1):(Q1U K r p).a5=r.a5:=by
 unfold Q1U;rw[if_neg h];repeat' split
 all_goals rfl
theorem Q9w(K:Int):∀(L:List Ev)(d:Int)(r:Rp),d<=r.a5->((pz d L).foldl (Q1U K) r).a5=(L.foldl Q3R (d,r.a5)).2
 | [],_,_,_=>rfl
 |e::L,d,r,h=>by
  unfold pz;rw[foldl_cons];by_cases h1:e.do_=1
  ·rw[if_pos h1,foldl_cons]
   have e5:(Q1U K r (e,d+1)).a5=if r.a5<d+1 then d+1 else r.a5:=by unfold Q1U;rw[if_pos h1];rfl
   have e6:Q3R (d,r.a5) e=(d+1,(Q1U K r (e,d+1)).a5):=by
    have e7:dS d e=d+1:=if_pos h1;rw[e5];show(dS d e,if r.a5<dS d e then dS d e else r.a5)=_
    rw[e7]
   rw[e6];exact Q9w K L (d+1) _ (by rw[e5];split<;>omega)
  ·rw[if_neg h1]
   by_cases h3:e.do_=3
   ·rw[if_pos h3]
    have e6:Q3R (d,r.a5) e=(d-1,r.a5):=by
     have e7:dS d e=d-1:=by unfold dS;rw[if_neg h1,if_pos h3]
     show(dS d e,if r.a5<dS d e then dS d e else r.a5)=_
     rw[e7,if_neg (show ¬r.a5<d-1 by omega)]
    rw[e6];exact Q9w K L (d-1) r (by omega)
   ·rw[if_neg h3,foldl_cons]
    have e5:=Qna K r (e,d) h1
    have e6:Q3R (d,r.a5) e=(d,(Q1U K r (e,d)).a5):=by
     have e7:dS d e=d:=by unfold dS;rw[if_neg h1,if_neg h3]
     rw[e5];show(dS d e,if r.a5<dS d e then dS d e else r.a5)=_
     rw[e7,if_neg (show ¬r.a5<d by omega)]
    rw[e6];exact Q9w K L d _ (by rw[e5];exact h)
def isT(e:Ev):Bool:=decide (e.do_≠1/\e.do_≠3/\(e.kind=8\/e.kind=9))
def sT(wt:List UInt8->Nat)(L:List Ev):Nat:=(L.map fun e=>if isT e=true then wt e.b else 0).sum
theorem Qo7(wt:List UInt8->Nat)(a b:List Ev):sT wt (a++b)=sT wt a+sT wt b:=by simp[sT]
def aNr(K:Int)(b:List UInt8):Nat:=(QD (Q2i K b) 0 (Q2i K b).length).attrs.length
def bNr(K:Int)(b:List UInt8):Nat:=Q2e (Q2i K b) (QD (Q2i K b) 0 (Q2i K b).length).attrs
theorem Qmv(K:Int)(r:Rp)(p:Ev×Int)(h3:¬p.1.do_=3):(Q1U K r p).a6=r.a6+((if isT p.1=true then aNr K p.1.b else 0:Nat):Int)/\(Q1U K r p).a7=r.a7+((if isT p.1=true then bNr K p.1.b else 0:Nat):Int):=by
 unfold Q1U;by_cases h1:p.1.do_=1
 ·have e:isT p.1=false:=by simp[isT,h1]
  rw[if_pos h1,e];exact⟨(Int.add_zero _).symm,(Int.add_zero _).symm⟩
 ·rw[if_neg h1]
  by_cases h9:p.1.kind=9
  ·have e:isT p.1=true:=by simp[isT,h1,h3,h9]
   rw[if_pos h9,e];exact⟨rfl,rfl⟩
  ·rw[if_neg h9]
   by_cases h8:p.1.kind=8
   ·have e:isT p.1=true:=by simp[isT,h1,h3,h8]
    rw[if_pos h8,e];exact⟨rfl,rfl⟩
   ·have e:isT p.1=false:=by simp[isT,h8,h9]
    rw[if_neg h8,e];exact⟨(Int.add_zero _).symm,(Int.add_zero _).symm⟩
theorem Qdh(K:Int):∀(L:List Ev)(d:Int)(r:Rp),((pz d L).foldl (Q1U K) r).a6=r.a6+(sT (aNr K) L:Nat)/\((pz d L).foldl (Q1U K) r).a7=r.a7+(sT (bNr K) L:Nat)
 | [],_,r=>⟨(Int.add_zero _).symm,(Int.add_zero _).symm⟩
 |e::L,d,r=>by
  have c:∀wt,sT wt (e::L)=(if isT e=true then wt e.b else 0)+sT wt L:=fun wt=>rfl
  rw[c,c];unfold pz
  have go:∀d':Int,¬e.do_=3->(((e,d')::pz d' L).foldl (Q1U K) r).a6=r.a6+(((if isT e=true then aNr K e.b else 0)+sT (aNr K) L:Nat):Int)/\(((e,d')::pz d' L).foldl (Q1U K) r).a7=r.a7+(((if isT e=true then bNr K e.b else 0)+sT (bNr K) L:Nat):Int):=fun d' h3=>by
   rw[foldl_cons];obtain⟨s6,s7⟩:=Qmv K r (e,d') h3;obtain⟨i6,i7⟩:=Qdh K L d' (Q1U K r (e,d'));rw[i6,i7,s6,s7];generalize (if isT e=true then aNr K e.b else 0)=x1;generalize (if isT e=true then bNr K e.b else 0)=x2;generalize sT (aNr K) L=x3;generalize sT (bNr K) L=x4;constructor<;>omega
  by_cases h1:e.do_=1
  ·rw[if_pos h1]
   exact go (d+1) (by omega)
  ·rw[if_neg h1]
   by_cases h3:e.do_=3
   ·rw[if_pos h3]
    have e0:isT e=false:=by simp[isT,h3]
    rw[e0];obtain⟨i6,i7⟩:=Qdh K L (d-1) r;rw[i6,i7];simp
   ·rw[if_neg h3]
    exact go d h3
structure SW (wt:List UInt8->Nat) (s u:RSt) (a:Nat):Prop where
 e:sT wt (u.ev.map Evr.ev)=sT wt (s.ev.map Evr.ev)+a
section
variable {wt:List UInt8->Nat}
theorem SW.refl(s:RSt):SW wt s s 0:=⟨rfl⟩
theorem SW.trans{s u v:RSt}{a b:Nat}(h:SW wt s u a)(k:SW wt u v b):SW wt s v (a+b):=⟨by rw[k.e,h.e];omega⟩
theorem SW.same{s u:RSt}(h:u.ev=s.ev):SW wt s u 0:=⟨by rw[h];rfl⟩
theorem SW.more(s:RSt)(op:List (List Int))(E:List Evr)(W:List Dg):SW wt s ⟨op,s.ev++E,W⟩ (sT wt (E.map Evr.ev)):=⟨by rw[map_append];exact Qo7 _ _ _⟩
theorem Q8h(t:Txt)(b:List UInt8)(k f u:Int)(s:RSt):SW wt s (Q1K t b k f u s) (if k=8\/k=9 then wt (QU t b f u)else 0):=by
 have h:SW wt s (Q1K t b k f u s) _:=SW.more s s.op [⟨2,k,some (QU t b f u)⟩] s.wr
 have e:sT wt ([(⟨2,k,some (QU t b f u)⟩:Evr)].map Evr.ev)=if k=8\/k=9 then wt (QU t b f u)else 0:=by
  show(if isT ⟨2,k,QU t b f u⟩=true then wt (QU t b f u)else 0)+0=_
  rw[add_zero];by_cases hk:k=8\/k=9
  ·rw[if_pos hk,if_pos (by simpa[isT]using hk)]
  ·rw[if_neg hk,if_neg (by simpa[isT]using hk)]
 rw[e]at h;exact h
theorem Q8E(t:Txt)(f:Int)(k:Nat):∀(n:Nat)(s:RSt),SW wt s (Q1g t f k n s) 0
 |0,s=>.refl s
 |n+1,s=>by
  show SW wt s (if _ then _ else _) 0;split
  ·have h:SW wt s (Q2h t f s) _:=SW.more s (s.op.take (s.op.length-1)) [⟨2,22,none⟩,⟨3,0,none⟩] (s.wr++[⟨Q1s t f,Q1s t f,4⟩])
   exact h.trans (Q8E t f k n _)
  ·exact .refl s
theorem QjA(t:Txt)(b:List UInt8)(kind f u:Int)(wh:Bool)(s:RSt):SW wt s (Q63 t b kind f u wh s) (if kind=8\/kind=9 then wt (QU t b f u)else 0):=by
 unfold Q63;simp only
 generalize jL:(if wh=false then Q1R t 1 f u s else if(kind=8\/kind=9\/kind=10)/\(QD t.r f u).right=false then Q1R t 2 f u s else s)=s1
 have h1:SW wt s s1 0:=by
  rw[<-jL];split
  ·exact .same rfl
  ·split
   ·exact .same rfl
   ·exact .refl s
 clear jL
 have key:∀{v w:RSt}{a:Nat},SW wt s1 v 0->SW wt v w a->SW wt s w a:=fun h2 h3=>by
  have:=(h1.trans h2).trans h3
  rw[add_zero,zero_add]at this;exact this
 split
 ·unfold Q4x
  split
  ·exact key (.same (u:=Q1R t 5 f u s1) rfl) (Q8h t b kind f u _)
  ·exact key (SW.more s1 (s1.op++[Qs t f u]) [⟨1,0,none⟩] s1.wr) (Q8h t b kind f u _)
 ·split
  ·unfold Qbt
   split
   ·exact key (.same (u:=Q1R t 3 f u s1) rfl) (Q8h t b kind f u _)
   ·have h2:=key (Q8E t f ((Q2G s1.op (Qs t f u) s1.op.length).toNat+1) (s1.op.length+1) s1) (Q8h t b kind f u _)
    exact h2.trans (SW.more _ ((Q1K t b kind f u (Q1g t f ((Q2G s1.op (Qs t f u) s1.op.length).toNat+1) (s1.op.length+1) s1)).op.take (Q2G s1.op (Qs t f u) s1.op.length).toNat) [⟨3,0,none⟩] _)
  ·exact key (.refl s1) (Q8h t b kind f u s1)
theorem QgU(t:Txt)(b:List UInt8):∀(ts:List Tok)(s:RSt),SW wt s (ts.foldl (Q64 t b) s) (ts.map fun x=>if x.kind=8\/x.kind=9 then wt (QU t b x.from_ x.to)else 0).sum
 | [],s=>.refl s
 |x::ts,s=>by
  rw[foldl_cons,map_cons,List.sum_cons];exact(QjA t b x.kind x.from_ x.to x.whole s).trans (QgU t b ts _)
end
theorem QdQ(wt:List UInt8->Nat)(b:List UInt8):sT wt ((Q1b b).ev.map Evr.ev)=((Q1r (Qb b).r).map fun x=>if x.kind=8\/x.kind=9 then wt (QU (Qb b) b x.from_ x.to)else 0).sum:=by
 have h1:=QgU (wt:=wt) (Qb b) b (Q1r (Qb b).r) (Q2N b);have h4:=h1.trans (Q8E (Qb b) (Qb b).r.length 0 (((Q1r (Qb b).r).foldl (Q64 (Qb b) b) (Q2N b)).op.length+1) _);have f1:sT wt ((Q2N b).ev.map Evr.ev)=0:=by unfold Q2N;split<;>rfl
 have:=h4.e
 rw[f1,zero_add]at this;exact this
def shA(d:Int)(x:TAttr):TAttr:=⟨shP d x.name,shP d x.value,⟨x.all.kind,x.all.from_+d,x.all.to+d⟩⟩
theorem QaK{ps:List TPart}{n:Nat}{k:Int}(h:QO ps n [k]=true):n<ps.length:=by
 rcases Nat.lt_or_ge n ps.length with hl|hl
 ·exact hl
 ·unfold QO at h
  rw[List.drop_of_length_le hl]at h;cases h
theorem QfI(d:Int){ps:List TPart}{n:Nat}(h:n<ps.length):(ps.map (shP d))[n]?.getD Qm=shP d (ps[n]?.getD Qm):=by
 rw[getElem?_map,getElem?_eq_getElem h];rfl
theorem Qp4(d:Int)(ps:List TPart)(a k:Int):Q3y (ps.map (shP d)) a k=Q3y ps a k:=by unfold Q3y;rw[Q8o]
theorem Qi3(d:Int)(ps:List TPart)(a:Int):Q1q (ps.map (shP d)) a=(Q1q ps a).map fun x=>(shA d x.1,x.2):=by
 unfold Q1q;simp only[Q8o,Qp4];split
 ·rename_i h1
  split
  ·split
   ·rename_i h3
    rw[QfI d (QaK h1.1),QfI d (QaK h1.2),QfI d (QaK h3)];rfl
   ·rfl
  ·rfl
 ·rfl
theorem Qa0(d:Int)(ps:List TPart):∀(f:Nat)(a:Int),Qy (ps.map (shP d)) f a=((Qy ps f a).1.map (shA d),(Qy ps f a).2)
 |0,a=>rfl
 |f+1,a=>by
  have h:=Qi3 d ps a;have e1:Q1p (ps.map (shP d)) a=Q1p ps a:=by unfold Q1p;rw[h];cases Q1q ps a<;>rfl
  have e2:Q1z (ps.map (shP d)) a=Q1z ps a:=by unfold Q1z;rw[h];cases Q1q ps a<;>rfl
  have ih:=Qa0 d ps f (Q1z ps a);unfold Qy;rw[e1,e2];by_cases ho:Q1p ps a=true
  ·have e3:QH (ps.map (shP d)) a=shA d (QH ps a):=by
    unfold Q1p at ho;unfold QH;rw[h];cases hg:Q1q ps a with
    |none=>rw[hg]at ho;cases ho
    |some x=>rfl
   rw[if_pos ho,if_pos ho,e3,ih];rfl
  ·rw[if_neg ho,if_neg ho];rfl
theorem Qa5(ps:List TPart):(Q1l ps).attrs=if QO ps 0 [1,2]=true then(Qy ps (ps.length+1) 2).1 else []:=by
 unfold Q1l;split
 ·simp only
  split
  ·rfl
  ·rfl
 ·rfl
theorem Qhm(l:List Int){f u:Int}(h0:0<=f)(h1:f<=u)(h2:u<=l.length):(QD l f u).attrs=(QD ((l.drop f.toNat).take (u-f).toNat) 0 ((l.drop f.toNat).take (u-f).toNat).length).attrs.map (shA f):=by
 obtain⟨s,hs⟩:=exq ((l.drop f.toNat).take (u-f).toNat);have jW:(l.take u.toNat).drop f.toNat=s:=by rw[hs,List.drop_take];congr 1;omega
 have e1:QS s 0 s.length=QB 0 true s:=by
  unfold QS;rw[Int.toNat_natCast,take_length];rfl
 have e2:QS l f u=(QB 0 true s).map (shP f):=by
  unfold QS;rw[jW];have:=Q7J f s.length s 0 true (le_refl _)
  rw[Int.zero_add]at this;exact this
 rw[<-hs];unfold QD;rw[e1,e2,Qa5,Qa5,Q8o,Qa0,length_map];split<;>rfl
theorem Qlv(l:List Int){f u:Int}(h0:0<=f)(h1:f<=u)(h2:u<=l.length){x:TAttr}(hx:NamIn ((l.drop f.toNat).take (u-f).toNat) x.name):Q6c l (shA f x)=Q6c ((l.drop f.toNat).take (u-f).toNat) x:=by
 have hl:(((l.drop f.toNat).take (u-f).toNat).length:Int)=u-f:=by rw[List.length_take,List.length_drop];omega
 have n0:=hx.h0;have n1:=hx.h1;have n2:=hx.h2;rw[hl]at n2;unfold Q6c anS
 have e:(l.drop (shA f x).name.from_.toNat).take ((shA f x).name.to-(shA f x).name.from_).toNat=(((l.drop f.toNat).take (u-f).toNat).drop x.name.from_.toNat).take (x.name.to-x.name.from_).toNat:=by
  show(l.drop (x.name.from_+f).toNat).take ((x.name.to+f)-(x.name.from_+f)).toNat=_
  rw[List.drop_take,List.drop_drop,List.take_take,show(x.name.from_+f).toNat=f.toNat+x.name.from_.toNat by omega,show min (x.name.to-x.name.from_).toNat ((u-f).toNat-x.name.from_.toNat)=((x.name.to+f)-(x.name.from_+f)).toNat by omega]
 rw[e]
theorem Qel(l:List Int){f u:Int}(h0:0<=f)(h1:f<=u)(h2:u<=l.length):∀(al:List TAttr),(∀x∈al,NamIn ((l.drop f.toNat).take (u-f).toNat) x.name)->Q2e l (al.map (shA f))=Q2e ((l.drop f.toNat).take (u-f).toNat) al
 | [],_=>rfl
 |x::al,h=>by
  have ih:=Qel l h0 h1 h2 al fun y hy=>h y (mem_cons_of_mem _ hy)
  have e:=Qlv l h0 h1 h2 (h x (mem_cons_self ..));have c:∀(m:List Int)(y:TAttr)(r:List TAttr),Q2e m (y::r)=n01 (Q6c m y)+Q2e m r:=fun m y r=>Q2s _ _ _
  rw[map_cons,c,c,e,ih]
def aT(l:List Int)(x:Tok):Nat:=if x.kind=8\/x.kind=9 then(QD l x.from_ x.to).attrs.length else 0
def bT(l:List Int)(x:Tok):Nat:=if x.kind=8\/x.kind=9 then Q2e l (QD l x.from_ x.to).attrs else 0
theorem Qkr(b:List UInt8){x:Tok}(h:TokOk (Qb b).r x):(if x.kind=8\/x.kind=9 then aNr (Qb b).kind (QU (Qb b) b x.from_ x.to)else 0)=aT (Qb b).r x/\(if x.kind=8\/x.kind=9 then bNr (Qb b).kind (QU (Qb b) b x.from_ x.to)else 0)=bT (Qb b).r x:=by
 have f0:=h.f0;have f1:=Int.le_of_lt h.f1;have f2:=h.f2;have e:=Qhm (Qb b).r f0 f1 f2;have hn:=Q7N (((Qb b).r.drop x.from_.toNat).take (x.to-x.from_).toNat);unfold aT bT aNr bNr;rw[Qeo b f0 f1 f2,e,length_map,Qel _ f0 f1 f2 _ hn];exact⟨rfl,rfl⟩
def aS(b:List UInt8):Nat:=((Q1r (Qb b).r).map (aT (Qb b).r)).sum
def bS(b:List UInt8):Nat:=((Q1r (Qb b).r).map (bT (Qb b).r)).sum
theorem Qkf(b:List UInt8):sT (aNr (Qb b).kind) ((Q1b b).ev.map Evr.ev)=aS b/\sT (bNr (Qb b).kind) ((Q1b b).ev.map Evr.ev)=bS b:=by
 rw[QdQ,QdQ];exact⟨congrArg List.sum (List.map_congr_left fun x hx=>(Qkr b (Q6p _ x hx)).1),congrArg List.sum (List.map_congr_left fun x hx=>(Qkr b (Q6p _ x hx)).2)⟩
def cD(ds:List Dg)(k:Int):Nat:=(ds.filter fun d=>decide (d.c=k)).length
structure WrX (r q:Rp) (c:Int->Nat):Prop where
 x:q.txt r
 a4:q.a4=r.a4
 a5:q.a5=r.a5
 a6:q.a6=r.a6
 a7:q.a7=r.a7
 w:[q.w0,q.w1,q.w2,q.w3,q.w4,q.w5]=[r.w0,r.w1+c 1,r.w2+c 2,r.w3+c 3,r.w4+c 4,r.w5+c 5]
theorem QoP(r:Rp)(d:Dg):WrX r (wrR r d) (fun k=>n01 (decide (d.c=k))):=by
 unfold wrR;by_cases h1:d.c=1
 ·rw[if_pos h1,h1]
  exact⟨⟨rfl,rfl,rfl,rfl,rfl⟩,rfl,rfl,rfl,rfl,by simp[n01]⟩
 rw[if_neg h1];by_cases h2:d.c=2
 ·rw[if_pos h2,h2]
  exact⟨⟨rfl,rfl,rfl,rfl,rfl⟩,rfl,rfl,rfl,rfl,by simp[n01]⟩
 rw[if_neg h2];by_cases h3:d.c=3
 ·rw[if_pos h3,h3]
  exact⟨⟨rfl,rfl,rfl,rfl,rfl⟩,rfl,rfl,rfl,rfl,by simp[n01]⟩
 rw[if_neg h3];by_cases h4:d.c=4
 ·rw[if_pos h4,h4]
  exact⟨⟨rfl,rfl,rfl,rfl,rfl⟩,rfl,rfl,rfl,rfl,by simp[n01]⟩
 rw[if_neg h4];by_cases h5:d.c=5
 ·rw[if_pos h5,h5]
  exact⟨⟨rfl,rfl,rfl,rfl,rfl⟩,rfl,rfl,rfl,rfl,by simp[n01]⟩
 rw[if_neg h5];exact⟨⟨rfl,rfl,rfl,rfl,rfl⟩,rfl,rfl,rfl,rfl,by simp[n01,h1,h2,h3,h4,h5]⟩
theorem QgZ:∀(ds:List Dg)(r:Rp),WrX r (Q7Y ds r) (cD ds)
 | [],r=>⟨.refl r,rfl,rfl,rfl,rfl,by simp[cD,Q7Y]⟩
 |d::ds,r=>by
  have key:=QoP r d;have ih:=QgZ ds (wrR r d);show WrX r (Q7Y ds (wrR r d)) _;have c:∀k,cD (d::ds) k=n01 (decide (d.c=k))+cD ds k:=fun k=>Q2s _ _ _
  have kw:=key.w;refine⟨ih.x.trans key.x,ih.a4.trans key.a4,ih.a5.trans key.a5,ih.a6.trans key.a6,ih.a7.trans key.a7,?_⟩;rw[ih.w];simp only[List.cons.injEq,and_true]at kw ⊢;obtain⟨w0,w1,w2,w3,w4,w5⟩:=kw;rw[w0,w1,w2,w3,w4,w5,c,c,c,c,c];omega
def QkW(b:List UInt8):Rp :=
 ⟨b.length,(Qb b).r.length,Q60 (Qb b).r,(lcF (Qb b).r (Qb b).r.length).1,
 (m1 ((Q1b b).ev.map Evr.ev):Int)+Q1L (Q1r (Qb b).r) 9,(((Q1b b).ev.map Evr.ev).foldl Q3R (0,0)).2,aS b,bS b,
 Q1L (Q1r (Qb b).r) 0,Q1L (Q1r (Qb b).r) 1,Q1L (Q1r (Qb b).r) 2,Q1L (Q1r (Qb b).r) 3,Q1L (Q1r (Qb b).r) 4,Q1L (Q1r (Qb b).r) 5,Q1L (Q1r (Qb b).r) 6,Q1L (Q1r (Qb b).r) 7,Q1L (Q1r (Qb b).r) 8,Q1L (Q1r (Qb b).r) 9,Q1L (Q1r (Qb b).r) 10,Q1L (Q1r (Qb b).r) 11,
 0,cD (Q1b b).wr 1,cD (Q1b b).wr 2,cD (Q1b b).wr 3,cD (Q1b b).wr 4,cD (Q1b b).wr 5⟩
theorem Qlz(K:Int):∀(L:List (Ev×Int)) (r:Rp),[(L.foldl (Q1U K) r).w0,(L.foldl (Q1U K) r).w1,(L.foldl (Q1U K) r).w2,(L.foldl (Q1U K) r).w3,(L.foldl (Q1U K) r).w4,(L.foldl (Q1U K) r).w5]=[r.w0,r.w1,r.w2,r.w3,r.w4,r.w5]
 | [],_=>rfl
 |p::L,r=>by
  rw[foldl_cons];refine(Qlz K L (Q1U K r p)).trans ?_;unfold Q1U;repeat' split
  all_goals rfl
theorem Qpn{r q:Rp}(h0:r.a0=q.a0)(h1:r.a1=q.a1)(h2:r.a2=q.a2)(h3:r.a3=q.a3)(h4:r.a4=q.a4)(h5:r.a5=q.a5)(h6:r.a6=q.a6)(h7:r.a7=q.a7)
  (ht:[r.t0,r.t1,r.t2,r.t3,r.t4,r.t5,r.t6,r.t7,r.t8,r.t9,r.t10,r.t11]=[q.t0,q.t1,q.t2,q.t3,q.t4,q.t5,q.t6,q.t7,q.t8,q.t9,q.t10,q.t11])
  (hw:[r.w0,r.w1,r.w2,r.w3,r.w4,r.w5]=[q.w0,q.w1,q.w2,q.w3,q.w4,q.w5]):r=q:=by
 cases r;cases q;simp only[List.cons.injEq,and_true]at ht hw;simp only[Rp.mk.injEq];simp only at h0 h1 h2 h3 h4 h5 h6 h7
 exact⟨h0,h1,h2,h3,h4,h5,h6,h7,ht.1,ht.2.1,ht.2.2.1,ht.2.2.2.1,ht.2.2.2.2.1,ht.2.2.2.2.2.1,ht.2.2.2.2.2.2.1,ht.2.2.2.2.2.2.2.1,ht.2.2.2.2.2.2.2.2.1,ht.2.2.2.2.2.2.2.2.2.1,ht.2.2.2.2.2.2.2.2.2.2.1,ht.2.2.2.2.2.2.2.2.2.2.2,hw.1,hw.2.1,hw.2.2.1,hw.2.2.2.1,hw.2.2.2.2.1,hw.2.2.2.2.2⟩
theorem Qce(b:List UInt8)(hb:b.length<=100000):Q7H b=QkW b:=by
 rw[QjH b hb];obtain⟨p1,p9,pw⟩:=Qi2 b;have p9:m9 ((Q1b b).ev.map Evr.ev)=_:=p9;obtain⟨z1,z9,zp⟩:=Q8s ((Q1b b).ev.map Evr.ev) 0
 have hs:=Qc4 (Qb b).kind (pz 0 ((Q1b b).ev.map Evr.ev)) (Qj0 b) (m1 ((Q1b b).ev.map Evr.ev)) (Int.le_refl _) (by show(0:Int)<=(m1 _:Int);omega) fun p hp=>by
  have:=zp p hp
  omega
 have h5:=Q9w (Qb b).kind ((Q1b b).ev.map Evr.ev) 0 (Qj0 b) (Int.le_refl _);obtain⟨h6,h7⟩:=Qdh (Qb b).kind ((Q1b b).ev.map Evr.ev) 0 (Qj0 b);obtain⟨pa,pb⟩:=Qkf b;have ch:=Qlz (Qb b).kind (pz 0 ((Q1b b).ev.map Evr.ev)) (Qj0 b);have hw:=QgZ (Q1b b).wr ((pz 0 ((Q1b b).ev.map Evr.ev)).foldl (Q1U (Qb b).kind) (Qj0 b));rw[z1,z9,p9]at hs;rw[pa]at h6;rw[pb]at h7;have s4:=hs.a4;have hx:=hw.x.trans hs.x;have ww:=hw.w;simp only[List.cons.injEq,and_true]at ch;obtain⟨w0,w1,w2,w3,w4,w5⟩:=ch;rw[w0,w1,w2,w3,w4,w5]at ww;refine Qpn (hx.a0.trans rfl) (hx.a1.trans rfl) (hx.a2.trans rfl) (hx.a3.trans rfl) ?_ ?_ ?_ ?_ (hx.t.trans rfl) ?_
 ·rw[hw.a4,s4]
  show(0:Int)+_+_=_+_
  rw[Int.zero_add]
 ·rw[hw.a5,h5];rfl
 ·rw[hw.a6,h6]
  show(0:Int)+_=_
  rw[Int.zero_add];rfl
 ·rw[hw.a7,h7]
  show(0:Int)+_=_
  rw[Int.zero_add];rfl
 ·rw[ww]
  have e:∀n:Nat,(0:Int)+(n:Int)=n:=fun n=>Int.zero_add _
  show [(0:Int),0+(cD _ 1:Int),0+(cD _ 2:Int),0+(cD _ 3:Int),0+(cD _ 4:Int),0+(cD _ 5:Int)]=_;rw[e,e,e,e,e];rfl
section
open Tryz
def awB:List UInt8:=[60,97,32,120,61,39,49,39,47,62]
def awR:Rp:=⟨10,10,0,1,1,0,1,0,0,0,0,0,0,0,0,0,0,1,0,0,0,0,0,0,0,0⟩
theorem Qol:QkW awB=awR:=by
 cbv
def QpR:Nat->List AV->List Ob->Option (AV×List Ob):=fun f args _=>match f,args with
 |31,[.slc 1 _]=>some (.agg awR.cs,[])
 |_,_=>none
theorem QiM:BCall prog 34 [] [] (.val (.bool true)) []:=by
 have cH:=QgB awB (by decide)
 rw[Qce awB (by decide),Qol]at cH
 refine fnN (QpR) func34 rfl fun _ _=>?_
 with_reducible refine cv0 ?_
 exact⟨List.cons_ne_nil _ _,cH,fun _=>⟨fun _=>⟨fun _=>⟨fun _=>.pure rfl (.inl rfl),fun h=>absurd h (by decide)⟩,fun h=>absurd h (by decide)⟩,fun h=>absurd h (by decide)⟩,fun h=>absurd h (by decide)⟩
