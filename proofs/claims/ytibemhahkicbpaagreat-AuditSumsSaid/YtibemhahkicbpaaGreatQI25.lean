/-
  Parts of the proof, joined: Uj Uk Ul Um Ud Uo. Conditions: as each theorem says.
-/
import Derived.Test.YtibemhahkicbpaaGreatQI21
import Derived.Test.YtibemhahkicbpaaGreatQI22
import Derived.Test.YtibemhahkicbpaaGreatQI23
import Derived.Test.YtibemhahkicbpaaGreatQI24
import Derived.Test.YtibemhahkicbpaaGreatQI14
set_option maxRecDepth 100000
set_option maxHeartbeats 8000000
namespace Go.Proofs.YtibemhahkicbpaaGreat
open Go.RowKit Go.Lib Tryz
def Q2Y (K:Int)(l:List Node)(c:Cur)(r:Rp):Rp :=
 if QD l c.n=21 then { r with a4:=r.a4+1,a5:=std.maxI r.a5 (QH l c) }
 else if QD l c.n=9 then Q8Q (ruN K l c.n) (Qy (ruN K l c.n) 0 (ruN K l c.n).length).attrs { r with a4:=r.a4+1 }
 else if QD l c.n=8 then Q8Q (ruN K l c.n) (Qy (ruN K l c.n) 0 (ruN K l c.n).length).attrs r
 else r
def Qli (kd dp n A6 A7:Int)(RU:List AV):Nat→List AV→List Ob→Option (AV×List Ob):=fun f args ob=>match f,args with
 |55,[.agg _]=>some (.val (.int .i64 kd),[])
 |123,[.agg _]=>some (.val (.int .i64 dp),[])
 |64,[.agg _]=>some (.val (.int .i64 n),[])
 |125,[.agg _,.val (.int .i64 _)]=>some (.slc 1 RU,[])
 |124,[.box 0 0,.slc 1 _]=>match ob with
  | [.box [c0,c1,c2,c3,c4,c5,_,_,c8,c9,c10,c11,c12,c13,c14,c15,c16,c17,c18,c19,c20,c21,c22,c23,c24,c25]] =>
   some (.tup [],[.box [c0,c1,c2,c3,c4,c5,.val (.int .i64 A6),.val (.int .i64 A7),c8,c9,c10,c11,c12,c13,c14,c15,c16,c17,c18,c19,c20,c21,c22,c23,c24,c25]])
  |_=>none
 |_,_=>none
theorem Qks (t:Txt)(m:Mk)(c:Cur)(r:Rp)(hp:PrOk (Qp m).n c.n)(hps:(Q4E t.kind (pr (Qp m).n c.n)).length≤1000000)(hc:Q27 c≤1000000)
  (h4:0≤r.a4∧r.a4≤1000000000000) (h5:0≤r.a5∧r.a5≤1000000000000) (h6:0≤r.a6∧r.a6≤1000000000000) (h7:0≤r.a7∧r.a7≤1000000000000) :
  BCall prog 70 [.box 0 0,Q5H t m,.agg (c.el (Q0 (Qp m).n))] [.box r.cs] (.tup []) [.box (Q2Y t.kind (Qp m).n c r).cs]:=by
 have cK:=Qck (Qp m).n c
 have cN:=QiK (Qp m).n c
 have cR:=QfY t m c.n hp hps
 have cD:=QiE (Qp m).n c hc
 have hrl:(ruN t.kind (Qp m).n c.n).length≤1000000:=by rw[ruN,Q1F,List.length_map];exact hps
 have cT9:=QjC (ruN t.kind (Qp m).n c.n) hrl { r with a4:=r.a4+1 } h6 h7
 have cT8:=QjC (ruN t.kind (Qp m).n c.n) hrl r h6 h7
 obtain⟨R1,hR1⟩:=exq (Q2Y t.kind (Qp m).n c r)
 rw[←hR1]
 unfold Q2Y at hR1
 unfold Q5H at cR ⊢
 rw[Cur.el] at cK cN cD ⊢
 generalize QH (Qp m).n c=dp at cD hR1
 generalize QD (Qp m).n c.n=kd at cK hR1
 generalize ruN t.kind (Qp m).n c.n=ru at cR cT8 cT9 hR1
 generalize (Qy ru 0 ru.length).attrs=al at cT8 cT9 hR1
 unfold Q8Q at cT8 cT9 hR1
 obtain⟨A6,hA6⟩:=exq (r.a6+al.length)
 obtain⟨A7,hA7⟩:=exq (r.a7+Q2X ru al)
 simp only at cT8 cT9 hR1
 rw[←hA6,←hA7] at cT8 cT9 hR1
 unfold Rp.cs at cT8 cT9
 simp only at cT8 cT9
 generalize (Qp m).n=l at cK cN cR cD ⊢
 generalize upO (Q0 l) c=U at cK cN cD ⊢
 generalize c.n=n at cK cN cR cD ⊢
 generalize c.f=cf at cK cN cD ⊢
 generalize c.k=ck at cK cN cD ⊢
 generalize t.kind=K at cR ⊢
 generalize t.bom=M at cR ⊢
 generalize Q1 t.r=R at cR ⊢
 generalize Q9 t.off=O at cR ⊢
 generalize Qz m.d=D at cR ⊢
 generalize (m.n.length:Int)=rt at cR ⊢
 clear hp hps hc hrl hA6 hA7
 unfold Rp.cs
 refine fnN (cs:=Qli kd dp n A6 A7 (Q1 ru)) func70 rfl (by kernel_rfl) ?_
 intro w0 g0
 generalize hp:std=p,hRU:Q1 ru=RU,hN:Q0 l=N
 generalize hT:Q8 p tys (Qli kd dp n A6 A7 RU) _ _ _ _=T
 cbv at hT
 subst hT
 simp only[Tree.ok,Q4,S0]
 subst hp hRU hN
 refine⟨cK,fun h=>?_,fun h=>⟨fun h9=>?_,fun h9=>⟨fun h8=>?_,fun h8=>?_⟩⟩⟩
 ·have e:kd=21:=of_decide_eq_true h
  rw[if_pos e] at hR1
  rw[hR1]
  refine⟨(show (-9223372036854775808:Int)≤r.a4+1∧r.a4+1≤(9223372036854775807:Int) from by omega),cD,[some 0],.tup [],_,rfl,rfl,Nat.le_refl _,rfl,?_,trivial⟩
  repeat first
   |exact trivial
   |refine⟨rfl,?_⟩
 ·have e:¬kd=21:=of_decide_eq_false h
  have e9:kd=9:=of_decide_eq_true h9
  rw[if_neg e,if_pos e9] at hR1
  rw[hR1]
  refine⟨(show (-9223372036854775808:Int)≤r.a4+1∧r.a4+1≤(9223372036854775807:Int) from by omega),cN,cR,cT9,[some 0],.tup [],_,rfl,rfl,Nat.le_refl _,rfl,?_,trivial⟩
  repeat first
   |exact trivial
   |refine⟨rfl,?_⟩
 ·have e:¬kd=21:=of_decide_eq_false h
  have e9:¬kd=9:=of_decide_eq_false h9
  have e8:kd=8:=of_decide_eq_true h8
  rw[if_neg e,if_neg e9,if_pos e8] at hR1
  rw[hR1]
  refine⟨cN,cR,cT8,[some 0],.tup [],_,rfl,rfl,Nat.le_refl _,rfl,?_,trivial⟩
  repeat first
   |exact trivial
   |refine⟨rfl,?_⟩
 ·have e:¬kd=21:=of_decide_eq_false h
  have e9:¬kd=9:=of_decide_eq_false h9
  have e8:¬kd=8:=of_decide_eq_false h8
  rw[if_neg e,if_neg e9,if_neg e8] at hR1
  rw[hR1]
  refine⟨[some 0],.tup [],_,rfl,rfl,Nat.le_refl _,rfl,?_,trivial⟩
  repeat first
   |exact trivial
   |refine⟨rfl,?_⟩
theorem Q97 {l:List Node}(hw:Wf l){c:Cur}(h0:0≤c.n)(h1:c.n<l.length){K:Int}(h:Q27 c+c.n≤K):∀ k,k≤(Qa l c).length→∀ x∈downs l c k,0≤x.n∧x.n<l.length∧(Q27 x:Int)+x.n≤K
 |0,_,x,hx=>by cases hx
 |k+1,hk,x,hx=>by
  rcases List.mem_cons.1 hx with rfl|hx
  ·have hm:(Qa l c)[(k:Int).toNat]?.getD 0=(Qa l c)[k]:=by rw[Int.toNat_natCast,List.getElem?_eq_getElem (by omega)];rfl
   obtain⟨q0,q1⟩:=hw c.n h0 h1 _ (List.getElem_mem (by omega:k<(Qa l c).length))
   have e:(Q1X l c k).n=(Qa l c)[k]:=hm
   have e2:Q27 (Q1X l c k)=Q27 c+1:=rfl
   have q0:0≤(Qa l c)[k]:=q0
   have q1:(Qa l c)[k]<c.n:=q1
   rw[e,e2]
   omega
  ·exact Q97 hw h0 h1 h k (by omega) x hx
theorem Qfe {l:List Node}(hw:Wf l){c:Cur}(h0:0≤c.n)(h1:c.n<l.length)(n:Nat):∀ x∈Q4A l c n,(Q27 x:Int)≤Q27 c+c.n:=fun x hx=>by
 have h:=Q4s (l:=l) (Q:=fun x=>0≤x.n∧x.n<l.length∧(Q27 x:Int)+x.n≤Q27 c+c.n) (fun y hy z hz=>Q97 hw hy.1 hy.2.1 hy.2.2 _ (Nat.le_refl _) z hz) n [c] (fun y hy=>by
  obtain rfl:y=c:=by simpa using hy
  exact⟨h0,h1,Int.le_refl _⟩) x hx
 obtain⟨a,_,b⟩:=h
 omega
def wrR (r:Rp)(d:Dg):Rp :=
 if d.c=1 then { r with w1:=r.w1+1 } else if d.c=2 then { r with w2:=r.w2+1 } else if d.c=3 then { r with w3:=r.w3+1 }
 else if d.c=4 then { r with w4:=r.w4+1 } else if d.c=5 then { r with w5:=r.w5+1 } else r
def Q9K (K:Int)(l:List Node)(ws:List Cur)(r:Rp):Rp:=ws.foldl (fun r c=>Q2Y K l c r) r
def Q5V (ds:List Dg)(r:Rp):Rp:=ds.foldl wrR r
def Q5R (b:List UInt8):Rp:=Q5V (Qd b).d (Q9K (Q6 b).kind (Qp (Qd b)).n (Q4A (Qp (Qd b)).n (.root (Qd b).n.length) 1073741824) (Q9C b.length (Q6 b).r fun k=>Q1v (Q14 (Q6 b).r) k))
structure Rp.lo (r:Rp) (i:Int):Prop where
 e4:0≤r.a4∧r.a4≤i
 e5:0≤r.a5∧r.a5≤1000000
 e6:0≤r.a6∧r.a6≤402 * i
 e7:0≤r.a7∧r.a7≤402 * i
theorem Qii (l:List Int)(al:List TAttr)(hal:al.length≤402){r:Rp}{i:Int}(h:r.lo i):(Q8Q l al r).lo (i+1):=by
 have hb:=Q6R l al
 obtain⟨h4,h5,h6,h7⟩:=h
 unfold Q8Q
 exact⟨by show 0≤r.a4∧r.a4≤i+1;omega,h5,by show 0≤r.a6+(al.length:Int)∧r.a6+(al.length:Int)≤402 * (i+1);omega,by show 0≤r.a7+(Q2X l al:Int)∧r.a7+(Q2X l al:Int)≤402 * (i+1);omega⟩
theorem Qgr (K:Int)(l:List Node)(c:Cur)(hc:Q27 c≤1000000)(hr:(ruN K l c.n).length≤400){r:Rp}{i:Int}(h:r.lo i):(Q2Y K l c r).lo (i+1):=by
 have hd:=Q2R l c
 have hal:(Qy (ruN K l c.n) 0 (ruN K l c.n).length).attrs.length≤402:=by
  have h1:=Q4G (ruN K l c.n) 0 (ruN K l c.n).length
  have h2:=Q6h (ruN K l c.n) 0 (ruN K l c.n).length
  omega
 obtain⟨h4,h5,h6,h7⟩:=h
 unfold Q2Y
 split
 ·refine⟨by show 0≤r.a4+1∧r.a4+1≤i+1;omega,?_,by show 0≤r.a6∧r.a6≤402 * (i+1);omega,by show 0≤r.a7∧r.a7≤402 * (i+1);omega⟩
  show 0≤(if r.a5<QH l c then QH l c else r.a5)∧(if r.a5<QH l c then QH l c else r.a5)≤1000000
  split<;>omega
 ·split
  ·have hb:=Q6R (ruN K l c.n) (Qy (ruN K l c.n) 0 (ruN K l c.n).length).attrs
   generalize (Qy (ruN K l c.n) 0 (ruN K l c.n).length).attrs=al at hal hb
   unfold Q8Q
   exact⟨by show 0≤r.a4+1∧r.a4+1≤i+1;omega,h5,by show 0≤r.a6+(al.length:Int)∧r.a6+(al.length:Int)≤402 * (i+1);omega,by show 0≤r.a7+(Q2X _ al:Int)∧r.a7+(Q2X _ al:Int)≤402 * (i+1);omega⟩
  ·split
   ·exact Qii _ _ hal ⟨h4,h5,h6,h7⟩
   ·exact⟨by omega,h5,by omega,by omega⟩
structure Rp.wo (r:Rp) (i:Int):Prop where
 e1:0≤r.w1∧r.w1≤i
 e2:0≤r.w2∧r.w2≤i
 e3:0≤r.w3∧r.w3≤i
 e4:0≤r.w4∧r.w4≤i
 e5:0≤r.w5∧r.w5≤i
theorem Qkr {r:Rp}{i:Int}(h:r.wo i)(d:Dg):(wrR r d).wo (i+1):=by
 obtain⟨h1,h2,h3,h4,h5⟩:=h
 unfold wrR
 split
 ·exact⟨by show 0≤r.w1+1∧r.w1+1≤i+1;omega,by show 0≤r.w2∧r.w2≤i+1;omega,by show 0≤r.w3∧r.w3≤i+1;omega,by show 0≤r.w4∧r.w4≤i+1;omega,by show 0≤r.w5∧r.w5≤i+1;omega⟩
 split
 ·exact⟨by show 0≤r.w1∧r.w1≤i+1;omega,by show 0≤r.w2+1∧r.w2+1≤i+1;omega,by show 0≤r.w3∧r.w3≤i+1;omega,by show 0≤r.w4∧r.w4≤i+1;omega,by show 0≤r.w5∧r.w5≤i+1;omega⟩
 split
 ·exact⟨by show 0≤r.w1∧r.w1≤i+1;omega,by show 0≤r.w2∧r.w2≤i+1;omega,by show 0≤r.w3+1∧r.w3+1≤i+1;omega,by show 0≤r.w4∧r.w4≤i+1;omega,by show 0≤r.w5∧r.w5≤i+1;omega⟩
 split
 ·exact⟨by show 0≤r.w1∧r.w1≤i+1;omega,by show 0≤r.w2∧r.w2≤i+1;omega,by show 0≤r.w3∧r.w3≤i+1;omega,by show 0≤r.w4+1∧r.w4+1≤i+1;omega,by show 0≤r.w5∧r.w5≤i+1;omega⟩
 split
 ·exact⟨by show 0≤r.w1∧r.w1≤i+1;omega,by show 0≤r.w2∧r.w2≤i+1;omega,by show 0≤r.w3∧r.w3≤i+1;omega,by show 0≤r.w4∧r.w4≤i+1;omega,by show 0≤r.w5+1∧r.w5+1≤i+1;omega⟩
 ·exact⟨by omega,by omega,by omega,by omega,by omega⟩
def rp0:Rp:=⟨0,0,0,0,0,0,0,0,0,0,0,0,0,0,0,0,0,0,0,0,0,0,0,0,0,0⟩
theorem QfV (K:Int)(l:List Node)(c:Cur){r:Rp}{i:Int}(h:r.wo i):(Q2Y K l c r).wo i:=by
 obtain⟨h1,h2,h3,h4,h5⟩:=h
 unfold Q2Y Q8Q
 repeat' split
 all_goals exact⟨h1,h2,h3,h4,h5⟩
theorem QhI (b:List UInt8)(hb:b.length≤100000):(Qd b).d.length≤400000:=by
 have hs:=Q6o b hb
 have hr:=(Q2y b).2.2.1
 obtain⟨h1,h2⟩:=QaG hs.ok hs.hr (Q5g b)
 have h1:MkI (Qd b) b (3+3 * (Q6 b).r.length) (2+3 * (Q6 b).r.length):=h1
 have hd:=h1.i.d
 omega
def Q9d (K M rt:Int)(R O N D WA:List AV)(T0 N1:Rp):Nat→List AV→List Ob→Option (AV×List Ob):=fun f args _=>match f,args with
 |13,[.slc 1 _]=>some (.agg [.val (.int .i64 K),.val (.int .i64 M),.slc 1 R,.slc 1 O,.ref [.slc 6 N],.val (.int .i64 rt),.slc 3 D],[])
 |69,[.box 0 0,.agg _]=>some (.tup [],[.box T0.cs])
 |70,[.box 0 0,.agg _,.agg _]=>some (.tup [],[.box N1.cs])
 |29,[.agg _]=>some (.agg [.opt (.ref [.slc 6 N]),.val (.int .i64 rt),.val (.int .i64 0),.val (.int .i64 0),.opt (.val (.pointer none))],[])
 |30,[.agg _,.val (.int .i64 _)]=>some (.slc 5 WA,[])
 |_,_=>none
theorem QiW (b:List UInt8)(hl:b.length≤400):BCall prog 31 [.slc 1 (Q5 b)] [] (.agg (Q5R b).cs) []:=by
 have hO:=Q6y b (by omega)
 have hN:=Qbz b
 have hS:=(QdR b).d
 have cP:=QdQ b (by omega)
 have hrl:=(Q2y b).2.2.1
 have hdn:=QhI b (by omega)
 have hkd:(Q6 b).kind=0∨(Q6 b).kind=1∨(Q6 b).kind=2:=Q4S b
 have cX:=Qk3 b.length (Q6 b) (by omega)
 have cC:=(QeZ (Q6 b) (Qd b)).res (res':=.agg ((Cur.root (Qd b).n.length).el (Q0 (Qp (Qd b)).n))) ⟨.inr (.inr (.inl ⟨rfl,trivial⟩)),.inl rfl,.inl rfl,.inl rfl,.inl rfl,trivial⟩
 have cW:=Qga (Qp (Qd b)).n b.length 400000 hO.ar (by omega) (by omega) (.root (Qd b).n.length) hO.root 1073741824 (by omega)
 have hAt:CurB (Qp (Qd b)).n b 400000 (.root (Qd b).n.length):=⟨hO.root,[],[],by show b=[]++(pr (Qp (Qd b)).n (Qd b).n.length++[]);rw[hO.p];simp,rfl⟩
 have hAll:=Qgp hO.ar hN hAt 1073741824
 have hHi:=Qfe hO.ar.wf (c:=.root (Qd b).n.length) (by show (0:Int)≤((Qd b).n.length:Int);omega) hO.root.h1 1073741824
 have hln:=hO.n
 have har:=hO.ar
 obtain⟨RR,hRR⟩:=exq (Q5R b)
 rw[←hRR]
 unfold Q5R at hRR
 have cNd:∀ c:Cur,c∈Q4A (Qp (Qd b)).n (.root (Qd b).n.length) 1073741824→∀ (i:Int) (r:Rp),0≤i→i≤1073741824→r.lo i→BCall prog 70 [.box 0 0,Q5H (Q6 b) (Qd b),.agg (c.el (Q0 (Qp (Qd b)).n))] [.box r.cs] (.tup []) [.box (Q2Y (Q6 b).kind (Qp (Qd b)).n c r).cs]∧(Q2Y (Q6 b).kind (Qp (Qd b)).n c r).lo (i+1):=fun c hc i r hi0 hi hr=>by
  have hx:=hAll c hc
  have hp:=CurB.pr har (by omega) (by omega) (by omega) hx
  have hh:=hHi c hc
  have hroot:(Q27 (.root (Qd b).n.length):Int)+(Cur.root (Qd b).n.length).n≤400001:=by
   show ((1:Nat):Int)+((Qd b).n.length:Int)≤400001
   have:=QaU (Qd b)
   omega
  have hpl:(pr (Qp (Qd b)).n c.n).length≤400:=by
   have h1:=hx.1.w
   have h2:=har.wide c.n hx.1.h0 hx.1.h1
   have h3:=hx.1.f0
   omega
  have hpc:=QgN hkd (pr (Qp (Qd b)).n c.n)
  have hru:(ruN (Q6 b).kind (Qp (Qd b)).n c.n).length≤400:=by rw[ruN,Q1F,List.length_map];omega
  obtain⟨h4,h5,h6,h7⟩:=hr
  exact⟨Qks (Q6 b) (Qd b) c r hp (by omega) (by omega) (by omega) (by omega) (by omega) (by omega),Qgr _ _ _ (by omega) hru ⟨h4,h5,h6,h7⟩⟩
 generalize Qd b=m at cP cC cX cW cNd hln har hS hRR hdn
 generalize Q6 b=t at cP cC cX cNd hRR
 obtain⟨rt,hrt⟩:=exq (m.n.length:Int)
 unfold Q5H at cP cC cNd
 simp only[Cur.el] at cC cW
 rw[←hrt] at cP cC cW cNd hRR
 have hwn:(Q4A (Qp m).n (.root rt) 1073741824).length≤1073741824:=Q8E _ _ _
 obtain⟨nb,hnb⟩:=QX b
 rw[←hnb.eq] at cX hRR
 obtain⟨T0,hT0⟩:=exq (Q9C nb t.r fun k=>Q1v (Q14 t.r) k)
 rw[←hT0] at cX hRR
 have hlo0:T0.lo 0:=by rw[hT0];exact⟨⟨Int.le_refl _,Int.le_refl _⟩,⟨Int.le_refl _,(show (0:Int)≤1000000 from by decide)⟩,⟨Int.le_refl _,(show (0:Int)≤402 * 0 from by decide)⟩,⟨Int.le_refl _,(show (0:Int)≤402 * 0 from by decide)⟩⟩
 have hwo0:T0.wo 0:=by rw[hT0];exact⟨⟨Int.le_refl _,Int.le_refl _⟩,⟨Int.le_refl _,Int.le_refl _⟩,⟨Int.le_refl _,Int.le_refl _⟩,⟨Int.le_refl _,Int.le_refl _⟩,⟨Int.le_refl _,Int.le_refl _⟩⟩
 clear hT0
 generalize Q4A (Qp m).n (.root rt) 1073741824=ws at cW hwn cNd hRR
 unfold Txt.cs at cX
 generalize (Qp m).n=l at cP cC cW cNd hRR
 generalize m.d=ds at cP cC cNd hS hRR hdn
 generalize t.kind=K at cP cC cNd cX hRR
 generalize t.bom=M at cP cC cNd cX
 generalize hR:Q1 t.r=R at cP cC cX cNd
 generalize Q9 t.off=O at cP cC cX cNd
 generalize hRW:Q9K K l ws T0=RW at hRR
 clear hO hN hAt hrt hR hAll hHi hln har hrl hkd
 have hblen:std.len (Q5 b)=nb:=by show ((Q5 b).length:Int)=nb;rw[Q1A,hnb.eq]
 obtain⟨nw,hnw⟩:=QX ws
 have hwl:std.len (QC (Q0 l) ws)=nw:=by show ((QC (Q0 l) ws).length:Int)=nw;rw[Q2w,hnw.eq]
 obtain⟨nd,hnd⟩:=QX ds
 have hdl:std.len (Qz ds)=nd:=by show ((Qz ds).length:Int)=nd;rw[Qz,List.length_map,hnd.eq]
 have hz:(0:Int)≤0:=Int.le_refl _
 refine fnN (cs:=Q9d K M rt R O (Q0 l) (Qz ds) (QC (Q0 l) ws) T0 T0) func31 rfl (by kernel_rfl) ?_
 intro w0 g0
 generalize hp:std=p
 generalize hWA:QC (Q0 l) ws=WA
 generalize hN:Q0 l=N
 generalize hD:Qz ds=D
 generalize hB:Q5 b=B
 generalize hT:Q8 p tys (Q9d K M rt R O N D WA T0 T0) _ _ _ _=T
 cbv at hT
 subst hT
 simp only[Tree.ok,Q4,S0]
 subst hp hWA hN hD hB
 have cX2:BCall prog 69 [.box 0 0,.agg [.val (.int .i64 K),.val (.int .i64 M),.slc 1 R,.slc 1 O]] [.box (Rp.cs ⟨std.len (Q5 b),0,0,0,0,0,0,0,0,0,0,0,0,0,0,0,0,0,0,0,0,0,0,0,0,0⟩)] (.tup []) [.box T0.cs]:=by rw[hblen];exact cX
 refine⟨cP,cX2,cC,cW,?_⟩
 refine Q8p (cs:=(fun x:Int×Rp=>Q9d K M rt R O (Q0 l) (Qz ds) (QC (Q0 l) ws) T0 (Q2Y K l (ws[x.1.toNat]?.getD (.root 0)) x.2))) (ord:=fun _=>.nil) Q6N (by kernel_rfl) (by kernel_rfl) (by kernel_rfl) (X:=Int×Rp) (fun x=>⟨[(2,.box 0 0),(3,.box 1 0),(4,.box 2 0),(19,.slc 5 (QC (Q0 l) ws)),(20,.val (.int .i64 nw)),(21,.val (.int .i64 x.1))],[.box rp0.cs,.box [.val (.int .i64 K),.val (.int .i64 M),.slc 1 R,.slc 1 O,.ref [.slc 6 (Q0 l)],.val (.int .i64 rt),.slc 3 (Qz ds)],.box x.2.cs]⟩) (fun x=>0≤x.1∧x.1≤nw∧x.2.lo x.1∧x.2.wo 0∧Q9K K l (ws.drop x.1.toNat) x.2=RW) (fun x=>(nw-x.1).toNat) (0,T0) ?_ ?_ ?_
 ·exact⟨Int.le_refl _,by have:=hnw.eq;show (0:Int)≤nw;omega,hlo0,hwo0,hRW⟩
 ·refine⟨[some 0,some 1,some 2],_,rfl,?_⟩
  repeat first
   |exact trivial
   |refine⟨rfl,?_⟩
   |refine⟨hwl,?_⟩
   |refine⟨gI (hwl),?_⟩
   |refine⟨gA (hwl),?_⟩
   |refine⟨gB (hwl),?_⟩
   |refine⟨gR (hwl),?_⟩
   |refine⟨gT (hwl),?_⟩
 ·rintro⟨i,r⟩ ⟨hi0,hi1,hlo,hwo,hJ⟩
  simp only at hi0 hi1 hlo hwo hJ
  rcases Int.lt_or_eq_of_le hi1 with hlt|heq
  ·have hil:i.toNat<ws.length:=by have:=hnw.eq;omega
   have hx:ws[i.toNat]?.getD (.root 0)=ws[i.toNat]:=by rw[List.getElem?_eq_getElem hil];rfl
   have hat:(QC (Q0 l) ws).getD i.toNat .dead=.agg ((ws[i.toNat]?.getD (.root 0)).el (Q0 l)):=by
    rw[List.getD_eq_getElem?_getD,QC,List.getElem?_map,List.getElem?_eq_getElem hil];rfl
   have hnw2:nw≤1073741824:=by have:=hnw.eq;omega
   obtain⟨cNo,hlo1⟩:=cNd (ws[i.toNat]?.getD (.root 0)) (by rw[hx];exact List.getElem_mem hil) i r hi0 (by omega) hlo
   have hwo1:(Q2Y K l (ws[i.toNat]?.getD (.root 0)) r).wo 0:=QfV K l _ hwo
   rw[List.drop_eq_getElem_cons hil,←hx] at hJ
   have hJ1:Q9K K l (ws.drop (i.toNat+1)) (Q2Y K l (ws[i.toNat]?.getD (.root 0)) r)=RW:=hJ
   clear hJ
   simp only
   generalize Q2Y K l (ws[i.toNat]?.getD (.root 0)) r=r1 at cNo hlo1 hwo1 hJ1
   generalize ws[i.toNat]?.getD (.root 0)=x at cNo hat
   have hUx:Q3A (.opt (upO (Q0 l) x)):=Qau _ _
   clear hx hil
   generalize hp:std=p
   generalize hWA:QC (Q0 l) ws=WA
   generalize hN:Q0 l=N
   generalize hD:Qz ds=D
   generalize hB:Q5 b=B
   generalize hT:Q8 p tys (Q9d K M rt R O N D WA T0 r1) _ _ _ _=T
   cbv at hT
   subst hT
   simp only[Tree.ok,Q4,S0]
   subst hp hWA hN hD hB
   have hwl2:((QC (Q0 l) ws).length:Int)=nw:=hwl
   simp only[Cur.el] at cNo
   unfold Rp.cs at cNo
   simp only[std,hat,Cur.el,AV.cells,List.getD_cons_zero,List.getD_cons_succ,Qg,QiR,Q2H,hwl2,decide_eq_true_eq,decide_eq_false_iff_not,beq_self_eq_true,Bool.not_true,Bool.false_eq_true,Bool.true_eq_false,false_implies,true_implies,and_true]
   refine⟨fun _=>⟨⟨hi0,hlt⟩,⟨by trivial,trivial,trivial,trivial,hUx⟩,cNo,(show (-9223372036854775808:Int)≤i+1∧i+1≤(9223372036854775807:Int) from by omega),(i+1,r1),⟨?_,?_,hlo1,hwo1,?_⟩,?_,[some 0,some 1,some 2],_,rfl,?_⟩,fun h=>absurd hlt h⟩
   ·show 0≤i+1;omega
   ·show i+1≤nw;omega
   ·show Q9K K l (ws.drop (i+1).toNat) r1=RW
    rw[show (i+1).toNat=i.toNat+1 by omega];exact hJ1
   ·show (nw-(i+1)).toNat<(nw-i).toNat;omega
   ·repeat first
     |exact trivial
     |refine⟨rfl,?_⟩
     |refine⟨hwl,?_⟩
     |refine⟨gI (hwl),?_⟩
     |refine⟨gA (hwl),?_⟩
     |refine⟨gB (hwl),?_⟩
     |refine⟨gR (hwl),?_⟩
     |refine⟨gT (hwl),?_⟩
  ·have hJ2:r=RW:=by
    rw[List.drop_eq_nil_of_le (by have:=hnw.eq;omega)] at hJ
    exact hJ
   rw[heq]
   subst hJ2
   clear hJ hlo hi0 hi1 heq cNd hlo0 hwo0
   simp only
   generalize Q2Y K l _ r=r1
   generalize hp:std=p
   generalize hWA:QC (Q0 l) ws=WA
   generalize hN:Q0 l=N
   generalize hD:Qz ds=D
   generalize hB:Q5 b=B
   generalize hT:Q8 p tys (Q9d K M rt R O N D WA T0 r1) _ _ _ _=T
   cbv at hT
   subst hT
   simp only[Tree.ok,Q4,S0]
   subst hp hWA hN hD hB
   refine⟨fun h=>absurd (of_decide_eq_true h) (by omega),fun _=>?_⟩
   rw[if_pos trivial]
   generalize hp:std=p
   generalize hWA:QC (Q0 l) ws=WA
   generalize hN:Q0 l=N
   generalize hD:Qz ds=D
   generalize hB:Q5 b=B
   generalize hT:Q8 p tys (Q9d K M rt R O N D WA T0 T0) _ _ _ _=T
   cbv at hT
   subst hT
   simp only[Tree.ok,Q4,S0]
   subst hp hWA hN hD hB
   refine Q1P (cs:=Q9d K M rt R O (Q0 l) (Qz ds) (QC (Q0 l) ws) T0 T0) (by kernel_rfl) (X:=Int×Rp) (fun x=>⟨[(2,.box 0 0),(4,.box 1 0),(30,.slc 3 (Qz ds)),(31,.val (.int .i64 nd)),(32,.val (.int .i64 x.1))],[.box rp0.cs,.box x.2.cs]⟩) (fun x=>0≤x.1∧x.1≤nd∧x.2.wo x.1∧Q5V (ds.drop x.1.toNat) x.2=RR) (fun x=>(nd-x.1).toNat) (0,r) ?_ ?_ ?_
   ·exact⟨Int.le_refl _,by have:=hnd.eq;show (0:Int)≤nd;omega,hwo,hRR.symm⟩
   ·refine⟨[some 0,some 2],_,rfl,?_⟩
    repeat first
     |exact trivial
     |refine⟨rfl,?_⟩
     |refine⟨hdl,?_⟩
     |refine⟨gI (hdl),?_⟩
     |refine⟨gA (hdl),?_⟩
     |refine⟨gB (hdl),?_⟩
     |refine⟨gR (hdl),?_⟩
     |refine⟨gT (hdl),?_⟩
   ·clear hwo hRR hwl hnw hblen hnb cP cX cX2 cC cW hRW
    clear r
    rintro⟨i,r⟩ ⟨hi0,hi1,hwo,hJ⟩
    simp only at hi0 hi1 hwo hJ
    rcases Int.lt_or_eq_of_le hi1 with hlt|heq
    ·have hil:i.toNat<ds.length:=by have:=hnd.eq;omega
     obtain⟨x,hx⟩:=exq (ds[i.toNat])
     have hxm:x∈ds:=by rw[hx];exact List.getElem_mem hil
     have hat:std.at_ (Qz ds) i=x.av:=by
      show (Qz ds).getD i.toNat .dead=_
      rw[List.getD_eq_getElem?_getD,Qz,List.getElem?_map,List.getElem?_eq_getElem hil,hx];rfl
     obtain⟨_,_,_,hk0,hk1⟩:=hS x hxm
     have hwo1:=Qkr hwo x
     rw[List.drop_eq_getElem_cons hil,←hx] at hJ
     have hJ1:Q5V (ds.drop (i.toNat+1)) (wrR r x)=RR:=hJ
     rw[show i.toNat+1=(i+1).toNat by omega] at hJ1
     obtain⟨kd,hkd⟩:=exq x.c
     have hX:std.int (std.nth (std.cel (std.at_ (Qz ds) i)) 2)=kd:=by rw[hat,hkd];rfl
     have hX0:(std.all [std.hasI .i64 (std.nth (std.cel (std.at_ (Qz ds) i)) 0),std.hasI .i64 (std.nth (std.cel (std.at_ (Qz ds) i)) 1),std.hasI .i64 (std.nth (std.cel (std.at_ (Qz ds) i)) 2)]).q:=by rw[hat];exact⟨rfl,rfl,rfl,trivial⟩
     have hlt2:std.ltI i nd=true:=decide_eq_true hlt
     have hin:i<std.len (Qz ds):=by rw[hdl];exact hlt
     obtain⟨r1,hr1⟩:=exq (wrR r x)
     rw[←hr1] at hwo1 hJ1
     unfold wrR at hr1
     rw[←hkd] at hr1 hk0 hk1
     have hnd9:nd≤400000:=by rw[hnd.eq];omega
     obtain⟨b1,b2,b3,b4,b5⟩:=hwo
     have hfr:∀ w:Int,0≤w∧w≤i→(std.inR .i64 (std.add w 1)).q:=fun w hw=>by
      show -9223372036854775808≤w+1∧w+1≤9223372036854775807
      omega
     clear hx hxm hat hkd hJ hil hS
     obtain rfl|rfl|rfl|rfl|rfl:kd=1∨kd=2∨kd=3∨kd=4∨kd=5:=by omega
     all_goals
      simp only[Int.reduceEq,if_true,if_false] at hr1
      generalize hC:Code.region 12 _ _=C12
      generalize hp:std=p
      generalize hWA:QC (Q0 l) ws=WA
      generalize hNA:Q0 l=NA
      generalize hDD:Qz ds=DD
      rw[hp,hDD] at hX
      generalize hT:Q8 p tys (Q9d K M rt R O NA DD WA T0 T0) _ _ _ _=T
      cbv at hT
      obtain⟨dd,hdd⟩:∃ dd:Nat,1+1=dd:=⟨_,rfl⟩
      cbv at hdd
      rw[hX] at hT
      subst hC
      cbv at hT
      subst hT
      simp only[Tree.ok,Q4,S0]
      subst hp hDD
      subst hr1
      refine⟨fun _=>⟨⟨hi0,hin⟩,hX0,(by first|exact hfr _ b1|exact hfr _ b2|exact hfr _ b3|exact hfr _ b4|exact hfr _ b5),(show (-9223372036854775808:Int)≤i+1∧i+1≤(9223372036854775807:Int) from by omega),(i+1,_),⟨?_,?_,hwo1,hJ1⟩,?_,[some 0,some 1],_,rfl,?_⟩,fun h=>absurd (hlt2.symm.trans h) (by decide)⟩
      ·show 0≤i+1;omega
      ·show i+1≤nd;omega
      ·show (nd-(i+1)).toNat<(nd-i).toNat;omega
      ·repeat first
        |exact trivial
        |refine⟨rfl,?_⟩
        |refine⟨hdl,?_⟩
        |refine⟨gI (hdl),?_⟩
        |refine⟨gA (hdl),?_⟩
        |refine⟨gB (hdl),?_⟩
        |refine⟨gR (hdl),?_⟩
        |refine⟨gT (hdl),?_⟩
    ·have hJ2:r=RR:=by
      rw[List.drop_eq_nil_of_le (by have:=hnd.eq;omega)] at hJ
      exact hJ
     subst hJ2
     have hl3:std.ltI i nd=false:=decide_eq_false (by omega)
     clear hJ hwo hS
     unfold Rp.cs
     generalize Code.region 12 _ _=C12
     generalize hp:std=p
     generalize hWA:QC (Q0 l) ws=WA
     generalize hN:Q0 l=N
     generalize hD:Qz ds=D
     generalize hT:Q8 p tys (Q9d K M rt R O N D WA T0 T0) _ _ _ _=T
     cbv at hT
     subst hT
     simp only[Tree.ok,Q4,S0]
     subst hp hWA hN hD
     refine⟨fun h=>absurd (hl3.symm.trans h) (by decide),fun _=>?_⟩
     rw[if_pos trivial]
     generalize hp:std=p
     generalize hWA:QC (Q0 l) ws=WA
     generalize hN:Q0 l=N
     generalize hD:Qz ds=D
     generalize hT:Q8 p tys (Q9d K M rt R O N D WA T0 T0) _ _ _ _=T
     cbv at hT
     subst hT
     simp only[Tree.ok,Q4,S0]
     subst hp hWA hN hD
     exact .pure rfl ⟨.inl rfl,.inl rfl,.inl rfl,.inl rfl,.inl rfl,.inl rfl,.inl rfl,.inl rfl,.inl rfl,.inl rfl,.inl rfl,.inl rfl,.inl rfl,.inl rfl,.inl rfl,.inl rfl,.inl rfl,.inl rfl,.inl rfl,.inl rfl,.inl rfl,.inl rfl,.inl rfl,.inl rfl,.inl rfl,.inl rfl,trivial⟩
end Go.Proofs.YtibemhahkicbpaaGreat
namespace Go.Proofs.YtibemhahkicbpaaGreat
open Go.RowKit Go.Lib
def Q8V (x:Node):Prop:=x.kind=21∨x.kids=[]
def MkL (m:Mk):Prop:=∀ x∈m.n,Q8V x
theorem Q3S {l:List Node}(h:∀ x∈l,Q8V x){y:Node}(hy:Q8V y):∀ x∈l++[y],Q8V x:=fun x hx=>by
 rcases List.mem_append.1 hx with hx|hx
 ·exact h x hx
 ·obtain rfl:x=y:=by simpa using hx
  exact hy
section
variable {m:Mk}
theorem MkL.lk (h:MkL m)(t:Txt)(b:List UInt8)(kind f u:Int):MkL (lkF t b kind f u m):=Q3S (y:=Qj kind _) h (.inr rfl)
theorem MkL.shut (h:MkL m)(kind:Int)(bs:List UInt8)(a:Int):MkL (Q16 a (Q1a (Qj kind bs) m)):=Q3S (y:=QM _ 21 _) (Q3S (y:=Qj kind bs) h (.inr rfl)) (.inl rfl)
theorem MkL.wrong (h:MkL m)(t:Txt)(c f u:Int):MkL (Qw t c f u m):=h
theorem MkL.miss (h:MkL m)(t:Txt)(a:Int):MkL (Q1Q t a m):=MkL.shut (m:=Qw t 4 a a m) h _ _ _
end
theorem MkL.missGo (t:Txt)(f:Int)(k:Nat):∀ (j:Nat) (m:Mk),MkL m→MkL (missGo t f k j m)
 |0,_,h=>h
 |j+1,m,h=>by
  show MkL (if _ then _ else _)
  split
  ·exact MkL.missGo t f k j _ (h.miss t _)
  ·exact h
section
variable {m:Mk}
theorem MkL.token (h:MkL m)(t:Txt)(b:List UInt8)(kind f u:Int)(wh:Bool):MkL (Q1f t b kind f u wh m):=by
 unfold Q1f
 simp only
 generalize hm1:(if wh=false then Qw t 1 f u m else if (kind=8∨kind=9∨kind=10)∧(Qy t.r f u).right=false then Qw t 2 f u m else m)=m1
 have h1:MkL m1:=by
  rw[←hm1]
  split
  ·exact h
  ·split
   ·exact h
   ·exact h
 split
 ·unfold QZ
  split
  ·exact MkL.lk (m:=Qw t 5 f u m1) h1 t b kind f u
  ·exact MkL.lk (m:={ m1 with s:=m1.s++[⟨Qs t f u,[]⟩] }) h1 t b kind f u
 ·split
  ·unfold Q1Y
   simp only
   split
   ·exact MkL.lk (m:=Qw t 3 f u m1) h1 t b kind f u
   ·exact MkL.shut (MkL.missGo t f _ _ _ h1) _ _ _
  ·exact h1.lk t b kind f u
end
theorem MkL.toks (t:Txt)(b:List UInt8):∀ (ts:List Tok) (m:Mk),MkL m→MkL (ts.foldl (Q4F t b) m)
 | [],m,h=>h
 |x::ts,m,h=>by
  rw[List.foldl_cons]
  exact MkL.toks t b ts _ (h.token t b _ _ _ _)
theorem QiY (b:List UInt8):MkL (Qd b):=by
 refine MkL.missGo _ _ _ _ _ (MkL.toks _ _ _ _ ?_)
 unfold Q2B
 have h0:MkL mk0:=fun x hx=>by cases hx
 split
 ·exact Q3S (y:=Qj 23 _) h0 (.inr rfl)
 ·exact h0
theorem QgT (b:List UInt8):∀ n:Int,0≤n→n<(Qd b).n.length→Q8V (Qe (Qp (Qd b)).n n):=fun n h0 h1=>by
 have hlt:n.toNat<(Qd b).n.length:=by omega
 have e:Qe (Qp (Qd b)).n n=(Qd b).n[n.toNat]:=by
  show Qe ((Qd b).n++[_]) n=_
  rw[Qe,if_pos ⟨h0,by simp only[List.length_append,List.length_singleton];omega⟩,List.getElem?_append_left hlt,List.getElem?_eq_getElem hlt];rfl
 rw[e]
 exact QiY b _ (List.getElem_mem hlt)
def pz:Int→List Ev→List (Ev×Int)
 |_,[]=>[]
 |d,e::r=>if e.do_=1 then (e,d+1)::pz (d+1) r else if e.do_=3 then pz (d-1) r else (e,d)::pz d r
def evC (l:List Node):Cur→List (Ev×Int)
 |.root _=>[]
 |.kid n f k up=>if QD l n=21 then [(⟨1,0,[]⟩,QH l (.kid n f k up))] else [(⟨2,QD l n,pr l n⟩,QH l (.kid n f k up))]
def Qlf (l:List Node):Cur→Int
 |.root _=>0
 |.kid _ _ _ up=>QH l up
def QiV:Cur→Bool
 |.root _=>true
 |.kid ..=>false
def Qc9 (l:List Node)(c:Cur):List (Ev×Int):=pz (Qlf l c) (spV l c.n (QiV c))
theorem Qd4 (l:List Node)(hw:Wf l):∀ (f:Nat) (n:Int),n.toNat<f→0≤n→n<l.length→∀ (d:Int) (r:List Ev),pz d (spV l n false++r)=pz d (spV l n false)++pz d r
 |0,_,h,_,_,_,_=>by omega
 |f+1,n,h,h0,h1,d,r=>by
  rw[Q8O hw h0 h1]
  split
  ·rfl
  ·rw[if_neg (by decide),if_neg (by decide)]
   have key:∀ (ks:List Int),(∀ k∈ks,0≤k∧k<n)→∀ (d:Int) (r:List Ev),pz d (ks.flatMap (fun k=>spV l k false)++r)=pz d (ks.flatMap (fun k=>spV l k false))++pz d r:=by
    intro ks
    induction ks with
    |nil=>intro _ d r;rfl
    |cons k ks ih =>
     intro hk d r
     obtain⟨k0,k1⟩:=hk k (List.mem_cons_self ..)
     have ih:=ih fun y hy=>hk y (List.mem_cons_of_mem _ hy)
     rw[List.flatMap_cons,List.append_assoc,Qd4 l hw f k (by omega) k0 (by omega) d,Qd4 l hw f k (by omega) k0 (by omega) d,ih d r,List.append_assoc]
   have hk:=hw n h0 h1
   show pz d ((⟨1,0,[]⟩:Ev)::((Qe l n).kids.flatMap (fun k=>spV l k false)++[⟨3,0,[]⟩])++r)=pz d ((⟨1,0,[]⟩:Ev)::((Qe l n).kids.flatMap (fun k=>spV l k false)++[⟨3,0,[]⟩]))++pz d r
   have c1:∀ q:List Ev,pz d ((⟨1,0,[]⟩:Ev)::q)=(⟨1,0,[]⟩,d+1)::pz (d+1) q:=fun q=>rfl
   rw[List.cons_append,c1,c1,List.append_assoc,key _ hk,key _ hk]
   have e3:pz (d+1) ([⟨3,0,[]⟩]++r)=pz d r:=by
    show pz (d+1-1) r=pz d r
    rw[Int.add_sub_cancel]
   have e4:pz (d+1) [⟨3,0,[]⟩]=[]:=rfl
   rw[e3,e4,List.append_nil,List.cons_append]
theorem Qef (l:List Node)(hw:Wf l)(ks:List Int)(hk:InR l ks)(d:Int)(r:List Ev):pz d (ks.flatMap (fun k=>spV l k false)++r)=ks.flatMap (fun k=>pz d (spV l k false))++pz d r:=by
 induction ks with
 |nil=>rfl
 |cons k ks ih =>
  obtain⟨k0,k1⟩:=hk k (List.mem_cons_self ..)
  rw[List.flatMap_cons,List.flatMap_cons,List.append_assoc,Qd4 l hw (k.toNat+1) k (by omega) k0 k1,ih fun y hy=>hk y (List.mem_cons_of_mem _ hy),List.append_assoc]
theorem Qbw (l:List Node)(c:Cur):∀ k,k≤(Qa l c).length→(downs l c k).reverse.flatMap (Qc9 l)=((Qa l c).take k).flatMap (fun n=>pz (QH l c) (spV l n false))
 |0,_=>rfl
 |k+1,h=>by
  have h1:k<(Qa l c).length:=h
  have e:(Qa l c)[(k:Int).toNat]?.getD 0=(Qa l c)[k]:=by rw[Int.toNat_natCast,List.getElem?_eq_getElem h1];rfl
  have ih:=Qbw l c k (by omega)
  show (Q1X l c k::downs l c k).reverse.flatMap (Qc9 l)=_
  rw[List.reverse_cons,List.flatMap_append,ih,List.take_add_one,List.getElem?_eq_getElem h1,List.flatMap_append]
  congr 1
  have e2:(Q1X l c k).n=(Qa l c)[k]:=e
  show Qc9 l (Q1X l c k)++[]=pz (QH l c) (spV l (Qa l c)[k] false)++[]
  rw[List.append_nil,List.append_nil]
  show pz (QH l c) (spV l (Q1X l c k).n false)=_
  rw[e2]
def QbF (R:Int):Cur→Prop
 |.root n=>n=R
 |.kid n _ _ _=>n<R
theorem Qj9 {l:List Node}{W C:Nat}{R:Int}(ha:Ar l)(hR:QD l R=20)(hL:∀ n:Int,0≤n→n<R→Q8V (Qe l n)){c:Cur}(hc:CurIn l W C c)(hr:QbF R c) :
  Qc9 l c=evC l c++(downs l c (Qa l c).length).reverse.flatMap (Qc9 l):=by
 rw[Qbw l c _ (Nat.le_refl _),List.take_length]
 have hk:InR l (Qa l c):=hc.kids ha
 have hsp:=Q8O ha.wf hc.h0 hc.h1 (QiV c)
 unfold Qc9
 rw[hsp]
 cases c with
 |root n =>
  obtain rfl:n=R:=hr
  rw[if_neg (fun h=>by cases h.2),show QiV (.root n)=true from rfl,if_pos rfl,if_pos rfl,List.nil_append,show QH l (.root n)=0 from by
   show (if QD l n=21 then (1:Int) else 0)=0
   rw[hR];rfl]
  have:=Qef l ha.wf (Qa l (.root n)) hk 0 []
  rw[show pz 0 []=[] from rfl,List.append_nil,List.append_nil] at this
  rw[List.append_nil]
  exact this
 |kid n f k up =>
  have hn:n<R:=hr
  rw[show QiV (.kid n f k up)=false from rfl]
  by_cases h21:QD l n=21
  ·rw[if_neg (fun h=>h.1 h21),if_neg (by decide),if_neg (by decide)]
   have hd:QH l (.kid n f k up)=1+QH l up:=by
    show (if QD l n=21 then (1:Int) else 0)+QH l up=_
    rw[if_pos h21]
   have he:evC l (.kid n f k up)=[(⟨1,0,[]⟩,QH l (.kid n f k up))]:=by show (if QD l n=21 then _ else _)=_;rw[if_pos h21]
   rw[he,hd]
   have:=Qef l ha.wf (Qa l (.kid n f k up)) hk (QH l up+1) [⟨3,0,[]⟩]
   show (⟨1,0,[]⟩,QH l up+1)::pz (QH l up+1) ((Qa l (.kid n f k up)).flatMap (fun k=>spV l k false)++[⟨3,0,[]⟩])=_
   rw[this,Int.add_comm 1]
   show _::(_++[])=_
   rw[List.append_nil];rfl
  ·rw[if_pos ⟨h21,rfl⟩]
   have hd:QH l (.kid n f k up)=QH l up:=by
    show (if QD l n=21 then (1:Int) else 0)+QH l up=_
    rw[if_neg h21,Int.zero_add]
   have he:evC l (.kid n f k up)=[(⟨2,QD l n,pr l n⟩,QH l (.kid n f k up))]:=by show (if QD l n=21 then _ else _)=_;rw[if_neg h21]
   have hkn:Qa l (.kid n f k up)=[]:=(hL n hc.h0 hn).resolve_left h21
   rw[he,hd,hkn];rfl
theorem Qb3 {l:List Node}{W C:Nat}{R:Int}(ha:Ar l){c:Cur}(hc:CurIn l W C c)(hr:QbF R c):∀ k,k≤(Qa l c).length→∀ x∈downs l c k,QbF R x
 |0,_,x,hx=>by cases hx
 |k+1,hk,x,hx=>by
  rcases List.mem_cons.1 hx with rfl|hx
  ·have hm:(Qa l c)[(k:Int).toNat]?.getD 0=(Qa l c)[k]:=by rw[Int.toNat_natCast,List.getElem?_eq_getElem (by omega)];rfl
   obtain⟨_,q1⟩:=ha.wf c.n hc.h0 hc.h1 _ (List.getElem_mem (by omega:k<(Qa l c).length))
   have q1:(Qa l c)[k]<c.n:=q1
   have hcr:c.n≤R:=by
    cases c with
    |root n=>exact Int.le_of_eq hr
    |kid n f k up=>exact Int.le_of_lt hr
   show (Qa l c)[(k:Int).toNat]?.getD 0<R
   rw[hm];omega
  ·exact Qb3 ha hc hr k (by omega) x hx
theorem Q9L {l:List Node}{W C:Nat}{R:Int}(ha:Ar l)(hR:QD l R=20)(hL:∀ n:Int,0≤n→n<R→Q8V (Qe l n)):∀ (n:Nat) (st:List Cur),(∀ x∈st,CurIn l W C x∧QbF R x)→coC l st≤n→(Q1y l n st).flatMap (evC l)=st.reverse.flatMap (Qc9 l)
 |0,st,_,h=>by
  have:=Qay l st
  obtain rfl:st=[]:=List.eq_nil_of_length_eq_zero (by omega)
  rfl
 |n+1,st,hin,h=>by
  by_cases hne:st=[]
  ·subst hne
   rw[Q92];rfl
  ·obtain⟨st0,x,rfl⟩:∃ st0 x,st=st0++[x]:=⟨st.dropLast,st.getLast hne,(List.dropLast_concat_getLast hne).symm⟩
   obtain⟨hx,hxr⟩:=hin x (by simp)
   have h5:coC l [x]=1+coL l (Qa l x):=by
    show co l x.n+0=_
    rw[Nat.add_zero,Q9v ha.wf hx.h0 hx.h1];rfl
   have hd:=Q6u l x _ (Nat.le_refl _)
   rw[List.take_length] at hd
   rw[Q3R,h5] at h
   have ih:=Q9L ha hR hL n (st0++downs l x (Qa l x).length) (fun y hy=>by
    rcases List.mem_append.1 hy with hy|hy
    ·exact hin y (List.mem_append_left _ hy)
    ·exact⟨Q6P ha hx _ (Nat.le_refl _) y hy,Qb3 ha hx hxr _ (Nat.le_refl _) y hy⟩) (by rw[Q3R,hd];omega)
   rw[Q7T,List.flatMap_cons,ih,List.reverse_append,List.reverse_append,List.flatMap_append,List.reverse_singleton,List.flatMap_append,←List.append_assoc,←Qj9 ha hR hL hx hxr]
   simp
theorem QiZ (b:List UInt8)(hb:b.length≤100000):(Q4A (Qp (Qd b)).n (.root (Qd b).n.length) 1073741824).flatMap (evC (Qp (Qd b)).n)=pz 0 (spV (Qp (Qd b)).n (Qd b).n.length true):=by
 have hO:=Q6y b hb
 have hR:QD (Qp (Qd b)).n (Qd b).n.length=20:=Q4T
 have h:=Q9L (W:=b.length) (C:=400000) hO.ar hR (QgT b) 1073741824 [.root (Qd b).n.length] (fun x hx=>by
  obtain rfl:x=.root (Qd b).n.length:=by simpa using hx
  exact⟨hO.root,rfl⟩) (by
  show co (Qp (Qd b)).n (Qd b).n.length+0≤_
  have:=hO.c
  omega)
 unfold Q4A
 rw[h]
 show Qc9 _ _++[]=_
 rw[List.append_nil];rfl
end Go.Proofs.YtibemhahkicbpaaGreat
namespace Go.Proofs.YtibemhahkicbpaaGreat
open Go.RowKit Go.Lib
def Q4M (K:Int)(r:Rp)(p:Ev×Int):Rp :=
 if p.1.do_=1 then { r with a4:=r.a4+1,a5:=std.maxI r.a5 p.2 }
 else if p.1.kind=9 then Q8Q (Q1F K p.1.b) (Qy (Q1F K p.1.b) 0 (Q1F K p.1.b).length).attrs { r with a4:=r.a4+1 }
 else if p.1.kind=8 then Q8Q (Q1F K p.1.b) (Qy (Q1F K p.1.b) 0 (Q1F K p.1.b).length).attrs r
 else r
theorem Qfk (K:Int){l:List Node}{R:Int}(hR:QD l R=20){c:Cur}(hc:QbF R c)(r:Rp):Q2Y K l c r=(evC l c).foldl (Q4M K) r:=by
 cases c with
 |root n =>
  obtain rfl:n=R:=hc
  unfold Q2Y
  have e:QD l (Cur.root n).n=20:=hR
  rw[e,if_neg (by decide),if_neg (by decide),if_neg (by decide)];rfl
 |kid n f k up =>
  have e:(Cur.kid n f k up).n=n:=rfl
  unfold Q2Y
  rw[e]
  by_cases h:QD l n=21
  ·rw[if_pos h]
   have he:evC l (.kid n f k up)=[(⟨1,0,[]⟩,QH l (.kid n f k up))]:=by show (if QD l n=21 then _ else _)=_;rw[if_pos h]
   rw[he];rfl
  ·rw[if_neg h]
   have he:evC l (.kid n f k up)=[(⟨2,QD l n,pr l n⟩,QH l (.kid n f k up))]:=by show (if QD l n=21 then _ else _)=_;rw[if_neg h]
   rw[he]
   show _=Q4M K r (⟨2,QD l n,pr l n⟩,QH l (.kid n f k up))
   unfold Q4M
   rw[if_neg (show ¬ (2:Int)=1 by decide)];rfl
theorem Q83 (K:Int){l:List Node}{R:Int}(hR:QD l R=20):∀ (ws:List Cur) (r:Rp),(∀ c∈ws,QbF R c)→Q9K K l ws r=(ws.flatMap (evC l)).foldl (Q4M K) r
 | [],_,_=>rfl
 |c::ws,r,h=>by
  rw[List.flatMap_cons,List.foldl_append,←Qfk K hR (h c (List.mem_cons_self ..))]
  exact Q83 K hR ws _ fun x hx=>h x (List.mem_cons_of_mem _ hx)
def Q3B (b:List UInt8):Rp:=Q9C b.length (Q6 b).r fun k=>Q1v (Q14 (Q6 b).r) k
theorem QgD (b:List UInt8)(hb:b.length≤100000):Q5R b=Q5V (Q1g b).wr ((pz 0 ((Q1g b).ev.map Evr.ev)).foldl (Q4M (Q6 b).kind) (Q3B b)):=by
 have hO:=Q6y b hb
 obtain⟨h1,h2⟩:=QfL b hb
 have hR:QD (Qp (Qd b)).n (Qd b).n.length=20:=Q4T
 have hin:∀ c∈Q4A (Qp (Qd b)).n (.root (Qd b).n.length) 1073741824,QbF (Qd b).n.length c:=fun c hc=>(Q4s (l:=(Qp (Qd b)).n) (Q:=fun c=>CurIn (Qp (Qd b)).n b.length 400000 c∧QbF (Qd b).n.length c) (fun x hx y hy=>⟨Q6P hO.ar hx.1 _ (Nat.le_refl _) y hy,Qb3 hO.ar hx.1 hx.2 _ (Nat.le_refl _) y hy⟩) 1073741824 [.root (Qd b).n.length] (fun x hx=>by
  obtain rfl:x=.root (Qd b).n.length:=by simpa using hx
  exact⟨hO.root,rfl⟩) c hc).2
 unfold Q5R
 rw[h1,h2,←QiZ b hb,Q83 _ hR _ _ hin]
 rfl
def m1 (L:List Ev):Nat:=(L.filter fun e=>decide (e.do_=1)).length
def m9 (L:List Ev):Nat:=(L.filter fun e=>decide (e.do_≠1∧e.do_≠3∧e.kind=9)).length
def n1 (L:List (Ev×Int)):Nat:=(L.filter fun p=>decide (p.1.do_=1)).length
def n9 (L:List (Ev×Int)):Nat:=(L.filter fun p=>decide (p.1.do_≠1∧p.1.kind=9)).length
theorem Q2x {α:Type}(q:α→Bool)(x:α)(l:List α):((x::l).filter q).length=n01 (q x)+(l.filter q).length:=by
 rw[List.filter_cons]
 cases q x with
 |true=>rw[if_pos rfl,List.length_cons];show _=1+_;omega
 |false=>rw[if_neg (by decide)];show _=0+_;omega
theorem Q6I:∀ (L:List Ev) (d:Int),n1 (pz d L)=m1 L∧n9 (pz d L)=m9 L∧∀ p∈pz d L,p.2≤d+m1 L
 | [],d=>⟨rfl,rfl,fun p hp=>by cases hp⟩
 |e::L,d=>by
  have c1:m1 (e::L)=n01 (decide (e.do_=1))+m1 L:=Q2x _ _ _
  have c9:m9 (e::L)=n01 (decide (e.do_≠1∧e.do_≠3∧e.kind=9))+m9 L:=Q2x _ _ _
  have q1:∀ x M,n1 (x::M)=n01 (decide (x.1.do_=1))+n1 M:=fun x M=>Q2x _ _ _
  have q9:∀ x M,n9 (x::M)=n01 (decide (x.1.do_≠1∧x.1.kind=9))+n9 M:=fun x M=>Q2x _ _ _
  unfold pz
  by_cases h:e.do_=1
  ·obtain⟨i1,i9,ip⟩:=Q6I L (d+1)
   rw[if_pos h,q1,q9,c1,c9,i1,i9]
   have e9:decide (e.do_≠1∧e.do_≠3∧e.kind=9)=decide (e.do_≠1∧e.kind=9):=by simp[h]
   have e1:n01 (decide (e.do_=1))=1:=by rw[decide_eq_true h];rfl
   rw[e9,e1]
   refine⟨rfl,rfl,fun p hp=>?_⟩
   rcases List.mem_cons.1 hp with rfl|hp
   ·show d+1≤_;omega
   ·have:=ip p hp;omega
  ·rw[if_neg h]
   have e1:n01 (decide (e.do_=1))=0:=by rw[decide_eq_false h];rfl
   by_cases h3:e.do_=3
   ·obtain⟨i1,i9,ip⟩:=Q6I L (d-1)
    rw[if_pos h3,c1,c9,i1,i9,e1]
    have e9:decide (e.do_≠1∧e.do_≠3∧e.kind=9)=false:=by simp[h3]
    rw[e9]
    refine⟨(Nat.zero_add _).symm,(Nat.zero_add _).symm,fun p hp=>?_⟩
    have:=ip p hp;omega
   ·obtain⟨i1,i9,ip⟩:=Q6I L d
    rw[if_neg h3,q1,q9,c1,c9,i1,i9,e1]
    have e9:decide (e.do_≠1∧e.do_≠3∧e.kind=9)=decide (e.do_≠1∧e.kind=9):=by simp[h3]
    rw[e9]
    refine⟨?_,rfl,fun p hp=>?_⟩
    ·rfl
    ·rcases List.mem_cons.1 hp with rfl|hp
     ·show d≤_;omega
     ·have:=ip p hp;omega
structure Rp.txt (r q:Rp):Prop where
 a0:r.a0=q.a0
 a1:r.a1=q.a1
 a2:r.a2=q.a2
 a3:r.a3=q.a3
 t:[r.t0,r.t1,r.t2,r.t3,r.t4,r.t5,r.t6,r.t7,r.t8,r.t9,r.t10,r.t11]=[q.t0,q.t1,q.t2,q.t3,q.t4,q.t5,q.t6,q.t7,q.t8,q.t9,q.t10,q.t11]
theorem Rp.txt.refl (r:Rp):r.txt r:=⟨rfl,rfl,rfl,rfl,rfl⟩
theorem Rp.txt.trans {r q s:Rp}(h:r.txt q)(k:q.txt s):r.txt s:=⟨h.a0.trans k.a0,h.a1.trans k.a1,h.a2.trans k.a2,h.a3.trans k.a3,h.t.trans k.t⟩
structure StepR (r q:Rp) (n m:Nat) (B:Int):Prop where
 x:q.txt r
 w:q.w1=r.w1
 a4:q.a4=r.a4+n+m
 a5:q.a5≤B
 a7:q.a7≤q.a6
theorem Q9J (K:Int):∀ (L:List (Ev×Int)) (r:Rp) (B:Int),r.a7≤r.a6→r.a5≤B→(∀ p∈L,p.2≤B)→StepR r (L.foldl (Q4M K) r) (n1 L) (n9 L) B
 | [],r,B,h7,h5,_=>⟨.refl r,rfl,by show r.a4=r.a4+((0:Nat):Int)+((0:Nat):Int);omega,h5,h7⟩
 |p::L,r,B,h7,h5,hp=>by
  have hp0:=hp p (List.mem_cons_self ..)
  have key:StepR r (Q4M K r p) (n01 (decide (p.1.do_=1))) (n01 (decide (p.1.do_≠1∧p.1.kind=9))) B:=by
   have hb:∀ l al,Q2X l al≤al.length:=Q6R
   unfold Q4M
   by_cases h:p.1.do_=1
   ·rw[if_pos h,decide_eq_true h]
    have e:decide (p.1.do_≠1∧p.1.kind=9)=false:=by simp[h]
    rw[e]
    refine⟨⟨rfl,rfl,rfl,rfl,rfl⟩,rfl,?_,?_,h7⟩
    ·show r.a4+1=r.a4+((1:Nat):Int)+((0:Nat):Int);omega
    ·show (if r.a5<p.2 then p.2 else r.a5)≤B
     split<;>assumption
   ·rw[if_neg h,decide_eq_false h]
    by_cases h9:p.1.kind=9
    ·rw[if_pos h9]
     have e:decide (p.1.do_≠1∧p.1.kind=9)=true:=by simp[h,h9]
     rw[e]
     generalize (Q1F K p.1.b)=l
     have hb:=hb l (Qy l 0 l.length).attrs
     generalize (Qy l 0 l.length).attrs=al at hb
     refine⟨⟨rfl,rfl,rfl,rfl,rfl⟩,rfl,?_,h5,?_⟩
     ·show r.a4+1=r.a4+((0:Nat):Int)+((1:Nat):Int);omega
     ·show r.a7+(Q2X l al:Int)≤r.a6+(al.length:Int);omega
    ·rw[if_neg h9]
     have e:decide (p.1.do_≠1∧p.1.kind=9)=false:=by simp[h9]
     rw[e]
     split
     ·generalize (Q1F K p.1.b)=l
      have hb:=hb l (Qy l 0 l.length).attrs
      generalize (Qy l 0 l.length).attrs=al at hb
      refine⟨⟨rfl,rfl,rfl,rfl,rfl⟩,rfl,?_,h5,?_⟩
      ·show r.a4=r.a4+((0:Nat):Int)+((0:Nat):Int);omega
      ·show r.a7+(Q2X l al:Int)≤r.a6+(al.length:Int);omega
     ·exact⟨.refl r,rfl,by show r.a4=r.a4+((0:Nat):Int)+((0:Nat):Int);omega,h5,h7⟩
  have ih:=Q9J K L (Q4M K r p) B key.a7 key.a5 fun x hx=>hp x (List.mem_cons_of_mem _ hx)
  have q1:n1 (p::L)=n01 (decide (p.1.do_=1))+n1 L:=Q2x _ _ _
  have q9:n9 (p::L)=n01 (decide (p.1.do_≠1∧p.1.kind=9))+n9 L:=Q2x _ _ _
  rw[List.foldl_cons,q1,q9]
  refine⟨ih.x.trans key.x,ih.w.trans key.w,?_,ih.a5,ih.a7⟩
  have k4:=key.a4
  rw[ih.a4,k4];omega
def cw (ds:List Dg):Nat:=(ds.filter fun d=>decide (d.c=1)).length
structure WrR (r q:Rp) (n:Nat):Prop where
 x:q.txt r
 a4:q.a4=r.a4
 a5:q.a5=r.a5
 a6:q.a6=r.a6
 a7:q.a7=r.a7
 w:q.w1=r.w1+n
theorem QdE:∀ (ds:List Dg) (r:Rp),WrR r (Q5V ds r) (cw ds)
 | [],r=>⟨.refl r,rfl,rfl,rfl,rfl,by show r.w1=r.w1+((0:Nat):Int);omega⟩
 |d::ds,r=>by
  have key:WrR r (wrR r d) (n01 (decide (d.c=1))):=by
   unfold wrR
   by_cases h:d.c=1
   ·rw[if_pos h,decide_eq_true h]
    exact⟨⟨rfl,rfl,rfl,rfl,rfl⟩,rfl,rfl,rfl,rfl,rfl⟩
   ·rw[if_neg h,decide_eq_false h]
    repeat' split
    all_goals exact⟨⟨rfl,rfl,rfl,rfl,rfl⟩,rfl,rfl,rfl,rfl,by show r.w1=r.w1+((0:Nat):Int);omega⟩
  have ih:=QdE ds (wrR r d)
  have q1:cw (d::ds)=n01 (decide (d.c=1))+cw ds:=Q2x _ _ _
  show WrR r (Q5V ds (wrR r d)) _
  rw[q1]
  have kw:=key.w
  exact⟨ih.x.trans key.x,ih.a4.trans key.a4,ih.a5.trans key.a5,ih.a6.trans key.a6,ih.a7.trans key.a7,by rw[ih.w,kw];omega⟩
def s1 (s:RSt):Nat:=m1 (s.ev.map Evr.ev)
def s9 (s:RSt):Nat:=m9 (s.ev.map Evr.ev)
theorem QaT {α:Type}(q:α→Bool)(a b:List α):((a++b).filter q).length=(a.filter q).length+(b.filter q).length:=by rw[List.filter_append,List.length_append]
structure Cnt (s u:RSt) (a b c:Nat):Prop where
 e1:s1 u=s1 s+a
 e9:s9 u=s9 s+b
 w:cw u.wr=cw s.wr+c
theorem Cnt.refl (s:RSt):Cnt s s 0 0 0:=⟨rfl,rfl,rfl⟩
theorem Cnt.trans {s u v:RSt}{a b c a' b' c':Nat}(h:Cnt s u a b c)(k:Cnt u v a' b' c'):Cnt s v (a+a') (b+b') (c+c'):=by
 obtain⟨h1,h2,h3⟩:=h
 obtain⟨k1,k2,k3⟩:=k
 exact⟨by omega,by omega,by omega⟩
theorem Q93 (s:RSt)(op:List (List Int))(E:List Evr)(D:List Dg):Cnt s ⟨op,s.ev++E,s.wr++D⟩ (m1 (E.map Evr.ev)) (m9 (E.map Evr.ev)) (cw D):=by
 refine⟨?_,?_,QaT _ _ _⟩
 ·unfold s1
  rw[List.map_append];exact QaT _ _ _
 ·unfold s9
  rw[List.map_append];exact QaT _ _ _
theorem Qdo (s:RSt)(op:List (List Int))(E:List Evr):Cnt s ⟨op,s.ev++E,s.wr⟩ (m1 (E.map Evr.ev)) (m9 (E.map Evr.ev)) 0:=by
 have h:=Q93 s op E []
 rw[List.append_nil] at h
 exact h
theorem Q5e (t:Txt)(c f u:Int)(s:RSt):Cnt s (Q3W t c f u s) 0 0 (n01 (decide (c=1))):=by
 have h:=Q93 s s.op [] [⟨Q1s t f,Q1s t u,c⟩]
 rw[List.append_nil] at h
 have e:cw [(⟨Q1s t f,Q1s t u,c⟩:Dg)]=n01 (decide (c=1)):=Q2x _ _ _
 rw[e] at h
 exact h
theorem Q55 (t:Txt)(b:List UInt8)(k f u:Int)(s:RSt):Cnt s (Q7s t b k f u s) 0 (n01 (decide (k=9))) 0:=by
 have h:=Qdo s s.op [⟨2,k,some (QL t b f u)⟩]
 have e1:m1 ([(⟨2,k,some (QL t b f u)⟩:Evr)].map Evr.ev)=0:=rfl
 have e9:m9 ([(⟨2,k,some (QL t b f u)⟩:Evr)].map Evr.ev)=n01 (decide (k=9)):=by
  refine (Q2x _ _ _).trans ?_
  show n01 (decide ((2:Int)≠1∧(2:Int)≠3∧k=9))+0=_
  by_cases hk:k=9<;>simp[hk]
 rw[e1,e9] at h
 exact h
theorem QgY (t:Txt)(a:Int)(s:RSt):Cnt s (Qgo t a s) 0 0 0 :=
 Q93 s (s.op.take (s.op.length-1)) [⟨2,22,none⟩,⟨3,0,none⟩] [⟨Q1s t a,Q1s t a,4⟩]
theorem Q62 (t:Txt)(f:Int)(k:Nat):∀ (n:Nat) (s:RSt),Cnt s (Q2T t f k n s) 0 0 0
 |0,s=>.refl s
 |n+1,s=>by
  show Cnt s (if _ then _ else _) 0 0 0
  split
  ·exact (QgY t f s).trans (Q62 t f k n _)
  ·exact .refl s
theorem Qez (t:Txt)(b:List UInt8)(kind f u:Int)(wh:Bool)(s:RSt):∃ a c,Cnt s (Q8B t b kind f u wh s) a (n01 (decide (kind=9))) c∧a≤n01 (decide (kind=8))∧n01 (decide (wh=false))≤c:=by
 unfold Q8B
 simp only
 generalize hs1:(if wh=false then Q3W t 1 f u s else if (kind=8∨kind=9∨kind=10)∧(Qy t.r f u).right=false then Q3W t 2 f u s else s)=s1
 have h1:Cnt s s1 0 0 (n01 (decide (wh=false))):=by
  rw[←hs1]
  split
  ·rename_i h
   rw[decide_eq_true h];exact Q5e t 1 f u s
  ·rename_i h
   rw[decide_eq_false h]
   split
   ·exact Q5e t 2 f u s
   ·exact .refl s
 clear hs1
 split
 ·rename_i h
  have e9:n01 (decide (kind=9))=0:=by rw[h.2.1];rfl
  have e8:n01 (decide (kind=8))=1:=by rw[h.2.1];rfl
  rw[e8,e9]
  unfold QaF
  split
  ·have h2:=(h1.trans (Q5e t 5 f u s1)).trans (Q55 t b kind f u _)
   rw[e9] at h2
   exact⟨_,_,h2,Nat.zero_le _,Nat.le_refl _⟩
  ·have h2:=(h1.trans (Qdo s1 (s1.op++[Qs t f u]) [⟨1,0,none⟩])).trans (Q55 t b kind f u _)
   rw[e9] at h2
   exact⟨_,_,h2,Nat.le_refl _,Nat.le_refl _⟩
 ·split
  ·rename_i h
   have e9:n01 (decide (kind=9))=0:=by rw[h.2];rfl
   rw[e9]
   unfold Qjk
   split
   ·have h2:=(h1.trans (Q5e t 3 f u s1)).trans (Q55 t b kind f u _)
    rw[e9] at h2
    exact⟨_,_,h2,Nat.zero_le _,Nat.le_refl _⟩
   ·have h2:=(h1.trans (Q62 t f ((Q5N s1.op (Qs t f u) s1.op.length).toNat+1) (s1.op.length+1) s1)).trans (Q55 t b kind f u _)
    rw[e9] at h2
    have h3:=h2.trans (Qdo _ ((Q7s t b kind f u (Q2T t f ((Q5N s1.op (Qs t f u) s1.op.length).toNat+1) (s1.op.length+1) s1)).op.take (Q5N s1.op (Qs t f u) s1.op.length).toNat) [⟨3,0,none⟩])
    exact⟨_,_,h3,Nat.zero_le _,Nat.le_refl _⟩
  ·have h2:=h1.trans (Q55 t b kind f u s1)
   rw[Nat.zero_add (n01 _)] at h2
   exact⟨_,_,h2,Nat.zero_le _,Nat.le_refl _⟩
theorem Q5m (x:Tok)(ts:List Tok)(k:Int):Q1v (x::ts) k=n01 (x.kind == k)+Q1v ts k:=Q2x _ _ _
theorem Qcv (t:Txt)(b:List UInt8)(l:List Int):∀ (ts:List Tok) (s:RSt),(∀ x∈ts,TokOk l x)→∃ a c,Cnt s (ts.foldl (Qbs t b) s) a (Q1v ts 9) c∧a≤Q1v ts 8∧Q1v ts 11≤c
 | [],s,_=>⟨0,0,.refl s,Nat.le_refl _,Nat.le_refl _⟩
 |x::ts,s,h=>by
  obtain⟨a,c,h1,h2,h3⟩:=Qez t b x.kind x.from_ x.to x.whole s
  obtain⟨a',c',k1,k2,k3⟩:=Qcv t b l ts (Qbs t b s x) fun y hy=>h y (List.mem_cons_of_mem _ hy)
  have hb:n01 (decide (x.kind=11))≤n01 (decide (x.whole=false)):=by
   by_cases e:x.kind=11
   ·rw[(h x (List.mem_cons_self ..)).br e];rw[decide_eq_true e];exact Nat.le_refl 1
   ·rw[decide_eq_false e];exact Nat.zero_le _
  rw[List.foldl_cons,Q5m,Q5m,Q5m]
  exact⟨_,_,h1.trans k1,Nat.add_le_add h2 k2,Nat.add_le_add (Nat.le_trans hb h3) k3⟩
theorem QfE (b:List UInt8):s1 (Q1g b)≤Q1v (Q14 (Q6 b).r) 8∧s9 (Q1g b)=Q1v (Q14 (Q6 b).r) 9∧Q1v (Q14 (Q6 b).r) 11≤cw (Q1g b).wr:=by
 obtain⟨a,c,h1,h2,h3⟩:=Qcv (Q6 b) b (Q6 b).r (Q14 (Q6 b).r) (Q3n b) (Q82 _)
 have h4:=h1.trans (Q62 (Q6 b) (Q6 b).r.length 0 (((Q14 (Q6 b).r).foldl (Qbs (Q6 b) b) (Q3n b)).op.length+1) _)
 obtain⟨k1,k9,kw⟩:=h4
 have f1:s1 (Q3n b)=0:=by unfold Q3n;split<;>rfl
 have f9:s9 (Q3n b)=0:=by unfold Q3n;split<;>rfl
 have fw:cw (Q3n b).wr=0:=rfl
 have k1:s1 (Q1g b)=_:=k1
 have k9:s9 (Q1g b)=_:=k9
 have kw:cw (Q1g b).wr=_:=kw
 exact⟨by omega,by omega,by omega⟩
theorem Qiw (ts:List Tok)(h:∀ x∈ts,1≤x.kind∧x.kind≤11):Q1v ts 0+Q1v ts 1+Q1v ts 2+Q1v ts 3+Q1v ts 4+Q1v ts 5+Q1v ts 6+Q1v ts 7+Q1v ts 8+Q1v ts 9+Q1v ts 10+Q1v ts 11=ts.length:=by
 induction ts with
 |nil=>rfl
 |cons x ts ih =>
  have ih:=ih fun y hy=>h y (List.mem_cons_of_mem _ hy)
  obtain⟨h0,h1⟩:=h x (List.mem_cons_self ..)
  simp only[Q5m,List.length_cons]
  generalize x.kind=k at h0 h1
  obtain rfl|rfl|rfl|rfl|rfl|rfl|rfl|rfl|rfl|rfl|rfl:k=1∨k=2∨k=3∨k=4∨k=5∨k=6∨k=7∨k=8∨k=9∨k=10∨k=11:=by omega
  all_goals
   simp only[n01,Int.reduceBEq,Bool.false_eq_true,if_true,if_false]
   omega
structure Sums (r:Rp):Prop where
 n0:0≤r.t0∧0≤r.t1∧0≤r.t2∧0≤r.t3∧0≤r.t4∧0≤r.t5∧0≤r.t6∧0≤r.t7∧0≤r.t8∧0≤r.t9∧0≤r.t10∧0≤r.t11
 n1:r.t0+r.t1+r.t2+r.t3+r.t4+r.t5+r.t6+r.t7+r.t8+r.t9+r.t10+r.t11≤r.a1
 n2:r.t0+r.t1+r.t2+r.t3+r.t4+r.t5+r.t6+r.t7+r.t8+r.t9+r.t10+r.t11=0→r.a1=0
 b0:r.a2≤r.a1
 r0:r.a1≤r.a0
 r9:r.a0≤100000
 e1:r.t9≤r.a4
 e2:r.a4≤r.t9+r.t8
 d:r.a5≤r.t8
 at_:r.a7≤r.a6
 w:r.t11≤r.w1
 l:1≤r.a3
theorem Qdc (b:List UInt8)(hb:b.length≤100000):Sums (Q5R b):=by
 rw[QgD b hb]
 obtain⟨p1,p9,pw⟩:=QfE b
 have hall:=Qiw (Q14 (Q6 b).r) fun x hx=>by have:=Q82 _ x hx;exact⟨this.k0,this.k1⟩
 have htl:=Q8M (Q6 b).r
 have hrl:=(Q2y b).2.2.1
 have hbl:=QaP (Q6 b).r
 have hln:=(Q6V (Q6 b).r (Q6 b).r.length).1
 have hcut:=Qgg (Q6 b).r
 have hzero:(Q14 (Q6 b).r).length=0→((Q6 b).r.length:Int)=0:=fun h=>by
  rw[List.eq_nil_of_length_eq_zero h] at hcut
  have hcut:(0:Int)=_:=hcut
  omega
 obtain⟨z1,z9,zp⟩:=Q6I ((Q1g b).ev.map Evr.ev) 0
 have hs:=Q9J (Q6 b).kind (pz 0 ((Q1g b).ev.map Evr.ev)) (Q3B b) (m1 ((Q1g b).ev.map Evr.ev)) (Int.le_refl _) (by show (0:Int)≤(m1 _:Int);omega) fun p hp=>by
  have:=zp p hp
  omega
 have hw:=QdE (Q1g b).wr ((pz 0 ((Q1g b).ev.map Evr.ev)).foldl (Q4M (Q6 b).kind) (Q3B b))
 rw[z1,z9] at hs
 have p1:m1 ((Q1g b).ev.map Evr.ev)≤_:=p1
 have p9:m9 ((Q1g b).ev.map Evr.ev)=_:=p9
 generalize m1 ((Q1g b).ev.map Evr.ev)=E1 at hs p1
 generalize m9 ((Q1g b).ev.map Evr.ev)=E9 at hs p9
 generalize (pz 0 ((Q1g b).ev.map Evr.ev)).foldl (Q4M (Q6 b).kind) (Q3B b)=r at hs hw ⊢
 generalize cw (Q1g b).wr=CW at hw pw
 generalize Q5V (Q1g b).wr r=q at hw ⊢
 have hx:=hw.x.trans hs.x
 obtain⟨x0,x1,x2,x3,xt⟩:=hx
 have e0:(Q3B b).a0=b.length:=rfl
 have e1:(Q3B b).a1=(Q6 b).r.length:=rfl
 have e2:(Q3B b).a2=Q7z (Q6 b).r:=rfl
 have e3:(Q3B b).a3=(lcF (Q6 b).r (Q6 b).r.length).1:=rfl
 have e4:(Q3B b).a4=0:=rfl
 have ew:(Q3B b).w1=0:=rfl
 have et:[(Q3B b).t0,(Q3B b).t1,(Q3B b).t2,(Q3B b).t3,(Q3B b).t4,(Q3B b).t5,(Q3B b).t6,(Q3B b).t7,(Q3B b).t8,(Q3B b).t9,(Q3B b).t10,(Q3B b).t11]=([Q1v (Q14 (Q6 b).r) 0,Q1v (Q14 (Q6 b).r) 1,Q1v (Q14 (Q6 b).r) 2,Q1v (Q14 (Q6 b).r) 3,Q1v (Q14 (Q6 b).r) 4,Q1v (Q14 (Q6 b).r) 5,Q1v (Q14 (Q6 b).r) 6,Q1v (Q14 (Q6 b).r) 7,Q1v (Q14 (Q6 b).r) 8,Q1v (Q14 (Q6 b).r) 9,Q1v (Q14 (Q6 b).r) 10,Q1v (Q14 (Q6 b).r) 11]:List Nat).map (fun n:Nat=>(n:Int)):=rfl
 rw[et] at xt
 generalize Q3B b=r0 at *
 generalize Q14 (Q6 b).r=ts at *
 have w4:=hw.a4
 have w5:=hw.a5
 have w6:=hw.a6
 have w7:=hw.a7
 have ww:=hw.w
 have s4:=hs.a4
 have s5:=hs.a5
 have s7:=hs.a7
 have sw:=hs.w
 simp only[List.map_cons,List.map_nil,List.cons.injEq,and_true] at xt
 obtain⟨t0,t1,t2,t3,t4,t5,t6,t7,t8,t9,t10,t11⟩:=xt
 refine⟨?_,?_,?_,?_,?_,?_,?_,?_,?_,?_,?_,?_⟩<;>omega
end Go.Proofs.YtibemhahkicbpaaGreat
namespace Go.Proofs.YtibemhahkicbpaaGreat
open Go.RowKit Go.Lib Tryz
def psR (r:Rp):Nat→Int
 |0=>0
 |1=>0+r.t0
 |2=>0+r.t0+r.t1
 |3=>0+r.t0+r.t1+r.t2
 |4=>0+r.t0+r.t1+r.t2+r.t3
 |5=>0+r.t0+r.t1+r.t2+r.t3+r.t4
 |6=>0+r.t0+r.t1+r.t2+r.t3+r.t4+r.t5
 |7=>0+r.t0+r.t1+r.t2+r.t3+r.t4+r.t5+r.t6
 |8=>0+r.t0+r.t1+r.t2+r.t3+r.t4+r.t5+r.t6+r.t7
 |9=>0+r.t0+r.t1+r.t2+r.t3+r.t4+r.t5+r.t6+r.t7+r.t8
 |10=>0+r.t0+r.t1+r.t2+r.t3+r.t4+r.t5+r.t6+r.t7+r.t8+r.t9
 |11=>0+r.t0+r.t1+r.t2+r.t3+r.t4+r.t5+r.t6+r.t7+r.t8+r.t9+r.t10
 |12=>0+r.t0+r.t1+r.t2+r.t3+r.t4+r.t5+r.t6+r.t7+r.t8+r.t9+r.t10+r.t11
 |_=>0
def Q4O (B:List AV)(r:Rp):Nat→List AV→List Ob→Option (AV×List Ob):=fun f args _=>match f,args with
 |11,[.slc 1 _]=>some (.slc 1 B,[])
 |31,[.slc 1 _]=>some (.agg r.cs,[])
 |34,[]=>some (.val (.bool true),[])
 |_,_=>none
theorem AuditSums_b (b0:List UInt8):BCall prog 7 [.slc 1 (Q5 b0)] [] (.val (.bool true)) []:=by
 have cS:=QhW b0
 have cH:=QiW (b0.take 400) (by rw[List.length_take];omega)
 have hs:=Qdc (b0.take 400) (by rw[List.length_take];omega)
 have cA:=QfM
 generalize Q5R (b0.take 400)=r at cH hs
 unfold Rp.cs at cH
 refine fnN (cs:=Q4O (Q5 (b0.take 400)) r) func7 rfl (by kernel_rfl) ?_
 intro w0 g0
 generalize hp:std=p,hB:Q5 (b0.take 400)=B,hB0:Q5 b0=B0
 generalize hT:Q8 p tys (Q4O B r) _ _ _ _=T
 cbv at hT
 subst hT
 simp only[Tree.ok,Q4,S0]
 subst hp hB hB0
 refine⟨cS,cH,?_⟩
 refine Q1P (cs:=Q4O (Q5 (b0.take 400)) r) (by kernel_rfl) (X:=Int×Int) (fun x=>⟨[(3,.box 0 0),(4,.val (.int .i64 x.2)),(13,.agg [.val (.int .i64 r.t0),.val (.int .i64 r.t1),.val (.int .i64 r.t2),.val (.int .i64 r.t3),.val (.int .i64 r.t4),.val (.int .i64 r.t5),.val (.int .i64 r.t6),.val (.int .i64 r.t7),.val (.int .i64 r.t8),.val (.int .i64 r.t9),.val (.int .i64 r.t10),.val (.int .i64 r.t11)]),(14,.val (.int .i64 x.1))],[.box r.cs]⟩) (fun x=>0≤x.1∧x.1≤12∧x.2=psR r x.1.toNat) (fun x=>(12-x.1).toNat) (0,0) ?_ ?_ ?_
 ·exact⟨Int.le_refl _,by decide,rfl⟩
 ·refine⟨[some 0],_,rfl,?_⟩
  repeat first
   |exact trivial
   |refine⟨rfl,?_⟩
 ·rintro⟨i,n⟩ ⟨hi0,hi1,hn⟩
  simp only at hi0 hi1 hn
  rcases Int.lt_or_eq_of_le hi1 with hlt|heq
  ·obtain⟨n0,n1,n2,n3,n4,n5,n6,n7,n8,n9,n10,n11⟩:=hs.n0
   have hle:=hs.n1
   have hb:=hs.r0
   have hb9:=hs.r9
   obtain rfl|rfl|rfl|rfl|rfl|rfl|rfl|rfl|rfl|rfl|rfl|rfl:i=0∨i=1∨i=2∨i=3∨i=4∨i=5∨i=6∨i=7∨i=8∨i=9∨i=10∨i=11:=by omega
   ·simp only[Int.reduceToNat,psR] at hn
    generalize hp:std=p,hB:Q5 (b0.take 400)=B
    generalize hT:Q8 p tys (Q4O B r) _ _ _ _=T
    cbv at hT
    subst hT
    simp only[Tree.ok,Q4,S0]
    subst hp hB
    refine⟨fun _=>⟨?_,(by show (-9223372036854775808:Int)≤0+1∧0+1≤(9223372036854775807:Int);decide),(1,n+r.t0),⟨(show (0:Int)≤1 by decide),(show (1:Int)≤12 by decide),by subst hn;rfl⟩,(show ((12:Int)-1).toNat<((12:Int)-0).toNat by decide),[some 0],_,rfl,?_⟩,fun h=>absurd h (by decide)⟩
    ·show (-9223372036854775808:Int)≤n+r.t0∧n+r.t0≤(9223372036854775807:Int)
     omega
    ·repeat first
      |exact trivial
      |refine⟨rfl,?_⟩
   ·simp only[Int.reduceToNat,psR] at hn
    generalize hp:std=p,hB:Q5 (b0.take 400)=B
    generalize hT:Q8 p tys (Q4O B r) _ _ _ _=T
    cbv at hT
    subst hT
    simp only[Tree.ok,Q4,S0]
    subst hp hB
    refine⟨fun _=>⟨?_,(by show (-9223372036854775808:Int)≤1+1∧1+1≤(9223372036854775807:Int);decide),(2,n+r.t1),⟨(show (0:Int)≤2 by decide),(show (2:Int)≤12 by decide),by subst hn;rfl⟩,(show ((12:Int)-2).toNat<((12:Int)-1).toNat by decide),[some 0],_,rfl,?_⟩,fun h=>absurd h (by decide)⟩
    ·show (-9223372036854775808:Int)≤n+r.t1∧n+r.t1≤(9223372036854775807:Int)
     omega
    ·repeat first
      |exact trivial
      |refine⟨rfl,?_⟩
   ·simp only[Int.reduceToNat,psR] at hn
    generalize hp:std=p,hB:Q5 (b0.take 400)=B
    generalize hT:Q8 p tys (Q4O B r) _ _ _ _=T
    cbv at hT
    subst hT
    simp only[Tree.ok,Q4,S0]
    subst hp hB
    refine⟨fun _=>⟨?_,(by show (-9223372036854775808:Int)≤2+1∧2+1≤(9223372036854775807:Int);decide),(3,n+r.t2),⟨(show (0:Int)≤3 by decide),(show (3:Int)≤12 by decide),by subst hn;rfl⟩,(show ((12:Int)-3).toNat<((12:Int)-2).toNat by decide),[some 0],_,rfl,?_⟩,fun h=>absurd h (by decide)⟩
    ·show (-9223372036854775808:Int)≤n+r.t2∧n+r.t2≤(9223372036854775807:Int)
     omega
    ·repeat first
      |exact trivial
      |refine⟨rfl,?_⟩
   ·simp only[Int.reduceToNat,psR] at hn
    generalize hp:std=p,hB:Q5 (b0.take 400)=B
    generalize hT:Q8 p tys (Q4O B r) _ _ _ _=T
    cbv at hT
    subst hT
    simp only[Tree.ok,Q4,S0]
    subst hp hB
    refine⟨fun _=>⟨?_,(by show (-9223372036854775808:Int)≤3+1∧3+1≤(9223372036854775807:Int);decide),(4,n+r.t3),⟨(show (0:Int)≤4 by decide),(show (4:Int)≤12 by decide),by subst hn;rfl⟩,(show ((12:Int)-4).toNat<((12:Int)-3).toNat by decide),[some 0],_,rfl,?_⟩,fun h=>absurd h (by decide)⟩
    ·show (-9223372036854775808:Int)≤n+r.t3∧n+r.t3≤(9223372036854775807:Int)
     omega
    ·repeat first
      |exact trivial
      |refine⟨rfl,?_⟩
   ·simp only[Int.reduceToNat,psR] at hn
    generalize hp:std=p,hB:Q5 (b0.take 400)=B
    generalize hT:Q8 p tys (Q4O B r) _ _ _ _=T
    cbv at hT
    subst hT
    simp only[Tree.ok,Q4,S0]
    subst hp hB
    refine⟨fun _=>⟨?_,(by show (-9223372036854775808:Int)≤4+1∧4+1≤(9223372036854775807:Int);decide),(5,n+r.t4),⟨(show (0:Int)≤5 by decide),(show (5:Int)≤12 by decide),by subst hn;rfl⟩,(show ((12:Int)-5).toNat<((12:Int)-4).toNat by decide),[some 0],_,rfl,?_⟩,fun h=>absurd h (by decide)⟩
    ·show (-9223372036854775808:Int)≤n+r.t4∧n+r.t4≤(9223372036854775807:Int)
     omega
    ·repeat first
      |exact trivial
      |refine⟨rfl,?_⟩
   ·simp only[Int.reduceToNat,psR] at hn
    generalize hp:std=p,hB:Q5 (b0.take 400)=B
    generalize hT:Q8 p tys (Q4O B r) _ _ _ _=T
    cbv at hT
    subst hT
    simp only[Tree.ok,Q4,S0]
    subst hp hB
    refine⟨fun _=>⟨?_,(by show (-9223372036854775808:Int)≤5+1∧5+1≤(9223372036854775807:Int);decide),(6,n+r.t5),⟨(show (0:Int)≤6 by decide),(show (6:Int)≤12 by decide),by subst hn;rfl⟩,(show ((12:Int)-6).toNat<((12:Int)-5).toNat by decide),[some 0],_,rfl,?_⟩,fun h=>absurd h (by decide)⟩
    ·show (-9223372036854775808:Int)≤n+r.t5∧n+r.t5≤(9223372036854775807:Int)
     omega
    ·repeat first
      |exact trivial
      |refine⟨rfl,?_⟩
   ·simp only[Int.reduceToNat,psR] at hn
    generalize hp:std=p,hB:Q5 (b0.take 400)=B
    generalize hT:Q8 p tys (Q4O B r) _ _ _ _=T
    cbv at hT
    subst hT
    simp only[Tree.ok,Q4,S0]
    subst hp hB
    refine⟨fun _=>⟨?_,(by show (-9223372036854775808:Int)≤6+1∧6+1≤(9223372036854775807:Int);decide),(7,n+r.t6),⟨(show (0:Int)≤7 by decide),(show (7:Int)≤12 by decide),by subst hn;rfl⟩,(show ((12:Int)-7).toNat<((12:Int)-6).toNat by decide),[some 0],_,rfl,?_⟩,fun h=>absurd h (by decide)⟩
    ·show (-9223372036854775808:Int)≤n+r.t6∧n+r.t6≤(9223372036854775807:Int)
     omega
    ·repeat first
      |exact trivial
      |refine⟨rfl,?_⟩
   ·simp only[Int.reduceToNat,psR] at hn
    generalize hp:std=p,hB:Q5 (b0.take 400)=B
    generalize hT:Q8 p tys (Q4O B r) _ _ _ _=T
    cbv at hT
    subst hT
    simp only[Tree.ok,Q4,S0]
    subst hp hB
    refine⟨fun _=>⟨?_,(by show (-9223372036854775808:Int)≤7+1∧7+1≤(9223372036854775807:Int);decide),(8,n+r.t7),⟨(show (0:Int)≤8 by decide),(show (8:Int)≤12 by decide),by subst hn;rfl⟩,(show ((12:Int)-8).toNat<((12:Int)-7).toNat by decide),[some 0],_,rfl,?_⟩,fun h=>absurd h (by decide)⟩
    ·show (-9223372036854775808:Int)≤n+r.t7∧n+r.t7≤(9223372036854775807:Int)
     omega
    ·repeat first
      |exact trivial
      |refine⟨rfl,?_⟩
   ·simp only[Int.reduceToNat,psR] at hn
    generalize hp:std=p,hB:Q5 (b0.take 400)=B
    generalize hT:Q8 p tys (Q4O B r) _ _ _ _=T
    cbv at hT
    subst hT
    simp only[Tree.ok,Q4,S0]
    subst hp hB
    refine⟨fun _=>⟨?_,(by show (-9223372036854775808:Int)≤8+1∧8+1≤(9223372036854775807:Int);decide),(9,n+r.t8),⟨(show (0:Int)≤9 by decide),(show (9:Int)≤12 by decide),by subst hn;rfl⟩,(show ((12:Int)-9).toNat<((12:Int)-8).toNat by decide),[some 0],_,rfl,?_⟩,fun h=>absurd h (by decide)⟩
    ·show (-9223372036854775808:Int)≤n+r.t8∧n+r.t8≤(9223372036854775807:Int)
     omega
    ·repeat first
      |exact trivial
      |refine⟨rfl,?_⟩
   ·simp only[Int.reduceToNat,psR] at hn
    generalize hp:std=p,hB:Q5 (b0.take 400)=B
    generalize hT:Q8 p tys (Q4O B r) _ _ _ _=T
    cbv at hT
    subst hT
    simp only[Tree.ok,Q4,S0]
    subst hp hB
    refine⟨fun _=>⟨?_,(by show (-9223372036854775808:Int)≤9+1∧9+1≤(9223372036854775807:Int);decide),(10,n+r.t9),⟨(show (0:Int)≤10 by decide),(show (10:Int)≤12 by decide),by subst hn;rfl⟩,(show ((12:Int)-10).toNat<((12:Int)-9).toNat by decide),[some 0],_,rfl,?_⟩,fun h=>absurd h (by decide)⟩
    ·show (-9223372036854775808:Int)≤n+r.t9∧n+r.t9≤(9223372036854775807:Int)
     omega
    ·repeat first
      |exact trivial
      |refine⟨rfl,?_⟩
   ·simp only[Int.reduceToNat,psR] at hn
    generalize hp:std=p,hB:Q5 (b0.take 400)=B
    generalize hT:Q8 p tys (Q4O B r) _ _ _ _=T
    cbv at hT
    subst hT
    simp only[Tree.ok,Q4,S0]
    subst hp hB
    refine⟨fun _=>⟨?_,(by show (-9223372036854775808:Int)≤10+1∧10+1≤(9223372036854775807:Int);decide),(11,n+r.t10),⟨(show (0:Int)≤11 by decide),(show (11:Int)≤12 by decide),by subst hn;rfl⟩,(show ((12:Int)-11).toNat<((12:Int)-10).toNat by decide),[some 0],_,rfl,?_⟩,fun h=>absurd h (by decide)⟩
    ·show (-9223372036854775808:Int)≤n+r.t10∧n+r.t10≤(9223372036854775807:Int)
     omega
    ·repeat first
      |exact trivial
      |refine⟨rfl,?_⟩
   ·simp only[Int.reduceToNat,psR] at hn
    generalize hp:std=p,hB:Q5 (b0.take 400)=B
    generalize hT:Q8 p tys (Q4O B r) _ _ _ _=T
    cbv at hT
    subst hT
    simp only[Tree.ok,Q4,S0]
    subst hp hB
    refine⟨fun _=>⟨?_,(by show (-9223372036854775808:Int)≤11+1∧11+1≤(9223372036854775807:Int);decide),(12,n+r.t11),⟨(show (0:Int)≤12 by decide),(show (12:Int)≤12 by decide),by subst hn;rfl⟩,(show ((12:Int)-12).toNat<((12:Int)-11).toNat by decide),[some 0],_,rfl,?_⟩,fun h=>absurd h (by decide)⟩
    ·show (-9223372036854775808:Int)≤n+r.t11∧n+r.t11≤(9223372036854775807:Int)
     omega
    ·repeat first
      |exact trivial
      |refine⟨rfl,?_⟩
  ·subst heq
   have hn1:n=r.t0+r.t1+r.t2+r.t3+r.t4+r.t5+r.t6+r.t7+r.t8+r.t9+r.t10+r.t11:=by
    simp only[Int.reduceToNat,psR,Int.zero_add] at hn
    exact hn
   obtain⟨n0,s1,s2,sb,s3,s9,e1,e2,sd,sa,sw,sl⟩:=hs
   clear hn
   have g1:std.leI n r.a1=true:=decide_eq_true (by omega)
   have g2:std.eqB (std.ltI 0 n) (std.ltI 0 r.a1)=true:=by
    have e:decide (0<n)=decide (0<r.a1):=decide_eq_decide.2 ⟨fun h=>by omega,fun h=>by
     rcases Int.lt_or_eq_of_le (show 0≤n by omega) with h2|h2
     ·exact h2
     ·have:=s2 (by omega);omega⟩
    show (decide (0<n) == decide (0<r.a1))=true
    rw[e];exact beq_self_eq_true _
   have g3:std.leI r.a2 r.a1=true:=decide_eq_true (by omega)
   have g4:std.leI r.a1 r.a0=true:=decide_eq_true (by omega)
   have g5:std.leI r.t9 r.a4=true:=decide_eq_true (by omega)
   have g6:std.leI r.a4 (std.add r.t9 r.t8)=true:=decide_eq_true (show r.a4≤r.t9+r.t8 by omega)
   have g7:std.leI r.a5 r.t8=true:=decide_eq_true (by omega)
   have g8:std.leI r.a7 r.a6=true:=decide_eq_true (by omega)
   have g9:std.leI r.t11 r.w1=true:=decide_eq_true (by omega)
   have g10:std.leI 1 r.a3=true:=decide_eq_true (by omega)
   have gi:(std.inR .i64 (std.add r.t9 r.t8)).q:=by
    show (-9223372036854775808:Int)≤r.t9+r.t8∧r.t9+r.t8≤(9223372036854775807:Int)
    omega
   generalize hp:std=p,hB:Q5 (b0.take 400)=B
   generalize hT:Q8 p tys (Q4O B r) _ _ _ _=T
   cbv at hT
   subst hT
   simp only[Tree.ok,Q4,S0]
   subst hp hB
   refine⟨fun h=>absurd (show decide ((12:Int)<12)=true from h) (by decide),fun _=>?_⟩
   rw[if_pos trivial]
   clear hn1 n0 s1 s2 sb s3 s9 e1 e2 sd sa sw sl
   generalize hp:std=p,hB:Q5 (b0.take 400)=B
   generalize hT:Q8 p tys (Q4O B r) _ _ _ _=T
   cbv at hT
   subst hT
   simp only[Tree.ok,Q4,S0]
   subst hp hB
   refine⟨fun _=>⟨fun _=>⟨fun _=>⟨fun _=>⟨fun _=>⟨gi,fun _=>⟨fun _=>⟨fun _=>⟨fun _=>⟨fun _=>⟨cA,.pure rfl (.inl rfl)⟩,fun h=>absurd (g10.symm.trans h) (by decide)⟩,fun h=>absurd (g9.symm.trans h) (by decide)⟩,fun h=>absurd (g8.symm.trans h) (by decide)⟩,fun h=>absurd (g7.symm.trans h) (by decide)⟩,fun h=>absurd (g6.symm.trans h) (by decide)⟩,fun h=>absurd (g5.symm.trans h) (by decide)⟩,fun h=>absurd (g4.symm.trans h) (by decide)⟩,fun h=>absurd (g3.symm.trans h) (by decide)⟩,fun h=>absurd (g2.symm.trans h) (by decide)⟩,fun h=>absurd (g1.symm.trans h) (by decide)⟩
end Go.Proofs.YtibemhahkicbpaaGreat
