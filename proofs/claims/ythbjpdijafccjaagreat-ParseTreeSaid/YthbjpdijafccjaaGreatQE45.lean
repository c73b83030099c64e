/-
  Parts of the proof, joined: Yj. Conditions: as each theorem says.
-/
import Derived.Test.YthbjpdijafccjaaGreatQE44
import Derived.Test.YthbjpdijafccjaaGreatQE18
import Derived.Test.YthbjpdijafccjaaGreatQE15
import Derived.Test.YthbjpdijafccjaaGreatQE05
set_option maxRecDepth 100000
set_option maxHeartbeats 8000000
namespace Go.Proofs.YthbjpdijafccjaaGreat
open Go.RowKit Go.Lib Tryz
theorem Qc3 (t:Txt)(b:List UInt8)(hs:Sml t b)(hu:Un t.r)(hr:t.r.length≤200000) :
  BCall prog 17 [.box 0 0] [.box [.slc 1 (Q2 b),.val (.int .i64 t.kind),.val (.int .i64 t.bom),.slc 1 (Q0 t.r),.slc 1 (Q8 t.off),.val (.slice none 0 0),.val (.slice none 0 0),.val (.slice none 0 0)]] (.box 0 0)
   [.box [.slc 1 (Q2 b),.val (.int .i64 t.kind),.val (.int .i64 t.bom),.slc 1 (Q0 t.r),.slc 1 (Q8 t.off),.row 2 1,.row 1 1,.row 3 1],.row 47 3 false 1 (QK (Qbx t b ⟨[],[],[]⟩).ev),.row 9 1 false 1 (Qt (Qbx t b ⟨[],[],[]⟩).op),.row 49 3 false 1 (QC (Qbx t b ⟨[],[],[]⟩).wr)]:=by
 have h:=Q8r t b hs hu [] (by simp) hr
 exact h.tell [some 0,none] [some 0,some 1,some 2,some 3] rfl rfl rfl (Nat.le_of_ble_eq_true rfl) rfl (by simp[Qe,QK]) (res':=.box 0 0) rfl (by simp[Qe]) (.inl rfl)
def QhY (kd bm:Int)(R O OP EV WR:List AV):Nat→List AV→List Ob→Option (AV×List Ob):=fun f _ ob=>match f with
 |16=>some (.agg [.val (.int .i64 kd),.val (.int .i64 bm),.slc 1 R,.slc 1 O],[])
 |17=>(match ob with
  | [.box [B,K,M,R',O',.val (.slice none 0 0),.row 1 0,.val (.slice none 0 0)],_]=>some (.box 0 0,[.box [B,K,M,R',O',.row 2 1,.row 1 1,.row 3 1],.row 47 3 false 1 EV,.row 9 1 false 1 OP,.row 49 3 false 1 WR])
  | [.box [B,K,M,R',O',.val (.slice none 0 0),.val (.slice none 0 0),.val (.slice none 0 0)]]=>some (.box 0 0,[.box [B,K,M,R',O',.row 2 1,.row 1 1,.row 3 1],.row 47 3 false 1 EV,.row 9 1 false 1 OP,.row 49 3 false 1 WR])
  |_=>none)
 |_=>none
theorem Qen (b:List UInt8)(hb:b.length≤100000):BCall prog 6 [.slc 1 (Q2 b)] []
  (.ref [.slc 1 (Q2 b),.val (.int .i64 (Qd b).kind),.val (.int .i64 (Qd b).bom),.slc 1 (Q0 (Qd b).r),.slc 1 (Q8 (Qd b).off),.slc 1 (Qt (Q2v b).op),.slc 3 (QK (Q2v b).ev),.slc 3 (QC (Q2v b).wr)]) []:=by
 obtain⟨h1,h2,h3,h4,h5⟩:=Q3D b
 have hs:=Q66 b hb
 have hu:=QkT b
 have hkb:=Q48 b
 have cD:=QgL b (by omega) (by omega) (fun x hx=>by have:=h5 x hx;omega)
 have c1:=Q8r (Qd b) b hs hu [⟨2,23,some (b.take (QQ b).2.toNat)⟩] (by simp) (by omega)
 have c0:=Qc3 (Qd b) b hs hu (by omega)
 have hP:Q2v b=Qbx (Qd b) b (Q7i b):=rfl
 obtain⟨X,hX⟩:=exq (Q2v b)
 rw[←hX] at hP ⊢
 obtain⟨t,ht⟩:=exq (Qd b)
 have htb:t.bom=(QQ b).2:=by rw[ht];rfl
 rw[←ht] at cD c0 c1 hP ⊢
 rw[←htb] at c1 hkb
 have hf:Q7i b=⟨[],if 0<t.bom then [⟨2,23,some (b.take t.bom.toNat)⟩] else [],[]⟩:=by rw[htb];rfl
 rw[hf] at hP
 obtain⟨nb,hnb⟩:=Qy b
 have hbn:t.bom≤nb:=by rw[hnb.eq];exact hkb.2
 have hb0:=hkb.1
 have hcut:std.cut (Q2 b) 0 t.bom=Q2 (b.take t.bom.toNat):=by
  show ((Q2 b).drop (0:Int).toNat).take (t.bom-0).toNat=_
  simp[Q2,List.map_take]
 have hbl:=Q10 b
 clear h1 h2 h3 h4 h5 hkb hX ht htb hf
 refine fnN (cs:=QhY t.kind t.bom (Q0 t.r) (Q8 t.off) (Qt X.op) (QK X.ev) (QC X.wr)) func6 rfl (by kernel_rfl) ?_
 intro w0 g0
 generalize hp:std=p,hkd:t.kind=kd,hbm:t.bom=bm,hR:Q0 t.r=R,hO:Q8 t.off=O,hOP:Qt X.op=OP,hEV:QK X.ev=EV,hWR:QC X.wr=WR,hB':Q2 b=B'
 generalize hT:Q5 p tys (QhY kd bm R O OP EV WR) _ _ _ _=T
 cbv at hT
 subst hT
 simp only[Tree.ok,Q1,S0]
 subst hp hkd hbm hR hO hOP hEV hWR hB'
 refine⟨cD,fun h=>⟨?_,?_,?_,.pure rfl (.inl rfl)⟩,fun h=>⟨?_,.pure rfl (.inl rfl)⟩⟩
 ·show 0≤(0:Int)∧0≤t.bom∧t.bom≤((Q2 b).length:Int)
  have:=hnb.eq
  rw[hbl];omega
 ·exact Nat.le_of_ble_eq_true rfl
 ·have h:0<t.bom:=of_decide_eq_true h
  rw[if_pos h] at hP
  rw[←hP] at c1
  show BCall _ _ [.box 0 0] [.box [_,_,_,_,_,_,_,_],.row _ _ _ _ [.agg [_,_,.slc 1 (std.cut (Q2 b) 0 t.bom)]]] _ _
  rw[hcut]
  exact c1
 ·have h:¬ 0<t.bom:=of_decide_eq_false h
  rw[if_neg h] at hP
  rw[←hP] at c0
  exact c0
theorem Qiw (l:List Node)(c:Cur):BCall prog 9 [.agg (c.el (Q7 l))] [] (.val (.int .i64 (Q19 l c.n))) [] :=
 (Qbm l c).le (args:=[.agg (c.el (Q7 l))]) ⟨⟨.inr (.inr (.inr rfl)),.inl rfl,.inl rfl,.inl rfl,.inl rfl,trivial⟩,trivial⟩
theorem Qk6 (b:List UInt8)(hb:b.length≤100000):(QG b).d.length≤1000000:=by
 have hs:=Q66 b hb
 have h1:=(Qbj hs.ok hs.hr (Q6v b)).1.i.d
 have h2:=(Q3D b).2.2.1
 have h1:(QG b).d.length+2 * (QG b).s.length≤2+3 * (Qd b).r.length:=h1
 omega
theorem Qjh (l:List Node):∀ (f:Nat) (n:Int) (top:Bool),∀ e∈spF l f n top,e.do_=2∨(e.kind=0∧e.b=[])
 |0,_,_=>fun e he=>by cases he
 |f+1,n,top=>fun e he=>by
  unfold spF at he
  split at he
  ·obtain rfl:e=_:=by simpa using he
   exact .inl rfl
  ·rcases List.mem_append.1 he with he|he
   ·rcases List.mem_append.1 he with he|he
    ·split at he
     ·cases he
     ·obtain rfl:e=_:=by simpa using he
      exact .inr ⟨rfl,rfl⟩
    ·obtain⟨k,_,hk⟩:=List.mem_flatMap.1 he
     exact Qjh l f k false e hk
   ·split at he
    ·cases he
    ·obtain rfl:e=_:=by simpa using he
     exact .inr ⟨rfl,rfl⟩
def Qdo (K M rt:Int)(R O N D SB E1 OP E2 WR:List AV)(kd:Int):Nat→List AV→List Ob→Option (AV×List Ob):=fun f _ _=>match f with
 |4=>some (.slc 1 SB,[])
 |5=>some (.agg [.val (.int .i64 K),.val (.int .i64 M),.slc 1 R,.slc 1 O,.ref [.slc 6 N],.val (.int .i64 rt),.slc 3 D],[])
 |6=>some (.ref [.slc 1 SB,.val (.int .i64 K),.val (.int .i64 M),.slc 1 R,.slc 1 O,.slc 1 OP,.slc 3 E2,.slc 3 WR],[])
 |8=>some (.agg [.opt (.ref [.slc 6 N]),.val (.int .i64 rt),.val (.int .i64 0),.val (.int .i64 0),.opt (.val (.pointer none))],[])
 |7=>some (.slc 3 E1,[])
 |9=>some (.val (.int .i64 kd),[])
 |10=>some (.val (.bool true),[])
 |_=>none
theorem ParseTree_b (b0:List UInt8):BCall prog 3 [.slc 1 (Q2 b0)] [] (.val (.bool true)) []:=by
 have cS:=QjS b0
 obtain⟨b,hb⟩:=exq (b0.take 400)
 have hl:b.length≤400:=by rw[hb,List.length_take];omega
 rw[←hb] at cS
 have hO:=Qdj b (by omega)
 have cP:=Qfm b (by omega)
 have cR:=Qen b (by omega)
 obtain⟨hwr,hev⟩:=Qg6 b (by omega)
 have cA:=QjH
 have hN:=Qd2 b
 have cC:=(Qba (Qd b) (QG b)).res (res':=.agg ((Cur.root (QG b).n.length).el (Q7 (Q15 (QG b)).n))) ⟨.inr (.inr (.inl ⟨rfl,trivial⟩)),.inl rfl,.inl rfl,.inl rfl,.inl rfl,trivial⟩
 have hAt:CurB (Q15 (QG b)).n b 400000 (.root (QG b).n.length):=⟨hO.root,[],[],by show b=[]++(pr (Q15 (QG b)).n (QG b).n.length++[]);rw[hO.p];simp,rfl⟩
 have cSp:=Qjc (Q15 (QG b)).n b 400000 hO.ar hN (by have:=hO.n;omega) (by omega) (by omega) _ _ true (Nat.lt_succ_self _) hAt
 have cK:=Qiw (Q15 (QG b)).n (Cur.root (QG b).n.length)
 have hk20:Q19 (Q15 (QG b)).n (Cur.root (QG b).n.length).n=20:=by
  show Q19 ((QG b).n++[_]) ((QG b).n.length:Int)=20
  rw[Q7y];rfl
 rw[hk20] at cK
 have hsp:∀ e∈(Q2v b).ev.map Evr.ev,e.do_=2∨(e.kind=0∧e.b=[]):=by rw[hev];exact Qjh _ _ _ _
 have hdl:=(Qk6 b (by omega))
 have hen:(Q2v b).ev.length≤9000000:=by
  have h1:=QbK hO.ar.wf ((QG b).n.length+1) (QG b).n.length true (by omega) (Qc9 _) (by omega)
  have h2:=hO.c
  have h3:=congrArg List.length hev
  rw[List.length_map] at h3
  omega
 rw[hwr] at cR
 have e9:spV (Q15 (QG b)).n (Cur.root ((QG b).n.length:Int)).n true=spV (Q15 (QG b)).n ((QG b).n.length:Int) true:=rfl
 rw[e9,←hev] at cSp
 obtain⟨rt,hrt⟩:=exq ((QG b).n.length:Int)
 unfold Q96 at cP cC
 simp only[Cur.el,Cur.root] at cC cSp cK
 rw[←hrt] at cP cC cSp cK
 obtain⟨N,hNE⟩:=exq (Q7 (Q15 (QG b)).n)
 obtain⟨D,hD⟩:=exq (QC (QG b).d)
 obtain⟨OP,hOP⟩:=exq (Qt (Q2v b).op)
 obtain⟨E1,hE1⟩:=exq (Q2X ((Q2v b).ev.map Evr.ev))
 obtain⟨E2,hE2⟩:=exq (QK (Q2v b).ev)
 rw[←hNE] at cP cC cSp cK
 rw[←hD] at cP cC cR
 rw[←hOP,←hE2] at cR
 rw[←hE1] at cSp
 obtain⟨t,ht⟩:=exq (Qd b)
 rw[←ht] at cP cC cR
 have cC:BCall prog 8 [.agg [.val (.int .i64 t.kind),.val (.int .i64 t.bom),.slc 1 (Q0 t.r),.slc 1 (Q8 t.off),.ref [.slc 6 N],.val (.int .i64 rt),.slc 3 D]] [] (.agg [.opt (.ref [.slc 6 N]),.val (.int .i64 rt),.val (.int .i64 0),.val (.int .i64 0),.opt (.val (.pointer none))]) []:=cC
 have cSp:BCall prog 7 [.agg [.opt (.ref [.slc 6 N]),.val (.int .i64 rt),.val (.int .i64 0),.val (.int .i64 0),.opt (.val (.pointer none))],.val (.bool true)] [] (.slc 3 E1) []:=cSp
 have cK:BCall prog 9 [.agg [.opt (.ref [.slc 6 N]),.val (.int .i64 rt),.val (.int .i64 0),.val (.int .i64 0),.opt (.val (.pointer none))]] [] (.val (.int .i64 20)) []:=cK
 have hl1:std.len E1=(Q2v b).ev.length:=by rw[hE1];show ((Q2X _).length:Int)=_;rw[QbP,List.length_map]
 have hl2:std.len E2=(Q2v b).ev.length:=by rw[hE2];show ((QK _).length:Int)=_;rw[Q69]
 have hEl:∀ k:Int,0≤k→k<std.len E2→∃ a c w1 w2,E1.getD k.toNat .dead=.agg [.val (.int .i64 a),.val (.int .i64 c),w1]∧E2.getD k.toNat .dead=.agg [.val (.int .i64 a),.val (.int .i64 c),w2]∧(std.hasL 1 w1).q∧(std.hasL 1 w2).q∧(std.isB (std.lst w1)).q∧(std.isB (std.lst w2)).q∧std.strB (std.lst w1)=std.strB (std.lst w2):=fun k h0 h1=>by
  rw[hl2] at h1
  have hk:k.toNat<(Q2v b).ev.length:=by omega
  have hm:=hsp (((Q2v b).ev[k.toNat]).ev) (List.mem_map.2 ⟨_,List.getElem_mem hk,rfl⟩)
  rw[hE1,hE2,List.getD_eq_getElem?_getD,List.getD_eq_getElem?_getD,Q2X,QK,List.getElem?_map,List.getElem?_map,List.getElem?_map,List.getElem?_eq_getElem hk]
  show ∃ a c w1 w2,Ev.av (Evr.ev _)=_∧Evr.av _=_∧_
  generalize (Q2v b).ev[k.toNat]=e at hm
  have hn:(std.isB []).q:=fun x hx=>by cases hx
  obtain⟨d,kd,q⟩:=e
  cases q with
  |some q =>
   by_cases hd:d=2
   ·refine⟨d,kd,.slc 1 (Q2 q),.slc 1 (Q2 q),?_,rfl,.inl rfl,.inl rfl,Q4u q,Q4u q,rfl⟩
    subst hd;rfl
   ·rcases hm with hm|⟨hm1,hm2⟩
    ·exact absurd hm hd
    ·have hm1:kd=0:=hm1
     have hm2:q=[]:=hm2
     subst hm1 hm2
     refine⟨d,0,Qct,.slc 1 (Q2 []),?_,rfl,.inr rfl,.inl rfl,hn,hn,rfl⟩
     show Ev.av ⟨d,0,[]⟩=_
     unfold Ev.av
     rw[if_neg hd];rfl
  |none =>
   by_cases hd:d=2
   ·refine⟨d,kd,.slc 1 (Q2 []),Qct,?_,rfl,.inl rfl,.inr rfl,hn,hn,rfl⟩
    subst hd;rfl
   ·rcases hm with hm|⟨hm1,hm2⟩
    ·exact absurd hm hd
    ·have hm1:kd=0:=hm1
     subst hm1
     refine⟨d,0,Qct,Qct,?_,rfl,.inr rfl,.inr rfl,hn,hn,rfl⟩
     show Ev.av ⟨d,0,[]⟩=_
     unfold Ev.av
     rw[if_neg hd];rfl
 have hDl:∀ k:Int,0≤k→k<std.len D→∃ a c e,D.getD k.toNat .dead=.agg [.val (.int .i64 a),.val (.int .i64 c),.val (.int .i64 e)]:=fun k h0 h1=>by
  rw[hD] at h1 ⊢
  have h1:k<((QC (QG b).d).length:Int):=h1
  rw[Q8T] at h1
  have hk:k.toNat<(QG b).d.length:=by omega
  rw[List.getD_eq_getElem?_getD,QC,List.getElem?_map,List.getElem?_eq_getElem hk]
  exact⟨_,_,_,rfl⟩
 have hDn:std.len D≤9000000:=by
  rw[hD]
  show ((QC (QG b).d).length:Int)≤9000000
  rw[Q8T];omega
 obtain⟨ne,hne⟩:=exq (std.len E2)
 have hne1:std.len E1=ne:=by rw[hne,hl1,hl2]
 have hnen:0≤ne∧ne≤9000000:=by rw[hne,hl2];omega
 obtain⟨nd,hnd⟩:=exq (std.len D)
 have hnd0:0≤nd:=by rw[hnd];show (0:Int)≤(D.length:Int);omega
 clear hO hN hAt hk20 hsp hdl hen hl1 hl2 hE1 hE2 hOP hD hNE ht hrt hev hwr hl hb
 refine fnN (cs:=Qdo t.kind t.bom rt (Q0 t.r) (Q8 t.off) N D (Q2 b) E1 OP E2 D 20) func3 rfl (by kernel_rfl) ?_
 intro w0 g0
 generalize hp:std=p
 generalize hK:t.kind=K
 generalize hM:t.bom=M
 generalize hR:Q0 t.r=R
 generalize hO:Q8 t.off=O
 generalize hSB:Q2 b=SB
 generalize hB0:Q2 b0=B0
 generalize hT:Q5 p tys (Qdo K M rt R O N D SB E1 OP E2 D 20) _ _ _ _=T
 cbv at hT
 subst hT
 simp only[Tree.ok,Q1,S0]
 subst hp hK hM hR hO hSB hB0
 have hnI:∀ a:Int,std.notB (std.eqI a a)=false:=fun a=>congrArg (fun q=>!q) (show (a == a)=true from beq_self_eq_true _)
 have hnS:∀ a:ByteArray,std.notB (std.eqS a a)=false:=fun a=>congrArg (fun q=>!q) (Qcg a)
 have hn3:∀ a b c:Int,std.notB (std.andB (std.eqI a a) (std.andB (std.eqI b b) (std.andB (std.eqI c c) true)))=false:=fun a b c=>by simp[std]
 have hF2:std.notB (std.eqI (std.len E1) (std.len E2))=false:=by rw[hne1,hne];exact hnI _
 have hF3:std.notB (std.eqI (std.len D) (std.len D))=false:=hnI _
 have hL2:(std.hasL 3 (.slc 3 E2)).q:=.inl rfl
 have hLD:(std.hasL 3 (.slc 3 D)).q:=.inl rfl
 repeat' first
  |(with_reducible apply And.intro)
  |(with_reducible intro hh)
 all_goals try first
  |exact cS
  |exact cP
  |exact cR
  |exact cC
  |exact cSp
  |exact⟨hL2,trivial⟩
  |exact⟨hLD,trivial⟩
  |exact absurd (hF2.symm.trans hh) (by decide)
  |exact absurd (hF3.symm.trans hh) (by decide)
 refine Q1r (cs:=Qdo t.kind t.bom rt (Q0 t.r) (Q8 t.off) N D (Q2 b) E1 OP E2 D 20) (by kernel_rfl) (X:=Int) (fun k=>⟨[(3,.box 0 0),(4,.ref [.slc 1 (Q2 b),.val (.int .i64 t.kind),.val (.int .i64 t.bom),.slc 1 (Q0 t.r),.slc 1 (Q8 t.off),.slc 1 OP,.slc 3 E2,.slc 3 D]),(5,.slc 3 E1),(41,.slc 3 E2),(42,.val (.int .i64 ne)),(43,.val (.int .i64 k))],[.box [.val (.int .i64 t.kind),.val (.int .i64 t.bom),.slc 1 (Q0 t.r),.slc 1 (Q8 t.off),.ref [.slc 6 N],.val (.int .i64 rt),.slc 3 D]]⟩) (fun k=>0≤k∧k≤ne) (fun k=>(ne-k).toNat) 0 ?_ ?_ ?_
 ·exact⟨Int.le_refl 0,hnen.1⟩
 ·refine⟨[some 0],_,rfl,?_⟩
  repeat first
   |exact trivial
   |refine⟨rfl,?_⟩
   |refine⟨gI hne.symm,?_⟩
   |refine⟨gI (gI hne.symm),?_⟩
   |refine⟨gA (gI hne.symm),?_⟩
   |refine⟨gB (gI hne.symm),?_⟩
   |refine⟨gR (gI hne.symm),?_⟩
   |refine⟨gT (gI hne.symm),?_⟩
 ·rintro k ⟨hk0,hk1⟩
  have hk0:0≤k:=hk0
  have hk1:k≤ne:=hk1
  generalize hp:std=p,hK:t.kind=K,hM:t.bom=M,hR:Q0 t.r=R,hO:Q8 t.off=O,hSB:Q2 b=SB
  generalize hT:Q5 p tys (Qdo K M rt R O N D SB E1 OP E2 D 20) _ _ _ _=T
  cbv at hT
  subst hT
  simp only[Tree.ok,Q1,S0]
  subst hp hK hM hR hO hSB
  refine⟨fun h=>?_,fun h=>?_⟩
  ·have h:k<ne:=of_decide_eq_true h
   have hin2:(std.inb k (std.len E2)).q:=by
    show 0≤k∧k<std.len E2
    rw[←hne];exact⟨hk0,h⟩
   have hin1:(std.inb k (std.len E1)).q:=by
    show 0≤k∧k<std.len E1
    rw[hne1];exact⟨hk0,h⟩
   obtain⟨ea,ec,w1,w2,he1,he2,hw1,hw2,hb1,hb2,hss⟩:=hEl k hk0 hin2.2
   have c1:std.cel (std.at_ E1 k)=[.val (.int .i64 ea),.val (.int .i64 ec),w1]:=by
    show AV.cells (E1.getD k.toNat .dead)=_
    rw[he1];rfl
   have c2:std.cel (std.at_ E2 k)=[.val (.int .i64 ea),.val (.int .i64 ec),w2]:=by
    show AV.cells (E2.getD k.toNat .dead)=_
    rw[he2];rfl
   have hA:(std.hasI .i64 (std.nth (std.cel (std.at_ E2 k)) 0)).q∧(std.hasI .i64 (std.nth (std.cel (std.at_ E2 k)) 1)).q∧(std.hasL 1 (std.nth (std.cel (std.at_ E2 k)) 2)).q∧True:=by rw[c2];exact⟨rfl,rfl,hw2,trivial⟩
   have hI0:(std.hasI .i64 (std.nth (std.drp (std.cel (std.at_ E1 k)) 0) 0)).q:=by rw[c1];exact rfl
   have hI1:(std.hasI .i64 (std.nth (std.drp (std.cel (std.at_ E1 k)) 1) 0)).q:=by rw[c1];exact rfl
   have hI2:(std.hasL 1 (std.nth (std.drp (std.cel (std.at_ E1 k)) 2) 0)).q:=by rw[c1];exact hw1
   have hB1:(std.isB (std.lst (std.nth (std.drp (std.cel (std.at_ E1 k)) 2) 0))).q:=by rw[c1];exact hb1
   have hB2:(std.isB (std.lst (std.nth (std.cel (std.at_ E2 k)) 2))).q:=by rw[c2];exact hb2
   have hX0:std.notB (std.eqI (std.int (std.nth (std.drp (std.cel (std.at_ E1 k)) 0) 0)) (std.int (std.nth (std.cel (std.at_ E2 k)) 0)))=false:=by rw[c1,c2];exact hnI ea
   have hX1:std.notB (std.eqI (std.int (std.nth (std.drp (std.cel (std.at_ E1 k)) 1) 0)) (std.int (std.nth (std.cel (std.at_ E2 k)) 1)))=false:=by rw[c1,c2];exact hnI ec
   have hX2:std.notB (std.eqS (std.strB (std.lst (std.nth (std.drp (std.cel (std.at_ E1 k)) 2) 0))) (std.strB (std.lst (std.nth (std.cel (std.at_ E2 k)) 2))))=false:=by
    rw[c1,c2]
    show std.notB (std.eqS (std.strB (std.lst w1)) (std.strB (std.lst w2)))=false
    rw[hss];exact hnS _
   have hk9:(std.inR .i64 (std.add k 1)).q:=by
    show (-9223372036854775808:Int)≤k+1∧k+1≤(9223372036854775807:Int)
    omega
   clear hEl hDl he1 he2 c1 c2
   repeat' first
    |(with_reducible apply And.intro)
    |(with_reducible intro hh)
   all_goals first
    |exact hin1
    |exact hin2
    |exact hA
    |exact⟨hI0,trivial⟩
    |exact⟨hI1,trivial⟩
    |exact⟨hI2,trivial⟩
    |exact hB1
    |exact hB2
    |exact hk9
    |exact absurd (hX0.symm.trans hh) (by decide)
    |exact absurd (hX1.symm.trans hh) (by decide)
    |exact absurd (hX2.symm.trans hh) (by decide)
    |(refine⟨k+1,⟨by omega,by omega⟩,by omega,[some 0],_,rfl,?_⟩
      repeat first|exact trivial|refine⟨rfl,?_⟩)
  ·have h:¬ k<ne:=of_decide_eq_false h
   rw[if_pos trivial]
   generalize hp:std=p,hK:t.kind=K,hM:t.bom=M,hR:Q0 t.r=R,hO:Q8 t.off=O,hSB:Q2 b=SB
   generalize hT:Q5 p tys (Qdo _ _ _ _ _ _ _ _ _ _ _ _ _) _ _ _ _=T
   cbv at hT
   subst hT
   simp only[Tree.ok,Q1,S0]
   subst hp hK hM hR hO hSB
   refine⟨⟨hLD,trivial⟩,?_⟩
   refine Q1r (cs:=Qdo t.kind t.bom rt (Q0 t.r) (Q8 t.off) N D (Q2 b) E1 OP E2 D 20) (by kernel_rfl) (X:=Int) (fun k=>⟨[(3,.box 0 0),(82,.slc 3 D),(83,.val (.int .i64 nd)),(84,.val (.int .i64 k))],[.box [.val (.int .i64 t.kind),.val (.int .i64 t.bom),.slc 1 (Q0 t.r),.slc 1 (Q8 t.off),.ref [.slc 6 N],.val (.int .i64 rt),.slc 3 D]]⟩) (fun k=>0≤k∧k≤nd) (fun k=>(nd-k).toNat) 0 ?_ ?_ ?_
   ·exact⟨Int.le_refl 0,hnd0⟩
   ·refine⟨[some 0],_,rfl,?_⟩
    repeat first
     |exact trivial
     |refine⟨rfl,?_⟩
     |refine⟨gI hnd.symm,?_⟩
     |refine⟨gI (gI hnd.symm),?_⟩
     |refine⟨gA (gI hnd.symm),?_⟩
     |refine⟨gB (gI hnd.symm),?_⟩
     |refine⟨gR (gI hnd.symm),?_⟩
     |refine⟨gT (gI hnd.symm),?_⟩
   ·rintro j ⟨hj0,hj1⟩
    have hj0:0≤j:=hj0
    have hj1:j≤nd:=hj1
    generalize hp:std=p,hK:t.kind=K,hM:t.bom=M,hR:Q0 t.r=R,hO:Q8 t.off=O,hSB:Q2 b=SB
    generalize hT:Q5 p tys (Qdo K M rt R O N D SB E1 OP E2 D 20) _ _ _ _=T
    cbv at hT
    subst hT
    simp only[Tree.ok,Q1,S0]
    subst hp hK hM hR hO hSB
    refine⟨fun h=>?_,fun h=>?_⟩
    ·have h:j<nd:=of_decide_eq_true h
     have hin:(std.inb j (std.len D)).q:=by
      show 0≤j∧j<std.len D
      rw[←hnd];exact⟨hj0,h⟩
     obtain⟨da,dc,de,he1⟩:=hDl j hj0 hin.2
     have hk9:(std.inR .i64 (std.add j 1)).q:=by
      show (-9223372036854775808:Int)≤j+1∧j+1≤(9223372036854775807:Int)
      omega
     have c1:std.cel (std.at_ D j)=[.val (.int .i64 da),.val (.int .i64 dc),.val (.int .i64 de)]:=by
      show AV.cells (D.getD j.toNat .dead)=_
      rw[he1];rfl
     have hA3:(std.hasI .i64 (std.nth (std.cel (std.at_ D j)) 0)).q∧(std.hasI .i64 (std.nth (std.cel (std.at_ D j)) 1)).q∧(std.hasI .i64 (std.nth (std.cel (std.at_ D j)) 2)).q∧True:=by rw[c1];exact⟨rfl,rfl,rfl,trivial⟩
     clear hEl hDl he1 c1
     repeat' first
      |(with_reducible apply And.intro)
      |(with_reducible intro hh)
     all_goals first
      |exact hin
      |exact hA3
      |exact QhS
      |exact hk9
      |exact absurd ((hn3 _ _ _).symm.trans hh) (by decide)
      |(refine⟨j+1,⟨by omega,by omega⟩,by omega,[some 0],_,rfl,?_⟩
        repeat first|exact trivial|refine⟨rfl,?_⟩)
    ·have h:¬ j<nd:=of_decide_eq_false h
     rw[if_pos trivial]
     generalize hp:std=p,hK:t.kind=K,hM:t.bom=M,hR:Q0 t.r=R,hO:Q8 t.off=O,hSB:Q2 b=SB
     generalize hT:Q5 p tys (Qdo _ _ _ _ _ _ _ _ _ _ _ _ _) _ _ _ _=T
     cbv at hT
     subst hT
     simp only[Tree.ok,Q1,S0]
     subst hp hK hM hR hO hSB
     exact⟨cC,cK,fun _=>⟨cA,.pure rfl (.inl rfl)⟩,fun hh=>absurd hh (by decide)⟩
end Go.Proofs.YthbjpdijafccjaaGreat
