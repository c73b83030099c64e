/- Lemmas; conditions told. -/
import Derived.Test.YtibemhahkicbpaaGreatQJ21
set_option maxRecDepth 99999
set_option maxHeartbeats 0
set_option linter.unusedSimpArgs false
set_option linter.unusedVariables false
namespace Go.Proofs.YtibemhahkicbpaaGreat
open List(length_cons getD_eq_getElem?_getD getElem?_map length_take map_take length_append length_singleton take_of_length_le map_cons sum_cons mem_cons getElem?_eq_getElem getElem_mem take_add_one mem_append)
open Nat(le_refl zero_le)
open Go.RowKit Go.Lib
section
open Tryz
def Qbc(t:Txt)(b:List UInt8)(k f u:Int)(w:Bool)(N D S:List AV):List AV:=Q3 (Q26 t b k f u w (mkB N D S)).n
def Qah(t:Txt)(b:List UInt8)(k f u:Int)(w:Bool)(N D S:List AV):List AV:=Qk (Q26 t b k f u w (mkB N D S)).d
def Q9P(t:Txt)(b:List UInt8)(k f u:Int)(w:Bool)(N D S:List AV):List AV:=Qi (Q26 t b k f u w (mkB N D S)).s
theorem QnQ(t:Txt)(b:List UInt8)(k f u:Int)(w:Bool)(m:Mk):Qbc t b k f u w (Q3 m.n) (Qk m.d) (Qi m.s)=Q3 (Q26 t b k f u w m).n:=by rw[Qbc,Q2m]
theorem QmF(t:Txt)(b:List UInt8)(k f u:Int)(w:Bool)(m:Mk):Qah t b k f u w (Q3 m.n) (Qk m.d) (Qi m.s)=Qk (Q26 t b k f u w m).d:=by rw[Qah,Q2m]
theorem QmS(t:Txt)(b:List UInt8)(k f u:Int)(w:Bool)(m:Mk):Q9P t b k f u w (Q3 m.n) (Qk m.d) (Qi m.s)=Qi (Q26 t b k f u w m).s:=by rw[Q9P,Q2m]
def QcM(p:Pr)(TK:List AV)(tn td ts:Int->Int->Int->Bool->List AV->List AV->List AV->List AV)(mn md ms:Int->List AV->List AV->List AV->List AV)(br:Int->List AV->List AV->List AV):Nat->List AV->List Ob->Option (AV×List Ob):=fun f args ob=>match f,args with
 |87,[.slc 1 _]=>some (.slc 4 TK,[])
 |88,[.box 0 0,.agg [.val (.int .i64 kind),.val (.int .i64 f),.val (.int .i64 u),.val (.bool wh)]]=>Q3K ob fun b k m r o rt N D S=>some (.tup [],obM 1 b k m r o rt (tn kind f u wh N D S) (td kind f u wh N D S) (ts kind f u wh N D S))
 |89,[.box 0 0,.val (.int .i64 a)]=>Q3K ob fun b k m r o rt N D S=>some (.tup [],obM 1 b k m r o rt (mn a N D S) (md a N D S) (ms a N D S))
 |90,[.box 0 0,.val (.int .i64 k),.slc 1 ks]=>match ob with
  | [.box [.row 1 0],.row 182 6 false 0 N]=>some (.tup [.val (.int .i64 (p.len N)),.val (.int .i64 0)],[.box [.row 1 1],.row 182 6 false 1 (br k ks N)])
  |_=>none
 |_,_=>none
def alO:OT:=.then [0,1,2,4,5,6,7,8,9,10,11,12,13,14,15,16,17] (.fork (.of [3,18,19,20,21,22,23,24]) (.of [18,19,20,21,3,22,23,24]))
theorem QcX(l:List Int):∀n k:Nat,l.length-k<=n->(Q1S l k).length<=n
 |0,k,h=>by rw[Q1k (by omega)];exact le_refl _
 |n+1,k,h=>by
  by_cases hk:k<l.length
  ·have:=Q2E l k hk
   rw[Q1O hk,length_cons];have:=QcX l n (Ql l k).2.1 (by omega)
   omega
  ·rw[Q1k hk];exact zero_le _
theorem QnZ(t:Txt)(b:List UInt8)(hs:Sml t b)(rt:Int)(m:Mk)(B D:Nat)(iv:MkI m (Q6y t b 0) B D)(hB:B+3 * t.r.length<=600000)(hD:D+3 * t.r.length<=600000) :
  BCall prog 44 [.box 0 0] (obT 0 t b rt m) (.tup []) (obT 1 t b (Q8R t b m).n.length (QL (Q8R t b m))):=by
 have cT:=QeJ t.r hs.hr;obtain⟨toks,vm⟩:=exq (Q1r t.r);rw[<-vm]at cT
 have za:toks.length<=1000000:=by
  have:=QcX t.r t.r.length 0 (by omega)
  rw[vm];exact Nat.le_trans this hs.hr
 obtain⟨n,hn⟩:=QE toks;obtain⟨M0,n8⟩:=exq (toks.foldl (Q7k t b) m);obtain⟨M1,hM1⟩:=exq (Q8R t b m);have hM01:M1=missGo t t.r.length 0 M0.s.length M0:=by rw[hM1,n8,vm];rfl
 rw[<-hM1];obtain⟨E,hE⟩:=exq (QL M1);unfold obT obM;refine fnO false (QcM std (QA toks) (Qbc t b) (Qah t b) (Q9P t b) (Q5I t) (Q5B t) (Q5J t) brA) (fun id=>match id with|7=> alO|_=>.nil) func44 rfl fun _ _=>?_
 generalize hS:Qi m.s=S;generalize vK:Q2 b=B';generalize hR:Q0 t.r=R;generalize hO:Q9 t.off=O;generalize hK:t.kind=K;generalize hM:t.bom=M;with_reducible refine Qqc (QA toks) (Qbc t b) (Qah t b) (Q9P t b) (Q5I t) (Q5B t) (Q5J t) brA (Q3 m.n) (Qk m.d) ?_
 subst hS vK hR hO hK hM;have tlen:=Q5G toks;have qC:std.len (QA toks)=n:=by show((QA toks).length:Int)=n;rw[tlen,hn.eq]
 refine⟨cT,?_⟩;refine Q1h (QcM std (QA toks) (Qbc t b) (Qah t b) (Q9P t b) (Q5I t) (Q5B t) (Q5J t) brA) (Int×Mk×Nat) (fun x=>⟨[(0,.box 0 0),(12,.slc 4 (QA toks)),(13,.val (.int .i64 n)),(14,.val (.int .i64 x.1))],[.box [.slc 1 (Q2 b),.box 1 0,.row 5 1],.box [.val (.int .i64 t.kind),.val (.int .i64 t.bom),.slc 1 (Q0 t.r),.slc 1 (Q9 t.off),.box 2 0,.val (.int .i64 rt),.row 4 1],.box [.row 3 1],.row 182 6 false 1 (Q3 x.2.1.n),.row 146 3 false 1 (Qk x.2.1.d),.row 99 2 false 1 (Qi x.2.1.s)]⟩) (fun x=>0<=x.1/\x.1<=n/\x.2.2<=t.r.length/\Q1S t.r x.2.2=toks.drop x.1.toNat/\MkI x.2.1 (Q6y t b x.2.2) (B+3 * x.2.2) (D+3 * x.2.2)/\(toks.drop x.1.toNat).foldl (Q7k t b) x.2.1=M0) (fun x=>(n-x.1).toNat) (0,m,0) ?_ ?_ ?_
 ·have:=hn.eq
  exact⟨Int.le_refl _,by simp only;omega,zero_le _,by rw[vm];rfl,iv,n8.symm⟩
 ·refine⟨[some 0,some 1,some 2,some 3,some 4,some 5],_,rfl,?_⟩
  exact eq1 qC
 ·rintro⟨i,x,k⟩ ⟨jK,qE,hk,hd,hv,hf⟩
  simp only at jK qE hk hd hv hf
  have okx:=hv.i.ok (by omega) (by omega)
  rcases Int.lt_or_eq_of_le qE with jA|jZ
  ·have en:=hn.eq
   have jS:i.toNat<toks.length:=by omega
   have qe:k<t.r.length:=by
    by_cases h:k<t.r.length
    ·exact h
    ·rw[Q1k h]at hd
     have:=congrArg List.length hd
     rw[List.length_drop]at this;simp at this;omega
   obtain⟨t1,t2,t3,t4⟩:=Q9S t.r qe;have hdr:toks.drop i.toNat=Q1m t.r k::Q1S t.r (Ql t.r k).2.1:=by rw[<-hd,Q1O qe]
   have ng:toks[i.toNat]?=some (Q1m t.r k):=by rw[<-List.head?_drop,hdr];rfl
   have zi:Q1S t.r (Ql t.r k).2.1=toks.drop (i+1).toNat:=by
    rw[show(i+1).toNat=i.toNat+1 by omega,<-List.tail_drop,hdr];rfl
   have jU:(QA toks).getD i.toNat .dead=(Q1m t.r k).av:=by
    rw[getD_eq_getElem?_getD,QA,getElem?_map,ng];rfl
   have jR:InT t (Q1m t.r k).from_ (Q1m t.r k).to:=⟨by omega,by omega,by omega⟩
   have hXl:(Q6y t b k).length<=1000000:=by
    have:=hs.hb
    rw[Q6y,length_take];omega
   have c:=Qmo t b hs rt x (Q6y t b k) (B+3 * k) (D+3 * k) hv.i (by omega) (by omega) hXl (Q1m t.r k).kind (Q1m t.r k).from_ (Q1m t.r k).to (Q1m t.r k).whole jR
   have cG:MkI (Q7k t b x (Q1m t.r k)) (Q6y t b (Ql t.r k).2.1) (B+3 * (Ql t.r k).2.1) (D+3 * (Ql t.r k).2.1):=by
    have:=hv.token t b hs.hr (Q1m t.r k).kind (Q1m t.r k).from_ (Q1m t.r k).to (Q1m t.r k).whole
    rw[t1,t2,Q7B hs.ok (by omega) (by omega) (by omega)]at this
    have e:Q7k t b x (Q1m t.r k)=Q26 t b (Q1m t.r k).kind k ((Ql t.r k).2.1:Nat) (Q1m t.r k).whole x:=rfl;rw[e];exact⟨this.i.mono (by omega) (by omega),this.c⟩
   have qP:(toks.drop (i+1).toNat).foldl (Q7k t b) (Q7k t b x (Q1m t.r k))=M0:=by
    rw[hdr,List.foldl_cons]at hf;rw[<-zi];exact hf
   obtain⟨y,hy⟩:=exq (Q1m t.r k);obtain⟨k2,jm⟩:=exq ((Ql t.r k).2.1);rw[<-hy]at jU jR c cG qP;rw[<-jm]at cG zi t4;clear en t1 t2 t3 hdr ng hd hf hy jm qe;generalize hS:Qi x.s=S;generalize vK:Q2 b=B';generalize hR:Q0 t.r=R;generalize hO:Q9 t.off=O;generalize hK:t.kind=K;generalize hM:t.bom=M;with_reducible refine Qqc (QA toks) (Qbc t b) (Qah t b) (Q9P t b) (Q5I t) (Q5B t) (Q5J t) brA (Q3 x.n) (Qk x.d) ?_
   subst hS vK hR hO hK hM;unfold obT obM at c;simp only[std,jU,Tok.av,AV.cells,List.getD_cons_zero,List.getD_cons_succ,intOf,Q5y,Q3t,QnQ,QmF,QmS,decide_eq_true_eq,decide_eq_false_iff_not];refine⟨fun _=>⟨?_,⟨trivial,trivial,trivial,trivial,trivial⟩,c,?_,(i+1,Q7k t b x y,k2),⟨?_,?_,t4,zi,cG,qP⟩,?_,[some 0,some 1,some 2,some 3,some 4,some 5],_,rfl,?_⟩,fun h=>?_⟩
   ·have:=hn.eq
    rw[tlen];omega
   ·have:=hn.eq
    have:=hs.hr
    show(-9223372036854775808:Int)<=i+1/\i+1<=(9223372036854775807:Int)
    omega
   ·show 0<=i+1
    omega
   ·show i+1<=n
    omega
   ·show(n-(i+1)).toNat<(n-i).toNat
    omega
   ·simp[Qe,lk,Q7k]
   ·omega
  ·have pP:toks.drop i.toNat=[]:=List.drop_eq_nil_of_le (by have:=hn.eq;omega)
   rw[pP]at hd hf;have hxM:x=M0:=hf
   have hkr:k=t.r.length:=by
    by_cases h:k<t.r.length
    ·rw[Q1O h]at hd;cases hd
    ·omega
   subst hxM;rw[jZ];clear hd hf pP hk;have hlr:(t.r.length:Int)=t.r.length:=rfl;obtain⟨rl,qM⟩:=QE t.r;generalize hS:Qi x.s=S;generalize vK:Q2 b=B';generalize hR:Q0 t.r=R;generalize hO:Q9 t.off=O;generalize hK:t.kind=K;generalize hM:t.bom=M;with_reducible refine Qqc (QA toks) (Qbc t b) (Qah t b) (Q9P t b) (Q5I t) (Q5B t) (Q5J t) brA (Q3 x.n) (Qk x.d) ?_
   subst hS vK hR hO hK hM;refine⟨fun h=>?_,fun _=>?_⟩
   ·have h:n<n:=of_decide_eq_true h
    omega
   rw[if_pos trivial];generalize hS:Qi x.s=S;generalize vK:Q2 b=B';generalize hR:Q0 t.r=R;generalize hO:Q9 t.off=O;generalize hK:t.kind=K;generalize hM:t.bom=M;with_reducible refine Qqc (QA toks) (Qbc t b) (Qah t b) (Q9P t b) (Q5I t) (Q5B t) (Q5J t) brA (Q3 x.n) (Qk x.d) ?_
   subst hS vK hR hO hK hM;rw[hkr,QaE hs.ok]at hv;have gD:MkI x b (B+3 * t.r.length) (D+3 * t.r.length):=hv;have hrl2:std.len (Q0 t.r)=rl:=by show((Q0 t.r).length:Int)=rl;rw[Qx,qM.eq]
   clear hv hkr hlr okx jZ jK qE;refine Q1h (QcM std (QA toks) (Qbc t b) (Qah t b) (Q9P t b) (Q5I t) (Q5B t) (Q5J t) brA) (Mk) (fun x=>⟨[(0,.box 0 0)],[.box [.slc 1 (Q2 b),.box 1 0,.row 5 1],.box [.val (.int .i64 t.kind),.val (.int .i64 t.bom),.slc 1 (Q0 t.r),.slc 1 (Q9 t.off),.box 2 0,.val (.int .i64 rt),.row 4 1],.box [.row 3 1],.row 182 6 false 1 (Q3 x.n),.row 146 3 false 1 (Qk x.d),.row 99 2 false 1 (Qi x.s)]⟩) (fun x=>MkI x b (B+3 * t.r.length) (D+3 * t.r.length)/\missGo t t.r.length 0 x.s.length x=M1) (fun x=>x.s.length) x ?_ ?_ ?_
   ·exact⟨gD,hM01.symm⟩
   ·exact⟨[some 0,some 1,some 2,some 3,some 4,some 5],_,rfl,by simp[Qe,lk,std]⟩
   ·rintro y ⟨hv,hg⟩
    have oky:=hv.i.ok (by omega) (by omega)
    have ylen:=Q3W y.s;obtain⟨LY,hLY⟩:=QE y.s;generalize hS:Qi y.s=S;generalize vK:Q2 b=B';generalize hR:Q0 t.r=R;generalize hO:Q9 t.off=O;generalize hK:t.kind=K;generalize hM:t.bom=M;with_reducible refine Qqc (QA toks) (Qbc t b) (Qah t b) (Q9P t b) (Q5I t) (Q5B t) (Q5J t) brA (Q3 y.n) (Qk y.d) ?_
    subst hS vK hR hO hK hM;have hly:std.len (Qi y.s)=LY:=by show((Qi y.s).length:Int)=LY;rw[ylen,hLY.eq]
    simp only[Qh4,Qht,Qhi];refine⟨fun vg=>?_,fun jH=>?_⟩
    ·have vg:1<std.len (Qi y.s):=of_decide_eq_true vg
     rw[hly]at vg;have zc:2<=y.s.length:=by have:=hLY.eq;omega
     have kh:=qM.eq;have jV:=hs.ok.len;have c:=Qk8 t b rt hv.i (by omega) (by omega) hs.hb t.r.length (by omega) zc
     have erl:(t.r.length:Int)=std.len (Q0 t.r):=by rw[hrl2];exact kh.symm
     rw[erl]at c;refine⟨c,Q3l t (std.len (Q0 t.r)) y,⟨by rw[<-erl];exact hv.miss zc t t.r.length,?_⟩,by rw[Q85];omega,[some 0,some 1,some 2,some 3,some 4,some 5],_,rfl,by simp[Qe,lk,std]⟩
     rw[<-erl,<-Q9g (by omega)];exact hg
    ·have jH:¬1<std.len (Qi y.s):=of_decide_eq_false jH
     rw[hly]at jH;have zV:y.s.length=1:=by have:=hLY.eq;have:=hv.i.s1;omega
     have hyM:y=M1:=by rw[<-hg,Q9T (by omega)]
     subst hyM;clear jH hly;rw[if_pos trivial];generalize hS:Qi y.s=S;generalize vK:Q2 b=B';generalize hR:Q0 t.r=R;generalize hO:Q9 t.off=O;generalize hK:t.kind=K;generalize hM:t.bom=M;with_reducible refine Qqc (QA toks) (Qbc t b) (Qah t b) (Q9P t b) (Q5I t) (Q5B t) (Q5J t) brA (Q3 y.n) (Qk y.d) ?_
     subst hS vK hR hO hK hM;obtain⟨o,ho⟩:∃o,y.s=[o]:=List.length_eq_one_iff.1 zV;have gf:QZ y.s=o:=by rw[ho];rfl
     have hcell:std.nth (std.drp (std.cel (std.at_ (Qi y.s) 0)) 1) 0=slK (QZ y.s).kids:=by rw[gf,ho];rfl
     have zU:std.lst (slK (QZ y.s).kids)=Q9 (QZ y.s).kids:=by cases(QZ y.s).kids<;>rfl
     have kV:std.lst (std.nth (std.drp (std.cel (std.at_ (Qi y.s) 0)) 1) 0)=Q9 (QZ y.s).kids:=by rw[hcell,zU]
     have nh:((QZ y.s).kids.flatMap (pr y.n)).length<=b.length:=by
      have:=hv.i.p
      rw[gf,<-this,ho];simp[prK]
     have qe:(QZ y.s).kids.length<=900000:=oky.top;have cB:=Qfg y.n (by have:=oky.n;omega) 20 (QZ y.s).kids (by omega) hv.i.top hv.i.ar.ok.w hv.i.ar.ok.c (MkInv.sum hv.i.ar hv.i.top nh (by have:=hs.hb;omega))
     rw[<-Qd7,<-Q1o,<-kV]at cB;have hnl2:=Q1o y.n
     have fin:brA 20 (std.lst (std.nth (std.drp (std.cel (std.at_ (Qi y.s) 0)) 1) 0)) (Q3 y.n)=Q3 (QL y).n:=by
      rw[kV,Qd7];rfl
     have e0:std.len (Q3 y.n)=(y.n.length:Int):=by show((Q3 y.n).length:Int)=_;rw[hnl2]
     refine⟨?_,⟨?_,trivial⟩,⟨cB,?_⟩,cB,?_⟩
     ·show 0<=(0:Int)/\(0:Int)<std.len (Qi y.s)
      show 0<=(0:Int)/\(0:Int)<((Qi y.s).length:Int);rw[ylen,zV];decide
     ·show std.hasL 1 (std.nth (std.drp (std.cel (std.at_ (Qi y.s) 0)) 1) 0)
      rw[hcell];rcases QjU (QZ y.s).kids with h|h
      ·exact .inl (by rw[h];rfl)
      ·exact .inr h.1
     all_goals
      refine⟨[some 0,some 1,some 2,some 3,some 4,some 5],.tup [],_,rfl,rfl,Nat.le_of_ble_eq_true rfl,rfl,?_,trivial⟩;exact eq2 e0 fin
def mk0:Mk:=⟨[],[],[⟨[],[]⟩]⟩
def Qk4(bs:List UInt8):Mk:=Q3g 0 (Q20 (QI 23 bs) mk0)
def Q3s(b:List UInt8):Mk:=if 0<(QX b).2 then Qk4 (b.take (QX b).2.toNat)else mk0
def Qu(b:List UInt8):Mk:=Q8R (Qb b) b (Q3s b)
def Q8c(t:Txt)(m:Mk):AV:=.agg [.val (.int .i64 t.kind),.val (.int .i64 t.bom),.slc 1 (Q0 t.r),.slc 1 (Q9 t.off),.ref [.slc 6 (Q3 (QL m).n)],.val (.int .i64 m.n.length),.slc 3 (Qk m.d)]
def QnU(kd bm:Int)(R O:List AV)(rt:Int)(an ad asx N1 S1:List AV):Nat->List AV->List Ob->Option (AV×List Ob):=fun f args ob=>match f,args with
 |40,[.slc 1 _]=>some (.agg [.val (.int .i64 kd),.val (.int .i64 bm),.slc 1 R,.slc 1 O],[])
 |41,[]=>some (.box 0 0,[.box [.val (.slice none 0 0)]])
 |43,[.box 0 0,.val (.int .i64 _),.slc 1 _]=>match ob with
  | [.box [.val (.slice none 0 0)]]=>some (.val (.int .i64 0),[.box [.row 1 1],.row 182 6 false 1 N1])
  |_=>none
 |42,[.box 0 0,.val (.int .i64 _)]=>match ob with
  | [.box [b,.box 1 0,.row 4 0],.box [k,m,r,o,.box 2 0,q,.val (.slice none 0 0)],.box [.row 3 0],.row 182 6 false 0 N,.row 99 2 false 0 _] =>
   some (.tup [],[.box [b,.box 1 0,.row 4 1],.box [k,m,r,o,.box 2 0,q,.row 5 1],.box [.row 3 1],.row 182 6 false 1 N,.row 99 2 false 1 S1,.row 146 3 false 1 []])
  |_=>none
 |44,[.box 0 0]=>match ob with
  | [.box [b,.box 1 0,.row 3 0],.box [k,m,r,o,.box 2 0,_,.val (.slice none 0 0)],.box [.val (.slice none 0 0)],.row 99 2 false 0 _] =>
   some (.tup [],[.box [b,.box 1 0,.row 3 1],.box [k,m,r,o,.box 2 0,.val (.int .i64 rt),.row 4 1],.box [.row 5 1],.row 99 2 false 1 asx,.row 146 3 false 1 ad,.row 182 6 false 1 an])
  |_=>Q3K ob fun b k m r o _ _ _ _=>some (.tup [],obM 1 b k m r o (.val (.int .i64 rt)) an ad asx)
 |_,_=>none
theorem mk0_inv:MkI mk0 [] 2 2 :=
 have h:∀x∈mk0.s,x=⟨[],[]⟩:=fun x hx=>by simpa[mk0]using hx
 ⟨⟨Qov,(fun x hx=>by rw[h x hx];exact fun k hk=>by cases hk),rfl,le_refl _,le_refl _,le_refl _,le_refl _,(fun x hx=>by rw[h x hx];exact zero_le _)⟩,le_refl _⟩
theorem QjD(bs:List UInt8):MkI (Qk4 bs) bs 3 2:=by
 have h:=mk0_inv;have ha:=Q4A h.i.ar 23 bs;exact⟨Qh8 h.i ha.1 ha.2,Q7Q h.i h.c 23 bs⟩
theorem QiB(b:List UInt8):Q6y (Qb b) b 0=b.take (QX b).2.toNat:=by
 rw[Q6y,Q1s,show(0:Int).toNat=0 from rfl,(Q3N b).2.1]
theorem Q6Y(b:List UInt8):MkI (Q3s b) (Q6y (Qb b) b 0) 3 2:=by
 rw[QiB,Q3s];have hb:=Q4h b;split
 ·exact QjD _
 ·have:(QX b).2=0:=by omega
  rw[this];exact⟨mk0_inv.i.mono (by omega) (le_refl _),mk0_inv.c⟩
theorem Q6r(b:List UInt8)(hb:b.length<=100000):Sml (Qb b) b:=⟨by omega,Nat.le_trans (Q3N b).2.2.1 (by omega),(Q3N b).1⟩
theorem QlY(t:Txt)(b:List UInt8)(hs:Sml t b)(B D:Nat)(iv:MkI mk0 (Q6y t b 0) B D)(hB:B+3 * t.r.length<=600000)(hD:D+3 * t.r.length<=600000) :
  BCall prog 44 [.box 0 0] [.box [.slc 1 (Q2 b),.box 1 0,.row 3 0],.box [.val (.int .i64 t.kind),.val (.int .i64 t.bom),.slc 1 (Q0 t.r),.slc 1 (Q9 t.off),.box 2 0,.val (.int .i64 0),.val (.slice none 0 0)],.box [.val (.slice none 0 0)],.row 99 2 false 0 (Qi mk0.s)] (.tup [])
   [.box [.slc 1 (Q2 b),.box 1 0,.row 3 1],.box [.val (.int .i64 t.kind),.val (.int .i64 t.bom),.slc 1 (Q0 t.r),.slc 1 (Q9 t.off),.box 2 0,.val (.int .i64 (Q8R t b mk0).n.length),.row 4 1],.box [.row 5 1],.row 99 2 false 1 (Qi (QL (Q8R t b mk0)).s),.row 146 3 false 1 (Qk (QL (Q8R t b mk0)).d),.row 182 6 false 1 (Q3 (QL (Q8R t b mk0)).n)]:=by
 have h:=QnZ t b hs 0 mk0 B D iv hB hD;unfold obT obM at h;exact h.tell [some 0,some 1,some 2,none,none,some 3] [some 0,some 1,some 2,some 5,some 4,some 3] rfl rfl rfl (Nat.le_of_ble_eq_true rfl) rfl (by simp[Qe,Q3,Qk,mk0]) (res':=.tup []) rfl (by simp[Qe]) trivial
theorem QmB(t:Txt)(b:List UInt8)(m:Mk)(hd:m.d=[])(hs:1<=m.s.length)(hn:m.s.length<=1000000)(hk:(QZ m.s).kids.length<=1000000)(n:Int) :
  BCall prog 42 [.box 0 0,.val (.int .i64 n)] [.box [.slc 1 (Q2 b),.box 1 0,.row 4 0],.box [.val (.int .i64 t.kind),.val (.int .i64 t.bom),.slc 1 (Q0 t.r),.slc 1 (Q9 t.off),.box 2 0,.val (.int .i64 0),.val (.slice none 0 0)],.box [.row 3 0],.row 182 6 false 0 (Q3 m.n),.row 99 2 false 0 (Qi m.s)] (.tup [])
   [.box [.slc 1 (Q2 b),.box 1 0,.row 4 1],.box [.val (.int .i64 t.kind),.val (.int .i64 t.bom),.slc 1 (Q0 t.r),.slc 1 (Q9 t.off),.box 2 0,.val (.int .i64 0),.row 5 1],.box [.row 3 1],.row 182 6 false 1 (Q3 m.n),.row 99 2 false 1 (Qi (Q2k n m.s)),.row 146 3 false 1 []]:=by
 have h:=QaH t b 0 m hs hn hk n;unfold obT obM at h;exact h.tell [some 0,some 1,some 2,some 3,none,some 4] [some 0,some 1,some 2,some 3,some 5,some 4] rfl rfl rfl (Nat.le_of_ble_eq_true rfl) rfl (by simp[Qe,Qk,hd]) (res':=.tup []) rfl (by simp[Qe,Qk,Q3g,hd]) trivial
theorem Qn7(b:List UInt8)(hb:b.length<=100000):BCall prog 13 [.slc 1 (Q2 b)] [] (Q8c (Qb b) (Qu b)) []:=by
 obtain⟨ok,h1,h2,h3,h4⟩:=Q3N b;have hs:=Q6r b hb;have cD:=Qll b (by omega) (by omega) (fun x hx=>by have:=h4 x hx;omega)
 have yO:=Q4h b;have hE:Qu b=Q8R (Qb b) b (Q3s b):=rfl;have hiv:=Q6Y b;have qM:=hs.hr;have c0:=fun(h:Q3s b=mk0)=>QlY (Qb b) b hs 3 2 (by rw[<-h];exact hiv) (by omega) (by omega)
 have c1:=QnZ (Qb b) b hs 0 (Q3s b) 3 2 hiv (by omega) (by omega)
 rw[<-hE]at c1;obtain⟨M,hM⟩:=exq (Qu b);rw[<-hM]at c1 hE ⊢;have cL:=Qmi 23 (b.take (QX b).2.toNat) (by rw[length_take];omega)
 have cK:=QmB (Qb b) b (Q20 (QI 23 (b.take (QX b).2.toNat)) mk0) rfl (le_refl _) (Nat.le_of_ble_eq_true rfl) (zero_le _) 0;obtain⟨t,ht⟩:=exq (Qb b);have pg:t.bom=(QX b).2:=by rw[ht];rfl
 rw[<-ht]at cD c0 c1 cK hE ⊢;rw[<-pg]at cL cK yO;have hf:Q3s b=if 0<t.bom then Qk4 (b.take t.bom.toNat)else mk0:=by rw[pg];rfl
 obtain⟨nb,q6⟩:=QE b;have kN:t.bom<=nb:=by rw[q6.eq];exact yO.2
 have pq:=yO.1
 have jT:std.cut (Q2 b) 0 t.bom=Q2 (b.take t.bom.toNat):=by
  show((Q2 b).drop (0:Int).toNat).take (t.bom-0).toNat=_
  simp[Q2,map_take]
 have jY:=Q11 b;clear h1 h2 h3 h4 yO qM;refine fnN (QnU t.kind t.bom (Q0 t.r) (Q9 t.off) M.n.length (Q3 (QL M).n) (Qk M.d) (Qi M.s) (Q3 [QI 23 (b.take t.bom.toNat)]) (Qi (Q2k 0 mk0.s))) func13 rfl fun _ _=>?_
 generalize vK:Q2 b=B';with_reducible refine Qqc (Q3 [QI 23 (b.take t.bom.toNat)]) (Qi (Q2k 0 mk0.s)) ((M.n.length:Int)) (Q3 (QL M).n) (Qk M.d) (Qi M.s) t.bom t.kind (Q0 t.r) (Q9 t.off) ?_
 subst vK;refine⟨cD,Qq0,fun h=>⟨?_,?_,cK,?_,.pure rfl ⟨.inl rfl,.inl rfl,.inl rfl,.inl rfl,.inl rfl,.inl rfl,.inl rfl,trivial⟩⟩,fun h=>⟨?_,.pure rfl ⟨.inl rfl,.inl rfl,.inl rfl,.inl rfl,.inl rfl,.inl rfl,.inl rfl,trivial⟩⟩⟩
 ·show 0<=(0:Int)/\0<=t.bom/\t.bom<=((Q2 b).length:Int)
  have:=q6.eq
  rw[jY];omega
 ·show BCall _ _ [.box 0 0,.val (.int .i64 23),.slc 1 (std.cut (Q2 b) 0 t.bom)] _ _ _
  rw[jT];exact cL
 ·have h:0<t.bom:=of_decide_eq_true h
  rw[if_pos h]at hf;rw[hf]at c1;exact c1
 ·have h:¬0<t.bom:=of_decide_eq_false h
  rw[if_neg h]at hf;have c:=c0 hf;rw[hf]at hE;rw[<-hE]at c;exact c
def Qq9(pr:Int->List AV):Nat->List AV->List Ob->Option (AV×List Ob):=fun f args _=>match f,args with
 |59,[.ref [.slc 6 _],.val (.int .i64 n)]=>some (.slc 1 (pr n),[])
 |_,_=>none
def prA(l:List Node)(n:Int):List AV:=Q2 (pr l n)
structure PrOk (l:List Node) (n:Int):Prop where
 len:l.length<=1000000000
 wf:Wf l
 wide:Qj2 l
 h0:0<=n
 h1:n<l.length
 p:(pr l n).length<=1000000
 c:co l n<=1000000
def Qph(N:List AV):Nat->List AV->List Ob->Option (AV×List Ob):=fun f args _=>match f,args with
 |67,[.ref [.slc 6 _],.val (.int .i64 n)]=>some (.tup [.agg [.ref [.slc 6 N],.val (.int .i64 n),.val (.int .i64 0),.val (.int .i64 0),.opt (.val (.pointer none))],.val (.int .i64 0)],[])
 |_,_=>none
theorem Qir(t:Txt)(m:Mk):BCall prog 29 [Q8c t m] [] (.agg ((Cur.root m.n.length).cs (Q3 (QL m).n))) []:=by
 have cR:=QoT (QL m).n m.n.length (by omega) (by show(m.n.length:Int)<((m.n++[_]).length:Int);simp only[length_append,length_singleton];omega)
 obtain⟨rt,zW⟩:=exq (m.n.length:Int);obtain⟨l,hl⟩:=exq ((QL m).n);unfold Q8c;rw[<-zW,<-hl]at cR ⊢;refine fnN (Qph (Q3 l)) func29 rfl fun _ _=>?_
 with_reducible refine cv6 (Q3 l) (Q0 t.r) (Q9 t.off) (Qk m.d) t.kind t.bom ?_
 exact⟨cR,.pure rfl ⟨.inl rfl,.inl rfl,.inl rfl,.inl rfl,.inl rfl,trivial⟩⟩
theorem QnB(b:List UInt8):BCall prog 11 [.slc 1 (Q2 b)] [] (.slc 1 (Q2 (b.take 400))) []:=by
 obtain⟨n,hn⟩:=QE b;have jY:=Q11 b;have jB:std.len (Q2 b)=n:=by show((Q2 b).length:Int)=n;rw[jY,hn.eq]
 refine fnN (cs0) func11 rfl fun _ _=>?_
 with_reducible refine cv1 (Q2 b) ?_
 refine⟨fun h=>⟨?_,.pure rfl (.inl ?_)⟩,fun h=>.pure rfl (.inl ?_)⟩
 ·have h:400<std.len (Q2 b):=of_decide_eq_true h
  show 0<=(0:Int)/\0<=(400:Int)/\(400:Int)<=std.len (Q2 b);omega
 ·show AV.slc 1 (((Q2 b).drop (0:Int).toNat).take ((400:Int)-0).toNat)=_
  simp[Q2,map_take]
 ·have h:¬400<std.len (Q2 b):=of_decide_eq_false h
  have:=hn.eq
  rw[take_of_length_le (by omega)]
end
structure CurIn (l:List Node) (W C:Nat) (c:Cur):Prop where
 h0:0<=c.n
 h1:c.n<l.length
 f0:0<=c.f
 w:c.f+(Qn l c.n).width<=W
 co:co l c.n<=C
theorem QgE(l:List Node)(ks:List Int):ks.length<=coL l ks:=by
 induction ks with
 |nil=>exact zero_le _
 |cons k r ih=>have:=Qgi l k;simp only[coL,map_cons,sum_cons,length_cons]at ih ⊢;omega
theorem QnL(l:List Node){ks:List Int}{k:Int}(h:k∈ks):co l k<=coL l ks:=by
 induction ks with
 |nil=>cases h
 |cons x r ih =>
  simp only[coL,map_cons,sum_cons]at ih ⊢;rcases mem_cons.1 h with rfl|h
  ·omega
  ·have:=ih h;omega
section
variable {l:List Node}{W C:Nat}{c:Cur}
theorem CurIn.kids(ha:Ar l)(h:CurIn l W C c):InR l (Qg l c):=fun k hk=>by
 have h1:=ha.wf c.n h.h0 h.h1 k hk;have:=h.h1
 omega
theorem CurIn.wide(ha:Ar l)(h:CurIn l W C c):Q1Z l (Qg l c)<=(Qn l c.n).width/\0<=(Qn l c.n).width:=by
 rw[ha.wide c.n h.h0 h.h1,Q8u ha.wide (h.kids ha),Qh3 ha.wf h.h0 h.h1,length_append];show(((Qg l c).flatMap (pr l)).length:Int)<=(((Qn l c.n).b.length+((Qg l c).flatMap (pr l)).length:Nat):Int)/\_
 omega
theorem CurIn.cos(ha:Ar l)(h:CurIn l W C c):1+coL l (Qg l c)<=C:=by
 have:=h.co
 rw[Qbd ha.wf h.h0 h.h1]at this;exact this
theorem CurIn.ok(ha:Ar l)(h:CurIn l W C c)(hW:W<=2147483647)(hC:C<=1000000):CurOk l c:=by
 have h1:=h.wide ha;have h2:=h.cos ha;have h3:=QgE l (Qg l c);have h4:=h.w;have h5:=h.f0;exact⟨by omega,by omega,h5,by omega⟩
theorem CurIn.down(ha:Ar l)(h:CurIn l W C c){k:Int}(h0:0<=k)(h1:k<(Qg l c).length):CurIn l W C (Q34 l c k):=by
 have hk:k.toNat<(Qg l c).length:=by omega
 have hx:(Qg l c)[k.toNat]?.getD 0=(Qg l c)[k.toNat]:=by rw[getElem?_eq_getElem hk];rfl
 have hm:(Qg l c)[k.toNat]∈Qg l c:=getElem_mem hk;have hr:=h.kids ha _ hm;have hw:=h.wide ha;have hc:=h.cos ha;have xO:=QnL l hm;have jL:=Q5P ha.ok.w ((Qg l c).take k.toNat);have jW:=Q9y ha.ok.w (Qg l c) (k.toNat+1)
 have zN:Q1Z l ((Qg l c).take (k.toNat+1))=Q1Z l ((Qg l c).take k.toNat)+(Qn l (Qg l c)[k.toNat]).width:=by
  rw[take_add_one,getElem?_eq_getElem hk];show(((Qg l c).take k.toNat++[(Qg l c)[k.toNat]]).map (Q1c l)).sum=_
  rw[List.map_append,List.sum_append];simp[Q1Z,Q1c]
 have h4:=h.w;have h5:=h.f0;refine⟨?_,?_,?_,?_,?_⟩
 ·show 0<=(Qg l c)[k.toNat]?.getD 0
  rw[hx];exact hr.1
 ·show(Qg l c)[k.toNat]?.getD 0<_
  rw[hx];exact hr.2
 ·show 0<=c.f+Q1Z l ((Qg l c).take k.toNat)
  omega
 ·show c.f+Q1Z l ((Qg l c).take k.toNat)+(Qn l ((Qg l c)[k.toNat]?.getD 0)).width<=W
  rw[hx];omega
 ·show Go.Proofs.YtibemhahkicbpaaGreat.co l ((Qg l c)[k.toNat]?.getD 0)<=C
  rw[hx];omega
end
structure TreeOk (b:List UInt8) (m:Mk):Prop where
 ar:Ar (QL m).n
 p:pr (QL m).n m.n.length=b
 w:(Qn (QL m).n m.n.length).width=b.length
 c:co (QL m).n m.n.length<=400000
 n:(QL m).n.length<=400000
 s:m.s.length=1
theorem Q8f(b:List UInt8)(hb:b.length<=100000):TreeOk b (Qu b):=by
 have hs:=Q6r b hb;have hr:=(Q3N b).2.2.1;obtain⟨h1,h2⟩:=Qda hs.ok hs.hr (Q6Y b);have h1:MkI (Qu b) b (3+3 * (Qb b).r.length) (2+3 * (Qb b).r.length):=h1;have h2:(Qu b).s.length=1:=h2;obtain⟨k1,k2,k3,k4⟩:=Qe5 h1 h2;have hn:=h1.i.n;exact⟨k1,k2,k3,by omega,by show((Qu b).n++[_]).length<=_;simp only[length_append,length_singleton];omega,h2⟩
theorem QcT(m:Mk):(m.n.length:Int)<((QL m).n.length:Int):=by
 show(m.n.length:Int)<((m.n++[_]).length:Int)
 simp only[length_append,length_singleton];omega
theorem TreeOk.root{b:List UInt8}{m:Mk}(h:TreeOk b m):CurIn (QL m).n b.length 400000 (.root m.n.length) :=
 ⟨by show(0:Int)<=m.n.length;omega,QcT m,Int.le_refl _,by show(0:Int)+(Qn (QL m).n m.n.length).width<=_;rw[h.w];omega,h.c⟩
theorem Qgy(l:List UInt8):std.strB (Q2 l)=⟨l.toArray⟩:=by
 show(⟨((Q2 l).map Q35).toArray⟩:ByteArray)=_
 rw[Q3u]
def Q4Q(x:Node):Prop:=x.b=[]\/x.kids=[]
def Qq6(n:Nat)(x:Dg):Prop:=0<=x.f/\x.f<=x.t/\x.t<=n/\1<=x.c/\x.c<=5
structure MkS (z:Nat) (m:Mk):Prop where
 n:∀x∈m.n,Q4Q x
 d:∀x∈m.d,Qq6 z x
theorem Q7K{l:List Node}(h:∀x∈l,Q4Q x){y:Node}(hy:Q4Q y):∀x∈l++[y],Q4Q x:=fun x hx=>by
 rcases mem_append.1 hx with hx|hx
 ·exact h x hx
 ·obtain rfl:x=y:=by simpa using hx
  exact hy
theorem Q9G(k:Int)(b:List UInt8):Q4Q (QI k b):=.inr rfl
theorem QcE(l:List Node)(k:Int)(ks:List Int):Q4Q (Q1i l k ks):=.inl rfl
section
variable {n:Nat}{m:Mk}
theorem MkS.add(h:MkS n m){y:Node}(hy:Q4Q y):MkS n (Q20 y m):=⟨Q7K h.n hy,h.d⟩
theorem MkS.kid(h:MkS n m)(k:Int):MkS n (Q3g k m):=⟨h.n,h.d⟩
theorem MkS.lk(h:MkS n m)(t:Txt)(b:List UInt8)(kind f u:Int):MkS n (lkF t b kind f u m):=(h.add (Q9G _ _)).kid _
theorem MkS.shut(h:MkS n m)(l:Int):MkS n (Q22 l m):=⟨Q7K h.n (QcE _ _ _),h.d⟩
structure Plc (t:Txt) (n:Nat) (f u:Int):Prop where
 h0:0<=Q1s t f
 h1:Q1s t f<=Q1s t u
 h2:Q1s t u<=n
theorem MkS.wrong(h:MkS n m)(t:Txt){c f u:Int}(hp:Plc t n f u)(hc:1<=c/\c<=5):MkS n (QV t c f u m):=⟨h.n,fun x hx=>by
 rcases mem_append.1 hx with hx|hx
 ·exact h.d x hx
 ·obtain rfl:x=⟨Q1s t f,Q1s t u,c⟩:=by simpa using hx
  exact⟨hp.h0,hp.h1,hp.h2,hc.1,hc.2⟩⟩
theorem Plc.same{t:Txt}{f u:Int}(h:Plc t n f u):Plc t n f f:=⟨h.h0,Int.le_refl _,Int.le_trans h.h1 h.h2⟩
theorem MkS.miss(h:MkS n m)(t:Txt){a:Int}(hp:Plc t n a a):MkS n (Q3l t a m):=((h.wrong t hp (by decide)).add (Q9G _ _)).shut _
end
theorem MkS.missGo{n:Nat}(t:Txt){f:Int}(hp:Plc t n f f)(k:Nat):∀(j:Nat)(m:Mk),MkS n m->MkS n (missGo t f k j m)
 |0,_,h=>h
 |j+1,m,h=>by
  show MkS n (if _ then _ else _);split
  ·exact MkS.missGo t hp k j _ (h.miss t hp)
  ·exact h
section
variable {n:Nat}{m:Mk}
theorem MkS.start(h:MkS n m)(t:Txt)(b:List UInt8)(kind:Int){f u:Int}(hp:Plc t n f u):MkS n (Q1G t b kind f u m):=by
 unfold Q1G;split
 ·exact(h.wrong t hp (by decide)).lk t b kind f u
 ·exact MkS.lk (m:={ m with s:=m.s++[⟨Qs t f u,[]⟩] }) ⟨h.n,h.d⟩ t b kind f u
theorem MkS.end_(h:MkS n m)(t:Txt)(b:List UInt8)(kind:Int){f u:Int}(hp:Plc t n f u):MkS n (Q2Y t b kind f u m):=by
 unfold Q2Y;simp only
 split
 ·exact(h.wrong t hp (by decide)).lk t b kind f u
 ·exact((MkS.missGo t hp.same _ _ _ h).add (Q9G _ _)).shut _
theorem MkS.token(h:MkS n m)(t:Txt)(b:List UInt8)(kind:Int){f u:Int}(wh:Bool)(hp:Plc t n f u):MkS n (Q26 t b kind f u wh m):=by
 unfold Q26;simp only
 generalize qT:(if wh=false then QV t 1 f u m else if(kind=8\/kind=9\/kind=10)/\(QD t.r f u).right=false then QV t 2 f u m else m)=m1
 have h1:MkS n m1:=by
  rw[<-qT];split
  ·exact h.wrong t hp (by decide)
  ·split
   ·exact h.wrong t hp (by decide)
   ·exact h
 split
 ·exact h1.start t b kind hp
 ·split
  ·exact h1.end_ t b kind hp
  ·exact h1.lk t b kind f u
end
theorem Qgq{t:Txt}{b:List UInt8}(ok:TxtOk t b){f u:Int}(h0:0<=f)(h1:f<=u)(h2:u<=t.r.length):Plc t b.length f u:=by
 have hm:=ok.mono f.toNat u.toNat (by omega) (by omega)
 have jB:=ok.len;have hf:f.toNat<t.off.length:=by omega
 have hu:u.toNat<t.off.length:=by omega
 have h3:=ok.range (t.off[f.toNat]'hf) (getElem_mem hf);have h4:=ok.range (t.off[u.toNat]'hu) (getElem_mem hu);have e3:t.off[f.toNat]?.getD 0=t.off[f.toNat]:=by rw[getElem?_eq_getElem hf];rfl
 have e4:t.off[u.toNat]?.getD 0=t.off[u.toNat]:=by rw[getElem?_eq_getElem hu];rfl
 rw[<-e3]at h3;rw[<-e4]at h4;exact⟨h3.1,hm,h4.2⟩
theorem MkS.toks{t:Txt}{b:List UInt8}(ok:TxtOk t b):∀(n k:Nat)(m:Mk),t.r.length-k<=n->MkS b.length m->MkS b.length ((Q1S t.r k).foldl (Q7k t b) m)
 |0,k,m,h,hi=>by
  rw[Q1k (by omega)];exact hi
 |n+1,k,m,h,hi=>by
  by_cases jA:k<t.r.length
  ·obtain⟨h1,h2,h3,h4⟩:=Q9S t.r jA
   rw[Q1O jA,List.foldl_cons];have hp:Plc t b.length (Q1m t.r k).from_ (Q1m t.r k).to:=Qgq ok (by omega) (by omega) (by omega)
   exact MkS.toks ok n (Ql t.r k).2.1 _ (by omega) (hi.token t b _ _ hp)
  ·rw[Q1k jA];exact hi
theorem MkS.all{t:Txt}{b:List UInt8}(ok:TxtOk t b){m:Mk}(hi:MkS b.length m):MkS b.length (Q8R t b m) :=
 MkS.missGo t (Qgq ok (by omega) (Int.le_refl _) (Int.le_refl _)) 0 _ _ (MkS.toks ok t.r.length 0 m (by omega) hi)
theorem Qmf(b:List UInt8)(n:Nat):MkS n (Q3s b):=by
 have h0:MkS n mk0:=⟨(fun x hx=>by cases hx),fun x hx=>by cases hx⟩
 unfold Q3s;split
 ·exact(h0.add (Q9G _ _)).kid _
 ·exact h0
theorem Qdr(b:List UInt8):MkS b.length (Qu b):=MkS.all (Q3N b).1 (Qmf b _)
theorem Qeb(b:List UInt8):∀x∈(QL (Qu b)).n,Q4Q x:=Q7K (Qdr b).n (QcE _ _ _)
section
open Tryz
def IsN(n:Nat)(i:Int):Prop:=i=n
theorem IsN.eq{n:Nat}{i:Int}(h:IsN n i):i=(n:Int):=h
def Cur.el(N:List AV)(c:Cur):List AV:=[.opt (.ref [.slc 6 N]),.val (.int .i64 c.n),.val (.int .i64 c.f),.val (.int .i64 c.k),.opt (upO N c)]
def QW(N:List AV)(l:List Cur):List AV:=l.map fun c=>.agg (c.el N)
theorem Q3q(N:List AV)(l:List Cur):(QW N l).length=l.length:=by simp[QW]
theorem Q87(N:List AV)(a b:List Cur):QW N (a++b)=QW N a++QW N b:=by simp[QW]
def downs(l:List Node)(c:Cur):Nat->List Cur
 |0=>[]
 |k+1=>Q34 l c k::downs l c k
def Q3I(l:List Node):Nat->List Cur->List Cur
 |0,_=>[]
 |n+1,st=>match st.getLast? with
  |none=>[]
  |some x=>x::Q3I l n (st.dropLast++downs l x (Qg l x).length)
def Q6o(l:List Node)(c:Cur)(n:Nat):List Cur:=Q3I l n [c]
def coC(l:List Node)(st:List Cur):Nat:=(st.map fun c=>co l c.n).sum
theorem Q5m(l:List Node)(a b:List Cur):coC l (a++b)=coC l a+coC l b:=by simp[coC]
theorem Qds(l:List Node)(st:List Cur):st.length<=coC l st:=by
 induction st with
 |nil=>exact zero_le _
 |cons c r ih=>have:=Qgi l c.n;simp only[coC,map_cons,sum_cons,length_cons]at ih ⊢;omega
theorem Q8w(l:List Node)(c:Cur):∀k,k<=(Qg l c).length->coC l (downs l c k)=coL l ((Qg l c).take k)
 |0,_=>rfl
 |k+1,h=>by
  have h1:k<(Qg l c).length:=h;have e:(Qg l c)[(k:Int).toNat]?.getD 0=(Qg l c)[k]:=by rw[Int.toNat_natCast,getElem?_eq_getElem h1];rfl
  have ih:=Q8w l c k (by omega)
  rw[take_add_one,getElem?_eq_getElem h1,Q9K];show co l (Q34 l c k).n+coC l (downs l c k)=_;rw[ih,show(Q34 l c k).n=(Qg l c)[k] from e];simp only[Option.toList_some,Q9F];omega
theorem Q8n{l:List Node}{W C:Nat}{c:Cur}(ha:Ar l)(h:CurIn l W C c):∀k,k<=(Qg l c).length->∀x∈downs l c k,CurIn l W C x
 |0,_,x,hx=>by cases hx
 |k+1,hk,x,hx=>by
  rcases mem_cons.1 hx with rfl|hx
  ·exact h.down ha (by omega) (by omega)
  ·exact Q8n ha h k (by omega) x hx
theorem Q6a{l:List Node}{Q:Cur->Prop}(hQ:∀x,Q x->∀y∈downs l x (Qg l x).length,Q y):∀(n:Nat)(st:List Cur),(∀x∈st,Q x)->∀y∈Q3I l n st,Q y
 |0,_,_,y,hy=>by cases hy
 |n+1,st,h,y,hy=>by
  unfold Q3I at hy;cases hl:st.getLast? with
  |none=>rw[hl]at hy;cases hy
  |some x =>
   rw[hl]at hy;have hx:Q x:=h x (List.mem_of_getLast? hl);rcases mem_cons.1 hy with rfl|hy
   ·exact hx
   ·refine Q6a hQ n _ (fun z hz=>?_) y hy
    rcases mem_append.1 hz with hz|hz
    ·exact h z (List.dropLast_subset _ hz)
    ·exact hQ x hx z hz
def CurAt(l:List Node)(b:List UInt8)(c:Cur):Prop:=∃pre post,b=pre++(pr l c.n++post)/\(pre.length:Int)=c.f
theorem CurAt.down{l:List Node}{b:List UInt8}{W C:Nat}{c:Cur}(ha:Ar l)(ho:∀x∈l,Q4Q x)(h:CurIn l W C c)(hb:CurAt l b c){k:Int}(h0:0<=k)(h1:k<(Qg l c).length):CurAt l b (Q34 l c k):=by
 obtain⟨pre,post,e1,e2⟩:=hb;have hk:k.toNat<(Qg l c).length:=by omega
 have hx:(Q34 l c k).n=(Qg l c)[k.toNat]:=by show(Qg l c)[k.toNat]?.getD 0=_;rw[getElem?_eq_getElem hk];rfl
 have hin:=h.kids ha
 have hnb:(Qn l c.n).b=[]:=by
  have hm:Qn l c.n∈l:=by
   have hlt:c.n.toNat<l.length:=by have:=h.h0;have:=h.h1;omega
   rw[Qn,if_pos ⟨h.h0,h.h1⟩,getElem?_eq_getElem hlt];exact getElem_mem hlt
  rcases ho _ hm with h2|h2
  ·exact h2
  ·have h2:Qg l c=[]:=h2
   rw[h2]at hk;exact absurd hk (by simp)
 have hp:pr l c.n=(Qg l c).flatMap (pr l):=by
  rw[Qh3 ha.wf h.h0 h.h1,hnb];rfl
 have hsp:Qg l c=(Qg l c).take k.toNat++((Qg l c)[k.toNat]::(Qg l c).drop (k.toNat+1)):=by
  rw[<-List.drop_eq_getElem_cons hk,List.take_append_drop]
 have hpk:pr l c.n=((Qg l c).take k.toNat).flatMap (pr l)++(pr l (Qg l c)[k.toNat]++((Qg l c).drop (k.toNat+1)).flatMap (pr l)):=by
  rw[hp];conv=>lhs;rw[hsp]
  rw[List.flatMap_append,List.flatMap_cons]
 refine⟨pre++((Qg l c).take k.toNat).flatMap (pr l),((Qg l c).drop (k.toNat+1)).flatMap (pr l)++post,?_,?_⟩
 ·rw[e1,hpk,hx];simp only[List.append_assoc]
 ·show((pre++_).length:Int)=c.f+Q1Z l ((Qg l c).take k.toNat)
  rw[Q8u ha.wide (fun y hy=>hin y (List.mem_of_mem_take hy)),length_append]
  omega
def CurB(l:List Node)(b:List UInt8)(C:Nat)(c:Cur):Prop:=CurIn l b.length C c/\CurAt l b c
theorem CurB.downs{l:List Node}{b:List UInt8}{C:Nat}{c:Cur}(ha:Ar l)(ho:∀x∈l,Q4Q x)(h:CurB l b C c):∀k,k<=(Qg l c).length->∀x∈Go.Proofs.YtibemhahkicbpaaGreat.downs l c k,CurB l b C x
 |0,_,x,hx=>by cases hx
 |k+1,hk,x,hx=>by
  rcases mem_cons.1 hx with rfl|hx
  ·exact⟨h.1.down ha (by omega) (by omega),h.2.down ha ho h.1 (by omega) (by omega)⟩
  ·exact CurB.downs ha ho h k (by omega) x hx
theorem Ql4{l:List Node}{b:List UInt8}{C:Nat}{c:Cur}(ha:Ar l)(ho:∀x∈l,Q4Q x)(h:CurB l b C c)(n:Nat):∀x∈Q6o l c n,CurB l b C x :=
 Q6a (fun x hx y hy=>hx.downs ha ho _ (le_refl _) y hy) n [c] (fun x hx=>by
  obtain rfl:x=c:=by simpa using hx
  exact h)
def Qq8(w:Int->Int):Nat->List AV->List Ob->Option (AV×List Ob):=fun f args _=>match f,args with
 |58,[.opt (.ref [.slc 6 _]),.val (.int .i64 n)]=>some (.val (.int .i64 (w n)),[])
 |_,_=>none
theorem Qmz(l:List Node)(c:Cur)(k:Int)(h0:0<=k)(h1:k<(Qg l c).length)(hw:∀n,0<=Q1c l n)(ok:CurOk l c) :
  BCall prog 56 [.agg (c.el (Q3 l)),.val (.int .i64 k)] [] (.tup [.agg ((Q34 l c k).el (Q3 l)),.val (.bool true)]) [] :=
 ((QnI l c k h0 h1 ok.n hw ok.s ok.f0 ok.f1).le (args:=[.agg (c.el (Q3 l)),.val (.int .i64 k)]) ⟨⟨.inr (.inr (.inr rfl)),.inl rfl,.inl rfl,.inl rfl,.inl rfl,trivial⟩,.inl rfl,trivial⟩).res (res':=.tup [.agg ((Q34 l c k).el (Q3 l)),.val (.bool true)]) ⟨⟨.inr (.inr (.inl ⟨rfl,trivial⟩)),.inl rfl,.inl rfl,.inl rfl,.inl rfl,trivial⟩,.inl rfl,trivial⟩
theorem Q9V(l:List Node):∀n,Q3I l n []=[]
 |0=>rfl
 |_+1=>rfl
theorem Qab(l:List Node)(n:Nat)(st:List Cur)(x:Cur):Q3I l (n+1) (st++[x])=x::Q3I l n (st++downs l x (Qg l x).length):=by
 show(match(st++[x]).getLast? with|none=>[]|some y=>y::Q3I l n ((st++[x]).dropLast++downs l y (Qg l y).length))=_
 simp
theorem Qn8(l:List Node)(c:Cur)(hn:(Qg l c).length<=1000000000):BCall prog 68 [.opt (.ref [.slc 6 (Q3 l)]),.val (.int .i64 c.n)] [] (.slc 1 (Q23 l c.n)) [] :=
 (QlB l c.n hn).le (args:=[.opt (.ref [.slc 6 (Q3 l)]),.val (.int .i64 c.n)]) ⟨.inr (.inr (.inr rfl)),.inl rfl,trivial⟩
def dnW(l:List Node)(n i:Int):Int:=(Qn l n).kids[i.toNat]?.getD 0
def dfW(l:List Node)(n f i:Int):Int:=f+Q1Z l ((Qn l n).kids.take i.toNat)
def duW(N:List AV)(n f k:Int)(U:AV):AV:=.ref [.ref [.slc 6 N],.val (.int .i64 n),.val (.int .i64 f),.val (.int .i64 k),U]
def QcZ(N:List AV)(kd:Int->List AV)(dn:Int->Int->Int)(df:Int->Int->Int->Int)(du:Int->Int->Int->AV->AV):Nat->List AV->List Ob->Option (AV×List Ob):=fun g args _=>match g,args with
 |68,[.opt (.ref [.slc 6 _]),.val (.int .i64 n)]=>some (.slc 1 (kd n),[])
 |56,[.agg [.opt (.ref [.slc 6 _]),.val (.int .i64 n),.val (.int .i64 f),.val (.int .i64 k),U],.val (.int .i64 i)]=>some (.tup [.agg [.opt (.ref [.slc 6 N]),.val (.int .i64 (dn n i)),.val (.int .i64 (df n f i)),.val (.int .i64 i),.opt (du n f k U)],.val (.bool true)],[])
 |_,_=>none
theorem Qob(l:List Node)(W C:Nat)(ha:Ar l)(hW:W<=2147483647)(hC:C<=1000000)(c:Cur)(hc:CurIn l W C c)(most:Nat)(hm:most<=2000000000) :
  BCall prog 30 [.agg (c.el (Q3 l)),.val (.int .i64 most)] [] (.slc 5 (QW (Q3 l) (Q6o l c most))) []:=by
 obtain⟨mo,hmo⟩:∃mo:Int,IsN most mo:=⟨_,rfl⟩;rw[<-hmo.eq];obtain⟨R,hR⟩:=exq (Q6o l c most);rw[<-hR];rw[Cur.el];obtain⟨cn,hcn⟩:=exq c.n;obtain⟨cf,hcf⟩:=exq c.f;obtain⟨ck,hck⟩:=exq c.k;rw[<-hcn,<-hcf,<-hck];refine fnN (QcZ (Q3 l) (Q23 l) (dnW l) (dfW l) (duW (Q3 l))) func30 rfl fun _ _=>?_
 with_reducible refine cv6 (upO (Q3 l) c) (Q23 l) (dnW l) (dfW l) (duW (Q3 l)) (Q3 l) ?_
 refine⟨fun h=>absurd (show false=true from h) (by decide),fun _=>?_⟩
 refine Q1h (QcZ (Q3 l) (Q23 l) (dnW l) (dfW l) (duW (Q3 l))) (List Cur×List Cur) (fun x=>⟨[(1,.val (.int .i64 mo)),(2,.box 0 0),(5,.row 1 0),(6,.row 2 0)],[.box [.opt (.ref [.slc 6 (Q3 l)]),.val (.int .i64 cn),.val (.int .i64 cf),.val (.int .i64 ck),.opt (upO (Q3 l) c)],.row 38 5 false 0 (QW (Q3 l) x.1),.row 38 5 false 0 (QW (Q3 l) x.2)]⟩) (fun x=>x.1++Q3I l (most-x.1.length) x.2=R/\(∀y∈x.2,CurIn l W C y)/\coC l x.2+x.1.length<=C/\x.1.length<=most) (fun x=>most-x.1.length) ([],[c]) ?_ ?_ ?_
 ·refine⟨by rw[hR];rfl,fun y hy=>?_,?_,zero_le _⟩
  ·obtain rfl:y=c:=by simpa using hy
   exact hc
  ·have:=hc.co
   simpa[coC]using this
 ·refine⟨[some 0,none,some 1],_,rfl,?_⟩
  subst hcn hcf hck;exact eq0
 ·rintro⟨o,st⟩ ⟨hJ,hin,hco,hol⟩
  simp only at hJ hin hco hol
  have olen:=Q3q (Q3 l) o;have slen:=Q3q (Q3 l) st;obtain⟨lo,hlo⟩:=QE o;obtain⟨ls,hls⟩:=QE st;have hoA:std.len (QW (Q3 l) o)=lo:=by show((QW (Q3 l) o).length:Int)=lo;rw[olen,hlo.eq]
  have hsA:std.len (QW (Q3 l) st)=ls:=by show((QW (Q3 l) st).length:Int)=ls;rw[slen,hls.eq]
  with_reducible refine cv8 (upO (Q3 l) c) (QW (Q3 l) o) (QW (Q3 l) st) (Q23 l) (dnW l) (dfW l) (duW (Q3 l)) (Q3 l) ?_
  refine⟨fun h1=>⟨fun h2=>?_,fun h2=>?_⟩,fun h1=>?_⟩
  ·have h1:0<std.len (QW (Q3 l) st):=of_decide_eq_true h1
   have h2:std.len (QW (Q3 l) o)<mo:=of_decide_eq_true h2;rw[hsA]at h1;rw[hoA]at h2;have hne:st≠[]:=by rintro rfl;have:=hls.eq;simp at this;omega
   obtain⟨st0,x,rfl⟩:∃st0 x,st=st0++[x]:=⟨st.dropLast,st.getLast hne,(List.dropLast_concat_getLast hne).symm⟩;have hx:CurIn l W C x:=hin x (by simp)
   have hxo:=hx.ok ha hW hC;have hkn:=hx.cos ha;have hkl:=QgE l (Qg l x);have slen0:=Q3q (Q3 l) st0
   have hat:(QW (Q3 l) (st0++[x])).getD (((QW (Q3 l) (st0++[x])).length:Int)-1).toNat .dead=.agg (x.el (Q3 l)):=by
    rw[show(((QW (Q3 l) (st0++[x])).length:Int)-1).toNat=(QW (Q3 l) st0).length by rw[Q3q,Q3q];simp,Q87]
    simp[QW]
   have hcut:List.take (((QW (Q3 l) (st0++[x])).length:Int)-1-0).toNat (List.drop (0:Int).toNat (QW (Q3 l) (st0++[x])))=QW (Q3 l) st0:=by
    rw[show(((QW (Q3 l) (st0++[x])).length:Int)-1-0).toNat=(QW (Q3 l) st0).length by rw[Q3q,Q3q];simp,Q87]
    simp
   obtain⟨n,hn⟩:=QE (Qg l x)
   have hkA:((Q23 l x.n).length:Int)=n:=by
    show((Q9 (Qg l x)).length:Int)=n
    rw[Q2w,hn.eq]
   have cK:=Qn8 l x (by omega)
   have hcoL:st0.length<=1000000:=by
    have:=Qds l st0
    rw[Q5m]at hco;omega
   have hbd:std.bnd (QW (Q3 l) o) [.agg (x.el (Q3 l))]:=by
    show(QW (Q3 l) o).length+1<=1000000000
    rw[olen];omega
   simp only[std,hat,hcut,Cur.el,AV.cells,List.drop_zero,List.getD_cons_zero,List.getD_cons_succ,intOf,Qma,Q3t,hkA];have hlen1:((QW (Q3 l) (st0++[x])).length:Int)=st0.length+1:=by rw[Q3q];simp
   have hUx:Q56 (.opt (upO (Q3 l) x)):=QcJ _ _;refine⟨?_,?_,⟨trivial,trivial,trivial,trivial,hUx,trivial⟩,?_,?_,hbd,cK,?_,?_⟩
   ·show(-9223372036854775808:Int)<=_/\_<=(9223372036854775807:Int)
    rw[hlen1];omega
   ·rw[hlen1];omega
   ·show(-9223372036854775808:Int)<=_/\_<=(9223372036854775807:Int)
    rw[hlen1];omega
   ·rw[hlen1];omega
   ·show(-9223372036854775808:Int)<=n-1/\n-1<=(9223372036854775807:Int)
    have:=hn.eq
    omega
   refine Q1h (QcZ (Q3 l) (Q23 l) (dnW l) (dfW l) (duW (Q3 l))) (Int×List Cur) (fun y=>⟨[(1,.val (.int .i64 mo)),(2,.box 0 0),(5,.row 1 0),(6,.row 2 0),(7,.box 3 0),(8,.val (.int .i64 y.1))],[.box [.opt (.ref [.slc 6 (Q3 l)]),.val (.int .i64 cn),.val (.int .i64 cf),.val (.int .i64 ck),.opt (upO (Q3 l) c)],.row 38 5 false 0 (QW (Q3 l) (o++[x])),.row 38 5 false 0 (QW (Q3 l) y.2),.box (x.el (Q3 l))]⟩) (fun y=>-1<=y.1/\y.1<n/\y.2++downs l x (y.1+1).toNat=st0++downs l x (Qg l x).length) (fun y=>(y.1+1).toNat) (n-1,st0) ?_ ?_ ?_
   ·have:=hn.eq
    refine⟨?_,?_,?_⟩
    ·show(-1:Int)<=n-1
     omega
    ·show n-1<n
     omega
    ·show st0++downs l x (n-1+1).toNat=_
     rw[show(n-1+1).toNat=(Qg l x).length by omega]
   ·refine⟨[some 0,some 1,some 2,some 3],_,rfl,?_⟩
    have happ:QW (Q3 l) o++[.agg (x.el (Q3 l))]=QW (Q3 l) (o++[x]):=by rw[Q87];rfl
    exact eq2 happ hcut
   ·rintro⟨k,s1⟩ ⟨hk0,hk1,hks⟩
    simp only at hk0 hk1 hks
    have hs1:s1.length<=1000000:=by
     have h3:=congrArg (coC l) hks;rw[Q5m,Q5m,Q8w l x _ (le_refl _),List.take_length]at h3;have h4:=Qds l s1
     have h5:coC l [x]=1+coL l (Qg l x):=by
      show co l x.n+0=_;rw[Nat.add_zero,Qbd ha.wf hx.h0 hx.h1];rfl
     rw[Q5m,h5]at hco;omega
    have s1len:=Q3q (Q3 l) s1;obtain⟨xn,hxn⟩:=exq x.n;obtain⟨xf,hxf⟩:=exq x.f;obtain⟨xk,hxk⟩:=exq x.k;by_cases hk:0<=k
    ·have cD:=Qmz l x k hk (by have:=hn.eq;omega) ha.ok.w hxo
     have hdn:(Q34 l x k).el (Q3 l)=[.opt (.ref [.slc 6 (Q3 l)]),.val (.int .i64 (dnW l xn k)),.val (.int .i64 (dfW l xn xf k)),.val (.int .i64 k),.opt (duW (Q3 l) xn xf xk (.opt (upO (Q3 l) x)))]:=by
      rw[hxn,hxf,hxk];rfl
     rw[hdn]at cD
     have hks2:(s1++[Q34 l x k])++downs l x k.toNat=st0++downs l x (Qg l x).length:=by
      rw[<-hks,show(k+1).toNat=k.toNat+1 by omega]
      show _=s1++(Q34 l x (k.toNat:Nat)::downs l x k.toNat);rw[Int.toNat_of_nonneg hk];simp
     have happ2:QW (Q3 l) s1++[.agg ((Q34 l x k).el (Q3 l))]=QW (Q3 l) (s1++[Q34 l x k]):=by rw[Q87];rfl
     rw[hdn]at happ2
     have hbd2:∀z,std.bnd (QW (Q3 l) s1) [z]:=fun z=>by
      show(QW (Q3 l) s1).length+1<=1000000000
      rw[s1len];omega
     simp only[Cur.el]at cD ⊢;rw[<-hxn,<-hxf,<-hxk]at cD ⊢;clear hks hdn;with_reducible refine cv9 (upO (Q3 l) c) (upO (Q3 l) x) (QW (Q3 l) (o++[x])) (QW (Q3 l) s1) (Q23 l) (dnW l) (dfW l) (duW (Q3 l)) (Q3 l) ?_
     refine⟨fun _=>⟨cD,hbd2 _,?_,(k-1,s1++[Q34 l x k]),⟨?_,?_,?_⟩,?_,[some 0,some 1,some 2,some 3],_,rfl,?_⟩,fun h=>?_⟩
     ·show(-9223372036854775808:Int)<=k-1/\k-1<=(9223372036854775807:Int)
      have:=hn.eq
      omega
     ·show(-1:Int)<=k-1
      omega
     ·show k-1<n
      omega
     ·show(s1++[Q34 l x k])++downs l x (k-1+1).toNat=_
      rw[show(k-1+1).toNat=k.toNat by omega];exact hks2
     ·show(k-1+1).toNat<(k+1).toNat
      omega
     ·exact eq1 happ2
     ·have h:¬0<=k:=of_decide_eq_false h
      omega
    ·have hk2:k=-1:=by omega
     subst hk2
     have hs2:s1=st0++downs l x (Qg l x).length:=by
      rw[<-hks];show s1=s1++[];simp
     simp only[Cur.el];rw[<-hxn,<-hxf,<-hxk];with_reducible refine cv9 (upO (Q3 l) c) (upO (Q3 l) x) (QW (Q3 l) (o++[x])) (QW (Q3 l) s1) (Q23 l) (dnW l) (dfW l) (duW (Q3 l)) (Q3 l) ?_
     refine⟨fun h=>?_,fun _=>?_⟩
     ·exact absurd (show decide ((0:Int)<=-1)=true from h) (by decide)
     rw[if_pos trivial];have hlt:o.length<most:=by have:=hlo.eq;have:=hmo.eq;omega
     refine⟨(o++[x],st0++downs l x (Qg l x).length),⟨?_,fun y hy=>?_,?_,?_⟩,?_,[some 0,some 1,some 2],_,rfl,?_⟩
     ·show(o++[x])++Q3I l (most-(o++[x]).length) (st0++downs l x (Qg l x).length)=R
      rw[<-hJ,show most-o.length=(most-(o++[x]).length)+1 by simp;omega,Qab]
      simp
     ·have hy:y∈st0++downs l x (Qg l x).length:=hy
      rcases mem_append.1 hy with hy|hy
      ·exact hin y (List.mem_append_left _ hy)
      ·exact Q8n ha hx _ (le_refl _) y hy
     ·show coC l (st0++downs l x (Qg l x).length)+(o++[x]).length<=C
      have h5:coC l [x]=1+coL l (Qg l x):=by
       show co l x.n+0=_;rw[Nat.add_zero,Qbd ha.wf hx.h0 hx.h1];rfl
      rw[Q5m,h5]at hco;rw[Q5m,Q8w l x _ (le_refl _),List.take_length,length_append,length_singleton];omega
     ·show(o++[x]).length<=most
      simp;omega
     ·show most-(o++[x]).length<most-o.length
      simp;omega
     ·subst hs2
      exact eq0
  ·have h2:¬std.len (QW (Q3 l) o)<mo:=of_decide_eq_false h2
   rw[hoA]at h2
   have hR2:o=R:=by
    have:=hlo.eq
    have:=hmo.eq
    rw[<-hJ,show most-o.length=0 by omega]
    simp[Q3I]
   rw[if_pos trivial,<-hR2];clear h2 hmo;with_reducible refine cv8 (upO (Q3 l) c) (QW (Q3 l) o) (QW (Q3 l) st) (Q23 l) (dnW l) (dfW l) (duW (Q3 l)) (Q3 l) ?_
   exact .pure rfl (.inl rfl)
  ·have h1:¬0<std.len (QW (Q3 l) st):=of_decide_eq_false h1
   rw[hsA]at h1;have hst:st=[]:=List.eq_nil_of_length_eq_zero (by have:=hls.eq;omega)
   have hR2:o=R:=by
    rw[<-hJ,hst,Q9V];simp
   rw[if_pos trivial,<-hR2];clear h1 hmo;with_reducible refine cv8 (upO (Q3 l) c) (QW (Q3 l) o) (QW (Q3 l) st) (Q23 l) (dnW l) (dfW l) (duW (Q3 l)) (Q3 l) ?_
   exact .pure rfl (.inl rfl)
end
theorem CurB.pr{l:List Node}{b:List UInt8}{C:Nat}{c:Cur}(ha:Ar l)(hl:l.length<=1000000000)(hb:b.length<=1000000)(hC:C<=1000000)(h:CurB l b C c):PrOk l c.n:=by
 refine⟨hl,ha.wf,ha.wide,h.1.h0,h.1.h1,?_,by have:=h.1.co;omega⟩
 obtain⟨pre,post,e1,_⟩:=h.2;have:=congrArg List.length e1
 simp only[length_append]at this;omega
theorem Qbj(l:List Node):∀(n:Nat)(st:List Cur),(Q3I l n st).length<=n
 |0,_=>le_refl _
 |n+1,st=>by
  unfold Q3I;cases st.getLast? with
  |none=>exact zero_le _
  |some x=>simp only[length_cons];have:=Qbj l n (st.dropLast++downs l x (Qg l x).length);omega
section
open Tryz
def QfD(l:List Int)(k:Nat):Bool:=l[k]?.getD 0 == 10||(l[k]?.getD 0 == 13&&(decide (k+1=l.length)||!(l[k+1]?.getD 0 == 10)))
def lcF(l:List Int):Nat->Int×Int
 |0=>(1,1)
 |k+1=>if QfD l k=true then((lcF l k).1+1,1)else((lcF l k).1,(lcF l k).2+1)
theorem Q8T(l:List Int):∀k,1<=(lcF l k).1/\(lcF l k).1<=k+1/\1<=(lcF l k).2/\(lcF l k).2<=k+1
 |0=>by simp[lcF]
 |k+1=>by
  have ih:=Q8T l k;rw[lcF];split
  ·refine⟨?_,?_,?_,?_⟩<;>simp only<;>omega
  ·refine⟨?_,?_,?_,?_⟩<;>simp only<;>omega
theorem QoD(l:List Int)(hl:l.length<=1000000):BCall prog 122 [.slc 1 (Q0 l),.val (.int .i64 l.length)] [] (.tup [.val (.int .i64 (lcF l l.length).1),.val (.int .i64 (lcF l l.length).2)]) []:=by
 obtain⟨n,hn⟩:=QE l;obtain⟨R,hR⟩:=exq (lcF l l.length);rw[<-hR,<-hn.eq];have jB:std.len (Q0 l)=n:=by show((Q0 l).length:Int)=n;rw[Qx,hn.eq]
 have qR:0<=n:=by have:=hn.eq;omega
 have qu:n<=1000000:=by have:=hn.eq;omega
 have jU:std.minI (std.maxI n 0) (std.len (Q0 l))=n:=by
  rw[jB];show(if n<(if n<0 then 0 else n)then n else(if n<0 then 0 else n))=n
  rw[if_neg (by omega:¬n<0),if_neg (by omega)]
 have jT:std.cut (Q0 l) 0 n=Q0 l:=by
  show((Q0 l).drop 0).take (n-0).toNat=_
  rw[List.drop_zero];refine take_of_length_le ?_;have:=hn.eq
  rw[Qx];omega
 refine fnN (cs0) func122 rfl fun _ _=>?_
 with_reducible refine cv1 (Q0 l) ?_
 refine⟨?_,?_⟩
 ·show(0:Int)<=0/\0<=std.minI (std.maxI n 0) (std.len (Q0 l))/\std.minI (std.maxI n 0) (std.len (Q0 l))<=std.len (Q0 l)
  rw[jU,jB];omega
 have nT:std.cut (Q0 l) 0 (std.minI (std.maxI n 0) (std.len (Q0 l)))=Q0 l:=by rw[jU];exact jT
 have pZ:std.len (std.cut (Q0 l) 0 (std.minI (std.maxI n 0) (std.len (Q0 l))))=n:=by rw[nT];exact jB
 refine Q1h (cs0) (Int) (fun i=>⟨[(0,.slc 1 (Q0 l)),(6,.val (.int .i64 (lcF l i.toNat).1)),(7,.val (.int .i64 (lcF l i.toNat).2)),(17,.slc 1 (Q0 l)),(18,.val (.int .i64 n)),(19,.val (.int .i64 i))],[]⟩) (fun i=>0<=i/\i<=n) (fun i=>(n-i).toNat) 0 ?_ ?_ ?_
 ·exact⟨Int.le_refl _,qR⟩
 ·refine⟨[],_,rfl,?_⟩
  exact eq2 nT pZ
 ·clear nT pZ jU jT
  rintro i ⟨jK,qE⟩;rcases Int.lt_or_eq_of_le qE with jA|jZ
  ·have hx:=QJ (l:=l) jK (by have:=hn.eq;omega)
   have yD:i+1<n->(Q0 l)[(i+1).toNat]?.getD .dead=.val (.int .i32 (l[(i+1).toNat]?.getD 0)):=fun h=>QJ (by omega) (by have:=hn.eq;omega)
   have cj:=Q8T l i.toNat
   have jI:lcF l (i+1).toNat=if QfD l i.toNat=true then((lcF l i.toNat).1+1,1)else((lcF l i.toNat).1,(lcF l i.toNat).2+1):=by
    rw[show(i+1).toNat=i.toNat+1 by omega];rfl
   have kW:QfD l i.toNat=(l[i.toNat]?.getD 0 == 10||(l[i.toNat]?.getD 0 == 13&&(decide (i+1=n)||!(l[(i+1).toNat]?.getD 0 == 10)))):=by
    have e1:decide (i.toNat+1=l.length)=decide (i+1=n):=decide_eq_decide.2 (by have:=hn.eq;omega)
    rw[QfD,e1,show(i+1).toNat=i.toNat+1 by omega]
   obtain⟨c,hc⟩:=exq (l[i.toNat]?.getD 0);obtain⟨d,hd⟩:=exq (l[(i+1).toNat]?.getD 0);rw[<-hc]at hx kW;rw[<-hd]at yD kW;rw[kW]at jI;obtain⟨a,ha⟩:=exq ((lcF l i.toNat).1);obtain⟨b,hb⟩:=exq ((lcF l i.toNat).2);rw[<-ha,<-hb]at jI cj ⊢;have cj:1<=a/\a<=1000001/\1<=b/\b<=1000001:=by omega
   clear kW hc hd ha hb
   have yes:(c == 10||(c == 13&&(decide (i+1=n)||!(d == 10))))=true->a+1=(lcF l (i+1).toNat).1/\(1:Int)=(lcF l (i+1).toNat).2:=fun h=>by
    rw[if_pos h]at jI;rw[jI];exact⟨rfl,rfl⟩
   have no:(c == 10||(c == 13&&(decide (i+1=n)||!(d == 10))))=false->a=(lcF l (i+1).toNat).1/\b+1=(lcF l (i+1).toNat).2:=fun h=>by
    rw[if_neg (by rw[h];decide)]at jI;rw[jI];exact⟨rfl,rfl⟩
   clear jI
   have hX:std.int (std.nth (std.cel (std.at_ (Q0 l) i)) 0)=c:=by
    have e:std.at_ (Q0 l) i=.val (.int .i32 c):=by
     show(Q0 l).getD i.toNat .dead=_
     rw[getD_eq_getElem?_getD];exact hx
    rw[e];rfl
   have xy:i+1<n->std.int (std.nth (std.cel (std.at_ (Q0 l) (i+1))) 0)=d/\std.nth (std.cel (std.at_ (Q0 l) (i+1))) 0=.val (.int .i32 d):=fun h=>by
    have e:std.at_ (Q0 l) (i+1)=.val (.int .i32 d):=by
     show(Q0 l).getD (i+1).toNat .dead=_
     rw[getD_eq_getElem?_getD];exact yD h
    rw[e];exact⟨rfl,rfl⟩
   have yT:std.nth (std.cel (std.at_ (Q0 l) i)) 0=.val (.int .i32 (std.int (std.nth (std.cel (std.at_ (Q0 l) i)) 0))):=by
    have e:std.at_ (Q0 l) i=.val (.int .i32 c):=by
     show(Q0 l).getD i.toNat .dead=_
     rw[getD_eq_getElem?_getD];exact hx
    rw[e];rfl
   have jb:std.ltI i n=true:=decide_eq_true jA;clear hx yD;with_reducible refine cv1 (Q0 l) ?_
   refine⟨fun _=>⟨⟨jK,?_⟩,⟨yT,trivial⟩,(show(-9223372036854775808:Int)<=b+1/\b+1<=(9223372036854775807:Int) from by omega),fun ju=>?_,fun ju=>⟨fun zr=>⟨(show(-9223372036854775808:Int)<=i+1/\i+1<=(9223372036854775807:Int) from by omega),fun vS=>?_,fun vS=>?_⟩,fun zr=>?_⟩⟩,fun h=>absurd (jb.symm.trans h) (by decide)⟩
   ·show i<std.len (Q0 l)
    rw[jB];exact jA
   ·obtain⟨e1,e2⟩:=yes (by have h:(c == 10)=true:=by { rw[<-hX];exact ju };rw[h];rfl)
    refine⟨(show(-9223372036854775808:Int)<=a+1/\a+1<=(9223372036854775807:Int) from by omega),(show(-9223372036854775808:Int)<=i+1/\i+1<=(9223372036854775807:Int) from by omega),i+1,⟨by omega,by omega⟩,by omega,[],_,rfl,?_⟩
    exact eq2 e1 e2
   ·obtain⟨e1,e2⟩:=yes (by have h:(c == 13)=true:=by { rw[<-hX];exact zr };have h2:i+1=n:=by { rw[<-jB];exact eq_of_beq vS };rw[h,decide_eq_true h2];simp)
    refine⟨(show(-9223372036854775808:Int)<=a+1/\a+1<=(9223372036854775807:Int) from by omega),(show(-9223372036854775808:Int)<=i+1/\i+1<=(9223372036854775807:Int) from by omega),i+1,⟨by omega,by omega⟩,by omega,[],_,rfl,?_⟩
    exact eq2 e1 e2
   ·have jJ:i+1≠n:=fun e=>by
     have h:(i+1 == std.len (Q0 l))=false:=vS;rw[jB,e]at h;simp at h
    have vu:i+1<n:=by omega
    obtain⟨k1,k2⟩:=xy vu;refine⟨(show(-9223372036854775808:Int)<=i+1/\i+1<=(9223372036854775807:Int) from by omega),⟨(show(0:Int)<=i+1 from by omega),?_⟩,⟨?_,trivial⟩,fun yu=>?_,fun yu=>?_⟩
    ·show i+1<std.len (Q0 l)
     rw[jB];exact vu
    ·show std.nth (std.cel (std.at_ (Q0 l) (i+1))) 0=.val (.int .i32 (std.int (std.nth (std.cel (std.at_ (Q0 l) (i+1))) 0)))
     rw[k1];exact k2
    ·obtain⟨e1,e2⟩:=yes (by have h:(c == 13)=true:=by { rw[<-hX];exact zr };have h2:(!(d == 10))=true:=by { rw[<-k1];exact yu };rw[h,h2];simp)
     refine⟨(show(-9223372036854775808:Int)<=a+1/\a+1<=(9223372036854775807:Int) from by omega),(show(-9223372036854775808:Int)<=i+1/\i+1<=(9223372036854775807:Int) from by omega),i+1,⟨by omega,by omega⟩,by omega,[],_,rfl,?_⟩
     exact eq2 e1 e2
    ·obtain⟨e1,e2⟩:=no (by have h0:(c == 10)=false:=by { rw[<-hX];exact ju };have h2:(!(d == 10))=false:=by { rw[<-k1];exact yu };rw[h0,h2,decide_eq_false jJ];simp)
     refine⟨(show(-9223372036854775808:Int)<=i+1/\i+1<=(9223372036854775807:Int) from by omega),i+1,⟨by omega,by omega⟩,by omega,[],_,rfl,?_⟩
     exact eq2 e1 e2
   ·obtain⟨e1,e2⟩:=no (by have h0:(c == 10)=false:=by { rw[<-hX];exact ju };have h1:(c == 13)=false:=by { rw[<-hX];exact zr };rw[h0,h1];rfl)
    refine⟨(show(-9223372036854775808:Int)<=i+1/\i+1<=(9223372036854775807:Int) from by omega),i+1,⟨by omega,by omega⟩,by omega,[],_,rfl,?_⟩
    exact eq2 e1 e2
  ·have yU:lcF l i.toNat=R:=by rw[hR];congr 1;have:=hn.eq;omega
   rw[yU,jZ];have v8:std.ltI n n=false:=decide_eq_false (by omega)
   with_reducible refine cv1 (Q0 l) ?_
   refine⟨fun h=>absurd (v8.symm.trans h) (by decide),fun _=>?_⟩
   rw[if_pos trivial];with_reducible refine cv1 (Q0 l) ?_
   exact .pure rfl ⟨.inl rfl,.inl rfl,trivial⟩
theorem Qjg(l:List Int)(kd k skip:Nat)(bs:List UInt8):(Q14 l kd k skip bs).1=kd:=by unfold Q14;split<;>rfl
theorem QeX(kd a:Nat)(b:Bool)(h1:1<=kd)(h2:kd<=10):1<=(kd,a,b).1/\(kd,a,b).1<=11/\((kd,a,b).1=11->(kd,a,b).2.2=false) :=
 ⟨h1,by show kd<=11;omega,fun h=>by have h:kd=11:=h;omega⟩
theorem Qko(a:Nat):1<=(11,a,false).1/\(11,a,false).1<=11/\((11,a,false).1=11->(11,a,false).2.2=false):=⟨by show 1<=11;omega,le_refl _,fun _=>rfl⟩
theorem Qgz(l:List Int)(k:Nat):1<=(Ql l k).1/\(Ql l k).1<=11/\((Ql l k).1=11->(Ql l k).2.2=false):=by
 have up:∀kd skip bs,1<=kd->kd<=10->1<=(Q14 l kd k skip bs).1/\(Q14 l kd k skip bs).1<=11/\((Q14 l kd k skip bs).1=11->(Q14 l kd k skip bs).2.2=false):=fun kd skip bs h1 h2=>by
  rw[Qjg];exact⟨h1,by omega,fun h=>by omega⟩
 unfold Ql;split
 ·unfold Q1H
  split
  ·exact up _ _ _ (by decide) (by decide)
  ·split
   ·exact up _ _ _ (by decide) (by decide)
   ·split
    ·exact up _ _ _ (by decide) (by decide)
    ·split
     ·unfold Q3E;exact QeX _ _ _ (by decide) (by decide)
     ·split
      ·unfold Q3h;exact QeX _ _ _ (by decide) (by decide)
      ·split
       ·unfold Q1D
        repeat' split
        all_goals exact QeX _ _ _ (by decide) (by decide)
       ·exact Qko _
 ·split
  ·unfold Q1n
   repeat' split
   all_goals first
    |exact QeX _ _ _ (by decide) (by decide)
    |exact Qko _
  ·split
   ·exact Qko _
   ·exact QeX _ _ _ (by decide) (by decide)
structure TokOk (l:List Int) (x:Tok):Prop where
 k0:1<=x.kind
 k1:x.kind<=11
 br:x.kind=11->x.whole=false
 f0:0<=x.from_
 f1:x.from_<x.to
 f2:x.to<=l.length
theorem QgA(l:List Int):∀(n k:Nat),l.length-k<=n->∀x∈Q1S l k,TokOk l x
 |0,k,h,x,hx=>by
  rw[Q1k (by omega)]at hx;cases hx
 |n+1,k,h,x,hx=>by
  by_cases jA:k<l.length
  ·rw[Q1O jA]at hx
   have hr:=Q2E l k jA;have hb:=Qgz l k;rcases mem_cons.1 hx with rfl|hx
   ·refine⟨?_,?_,?_,?_,?_,?_⟩
    ·show(1:Int)<=((Ql l k).1:Nat);omega
    ·show(((Ql l k).1:Nat):Int)<=11;omega
    ·intro h;exact hb.2.2 (by have h:(((Ql l k).1:Nat):Int)=11:=h;omega)
    ·show(0:Int)<=(k:Nat);omega
    ·show((k:Nat):Int)<((Ql l k).2.1:Nat);omega
    ·show(((Ql l k).2.1:Nat):Int)<=l.length;omega
   ·exact QgA l n _ (by omega) x hx
  ·rw[Q1k jA]at hx;cases hx
theorem Q6p(l:List Int):∀x∈Q1r l,TokOk l x:=QgA l l.length 0 (by omega)
theorem QcB(l:List Int):∀(n k:Nat),l.length-k<=n->(Q1S l k).length<=l.length-k
 |0,k,h=>by rw[Q1k (by omega)];simp
 |n+1,k,h=>by
  by_cases jA:k<l.length
  ·rw[Q1O jA,length_cons]
   have hr:=Q2E l k jA;have:=QcB l n (Ql l k).2.1 (by omega)
   omega
  ·rw[Q1k jA];simp
theorem QaQ(l:List Int):(Q1r l).length<=l.length:=QcB l l.length 0 (by omega)
def Q1L(ts:List Tok)(k:Int):Nat:=(ts.filter fun x=>x.kind == k).length
theorem Qc8(ts:List Tok)(k:Int){i:Nat}(h:i<ts.length):Q1L (ts.take (i+1)) k=Q1L (ts.take i) k+(if ts[i].kind=k then 1 else 0):=by
 rw[Q1L,Q1L,List.take_succ_eq_append_getElem h,List.filter_append,length_append];congr 1
 rw[List.filter_cons,List.filter_nil];by_cases hk:ts[i].kind=k
 ·rw[if_pos (by rw[hk];exact beq_self_eq_true k),if_pos hk];rfl
 ·rw[if_neg (by simpa using hk),if_neg hk];rfl
theorem QgW(ts:List Tok)(k:Int):Q1L ts k<=ts.length:=List.length_filter_le _ _
def Q60(l:List Int):Nat:=(l.filter fun r=>r == -1).length
theorem Qcu(l:List Int){i:Nat}(h:i<l.length):Q60 (l.take (i+1))=Q60 (l.take i)+(if l[i]?.getD 0=-1 then 1 else 0):=by
 rw[Q60,Q60,List.take_succ_eq_append_getElem h,List.filter_append,length_append,getElem?_eq_getElem h];congr 1
 rw[List.filter_cons,List.filter_nil,Option.getD_some];by_cases hk:l[i]=-1
 ·rw[if_pos (by rw[hk];rfl),if_pos hk];rfl
 ·rw[if_neg (by simpa using hk),if_neg hk];rfl
theorem Qdv(l:List Int):Q60 l<=l.length:=List.length_filter_le _ _
def Qcv(nb:Int)(l:List Int)(f:Int->Int):Rp:=⟨nb,l.length,Q60 l,(lcF l l.length).1,0,0,0,0,f 0,f 1,f 2,f 3,f 4,f 5,f 6,f 7,f 8,f 9,f 10,f 11,0,0,0,0,0,0⟩
def QdA(ln cl:Int)(TK:List AV):Nat->List AV->List Ob->Option (AV×List Ob):=fun f args _=>match f,args with
 |122,[.slc 1 _,.val (.int .i64 _)]=>some (.tup [.val (.int .i64 ln),.val (.int .i64 cl)],[])
 |87,[.slc 1 _]=>some (.slc 4 TK,[])
 |_,_=>none
theorem QoS(nb:Int)(t:Txt)(hl:t.r.length<=1000000) :
  BCall prog 69 [.box 0 0,.agg t.cs] [.box [.val (.int .i64 nb),.val (.int .i64 0),.val (.int .i64 0),.val (.int .i64 0),.val (.int .i64 0),.val (.int .i64 0),.val (.int .i64 0),.val (.int .i64 0),.val (.int .i64 0),.val (.int .i64 0),.val (.int .i64 0),.val (.int .i64 0),.val (.int .i64 0),.val (.int .i64 0),.val (.int .i64 0),.val (.int .i64 0),.val (.int .i64 0),.val (.int .i64 0),.val (.int .i64 0),.val (.int .i64 0),.val (.int .i64 0),.val (.int .i64 0),.val (.int .i64 0),.val (.int .i64 0),.val (.int .i64 0),.val (.int .i64 0)]] (.tup []) [.box (Qcv nb t.r fun k=>Q1L (Q1r t.r) k).cs]:=by
 have cL:=QoD t.r hl;have cT:=QeJ t.r hl;have hta:=Q6p t.r;have gE:=QaQ t.r;have jY:=Qdv t.r;rw[Txt.cs];obtain⟨l,jH⟩:=exq t.r;rw[<-jH]at cL cT hta gE jY hl ⊢;obtain⟨n,hn⟩:=QE l;have jB:std.len (Q0 l)=n:=by show((Q0 l).length:Int)=n;rw[Qx,hn.eq]
 obtain⟨R1,qv⟩:=exq (Qcv nb l fun k=>Q1L (Q1r l) k)
 rw[<-qv];obtain⟨ts,ph⟩:=exq (Q1r l);rw[<-ph]at cT hta gE qv;obtain⟨m,hm⟩:=QE ts;have vr:std.len (QA ts)=m:=by show((QA ts).length:Int)=m;rw[Q5G,hm.eq]
 obtain⟨ln,ki⟩:=exq ((lcF l l.length).1);obtain⟨cl,vH⟩:=exq ((lcF l l.length).2);rw[<-ki,<-vH,<-hn.eq]at cL;generalize t.kind=K;generalize t.bom=M;generalize Q9 t.off=O;refine fnN (QdA ln cl (QA ts)) func69 rfl fun _ _=>?_
 with_reducible refine cv2 (QA ts) (Q0 l) ?_
 refine Q1h (QdA ln cl (QA ts)) (Int×Int) (fun x=>⟨[(0,.box 0 0),(3,.box 1 0),(15,.slc 1 (Q0 l)),(16,.val (.int .i64 n)),(17,.val (.int .i64 x.1))],[.box [.val (.int .i64 nb),.val (.int .i64 n),.val (.int .i64 x.2),.val (.int .i64 0),.val (.int .i64 0),.val (.int .i64 0),.val (.int .i64 0),.val (.int .i64 0),.val (.int .i64 0),.val (.int .i64 0),.val (.int .i64 0),.val (.int .i64 0),.val (.int .i64 0),.val (.int .i64 0),.val (.int .i64 0),.val (.int .i64 0),.val (.int .i64 0),.val (.int .i64 0),.val (.int .i64 0),.val (.int .i64 0),.val (.int .i64 0),.val (.int .i64 0),.val (.int .i64 0),.val (.int .i64 0),.val (.int .i64 0),.val (.int .i64 0)],.box [.val (.int .i64 K),.val (.int .i64 M),.slc 1 (Q0 l),.slc 1 O]]⟩) (fun x=>0<=x.1/\x.1<=n/\IsN (Q60 (l.take x.1.toNat)) x.2) (fun x=>(n-x.1).toNat) (0,0) ?_ ?_ ?_
 ·exact⟨Int.le_refl _,by have:=hn.eq;show(0:Int)<=n;omega,rfl⟩
 ·refine⟨[some 0,some 1],_,rfl,?_⟩
  exact eq1 jB
 ·rintro⟨i,b⟩ ⟨jK,qE,hb⟩
  simp only at jK qE hb
  have pQ:0<=b/\b<=1000000:=by
   have h1:=Qdv (l.take i.toNat);rw[length_take]at h1;rw[hb.eq];omega
  rcases Int.lt_or_eq_of_le qE with jA|jZ
  ·have jS:i.toNat<l.length:=by have:=hn.eq;omega
   have qu:n<=1000000:=by have:=hn.eq;omega
   have jP:=Qcu l jS;have hx:=QJ (l:=l) jK (by have:=hn.eq;omega)
   obtain⟨c,hc⟩:=exq (l[i.toNat]?.getD 0);rw[<-hc]at hx jP
   have jU:std.at_ (Q0 l) i=.val (.int .i32 c):=by
    show(Q0 l).getD i.toNat .dead=_
    rw[getD_eq_getElem?_getD];exact hx
   have hX:std.int (std.nth (std.cel (std.at_ (Q0 l) i)) 0)=c:=by rw[jU];rfl
   have yT:std.nth (std.cel (std.at_ (Q0 l) i)) 0=.val (.int .i32 (std.int (std.nth (std.cel (std.at_ (Q0 l) i)) 0))):=by rw[jU];rfl
   have jb:std.ltI i n=true:=decide_eq_true jA;clear hx hc jS jU;with_reducible refine cv2 (QA ts) (Q0 l) ?_
   refine⟨fun _=>⟨⟨jK,?_⟩,⟨yT,trivial⟩,fun hq=>?_,fun hq=>?_⟩,fun h=>absurd (jb.symm.trans h) (by decide)⟩
   ·show i<std.len (Q0 l)
    rw[jB];exact jA
   ·have hq:c=-1:=by rw[<-hX];exact eq_of_beq hq
    rw[if_pos hq]at jP;refine⟨(show(-9223372036854775808:Int)<=b+1/\b+1<=(9223372036854775807:Int) from by omega),(show(-9223372036854775808:Int)<=i+1/\i+1<=(9223372036854775807:Int) from by omega),(i+1,b+1),⟨?_,?_,?_⟩,?_,[some 0,some 1],_,rfl,?_⟩
    ·show 0<=i+1;omega
    ·show i+1<=n;omega
    ·show b+1=((Q60 (l.take (i+1).toNat):Nat):Int)
     have e:=hb.eq;rw[show(i+1).toNat=i.toNat+1 by omega,jP];omega
    ·show(n-(i+1)).toNat<(n-i).toNat;omega
    ·exact eq1 jB
   ·have hq:¬c=-1:=fun e=>by
     have hq:(std.int (std.nth (std.cel (std.at_ (Q0 l) i)) 0) == -1)=false:=hq;rw[hX,e]at hq;cases hq
    rw[if_neg hq]at jP;refine⟨(show(-9223372036854775808:Int)<=i+1/\i+1<=(9223372036854775807:Int) from by omega),(i+1,b),⟨?_,?_,?_⟩,?_,[some 0,some 1],_,rfl,?_⟩
    ·show 0<=i+1;omega
    ·show i+1<=n;omega
    ·show b=((Q60 (l.take (i+1).toNat):Nat):Int)
     have e:=hb.eq;rw[show(i+1).toNat=i.toNat+1 by omega,jP];omega
    ·show(n-(i+1)).toNat<(n-i).toNat;omega
    ·exact eq1 jB
  ·have nl:b=(Q60 l:Int):=by
    have e:=hb.eq;rw[take_of_length_le (by have:=hn.eq;omega)]at e
    exact e
   have v8:std.ltI i n=false:=decide_eq_false (by omega)
   have hcT:=cT;have hcL:BCall prog 122 [.slc 1 (Q0 l),.val (.int .i64 (std.len (Q0 l)))] [] (.tup [.val (.int .i64 ln),.val (.int .i64 cl)]) []:=by rw[jB];exact cL
   obtain⟨nbad,yF⟩:∃nbad:Int,IsN (Q60 l) nbad:=⟨_,rfl⟩;rw[<-yF.eq]at nl;subst nl;clear hb;with_reducible refine cv2 (QA ts) (Q0 l) ?_
   refine⟨fun h=>absurd (v8.symm.trans h) (by decide),fun _=>?_⟩
   rw[if_pos trivial];with_reducible refine cv2 (QA ts) (Q0 l) ?_
   refine⟨hcL,hcT,?_⟩;refine Q1h (QdA ln cl (QA ts)) (Int×(Int->Int)) (fun x=>⟨[(0,.box 0 0),(45,.slc 4 (QA ts)),(46,.val (.int .i64 m)),(47,.val (.int .i64 x.1))],[.box [.val (.int .i64 nb),.val (.int .i64 n),.val (.int .i64 b),.val (.int .i64 ln),.val (.int .i64 0),.val (.int .i64 0),.val (.int .i64 0),.val (.int .i64 0),.val (.int .i64 (x.2 0)),.val (.int .i64 (x.2 1)),.val (.int .i64 (x.2 2)),.val (.int .i64 (x.2 3)),.val (.int .i64 (x.2 4)),.val (.int .i64 (x.2 5)),.val (.int .i64 (x.2 6)),.val (.int .i64 (x.2 7)),.val (.int .i64 (x.2 8)),.val (.int .i64 (x.2 9)),.val (.int .i64 (x.2 10)),.val (.int .i64 (x.2 11)),.val (.int .i64 0),.val (.int .i64 0),.val (.int .i64 0),.val (.int .i64 0),.val (.int .i64 0),.val (.int .i64 0)]]⟩) (fun x=>0<=x.1/\x.1<=m/\∀k,IsN (Q1L (ts.take x.1.toNat) k) (x.2 k)) (fun x=>(m-x.1).toNat) (0,fun _=>0) ?_ ?_ ?_
   ·exact⟨Int.le_refl _,by have:=hm.eq;show(0:Int)<=m;omega,fun k=>rfl⟩
   ·refine⟨[some 0],_,rfl,?_⟩
    exact eq2 vr jB
   ·clear hcL hcT cL cT
    rintro⟨i,f⟩ ⟨jK,qE,hf⟩;simp only at jK qE hf
    have xT:∀k,0<=f k/\f k<=1000000:=fun k=>by
     have h1:=QgW (ts.take i.toNat) k;rw[length_take]at h1;rw[(hf k).eq];omega
    rcases Int.lt_or_eq_of_le qE with jA|jZ
    ·have jS:i.toNat<ts.length:=by have:=hm.eq;omega
     have qT:m<=1000000:=by have:=hm.eq;omega
     have jP:=fun k=>Qc8 ts k jS
     obtain⟨x,hx⟩:=exq (ts[i.toNat]);have zd:x∈ts:=by rw[hx];exact getElem_mem jS
     have jU:std.at_ (QA ts) i=x.av:=by
      show(QA ts).getD i.toNat .dead=_
      rw[getD_eq_getElem?_getD,QA,getElem?_map,getElem?_eq_getElem jS,hx];rfl
     have jE:=hta x zd;rw[<-hx]at jP;obtain⟨kd,jD⟩:=exq x.kind;have q8:=jE.k0;have jX:=jE.k1;rw[<-jD]at q8 jX jP;have hX:std.int (std.nth (std.cel (std.at_ (QA ts) i)) 0)=kd:=by rw[jU,jD];rfl
     have yT:(std.all [std.hasI .i64 (std.nth (std.cel (std.at_ (QA ts) i)) 0),std.hasI .i64 (std.nth (std.cel (std.at_ (QA ts) i)) 1),std.hasI .i64 (std.nth (std.cel (std.at_ (QA ts) i)) 2),std.hasB (std.nth (std.cel (std.at_ (QA ts) i)) 3)]).q:=by rw[jU];exact⟨rfl,rfl,rfl,rfl,trivial⟩
     have jb:std.ltI i m=true:=decide_eq_true jA;have jR:i<std.len (QA ts):=by rw[vr];exact jA
     have qa:∀k,IsN (Q1L (ts.take (i+1).toNat) k) (if k=kd then f k+1 else f k):=fun k=>by
      show(if k=kd then f k+1 else f k)=((Q1L (ts.take (i+1).toNat) k:Nat):Int)
      rw[show(i+1).toNat=i.toNat+1 by omega,jP k,(hf k).eq]
      by_cases h:k=kd
      ·rw[if_pos h,if_pos h.symm];omega
      ·rw[if_neg h,if_neg (fun e=>h e.symm)];omega
     have qK:∀k,(std.inR .i64 (std.add (f k) 1)).q:=fun k=>by
      have:=xT k
      show -9223372036854775808<=f k+1/\f k+1<=9223372036854775807;omega
     clear hx zd jU jD jP hf jS hta jE;obtain rfl|rfl|rfl|rfl|rfl|rfl|rfl|rfl|rfl|rfl|rfl:kd=1\/kd=2\/kd=3\/kd=4\/kd=5\/kd=6\/kd=7\/kd=8\/kd=9\/kd=10\/kd=11:=by omega
     all_goals
      generalize hC:Code.region 12 _ _=C12;generalize hp:std=p,hH:QA ts=TK,zS:Q0 l=rx;rw[hp,hH]at hX;generalize hT:Q4 p tys (QdA ln cl TK) _ _ _ _=T;cbv at hT;obtain⟨dd,kX⟩:∃dd:Nat,1+1=dd:=⟨_,rfl⟩;cbv at kX;rw[hX]at hT;subst hC;cbv at hT;subst hT;simp only[Tree.ok,Q1,S0];subst hp hH zS;refine⟨fun _=>⟨⟨jK,jR⟩,yT,?_⟩,fun h=>absurd (jb.symm.trans h) (by decide)⟩
      refine⟨qK _,(show(-9223372036854775808:Int)<=i+1/\i+1<=(9223372036854775807:Int) from by omega),(i+1,_),⟨?_,?_,qa⟩,?_,[some 0],_,rfl,?_⟩
      rotate_left 3
      exact eq1 vr
      ·show 0<=i+1;omega
      ·show i+1<=m;omega
      ·show(m-(i+1)).toNat<(m-i).toNat;omega
    ·have np:(fun k=>((Q1L ts k:Nat):Int))=f:=funext fun k=>by
      have e:=(hf k).eq;rw[take_of_length_le (by have:=hm.eq;omega)]at e
      exact e.symm
     rw[np,Qcv,<-hn.eq,<-yF.eq,<-ki]at qv;have xz:std.ltI i m=false:=decide_eq_false (by omega)
     clear hf np;rw[qv];unfold Rp.cs;generalize Code.region 12 _ _=C12;with_reducible refine cv2 (QA ts) (Q0 l) ?_
     refine⟨fun h=>absurd (xz.symm.trans h) (by decide),fun _=>?_⟩
     rw[if_pos trivial];with_reducible refine cv2 (QA ts) (Q0 l) ?_
     refine⟨[some 0],.tup [],_,rfl,rfl,le_refl _,rfl,?_,trivial⟩;exact eq0
def Qpv:List AV:=[.opt (.val (.pointer none)),.val (.int .i64 0),.val (.int .i64 0),.val (.int .i64 0),.opt (.val (.pointer none))]
theorem Qmr(l:List Node)(n:Int):BCall prog 61 [.agg ((Cur.root n).el (Q3 l))] [] (.tup [.agg Qpv,.val (.bool false)]) []:=by
 rw[Cur.el];refine fnN (cs0) func61 rfl fun _ _=>?_
 with_reducible refine cv1 (Q3 l) ?_
 refine⟨fun _=>.pure rfl ?_,fun h=>absurd (show true=false from h) (by decide)⟩
 exact⟨⟨.inr (.inr (.inl ⟨rfl,trivial⟩)),.inl rfl,.inl rfl,.inl rfl,.inr (.inr (.inl ⟨rfl,trivial⟩)),trivial⟩,.inl rfl,trivial⟩
theorem Qoy(l:List Node)(n f k:Int)(up:Cur):BCall prog 61 [.agg ((Cur.kid n f k up).el (Q3 l))] [] (.tup [.agg (up.el (Q3 l)),.val (.bool true)]) []:=by
 rw[Cur.el,Cur.el];have hU:Q56 (upO (Q3 l) up):=QcJ _ _;obtain⟨un,yg⟩:=exq up.n;obtain⟨uf,huf⟩:=exq up.f;obtain⟨uk,huk⟩:=exq up.k;have e:upO (Q3 l) (Cur.kid n f k up)=.ref [.ref [.slc 6 (Q3 l)],.val (.int .i64 un),.val (.int .i64 uf),.val (.int .i64 uk),.opt (upO (Q3 l) up)]:=by rw[yg,huf,huk];rfl
 rw[e,<-yg,<-huf,<-huk];show BCall _ _ [.agg [_,.val (.int .i64 n),.val (.int .i64 f),.val (.int .i64 k),_]] _ _ _;clear e yg huf huk;refine fnN (cs0) func61 rfl fun _ _=>?_
 with_reducible refine cv2 (upO (Q3 l) up) (Q3 l) ?_
 exact⟨fun h=>absurd (show false=true from h) (by decide),fun _=>⟨⟨trivial,rfl⟩,⟨trivial,rfl,rfl,rfl,hU,trivial⟩,.pure rfl ⟨⟨.inl rfl,.inl rfl,.inl rfl,.inl rfl,.inl rfl,trivial⟩,.inl rfl,trivial⟩⟩⟩
def Q16(l:List Node):Cur->Int
 |.root n=>if Q1f l n=21 then 1 else 0
 |.kid n _ _ up=>(if Q1f l n=21 then 1 else 0)+Q16 l up
def Q2U:Cur->Nat
 |.root _=>1
 |.kid _ _ _ up=>Q2U up+1
theorem Q3Y(l:List Node):∀c,0<=Q16 l c/\Q16 l c<=Q2U c
 |.root n=>by
  show 0<=(if Q1f l n=21 then(1:Int)else 0)/\(if Q1f l n=21 then(1:Int)else 0)<=((1:Nat):Int);split<;>omega
 |.kid n f k up=>by
  have ih:=Q3Y l up;show 0<=(if Q1f l n=21 then(1:Int)else 0)+Q16 l up/\(if Q1f l n=21 then(1:Int)else 0)+Q16 l up<=((Q2U up+1:Nat):Int);split<;>omega
theorem QdI(l:List Node)(c:Cur):BCall prog 55 [.agg (c.el (Q3 l))] [] (.val (.int .i64 (Q1f l c.n))) [] :=
 (Qm8 l c).le ⟨⟨.inr (.inr (.inr rfl)),.inl rfl,.inl rfl,.inl rfl,.inl rfl,trivial⟩,trivial⟩
def upC:Cur->Cur
 |.root n=>.root n
 |.kid _ _ _ up=>up
def Q4g:Cur->Bool
 |.root _=>false
 |.kid _ _ _ _=>true
def pA(N:List AV):Bool->AV
 |true=>.ref [.slc 6 N]
 |false=>.val (.pointer none)
def nI:Bool->Cur->Int
 |true,c=>c.n
 |false,_=>0
def fI:Bool->Cur->Int
 |true,c=>c.f
 |false,_=>0
def kI:Bool->Cur->Int
 |true,c=>c.k
 |false,_=>0
def uA(N:List AV):Bool->Cur->AV
 |true,c=>upO N c
 |false,_=>.val (.pointer none)
def QjF(N:List AV)(ok:Bool)(c:Cur):List AV:=[.opt (pA N ok),.val (.int .i64 (nI ok c)),.val (.int .i64 (fI ok c)),.val (.int .i64 (kI ok c)),.opt (uA N ok c)]
theorem Qq7(l:List Node)(c:Cur):BCall prog 61 [.agg (QjF (Q3 l) true c)] [] (.tup [.agg (QjF (Q3 l) (Q4g c) (upC c)),.val (.bool (Q4g c))]) []:=by
 cases c with
 |root n=>exact Qmr l n
 |kid n f k up=>exact Qoy l n f k up
def Qnf(kd:Int)(P:Bool->AV)(nn ff kk:Bool->Cur->Int)(U:Bool->Cur->AV)(b:Bool)(c:Cur):Nat->List AV->List Ob->Option (AV×List Ob):=fun f args _=>match f,args with
 |55,[.agg _]=>some (.val (.int .i64 kd),[])
 |61,[.agg _]=>some (.tup [.agg [.opt (P b),.val (.int .i64 (nn b c)),.val (.int .i64 (ff b c)),.val (.int .i64 (kk b c)),.opt (U b c)],.val (.bool b)],[])
 |_,_=>none
def Qq4(l:List Node)(x:Cur×Bool×Int):Nat->List AV->List Ob->Option (AV×List Ob):=Qnf (Q1f l x.1.n) (pA (Q3 l)) nI fI kI (uA (Q3 l)) (Q4g x.1) (upC x.1)
theorem Qjf(l:List Node)(x:Cur):Q16 l x=(if Q1f l x.n=21 then 1 else 0)+(if Q4g x=true then Q16 l (upC x)else 0):=by
 cases x with
 |root n=>show(if Q1f l n=21 then(1:Int)else 0)=(if Q1f l n=21 then 1 else 0)+0;omega
 |kid n f k up=>rfl
theorem Qlh(x:Cur):(if Q4g x=true then Q2U (upC x)+1 else 0)<Q2U x+1:=by
 cases x with
 |root n=>show 0<1+1;omega
 |kid n f k up=>show Q2U up+1<Q2U up+1+1;omega
theorem Qmb(l:List Node)(c:Cur)(hc:Q2U c<=1000000):BCall prog 123 [.agg (c.el (Q3 l))] [] (.val (.int .i64 (Q16 l c))) []:=by
 obtain⟨D,hD⟩:=exq (Q16 l c);have hDr:=Q3Y l c;rw[<-hD]at hDr ⊢;have hD1:D<=1000000:=by omega
 show BCall _ _ [.agg [.opt (pA (Q3 l) true),.val (.int .i64 (nI true c)),.val (.int .i64 (fI true c)),.val (.int .i64 (kI true c)),.opt (uA (Q3 l) true c)]] _ _ _;refine fnN (cs0) func123 rfl fun _ _=>?_
 with_reducible refine cv5 (pA (Q3 l)) (uA (Q3 l)) nI fI kI ?_
 refine Q46 (cs:=Qq4 l) (ord:=fun _=>.nil) Q6k (by kernel_rfl) (by kernel_rfl) (by kernel_rfl) (X:=Cur×Bool×Int) (fun x=>⟨[(2,.val (.int .i64 0)),(3,.val (.int .i64 x.2.2)),(4,.box 0 0),(5,.val (.bool x.2.1))],[.box [.opt (pA (Q3 l) x.2.1),.val (.int .i64 (nI x.2.1 x.1)),.val (.int .i64 (fI x.2.1 x.1)),.val (.int .i64 (kI x.2.1 x.1)),.opt (uA (Q3 l) x.2.1 x.1)]]⟩) (fun x=>0<=x.2.2/\(x.2.1=true->x.2.2+Q16 l x.1=D)/\(x.2.1=false->x.2.2=D)) (fun x=>if x.2.1=true then Q2U x.1+1 else 0) (c,true,0) ?_ ?_ ?_
 ·exact⟨Int.le_refl _,fun _=>by rw[hD];exact Int.zero_add _,fun h=>(by cases h)⟩
 ·refine⟨[some 1],_,rfl,?_⟩
  exact eq0
 ·rintro⟨x,ok,a⟩ ⟨nt,jh,j7⟩
  simp only at nt jh j7
  show Tree.ok _ _ _ _ _ _ (Q4 std tys (Qnf (Q1f l x.n) (pA (Q3 l)) nI fI kI (uA (Q3 l)) (Q4g x) (upC x)) _ _ _ _);cases ok with
  |false =>
   have hJ:=j7 rfl;subst hJ;clear jh j7 hD hDr;with_reducible refine cv8 (Q1f l x.n) (pA (Q3 l)) (uA (Q3 l)) nI fI kI (Q4g x) (upC x) ?_
   rw[if_pos trivial];with_reducible refine cv5 (pA (Q3 l)) (uA (Q3 l)) nI fI kI ?_
   exact .pure rfl (.inl rfl)
  |true =>
   have hJ:=jh rfl;have qQ:=Q3Y l x;have xB:=Qjf l x;have hhu:=Qlh x;have cK:=QdI l x;have cU:=Qq7 l x;clear jh j7 hD hDr;with_reducible refine cv8 (Q1f l x.n) (pA (Q3 l)) (uA (Q3 l)) nI fI kI (Q4g x) (upC x) ?_
   have v9:0<=(if Q4g x=true then Q16 l (upC x)else 0):=by
    split
    ·exact(Q3Y l (upC x)).1
    ·exact Int.le_refl _
   refine⟨cK,fun hk=>⟨?_,cU,(upC x,Q4g x,a+1),⟨?_,fun hb=>?_,fun hb=>?_⟩,?_,[some 1],_,rfl,?_⟩,fun hk=>⟨cU,(upC x,Q4g x,a),⟨nt,fun hb=>?_,fun hb=>?_⟩,?_,[some 1],_,rfl,?_⟩⟩
   all_goals try
    have e:Q1f l x.n=21:=eq_of_beq hk;rw[if_pos e]at xB
   all_goals try
    have e:¬Q1f l x.n=21:=fun e=>by
     have hk:(Q1f l x.n == 21)=false:=hk;rw[e]at hk;cases hk
    rw[if_neg e]at xB
   ·show -9223372036854775808<=a+1/\a+1<=9223372036854775807
    omega
   ·show 0<=a+1
    omega
   ·have hb:Q4g x=true:=hb
    rw[if_pos hb]at xB;show a+1+Q16 l (upC x)=D;omega
   ·have hb:Q4g x=false:=hb
    rw[hb]at xB;show a+1=D;have:Q16 l x=1+0:=xB
    omega
   ·show(if Q4g x=true then Q2U (upC x)+1 else 0)<(if True then Q2U x+1 else 0)
    rw[if_pos trivial];exact hhu
   ·exact eq0
   ·have hb:Q4g x=true:=hb
    rw[if_pos hb]at xB;show a+Q16 l (upC x)=D;omega
   ·have hb:Q4g x=false:=hb
    rw[hb]at xB;show a=D;have:Q16 l x=0+0:=xB
    omega
   ·show(if Q4g x=true then Q2U (upC x)+1 else 0)<(if True then Q2U x+1 else 0)
    rw[if_pos trivial];exact hhu
   ·exact eq0
def Qkw(pc:List AV):Nat->List AV->List Ob->Option (AV×List Ob):=fun f args _=>match f,args with
 |48,[.val (.int .i64 _),.slc 1 _]=>some (.slc 3 pc,[])
 |_,_=>none
def Q2i(kind:Int)(b:List UInt8):List Int:=(Q4B kind b).map Itm.r
theorem QnK(kind:Int)(b:List UInt8)(hb:b.length<=1000000)(hp:(Q4B kind b).length<=1000000):BCall prog 150 [.val (.int .i64 kind),.slc 1 (Q2 b)] [] (.slc 1 (Q0 (Q2i kind b))) []:=by
 have cP:=Qez kind b (by omega)
 obtain⟨ps,ji⟩:=exq (Q4B kind b);unfold Q2i;rw[<-ji]at cP hp ⊢;obtain⟨n,hn⟩:=QE ps;have jB:std.len (QP ps)=n:=by show((QP ps).length:Int)=n;rw[Q3m,hn.eq]
 have en:=hn.eq;refine fnN (Qkw (QP ps)) func150 rfl fun _ _=>?_
 with_reducible refine cv2 (QP ps) (Q2 b) ?_
 refine⟨cP,?_⟩;refine Q1h (Qkw (QP ps)) (Int) (fun k=>⟨[(5,.row 0 0),(10,.slc 3 (QP ps)),(11,.val (.int .i64 n)),(12,.val (.int .i64 k))],[.row 21 1 false 0 (Q0 ((ps.take k.toNat).map Itm.r))]⟩) (fun k=>0<=k/\k<=n) (fun k=>(n-k).toNat) 0 ?_ ?_ ?_
 ·have:=hn.eq
  exact⟨Int.le_refl 0,by omega⟩
 ·refine⟨[none],_,rfl,?_⟩
  have e1:Q0 ((ps.take (0:Int).toNat).map Itm.r)=[]:=rfl;rw[e1];exact eq1 (gI jB)
 ·rintro k ⟨q8,jX⟩
  have q8:0<=k:=q8;have jX:k<=n:=jX;clear en;with_reducible refine cv3 (QP ps) (Q2 b) (Q0 ((ps.take k.toNat).map Itm.r)) ?_
  have en:=hn.eq;refine⟨fun h=>?_,fun h=>?_⟩
  ·have h:k<n:=of_decide_eq_true h
   have hk:k.toNat<ps.length:=by omega
   have jU:(QP ps).getD k.toNat .dead=ps[k.toNat].av:=by
    rw[getD_eq_getElem?_getD,QP,getElem?_map,getElem?_eq_getElem hk];rfl
   have e1:Q0 ((ps.take (k+1).toNat).map Itm.r)=Q0 ((ps.take k.toNat).map Itm.r)++[.val (.int .i32 ps[k.toNat].r)]:=by
    rw[show(k+1).toNat=k.toNat+1 by omega,take_add_one,getElem?_eq_getElem hk,List.map_append,Q95];rfl
   have hl:(Q0 ((ps.take k.toNat).map Itm.r)).length<=1000000:=by rw[Qx,List.length_map,length_take];omega
   have hw:∀i:Nat,AV.cells ps[k.toNat].av=[.val (.int .i32 ps[k.toNat].r),.val (.int .i64 ps[k.toNat].off),.val (.int .i64 ps[k.toNat].n)]:=fun _=>rfl
   have ha:std.cel (std.at_ (QP ps) k)=[.val (.int .i32 ps[k.toNat].r),.val (.int .i64 ps[k.toNat].off),.val (.int .i64 ps[k.toNat].n)]:=by
    show AV.cells ((QP ps).getD k.toNat .dead)=_;rw[jU];rfl
   have h0:std.hasI .i32 (std.nth (std.cel (std.at_ (QP ps) k)) 0):=by rw[ha];rfl
   have h1:std.hasI .i64 (std.nth (std.cel (std.at_ (QP ps) k)) 1):=by rw[ha];rfl
   have h2:std.hasI .i64 (std.nth (std.cel (std.at_ (QP ps) k)) 2):=by rw[ha];rfl
   have hx:std.int (std.nth (std.cel (std.at_ (QP ps) k)) 0)=ps[k.toNat].r:=by rw[ha];rfl
   rw[<-hx]at e1;refine⟨?_,⟨h0,h1,h2,trivial⟩,?_,?_,k+1,⟨by omega,by omega⟩,by omega,[some 0],_,rfl,?_⟩
   ·show 0<=k/\k<std.len (QP ps)
    rw[jB];omega
   ·show(Q0 ((ps.take k.toNat).map Itm.r)).length+1<=1000000000
    omega
   ·show(-9223372036854775808:Int)<=k+1/\k+1<=(9223372036854775807:Int)
    omega
   ·have e1:std.app (Q0 ((ps.take k.toNat).map Itm.r)) [.val (.int .i32 (std.int (std.nth (std.cel (std.at_ (QP ps) k)) 0)))]=Q0 ((ps.take (k+1).toNat).map Itm.r):=e1.symm
    exact eq1 e1
  ·have h:¬k<n:=of_decide_eq_false h
   rw[if_pos trivial,show ps.take k.toNat=ps from take_of_length_le (by omega)]
   clear en;with_reducible refine cv3 (QP ps) (Q2 b) (Q0 (ps.map Itm.r)) ?_
   exact .pure rfl (.inl rfl)
def Qp7(pr ru:Int->List AV)(n:Int):Nat->List AV->List Ob->Option (AV×List Ob):=fun f args _=>match f,args with
 |59,[.ref [.slc 6 _],.val (.int .i64 n)]=>some (.slc 1 (pr n),[])
 |150,[.val (.int .i64 _),.slc 1 _]=>some (.slc 1 (ru n),[])
 |_,_=>none
def trO:OT:=.then [0,1,3,4,5] (.fork (.of [2,6,7,8]) (.of [6,2,7,8]))
def ruN(kind:Int)(l:List Node)(n:Int):List Int:=Q2i kind (pr l n)
def ruA(kind:Int)(l:List Node)(n:Int):List AV:=Q0 (ruN kind l n)
theorem QlD(t:Txt)(m:Mk)(n:Int)(h:PrOk (QL m).n n)(hp:(Q4B t.kind (pr (QL m).n n)).length<=1000000):BCall prog 125 [Q8c t m,.val (.int .i64 n)] [] (.slc 1 (Q0 (ruN t.kind (QL m).n n))) []:=by
 have cP:=Qm7 (QL m).n h.len h.wf h.wide n h.h0 h.h1 h.p h.c;have cR:=QnK t.kind (pr (QL m).n n) h.p hp;obtain⟨rt,zW⟩:=exq (m.n.length:Int);obtain⟨l,hl⟩:=exq ((QL m).n);unfold Q8c;rw[<-zW,<-hl];rw[<-hl]at cP cR;clear h hp;have cP:BCall prog 59 [.ref [.slc 6 (Q3 l)],.val (.int .i64 n)] [] (.slc 1 (prA l n)) []:=cP;have cR:BCall prog 150 [.val (.int .i64 t.kind),.slc 1 (prA l n)] [] (.slc 1 (ruA t.kind l n)) []:=cR;show BCall _ _ _ _ (.slc 1 (ruA t.kind l n)) _;refine fnO false (Qp7 (prA l) (ruA t.kind l) n) (fun id=>match id with|1=> trO|_=>.nil) func125 rfl fun _ _=>?_
 with_reducible refine cv8 (prA l) (ruA t.kind l) (Q3 l) (Q0 t.r) (Q9 t.off) (Qk m.d) t.kind t.bom ?_
 exact⟨⟨cP,cR,.pure rfl (.inl rfl)⟩,cP,cR,.pure rfl (.inl rfl)⟩
end
