/- Lemmas, conditions told -/
import Derived.Test.YtibemhahkicbpaaGreatL16
set_option maxRecDepth 99999
set_option maxHeartbeats 0
set_option linter.unusedSimpArgs false
set_option linter.unusedVariables false
namespace Go.Proofs.YtibemhahkicbpaaGreat
open List(length_cons length_drop length_take map_take length_append map_cons sum_cons getElem?_eq_getElem getElem_mem)
open Nat(le_refl zero_le le_of_ble_eq_true)
open Go.RowKit Go.Lib
section
open Tryz
def Qbc(t:Txt)(b:List UInt8)(k f u:Int)(w:Bool)(N D S:List AV):List AV:=Q3 (Q26 t b k f u w (mkB N D S)).n
def Qah(t:Txt)(b:List UInt8)(k f u:Int)(w:Bool)(N D S:List AV):List AV:=Qk (Q26 t b k f u w (mkB N D S)).d
def Q9P(t:Txt)(b:List UInt8)(k f u:Int)(w:Bool)(N D S:List AV):List AV:=Qi (Q26 t b k f u w (mkB N D S)).s
theorem QnQ(t:Txt)(b:List UInt8)(k f u:Int)(w:Bool)(m:Mk):Qbc t b k f u w (Q3 m.n) (Qk m.d) (Qi m.s)=Q3 (Q26 t b k f u w m).n:=by rw[Qbc,Q2m]
theorem QmF(t:Txt)(b:List UInt8)(k f u:Int)(w:Bool)(m:Mk):Qah t b k f u w (Q3 m.n) (Qk m.d) (Qi m.s)=Qk (Q26 t b k f u w m).d:=by rw[Qah,Q2m]
theorem QmS(t:Txt)(b:List UInt8)(k f u:Int)(w:Bool)(m:Mk):Q9P t b k f u w (Q3 m.n) (Qk m.d) (Qi m.s)=Qi (Q26 t b k f u w m).s:=by rw[Q9P,Q2m]
def QcM(p:Pr)(TK:List AV)(tn td ts:Int->Int->Int->Bool->List AV->List AV->List AV->List AV)(mn md ms:Int->List AV->List AV->List AV->List AV)(br:Int->List AV->List AV->List AV):Nat->List AV->List Ob->Option (AV×List Ob):=fun f args ob=>match f,args with
 |87,[.slc 1 _]=>some (.slc 4 TK,[])
 |88,[.box 0 0,.agg [.val (.int .i64 kind),.val (.int .i64 f),.val (.int .i64 u),.val (.bool wh)]]=>Q3K ob fun b k m r o rt N D S=>some (.tup [],obM 1 b k m r o rt (tn kind f u wh N D S) (td kind f u wh N D S) (ts kind f u wh N D S))
 |89,[.box 0 0,.val (.int .i64 a)]=>Q3K ob fun b k m r o rt N D S=>some (.tup [],obM 1 b k m r o rt (mn a N D S) (md a N D S) (ms a N D S))
 |90,[.box 0 0,.val (.int .i64 k),.slc 1 ks]=>match ob with
  | [.box [.row 1 0],.row 182 6 false 0 N]=>some (.tup [.val (.int .i64 (p.len N)),.val (.int .i64 0)],[.box [.row 1 1],.row 182 6 false 1 (br k ks N)])
  |_=>none
 |_,_=>none
def alO:OT:=.then [0,1,2,4,5,6,7,8,9,10,11,12,13,14,15,16,17] (.fork (.of [3,18,19,20,21,22,23,24]) (.of [18,19,20,21,3,22,23,24]))
theorem QcX(l:List Int):∀n k:Nat,l.length-k<=n->(Q1S l k).length<=n
 |0,k,h=>by rw[Q1k (by omega)];exact le_refl _
 |n+1,k,h=>by
  by_cases hk:k<l.length
  ·have:=Q2E l k hk
   rw[Q1O hk,length_cons];have:=QcX l n (Ql l k).2.1 (by omega)
   omega
  ·rw[Q1k hk];exact zero_le _
theorem QnZ(t:Txt)(b:List UInt8)(hs:Sml t b)(rt:Int)(m:Mk)(B D:Nat)(iv:MkI m (Q6y t b 0) B D)(hB:B+3 * t.r.length<=600000)(hD:D+3 * t.r.length<=600000) :
  BCall prog 44 [.box 0 0] (obT 0 t b rt m) (.tup []) (obT 1 t b (Q8R t b m).n.length (QL (Q8R t b m))):=by
 have cT:=QeJ t.r hs.hr;obtain⟨toks,vh⟩:=exq (Q1r t.r);rw[<-vh]at cT
 have z9:toks.length<=1000000:=by
  have:=QcX t.r t.r.length 0 (by omega)
  rw[vh];exact Nat.le_trans this hs.hr
 obtain⟨n,hn⟩:=QE toks;obtain⟨M0,nA⟩:=exq (toks.foldl (Q7k t b) m);obtain⟨M1,hM1⟩:=exq (Q8R t b m);have hM01:M1=missGo t t.r.length 0 M0.s.length M0:=by rw[hM1,nA,vh];rfl
 rw[<-hM1];obtain⟨E,hE⟩:=exq (QL M1);unfold obT obM;refine fnO false (QcM std (QA toks) (Qbc t b) (Qah t b) (Q9P t b) (Q5I t) (Q5B t) (Q5J t) brA) (fun id=>match id with|7=> alO|_=>.nil) func44 rfl fun _ _=>?_
 generalize hS:Qi m.s=S;generalize vR:Q2 b=B';generalize hR:Q0 t.r=R;generalize hO:Q9 t.off=O;generalize hK:t.kind=K;generalize hM:t.bom=M;with_reducible refine Qqc (QA toks) (Qbc t b) (Qah t b) (Q9P t b) (Q5I t) (Q5B t) (Q5J t) brA (Q3 m.n) (Qk m.d) ?_
 subst hS vR hR hO hK hM;have tlen:=Q5G toks;have qB:std.len (QA toks)=n:=by show((QA toks).length:Int)=n;rw[tlen,hn.eq]
 refine⟨cT,?_⟩;refine Q1h (QcM std (QA toks) (Qbc t b) (Qah t b) (Q9P t b) (Q5I t) (Q5B t) (Q5J t) brA) (Int×Mk×Nat) (fun x=>⟨[(0,.box 0 0),(12,.slc 4 (QA toks)),(13,.val (.int .i64 n)),(14,.val (.int .i64 x.1))],[.box [.slc 1 (Q2 b),.box 1 0,.row 5 1],.box [.val (.int .i64 t.kind),.val (.int .i64 t.bom),.slc 1 (Q0 t.r),.slc 1 (Q9 t.off),.box 2 0,.val (.int .i64 rt),.row 4 1],.box [.row 3 1],.row 182 6 false 1 (Q3 x.2.1.n),.row 146 3 false 1 (Qk x.2.1.d),.row 99 2 false 1 (Qi x.2.1.s)]⟩) (fun x=>0<=x.1/\x.1<=n/\x.2.2<=t.r.length/\Q1S t.r x.2.2=toks.drop x.1.toNat/\MkI x.2.1 (Q6y t b x.2.2) (B+3 * x.2.2) (D+3 * x.2.2)/\(toks.drop x.1.toNat).foldl (Q7k t b) x.2.1=M0) (fun x=>(n-x.1).toNat) (0,m,0) ?_ ?_ ?_
 ·have:=hn.eq
  exact⟨Int.le_refl _,by simp only;omega,zero_le _,by rw[vh];rfl,iv,nA.symm⟩
 ·refine⟨[some 0,some 1,some 2,some 3,some 4,some 5],_,rfl,?_⟩
  exact eq1 qB
 ·rintro⟨i,x,k⟩ ⟨jK,qi,hk,hd,hv,hf⟩
  simp only at jK qi hk hd hv hf
  have okx:=hv.i.ok (by omega) (by omega)
  rcases Int.lt_or_eq_of_le qi with jA|j6
  ·have en:=hn.eq
   have j1:i.toNat<toks.length:=by omega
   have qX:k<t.r.length:=by
    by_cases h:k<t.r.length
    ·exact h
    ·rw[Q1k h]at hd
     have:=congrArg List.length hd
     rw[length_drop]at this;simp at this;omega
   obtain⟨t1,t2,t3,t4⟩:=Q9S t.r qX;have gE:toks.drop i.toNat=Q1m t.r k::Q1S t.r (Ql t.r k).2.1:=by rw[<-hd,Q1O qX]
   have hxe:toks[i.toNat]?=some (Q1m t.r k):=by rw[<-List.head?_drop,gE];rfl
   have kv:Q1S t.r (Ql t.r k).2.1=toks.drop (i+1).toNat:=by
    rw[show(i+1).toNat=i.toNat+1 by omega,<-List.tail_drop,gE];rfl
   have jV:(QA toks).getD i.toNat .dead=(Q1m t.r k).av:=by
    rw[List.getD_eq_getElem?_getD,QA,List.getElem?_map,hxe];rfl
   have jM:InT t (Q1m t.r k).from_ (Q1m t.r k).to:=⟨by omega,by omega,by omega⟩
   have hXl:(Q6y t b k).length<=1000000:=by
    have:=hs.hb
    rw[Q6y,length_take];omega
   have c:=Qmo t b hs rt x (Q6y t b k) (B+3 * k) (D+3 * k) hv.i (by omega) (by omega) hXl (Q1m t.r k).kind (Q1m t.r k).from_ (Q1m t.r k).to (Q1m t.r k).whole jM
   have gr:MkI (Q7k t b x (Q1m t.r k)) (Q6y t b (Ql t.r k).2.1) (B+3 * (Ql t.r k).2.1) (D+3 * (Ql t.r k).2.1):=by
    have:=hv.token t b hs.hr (Q1m t.r k).kind (Q1m t.r k).from_ (Q1m t.r k).to (Q1m t.r k).whole
    rw[t1,t2,Q7B hs.ok (by omega) (by omega) (by omega)]at this
    have e:Q7k t b x (Q1m t.r k)=Q26 t b (Q1m t.r k).kind k ((Ql t.r k).2.1:Nat) (Q1m t.r k).whole x:=rfl;rw[e];exact⟨this.i.mono (by omega) (by omega),this.c⟩
   have qM:(toks.drop (i+1).toNat).foldl (Q7k t b) (Q7k t b x (Q1m t.r k))=M0:=by
    rw[gE,List.foldl_cons]at hf;rw[<-kv];exact hf
   obtain⟨y,hy⟩:=exq (Q1m t.r k);obtain⟨k2,jn⟩:=exq ((Ql t.r k).2.1);rw[<-hy]at jV jM c gr qM;rw[<-jn]at gr kv t4;clear en t1 t2 t3 gE hxe hd hf hy jn qX;generalize hS:Qi x.s=S;generalize vR:Q2 b=B';generalize hR:Q0 t.r=R;generalize hO:Q9 t.off=O;generalize hK:t.kind=K;generalize hM:t.bom=M;with_reducible refine Qqc (QA toks) (Qbc t b) (Qah t b) (Q9P t b) (Q5I t) (Q5B t) (Q5J t) brA (Q3 x.n) (Qk x.d) ?_
   subst hS vR hR hO hK hM;unfold obT obM at c;simp only[std,jV,Tok.av,AV.cells,List.getD_cons_zero,List.getD_cons_succ,intOf,Q5y,Q3t,QnQ,QmF,QmS,decide_eq_true_eq,decide_eq_false_iff_not];refine⟨fun _=>⟨?_,⟨trivial,trivial,trivial,trivial,trivial⟩,c,?_,(i+1,Q7k t b x y,k2),⟨?_,?_,t4,kv,gr,qM⟩,?_,[some 0,some 1,some 2,some 3,some 4,some 5],_,rfl,?_⟩,fun h=>?_⟩
   ·have:=hn.eq
    rw[tlen];omega
   ·have:=hn.eq
    have:=hs.hr
    show(-9223372036854775808:Int)<=i+1/\i+1<=(9223372036854775807:Int)
    omega
   ·show 0<=i+1
    omega
   ·show i+1<=n
    omega
   ·show(n-(i+1)).toNat<(n-i).toNat
    omega
   ·simp[Qe,lk,Q7k]
   ·omega
  ·have hd0:toks.drop i.toNat=[]:=List.drop_eq_nil_of_le (by have:=hn.eq;omega)
   rw[hd0]at hd hf;have hxM:x=M0:=hf
   have hkr:k=t.r.length:=by
    by_cases h:k<t.r.length
    ·rw[Q1O h]at hd;cases hd
    ·omega
   subst hxM;rw[j6];clear hd hf hd0 hk;have hlr:(t.r.length:Int)=t.r.length:=rfl;obtain⟨rl,qd⟩:=QE t.r;generalize hS:Qi x.s=S;generalize vR:Q2 b=B';generalize hR:Q0 t.r=R;generalize hO:Q9 t.off=O;generalize hK:t.kind=K;generalize hM:t.bom=M;with_reducible refine Qqc (QA toks) (Qbc t b) (Qah t b) (Q9P t b) (Q5I t) (Q5B t) (Q5J t) brA (Q3 x.n) (Qk x.d) ?_
   subst hS vR hR hO hK hM;refine⟨fun h=>?_,fun _=>?_⟩
   ·have h:n<n:=of_decide_eq_true h
    omega
   rw[if_pos trivial];generalize hS:Qi x.s=S;generalize vR:Q2 b=B';generalize hR:Q0 t.r=R;generalize hO:Q9 t.off=O;generalize hK:t.kind=K;generalize hM:t.bom=M;with_reducible refine Qqc (QA toks) (Qbc t b) (Qah t b) (Q9P t b) (Q5I t) (Q5B t) (Q5J t) brA (Q3 x.n) (Qk x.d) ?_
   subst hS vR hR hO hK hM;rw[hkr,QaE hs.ok]at hv;have cd:MkI x b (B+3 * t.r.length) (D+3 * t.r.length):=hv;have hrl2:std.len (Q0 t.r)=rl:=by show((Q0 t.r).length:Int)=rl;rw[Qx,qd.eq]
   clear hv hkr hlr okx j6 jK qi;refine Q1h (QcM std (QA toks) (Qbc t b) (Qah t b) (Q9P t b) (Q5I t) (Q5B t) (Q5J t) brA) (Mk) (fun x=>⟨[(0,.box 0 0)],[.box [.slc 1 (Q2 b),.box 1 0,.row 5 1],.box [.val (.int .i64 t.kind),.val (.int .i64 t.bom),.slc 1 (Q0 t.r),.slc 1 (Q9 t.off),.box 2 0,.val (.int .i64 rt),.row 4 1],.box [.row 3 1],.row 182 6 false 1 (Q3 x.n),.row 146 3 false 1 (Qk x.d),.row 99 2 false 1 (Qi x.s)]⟩) (fun x=>MkI x b (B+3 * t.r.length) (D+3 * t.r.length)/\missGo t t.r.length 0 x.s.length x=M1) (fun x=>x.s.length) x ?_ ?_ ?_
   ·exact⟨cd,hM01.symm⟩
   ·exact⟨[some 0,some 1,some 2,some 3,some 4,some 5],_,rfl,by simp[Qe,lk,std]⟩
   ·rintro y ⟨hv,hg⟩
    have oky:=hv.i.ok (by omega) (by omega)
    have ylen:=Q3W y.s;obtain⟨LY,hLY⟩:=QE y.s;generalize hS:Qi y.s=S;generalize vR:Q2 b=B';generalize hR:Q0 t.r=R;generalize hO:Q9 t.off=O;generalize hK:t.kind=K;generalize hM:t.bom=M;with_reducible refine Qqc (QA toks) (Qbc t b) (Qah t b) (Q9P t b) (Q5I t) (Q5B t) (Q5J t) brA (Q3 y.n) (Qk y.d) ?_
    subst hS vR hR hO hK hM;have hly:std.len (Qi y.s)=LY:=by show((Qi y.s).length:Int)=LY;rw[ylen,hLY.eq]
    simp only[Qh4,Qht,Qhi];refine⟨fun vr=>?_,fun jJ=>?_⟩
    ·have vr:1<std.len (Qi y.s):=of_decide_eq_true vr
     rw[hly]at vr;have zc:2<=y.s.length:=by have:=hLY.eq;omega
     have kP:=qd.eq;have jR:=hs.ok.len;have c:=Qk8 t b rt hv.i (by omega) (by omega) hs.hb t.r.length (by omega) zc
     have erl:(t.r.length:Int)=std.len (Q0 t.r):=by rw[hrl2];exact kP.symm
     rw[erl]at c;refine⟨c,Q3l t (std.len (Q0 t.r)) y,⟨by rw[<-erl];exact hv.miss zc t t.r.length,?_⟩,by rw[Q85];omega,[some 0,some 1,some 2,some 3,some 4,some 5],_,rfl,by simp[Qe,lk,std]⟩
     rw[<-erl,<-Q9g (by omega)];exact hg
    ·have jJ:¬1<std.len (Qi y.s):=of_decide_eq_false jJ
     rw[hly]at jJ;have zX:y.s.length=1:=by have:=hLY.eq;have:=hv.i.s1;omega
     have hyM:y=M1:=by rw[<-hg,Q9T (by omega)]
     subst hyM;clear jJ hly;rw[if_pos trivial];generalize hS:Qi y.s=S;generalize vR:Q2 b=B';generalize hR:Q0 t.r=R;generalize hO:Q9 t.off=O;generalize hK:t.kind=K;generalize hM:t.bom=M;with_reducible refine Qqc (QA toks) (Qbc t b) (Qah t b) (Q9P t b) (Q5I t) (Q5B t) (Q5J t) brA (Q3 y.n) (Qk y.d) ?_
     subst hS vR hR hO hK hM;obtain⟨o,ho⟩:∃o,y.s=[o]:=List.length_eq_one_iff.1 zX;have gZ:QZ y.s=o:=by rw[ho];rfl
     have hcell:std.nth (std.drp (std.cel (std.at_ (Qi y.s) 0)) 1) 0=slK (QZ y.s).kids:=by rw[gZ,ho];rfl
     have zW:std.lst (slK (QZ y.s).kids)=Q9 (QZ y.s).kids:=by cases(QZ y.s).kids<;>rfl
     have kJ:std.lst (std.nth (std.drp (std.cel (std.at_ (Qi y.s) 0)) 1) 0)=Q9 (QZ y.s).kids:=by rw[hcell,zW]
     have nC:((QZ y.s).kids.flatMap (pr y.n)).length<=b.length:=by
      have:=hv.i.p
      rw[gZ,<-this,ho];simp[prK]
     have qX:(QZ y.s).kids.length<=900000:=oky.top;have cB:=Qfg y.n (by have:=oky.n;omega) 20 (QZ y.s).kids (by omega) hv.i.top hv.i.ar.ok.w hv.i.ar.ok.c (MkInv.sum hv.i.ar hv.i.top nC (by have:=hs.hb;omega))
     rw[<-Qd7,<-Q1o,<-kJ]at cB;have hnl2:=Q1o y.n
     have fin:brA 20 (std.lst (std.nth (std.drp (std.cel (std.at_ (Qi y.s) 0)) 1) 0)) (Q3 y.n)=Q3 (QL y).n:=by
      rw[kJ,Qd7];rfl
     have e0:std.len (Q3 y.n)=(y.n.length:Int):=by show((Q3 y.n).length:Int)=_;rw[hnl2]
     refine⟨?_,⟨?_,trivial⟩,⟨cB,?_⟩,cB,?_⟩
     ·show 0<=(0:Int)/\(0:Int)<std.len (Qi y.s)
      show 0<=(0:Int)/\(0:Int)<((Qi y.s).length:Int);rw[ylen,zX];decide
     ·show std.hasL 1 (std.nth (std.drp (std.cel (std.at_ (Qi y.s) 0)) 1) 0)
      rw[hcell];rcases QjU (QZ y.s).kids with h|h
      ·exact .inl (by rw[h];rfl)
      ·exact .inr h.1
     all_goals
      refine⟨[some 0,some 1,some 2,some 3,some 4,some 5],.tup [],_,rfl,rfl,le_of_ble_eq_true rfl,rfl,?_,trivial⟩;exact eq2 e0 fin
def mk0:Mk:=⟨[],[],[⟨[],[]⟩]⟩
def Qk4(bs:List UInt8):Mk:=Q3g 0 (Q20 (QI 23 bs) mk0)
def Q3s(b:List UInt8):Mk:=if 0<(QX b).2 then Qk4 (b.take (QX b).2.toNat)else mk0
def Qu(b:List UInt8):Mk:=Q8R (Qb b) b (Q3s b)
def Q8c(t:Txt)(m:Mk):AV:=.agg [.val (.int .i64 t.kind),.val (.int .i64 t.bom),.slc 1 (Q0 t.r),.slc 1 (Q9 t.off),.ref [.slc 6 (Q3 (QL m).n)],.val (.int .i64 m.n.length),.slc 3 (Qk m.d)]
def QnU(kd bm:Int)(R O:List AV)(rt:Int)(an ad asx N1 S1:List AV):Nat->List AV->List Ob->Option (AV×List Ob):=fun f args ob=>match f,args with
 |40,[.slc 1 _]=>some (.agg [.val (.int .i64 kd),.val (.int .i64 bm),.slc 1 R,.slc 1 O],[])
 |41,[]=>some (.box 0 0,[.box [.val (.slice none 0 0)]])
 |43,[.box 0 0,.val (.int .i64 _),.slc 1 _]=>match ob with
  | [.box [.val (.slice none 0 0)]]=>some (.val (.int .i64 0),[.box [.row 1 1],.row 182 6 false 1 N1])
  |_=>none
 |42,[.box 0 0,.val (.int .i64 _)]=>match ob with
  | [.box [b,.box 1 0,.row 4 0],.box [k,m,r,o,.box 2 0,q,.val (.slice none 0 0)],.box [.row 3 0],.row 182 6 false 0 N,.row 99 2 false 0 _] =>
   some (.tup [],[.box [b,.box 1 0,.row 4 1],.box [k,m,r,o,.box 2 0,q,.row 5 1],.box [.row 3 1],.row 182 6 false 1 N,.row 99 2 false 1 S1,.row 146 3 false 1 []])
  |_=>none
 |44,[.box 0 0]=>match ob with
  | [.box [b,.box 1 0,.row 3 0],.box [k,m,r,o,.box 2 0,_,.val (.slice none 0 0)],.box [.val (.slice none 0 0)],.row 99 2 false 0 _] =>
   some (.tup [],[.box [b,.box 1 0,.row 3 1],.box [k,m,r,o,.box 2 0,.val (.int .i64 rt),.row 4 1],.box [.row 5 1],.row 99 2 false 1 asx,.row 146 3 false 1 ad,.row 182 6 false 1 an])
  |_=>Q3K ob fun b k m r o _ _ _ _=>some (.tup [],obM 1 b k m r o (.val (.int .i64 rt)) an ad asx)
 |_,_=>none
theorem mk0_inv:MkI mk0 [] 2 2 :=
 have h:∀x∈mk0.s,x=⟨[],[]⟩:=fun x hx=>by simpa[mk0]using hx
 ⟨⟨Qov,(fun x hx=>by rw[h x hx];exact fun k hk=>by cases hk),rfl,le_refl _,le_refl _,le_refl _,le_refl _,(fun x hx=>by rw[h x hx];exact zero_le _)⟩,le_refl _⟩
theorem QjD(bs:List UInt8):MkI (Qk4 bs) bs 3 2:=by
 have h:=mk0_inv;have ha:=Q4A h.i.ar 23 bs;exact⟨Qh8 h.i ha.1 ha.2,Q7Q h.i h.c 23 bs⟩
theorem QiB(b:List UInt8):Q6y (Qb b) b 0=b.take (QX b).2.toNat:=by
 rw[Q6y,Q1s,show(0:Int).toNat=0 from rfl,(Q3N b).2.1]
theorem Q6Y(b:List UInt8):MkI (Q3s b) (Q6y (Qb b) b 0) 3 2:=by
 rw[QiB,Q3s];have hb:=Q4h b;split
 ·exact QjD _
 ·have:(QX b).2=0:=by omega
  rw[this];exact⟨mk0_inv.i.mono (by omega) (le_refl _),mk0_inv.c⟩
theorem Q6r(b:List UInt8)(hb:b.length<=100000):Sml (Qb b) b:=⟨by omega,Nat.le_trans (Q3N b).2.2.1 (by omega),(Q3N b).1⟩
theorem QlY(t:Txt)(b:List UInt8)(hs:Sml t b)(B D:Nat)(iv:MkI mk0 (Q6y t b 0) B D)(hB:B+3 * t.r.length<=600000)(hD:D+3 * t.r.length<=600000) :
  BCall prog 44 [.box 0 0] [.box [.slc 1 (Q2 b),.box 1 0,.row 3 0],.box [.val (.int .i64 t.kind),.val (.int .i64 t.bom),.slc 1 (Q0 t.r),.slc 1 (Q9 t.off),.box 2 0,.val (.int .i64 0),.val (.slice none 0 0)],.box [.val (.slice none 0 0)],.row 99 2 false 0 (Qi mk0.s)] (.tup [])
   [.box [.slc 1 (Q2 b),.box 1 0,.row 3 1],.box [.val (.int .i64 t.kind),.val (.int .i64 t.bom),.slc 1 (Q0 t.r),.slc 1 (Q9 t.off),.box 2 0,.val (.int .i64 (Q8R t b mk0).n.length),.row 4 1],.box [.row 5 1],.row 99 2 false 1 (Qi (QL (Q8R t b mk0)).s),.row 146 3 false 1 (Qk (QL (Q8R t b mk0)).d),.row 182 6 false 1 (Q3 (QL (Q8R t b mk0)).n)]:=by
 have h:=QnZ t b hs 0 mk0 B D iv hB hD;unfold obT obM at h;exact h.tell [some 0,some 1,some 2,none,none,some 3] [some 0,some 1,some 2,some 5,some 4,some 3] rfl rfl rfl (le_of_ble_eq_true rfl) rfl (by simp[Qe,Q3,Qk,mk0]) (res':=.tup []) rfl (by simp[Qe]) trivial
theorem QmB(t:Txt)(b:List UInt8)(m:Mk)(hd:m.d=[])(hs:1<=m.s.length)(hn:m.s.length<=1000000)(hk:(QZ m.s).kids.length<=1000000)(n:Int) :
  BCall prog 42 [.box 0 0,.val (.int .i64 n)] [.box [.slc 1 (Q2 b),.box 1 0,.row 4 0],.box [.val (.int .i64 t.kind),.val (.int .i64 t.bom),.slc 1 (Q0 t.r),.slc 1 (Q9 t.off),.box 2 0,.val (.int .i64 0),.val (.slice none 0 0)],.box [.row 3 0],.row 182 6 false 0 (Q3 m.n),.row 99 2 false 0 (Qi m.s)] (.tup [])
   [.box [.slc 1 (Q2 b),.box 1 0,.row 4 1],.box [.val (.int .i64 t.kind),.val (.int .i64 t.bom),.slc 1 (Q0 t.r),.slc 1 (Q9 t.off),.box 2 0,.val (.int .i64 0),.row 5 1],.box [.row 3 1],.row 182 6 false 1 (Q3 m.n),.row 99 2 false 1 (Qi (Q2k n m.s)),.row 146 3 false 1 []]:=by
 have h:=QaH t b 0 m hs hn hk n;unfold obT obM at h;exact h.tell [some 0,some 1,some 2,some 3,none,some 4] [some 0,some 1,some 2,some 3,some 5,some 4] rfl rfl rfl (le_of_ble_eq_true rfl) rfl (by simp[Qe,Qk,hd]) (res':=.tup []) rfl (by simp[Qe,Qk,Q3g,hd]) trivial
theorem Qn7(b:List UInt8)(hb:b.length<=100000):BCall prog 13 [.slc 1 (Q2 b)] [] (Q8c (Qb b) (Qu b)) []:=by
 obtain⟨ok,h1,h2,h3,h4⟩:=Q3N b;have hs:=Q6r b hb;have cD:=Qll b (by omega) (by omega) (fun x hx=>by have:=h4 x hx;omega)
 have yV:=Q4h b;have hE:Qu b=Q8R (Qb b) b (Q3s b):=rfl;have hiv:=Q6Y b;have qd:=hs.hr;have c0:=fun(h:Q3s b=mk0)=>QlY (Qb b) b hs 3 2 (by rw[<-h];exact hiv) (by omega) (by omega)
 have c1:=QnZ (Qb b) b hs 0 (Q3s b) 3 2 hiv (by omega) (by omega)
 rw[<-hE]at c1;obtain⟨M,hM⟩:=exq (Qu b);rw[<-hM]at c1 hE ⊢;have cL:=Qmi 23 (b.take (QX b).2.toNat) (by rw[length_take];omega)
 have cK:=QmB (Qb b) b (Q20 (QI 23 (b.take (QX b).2.toNat)) mk0) rfl (le_refl _) (le_of_ble_eq_true rfl) (zero_le _) 0;obtain⟨t,ht⟩:=exq (Qb b);have pL:t.bom=(QX b).2:=by rw[ht];rfl
 rw[<-ht]at cD c0 c1 cK hE ⊢;rw[<-pL]at cL cK yV;have hf:Q3s b=if 0<t.bom then Qk4 (b.take t.bom.toNat)else mk0:=by rw[pL];rfl
 obtain⟨nb,vu⟩:=QE b;have pq:t.bom<=nb:=by rw[vu.eq];exact yV.2
 have pP:=yV.1
 have jS:std.cut (Q2 b) 0 t.bom=Q2 (b.take t.bom.toNat):=by
  show((Q2 b).drop (0:Int).toNat).take (t.bom-0).toNat=_
  simp[Q2,map_take]
 have jW:=Q11 b;clear h1 h2 h3 h4 yV qd;refine fnN (QnU t.kind t.bom (Q0 t.r) (Q9 t.off) M.n.length (Q3 (QL M).n) (Qk M.d) (Qi M.s) (Q3 [QI 23 (b.take t.bom.toNat)]) (Qi (Q2k 0 mk0.s))) func13 rfl fun _ _=>?_
 generalize vR:Q2 b=B';with_reducible refine Qqc (Q3 [QI 23 (b.take t.bom.toNat)]) (Qi (Q2k 0 mk0.s)) ((M.n.length:Int)) (Q3 (QL M).n) (Qk M.d) (Qi M.s) t.bom t.kind (Q0 t.r) (Q9 t.off) ?_
 subst vR;refine⟨cD,Qq0,fun h=>⟨?_,?_,cK,?_,.pure rfl ⟨.inl rfl,.inl rfl,.inl rfl,.inl rfl,.inl rfl,.inl rfl,.inl rfl,trivial⟩⟩,fun h=>⟨?_,.pure rfl ⟨.inl rfl,.inl rfl,.inl rfl,.inl rfl,.inl rfl,.inl rfl,.inl rfl,trivial⟩⟩⟩
 ·show 0<=(0:Int)/\0<=t.bom/\t.bom<=((Q2 b).length:Int)
  have:=vu.eq
  rw[jW];omega
 ·show BCall _ _ [.box 0 0,.val (.int .i64 23),.slc 1 (std.cut (Q2 b) 0 t.bom)] _ _ _
  rw[jS];exact cL
 ·have h:0<t.bom:=of_decide_eq_true h
  rw[if_pos h]at hf;rw[hf]at c1;exact c1
 ·have h:¬0<t.bom:=of_decide_eq_false h
  rw[if_neg h]at hf;have c:=c0 hf;rw[hf]at hE;rw[<-hE]at c;exact c
def Qq9(pr:Int->List AV):Nat->List AV->List Ob->Option (AV×List Ob):=fun f args _=>match f,args with
 |59,[.ref [.slc 6 _],.val (.int .i64 n)]=>some (.slc 1 (pr n),[])
 |_,_=>none
def prA(l:List Node)(n:Int):List AV:=Q2 (pr l n)
structure PrOk (l:List Node) (n:Int):Prop where
 len:l.length<=1000000000
 wf:Wf l
 wide:Qj2 l
 h0:0<=n
 h1:n<l.length
 p:(pr l n).length<=1000000
 c:co l n<=1000000
def Qph(N:List AV):Nat->List AV->List Ob->Option (AV×List Ob):=fun f args _=>match f,args with
 |67,[.ref [.slc 6 _],.val (.int .i64 n)]=>some (.tup [.agg [.ref [.slc 6 N],.val (.int .i64 n),.val (.int .i64 0),.val (.int .i64 0),.opt (.val (.pointer none))],.val (.int .i64 0)],[])
 |_,_=>none
theorem Qir(t:Txt)(m:Mk):BCall prog 29 [Q8c t m] [] (.agg ((Cur.root m.n.length).cs (Q3 (QL m).n))) []:=by
 have cR:=QoT (QL m).n m.n.length (by omega) (by show(m.n.length:Int)<((m.n++[_]).length:Int);simp only[length_append,List.length_singleton];omega)
 obtain⟨rt,yI⟩:=exq (m.n.length:Int);obtain⟨l,hl⟩:=exq ((QL m).n);unfold Q8c;rw[<-yI,<-hl]at cR ⊢;refine fnN (Qph (Q3 l)) func29 rfl fun _ _=>?_
 with_reducible refine cv6 (Q3 l) (Q0 t.r) (Q9 t.off) (Qk m.d) t.kind t.bom ?_
 exact⟨cR,.pure rfl ⟨.inl rfl,.inl rfl,.inl rfl,.inl rfl,.inl rfl,trivial⟩⟩
theorem QnB(b:List UInt8):BCall prog 11 [.slc 1 (Q2 b)] [] (.slc 1 (Q2 (b.take 400))) []:=by
 obtain⟨n,hn⟩:=QE b;have jW:=Q11 b;have jE:std.len (Q2 b)=n:=by show((Q2 b).length:Int)=n;rw[jW,hn.eq]
 refine fnN (cs0) func11 rfl fun _ _=>?_
 with_reducible refine cv1 (Q2 b) ?_
 refine⟨fun h=>⟨?_,.pure rfl (.inl ?_)⟩,fun h=>.pure rfl (.inl ?_)⟩
 ·have h:400<std.len (Q2 b):=of_decide_eq_true h
  show 0<=(0:Int)/\0<=(400:Int)/\(400:Int)<=std.len (Q2 b);omega
 ·show AV.slc 1 (((Q2 b).drop (0:Int).toNat).take ((400:Int)-0).toNat)=_
  simp[Q2,map_take]
 ·have h:¬400<std.len (Q2 b):=of_decide_eq_false h
  have:=hn.eq
  rw[List.take_of_length_le (by omega)]
end
structure CurIn (l:List Node) (W C:Nat) (c:Cur):Prop where
 h0:0<=c.n
 h1:c.n<l.length
 f0:0<=c.f
 w:c.f+(Qn l c.n).width<=W
 co:co l c.n<=C
theorem QgE(l:List Node)(ks:List Int):ks.length<=coL l ks:=by
 induction ks with
 |nil=>exact zero_le _
 |cons k r ih=>have:=Qgi l k;simp only[coL,map_cons,sum_cons,length_cons]at ih ⊢;omega
theorem QnL(l:List Node){ks:List Int}{k:Int}(h:k∈ks):co l k<=coL l ks:=by
 induction ks with
 |nil=>cases h
 |cons x r ih =>
  simp only[coL,map_cons,sum_cons]at ih ⊢;rcases List.mem_cons.1 h with rfl|h
  ·omega
  ·have:=ih h;omega
section
variable {l:List Node}{W C:Nat}{c:Cur}
theorem CurIn.kids(ha:Ar l)(h:CurIn l W C c):InR l (Qg l c):=fun k hk=>by
 have h1:=ha.wf c.n h.h0 h.h1 k hk;have:=h.h1
 omega
theorem CurIn.wide(ha:Ar l)(h:CurIn l W C c):Q1Z l (Qg l c)<=(Qn l c.n).width/\0<=(Qn l c.n).width:=by
 rw[ha.wide c.n h.h0 h.h1,Q8u ha.wide (h.kids ha),Qh3 ha.wf h.h0 h.h1,length_append];show(((Qg l c).flatMap (pr l)).length:Int)<=(((Qn l c.n).b.length+((Qg l c).flatMap (pr l)).length:Nat):Int)/\_
 omega
theorem CurIn.cos(ha:Ar l)(h:CurIn l W C c):1+coL l (Qg l c)<=C:=by
 have:=h.co
 rw[Qbd ha.wf h.h0 h.h1]at this;exact this
theorem CurIn.ok(ha:Ar l)(h:CurIn l W C c)(hW:W<=2147483647)(hC:C<=1000000):CurOk l c:=by
 have h1:=h.wide ha;have h2:=h.cos ha;have h3:=QgE l (Qg l c);have h4:=h.w;have h5:=h.f0;exact⟨by omega,by omega,h5,by omega⟩
theorem CurIn.down(ha:Ar l)(h:CurIn l W C c){k:Int}(h0:0<=k)(h1:k<(Qg l c).length):CurIn l W C (Q34 l c k):=by
 have hk:k.toNat<(Qg l c).length:=by omega
 have hx:(Qg l c)[k.toNat]?.getD 0=(Qg l c)[k.toNat]:=by rw[getElem?_eq_getElem hk];rfl
 have hm:(Qg l c)[k.toNat]∈Qg l c:=getElem_mem hk;have hr:=h.kids ha _ hm;have hw:=h.wide ha;have hc:=h.cos ha;have kz:=QnL l hm;have jL:=Q5P ha.ok.w ((Qg l c).take k.toNat);have jT:=Q9y ha.ok.w (Qg l c) (k.toNat+1)
 have zP:Q1Z l ((Qg l c).take (k.toNat+1))=Q1Z l ((Qg l c).take k.toNat)+(Qn l (Qg l c)[k.toNat]).width:=by
  rw[List.take_add_one,getElem?_eq_getElem hk];show(((Qg l c).take k.toNat++[(Qg l c)[k.toNat]]).map (Q1c l)).sum=_
  rw[List.map_append,List.sum_append];simp[Q1Z,Q1c]
 have h4:=h.w;have h5:=h.f0;refine⟨?_,?_,?_,?_,?_⟩
 ·show 0<=(Qg l c)[k.toNat]?.getD 0
  rw[hx];exact hr.1
 ·show(Qg l c)[k.toNat]?.getD 0<_
  rw[hx];exact hr.2
 ·show 0<=c.f+Q1Z l ((Qg l c).take k.toNat)
  omega
 ·show c.f+Q1Z l ((Qg l c).take k.toNat)+(Qn l ((Qg l c)[k.toNat]?.getD 0)).width<=W
  rw[hx];omega
 ·show Go.Proofs.YtibemhahkicbpaaGreat.co l ((Qg l c)[k.toNat]?.getD 0)<=C
  rw[hx];omega
end
structure TreeOk (b:List UInt8) (m:Mk):Prop where
 ar:Ar (QL m).n
 p:pr (QL m).n m.n.length=b
 w:(Qn (QL m).n m.n.length).width=b.length
 c:co (QL m).n m.n.length<=400000
 n:(QL m).n.length<=400000
 s:m.s.length=1
theorem Q8f(b:List UInt8)(hb:b.length<=100000):TreeOk b (Qu b):=by
 have hs:=Q6r b hb;have hr:=(Q3N b).2.2.1;obtain⟨h1,h2⟩:=Qda hs.ok hs.hr (Q6Y b);have h1:MkI (Qu b) b (3+3 * (Qb b).r.length) (2+3 * (Qb b).r.length):=h1;have h2:(Qu b).s.length=1:=h2;obtain⟨k1,k2,k3,k4⟩:=Qe5 h1 h2;have hn:=h1.i.n;exact⟨k1,k2,k3,by omega,by show((Qu b).n++[_]).length<=_;simp only[length_append,List.length_singleton];omega,h2⟩
theorem QcT(m:Mk):(m.n.length:Int)<((QL m).n.length:Int):=by
 show(m.n.length:Int)<((m.n++[_]).length:Int)
 simp only[length_append,List.length_singleton];omega
theorem TreeOk.root{b:List UInt8}{m:Mk}(h:TreeOk b m):CurIn (QL m).n b.length 400000 (.root m.n.length) :=
 ⟨by show(0:Int)<=m.n.length;omega,QcT m,Int.le_refl _,by show(0:Int)+(Qn (QL m).n m.n.length).width<=_;rw[h.w];omega,h.c⟩
theorem Qgy(l:List UInt8):std.strB (Q2 l)=⟨l.toArray⟩:=by
 show(⟨((Q2 l).map Q35).toArray⟩:ByteArray)=_
 rw[Q3u]
def Q4Q(x:Node):Prop:=x.b=[]\/x.kids=[]
def Qsg(x:Node):Prop:=(x.b=[]/\x.kind=21)\/x.kids=[]
def Qq6(n:Nat)(x:Dg):Prop:=0<=x.f/\x.f<=x.t/\x.t<=n/\1<=x.c/\x.c<=5
structure MkS (z:Nat) (m:Mk):Prop where
 n:∀x∈m.n,Qsg x
 d:∀x∈m.d,Qq6 z x
theorem Q7K{P:Node->Prop}{l:List Node}(h:∀x∈l,P x){y:Node}(hy:P y):∀x∈l++[y],P x:=fun x hx=>by
 rcases List.mem_append.1 hx with hx|hx
 ·exact h x hx
 ·obtain rfl:x=y:=by simpa using hx
  exact hy
theorem Q9G(k:Int)(b:List UInt8):Qsg (QI k b):=.inr rfl
theorem QcE(l:List Node)(ks:List Int):Qsg (Q1i l 21 ks):=.inl ⟨rfl,rfl⟩
section
variable {n:Nat}{m:Mk}
theorem MkS.add(h:MkS n m){y:Node}(hy:Qsg y):MkS n (Q20 y m):=⟨Q7K h.n hy,h.d⟩
theorem MkS.kid(h:MkS n m)(k:Int):MkS n (Q3g k m):=⟨h.n,h.d⟩
theorem MkS.lk(h:MkS n m)(t:Txt)(b:List UInt8)(kind f u:Int):MkS n (lkF t b kind f u m):=(h.add (Q9G _ _)).kid _
theorem MkS.shut(h:MkS n m)(l:Int):MkS n (Q22 l m):=⟨Q7K h.n (QcE _ _),h.d⟩
structure Plc (t:Txt) (n:Nat) (f u:Int):Prop where
 h0:0<=Q1s t f
 h1:Q1s t f<=Q1s t u
 h2:Q1s t u<=n
theorem MkS.wrong(h:MkS n m)(t:Txt){c f u:Int}(hp:Plc t n f u)(hc:1<=c/\c<=5):MkS n (QV t c f u m):=⟨h.n,fun x hx=>by
 rcases List.mem_append.1 hx with hx|hx
 ·exact h.d x hx
 ·obtain rfl:x=⟨Q1s t f,Q1s t u,c⟩:=by simpa using hx
  exact⟨hp.h0,hp.h1,hp.h2,hc.1,hc.2⟩⟩
theorem Plc.same{t:Txt}{f u:Int}(h:Plc t n f u):Plc t n f f:=⟨h.h0,Int.le_refl _,Int.le_trans h.h1 h.h2⟩
theorem MkS.miss(h:MkS n m)(t:Txt){a:Int}(hp:Plc t n a a):MkS n (Q3l t a m):=((h.wrong t hp (by decide)).add (Q9G _ _)).shut _
end
theorem MkS.missGo{n:Nat}(t:Txt){f:Int}(hp:Plc t n f f)(k:Nat):∀(j:Nat)(m:Mk),MkS n m->MkS n (missGo t f k j m)
 |0,_,h=>h
 |j+1,m,h=>by
  show MkS n (if _ then _ else _);split
  ·exact MkS.missGo t hp k j _ (h.miss t hp)
  ·exact h
section
variable {n:Nat}{m:Mk}
theorem MkS.start(h:MkS n m)(t:Txt)(b:List UInt8)(kind:Int){f u:Int}(hp:Plc t n f u):MkS n (Q1G t b kind f u m):=by
 unfold Q1G;split
 ·exact(h.wrong t hp (by decide)).lk t b kind f u
 ·exact MkS.lk (m:={ m with s:=m.s++[⟨Qs t f u,[]⟩] }) ⟨h.n,h.d⟩ t b kind f u
theorem MkS.end_(h:MkS n m)(t:Txt)(b:List UInt8)(kind:Int){f u:Int}(hp:Plc t n f u):MkS n (Q2Y t b kind f u m):=by
 unfold Q2Y;simp only
 split
 ·exact(h.wrong t hp (by decide)).lk t b kind f u
 ·exact((MkS.missGo t hp.same _ _ _ h).add (Q9G _ _)).shut _
theorem MkS.token(h:MkS n m)(t:Txt)(b:List UInt8)(kind:Int){f u:Int}(wh:Bool)(hp:Plc t n f u):MkS n (Q26 t b kind f u wh m):=by
 unfold Q26;simp only
 generalize qF:(if wh=false then QV t 1 f u m else if(kind=8\/kind=9\/kind=10)/\(QD t.r f u).right=false then QV t 2 f u m else m)=m1
 have h1:MkS n m1:=by
  rw[<-qF];split
  ·exact h.wrong t hp (by decide)
  ·split
   ·exact h.wrong t hp (by decide)
   ·exact h
 split
 ·exact h1.start t b kind hp
 ·split
  ·exact h1.end_ t b kind hp
  ·exact h1.lk t b kind f u
end
theorem Qgq{t:Txt}{b:List UInt8}(ok:TxtOk t b){f u:Int}(h0:0<=f)(h1:f<=u)(h2:u<=t.r.length):Plc t b.length f u:=by
 have hm:=ok.mono f.toNat u.toNat (by omega) (by omega)
 have jE:=ok.len;have hf:f.toNat<t.off.length:=by omega
 have hu:u.toNat<t.off.length:=by omega
 have h3:=ok.range (t.off[f.toNat]'hf) (getElem_mem hf);have h4:=ok.range (t.off[u.toNat]'hu) (getElem_mem hu);have e3:t.off[f.toNat]?.getD 0=t.off[f.toNat]:=by rw[getElem?_eq_getElem hf];rfl
 have e4:t.off[u.toNat]?.getD 0=t.off[u.toNat]:=by rw[getElem?_eq_getElem hu];rfl
 rw[<-e3]at h3;rw[<-e4]at h4;exact⟨h3.1,hm,h4.2⟩
theorem MkS.toks{t:Txt}{b:List UInt8}(ok:TxtOk t b):∀(n k:Nat)(m:Mk),t.r.length-k<=n->MkS b.length m->MkS b.length ((Q1S t.r k).foldl (Q7k t b) m)
 |0,k,m,h,hi=>by
  rw[Q1k (by omega)];exact hi
 |n+1,k,m,h,hi=>by
  by_cases jA:k<t.r.length
  ·obtain⟨h1,h2,h3,h4⟩:=Q9S t.r jA
   rw[Q1O jA,List.foldl_cons];have hp:Plc t b.length (Q1m t.r k).from_ (Q1m t.r k).to:=Qgq ok (by omega) (by omega) (by omega)
   exact MkS.toks ok n (Ql t.r k).2.1 _ (by omega) (hi.token t b _ _ hp)
  ·rw[Q1k jA];exact hi
theorem MkS.all{t:Txt}{b:List UInt8}(ok:TxtOk t b){m:Mk}(hi:MkS b.length m):MkS b.length (Q8R t b m) :=
 MkS.missGo t (Qgq ok (by omega) (Int.le_refl _) (Int.le_refl _)) 0 _ _ (MkS.toks ok t.r.length 0 m (by omega) hi)
theorem Qmf(b:List UInt8)(n:Nat):MkS n (Q3s b):=by
 have h0:MkS n mk0:=⟨(fun x hx=>by cases hx),fun x hx=>by cases hx⟩
 unfold Q3s;split
 ·exact(h0.add (Q9G _ _)).kid _
 ·exact h0
theorem Qdr(b:List UInt8):MkS b.length (Qu b):=MkS.all (Q3N b).1 (Qmf b _)
theorem Qeb(b:List UInt8):∀x∈(QL (Qu b)).n,Q4Q x:=Q7K (P:=Q4Q) (fun x hx=>((Qdr b).n x hx).imp_left And.left) (y:=Q1i _ 20 _) (.inl rfl)
section
open Tryz
def IsN(n:Nat)(i:Int):Prop:=i=n
theorem IsN.eq{n:Nat}{i:Int}(h:IsN n i):i=(n:Int):=h
def Cur.el(N:List AV)(c:Cur):List AV:=[.opt (.ref [.slc 6 N]),.val (.int .i64 c.n),.val (.int .i64 c.f),.val (.int .i64 c.k),.opt (upO N c)]
def CurAt(l:List Node)(b:List UInt8)(c:Cur):Prop:=∃pre post,b=pre++(pr l c.n++post)/\(pre.length:Int)=c.f
theorem CurAt.down{l:List Node}{b:List UInt8}{W C:Nat}{c:Cur}(ha:Ar l)(ho:∀x∈l,Q4Q x)(h:CurIn l W C c)(hb:CurAt l b c){k:Int}(h0:0<=k)(h1:k<(Qg l c).length):CurAt l b (Q34 l c k):=by
 obtain⟨pre,post,e1,e2⟩:=hb;have hk:k.toNat<(Qg l c).length:=by omega
 have hx:(Q34 l c k).n=(Qg l c)[k.toNat]:=by show(Qg l c)[k.toNat]?.getD 0=_;rw[getElem?_eq_getElem hk];rfl
 have jM:=h.kids ha
 have vu:(Qn l c.n).b=[]:=by
  have hm:Qn l c.n∈l:=by
   have jA:c.n.toNat<l.length:=by have:=h.h0;have:=h.h1;omega
   rw[Qn,if_pos ⟨h.h0,h.h1⟩,getElem?_eq_getElem jA];exact getElem_mem jA
  rcases ho _ hm with h2|h2
  ·exact h2
  ·have h2:Qg l c=[]:=h2
   rw[h2]at hk;exact absurd hk (by simp)
 have hp:pr l c.n=(Qg l c).flatMap (pr l):=by
  rw[Qh3 ha.wf h.h0 h.h1,vu];rfl
 have j9:Qg l c=(Qg l c).take k.toNat++((Qg l c)[k.toNat]::(Qg l c).drop (k.toNat+1)):=by
  rw[<-List.drop_eq_getElem_cons hk,List.take_append_drop]
 have gX:pr l c.n=((Qg l c).take k.toNat).flatMap (pr l)++(pr l (Qg l c)[k.toNat]++((Qg l c).drop (k.toNat+1)).flatMap (pr l)):=by
  rw[hp];conv=>lhs;rw[j9]
  rw[List.flatMap_append,List.flatMap_cons]
 refine⟨pre++((Qg l c).take k.toNat).flatMap (pr l),((Qg l c).drop (k.toNat+1)).flatMap (pr l)++post,?_,?_⟩
 ·rw[e1,gX,hx];simp only[List.append_assoc]
 ·show((pre++_).length:Int)=c.f+Q1Z l ((Qg l c).take k.toNat)
  rw[Q8u ha.wide (fun y hy=>jM y (List.mem_of_mem_take hy)),length_append]
  omega
def QuV(l:List Node)(b:List UInt8)(C:Nat)(c:Cur):Prop:=CurIn l b.length C c/\CurAt l b c
def Qq8(w:Int->Int):Nat->List AV->List Ob->Option (AV×List Ob):=fun f args _=>match f,args with
 |58,[.opt (.ref [.slc 6 _]),.val (.int .i64 n)]=>some (.val (.int .i64 (w n)),[])
 |_,_=>none
def spO:OT:=.then [0,2,4,5,6,7] (.fork (.then [1] (.fork (.of [3,8,9,10,11]) (.of [8,3,9,10,11]))) (.fork (.then [3] (.fork (.of [1,8,9,10,11]) (.of [8,9,1,10,11]))) (.then [8] (.fork (.of [1,3,9,10,11]) (.of [3,9,1,10,11])))))
theorem QsP(l:List Node)(c:Cur)(h:0<=c.f+Q1c l c.n/\c.f+Q1c l c.n<=9223372036854775807):BCall prog 23 [.agg (c.el (Q3 l))] [] (.agg [.val (.int .i64 c.f),.val (.int .i64 (c.f+Q1c l c.n))]) []:=by
 have cW:=(Qn0 l c.n).le (args:=[.opt (.ref [.slc 6 (Q3 l)]),.val (.int .i64 c.n)]) ⟨.inr (.inr (.inr rfl)),.inl rfl,trivial⟩;rw[Cur.el];obtain⟨cn,vl⟩:=exq c.n;obtain⟨cf,vm⟩:=exq c.f;obtain⟨ck,vq⟩:=exq c.k;rw[<-vl]at cW h ⊢;rw[<-vm]at h ⊢;rw[<-vq];refine fnO false (Qq8 (Q1c l)) (fun id=>match id with|1=> spO|_=>.nil) func23 rfl fun _ _=>?_
 with_reducible refine cv3 (upO (Q3 l) c) (Q1c l) (Q3 l) ?_
 have hI:std.inR .i64 (std.add cf (Q1c l cn)):=⟨by show(-9223372036854775808:Int)<=cf+Q1c l cn;omega,h.2⟩
 repeat' (with_reducible apply And.intro)
 all_goals first
  |exact cW
  |exact hI
  |exact .pure rfl ⟨.inl rfl,.inl rfl,trivial⟩
def QuO(pr:Int->List AV):Nat->List AV->List Ob->Option (AV×List Ob):=fun f args _=>match f,args with
 |59,[.opt (.ref [.slc 6 _]),.val (.int .i64 n)]=>some (.slc 1 (pr n),[])
 |_,_=>none
theorem QsR(l:List Node)(c:Cur)(h:PrOk l c.n):BCall prog 24 [.agg (c.el (Q3 l))] [] (.slc 1 (Q2 (pr l c.n))) []:=by
 have cP:=(Qm7 l h.len h.wf h.wide c.n h.h0 h.h1 h.p h.c).le (args:=[.opt (.ref [.slc 6 (Q3 l)]),.val (.int .i64 c.n)]) ⟨.inr (.inr (.inr rfl)),.inl rfl,trivial⟩;rw[Cur.el];obtain⟨cn,vl⟩:=exq c.n;obtain⟨cf,vm⟩:=exq c.f;obtain⟨ck,vq⟩:=exq c.k;rw[<-vl]at cP ⊢;rw[<-vm,<-vq];clear h;refine fnN (QuO (prA l)) func24 rfl fun _ _=>?_
 with_reducible refine cv3 (upO (Q3 l) c) (prA l) (Q3 l) ?_
 exact⟨cP,.pure rfl (.inl rfl)⟩
theorem Qmz(l:List Node)(c:Cur)(k:Int)(h0:0<=k)(h1:k<(Qg l c).length)(hw:∀n,0<=Q1c l n)(ok:CurOk l c) :
  BCall prog 56 [.agg (c.el (Q3 l)),.val (.int .i64 k)] [] (.tup [.agg ((Q34 l c k).el (Q3 l)),.val (.bool true)]) [] :=
 ((QnI l c k h0 h1 ok.n hw ok.s ok.f0 ok.f1).le (args:=[.agg (c.el (Q3 l)),.val (.int .i64 k)]) ⟨⟨.inr (.inr (.inr rfl)),.inl rfl,.inl rfl,.inl rfl,.inl rfl,trivial⟩,.inl rfl,trivial⟩).res (res':=.tup [.agg ((Q34 l c k).el (Q3 l)),.val (.bool true)]) ⟨⟨.inr (.inr (.inl ⟨rfl,trivial⟩)),.inl rfl,.inl rfl,.inl rfl,.inl rfl,trivial⟩,.inl rfl,trivial⟩
end
def shP(d:Int)(x:TPart):TPart:=⟨x.kind,x.from_+d,x.to+d⟩
theorem Q2f{r:List Int}(h:r≠[])(a:Int)(first:Bool):QB a first r=⟨(Qt r first).1,a,a+(Qt r first).2⟩::QB (a+(Qt r first).2) false (r.drop (Qt r first).2.toNat):=by
 conv=>lhs;rw[QB,dif_neg h]
theorem Q7J(d:Int):∀(n:Nat)(r:List Int)(a:Int)(first:Bool),r.length<=n->QB (a+d) first r=(QB a first r).map (shP d)
 |0,r,a,first,h=>by
  obtain rfl:r=[]:=List.eq_nil_of_length_eq_zero (by omega)
  rw[QB,dif_pos rfl,QB,dif_pos rfl];rfl
 |n+1,r,a,first,h=>by
  by_cases hr:r=[]
  ·rw[QB,dif_pos hr,QB,dif_pos hr];rfl
  ·have hn:=Q3n r first hr
   have ih:=Q7J d n (r.drop (Qt r first).2.toNat) (a+(Qt r first).2) false (by rw[length_drop];omega)
   rw[Q2f hr,Q2f hr,map_cons,<-ih,shP,show a+d+(Qt r first).2=a+(Qt r first).2+d by omega]
theorem Q8o(d:Int)(ps:List TPart)(a:Nat)(ks:List Int):QO (ps.map (shP d)) a ks=QO ps a ks:=by
 unfold QO;rw[<-List.map_drop,<-map_take,List.map_map];rfl
theorem Qa9(ps:List TPart):(Q1l ps).name=if QO ps 0 [1,2]=true then ps[1]?.getD Qm else Qm:=by
 unfold Q1l;split
 ·simp only
  split
  ·rfl
  ·rfl
 ·rfl
def Qhk(r:List Int):List Int:=Qs ⟨0,0,r,[]⟩ 0 r.length
theorem Qg4(t:Txt){f u:Int}(h0:0<=f)(h1:f<=u)(h2:u<=t.r.length):Qhk ((t.r.drop f.toNat).take (u-f).toNat)=Qs t f u:=by
 obtain⟨s,hs⟩:=exq ((t.r.drop f.toNat).take (u-f).toNat);have ze:(s.length:Int)=u-f:=by rw[hs,length_take,length_drop];omega
 have jT:(t.r.take u.toNat).drop f.toNat=s:=by rw[hs,List.drop_take];congr 1;omega
 have e1:QS s 0 s.length=QB 0 true s:=by
  unfold QS;rw[Int.toNat_natCast,List.take_length];rfl
 have e2:QS t.r f u=(QB 0 true s).map (shP f):=by
  unfold QS;rw[jT];have:=Q7J f s.length s 0 true (le_refl _)
  rw[Int.zero_add]at this;exact this
 rw[<-hs];unfold Qhk Qs QD;rw[e1,e2,Qa9,Qa9,Q8o];obtain⟨ps,jp⟩:=exq (QB 0 true s);rw[<-jp];split
 ·rename_i ht
  have hl:=((Q29 (zero_le _)).1 ht).1;have hl:2<=ps.length:=by simpa using hl
  have jM:∀x∈ps,_:=fun x hx=>Q48 s s.length s 0 true (le_refl _) x (by rw[<-jp];exact hx)
  rw[List.getElem?_map,getElem?_eq_getElem (show 1<ps.length by omega)]
  have hp:=jM ps[1] (getElem_mem _);show(s.drop ps[1].from_.toNat).take (ps[1].to-ps[1].from_).toNat=(t.r.drop (ps[1].from_+f).toNat).take ((ps[1].to+f)-(ps[1].from_+f)).toNat
  rw[hs,List.drop_take,List.drop_drop,List.take_take,show(ps[1].from_+f).toNat=f.toNat+ps[1].from_.toNat by omega,show min (ps[1].to-ps[1].from_).toNat ((u-f).toNat-ps[1].from_.toNat)=((ps[1].to+f)-(ps[1].from_+f)).toNat by omega]
 ·rfl
theorem QaM{r:Int}(h:Qp r=true):0<Qr r:=by
 have key:∀x∈startSp,0<=x.1/\x.2<=1114111/\(x.2<55296\/57343<x.1):=by decide
 obtain⟨x,hx,hr⟩:=List.any_eq_true.1 (show startSp.any (fun x=>decide (x.1<=r)&&decide (r<=x.2))=true from h)
 have hk:=key x hx;simp only[Bool.and_eq_true,decide_eq_true_eq]at hr;unfold Qr;repeat' split
 all_goals omega
theorem Qqd{l:List Node}{x:Node}{n:Int}(h0:0<=n)(h1:n<l.length):Q1f (l++[x]) n=Q1f l n:=by unfold Q1f;rw[Q43 h0 h1]
theorem Qfc{l:List Node}{x:Node}:Q1f (l++[x]) l.length=x.kind:=by unfold Q1f;rw[Q36]
def Qpk(nm:List Int):Prop:=∃r0 rs,nm=r0::rs/\Qp r0=true
theorem Qqa{s:List Opn}{x z:Opn}:z∈(s++[x]).drop 1↔z∈s.drop 1\/(s≠[]/\z=x):=by
 cases s<;>simp
section
variable {K:Int}{m:Mk}{X:List UInt8}{B D c:Nat}
theorem QmK{s0:List Opn}{y x:Opn}(jL:m.s=s0++[y]++[x])(kind:Int)(bs:List UInt8) :
  (Q22 m.n.length (Q20 (QI kind bs) m)).n=(m.n++[QI kind bs])++[Q1i (m.n++[QI kind bs]) 21 (x.kids++[(m.n.length:Int)])]/\(Q22 m.n.length (Q20 (QI kind bs) m)).s=s0++[⟨y.name,y.kids++[((m.n++[QI kind bs]).length:Int)]⟩]:=by
 have eT:QZ (Q3g (m.n.length:Int) (Q20 (QI kind bs) m)).s=⟨x.name,x.kids++[(m.n.length:Int)]⟩:=by
  show QZ (Q2k m.n.length m.s)=_;rw[jL,Q2D,Q8k]
 constructor
 ·show(m.n++[QI kind bs])++[Q1i (m.n++[QI kind bs]) 21 (QZ (Q3g (m.n.length:Int) (Q20 (QI kind bs) m)).s).kids]=_
  rw[eT]
 ·show Q2k ((m.n++[QI kind bs]).length:Int) ((Q2k m.n.length m.s).take ((Q2k m.n.length m.s).length-1))=_
  have e2:(Q2k m.n.length m.s).take ((Q2k m.n.length m.s).length-1)=s0++[y]:=by
   rw[jL,Q2D,show(s0++[y]++[(⟨x.name,x.kids++[(m.n.length:Int)]⟩:Opn)]).length-1=(s0++[y]).length by simp]
   exact List.take_left
  rw[e2,Q2D]
theorem QhW{s:List Opn}(hs:2<=s.length):∃s0 y,s=s0++[y]++[QZ s]:=by
 obtain⟨s1,jL⟩:=Q2r (s:=s) (by omega)
 have yi:1<=s1.length:=by rw[jL]at hs;simp at hs;omega
 obtain⟨s0,q8⟩:=Q2r yi;exact⟨s0,QZ s1,by rw[<-q8];exact jL⟩
def sz(m:Mk):Nat:=m.n.length+2 * m.s.length
end
section
variable {m:Mk}{X:List UInt8}{B D S:Nat}{b:List UInt8}{f u:Int}
end
theorem QhT(l:List Int)(k:Nat):(Q1n l k).1≠21:=by
 unfold Q1n;repeat' split
 all_goals (intro h;simp at h)
theorem Q7E(l:List Int)(kd k skip:Nat)(bs:List UInt8):(Q14 l kd k skip bs).1=kd:=by unfold Q14;split<;>rfl
theorem Qf9(l:List Int)(k:Nat):(Ql l k).1≠21:=by
 unfold Ql;split
 ·unfold Q1H
  split
  ·rw[Q7E];decide
  ·split
   ·rw[Q7E];decide
   ·split
    ·rw[Q7E];decide
    ·split
     ·exact(by decide:(7:Nat)≠21)
     ·split
      ·exact(by decide:(10:Nat)≠21)
      ·split
       ·unfold Q1D
        repeat' split
        all_goals (intro h;simp at h)
       ·exact(by decide:(11:Nat)≠21)
 ·split
  ·exact QhT l k
  ·split
   ·exact(by decide:(11:Nat)≠21)
   ·exact(by decide:(1:Nat)≠21)
section
open Tryz
theorem Qjr(l:List Int)(hl:l.length<=1000000)(f u:Int)(h0:0<=f)(h1:f<=u)(h2:u<=l.length)(jQ:Q3Q ((l.drop f.toNat).take (u-f).toNat)≠[]) :
  BCall prog 50 [.agg [.val (.int .i64 0),.val (.int .i64 0),.slc 1 (Q0 l),.val (.slice none 0 0)],.val (.int .i64 f),.val (.int .i64 u)] [] (.val (.string ⟨(Q3Q ((l.drop f.toNat).take (u-f).toNat)).toArray⟩)) []:=by
 obtain⟨i,rfl⟩:=Int.eq_ofNat_of_zero_le h0;obtain⟨j,rfl⟩:=Int.eq_ofNat_of_zero_le (Int.le_trans h0 h1);have e1:((i:Int).toNat)=i:=Int.toNat_natCast i;have e2:((j:Int)-(i:Int)).toNat=j-i:=by omega
 rw[e1,e2]at jQ ⊢;refine BCall.hand (enters_of func50 (by kernel_rfl) rfl) fun w g vs M hL=>?_
 obtain⟨v1,vs1,rfl,k1,hL⟩:=Q13 hL;obtain⟨v2,vs2,rfl,k2,hL⟩:=Q13 hL;obtain⟨v3,vs3,rfl,k3,hL⟩:=Q13 hL;obtain rfl:=Q2A hL;obtain rfl:=ARel.valEq (ob:=[]) k2;obtain rfl:=ARel.valEq (ob:=[]) k3;obtain⟨cs,rfl,hc⟩:=k1
 obtain⟨c0,c1,c2,c3,rfl⟩:∃c0 c1 c2 c3,cs=#[c0,c1,c2,c3]:=by
  rcases cs with ⟨l4⟩
  match l4,hc.1 with
  | [a,b,c,d],_=>exact⟨a,b,c,d,rfl⟩
 obtain rfl:=ARel.valEq (ob:=[]) (hc.2 0 c0 _ rfl rfl).1;obtain rfl:=ARel.valEq (ob:=[]) (hc.2 1 c1 _ rfl rfl).1;obtain rfl:=ARel.valEq (ob:=[]) (hc.2 3 c3 _ rfl rfl).1;obtain⟨A,c,rfl,hr⟩:=Q4j (hc.2 2 c2 _ rfl rfl).1 M;exact(Qe6 _ A _ c l i j w hr (by omega) (by omega) hl jQ).mono fun e w' ⟨h,hb⟩=>⟨_,h,hb,.val _ rfl⟩
theorem Qlm{nm:List Int}(h:Qpk nm):Q3Q nm≠[]:=by
 obtain⟨r0,rs,rfl,h0⟩:=h;have hw:=QaM h0;have hb:r0≠-1:=by rintro rfl;exact absurd hw (by decide)
 have e:Q3Q (r0::rs)=Q10 [r0]++Q3Q rs:=by
  show(if r0=-1 then []else Q10 [r0])++Q3Q rs=_
  rw[if_neg hb]
 have h1:(Q10 [r0]).length=Qr r0:=by
  have:Q10 [r0]=encodeRune r0:=by
   show Q2I r0++[]=_;rw[Q2I,if_neg (by omega),List.append_nil]
  rw[this,Q47 r0 hw]
 intro h2;have:=congrArg List.length h2
 rw[e,length_append,h1]at this;simp at this;omega
section
variable {w w':World}{A':Nat->Nat->Prop}
end
theorem Qkt(b:List UInt8)(s:ByteArray):BCall prog 140 [.slc 1 (Q2 b),.val (.string s)] [] (.val (.bool (s.data.toList.isPrefixOf b))) []:=by
 obtain⟨n,hn⟩:=QE b;have jE:std.len (Q2 b)=n:=by show((Q2 b).length:Int)=n;rw[Q11,hn.eq]
 obtain⟨z,hz⟩:∃z:Int,IsN s.size z:=⟨_,rfl⟩;have jh:std.szS s=z:=hz.eq.symm;refine fnN (cs0) func140 rfl fun _ _=>?_
 with_reducible refine cv1 (Q2 b) ?_
 have hzn:=hz.eq
 have key:std.cut (Q2 b) 0 z=Q2 (b.take s.size):=by
  show((Q2 b).drop (0:Int).toNat).take (z-0).toNat=_
  rw[hzn];simp[Q2,map_take]
 refine⟨fun h=>⟨?_,?_,.pure rfl (.inl ?_)⟩,fun h=>.pure rfl (.inl ?_)⟩
 ·have h:std.szS s<=std.len (Q2 b):=of_decide_eq_true h
  show 0<=(0:Int)/\0<=std.szS s/\std.szS s<=std.len (Q2 b);rw[jh]at h ⊢;omega
 ·show std.isB (std.cut (Q2 b) 0 (std.szS s))
  rw[jh,key];exact QaC _
 ·show AV.val (.bool (std.eqS (std.strB (std.cut (Q2 b) 0 (std.szS s))) s))=_
  rw[jh,key,Qgy];show AV.val (.bool ((⟨(b.take s.size).toArray⟩:ByteArray).toList == s.toList))=_;rw[ByteArray.toList_eq,ByteArray.toList_eq];congr 2
  have e:s.size=s.data.toList.length:=by simp
  rw[Bool.eq_iff_iff,beq_iff_eq,List.isPrefixOf_iff_prefix,List.prefix_iff_eq_take,e];exact⟨fun h=>h.symm,fun h=>h.symm⟩
 ·have h:¬std.szS s<=std.len (Q2 b):=of_decide_eq_false h
  rw[jh,jE]at h
  have hx:s.data.toList.isPrefixOf b=false:=by
   cases hp:s.data.toList.isPrefixOf b with
   |false=>rfl
   |true =>
    exfalso;have:=(List.isPrefixOf_iff_prefix.1 hp).length_le
    have e:s.size=s.data.toList.length:=by simp
    have:=hn.eq
    omega
  rw[hx]
def QpY(bg:ByteArray->Bool):Nat->List AV->List Ob->Option (AV×List Ob):=fun f args _=>match f,args with
 |140,[.slc 1 _,.val (.string s)]=>some (.val (.bool (bg s)),[])
 |_,_=>none
def bgA(b:List UInt8)(s:ByteArray):Bool:=s.data.toList.isPrefixOf b
theorem Qj1(b:List UInt8):BCall prog 91 [.slc 1 (Q2 b)] [] (.tup [.val (.int .i64 (QX b).1),.val (.int .i64 (QX b).2)]) []:=by
 have cB:=fun s=>Qkt b s
 have cB:∀s,BCall prog 140 [.slc 1 (Q2 b),.val (.string s)] [] (.val (.bool (bgA b s))) []:=cB;obtain⟨K,hK⟩:=exq (QX b);rw[<-hK];refine fnN (QpY (bgA b)) func91 rfl fun _ _=>?_
 with_reducible refine cv2 (bgA b) (Q2 b) ?_
 have e:K=if bgA b ⟨#[254,255]⟩=true then(1,2)else if bgA b ⟨#[255,254]⟩=true then(2,2)else if bgA b ⟨#[239,187,191]⟩=true then(0,3)else if bgA b ⟨#[0,60,0,63]⟩=true then(1,0)else if bgA b ⟨#[60,0,63,0]⟩=true then(2,0)else(0,0):=by
  rw[hK];unfold QX kR signsL bgA;simp only[List.drop_zero,List.find?];cases [254,255].isPrefixOf b<;>cases [255,254].isPrefixOf b<;>cases [239,187,191].isPrefixOf b<;>cases [0,60,0,63].isPrefixOf b<;>cases [60,0,63,0].isPrefixOf b<;>rfl
 rw[e];refine⟨cB _,fun h1=>?_,fun h1=>⟨cB _,fun h2=>?_,fun h2=>⟨cB _,fun h3=>?_,fun h3=>⟨cB _,fun h4=>?_,fun h4=>⟨cB _,fun h5=>?_,fun h5=>?_⟩⟩⟩⟩⟩
 all_goals
  simp only[*];exact .pure rfl ⟨.inl rfl,.inl rfl,trivial⟩
def QtG:List AV:=[.opt (.val (.pointer none)),.val (.int .i64 0),.val (.int .i64 0),.val (.int .i64 0),.opt (.val (.pointer none))]
theorem QtK(l:List Node)(c:Cur)(k:Int)(hk:¬(0<=k/\k<(Qg l c).length))(hn:(Qg l c).length<=1000000):BCall prog 56 [.agg (c.el (Q3 l)),.val (.int .i64 k)] [] (.tup [.agg QtG,.val (.bool false)]) [] :=
 ((QtS l c k hk hn).le (args:=[.agg (c.el (Q3 l)),.val (.int .i64 k)]) ⟨⟨.inr (.inr (.inr rfl)),.inl rfl,.inl rfl,.inl rfl,.inl rfl,trivial⟩,.inl rfl,trivial⟩).res (res':=.tup [.agg QtG,.val (.bool false)]) ⟨⟨.inr (.inr (.inl ⟨rfl,trivial⟩)),.inl rfl,.inl rfl,.inl rfl,.inr (.inr (.inl ⟨rfl,trivial⟩)),trivial⟩,.inl rfl,trivial⟩
def dOk(l:List Node)(c:Cur)(k:Int):Bool:=decide (0<=k/\k<(Qg l c).length)
def pE(l:List Node)(c:Cur)(k:Int):AV:=if dOk l c k=true then .ref [.slc 6 (Q3 l)]else .val (.pointer none)
def nE(l:List Node)(c:Cur)(k:Int):Int:=if dOk l c k=true then(Q34 l c k).n else 0
def fE(l:List Node)(c:Cur)(k:Int):Int:=if dOk l c k=true then(Q34 l c k).f else 0
def kE(l:List Node)(c:Cur)(k:Int):Int:=if dOk l c k=true then k else 0
def uE(l:List Node)(c:Cur)(k:Int):AV:=if dOk l c k=true then upO (Q3 l) (Q34 l c k)else .val (.pointer none)
def dE(l:List Node)(c:Cur)(k:Int):List AV:=[.opt (pE l c k),.val (.int .i64 (nE l c k)),.val (.int .i64 (fE l c k)),.val (.int .i64 (kE l c k)),.opt (uE l c k)]
theorem Qrx{l:List Node}{c:Cur}{k:Int}(h:dOk l c k=true):dE l c k=(Q34 l c k).el (Q3 l):=by
 unfold dE pE nE fE kE uE;rw[if_pos h,if_pos h,if_pos h,if_pos h,if_pos h];rfl
theorem Qum{l:List Node}{c:Cur}{k:Int}(h:dOk l c k=false):dE l c k=QtG:=by
 unfold dE pE nE fE kE uE;rw[h];rfl
theorem Qsl(l:List Node)(c:Cur)(k:Int)(hw:∀n,0<=Q1c l n)(ok:CurOk l c):BCall prog 56 [.agg (c.el (Q3 l)),.val (.int .i64 k)] [] (.tup [.agg (dE l c k),.val (.bool (dOk l c k))]) []:=by
 by_cases h:0<=k/\k<(Qg l c).length
 ·have ho:dOk l c k=true:=decide_eq_true h
  rw[Qrx ho,ho];exact Qmz l c k h.1 h.2 hw ok
 ·have ho:dOk l c k=false:=decide_eq_false h
  rw[Qum ho,ho];exact QtK l c k h ok.n
def Qus(q:AV)(n f k:Int)(u:AV)(ok:Bool):Nat->List AV->List Ob->Option (AV×List Ob):=fun g args _=>match g,args with
 |56,_=>some (.tup [.agg [.opt q,.val (.int .i64 n),.val (.int .i64 f),.val (.int .i64 k),.opt u],.val (.bool ok)],[])
 |116,_=>some (.tup [.agg [.opt q,.val (.int .i64 n),.val (.int .i64 f),.val (.int .i64 k),.opt u],.val (.bool ok)],[])
 |_,_=>none
theorem Qsr(l:List Node)(hw:∀n,0<=Q1c l n)(n f k d:Int)(u:Cur)(ok:CurOk l u)(hk:0<=k/\k<=1000000)(hd:-1000<=d/\d<=1000) :
  BCall prog 116 [.agg ((Cur.kid n f k u).el (Q3 l)),.val (.int .i64 d)] [] (.tup [.agg (dE l u (k+d)),.val (.bool (dOk l u (k+d)))]) []:=by
 have cD:=Qsl l u (k+d) hw ok;unfold dE at cD ⊢;simp only[Cur.el]at cD ⊢;show BCall _ _ [.agg [.opt (.ref [.slc 6 (Q3 l)]),.val (.int .i64 n),.val (.int .i64 f),.val (.int .i64 k),.opt (upO (Q3 l) (Cur.kid n f k u))],_] _ _ _;obtain⟨U,hU⟩:=exq (upO (Q3 l) (Cur.kid n f k u));have hU1:QgN U=u.cs (Q3 l):=by rw[hU];rfl
 have v6:Q56 U/\Q9k U=false:=by rw[hU];exact⟨trivial,rfl⟩
 rw[<-hU];refine fnN (Qus (pE l u (k+d)) (nE l u (k+d)) (fE l u (k+d)) (kE l u (k+d)) (uE l u (k+d)) (dOk l u (k+d))) func116 rfl fun _ _=>?_
 with_reducible refine cv7 (pE l u (k+d)) (nE l u (k+d)) (fE l u (k+d)) (kE l u (k+d)) (uE l u (k+d)) (dOk l u (k+d)) (Q3 l) ?_
 refine⟨fun h=>absurd (v6.2.symm.trans (show Q9k U=true from h)) (by decide),fun _=>?_⟩
 have nu:Q56 (.opt (upO (Q3 l) u)):=QcJ _ _;simp only[std,hU1,Cur.cs,List.getD_cons_zero,List.getD_cons_succ,intOf,Qma,Q3t];refine⟨v6,⟨trivial,trivial,trivial,trivial,nu,trivial⟩,?_,cD,.pure rfl ⟨⟨.inl rfl,.inl rfl,.inl rfl,.inl rfl,.inl rfl,trivial⟩,.inl rfl,trivial⟩⟩;show(-9223372036854775808:Int)<=k+d/\k+d<=(9223372036854775807:Int)
 omega
theorem QsZ(l:List Node)(hw:∀n,0<=Q1c l n)(n f k:Int)(u:Cur)(ok:CurOk l u)(hk:0<=k/\k<=1000000) :
  BCall prog 57 [.agg ((Cur.kid n f k u).el (Q3 l))] [] (.tup [.agg (dE l u (k+1)),.val (.bool (dOk l u (k+1)))]) []:=by
 have cB:=Qsr l hw n f k 1 u ok hk (by omega)
 unfold dE at cB ⊢;simp only[Cur.el]at cB ⊢;show BCall _ _ [.agg [.opt (.ref [.slc 6 (Q3 l)]),.val (.int .i64 n),.val (.int .i64 f),.val (.int .i64 k),.opt (upO (Q3 l) (Cur.kid n f k u))]] _ _ _;have cB:BCall prog 116 [.agg [.opt (.ref [.slc 6 (Q3 l)]),.val (.int .i64 n),.val (.int .i64 f),.val (.int .i64 k),.opt (upO (Q3 l) (Cur.kid n f k u))],.val (.int .i64 1)] [] (.tup [.agg [.opt (pE l u (k+1)),.val (.int .i64 (nE l u (k+1))),.val (.int .i64 (fE l u (k+1))),.val (.int .i64 (kE l u (k+1))),.opt (uE l u (k+1))],.val (.bool (dOk l u (k+1)))]) []:=cB;obtain⟨U,hU⟩:=exq (upO (Q3 l) (Cur.kid n f k u));rw[<-hU]at cB ⊢;clear hU;refine fnN (Qus (pE l u (k+1)) (nE l u (k+1)) (fE l u (k+1)) (kE l u (k+1)) (uE l u (k+1)) (dOk l u (k+1))) func57 rfl fun _ _=>?_
 with_reducible refine cv7 (pE l u (k+1)) (nE l u (k+1)) (fE l u (k+1)) (kE l u (k+1)) (uE l u (k+1)) (dOk l u (k+1)) (Q3 l) ?_
 exact⟨cB,.pure rfl ⟨⟨.inl rfl,.inl rfl,.inl rfl,.inl rfl,.inl rfl,trivial⟩,.inl rfl,trivial⟩⟩
theorem QuV.prOk{l:List Node}{b:List UInt8}{C:Nat}{c:Cur}(ha:Ar l)(hl:l.length<=1000000000)(hb:b.length<=1000000)(hC:C<=1000000)(h:QuV l b C c):PrOk l c.n:=by
 refine⟨hl,ha.wf,ha.wide,h.1.h0,h.1.h1,?_,by have:=h.1.co;omega⟩
 obtain⟨pre,post,e1,_⟩:=h.2;have:=congrArg List.length e1
 simp only[length_append]at this;omega
structure Ev where
 do_:Int
 kind:Int
 b:List UInt8
 deriving Inhabited,DecidableEq
def spF(l:List Node):Nat->Int->Bool->List Ev
 |0,_,_=>[]
 |f+1,n,top=>if(Qn l n).kind≠21/\top=false then [⟨2,(Qn l n).kind,pr l n⟩]
  else(if top=true then []else [⟨1,0,[]⟩])++(Qn l n).kids.flatMap (fun k=>spF l f k false)++(if top=true then []else [⟨3,0,[]⟩])
def spV(l:List Node)(n:Int)(top:Bool):List Ev:=spF l (n.toNat+1) n top
theorem QdO{l:List Node}(hw:Wf l):∀(f f':Nat)(n:Int)(top:Bool),0<=n->n<l.length->n.toNat<f->n.toNat<f'->spF l f n top=spF l f' n top
 |0,_,_,_,_,_,h,_=>by omega
 |_+1,0,_,_,_,_,_,h=>by omega
 |f+1,f'+1,n,top,h0,h1,h2,h3=>by
  simp only[spF]
  have:(Qn l n).kids.flatMap (fun k=>spF l f k false)=(Qn l n).kids.flatMap (fun k=>spF l f' k false):=by
   refine congrArg List.flatten (List.map_congr_left fun k hk=>?_)
   have:=hw n h0 h1 k hk
   exact QdO hw f f' k false this.1 (by omega) (by omega) (by omega)
  rw[this]
theorem Q8I{l:List Node}(hw:Wf l){n:Int}(h0:0<=n)(h1:n<l.length)(top:Bool):spV l n top=if(Qn l n).kind≠21/\top=false then [⟨2,(Qn l n).kind,pr l n⟩]
  else(if top=true then []else [⟨1,0,[]⟩])++(Qn l n).kids.flatMap (fun k=>spV l k false)++(if top=true then []else [⟨3,0,[]⟩]):=by
 show spF l (n.toNat+1) n top=_;simp only[spF]
 have:(Qn l n).kids.flatMap (fun k=>spF l n.toNat k false)=(Qn l n).kids.flatMap (fun k=>spV l k false):=by
  refine congrArg List.flatten (List.map_congr_left fun k hk=>?_)
  have:=hw n h0 h1 k hk
  exact QdO hw _ _ k false this.1 (by omega) (by omega) (by omega)
 rw[this]
def nxt(k:Int):Int:=k+1
def oP(N:List AV):Option Cur->AV
 |some _=>.ref [.slc 6 N]
 |none=>.val (.pointer none)
def oN:Option Cur->Int
 |some c=>c.n
 |none=>0
def oF:Option Cur->Int
 |some c=>c.f
 |none=>0
def oK:Option Cur->Int
 |some c=>c.k
 |none=>0
def oU(N:List AV):Option Cur->AV
 |some c=>upO N c
 |none=>.val (.pointer none)
def oC(N:List AV)(o:Option Cur):List AV:=[.opt (oP N o),.val (.int .i64 (oN o)),.val (.int .i64 (oF o)),.val (.int .i64 (oK o)),.opt (oU N o)]
def QqN(l:List Node)(n:Int):Bool:=Q1f l n == 21||Q1f l n == 9
def QqT(l:List Node):List Int->Int->Int->Option Int
 | [],_,_=>none
 |x::r,n,i=>if QqN l x=true then(if n=0 then some i else QqT l r (n-1) (i+1))else QqT l r n (i+1)
def QqQ(l:List Node)(c:Cur)(n:Int):Option Cur:=(QqT l (Qg l c) n 0).map (Q34 l c)
def QqO(l:List Node):Option Cur->List Int->Option Cur
 |o,[]=>o
 |none,_::_=>none
 |some c,n::r=>if n<0 then none else QqO l (QqQ l c n) r
def QuG(kd:Int->Int):Nat->List AV->List Ob->Option (AV×List Ob):=fun f args _=>match f,args with
 |55,[.agg [_,.val (.int .i64 n),_,_,_]]=>some (.val (.int .i64 (kd n)),[])
 |_,_=>none
theorem Qrc(l:List Node)(c:Cur):BCall prog 55 [.agg (c.el (Q3 l))] [] (.val (.int .i64 (Q1f l c.n))) [] :=
 (Qm8 l c).le (args:=[.agg (c.el (Q3 l))]) ⟨⟨.inr (.inr (.inr rfl)),.inl rfl,.inl rfl,.inl rfl,.inl rfl,trivial⟩,trivial⟩
theorem Qrj(l:List Node)(c:Cur):BCall prog 60 [.agg (c.el (Q3 l))] [] (.val (.bool (QqN l c.n))) []:=by
 have cK:=Qrc l c;obtain⟨cn,vl⟩:=exq c.n;obtain⟨cf,vm⟩:=exq c.f;obtain⟨ck,vq⟩:=exq c.k;simp only[Cur.el]at cK ⊢;rw[<-vl,<-vm,<-vq]at cK ⊢;obtain⟨R,hR⟩:=exq (QqN l cn);rw[<-hR];have h1:(Q1f l cn == 21)=true->R=true:=fun h=>by rw[hR,QqN,h];rfl
 have h2:(Q1f l cn == 21)=false->R=(Q1f l cn == 9):=fun h=>by rw[hR,QqN,h];rfl
 clear hR;refine fnN (QuG (Q1f l)) func60 rfl fun _ _=>?_
 with_reducible refine cv3 (Q1f l) (upO (Q3 l) c) (Q3 l) ?_
 refine⟨cK,fun h=>?_,fun h=>⟨cK,?_⟩⟩
 ·rw[h1 h]
  exact .pure rfl (.inl rfl)
 ·rw[h2 h]
  exact .pure rfl (.inl rfl)
theorem QsF{l:List Node}{ks:List Int}{k m:Int}(h0:0<=k)(h1:k<ks.length):QqT l (ks.drop k.toNat) m k=if QqN l (ks[k.toNat]?.getD 0)=true then(if m=0 then some k else QqT l (ks.drop (k+1).toNat) (m-1) (k+1))else QqT l (ks.drop (k+1).toNat) m (k+1):=by
 have hk:k.toNat<ks.length:=by omega
 rw[List.drop_eq_getElem_cons hk,QqT,getElem?_eq_getElem hk,show(k+1).toNat=k.toNat+1 by omega];rfl
theorem Qtg{l:List Node}{ks:List Int}{k m:Int}(h:ks.length<=k):QqT l (ks.drop k.toNat) m k=none:=by
 rw[List.drop_eq_nil_of_le (by omega)];rfl
theorem QuC{l:List Node}{c:Cur}{k:Int}(h:dOk l c k=true):oC (Q3 l) (some (Q34 l c k))=dE l c k:=by
 rw[Qrx h];rfl
def Qu9(el:Int->Bool)(p0:Int->AV)(n0 f0 k0:Int->Int)(u0:Int->AV)(ok:Int->Bool)(nx:Int->Int):Nat->List AV->List Ob->Option (AV×List Ob):=fun g args _=>match g,args with
 |60,[.agg [_,.val (.int .i64 n),_,_,_]]=>some (.val (.bool (el n)),[])
 |56,[.agg _,.val (.int .i64 k)]=>some (.tup [.agg [.opt (p0 k),.val (.int .i64 (n0 k)),.val (.int .i64 (f0 k)),.val (.int .i64 (k0 k)),.opt (u0 k)],.val (.bool (ok k))],[])
 |57,[.agg [_,_,_,.val (.int .i64 k),_]]=>some (.tup [.agg [.opt (p0 (nx k)),.val (.int .i64 (n0 (nx k))),.val (.int .i64 (f0 (nx k))),.val (.int .i64 (k0 (nx k))),.opt (u0 (nx k))],.val (.bool (ok (nx k)))],[])
 |_,_=>none
theorem Qty(l:List Node)(b:List UInt8)(C:Nat)(ha:Ar l)(hb:b.length<=1000000)(hC:C<=1000000)(c:Cur)(hc:QuV l b C c)(n:Int)(js:0<=n)(vI:n<=9223372036854775807) :
  BCall prog 47 [.agg (c.el (Q3 l)),.val (.int .i64 n)] [] (.tup [.agg (oC (Q3 l) (QqQ l c n)),.val (.bool (QqQ l c n).isSome)]) []:=by
 have jC:=hc.1.ok ha (by omega) hC
 have cD:=Qsl l c 0 ha.ok.w jC;obtain⟨z,hz⟩:=QE (Qg l c);have hz9:z<=1000000:=by rw[hz.eq];have:=jC.n;omega
 have jM:∀k:Int,0<=k->k<z->dOk l c k=true:=fun k h0 h1=>decide_eq_true ⟨h0,by rw[<-hz.eq];exact h1⟩
 have hout:∀k:Int,¬k<z->dOk l c k=false:=fun k h1=>decide_eq_false fun h=>h1 (by rw[hz.eq];exact h.2)
 have jc:∀k:Int,0<=k->k<z->BCall prog 60 [.agg (dE l c k)] [] (.val (.bool (QqN l (nE l c k)))) []:=fun k h0 h1=>by
  rw[Qrx (jM k h0 h1),nE,if_pos (jM k h0 h1)];exact Qrj l _
 have ka:∀k:Int,0<=k->k<z->BCall prog 57 [.agg (dE l c k)] [] (.tup [.agg (dE l c (nxt (kE l c k))),.val (.bool (dOk l c (nxt (kE l c k))))]) []:=fun k h0 h1=>by
  rw[Qrx (jM k h0 h1),kE,if_pos (jM k h0 h1)];exact QsZ l ha.ok.w _ _ k c jC ⟨h0,by omega⟩
 have hkE:∀k:Int,0<=k->k<z->nxt (kE l c k)=k+1:=fun k h0 h1=>by rw[kE,if_pos (jM k h0 h1)];rfl
 have hnE:∀k:Int,0<=k->k<z->nE l c k=(Qg l c)[k.toNat]?.getD 0:=fun k h0 h1=>by rw[nE,if_pos (jM k h0 h1)];rfl
 obtain⟨R,hR⟩:=exq (QqT l (Qg l c) n 0);have jI:QqQ l c n=R.map (Q34 l c):=by rw[hR];rfl
 rw[jI]
 have vW:∀k m:Int,0<=k->k<z->QqT l ((Qg l c).drop k.toNat) m k=if QqN l (nE l c k)=true then(if m=0 then some k else QqT l ((Qg l c).drop (k+1).toNat) (m-1) (k+1))else QqT l ((Qg l c).drop (k+1).toNat) m (k+1):=fun k m h0 h1=>by
  rw[hnE k h0 h1];exact QsF h0 (by rw[<-hz.eq];exact h1)
 have gb:∀m:Int,QqT l ((Qg l c).drop z.toNat) m z=none:=fun m=>Qtg (by rw[hz.eq];exact Int.le_refl _)
 have nG:QqT l ((Qg l c).drop (0:Int).toNat) n 0=R:=by rw[hR];rfl
 have j2:∀k:Int,0<=k->k<z->R=some k->oC (Q3 l) (R.map (Q34 l c))=dE l c k:=fun k h0 h1 h=>by rw[h];exact QuC (jM k h0 h1)
 have jm:0<=z:=by rw[hz.eq];omega
 obtain⟨nt,hnt⟩:=exq (fun k m=>QqT l ((Qg l c).drop k.toNat) m k:Int->Int->Option Int)
 have vW:∀k m:Int,0<=k->k<z->nt k m=if QqN l (nE l c k)=true then(if m=0 then some k else nt (k+1) (m-1))else nt (k+1) m:=fun k m h0 h1=>by rw[hnt];exact vW k m h0 h1
 have gb:∀m:Int,nt z m=none:=fun m=>by rw[hnt];exact gb m
 have nG:nt 0 n=R:=by rw[hnt];exact nG
 clear hR jI hnE;obtain⟨cn,vl⟩:=exq c.n;obtain⟨cf,vm⟩:=exq c.f;obtain⟨ck,vq⟩:=exq c.k;simp only[Cur.el,dE]at cD jc ka j2 ⊢;rw[<-vl,<-vm,<-vq]at cD ⊢;refine fnN (Qu9 (QqN l) (pE l c) (nE l c) (fE l c) (kE l c) (uE l c) (dOk l c) nxt) func47 rfl fun _ _=>?_
 with_reducible refine Qqc (upO (Q3 l) c) (QqN l) (pE l c) (nE l c) (fE l c) (kE l c) (uE l c) (dOk l c) nxt (Q3 l) ?_
 refine⟨cD,?_⟩;refine Q1h (Qu9 (QqN l) (pE l c) (nE l c) (fE l c) (kE l c) (uE l c) (dOk l c) nxt) (Int×Int) (fun x=>⟨[(1,.val (.int .i64 x.2)),(2,.box 0 0),(4,.box 1 0),(6,.box 2 0),(7,.val (.bool (dOk l c x.1)))],[.box [.opt (.ref [.slc 6 (Q3 l)]),.val (.int .i64 cn),.val (.int .i64 cf),.val (.int .i64 ck),.opt (upO (Q3 l) c)],.box QpK,.box [.opt (pE l c x.1),.val (.int .i64 (nE l c x.1)),.val (.int .i64 (fE l c x.1)),.val (.int .i64 (kE l c x.1)),.opt (uE l c x.1)]]⟩) (fun x=>0<=x.1/\x.1<=z/\n-x.1<=x.2/\x.2<=n/\nt x.1 x.2=R) (fun x=>(z-x.1).toNat) (0,n) ?_ ?_ ?_
 ·exact⟨Int.le_refl 0,jm,by show n-0<=n;omega,Int.le_refl n,nG⟩
 ·refine⟨[some 0,some 1,some 2],_,rfl,?_⟩
  exact eq0
 ·rintro⟨k,m⟩ ⟨qO,jU,qA,qF,hm⟩
  have qO:0<=k:=qO;have jU:k<=z:=jU;have qA:n-k<=m:=qA;have qF:m<=n:=qF;have hm:nt k m=R:=hm;with_reducible refine Qqc (upO (Q3 l) c) (QqN l) (pE l c) (nE l c) (fE l c) (kE l c) (uE l c) (dOk l c) nxt (Q3 l) ?_
  refine⟨fun h=>?_,fun h=>?_⟩
  ·have ji:k<z:=by
    by_cases h9:k<z
    ·exact h9
    ·rw[hout k h9]at h;exact absurd h (by decide)
   have yx:=hkE k qO ji;have cx:=ka k qO ji;rw[yx]at cx;rw[yx];have hd:=vW k m qO ji;rw[hm]at hd;refine⟨jc k qO ji,fun h2=>?_,fun h2=>?_⟩
   ·have h2:(!QqN l (nE l c k))=true:=h2
    rw[if_neg (by rw[Bool.not_eq_true']at h2;rw[h2];decide)]at hd
    refine⟨cx,(k+1,m),⟨by show 0<=k+1;omega,by show k+1<=z;omega,by show n-(k+1)<=m;omega,qF,hd.symm⟩,by show(z-(k+1)).toNat<(z-k).toNat;omega,[some 0,some 1,some 3],_,rfl,?_⟩
    exact eq0
   ·have h2:(!QqN l (nE l c k))=false:=h2
    rw[if_pos (by simpa using h2)]at hd
    refine⟨fun h3=>?_,fun h3=>?_⟩
    ·have h3:(m == 0)=true:=h3
     rw[if_pos (by simpa using h3)]at hd
     with_reducible refine Qqc (upO (Q3 l) c) (QqN l) (pE l c) (nE l c) (fE l c) (kE l c) (uE l c) (dOk l c) nxt (Q3 l) ?_
     have e9:=j2 k qO ji hd;rw[hd]at e9 ⊢;rw[e9];exact .pure rfl ⟨⟨.inl rfl,.inl rfl,.inl rfl,.inl rfl,.inl rfl,trivial⟩,.inl rfl,trivial⟩
    ·have h3:(m == 0)=false:=h3
     rw[if_neg (by simpa using h3)]at hd
     refine⟨?_,cx,(k+1,m-1),⟨by show 0<=k+1;omega,by show k+1<=z;omega,by show n-(k+1)<=m-1;omega,by show m-1<=n;omega,hd.symm⟩,by show(z-(k+1)).toNat<(z-k).toNat;omega,[some 0,some 1,some 3],_,rfl,?_⟩
     ·show std.inR .i64 (m-1)
      rw[Qhr];omega
     ·exact eq0
  ·have hkz:k=z:=by
    by_cases h9:k<z
    ·rw[jM k qO h9]at h;exact absurd h (by decide)
    ·omega
   have pF:R=none:=by rw[<-hm,hkz];exact gb m
   rw[if_pos trivial];with_reducible refine Qqc (upO (Q3 l) c) (QqN l) (pE l c) (nE l c) (fE l c) (kE l c) (uE l c) (dOk l c) nxt (Q3 l) ?_
   rw[pF];exact .pure rfl ⟨⟨.inr (.inr (.inl ⟨rfl,trivial⟩)),.inl rfl,.inl rfl,.inl rfl,.inr (.inr (.inl ⟨rfl,trivial⟩)),trivial⟩,.inl rfl,trivial⟩
theorem QqW{l:List Node}:∀(ks:List Int)(n i k:Int),QqT l ks n i=some k->i<=k/\k<i+ks.length/\QqN l (ks[(k-i).toNat]?.getD 0)=true
 | [],_,_,_,h=>by cases h
 |x::r,n,i,k,h=>by
  have up:∀m,QqT l r m (i+1)=some k->i<=k/\k<i+((x::r).length:Nat)/\QqN l ((x::r)[(k-i).toNat]?.getD 0)=true:=fun m h=>by
   obtain⟨h1,h2,h3⟩:=QqW r m (i+1) k h;refine⟨by omega,by rw[length_cons];omega,?_⟩
   rw[show(k-i).toNat=(k-(i+1)).toNat+1 by omega,List.getElem?_cons_succ];exact h3
  rw[QqT]at h;split at h
  ·rename_i he
   split at h
   ·obtain rfl:i=k:=by simpa using h
    exact⟨Int.le_refl _,by rw[length_cons];omega,by rw[Int.sub_self];exact he⟩
   ·exact up _ h
  ·exact up _ h
theorem Qry{l:List Node}{b:List UInt8}{C:Nat}(ha:Ar l)(ho:∀x∈l,Q4Q x){c c':Cur}(hc:QuV l b C c){n:Int}(h:QqQ l c n=some c'):QuV l b C c':=by
 unfold QqQ at h;obtain⟨k,h1,rfl⟩:=Option.map_eq_some_iff.1 h;obtain⟨h2,h3,_⟩:=QqW _ _ _ _ h1;have h0:0<=k:=h2;have h3:k<(Qg l c).length:=by omega
 exact⟨hc.1.down ha h0 h3,hc.2.down ha ho hc.1 h0 h3⟩
def Quf(N:List AV)(rt:Int)(q:AV)(n f k:Int)(u:AV)(ok:Bool):Nat->List AV->List Ob->Option (AV×List Ob):=fun g args _=>match g,args with
 |29,[.agg _]=>some (.agg [.ref [.slc 6 N],.val (.int .i64 rt),.val (.int .i64 0),.val (.int .i64 0),.opt (.val (.pointer none))],[])
 |47,[.agg _,.val (.int .i64 _)]=>some (.tup [.agg [.opt q,.val (.int .i64 n),.val (.int .i64 f),.val (.int .i64 k),.opt u],.val (.bool ok)],[])
 |_,_=>none
def nxO(l:List Node)(ls:List Int)(x:Int×Option Cur):Option Cur:=match x.2 with
 |some c=>QqQ l c (ls[x.1.toNat]?.getD 0)
 |none=>none
def QrX(l:List Node)(o:Option Cur):AV:=oP (Q3 l) o
def QrW(l:List Node)(o:Option Cur):AV:=oU (Q3 l) o
def okO(o:Option Cur):Bool:=o.isSome
theorem QsB(t:Txt)(m:Mk)(l:List Node)(hl:(QL m).n=l)(b:List UInt8)(C:Nat)(ha:Ar l)(ho:∀x∈l,Q4Q x)(hb:b.length<=1000000)(hC:C<=1000000)(hc:QuV l b C (.root m.n.length))(ls:List Int)(vk:ls.length<=1000000)(qc:∀x∈ls,x<=9223372036854775807) :
  BCall prog 15 [Q8c t m,.slc 1 (Q9 ls)] [] (.tup [.agg (oC (Q3 l) (QqO l (QqQ l (.root m.n.length) 0) ls)),.val (.bool (QqO l (QqQ l (.root m.n.length) 0) ls).isSome)]) []:=by
 have cC:=Qir t m;simp only[Cur.cs,Cur.n,Cur.f,Cur.k,upO]at cC;have cS0:=Qty l b C ha hb hC (.root m.n.length) hc 0 (Int.le_refl 0) (by omega)
 obtain⟨o0,ho0⟩:=exq (QqQ l (.root m.n.length) 0);obtain⟨R,hR⟩:=exq (QqO l o0 ls);have hin0:∀c,o0=some c->QuV l b C c:=fun c h=>Qry ha ho hc (by rw[<-ho0];exact h)
 obtain⟨rt,yI⟩:=exq (m.n.length:Int);have cS0:=cS0.le (args:=[.agg ((Cur.root m.n.length).cs (Q3 l)),.val (.int .i64 0)]) ⟨⟨.inr (.inr (.inl ⟨rfl,trivial⟩)),.inl rfl,.inl rfl,.inl rfl,.inl rfl,trivial⟩,.inl rfl,trivial⟩;rw[<-ho0]at cS0 ⊢;rw[<-hR];rw[<-yI]at cS0
 have j8:∀(j:Int)(c:Cur)(x:Int),0<=j->j<ls.length->QuV l b C c->x=ls[j.toNat]?.getD 0->0<=x->BCall prog 47 [.agg (c.el (Q3 l)),.val (.int .i64 x)] [] (.tup [.agg (oC (Q3 l) (nxO l ls (j,some c))),.val (.bool (okO (nxO l ls (j,some c))))]) []:=fun j c x h0 h1 h2 h3 h4=>by
  subst h3
  exact Qty l b C ha hb hC c h2 _ h4 (qc _ (by
   have:j.toNat<ls.length:=by omega
   rw[getElem?_eq_getElem this];exact getElem_mem this))
 have zu:∀(j:Int)(c:Cur),0<=j->j<ls.length->QqO l (some c) (ls.drop j.toNat)=if ls[j.toNat]?.getD 0<0 then none else QqO l (nxO l ls (j,some c)) (ls.drop (j+1).toNat):=fun j c h0 h1=>by
  have hk:j.toNat<ls.length:=by omega
  rw[List.drop_eq_getElem_cons hk,QqO,show(j+1).toNat=j.toNat+1 by omega]
  simp only[nxO,getElem?_eq_getElem hk];rfl
 have gc:∀(j:Int),0<=j->j<ls.length->QqO l none (ls.drop j.toNat)=none:=fun j h0 h1=>by
  have hk:j.toNat<ls.length:=by omega
  rw[List.drop_eq_getElem_cons hk,QqO]
 have nH:∀(j:Int)(c:Cur),QuV l b C c->∀c',nxO l ls (j,some c)=some c'->QuV l b C c':=fun j c h c' h2=>Qry ha ho h h2
 obtain⟨n,hn⟩:=QE ls;have jE:std.len (Q9 ls)=n:=by show((Q9 ls).length:Int)=n;rw[Q2w,hn.eq]
 have js:0<=n:=by rw[hn.eq];omega
 have qD:n<=1000000:=by rw[hn.eq];omega
 have jV:∀j:Int,0<=j->j<n->std.nth (std.cel (std.at_ (Q9 ls) j)) 0=.val (.int .i64 (ls[j.toNat]?.getD 0)):=fun j h0 h1=>QdH h0 (by rw[<-hn.eq];exact h1)
 have j8:∀(j:Int)(c:Cur)(x:Int),0<=j->j<n->QuV l b C c->x=ls[j.toNat]?.getD 0->0<=x->BCall prog 47 [.agg (c.el (Q3 l)),.val (.int .i64 x)] [] (.tup [.agg (oC (Q3 l) (nxO l ls (j,some c))),.val (.bool (okO (nxO l ls (j,some c))))]) []:=fun j c x h0 h1=>j8 j c x h0 (by rw[<-hn.eq];exact h1)
 have zu:∀(j:Int)(c:Cur),0<=j->j<n->QqO l (some c) (ls.drop j.toNat)=if ls[j.toNat]?.getD 0<0 then none else QqO l (nxO l ls (j,some c)) (ls.drop (j+1).toNat):=fun j c h0 h1=>zu j c h0 (by rw[<-hn.eq];exact h1)
 have gc:∀(j:Int),0<=j->j<n->QqO l none (ls.drop j.toNat)=none:=fun j h0 h1=>gc j h0 (by rw[<-hn.eq];exact h1)
 have qR:∀o:Option Cur,QqO l o (ls.drop n.toNat)=o:=fun o=>by
  rw[List.drop_eq_nil_of_le (by rw[hn.eq];omega)]
  cases o<;>rfl
 obtain⟨nx,jH⟩:=exq (nxO l ls);rw[<-jH]at j8 zu nH;obtain⟨E,hE⟩:=exq (fun j o=>QqO l o (ls.drop j.toNat):Int->Option Cur->Option Cur)
 have zu:∀(j:Int)(c:Cur),0<=j->j<n->E j (some c)=if ls[j.toNat]?.getD 0<0 then none else E (j+1) (nx (j,some c)):=fun j c h0 h1=>by rw[hE];exact zu j c h0 h1
 have gc:∀(j:Int),0<=j->j<n->E j none=none:=fun j h0 h1=>by rw[hE];exact gc j h0 h1
 have qR:∀o,E n o=o:=fun o=>by rw[hE];exact qR o
 have nG:E 0 o0=R:=by rw[hE,hR];rfl
 clear hR hE jH qc;unfold Q8c at cC ⊢;rw[<-yI,hl]at cC ⊢;clear hl yI;simp only[oC,Cur.cs,Cur.n,Cur.f,Cur.k,upO]at cC cS0 ⊢;have cS0:BCall prog 47 [.agg [.ref [.slc 6 (Q3 l)],.val (.int .i64 rt),.val (.int .i64 0),.val (.int .i64 0),.opt (.val (.pointer none))],.val (.int .i64 0)] [] (.tup [.agg [.opt (QrX l o0),.val (.int .i64 (oN o0)),.val (.int .i64 (oF o0)),.val (.int .i64 (oK o0)),.opt (QrW l o0)],.val (.bool (okO o0))]) []:=cS0;refine fnN (Quf (Q3 l) rt (QrX l o0) (oN o0) (oF o0) (oK o0) (QrW l o0) (okO o0)) func15 rfl fun _ _=>?_
 generalize hK:t.kind=K;generalize hM:t.bom=M;generalize hI:Q9 ls=I;with_reducible refine Qqc (QrX l o0) (oN o0) (oF o0) (oK o0) (QrW l o0) (okO o0) (Q3 l) (Q0 t.r) (Q9 t.off) (Qk m.d) ?_
 subst hK hM hI;refine⟨cC,cS0,?_⟩;refine Q46 (cs:=(fun x:Int×Option Cur=>Quf (Q3 l) rt (QrX l (nx x)) (oN (nx x)) (oF (nx x)) (oK (nx x)) (QrW l (nx x)) (okO (nx x)))) (ord:=fun _=>.nil) Q6k (by kernel_rfl) (by kernel_rfl) (by kernel_rfl) (X:=Int×Option Cur) (fun x=>⟨[(4,.box 1 0),(6,.box 2 0),(7,.val (.bool (okO x.2))),(16,.slc 1 (Q9 ls)),(17,.val (.int .i64 n)),(18,.val (.int .i64 x.1))],[.box [.val (.int .i64 t.kind),.val (.int .i64 t.bom),.slc 1 (Q0 t.r),.slc 1 (Q9 t.off),.ref [.slc 6 (Q3 l)],.val (.int .i64 rt),.slc 3 (Qk m.d)],.box QpK,.box [.opt (QrX l x.2),.val (.int .i64 (oN x.2)),.val (.int .i64 (oF x.2)),.val (.int .i64 (oK x.2)),.opt (QrW l x.2)]]⟩) (fun x=>0<=x.1/\x.1<=n/\E x.1 x.2=R/\∀c,x.2=some c->QuV l b C c) (fun x=>(n-x.1).toNat) (0,o0) ?_ ?_ ?_
 ·exact⟨Int.le_refl 0,js,nG,hin0⟩
 ·refine⟨[some 0,some 1,some 2],_,rfl,?_⟩
  exact eq1 jE
 ·rintro⟨j,o⟩ ⟨yH,yB,hj,hcj⟩
  have yH:0<=j:=yH;have yB:j<=n:=yB;have hj:E j o=R:=hj;have hcj:∀c,o=some c->QuV l b C c:=hcj;obtain⟨o1,yu⟩:=exq (nx (j,o));rw[<-yu];generalize p7:QrW l o=u0;generalize hok0:okO o=ok0;generalize hN:Q3 l=N;generalize hR:Q0 t.r=R;generalize hO:Q9 t.off=O;generalize zU:Qk m.d=D';generalize hK:t.kind=K;generalize hM:t.bom=M;generalize hI:Q9 ls=I;with_reducible refine Qqc (QrX l o1) (oN o1) (oF o1) (oK o1) (QrW l o1) (okO o1) (QrX l o) (oN o) (oF o) (oK o) ?_
  subst p7 hok0 hN hR hO zU hK hM hI;refine⟨fun h=>?_,fun h=>?_⟩
  ·have k8:j<n:=of_decide_eq_true h
   have hx:=jV j yH k8;have hxi:=Ql3 hx;refine⟨⟨yH,by show j<std.len (Q9 ls);rw[jE];exact k8⟩,⟨QmM hx,trivial⟩,fun h2=>?_,fun h2=>?_⟩
   ·have h2:(!okO o)=true:=h2
    have pe:o=none:=by cases o with
     |none=>rfl
     |some c=>simp[okO]at h2
    have pF:R=none:=by rw[<-hj,pe];exact gc j yH k8
    rw[pF];generalize hK:t.kind=K;generalize hM:t.bom=M;generalize hI:Q9 ls=I;with_reducible refine Qqc (QrX l o) (oN o) (oF o) (oK o) (QrW l o) (okO o) (Q3 l) (Q0 t.r) (Q9 t.off) (Qk m.d) ?_
    subst hK hM hI;exact .pure rfl ⟨⟨.inr (.inr (.inl ⟨rfl,trivial⟩)),.inl rfl,.inl rfl,.inl rfl,.inr (.inr (.inl ⟨rfl,trivial⟩)),trivial⟩,.inl rfl,trivial⟩
   ·have h2:(!okO o)=false:=h2
    obtain⟨c,pM⟩:∃c,o=some c:=by cases o with
     |none=>simp[okO]at h2
     |some c=>exact⟨c,rfl⟩
    have hr:=zu j c yH k8;rw[<-pM,hj]at hr;refine⟨fun h3=>?_,fun h3=>?_⟩
    ·have h3:std.int (std.nth (std.cel (std.at_ (Q9 ls) j)) 0)<0:=of_decide_eq_true h3
     rw[hxi]at h3;rw[if_pos h3]at hr;rw[hr];generalize hK:t.kind=K;generalize hM:t.bom=M;generalize hI:Q9 ls=I;with_reducible refine Qqc (QrX l o) (oN o) (oF o) (oK o) (QrW l o) (okO o) (Q3 l) (Q0 t.r) (Q9 t.off) (Qk m.d) ?_
     subst hK hM hI;exact .pure rfl ⟨⟨.inr (.inr (.inl ⟨rfl,trivial⟩)),.inl rfl,.inl rfl,.inl rfl,.inr (.inr (.inl ⟨rfl,trivial⟩)),trivial⟩,.inl rfl,trivial⟩
    ·have h3:¬std.int (std.nth (std.cel (std.at_ (Q9 ls) j)) 0)<0:=of_decide_eq_false h3
     rw[hxi]at h3;rw[if_neg h3,<-yu]at hr;have cs:=j8 j c _ yH k8 (hcj c pM) rfl (Int.not_lt.1 h3);rw[<-pM,<-yu,<-hxi]at cs;refine⟨?_,?_,(j+1,o1),⟨by show 0<=j+1;omega,by show j+1<=n;omega,hr.symm,fun c' h9=>?_⟩,by show(n-(j+1)).toNat<(n-j).toNat;omega,[some 0,some 1,some 2],_,rfl,?_⟩
     ·rw[pM];exact cs
     ·show std.inR .i64 (j+1)
      rw[Qhr];omega
     ·have h9:o1=some c':=h9
      exact nH j c (hcj c pM) c' (by rw[<-pM,<-yu];exact h9)
     ·exact eq0
  ·have k8:j=n:=by
    have h:¬j<n:=of_decide_eq_false h;omega
   have hRo:R=o:=by rw[<-hj,k8];exact qR o
   rw[hRo,if_pos trivial];generalize hK:t.kind=K;generalize hM:t.bom=M;generalize hI:Q9 ls=I;with_reducible refine Qqc (QrX l o) (oN o) (oF o) (oK o) (QrW l o) (okO o) (Q3 l) (Q0 t.r) (Q9 t.off) (Qk m.d) ?_
   subst hK hM hI;exact .pure rfl ⟨⟨.inl rfl,.inl rfl,.inl rfl,.inl rfl,.inl rfl,trivial⟩,.inl rfl,trivial⟩
noncomputable def aw22_tab:List (Nat×FnI):=[
 (20,⟨f20,f20.body.getD .skip,fun _=>.nil⟩),
 (16,⟨f16,f16.body.getD .skip,fun id=>match id with|7=>.of [0,1,2,3,7,4,5,6]|17=>.th [0,1,2,3,4,5,6,7,8,9,10,11,12,13,14,15,16,17,18,19,20,26,27,28,29] (.fork (.th [21,22,23] (.fork (.th [24,25] (.fork (.th [30,31,32] (.fork (.of [33,34,35,36,37,38]) (.of [36,33,34,35,37,38]))) (.of [36,30,31,32,33,34,35,37,38]))) (.fork (.th [30,31,32] (.fork (.th [24,25] (.fork (.of [33,34,35,36,37,38]) (.of [36,33,34,35,37,38]))) (.fork (.th [33,34] (.fork (.of [24,25,35,36,37,38]) (.of [36,24,25,35,37,38]))) (.of [36,24,25,33,34,35,37,38])))) (.of [36,24,25,30,31,32,33,34,35,37,38])))) (.fork (.th [30,31,32] (.fork (.th [21,22,23] (.fork (.th [24,25] (.fork (.of [33,34,35,36,37,38]) (.of [36,33,34,35,37,38]))) (.fork (.th [33,34] (.fork (.of [24,25,35,36,37,38]) (.of [36,24,25,35,37,38]))) (.of [36,24,25,33,34,35,37,38])))) (.fork (.th [33,34] (.fork (.th [21,22,23] (.fork (.of [24,25,35,36,37,38]) (.of [36,24,25,35,37,38]))) (.of [36,21,22,23,24,25,35,37,38]))) (.of [36,21,22,23,24,25,33,34,35,37,38])))) (.of [36,21,22,23,24,25,30,31,32,33,34,35,37,38])))|_=>.nil⟩),
 (21,⟨f21,f21.body.getD .skip,fun _=>.nil⟩),
 (55,⟨f55,f55.body.getD .skip,fun _=>.nil⟩),
 (115,⟨f115,f115.body.getD .skip,fun _=>.nil⟩),
 (117,⟨f117,f117.body.getD .skip,fun _=>.nil⟩),
 (118,⟨f118,f118.body.getD .skip,fun _=>.nil⟩),
 (23,⟨f23,f23.body.getD .skip,fun id=>match id with|1=>.th [0,2,4,5,6,7] (.fork (.th [1] (.fork (.of [3,8,9,10,11]) (.of [8,3,9,10,11]))) (.fork (.th [3] (.fork (.of [1,8,9,10,11]) (.of [8,1,9,10,11]))) (.of [8,1,3,9,10,11])))|_=>.nil⟩),
 (58,⟨f58,f58.body.getD .skip,fun _=>.nil⟩),
 (24,⟨f24,f24.body.getD .skip,fun _=>.nil⟩),
 (59,⟨f59,f59.body.getD .skip,fun _=>.nil⟩),
 (54,⟨f54,f54.body.getD .skip,fun _=>.nil⟩),
 (113,⟨f113,f113.body.getD .skip,fun _=>.nil⟩),
 (114,⟨f114,f114.body.getD .skip,fun _=>.nil⟩)]
theorem Qsz:Qt3 aw22_tab:=by
 unfold aw22_tab;refine⟨⟨le_of_ble_eq_true rfl,func20,rfl,by kernel_rfl⟩,?_⟩
 refine⟨⟨le_of_ble_eq_true rfl,func16,rfl,by kernel_rfl⟩,?_⟩
 refine⟨⟨le_of_ble_eq_true rfl,func21,rfl,by kernel_rfl⟩,?_⟩
 refine⟨⟨le_of_ble_eq_true rfl,func55,rfl,by kernel_rfl⟩,?_⟩
 refine⟨⟨le_of_ble_eq_true rfl,func115,rfl,by kernel_rfl⟩,?_⟩
 refine⟨⟨le_of_ble_eq_true rfl,func117,rfl,by kernel_rfl⟩,?_⟩
 refine⟨⟨le_of_ble_eq_true rfl,func118,rfl,by kernel_rfl⟩,?_⟩
 refine⟨⟨le_of_ble_eq_true rfl,func23,rfl,by kernel_rfl⟩,?_⟩
 refine⟨⟨le_of_ble_eq_true rfl,func58,rfl,by kernel_rfl⟩,?_⟩
 refine⟨⟨le_of_ble_eq_true rfl,func24,rfl,by kernel_rfl⟩,?_⟩
 refine⟨⟨le_of_ble_eq_true rfl,func59,rfl,by kernel_rfl⟩,?_⟩
 refine⟨⟨le_of_ble_eq_true rfl,func54,rfl,by kernel_rfl⟩,?_⟩
 refine⟨⟨le_of_ble_eq_true rfl,func113,rfl,by kernel_rfl⟩,?_⟩
 refine⟨⟨le_of_ble_eq_true rfl,func114,rfl,by kernel_rfl⟩,?_⟩
 exact trivial
def QqR:List UInt8:=[60,97,62,60,98,47,62,60,99,32,100,61,39,101,39,47,62,60,47,97,62]
def QuP:List AV:=[.agg [.val (.int .i64 8),.val (.int .i64 3),.val (.int .i64 1),.val (.bool true),.slc 1 [.val (.int .u8 60),.val (.int .u8 97),.val (.int .u8 62)],.slc 1 []],.agg [.val (.int .i64 9),.val (.int .i64 4),.val (.int .i64 1),.val (.bool true),.slc 1 [.val (.int .u8 60),.val (.int .u8 98),.val (.int .u8 47),.val (.int .u8 62)],.slc 1 []],.agg [.val (.int .i64 9),.val (.int .i64 10),.val (.int .i64 1),.val (.bool true),.slc 1 [.val (.int .u8 60),.val (.int .u8 99),.val (.int .u8 32),.val (.int .u8 100),.val (.int .u8 61),.val (.int .u8 39),.val (.int .u8 101),.val (.int .u8 39),.val (.int .u8 47),.val (.int .u8 62)],.slc 1 []],.agg [.val (.int .i64 10),.val (.int .i64 4),.val (.int .i64 1),.val (.bool true),.slc 1 [.val (.int .u8 60),.val (.int .u8 47),.val (.int .u8 97),.val (.int .u8 62)],.slc 1 []],.agg [.val (.int .i64 21),.val (.int .i64 21),.val (.int .i64 5),.val (.bool false),.slc 1 [],.slc 1 [.val (.int .i64 0),.val (.int .i64 1),.val (.int .i64 2),.val (.int .i64 3)]],.agg [.val (.int .i64 20),.val (.int .i64 21),.val (.int .i64 6),.val (.bool false),.slc 1 [],.slc 1 [.val (.int .i64 4)]]]
def QrN:AV:=.agg [.val (.int .i64 0),.val (.int .i64 0),.slc 1 [.val (.int .i32 60),.val (.int .i32 97),.val (.int .i32 62),.val (.int .i32 60),.val (.int .i32 98),.val (.int .i32 47),.val (.int .i32 62),.val (.int .i32 60),.val (.int .i32 99),.val (.int .i32 32),.val (.int .i32 100),.val (.int .i32 61),.val (.int .i32 39),.val (.int .i32 101),.val (.int .i32 39),.val (.int .i32 47),.val (.int .i32 62),.val (.int .i32 60),.val (.int .i32 47),.val (.int .i32 97),.val (.int .i32 62)],.slc 1 [.val (.int .i64 0),.val (.int .i64 1),.val (.int .i64 2),.val (.int .i64 3),.val (.int .i64 4),.val (.int .i64 5),.val (.int .i64 6),.val (.int .i64 7),.val (.int .i64 8),.val (.int .i64 9),.val (.int .i64 10),.val (.int .i64 11),.val (.int .i64 12),.val (.int .i64 13),.val (.int .i64 14),.val (.int .i64 15),.val (.int .i64 16),.val (.int .i64 17),.val (.int .i64 18),.val (.int .i64 19),.val (.int .i64 20),.val (.int .i64 21)],.ref [.slc 6 QuP],.val (.int .i64 5),.slc 3 []]
theorem QsU:Q8c (Qb QqR) (Qu QqR)=QrN:=by cbv
theorem Qul:BCall prog 13 [.slc 1 (Q2 QqR)] [] QrN []:=by
 rw[<-QsU];exact Qn7 QqR (by decide)
def Qsj:AV:=.tup [.agg [.opt (.ref [.slc 6 QuP]),.val (.int .i64 2),.val (.int .i64 7),.val (.int .i64 2),.opt (.ref [.ref [.slc 6 QuP],.val (.int .i64 4),.val (.int .i64 0),.val (.int .i64 0),.opt (.ref [.ref [.slc 6 QuP],.val (.int .i64 5),.val (.int .i64 0),.val (.int .i64 0),.opt (.val (.pointer none))])])],.val (.bool true)]
theorem Qun:BCall prog 15 [QrN,.slc 1 (Q9 [1])] [] Qsj []:=by
 have hO:=Q8f QqR (by decide)
 have h:=QsB (Qb QqR) (Qu QqR) (QL (Qu QqR)).n rfl QqR 400000 hO.ar (Qeb QqR) (by decide) (by decide) ⟨hO.root,[],[],by show QqR=[]++(pr (QL (Qu QqR)).n (Qu QqR).n.length++[]);rw[hO.p];simp,rfl⟩ [1] (by decide) (by decide)
 have e2:AV.tup [.agg (oC (Q3 (QL (Qu QqR)).n) (QqO (QL (Qu QqR)).n (QqQ (QL (Qu QqR)).n (.root (Qu QqR).n.length) 0) [1])),.val (.bool (QqO (QL (Qu QqR)).n (QqQ (QL (Qu QqR)).n (.root (Qu QqR).n.length) 0) [1]).isSome)]=Qsj:=by cbv
 rw[e2,QsU]at h;exact h
def QuQ:AV:=.slc 3 [.agg [.val (.int .i32 60),.val (.int .i64 0),.val (.int .i64 1)],.agg [.val (.int .i32 99),.val (.int .i64 1),.val (.int .i64 1)],.agg [.val (.int .i32 32),.val (.int .i64 2),.val (.int .i64 1)],.agg [.val (.int .i32 100),.val (.int .i64 3),.val (.int .i64 1)],.agg [.val (.int .i32 61),.val (.int .i64 4),.val (.int .i64 1)],.agg [.val (.int .i32 39),.val (.int .i64 5),.val (.int .i64 1)],.agg [.val (.int .i32 101),.val (.int .i64 6),.val (.int .i64 1)],.agg [.val (.int .i32 39),.val (.int .i64 7),.val (.int .i64 1)],.agg [.val (.int .i32 47),.val (.int .i64 8),.val (.int .i64 1)],.agg [.val (.int .i32 62),.val (.int .i64 9),.val (.int .i64 1)]]
theorem Quw:BCall prog 48 [.val (.int .i64 0),.slc 1 (Q2 [60,99,32,100,61,39,101,39,47,62])] [] QuQ []:=by
 have e:AV.slc 3 (QP (Q4B 0 [60,99,32,100,61,39,101,39,47,62]))=QuQ:=by cbv
 rw[<-e];exact Qez _ _ (by decide)
def QuR:AV:=.agg [.val (.int .i64 2),.val (.int .i64 1),.val (.int .i64 2),.slc 9 [.agg [.val (.int .i64 2),.val (.int .i64 3),.val (.int .i64 4),.val (.int .i64 5),.val (.int .i64 5),.val (.int .i64 8),.val (.int .i64 7),.val (.int .i64 2),.val (.int .i64 8)]],.val (.bool true),.val (.bool true)]
theorem Quq:BCall prog 49 [.slc 1 (Q0 [60,99,32,100,61,39,101,39,47,62]),.val (.int .i64 0),.val (.int .i64 10)] [] QuR []:=by
 have e:AV.agg [.val (.int .i64 (QD [60,99,32,100,61,39,101,39,47,62] 0 10).name.kind),.val (.int .i64 (QD [60,99,32,100,61,39,101,39,47,62] 0 10).name.from_),.val (.int .i64 (QD [60,99,32,100,61,39,101,39,47,62] 0 10).name.to),.slc 9 (Qh (QD [60,99,32,100,61,39,101,39,47,62] 0 10).attrs),.val (.bool (QD [60,99,32,100,61,39,101,39,47,62] 0 10).right),.val (.bool (QD [60,99,32,100,61,39,101,39,47,62] 0 10).empty)]=QuR:=by cbv
 rw[<-e];exact QfE [60,99,32,100,61,39,101,39,47,62] (by decide) 0 10 (by decide) (by decide) (by decide)
theorem Qur:BCall prog 50 [.agg [.val (.int .i64 0),.val (.int .i64 0),.slc 1 (Q0 [60,99,32,100,61,39,101,39,47,62]),.val (.slice none 0 0)],.val (.int .i64 3),.val (.int .i64 4)] [] (.val (.string ⟨#[100]⟩)) []:=by
 have e:AV.val (.string ⟨(Q3Q ((([60,99,32,100,61,39,101,39,47,62]:List Int).drop (3:Int).toNat).take ((4:Int)-3).toNat)).toArray⟩)=.val (.string ⟨#[100]⟩):=by cbv
 rw[<-e];exact Qjr [60,99,32,100,61,39,101,39,47,62] (by decide) 3 4 (by decide) (by decide) (by decide) (by decide)
def QsK:List BE:=[
 ⟨13,[.slc 1 (Q2 QqR)],[],QrN,[]⟩,
 ⟨15,[QrN,.slc 1 (Q9 [1])],[],Qsj,[]⟩,
 ⟨48,[.val (.int .i64 0),.slc 1 (Q2 [60,99,32,100,61,39,101,39,47,62])],[],QuQ,[]⟩,
 ⟨49,[.slc 1 (Q0 [60,99,32,100,61,39,101,39,47,62]),.val (.int .i64 0),.val (.int .i64 10)],[],QuR,[]⟩,
 ⟨50,[.agg [.val (.int .i64 0),.val (.int .i64 0),.slc 1 (Q0 [60,99,32,100,61,39,101,39,47,62]),.val (.slice none 0 0)],.val (.int .i64 3),.val (.int .i64 4)],[],.val (.string ⟨#[100]⟩),[]⟩]
theorem Qtz:Qt2 QsK:=by
 unfold QsK;refine⟨⟨rfl,Qul⟩,?_⟩;refine⟨⟨rfl,Qun⟩,?_⟩;refine⟨⟨rfl,Quw⟩,?_⟩;refine⟨⟨rfl,Quq⟩,?_⟩;refine⟨⟨rfl,Qur⟩,?_⟩;exact trivial
theorem QtM:EqOk prog 42 [.int .i64,.int .i64]:=EqOk.plan Q6k (by kernel_rfl) (by kernel_rfl) (by kernel_rfl) (by kernel_rfl)
def QrJ(T:Nat)(sh:List Srt):Bool:=match T,sh with
 |42,[.int .i64,.int .i64]=>true
 |_,_=>false
theorem Qth:∀T sh,QrJ T sh=true->EqOk prog T sh:=fun T sh h=>by
 unfold QrJ at h;split at h
 ·exact QtM
 ·cases h
theorem Qte:BCall prog 20 [] [] (.val (.bool true)) [] :=
 QuN Qsz Qtz (ask:=QrJ) Qth (lf:=100) (n:=40) (by kernel_rfl)
