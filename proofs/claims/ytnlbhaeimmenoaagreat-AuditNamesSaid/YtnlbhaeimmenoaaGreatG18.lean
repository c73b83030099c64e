/- Lemmas, conditions told -/
import Derived.Test.YtnlbhaeimmenoaaGreatG17
set_option maxRecDepth 99999
set_option maxHeartbeats 0
set_option linter.unusedSimpArgs false
set_option linter.unusedVariables false
namespace Go.Proofs.YtnlbhaeimmenoaaGreat
open List(length_cons length_drop getElem?_map length_take map_take length_append length_singleton take_of_length_le map_cons sum_cons mem_cons getElem?_eq_getElem getElem_mem take_add_one mem_append take_append_drop take_length eq_nil_of_length_eq_zero take_take drop_take drop_drop)
open Nat(le_refl zero_le zero_add)
open Go.RowKit Go.Lib
section
open Tryz
def Qao(t:Txt)(b:List UInt8)(k f u:Int)(w:Bool)(N D S:List AV):List AV:=Q1 (Q1E t b k f u w (mkB N D S)).n
def QaV(t:Txt)(b:List UInt8)(k f u:Int)(w:Bool)(N D S:List AV):List AV:=Q11 (Q1E t b k f u w (mkB N D S)).d
def QaO(t:Txt)(b:List UInt8)(k f u:Int)(w:Bool)(N D S:List AV):List AV:=Qg (Q1E t b k f u w (mkB N D S)).s
theorem QnX(t:Txt)(b:List UInt8)(k f u:Int)(w:Bool)(m:Mk):Qao t b k f u w (Q1 m.n) (Q11 m.d) (Qg m.s)=Q1 (Q1E t b k f u w m).n:=by rw[Qao,Q2j]
theorem Qn3(t:Txt)(b:List UInt8)(k f u:Int)(w:Bool)(m:Mk):QaV t b k f u w (Q1 m.n) (Q11 m.d) (Qg m.s)=Q11 (Q1E t b k f u w m).d:=by rw[QaV,Q2j]
theorem QnO(t:Txt)(b:List UInt8)(k f u:Int)(w:Bool)(m:Mk):QaO t b k f u w (Q1 m.n) (Q11 m.d) (Qg m.s)=Qg (Q1E t b k f u w m).s:=by rw[QaO,Q2j]
def Qpk(p:Pr)(TK:List AV)(tn td ts:Int->Int->Int->Bool->List AV->List AV->List AV->List AV)(mn md ms:Int->List AV->List AV->List AV->List AV)(br:Int->List AV->List AV->List AV):Nat->List AV->List Ob->Option (AV×List Ob):=fun f args ob=>match f,args with
 |49,[.slc 1 _]=>some (.slc 4 TK,[])
 |50,[.box 0 0,.agg [.val (.int .i64 kind),.val (.int .i64 f),.val (.int .i64 u),.val (.bool wh)]]=>Q3S ob fun b k m r o rt N D S=>some (.tup [],obM 1 b k m r o rt (tn kind f u wh N D S) (td kind f u wh N D S) (ts kind f u wh N D S))
 |51,[.box 0 0,.val (.int .i64 a)]=>Q3S ob fun b k m r o rt N D S=>some (.tup [],obM 1 b k m r o rt (mn a N D S) (md a N D S) (ms a N D S))
 |52,[.box 0 0,.val (.int .i64 k),.slc 1 ks]=>match ob with
  | [.box [.row 1 0],.row 123 6 false 0 N]=>some (.tup [.val (.int .i64 (p.len N)),.val (.int .i64 0)],[.box [.row 1 1],.row 123 6 false 1 (br k ks N)])
  |_=>none
 |_,_=>none
def alO:OT:=.then [0,1,2,4,5,6,7,8,9,10,11,12,13,14,15,16,17] (.fork (.of [3,18,19,20,21,22,23,24]) (.of [18,19,20,21,3,22,23,24]))
theorem Qhg(l:List Int):∀n k:Nat,l.length-k<=n->(Q1L l k).length<=n
 |0,k,h=>by rw[Q1a (by omega)];exact le_refl _
 |n+1,k,h=>by
  by_cases hk:k<l.length
  ·have:=Q2a l k hk
   rw[Q1w hk,length_cons];have:=Qhg l n (Qd l k).2.1 (by omega)
   omega
  ·rw[Q1a hk];exact zero_le _
theorem QoX(t:Txt)(b:List UInt8)(hs:Sml t b)(rt:Int)(m:Mk)(B D:Nat)(iv:MkI m (Q67 t b 0) B D)(hB:B+3 * t.r.length<=600000)(hD:D+3 * t.r.length<=600000) :
  BCall prog 25 [.box 0 0] (obT 0 t b rt m) (.tup []) (obT 1 t b (Q8D t b m).n.length (Qs (Q8D t b m))):=by
 have cT:=Qe8 t.r hs.hr;obtain⟨toks,k6⟩:=exq (Q2E t.r);rw[<-k6]at cT
 have yU:toks.length<=1000000:=by
  have:=Qhg t.r t.r.length 0 (by omega)
  rw[k6];exact Nat.le_trans this hs.hr
 obtain⟨n,hn⟩:=QG toks;obtain⟨M0,pe⟩:=exq (toks.foldl (Q5U t b) m);obtain⟨M1,hM1⟩:=exq (Q8D t b m);have hM01:M1=missGo t t.r.length 0 M0.s.length M0:=by rw[hM1,pe,k6];rfl
 rw[<-hM1];obtain⟨E,hE⟩:=exq (Qs M1);unfold obT obM;refine fnO false (Qpk std (QS toks) (Qao t b) (QaV t b) (QaO t b) (Q5r t) (Q5y t) (Q5u t) brA) (fun id=>match id with|7=> alO|_=>.nil) func25 rfl fun _ _=>?_
 generalize hS:Qg m.s=S;generalize vN:Q4 b=B';generalize hR:Q0 t.r=R;generalize hO:Q9 t.off=O;generalize hK:t.kind=K;generalize hM:t.bom=M;with_reducible refine Q61 (QS toks) (Qao t b) (QaV t b) (QaO t b) (Q5r t) (Q5y t) (Q5u t) brA (Q1 m.n) (Q11 m.d) ?_
 subst hS vN hR hO hK hM;have tlen:=Q7L toks;have qf:std.len (QS toks)=n:=by show((QS toks).length:Int)=n;rw[tlen,hn.eq]
 refine⟨cT,?_⟩;refine Q1h (Qpk std (QS toks) (Qao t b) (QaV t b) (QaO t b) (Q5r t) (Q5y t) (Q5u t) brA) (Int×Mk×Nat) (fun x=>⟨[(0,.box 0 0),(12,.slc 4 (QS toks)),(13,.val (.int .i64 n)),(14,.val (.int .i64 x.1))],[.box [.slc 1 (Q4 b),.box 1 0,.row 5 1],.box [.val (.int .i64 t.kind),.val (.int .i64 t.bom),.slc 1 (Q0 t.r),.slc 1 (Q9 t.off),.box 2 0,.val (.int .i64 rt),.row 4 1],.box [.row 3 1],.row 123 6 false 1 (Q1 x.2.1.n),.row 113 3 false 1 (Q11 x.2.1.d),.row 69 2 false 1 (Qg x.2.1.s)]⟩) (fun x=>0<=x.1/\x.1<=n/\x.2.2<=t.r.length/\Q1L t.r x.2.2=toks.drop x.1.toNat/\MkI x.2.1 (Q67 t b x.2.2) (B+3 * x.2.2) (D+3 * x.2.2)/\(toks.drop x.1.toNat).foldl (Q5U t b) x.2.1=M0) (fun x=>(n-x.1).toNat) (0,m,0) ?_ ?_ ?_
 ·have:=hn.eq
  exact⟨Int.le_refl _,by simp only;omega,zero_le _,by rw[k6];rfl,iv,pe.symm⟩
 ·refine⟨[some 0,some 1,some 2,some 3,some 4,some 5],_,rfl,?_⟩
  exact eq1 qf
 ·rintro⟨i,x,k⟩ ⟨jN,qn,hk,hd,hv,hf⟩
  simp only at jN qn hk hd hv hf
  have okx:=hv.i.ok (by omega) (by omega)
  rcases Int.lt_or_eq_of_le qn with jB|j4
  ·have en:=hn.eq
   have j3:i.toNat<toks.length:=by omega
   have qN:k<t.r.length:=by
    by_cases h:k<t.r.length
    ·exact h
    ·rw[Q1a h]at hd
     have:=congrArg List.length hd
     rw[length_drop]at this;simp at this;omega
   obtain⟨t1,t2,t3,t4⟩:=Qb2 t.r qN;have yC:toks.drop i.toNat=Q13 t.r k::Q1L t.r (Qd t.r k).2.1:=by rw[<-hd,Q1w qN]
   have hxe:toks[i.toNat]?=some (Q13 t.r k):=by rw[<-List.head?_drop,yC];rfl
   have cM:Q1L t.r (Qd t.r k).2.1=toks.drop (i+1).toNat:=by
    rw[show(i+1).toNat=i.toNat+1 by omega,<-List.tail_drop,yC];rfl
   have jX:(QS toks).getD i.toNat .dead=(Q13 t.r k).av:=by
    rw[List.getD_eq_getElem?_getD,QS,getElem?_map,hxe];rfl
   have jS:InT t (Q13 t.r k).from_ (Q13 t.r k).to:=⟨by omega,by omega,by omega⟩
   have hXl:(Q67 t b k).length<=1000000:=by
    have:=hs.hb
    rw[Q67,length_take];omega
   have c:=QnW t b hs rt x (Q67 t b k) (B+3 * k) (D+3 * k) hv.i (by omega) (by omega) hXl (Q13 t.r k).kind (Q13 t.r k).from_ (Q13 t.r k).to (Q13 t.r k).whole jS
   have gc:MkI (Q5U t b x (Q13 t.r k)) (Q67 t b (Qd t.r k).2.1) (B+3 * (Qd t.r k).2.1) (D+3 * (Qd t.r k).2.1):=by
    have:=hv.token t b hs.hr (Q13 t.r k).kind (Q13 t.r k).from_ (Q13 t.r k).to (Q13 t.r k).whole
    rw[t1,t2,Q5X hs.ok (by omega) (by omega) (by omega)]at this
    have e:Q5U t b x (Q13 t.r k)=Q1E t b (Q13 t.r k).kind k ((Qd t.r k).2.1:Nat) (Q13 t.r k).whole x:=rfl;rw[e];exact⟨this.i.mono (by omega) (by omega),this.c⟩
   have q8:(toks.drop (i+1).toNat).foldl (Q5U t b) (Q5U t b x (Q13 t.r k))=M0:=by
    rw[yC,List.foldl_cons]at hf;rw[<-cM];exact hf
   obtain⟨y,hy⟩:=exq (Q13 t.r k);obtain⟨k2,j1⟩:=exq ((Qd t.r k).2.1);rw[<-hy]at jX jS c gc q8;rw[<-j1]at gc cM t4;clear en t1 t2 t3 yC hxe hd hf hy j1 qN;generalize hS:Qg x.s=S;generalize vN:Q4 b=B';generalize hR:Q0 t.r=R;generalize hO:Q9 t.off=O;generalize hK:t.kind=K;generalize hM:t.bom=M;with_reducible refine Q61 (QS toks) (Qao t b) (QaV t b) (QaO t b) (Q5r t) (Q5y t) (Q5u t) brA (Q1 x.n) (Q11 x.d) ?_
   subst hS vN hR hO hK hM;unfold obT obM at c;simp only[std,jX,Tok.av,AV.cells,List.getD_cons_zero,List.getD_cons_succ,RowKit.intOf,Q6a,Q3W,QnX,Qn3,QnO,decide_eq_true_eq,decide_eq_false_iff_not];refine⟨fun _=>⟨?_,⟨trivial,trivial,trivial,trivial,trivial⟩,c,?_,(i+1,Q5U t b x y,k2),⟨?_,?_,t4,cM,gc,q8⟩,?_,[some 0,some 1,some 2,some 3,some 4,some 5],_,rfl,?_⟩,fun h=>?_⟩
   ·have:=hn.eq
    rw[tlen];omega
   ·have:=hn.eq
    have:=hs.hr
    show(-9223372036854775808:Int)<=i+1/\i+1<=(9223372036854775807:Int)
    omega
   ·show 0<=i+1
    omega
   ·show i+1<=n
    omega
   ·show(n-(i+1)).toNat<(n-i).toNat
    omega
   ·simp[Qm,lk,Q5U]
   ·omega
  ·have hd0:toks.drop i.toNat=[]:=List.drop_eq_nil_of_le (by have:=hn.eq;omega)
   rw[hd0]at hd hf;have hxM:x=M0:=hf
   have pZ:k=t.r.length:=by
    by_cases h:k<t.r.length
    ·rw[Q1w h]at hd;cases hd
    ·omega
   subst hxM;rw[j4];clear hd hf hd0 hk;have hlr:(t.r.length:Int)=t.r.length:=rfl;obtain⟨rl,qB⟩:=QG t.r;generalize hS:Qg x.s=S;generalize vN:Q4 b=B';generalize hR:Q0 t.r=R;generalize hO:Q9 t.off=O;generalize hK:t.kind=K;generalize hM:t.bom=M;with_reducible refine Q61 (QS toks) (Qao t b) (QaV t b) (QaO t b) (Q5r t) (Q5y t) (Q5u t) brA (Q1 x.n) (Q11 x.d) ?_
   subst hS vN hR hO hK hM;refine⟨fun h=>?_,fun _=>?_⟩
   ·have h:n<n:=of_decide_eq_true h
    omega
   rw[if_pos trivial];generalize hS:Qg x.s=S;generalize vN:Q4 b=B';generalize hR:Q0 t.r=R;generalize hO:Q9 t.off=O;generalize hK:t.kind=K;generalize hM:t.bom=M;with_reducible refine Q61 (QS toks) (Qao t b) (QaV t b) (QaO t b) (Q5r t) (Q5y t) (Q5u t) brA (Q1 x.n) (Q11 x.d) ?_
   subst hS vN hR hO hK hM;rw[pZ,Qb5 hs.ok]at hv;have zS:MkI x b (B+3 * t.r.length) (D+3 * t.r.length):=hv;have hrl2:std.len (Q0 t.r)=rl:=by show((Q0 t.r).length:Int)=rl;rw[Qx,qB.eq]
   clear hv pZ hlr okx j4 jN qn;refine Q1h (Qpk std (QS toks) (Qao t b) (QaV t b) (QaO t b) (Q5r t) (Q5y t) (Q5u t) brA) (Mk) (fun x=>⟨[(0,.box 0 0)],[.box [.slc 1 (Q4 b),.box 1 0,.row 5 1],.box [.val (.int .i64 t.kind),.val (.int .i64 t.bom),.slc 1 (Q0 t.r),.slc 1 (Q9 t.off),.box 2 0,.val (.int .i64 rt),.row 4 1],.box [.row 3 1],.row 123 6 false 1 (Q1 x.n),.row 113 3 false 1 (Q11 x.d),.row 69 2 false 1 (Qg x.s)]⟩) (fun x=>MkI x b (B+3 * t.r.length) (D+3 * t.r.length)/\missGo t t.r.length 0 x.s.length x=M1) (fun x=>x.s.length) x ?_ ?_ ?_
   ·exact⟨zS,hM01.symm⟩
   ·exact⟨[some 0,some 1,some 2,some 3,some 4,some 5],_,rfl,by simp[Qm,lk,std]⟩
   ·rintro y ⟨hv,hg⟩
    have oky:=hv.i.ok (by omega) (by omega)
    have ylen:=Q3K y.s;obtain⟨LY,hLY⟩:=QG y.s;generalize hS:Qg y.s=S;generalize vN:Q4 b=B';generalize hR:Q0 t.r=R;generalize hO:Q9 t.off=O;generalize hK:t.kind=K;generalize hM:t.bom=M;with_reducible refine Q61 (QS toks) (Qao t b) (QaV t b) (QaO t b) (Q5r t) (Q5y t) (Q5u t) brA (Q1 y.n) (Q11 y.d) ?_
    subst hS vN hR hO hK hM;have hly:std.len (Qg y.s)=LY:=by show((Qg y.s).length:Int)=LY;rw[ylen,hLY.eq]
    simp only[Qh8,QgZ,QgT];refine⟨fun zM=>?_,fun jJ=>?_⟩
    ·have zM:1<std.len (Qg y.s):=of_decide_eq_true zM
     rw[hly]at zM;have pG:2<=y.s.length:=by have:=hLY.eq;omega
     have kI:=qB.eq;have jR:=hs.ok.len;have c:=Qkt t b rt hv.i (by omega) (by omega) hs.hb t.r.length (by omega) pG
     have erl:(t.r.length:Int)=std.len (Q0 t.r):=by rw[hrl2];exact kI.symm
     rw[erl]at c;refine⟨c,Q2n t (std.len (Q0 t.r)) y,⟨by rw[<-erl];exact hv.miss pG t t.r.length,?_⟩,by rw[Q8a];omega,[some 0,some 1,some 2,some 3,some 4,some 5],_,rfl,by simp[Qm,lk,std]⟩
     rw[<-erl,<-Q9m (by omega)];exact hg
    ·have jJ:¬1<std.len (Qg y.s):=of_decide_eq_false jJ
     rw[hly]at jJ;have hy1:y.s.length=1:=by have:=hLY.eq;have:=hv.i.s1;omega
     have hyM:y=M1:=by rw[<-hg,Q9Z (by omega)]
     subst hyM;clear jJ hly;rw[if_pos trivial];generalize hS:Qg y.s=S;generalize vN:Q4 b=B';generalize hR:Q0 t.r=R;generalize hO:Q9 t.off=O;generalize hK:t.kind=K;generalize hM:t.bom=M;with_reducible refine Q61 (QS toks) (Qao t b) (QaV t b) (QaO t b) (Q5r t) (Q5y t) (Q5u t) brA (Q1 y.n) (Q11 y.d) ?_
     subst hS vN hR hO hK hM;obtain⟨o,ho⟩:∃o,y.s=[o]:=List.length_eq_one_iff.1 hy1;have zN:QR y.s=o:=by rw[ho];rfl
     have hcell:std.nth (std.drp (std.cel (std.at_ (Qg y.s) 0)) 1) 0=slK (QR y.s).kids:=by rw[zN,ho];rfl
     have zO:std.lst (slK (QR y.s).kids)=Q9 (QR y.s).kids:=by cases(QR y.s).kids<;>rfl
     have cy:std.lst (std.nth (std.drp (std.cel (std.at_ (Qg y.s) 0)) 1) 0)=Q9 (QR y.s).kids:=by rw[hcell,zO]
     have ph:((QR y.s).kids.flatMap (pr y.n)).length<=b.length:=by
      have:=hv.i.p
      rw[zN,<-this,ho];simp[prK]
     have qN:(QR y.s).kids.length<=900000:=oky.top;have cB:=QeK y.n (by have:=oky.n;omega) 20 (QR y.s).kids (by omega) hv.i.top hv.i.ar.ok.w hv.i.ar.ok.c (MkInv.sum hv.i.ar hv.i.top ph (by have:=hs.hb;omega))
     rw[<-Qdf,<-Q1g,<-cy]at cB;have hnl2:=Q1g y.n
     have fin:brA 20 (std.lst (std.nth (std.drp (std.cel (std.at_ (Qg y.s) 0)) 1) 0)) (Q1 y.n)=Q1 (Qs y).n:=by
      rw[cy,Qdf];rfl
     have e0:std.len (Q1 y.n)=(y.n.length:Int):=by show((Q1 y.n).length:Int)=_;rw[hnl2]
     refine⟨?_,⟨?_,trivial⟩,⟨cB,?_⟩,cB,?_⟩
     ·show 0<=(0:Int)/\(0:Int)<std.len (Qg y.s)
      show 0<=(0:Int)/\(0:Int)<((Qg y.s).length:Int);rw[ylen,hy1];decide
     ·show std.hasL 1 (std.nth (std.drp (std.cel (std.at_ (Qg y.s) 0)) 1) 0)
      rw[hcell];rcases Qms (QR y.s).kids with h|h
      ·exact .inl (by rw[h];rfl)
      ·exact .inr h.1
     all_goals
      refine⟨[some 0,some 1,some 2,some 3,some 4,some 5],.tup [],_,rfl,rfl,Nat.le_of_ble_eq_true rfl,rfl,?_,trivial⟩;exact eq2 e0 fin
def mk0:Mk:=⟨[],[],[⟨[],[]⟩]⟩
def QkM(bs:List UInt8):Mk:=Q2X 0 (Q1F (Qq 23 bs) mk0)
def Q3e(b:List UInt8):Mk:=if 0<(QV b).2 then QkM (b.take (QV b).2.toNat)else mk0
def Qc(b:List UInt8):Mk:=Q8D (Q6 b) b (Q3e b)
def Q7e(t:Txt)(m:Mk):AV:=.agg [.val (.int .i64 t.kind),.val (.int .i64 t.bom),.slc 1 (Q0 t.r),.slc 1 (Q9 t.off),.ref [.slc 6 (Q1 (Qs m).n)],.val (.int .i64 m.n.length),.slc 3 (Q11 m.d)]
def QqL(kd bm:Int)(R O:List AV)(rt:Int)(an ad asx N1 S1:List AV):Nat->List AV->List Ob->Option (AV×List Ob):=fun f args ob=>match f,args with
 |21,[.slc 1 _]=>some (.agg [.val (.int .i64 kd),.val (.int .i64 bm),.slc 1 R,.slc 1 O],[])
 |22,[]=>some (.box 0 0,[.box [.val (.slice none 0 0)]])
 |24,[.box 0 0,.val (.int .i64 _),.slc 1 _]=>match ob with
  | [.box [.val (.slice none 0 0)]]=>some (.val (.int .i64 0),[.box [.row 1 1],.row 123 6 false 1 N1])
  |_=>none
 |23,[.box 0 0,.val (.int .i64 _)]=>match ob with
  | [.box [b,.box 1 0,.row 4 0],.box [k,m,r,o,.box 2 0,q,.val (.slice none 0 0)],.box [.row 3 0],.row 123 6 false 0 N,.row 69 2 false 0 _] =>
   some (.tup [],[.box [b,.box 1 0,.row 4 1],.box [k,m,r,o,.box 2 0,q,.row 5 1],.box [.row 3 1],.row 123 6 false 1 N,.row 69 2 false 1 S1,.row 113 3 false 1 []])
  |_=>none
 |25,[.box 0 0]=>match ob with
  | [.box [b,.box 1 0,.row 3 0],.box [k,m,r,o,.box 2 0,_,.val (.slice none 0 0)],.box [.val (.slice none 0 0)],.row 69 2 false 0 _] =>
   some (.tup [],[.box [b,.box 1 0,.row 3 1],.box [k,m,r,o,.box 2 0,.val (.int .i64 rt),.row 4 1],.box [.row 5 1],.row 69 2 false 1 asx,.row 113 3 false 1 ad,.row 123 6 false 1 an])
  |_=>Q3S ob fun b k m r o _ _ _ _=>some (.tup [],obM 1 b k m r o (.val (.int .i64 rt)) an ad asx)
 |_,_=>none
theorem mk0_inv:MkI mk0 [] 2 2 :=
 have h:∀x∈mk0.s,x=⟨[],[]⟩:=fun x hx=>by simpa[mk0]using hx
 ⟨⟨Qps,(fun x hx=>by rw[h x hx];exact fun k hk=>by cases hk),rfl,le_refl _,le_refl _,le_refl _,le_refl _,(fun x hx=>by rw[h x hx];exact zero_le _)⟩,le_refl _⟩
theorem Qmb(bs:List UInt8):MkI (QkM bs) bs 3 2:=by
 have h:=mk0_inv;have ha:=Q3G h.i.ar 23 bs;exact⟨Qi6 h.i ha.1 ha.2,Q7r h.i h.c 23 bs⟩
theorem QiG(b:List UInt8):Q67 (Q6 b) b 0=b.take (QV b).2.toNat:=by
 rw[Q67,Q2c,show(0:Int).toNat=0 from rfl,(Q3t b).2.1]
theorem Q8v(b:List UInt8):MkI (Q3e b) (Q67 (Q6 b) b 0) 3 2:=by
 rw[QiG,Q3e];have hb:=Q4Z b;split
 ·exact Qmb _
 ·have:(QV b).2=0:=by omega
  rw[this];exact⟨mk0_inv.i.mono (by omega) (le_refl _),mk0_inv.c⟩
theorem Qbk(b:List UInt8)(hb:b.length<=100000):Sml (Q6 b) b:=⟨by omega,Nat.le_trans (Q3t b).2.2.1 (by omega),(Q3t b).1⟩
theorem Qnw(t:Txt)(b:List UInt8)(hs:Sml t b)(B D:Nat)(iv:MkI mk0 (Q67 t b 0) B D)(hB:B+3 * t.r.length<=600000)(hD:D+3 * t.r.length<=600000) :
  BCall prog 25 [.box 0 0] [.box [.slc 1 (Q4 b),.box 1 0,.row 3 0],.box [.val (.int .i64 t.kind),.val (.int .i64 t.bom),.slc 1 (Q0 t.r),.slc 1 (Q9 t.off),.box 2 0,.val (.int .i64 0),.val (.slice none 0 0)],.box [.val (.slice none 0 0)],.row 69 2 false 0 (Qg mk0.s)] (.tup [])
   [.box [.slc 1 (Q4 b),.box 1 0,.row 3 1],.box [.val (.int .i64 t.kind),.val (.int .i64 t.bom),.slc 1 (Q0 t.r),.slc 1 (Q9 t.off),.box 2 0,.val (.int .i64 (Q8D t b mk0).n.length),.row 4 1],.box [.row 5 1],.row 69 2 false 1 (Qg (Qs (Q8D t b mk0)).s),.row 113 3 false 1 (Q11 (Qs (Q8D t b mk0)).d),.row 123 6 false 1 (Q1 (Qs (Q8D t b mk0)).n)]:=by
 have h:=QoX t b hs 0 mk0 B D iv hB hD;unfold obT obM at h;exact h.tell [some 0,some 1,some 2,none,none,some 3] [some 0,some 1,some 2,some 5,some 4,some 3] rfl rfl rfl (Nat.le_of_ble_eq_true rfl) rfl (by simp[Qm,Q1,Q11,mk0]) (res':=.tup []) rfl (by simp[Qm]) trivial
theorem Qoi(t:Txt)(b:List UInt8)(m:Mk)(hd:m.d=[])(hs:1<=m.s.length)(hn:m.s.length<=1000000)(hk:(QR m.s).kids.length<=1000000)(n:Int) :
  BCall prog 23 [.box 0 0,.val (.int .i64 n)] [.box [.slc 1 (Q4 b),.box 1 0,.row 4 0],.box [.val (.int .i64 t.kind),.val (.int .i64 t.bom),.slc 1 (Q0 t.r),.slc 1 (Q9 t.off),.box 2 0,.val (.int .i64 0),.val (.slice none 0 0)],.box [.row 3 0],.row 123 6 false 0 (Q1 m.n),.row 69 2 false 0 (Qg m.s)] (.tup [])
   [.box [.slc 1 (Q4 b),.box 1 0,.row 4 1],.box [.val (.int .i64 t.kind),.val (.int .i64 t.bom),.slc 1 (Q0 t.r),.slc 1 (Q9 t.off),.box 2 0,.val (.int .i64 0),.row 5 1],.box [.row 3 1],.row 123 6 false 1 (Q1 m.n),.row 69 2 false 1 (Qg (Q1N n m.s)),.row 113 3 false 1 []]:=by
 have h:=Qbh t b 0 m hs hn hk n;unfold obT obM at h;exact h.tell [some 0,some 1,some 2,some 3,none,some 4] [some 0,some 1,some 2,some 3,some 5,some 4] rfl rfl rfl (Nat.le_of_ble_eq_true rfl) rfl (by simp[Qm,Q11,hd]) (res':=.tup []) rfl (by simp[Qm,Q11,Q2X,hd]) trivial
theorem QgU(b:List UInt8)(hb:b.length<=100000):BCall prog 8 [.slc 1 (Q4 b)] [] (Q7e (Q6 b) (Qc b)) []:=by
 obtain⟨ok,h1,h2,h3,h4⟩:=Q3t b;have hs:=Qbk b hb;have cD:=Qmg b (by omega) (by omega) (fun x hx=>by have:=h4 x hx;omega)
 have z8:=Q4Z b;have hE:Qc b=Q8D (Q6 b) b (Q3e b):=rfl;have hiv:=Q8v b;have qB:=hs.hr;have c0:=fun(h:Q3e b=mk0)=>Qnw (Q6 b) b hs 3 2 (by rw[<-h];exact hiv) (by omega) (by omega)
 have c1:=QoX (Q6 b) b hs 0 (Q3e b) 3 2 hiv (by omega) (by omega)
 rw[<-hE]at c1;obtain⟨M,hM⟩:=exq (Qc b);rw[<-hM]at c1 hE ⊢;have cL:=Qn0 23 (b.take (QV b).2.toNat) (by rw[length_take];omega)
 have cK:=Qoi (Q6 b) b (Q1F (Qq 23 (b.take (QV b).2.toNat)) mk0) rfl (le_refl _) (Nat.le_of_ble_eq_true rfl) (zero_le _) 0;obtain⟨t,ht⟩:=exq (Q6 b);have htb:t.bom=(QV b).2:=by rw[ht];rfl
 rw[<-ht]at cD c0 c1 cK hE ⊢;rw[<-htb]at cL cK z8;have hf:Q3e b=if 0<t.bom then QkM (b.take t.bom.toNat)else mk0:=by rw[htb];rfl
 obtain⟨nb,yQ⟩:=QG b;have nY:t.bom<=nb:=by rw[yQ.eq];exact z8.2
 have xo:=z8.1
 have jU:std.cut (Q4 b) 0 t.bom=Q4 (b.take t.bom.toNat):=by
  show((Q4 b).drop (0:Int).toNat).take (t.bom-0).toNat=_
  simp[Q4,map_take]
 have jW:=Q1c b;clear h1 h2 h3 h4 z8 qB;refine fnN (QqL t.kind t.bom (Q0 t.r) (Q9 t.off) M.n.length (Q1 (Qs M).n) (Q11 M.d) (Qg M.s) (Q1 [Qq 23 (b.take t.bom.toNat)]) (Qg (Q1N 0 mk0.s))) func8 rfl fun _ _=>?_
 generalize vN:Q4 b=B';with_reducible refine Q61 (Q1 [Qq 23 (b.take t.bom.toNat)]) (Qg (Q1N 0 mk0.s)) ((M.n.length:Int)) (Q1 (Qs M).n) (Q11 M.d) (Qg M.s) t.bom t.kind (Q0 t.r) (Q9 t.off) ?_
 subst vN;refine⟨cD,QqP,fun h=>⟨?_,?_,cK,?_,.pure rfl ⟨.inl rfl,.inl rfl,.inl rfl,.inl rfl,.inl rfl,.inl rfl,.inl rfl,trivial⟩⟩,fun h=>⟨?_,.pure rfl ⟨.inl rfl,.inl rfl,.inl rfl,.inl rfl,.inl rfl,.inl rfl,.inl rfl,trivial⟩⟩⟩
 ·show 0<=(0:Int)/\0<=t.bom/\t.bom<=((Q4 b).length:Int)
  have:=yQ.eq
  rw[jW];omega
 ·show BCall _ _ [.box 0 0,.val (.int .i64 23),.slc 1 (std.cut (Q4 b) 0 t.bom)] _ _ _
  rw[jU];exact cL
 ·have h:0<t.bom:=of_decide_eq_true h
  rw[if_pos h]at hf;rw[hf]at c1;exact c1
 ·have h:¬0<t.bom:=of_decide_eq_false h
  rw[if_neg h]at hf;have c:=c0 hf;rw[hf]at hE;rw[<-hE]at c;exact c
def prA(l:List Node)(n:Int):List AV:=Q4 (pr l n)
structure PrOk (l:List Node) (n:Int):Prop where
 len:l.length<=1000000000
 wf:Wf l
 wide:QiM l
 h0:0<=n
 h1:n<l.length
 p:(pr l n).length<=1000000
 c:co l n<=1000000
def Qr3(N:List AV):Nat->List AV->List Ob->Option (AV×List Ob):=fun f args _=>match f,args with
 |26,[.ref [.slc 6 _],.val (.int .i64 n)]=>some (.tup [.agg [.ref [.slc 6 N],.val (.int .i64 n),.val (.int .i64 0),.val (.int .i64 0),.opt (.val (.pointer none))],.val (.int .i64 0)],[])
 |_,_=>none
theorem QiT(t:Txt)(m:Mk):BCall prog 9 [Q7e t m] [] (.agg ((Cur.root m.n.length).cs (Q1 (Qs m).n))) []:=by
 have cR:=QpG (Qs m).n m.n.length (by omega) (by show(m.n.length:Int)<((m.n++[_]).length:Int);simp only[length_append,length_singleton];omega)
 obtain⟨rt,zb⟩:=exq (m.n.length:Int);obtain⟨l,hl⟩:=exq ((Qs m).n);unfold Q7e;rw[<-zb,<-hl]at cR ⊢;refine fnN (Qr3 (Q1 l)) func9 rfl fun _ _=>?_
 with_reducible refine cv6 (Q1 l) (Q0 t.r) (Q9 t.off) (Q11 m.d) t.kind t.bom ?_
 exact⟨cR,.pure rfl ⟨.inl rfl,.inl rfl,.inl rfl,.inl rfl,.inl rfl,trivial⟩⟩
theorem QnS(b:List UInt8):BCall prog 4 [.slc 1 (Q4 b)] [] (.slc 1 (Q4 (b.take 400))) []:=by
 obtain⟨n,hn⟩:=QG b;have jW:=Q1c b;have jH:std.len (Q4 b)=n:=by show((Q4 b).length:Int)=n;rw[jW,hn.eq]
 refine fnN (cs0) func4 rfl fun _ _=>?_
 with_reducible refine cv1 (Q4 b) ?_
 refine⟨fun h=>⟨?_,.pure rfl (.inl ?_)⟩,fun h=>.pure rfl (.inl ?_)⟩
 ·have h:400<std.len (Q4 b):=of_decide_eq_true h
  show 0<=(0:Int)/\0<=(400:Int)/\(400:Int)<=std.len (Q4 b);omega
 ·show AV.slc 1 (((Q4 b).drop (0:Int).toNat).take ((400:Int)-0).toNat)=_
  simp[Q4,map_take]
 ·have h:¬400<std.len (Q4 b):=of_decide_eq_false h
  have:=hn.eq
  rw[take_of_length_le (by omega)]
end
structure CurIn (l:List Node) (W C:Nat) (c:Cur):Prop where
 h0:0<=c.n
 h1:c.n<l.length
 f0:0<=c.f
 w:c.f+(Qh l c.n).width<=W
 co:co l c.n<=C
theorem Qhm(l:List Node)(ks:List Int):ks.length<=coL l ks:=by
 induction ks with
 |nil=>exact zero_le _
 |cons k r ih=>have:=Qg0 l k;simp only[coL,map_cons,sum_cons,length_cons]at ih ⊢;omega
theorem Qnu(l:List Node){ks:List Int}{k:Int}(h:k∈ks):co l k<=coL l ks:=by
 induction ks with
 |nil=>cases h
 |cons x r ih =>
  simp only[coL,map_cons,sum_cons]at ih ⊢;rcases mem_cons.1 h with rfl|h
  ·omega
  ·have:=ih h;omega
section
variable {l:List Node}{W C:Nat}{c:Cur}
theorem CurIn.kids(ha:Ar l)(h:CurIn l W C c):InR l (Qi l c):=fun k hk=>by
 have h1:=ha.wf c.n h.h0 h.h1 k hk;have:=h.h1
 omega
theorem CurIn.wide(ha:Ar l)(h:CurIn l W C c):Q1X l (Qi l c)<=(Qh l c.n).width/\0<=(Qh l c.n).width:=by
 rw[ha.wide c.n h.h0 h.h1,Q8b ha.wide (h.kids ha),Qe2 ha.wf h.h0 h.h1,length_append];show(((Qi l c).flatMap (pr l)).length:Int)<=(((Qh l c.n).b.length+((Qi l c).flatMap (pr l)).length:Nat):Int)/\_
 omega
theorem CurIn.cos(ha:Ar l)(h:CurIn l W C c):1+coL l (Qi l c)<=C:=by
 have:=h.co
 rw[Qch ha.wf h.h0 h.h1]at this;exact this
theorem CurIn.ok(ha:Ar l)(h:CurIn l W C c)(hW:W<=2147483647)(hC:C<=1000000):CurOk l c:=by
 have h1:=h.wide ha;have h2:=h.cos ha;have h3:=Qhm l (Qi l c);have h4:=h.w;have h5:=h.f0;exact⟨by omega,by omega,h5,by omega⟩
theorem CurIn.down(ha:Ar l)(h:CurIn l W C c){k:Int}(h0:0<=k)(h1:k<(Qi l c).length):CurIn l W C (Q2Y l c k):=by
 have hk:k.toNat<(Qi l c).length:=by omega
 have hx:(Qi l c)[k.toNat]?.getD 0=(Qi l c)[k.toNat]:=by rw[getElem?_eq_getElem hk];rfl
 have hm:(Qi l c)[k.toNat]∈Qi l c:=getElem_mem hk;have hr:=h.kids ha _ hm;have hw:=h.wide ha;have hc:=h.cos ha;have zW:=Qnu l hm;have jO:=Q5t ha.ok.w ((Qi l c).take k.toNat);have jV:=Q9B ha.ok.w (Qi l c) (k.toNat+1)
 have zG:Q1X l ((Qi l c).take (k.toNat+1))=Q1X l ((Qi l c).take k.toNat)+(Qh l (Qi l c)[k.toNat]).width:=by
  rw[take_add_one,getElem?_eq_getElem hk];show(((Qi l c).take k.toNat++[(Qi l c)[k.toNat]]).map (Q17 l)).sum=_
  rw[List.map_append,List.sum_append];simp[Q1X,Q17]
 have h4:=h.w;have h5:=h.f0;refine⟨?_,?_,?_,?_,?_⟩
 ·show 0<=(Qi l c)[k.toNat]?.getD 0
  rw[hx];exact hr.1
 ·show(Qi l c)[k.toNat]?.getD 0<_
  rw[hx];exact hr.2
 ·show 0<=c.f+Q1X l ((Qi l c).take k.toNat)
  omega
 ·show c.f+Q1X l ((Qi l c).take k.toNat)+(Qh l ((Qi l c)[k.toNat]?.getD 0)).width<=W
  rw[hx];omega
 ·show Go.Proofs.YtnlbhaeimmenoaaGreat.co l ((Qi l c)[k.toNat]?.getD 0)<=C
  rw[hx];omega
end
theorem CurIn.to{l:List Node}{W C:Nat}(ha:Ar l):∀(p:List Int)(c x:Cur),CurIn l W C c->toC l c p=some x->CurIn l W C x
 | [],c,x,h,e=>by
  obtain rfl:c=x:=by simpa[toC]using e
  exact h
 |k::r,c,x,h,e=>by
  have e:(if 0<=k/\k<(Qi l c).length then toC l (Q2Y l c k) r else none)=some x:=e;split at e
  ·rename_i hk
   exact CurIn.to ha r _ x (h.down ha hk.1 hk.2) e
  ·cases e
structure TreeOk (b:List UInt8) (m:Mk):Prop where
 ar:Ar (Qs m).n
 p:pr (Qs m).n m.n.length=b
 w:(Qh (Qs m).n m.n.length).width=b.length
 c:co (Qs m).n m.n.length<=400000
 n:(Qs m).n.length<=400000
 s:m.s.length=1
theorem Q8r(b:List UInt8)(hb:b.length<=100000):TreeOk b (Qc b):=by
 have hs:=Qbk b hb;have hr:=(Q3t b).2.2.1;obtain⟨h1,h2⟩:=QhT hs.ok hs.hr (Q8v b);have h1:MkI (Qc b) b (3+3 * (Q6 b).r.length) (2+3 * (Q6 b).r.length):=h1;have h2:(Qc b).s.length=1:=h2;obtain⟨k1,k2,k3,k4⟩:=Qel h1 h2;have hn:=h1.i.n;exact⟨k1,k2,k3,by omega,by show((Qc b).n++[_]).length<=_;simp only[length_append,length_singleton];omega,h2⟩
theorem Qhz(m:Mk):(m.n.length:Int)<((Qs m).n.length:Int):=by
 show(m.n.length:Int)<((m.n++[_]).length:Int)
 simp only[length_append,length_singleton];omega
theorem TreeOk.pr{b:List UInt8}{m:Mk}(h:TreeOk b m)(hb:b.length<=100000):PrOk (Qs m).n m.n.length :=
 ⟨by have:=h.n;omega,h.ar.wf,h.ar.wide,by omega,Qhz m,by rw[h.p];omega,by have:=h.c;omega⟩
theorem TreeOk.root{b:List UInt8}{m:Mk}(h:TreeOk b m):CurIn (Qs m).n b.length 400000 (.root m.n.length) :=
 ⟨by show(0:Int)<=m.n.length;omega,Qhz m,Int.le_refl _,by show(0:Int)+(Qh (Qs m).n m.n.length).width<=_;rw[h.w];omega,h.c⟩
theorem Qgh(l:List UInt8):std.strB (Q4 l)=⟨l.toArray⟩:=by
 show(⟨((Q4 l).map Q2V).toArray⟩:ByteArray)=_
 rw[Q3u]
def Qaf(x:Node):Prop:=x.b=[]\/x.kids=[]
def Qda(x:Node):Prop:=(x.b=[]/\x.kind=21)\/x.kids=[]
def Qr1(n:Nat)(x:Dg):Prop:=0<=x.f/\x.f<=x.t/\x.t<=n/\1<=x.c/\x.c<=5
structure MkS (z:Nat) (m:Mk):Prop where
 n:∀x∈m.n,Qda x
 d:∀x∈m.d,Qr1 z x
theorem Q7j{P:Node->Prop}{l:List Node}(h:∀x∈l,P x){y:Node}(hy:P y):∀x∈l++[y],P x:=fun x hx=>by
 rcases mem_append.1 hx with hx|hx
 ·exact h x hx
 ·obtain rfl:x=y:=by simpa using hx
  exact hy
theorem Q9G(k:Int)(b:List UInt8):Qda (Qq k b):=.inr rfl
theorem QiZ(l:List Node)(ks:List Int):Qda (Q15 l 21 ks):=.inl ⟨rfl,rfl⟩
section
variable {n:Nat}{m:Mk}
theorem MkS.add(h:MkS n m){y:Node}(hy:Qda y):MkS n (Q1F y m):=⟨Q7j h.n hy,h.d⟩
theorem MkS.kid(h:MkS n m)(k:Int):MkS n (Q2X k m):=⟨h.n,h.d⟩
theorem MkS.lk(h:MkS n m)(t:Txt)(b:List UInt8)(kind f u:Int):MkS n (lkF t b kind f u m):=(h.add (Q9G _ _)).kid _
theorem MkS.shut(h:MkS n m)(l:Int):MkS n (Q1C l m):=⟨Q7j h.n (QiZ _ _),h.d⟩
structure Plc (t:Txt) (n:Nat) (f u:Int):Prop where
 h0:0<=Q2c t f
 h1:Q2c t f<=Q2c t u
 h2:Q2c t u<=n
theorem MkS.wrong(h:MkS n m)(t:Txt){c f u:Int}(hp:Plc t n f u)(hc:1<=c/\c<=5):MkS n (QI t c f u m):=⟨h.n,fun x hx=>by
 rcases mem_append.1 hx with hx|hx
 ·exact h.d x hx
 ·obtain rfl:x=⟨Q2c t f,Q2c t u,c⟩:=by simpa using hx
  exact⟨hp.h0,hp.h1,hp.h2,hc.1,hc.2⟩⟩
theorem Plc.same{t:Txt}{f u:Int}(h:Plc t n f u):Plc t n f f:=⟨h.h0,Int.le_refl _,Int.le_trans h.h1 h.h2⟩
theorem MkS.miss(h:MkS n m)(t:Txt){a:Int}(hp:Plc t n a a):MkS n (Q2n t a m):=((h.wrong t hp (by decide)).add (Q9G _ _)).shut _
end
theorem MkS.missGo{n:Nat}(t:Txt){f:Int}(hp:Plc t n f f)(k:Nat):∀(j:Nat)(m:Mk),MkS n m->MkS n (missGo t f k j m)
 |0,_,h=>h
 |j+1,m,h=>by
  show MkS n (if _ then _ else _);split
  ·exact MkS.missGo t hp k j _ (h.miss t hp)
  ·exact h
section
variable {n:Nat}{m:Mk}
theorem MkS.start(h:MkS n m)(t:Txt)(b:List UInt8)(kind:Int){f u:Int}(hp:Plc t n f u):MkS n (Q1k t b kind f u m):=by
 unfold Q1k;split
 ·exact(h.wrong t hp (by decide)).lk t b kind f u
 ·exact MkS.lk (m:={ m with s:=m.s++[⟨QC t f u,[]⟩] }) ⟨h.n,h.d⟩ t b kind f u
theorem MkS.end_(h:MkS n m)(t:Txt)(b:List UInt8)(kind:Int){f u:Int}(hp:Plc t n f u):MkS n (Q2u t b kind f u m):=by
 unfold Q2u;simp only
 split
 ·exact(h.wrong t hp (by decide)).lk t b kind f u
 ·exact((MkS.missGo t hp.same _ _ _ h).add (Q9G _ _)).shut _
theorem MkS.token(h:MkS n m)(t:Txt)(b:List UInt8)(kind:Int){f u:Int}(wh:Bool)(hp:Plc t n f u):MkS n (Q1E t b kind f u wh m):=by
 unfold Q1E;simp only
 generalize jo:(if wh=false then QI t 1 f u m else if(kind=8\/kind=9\/kind=10)/\(QB t.r f u).right=false then QI t 2 f u m else m)=m1
 have h1:MkS n m1:=by
  rw[<-jo];split
  ·exact h.wrong t hp (by decide)
  ·split
   ·exact h.wrong t hp (by decide)
   ·exact h
 split
 ·exact h1.start t b kind hp
 ·split
  ·exact h1.end_ t b kind hp
  ·exact h1.lk t b kind f u
end
theorem QmK{t:Txt}{b:List UInt8}(ok:TxtOk t b){f u:Int}(h0:0<=f)(h1:f<=u)(h2:u<=t.r.length):Plc t b.length f u:=by
 have hm:=ok.mono f.toNat u.toNat (by omega) (by omega)
 have jH:=ok.len;have hf:f.toNat<t.off.length:=by omega
 have hu:u.toNat<t.off.length:=by omega
 have h3:=ok.range (t.off[f.toNat]'hf) (getElem_mem hf);have h4:=ok.range (t.off[u.toNat]'hu) (getElem_mem hu);have e3:t.off[f.toNat]?.getD 0=t.off[f.toNat]:=by rw[getElem?_eq_getElem hf];rfl
 have e4:t.off[u.toNat]?.getD 0=t.off[u.toNat]:=by rw[getElem?_eq_getElem hu];rfl
 rw[<-e3]at h3;rw[<-e4]at h4;exact⟨h3.1,hm,h4.2⟩
theorem MkS.toks{t:Txt}{b:List UInt8}(ok:TxtOk t b):∀(n k:Nat)(m:Mk),t.r.length-k<=n->MkS b.length m->MkS b.length ((Q1L t.r k).foldl (Q5U t b) m)
 |0,k,m,h,hi=>by
  rw[Q1a (by omega)];exact hi
 |n+1,k,m,h,hi=>by
  by_cases jB:k<t.r.length
  ·obtain⟨h1,h2,h3,h4⟩:=Qb2 t.r jB
   rw[Q1w jB,List.foldl_cons];have hp:Plc t b.length (Q13 t.r k).from_ (Q13 t.r k).to:=QmK ok (by omega) (by omega) (by omega)
   exact MkS.toks ok n (Qd t.r k).2.1 _ (by omega) (hi.token t b _ _ hp)
  ·rw[Q1a jB];exact hi
theorem MkS.all{t:Txt}{b:List UInt8}(ok:TxtOk t b){m:Mk}(hi:MkS b.length m):MkS b.length (Q8D t b m) :=
 MkS.missGo t (QmK ok (by omega) (Int.le_refl _) (Int.le_refl _)) 0 _ _ (MkS.toks ok t.r.length 0 m (by omega) hi)
theorem Qo7(b:List UInt8)(n:Nat):MkS n (Q3e b):=by
 have h0:MkS n mk0:=⟨(fun x hx=>by cases hx),fun x hx=>by cases hx⟩
 unfold Q3e;split
 ·exact(h0.add (Q9G _ _)).kid _
 ·exact h0
theorem Qo9(b:List UInt8):MkS b.length (Qc b):=MkS.all (Q3t b).1 (Qo7 b _)
theorem QdF(b:List UInt8):∀x∈(Qs (Qc b)).n,Qaf x:=Q7j (P:=Qaf) (fun x hx=>((Qo9 b).n x hx).imp_left And.left) (y:=Q15 _ 20 _) (.inl rfl)
section
open Tryz
def IsN(n:Nat)(i:Int):Prop:=i=n
theorem IsN.eq{n:Nat}{i:Int}(h:IsN n i):i=(n:Int):=h
def Cur.el(N:List AV)(c:Cur):List AV:=[.opt (.ref [.slc 6 N]),.val (.int .i64 c.n),.val (.int .i64 c.f),.val (.int .i64 c.k),.opt (upO N c)]
def QA(N:List AV)(l:List Cur):List AV:=l.map fun c=>.agg (c.el N)
theorem Q3n(N:List AV)(l:List Cur):(QA N l).length=l.length:=by simp[QA]
theorem Q7Y(N:List AV)(a b:List Cur):QA N (a++b)=QA N a++QA N b:=by simp[QA]
def downs(l:List Node)(c:Cur):Nat->List Cur
 |0=>[]
 |k+1=>Q2Y l c k::downs l c k
def Q23(l:List Node):Nat->List Cur->List Cur
 |0,_=>[]
 |n+1,st=>match st.getLast? with
  |none=>[]
  |some x=>x::Q23 l n (st.dropLast++downs l x (Qi l x).length)
def Q7c(l:List Node)(c:Cur)(n:Nat):List Cur:=Q23 l n [c]
def coC(l:List Node)(st:List Cur):Nat:=(st.map fun c=>co l c.n).sum
theorem Q5e(l:List Node)(a b:List Cur):coC l (a++b)=coC l a+coC l b:=by simp[coC]
theorem QcO(l:List Node)(st:List Cur):st.length<=coC l st:=by
 induction st with
 |nil=>exact zero_le _
 |cons c r ih=>have:=Qg0 l c.n;simp only[coC,map_cons,sum_cons,length_cons]at ih ⊢;omega
theorem Q8s(l:List Node)(c:Cur):∀k,k<=(Qi l c).length->coC l (downs l c k)=coL l ((Qi l c).take k)
 |0,_=>rfl
 |k+1,h=>by
  have h1:k<(Qi l c).length:=h;have e:(Qi l c)[(k:Int).toNat]?.getD 0=(Qi l c)[k]:=by rw[Int.toNat_natCast,getElem?_eq_getElem h1];rfl
  have ih:=Q8s l c k (by omega)
  rw[take_add_one,getElem?_eq_getElem h1,Q9J];show co l (Q2Y l c k).n+coC l (downs l c k)=_;rw[ih,show(Q2Y l c k).n=(Qi l c)[k] from e];simp only[Option.toList_some,Q9F];omega
theorem Q7W{l:List Node}{W C:Nat}{c:Cur}(ha:Ar l)(h:CurIn l W C c):∀k,k<=(Qi l c).length->∀x∈downs l c k,CurIn l W C x
 |0,_,x,hx=>by cases hx
 |k+1,hk,x,hx=>by
  rcases mem_cons.1 hx with rfl|hx
  ·exact h.down ha (by omega) (by omega)
  ·exact Q7W ha h k (by omega) x hx
theorem Q7q{l:List Node}{Q:Cur->Prop}(hQ:∀x,Q x->∀y∈downs l x (Qi l x).length,Q y):∀(n:Nat)(st:List Cur),(∀x∈st,Q x)->∀y∈Q23 l n st,Q y
 |0,_,_,y,hy=>by cases hy
 |n+1,st,h,y,hy=>by
  unfold Q23 at hy;cases hl:st.getLast? with
  |none=>rw[hl]at hy;cases hy
  |some x =>
   rw[hl]at hy;have hx:Q x:=h x (List.mem_of_getLast? hl);rcases mem_cons.1 hy with rfl|hy
   ·exact hx
   ·refine Q7q hQ n _ (fun z hz=>?_) y hy
    rcases mem_append.1 hz with hz|hz
    ·exact h z (List.dropLast_subset _ hz)
    ·exact hQ x hx z hz
def CurAt(l:List Node)(b:List UInt8)(c:Cur):Prop:=∃pre post,b=pre++(pr l c.n++post)/\(pre.length:Int)=c.f
theorem CurAt.down{l:List Node}{b:List UInt8}{W C:Nat}{c:Cur}(ha:Ar l)(ho:∀x∈l,Qaf x)(h:CurIn l W C c)(hb:CurAt l b c){k:Int}(h0:0<=k)(h1:k<(Qi l c).length):CurAt l b (Q2Y l c k):=by
 obtain⟨pre,post,e1,e2⟩:=hb;have hk:k.toNat<(Qi l c).length:=by omega
 have hx:(Q2Y l c k).n=(Qi l c)[k.toNat]:=by show(Qi l c)[k.toNat]?.getD 0=_;rw[getElem?_eq_getElem hk];rfl
 have hin:=h.kids ha
 have hnb:(Qh l c.n).b=[]:=by
  have hm:Qh l c.n∈l:=by
   have hlt:c.n.toNat<l.length:=by have:=h.h0;have:=h.h1;omega
   rw[Qh,if_pos ⟨h.h0,h.h1⟩,getElem?_eq_getElem hlt];exact getElem_mem hlt
  rcases ho _ hm with h2|h2
  ·exact h2
  ·have h2:Qi l c=[]:=h2
   rw[h2]at hk;exact absurd hk (by simp)
 have hp:pr l c.n=(Qi l c).flatMap (pr l):=by
  rw[Qe2 ha.wf h.h0 h.h1,hnb];rfl
 have hsp:Qi l c=(Qi l c).take k.toNat++((Qi l c)[k.toNat]::(Qi l c).drop (k.toNat+1)):=by
  rw[<-List.drop_eq_getElem_cons hk,take_append_drop]
 have hpk:pr l c.n=((Qi l c).take k.toNat).flatMap (pr l)++(pr l (Qi l c)[k.toNat]++((Qi l c).drop (k.toNat+1)).flatMap (pr l)):=by
  rw[hp];conv=>lhs;rw[hsp]
  rw[List.flatMap_append,List.flatMap_cons]
 refine⟨pre++((Qi l c).take k.toNat).flatMap (pr l),((Qi l c).drop (k.toNat+1)).flatMap (pr l)++post,?_,?_⟩
 ·rw[e1,hpk,hx];simp only[List.append_assoc]
 ·show((pre++_).length:Int)=c.f+Q1X l ((Qi l c).take k.toNat)
  rw[Q8b ha.wide (fun y hy=>hin y (List.mem_of_mem_take hy)),length_append]
  omega
def CurB(l:List Node)(b:List UInt8)(C:Nat)(c:Cur):Prop:=CurIn l b.length C c/\CurAt l b c
theorem CurB.downs{l:List Node}{b:List UInt8}{C:Nat}{c:Cur}(ha:Ar l)(ho:∀x∈l,Qaf x)(h:CurB l b C c):∀k,k<=(Qi l c).length->∀x∈Go.Proofs.YtnlbhaeimmenoaaGreat.downs l c k,CurB l b C x
 |0,_,x,hx=>by cases hx
 |k+1,hk,x,hx=>by
  rcases mem_cons.1 hx with rfl|hx
  ·exact⟨h.1.down ha (by omega) (by omega),h.2.down ha ho h.1 (by omega) (by omega)⟩
  ·exact CurB.downs ha ho h k (by omega) x hx
theorem Qk1{l:List Node}{b:List UInt8}{C:Nat}{c:Cur}(ha:Ar l)(ho:∀x∈l,Qaf x)(h:CurB l b C c)(n:Nat):∀x∈Q7c l c n,CurB l b C x :=
 Q7q (fun x hx y hy=>hx.downs ha ho _ (le_refl _) y hy) n [c] (fun x hx=>by
  obtain rfl:x=c:=by simpa using hx
  exact h)
theorem CurAt.cut{l:List Node}{b:List UInt8}{c:Cur}(h:CurAt l b c):(b.drop c.f.toNat).take (pr l c.n).length=pr l c.n:=by
 obtain⟨pre,post,e1,e2⟩:=h;rw[e1,show c.f.toNat=pre.length by omega,List.drop_left,List.take_left]
theorem Qoz(l:List Node)(c:Cur)(k:Int)(h0:0<=k)(h1:k<(Qi l c).length)(hw:∀n,0<=Q17 l n)(ok:CurOk l c) :
  BCall prog 28 [.agg (c.el (Q1 l)),.val (.int .i64 k)] [] (.tup [.agg ((Q2Y l c k).el (Q1 l)),.val (.bool true)]) [] :=
 ((QmP l c k h0 h1 ok.n hw ok.s ok.f0 ok.f1).le (args:=[.agg (c.el (Q1 l)),.val (.int .i64 k)]) ⟨⟨.inr (.inr (.inr rfl)),.inl rfl,.inl rfl,.inl rfl,.inl rfl,trivial⟩,.inl rfl,trivial⟩).res (res':=.tup [.agg ((Q2Y l c k).el (Q1 l)),.val (.bool true)]) ⟨⟨.inr (.inr (.inl ⟨rfl,trivial⟩)),.inl rfl,.inl rfl,.inl rfl,.inl rfl,trivial⟩,.inl rfl,trivial⟩
theorem Qb9(l:List Node):∀n,Q23 l n []=[]
 |0=>rfl
 |_+1=>rfl
theorem QaE(l:List Node)(n:Nat)(st:List Cur)(x:Cur):Q23 l (n+1) (st++[x])=x::Q23 l n (st++downs l x (Qi l x).length):=by
 show(match(st++[x]).getLast? with|none=>[]|some y=>y::Q23 l n ((st++[x]).dropLast++downs l y (Qi l y).length))=_
 simp
theorem Qnh(l:List Node)(c:Cur)(hn:(Qi l c).length<=1000000000):BCall prog 27 [.opt (.ref [.slc 6 (Q1 l)]),.val (.int .i64 c.n)] [] (.slc 1 (Q21 l c.n)) [] :=
 (Qm5 l c.n hn).le (args:=[.opt (.ref [.slc 6 (Q1 l)]),.val (.int .i64 c.n)]) ⟨.inr (.inr (.inr rfl)),.inl rfl,trivial⟩
def dnW(l:List Node)(n i:Int):Int:=(Qh l n).kids[i.toNat]?.getD 0
def dfW(l:List Node)(n f i:Int):Int:=f+Q1X l ((Qh l n).kids.take i.toNat)
def duW(N:List AV)(n f k:Int)(U:AV):AV:=.ref [.ref [.slc 6 N],.val (.int .i64 n),.val (.int .i64 f),.val (.int .i64 k),U]
def QpC(N:List AV)(kd:Int->List AV)(dn:Int->Int->Int)(df:Int->Int->Int->Int)(du:Int->Int->Int->AV->AV):Nat->List AV->List Ob->Option (AV×List Ob):=fun g args _=>match g,args with
 |27,[.opt (.ref [.slc 6 _]),.val (.int .i64 n)]=>some (.slc 1 (kd n),[])
 |28,[.agg [.opt (.ref [.slc 6 _]),.val (.int .i64 n),.val (.int .i64 f),.val (.int .i64 k),U],.val (.int .i64 i)]=>some (.tup [.agg [.opt (.ref [.slc 6 N]),.val (.int .i64 (dn n i)),.val (.int .i64 (df n f i)),.val (.int .i64 i),.opt (du n f k U)],.val (.bool true)],[])
 |_,_=>none
theorem Qlf(l:List Node)(W C:Nat)(ha:Ar l)(hW:W<=2147483647)(hC:C<=1000000)(c:Cur)(hc:CurIn l W C c)(most:Nat)(hm:most<=2000000000) :
  BCall prog 10 [.agg (c.el (Q1 l)),.val (.int .i64 most)] [] (.slc 5 (QA (Q1 l) (Q7c l c most))) []:=by
 obtain⟨mo,hmo⟩:∃mo:Int,IsN most mo:=⟨_,rfl⟩;rw[<-hmo.eq];obtain⟨R,hR⟩:=exq (Q7c l c most);rw[<-hR];rw[Cur.el];obtain⟨cn,hcn⟩:=exq c.n;obtain⟨cf,hcf⟩:=exq c.f;obtain⟨ck,hck⟩:=exq c.k;rw[<-hcn,<-hcf,<-hck];refine fnN (QpC (Q1 l) (Q21 l) (dnW l) (dfW l) (duW (Q1 l))) func10 rfl fun _ _=>?_
 with_reducible refine cv6 (upO (Q1 l) c) (Q21 l) (dnW l) (dfW l) (duW (Q1 l)) (Q1 l) ?_
 refine⟨fun h=>absurd (show false=true from h) (by decide),fun _=>?_⟩
 refine Q1h (QpC (Q1 l) (Q21 l) (dnW l) (dfW l) (duW (Q1 l))) (List Cur×List Cur) (fun x=>⟨[(1,.val (.int .i64 mo)),(2,.box 0 0),(5,.row 1 0),(6,.row 2 0)],[.box [.opt (.ref [.slc 6 (Q1 l)]),.val (.int .i64 cn),.val (.int .i64 cf),.val (.int .i64 ck),.opt (upO (Q1 l) c)],.row 41 5 false 0 (QA (Q1 l) x.1),.row 41 5 false 0 (QA (Q1 l) x.2)]⟩) (fun x=>x.1++Q23 l (most-x.1.length) x.2=R/\(∀y∈x.2,CurIn l W C y)/\coC l x.2+x.1.length<=C/\x.1.length<=most) (fun x=>most-x.1.length) ([],[c]) ?_ ?_ ?_
 ·refine⟨by rw[hR];rfl,fun y hy=>?_,?_,zero_le _⟩
  ·obtain rfl:y=c:=by simpa using hy
   exact hc
  ·have:=hc.co
   simpa[coC]using this
 ·refine⟨[some 0,none,some 1],_,rfl,?_⟩
  subst hcn hcf hck;exact eq0
 ·rintro⟨o,st⟩ ⟨hJ,hin,hco,hol⟩
  simp only at hJ hin hco hol
  have olen:=Q3n (Q1 l) o;have slen:=Q3n (Q1 l) st;obtain⟨lo,hlo⟩:=QG o;obtain⟨ls,hls⟩:=QG st;have hoA:std.len (QA (Q1 l) o)=lo:=by show((QA (Q1 l) o).length:Int)=lo;rw[olen,hlo.eq]
  have hsA:std.len (QA (Q1 l) st)=ls:=by show((QA (Q1 l) st).length:Int)=ls;rw[slen,hls.eq]
  with_reducible refine cv8 (upO (Q1 l) c) (QA (Q1 l) o) (QA (Q1 l) st) (Q21 l) (dnW l) (dfW l) (duW (Q1 l)) (Q1 l) ?_
  refine⟨fun h1=>⟨fun h2=>?_,fun h2=>?_⟩,fun h1=>?_⟩
  ·have h1:0<std.len (QA (Q1 l) st):=of_decide_eq_true h1
   have h2:std.len (QA (Q1 l) o)<mo:=of_decide_eq_true h2;rw[hsA]at h1;rw[hoA]at h2;have hne:st≠[]:=by rintro rfl;have:=hls.eq;simp at this;omega
   obtain⟨st0,x,rfl⟩:∃st0 x,st=st0++[x]:=⟨st.dropLast,st.getLast hne,(List.dropLast_concat_getLast hne).symm⟩;have hx:CurIn l W C x:=hin x (by simp)
   have hxo:=hx.ok ha hW hC;have hkn:=hx.cos ha;have hkl:=Qhm l (Qi l x);have slen0:=Q3n (Q1 l) st0
   have hat:(QA (Q1 l) (st0++[x])).getD (((QA (Q1 l) (st0++[x])).length:Int)-1).toNat .dead=.agg (x.el (Q1 l)):=by
    rw[show(((QA (Q1 l) (st0++[x])).length:Int)-1).toNat=(QA (Q1 l) st0).length by rw[Q3n,Q3n];simp,Q7Y]
    simp[QA]
   have hcut:List.take (((QA (Q1 l) (st0++[x])).length:Int)-1-0).toNat (List.drop (0:Int).toNat (QA (Q1 l) (st0++[x])))=QA (Q1 l) st0:=by
    rw[show(((QA (Q1 l) (st0++[x])).length:Int)-1-0).toNat=(QA (Q1 l) st0).length by rw[Q3n,Q3n];simp,Q7Y]
    simp
   obtain⟨n,hn⟩:=QG (Qi l x)
   have hkA:((Q21 l x.n).length:Int)=n:=by
    show((Q9 (Qi l x)).length:Int)=n
    rw[Q31,hn.eq]
   have cK:=Qnh l x (by omega)
   have hcoL:st0.length<=1000000:=by
    have:=QcO l st0
    rw[Q5e]at hco;omega
   have hbd:std.bnd (QA (Q1 l) o) [.agg (x.el (Q1 l))]:=by
    show(QA (Q1 l) o).length+1<=1000000000
    rw[olen];omega
   simp only[std,hat,hcut,Cur.el,AV.cells,List.drop_zero,List.getD_cons_zero,List.getD_cons_succ,RowKit.intOf,Qq8,Q3W,hkA];have hlen1:((QA (Q1 l) (st0++[x])).length:Int)=st0.length+1:=by rw[Q3n];simp
   have hUx:Q5C (.opt (upO (Q1 l) x)):=Qh9 _ _;refine⟨?_,?_,⟨trivial,trivial,trivial,trivial,hUx,trivial⟩,?_,?_,hbd,cK,?_,?_⟩
   ·show(-9223372036854775808:Int)<=_/\_<=(9223372036854775807:Int)
    rw[hlen1];omega
   ·rw[hlen1];omega
   ·show(-9223372036854775808:Int)<=_/\_<=(9223372036854775807:Int)
    rw[hlen1];omega
   ·rw[hlen1];omega
   ·show(-9223372036854775808:Int)<=n-1/\n-1<=(9223372036854775807:Int)
    have:=hn.eq
    omega
   refine Q1h (QpC (Q1 l) (Q21 l) (dnW l) (dfW l) (duW (Q1 l))) (Int×List Cur) (fun y=>⟨[(1,.val (.int .i64 mo)),(2,.box 0 0),(5,.row 1 0),(6,.row 2 0),(7,.box 3 0),(8,.val (.int .i64 y.1))],[.box [.opt (.ref [.slc 6 (Q1 l)]),.val (.int .i64 cn),.val (.int .i64 cf),.val (.int .i64 ck),.opt (upO (Q1 l) c)],.row 41 5 false 0 (QA (Q1 l) (o++[x])),.row 41 5 false 0 (QA (Q1 l) y.2),.box (x.el (Q1 l))]⟩) (fun y=>-1<=y.1/\y.1<n/\y.2++downs l x (y.1+1).toNat=st0++downs l x (Qi l x).length) (fun y=>(y.1+1).toNat) (n-1,st0) ?_ ?_ ?_
   ·have:=hn.eq
    refine⟨?_,?_,?_⟩
    ·show(-1:Int)<=n-1
     omega
    ·show n-1<n
     omega
    ·show st0++downs l x (n-1+1).toNat=_
     rw[show(n-1+1).toNat=(Qi l x).length by omega]
   ·refine⟨[some 0,some 1,some 2,some 3],_,rfl,?_⟩
    have happ:QA (Q1 l) o++[.agg (x.el (Q1 l))]=QA (Q1 l) (o++[x]):=by rw[Q7Y];rfl
    exact eq2 happ hcut
   ·rintro⟨k,s1⟩ ⟨hk0,hk1,hks⟩
    simp only at hk0 hk1 hks
    have hs1:s1.length<=1000000:=by
     have h3:=congrArg (coC l) hks;rw[Q5e,Q5e,Q8s l x _ (le_refl _),take_length]at h3;have h4:=QcO l s1
     have h5:coC l [x]=1+coL l (Qi l x):=by
      show co l x.n+0=_;rw[Nat.add_zero,Qch ha.wf hx.h0 hx.h1];rfl
     rw[Q5e,h5]at hco;omega
    have s1len:=Q3n (Q1 l) s1;obtain⟨xn,hxn⟩:=exq x.n;obtain⟨xf,hxf⟩:=exq x.f;obtain⟨xk,hxk⟩:=exq x.k;by_cases hk:0<=k
    ·have cD:=Qoz l x k hk (by have:=hn.eq;omega) ha.ok.w hxo
     have hdn:(Q2Y l x k).el (Q1 l)=[.opt (.ref [.slc 6 (Q1 l)]),.val (.int .i64 (dnW l xn k)),.val (.int .i64 (dfW l xn xf k)),.val (.int .i64 k),.opt (duW (Q1 l) xn xf xk (.opt (upO (Q1 l) x)))]:=by
      rw[hxn,hxf,hxk];rfl
     rw[hdn]at cD
     have hks2:(s1++[Q2Y l x k])++downs l x k.toNat=st0++downs l x (Qi l x).length:=by
      rw[<-hks,show(k+1).toNat=k.toNat+1 by omega]
      show _=s1++(Q2Y l x (k.toNat:Nat)::downs l x k.toNat);rw[Int.toNat_of_nonneg hk];simp
     have happ2:QA (Q1 l) s1++[.agg ((Q2Y l x k).el (Q1 l))]=QA (Q1 l) (s1++[Q2Y l x k]):=by rw[Q7Y];rfl
     rw[hdn]at happ2
     have hbd2:∀z,std.bnd (QA (Q1 l) s1) [z]:=fun z=>by
      show(QA (Q1 l) s1).length+1<=1000000000
      rw[s1len];omega
     simp only[Cur.el]at cD ⊢;rw[<-hxn,<-hxf,<-hxk]at cD ⊢;clear hks hdn;with_reducible refine cv9 (upO (Q1 l) c) (upO (Q1 l) x) (QA (Q1 l) (o++[x])) (QA (Q1 l) s1) (Q21 l) (dnW l) (dfW l) (duW (Q1 l)) (Q1 l) ?_
     refine⟨fun _=>⟨cD,hbd2 _,?_,(k-1,s1++[Q2Y l x k]),⟨?_,?_,?_⟩,?_,[some 0,some 1,some 2,some 3],_,rfl,?_⟩,fun h=>?_⟩
     ·show(-9223372036854775808:Int)<=k-1/\k-1<=(9223372036854775807:Int)
      have:=hn.eq
      omega
     ·show(-1:Int)<=k-1
      omega
     ·show k-1<n
      omega
     ·show(s1++[Q2Y l x k])++downs l x (k-1+1).toNat=_
      rw[show(k-1+1).toNat=k.toNat by omega];exact hks2
     ·show(k-1+1).toNat<(k+1).toNat
      omega
     ·exact eq1 happ2
     ·have h:¬0<=k:=of_decide_eq_false h
      omega
    ·have hk2:k=-1:=by omega
     subst hk2
     have hs2:s1=st0++downs l x (Qi l x).length:=by
      rw[<-hks];show s1=s1++[];simp
     simp only[Cur.el];rw[<-hxn,<-hxf,<-hxk];with_reducible refine cv9 (upO (Q1 l) c) (upO (Q1 l) x) (QA (Q1 l) (o++[x])) (QA (Q1 l) s1) (Q21 l) (dnW l) (dfW l) (duW (Q1 l)) (Q1 l) ?_
     refine⟨fun h=>?_,fun _=>?_⟩
     ·exact absurd (show decide ((0:Int)<=-1)=true from h) (by decide)
     rw[if_pos trivial];have hlt:o.length<most:=by have:=hlo.eq;have:=hmo.eq;omega
     refine⟨(o++[x],st0++downs l x (Qi l x).length),⟨?_,fun y hy=>?_,?_,?_⟩,?_,[some 0,some 1,some 2],_,rfl,?_⟩
     ·show(o++[x])++Q23 l (most-(o++[x]).length) (st0++downs l x (Qi l x).length)=R
      rw[<-hJ,show most-o.length=(most-(o++[x]).length)+1 by simp;omega,QaE]
      simp
     ·have hy:y∈st0++downs l x (Qi l x).length:=hy
      rcases mem_append.1 hy with hy|hy
      ·exact hin y (List.mem_append_left _ hy)
      ·exact Q7W ha hx _ (le_refl _) y hy
     ·show coC l (st0++downs l x (Qi l x).length)+(o++[x]).length<=C
      have h5:coC l [x]=1+coL l (Qi l x):=by
       show co l x.n+0=_;rw[Nat.add_zero,Qch ha.wf hx.h0 hx.h1];rfl
      rw[Q5e,h5]at hco;rw[Q5e,Q8s l x _ (le_refl _),take_length,length_append,length_singleton];omega
     ·show(o++[x]).length<=most
      simp;omega
     ·show most-(o++[x]).length<most-o.length
      simp;omega
     ·subst hs2
      exact eq0
  ·have h2:¬std.len (QA (Q1 l) o)<mo:=of_decide_eq_false h2
   rw[hoA]at h2
   have hR2:o=R:=by
    have:=hlo.eq
    have:=hmo.eq
    rw[<-hJ,show most-o.length=0 by omega]
    simp[Q23]
   rw[if_pos trivial,<-hR2];clear h2 hmo;with_reducible refine cv8 (upO (Q1 l) c) (QA (Q1 l) o) (QA (Q1 l) st) (Q21 l) (dnW l) (dfW l) (duW (Q1 l)) (Q1 l) ?_
   exact .pure rfl (.inl rfl)
  ·have h1:¬0<std.len (QA (Q1 l) st):=of_decide_eq_false h1
   rw[hsA]at h1;have hst:st=[]:=eq_nil_of_length_eq_zero (by have:=hls.eq;omega)
   have hR2:o=R:=by
    rw[<-hJ,hst,Qb9];simp
   rw[if_pos trivial,<-hR2];clear h1 hmo;with_reducible refine cv8 (upO (Q1 l) c) (QA (Q1 l) o) (QA (Q1 l) st) (Q21 l) (dnW l) (dfW l) (duW (Q1 l)) (Q1 l) ?_
   exact .pure rfl (.inl rfl)
end
theorem CurB.pr{l:List Node}{b:List UInt8}{C:Nat}{c:Cur}(ha:Ar l)(hl:l.length<=1000000000)(hb:b.length<=1000000)(hC:C<=1000000)(h:CurB l b C c):PrOk l c.n:=by
 refine⟨hl,ha.wf,ha.wide,h.1.h0,h.1.h1,?_,by have:=h.1.co;omega⟩
 obtain⟨pre,post,e1,_⟩:=h.2;have:=congrArg List.length e1
 simp only[length_append]at this;omega
theorem Qa6(l:List Node):∀(n:Nat)(st:List Cur),(Q23 l n st).length<=n
 |0,_=>le_refl _
 |n+1,st=>by
  unfold Q23;cases st.getLast? with
  |none=>exact zero_le _
  |some x=>simp only[length_cons];have:=Qa6 l n (st.dropLast++downs l x (Qi l x).length);omega
theorem Qif(l:List Int)(kd k skip:Nat)(bs:List UInt8):(QW l kd k skip bs).1=kd:=by unfold QW;split<;>rfl
theorem Qfo(kd a:Nat)(b:Bool)(h1:1<=kd)(h2:kd<=10):1<=(kd,a,b).1/\(kd,a,b).1<=11/\((kd,a,b).1=11->(kd,a,b).2.2=false) :=
 ⟨h1,by show kd<=11;omega,fun h=>by have h:kd=11:=h;omega⟩
theorem Qmx(a:Nat):1<=(11,a,false).1/\(11,a,false).1<=11/\((11,a,false).1=11->(11,a,false).2.2=false):=⟨by show 1<=11;omega,le_refl _,fun _=>rfl⟩
theorem QgM(l:List Int)(k:Nat):1<=(Qd l k).1/\(Qd l k).1<=11/\((Qd l k).1=11->(Qd l k).2.2=false):=by
 have up:∀kd skip bs,1<=kd->kd<=10->1<=(QW l kd k skip bs).1/\(QW l kd k skip bs).1<=11/\((QW l kd k skip bs).1=11->(QW l kd k skip bs).2.2=false):=fun kd skip bs h1 h2=>by
  rw[Qif];exact⟨h1,by omega,fun h=>by omega⟩
 unfold Qd;split
 ·unfold Q1s
  split
  ·exact up _ _ _ (by decide) (by decide)
  ·split
   ·exact up _ _ _ (by decide) (by decide)
   ·split
    ·exact up _ _ _ (by decide) (by decide)
    ·split
     ·unfold Q3F;exact Qfo _ _ _ (by decide) (by decide)
     ·split
      ·unfold Q3l;exact Qfo _ _ _ (by decide) (by decide)
      ·split
       ·unfold Q1m
        repeat' split
        all_goals exact Qfo _ _ _ (by decide) (by decide)
       ·exact Qmx _
 ·split
  ·unfold Q1e
   repeat' split
   all_goals first
    |exact Qfo _ _ _ (by decide) (by decide)
    |exact Qmx _
  ·split
   ·exact Qmx _
   ·exact Qfo _ _ _ (by decide) (by decide)
structure TokOk (l:List Int) (x:Tok):Prop where
 k0:1<=x.kind
 k1:x.kind<=11
 br:x.kind=11->x.whole=false
 f0:0<=x.from_
 f1:x.from_<x.to
 f2:x.to<=l.length
theorem Qh0(l:List Int):∀(n k:Nat),l.length-k<=n->∀x∈Q1L l k,TokOk l x
 |0,k,h,x,hx=>by
  rw[Q1a (by omega)]at hx;cases hx
 |n+1,k,h,x,hx=>by
  by_cases jB:k<l.length
  ·rw[Q1w jB]at hx
   have hr:=Q2a l k jB;have hb:=QgM l k;rcases mem_cons.1 hx with rfl|hx
   ·refine⟨?_,?_,?_,?_,?_,?_⟩
    ·show(1:Int)<=((Qd l k).1:Nat);omega
    ·show(((Qd l k).1:Nat):Int)<=11;omega
    ·intro h;exact hb.2.2 (by have h:(((Qd l k).1:Nat):Int)=11:=h;omega)
    ·show(0:Int)<=(k:Nat);omega
    ·show((k:Nat):Int)<((Qd l k).2.1:Nat);omega
    ·show(((Qd l k).2.1:Nat):Int)<=l.length;omega
   ·exact Qh0 l n _ (by omega) x hx
  ·rw[Q1a jB]at hx;cases hx
theorem QaX(l:List Int):∀x∈Q2E l,TokOk l x:=Qh0 l l.length 0 (by omega)
theorem Qcg(l:List Int):∀(n k:Nat),l.length-k<=n->(Q1L l k).length<=l.length-k
 |0,k,h=>by rw[Q1a (by omega)];simp
 |n+1,k,h=>by
  by_cases jB:k<l.length
  ·rw[Q1w jB,length_cons]
   have hr:=Q2a l k jB;have:=Qcg l n (Qd l k).2.1 (by omega)
   omega
  ·rw[Q1a jB];simp
theorem Q7D(l:List Int):(Q2E l).length<=l.length:=Qcg l l.length 0 (by omega)
def Q2g(l:List Node):Cur->Int
 |.root n=>if QO l n=21 then 1 else 0
 |.kid n _ _ up=>(if QO l n=21 then 1 else 0)+Q2g l up
section
open Tryz
def QqM(pc:List AV):Nat->List AV->List Ob->Option (AV×List Ob):=fun f args _=>match f,args with
 |46,[.val (.int .i64 _),.slc 1 _]=>some (.slc 3 pc,[])
 |_,_=>none
def Q1K(kind:Int)(b:List UInt8):List Int:=(Q4a kind b).map Itm.r
theorem QmO(kind:Int)(b:List UInt8)(hb:b.length<=1000000)(hp:(Q4a kind b).length<=1000000):BCall prog 58 [.val (.int .i64 kind),.slc 1 (Q4 b)] [] (.slc 1 (Q0 (Q1K kind b))) []:=by
 have cP:=Qa4 kind b (by omega)
 obtain⟨ps,jm⟩:=exq (Q4a kind b);unfold Q1K;rw[<-jm]at cP hp ⊢;obtain⟨n,hn⟩:=QG ps;have jH:std.len (QM ps)=n:=by show((QM ps).length:Int)=n;rw[Q3o,hn.eq]
 have en:=hn.eq;refine fnN (QqM (QM ps)) func58 rfl fun _ _=>?_
 with_reducible refine cv2 (QM ps) (Q4 b) ?_
 refine⟨cP,?_⟩;refine Q1h (QqM (QM ps)) (Int) (fun k=>⟨[(5,.row 0 0),(10,.slc 3 (QM ps)),(11,.val (.int .i64 n)),(12,.val (.int .i64 k))],[.row 21 1 false 0 (Q0 ((ps.take k.toNat).map Itm.r))]⟩) (fun k=>0<=k/\k<=n) (fun k=>(n-k).toNat) 0 ?_ ?_ ?_
 ·have:=hn.eq
  exact⟨Int.le_refl 0,by omega⟩
 ·refine⟨[none],_,rfl,?_⟩
  have e1:Q0 ((ps.take (0:Int).toNat).map Itm.r)=[]:=rfl;rw[e1];exact eq1 (gI jH)
 ·rintro k ⟨qI,jT⟩
  have qI:0<=k:=qI;have jT:k<=n:=jT;clear en;with_reducible refine cv3 (QM ps) (Q4 b) (Q0 ((ps.take k.toNat).map Itm.r)) ?_
  have en:=hn.eq;refine⟨fun h=>?_,fun h=>?_⟩
  ·have h:k<n:=of_decide_eq_true h
   have hk:k.toNat<ps.length:=by omega
   have jX:(QM ps).getD k.toNat .dead=ps[k.toNat].av:=by
    rw[List.getD_eq_getElem?_getD,QM,getElem?_map,getElem?_eq_getElem hk];rfl
   have e1:Q0 ((ps.take (k+1).toNat).map Itm.r)=Q0 ((ps.take k.toNat).map Itm.r)++[.val (.int .i32 ps[k.toNat].r)]:=by
    rw[show(k+1).toNat=k.toNat+1 by omega,take_add_one,getElem?_eq_getElem hk,List.map_append,Q8V];rfl
   have hl:(Q0 ((ps.take k.toNat).map Itm.r)).length<=1000000:=by rw[Qx,List.length_map,length_take];omega
   have hw:∀i:Nat,AV.cells ps[k.toNat].av=[.val (.int .i32 ps[k.toNat].r),.val (.int .i64 ps[k.toNat].off),.val (.int .i64 ps[k.toNat].n)]:=fun _=>rfl
   have ha:std.cel (std.at_ (QM ps) k)=[.val (.int .i32 ps[k.toNat].r),.val (.int .i64 ps[k.toNat].off),.val (.int .i64 ps[k.toNat].n)]:=by
    show AV.cells ((QM ps).getD k.toNat .dead)=_;rw[jX];rfl
   have h0:std.hasI .i32 (std.nth (std.cel (std.at_ (QM ps) k)) 0):=by rw[ha];rfl
   have h1:std.hasI .i64 (std.nth (std.cel (std.at_ (QM ps) k)) 1):=by rw[ha];rfl
   have h2:std.hasI .i64 (std.nth (std.cel (std.at_ (QM ps) k)) 2):=by rw[ha];rfl
   have hx:std.int (std.nth (std.cel (std.at_ (QM ps) k)) 0)=ps[k.toNat].r:=by rw[ha];rfl
   rw[<-hx]at e1;refine⟨?_,⟨h0,h1,h2,trivial⟩,?_,?_,k+1,⟨by omega,by omega⟩,by omega,[some 0],_,rfl,?_⟩
   ·show 0<=k/\k<std.len (QM ps)
    rw[jH];omega
   ·show(Q0 ((ps.take k.toNat).map Itm.r)).length+1<=1000000000
    omega
   ·show(-9223372036854775808:Int)<=k+1/\k+1<=(9223372036854775807:Int)
    omega
   ·have e1:std.app (Q0 ((ps.take k.toNat).map Itm.r)) [.val (.int .i32 (std.int (std.nth (std.cel (std.at_ (QM ps) k)) 0)))]=Q0 ((ps.take (k+1).toNat).map Itm.r):=e1.symm
    exact eq1 e1
  ·have h:¬k<n:=of_decide_eq_false h
   rw[if_pos trivial,show ps.take k.toNat=ps from take_of_length_le (by omega)]
   clear en;with_reducible refine cv3 (QM ps) (Q4 b) (Q0 (ps.map Itm.r)) ?_
   exact .pure rfl (.inl rfl)
def Qre(pr ru:Int->List AV)(n:Int):Nat->List AV->List Ob->Option (AV×List Ob):=fun f args _=>match f,args with
 |59,[.ref [.slc 6 _],.val (.int .i64 n)]=>some (.slc 1 (pr n),[])
 |58,[.val (.int .i64 _),.slc 1 _]=>some (.slc 1 (ru n),[])
 |_,_=>none
def trO:OT:=.then [0,1,3,4,5] (.fork (.of [2,6,7,8]) (.of [6,2,7,8]))
def ruN(kind:Int)(l:List Node)(n:Int):List Int:=Q1K kind (pr l n)
def ruA(kind:Int)(l:List Node)(n:Int):List AV:=Q0 (ruN kind l n)
theorem QeZ(t:Txt)(m:Mk)(n:Int)(h:PrOk (Qs m).n n)(hp:(Q4a t.kind (pr (Qs m).n n)).length<=1000000):BCall prog 31 [Q7e t m,.val (.int .i64 n)] [] (.slc 1 (Q0 (ruN t.kind (Qs m).n n))) []:=by
 have cP:=Qnn (Qs m).n h.len h.wf h.wide n h.h0 h.h1 h.p h.c;have cR:=QmO t.kind (pr (Qs m).n n) h.p hp;obtain⟨rt,zb⟩:=exq (m.n.length:Int);obtain⟨l,hl⟩:=exq ((Qs m).n);unfold Q7e;rw[<-zb,<-hl];rw[<-hl]at cP cR;clear h hp;have cP:BCall prog 59 [.ref [.slc 6 (Q1 l)],.val (.int .i64 n)] [] (.slc 1 (prA l n)) []:=cP;have cR:BCall prog 58 [.val (.int .i64 t.kind),.slc 1 (prA l n)] [] (.slc 1 (ruA t.kind l n)) []:=cR;show BCall _ _ _ _ (.slc 1 (ruA t.kind l n)) _;refine fnO false (Qre (prA l) (ruA t.kind l) n) (fun id=>match id with|1=> trO|_=>.nil) func31 rfl fun _ _=>?_
 with_reducible refine cv8 (prA l) (ruA t.kind l) (Q1 l) (Q0 t.r) (Q9 t.off) (Q11 m.d) t.kind t.bom ?_
 exact⟨⟨cP,cR,.pure rfl (.inl rfl)⟩,cP,cR,.pure rfl (.inl rfl)⟩
end
theorem Q9a(l:List UInt8)(h:(Qo l).1≠-1):0<Qy (Qo l).1:=by
 have h':¬((decodeL l).1=65533/\(decodeL l).2=1):=fun hh=>h (by rw[Qo,if_pos hh])
 rw[Qo,if_neg h'];show 0<Qy ((decodeL l).1:Int);clear h;rw[decodeL_N]at h' ⊢;have k0:=(l.getD 0 0).toNat_lt;have k1:=(l.getD 1 0).toNat_lt;have k2:=(l.getD 2 0).toNat_lt;have k3:=(l.getD 3 0).toNat_lt;rcases decodeN_shape l.length (l.getD 0 0).toNat (l.getD 1 0).toNat (l.getD 2 0).toNat (l.getD 3 0).toNat with ⟨c,e⟩|⟨c1,c2,c3,cv,e⟩|⟨c1,c2,c3,c4,cv,cs,e⟩|⟨c1,c2,c3,c4,c5,cv,cw,e⟩|e
 all_goals (rw[e]at h' ⊢;dsimp only at h' ⊢)
 all_goals (try (exact absurd ⟨rfl,rfl⟩ h'))
 all_goals (unfold Qy;repeat' split)
 all_goals omega
theorem Qgq(l:List UInt8)(n:Nat)(jI:l≠[])(hn:(Qo l).2<=n):Qo (l.take n)=Qo l:=by
 by_cases h:(Qo l).1=-1
 ·have h2:Qo l=(-1,1):=by
   unfold Qo at h ⊢;split
   ·rfl
   ·rename_i h3
    rw[if_neg h3]at h;simp only at h
    omega
  have h1:1<=n:=by rw[h2]at hn;exact hn
  have zm:l.take n≠[]:=by
   intro h3;rcases List.take_eq_nil_iff.1 h3 with h3|h3
   ·omega
   ·exact jI h3
  by_cases h3:(Qo (l.take n)).1=-1
  ·rw[h2]
   unfold Qo at h3 ⊢;split
   ·rfl
   ·rename_i h4
    rw[if_neg h4]at h3;simp only at h3
    omega
  ·have g:=Q5i _ zm h3
   have jJ:=Q5s _ zm;refine absurd ⟨l.drop (Qo (l.take n)).2,?_⟩ (QfU l h _ (Q9a _ h3));rw[<-g,take_take,Nat.min_eq_left (by rw[length_take]at jJ;omega),take_append_drop]
 ·have g:=Q5i _ jI h
  have hw:=Q9a _ h
  have e:l.take n=encodeRune (Qo l).1++(l.drop (Qo l).2).take (n-(Qo l).2):=by
   rw[<-g,<-drop_take];conv=>lhs;rw[<-take_append_drop (Qo l).2 (l.take n),take_take,Nat.min_eq_left hn]
  have e2:l=encodeRune (Qo l).1++l.drop (Qo l).2:=by rw[<-g,take_append_drop]
  rw[e,Q4U _ hw];conv=>rhs;rw[e2,Q4U _ hw]
theorem Q8L(big:Bool)(x y:UInt8):(Q1d big [x,y]).2=2:=by
 unfold Q1d;simp only;split<;>rfl
theorem Qj6(big:Bool)(l:List UInt8)(n:Nat)(jI:l≠[])(h:(Q1d big l).2<=n):Q1d big (l.take n)=Q1d big l:=by
 match l,jI with
 | [x],_ =>
  have h:(1:Int)<=n:=h;rw[take_of_length_le (by simp;omega)]
 | [x,y],_ =>
  rw[Q8L]at h;rw[take_of_length_le (by simp;omega)]
 | [x,y,z],_ =>
  have e:Q1d big [x,y,z]=Q1d big [x,y]:=rfl;rw[e,Q8L]at h;by_cases h2:n=2
  ·subst h2;rfl
  ·rw[take_of_length_le (by simp;omega)]
 |x::y::x2::y2::r,_ =>
  have e:Q1d big (x::y::x2::y2::r)=if(55296<=Q1b big x y/\Q1b big x y<56320)/\(56320<=Q1b big x2 y2/\Q1b big x2 y2<57344)then(65536+(Q1b big x y-55296) * 1024+(Q1b big x2 y2-56320),4)else Q1d big [x,y]:=rfl;by_cases hC:(55296<=Q1b big x y/\Q1b big x y<56320)/\(56320<=Q1b big x2 y2/\Q1b big x2 y2<57344)
  ·rw[e,if_pos hC]at h ⊢
   have h:(4:Int)<=n:=h;obtain⟨m,rfl⟩:∃m,n=m+4:=⟨n-4,by omega⟩
   show Q1d big (x::y::x2::y2::r.take m)=_;exact if_pos hC
  ·rw[e,if_neg hC]at h ⊢
   rw[Q8L]at h;by_cases h2:n=2
   ·subst h2;rfl
   ·by_cases h3:n=3
    ·subst h3;rfl
    ·obtain⟨m,rfl⟩:∃m,n=m+4:=⟨n-4,by omega⟩
     show Q1d big (x::y::x2::y2::r.take m)=_;exact if_neg hC
def Q2b(kind:Int)(l:List UInt8):Int×Nat:=if kind=0 then Qo l else((Q1d (decide (kind=1)) l).1,(Q1d (decide (kind=1)) l).2.toNat)
theorem Q6R(kind:Int)(l:List UInt8)(jI:l≠[]):1<=(Q2b kind l).2/\(Q2b kind l).2<=l.length:=by
 unfold Q2b;split
 ·exact⟨Q4Y l,Q5s l jI⟩
 ·have:=Q6L (decide (kind=1)) l jI
  simp only
  omega
theorem Qiv(kind:Int)(l:List UInt8)(n:Nat)(jI:l≠[])(h:(Q2b kind l).2<=n):Q2b kind (l.take n)=Q2b kind l:=by
 unfold Q2b at h ⊢;split
 ·rename_i hk
  rw[if_pos hk]at h;exact Qgq l n jI h
 ·rename_i hk
  rw[if_neg hk]at h;simp only at h
  rw[Qj6 _ l n jI (by omega)]
def Qfk(kind:Int)(n off:Nat)(l:List UInt8):List Itm:=if kind=0 then(Q22 n off l).map Qc7 else if kind=1 then Q1n true off l else if kind=2 then Q1n false off l else []
theorem Q5A(kind:Int)(n off:Nat):Qfk kind n off []=[]:=by
 unfold Qfk;rw[Q32,Q1n,dif_pos rfl,Q1n,dif_pos rfl];simp
theorem QcA(big:Bool)(off:Nat){l:List UInt8}(jI:l≠[]):Q1n big off l=⟨(Q1d big l).1,(off:Int),((Q1d big l).2.toNat:Int)⟩::Q1n big ((off+(Q1d big l).2.toNat:Nat):Int) (l.drop (Q1d big l).2.toNat):=by
 have:=Q6L big l jI
 have e1:((Q1d big l).2.toNat:Int)=(Q1d big l).2:=Int.toNat_of_nonneg (by omega)
 have e2:((off+(Q1d big l).2.toNat:Nat):Int)=(off:Int)+(Q1d big l).2:=by rw[Int.natCast_add,e1]
 rw[e2,e1];conv=>lhs;rw[Q1n,dif_neg jI]
theorem Q8G{kind:Int}(hk:kind=0\/kind=1\/kind=2){l:List UInt8}(jI:l≠[])(n off:Nat):Qfk kind (n+1) off l=⟨(Q2b kind l).1,off,(Q2b kind l).2⟩::Qfk kind n (off+(Q2b kind l).2) (l.drop (Q2b kind l).2):=by
 rcases hk with rfl|rfl|rfl
 ·obtain⟨b,t,rfl⟩:=List.exists_cons_of_ne_nil jI
  rfl
 ·exact QcA true off jI
 ·exact QcA false off jI
theorem QdZ{kind:Int}(hk:kind=0\/kind=1\/kind=2):∀(n off:Nat)(l:List UInt8),l.length<=n->(Qfk kind n off l).length<=l.length
 |0,off,l,h=>by
  obtain rfl:l=[]:=eq_nil_of_length_eq_zero (by omega)
  rw[Q5A];exact le_refl _
 |n+1,off,l,h=>by
  by_cases jI:l=[]
  ·subst jI
   rw[Q5A];exact le_refl _
  ·have hs:=Q6R kind l jI
   have ih:=QdZ hk n (off+(Q2b kind l).2) (l.drop (Q2b kind l).2) (by rw[length_drop];omega)
   rw[length_drop]at ih;rw[Q8G hk jI,length_cons];omega
theorem Q9T{kind:Int}(hk:kind=0\/kind=1\/kind=2)(l:List UInt8):(Q4a kind l).length<=l.length:=QdZ hk l.length 0 l (le_refl _)
def wdK(kind:Int):Nat->List UInt8->Nat
 |0,_=>0
 |j+1,l=>if l=[]then 0 else(Q2b kind l).2+wdK kind j (l.drop (Q2b kind l).2)
def rnK(kind:Int):Nat->List UInt8->List Int
 |0,_=>[]
 |n+1,l=>if l=[]then []else(Q2b kind l).1::rnK kind n (l.drop (Q2b kind l).2)
theorem Q7Z(kind:Int)(j:Nat):wdK kind j []=0:=by cases j<;>rfl
theorem Q5d(kind:Int)(n:Nat):rnK kind n []=[]:=by cases n<;>rfl
theorem QlK{kind:Int}(hk:kind=0\/kind=1\/kind=2):∀(n off:Nat)(l:List UInt8),l.length<=n->(Qfk kind n off l).map Itm.r=rnK kind n l
 |0,off,l,h=>by
  obtain rfl:l=[]:=eq_nil_of_length_eq_zero (by omega)
  rw[Q5A];rfl
 |n+1,off,l,h=>by
  by_cases jI:l=[]
  ·subst jI
   rw[Q5A];rfl
  ·have hs:=Q6R kind l jI
   rw[Q8G hk jI,rnK,if_neg jI,map_cons,QlK hk n _ _ (by rw[length_drop];omega)]
theorem QdY{kind:Int}(hk:kind=0\/kind=1\/kind=2):∀(n off:Nat)(l:List UInt8),l.length<=n->∀j,j<=(Qfk kind n off l).length->((Qfk kind n off l).map Itm.off++[((off+l.length:Nat):Int)])[j]?=some ((off+wdK kind j l:Nat):Int)
 |0,off,l,h,j,hj=>by
  obtain rfl:l=[]:=eq_nil_of_length_eq_zero (by omega)
  rw[Q5A]at hj ⊢;obtain rfl:j=0:=by simpa using hj
  rfl
 |n+1,off,l,h,j,hj=>by
  by_cases jI:l=[]
  ·subst jI
   rw[Q5A]at hj ⊢;obtain rfl:j=0:=by simpa using hj
   rfl
  ·have hs:=Q6R kind l jI
   rw[Q8G hk jI]at hj ⊢;cases j with
   |zero=>rfl
   |succ j =>
    have ih:=QdY hk n (off+(Q2b kind l).2) (l.drop (Q2b kind l).2) (by rw[length_drop];omega) j (by simpa using hj)
    rw[length_drop,show off+(Q2b kind l).2+(l.length-(Q2b kind l).2)=off+l.length by omega]at ih
    rw[wdK,if_neg jI,<-Nat.add_assoc,<-ih];rfl
theorem Qb3(kind:Int):∀(n m:Nat)(l:List UInt8),l.length<=n->l.length<=m->rnK kind n l=rnK kind m l
 |0,m,l,h,_=>by
  obtain rfl:l=[]:=eq_nil_of_length_eq_zero (by omega)
  rw[Q5d,Q5d]
 |n+1,0,l,_,h=>by
  obtain rfl:l=[]:=eq_nil_of_length_eq_zero (by omega)
  rw[Q5d,Q5d]
 |n+1,m+1,l,h1,h2=>by
  by_cases jI:l=[]
  ·subst jI;rfl
  ·have hs:=Q6R kind l jI
   rw[rnK,rnK,if_neg jI,if_neg jI,Qb3 kind n m _ (by rw[length_drop];omega) (by rw[length_drop];omega)]
theorem Qeq(kind:Int):∀(n j:Nat)(l:List UInt8),l.length<=n->rnK kind n (l.take (wdK kind j l))=(rnK kind n l).take j
 |0,j,l,h=>by
  obtain rfl:l=[]:=eq_nil_of_length_eq_zero (by omega)
  rw[Q7Z];simp[rnK]
 |n+1,j,l,h=>by
  by_cases jI:l=[]
  ·subst jI
   rw[Q7Z,Q5d];simp[Q5d]
  ·have hs:=Q6R kind l jI
   cases j with
   |zero=>rfl
   |succ j =>
    have ih:=Qeq kind n j (l.drop (Q2b kind l).2) (by rw[length_drop];omega)
    rw[wdK,if_neg jI]
    have zm:l.take ((Q2b kind l).2+wdK kind j (l.drop (Q2b kind l).2))≠[]:=by
     intro h3;rcases List.take_eq_nil_iff.1 h3 with h3|h3
     ·omega
     ·exact jI h3
    rw[rnK,if_neg zm,Qiv kind l _ jI (by omega),drop_take,show(Q2b kind l).2+wdK kind j (l.drop (Q2b kind l).2)-(Q2b kind l).2=wdK kind j (l.drop (Q2b kind l).2) by omega,ih,rnK,if_neg jI]
    rfl
theorem Qf5(kind:Int):∀(n j:Nat)(l:List UInt8),l.length<=n->rnK kind n (l.drop (wdK kind j l))=(rnK kind n l).drop j
 |0,j,l,h=>by
  obtain rfl:l=[]:=eq_nil_of_length_eq_zero (by omega)
  rw[Q7Z];simp[rnK]
 |n+1,j,l,h=>by
  by_cases jI:l=[]
  ·subst jI
   rw[Q7Z,Q5d];simp[Q5d]
  ·have hs:=Q6R kind l jI
   cases j with
   |zero=>rfl
   |succ j =>
    have ih:=Qf5 kind n j (l.drop (Q2b kind l).2) (by rw[length_drop];omega)
    rw[wdK,if_neg jI,<-drop_drop,Qb3 kind (n+1) n _ (by rw[length_drop,length_drop];omega) (by rw[length_drop,length_drop];omega),ih]
    conv=>rhs;rw[rnK,if_neg jI]
    rfl
theorem QhC(kind:Int):∀(f g:Nat)(l:List UInt8),wdK kind (f+g) l=wdK kind f l+wdK kind g (l.drop (wdK kind f l))
 |0,g,l=>by rw[zero_add];show _=0+wdK kind g (l.drop 0);rw[zero_add,List.drop_zero]
 |f+1,g,l=>by
  by_cases jI:l=[]
  ·subst jI;simp[Q7Z]
  ·rw[show f+1+g=(f+g)+1 by omega,wdK,if_neg jI,wdK,if_neg jI,QhC kind f g,drop_drop]
   omega
theorem Qcv{kind:Int}(hk:kind=0\/kind=1\/kind=2)(l:List UInt8):Q1K kind l=rnK kind l.length l:=QlK hk l.length 0 l (le_refl _)
theorem Qhh(b:List UInt8){j:Nat}(hj:j<=(Q6 b).r.length):Q2c (Q6 b) j=((QV b).2.toNat+wdK (QV b).1 j (b.drop (QV b).2.toNat):Nat):=by
 have hb:=Q4Z b
 have zE:j<=(Q2S b).length:=by
  have:(Q6 b).r.length=(Q2S b).length:=List.length_map _
  omega
 have h:=QdY (Q4J b) (b.drop (QV b).2.toNat).length 0 (b.drop (QV b).2.toNat) (le_refl _) j zE;have h:((Q2S b).map Itm.off++[((0+(b.drop (QV b).2.toNat).length:Nat):Int)])[j]?=some ((0+wdK (QV b).1 j (b.drop (QV b).2.toNat):Nat):Int):=h;rw[zero_add,zero_add,length_drop,show((b.length-(QV b).2.toNat:Nat):Int)=(b.length:Int)-(QV b).2 by omega]at h
 show((Q6 b).off[(j:Int).toNat]?.getD 0:Int)=_
 rw[QeV,Int.toNat_natCast,getElem?_map,h];show(_+_:Int)=_
 rw[Int.natCast_add,Int.toNat_of_nonneg hb.1,Int.add_comm]
theorem Q9f(b:List UInt8){f u:Int}(h0:0<=f)(h1:f<=u)(h2:u<=(Q6 b).r.length):Q1K (Q6 b).kind (QQ (Q6 b) b f u)=((Q6 b).r.drop f.toNat).take (u-f).toNat:=by
 obtain⟨i,rfl⟩:=Int.eq_ofNat_of_zero_le h0;obtain⟨g,rfl⟩:∃g:Nat,u=((i+g:Nat):Int):=⟨(u-i).toNat,by omega⟩
 obtain⟨c,hc⟩:=exq (b.drop (QV b).2.toNat);have e1:((Q6 b).off[(i:Int).toNat]?.getD 0:Int)=_:=Qhh b (j:=i) (by omega)
 have e2:((Q6 b).off[((i+g:Nat):Int).toNat]?.getD 0:Int)=_:=Qhh b (j:=i+g) (by omega)
 have hr:(Q6 b).r=rnK (QV b).1 c.length c:=by rw[hc];exact Qcv (Q4J b) _
 have hs:QQ (Q6 b) b i ((i+g:Nat):Int)=(c.drop (wdK (QV b).1 i c)).take (wdK (QV b).1 g (c.drop (wdK (QV b).1 i c))):=by
  unfold QQ;rw[e1,e2,<-hc,Int.toNat_natCast,QhC,<-drop_drop,<-hc];congr 1
  omega
 rw[hs,hr,show(((i+g:Nat):Int)-(i:Int)).toNat=g by omega,Int.toNat_natCast]
 show Q1K (QV b).1 _=_;rw[Qcv (Q4J b),Qb3 _ _ c.length _ (le_refl _) (by rw[length_take,length_drop];omega),Qeq _ _ _ _ (by rw[length_drop];omega),Qf5 _ _ _ _ (le_refl _)]
def shP(d:Int)(x:TPart):TPart:=⟨x.kind,x.from_+d,x.to+d⟩
theorem Q1J{r:List Int}(h:r≠[])(a:Int)(first:Bool):Qt a first r=⟨(Qj r first).1,a,a+(Qj r first).2⟩::Qt (a+(Qj r first).2) false (r.drop (Qj r first).2.toNat):=by
 conv=>lhs;rw[Qt,dif_neg h]
theorem Qaa(d:Int):∀(n:Nat)(r:List Int)(a:Int)(first:Bool),r.length<=n->Qt (a+d) first r=(Qt a first r).map (shP d)
 |0,r,a,first,h=>by
  obtain rfl:r=[]:=eq_nil_of_length_eq_zero (by omega)
  rw[Qt,dif_pos rfl,Qt,dif_pos rfl];rfl
 |n+1,r,a,first,h=>by
  by_cases hr:r=[]
  ·rw[Qt,dif_pos hr,Qt,dif_pos hr];rfl
  ·have hn:=Q3i r first hr
   have ih:=Qaa d n (r.drop (Qj r first).2.toNat) (a+(Qj r first).2) false (by rw[length_drop];omega)
   rw[Q1J hr,Q1J hr,map_cons,<-ih,shP,show a+d+(Qj r first).2=a+(Qj r first).2+d by omega]
theorem QmH(d:Int)(ps:List TPart)(a:Nat)(ks:List Int):QP (ps.map (shP d)) a ks=QP ps a ks:=by
 unfold QP;rw[<-List.map_drop,<-map_take,List.map_map];rfl
theorem Q6d(ps:List TPart):(Q1f ps).name=if QP ps 0 [1,2]=true then ps[1]?.getD Qn else Qn:=by
 unfold Q1f;split
 ·simp only
  split
  ·rfl
  ·rfl
 ·rfl
def Q2i(r:List Int):List Int:=QC ⟨0,0,r,[]⟩ 0 r.length
theorem Q7v(t:Txt){f u:Int}(h0:0<=f)(h1:f<=u)(h2:u<=t.r.length):Q2i ((t.r.drop f.toNat).take (u-f).toNat)=QC t f u:=by
 obtain⟨s,hs⟩:=exq ((t.r.drop f.toNat).take (u-f).toNat);have zD:(s.length:Int)=u-f:=by rw[hs,length_take,length_drop];omega
 have jV:(t.r.take u.toNat).drop f.toNat=s:=by rw[hs,drop_take];congr 1;omega
 have e1:QT s 0 s.length=Qt 0 true s:=by
  unfold QT;rw[Int.toNat_natCast,take_length];rfl
 have e2:QT t.r f u=(Qt 0 true s).map (shP f):=by
  unfold QT;rw[jV];have:=Qaa f s.length s 0 true (le_refl _)
  rw[Int.zero_add]at this;exact this
 rw[<-hs];unfold Q2i QC QB;rw[e1,e2,Q6d,Q6d,QmH];obtain⟨ps,jm⟩:=exq (Qt 0 true s);rw[<-jm];split
 ·rename_i ht
  have hl:=((Q3c (zero_le _)).1 ht).1;have hl:2<=ps.length:=by simpa using hl
  have jS:∀x∈ps,_:=fun x hx=>Q7J s s.length s 0 true (le_refl _) x (by rw[<-jm];exact hx)
  rw[getElem?_map,getElem?_eq_getElem (show 1<ps.length by omega)]
  have hp:=jS ps[1] (getElem_mem _);show(s.drop ps[1].from_.toNat).take (ps[1].to-ps[1].from_).toNat=(t.r.drop (ps[1].from_+f).toNat).take ((ps[1].to+f)-(ps[1].from_+f)).toNat
  rw[hs,drop_take,drop_drop,take_take,show(ps[1].from_+f).toNat=f.toNat+ps[1].from_.toNat by omega,show min (ps[1].to-ps[1].from_).toNat ((u-f).toNat-ps[1].from_.toNat)=((ps[1].to+f)-(ps[1].from_+f)).toNat by omega]
 ·rfl
theorem QaB{r:Int}(h:Qf r=true):0<Qy r:=by
 have key:∀x∈startSp,0<=x.1/\x.2<=1114111/\(x.2<55296\/57343<x.1):=by decide
 obtain⟨x,hx,hr⟩:=List.any_eq_true.1 (show startSp.any (fun x=>decide (x.1<=r)&&decide (r<=x.2))=true from h)
 have hk:=key x hx;simp only[Bool.and_eq_true,decide_eq_true_eq]at hr;unfold Qy;repeat' split
 all_goals omega
theorem Q91(t:Txt){f u:Int}(h0:0<=f)(h1:f<=u)(h2:u<=t.r.length)(jI:QC t f u≠[]):f+2<=u/\∃r0 rs,QC t f u=r0::rs/\Qf r0=true:=by
 obtain⟨s,hs⟩:=exq ((t.r.drop f.toNat).take (u-f).toNat);have zD:(s.length:Int)=u-f:=by rw[hs,length_take,length_drop];omega
 have gU:=Q7v t h0 h1 h2;rw[<-hs]at gU;rw[<-gU]at jI ⊢
 have e1:QT s 0 s.length=Qt 0 true s:=by
  unfold QT;rw[Int.toNat_natCast,take_length];rfl
 have en:Q2i s=(s.drop (Q1f (Qt 0 true s)).name.from_.toNat).take ((Q1f (Qt 0 true s)).name.to-(Q1f (Qt 0 true s)).name.from_).toNat:=by
  have e2:QB s 0 s.length=Q1f (Qt 0 true s):=by rw[QB,e1]
  show(s.drop (QB s 0 s.length).name.from_.toNat).take ((QB s 0 s.length).name.to-(QB s 0 s.length).name.from_).toNat=_
  rw[e2]
 rw[Q6d]at en;split at en
 ·rename_i ht
  have yW:=(Q3c (zero_le _)).1 ht;have hl:2<=(Qt 0 true s).length:=by simpa using yW.1
  have j1:((Qt 0 true s)[1]?.getD Qn).kind=2:=yW.2 1 (by decide)
  have qM:s≠[]:=by
   intro h;rw[h,Qt,dif_pos rfl]at hl;simp at hl
  have qa:=Q3i s true qM;rw[Q1J qM]at hl j1 en;obtain⟨x,hx⟩:=exq (s.drop (Qj s true).2.toNat);rw[<-hx]at hl j1 en
  have zy:x≠[]:=by
   intro h;rw[h,Qt,dif_pos rfl]at hl;simp at hl
  have vE:=Q3i x false zy;rw[Q1J zy]at j1 en;have j1:(Qj x false).1=2:=j1;have en:Q2i s=(s.drop (0+(Qj s true).2).toNat).take ((0+(Qj s true).2+(Qj x false).2)-(0+(Qj s true).2)).toNat:=en;rw[show(0+(Qj s true).2).toNat=(Qj s true).2.toNat by omega,<-hx,show((0+(Qj s true).2+(Qj x false).2)-(0+(Qj s true).2)).toNat=(Qj x false).2.toNat by omega]at en
  have jr:x.length=s.length-(Qj s true).2.toNat:=by rw[hx,length_drop]
  have jF:0<Qk x 0:=by
   unfold Qj at j1;rw[if_neg (by simp),if_neg (by simp)]at j1
   split at j1
   ·simp at j1
   ·split at j1
    ·rename_i h;omega
    ·split at j1
     ·simp at j1
     ·split at j1
      ·simp at j1
      ·split at j1<;>simp at j1
  obtain⟨r0,rs,rfl⟩:=List.exists_cons_of_ne_nil zy
  have jG:Qf r0=true:=by
   by_cases hq:Qf r0=true
   ·exact hq
   ·have:Qk (r0::rs) 0=0:=by show(if Qf r0 then _ else 0)=0;rw[if_neg hq]
    omega
  refine⟨by simp only[length_cons]at jr;omega,r0,rs.take ((Qj (r0::rs) false).2.toNat-1),?_,jG⟩
  rw[en];obtain⟨q,hq⟩:∃q,(Qj (r0::rs) false).2.toNat=q+1:=⟨_,(Nat.sub_add_cancel (by omega)).symm⟩
  rw[hq];rfl
 ·exact absurd en (by intro h;rw[h]at jI;exact jI rfl)
