/- Lemmas, conditions told -/
import Derived.Test.YtlaegncokadkkaaGreatG18
set_option maxRecDepth 99999
set_option maxHeartbeats 0
set_option linter.unusedSimpArgs false
set_option linter.unusedVariables false
namespace Go.Proofs.YtlaegncokadkkaaGreat
open List(length_drop getD_eq_getElem?_getD length_take map_take mem_map getElem?_take getElem?_drop length_map drop_zero)
open Nat(le_refl zero_le le_trans le_of_ble_eq_true)
section
open Go.RowKit Go.Lib Tryz
def Q9W(t:Txt)(b:List UInt8)(k f u:Int)(w:Bool)(N D S:List AV):List AV:=Q9 (Q36 t b k f u w (mkB N D S)).n
def Q9p(t:Txt)(b:List UInt8)(k f u:Int)(w:Bool)(N D S:List AV):List AV:=QJ (Q36 t b k f u w (mkB N D S)).d
def Qa9(t:Txt)(b:List UInt8)(k f u:Int)(w:Bool)(N D S:List AV):List AV:=Qc (Q36 t b k f u w (mkB N D S)).s
theorem Ql1(t:Txt)(b:List UInt8)(k f u:Int)(w:Bool)(m:Mk):Q9W t b k f u w (Q9 m.n) (QJ m.d) (Qc m.s)=Q9 (Q36 t b k f u w m).n:=by rw[Q9W,Q1J]
theorem QkZ(t:Txt)(b:List UInt8)(k f u:Int)(w:Bool)(m:Mk):Q9p t b k f u w (Q9 m.n) (QJ m.d) (Qc m.s)=QJ (Q36 t b k f u w m).d:=by rw[Q9p,Q1J]
theorem QkP(t:Txt)(b:List UInt8)(k f u:Int)(w:Bool)(m:Mk):Qa9 t b k f u w (Q9 m.n) (QJ m.d) (Qc m.s)=Qc (Q36 t b k f u w m).s:=by rw[Qa9,Q1J]
def QmO(p:Pr)(TK:List AV)(tn td ts:Int->Int->Int->Bool->List AV->List AV->List AV->List AV)(mn md ms:Int->List AV->List AV->List AV->List AV)(br:Int->List AV->List AV->List AV):Nat->List AV->List Ob->Option (AV×List Ob):=fun f args ob=>match f,args with
 |101,[.slc 1 _]=>some (.slc 4 TK,[])
 |102,[.box 0 0,.agg [.val (.int .i64 kind),.val (.int .i64 f),.val (.int .i64 u),.val (.bool wh)]]=>Q37 ob fun b k m r o rt N D S=>some (.tup [],obM 1 b k m r o rt (tn kind f u wh N D S) (td kind f u wh N D S) (ts kind f u wh N D S))
 |103,[.box 0 0,.val (.int .i64 a)]=>Q37 ob fun b k m r o rt N D S=>some (.tup [],obM 1 b k m r o rt (mn a N D S) (md a N D S) (ms a N D S))
 |104,[.box 0 0,.val (.int .i64 k),.slc 1 ks]=>match ob with
  | [.box [.row 1 0],.row 197 6 false 0 N]=>some (.tup [.val (.int .i64 (p.len N)),.val (.int .i64 0)],[.box [.row 1 1],.row 197 6 false 1 (br k ks N)])
  |_=>none
 |_,_=>none
def alO:OT:=.then [0,1,2,4,5,6,7,8,9,10,11,12,13,14,15,16,17] (.fork (.of [3,18,19,20,21,22,23,24]) (.of [18,19,20,21,3,22,23,24]))
theorem Qg0(l:List Int):∀n k:Nat,l.length-k<=n->(Q3J l k).length<=n
 |0,k,h=>by rw[Q5d (by omega)];exact le_refl _
 |n+1,k,h=>by
  by_cases hk:k<l.length
  ·have:=Q3S l k hk
   rw[Q4x hk,List.length_cons];have:=Qg0 l n (QZ l k).2.1 (by omega)
   omega
  ·rw[Q5d hk];exact zero_le _
theorem Qmg(t:Txt)(b:List UInt8)(hs:Sml t b)(rt:Int)(m:Mk)(B D:Nat)(iv:MkI m (Q7E t b 0) B D)(hB:B+3 * t.r.length<=600000)(hD:D+3 * t.r.length<=600000) :
  BCall prog 65 [.box 0 0] (obT 0 t b rt m) (.tup []) (obT 1 t b (Qc9 t b m).n.length (Q7L (Qc9 t b m))):=by
 have cT:=Qii t.r hs.hr;obtain⟨toks,yv⟩:=exq (Qb1 t.r);rw[<-yv]at cT
 have gf:toks.length<=1000000:=by
  have:=Qg0 t.r t.r.length 0 (by omega)
  rw[yv];exact le_trans this hs.hr
 obtain⟨n,hn⟩:=QC toks;obtain⟨M0,xu⟩:=exq (toks.foldl (QbX t b) m);obtain⟨M1,hM1⟩:=exq (Qc9 t b m);have hM01:M1=missGo t t.r.length 0 M0.s.length M0:=by rw[hM1,xu,yv];rfl
 rw[<-hM1];obtain⟨E,hE⟩:=exq (Q7L M1);unfold obT obM;refine fnO false (QmO std (Q1L toks) (Q9W t b) (Q9p t b) (Qa9 t b) (Q4K t) (Q4J t) (Q4W t) brA) (fun id=>match id with|7=> alO|_=>.nil) func65 rfl fun _ _=>?_
 generalize hS:Qc m.s=S;generalize vD:Q5 b=B';generalize hR:Q0 t.r=R;generalize hO:Qh t.off=O;generalize hK:t.kind=K;generalize hM:t.bom=M;with_reducible refine Q5j (Q1L toks) (Q9W t b) (Q9p t b) (Qa9 t b) (Q4K t) (Q4J t) (Q4W t) brA (Q9 m.n) (QJ m.d) ?_
 subst hS vD hR hO hK hM;have tlen:=Qdl toks;have qi:std.len (Q1L toks)=n:=by show((Q1L toks).length:Int)=n;rw[tlen,hn.eq]
 refine⟨cT,?_⟩;refine Q1p (QmO std (Q1L toks) (Q9W t b) (Q9p t b) (Qa9 t b) (Q4K t) (Q4J t) (Q4W t) brA) (Int×Mk×Nat) (fun x=>⟨[(0,.box 0 0),(12,.slc 4 (Q1L toks)),(13,.val (.int .i64 n)),(14,.val (.int .i64 x.1))],[.box [.slc 1 (Q5 b),.box 1 0,.row 5 1],.box [.val (.int .i64 t.kind),.val (.int .i64 t.bom),.slc 1 (Q0 t.r),.slc 1 (Qh t.off),.box 2 0,.val (.int .i64 rt),.row 4 1],.box [.row 3 1],.row 197 6 false 1 (Q9 x.2.1.n),.row 233 3 false 1 (QJ x.2.1.d),.row 136 2 false 1 (Qc x.2.1.s)]⟩) (fun x=>0<=x.1/\x.1<=n/\x.2.2<=t.r.length/\Q3J t.r x.2.2=toks.drop x.1.toNat/\MkI x.2.1 (Q7E t b x.2.2) (B+3 * x.2.2) (D+3 * x.2.2)/\(toks.drop x.1.toNat).foldl (QbX t b) x.2.1=M0) (fun x=>(n-x.1).toNat) (0,m,0) ?_ ?_ ?_
 ·have:=hn.eq
  exact⟨Int.le_refl _,by simp only;omega,zero_le _,by rw[yv];rfl,iv,xu.symm⟩
 ·refine⟨[some 0,some 1,some 2,some 3,some 4,some 5],_,rfl,?_⟩
  exact eq1 qi
 ·rintro⟨i,x,k⟩ ⟨qz,gH,hk,hd,hv,hf⟩
  simp only at qz gH hk hd hv hf
  have okx:=hv.i.ok (by omega) (by omega)
  rcases Int.lt_or_eq_of_le gH with jE|jj
  ·have en:=hn.eq
   have yd:i.toNat<toks.length:=by omega
   have qE:k<t.r.length:=by
    by_cases h:k<t.r.length
    ·exact h
    ·rw[Q5d h]at hd
     have:=congrArg List.length hd
     rw[length_drop]at this;simp at this;omega
   obtain⟨t1,t2,t3,t4⟩:=QnF t.r qE;have pe:toks.drop i.toNat=Q1M t.r k::Q3J t.r (QZ t.r k).2.1:=by rw[<-hd,Q4x qE]
   have zi:toks[i.toNat]?=some (Q1M t.r k):=by rw[<-List.head?_drop,pe];rfl
   have xK:Q3J t.r (QZ t.r k).2.1=toks.drop (i+1).toNat:=by
    rw[show(i+1).toNat=i.toNat+1 by omega,<-List.tail_drop,pe];rfl
   have jW:(Q1L toks).getD i.toNat .dead=(Q1M t.r k).av:=by
    rw[getD_eq_getElem?_getD,Q1L,List.getElem?_map,zi];rfl
   have je:InT t (Q1M t.r k).from_ (Q1M t.r k).to:=⟨by omega,by omega,by omega⟩
   have hXl:(Q7E t b k).length<=1000000:=by
    have:=hs.hb
    rw[Q7E,length_take];omega
   have c:=Qmc t b hs rt x (Q7E t b k) (B+3 * k) (D+3 * k) hv.i (by omega) (by omega) hXl (Q1M t.r k).kind (Q1M t.r k).from_ (Q1M t.r k).to (Q1M t.r k).whole je
   have zz:MkI (QbX t b x (Q1M t.r k)) (Q7E t b (QZ t.r k).2.1) (B+3 * (QZ t.r k).2.1) (D+3 * (QZ t.r k).2.1):=by
    have:=hv.token t b hs.hr (Q1M t.r k).kind (Q1M t.r k).from_ (Q1M t.r k).to (Q1M t.r k).whole
    rw[t1,t2,Qep hs.ok (by omega) (by omega) (by omega)]at this
    have e:QbX t b x (Q1M t.r k)=Q36 t b (Q1M t.r k).kind k ((QZ t.r k).2.1:Nat) (Q1M t.r k).whole x:=rfl;rw[e];exact⟨this.i.mono (by omega) (by omega),this.c⟩
   have qP:(toks.drop (i+1).toNat).foldl (QbX t b) (QbX t b x (Q1M t.r k))=M0:=by
    rw[pe,List.foldl_cons]at hf;rw[<-xK];exact hf
   obtain⟨y,hy⟩:=exq (Q1M t.r k);obtain⟨k2,qC⟩:=exq ((QZ t.r k).2.1);rw[<-hy]at jW je c zz qP;rw[<-qC]at zz xK t4;clear en t1 t2 t3 pe zi hd hf hy qC qE;generalize hS:Qc x.s=S;generalize vD:Q5 b=B';generalize hR:Q0 t.r=R;generalize hO:Qh t.off=O;generalize hK:t.kind=K;generalize hM:t.bom=M;with_reducible refine Q5j (Q1L toks) (Q9W t b) (Q9p t b) (Qa9 t b) (Q4K t) (Q4J t) (Q4W t) brA (Q9 x.n) (QJ x.d) ?_
   subst hS vD hR hO hK hM;unfold obT obM at c;simp only[std,jW,Tok.av,AV.cells,List.getD_cons_zero,List.getD_cons_succ,intOf,Q8M,Q3R,Ql1,QkZ,QkP,decide_eq_true_eq,decide_eq_false_iff_not];refine⟨fun _=>⟨?_,⟨trivial,trivial,trivial,trivial,trivial⟩,c,?_,(i+1,QbX t b x y,k2),⟨?_,?_,t4,xK,zz,qP⟩,?_,[some 0,some 1,some 2,some 3,some 4,some 5],_,rfl,?_⟩,fun h=>?_⟩
   ·have:=hn.eq
    rw[tlen];omega
   ·have:=hn.eq
    have:=hs.hr
    show(-9223372036854775808:Int)<=i+1/\i+1<=(9223372036854775807:Int)
    omega
   ·show 0<=i+1
    omega
   ·show i+1<=n
    omega
   ·show(n-(i+1)).toNat<(n-i).toNat
    omega
   ·simp[Qf,lk,QbX]
   ·omega
  ·have px:toks.drop i.toNat=[]:=List.drop_eq_nil_of_le (by have:=hn.eq;omega)
   rw[px]at hd hf;have hxM:x=M0:=hf
   have xZ:k=t.r.length:=by
    by_cases h:k<t.r.length
    ·rw[Q4x h]at hd;cases hd
    ·omega
   subst hxM;rw[jj];clear hd hf px hk;have hlr:(t.r.length:Int)=t.r.length:=rfl;obtain⟨rl,qI⟩:=QC t.r;generalize hS:Qc x.s=S;generalize vD:Q5 b=B';generalize hR:Q0 t.r=R;generalize hO:Qh t.off=O;generalize hK:t.kind=K;generalize hM:t.bom=M;with_reducible refine Q5j (Q1L toks) (Q9W t b) (Q9p t b) (Qa9 t b) (Q4K t) (Q4J t) (Q4W t) brA (Q9 x.n) (QJ x.d) ?_
   subst hS vD hR hO hK hM;refine⟨fun h=>?_,fun _=>?_⟩
   ·have h:n<n:=of_decide_eq_true h
    omega
   rw[if_pos trivial];generalize hS:Qc x.s=S;generalize vD:Q5 b=B';generalize hR:Q0 t.r=R;generalize hO:Qh t.off=O;generalize hK:t.kind=K;generalize hM:t.bom=M;with_reducible refine Q5j (Q1L toks) (Q9W t b) (Q9p t b) (Qa9 t b) (Q4K t) (Q4J t) (Q4W t) brA (Q9 x.n) (QJ x.d) ?_
   subst hS vD hR hO hK hM;rw[xZ,QjS hs.ok]at hv;have ym:MkI x b (B+3 * t.r.length) (D+3 * t.r.length):=hv;have hrl2:std.len (Q0 t.r)=rl:=by show((Q0 t.r).length:Int)=rl;rw[Q6,qI.eq]
   clear hv xZ hlr okx jj qz gH;refine Q1p (QmO std (Q1L toks) (Q9W t b) (Q9p t b) (Qa9 t b) (Q4K t) (Q4J t) (Q4W t) brA) (Mk) (fun x=>⟨[(0,.box 0 0)],[.box [.slc 1 (Q5 b),.box 1 0,.row 5 1],.box [.val (.int .i64 t.kind),.val (.int .i64 t.bom),.slc 1 (Q0 t.r),.slc 1 (Qh t.off),.box 2 0,.val (.int .i64 rt),.row 4 1],.box [.row 3 1],.row 197 6 false 1 (Q9 x.n),.row 233 3 false 1 (QJ x.d),.row 136 2 false 1 (Qc x.s)]⟩) (fun x=>MkI x b (B+3 * t.r.length) (D+3 * t.r.length)/\missGo t t.r.length 0 x.s.length x=M1) (fun x=>x.s.length) x ?_ ?_ ?_
   ·exact⟨ym,hM01.symm⟩
   ·exact⟨[some 0,some 1,some 2,some 3,some 4,some 5],_,rfl,by simp[Qf,lk,std]⟩
   ·rintro y ⟨hv,hg⟩
    have oky:=hv.i.ok (by omega) (by omega)
    have ylen:=Q3d y.s;obtain⟨LY,hLY⟩:=QC y.s;generalize hS:Qc y.s=S;generalize vD:Q5 b=B';generalize hR:Q0 t.r=R;generalize hO:Qh t.off=O;generalize hK:t.kind=K;generalize hM:t.bom=M;with_reducible refine Q5j (Q1L toks) (Q9W t b) (Q9p t b) (Qa9 t b) (Q4K t) (Q4J t) (Q4W t) brA (Q9 y.n) (QJ y.d) ?_
    subst hS vD hR hO hK hM;have hly:std.len (Qc y.s)=LY:=by show((Qc y.s).length:Int)=LY;rw[ylen,hLY.eq]
    simp only[Qga,Qfq,QfV];refine⟨fun yg=>?_,fun jF=>?_⟩
    ·have yg:1<std.len (Qc y.s):=of_decide_eq_true yg
     rw[hly]at yg;have hy2:2<=y.s.length:=by have:=hLY.eq;omega
     have gr:=qI.eq;have jP:=hs.ok.len;have c:=QiF t b rt hv.i (by omega) (by omega) hs.hb t.r.length (by omega) hy2
     have erl:(t.r.length:Int)=std.len (Q0 t.r):=by rw[hrl2];exact gr.symm
     rw[erl]at c;refine⟨c,Q3l t (std.len (Q0 t.r)) y,⟨by rw[<-erl];exact hv.miss hy2 t t.r.length,?_⟩,by rw[Q7d];omega,[some 0,some 1,some 2,some 3,some 4,some 5],_,rfl,by simp[Qf,lk,std]⟩
     rw[<-erl,<-Q8I (by omega)];exact hg
    ·have jF:¬1<std.len (Qc y.s):=of_decide_eq_false jF
     rw[hly]at jF;have xR:y.s.length=1:=by have:=hLY.eq;have:=hv.i.s1;omega
     have hyM:y=M1:=by rw[<-hg,Q9y (by omega)]
     subst hyM;clear jF hly;rw[if_pos trivial];generalize hS:Qc y.s=S;generalize vD:Q5 b=B';generalize hR:Q0 t.r=R;generalize hO:Qh t.off=O;generalize hK:t.kind=K;generalize hM:t.bom=M;with_reducible refine Q5j (Q1L toks) (Q9W t b) (Q9p t b) (Qa9 t b) (Q4K t) (Q4J t) (Q4W t) brA (Q9 y.n) (QJ y.d) ?_
     subst hS vD hR hO hK hM;obtain⟨o,ho⟩:∃o,y.s=[o]:=List.length_eq_one_iff.1 xR;have k7:QM y.s=o:=by rw[ho];rfl
     have hcell:std.nth (std.drp (std.cel (std.at_ (Qc y.s) 0)) 1) 0=slK (QM y.s).kids:=by rw[k7,ho];rfl
     have yh:std.lst (slK (QM y.s).kids)=Qh (QM y.s).kids:=by cases(QM y.s).kids<;>rfl
     have xw:std.lst (std.nth (std.drp (std.cel (std.at_ (Qc y.s) 0)) 1) 0)=Qh (QM y.s).kids:=by rw[hcell,yh]
     have xx:((QM y.s).kids.flatMap (pr y.n)).length<=b.length:=by
      have:=hv.i.p
      rw[k7,<-this,ho];simp[prK]
     have qE:(QM y.s).kids.length<=900000:=oky.top;have cB:=Qdt y.n (by have:=oky.n;omega) 20 (QM y.s).kids (by omega) hv.i.top hv.i.ar.ok.w hv.i.ar.ok.c (MkInv.sum hv.i.ar hv.i.top xx (by have:=hs.hb;omega))
     rw[<-QbN,<-Q1z,<-xw]at cB;have hnl2:=Q1z y.n
     have fin:brA 20 (std.lst (std.nth (std.drp (std.cel (std.at_ (Qc y.s) 0)) 1) 0)) (Q9 y.n)=Q9 (Q7L y).n:=by
      rw[xw,QbN];rfl
     have e0:std.len (Q9 y.n)=(y.n.length:Int):=by show((Q9 y.n).length:Int)=_;rw[hnl2]
     refine⟨?_,⟨?_,trivial⟩,⟨cB,?_⟩,cB,?_⟩
     ·show 0<=(0:Int)/\(0:Int)<std.len (Qc y.s)
      show 0<=(0:Int)/\(0:Int)<((Qc y.s).length:Int);rw[ylen,xR];decide
     ·show std.hasL 1 (std.nth (std.drp (std.cel (std.at_ (Qc y.s) 0)) 1) 0)
      rw[hcell];rcases Qkg (QM y.s).kids with h|h
      ·exact .inl (by rw[h];rfl)
      ·exact .inr h.1
     all_goals
      refine⟨[some 0,some 1,some 2,some 3,some 4,some 5],.tup [],_,rfl,rfl,le_of_ble_eq_true rfl,rfl,?_,trivial⟩;exact eq2 e0 fin
def mk0:Mk:=⟨[],[],[⟨[],[]⟩]⟩
def Qi5(bs:List UInt8):Mk:=Q3i 0 (Q1W (QA 23 bs) mk0)
def Q6Q(b:List UInt8):Mk:=if 0<(Q18 b).2 then Qi5 (b.take (Q18 b).2.toNat)else mk0
def Qby(b:List UInt8):Mk:=Qc9 (Q2f b) b (Q6Q b)
def Qms(t:Txt)(m:Mk):AV:=.agg [.val (.int .i64 t.kind),.val (.int .i64 t.bom),.slc 1 (Q0 t.r),.slc 1 (Qh t.off),.ref [.slc 6 (Q9 (Q7L m).n)],.val (.int .i64 m.n.length),.slc 3 (QJ m.d)]
def Qoj(kd bm:Int)(R O:List AV)(rt:Int)(an ad asx N1 S1:List AV):Nat->List AV->List Ob->Option (AV×List Ob):=fun f args ob=>match f,args with
 |61,[.slc 1 _]=>some (.agg [.val (.int .i64 kd),.val (.int .i64 bm),.slc 1 R,.slc 1 O],[])
 |62,[]=>some (.box 0 0,[.box [.val (.slice none 0 0)]])
 |64,[.box 0 0,.val (.int .i64 _),.slc 1 _]=>match ob with
  | [.box [.val (.slice none 0 0)]]=>some (.val (.int .i64 0),[.box [.row 1 1],.row 197 6 false 1 N1])
  |_=>none
 |63,[.box 0 0,.val (.int .i64 _)]=>match ob with
  | [.box [b,.box 1 0,.row 4 0],.box [k,m,r,o,.box 2 0,q,.val (.slice none 0 0)],.box [.row 3 0],.row 197 6 false 0 N,.row 136 2 false 0 _] =>
   some (.tup [],[.box [b,.box 1 0,.row 4 1],.box [k,m,r,o,.box 2 0,q,.row 5 1],.box [.row 3 1],.row 197 6 false 1 N,.row 136 2 false 1 S1,.row 233 3 false 1 []])
  |_=>none
 |65,[.box 0 0]=>match ob with
  | [.box [b,.box 1 0,.row 3 0],.box [k,m,r,o,.box 2 0,_,.val (.slice none 0 0)],.box [.val (.slice none 0 0)],.row 136 2 false 0 _] =>
   some (.tup [],[.box [b,.box 1 0,.row 3 1],.box [k,m,r,o,.box 2 0,.val (.int .i64 rt),.row 4 1],.box [.row 5 1],.row 136 2 false 1 asx,.row 233 3 false 1 ad,.row 197 6 false 1 an])
  |_=>Q37 ob fun b k m r o _ _ _ _=>some (.tup [],obM 1 b k m r o (.val (.int .i64 rt)) an ad asx)
 |_,_=>none
theorem mk0_inv:MkI mk0 [] 2 2 :=
 have h:∀x∈mk0.s,x=⟨[],[]⟩:=fun x hx=>by simpa[mk0]using hx
 ⟨⟨QmW,(fun x hx=>by rw[h x hx];exact fun k hk=>by cases hk),rfl,le_refl _,le_refl _,le_refl _,le_refl _,(fun x hx=>by rw[h x hx];exact zero_le _)⟩,le_refl _⟩
theorem Qiv(bs:List UInt8):MkI (Qi5 bs) bs 3 2:=by
 have h:=mk0_inv;have ha:=Q5h h.i.ar 23 bs;exact⟨Qfr h.i ha.1 ha.2,Q6O h.i h.c 23 bs⟩
theorem Qhc(b:List UInt8):Q7E (Q2f b) b 0=b.take (Q18 b).2.toNat:=by
 rw[Q7E,Q31,show(0:Int).toNat=0 from rfl,(Q8Z b).2.1]
theorem Qgv(b:List UInt8):MkI (Q6Q b) (Q7E (Q2f b) b 0) 3 2:=by
 rw[Qhc,Q6Q];have hb:=Q5P b;split
 ·exact Qiv _
 ·have:(Q18 b).2=0:=by omega
  rw[this];exact⟨mk0_inv.i.mono (by omega) (le_refl _),mk0_inv.c⟩
theorem Qj7(b:List UInt8)(hb:b.length<=100000):Sml (Q2f b) b:=⟨by omega,le_trans (Q8Z b).2.2.1 (by omega),(Q8Z b).1⟩
theorem Ql8(t:Txt)(b:List UInt8)(hs:Sml t b)(B D:Nat)(iv:MkI mk0 (Q7E t b 0) B D)(hB:B+3 * t.r.length<=600000)(hD:D+3 * t.r.length<=600000) :
  BCall prog 65 [.box 0 0] [.box [.slc 1 (Q5 b),.box 1 0,.row 3 0],.box [.val (.int .i64 t.kind),.val (.int .i64 t.bom),.slc 1 (Q0 t.r),.slc 1 (Qh t.off),.box 2 0,.val (.int .i64 0),.val (.slice none 0 0)],.box [.val (.slice none 0 0)],.row 136 2 false 0 (Qc mk0.s)] (.tup [])
   [.box [.slc 1 (Q5 b),.box 1 0,.row 3 1],.box [.val (.int .i64 t.kind),.val (.int .i64 t.bom),.slc 1 (Q0 t.r),.slc 1 (Qh t.off),.box 2 0,.val (.int .i64 (Qc9 t b mk0).n.length),.row 4 1],.box [.row 5 1],.row 136 2 false 1 (Qc (Q7L (Qc9 t b mk0)).s),.row 233 3 false 1 (QJ (Q7L (Qc9 t b mk0)).d),.row 197 6 false 1 (Q9 (Q7L (Qc9 t b mk0)).n)]:=by
 have h:=Qmg t b hs 0 mk0 B D iv hB hD;unfold obT obM at h;exact h.tell [some 0,some 1,some 2,none,none,some 3] [some 0,some 1,some 2,some 5,some 4,some 3] rfl rfl rfl (le_of_ble_eq_true rfl) rfl (by simp[Qf,Q9,QJ,mk0]) (res':=.tup []) rfl (by simp[Qf]) trivial
theorem QlI(t:Txt)(b:List UInt8)(m:Mk)(hd:m.d=[])(hs:1<=m.s.length)(hn:m.s.length<=1000000)(hk:(QM m.s).kids.length<=1000000)(n:Int) :
  BCall prog 63 [.box 0 0,.val (.int .i64 n)] [.box [.slc 1 (Q5 b),.box 1 0,.row 4 0],.box [.val (.int .i64 t.kind),.val (.int .i64 t.bom),.slc 1 (Q0 t.r),.slc 1 (Qh t.off),.box 2 0,.val (.int .i64 0),.val (.slice none 0 0)],.box [.row 3 0],.row 197 6 false 0 (Q9 m.n),.row 136 2 false 0 (Qc m.s)] (.tup [])
   [.box [.slc 1 (Q5 b),.box 1 0,.row 4 1],.box [.val (.int .i64 t.kind),.val (.int .i64 t.bom),.slc 1 (Q0 t.r),.slc 1 (Qh t.off),.box 2 0,.val (.int .i64 0),.row 5 1],.box [.row 3 1],.row 197 6 false 1 (Q9 m.n),.row 136 2 false 1 (Qc (Q2L n m.s)),.row 233 3 false 1 []]:=by
 have h:=Q9T t b 0 m hs hn hk n;unfold obT obM at h;exact h.tell [some 0,some 1,some 2,some 3,none,some 4] [some 0,some 1,some 2,some 3,some 5,some 4] rfl rfl rfl (le_of_ble_eq_true rfl) rfl (by simp[Qf,QJ,hd]) (res':=.tup []) rfl (by simp[Qf,QJ,Q3i,hd]) trivial
theorem Qm1(b:List UInt8)(hb:b.length<=100000):BCall prog 46 [.slc 1 (Q5 b)] [] (Qms (Q2f b) (Qby b)) []:=by
 obtain⟨ok,h1,h2,h3,h4⟩:=Q8Z b;have hs:=Qj7 b hb;have cD:=QiS b (by omega) (by omega) (fun x hx=>by have:=h4 x hx;omega)
 have g9:=Q5P b;have hE:Qby b=Qc9 (Q2f b) b (Q6Q b):=rfl;have hiv:=Qgv b;have qI:=hs.hr;have c0:=fun(h:Q6Q b=mk0)=>Ql8 (Q2f b) b hs 3 2 (by rw[<-h];exact hiv) (by omega) (by omega)
 have c1:=Qmg (Q2f b) b hs 0 (Q6Q b) 3 2 hiv (by omega) (by omega)
 rw[<-hE]at c1;obtain⟨M,hM⟩:=exq (Qby b);rw[<-hM]at c1 hE ⊢;have cL:=Qlz 23 (b.take (Q18 b).2.toNat) (by rw[length_take];omega)
 have cK:=QlI (Q2f b) b (Q1W (QA 23 (b.take (Q18 b).2.toNat)) mk0) rfl (le_refl _) (le_of_ble_eq_true rfl) (zero_le _) 0;obtain⟨t,ht⟩:=exq (Q2f b);have htb:t.bom=(Q18 b).2:=by rw[ht];rfl
 rw[<-ht]at cD c0 c1 cK hE ⊢;rw[<-htb]at cL cK g9;have hf:Q6Q b=if 0<t.bom then Qi5 (b.take t.bom.toNat)else mk0:=by rw[htb];rfl
 obtain⟨nb,zM⟩:=QC b;have hbn:t.bom<=nb:=by rw[zM.eq];exact g9.2
 have pv:=g9.1
 have jH:std.cut (Q5 b) 0 t.bom=Q5 (b.take t.bom.toNat):=by
  show((Q5 b).drop (0:Int).toNat).take (t.bom-0).toNat=_
  simp[Q5,map_take]
 have jV:=Q2W b;clear h1 h2 h3 h4 g9 qI;refine fnN (Qoj t.kind t.bom (Q0 t.r) (Qh t.off) M.n.length (Q9 (Q7L M).n) (QJ M.d) (Qc M.s) (Q9 [QA 23 (b.take t.bom.toNat)]) (Qc (Q2L 0 mk0.s))) func46 rfl fun _ _=>?_
 generalize xi:Q9 [QA 23 (b.take t.bom.toNat)]=N1;with_reducible refine Q5j (Qc (Q2L 0 mk0.s)) ((M.n.length:Int)) (Q9 (Q7L M).n) (QJ M.d) (Qc M.s) t.bom t.kind (Q0 t.r) (Qh t.off) (Q5 b) ?_
 subst xi;refine⟨cD,Qoi,fun h=>⟨?_,?_,cK,?_,.pure rfl ⟨.inl rfl,.inl rfl,.inl rfl,.inl rfl,.inl rfl,.inl rfl,.inl rfl,trivial⟩⟩,fun h=>⟨?_,.pure rfl ⟨.inl rfl,.inl rfl,.inl rfl,.inl rfl,.inl rfl,.inl rfl,.inl rfl,trivial⟩⟩⟩
 ·show 0<=(0:Int)/\0<=t.bom/\t.bom<=((Q5 b).length:Int)
  have:=zM.eq
  rw[jV];omega
 ·show BCall _ _ [.box 0 0,.val (.int .i64 23),.slc 1 (std.cut (Q5 b) 0 t.bom)] _ _ _
  rw[jH];exact cL
 ·have h:0<t.bom:=of_decide_eq_true h
  rw[if_pos h]at hf;rw[hf]at c1;exact c1
 ·have h:¬0<t.bom:=of_decide_eq_false h
  rw[if_neg h]at hf;have c:=c0 hf;rw[hf]at hE;rw[<-hE]at c;exact c
end
section
open Go.RowKit Go.Lib
section
variable {l:List Node}{W C:Nat}{c:Cur}
end
section
variable {n:Nat}{m:Mk}
end
section
variable {n:Nat}{m:Mk}
end
end
section
open Go.RowKit Go.Lib Tryz
section
variable {w w':World}{A':Nat->Nat->Prop}
theorem Qho{base n:Nat}{v:Value}{l:List UInt8}(h:w'.ownsRow base 5 1 v n (bc l))(hA:∀b o,base<=b->b<w'.heap.size->A' b o):PRel w' A' v (.slc 1 (Q5 l)):=by
 have hn:n=(Q5 l).length:=by
  have:=h.1
  rw[Q2W];simpa[bc]using this.symm
 refine Q7r h (by decide) ?_ hn (fun x hx=>by obtain⟨y,_,rfl⟩:=mem_map.1 hx;rfl) hA
 have e:Qp (Q5 l)=(bc l).map .val:=by
  have e1:Q5 l=(bc l).map .val:=by simp[Q5,bc,Q4Q]
  rw[e1,Q4d]
 rw[e];refine Q4h fun u hu=>?_
 obtain⟨x,_,rfl⟩:=mem_map.1 hu;rfl
end
theorem QdA(l:List Int)(hl:l.length<=100000000):BCall prog 78 [.slc 1 (Q0 l)] [] (.slc 1 (Q5 (Q1Q l))) []:=by
 refine BCall.hand (enters_of func78 (by kernel_rfl) rfl) fun w g vs M hL=>?_
 obtain⟨v1,vs1,rfl,h1,hL⟩:=Qt hL;obtain rfl:=Q1i hL;obtain⟨A,c,rfl,hr⟩:=Q26 h1 M;exact(QaZ _ A _ c l w hr hl).mono fun e w' ⟨v,h,⟨n',ho⟩,qv⟩=>⟨v,h,qv,Qho (A':=(g.imm w w').A) ho fun b o h1 h2=>.inr ⟨h1,h2⟩⟩
def nxt(k:Int):Int:=k+1
end
section
open Go.RowKit Go.Lib Tryz
set_option maxRecDepth 20000
def txF(x:List Int):ByteArray:=⟨(Q1Q x).toArray⟩
def csL(t:List (Nat×AV×List Ob)):Nat->List AV->List Ob->Option (AV×List Ob):=fun g _ _=>match t with
 | []=>none
 |(h,r)::t=>match Nat.beq g h with
  |true=>some r
  |false=>csL t g [] []
theorem Qm5(x:List Int)(hx:x.length<=1000000):BCall prog 328 [.slc 1 (Q0 x)] [] (.val (.string (txF x))) []:=by
 have c:=QdA x (by omega)
 have hB:=Qan (Q1Q x);have hS:std.strB (Q5 (Q1Q x))=txF x:=by simp[std,Q2Q,txF]
 obtain⟨B,hBE⟩:=exq (Q5 (Q1Q x));rw[<-hBE]at c hB hS;refine fnN (csL [(78,.slc 1 B,[])]) func328 rfl fun _ _=>?_
 with_reducible refine cv1 (Q0 x) ?_
 exact⟨c,hB,.pure rfl (.inl (by rw[<-hS]))⟩
theorem Qnu(s:ByteArray)(hs:s.size<=300000000):BCall prog 257 [.val (.string s)] [] (.val (.bool (Qdx s.data.toList))) []:=by
 refine BCall.hand (enters_of func257 (by kernel_rfl) rfl) fun w g vs M hL=>?_
 obtain⟨v1,vs1,rfl,k1,hL⟩:=Qt hL;obtain rfl:=Q1i hL;obtain rfl:=Q1G k1;exact(Qgt s w hs).mono fun e w' ⟨h,hb⟩=>⟨_,h,hb,.val _ rfl⟩
end
section
open Go.RowKit Go.Lib
theorem Q7x{r:List Int}(h:r≠[])(a:Int)(first:Bool):QQ a first r=⟨(QE r first).1,a,a+(QE r first).2⟩::QQ (a+(QE r first).2) false (r.drop (QE r first).2.toNat):=by
 conv=>lhs;rw[QQ,dif_neg h]
section
variable {K:Int}{m:Mk}{X:List UInt8}{B D c:Nat}
def sz(m:Mk):Nat:=m.n.length+2 * m.s.length
end
section
variable {m:Mk}{X:List UInt8}{B D S:Nat}{b:List UInt8}{f u:Int}
end
structure Evr where
 do_:Int
 kind:Int
 b:Option (List UInt8)
 deriving Inhabited
structure RSt where
 op:List (List Int)
 ev:List Evr
 wr:List Dg
 deriving Inhabited
section
variable {m:Mk}{s:RSt}{X:List UInt8}{B D:Nat}
end
section
variable {m:Mk}{s:RSt}{X:List UInt8}{B D:Nat}{t:Txt}{b:List UInt8}{f u:Int}
end
def rAt(l:List Int)(i:Int):Int:=l[i.toNat]?.getD 0
theorem Ql9{l:List Int}{q i:Int}(h0:0<=i)(h1:i<l.length):Q3q l q i.toNat=if rAt l i=q then((i+1).toNat,true)else Q3q l q (i+1).toNat:=by
 have h2:i.toNat<l.length:=by omega
 have e:rAt l i=l[i.toNat]:=by rw[rAt,List.getElem?_eq_getElem h2];rfl
 rw[e];conv=>lhs;rw[Q3q,dif_pos h2]
 rw[show(i+1).toNat=i.toNat+1 by omega]
def Q1u(l:List Int)(k:Int):Int:=if(QS l k.toNat).2=true then((QS l k.toNat).1:Nat)else -1
def Un(l:List Int):Prop:=∀x∈l,-2147483648<=x/\x<=2147483647
theorem Un.i32{l:List Int}(h:Un l):I32 l:=fun x hx=>by have:=h x hx;omega
theorem Q8r{l:List Int}{k:Nat}{bs:List UInt8}(h:Q7 l k bs=true){i:Nat}(hi:i<bs.length):l[k+i]?=some ((bs[i].toNat:Nat):Int):=by
 unfold Q7 at h;rw[Bool.and_eq_true,beq_iff_eq]at h;have h2:=congrArg (fun z=>z[i]?) h.2
 simp only[getElem?_take,getElem?_drop,if_pos hi]at h2;rw[h2,bi,List.getElem?_map,List.getElem?_eq_getElem hi];rfl
end
section
open Go.RowKit Go.Lib Tryz
theorem Qo1(l:List Int)(p:Int->Bool)(f:Nat)(ef:∀args w,(callFunc f args).run prog w=.ok (.enter f args) w)(hp:∀w,Q3I prog f #[] p w) :
  BCall prog 180 [.slc 1 (Q0 l),.val (.func (.func f) #[] #[])] [] (.val (.bool (l.all p))) []:=by
 refine BCall.hand (enters_of func180 (by kernel_rfl) rfl) fun w g vs M hL=>?_
 obtain⟨v1,vs1,rfl,h1,hL⟩:=Qt hL;obtain⟨v3,vs3,rfl,h3,hL⟩:=Qt hL;obtain rfl:=Q1i hL;obtain⟨A,c,rfl,hr⟩:=Q26 h1 M;obtain rfl:=Q1G h3;exact(QlP _ A _ c l f #[] p w ef hr (hp w)).mono fun e w' ⟨h,hb⟩=>⟨_,h,hb,PRel.val _ rfl⟩
theorem QeQ(s:ByteArray)(c:UInt8):BCall prog 258 [.val (.string s),.val (.string ⟨#[c]⟩)] [] (.val (.bool (s.data.toList.contains c))) []:=by
 refine BCall.hand (enters_of func258 (by kernel_rfl) rfl) fun w g vs M hL=>?_
 obtain⟨v1,vs1,rfl,h1,hL⟩:=Qt hL;obtain⟨v3,vs3,rfl,h3,hL⟩:=Qt hL;obtain rfl:=Q1i hL;obtain rfl:=Q1G h1;obtain rfl:=Q1G h3;exact(Q8O s c w).mono fun e w' ⟨h,hb⟩=>⟨_,h,hb ▸ Below.refl _ _,PRel.val _ rfl⟩
def Qbs(g:Nat):Option (Int->Bool):=if g=81 then some Q8 else if g=125 then some Qv else if g=330 then some QeI else if g=177 then some Q9m else if g=178 then some Q96 else if g=129 then some QeP else if g=134 then some Q20 else none
theorem Q7h{g:Nat}{p:Int->Bool}(h:Qbs g=some p):(∀args w,(callFunc g args).run prog w=.ok (.enter g args) w)/\∀w,Q3I prog g #[] p w:=by
 unfold Qbs at h;split at h
 ·rename_i e;subst e;cases h;exact⟨enters_of func81 (by kernel_rfl) rfl,Qcy⟩
 split at h
 ·rename_i e;subst e;cases h;exact⟨Q8y,Q8D⟩
 split at h
 ·rename_i e;subst e;cases h;exact⟨enters_of func330 (by kernel_rfl) rfl,QgX⟩
 split at h
 ·rename_i e;subst e;cases h;exact⟨enters_of func177 (by kernel_rfl) rfl,Qb0⟩
 split at h
 ·rename_i e;subst e;cases h;exact⟨enters_of func178 (by kernel_rfl) rfl,Qgn⟩
 split at h
 ·rename_i e;subst e;cases h;exact⟨QlO,Qme⟩
 split at h
 ·rename_i e;subst e;cases h;exact⟨enters_of func134 (by kernel_rfl) rfl,Qb6⟩
 cases h
theorem QnI{l:List AV}{k:Int}{g:Nat}{p:Int->Bool}(hp:Qbs g=some p)(hr:Q1h l=true):BCall prog 80 [.slc 1 l,.val (.int .i64 k),.val (.func (.func g) #[] #[])] [] (.val (.int .i64 (Q1R p (l.map std.int) k))) []:=by
 have:=Qmm (l.map std.int) k p g (Q7h hp).1 (Q7h hp).2
 rw[<-Q2h hr]at this;exact this
theorem Qoe{l:List AV}{g:Nat}{p:Int->Bool}(hp:Qbs g=some p)(hr:Q1h l=true):BCall prog 180 [.slc 1 l,.val (.func (.func g) #[] #[])] [] (.val (.bool ((l.map std.int).all p))) []:=by
 have:=Qo1 (l.map std.int) p g (Q7h hp).1 (Q7h hp).2
 rw[<-Q2h hr]at this;exact this
theorem Qne{l:List AV}(hp:(Q1h l&&Nat.ble l.length 1000)=true):BCall prog 328 [.slc 1 l] [] (.val (.string (txF (l.map std.int)))) []:=by
 rw[Bool.and_eq_true]at hp;have h2:=le_of_ble_eq_true hp.2;have:=Qm5 (l.map std.int) (by rw[length_map];exact le_trans h2 (by decide))
 rw[<-Q2h hp.1]at this;exact this
theorem Qio{l:List AV}(hp:(Q5L l&&Nat.ble (Q2d (l.map rwA)) 1000)=true):BCall prog 17 [.slc 1 l] [] (.slc 1 (Q0 (l.map rwA).flatten)) []:=by
 rw[Bool.and_eq_true]at hp;have h2:=le_of_ble_eq_true hp.2;exact Q9s l hp.1 (le_trans h2 (by decide))
theorem Qnb{l:List AV}{k:Nat}(hp:(Q1h l&&Nat.ble k 1000)=true):BCall prog 82 [.slc 1 l,.val (.int .i64 (.ofNat k))] [] (.val (.int .i64 (Ql (l.map std.int) k))) []:=by
 rw[Bool.and_eq_true]at hp;have h2:=le_of_ble_eq_true hp.2;have:=Qjf (l.map std.int) (.ofNat k) (Int.natCast_nonneg k) (Int.ofNat_le.2 (le_trans h2 (by decide)))
 rw[<-Q2h hp.1]at this;exact this
theorem Qik{l:List AV}{k:Nat}{s:ByteArray}(hp:(Q1h l&&(Nat.ble l.length 1000&&(Nat.ble k l.length&&Nat.ble s.data.toList.length 1000)))=true):BCall prog 11 [.slc 1 l,.val (.int .i64 (.ofNat k)),.val (.string s)] [] (.val (.bool (Q7 (l.map std.int) k s.data.toList))) []:=by
 simp only[Bool.and_eq_true]at hp;obtain⟨h1,h2,h3,h4⟩:=hp;have h2:=le_of_ble_eq_true h2;have h3:=le_of_ble_eq_true h3;have h4:=le_of_ble_eq_true h4;have:=Q7O (l.map std.int) (by rw[length_map];exact le_trans h2 (by decide)) (.ofNat k) (Int.natCast_nonneg k) (by rw[length_map];exact Int.ofNat_le.2 h3) s (by simp at h4;exact le_trans h4 (by decide))
 rw[<-Q2h h1]at this;exact this
def b4(f:Nat)(a:List AV)(o:List Ob):Option (AV×List Ob):=match o with
 | [] =>
  if f=80 then(match a with
   | [.slc 1 l,.val (.int .i64 k),.val (.func (.func g) ⟨[]⟩ ⟨[]⟩)]=>match Qbs g,Q1h l with
    |some p,true=>some (.val (.int .i64 (Q1R p (l.map std.int) k)),[])
    |_,_=>none
   |_=>none)
  else if f=180 then(match a with
   | [.slc 1 l,.val (.func (.func g) ⟨[]⟩ ⟨[]⟩)]=>match Qbs g,Q1h l with
    |some p,true=>some (.val (.bool ((l.map std.int).all p)),[])
    |_,_=>none
   |_=>none)
  else if f=258 then(match a with
   | [.val (.string s),.val (.string ⟨⟨[c]⟩⟩)]=>some (.val (.bool (s.data.toList.contains c)),[])
   |_=>none)
  else if f=328 then(match a with
   | [.slc 1 l]=>match Q1h l&&Nat.ble l.length 1000 with
    |true=>some (.val (.string (txF (l.map std.int))),[])
    |false=>none
   |_=>none)
  else if f=17 then(match a with
   | [.slc 1 l]=>match Q5L l&&Nat.ble (Q2d (l.map rwA)) 1000 with
    |true=>some (.slc 1 (Q0 (l.map rwA).flatten),[])
    |false=>none
   |_=>none)
  else if f=257 then(match a with
   | [.val (.string s)]=>match Nat.ble s.data.toList.length 1000 with
    |true=>some (.val (.bool (Qdx s.data.toList)),[])
    |false=>none
   |_=>none)
  else if f=82 then(match a with
   | [.slc 1 l,.val (.int .i64 (.ofNat k))]=>match Q1h l&&Nat.ble k 1000 with
    |true=>some (.val (.int .i64 (Ql (l.map std.int) k)),[])
    |false=>none
   |_=>none)
  else if f=11 then(match a with
   | [.slc 1 l,.val (.int .i64 (.ofNat k)),.val (.string s)]=>match Q1h l&&(Nat.ble l.length 1000&&(Nat.ble k l.length&&Nat.ble s.data.toList.length 1000))with
    |true=>some (.val (.bool (Q7 (l.map std.int) k s.data.toList)),[])
    |false=>none
   |_=>none)
  else none
 |_=>none
theorem Qog(f:Nat)(a:List AV)(o:List Ob)(r:AV)(o':List Ob)(h:b4 f a o=some (r,o')):f<1000000/\BCall prog f a o r o':=by
 unfold b4 at h;split at h
 ·split at h
  ·rename_i e;subst e
   split at h
   ·split at h
    ·rename_i hp hr
     cases h;exact⟨by decide,QnI hp hr⟩
    ·cases h
   ·cases h
  split at h
  ·rename_i e;subst e
   split at h
   ·split at h
    ·rename_i hp hr
     cases h;exact⟨by decide,Qoe hp hr⟩
    ·cases h
   ·cases h
  split at h
  ·rename_i e;subst e
   split at h
   ·cases h
    exact⟨by decide,QeQ _ _⟩
   ·cases h
  split at h
  ·rename_i e;subst e
   split at h
   ·split at h
    ·rename_i hp
     cases h;exact⟨by decide,Qne hp⟩
    ·cases h
   ·cases h
  split at h
  ·rename_i e;subst e
   split at h
   ·split at h
    ·rename_i hp
     cases h;exact⟨by decide,Qio hp⟩
    ·cases h
   ·cases h
  split at h
  ·rename_i e;subst e
   split at h
   ·split at h
    ·rename_i hp
     cases h;have h2:=le_of_ble_eq_true hp;exact⟨by decide,Qnu _ (by simp at h2;exact le_trans h2 (by decide))⟩
    ·cases h
   ·cases h
  split at h
  ·rename_i e;subst e
   split at h
   ·split at h
    ·rename_i hp
     cases h;exact⟨by decide,Qnb hp⟩
    ·cases h
   ·cases h
  split at h
  ·rename_i e;subst e
   split at h
   ·split at h
    ·rename_i hp
     cases h;exact⟨by decide,Qik hp⟩
    ·cases h
   ·cases h
  cases h
 ·cases h
end
section
open Go.RowKit Go.Lib
end
section
open Go.RowKit Go.Lib Tryz
theorem QiZ(l:List Int)(hl:l.length<=1000000)(f u:Int)(h0:0<=f)(h1:f<=u)(h2:u<=l.length)(jL:Q5e ((l.drop f.toNat).take (u-f).toNat)≠[]) :
  BCall prog 108 [.agg [.val (.int .i64 0),.val (.int .i64 0),.slc 1 (Q0 l),.val (.slice none 0 0)],.val (.int .i64 f),.val (.int .i64 u)] [] (.val (.string ⟨(Q5e ((l.drop f.toNat).take (u-f).toNat)).toArray⟩)) []:=by
 obtain⟨i,rfl⟩:=Int.eq_ofNat_of_zero_le h0;obtain⟨j,rfl⟩:=Int.eq_ofNat_of_zero_le (Int.le_trans h0 h1);have e1:((i:Int).toNat)=i:=Int.toNat_natCast i;have e2:((j:Int)-(i:Int)).toNat=j-i:=by omega
 rw[e1,e2]at jL ⊢;refine BCall.hand (enters_of func108 (by kernel_rfl) rfl) fun w g vs M hL=>?_
 obtain⟨v1,vs1,rfl,k1,hL⟩:=Qt hL;obtain⟨v2,vs2,rfl,k2,hL⟩:=Qt hL;obtain⟨v3,vs3,rfl,k3,hL⟩:=Qt hL;obtain rfl:=Q1i hL;obtain rfl:=ARel.valEq (ob:=[]) k2;obtain rfl:=ARel.valEq (ob:=[]) k3;obtain⟨cs,rfl,hc⟩:=k1
 obtain⟨c0,c1,c2,c3,rfl⟩:∃c0 c1 c2 c3,cs=#[c0,c1,c2,c3]:=by
  rcases cs with ⟨l4⟩
  match l4,hc.1 with
  | [a,b,c,d],_=>exact⟨a,b,c,d,rfl⟩
 obtain rfl:=ARel.valEq (ob:=[]) (hc.2 0 c0 _ rfl rfl).1;obtain rfl:=ARel.valEq (ob:=[]) (hc.2 1 c1 _ rfl rfl).1;obtain rfl:=ARel.valEq (ob:=[]) (hc.2 3 c3 _ rfl rfl).1;obtain⟨A,c,rfl,hr⟩:=Q26 (hc.2 2 c2 _ rfl rfl).1 M;exact(QcJ _ A _ c l i j w hr (by omega) (by omega) hl jL).mono fun e w' ⟨h,hb⟩=>⟨_,h,hb,.val _ rfl⟩
end
section
open Go.Shelf Tryz
def Qit:Go.Shelf.Ren:=⟨fun|217=>273|266=>297|n=>n,fun|3=>3|5=>5|9=>9|n=>n,fun|n=>n⟩
theorem QoM:Go.Proofs.Lays.n217 prog Qit:={
 mixed:=by kernel_rfl
 f217:=func273.trans (congrArg some (by kernel_rfl))
 f266:=func297.trans (congrArg some (by kernel_rfl))
 t3:=underlying3
 a3:=isAgg3
 z3:=sizeOf3
 v3:=zeroValue3
 t5:=underlying5
 a5:=isAgg5
 z5:=sizeOf5
 v5:=zeroValue5
 t9:=underlying9
 a9:=isAgg9
 z9:=sizeOf9
 v9:=zeroValue9 }
end
section
open Go.RowKit Go.Lib Tryz
theorem Qe6(x:ByteArray)(c:Int):BCall prog 273 [.val (.string x),.val (.int .u8 c)] [] (.val (.int .i64 (Lib.indexByte x.data.toList c.toNat.toUInt8))) []:=by
 refine BCall.hand (enters_of func273 (by kernel_rfl) rfl) fun w g vs M hL=>?_
 obtain⟨v1,vs1,rfl,h1,hL⟩:=Qt hL;obtain⟨v2,vs2,rfl,h2,hL⟩:=Qt hL;obtain rfl:=Q1i hL;obtain rfl:=Q1G h1;obtain rfl:=Q1G h2;exact(Any.stringslite_IndexByte QoM x c w).mono fun e w' ⟨h,hw⟩=>⟨_,h,hw ▸ Below.refl _ _,PRel.val _ rfl⟩
def Qng(l:List AV)(x y:Nat):List UInt8:=Q5e (((l.map std.int).drop x).take (y-x))
def QmJ(p q:Int)(l:List AV)(x y:Nat):Bool:=(p == 0&&q == 0)&&(Q1h l&&(Nat.ble l.length 1000&&(Nat.ble x y&&(Nat.ble y l.length&&!(Qng l x y).isEmpty))))
theorem QlG{p q:Int}{l:List AV}{x y:Nat}(h:QmJ p q l x y=true):BCall prog 108 [.agg [.val (.int .i64 p),.val (.int .i64 q),.slc 1 l,.val (.slice none 0 0)],.val (.int .i64 (.ofNat x)),.val (.int .i64 (.ofNat y))] [] (.val (.string ⟨(Qng l x y).toArray⟩)) []:=by
 simp only[QmJ,Bool.and_eq_true,beq_iff_eq,Bool.not_eq_true',List.isEmpty_eq_false_iff]at h;obtain⟨⟨rfl,rfl⟩,h1,h2,h3,h4,h5⟩:=h;have h2:=le_of_ble_eq_true h2;have h3:=le_of_ble_eq_true h3;have h4:=le_of_ble_eq_true h4;have e:((y:Int)-(x:Int)).toNat=y-x:=by omega
 have:=QiZ (l.map std.int) (by rw[length_map];omega) x y (by omega) (by omega) (by rw[length_map];omega) (by rw[Int.toNat_natCast,e];exact h5)
 rw[<-Q2h h1,Int.toNat_natCast,e]at this;exact this
def b5(f:Nat)(a:List AV)(o:List Ob):Option (AV×List Ob):=match o with
 | []=>if f=100 then(match a with
   | [.slc 1 l]=>match Nat.ble l.length 1000 with
    |true=>some (.slc 1 l,[])
    |false=>none
   |_=>none)
  else if f=45 then(match a with
   | [.slc 1 l]=>match Nat.ble l.length 1000 with
    |true=>some (.slc 1 l,[])
    |false=>none
   |_=>none)
  else if f=130 then(match a with
   | [.slc 1 l]=>match Nat.ble l.length 1000 with
    |true=>some (.slc 1 l,[])
    |false=>none
   |_=>none)
  else if f=273 then(match a with
   | [.val (.string x),.val (.int .u8 c)]=>some (.val (.int .i64 (Lib.indexByte x.data.toList c.toNat.toUInt8)),[])
   |_=>none)
  else if f=77 then(match a with
   | [.val (.slice none 0 0),.val (.int .i64 (.ofNat n))]=>match Nat.ble n 1000 with
    |true=>some (.row 0 0,[.row 5 1 false 0 []])
    |false=>none
   |_=>none)
  else if f=108 then(match a with
   | [.agg [.val (.int .i64 p),.val (.int .i64 q),.slc 1 l,.val (.slice none 0 0)],.val (.int .i64 (.ofNat x)),.val (.int .i64 (.ofNat y))]=>match QmJ p q l x y with
    |true=>some (.val (.string ⟨(Qng l x y).toArray⟩),[])
    |false=>none
   |_=>none)
  else b4 f a []
 |_=>none
theorem Qo5(f:Nat)(a:List AV)(o:List Ob)(r:AV)(o':List Ob)(h:b5 f a o=some (r,o')):f<1000000/\BCall prog f a o r o':=by
 unfold b5 at h;split at h
 ·split at h
  ·rename_i e;subst e
   split at h
   ·split at h
    ·rename_i hp
     cases h;exact⟨by decide,Q5a _ (le_trans (le_of_ble_eq_true hp) (by decide))⟩
    ·cases h
   ·cases h
  split at h
  ·rename_i e;subst e
   split at h
   ·split at h
    ·rename_i hp
     cases h;exact⟨by decide,QdG _ (le_trans (le_of_ble_eq_true hp) (by decide))⟩
    ·cases h
   ·cases h
  split at h
  ·rename_i e;subst e
   split at h
   ·split at h
    ·rename_i hp
     cases h;exact⟨by decide,QcL _ (le_trans (le_of_ble_eq_true hp) (by decide))⟩
    ·cases h
   ·cases h
  split at h
  ·rename_i e;subst e
   split at h
   ·cases h
    exact⟨by decide,Qe6 _ _⟩
   ·cases h
  split at h
  ·rename_i e;subst e
   split at h
   ·split at h
    ·rename_i hp
     cases h;exact⟨by decide,Qln _ (le_trans (le_of_ble_eq_true hp) (by decide))⟩
    ·cases h
   ·cases h
  split at h
  ·rename_i e;subst e
   split at h
   ·split at h
    ·rename_i hp
     cases h;exact⟨by decide,QlG hp⟩
    ·cases h
   ·cases h
  exact Qog f a [] r o' h
 ·cases h
def Qmt(L:List BE)(f:Nat)(a:List AV)(o:List Ob):Option (AV×List Ob):=match Qgk L f a o with
 |some r=>some r
 |none=>b5 f a o
theorem Q2N{L:List BE}(hg:Q4R L)(f:Nat)(a:List AV)(o:List Ob)(r:AV)(o':List Ob)(h:Qmt L f a o=some (r,o')):f<1000000/\BCall prog f a o r o':=by
 unfold Qmt at h;split at h
 ·rename_i q hq
  cases h;exact Q7J hg f a o r o' hq
 ·exact Qo5 f a o r o' h
end
section
open Go.RowKit Go.Lib Tryz
noncomputable def Fg_tab:List (Nat×FnI):=[
 (307,⟨f307,f307.body.getD .skip,fun id=>match id with|1=>.th [0,2,4,5,6,7] (.fork (.th [1] (.fork (.of [3,8,9,10,11]) (.of [8,3,9,10,11]))) (.fork (.th [3] (.fork (.of [1,8,9,10,11]) (.of [8,1,9,10,11]))) (.of [8,1,3,9,10,11])))|_=>.nil⟩),
 (94,⟨f94,f94.body.getD .skip,fun _=>.nil⟩),
 (131,⟨f131,f131.body.getD .skip,fun _=>.nil⟩),
 (151,⟨f151,f151.body.getD .skip,fun _=>.nil⟩),
 (143,⟨f143,f143.body.getD .skip,fun _=>.nil⟩),
 (193,⟨f193,f193.body.getD .skip,fun _=>.nil⟩),
 (121,⟨f121,f121.body.getD .skip,fun _=>.nil⟩),
 (129,⟨f129,f129.body.getD .skip,fun _=>.nil⟩),
 (169,⟨f169,f169.body.getD .skip,fun _=>.nil⟩),
 (78,⟨f78,f78.body.getD .skip,fun _=>.nil⟩),
 (92,⟨f92,f92.body.getD .skip,fun _=>.nil⟩),
 (132,⟨f132,f132.body.getD .skip,fun _=>.nil⟩),
 (212,⟨f212,f212.body.getD .skip,fun _=>.nil⟩),
 (213,⟨f213,f213.body.getD .skip,fun _=>.nil⟩),
 (216,⟨f216,f216.body.getD .skip,fun _=>.nil⟩),
 (176,⟨f176,f176.body.getD .skip,fun _=>.nil⟩),
 (10,⟨f10,f10.body.getD .skip,fun _=>.nil⟩),
 (30,⟨f30,f30.body.getD .skip,fun _=>.nil⟩),
 (51,⟨f51,f51.body.getD .skip,fun _=>.nil⟩),
 (83,⟨f83,f83.body.getD .skip,fun _=>.nil⟩),
 (31,⟨f31,f31.body.getD .skip,fun _=>.nil⟩),
 (32,⟨f32,f32.body.getD .skip,fun _=>.nil⟩),
 (50,⟨f50,f50.body.getD .skip,fun _=>.nil⟩),
 (70,⟨f70,f70.body.getD .skip,fun _=>.nil⟩),
 (106,⟨f106,f106.body.getD .skip,fun _=>.nil⟩),
 (69,⟨f69,f69.body.getD .skip,fun _=>.nil⟩),
 (91,⟨f91,f91.body.getD .skip,fun _=>.nil⟩),
 (68,⟨f68,f68.body.getD .skip,fun _=>.nil⟩),
 (107,⟨f107,f107.body.getD .skip,fun _=>.nil⟩),
 (152,⟨f152,f152.body.getD .skip,fun _=>.nil⟩),
 (72,⟨f72,f72.body.getD .skip,fun id=>match id with|1=>.th [0,1,3,4,5] (.fork (.of [2,6,7,8]) (.of [6,2,7,8]))|_=>.nil⟩),
 (118,⟨f118,f118.body.getD .skip,fun _=>.nil⟩),
 (117,⟨f117,f117.body.getD .skip,fun _=>.nil⟩),
 (98,⟨f98,f98.body.getD .skip,fun _=>.nil⟩),
 (49,⟨f49,f49.body.getD .skip,fun _=>.nil⟩),
 (73,⟨f73,f73.body.getD .skip,fun _=>.nil⟩),
 (66,⟨f66,f66.body.getD .skip,fun _=>.nil⟩),
 (105,⟨f105,f105.body.getD .skip,fun _=>.nil⟩),
 (57,⟨f57,f57.body.getD .skip,fun _=>.nil⟩),
 (58,⟨f58,f58.body.getD .skip,fun id=>match id with|2=>.of [0,1,2,3,4,5,6,7,8,9,12,10,11]|_=>.nil⟩),
 (90,⟨f90,f90.body.getD .skip,fun id=>match id with|4=>.of [0,2,3,4,5,6,1,7]|_=>.nil⟩),
 (96,⟨f96,f96.body.getD .skip,fun _=>.nil⟩),
 (93,⟨f93,f93.body.getD .skip,fun id=>match id with|6=>.of [0,1,2,3,4,5,6,7,8,9,10,12,11,13]|8=>.th [0,1,2,3,4,5,6,7,8,9,11,13] (.fork (.th [10] (.fork (.th [12,14,15,16,18,19,20] (.fork (.of [17,21]) (.of [21,17]))) (.th [14,12,15,16,18,19,20] (.fork (.of [17,21]) (.of [21,17]))))) (.th [14,10,12,15,16,18,19,20] (.fork (.of [17,21]) (.of [21,17]))))|11=>.th [0,1,2,3,4,5,6,7,8,9,11,13] (.fork (.th [10] (.fork (.th [12,14,15,16,18,19,20] (.fork (.of [17,21]) (.of [21,17]))) (.th [14,12,15,16,18,19,20] (.fork (.of [17,21]) (.of [21,17]))))) (.th [14,10,12,15,16,18,19,20] (.fork (.of [17,21]) (.of [21,17]))))|18=>.th [0,1,2,3,5,6,7,8,9,10,11,12] (.fork (.th [4,15] (.fork (.th [13] (.fork (.th [14,16,17,18,20,21,22] (.fork (.of [19,23]) (.of [23,19]))) (.th [16,14,17,18,20,21,22] (.fork (.of [19,23]) (.of [23,19]))))) (.th [16,13,14,17,18,20,21,22] (.fork (.of [19,23]) (.of [23,19]))))) (.fork (.th [13] (.fork (.th [4,15] (.fork (.th [14,16,17,18,20,21,22] (.fork (.of [19,23]) (.of [23,19]))) (.th [16,14,17,18,20,21,22] (.fork (.of [19,23]) (.of [23,19]))))) (.fork (.th [14,4,15,16,17,18,20,21,22] (.fork (.of [19,23]) (.of [23,19]))) (.th [16] (.fork (.th [4,15,14,17,18,20,21,22] (.fork (.of [19,23]) (.of [23,19]))) (.th [14,4,15,17,18,20,21,22] (.fork (.of [19,23]) (.of [23,19])))))))) (.th [16] (.fork (.th [4,15,13,14,17,18,20,21,22] (.fork (.of [19,23]) (.of [23,19]))) (.th [13] (.fork (.th [4,15,14,17,18,20,21,22] (.fork (.of [19,23]) (.of [23,19]))) (.th [14,4,15,17,18,20,21,22] (.fork (.of [19,23]) (.of [23,19])))))))))|_=>.nil⟩),
 (182,⟨f182,f182.body.getD .skip,fun _=>.nil⟩),
 (220,⟨f220,f220.body.getD .skip,fun _=>.nil⟩),
 (226,⟨f226,f226.body.getD .skip,fun _=>.nil⟩),
 (284,⟨f284,f284.body.getD .skip,fun _=>.nil⟩),
 (186,⟨f186,f186.body.getD .skip,fun _=>.nil⟩),
 (228,⟨f228,f228.body.getD .skip,fun _=>.nil⟩),
 (259,⟨f259,f259.body.getD .skip,fun _=>.nil⟩),
 (59,⟨f59,f59.body.getD .skip,fun _=>.nil⟩),
 (141,⟨f141,f141.body.getD .skip,fun _=>.nil⟩),
 (140,⟨f140,f140.body.getD .skip,fun id=>match id with|3=>.th [0,1,2,3,4,6,7,8,10] (.fork (.th [5] (.fork (.th [9] (.fork (.of [11,12,13,14,15,16,17]) (.of [15,11,12,13,14,16,17]))) (.of [15,9,11,12,13,14,16,17]))) (.of [15,5,9,11,12,13,14,16,17]))|6=>.th [0,1,2,3,4,5,6,8,9,10,12] (.fork (.th [7] (.fork (.th [11] (.fork (.of [13,14,15,16,17,18,19]) (.of [17,13,14,15,16,18,19]))) (.of [17,11,13,14,15,16,18,19]))) (.of [17,7,11,13,14,15,16,18,19]))|7=>.of [0,1,2,3,4,6,7,8,9,10,11,5,12,13,14,15]|_=>.nil⟩),
 (188,⟨f188,f188.body.getD .skip,fun id=>match id with|1=>.th [0,1] (.fork (.of [2,3,4,5]) (.th [3] (.fork (.of [2,4,5]) (.of [4,2,5]))))|18=>.th [0,2,3,4,5,7,11] (.fork (.th [1] (.fork (.of [6,8,12,9,10,13,14,15,16,17]) (.fork (.th [8] (.fork (.of [6,12,9,10,13,14,15,16,17]) (.of [12,6,9,10,13,14,15,16,17]))) (.th [12] (.fork (.of [6,8,9,10,13,14,15,16,17]) (.of [8,6,9,10,13,14,15,16,17])))))) (.fork (.of [6,1,8,12,9,10,13,14,15,16,17]) (.fork (.th [8] (.fork (.th [1] (.fork (.of [6,12,9,10,13,14,15,16,17]) (.of [12,6,9,10,13,14,15,16,17]))) (.fork (.of [6,1,12,9,10,13,14,15,16,17]) (.th [12] (.fork (.of [1,6,9,10,13,14,15,16,17]) (.of [6,1,9,10,13,14,15,16,17])))))) (.th [12] (.fork (.th [1] (.fork (.of [6,8,9,10,13,14,15,16,17]) (.of [8,6,9,10,13,14,15,16,17]))) (.fork (.of [6,1,8,9,10,13,14,15,16,17]) (.th [8] (.fork (.of [1,6,9,10,13,14,15,16,17]) (.of [6,1,9,10,13,14,15,16,17])))))))))|_=>.nil⟩),
 (229,⟨f229,f229.body.getD .skip,fun id=>match id with|23=>.th [0,1,3,4,5,6,7,8] (.fork (.of [2,9,10,11,12,13]) (.of [9,2,10,11,12,13]))|_=>.nil⟩),
 (115,⟨f115,f115.body.getD .skip,fun id=>match id with|7=>.of [0,1,3,4,2,6,5,7,8,9]|_=>.nil⟩),
 (231,⟨f231,f231.body.getD .skip,fun _=>.nil⟩),
 (265,⟨f265,f265.body.getD .skip,fun _=>.nil⟩),
 (232,⟨f232,f232.body.getD .skip,fun _=>.nil⟩),
 (266,⟨f266,f266.body.getD .skip,fun _=>.nil⟩),
 (290,⟨f290,f290.body.getD .skip,fun _=>.nil⟩),
 (191,⟨f191,f191.body.getD .skip,fun id=>match id with|2=>.th [0,2,3,4,5] (.fork (.of [1,6,7,8,9]) (.of [6,1,7,8,9]))|_=>.nil⟩),
 (190,⟨f190,f190.body.getD .skip,fun _=>.nil⟩),
 (234,⟨f234,f234.body.getD .skip,fun id=>match id with|14=>.of [0,1,2,3,4,5,6,9,7,8,10,11]|_=>.nil⟩),
 (268,⟨f268,f268.body.getD .skip,fun _=>.nil⟩),
 (267,⟨f267,f267.body.getD .skip,fun _=>.nil⟩),
 (189,⟨f189,f189.body.getD .skip,fun _=>.nil⟩),
 (95,⟨f95,f95.body.getD .skip,fun _=>.nil⟩),
 (60,⟨f60,f60.body.getD .skip,fun _=>.nil⟩)]
theorem QhK:Qb5 Fg_tab:=by
 unfold Fg_tab;refine⟨⟨le_of_ble_eq_true rfl,func307,rfl,by kernel_rfl⟩,?_⟩
 refine⟨⟨le_of_ble_eq_true rfl,func94,rfl,by kernel_rfl⟩,?_⟩
 refine⟨⟨le_of_ble_eq_true rfl,func131,rfl,by kernel_rfl⟩,?_⟩
 refine⟨⟨le_of_ble_eq_true rfl,func151,rfl,by kernel_rfl⟩,?_⟩
 refine⟨⟨le_of_ble_eq_true rfl,func143,rfl,by kernel_rfl⟩,?_⟩
 refine⟨⟨le_of_ble_eq_true rfl,func193,rfl,by kernel_rfl⟩,?_⟩
 refine⟨⟨le_of_ble_eq_true rfl,func121,rfl,by kernel_rfl⟩,?_⟩
 refine⟨⟨le_of_ble_eq_true rfl,func129,rfl,by kernel_rfl⟩,?_⟩
 refine⟨⟨le_of_ble_eq_true rfl,func169,rfl,by kernel_rfl⟩,?_⟩
 refine⟨⟨le_of_ble_eq_true rfl,func78,rfl,by kernel_rfl⟩,?_⟩
 refine⟨⟨le_of_ble_eq_true rfl,func92,rfl,by kernel_rfl⟩,?_⟩
 refine⟨⟨le_of_ble_eq_true rfl,func132,rfl,by kernel_rfl⟩,?_⟩
 refine⟨⟨le_of_ble_eq_true rfl,func212,rfl,by kernel_rfl⟩,?_⟩
 refine⟨⟨le_of_ble_eq_true rfl,func213,rfl,by kernel_rfl⟩,?_⟩
 refine⟨⟨le_of_ble_eq_true rfl,func216,rfl,by kernel_rfl⟩,?_⟩
 refine⟨⟨le_of_ble_eq_true rfl,func176,rfl,by kernel_rfl⟩,?_⟩
 refine⟨⟨le_of_ble_eq_true rfl,func10,rfl,by kernel_rfl⟩,?_⟩
 refine⟨⟨le_of_ble_eq_true rfl,func30,rfl,by kernel_rfl⟩,?_⟩
 refine⟨⟨le_of_ble_eq_true rfl,func51,rfl,by kernel_rfl⟩,?_⟩
 refine⟨⟨le_of_ble_eq_true rfl,func83,rfl,by kernel_rfl⟩,?_⟩
 refine⟨⟨le_of_ble_eq_true rfl,func31,rfl,by kernel_rfl⟩,?_⟩
 refine⟨⟨le_of_ble_eq_true rfl,func32,rfl,by kernel_rfl⟩,?_⟩
 refine⟨⟨le_of_ble_eq_true rfl,func50,rfl,by kernel_rfl⟩,?_⟩
 refine⟨⟨le_of_ble_eq_true rfl,func70,rfl,by kernel_rfl⟩,?_⟩
 refine⟨⟨le_of_ble_eq_true rfl,func106,rfl,by kernel_rfl⟩,?_⟩
 refine⟨⟨le_of_ble_eq_true rfl,func69,rfl,by kernel_rfl⟩,?_⟩
 refine⟨⟨le_of_ble_eq_true rfl,func91,rfl,by kernel_rfl⟩,?_⟩
 refine⟨⟨le_of_ble_eq_true rfl,func68,rfl,by kernel_rfl⟩,?_⟩
 refine⟨⟨le_of_ble_eq_true rfl,func107,rfl,by kernel_rfl⟩,?_⟩
 refine⟨⟨le_of_ble_eq_true rfl,func152,rfl,by kernel_rfl⟩,?_⟩
 refine⟨⟨le_of_ble_eq_true rfl,func72,rfl,by kernel_rfl⟩,?_⟩
 refine⟨⟨le_of_ble_eq_true rfl,func118,rfl,by kernel_rfl⟩,?_⟩
 refine⟨⟨le_of_ble_eq_true rfl,func117,rfl,by kernel_rfl⟩,?_⟩
 refine⟨⟨le_of_ble_eq_true rfl,func98,rfl,by kernel_rfl⟩,?_⟩
 refine⟨⟨le_of_ble_eq_true rfl,func49,rfl,by kernel_rfl⟩,?_⟩
 refine⟨⟨le_of_ble_eq_true rfl,func73,rfl,by kernel_rfl⟩,?_⟩
 refine⟨⟨le_of_ble_eq_true rfl,func66,rfl,by kernel_rfl⟩,?_⟩
 refine⟨⟨le_of_ble_eq_true rfl,func105,rfl,by kernel_rfl⟩,?_⟩
 refine⟨⟨le_of_ble_eq_true rfl,func57,rfl,by kernel_rfl⟩,?_⟩
 refine⟨⟨le_of_ble_eq_true rfl,func58,rfl,by kernel_rfl⟩,?_⟩
 refine⟨⟨le_of_ble_eq_true rfl,func90,rfl,by kernel_rfl⟩,?_⟩
 refine⟨⟨le_of_ble_eq_true rfl,func96,rfl,by kernel_rfl⟩,?_⟩
 refine⟨⟨le_of_ble_eq_true rfl,func93,rfl,by kernel_rfl⟩,?_⟩
 refine⟨⟨le_of_ble_eq_true rfl,func182,rfl,by kernel_rfl⟩,?_⟩
 refine⟨⟨le_of_ble_eq_true rfl,func220,rfl,by kernel_rfl⟩,?_⟩
 refine⟨⟨le_of_ble_eq_true rfl,func226,rfl,by kernel_rfl⟩,?_⟩
 refine⟨⟨le_of_ble_eq_true rfl,func284,rfl,by kernel_rfl⟩,?_⟩
 refine⟨⟨le_of_ble_eq_true rfl,func186,rfl,by kernel_rfl⟩,?_⟩
 refine⟨⟨le_of_ble_eq_true rfl,func228,rfl,by kernel_rfl⟩,?_⟩
 refine⟨⟨le_of_ble_eq_true rfl,func259,rfl,by kernel_rfl⟩,?_⟩
 refine⟨⟨le_of_ble_eq_true rfl,func59,rfl,by kernel_rfl⟩,?_⟩
 refine⟨⟨le_of_ble_eq_true rfl,func141,rfl,by kernel_rfl⟩,?_⟩
 refine⟨⟨le_of_ble_eq_true rfl,func140,rfl,by kernel_rfl⟩,?_⟩
 refine⟨⟨le_of_ble_eq_true rfl,func188,rfl,by kernel_rfl⟩,?_⟩
 refine⟨⟨le_of_ble_eq_true rfl,func229,rfl,by kernel_rfl⟩,?_⟩
 refine⟨⟨le_of_ble_eq_true rfl,func115,rfl,by kernel_rfl⟩,?_⟩
 refine⟨⟨le_of_ble_eq_true rfl,func231,rfl,by kernel_rfl⟩,?_⟩
 refine⟨⟨le_of_ble_eq_true rfl,func265,rfl,by kernel_rfl⟩,?_⟩
 refine⟨⟨le_of_ble_eq_true rfl,func232,rfl,by kernel_rfl⟩,?_⟩
 refine⟨⟨le_of_ble_eq_true rfl,func266,rfl,by kernel_rfl⟩,?_⟩
 refine⟨⟨le_of_ble_eq_true rfl,func290,rfl,by kernel_rfl⟩,?_⟩
 refine⟨⟨le_of_ble_eq_true rfl,func191,rfl,by kernel_rfl⟩,?_⟩
 refine⟨⟨le_of_ble_eq_true rfl,func190,rfl,by kernel_rfl⟩,?_⟩
 refine⟨⟨le_of_ble_eq_true rfl,func234,rfl,by kernel_rfl⟩,?_⟩
 refine⟨⟨le_of_ble_eq_true rfl,func268,rfl,by kernel_rfl⟩,?_⟩
 refine⟨⟨le_of_ble_eq_true rfl,func267,rfl,by kernel_rfl⟩,?_⟩
 refine⟨⟨le_of_ble_eq_true rfl,func189,rfl,by kernel_rfl⟩,?_⟩
 refine⟨⟨le_of_ble_eq_true rfl,func95,rfl,by kernel_rfl⟩,?_⟩
 refine⟨⟨le_of_ble_eq_true rfl,func60,rfl,by kernel_rfl⟩,?_⟩
 exact trivial
noncomputable def checkC:Code:=match f44.body with
 |some (.seq _ (.seq _ c))=>c
 |_=>.skip
theorem Qee : f44.body = some (.seq (.region 0 #[{ dst := some 4, op := .alloc 93, type := 0, pos := "check.go:166", after := #[], guard := none }] false) (.seq (.region 1 #[{ dst := some 6, op := .makeFunc (.func 56) #[] #[.tmp 4], type := 1, pos := "check.go:167", after := #[], guard := none },
   { dst := none, op := .defer { callee := .value (.tmp 6), args := #[], argTypes := #[] }, type := 0, pos := "check.go:167", after := #[{ on := 0, ground := .data }], guard := none }] false) checkC)) := by kernel_rfl
def Qeq:Nat->OT:=fun id=>match id with|5=>.th [0,1,2,4,5,6,7,9,10,11,15,16,17] (.fork (.th [3] (.fork (.th [8,12] (.fork (.of [13,14,18,19,20]) (.of [18,13,14,19,20]))) (.fork (.th [12] (.fork (.th [8] (.fork (.of [13,14,18,19,20]) (.of [18,13,14,19,20]))) (.of [18,8,13,14,19,20]))) (.th [18] (.fork (.of [8,12,13,14,19,20]) (.of [12,8,13,14,19,20])))))) (.fork (.th [8,12] (.fork (.th [3] (.fork (.of [13,14,18,19,20]) (.of [18,13,14,19,20]))) (.fork (.of [13,3,14,18,19,20]) (.th [18] (.fork (.of [3,13,14,19,20]) (.of [13,3,14,19,20])))))) (.fork (.th [12] (.fork (.th [3] (.fork (.th [8] (.fork (.of [13,14,18,19,20]) (.of [18,13,14,19,20]))) (.of [18,8,13,14,19,20]))) (.fork (.th [8] (.fork (.th [3] (.fork (.of [13,14,18,19,20]) (.of [18,13,14,19,20]))) (.fork (.of [13,3,14,18,19,20]) (.th [18] (.fork (.of [3,13,14,19,20]) (.of [13,3,14,19,20])))))) (.th [18] (.fork (.of [3,8,13,14,19,20]) (.th [8] (.fork (.of [3,13,14,19,20]) (.of [13,3,14,19,20])))))))) (.th [18] (.fork (.th [3] (.fork (.of [8,12,13,14,19,20]) (.of [12,8,13,14,19,20]))) (.fork (.th [8,12] (.fork (.of [3,13,14,19,20]) (.of [13,3,14,19,20]))) (.th [12] (.fork (.of [3,8,13,14,19,20]) (.th [8] (.fork (.of [3,13,14,19,20]) (.of [13,3,14,19,20])))))))))))|_=>.nil
theorem QgW{tab:Nat->Option FnI}{base:Nat->List AV->List Ob->Option (AV×List Ob)}{ask:Nat->List Srt->Bool}{lf:Nat}(ht:∀f F,tab f=some F->f<1000000/\F.good f)(hb:∀f a o r o',base f a o=some (r,o')->f<1000000/\BCall prog f a o r o')
  (ha:∀T sh,ask T sh=true->QbQ prog T sh/\Q7l prog T sh) (n:Nat) (b:List UInt8) (k:Int) {r:AV} {o':List Ob}
  (h:Q3x (Qdh []) ask (lpF ask tys (gd (Q4p tab base ask lf n)) Qeq lf) (QU std tys (gd (Q4p tab base ask lf n)) Qeq checkC (Q5o std tys true f44.results.toList) (Q72 b k))=some (r,o')) :
  BCall prog 44 [.slc 1 (Q5 b),.val (.int .i64 k)] [] r o' :=
 QhE ht hb ha n func44 Qee Qeq (by kernel_rfl) (Q72 b k) (fun w g vs M hL=>⟨Qcj w,Qd4 w,fun Q hQ=>QdK b k checkC w g vs M hL Q hQ⟩) h
end
section
open Go.RowKit Go.Lib
theorem QgE{l:List Int}{k:Nat}{bs:List UInt8}(h:Q7 l k (60::bs)=true):l[k]?.getD 0=60:=by
 have:=Q8r h (i:=0) (by simp)
 rw[Nat.add_zero]at this;rw[this];rfl
end
section
open Go.RowKit Go.Lib Tryz
theorem Q8U{l:List Int}{to i:Int}(h0:0<=i)(h1:i<to):(l.take to.toNat)[i.toNat]?.getD 0=l[i.toNat]?.getD 0:=by
 rw[getElem?_take,if_pos (by omega)]
theorem Qgp(l:List Int)(hl:l.length<=1000000000)(k to:Int)(h0:0<=k)(h1:k<to)(h2:to<=l.length):BCall prog 88 [.slc 1 (Q0 l),.val (.int .i64 k),.val (.int .i64 to)] [] (.val (.int .i64 (Q1u (l.take to.toNat) k))) []:=by
 obtain⟨n,hn⟩:=QC l;obtain⟨R,hR⟩:=exq (Q1u (l.take to.toNat) k:Int);rw[<-hR];have qt:=Q6 l;obtain⟨L,hL⟩:=exq (l.take to.toNat);have qK:(L.length:Int)=to:=by rw[hL,length_take];omega
 have hLa:∀i:Int,0<=i->i<to->rAt L i=l[i.toNat]?.getD 0:=fun i i0 i1=>by rw[hL];exact Q8U i0 i1
 obtain⟨q,hq⟩:=exq (rAt L k)
 have hk:QS L k.toNat=Q3q L q (k+1).toNat:=by
  rw[QS,getD_eq_getElem?_getD,hq,rAt,show(k+1).toNat=k.toNat+1 by omega]
 rw[<-hL,Q1u,hk]at hR;have hqk:q=l[k.toNat]?.getD 0:=by rw[hq];exact hLa k h0 h1
 have ak:=Q25 (l:=l) h0 (by omega)
 have qM:to<=n:=by have:=hn.eq;omega
 have vP:n<=1000000000:=by have:=hn.eq;omega
 obtain⟨tl,hH⟩:∃tl:Int,Len L tl:=QC L;have j3:tl=to:=by rw[hH.eq,qK]
 clear hk hq hL qK h2;refine fnN (cs0) func88 rfl fun _ _=>?_
 with_reducible refine cv1 (Q0 l) ?_
 have jJ:=Q4r hn;with_reducible repeat' first|refine aU (zA jJ <| zA h1 qM) ?_|refine And.intro ?_ ?_|intro hb
 refine Q1p (cs0) (Int) (fun i=>⟨[(0,.slc 1 (Q0 l)),(1,.val (.int .i64 k)),(2,.val (.int .i64 to)),(7,.val (.int .i64 i))],[]⟩) (fun i=>k+1<=i/\i<=to/\Q3q L q i.toNat=Q3q L q (k+1).toNat) (fun i=>(to-i).toNat) (k+1) ?_ ?_ ?_
 ·exact⟨Int.le_refl _,by omega,rfl⟩
 ·refine⟨[],_,rfl,?_⟩
  exact eq0
 ·rintro i ⟨qz,je,hi⟩
  have qz:k+1<=i:=qz;have je:i<=to:=je;have hi:Q3q L q i.toNat=Q3q L q (k+1).toNat:=hi;rcases Int.lt_or_eq_of_le je with jE|jj
  ·have ai:=Q25 (l:=l) (i:=i) (by omega) (by have:=hn.eq;omega)
   have jI:=Ql9 (l:=L) (q:=q) (i:=i) (by omega) (by have:=hH.eq;omega)
   rw[hi,hLa i (by omega) jE]at jI
   clear jJ hi;with_reducible refine cv1 (Q0 l) ?_
   have jJ:=Q4r hn;with_reducible repeat' first|refine aU (zA ai <| zA ak <| zA jJ <| zA jE <| zA qz qM) ?_|refine And.intro ?_ ?_|intro hb
   ·have jU:l[i.toNat]?.getD 0=q:=by rw[hqk];simpa[std,ai,ak,AV.cells,intOf]using hb
    have hR2:R=i+1:=by rw[hR,jI,if_pos jU,if_pos rfl];show(((i+1).toNat:Nat):Int)=_;omega
    with_reducible refine cv1 (Q0 l) ?_
    refine .pure rfl (.inl ?_);rw[hR2];rfl
   ·have jU:¬l[i.toNat]?.getD 0=q:=by rw[hqk];simpa[std,ai,ak,AV.cells,intOf]using hb
    rw[if_neg jU]at jI;refine⟨i+1,⟨by omega,by omega,jI.symm⟩,by omega,[],_,rfl,?_⟩
    exact eq0
  ·have yG:Q3q L q i.toNat=(L.length,false):=by rw[Q3q,dif_neg (by have:=hH.eq;omega)]
   have hR2:R=-1:=by rw[hR,<-hi,yG];rfl
   rw[jj];clear jJ hi yG;with_reducible refine cv1 (Q0 l) ?_
   have jJ:=Q4r hn;with_reducible repeat' first|refine aU jJ ?_|refine And.intro ?_ ?_|intro hb
   ·rw[if_pos trivial]
    with_reducible refine cv1 (Q0 l) ?_
    refine .pure rfl (.inl ?_);rw[hR2]
end
section
open Go.RowKit Go.Lib
def Qu(l:List Int)(k to:Int):List Int:=(l.take to.toNat).drop k.toNat
theorem QdL(L:List Int)(k:Nat)(bs:List UInt8):Q7 (L.drop k) 0 bs=Q7 L k bs:=by
 unfold Q7;rw[drop_zero]
theorem Qhn(L:List Int)(k:Nat):Ql (L.drop k) 0=Ql L k:=by
 unfold Ql;rw[getElem?_drop,Nat.add_zero,drop_zero]
theorem Qjo(p:Int->Bool)(r:List Int):Q1R p r 0=(r.takeWhile p).length:=by
 rw[Q1R,if_neg (by omega)];rfl
theorem QdJ(L:List Int)(q:Int):∀(n k:Nat),L.length-k<=n->Q3q L q k=match(L.drop k).findIdx? (· == q)with
  |some j=>(k+j+1,true)
  |none=>(L.length,false)
 |0,k,h=>by
  rw[Q5S L q k (by omega),List.drop_of_length_le (by omega)];rfl
 |n+1,k,h=>by
  by_cases hk:k<L.length
  ·rw[List.drop_eq_getElem_cons hk,List.findIdx?_cons]
   by_cases hq:L[k]=q
   ·rw[Q9G L q k hk hq,if_pos (by simpa using hq)]
   ·rw[Q8m L q k hk hq,if_neg (by simpa using hq),QdJ L q n (k+1) (by omega)]
    cases(L.drop (k+1)).findIdx? (· == q)with
    |none=>rfl
    |some j=>simp only[Option.map_some];congr 1;omega
  ·rw[Q5S L q k hk,List.drop_of_length_le (by omega)];rfl
structure Rng (l:List Int) (k to:Int):Prop where
 h0:0<=k
 h1:k<to
 h2:to<=l.length
section
variable {l:List Int}{k to:Int}
theorem Rng.len(h:Rng l k to):((Qu l k to).length:Int)=to-k:=by
 have:=h.h0;have:=h.h1;have:=h.h2
 rw[Qu,length_drop,length_take];omega
theorem Rng.ne(h:Rng l k to):Qu l k to≠[]:=fun e=>by
 have h1:=h.len;have:=h.h1
 rw[e]at h1;simp at h1;omega
theorem Rng.at_(h:Rng l k to){i:Int}(i0:0<=i)(i1:k+i<to):(Qu l k to).getD i.toNat 0=l[(k+i).toNat]?.getD 0:=by
 have:=h.h0
 rw[Qu,getD_eq_getElem?_getD,getElem?_drop,getElem?_take,if_pos (by omega)]
 congr 2
 omega
theorem Rng.head(h:Rng l k to):(Qu l k to).getD 0 0=l[k.toNat]?.getD 0:=by
 have:=h.at_ (i:=0) (Int.le_refl _) (by have:=h.h1;omega)
 rw[Int.add_zero]at this;exact this
theorem Rng.val(h:Rng l k to)(hq:l[k.toNat]?.getD 0=34\/l[k.toNat]?.getD 0=39):(0<Q15 (Qu l k to)/\Q1u (l.take to.toNat) k=k+Q15 (Qu l k to))\/(Q15 (Qu l k to)=0/\Q1u (l.take to.toNat) k=-1):=by
 have h0:=h.h0;have h1:=h.h1
 have hqd:QS (l.take to.toNat) k.toNat=Q3q (l.take to.toNat) (l[k.toNat]?.getD 0) (k.toNat+1):=by
  rw[QS,getD_eq_getElem?_getD,Q8U h0 h1]
 have hd:(Qu l k to).drop 1=(l.take to.toNat).drop (k.toNat+1):=by rw[Qu,List.drop_drop]
 rw[Q1u,hqd,QdJ _ _ _ _ (le_refl _)];unfold Q15;rw[h.head,if_pos hq,hd];cases((l.take to.toNat).drop (k.toNat+1)).findIdx? (· == l[k.toNat]?.getD 0)with
 |none=>exact .inr ⟨rfl,rfl⟩
 |some j =>
  refine .inl ⟨by show(0:Int)<(j:Int)+2;omega,?_⟩
  show((k.toNat+1+j+1:Nat):Int)=k+((j:Int)+2)
  omega
theorem Rng.noval(h:Rng l k to)(hq:¬(l[k.toNat]?.getD 0=34\/l[k.toNat]?.getD 0=39)):Q15 (Qu l k to)=0:=by
 unfold Q15;rw[h.head,if_neg hq]
def Q5I(l:List Int)(k to:Int):Prop:=(k+1=to/\l[k.toNat]?.getD 0=62)\/(k+2=to/\l[k.toNat]?.getD 0=47/\l[(k+1).toNat]?.getD 0=62)
theorem Rng.ends(h:Rng l k to):((((Qu l k to).length:Int)=2/\Q7 (Qu l k to) 0 [47,62]=true)\/(((Qu l k to).length:Int)=1/\(Qu l k to).getD 0 0=62))↔Q5I l k to:=by
 have hl:=h.len;unfold Q5I;rw[h.head];constructor
 ·rintro(⟨e1,e2⟩|⟨e1,e2⟩)
  ·have a0:=Q8r e2 (i:=0) (by decide)
   have a1:=Q8r e2 (i:=1) (by decide)
   have b0:=h.head;have b1:=h.at_ (i:=1) (by decide) (by omega)
   rw[getD_eq_getElem?_getD]at b0 b1;have a0:(Qu l k to)[0]?=some 47:=a0;have a1:(Qu l k to)[1]?=some 62:=a1;rw[a0]at b0;rw[show(1:Int).toNat=1 from rfl,a1]at b1;exact .inr ⟨by omega,b0.symm,b1.symm⟩
  ·exact .inl ⟨by omega,e2⟩
 ·rintro(⟨e1,e2⟩|⟨e1,e2,e3⟩)
  ·exact .inr ⟨by omega,e2⟩
  ·refine .inl ⟨by omega,?_⟩
   have b0:=h.head;have b1:=h.at_ (i:=1) (by decide) (by omega)
   rw[e2]at b0;rw[e3]at b1;generalize Qu l k to=r at *;match r,hl with
   | [x,y],_ =>
    have b0:x=47:=b0;have b1:y=62:=b1;subst b0 b1;rfl
   | [],hl=>simp at hl;omega
   | [_],hl=>simp at hl;omega
   |_::_::_::_,hl=>simp at hl;omega
end
def QG(l:List Int)(f k to:Int):Int×Int:=QE (Qu l k to) (decide (k=f))
end
section
open Go.RowKit Go.Lib Tryz
def Q4l(l:List Int)(k to:Int):Int×Int :=
 if 0<(Q1R Q8 (Qu l k to) 0:Int)then(3,(Q1R Q8 (Qu l k to) 0:Int))
 else if 0<(Ql (Qu l k to) 0:Int)then(2,(Ql (Qu l k to) 0:Int))
 else if(Qu l k to).getD 0 0=61 then(4,1)
 else if 0<Q15 (Qu l k to)then(5,Q15 (Qu l k to))
 else if(((Qu l k to).length:Int)=2/\Q7 (Qu l k to) 0 [47,62]=true)\/(((Qu l k to).length:Int)=1/\(Qu l k to).getD 0 0=62)then(6,((Qu l k to).length:Int))
 else(7,1)
theorem Rng.part_tail{l:List Int}{f k to:Int}(h:Rng l k to)(hF:¬(k=f/\l[k.toNat]?.getD 0=60)):QG l f k to=Q4l l k to:=by
 have n2:¬(decide (k=f)=true/\(Qu l k to).getD 0 0=60):=fun e=>hF ⟨of_decide_eq_true e.1,by rw[<-h.head];exact e.2⟩
 have n1:¬(decide (k=f)=true/\Q7 (Qu l k to) 0 [60,47]=true):=fun e=>n2 ⟨e.1,by rw[getD_eq_getElem?_getD];exact QgE e.2⟩
 rw[QG,QE,if_neg n1,if_neg n2];rfl
def spN(l:List Int)(i to:Int):Nat:=((Qu l i to).takeWhile Q8).length
theorem Qdo{l:List Int}{i to:Int}(h:Rng l i to):Qu l i to=l[i.toNat]?.getD 0::Qu l (i+1) to:=by
 have h0:=h.h0;have h1:=h.h1;have h2:=h.h2;have hl:i.toNat<(l.take to.toNat).length:=by rw[length_take];omega
 have e:(l.take to.toNat)[i.toNat]=l[i.toNat]?.getD 0:=by
  rw[<-Q8U h0 h1,List.getElem?_eq_getElem hl];rfl
 rw[Qu,Qu,List.drop_eq_getElem_cons hl,e,show(i+1).toNat=i.toNat+1 by omega]
theorem Qjj{l:List Int}{i to:Int}(h:Rng l i to)(hs:Q8 (l[i.toNat]?.getD 0)=true):spN l i to=spN l (i+1) to+1:=by
 rw[spN,Qdo h,List.takeWhile_cons,if_pos hs,List.length_cons];rfl
theorem Q1C{l:List Int}{i to:Int}(h0:0<=i)(hs:i<to->Rng l i to/\Q8 (l[i.toNat]?.getD 0)=false):spN l i to=0:=by
 by_cases h1:i<to
 ·obtain⟨h,hs⟩:=hs h1
  rw[spN,Qdo h,List.takeWhile_cons,if_neg (by rw[hs];decide)];rfl
 ·rw[spN,Qu,List.drop_of_length_le (by rw[length_take];omega)];rfl
theorem Qnl(l:List Int)(k to:Int):(Q1R Q8 (Qu l k to) 0:Int)=(spN l k to:Nat):=by rw[Qjo,spN]
theorem Qj0(l:List Int)(k to:Int):Ql (Qu l k to) 0=Ql (l.take to.toNat) k.toNat:=by rw[Qu,Qhn]
theorem Qis(l:List Int){to:Int}(h0:0<=to):std.cut (Q0 l) 0 to=Q0 (l.take to.toNat):=by
 show((Q0 l).drop (0:Int).toNat).take (to-0).toNat=_
 rw[show(0:Int).toNat=0 from rfl,drop_zero,Int.sub_zero];simp[Q0,map_take]
theorem QkD{l:List Int}(h:Un l)(n:Nat):Un (l.take n):=fun x hx=>h x (List.mem_of_mem_take hx)
def Q60(st:Bool)(sp:Int->Bool)(m F:Int):Nat->List AV->List Ob->Option (AV×List Ob):=fun f args _=>match f,args with
 |21,[.slc 1 _,.val (.int .i64 _),.val (.string _)]=>some (.val (.bool st),[])
 |86,[.val (.int .i32 r)]=>some (.val (.bool (sp r)),[])
 |87,[.slc 1 _,.val (.int .i64 _)]=>some (.val (.int .i64 m),[])
 |88,[.slc 1 _,.val (.int .i64 _),.val (.int .i64 _)]=>some (.val (.int .i64 F),[])
 |_,_=>none
def Q1k(q:Int×Int)(k:Int):AV:=.agg [.val (.int .i64 q.1),.val (.int .i64 k),.val (.int .i64 (k+q.2))]
theorem Qim(L:List Int)(k:Nat):Ql L k<=L.length-k:=by
 unfold Ql;split
 ·omega
 ·split
  ·have:=(List.takeWhile_sublist Qv (l:=L.drop k)).length_le
   rw[length_drop]at this;omega
  ·omega
def spI(l:List Int)(i to:Int):Int:=(spN l i to:Nat)
theorem QnC(l:List Int)(i to:Int):0<=spI l i to:=Int.natCast_nonneg _
theorem QdB{l:List Int}{i to:Int}(h:Rng l i to)(hs:Q8 (l[i.toNat]?.getD 0)=true):spI l i to=spI l (i+1) to+1:=by
 rw[spI,Qjj h hs,spI];rfl
theorem QdI{l:List Int}{i to:Int}(h0:0<=i)(hs:i<to->Rng l i to/\Q8 (l[i.toNat]?.getD 0)=false):spI l i to=0:=by
 rw[spI,Q1C h0 hs];rfl
theorem Q2H{l:List Int}(hl:l.length<=1000000000)(hu:Un l){k to:Int}(h:Rng l k to):∃(n:Int) (T:List AV),T=Q0 (l.take to.toNat)/\Len l n/\0<=k/\k<to/\to<=l.length/\((l.take to.toNat).length:Int)=to /\
  BCall prog 21 [.slc 1 T,.val (.int .i64 k),.val (.string ⟨#[60,47]⟩)] [] (.val (.bool (Q7 (l.take to.toNat) k.toNat (⟨#[60,47]⟩:ByteArray).data.toList))) [] /\
  BCall prog 87 [.slc 1 T,.val (.int .i64 k)] [] (.val (.int .i64 (Ql (l.take to.toNat) k.toNat))) []/\Ql (l.take to.toNat) k.toNat<=(l.take to.toNat).length-k.toNat /\
  BCall prog 88 [.slc 1 (Q0 l),.val (.int .i64 k),.val (.int .i64 to)] [] (.val (.int .i64 (Q1u (l.take to.toNat) k))) []/\std.cut (Q0 l) 0 to=T /\
  Q7 (Qu l k to) 0 [60,47]=Q7 (l.take to.toNat) k.toNat [60,47]/\Ql (Qu l k to) 0=Ql (l.take to.toNat) k.toNat/\(Q1R Q8 (Qu l k to) 0:Int)=(spN l k to:Nat)/\(Qu l k to).getD 0 0=l[k.toNat]?.getD 0 /\
  (Q0 l)[k.toNat]?.getD .dead=.val (.int .i32 (l[k.toNat]?.getD 0))/\(Q0 l).length=l.length/\to<=n/\n<=1000000000:=by
 have h0:=h.h0;have h1:=h.h1;have h2:=h.h2;have qK:((l.take to.toNat).length:Int)=to:=by rw[length_take];omega
 exact⟨l.length,_,rfl,rfl,h0,h1,h2,qK,Q3C (l.take to.toNat) (by omega) (QkD hu _).i32 k h0 (by omega) ⟨#[60,47]⟩ (by decide),QhJ (l.take to.toNat) (by omega) k h0 (by omega),Qim _ _,Qgp l hl k to h0 h1 h2,Qis l (to:=to) (by omega),by rw[Qu,QdL],Qj0 l k to,Qnl l k to,h.head,Q25 (l:=l) (i:=k) h0 (by omega),Q6 l,h2,by omega⟩
theorem Q3Q{l:List Int}{k:Int}(ak:(Q0 l)[k.toNat]?.getD .dead=.val (.int .i32 (l[k.toNat]?.getD 0))):BCall prog 86 [.val (.int .i32 (std.int (std.nth (std.cel (std.at_ (Q0 l) k)) 0)))] [] (.val (.bool (Q8 (std.int (std.nth (std.cel (std.at_ (Q0 l) k)) 0))))) []:=Q9z _
theorem QgB(l:List Int)(hl:l.length<=1000000000)(hu:Un l)(f k to:Int)(h:Rng l k to)(jO:¬l[k.toNat]?.getD 0=60)(jh:Q8 (l[k.toNat]?.getD 0)=false)(jD:Ql (l.take to.toNat) k.toNat=0)(jq:¬l[k.toNat]?.getD 0=61)(ql:¬(l[k.toNat]?.getD 0=34\/l[k.toNat]?.getD 0=39))(jv:¬l[k.toNat]?.getD 0=62)(vT:¬l[k.toNat]?.getD 0=47):BCall prog 54 [.slc 1 (Q0 l),.val (.int .i64 f),.val (.int .i64 k),.val (.int .i64 to)] [] (Q1k (QG l f k to) k) []:=by
 obtain⟨n,T,qk,hn,h0,h1,h2,qK,cS,cL,jF,cQ,cc,jI,jt,jk,ju,ak,qt,qM,vP⟩:=Q2H hl hu h;have hF:¬(k=f/\l[k.toNat]?.getD 0=60):=fun e=>jO e.2
 have jS:spN l k to=0:=Q1C h0 (fun _=>⟨h,jh⟩)
 have n3:¬(0<(Q1R Q8 (Qu l k to) 0:Int)):=by rw[jk,jS];decide
 obtain⟨m,hm⟩:=exq ((Ql (l.take to.toNat) k.toNat:Nat):Int);have qF:0<=m:=by omega
 have vE:k+m<=to:=by omega
 rw[<-hm]at cL;have n4:¬(0<(Ql (Qu l k to) 0:Int)):=by rw[jt,jD];decide
 have vN:m=0:=by rw[hm,jD];rfl
 have qw:¬0<m:=by omega
 have n5:¬((Qu l k to).getD 0 0=61):=by rw[ju];exact jq
 obtain⟨F,qQ⟩:=exq (Q1u (l.take to.toNat) k:Int);rw[<-qQ]at cQ;have n6:¬(0<Q15 (Qu l k to)):=by rw[h.noval ql];decide
 have q34:¬l[k.toNat]?.getD 0=34:=fun e=>ql (.inl e)
 have q39:¬l[k.toNat]?.getD 0=39:=fun e=>ql (.inr e)
 have hE:¬Q5I l k to:=by
  rintro(⟨_,e⟩|⟨_,e,_⟩)
  ·exact jv e
  ·exact vT e
 have hP:QG l f k to=(7,1):=by rw[h.part_tail hF,Q4l,if_neg n3,if_neg n4,if_neg n5,if_neg n6,if_neg (fun e=>hE (h.ends.1 e))]
 obtain⟨kd,ja⟩:=exq (7:Int);obtain⟨tt,j3⟩:=exq (k+1:Int);have jp:Q1k (QG l f k to) k=.agg [.val (.int .i64 kd),.val (.int .i64 k),.val (.int .i64 tt)]:=by rw[hP,ja,j3];rfl
 rw[jp];clear hP jp;clear jI jk ju jF cS qk qK hF jt n3 n4 n5 n6 hm jD jS vN qQ hE;refine fnN (Q60 true Q8 m F) func54 rfl fun _ _=>?_
 with_reducible refine cv2 (Q0 l) Q8 ?_
 have jJ:=Q4r hn;have cSp2:=Q3Q ak;have cL2:BCall prog 87 [.slc 1 (std.cut (Q0 l) 0 to),.val (.int .i64 k)] [] (.val (.int .i64 m)) []:=by rw[cc];exact cL
 with_reducible repeat' first|refine aU (zA jJ <| zA ak <| zA h0 <| zA h1 <| zA qM <| zA jO <| zA jh <| zA qw <| zA vE <| zA jq <| zA q34 <| zA q39 <| zA jv vT) ?_|refine And.intro ?_ ?_|intro hb
 all_goals first
  |exact cSp2
  |exact cL2
  |exact cQ
  |exact .pure rfl ⟨.inl (by rw[ja]),.inl rfl,.inl (by first|(rw[j3];done)|(rw[j3];rfl)),trivial⟩
