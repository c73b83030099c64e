/- Lemmas, conditions told -/
import Derived.Test.YtibemhahkicbpaaGreatL15
set_option maxRecDepth 99999
set_option maxHeartbeats 0
set_option linter.unusedSimpArgs false
set_option linter.unusedVariables false
namespace Go.Proofs.YtibemhahkicbpaaGreat
open Go.RowKit Go.Lib
section
open Tryz
def QkA(t:Txt)(b:List UInt8)(k f u:Int)(N D S:List AV):List AV:=Q3 (Q1G t b k f u (mkB N D S)).n
def Qlb(t:Txt)(b:List UInt8)(k f u:Int)(N D S:List AV):List AV:=Qk (Q1G t b k f u (mkB N D S)).d
def Qlc(t:Txt)(b:List UInt8)(k f u:Int)(N D S:List AV):List AV:=Qi (Q1G t b k f u (mkB N D S)).s
def QkJ(t:Txt)(b:List UInt8)(k f u:Int)(N D S:List AV):List AV:=Q3 (Q2Y t b k f u (mkB N D S)).n
def Qkl(t:Txt)(b:List UInt8)(k f u:Int)(N D S:List AV):List AV:=Qk (Q2Y t b k f u (mkB N D S)).d
def Qjp(t:Txt)(b:List UInt8)(k f u:Int)(N D S:List AV):List AV:=Qi (Q2Y t b k f u (mkB N D S)).s
def Qpl(p:Pr)(nm:Int->Int->List AV)(wr:Int->Int->Int->List AV->List AV)(lf:Int->Int->Int->List AV->List AV)(kd:Int->List AV->List AV)(sn sd ss en ed es:Int->Int->Int->List AV->List AV->List AV->List AV)(rk rf ru:Int->Int->Int)(ra:Int->Int->List AV)(rr re:Int->Int->Bool):Nat->List AV->List Ob->Option (AV×List Ob):=fun f args ob=>match f,args with
 |49,[.slc 1 _,.val (.int .i64 f),.val (.int .i64 u)]=>some (.agg [.val (.int .i64 (rk f u)),.val (.int .i64 (rf f u)),.val (.int .i64 (ru f u)),.slc 9 (ra f u),.val (.bool (rr f u)),.val (.bool (re f u))],[])
 |135,[.box 0 0,.agg [_,.val (.int .i64 f),.val (.int .i64 u),_]]=>some (.slc 1 (nm f u),ob)
 |134,[.box 0 0,.val (.int .i64 c),.val (.int .i64 f),.val (.int .i64 u)]=>Q3K ob fun b k m r o rt N D S=>some (.tup [],obM 1 b k m r o rt N (wr c f u D) S)
 |138,[.box 0 0,.agg [.val (.int .i64 kind),.val (.int .i64 f),.val (.int .i64 u),_]]=>Q3K ob fun b k m r o rt N D S=>some (.val (.int .i64 (p.len N)),obM 1 b k m r o rt (lf kind f u N) D S)
 |42,[.box 0 0,.val (.int .i64 n)]=>Q3K ob fun b k m r o rt N D S=>some (.tup [],obM 1 b k m r o rt N D (kd n S))
 |136,[.box 0 0,.agg [.val (.int .i64 kind),.val (.int .i64 f),.val (.int .i64 u),_]]=>Q3K ob fun b k m r o rt N D S=>some (.tup [],obM 1 b k m r o rt (sn kind f u N D S) (sd kind f u N D S) (ss kind f u N D S))
 |137,[.box 0 0,.agg [.val (.int .i64 kind),.val (.int .i64 f),.val (.int .i64 u),_]]=>Q3K ob fun b k m r o rt N D S=>some (.tup [],obM 1 b k m r o rt (en kind f u N D S) (ed kind f u N D S) (es kind f u N D S))
 |_,_=>none
theorem Qpj(t:Txt)(c f u:Int)(m:Mk):(QV t c f u m).n=m.n:=rfl
theorem Qpt(t:Txt)(c f u:Int)(m:Mk):(QV t c f u m).s=m.s:=rfl
theorem QpC(t:Txt)(c f u:Int)(m:Mk):(QV t c f u m).d=m.d++[⟨Q1s t f,Q1s t u,c⟩]:=rfl
theorem QoR(t:Txt)(f u:Int):(nmA t f u).length=(Qs t f u).length:=Qx _
theorem Qhf(t:Txt)(b:List UInt8)(k f u:Int)(m:Mk):QkA t b k f u (Q3 m.n) (Qk m.d) (Qi m.s)=Q3 (Q1G t b k f u m).n:=by rw[QkA,Q2m]
theorem QnE(t:Txt)(b:List UInt8)(k f u c:Int)(m:Mk):QkA t b k f u (Q3 m.n) (Qk (m.d++[⟨Q1s t f,Q1s t u,c⟩])) (Qi m.s)=Q3 (Q1G t b k f u (QV t c f u m)).n:=Qhf t b k f u (QV t c f u m)
theorem QgQ(t:Txt)(b:List UInt8)(k f u:Int)(m:Mk):Qlb t b k f u (Q3 m.n) (Qk m.d) (Qi m.s)=Qk (Q1G t b k f u m).d:=by rw[Qlb,Q2m]
theorem Qmq(t:Txt)(b:List UInt8)(k f u c:Int)(m:Mk):Qlb t b k f u (Q3 m.n) (Qk (m.d++[⟨Q1s t f,Q1s t u,c⟩])) (Qi m.s)=Qk (Q1G t b k f u (QV t c f u m)).d:=QgQ t b k f u (QV t c f u m)
theorem Qhc(t:Txt)(b:List UInt8)(k f u:Int)(m:Mk):Qlc t b k f u (Q3 m.n) (Qk m.d) (Qi m.s)=Qi (Q1G t b k f u m).s:=by rw[Qlc,Q2m]
theorem Qmp(t:Txt)(b:List UInt8)(k f u c:Int)(m:Mk):Qlc t b k f u (Q3 m.n) (Qk (m.d++[⟨Q1s t f,Q1s t u,c⟩])) (Qi m.s)=Qi (Q1G t b k f u (QV t c f u m)).s:=Qhc t b k f u (QV t c f u m)
theorem QgJ(t:Txt)(b:List UInt8)(k f u:Int)(m:Mk):QkJ t b k f u (Q3 m.n) (Qk m.d) (Qi m.s)=Q3 (Q2Y t b k f u m).n:=by rw[QkJ,Q2m]
theorem QnN(t:Txt)(b:List UInt8)(k f u c:Int)(m:Mk):QkJ t b k f u (Q3 m.n) (Qk (m.d++[⟨Q1s t f,Q1s t u,c⟩])) (Qi m.s)=Q3 (Q2Y t b k f u (QV t c f u m)).n:=QgJ t b k f u (QV t c f u m)
theorem Qh7(t:Txt)(b:List UInt8)(k f u:Int)(m:Mk):Qkl t b k f u (Q3 m.n) (Qk m.d) (Qi m.s)=Qk (Q2Y t b k f u m).d:=by rw[Qkl,Q2m]
theorem QnO(t:Txt)(b:List UInt8)(k f u c:Int)(m:Mk):Qkl t b k f u (Q3 m.n) (Qk (m.d++[⟨Q1s t f,Q1s t u,c⟩])) (Qi m.s)=Qk (Q2Y t b k f u (QV t c f u m)).d:=Qh7 t b k f u (QV t c f u m)
theorem QgI(t:Txt)(b:List UInt8)(k f u:Int)(m:Mk):Qjp t b k f u (Q3 m.n) (Qk m.d) (Qi m.s)=Qi (Q2Y t b k f u m).s:=by rw[Qjp,Q2m]
theorem QlX(t:Txt)(b:List UInt8)(k f u c:Int)(m:Mk):Qjp t b k f u (Q3 m.n) (Qk (m.d++[⟨Q1s t f,Q1s t u,c⟩])) (Qi m.s)=Qi (Q2Y t b k f u (QV t c f u m)).s:=QgI t b k f u (QV t c f u m)
theorem QpW(t:Txt)(b:List UInt8)(k f u:Int)(m:Mk):(lkF t b k f u m).n=m.n++[QI k (QU t b f u)]:=rfl
theorem QpT(t:Txt)(b:List UInt8)(k f u:Int)(m:Mk):(lkF t b k f u m).d=m.d:=rfl
theorem QpL(t:Txt)(b:List UInt8)(k f u:Int)(m:Mk):(lkF t b k f u m).s=Q2k m.n.length m.s:=rfl
theorem Qmo(t:Txt)(b:List UInt8)(hs:Sml t b)(rt:Int)(m:Mk)(X:List UInt8)(B D:Nat)(iv:MkInv m X B D)(hB:B<=700000)(hD:D<=700000)(hX:X.length<=1000000)(kind f u:Int)(wh:Bool)(hi:InT t f u) :
  BCall prog 88 [.box 0 0,.agg [.val (.int .i64 kind),.val (.int .i64 f),.val (.int .i64 u),.val (.bool wh)]] (obT 0 t b rt m) (.tup []) (obT 1 t b rt (Q26 t b kind f u wh m)):=by
 have cR:=QfE t.r hs.hr f u hi.h0 hi.h1 hi.h2;have qQ:=hi.off hs;have ok:=iv.ok (by omega) (by omega)
 have pS:=ok.d;have cW:=fun c=>Q9C t b rt m (by omega) c f u qQ.1 qQ.2
 have key:∀(m1:Mk)(D1:Nat),MkInv m1 X B D1->D1<=700001 ->
   BCall prog 135 [.box 0 0,.agg [.val (.int .i64 kind),.val (.int .i64 f),.val (.int .i64 u),.val (.bool wh)]] (obT 0 t b rt m1) (.slc 1 (nmA t f u)) (obT 0 t b rt m1) /\
   (Qs t f u≠[]->BCall prog 136 [.box 0 0,.agg [.val (.int .i64 kind),.val (.int .i64 f),.val (.int .i64 u),.val (.bool wh)]] (obT 0 t b rt m1) (.tup []) (obT 1 t b rt (Q1G t b kind f u m1))) /\
   BCall prog 137 [.box 0 0,.agg [.val (.int .i64 kind),.val (.int .i64 f),.val (.int .i64 u),.val (.bool wh)]] (obT 0 t b rt m1) (.tup []) (obT 1 t b rt (Q2Y t b kind f u m1)) /\
   BCall prog 138 [.box 0 0,.agg [.val (.int .i64 kind),.val (.int .i64 f),.val (.int .i64 u),.val (.bool wh)]] (obT 0 t b rt m1) (.val (.int .i64 m1.n.length)) (obT 1 t b rt (Q2n t b kind f u m1)) /\
   BCall prog 42 [.box 0 0,.val (.int .i64 m1.n.length)] (obT 0 t b rt (Q2n t b kind f u m1)) (.tup []) (obT 1 t b rt (lkF t b kind f u m1)):=fun m1 D1 iv1 hD1=>by
  have ok1:=iv1.ok (by omega) (by omega)
  exact⟨Qgu t b hs.hr rt m1 kind f u wh hi.h0 hi.h1 hi.h2,fun jQ=>QmT t b hs rt m1 ok1 kind f u wh hi jQ,Qpu t b hs rt m1 X B D1 iv1 (by omega) (by omega) hX kind f u wh hi,
   QaS t b hs.hb hs.ok hs.hr rt m1 (by have:=ok1.n;omega) kind f u wh hi.h0 hi.h1 hi.h2,
   QaH t b rt (Q2n t b kind f u m1) ok1.s1 (by have:=ok1.s;show m1.s.length<=_;omega) (by have:=ok1.top;show(QZ m1.s).kids.length<=_;omega) m1.n.length⟩
 obtain⟨n0,s0,e0,l0,k0⟩:=key m D iv (by omega)
 obtain⟨n1,s1,e1,l1,k1⟩:=key _ _ (Q1P iv t 1 f u) (by omega)
 obtain⟨n2,s2,e2,l2,k2⟩:=key _ _ (Q1P iv t 2 f u) (by omega)
 have w1:=cW 1;have w2:=cW 2;clear key cW qQ pS;unfold obT obM;refine fnN (Qpl std (nmA t) (wrA t) (lfT t b) kdA (QkA t b) (Qlb t b) (Qlc t b) (QkJ t b) (Qkl t b) (Qjp t b) (rdk t.r) (rdf t.r) (rdu t.r) (rda t.r) (rdr t.r) (rde t.r)) func88 rfl fun _ _=>?_
 generalize hrk:rdk t.r=rk;generalize vT:rdf t.r=rf;generalize zb:rdu t.r=ru;generalize hra:rda t.r=ra;generalize kP:rdr t.r=rr;generalize hre:rde t.r=re;generalize hN:Q3 m.n=N;generalize zU:Qk m.d=D';generalize hS:Qi m.s=S;generalize vR:Q2 b=B';generalize hR:Q0 t.r=R;generalize hO:Q9 t.off=O;generalize hK:t.kind=K;generalize hM:t.bom=M;with_reducible refine Qqc (nmA t) (wrA t) (lfT t b) kdA (QkA t b) (Qlb t b) (Qlc t b) (QkJ t b) (Qkl t b) (Qjp t b) ?_
 subst hrk vT zb hra kP hre hN zU hS vR hR hO hK hM;simp only[obT,obM,Q2n,Q20,Qpj,Qpt,QpC,QpW,QpT,QpL,Q3g]at n0 s0 e0 l0 k0 n1 s1 e1 l1 k1 n2 s2 e2 l2 k2 w1 w2;simp only[std,Qbb,Q9X,QaD,Q1o,Qhf,QgQ,Qhc,QgJ,Qh7,QgI,QnE,Qmq,Qmp,QnN,QnO,QlX,beq_iff_eq,beq_eq_false_iff_ne,decide_eq_true_eq,decide_eq_false_iff_not,QoR,rdr,Bool.not_eq_true',Bool.not_eq_false',Int.natCast_pos];have jQ:0<(Qs t f u).length->Qs t f u≠[]:=fun h e=>by rw[e]at h;exact absurd h (by decide)
 repeat' first
  |(with_reducible apply And.intro)
  |(with_reducible intro hh)
 all_goals first
  |(exfalso;omega)
  |exact w1
  |exact w2
  |exact cR
  |exact n0
  |exact n1
  |exact n2
  |exact e0
  |exact e1
  |exact e2
  |exact l0
  |exact l1
  |exact l2
  |exact k0
  |exact k1
  |exact k2
  |exact s0 (jQ (by assumption))
  |exact s1 (jQ (by assumption))
  |exact s2 (jQ (by assumption))
  |skip
 all_goals clear n0 s0 e0 l0 k0 n1 s1 e1 l1 k1 n2 s2 e2 l2 k2 w1 w2 cR iv ok hi hs jQ
 all_goals first
  |(exfalso;simp_all;done)
  |(refine⟨[some 0,some 1,some 2,some 3,some 4,some 5],.tup [],_,rfl,rfl,Nat.le_of_ble_eq_true rfl,rfl,?_,trivial⟩
    simp[Qe,Q26,QpW,QpT,QpL,Qpj,Qpt,QpC, *])
