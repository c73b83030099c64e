/- Lemmas, conditions told -/
import Derived.Test.YtlaegncokadkkaaGreatG16
set_option maxRecDepth 99999
set_option maxHeartbeats 0
set_option linter.unusedSimpArgs false
set_option linter.unusedVariables false
namespace Go.Proofs.YtlaegncokadkkaaGreat
open Go.RowKit Go.Lib
section
open Tryz
def Qi0(t:Txt)(b:List UInt8)(k f u:Int)(N D S:List AV):List AV:=Q9 (Q1B t b k f u (mkB N D S)).n
def QiW(t:Txt)(b:List UInt8)(k f u:Int)(N D S:List AV):List AV:=QJ (Q1B t b k f u (mkB N D S)).d
def Qjb(t:Txt)(b:List UInt8)(k f u:Int)(N D S:List AV):List AV:=Qc (Q1B t b k f u (mkB N D S)).s
def Qkh(t:Txt)(b:List UInt8)(k f u:Int)(N D S:List AV):List AV:=Q9 (Q3m t b k f u (mkB N D S)).n
def QiA(t:Txt)(b:List UInt8)(k f u:Int)(N D S:List AV):List AV:=QJ (Q3m t b k f u (mkB N D S)).d
def Qk4(t:Txt)(b:List UInt8)(k f u:Int)(N D S:List AV):List AV:=Qc (Q3m t b k f u (mkB N D S)).s
def QoD(p:Pr)(nm:Int->Int->List AV)(wr:Int->Int->Int->List AV->List AV)(lf:Int->Int->Int->List AV->List AV)(kd:Int->List AV->List AV)(sn sd ss en ed es:Int->Int->Int->List AV->List AV->List AV->List AV)(rk rf ru:Int->Int->Int)(ra:Int->Int->List AV)(rr re:Int->Int->Bool):Nat->List AV->List Ob->Option (AV×List Ob):=fun f args ob=>match f,args with
 |10,[.slc 1 _,.val (.int .i64 f),.val (.int .i64 u)]=>some (.agg [.val (.int .i64 (rk f u)),.val (.int .i64 (rf f u)),.val (.int .i64 (ru f u)),.slc 9 (ra f u),.val (.bool (rr f u)),.val (.bool (re f u))],[])
 |146,[.box 0 0,.agg [_,.val (.int .i64 f),.val (.int .i64 u),_]]=>some (.slc 1 (nm f u),ob)
 |145,[.box 0 0,.val (.int .i64 c),.val (.int .i64 f),.val (.int .i64 u)]=>Q37 ob fun b k m r o rt N D S=>some (.tup [],obM 1 b k m r o rt N (wr c f u D) S)
 |149,[.box 0 0,.agg [.val (.int .i64 kind),.val (.int .i64 f),.val (.int .i64 u),_]]=>Q37 ob fun b k m r o rt N D S=>some (.val (.int .i64 (p.len N)),obM 1 b k m r o rt (lf kind f u N) D S)
 |63,[.box 0 0,.val (.int .i64 n)]=>Q37 ob fun b k m r o rt N D S=>some (.tup [],obM 1 b k m r o rt N D (kd n S))
 |147,[.box 0 0,.agg [.val (.int .i64 kind),.val (.int .i64 f),.val (.int .i64 u),_]]=>Q37 ob fun b k m r o rt N D S=>some (.tup [],obM 1 b k m r o rt (sn kind f u N D S) (sd kind f u N D S) (ss kind f u N D S))
 |148,[.box 0 0,.agg [.val (.int .i64 kind),.val (.int .i64 f),.val (.int .i64 u),_]]=>Q37 ob fun b k m r o rt N D S=>some (.tup [],obM 1 b k m r o rt (en kind f u N D S) (ed kind f u N D S) (es kind f u N D S))
 |_,_=>none
theorem QnJ(t:Txt)(c f u:Int)(m:Mk):(QO t c f u m).n=m.n:=rfl
theorem Qom(t:Txt)(c f u:Int)(m:Mk):(QO t c f u m).s=m.s:=rfl
theorem Qof(t:Txt)(c f u:Int)(m:Mk):(QO t c f u m).d=m.d++[⟨Q31 t f,Q31 t u,c⟩]:=rfl
theorem QmN(t:Txt)(f u:Int):(nmA t f u).length=(Q10 t f u).length:=Q6 _
theorem Qg3(t:Txt)(b:List UInt8)(k f u:Int)(m:Mk):Qi0 t b k f u (Q9 m.n) (QJ m.d) (Qc m.s)=Q9 (Q1B t b k f u m).n:=by rw[Qi0,Q1J]
theorem QkT(t:Txt)(b:List UInt8)(k f u c:Int)(m:Mk):Qi0 t b k f u (Q9 m.n) (QJ (m.d++[⟨Q31 t f,Q31 t u,c⟩])) (Qc m.s)=Q9 (Q1B t b k f u (QO t c f u m)).n:=Qg3 t b k f u (QO t c f u m)
theorem Qfv(t:Txt)(b:List UInt8)(k f u:Int)(m:Mk):QiW t b k f u (Q9 m.n) (QJ m.d) (Qc m.s)=QJ (Q1B t b k f u m).d:=by rw[QiW,Q1J]
theorem QlN(t:Txt)(b:List UInt8)(k f u c:Int)(m:Mk):QiW t b k f u (Q9 m.n) (QJ (m.d++[⟨Q31 t f,Q31 t u,c⟩])) (Qc m.s)=QJ (Q1B t b k f u (QO t c f u m)).d:=Qfv t b k f u (QO t c f u m)
theorem Qfw(t:Txt)(b:List UInt8)(k f u:Int)(m:Mk):Qjb t b k f u (Q9 m.n) (QJ m.d) (Qc m.s)=Qc (Q1B t b k f u m).s:=by rw[Qjb,Q1J]
theorem QlT(t:Txt)(b:List UInt8)(k f u c:Int)(m:Mk):Qjb t b k f u (Q9 m.n) (QJ (m.d++[⟨Q31 t f,Q31 t u,c⟩])) (Qc m.s)=Qc (Q1B t b k f u (QO t c f u m)).s:=Qfw t b k f u (QO t c f u m)
theorem QfF(t:Txt)(b:List UInt8)(k f u:Int)(m:Mk):Qkh t b k f u (Q9 m.n) (QJ m.d) (Qc m.s)=Q9 (Q3m t b k f u m).n:=by rw[Qkh,Q1J]
theorem QlL(t:Txt)(b:List UInt8)(k f u c:Int)(m:Mk):Qkh t b k f u (Q9 m.n) (QJ (m.d++[⟨Q31 t f,Q31 t u,c⟩])) (Qc m.s)=Q9 (Q3m t b k f u (QO t c f u m)).n:=QfF t b k f u (QO t c f u m)
theorem QfE(t:Txt)(b:List UInt8)(k f u:Int)(m:Mk):QiA t b k f u (Q9 m.n) (QJ m.d) (Qc m.s)=QJ (Q3m t b k f u m).d:=by rw[QiA,Q1J]
theorem QlM(t:Txt)(b:List UInt8)(k f u c:Int)(m:Mk):QiA t b k f u (Q9 m.n) (QJ (m.d++[⟨Q31 t f,Q31 t u,c⟩])) (Qc m.s)=QJ (Q3m t b k f u (QO t c f u m)).d:=QfE t b k f u (QO t c f u m)
theorem Qgo(t:Txt)(b:List UInt8)(k f u:Int)(m:Mk):Qk4 t b k f u (Q9 m.n) (QJ m.d) (Qc m.s)=Qc (Q3m t b k f u m).s:=by rw[Qk4,Q1J]
theorem Qm7(t:Txt)(b:List UInt8)(k f u c:Int)(m:Mk):Qk4 t b k f u (Q9 m.n) (QJ (m.d++[⟨Q31 t f,Q31 t u,c⟩])) (Qc m.s)=Qc (Q3m t b k f u (QO t c f u m)).s:=Qgo t b k f u (QO t c f u m)
theorem Qo2(t:Txt)(b:List UInt8)(k f u:Int)(m:Mk):(lkF t b k f u m).n=m.n++[QA k (Q1r t b f u)]:=rfl
theorem Qob(t:Txt)(b:List UInt8)(k f u:Int)(m:Mk):(lkF t b k f u m).d=m.d:=rfl
theorem Qo6(t:Txt)(b:List UInt8)(k f u:Int)(m:Mk):(lkF t b k f u m).s=Q2L m.n.length m.s:=rfl
theorem Qmc(t:Txt)(b:List UInt8)(hs:Sml t b)(rt:Int)(m:Mk)(X:List UInt8)(B D:Nat)(iv:MkInv m X B D)(hB:B<=700000)(hD:D<=700000)(hX:X.length<=1000000)(kind f u:Int)(wh:Bool)(hi:InT t f u) :
  BCall prog 102 [.box 0 0,.agg [.val (.int .i64 kind),.val (.int .i64 f),.val (.int .i64 u),.val (.bool wh)]] (obT 0 t b rt m) (.tup []) (obT 1 t b rt (Q36 t b kind f u wh m)):=by
 have cR:=Qc6 t.r hs.hr f u hi.h0 hi.h1 hi.h2;have qr:=hi.off hs;have ok:=iv.ok (by omega) (by omega)
 have pK:=ok.d;have cW:=fun c=>Q8X t b rt m (by omega) c f u qr.1 qr.2
 have key:∀(m1:Mk)(D1:Nat),MkInv m1 X B D1->D1<=700001 ->
   BCall prog 146 [.box 0 0,.agg [.val (.int .i64 kind),.val (.int .i64 f),.val (.int .i64 u),.val (.bool wh)]] (obT 0 t b rt m1) (.slc 1 (nmA t f u)) (obT 0 t b rt m1) /\
   (Q10 t f u≠[]->BCall prog 147 [.box 0 0,.agg [.val (.int .i64 kind),.val (.int .i64 f),.val (.int .i64 u),.val (.bool wh)]] (obT 0 t b rt m1) (.tup []) (obT 1 t b rt (Q1B t b kind f u m1))) /\
   BCall prog 148 [.box 0 0,.agg [.val (.int .i64 kind),.val (.int .i64 f),.val (.int .i64 u),.val (.bool wh)]] (obT 0 t b rt m1) (.tup []) (obT 1 t b rt (Q3m t b kind f u m1)) /\
   BCall prog 149 [.box 0 0,.agg [.val (.int .i64 kind),.val (.int .i64 f),.val (.int .i64 u),.val (.bool wh)]] (obT 0 t b rt m1) (.val (.int .i64 m1.n.length)) (obT 1 t b rt (Q1O t b kind f u m1)) /\
   BCall prog 63 [.box 0 0,.val (.int .i64 m1.n.length)] (obT 0 t b rt (Q1O t b kind f u m1)) (.tup []) (obT 1 t b rt (lkF t b kind f u m1)):=fun m1 D1 iv1 hD1=>by
  have ok1:=iv1.ok (by omega) (by omega)
  exact⟨Qfo t b hs.hr rt m1 kind f u wh hi.h0 hi.h1 hi.h2,fun jL=>Qlb t b hs rt m1 ok1 kind f u wh hi jL,QnZ t b hs rt m1 X B D1 iv1 (by omega) (by omega) hX kind f u wh hi,
   Qae t b hs.hb hs.ok hs.hr rt m1 (by have:=ok1.n;omega) kind f u wh hi.h0 hi.h1 hi.h2,
   Q9T t b rt (Q1O t b kind f u m1) ok1.s1 (by have:=ok1.s;show m1.s.length<=_;omega) (by have:=ok1.top;show(QM m1.s).kids.length<=_;omega) m1.n.length⟩
 obtain⟨n0,s0,e0,l0,k0⟩:=key m D iv (by omega)
 obtain⟨n1,s1,e1,l1,k1⟩:=key _ _ (Q2y iv t 1 f u) (by omega)
 obtain⟨n2,s2,e2,l2,k2⟩:=key _ _ (Q2y iv t 2 f u) (by omega)
 have w1:=cW 1;have w2:=cW 2;clear key cW qr pK;unfold obT obM;refine fnN (QoD std (nmA t) (wrA t) (lfT t b) kdA (Qi0 t b) (QiW t b) (Qjb t b) (Qkh t b) (QiA t b) (Qk4 t b) (rdk t.r) (rdf t.r) (rdu t.r) (rda t.r) (rdr t.r) (rde t.r)) func102 rfl fun _ _=>?_
 generalize hrk:rdk t.r=rk;generalize vF:rdf t.r=rf;generalize hru:rdu t.r=ru;generalize hra:rda t.r=ra;generalize gr:rdr t.r=rr;generalize hre:rde t.r=re;generalize hN:Q9 m.n=N;generalize zE:QJ m.d=D';generalize hS:Qc m.s=S;generalize vD:Q5 b=B';generalize hR:Q0 t.r=R;generalize hO:Qh t.off=O;generalize hK:t.kind=K;generalize hM:t.bom=M;with_reducible refine Q5j (nmA t) (wrA t) (lfT t b) kdA (Qi0 t b) (QiW t b) (Qjb t b) (Qkh t b) (QiA t b) (Qk4 t b) ?_
 subst hrk vF hru hra gr hre hN zE hS vD hR hO hK hM;simp only[obT,obM,Q1O,Q1W,QnJ,Qom,Qof,Qo2,Qob,Qo6,Q3i]at n0 s0 e0 l0 k0 n1 s1 e1 l1 k1 n2 s2 e2 l2 k2 w1 w2;simp only[std,Q9E,Q99,Q9d,Q1z,Qg3,Qfv,Qfw,QfF,QfE,Qgo,QkT,QlN,QlT,QlL,QlM,Qm7,beq_iff_eq,beq_eq_false_iff_ne,decide_eq_true_eq,decide_eq_false_iff_not,QmN,rdr,Bool.not_eq_true',Bool.not_eq_false',Int.natCast_pos];have jL:0<(Q10 t f u).length->Q10 t f u≠[]:=fun h e=>by rw[e]at h;exact absurd h (by decide)
 repeat' first
  |(with_reducible apply And.intro)
  |(with_reducible intro hh)
 all_goals first
  |(exfalso;omega)
  |exact w1
  |exact w2
  |exact cR
  |exact n0
  |exact n1
  |exact n2
  |exact e0
  |exact e1
  |exact e2
  |exact l0
  |exact l1
  |exact l2
  |exact k0
  |exact k1
  |exact k2
  |exact s0 (jL (by assumption))
  |exact s1 (jL (by assumption))
  |exact s2 (jL (by assumption))
  |skip
 all_goals clear n0 s0 e0 l0 k0 n1 s1 e1 l1 k1 n2 s2 e2 l2 k2 w1 w2 cR iv ok hi hs jL
 all_goals first
  |(exfalso;simp_all;done)
  |(refine⟨[some 0,some 1,some 2,some 3,some 4,some 5],.tup [],_,rfl,rfl,Nat.le_of_ble_eq_true rfl,rfl,?_,trivial⟩
    simp[Qf,Q36,Qo2,Qob,Qo6,QnJ,Qom,Qof, *])
