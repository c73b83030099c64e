/- Lemmas, conditions told -/
import Derived.Test.YtnlbhaeimmenoaaGreatG16
set_option maxRecDepth 99999
set_option maxHeartbeats 0
set_option linter.unusedSimpArgs false
set_option linter.unusedVariables false
namespace Go.Proofs.YtnlbhaeimmenoaaGreat
open Go.RowKit Go.Lib
section
open Tryz
def QjU(t:Txt)(b:List UInt8)(k f u:Int)(N D S:List AV):List AV:=Q1 (Q1k t b k f u (mkB N D S)).n
def Qkb(t:Txt)(b:List UInt8)(k f u:Int)(N D S:List AV):List AV:=Q11 (Q1k t b k f u (mkB N D S)).d
def Qmn(t:Txt)(b:List UInt8)(k f u:Int)(N D S:List AV):List AV:=Qg (Q1k t b k f u (mkB N D S)).s
def QkN(t:Txt)(b:List UInt8)(k f u:Int)(N D S:List AV):List AV:=Q1 (Q2u t b k f u (mkB N D S)).n
def QkJ(t:Txt)(b:List UInt8)(k f u:Int)(N D S:List AV):List AV:=Q11 (Q2u t b k f u (mkB N D S)).d
def Qlm(t:Txt)(b:List UInt8)(k f u:Int)(N D S:List AV):List AV:=Qg (Q2u t b k f u (mkB N D S)).s
def Qr9(p:Pr)(nm:Int->Int->List AV)(wr:Int->Int->Int->List AV->List AV)(lf:Int->Int->Int->List AV->List AV)(kd:Int->List AV->List AV)(sn sd ss en ed es:Int->Int->Int->List AV->List AV->List AV->List AV)(rk rf ru:Int->Int->Int)(ra:Int->Int->List AV)(rr re:Int->Int->Bool):Nat->List AV->List Ob->Option (AV×List Ob):=fun f args ob=>match f,args with
 |32,[.slc 1 _,.val (.int .i64 f),.val (.int .i64 u)]=>some (.agg [.val (.int .i64 (rk f u)),.val (.int .i64 (rf f u)),.val (.int .i64 (ru f u)),.slc 9 (ra f u),.val (.bool (rr f u)),.val (.bool (re f u))],[])
 |97,[.box 0 0,.agg [_,.val (.int .i64 f),.val (.int .i64 u),_]]=>some (.slc 1 (nm f u),ob)
 |96,[.box 0 0,.val (.int .i64 c),.val (.int .i64 f),.val (.int .i64 u)]=>Q3S ob fun b k m r o rt N D S=>some (.tup [],obM 1 b k m r o rt N (wr c f u D) S)
 |100,[.box 0 0,.agg [.val (.int .i64 kind),.val (.int .i64 f),.val (.int .i64 u),_]]=>Q3S ob fun b k m r o rt N D S=>some (.val (.int .i64 (p.len N)),obM 1 b k m r o rt (lf kind f u N) D S)
 |23,[.box 0 0,.val (.int .i64 n)]=>Q3S ob fun b k m r o rt N D S=>some (.tup [],obM 1 b k m r o rt N D (kd n S))
 |98,[.box 0 0,.agg [.val (.int .i64 kind),.val (.int .i64 f),.val (.int .i64 u),_]]=>Q3S ob fun b k m r o rt N D S=>some (.tup [],obM 1 b k m r o rt (sn kind f u N D S) (sd kind f u N D S) (ss kind f u N D S))
 |99,[.box 0 0,.agg [.val (.int .i64 kind),.val (.int .i64 f),.val (.int .i64 u),_]]=>Q3S ob fun b k m r o rt N D S=>some (.tup [],obM 1 b k m r o rt (en kind f u N D S) (ed kind f u N D S) (es kind f u N D S))
 |_,_=>none
theorem Qqf(t:Txt)(c f u:Int)(m:Mk):(QI t c f u m).n=m.n:=rfl
theorem Qqu(t:Txt)(c f u:Int)(m:Mk):(QI t c f u m).s=m.s:=rfl
theorem Qqz(t:Txt)(c f u:Int)(m:Mk):(QI t c f u m).d=m.d++[⟨Q2c t f,Q2c t u,c⟩]:=rfl
theorem QpH(t:Txt)(f u:Int):(nmA t f u).length=(QC t f u).length:=Qx _
theorem QhD(t:Txt)(b:List UInt8)(k f u:Int)(m:Mk):QjU t b k f u (Q1 m.n) (Q11 m.d) (Qg m.s)=Q1 (Q1k t b k f u m).n:=by rw[QjU,Q2j]
theorem Qog(t:Txt)(b:List UInt8)(k f u c:Int)(m:Mk):QjU t b k f u (Q1 m.n) (Q11 (m.d++[⟨Q2c t f,Q2c t u,c⟩])) (Qg m.s)=Q1 (Q1k t b k f u (QI t c f u m)).n:=QhD t b k f u (QI t c f u m)
theorem QhA(t:Txt)(b:List UInt8)(k f u:Int)(m:Mk):Qkb t b k f u (Q1 m.n) (Q11 m.d) (Qg m.s)=Q11 (Q1k t b k f u m).d:=by rw[Qkb,Q2j]
theorem QoF(t:Txt)(b:List UInt8)(k f u c:Int)(m:Mk):Qkb t b k f u (Q1 m.n) (Q11 (m.d++[⟨Q2c t f,Q2c t u,c⟩])) (Qg m.s)=Q11 (Q1k t b k f u (QI t c f u m)).d:=QhA t b k f u (QI t c f u m)
theorem QgV(t:Txt)(b:List UInt8)(k f u:Int)(m:Mk):Qmn t b k f u (Q1 m.n) (Q11 m.d) (Qg m.s)=Qg (Q1k t b k f u m).s:=by rw[Qmn,Q2j]
theorem Qou(t:Txt)(b:List UInt8)(k f u c:Int)(m:Mk):Qmn t b k f u (Q1 m.n) (Q11 (m.d++[⟨Q2c t f,Q2c t u,c⟩])) (Qg m.s)=Qg (Q1k t b k f u (QI t c f u m)).s:=QgV t b k f u (QI t c f u m)
theorem QgY(t:Txt)(b:List UInt8)(k f u:Int)(m:Mk):QkN t b k f u (Q1 m.n) (Q11 m.d) (Qg m.s)=Q1 (Q2u t b k f u m).n:=by rw[QkN,Q2j]
theorem QmT(t:Txt)(b:List UInt8)(k f u c:Int)(m:Mk):QkN t b k f u (Q1 m.n) (Q11 (m.d++[⟨Q2c t f,Q2c t u,c⟩])) (Qg m.s)=Q1 (Q2u t b k f u (QI t c f u m)).n:=QgY t b k f u (QI t c f u m)
theorem Qh3(t:Txt)(b:List UInt8)(k f u:Int)(m:Mk):QkJ t b k f u (Q1 m.n) (Q11 m.d) (Qg m.s)=Q11 (Q2u t b k f u m).d:=by rw[QkJ,Q2j]
theorem QnK(t:Txt)(b:List UInt8)(k f u c:Int)(m:Mk):QkJ t b k f u (Q1 m.n) (Q11 (m.d++[⟨Q2c t f,Q2c t u,c⟩])) (Qg m.s)=Q11 (Q2u t b k f u (QI t c f u m)).d:=Qh3 t b k f u (QI t c f u m)
theorem QhQ(t:Txt)(b:List UInt8)(k f u:Int)(m:Mk):Qlm t b k f u (Q1 m.n) (Q11 m.d) (Qg m.s)=Qg (Q2u t b k f u m).s:=by rw[Qlm,Q2j]
theorem Qon(t:Txt)(b:List UInt8)(k f u c:Int)(m:Mk):Qlm t b k f u (Q1 m.n) (Q11 (m.d++[⟨Q2c t f,Q2c t u,c⟩])) (Qg m.s)=Qg (Q2u t b k f u (QI t c f u m)).s:=QhQ t b k f u (QI t c f u m)
theorem QqG(t:Txt)(b:List UInt8)(k f u:Int)(m:Mk):(lkF t b k f u m).n=m.n++[Qq k (QQ t b f u)]:=rfl
theorem QqQ(t:Txt)(b:List UInt8)(k f u:Int)(m:Mk):(lkF t b k f u m).d=m.d:=rfl
theorem QqH(t:Txt)(b:List UInt8)(k f u:Int)(m:Mk):(lkF t b k f u m).s=Q1N m.n.length m.s:=rfl
theorem QnW(t:Txt)(b:List UInt8)(hs:Sml t b)(rt:Int)(m:Mk)(X:List UInt8)(B D:Nat)(iv:MkInv m X B D)(hB:B<=700000)(hD:D<=700000)(hX:X.length<=1000000)(kind f u:Int)(wh:Bool)(hi:InT t f u) :
  BCall prog 50 [.box 0 0,.agg [.val (.int .i64 kind),.val (.int .i64 f),.val (.int .i64 u),.val (.bool wh)]] (obT 0 t b rt m) (.tup []) (obT 1 t b rt (Q1E t b kind f u wh m)):=by
 have cR:=QaH t.r hs.hr f u hi.h0 hi.h1 hi.h2;have qe:=hi.off hs;have ok:=iv.ok (by omega) (by omega)
 have nG:=ok.d;have cW:=fun c=>Q9x t b rt m (by omega) c f u qe.1 qe.2
 have key:∀(m1:Mk)(D1:Nat),MkInv m1 X B D1->D1<=700001 ->
   BCall prog 97 [.box 0 0,.agg [.val (.int .i64 kind),.val (.int .i64 f),.val (.int .i64 u),.val (.bool wh)]] (obT 0 t b rt m1) (.slc 1 (nmA t f u)) (obT 0 t b rt m1) /\
   (QC t f u≠[]->BCall prog 98 [.box 0 0,.agg [.val (.int .i64 kind),.val (.int .i64 f),.val (.int .i64 u),.val (.bool wh)]] (obT 0 t b rt m1) (.tup []) (obT 1 t b rt (Q1k t b kind f u m1))) /\
   BCall prog 99 [.box 0 0,.agg [.val (.int .i64 kind),.val (.int .i64 f),.val (.int .i64 u),.val (.bool wh)]] (obT 0 t b rt m1) (.tup []) (obT 1 t b rt (Q2u t b kind f u m1)) /\
   BCall prog 100 [.box 0 0,.agg [.val (.int .i64 kind),.val (.int .i64 f),.val (.int .i64 u),.val (.bool wh)]] (obT 0 t b rt m1) (.val (.int .i64 m1.n.length)) (obT 1 t b rt (Q2d t b kind f u m1)) /\
   BCall prog 23 [.box 0 0,.val (.int .i64 m1.n.length)] (obT 0 t b rt (Q2d t b kind f u m1)) (.tup []) (obT 1 t b rt (lkF t b kind f u m1)):=fun m1 D1 iv1 hD1=>by
  have ok1:=iv1.ok (by omega) (by omega)
  exact⟨QgH t b hs.hr rt m1 kind f u wh hi.h0 hi.h1 hi.h2,fun jI=>Qod t b hs rt m1 ok1 kind f u wh hi jI,QqB t b hs rt m1 X B D1 iv1 (by omega) (by omega) hX kind f u wh hi,
   Qa8 t b hs.hb hs.ok hs.hr rt m1 (by have:=ok1.n;omega) kind f u wh hi.h0 hi.h1 hi.h2,
   Qbh t b rt (Q2d t b kind f u m1) ok1.s1 (by have:=ok1.s;show m1.s.length<=_;omega) (by have:=ok1.top;show(QR m1.s).kids.length<=_;omega) m1.n.length⟩
 obtain⟨n0,s0,e0,l0,k0⟩:=key m D iv (by omega)
 obtain⟨n1,s1,e1,l1,k1⟩:=key _ _ (Q1Q iv t 1 f u) (by omega)
 obtain⟨n2,s2,e2,l2,k2⟩:=key _ _ (Q1Q iv t 2 f u) (by omega)
 have w1:=cW 1;have w2:=cW 2;clear key cW qe nG;unfold obT obM;refine fnN (Qr9 std (nmA t) (wrA t) (lfT t b) kdA (QjU t b) (Qkb t b) (Qmn t b) (QkN t b) (QkJ t b) (Qlm t b) (rdk t.r) (rdf t.r) (rdu t.r) (rda t.r) (rdr t.r) (rde t.r)) func50 rfl fun _ _=>?_
 generalize hrk:rdk t.r=rk;generalize vQ:rdf t.r=rf;generalize hru:rdu t.r=ru;generalize xU:rda t.r=ra;generalize kI:rdr t.r=rr;generalize hre:rde t.r=re;generalize hN:Q1 m.n=N;generalize zp:Q11 m.d=D';generalize hS:Qg m.s=S;generalize vN:Q4 b=B';generalize hR:Q0 t.r=R;generalize hO:Q9 t.off=O;generalize hK:t.kind=K;generalize hM:t.bom=M;with_reducible refine Q61 (nmA t) (wrA t) (lfT t b) kdA (QjU t b) (Qkb t b) (Qmn t b) (QkN t b) (QkJ t b) (Qlm t b) ?_
 subst hrk vQ hru xU kI hre hN zp hS vN hR hO hK hM;simp only[obT,obM,Q2d,Q1F,Qqf,Qqu,Qqz,QqG,QqQ,QqH,Q2X]at n0 s0 e0 l0 k0 n1 s1 e1 l1 k1 n2 s2 e2 l2 k2 w1 w2;simp only[std,Qat,QaF,Qa1,Q1g,QhD,QhA,QgV,QgY,Qh3,QhQ,Qog,QoF,Qou,QmT,QnK,Qon,beq_iff_eq,beq_eq_false_iff_ne,decide_eq_true_eq,decide_eq_false_iff_not,QpH,rdr,Bool.not_eq_true',Bool.not_eq_false',Int.natCast_pos];have jI:0<(QC t f u).length->QC t f u≠[]:=fun h e=>by rw[e]at h;exact absurd h (by decide)
 repeat' first
  |(with_reducible apply And.intro)
  |(with_reducible intro hh)
 all_goals first
  |(exfalso;omega)
  |exact w1
  |exact w2
  |exact cR
  |exact n0
  |exact n1
  |exact n2
  |exact e0
  |exact e1
  |exact e2
  |exact l0
  |exact l1
  |exact l2
  |exact k0
  |exact k1
  |exact k2
  |exact s0 (jI (by assumption))
  |exact s1 (jI (by assumption))
  |exact s2 (jI (by assumption))
  |skip
 all_goals clear n0 s0 e0 l0 k0 n1 s1 e1 l1 k1 n2 s2 e2 l2 k2 w1 w2 cR iv ok hi hs jI
 all_goals first
  |(exfalso;simp_all;done)
  |(refine⟨[some 0,some 1,some 2,some 3,some 4,some 5],.tup [],_,rfl,rfl,Nat.le_of_ble_eq_true rfl,rfl,?_,trivial⟩
    simp[Qm,Q1E,QqG,QqQ,QqH,Qqf,Qqu,Qqz, *])
