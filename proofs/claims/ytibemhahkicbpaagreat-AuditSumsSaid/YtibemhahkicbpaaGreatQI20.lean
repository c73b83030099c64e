/-
  Parts of the proof, joined: MkT. Conditions: as each theorem says.
-/
import Derived.Test.YtibemhahkicbpaaGreatQI19
set_option maxRecDepth 100000
set_option maxHeartbeats 8000000
namespace Go.Proofs.YtibemhahkicbpaaGreat
open Go.RowKit Go.Lib Tryz
def Qhr (t:Txt)(b:List UInt8)(k f u:Int)(N D S:List AV):List AV:=Q0 (QZ t b k f u (mkB N D S)).n
def Qgd (t:Txt)(b:List UInt8)(k f u:Int)(N D S:List AV):List AV:=Qz (QZ t b k f u (mkB N D S)).d
def Qgz (t:Txt)(b:List UInt8)(k f u:Int)(N D S:List AV):List AV:=Qc (QZ t b k f u (mkB N D S)).s
def QgQ (t:Txt)(b:List UInt8)(k f u:Int)(N D S:List AV):List AV:=Q0 (Q1Y t b k f u (mkB N D S)).n
def Qgs (t:Txt)(b:List UInt8)(k f u:Int)(N D S:List AV):List AV:=Qz (Q1Y t b k f u (mkB N D S)).d
def QfS (t:Txt)(b:List UInt8)(k f u:Int)(N D S:List AV):List AV:=Qc (Q1Y t b k f u (mkB N D S)).s
def QkS (p:Pr)(nm:Int→Int→List AV)(wr:Int→Int→Int→List AV→List AV)(lf:Int→Int→Int→List AV→List AV)(kd:Int→List AV→List AV)(sn sd ss en ed es:Int→Int→Int→List AV→List AV→List AV→List AV)(rk rf ru:Int→Int→Int)(ra:Int→Int→List AV)(rr re:Int→Int→Bool):Nat→List AV→List Ob→Option (AV×List Ob):=fun f args ob=>match f,args with
 |49,[.slc 1 _,.val (.int .i64 f),.val (.int .i64 u)]=>some (.agg [.val (.int .i64 (rk f u)),.val (.int .i64 (rf f u)),.val (.int .i64 (ru f u)),.slc 9 (ra f u),.val (.bool (rr f u)),.val (.bool (re f u))],[])
 |135,[.box 0 0,.agg [_,.val (.int .i64 f),.val (.int .i64 u),_]]=>some (.slc 1 (nm f u),ob)
 |134,[.box 0 0,.val (.int .i64 c),.val (.int .i64 f),.val (.int .i64 u)]=>Q2M ob fun b k m r o rt N D S=>some (.tup [],obM 1 b k m r o rt N (wr c f u D) S)
 |138,[.box 0 0,.agg [.val (.int .i64 kind),.val (.int .i64 f),.val (.int .i64 u),_]]=>Q2M ob fun b k m r o rt N D S=>some (.val (.int .i64 (p.len N)),obM 1 b k m r o rt (lf kind f u N) D S)
 |42,[.box 0 0,.val (.int .i64 n)]=>Q2M ob fun b k m r o rt N D S=>some (.tup [],obM 1 b k m r o rt N D (kd n S))
 |136,[.box 0 0,.agg [.val (.int .i64 kind),.val (.int .i64 f),.val (.int .i64 u),_]]=>Q2M ob fun b k m r o rt N D S=>some (.tup [],obM 1 b k m r o rt (sn kind f u N D S) (sd kind f u N D S) (ss kind f u N D S))
 |137,[.box 0 0,.agg [.val (.int .i64 kind),.val (.int .i64 f),.val (.int .i64 u),_]]=>Q2M ob fun b k m r o rt N D S=>some (.tup [],obM 1 b k m r o rt (en kind f u N D S) (ed kind f u N D S) (es kind f u N D S))
 |_,_=>none
theorem Qlj (t:Txt)(c f u:Int)(m:Mk):(Qw t c f u m).n=m.n:=rfl
theorem QkM (t:Txt)(c f u:Int)(m:Mk):(Qw t c f u m).s=m.s:=rfl
theorem Qla (t:Txt)(c f u:Int)(m:Mk):(Qw t c f u m).d=m.d++[⟨Q1s t f,Q1s t u,c⟩]:=rfl
theorem QjZ (t:Txt)(f u:Int):(nmA t f u).length=(Qs t f u).length:=Q13 _
theorem Qer (t:Txt)(b:List UInt8)(k f u:Int)(m:Mk):Qhr t b k f u (Q0 m.n) (Qz m.d) (Qc m.s)=Q0 (QZ t b k f u m).n:=by rw[Qhr,Q1J]
theorem Qjh (t:Txt)(b:List UInt8)(k f u c:Int)(m:Mk):Qhr t b k f u (Q0 m.n) (Qz (m.d++[⟨Q1s t f,Q1s t u,c⟩])) (Qc m.s)=Q0 (QZ t b k f u (Qw t c f u m)).n:=Qer t b k f u (Qw t c f u m)
theorem QdK (t:Txt)(b:List UInt8)(k f u:Int)(m:Mk):Qgd t b k f u (Q0 m.n) (Qz m.d) (Qc m.s)=Qz (QZ t b k f u m).d:=by rw[Qgd,Q1J]
theorem Qi2 (t:Txt)(b:List UInt8)(k f u c:Int)(m:Mk):Qgd t b k f u (Q0 m.n) (Qz (m.d++[⟨Q1s t f,Q1s t u,c⟩])) (Qc m.s)=Qz (QZ t b k f u (Qw t c f u m)).d:=QdK t b k f u (Qw t c f u m)
theorem QdZ (t:Txt)(b:List UInt8)(k f u:Int)(m:Mk):Qgz t b k f u (Q0 m.n) (Qz m.d) (Qc m.s)=Qc (QZ t b k f u m).s:=by rw[Qgz,Q1J]
theorem QiN (t:Txt)(b:List UInt8)(k f u c:Int)(m:Mk):Qgz t b k f u (Q0 m.n) (Qz (m.d++[⟨Q1s t f,Q1s t u,c⟩])) (Qc m.s)=Qc (QZ t b k f u (Qw t c f u m)).s:=QdZ t b k f u (Qw t c f u m)
theorem Qeb (t:Txt)(b:List UInt8)(k f u:Int)(m:Mk):QgQ t b k f u (Q0 m.n) (Qz m.d) (Qc m.s)=Q0 (Q1Y t b k f u m).n:=by rw[QgQ,Q1J]
theorem Qix (t:Txt)(b:List UInt8)(k f u c:Int)(m:Mk):QgQ t b k f u (Q0 m.n) (Qz (m.d++[⟨Q1s t f,Q1s t u,c⟩])) (Qc m.s)=Q0 (Q1Y t b k f u (Qw t c f u m)).n:=Qeb t b k f u (Qw t c f u m)
theorem QdT (t:Txt)(b:List UInt8)(k f u:Int)(m:Mk):Qgs t b k f u (Q0 m.n) (Qz m.d) (Qc m.s)=Qz (Q1Y t b k f u m).d:=by rw[Qgs,Q1J]
theorem Qjf (t:Txt)(b:List UInt8)(k f u c:Int)(m:Mk):Qgs t b k f u (Q0 m.n) (Qz (m.d++[⟨Q1s t f,Q1s t u,c⟩])) (Qc m.s)=Qz (Q1Y t b k f u (Qw t c f u m)).d:=QdT t b k f u (Qw t c f u m)
theorem QdH (t:Txt)(b:List UInt8)(k f u:Int)(m:Mk):QfS t b k f u (Q0 m.n) (Qz m.d) (Qc m.s)=Qc (Q1Y t b k f u m).s:=by rw[QfS,Q1J]
theorem Qjc (t:Txt)(b:List UInt8)(k f u c:Int)(m:Mk):QfS t b k f u (Q0 m.n) (Qz (m.d++[⟨Q1s t f,Q1s t u,c⟩])) (Qc m.s)=Qc (Q1Y t b k f u (Qw t c f u m)).s:=QdH t b k f u (Qw t c f u m)
theorem Qll (t:Txt)(b:List UInt8)(k f u:Int)(m:Mk):(lkF t b k f u m).n=m.n++[Qj k (QL t b f u)]:=rfl
theorem Ql7 (t:Txt)(b:List UInt8)(k f u:Int)(m:Mk):(lkF t b k f u m).d=m.d:=rfl
theorem QkT (t:Txt)(b:List UInt8)(k f u:Int)(m:Mk):(lkF t b k f u m).s=Q1d m.n.length m.s:=rfl
theorem Qju (t:Txt)(b:List UInt8)(hs:Sml t b)(rt:Int)(m:Mk)(X:List UInt8)(B D:Nat)(iv:MkInv m X B D)(hB:B≤700000)(hD:D≤700000)(hX:X.length≤1000000)(kind f u:Int)(wh:Bool)(hi:InT t f u) :
  BCall prog 88 [.box 0 0,.agg [.val (.int .i64 kind),.val (.int .i64 f),.val (.int .i64 u),.val (.bool wh)]] (obT 0 t b rt m) (.tup []) (obT 1 t b rt (Q1f t b kind f u wh m)):=by
 have cR:=QaR t.r hs.hr f u hi.h0 hi.h1 hi.h2
 have hoff:=hi.off hs
 have ok:=iv.ok (by omega) (by omega)
 have hdl:=ok.d
 have cW:=fun c=>Q7M t b rt m (by omega) c f u hoff.1 hoff.2
 have key:∀ (m1:Mk) (D1:Nat),MkInv m1 X B D1→D1≤700001 →
   BCall prog 135 [.box 0 0,.agg [.val (.int .i64 kind),.val (.int .i64 f),.val (.int .i64 u),.val (.bool wh)]] (obT 0 t b rt m1) (.slc 1 (nmA t f u)) (obT 0 t b rt m1) ∧
   (Qs t f u≠[]→BCall prog 136 [.box 0 0,.agg [.val (.int .i64 kind),.val (.int .i64 f),.val (.int .i64 u),.val (.bool wh)]] (obT 0 t b rt m1) (.tup []) (obT 1 t b rt (QZ t b kind f u m1))) ∧
   BCall prog 137 [.box 0 0,.agg [.val (.int .i64 kind),.val (.int .i64 f),.val (.int .i64 u),.val (.bool wh)]] (obT 0 t b rt m1) (.tup []) (obT 1 t b rt (Q1Y t b kind f u m1)) ∧
   BCall prog 138 [.box 0 0,.agg [.val (.int .i64 kind),.val (.int .i64 f),.val (.int .i64 u),.val (.bool wh)]] (obT 0 t b rt m1) (.val (.int .i64 m1.n.length)) (obT 1 t b rt (Q1H t b kind f u m1)) ∧
   BCall prog 42 [.box 0 0,.val (.int .i64 m1.n.length)] (obT 0 t b rt (Q1H t b kind f u m1)) (.tup []) (obT 1 t b rt (lkF t b kind f u m1)):=fun m1 D1 iv1 hD1=>by
  have ok1:=iv1.ok (by omega) (by omega)
  exact⟨Qde t b hs.hr rt m1 kind f u wh hi.h0 hi.h1 hi.h2,fun hne=>Qiq t b hs rt m1 ok1 kind f u wh hi hne,QkJ t b hs rt m1 X B D1 iv1 (by omega) (by omega) hX kind f u wh hi,
   Q95 t b hs.hb hs.ok hs.hr rt m1 (by have:=ok1.n;omega) kind f u wh hi.h0 hi.h1 hi.h2,
   Q87 t b rt (Q1H t b kind f u m1) ok1.s1 (by have:=ok1.s;show m1.s.length≤_;omega) (by have:=ok1.top;show (QB m1.s).kids.length≤_;omega) m1.n.length⟩
 obtain⟨n0,s0,e0,l0,k0⟩:=key m D iv (by omega)
 obtain⟨n1,s1,e1,l1,k1⟩:=key _ _ (Q1e iv t 1 f u) (by omega)
 obtain⟨n2,s2,e2,l2,k2⟩:=key _ _ (Q1e iv t 2 f u) (by omega)
 have w1:=cW 1
 have w2:=cW 2
 clear key cW hoff hdl
 unfold obT obM
 refine fnN (cs:=QkS std (nmA t) (wrA t) (lfT t b) kdA (Qhr t b) (Qgd t b) (Qgz t b) (QgQ t b) (Qgs t b) (QfS t b) (rdk t.r) (rdf t.r) (rdu t.r) (rda t.r) (rdr t.r) (rde t.r)) func88 rfl (by kernel_rfl) ?_
 intro w0 g0
 generalize hp:std=p,hnm:nmA t=nm,hwr:wrA t=wr,hlf:lfT t b=lf,hkd:kdA=kd,hsn:Qhr t b=sn,hsd:Qgd t b=sd,hss:Qgz t b=ss,hen:QgQ t b=en,hed:Qgs t b=ed,hes:QfS t b=es,hrk:rdk t.r=rk,hrf:rdf t.r=rf,hru:rdu t.r=ru,hra:rda t.r=ra,hrr:rdr t.r=rr,hre:rde t.r=re,hN:Q0 m.n=N,hD':Qz m.d=D',hS:Qc m.s=S,hB':Q5 b=B',hR:Q1 t.r=R,hO:Q9 t.off=O,hK:t.kind=K,hM:t.bom=M
 generalize hT:Q8 p tys (QkS p nm wr lf kd sn sd ss en ed es rk rf ru ra rr re) _ _ _ _=T
 cbv at hT
 subst hT
 simp only[Tree.ok,Q4,S0]
 subst hp hnm hwr hlf hkd hsn hsd hss hen hed hes hrk hrf hru hra hrr hre hN hD' hS hB' hR hO hK hM
 simp only[obT,obM,Q1H,Q1a,Qlj,QkM,Qla,Qll,Ql7,QkT,Q2g] at n0 s0 e0 l0 k0 n1 s1 e1 l1 k1 n2 s2 e2 l2 k2 w1 w2
 simp only[std,Q8Y,Q8t,Q8n,QT,Qer,QdK,QdZ,Qeb,QdT,QdH,Qjh,Qi2,QiN,Qix,Qjf,Qjc,beq_iff_eq,beq_eq_false_iff_ne,decide_eq_true_eq,decide_eq_false_iff_not,QjZ,rdr,Bool.not_eq_true',Bool.not_eq_false',Int.natCast_pos]
 have hne:0<(Qs t f u).length→Qs t f u≠[]:=fun h e=>by rw[e] at h;exact absurd h (by decide)
 repeat' first
  |(with_reducible apply And.intro)
  |(with_reducible intro hh)
 all_goals first
  |(exfalso;omega)
  |exact w1
  |exact w2
  |exact cR
  |exact n0
  |exact n1
  |exact n2
  |exact e0
  |exact e1
  |exact e2
  |exact l0
  |exact l1
  |exact l2
  |exact k0
  |exact k1
  |exact k2
  |exact s0 (hne (by assumption))
  |exact s1 (hne (by assumption))
  |exact s2 (hne (by assumption))
  |skip
 all_goals clear n0 s0 e0 l0 k0 n1 s1 e1 l1 k1 n2 s2 e2 l2 k2 w1 w2 cR iv ok hi hs hne
 all_goals first
  |(exfalso;simp_all;done)
  |(refine⟨[some 0,some 1,some 2,some 3,some 4,some 5],.tup [],_,rfl,rfl,Nat.le_of_ble_eq_true rfl,rfl,?_,trivial⟩
    simp[Qh,Q1f,Qll,Ql7,QkT,Qlj,QkM,Qla, *])
end Go.Proofs.YtibemhahkicbpaaGreat
