/- Lemmas, conditions told -/
import Derived.Test.YtnlbhaeimmenoaaGreatG08
import Derived.Shelf.Abstract
import Derived.Lib.Split
import Derived.Test.YtnlbhaeimmenoaaGreatG04
set_option maxRecDepth 99999
set_option maxHeartbeats 0
set_option linter.unusedSimpArgs false
set_option linter.unusedVariables false
namespace Go.Proofs.YtnlbhaeimmenoaaGreat
open List(getElem?_eq_getElem set_cons_succ getElem?_set_ne getElem?_set_self length_take length_set map_cons sum_cons sum_append map_append map_congr_left append_assoc filter_cons drop_zero drop_succ_cons find?_cons)
open Nat(zero_add lt_of_lt_of_le le_refl zero_le add_zero)
open Go.RowKit Go.Lib
section
open Tryz
def Q64(x:UInt8):AV:=.val (.int .u8 x.toNat)
def QhB(r:Int):AV:=.val (.int .i32 r)
def QfI(n:Int):AV:=.val (.int .i64 n)
def Q4(b:List UInt8):List AV:=b.map Q64
def Q0(l:List Int):List AV:=l.map QhB
def Q9(l:List Int):List AV:=l.map QfI
theorem QfP{α:Type}(f:α->AV){l:List α}{i:Int}(h0:0<=i)(h1:i<l.length)(d:α):(l.map f)[i.toNat]?.getD .dead=f (l[i.toNat]?.getD d):=by
 have:i.toNat<l.length:=by omega
 simp[this]
theorem Q1c(l:List UInt8):(Q4 l).length=l.length:=by simp[Q4]
theorem Qx(l:List Int):(Q0 l).length=l.length:=by simp[Q0]
theorem Q31(l:List Int):(Q9 l).length=l.length:=by simp[Q9]
theorem Q8V(a b:List Int):Q0 (a++b)=Q0 a++Q0 b:=by simp[Q0]
theorem Q55(a b:List Int):Q9 (a++b)=Q9 a++Q9 b:=by simp[Q9]
theorem QeW(n:Int):Q9 [n]=[.val (.int .i64 n)]:=rfl
theorem QN{l:List Int}{i:Int}(h0:0<=i)(h1:i<l.length):(Q0 l)[i.toNat]?.getD .dead=.val (.int .i32 (l[i.toNat]?.getD 0)):=QfP QhB h0 h1 0
theorem Q3L{l:List Int}{i:Int}(h0:0<=i)(h1:i<l.length):(Q9 l)[i.toNat]?.getD .dead=.val (.int .i64 (l[i.toNat]?.getD 0)):=QfP QfI h0 h1 0
theorem Qhu(n:Int):std.inR .i64 n↔(-9223372036854775808<=n/\n<=9223372036854775807):=Iff.rfl
theorem S0:(false=true)=False/\(true=false)=False/\(∀p:Prop,(False->p)=True)/\(∀p:Prop,(True->p)=p)/\(∀p:Prop,(p/\True)=p)/\(∀p:Prop,(True/\p)=p):=by simp
theorem S1:Q3W []=True/\(∀q r,Q3W (q::r)=(q.q/\Q3W r))/\(∀c,(AV.agg c).cells=c)/\(∀v,(AV.val v).cells=[.val v])/\(∀a b,(AV.slc a b).cells=[.slc a b])/\(∀c,(AV.ref c).cells=[.ref c])/\(∀c,(AV.opt c).cells=[.opt c])/\(∀c,(AV.tup c).cells=[.tup c])/\(∀a b,(AV.box a b).cells=[.box a b])/\(∀a b,(AV.row a b).cells=[.row a b])/\(∀a b c,(AV.rowk a b c).cells=[.rowk a b c])/\(∀a b c d,(AV.rptr a b c d).cells=[.rptr a b c d])/\(∀c,(AV.kb c).cells=[.kb c])/\(∀c,(AV.iter c).cells=[.iter c])/\AV.dead.cells=[.dead] /\
  (∀k n,RowKit.intOf (.val (.int k n))=n)/\(∀b,Q6a (.val (.bool b))=b)/\(∀z xs,Q2o (.slc z xs)=xs)/\(∀v,Q2o (.val v)=[])/\IntKind.min .i64=-9223372036854775808/\IntKind.max .i64=9223372036854775807/\IntKind.min .i32=-2147483648/\IntKind.max .i32=2147483647 :=
 ⟨rfl,fun _ _=>rfl,fun _=>rfl,fun _=>rfl,fun _ _=>rfl,fun _=>rfl,fun _=>rfl,fun _=>rfl,fun _ _=>rfl,fun _ _=>rfl,fun _ _ _=>rfl,fun _ _ _ _=>rfl,fun _=>rfl,fun _=>rfl,rfl,fun _ _=>rfl,fun _=>rfl,fun _ _=>rfl,fun _=>rfl,rfl,rfl,rfl,rfl⟩
theorem gI{a b:Int}(h:a=b):AV.val (.int .i64 a)=.val (.int .i64 b):=congrArg _ (congrArg _ h)
theorem gR{a b:Int}(h:a=b):AV.val (.int .i32 a)=.val (.int .i32 b):=congrArg _ (congrArg _ h)
theorem gB{a b:Bool}(h:a=b):AV.val (.bool a)=.val (.bool b):=congrArg _ (congrArg _ h)
theorem gT{a b:ByteArray}(h:a=b):AV.val (.string a)=.val (.string b):=congrArg _ (congrArg _ h)
theorem gA{n:Nat}{a b:List AV}(h:a=b):AV.slc n a=.slc n b:=congrArg _ h
def Tg{α:Type}(_:α)(P:Prop):Prop:=P
theorem tg{α:Type}{x:α}{P:Prop}(h:∀y,x=y->P):Tg x P:=h x rfl
theorem zA{A B:Prop}(a:A)(b:B):A/\B:=⟨a,b⟩
theorem cv0 {Q P:Prop} (k:Q) (h:Q->P:=by
 generalize hp:std=p
 first
  |(generalize hT:Q1o p tys _ _ _ _ _=T;with_unfolding_all cbv at hT;subst hT)
  |(generalize hT:Q68 p tys _ _ _ _=T;with_unfolding_all cbv at hT;subst hT)
 intro k;simp only[Tree.ok,Q1u,S0];subst hp;exact k):P:=h k
theorem cv1 {a1:Type} (x1:a1) {Q P:Prop} (k:Q) (h:Tg x1 <| (Q->P):=by
 refine tg fun y1 h1=>?_
 try rw[h1]
 generalize hp:std=p
 first
  |(generalize hT:Q1o p tys _ _ _ _ _=T;with_unfolding_all cbv at hT;subst hT)
  |(generalize hT:Q68 p tys _ _ _ _=T;with_unfolding_all cbv at hT;subst hT)
 intro k;simp only[Tree.ok,Q1u,S0];subst hp h1;exact k):P:=h k
theorem cv2 {a1 a2:Type} (x1:a1) (x2:a2) {Q P:Prop} (k:Q) (h:Tg x1 <| Tg x2 <| (Q->P):=by
 refine tg fun y1 h1=>?_
 try rw[h1]
 refine tg fun y2 h2=>?_
 try rw[h2]
 generalize hp:std=p
 first
  |(generalize hT:Q1o p tys _ _ _ _ _=T;with_unfolding_all cbv at hT;subst hT)
  |(generalize hT:Q68 p tys _ _ _ _=T;with_unfolding_all cbv at hT;subst hT)
 intro k;simp only[Tree.ok,Q1u,S0];subst hp h1 h2;exact k):P:=h k
theorem cv3 {a1 a2 a3:Type} (x1:a1) (x2:a2) (x3:a3) {Q P:Prop} (k:Q) (h:Tg x1 <| Tg x2 <| Tg x3 <| (Q->P):=by
 refine tg fun y1 h1=>?_
 try rw[h1]
 refine tg fun y2 h2=>?_
 try rw[h2]
 refine tg fun y3 h3=>?_
 try rw[h3]
 generalize hp:std=p
 first
  |(generalize hT:Q1o p tys _ _ _ _ _=T;with_unfolding_all cbv at hT;subst hT)
  |(generalize hT:Q68 p tys _ _ _ _=T;with_unfolding_all cbv at hT;subst hT)
 intro k;simp only[Tree.ok,Q1u,S0];subst hp h1 h2 h3;exact k):P:=h k
theorem cv4 {a1 a2 a3 a4:Type} (x1:a1) (x2:a2) (x3:a3) (x4:a4) {Q P:Prop} (k:Q) (h:Tg x1 <| Tg x2 <| Tg x3 <| Tg x4 <| (Q->P):=by
 refine tg fun y1 h1=>?_
 try rw[h1]
 refine tg fun y2 h2=>?_
 try rw[h2]
 refine tg fun y3 h3=>?_
 try rw[h3]
 refine tg fun y4 h4=>?_
 try rw[h4]
 generalize hp:std=p
 first
  |(generalize hT:Q1o p tys _ _ _ _ _=T;with_unfolding_all cbv at hT;subst hT)
  |(generalize hT:Q68 p tys _ _ _ _=T;with_unfolding_all cbv at hT;subst hT)
 intro k;simp only[Tree.ok,Q1u,S0];subst hp h1 h2 h3 h4;exact k):P:=h k
theorem cv5 {a1 a2 a3 a4 a5:Type} (x1:a1) (x2:a2) (x3:a3) (x4:a4) (x5:a5) {Q P:Prop} (k:Q) (h:Tg x1 <| Tg x2 <| Tg x3 <| Tg x4 <| Tg x5 <| (Q->P):=by
 refine tg fun y1 h1=>?_
 try rw[h1]
 refine tg fun y2 h2=>?_
 try rw[h2]
 refine tg fun y3 h3=>?_
 try rw[h3]
 refine tg fun y4 h4=>?_
 try rw[h4]
 refine tg fun y5 h5=>?_
 try rw[h5]
 generalize hp:std=p
 first
  |(generalize hT:Q1o p tys _ _ _ _ _=T;with_unfolding_all cbv at hT;subst hT)
  |(generalize hT:Q68 p tys _ _ _ _=T;with_unfolding_all cbv at hT;subst hT)
 intro k;simp only[Tree.ok,Q1u,S0];subst hp h1 h2 h3 h4 h5;exact k):P:=h k
theorem cv6 {a1 a2 a3 a4 a5 a6:Type} (x1:a1) (x2:a2) (x3:a3) (x4:a4) (x5:a5) (x6:a6) {Q P:Prop} (k:Q) (h:Tg x1 <| Tg x2 <| Tg x3 <| Tg x4 <| Tg x5 <| Tg x6 <| (Q->P):=by
 refine tg fun y1 h1=>?_
 try rw[h1]
 refine tg fun y2 h2=>?_
 try rw[h2]
 refine tg fun y3 h3=>?_
 try rw[h3]
 refine tg fun y4 h4=>?_
 try rw[h4]
 refine tg fun y5 h5=>?_
 try rw[h5]
 refine tg fun y6 h6=>?_
 try rw[h6]
 generalize hp:std=p
 first
  |(generalize hT:Q1o p tys _ _ _ _ _=T;with_unfolding_all cbv at hT;subst hT)
  |(generalize hT:Q68 p tys _ _ _ _=T;with_unfolding_all cbv at hT;subst hT)
 intro k;simp only[Tree.ok,Q1u,S0];subst hp h1 h2 h3 h4 h5 h6;exact k):P:=h k
theorem cv7 {a1 a2 a3 a4 a5 a6 a7:Type} (x1:a1) (x2:a2) (x3:a3) (x4:a4) (x5:a5) (x6:a6) (x7:a7) {Q P:Prop} (k:Q) (h:Tg x1 <| Tg x2 <| Tg x3 <| Tg x4 <| Tg x5 <| Tg x6 <| Tg x7 <| (Q->P):=by
 refine tg fun y1 h1=>?_
 try rw[h1]
 refine tg fun y2 h2=>?_
 try rw[h2]
 refine tg fun y3 h3=>?_
 try rw[h3]
 refine tg fun y4 h4=>?_
 try rw[h4]
 refine tg fun y5 h5=>?_
 try rw[h5]
 refine tg fun y6 h6=>?_
 try rw[h6]
 refine tg fun y7 h7=>?_
 try rw[h7]
 generalize hp:std=p
 first
  |(generalize hT:Q1o p tys _ _ _ _ _=T;with_unfolding_all cbv at hT;subst hT)
  |(generalize hT:Q68 p tys _ _ _ _=T;with_unfolding_all cbv at hT;subst hT)
 intro k;simp only[Tree.ok,Q1u,S0];subst hp h1 h2 h3 h4 h5 h6 h7;exact k):P:=h k
theorem cv8 {a1 a2 a3 a4 a5 a6 a7 a8:Type} (x1:a1) (x2:a2) (x3:a3) (x4:a4) (x5:a5) (x6:a6) (x7:a7) (x8:a8) {Q P:Prop} (k:Q) (h:Tg x1 <| Tg x2 <| Tg x3 <| Tg x4 <| Tg x5 <| Tg x6 <| Tg x7 <| Tg x8 <| (Q->P):=by
 refine tg fun y1 h1=>?_
 try rw[h1]
 refine tg fun y2 h2=>?_
 try rw[h2]
 refine tg fun y3 h3=>?_
 try rw[h3]
 refine tg fun y4 h4=>?_
 try rw[h4]
 refine tg fun y5 h5=>?_
 try rw[h5]
 refine tg fun y6 h6=>?_
 try rw[h6]
 refine tg fun y7 h7=>?_
 try rw[h7]
 refine tg fun y8 h8=>?_
 try rw[h8]
 generalize hp:std=p
 first
  |(generalize hT:Q1o p tys _ _ _ _ _=T;with_unfolding_all cbv at hT;subst hT)
  |(generalize hT:Q68 p tys _ _ _ _=T;with_unfolding_all cbv at hT;subst hT)
 intro k;simp only[Tree.ok,Q1u,S0];subst hp h1 h2 h3 h4 h5 h6 h7 h8;exact k):P:=h k
theorem cv9 {a1 a2 a3 a4 a5 a6 a7 a8 a9:Type} (x1:a1) (x2:a2) (x3:a3) (x4:a4) (x5:a5) (x6:a6) (x7:a7) (x8:a8) (x9:a9) {Q P:Prop} (k:Q) (h:Tg x1 <| Tg x2 <| Tg x3 <| Tg x4 <| Tg x5 <| Tg x6 <| Tg x7 <| Tg x8 <| Tg x9 <| (Q->P):=by
 refine tg fun y1 h1=>?_
 try rw[h1]
 refine tg fun y2 h2=>?_
 try rw[h2]
 refine tg fun y3 h3=>?_
 try rw[h3]
 refine tg fun y4 h4=>?_
 try rw[h4]
 refine tg fun y5 h5=>?_
 try rw[h5]
 refine tg fun y6 h6=>?_
 try rw[h6]
 refine tg fun y7 h7=>?_
 try rw[h7]
 refine tg fun y8 h8=>?_
 try rw[h8]
 refine tg fun y9 h9=>?_
 try rw[h9]
 generalize hp:std=p
 first
  |(generalize hT:Q1o p tys _ _ _ _ _=T;with_unfolding_all cbv at hT;subst hT)
  |(generalize hT:Q68 p tys _ _ _ _=T;with_unfolding_all cbv at hT;subst hT)
 intro k;simp only[Tree.ok,Q1u,S0];subst hp h1 h2 h3 h4 h5 h6 h7 h8 h9;exact k):P:=h k
theorem Q61 {a1 a2 a3 a4 a5 a6 a7 a8 a9 a10:Type} (x1:a1) (x2:a2) (x3:a3) (x4:a4) (x5:a5) (x6:a6) (x7:a7) (x8:a8) (x9:a9) (x10:a10) {Q P:Prop} (k:Q) (h:Tg x1 <| Tg x2 <| Tg x3 <| Tg x4 <| Tg x5 <| Tg x6 <| Tg x7 <| Tg x8 <| Tg x9 <| Tg x10 <| (Q->P):=by
 refine tg fun y1 h1=>?_
 try rw[h1]
 refine tg fun y2 h2=>?_
 try rw[h2]
 refine tg fun y3 h3=>?_
 try rw[h3]
 refine tg fun y4 h4=>?_
 try rw[h4]
 refine tg fun y5 h5=>?_
 try rw[h5]
 refine tg fun y6 h6=>?_
 try rw[h6]
 refine tg fun y7 h7=>?_
 try rw[h7]
 refine tg fun y8 h8=>?_
 try rw[h8]
 refine tg fun y9 h9=>?_
 try rw[h9]
 refine tg fun y10 q9=>?_
 try rw[q9]
 generalize hp:std=p
 first
  |(generalize hT:Q1o p tys _ _ _ _ _=T;with_unfolding_all cbv at hT;subst hT)
  |(generalize hT:Q68 p tys _ _ _ _=T;with_unfolding_all cbv at hT;subst hT)
 intro k;simp only[Tree.ok,Q1u,S0];subst hp h1 h2 h3 h4 h5 h6 h7 h8 h9 q9;exact k):P:=h k
theorem au {G Q:Prop} (k:Q) (h:Q->G:=by
 intro k
 first
  |(with_reducible refine And.intro (fun hx=>absurd hx (by first|(try simp[std,S1])<;>omega|omega)) (fun _=>k))
  |(with_reducible refine And.intro (fun _=>k) (fun hx=>absurd hx (by first|(try simp[std,S1])<;>omega|omega)))
  |(with_reducible refine And.intro (by first|(try simp[std,S1])<;>omega|omega) k)):G:=h k
theorem aU {H0 G Q:Prop} (H:H0) (k:Q) (h:H0->Q->G:=by
 intro H k
 first
  |(with_reducible refine And.intro (fun hx=>absurd hx (by first|(try simp[std,S1,H])<;>omega|omega)) (fun _=>k))
  |(with_reducible refine And.intro (fun _=>k) (fun hx=>absurd hx (by first|(try simp[std,S1,H])<;>omega|omega)))
  |(with_reducible refine And.intro (by first|(try simp[std,S1,H])<;>omega|omega) k)):G:=h H k
theorem eq0 {P:Prop} (h:P:=by
 repeat first
  |exact trivial
  |refine⟨rfl,?_⟩):P:=h
theorem eq1 {H1 P:Prop} (e1:H1) (h:H1->P:=by
 intro e1
 repeat first
  |exact trivial
  |refine⟨rfl,?_⟩
  |refine⟨e1,?_⟩
  |refine⟨gI e1,?_⟩
  |refine⟨gA e1,?_⟩
  |refine⟨gB e1,?_⟩
  |refine⟨gR e1,?_⟩
  |refine⟨gT e1,?_⟩):P:=h e1
theorem eq2 {H1 H2 P:Prop} (e1:H1) (e2:H2) (h:H1->H2->P:=by
 intro e1 e2
 repeat first
  |exact trivial
  |refine⟨rfl,?_⟩
  |refine⟨e1,?_⟩
  |refine⟨gI e1,?_⟩
  |refine⟨gA e1,?_⟩
  |refine⟨gB e1,?_⟩
  |refine⟨gR e1,?_⟩
  |refine⟨gT e1,?_⟩
  |refine⟨e2,?_⟩
  |refine⟨gI e2,?_⟩
  |refine⟨gA e2,?_⟩
  |refine⟨gB e2,?_⟩
  |refine⟨gR e2,?_⟩
  |refine⟨gT e2,?_⟩):P:=h e1 e2
theorem eq3 {H1 H2 H3 P:Prop} (e1:H1) (e2:H2) (e3:H3) (h:H1->H2->H3->P:=by
 intro e1 e2 e3
 repeat first
  |exact trivial
  |refine⟨rfl,?_⟩
  |refine⟨e1,?_⟩
  |refine⟨gI e1,?_⟩
  |refine⟨gA e1,?_⟩
  |refine⟨gB e1,?_⟩
  |refine⟨gR e1,?_⟩
  |refine⟨gT e1,?_⟩
  |refine⟨e2,?_⟩
  |refine⟨gI e2,?_⟩
  |refine⟨gA e2,?_⟩
  |refine⟨gB e2,?_⟩
  |refine⟨gR e2,?_⟩
  |refine⟨gT e2,?_⟩
  |refine⟨e3,?_⟩
  |refine⟨gI e3,?_⟩
  |refine⟨gA e3,?_⟩
  |refine⟨gB e3,?_⟩
  |refine⟨gR e3,?_⟩
  |refine⟨gT e3,?_⟩):P:=h e1 e2 e3
theorem QnG:prog.follows .mixedOrders=true:=by kernel_rfl
theorem fnO(keep:Bool)(cs:Nat->List AV->List Ob->Option (AV×List Ob))(ord:Nat->OT){f:Nat}{fn:Func}{c:Code}{args:List AV}{ob:List Ob}{res:AV}{ob':List Ob}(hf:prog.funcs[f]?=some fn)(hb:fn.body=some c)(h:∀w0 g0,(Q1o std tys cs ord c (Q68 std tys keep fn.results.toList) ⟨ent 0 args,ob⟩).ok prog w0 g0 ob fn.ntmps (FinOk ob res ob'))
  (hk : (Nat.ble args.length fn.ntmps && (Q2h fn.ntmps c && (Q28 .any tys ord c && !(fn.name == "runtime.NumGoroutine")))) = true := by kernel_rfl) : BCall prog f args ob res ob' := by
 simp only[Bool.and_eq_true,Bool.not_eq_true']at hk;exact Q93 keep Q80 QnG hf hb (enters_of hf hk.2.2.2 hb) (Nat.le_of_ble_eq_true hk.1) hk.2.1 hk.2.2.1 h
theorem fnN(cs:Nat->List AV->List Ob->Option (AV×List Ob)){f:Nat}{fn:Func}{c:Code}{args:List AV}{ob:List Ob}{res:AV}{ob':List Ob}(hf:prog.funcs[f]?=some fn)(hb:fn.body=some c)(h:∀w0 g0,(Q1o std tys cs (fun _=>.nil) c (Q68 std tys false fn.results.toList) ⟨ent 0 args,ob⟩).ok prog w0 g0 ob fn.ntmps (FinOk ob res ob'))
  (hk : (Nat.ble args.length fn.ntmps && (Q2h fn.ntmps c && (Q28 .any tys (fun _ => .nil) c && !(fn.name == "runtime.NumGoroutine")))) = true := by kernel_rfl) : BCall prog f args ob res ob' :=
 fnO false cs _ hf hb h hk
theorem Q1h{w0:World}{g0:Gh}{o0:List Ob}{N:Nat}(cs:Nat->List AV->List Ob->Option (AV×List Ob)){c:Code}(X:Type)(S:X->St)(J:X->Prop)(μ:X->Nat){Q:Ex->St->Prop}{s:St}(x0:X)(h0:J x0)(hS:Qot o0 s (S x0))
  (round:∀x,J x->(Q1o std tys cs (fun _=>.nil) c (fun e s=>.leaf e s) (S x)).ok prog w0 g0 o0 N (Q1u o0 S J μ x Q)) (hk:(Q2h N c&&Q28 .any tys (fun _=>.nil) c)=true:=by kernel_rfl):WP prog w0 g0 o0 N (.loop c) Q s:=by
 rw[Bool.and_eq_true]at hk;exact QbN Q80 QnG hk.1 hk.2 S J μ x0 h0 hS round
def Len{α:Type}(xs:List α)(n:Int):Prop:=n=xs.length
theorem Len.eq{α:Type}{xs:List α}{n:Int}(h:Len xs n):n=(xs.length:Int):=h
theorem QY{l:List Int}{n:Int}(h:Len l n):(((Q0 l).length:Nat):Int)=n:=by rw[Qx];exact h.symm
theorem QG{α:Type}(xs:List α):∃n,Len xs n:=⟨_,rfl⟩
def cs0:Nat->List AV->List Ob->Option (AV×List Ob):=fun _ _ _=>none
theorem Q8t(xs:List AV)(hn:xs.length<=1000000000):BCall prog 48 [.slc 1 xs] [] (.slc 1 xs) []:=by
 refine fnN (cs0) func48 rfl fun _ _=>?_
 with_reducible refine cv0 ?_
 refine⟨fun h=>.pure rfl ?_,?_,.pure rfl (.inl rfl)⟩
 ·have h:xs=[]:=h
  subst h;exact .inr (.inl ⟨rfl,_,rfl⟩)
 ·show 0+xs.length<=1000000000
  omega
theorem QkU(xs:List AV)(hn:xs.length<=1000000000):BCall prog 155 [.slc 1 xs] [] (.slc 1 xs) []:=by
 refine fnN (cs0) func155 rfl fun _ _=>?_
 with_reducible refine cv0 ?_
 refine⟨fun h=>.pure rfl ?_,?_,.pure rfl (.inl rfl)⟩
 ·have h:xs=[]:=h
  subst h;exact .inr (.inl ⟨rfl,_,rfl⟩)
 ·show 0+xs.length<=1000000000
  omega
theorem Qfd(xs:List AV)(hn:xs.length<=1000000000):BCall prog 54 [.slc 1 xs] [] (.slc 1 xs) []:=by
 refine fnN (cs0) func54 rfl fun _ _=>?_
 with_reducible refine cv0 ?_
 refine⟨fun h=>.pure rfl ?_,?_,.pure rfl (.inl rfl)⟩
 ·have h:xs=[]:=h
  subst h;exact .inr (.inl ⟨rfl,_,rfl⟩)
 ·show 0+xs.length<=1000000000
  omega
end
section
variable {w:World}{g:Gh}{ob:List Ob}
def Gh.kid(g:Gh)(w:World)(id:Nat)(b:Option Nat)(n:Nat):Gh where
 A b' o:=g.A b' o\/(b=some b'/\o<n)
 G b':=if b=some b' then some id else g.G b'
 loc:=g.loc
 sub b':=if b=some b' then true else g.sub b'
theorem Qoe(M:Mem w g ob){id ep i:Nat}{xs:List AV}(h:ob[id]?=some (.row Q4K 2 false ep xs)){b c:Nat}(hv:RowV w g id Q4K 2 (.slice (some ⟨b,0,none⟩) xs.length c) xs)
  {a u:AV} (hx:xs[i]?=some (.agg [a,u])) {us:List AV} (hu:u=.slc 1 us\/(u=.val (.slice none 0 0)/\us=[])) :
  ∃y zs,w.cell? ⟨b,i * 2+1,none⟩=some y/\w.ownsRow 0 QiQ 1 y us.length zs/\y.oneCell'=true/\Alike w g.A zs (QF us)/\(∀x∈us,x.cells.length=1)/\∀b',y.ownBlock=some b'->g.G b'=some id/\g.sub b'=true/\(∀o,us.length<=o->¬g.A b' o)/\b'<w.heap.size:=by
 obtain⟨ys,ho,hG,j7,hw,jO,jV⟩:=hv;have j3:=Q8 hx;have vK:=Q2F xs hw;have hj:i * 2+1<ys.length:=by rw[j7.1,vK];omega
 have nL:=getElem?_eq_getElem hj;have hcell:=ho.cells (g:=b) rfl _ _ nL;rw[Addr.add_mid,zero_add]at hcell
 have huj:(QF xs)[i * 2+1]?=some u:=by
  rw[Q6l xs hw i _ hx 1 (by omega)];rfl
 have hrel:=j7.2 _ _ _ nL huj;generalize ys[i * 2+1]=y at nL hcell hrel;obtain⟨⟨k,zs,h1,h2⟩,h3⟩:=jV rfl _ _ nL (by omega)
 have qm:=hrel.one;-- its length,and its cells by content
 have key:k=us.length/\Alike w g.A zs (QF us)/\∀x∈us,x.cells.length=1:=by
  rcases hu with rfl|⟨rfl,rfl⟩
  ·cases hrel with
   |nil =>
    rcases h1.2 with ⟨_,h4⟩|⟨b',cap,cur,h4,_⟩
    ·subst h4
     have:zs=[]:=List.eq_nil_of_length_eq_zero (by have:=h1.1;omega)
     subst this;exact⟨rfl,Alike.nil,fun x hx=>by cases hx⟩
    ·cases h4
   |slc b' o c' _ _ f hc hm gj qW qB =>
    rcases h1.2 with ⟨h4,_⟩|⟨b2,cap,cur,h4,h5⟩
    ·cases h4
    ·cases h4
     refine⟨rfl,?_,gj⟩;have xI:=Q2F us gj;have kN:zs.length=us.length * 1:=h1.1;refine⟨by rw[kN,xI],fun j y' u' vS ja=>?_⟩
     have e1:=h1.cells (g:=b') rfl j y' vS;rw[Addr.add_mid,zero_add]at e1;have e2:=(qW j u' ja).2;rw[zero_add,e1]at e2;obtain rfl:y'=f j:=Option.some.inj e2;exact qB j u' ja
  ·cases hrel
   rcases h1.2 with ⟨_,h4⟩|⟨b',cap,cur,h4,_⟩
   ·subst h4
    have:zs=[]:=List.eq_nil_of_length_eq_zero (by have:=h1.1;omega)
    subst this;exact⟨rfl,Alike.nil,fun x hx=>by cases hx⟩
   ·cases h4
 obtain⟨rfl,j1,zY⟩:=key;refine⟨y,zs,hcell,h1,qm,j1,zY,fun b' yX=>?_⟩
 obtain⟨h4,h5,h6⟩:=h2 b' yX;exact⟨h4,h5,h6,(M.own b' id h4).1⟩
theorem Qff:∀(xs:List AV),(∀x∈xs,x.cells.length=2)->∀(i:Nat)(a u u':AV),xs[i]?=some (.agg [a,u])->QF (xs.set i (.agg [a,u']))=(QF xs).set (i * 2+1) u'
 | [],_,i,a,u,u',h=>by simp at h
 |x::r,hw,0,a,u,u',h=>by
  obtain rfl:x=.agg [a,u]:=by simpa using h
  rfl
 |x::r,hw,i+1,a,u,u',h=>by
  have ih:=Qff r (fun y hy=>hw y (List.mem_cons_of_mem _ hy)) i a u u' (by simpa using h)
  have hx:=hw x (List.mem_cons_self ..)
  obtain⟨p,q,hpq⟩:∃p q,x.cells=[p,q]:=by
   match x.cells,hx with
   | [p,q],_=>exact⟨p,q,rfl⟩
  have e1:QF (x::r)=p::q::QF r:=by simp[hpq]
  have e2:QF (x::r.set i (.agg [a,u']))=p::q::QF (r.set i (.agg [a,u'])):=by simp[hpq]
  rw[set_cons_succ,e1,e2,ih,show(i+1) * 2+1=(i * 2+1)+1+1 by omega,set_cons_succ,set_cons_succ]
theorem QoG(M:Mem w g ob){id ep i:Nat}{xs:List AV}(h:ob[id]?=some (.row Q4K 2 false ep xs)){b c:Nat}(hv:RowV w g id Q4K 2 (.slice (some ⟨b,0,none⟩) xs.length c) xs)
  {a u:AV} (hx:xs[i]?=some (.agg [a,u])) {us:List AV} {y:Value} {zs:List Value} (hcell:w.cell? ⟨b,i * 2+1,none⟩=some y) (jP:w.ownsRow 0 QiQ 1 y us.length zs) (j7:Alike w g.A zs (QF us)) (hus:∀x∈us,x.cells.length=1)
  (ya:∀b',y.ownBlock=some b'->g.G b'=some id/\g.sub b'=true/\(∀o,us.length<=o->¬g.A b' o)/\b'<w.heap.size)
  {w1 w2:World} {v':Value} {n:Int} (yv:Below w.heap.size w w1) (xD:w2.ownsRow 0 QiQ 1 v' (us.length+1) (zs++[.int .i64 n])) (hg:w1.grownBy w2 y.ownBlock) (yZ:v'.ownBlock=y.ownBlock\/v'.ownBlock=some w1.heap.size)
  (vm:∀bb kk,bb<w1.heap.size->(y.ownBlock=some bb->kk<us.length * 1)->w2.cell? ⟨bb,kk,none⟩=w1.cell? ⟨bb,kk,none⟩) :
  ∃g3,Mem (w2.setCells b (i * 2+1) [v']) g3 (ob.set id (.row Q4K 2 false (ep+1) (xs.set i (.agg [a,.slc 1 (us++[.val (.int .i64 n)])])))) /\
   Step w g ob (w2.setCells b (i * 2+1) [v']) g3 (ob.set id (.row Q4K 2 false (ep+1) (xs.set i (.agg [a,.slc 1 (us++[.val (.int .i64 n)])])))) /\
   RowV (w2.setCells b (i * 2+1) [v']) g3 id Q4K 2 (.slice (some ⟨b,0,none⟩) xs.length c) (xs.set i (.agg [a,.slc 1 (us++[.val (.int .i64 n)])])):=by
 obtain⟨w3,zI⟩:=exq (w2.setCells b (i * 2+1) [v']);obtain⟨g3,yw⟩:=exq (g.kid w id v'.ownBlock (us.length+1));rw[<-zI];have hid:=Q8 h;have j3:=Q8 hx;obtain⟨ys,ho,hG,xA,xB,jO,jV⟩:=hv;have qJ:=hG b rfl;have qu:=jO b rfl;have jW:=(M.own b id qJ).1;-- blocks: the main one,the slice's,what is new
 have c9:∀b',y.ownBlock=some b'->b'≠b:=fun b' hb e=>by
  have:=(ya b' hb).2.1
  rw[e,qu]at this;cases this
 have vR:∀b',v'.ownBlock=some b'->(y.ownBlock=some b'/\b'<w.heap.size)\/w.heap.size<=b':=fun b' hb=>by
  rcases yZ with e|e
  ·rw[e]at hb;exact .inl ⟨hb,(ya b' hb).2.2.2⟩
  ·rw[e]at hb;cases hb;exact .inr yv.size
 have keep:∀b',b'<w.heap.size->b'≠b->y.ownBlock≠some b'->w3.heap[b']?=w.heap[b']?:=fun b' h1 h2 h3=>by
  rw[zI,Q14 (k:=0) h2,hg.block b' (lt_of_lt_of_le h1 yv.size) (fun e=>h3 e.symm),yv.block b' h1]
 have keepc:∀b' o,b'<w.heap.size->b'≠b->(y.ownBlock=some b'->o<us.length)->w3.cell? ⟨b',o,none⟩=w.cell? ⟨b',o,none⟩:=fun b' o h1 h2 h3=>by
  rw[zI,World.cell?_of_block (w:=w2) (Q14 (k:=0) h2),vm b' o (lt_of_lt_of_le h1 yv.size) (fun e=>by have:=h3 e;omega),World.cell?_of_block (w:=w) (yv.block b' h1)]
 have jh:w.heap.size<=w3.heap.size:=by
  rw[zI,Q1W];exact Nat.le_trans yv.size hg.size
 have nomain:∀o,¬g.A b o:=fun o hA=>by
  obtain⟨et,sz,e,xs2,h1,_⟩:=(M.imm b o hA).2 id qJ qu;rw[h]at h1;cases h1
 have hA:∀b' o,g.A b' o->w3.cell? ⟨b',o,none⟩=w.cell? ⟨b',o,none⟩:=fun b' o h1=>by
  refine keepc b' o (M.imm b' o h1).1 (fun e=>nomain o (e ▸ h1)) (fun e=>?_)
  refine Nat.lt_of_not_le fun h2=>(ya b' e).2.2.1 o h2 h1
 have oldG:∀b',b'<w.heap.size->g3.G b'=g.G b':=fun b' h1=>by
  rw[yw];show(if v'.ownBlock=some b' then some id else g.G b')=_
  split
  ·rename_i e
   rcases vR b' e with ⟨h2,_⟩|h2
   ·exact((ya b' h2).1).symm
   ·omega
  ·rfl
 have oldS:∀b',b'<w.heap.size->g3.sub b'=g.sub b':=fun b' h1=>by
  rw[yw];show(if v'.ownBlock=some b' then true else g.sub b')=_
  split
  ·rename_i e
   rcases vR b' e with ⟨h2,_⟩|h2
   ·exact((ya b' h2).2.1).symm
   ·omega
  ·rfl
 have newA:∀b' o,g3.A b' o->g.A b' o\/(v'.ownBlock=some b'/\o<us.length+1):=fun b' o h1=>by rw[yw]at h1;exact h1
 have upA:∀b' o,g.A b' o->g3.A b' o:=fun b' o h1=>by rw[yw];exact .inl h1
 have G3:∀b' k,g3.G b'=some k->(b'<w.heap.size/\g.G b'=some k)\/(v'.ownBlock=some b'/\k=id):=fun b' k h1=>by
  rw[yw]at h1;have h1:(if v'.ownBlock=some b' then some id else g.G b')=some k:=h1;split at h1
  ·rename_i e;exact .inr ⟨e,(Option.some.inj h1).symm⟩
  ·exact .inl ⟨(M.own b' k h1).1,h1⟩
 have vlt:∀b',v'.ownBlock=some b'->b'<w3.heap.size:=fun b' hb=>by
  rw[zI,Q1W];exact(xD.lt b' hb).2
 -- other rows and boxes
 have other:∀b' k,g.G b'=some k->k≠id->w3.heap[b']?=w.heap[b']?:=fun b' k h1 h2=>by
  refine keep b' (M.own b' k h1).1 (fun e=>?_) (fun e=>?_)
  ·rw[e,qJ]at h1;exact h2 (Option.some.inj h1).symm
  ·rw[(ya b' e).1]at h1;exact h2 (Option.some.inj h1).symm
 have E:Ext w g ob w3 g3 (ob.set id (.row Q4K 2 false (ep+1) (xs.set i (.agg [a,.slc 1 (us++[.val (.int .i64 n)])])))):=by
  refine⟨fun b' o h1=>⟨upA b' o h1,hA b' o h1⟩,fun _ _=>by rw[yw];rfl,fun k hk=>?_,fun k hk=>?_,fun k et sz fz e xs2 hk=>?_,fun b' k xw hs=>?_⟩
  ·have:k≠id:=by rintro rfl;rw[h]at hk;exact hk
   rw[getElem?_set_ne (Ne.symm this)];exact hk
  ·have:k≠id:=by rintro rfl;rw[h]at hk;exact hk
   rw[getElem?_set_ne (Ne.symm this)];exact hk
  ·by_cases e':k=id
   ·subst e'
    rw[h]at hk;cases hk;exact⟨false,ep+1,_,getElem?_set_self hid,by omega,fun h1=>by omega⟩
   ·exact⟨fz,e,xs2,by rw[getElem?_set_ne (Ne.symm e')];exact hk,le_refl _,fun _=>.inl ⟨rfl,fun b' yX=>⟨by rw[oldG b' (M.own b' k yX).1];exact yX,other b' k yX e'⟩⟩⟩
  ·have e':k≠id:=by
    rintro rfl;obtain⟨et,sz,fz,fz',e,xs2,xs3,h1,h2⟩:=hs;rw[h]at h1;cases h1;rw[getElem?_set_self hid]at h2;have:=Option.some.inj h2
    injection this with _ _ _ h3
    omega
   refine⟨oldS b' (M.own b' k xw).1,fun _ o h1=>?_⟩
   rcases newA b' o h1 with h2|⟨h2,_⟩
   ·exact h2
   ·rcases vR b' h2 with ⟨h3,_⟩|h3
    ·rw[(ya b' h3).1]at xw;exact absurd (Option.some.inj xw).symm e'
    ·have:=(M.own b' k xw).1;omega
 have jl:RowV w3 g3 id Q4K 2 (.slice (some ⟨b,0,none⟩) xs.length c) (xs.set i (.agg [a,.slc 1 (us++[.val (.int .i64 n)])])):=by
  have hvne:∀b',v'.ownBlock=some b'->b'≠b:=fun b' hb=>by
   rcases vR b' hb with ⟨h1,_⟩|h1
   ·exact c9 b' h1
   ·omega
  have kH:w3.ownsRow 0 QiQ 1 v' (us.length+1) (zs++[.int .i64 n]):=Q3C xD fun b' hb=>by rw[zI];exact Q14 (k:=0) (hvne b' hb)
  have vK:=Q2F xs xB;have vl:i * 2+1<ys.length:=by rw[xA.1,vK];omega
  have hfs:=Qff xs xB i a u (.slc 1 (us++[.val (.int .i64 n)])) hx;have qT:(us++[AV.val (.int .i64 n)]).length=us.length+1:=by simp
  have gj:∀x∈us++[AV.val (.int .i64 n)],x.cells.length=1:=fun x hx=>by
   rcases List.mem_append.1 hx with h1|h1
   ·exact hus x h1
   ·obtain rfl:x=.val (.int .i64 n):=by simpa using h1
    rfl
  have gn:QF (us++[AV.val (.int .i64 n)])=QF us++[.val (.int .i64 n)]:=by simp[AV.cells]
  have kt:Alike w3 g3.A (zs++[.int .i64 n]) (QF (us++[AV.val (.int .i64 n)])):=by
   rw[gn];refine(j7.keep E.A).append ⟨rfl,fun j y' u' h1 h2=>?_⟩
   cases j with
   |zero =>
    obtain rfl:Value.int .i64 n=y':=by simpa using h1
    obtain rfl:AV.val (.int .i64 n)=u':=by simpa using h2
    exact PRel.val _ rfl
   |succ j=>simp at h1
  have hvP:PRel w3 g3.A v' (.slc 1 (us++[.val (.int .i64 n)])):=by
   rcases kH.2 with ⟨_,h1⟩|⟨b',cap,cur,h1,h2,h3,h4,h5,h6,h7⟩
   ·omega
   ·subst h1
    rw[<-qT]at h4 kH ⊢;have kN:(zs++[Value.int .i64 n]).length=(us++[AV.val (.int .i64 n)]).length * 1:=kH.1;have xI:=Q2F (us++[AV.val (.int .i64 n)]) gj
    have get:∀(j:Nat) u',(QF (us++[AV.val (.int .i64 n)]))[j]?=some u'->j<(zs++[Value.int .i64 n]).length/\(zs++[Value.int .i64 n])[j]?=some ((zs++[Value.int .i64 n]).getD j undef):=fun j u' ja=>by
     have h8:=Q8 ja;rw[xI]at h8;have h9:j<(zs++[Value.int .i64 n]).length:=by omega
     exact⟨h9,by rw[List.getD_eq_getElem?_getD,getElem?_eq_getElem h9];rfl⟩
    refine PRel.slc b' 0 cap 1 _ (fun j=>(zs++[Value.int .i64 n]).getD j undef) h4 h5 gj (fun j u' ja=>⟨?_,?_⟩) (fun j u' ja=>?_)
    ·rw[yw]
     refine .inr ⟨rfl,?_⟩;have:=(get j u' ja).1
     rw[kN,qT]at this;omega
    ·have:=kH.cells (g:=b') rfl j _ (get j u' ja).2
     rw[Addr.add_mid,zero_add]at this;rw[zero_add];exact this
    ·exact kt.2 j _ u' (get j u' ja).2 ja
  rcases ho.2 with ⟨h1,_⟩|⟨b0,cap,cur,h1,h2,h3,h4,h5,h6,h7⟩
  ·cases h1
  ·cases h1
   have xx:w2.heap[b]?=some (.cells cur Q4K (0,0)):=by
    rw[hg.block b (lt_of_lt_of_le jW yv.size) (fun e=>c9 b e.symm rfl),yv.block b jW]
    exact h3
   have hjc:i * 2+1<cur.size:=by
    have:ys.length<=cur.size:=by rw[<-h7,length_take];simp;omega
    omega
   have nM:=Q2z (W:=w2) [v'] (i * 2+1) w2 cur xx (by simp;omega)
   have vy:cur.toList.take (i * 2+1)++([v']++cur.toList.drop (i * 2+1 + [v'].length))=cur.toList.set (i * 2+1) v':=by
    rw[List.set_eq_take_append_cons_drop,if_pos (by simpa using hjc)]
    rfl
   rw[vy]at nM;refine⟨ys.set (i * 2+1) v',⟨by rw[length_set,length_set];exact ho.1,.inr ⟨b,c,(cur.toList.set (i * 2+1) v').toArray,by rw[length_set],zero_le _,by rw[zI];exact nM,by rw[length_set];exact h4,h5,by simpa using h6,?_⟩⟩,fun b' hb=>?_,?_,?_,fun b' hb=>?_,fun _ j y' vS hj=>?_⟩
   ·rw[length_set]
    show((cur.toList.set (i * 2+1) v').toArray.toList).take _=_
    rw[List.toList_toArray,List.take_set,h7]
   ·obtain rfl:b=b':=by simpa[Value.ownBlock]using hb
    rw[oldG b jW];exact qJ
   ·rw[hfs]
    refine⟨by rw[length_set,length_set];exact xA.1,fun j y' u' h8 h9=>?_⟩
    by_cases e:j=i * 2+1
    ·subst e
     rw[getElem?_set_self vl]at h8;rw[getElem?_set_self (by rw[<-xA.1];exact vl)]at h9
     cases h8;cases h9;exact hvP
    ·rw[getElem?_set_ne (Ne.symm e)]at h8 h9
     exact(xA.2 j y' u' h8 h9).keep E.A
   ·intro x vz
    rcases List.mem_or_eq_of_mem_set vz with h1|h1
    ·exact xB x h1
    ·rw[h1];rfl
   ·obtain rfl:b=b':=by simpa[Value.ownBlock]using hb
    rw[oldS b jW];exact qu
   ·have hy0:ys[i * 2+1]?=some y:=by
     have e1:=getElem?_eq_getElem vl;have e2:=ho.cells (g:=b) rfl _ _ e1;rw[Addr.add_mid,zero_add,hcell]at e2;rw[e1,<-Option.some.inj e2]
    -- a block that another one owns
    have oldne:∀(j:Nat) y',ys[j]?=some y'->j % 2=1->j≠i * 2+1->∀b',y'.ownBlock=some b'->v'.ownBlock≠some b'/\y.ownBlock≠some b'/\b'≠b/\b'<w.heap.size:=fun j y' h8 h9 q9 b' hb=>by
     obtain⟨⟨k,zs',vn,zX⟩,zi⟩:=jV rfl j y' h8 h9;obtain⟨cO,pR,_⟩:=zX b' hb;have cd:y.ownBlock≠some b':=fun e=>q9 (zi _ y b' hy0 (by omega) e hb).symm
     have jB:=(M.own b' id cO).1;refine⟨fun e=>?_,cd,fun e=>?_,jB⟩
     ·rcases vR b' e with ⟨nN,_⟩|nN
      ·exact cd nN
      ·omega
     ·rw[e,qu]at pR;cases pR
    by_cases e:j=i * 2+1
    ·subst e
     rw[getElem?_set_self vl]at vS;cases vS;refine⟨⟨us.length+1,_,kH,fun b' hb=>⟨?_,?_,fun o yK zz=>?_⟩⟩,fun k z b' hz hk xC hvb'=>?_⟩
     ·rw[yw]
      show(if v'.ownBlock=some b' then some id else g.G b')=_
      rw[if_pos hb]
     ·rw[yw]
      show(if v'.ownBlock=some b' then true else g.sub b')=_
      rw[if_pos hb]
     ·rcases newA b' o zz with h8|⟨_,h8⟩
      ·rcases vR b' hb with ⟨h9,_⟩|h9
       ·exact(ya b' h9).2.2.1 o (by omega) h8
       ·have:=(M.imm b' o h8).1;omega
      ·omega
     ·refine Classical.byContradiction fun jI=>?_
      rw[getElem?_set_ne (Ne.symm jI)]at hz;exact(oldne k z hz hk jI b' xC).1 hvb'
    ·rw[getElem?_set_ne (Ne.symm e)]at vS
     obtain⟨⟨k,zs',vn,zX⟩,zi⟩:=jV rfl j y' vS hj;refine⟨⟨k,zs',Q3C vn fun b' hb=>?_,fun b' hb=>?_⟩,fun k' z b' hz yu xC p6=>?_⟩
     ·obtain⟨h8,h9,q9,cO⟩:=oldne j y' vS hj e b' hb
      exact keep b' cO q9 h9
     ·obtain⟨h8,h9,q9,cO⟩:=oldne j y' vS hj e b' hb
      obtain⟨pR,nN,h17⟩:=zX b' hb;refine⟨by rw[oldG b' cO];exact pR,by rw[oldS b' cO];exact nN,fun o yK zz=>?_⟩
      rcases newA b' o zz with h18|⟨h18,_⟩
      ·exact h17 o yK h18
      ·exact h8 h18
     ·by_cases e2:k'=i * 2+1
      ·subst e2
       rw[getElem?_set_self vl]at hz;cases hz;exact absurd xC (oldne j y' vS hj e b' p6).1
      ·rw[getElem?_set_ne (Ne.symm e2)]at hz
       exact zi k' z b' hz yu xC p6
 refine⟨g3,?_,?_,jl⟩
 ·refine⟨fun k cs hk=>?_,fun k cs hk j u hj=>?_,fun k y hk=>?_,fun b' k hk=>?_,fun b' o zz=>?_,fun k et sz fz e xs2 hk=>?_,fun b' hs=>?_,fun b1 b2 k h1 h2 hs jd=>?_⟩
  ·have e':k≠id:=by rintro rfl;rw[getElem?_set_self hid]at hk;cases hk
   rw[getElem?_set_ne (Ne.symm e')]at hk;obtain⟨h1,cur,T,h2,h3⟩:=M.box k cs hk;have hl:g3.loc k=g.loc k:=by rw[yw];rfl
   exact⟨by rw[hl,oldG _ (M.own _ _ h1).1];exact h1,cur,T,by rw[hl,other _ _ h1 e'];exact h2,h3.ext E⟩
  ·have e':k≠id:=by rintro rfl;rw[getElem?_set_self hid]at hk;cases hk
   rw[getElem?_set_ne (Ne.symm e')]at hk;obtain⟨h1,y',h2,h3⟩:=M.fbox k cs hk j u hj;have hl:g3.loc k=g.loc k:=by rw[yw];rfl
   exact⟨by rw[hl];exact upA _ _ h1,y',by rw[hl,hA _ _ h1];exact h2,h3.keep E.A⟩
  ·have e':k≠id:=by rintro rfl;rw[getElem?_set_self hid]at hk;cases hk
   rw[getElem?_set_ne (Ne.symm e')]at hk;obtain⟨h1,h2⟩:=M.iter k y hk;have hl:g3.loc k=g.loc k:=by rw[yw];rfl
   exact⟨by rw[hl,oldG _ (M.own _ _ h1).1];exact h1,h2.at E.A E.loc (by simp) (by rw[hl,other _ _ h1 e'])⟩
  ·rw[length_set]
   rcases G3 b' k hk with ⟨h1,h2⟩|⟨h1,rfl⟩
   ·exact⟨lt_of_lt_of_le h1 jh,(M.own b' k h2).2⟩
   ·exact⟨vlt b' h1,hid⟩
  ·rcases newA b' o zz with h1|⟨h1,h2⟩
   ·have h3:=M.imm b' o h1
    refine⟨lt_of_lt_of_le h3.1 jh,fun k hk hs=>?_⟩
    rw[oldG b' h3.1]at hk;rw[oldS b' h3.1]at hs;obtain⟨et,sz,e,xs2,h4,h5⟩:=h3.2 k hk hs;have e':k≠id:=by rintro rfl;rw[h]at h4;cases h4
    exact⟨et,sz,e,xs2,by rw[getElem?_set_ne (Ne.symm e')];exact h4,h5⟩
   ·refine⟨vlt b' h1,fun k hk hs=>?_⟩
    rw[yw]at hs;have hs:(if v'.ownBlock=some b' then true else g.sub b')=false:=hs;rw[if_pos h1]at hs;cases hs
  ·by_cases e':k=id
   ·subst e'
    rw[getElem?_set_self hid]at hk;cases hk;refine⟨by omega,fun x vz=>?_⟩
    rcases List.mem_or_eq_of_mem_set vz with h1|h1
    ·exact xB x h1
    ·rw[h1];rfl
   ·rw[getElem?_set_ne (Ne.symm e')]at hk;exact M.roww k _ _ _ _ _ hk
  ·rw[yw]at hs
   have hs:(if v'.ownBlock=some b' then true else g.sub b')=true:=hs;split at hs
   ·rename_i h1
    refine⟨id,_,_,_,_,_,?_,getElem?_set_self hid⟩;rw[yw];show(if v'.ownBlock=some b' then some id else g.G b')=_
    rw[if_pos h1]
   ·obtain⟨k,et,sz,fz,e,xs2,h1,h2⟩:=M.nsub b' hs
    have h3:g3.G b'=some k:=by rw[oldG b' (M.own b' k h1).1];exact h1
    by_cases e':k=id
    ·subst e'
     exact⟨k,_,_,_,_,_,h3,getElem?_set_self hid⟩
    ·exact⟨k,et,sz,fz,e,xs2,h3,by rw[getElem?_set_ne (Ne.symm e')];exact h2⟩
  ·have main:∀b' k,g3.G b'=some k->g3.sub b'=false->g.G b'=some k/\g.sub b'=false:=fun b' k h1 h2=>by
    rw[yw]at h1 h2;have h1:(if v'.ownBlock=some b' then some id else g.G b')=some k:=h1;have h2:(if v'.ownBlock=some b' then true else g.sub b')=false:=h2;split at h2
    ·cases h2
    ·rename_i e
     rw[if_neg e]at h1;exact⟨h1,h2⟩
   exact M.uniq b1 b2 k (main b1 k h1 hs).1 (main b2 k h2 jd).1 (main b1 k h1 hs).2 (main b2 k h2 jd).2
 ·have hr:=Q1V b [v'] (i * 2+1) w2
  refine⟨?_,?_,?_,jh,fun b' h1 h2=>?_,fun b' k hk=>?_,fun b' o zz=>?_,E,by simp⟩
  ·rw[zI,hr.1,hg.os,yv.os]
  ·rw[zI,hr.2.1,hg.tape,yv.tape]
  ·rw[zI,hr.2.2,hg.output,yv.output]
  ·exact keep b' h1 (fun e=>by rw[e,qJ]at h2;cases h2) (fun e=>by rw[(ya b' e).1]at h2;cases h2)
  ·rcases G3 b' k hk with ⟨_,h2⟩|⟨h1,rfl⟩
   ·exact .inl ⟨k,h2⟩
   ·rcases vR b' h1 with ⟨h2,_⟩|h2
    ·exact .inl ⟨_,(ya b' h2).1⟩
    ·exact .inr h2
  ·rcases newA b' o zz with h1|⟨h1,_⟩
   ·exact .inl h1
   ·rcases vR b' h1 with ⟨h2,_⟩|h2
    ·exact .inr (.inl ⟨_,(ya b' h2).1⟩)
    ·exact .inr (.inr h2)
end
section
open Tryz
section
variable {P:Program}{ops:Array Oper}{R:Exit->Act->World->Prop}{a:Act}{w w':World}{i:Nat}{rest:List Nat}{o:Oper}{ty:Tys}
theorem Q2J{v:Value}(ho:ops[i]?=some o)(hg:o.guard=none)(hr:(execOp a.eval o).run P w=.ok (.value v) w')(h:wpOps P ops R rest (a.put o.dst v) w'):wpOps P ops R (i::rest) a w:=by
 unfold wpOps;rw[ho];simp only[Region.wanted,hg,if_true];exact .inl (Q49 hr h)
theorem Qg2(ho:ops[i]?=some o)(hg:o.guard=none)(hr:(execOp a.eval o).run P w=.ok .skip w')(h:wpOps P ops R rest (a.put o.dst undef) w'):wpOps P ops R (i::rest) a w:=by
 unfold wpOps;rw[ho];simp only[Region.wanted,hg,if_true];refine .inl ?_;unfold Oper.wp;rw[hr];exact h
theorem Qml(d:Nat)(v:Value):(a.put (some d) v).tmps.size=a.tmps.size:=by
 show(a.tmps.setIfInBounds d v).size=_
 simp
theorem Qmh{d:Nat}(h:d<a.tmps.size)(v:Value)(t:Nat):(a.put (some d) v).eval (.tmp t)=if t=d then v else a.eval (.tmp t):=by
 show(a.tmps.setIfInBounds d v).getD t undef=if t=d then v else a.tmps.getD t undef
 by_cases e:t=d
 ·subst e;simp[Array.getD_eq_getD_getElem?,h]
 ·rw[if_neg e]
  simp only[Array.getD_eq_getD_getElem?];rw[Array.getElem?_setIfInBounds_ne (Ne.symm e)]
structure At (N:Nat) (a:Act) (f:Nat->Value):Prop where
 defers:a.defers=[]
 size:a.tmps.size=N
 ev:∀t,a.eval (.tmp t)=f t
theorem At.put{N:Nat}{f:Nat->Value}(h:At N a f){d:Nat}(hd:d<N)(v:Value):At N (a.put (some d) v) fun t=>if t=d then v else f t :=
 ⟨h.defers,by rw[Qml];exact h.size,fun t=>by rw[Qmh (by rw[h.size];exact hd)];rw[h.ev]⟩
theorem Q9V{x:Operand}(ho:o.op=.move x\/o.op=.assign x):(execOp a.eval o).run P w=.ok (.value (a.eval x)) w:=by
 rcases ho with ho|ho<;>simp only[execOp,ho]<;>rfl
theorem Q7g{x:Operand}{ad:Addr}(ho:o.op=.nilCheck x)(hv:a.eval x=.pointer (some ad)):(execOp a.eval o).run P w=.ok (.value (.pointer (some ad))) w:=by
 simp only[execOp,ho,hv]<;>rfl
theorem Q78(hT:TyOk P ty){T:Nat}{x:Operand}{f off t b u:Nat}(ho:o.op=.fieldAddr T x f)(hf:(Q2 T ty).flds[f]?=some (off,t))(yJ:fOk ty t=true)
  (hv:a.eval x=.pointer (some ⟨b,u,none⟩)):(execOp a.eval o).run P w=.ok (.value (.pointer (some ⟨b,u+off,none⟩))) w:=by
 obtain⟨fs,fd,h1,h2,h3⟩:=(Qg9 hT hf).strct' hf;obtain⟨rfl,rfl⟩:off=fd.offset/\t=fd.type:=by simpa using h3
 simp only[fOk,Bool.and_eq_true,bne_iff_ne,ne_eq]at yJ;have hs:=(Q2v hT yJ.1).size w;simp only[execOp,ho];refine Q1v ?_;rw[hv];simp[Instr.fieldAt,run_underlying h1,h2,Instr.sureAddr,fieldPlace,hs,yJ.2,Addr.add_mid]
theorem Qju(hT:TyOk P ty){T:Nat}{x:Operand}{b u:Nat}{y:Value}(ho:o.op=.load T x)(jA:(Q2 T ty).ok=true)(hag:(Q2 T ty).agg=false)
  (hv:a.eval x=.pointer (some ⟨b,u,none⟩)) (hc:w.cell? ⟨b,u,none⟩=some y):(execOp a.eval o).run P w=.ok (.value y) w:=by
 have:=(Q2v hT jA).isAgg w
 rw[hag]at this;simp only[execOp,ho];refine Q1v ?_;rw[hv];simp[Instr.loadAt,Instr.sureAddr,loadVar,this,hc]
theorem Qgy(hT:TyOk P ty){T:Nat}{x y:Operand}{b u:Nat}{v:Value}(ho:o.op=.store T x y)(jA:(Q2 T ty).ok=true)(jh:(Q2 T ty).size=1)
  (hv:a.eval x=.pointer (some ⟨b,u,none⟩)) (hy:a.eval y=v) (h1:v.oneCell'=true) {z:Value} (hc:w.cell? ⟨b,u,none⟩=some z) (hf:w.frozen? ⟨b,u,none⟩=false) :
  (execOp a.eval o).run P w=.ok .skip (w.setCells b u [v]):=by
 have jG:=run_storeCells_cells (P:=P) b u [v] 0 w (fun j hj=>by
  obtain rfl:j=0:=by simpa using hj
  show(w.cell? ⟨b,u,none⟩).isSome=true
  rw[hc];rfl) (fun j hj=>by
  obtain rfl:j=0:=by simpa using hj
  exact hf) (fun v' hv'=>by
  obtain rfl:v'=v:=by simpa using hv'
  exact h1)
 rw[add_zero]at jG;have xr:=(Q2v hT jA).size w;rw[jh]at xr;have qW:v.cells=#[v]:=Qca h1;simp only[execOp,ho,Instr.storeAt,hv,hy,Instr.sureAddr,storeVar,Sem.run_bind,Sem.run_pure,Result.andThen_ok,xr,qW];simp[jG]
theorem Qom{x y:Operand}{T U:Nat}{v:Value}(ho:o.op=.call { callee:=.builtin .append,args:=#[x,y],argTypes:=#[T,U] })(hr:(Builtin.append_ #[T,U] o.type #[a.eval x,a.eval y]).run P w=.ok v w') :
  (execOp a.eval o).run P w=.ok (.value v) w':=by
 obtain⟨cs,hc⟩:=Q5R (P:=P) (a:=a) ho w;rw[hc];show(do pure (Next.value (<-Builtin.append_ #[T,U] o.type (Array.map a.eval #[x,y]))):Sem Next).run P w=_
 refine Q1v ?_;simpa using hr
end
section
variable {w0:World}{g0:Gh}{o0:List Ob}
theorem Qbw{w:World}{b o:Nat}{v:Value}{cur:Array Value}{T:TypeId}{fr:Nat×Nat}(h:w.heap[b]?=some (.cells cur T fr))(hv:cur[o]?=some v):w.setCells b o [v]=w:=by
 have e:cur.setIfInBounds o v=cur:=by
  apply Array.ext';refine List.ext_getElem? fun j=>?_
  rw[Array.getElem?_toList,Array.getElem?_toList,Array.getElem?_setIfInBounds];split
  ·rename_i e;subst e
   split
   ·exact hv.symm
   ·rename_i hn;rw[Array.getElem?_eq_none (by omega)]
  ·rfl
 show({ w with heap:=_ }:World)=w
 have e2:(w.heap.modify b fun
   |.cells c elem frozen=>.cells (if(none:Option Nat).isSome then c else c.setIfInBounds o v) elem frozen
   |o=>o)=w.heap:=by
  apply Array.ext';refine List.ext_getElem? fun j=>?_
  rw[Array.getElem?_toList,Array.getElem?_toList,Array.getElem?_modify];split
  ·rename_i e3;subst e3
   rw[h];simp[e]
  ·rfl
 exact congrArg (fun x=>({ w with heap:=x }:World)) e2
theorem Qjf{ob:List Ob}{args:List AV}{g:Gh}{w:World}{vs:List Value}{N:Nat}(M:Mem w g ob)(hL:Q2R w g ob vs args)(hn:args.length<=N) :
  Sim w g ob N ⟨ent 0 args,ob⟩ { tmps:=vs.toArray++Array.replicate (N-vs.toArray.size) undef,defers:=[] } w:=by
 have jH:vs.length=args.length:=hL.1;refine⟨rfl,?_,g,M,fun t=>?_,Step.refl⟩
 ·simp;omega
 ·show ARel w g ob _ (lk t (ent 0 args))
  rw[QfQ];simp only[zero_le,if_true,Nat.sub_zero];by_cases ht:t<args.length
  ·rw[List.getD_eq_getElem?_getD,getElem?_eq_getElem ht,Option.getD_some]
   have e:(vs.toArray++Array.replicate (N-vs.toArray.size) undef).getD t undef=vs[t]'(by omega):=by
    rw[Array.getD_eq_getD_getElem?,Array.getElem?_append_left (by simp;omega)]
    simp[show t<vs.length by omega]
   rw[e];exact(hL.2 t _ _ (getElem?_eq_getElem (by omega)) (getElem?_eq_getElem ht)).to
  ·rw[List.getD_eq_getElem?_getD,List.getElem?_eq_none (by omega)]
   trivial
end
theorem QcW{P:Program}{fn:Func}(h:fn.results=#[])(tmps:Array Value)(w:World):(results fn tmps).run P w=.ok (.tuple #[]) w:=by
 simp[results,h]
noncomputable def kidR0:Code:=match f23.body with|some (.seq c _)=>c|_=>.skip
noncomputable def kidR1:Code:=match f23.body with|some (.seq _ c)=>c|_=>.skip
def Qp4(ob:List Ob)(k:Nat)(i n:Int)(e:Ex)(s:St):Prop:=e=.normal/\s.ob=ob/\lk 4 s.tm=.rptr k 0 i 0/\lk 1 s.tm=.val (.int .i64 n)
theorem Qo4{ob:List Ob}{k:Nat}{bs tp:AV}{xs:List AV}(hb:ob[0]?=some (.box [bs,tp,.row k 0]))(hk:ob[k]?=some (.row Q4K 2 false 0 xs)){i n:Int}
  (vC:∀w0 g0,(Q1o std tys cs0 (fun _=>.nil) kidR0 (fun e s=>.leaf e s) ⟨ent 0 [.box 0 0,.val (.int .i64 n)],ob⟩).ok prog w0 g0 ob 26 (Qp4 ob k i n))
  {a u:AV} {us:List AV} (hi:0<=i) (hx:xs[i.toNat]?=some (.agg [a,u])) (hu:u=.slc 1 us\/(u=.val (.slice none 0 0)/\us=[])) (hul:us.length<=1000000) :
  BCall prog 23 [.box 0 0,.val (.int .i64 n)] ob (.tup []) ((ob.set k (.row Q4K 2 false 1 (xs.set i.toNat (.agg [a,.slc 1 (us++[.val (.int .i64 n)])])))).set 0 (.box [bs,tp,.row k 1])):=by
 refine⟨enters_of func23 (by kernel_rfl) rfl,fun w0 g0 vs M0 hL=>calls_of_wp func23 (c:=.seq kidR0 kidR1) rfl ?_⟩
 refine wp_seq (Q4i (w0:=w0) (g0:=g0) (o0:=ob) (N:=26) (Q:=Qp4 ob k i n) (cs:=cs0) (ord:=fun _=>.nil) Q80 (by kernel_rfl) kidR0 (fun e s=>.leaf e s) _ ⟨ent 0 [.box 0 0,.val (.int .i64 n)],ob⟩ _ w0 (by kernel_rfl) (by kernel_rfl) (fun c a d v w h=>h) (fun e s ac w _ hs hq=>?_) (fun v s a w _ _ h=>nomatch h.1) (Qjf M0 hL (Nat.le_of_ble_eq_true rfl)) (vC w0 g0))
 obtain⟨rfl,jQ,h4,h1⟩:=(show Qp4 ob k i n e s from hq);show kidR1.wp _ _ ac w;refine wp_region ?_;show wpOps _ _ _ [0,1,2,3,4,5,6,7,8,9,10] ac w;obtain⟨hdf,jh,g,M,hS,h0⟩:=hs;rw[jQ]at M h0;have qI:k≠0:=by rintro rfl;rw[hb]at hk;cases hk
 -- what the slots zJ
 have hp:=hS 4;rw[h4,jQ]at hp;obtain⟨_,et,sz,fz,ee,xs',yO,_,kq⟩:=(show ARel0 w g ob _ (.rptr k 0 i 0) from hp);rw[hk]at yO;cases yO;obtain⟨b,c,hpv,_,j3,hRV⟩:=kq rfl;have hn:=hS 1;rw[h1]at hn;have hnv:=hn.valEq;-- the maker's box
 obtain⟨nO,cur,T0,hh0,ju⟩:=M.box 0 _ hb;have qW:cur.toList.length=3:=ju.1;obtain⟨v,hv⟩:∃v,cur.toList[2]?=some v:=⟨_,getElem?_eq_getElem (by omega)⟩
 obtain⟨⟨k5,et,sz,fz,ee,xs',yO,_,gc⟩,_⟩:=ju.2 2 v (.row k 0) hv rfl;rw[hk]at yO;cases yO;have hRB:=gc rfl;obtain⟨ysP,hoP,hGP,_,_,hsP,_⟩:=hRV;obtain⟨ysB,hoB,hGB,_,_,hsB,_⟩:=(show RowV w g k Q4K 2 v xs from hRB);rcases hoB.2 with ⟨_,h00⟩|⟨bB,cap,curB,rfl,_,hhB,_,_,_,_⟩
 ·omega
 obtain rfl:b=bB:=M.uniq _ _ k (hGP b rfl) (hGB bB rfl) (hsP b rfl) (hsB bB rfl);obtain⟨y,zs,hcell,jP,qm,j7,hus,ya⟩:=Qoe M hk hRB hx hu;have qJ:=hGB b rfl;have jW:=(M.own b k qJ).1
 have c9:y.ownBlock≠some b:=fun e=>by
  have:=(ya b e).2.1
  rw[hsB b rfl]at this;cases this
 have h0ne:g.loc 0≠b:=fun e=>by
  rw[e,qJ]at nO;exact qI (Option.some.inj nO)
 have h0ny:y.ownBlock≠some (g.loc 0):=fun e=>by
  have:=(ya _ e).1
  rw[nO]at this;exact qI (Option.some.inj this).symm
 -- one operation after the other
 have A0:At 26 ac (fun t=>ac.eval (.tmp t)):=⟨hdf,jh,fun _=>rfl⟩
 have e4:ac.eval (.tmp 4)=.pointer (some ⟨b,i.toNat * 2+0,none⟩):=hpv;have e1:ac.eval (.tmp 1)=.int .i64 n:=hnv;generalize xy:Value.pointer (some ⟨b,i.toNat * 2+0,none⟩)=PV at e4;refine Q2J rfl rfl (Q9V (x:=.tmp 4) (.inl rfl)) ?_;rw[e4];show wpOps _ _ _ [1,2,3,4,5,6,7,8,9,10] (ac.put (some 16) PV) w;have A1:=A0.put (d:=16) (by decide) PV
 generalize ac.put (some 16) PV=a1 at A1 ⊢;refine Q2J rfl rfl (Q9V (x:=.tmp 4) (.inl rfl)) ?_;rw[show a1.eval (.tmp 4)=PV by rw[A1.ev];exact e4]
 show wpOps _ _ _ [2,3,4,5,6,7,8,9,10] (a1.put (some 17) PV) w;have A2:=A1.put (d:=17) (by decide) PV
 generalize a1.put (some 17) PV=a2 at A2 ⊢;refine Q2J rfl rfl (Q7g (x:=.tmp 17) (ad:=⟨b,i.toNat * 2+0,none⟩) rfl (by rw[A2.ev,xy];rfl)) ?_
 rw[xy];show wpOps _ _ _ [3,4,5,6,7,8,9,10] (a2.put (some 18) PV) w;have A3:=A2.put (d:=18) (by decide) PV
 generalize a2.put (some 18) PV=a3 at A3 ⊢;refine Q2J rfl rfl (Q78 Q80 (x:=.tmp 18) (off:=1) (t:=29) rfl (by kernel_rfl) (by kernel_rfl) (b:=b) (u:=i.toNat * 2+0) (by rw[A3.ev,xy];rfl)) ?_
 rw[add_zero];generalize hFV:Value.pointer (some ⟨b,i.toNat * 2+1,none⟩)=FV;show wpOps _ _ _ [4,5,6,7,8,9,10] (a3.put (some 19) FV) w;have A4:=A3.put (d:=19) (by decide) FV
 generalize a3.put (some 19) FV=a4 at A4 ⊢;refine Q2J rfl rfl (Qju Q80 (x:=.tmp 19) rfl (by kernel_rfl) (by kernel_rfl) (b:=b) (u:=i.toNat * 2+1) (by rw[A4.ev,hFV];rfl) hcell) ?_
 show wpOps _ _ _ [5,6,7,8,9,10] (a4.put (some 20) y) w;have A5:=A4.put (d:=20) (by decide) y
 generalize a4.put (some 20) y=a5 at A5 ⊢;refine Q2J rfl rfl (Q9V (x:=.tmp 1) (.inl rfl)) ?_;rw[show a5.eval (.tmp 1)=.int .i64 n by rw[A5.ev];exact e1]
 generalize nP:Value.int .i64 n=NV;show wpOps _ _ _ [6,7,8,9,10] (a5.put (some 21) NV) w;have A6:=A5.put (d:=21) (by decide) NV
 generalize a5.put (some 21) NV=a6 at A6 ⊢;-- the slice of one number
 obtain⟨e,xJ,ql,te,zU,_⟩:=Q4O Q80 (T:=29) (sz:=1) (by kernel_rfl)
 obtain⟨ie,z,gL,vU,cZ,xt,kM,_⟩:=te.i;have hek:e=QiQ:=ql.trans (by kernel_rfl)
 rw[zU]at vU
 have gx:z.cells.size=1:=by
  have:=congrArg List.length kM
  rw[Array.length_toList,te.zl,zU]at this;exact this
 have hN1:NV.cells=#[NV]:=by rw[<-nP];rfl
 obtain⟨c',hf,gH⟩:=Q8N (sz:=1) [NV] 0 ((Array.range (1 * 1)).map (z.cells[· % z.cells.size]!)) (fun v' hv'=>by
  obtain rfl:v'=NV:=by simpa using hv'
  rw[hN1];rfl) (by simp)
 obtain rfl:c'=#[NV]:=by
  apply Array.ext';rw[gH];simp[hN1]
 have hrB:(Instr.buildSlice 29 1 #[(0,NV)]).run prog w=.ok (.slice (some ⟨w.heap.size,0,none⟩) 1 1) (w.alloc (.cells #[NV] e)) :=
  run_buildSlice w 29 e 1 _ _ ie z xJ gL xt (by rw[vU];decide) (by rw[vU];decide) (by rw[vU];exact hf)
 refine Q2J (w':=w.alloc (.cells #[NV] e)) (v:=.slice (some ⟨w.heap.size,0,none⟩) 1 1) rfl rfl (by
  simp only[execOp];refine Q1v ?_
  have:(#[(0,Operand.tmp 21)].map fun(x:Nat×Operand)=>(x.1,a6.eval x.2))=#[(0,NV)]:=by
   simp[A6.ev]
  rw[<-this]at hrB;exact hrB) ?_
 have hhN:(w.alloc (.cells #[NV] e)).heap[w.heap.size]?=some (.cells #[NV] e (0,0)):=Q69 w _;have nQ:Below w.heap.size w (w.alloc (.cells #[NV] e)):=(Below.refl _ w).alloc (le_refl _) _;have zJ:∀b',b'<w.heap.size->(w.alloc (.cells #[NV] e)).heap[b']?=w.heap[b']?:=fun b' h=>Q48 h
 generalize hSV:Value.slice (some ⟨w.heap.size,0,none⟩) 1 1=SV;show wpOps _ _ _ [7,8,9,10] (a6.put (some 22) SV) _;generalize w.alloc (.cells #[NV] e)=w1 at hhN nQ zJ ⊢;have A7:=A6.put (d:=22) (by decide) SV
 generalize a6.put (some 22) SV=a7 at A7 ⊢
 obtain⟨v',w2,hrA,xD,hg,yZ,vm⟩:=QaU (P:=prog) (w:=w1) (t:=29) (u:=29) (ty:=29) xJ xJ (.inl ⟨_,rfl⟩) gL xt vU (by rw[cZ];exact te.by_) gx
  (Q3C (hek ▸ jP) fun b' yX=>zJ b' (ya b' yX).2.2.2) (x:=SV) (m:=1) (news:=[NV]) rfl (fun W=>by rw[<-hSV];rfl)
  (fun W hW=>by
    rw[<-hSV];refine run_firstCells_some (P:=prog) W 1 1 _ _ _ [NV] rfl (fun j u hj=>?_)
    cases j with
    |zero =>
     obtain rfl:NV=u:=by simpa using hj
     show W.cell? ⟨w.heap.size,0+0,none⟩=_;simp[World.cell?,hW,hhN]
    |succ j=>simp at hj) (fun u hu=>by
    obtain rfl:u=NV:=by simpa using hu
    rw[<-nP];rfl) (by omega)
 refine Q2J rfl rfl (Qom (x:=.tmp 20) (y:=.tmp 22) rfl (by
  rw[show a7.eval (.tmp 20)=y by rw[A7.ev];rfl,show a7.eval (.tmp 22)=SV by rw[A7.ev];rfl]
  exact hrA)) ?_
 show wpOps _ _ _ [8,9,10] (a7.put (some 23) v') w2;have A8:=A7.put (d:=23) (by decide) v'
 generalize a7.put (some 23) v'=a8 at A8 ⊢;refine Q2J rfl rfl (Q7g (x:=.tmp 16) (ad:=⟨b,i.toNat * 2+0,none⟩) rfl (by rw[A8.ev,xy];rfl)) ?_
 rw[xy];show wpOps _ _ _ [9,10] (a8.put (some 24) PV) w2;have A9:=A8.put (d:=24) (by decide) PV
 generalize a8.put (some 24) PV=a9 at A9 ⊢;refine Q2J rfl rfl (Q78 Q80 (x:=.tmp 24) (off:=1) (t:=29) rfl (by kernel_rfl) (by kernel_rfl) (b:=b) (u:=i.toNat * 2+0) (by rw[A9.ev,xy];rfl)) ?_
 rw[add_zero,hFV];show wpOps _ _ _ [10] (a9.put (some 25) FV) w2;have A10:=A9.put (d:=25) (by decide) FV
 generalize a9.put (some 25) FV=a10 at A10 ⊢
 have xx:w2.heap[b]?=w.heap[b]?:=by
  rw[hg.block b (lt_of_lt_of_le jW nQ.size) (fun e=>c9 e.symm),zJ b jW]
 have hv'1:v'.oneCell'=true:=by
  rcases xD.2 with ⟨_,h00⟩|⟨b',cap',cur',rfl,_⟩
  ·omega
  ·rfl
 refine Qg2 (w':=w2.setCells b (i.toNat * 2+1) [v']) rfl rfl (Qgy Q80 (x:=.tmp 25) (y:=.tmp 23) rfl (by kernel_rfl) (by kernel_rfl) (by rw[A10.ev,hFV];rfl) (by rw[A10.ev];rfl) hv'1 (z:=y)
  (by rw[World.cell?_of_block (w:=w) xx];exact hcell) (by simp[World.frozen?,xx,hhB])) ?_
 obtain⟨g3,M3,S3,R3⟩:=QoG M hk hRB hx hcell jP j7 hus ya (n:=n) nQ (nP ▸ hek ▸ xD) hg yZ vm;generalize zI:w2.setCells b (i.toNat * 2+1) [v']=w3 at M3 S3 R3 ⊢
 have yH:(ob.set k (.row Q4K 2 false (0+1) (xs.set i.toNat (.agg [a,.slc 1 (us++[.val (.int .i64 n)])]))))[0]?=some (.box [bs,tp,.row k 0]):=by
  rw[getElem?_set_ne qI];exact hb
 have gi:g3.loc 0=g.loc 0:=S3.ext.loc 0 (Q8 hb)
 have nM:w3.heap[g.loc 0]?=some (.cells cur T0 (0,0)):=by
  have jB:=(M.own _ _ nO).1;rw[<-zI,Q14 (k:=0) h0ne,hg.block _ (lt_of_lt_of_le jB nQ.size) (fun e=>h0ny e.symm),zJ _ jB]
  exact hh0
 have M4:=M3.store yH (off:=2) (vs:=[Value.slice (some ⟨b,0,none⟩) xs.length cap]) (us:=[.row k 1]) ⟨rfl,fun j y' u' vS ja=>by
  cases j with
  |zero =>
   obtain rfl:Value.slice (some ⟨b,0,none⟩) xs.length cap=y':=by simpa using vS
   obtain rfl:AV.row k 1=u':=by simpa using ja
   exact⟨⟨rfl,Q4K,2,false,1,_,getElem?_set_self (Q8 hk),le_refl _,fun _=>by
    have p7:(xs.set i.toNat (.agg [a,.slc 1 (us++[.val (.int .i64 n)])])).length=xs.length:=by rw[length_set]
    exact R3⟩,rfl⟩
  |succ j=>simp at vS⟩ (le_refl _)
 have S4:=Step.store M3 yH 2 [Value.slice (some ⟨b,0,none⟩) xs.length cap] [bs,tp,.row k 1];rw[gi,Qbw nM (by rw[<-Array.getElem?_toList];exact hv)]at M4 S4
 show bodyPost _ _ _ .normal _ _;subst nP;exact⟨A10.defers,_,QcW rfl _ _,_,g3,rfl,M4,⟨#[],rfl,rfl,fun j y' u' h=>by simp at h⟩,(h0.trans S3).trans S4⟩
structure Node where
 kind:Int
 width:Int
 count:Int
 leaf:Bool
 b:List UInt8
 kids:List Int
 deriving Inhabited
def Node.av(x:Node):AV:=.agg [.val (.int .i64 x.kind),.val (.int .i64 x.width),.val (.int .i64 x.count),.val (.bool x.leaf),.slc 1 (Q4 x.b),.slc 1 (Q9 x.kids)]
def Q1(l:List Node):List AV:=l.map Node.av
theorem Q1g(l:List Node):(Q1 l).length=l.length:=by simp[Q1]
def Q9h:Node:=⟨0,0,0,false,[],[]⟩
def Qh(l:List Node)(n:Int):Node:=if 0<=n/\n<l.length then l[n.toNat]?.getD Q9h else Q9h
theorem Q82{l:List Node}{n:Int}(h0:0<=n)(h1:n<l.length):(Q1 l)[n.toNat]?.getD .dead=(Qh l n).av:=by
 rw[Qh,if_pos ⟨h0,h1⟩];exact QfP Node.av h0 h1 Q9h
theorem QqT(l:List Node):BCall prog 53 [.ref [.slc 6 (Q1 l)]] [] (.val (.int .i64 l.length)) []:=by
 refine fnN (cs0) func53 rfl fun _ _=>?_
 with_reducible refine cv1 (Q1 l) ?_
 refine⟨by simp[std,Q3W,Q2o],.pure rfl (.inl ?_)⟩
 simp[std,Q2o,Q1]
def QqS(len:List AV->Int):Nat->List AV->List Ob->Option (AV×List Ob):=fun f args _=>match f,args with
 |53,[.ref [.slc 6 xs]]=>some (.val (.int .i64 (len xs)),[])
 |_,_=>none
def Q5k(xs:List AV):Int:=xs.length
theorem QbT(l:List Node):BCall prog 53 [.ref [.slc 6 (Q1 l)]] [] (.val (.int .i64 (Q5k (Q1 l)))) []:=by
 have:=QqT l
 rw[<-Q1g]at this;exact this
theorem Qph(l:List Node)(n:Int):BCall prog 55 [.ref [.slc 6 (Q1 l)],.val (.int .i64 n)] [] (Qh l n).av []:=by
 refine fnN (QqS Q5k) func55 rfl fun _ _=>?_
 with_reducible refine cv2 Q5k (Q1 l) ?_
 have jH:=Q1g l;refine⟨fun h1=>.pure rfl ?_,fun h1=>⟨QbT l,fun h2=>.pure rfl ?_,fun h2=>⟨?_,?_,?_,.pure rfl ?_⟩⟩⟩
 ·have h1:n<0:=by simpa[std]using h1
  have:¬(0<=n/\n<l.length):=by omega
  simp[Qh,this,Node.av,Q9h,leA,Qfm,leL,leC,Q4,Q9]
 ·have h2:(l.length:Int)<=n:=by simpa[std,Q5k,jH]using h2
  have:¬(0<=n/\n<l.length):=by omega
  simp[Qh,this,Node.av,Q9h,leA,Qfm,leL,leC,Q4,Q9]
 ·simp[std,Q3W,Q2o]
 all_goals
  have h1:0<=n:=by simpa[std]using h1
  have h2:n<l.length:=by simpa[std,Q5k,jH]using h2
  have jX:=Q82 h1 h2
 ·simp[std,Q2o,jH,h1,h2]
 ·simp[std,Q3W,Q2o,jX,Node.av,AV.cells,RowKit.intOf,Q6a]
 ·simp[std,Q3W,Q2o,jX,Node.av,AV.cells,RowKit.intOf,Q6a,leA,Qfm,leL,leC]
def Qpn(k w c:Int->Int)(lf:Int->Bool)(b s:Int->List AV):Nat->List AV->List Ob->Option (AV×List Ob):=fun f args _=>match f,args with
 |55,[.ref [.slc 6 _],.val (.int .i64 n)]=>some (.agg [.val (.int .i64 (k n)),.val (.int .i64 (w n)),.val (.int .i64 (c n)),.val (.bool (lf n)),.slc 1 (b n),.slc 1 (s n)],[])
 |54,[.slc 1 xs]=>some (.slc 1 xs,[])
 |155,[.slc 1 xs]=>some (.slc 1 xs,[])
 |48,[.slc 1 xs]=>some (.slc 1 xs,[])
 |_,_=>none
def QO(l:List Node)(n:Int):Int:=(Qh l n).kind
def Q17(l:List Node)(n:Int):Int:=(Qh l n).width
def Q2r(l:List Node)(n:Int):Int:=(Qh l n).count
def QbU(l:List Node)(n:Int):Bool:=(Qh l n).leaf
def bN(l:List Node)(n:Int):List AV:=Q4 (Qh l n).b
def Q21(l:List Node)(n:Int):List AV:=Q9 (Qh l n).kids
theorem QfN(l:List Node)(n:Int):BCall prog 29 [.ref [.slc 6 (Q1 l)],.val (.int .i64 n)] [] (.val (.int .i64 (Qh l n).kind)) []:=by
 refine fnN (Qpn (QO l) (Q17 l) (Q2r l) (QbU l) (bN l) (Q21 l)) func29 rfl fun _ _=>?_
 with_reducible refine cv7 (QO l) (Q17 l) (Q2r l) (QbU l) (bN l) (Q21 l) (Q1 l) ?_
 exact⟨Qph l n,.pure rfl (.inl rfl)⟩
theorem Qol(l:List Node)(n:Int):BCall prog 56 [.ref [.slc 6 (Q1 l)],.val (.int .i64 n)] [] (.val (.int .i64 (Qh l n).width)) []:=by
 refine fnN (Qpn (QO l) (Q17 l) (Q2r l) (QbU l) (bN l) (Q21 l)) func56 rfl fun _ _=>?_
 with_reducible refine cv7 (QO l) (Q17 l) (Q2r l) (QbU l) (bN l) (Q21 l) (Q1 l) ?_
 exact⟨Qph l n,.pure rfl (.inl rfl)⟩
theorem Qm5(l:List Node)(n:Int)(hn:(Qh l n).kids.length<=1000000000):BCall prog 27 [.ref [.slc 6 (Q1 l)],.val (.int .i64 n)] [] (.slc 1 (Q9 (Qh l n).kids)) []:=by
 refine fnN (Qpn (QO l) (Q17 l) (Q2r l) (QbU l) (bN l) (Q21 l)) func27 rfl fun _ _=>?_
 with_reducible refine cv7 (QO l) (Q17 l) (Q2r l) (QbU l) (bN l) (Q21 l) (Q1 l) ?_
 exact⟨Qph l n,Qfd _ (by simpa[Q21,Q9]using hn),.pure rfl (.inl rfl)⟩
theorem QqP:BCall prog 22 [] [] (.box 0 0) [.box [.val (.slice none 0 0)]]:=by
 refine fnO true (cs0) (fun _=>.nil) func22 rfl fun _ _=>?_
 with_reducible refine cv0 ?_
 exact⟨[some 0],.box 0 0,_,rfl,rfl,zero_le _,rfl,⟨rfl,rfl,trivial⟩,.inl rfl⟩
theorem QoO(xs:List AV)(hn:xs.length<1000000000)(k w c:Int)(lf:Bool)(b kids:List AV) :
  BCall prog 47 [.box 0 0,.agg [.val (.int .i64 k),.val (.int .i64 w),.val (.int .i64 c),.val (.bool lf),.slc 1 b,.slc 1 kids]] [.box [.row 1 0],.row 123 6 false 0 xs] (.val (.int .i64 xs.length)) [.box [.row 1 1],.row 123 6 false 1 (xs++[.agg [.val (.int .i64 k),.val (.int .i64 w),.val (.int .i64 c),.val (.bool lf),.slc 1 b,.slc 1 kids]])]:=by
 refine fnN (cs0) func47 rfl fun _ _=>?_
 with_reducible refine cv0 ?_
 refine⟨?_,?_,[some 0,some 1],.val (.int .i64 xs.length),_,rfl,rfl,le_refl _,rfl,?_,.inl rfl⟩
 ·simp[std];omega
 ·show(-9223372036854775808:Int)<=_/\_<=(9223372036854775807:Int)
  simp[std];omega
 ·simp[Qm,std]
theorem Qpo(k w c:Int)(lf:Bool)(b kids:List AV) :
  BCall prog 47 [.box 0 0,.agg [.val (.int .i64 k),.val (.int .i64 w),.val (.int .i64 c),.val (.bool lf),.slc 1 b,.slc 1 kids]] [.box [.val (.slice none 0 0)]] (.val (.int .i64 0)) [.box [.row 1 1],.row 123 6 false 1 [.agg [.val (.int .i64 k),.val (.int .i64 w),.val (.int .i64 c),.val (.bool lf),.slc 1 b,.slc 1 kids]]]:=by
 refine fnN (cs0) func47 rfl fun _ _=>?_
 with_reducible refine cv0 ?_
 refine⟨?_,?_,[some 0,some 3],.val (.int .i64 0),_,rfl,rfl,Nat.le_succ _,rfl,?_,.inl rfl⟩
 ·simp[std]
 ·show(-9223372036854775808:Int)<=_/\_<=(9223372036854775807:Int)
  simp[std]
 ·simp[Qm,std]
def Qq(kind:Int)(b:List UInt8):Node:=⟨kind,b.length,1,true,b,[]⟩
def Qh1(p:Pr):Nat->List AV->List Ob->Option (AV×List Ob):=fun f args ob=>match f,args with
 |47,[.box 0 0,.agg [k,w,c,l,b,s]]=>match ob with
  | [.box [.row 1 0],.row 123 6 false 0 xs]=>some (.val (.int .i64 (p.len xs)),[.box [.row 1 1],.row 123 6 false 1 (p.app xs [.agg [k,w,c,l,match b with|.val (.slice none 0 0)=>.slc 1 []|b=>b,match s with|.val (.slice none 0 0)=>.slc 1 []|s=>s]])])
  | [.box [.val (.slice none 0 0)]]=>some (.val (.int .i64 0),[.box [.row 1 1],.row 123 6 false 1 [.agg [k,w,c,l,match b with|.val (.slice none 0 0)=>.slc 1 []|b=>b,match s with|.val (.slice none 0 0)=>.slc 1 []|s=>s]]])
  |_=>none
 |54,[.slc 1 xs]=>some (.slc 1 xs,[])
 |48,[.slc 1 xs]=>some (.slc 1 xs,[])
 |48,[.val (.slice none 0 0)]=>some (.slc 1 [],[])
 |_,_=>none
theorem Qkq(l:List Node)(hl:l.length<1000000000)(kind:Int)(b:List UInt8)(hb:b.length<=1000000000) :
  BCall prog 24 [.box 0 0,.val (.int .i64 kind),.slc 1 (Q4 b)] [.box [.row 1 0],.row 123 6 false 0 (Q1 l)] (.val (.int .i64 l.length)) [.box [.row 1 1],.row 123 6 false 1 (Q1 (l++[Qq kind b]))]:=by
 refine fnN (Qh1 std) func24 rfl fun _ _=>?_
 with_reducible refine cv2 (Q4 b) (Q1 l) ?_
 refine⟨Q8t _ (by simpa[Q4]using hb),?_,[some 0,some 1],.val (.int .i64 l.length),_,rfl,rfl,le_refl _,rfl,?_,.inl rfl⟩
 ·exact(QoO (Q1 l) (by simpa[Q1]using hl) kind _ 1 true (Q4 b) []).le ⟨.inl rfl,⟨.inl rfl,.inl rfl,.inl rfl,.inl rfl,.inl rfl,.inr (.inl ⟨rfl,_,rfl⟩),trivial⟩,trivial⟩
 ·simp[Qm,std,Q1,Qq,Node.av,Q4,Q9]
theorem Qn0(kind:Int)(b:List UInt8)(hb:b.length<=1000000000) :
  BCall prog 24 [.box 0 0,.val (.int .i64 kind),.slc 1 (Q4 b)] [.box [.val (.slice none 0 0)]] (.val (.int .i64 0)) [.box [.row 1 1],.row 123 6 false 1 (Q1 [Qq kind b])]:=by
 refine fnN (Qh1 std) func24 rfl fun _ _=>?_
 with_reducible refine cv1 (Q4 b) ?_
 refine⟨Q8t _ (by simpa[Q4]using hb),?_,[some 0,some 1],.val (.int .i64 0),_,rfl,rfl,Nat.le_succ _,rfl,?_,.inl rfl⟩
 ·exact(Qpo kind _ 1 true (Q4 b) []).le ⟨.inl rfl,⟨.inl rfl,.inl rfl,.inl rfl,.inl rfl,.inl rfl,.inr (.inl ⟨rfl,_,rfl⟩),trivial⟩,trivial⟩
 ·simp[Qm,std,Q1,Qq,Node.av,Q4,Q9]
def Q1X(l:List Node)(ks:List Int):Int:=(ks.map (Q17 l)).sum
def cnt(l:List Node)(ks:List Int):Int:=ks.foldl (fun c k=>min (c+Q2r l k) 2147483647) 1
def Q15(l:List Node)(kind:Int)(ks:List Int):Node:=⟨kind,Q1X l ks,cnt l ks,false,[],ks⟩
theorem Q5t{l:List Node}(hw:∀n,0<=Q17 l n)(ks:List Int):0<=Q1X l ks:=by
 induction ks with
 |nil=>simp[Q1X]
 |cons k r ih=>have:=hw k;simp only[Q1X,map_cons,sum_cons]at ih ⊢;omega
theorem Q9B{l:List Node}(hw:∀n,0<=Q17 l n)(ks:List Int)(n:Nat):Q1X l (ks.take n)<=Q1X l ks:=by
 have h:=Q5t hw (ks.drop n)
 have e:Q1X l ks=Q1X l (ks.take n)+Q1X l (ks.drop n):=by
  rw[Q1X,Q1X,Q1X,<-sum_append,<-map_append,List.take_append_drop]
 omega
theorem Q8C{l:List Node}(hc:∀n,0<=Q2r l n/\Q2r l n<=2147483647)(ks:List Int):0<=cnt l ks/\cnt l ks<=2147483647:=by
 have key:∀(ks:List Int)(c:Int),0<=c/\c<=2147483647->0<=ks.foldl (fun c k=>min (c+Q2r l k) 2147483647) c/\ks.foldl (fun c k=>min (c+Q2r l k) 2147483647) c<=2147483647:=by
  intro ks;induction ks with
  |nil=>intro c h;exact h
  |cons k r ih=>intro c h;have:=hc k;exact ih (min (c+Q2r l k) 2147483647) (by omega)
 exact key ks 1 (by omega)
theorem QeK(l:List Node)(hl:l.length<1000000000)(kind:Int)(ks:List Int)(vM:ks.length<=1000000000)(jS:∀k∈ks,0<=k/\k<l.length)(hw:∀n,0<=Q17 l n)(hc:∀n,0<=Q2r l n/\Q2r l n<=2147483647)(zK:Q1X l ks<=2147483647) :
  BCall prog 52 [.box 0 0,.val (.int .i64 kind),.slc 1 (Q9 ks)] [.box [.row 1 0],.row 123 6 false 0 (Q1 l)] (.tup [.val (.int .i64 l.length),.val (.int .i64 0)]) [.box [.row 1 1],.row 123 6 false 1 (Q1 (l++[Q15 l kind ks]))]:=by
 refine fnN (Qh1 std) func52 rfl fun _ _=>?_
 with_reducible refine cv2 (Q9 ks) (Q1 l) ?_
 refine⟨Qfd _ (by simpa[Q9]using vM),?_⟩
 obtain⟨n,hn⟩:=QG ks;refine Q1h (Qh1 std) (Int) (fun i=>⟨[(0,.box 0 0),(8,.box 2 0),(9,.val (.bool false)),(18,.slc 1 (Q9 ks)),(19,.val (.int .i64 n)),(20,.val (.int .i64 i))],[.box [.row 1 0],.row 123 6 false 0 (Q1 l),.box [.val (.int .i64 kind),.val (.int .i64 (Q1X l (ks.take i.toNat))),.val (.int .i64 (cnt l (ks.take i.toNat))),.val (.bool false),.val (.slice none 0 0),.slc 1 (Q9 ks)]]⟩) (fun i=>0<=i/\i<=n) (fun i=>(n-i).toNat) 0 ?_ ?_ ?_
 ·have:=hn.eq
  omega
 ·exact⟨[some 0,some 1,some 2],_,rfl,by simp[Qm,lk,Q1X,cnt,std,Q9,hn.eq]⟩
 ·rintro i ⟨qn,pS⟩
  have en:=hn.eq;have xK:=Q31 ks;have yA:=Q1g l;rcases Int.lt_or_eq_of_le pS with jB|j4
  ·have jX:=Q3L (l:=ks) qn (en ▸ jB)
   have hmem:ks[i.toNat]?.getD 0∈ks:=by
    have:i.toNat<ks.length:=by omega
    simp[this]
   have ht:ks.take (i+1).toNat=ks.take i.toNat++[ks[i.toNat]?.getD 0]:=by
    have:i.toNat<ks.length:=by omega
    rw[show(i+1).toNat=i.toNat+1 by omega,List.take_add_one]
    simp[this]
   have zu:Q1X l (ks.take (i+1).toNat)=Q1X l (ks.take i.toNat)+Q17 l (ks[i.toNat]?.getD 0):=by rw[ht];simp[Q1X]
   have nR:cnt l (ks.take (i+1).toNat)=min (cnt l (ks.take i.toNat)+Q2r l (ks[i.toNat]?.getD 0)) 2147483647:=by rw[ht];simp[cnt,List.foldl_append]
   obtain⟨qI,jT⟩:=jS _ hmem;obtain⟨k,hk⟩:=exq (ks[i.toNat]?.getD 0);rw[<-hk]at jX zu nR qI jT;have hnd:=Q82 qI jT
   have hWl:Q1X l (ks.take i.toNat)+Q17 l k<=2147483647:=by
    rw[<-zu];exact Int.le_trans (Q9B hw _ _) zK
   have hW0:0<=Q1X l (ks.take i.toNat):=Q5t hw _;have hC0:=Q8C hc (ks.take i.toNat);have p8:=hw k;have zZ:=hc k;simp only[Q17,Q2r]at zu nR hWl p8 zZ;obtain⟨W,hW⟩:=exq (Q1X l (ks.take i.toNat));obtain⟨C,hC⟩:=exq (cnt l (ks.take i.toNat));rw[<-hW]at zu hWl hW0 ⊢;rw[<-hC]at nR hC0 ⊢;clear en;with_reducible refine cv2 (Q9 ks) (Q1 l) ?_
   have en:=hn.eq;replace jT:k<(l.length:Int):=jT
   repeat' first
    |(with_reducible refine And.intro (fun hx=>absurd hx (by first|(try simp[std,S1,jX,xK,yA,hnd,qI,jT,Node.av,jB])<;>omega|omega)) (fun _=>?_))
    |(with_reducible refine And.intro (fun _=>?_) (fun hx=>absurd hx (by first|(try simp[std,S1,jX,xK,yA,hnd,qI,jT,Node.av,jB])<;>omega|omega)))
    |(with_reducible refine And.intro (by first|(try simp[std,S1,jX,xK,yA,hnd,qI,jT,Node.av,jB])<;>omega|omega) ?_)
    |(with_reducible refine And.intro ?_ ?_)
    |(with_reducible intro hb)
   all_goals exact⟨i+1,⟨by omega,by omega⟩,by omega,[some 0,some 1,some 2],_,rfl,by simp[Qm,lk,std,jX,hnd,Node.av,AV.cells,RowKit.intOf,zu,nR];omega⟩
  ·have ht:ks.take i.toNat=ks:=List.take_of_length_le (by omega)
   rw[ht];have hW0:=Q5t hw ks;have hC0:=Q8C hc ks;have hB:Q15 l kind ks=⟨kind,Q1X l ks,cnt l ks,false,[],ks⟩:=rfl;obtain⟨W,hW⟩:=exq (Q1X l ks);obtain⟨C,hC⟩:=exq (cnt l ks);rw[<-hW]at hW0 hB ⊢;rw[<-hC]at hC0 hB ⊢;clear en;with_reducible refine cv2 (Q9 ks) (Q1 l) ?_
   with_reducible repeat' first|refine aU j4 ?_|refine And.intro ?_ ?_|intro hb
   rw[if_pos trivial];generalize hBv:Q15 l kind ks=B at hB ⊢;with_reducible refine cv2 (Q9 ks) (Q1 l) ?_
   refine⟨?_,[some 0,some 1],.tup [.val (.int .i64 l.length),.val (.int .i64 0)],_,rfl,rfl,le_refl _,rfl,?_,?_⟩
   ·exact(QoO (Q1 l) (by simpa[Q1]using hl) kind W C false [] (Q9 ks)).le ⟨.inl rfl,⟨.inl rfl,.inl rfl,.inl rfl,.inl rfl,.inr (.inl ⟨rfl,_,rfl⟩),.inl rfl,trivial⟩,trivial⟩
   ·simp[Qm,std,yA,Q1,hB,Node.av,Q4,Q9]
   ·exact⟨.inl rfl,.inl rfl,trivial⟩
def Wf(l:List Node):Prop:=∀n:Int,0<=n->n<l.length->∀k∈(Qh l n).kids,0<=k/\k<n
def prF(l:List Node):Nat->Int->List UInt8
 |0,_=>[]
 |f+1,n=>(Qh l n).b++(Qh l n).kids.flatMap (prF l f)
def pr(l:List Node)(n:Int):List UInt8:=prF l (n.toNat+1) n
def coF(l:List Node):Nat->Int->Nat
 |0,_=>1
 |f+1,n=>1+((Qh l n).kids.map (coF l f)).sum
def co(l:List Node)(n:Int):Nat:=coF l (n.toNat+1) n
theorem QdW{l:List Node}(hw:Wf l):∀(f f':Nat)(n:Int),0<=n->n<l.length->n.toNat<f->n.toNat<f'->prF l f n=prF l f' n
 |0,_,_,_,_,h,_=>by omega
 |_+1,0,_,_,_,_,h=>by omega
 |f+1,f'+1,n,h0,h1,h2,h3=>by
  simp only[prF];congr 1
  refine congrArg List.flatten (map_congr_left fun k hk=>?_)
  have:=hw n h0 h1 k hk
  exact QdW hw f f' k this.1 (by omega) (by omega) (by omega)
theorem Qe2{l:List Node}(hw:Wf l){n:Int}(h0:0<=n)(h1:n<l.length):pr l n=(Qh l n).b++(Qh l n).kids.flatMap (pr l):=by
 show prF l (n.toNat+1) n=_;simp only[prF];congr 1
 refine congrArg List.flatten (map_congr_left fun k hk=>?_)
 have:=hw n h0 h1 k hk
 exact QdW hw _ _ k this.1 (by omega) (by omega) (by omega)
theorem Qfq{l:List Node}(hw:Wf l):∀(f f':Nat)(n:Int),0<=n->n<l.length->n.toNat<f->n.toNat<f'->coF l f n=coF l f' n
 |0,_,_,_,_,h,_=>by omega
 |_+1,0,_,_,_,_,h=>by omega
 |f+1,f'+1,n,h0,h1,h2,h3=>by
  simp only[coF];congr 2
  refine map_congr_left fun k hk=>?_
  have:=hw n h0 h1 k hk
  exact Qfq hw f f' k this.1 (by omega) (by omega) (by omega)
theorem Qch{l:List Node}(hw:Wf l){n:Int}(h0:0<=n)(h1:n<l.length):co l n=1+((Qh l n).kids.map (co l)).sum:=by
 show coF l (n.toNat+1) n=_;simp only[coF];congr 2
 refine map_congr_left fun k hk=>?_
 have:=hw n h0 h1 k hk
 exact Qfq hw _ _ k this.1 (by omega) (by omega) (by omega)
def QiM(l:List Node):Prop:=∀n:Int,0<=n->n<l.length->(Qh l n).width=(pr l n).length
def Qp6(len:List AV->Int):Nat->List AV->List Ob->Option (AV×List Ob):=QqS len
def prS(l:List Node)(st:List Int):List UInt8:=st.reverse.flatMap (pr l)
def coS(l:List Node)(st:List Int):Nat:=(st.map (co l)).sum
def kS(l:List Node)(ks:List Int):List Int:=(ks.filter fun k=>decide (0<Q17 l k)).reverse
theorem Qg0(l:List Node)(n:Int):1<=co l n:=by
 show 1<=coF l (n.toNat+1) n;simp only[coF];omega
theorem Qhw{l:List Node}(st:List Int):st.length<=coS l st:=by
 induction st with
 |nil=>simp[coS]
 |cons k r ih=>have:=Qg0 l k;simp only[coS,map_cons,sum_cons,List.length_cons]at ih ⊢;omega
theorem Qnn(l:List Node)(hl:l.length<=1000000000)(hw:Wf l)(hwd:QiM l)(n:Int)(h0:0<=n)(h1:n<l.length)(hp:(pr l n).length<=1000000)(hc:co l n<=1000000) :
  BCall prog 59 [.ref [.slc 6 (Q1 l)],.val (.int .i64 n)] [] (.slc 1 (Q4 (pr l n))) []:=by
 obtain⟨m,hm⟩:=QG l;have gp:n<m:=by rw[hm.eq];exact h1
 refine fnN (Qp6 Q5k) func59 rfl fun _ _=>?_
 clear h1;with_reducible refine cv2 Q5k (Q1 l) ?_
 have em:=hm.eq
 repeat' first
  |(with_reducible refine And.intro (fun hx=>absurd hx (by first|(try simp[std,S1,Q5k,Q1g l,h0,QbT l])<;>omega|omega)) (fun _=>?_))
  |(with_reducible refine And.intro (fun _=>?_) (fun hx=>absurd hx (by first|(try simp[std,S1,Q5k,Q1g l,h0,QbT l])<;>omega|omega)))
  |(with_reducible refine And.intro (by first|(try simp[std,S1,Q5k,Q1g l,h0,QbT l])<;>omega|omega) ?_)
  |(with_reducible refine And.intro ?_ ?_)
  |(with_reducible intro hb)
 ·exact QbT l
 refine Q1h (Qp6 Q5k) (List UInt8×List Int) (fun x=>⟨[(0,.ref [.slc 6 (Q1 l)]),(5,.row 0 0),(6,.row 1 0)],[.row 5 1 false 0 (Q4 x.1),.row 3 1 false 0 (Q9 x.2)]⟩) (fun x=>x.1++prS l x.2=pr l n/\(∀k∈x.2,0<=k/\k<m)/\coS l x.2<=1000000) (fun x=>coS l x.2) ([],[n]) ?_ ?_ ?_
 ·exact⟨by simp[prS],by simp[h0,gp],by simpa[coS]using hc⟩
 ·exact⟨[none,some 0],_,rfl,by simp[Qm,lk,Q4,Q9,QfI]⟩
 ·rintro⟨out,st⟩ ⟨jj,j6,j2⟩
  simp only at jj j6 j2
  rcases List.eq_nil_or_concat st with rfl|⟨st',k,rfl⟩
  ·with_reducible refine cv3 Q5k (Q1 l) (Q4 out) ?_
   repeat' first
    |(with_reducible refine And.intro (fun hx=>absurd hx (by first|(try simp[std,S1,Q9])<;>omega|omega)) (fun _=>?_))
    |(with_reducible refine And.intro (fun _=>?_) (fun hx=>absurd hx (by first|(try simp[std,S1,Q9])<;>omega|omega)))
    |(with_reducible refine And.intro (by first|(try simp[std,S1,Q9])<;>omega|omega) ?_)
    |(with_reducible refine And.intro ?_ ?_)
    |(with_reducible intro hb)
   rw[if_pos trivial];with_reducible refine cv2 (Q1 l) (Q4 out) ?_
   refine .pure rfl (.inl ?_);rw[<-jj];simp[prS]
  ·rw[List.concat_eq_append]at jj j6 j2 ⊢
   obtain⟨qI,hkm⟩:=j6 k (by simp)
   have jT:k<(l.length:Int):=by omega
   have hnd:=Q82 qI jT;have nT:(Q9 (st'++[k])).length=st'.length+1:=by simp[Q9]
   have jX:(Q9 (st'++[k]))[st'.length]?.getD .dead=.val (.int .i64 k):=by simp[Q9,QfI]
   have cg:∀h:st'.length<(Q9 (st'++[k])).length,(Q9 (st'++[k]))[st'.length]'h=.val (.int .i64 k):=fun h=>by simp[Q9,QfI]
   have jU:(Q9 (st'++[k])).take st'.length=Q9 st':=by
    rw[show Q9 (st'++[k])=Q9 st'++[QfI k] by simp[Q9]]
    exact List.take_left' (by simp[Q9])
   have yA:=Q1g l;have ch:=Qe2 hw qI jT;have zZ:=Qch hw qI jT
   have hpr:pr l n=out++((Qh l k).b++((Qh l k).kids.flatMap (pr l)++prS l st')):=by
    rw[<-jj,prS,List.reverse_append,List.flatMap_append];simp[ch,prS,append_assoc]
   have ci:∀j∈(Qh l k).kids,0<=j/\j<m:=fun j hj=>by
    have:=hw k qI jT j hj
    exact⟨this.1,by omega⟩
   have kF:coS l st'+(1+((Qh l k).kids.map (co l)).sum)<=1000000:=by
    rw[coS,map_append,sum_append]at j2;simpa[coS,zZ]using j2
   have kf:coS l (st'++[k])=coS l st'+(1+((Qh l k).kids.map (co l)).sum):=by
    rw[coS,map_append,sum_append];simp[coS,zZ]
   have jQ:out.length+(Qh l k).b.length<=1000000:=by
    have:=congrArg List.length hpr
    simp only[List.length_append]at this;omega
   have zD:=Qhw (l:=l) st';have qN:(Qh l k).kids.length<=((Qh l k).kids.map (co l)).sum:=Qhw (Qh l k).kids;obtain⟨nd,hndE⟩:=exq (Qh l k);rw[<-hndE]at hnd hpr ci kF kf jQ qN;have jW:=Q1c nd.b;have jR:=Q1c out;have zL:=Q31 nd.kids;clear em;with_reducible refine cv4 Q5k (Q1 l) (Q4 out) (Q9 (st'++[k])) ?_
   have em:=hm.eq
   repeat' first
    |(with_reducible refine And.intro (fun hx=>absurd hx (by first|(try simp[std,S1,nT,jX,cg,jU,yA,hnd,Node.av,qI,jT,jW,jR,zL])<;>omega|omega)) (fun _=>?_))
    |(with_reducible refine And.intro (fun _=>?_) (fun hx=>absurd hx (by first|(try simp[std,S1,nT,jX,cg,jU,yA,hnd,Node.av,qI,jT,jW,jR,zL])<;>omega|omega)))
    |(with_reducible refine And.intro (by first|(try simp[std,S1,nT,jX,cg,jU,yA,hnd,Node.av,qI,jT,jW,jR,zL])<;>omega|omega) ?_)
    |(with_reducible refine And.intro ?_ ?_)
    |(with_reducible intro hb)
   obtain⟨nk,gq⟩:=QG nd.kids;refine Q1h (Qp6 Q5k) (Int) (fun j=>⟨[(0,.ref [.slc 6 (Q1 l)]),(5,.row 0 0),(6,.row 1 0),(7,.box 2 0),(8,.val (.int .i64 j))],[.row 5 1 false 0 (Q4 (out++nd.b)),.row 3 1 false 0 (Q9 (st'++kS l (nd.kids.drop (j+1).toNat))),.box [.val (.int .i64 nd.kind),.val (.int .i64 nd.width),.val (.int .i64 nd.count),.val (.bool nd.leaf),.slc 1 (Q4 nd.b),.slc 1 (Q9 nd.kids)]]⟩) (fun j=>-1<=j/\j<nk) (fun j=>(j+1).toNat) (nk-1) ?_ ?_ ?_
   ·have:=gq.eq
    omega
   ·have en:=gq.eq
    refine⟨[some 0,some 1,some 2],_,rfl,?_⟩;have e1:nd.kids.drop (nk-1+1).toNat=[]:=List.drop_eq_nil_of_le (by omega)
    simp[Qm,lk,std,nT,jX,cg,jU,yA,hnd,Node.av,AV.cells,RowKit.intOf,Q6a,Q2o,qI,jT,zL,en,e1];exact⟨by simp[Q4],by simp[kS]⟩
   ·rintro j ⟨zw,zE⟩
    have en:=gq.eq;rcases Int.lt_or_eq_of_le zw with jB|j4
    ·have nU:0<=j:=by omega
     have yt:j.toNat<nd.kids.length:=by omega
     have jX:=Q3L (l:=nd.kids) nU (by omega)
     have kP:nd.kids.drop j.toNat=nd.kids[j.toNat]?.getD 0::nd.kids.drop (j+1).toNat:=by
      rw[List.drop_eq_getElem_cons yt,show(j+1).toNat=j.toNat+1 by omega]
      simp[yt]
     have hq:=ci (nd.kids[j.toNat]?.getD 0) (by simp[yt])
     obtain⟨q,hqE⟩:=exq (nd.kids[j.toNat]?.getD 0);rw[<-hqE]at jX kP hq;have z6:q<(l.length:Int):=by omega
     have qK:=Q82 hq.1 z6
     have nV:kS l (nd.kids.drop j.toNat)=kS l (nd.kids.drop (j+1).toNat)++(if 0<(Qh l q).width then [q]else []):=by
      rw[kP,kS,filter_cons];by_cases h:0<Q17 l q
      ·have h':0<(Qh l q).width:=h
       simp[h,h',kS]
      ·have h':¬0<(Qh l q).width:=h
       simp[h,h',kS]
     have xL:(st'++kS l (nd.kids.drop (j+1).toNat)).length<=1000000:=by
      have h1:(kS l (nd.kids.drop (j+1).toNat)).length<=nd.kids.length:=by
       rw[kS,List.length_reverse];refine Nat.le_trans (List.length_filter_le _ _) ?_;rw[List.length_drop];omega
      rw[List.length_append];omega
     have hol2:=Q1c (out++nd.b);have vV:=Q31 (st'++kS l (nd.kids.drop (j+1).toNat));obtain⟨st2,gO⟩:=exq (st'++kS l (nd.kids.drop (j+1).toNat));rw[<-gO]at xL vV ⊢;obtain⟨out2,yk⟩:=exq (out++nd.b);rw[<-yk]at hol2 ⊢;clear en em;with_reducible refine cv6 Q5k (Q1 l) (Q4 out2) (Q9 st2) (Q4 nd.b) (Q9 nd.kids) ?_
     have em:=hm.eq;have en:=gq.eq;replace z6:q<(l.length:Int):=z6
     repeat' first
      |(with_reducible refine And.intro (fun hx=>absurd hx (by first|(try simp[std,S1,jX,yA,qK,Node.av,hq.1,z6,nU,zL,vV])<;>omega|omega)) (fun _=>?_))
      |(with_reducible refine And.intro (fun _=>?_) (fun hx=>absurd hx (by first|(try simp[std,S1,jX,yA,qK,Node.av,hq.1,z6,nU,zL,vV])<;>omega|omega)))
      |(with_reducible refine And.intro (by first|(try simp[std,S1,jX,yA,qK,Node.av,hq.1,z6,nU,zL,vV])<;>omega|omega) ?_)
      |(with_reducible refine And.intro ?_ ?_)
      |(with_reducible intro hb)
     ·have cJ:0<(Qh l q).width:=by simpa[std,AV.cells,RowKit.intOf,Q2o,jX,yA,qK,Node.av,hq.1,z6]using hb
      rw[if_pos cJ]at nV;refine⟨j-1,⟨by omega,by omega⟩,by omega,[some 0,some 1,some 2],_,rfl,?_⟩
      have e2:st'++kS l (nd.kids.drop (j-1+1).toNat)=st2++[q]:=by
       rw[show j-1+1=j by omega,nV,<-append_assoc,<-gO]
      rw[e2];simp[Qm,lk,std,AV.cells,RowKit.intOf,Q2o,jX,yA,qK,Node.av,hq.1,z6,yk,Q55,QeW]
     ·have cJ:¬0<(Qh l q).width:=by simpa[std,AV.cells,RowKit.intOf,Q2o,jX,yA,qK,Node.av,hq.1,z6]using hb
      rw[if_neg cJ,List.append_nil]at nV;refine⟨j-1,⟨by omega,by omega⟩,by omega,[some 0,some 1,some 2],_,rfl,?_⟩
      have e2:st'++kS l (nd.kids.drop (j-1+1).toNat)=st2:=by
       rw[show j-1+1=j by omega,nV,<-gO]
      rw[e2];simp[Qm,lk,std,AV.cells,RowKit.intOf,Q2o,jX,yA,qK,Node.av,hq.1,z6,yk]
    ·subst j4
     rw[show(-1+1:Int).toNat=0 from rfl,drop_zero]
     have xv:(out++nd.b)++prS l (st'++kS l nd.kids)=pr l n:=by
      rw[hpr,prS,List.reverse_append,List.flatMap_append,prS];simp only[append_assoc];congr 2
      rw[kS,List.reverse_reverse];congr 1
      have key:∀ks:List Int,(∀q∈ks,0<=q/\q<m)->(ks.filter fun k=>decide (0<Q17 l k)).flatMap (pr l)=ks.flatMap (pr l):=by
       intro ks;induction ks with
       |nil=>intro _;rfl
       |cons q r ih =>
        intro h;have hr:=ih (fun q hq=>h q (List.mem_cons_of_mem _ hq))
        rw[filter_cons,List.flatMap_cons,<-hr];by_cases hq:0<Q17 l q
        ·simp[hq]
        ·have h1:=h q (List.mem_cons_self ..)
         have h2:=hwd q h1.1 (by have:=hm.eq;omega)
         have h3:pr l q=[]:=by
          have:(pr l q).length=0:=by
           have h4:¬0<(Qh l q).width:=hq;omega
          exact List.eq_nil_of_length_eq_zero this
         simp[hq,h3]
      exact key nd.kids ci
     have hT2:∀q∈st'++kS l nd.kids,0<=q/\q<m:=by
      intro q hq;rcases List.mem_append.1 hq with h|h
      ·exact j6 q (List.mem_append_left _ h)
      ·rw[kS,List.mem_reverse]at h
       exact ci q (List.mem_filter.1 h).1
     have hT3:coS l (st'++kS l nd.kids)<coS l (st'++[k]):=by
      rw[kf,coS,map_append,sum_append]
      have h1:((kS l nd.kids).map (co l)).sum<=(nd.kids.map (co l)).sum:=by
       rw[kS,List.map_reverse,List.sum_reverse];generalize nd.kids=ks;induction ks with
       |nil=>simp
       |cons q r ih =>
        rw[filter_cons];split<;>simp only[map_cons,sum_cons]<;>omega
      have h2:(st'.map (co l)).sum=coS l st':=rfl;omega
     obtain⟨st2,gO⟩:=exq (st'++kS l nd.kids);obtain⟨out2,yk⟩:=exq (out++nd.b);rw[<-gO]at xv hT2 hT3 ⊢;rw[<-yk]at xv ⊢;clear en em;with_reducible refine cv6 Q5k (Q1 l) (Q4 out2) (Q9 st2) (Q4 nd.b) (Q9 nd.kids) ?_
     with_reducible repeat' first|refine aU yA ?_|refine And.intro ?_ ?_|intro hb
     rw[if_pos trivial];refine⟨(out2,st2),⟨xv,hT2,by simp only;omega⟩,hT3,[some 0,some 1],_,rfl,?_⟩
     simp[Qm,lk]
def Q3V(s t:ByteArray):Bool:=decide (t.size<=s.size)&&(s.data.toList.take t.size == t.data.toList)
theorem Qnp{s t:ByteArray}(h:t.size<=s.size):std.eqS (std.cutS s 0 (std.szS t)) t=Q3V s t:=by
 simp only[std,Q3V,h,decide_true,Bool.true_and,ByteArray.toList_eq];rw[show(0:Int).toNat=0 from rfl,Int.toNat_natCast,extract_from_zero]
theorem Qqj(s t:ByteArray):BCall prog 126 [.val (.string s),.val (.string t)] [] (.val (.bool (Q3V s t))) []:=by
 refine fnN (cs0) func126 rfl fun _ _=>?_
 with_reducible refine cv0 ?_
 refine⟨fun h=>⟨?_,.pure rfl (.inl ?_)⟩,fun h=>.pure rfl (.inl ?_)⟩
 ·have h:t.size<=s.size:=by simpa[std]using h
  simp[std];omega
 ·have h:t.size<=s.size:=by simpa[std]using h
  show AV.val (.bool (std.eqS (std.cutS s 0 (std.szS t)) t))=_;rw[Qnp h]
 ·have h:¬t.size<=s.size:=by simpa[std]using h
  simp[Q3V,h]
def Qk6(pre:ByteArray->ByteArray->Bool):Nat->List AV->List Ob->Option (AV×List Ob):=fun f args _=>match f,args with
 |126,[.val (.string s),.val (.string t)]=>some (.val (.bool (pre s t)),[])
 |92,[.val (.string s),.val (.string t)]=>some (.val (.bool (pre s t)),[])
 |_,_=>none
theorem Qk4(s t:ByteArray):BCall prog 92 [.val (.string s),.val (.string t)] [] (.val (.bool (Q3V s t))) []:=by
 refine fnN (Qk6 Q3V) func92 rfl fun _ _=>?_
 with_reducible refine cv1 Q3V ?_
 exact⟨Qqj s t,.pure rfl (.inl rfl)⟩
def signsL:List (List UInt8×Int×Int):=[([254,255],1,2),([255,254],2,2),([239,187,191],0,3),([0,60,0,63],1,0),([60,0,63,0],2,0)]
def kR(pre:List UInt8->Bool)(k:Nat):Int×Int:=match(signsL.drop k).find? (fun x=>pre x.1)with
 |some x=>x.2
 |none=>(0,0)
def QV(b:List UInt8):Int×Int:=kR (fun t=>t.isPrefixOf b) 0
theorem Q3u(l:List UInt8):(Q4 l).map Q2V=l:=by
 induction l with
 |nil=>rfl
 |cons x r ih=>rw[Q4,map_cons,map_cons];rw[Q4]at ih;rw[ih];simp[Q64,Q2V]
theorem Qaq(l:List UInt8):std.isB (Q4 l):=fun x hx=>by
 obtain⟨n,_,rfl⟩:=List.mem_map.1 hx;exact⟨n,rfl⟩
theorem Qkj(b t:List UInt8)(h:t.length<=4):Q3V ⟨(b.take 4).toArray⟩ ⟨t.toArray⟩=t.isPrefixOf b:=by
 have e:Q3V ⟨(b.take 4).toArray⟩ ⟨t.toArray⟩=(decide (t.length<=(b.take 4).length)&&((b.take 4).take t.length == t)):=rfl;rw[e,Bool.eq_iff_iff,List.isPrefixOf_iff_prefix,List.prefix_iff_eq_take];simp only[List.take_take,length_take,Bool.and_eq_true,decide_eq_true_eq,beq_iff_eq,Nat.min_eq_left h];constructor
 ·exact fun h=>h.2.symm
 ·intro h1
  have:t.length<=b.length:=by
   have:=congrArg List.length h1
   rw[length_take]at this;omega
  exact⟨by omega,h1.symm⟩
theorem QnD(b:List UInt8):BCall prog 45 [.slc 1 (Q4 b)] [] (.tup [.val (.int .i64 (QV b).1),.val (.int .i64 (QV b).2)]) []:=by
 refine fnN (Qk6 Q3V) func45 rfl fun _ _=>?_
 with_reducible refine cv2 Q3V (Q4 b) ?_
 have jW:=Q1c b;have yj:std.minI (std.len (Q4 b)) 4=if 4<(b.length:Int)then 4 else(b.length:Int):=by simp only[std,jW]
 have jU:std.cut (Q4 b) 0 (std.minI (std.len (Q4 b)) 4)=Q4 (b.take 4):=by
  rw[yj];show((Q4 b).drop (0:Int).toNat).take _=_
  rw[show(0:Int).toNat=0 from rfl,drop_zero,Q4,Q4,List.map_take];split
  ·rfl
  ·have:b.length<=4:=by omega
   rw[List.take_of_length_le (by simp),List.take_of_length_le (by simpa using this)]
 refine⟨?_,?_,?_⟩
 ·simp only[std,jW]
  split<;>omega
 ·show std.isB (std.cut (Q4 b) 0 (std.minI (std.len (Q4 b)) 4))
  rw[jU];exact Qaq _
 have p9:std.strB (std.cut (Q4 b) 0 (std.minI (std.len (Q4 b)) 4))=⟨(b.take 4).toArray⟩:=by
  rw[jU];show(⟨((Q4 (b.take 4)).map Q2V).toArray⟩:ByteArray)=_
  rw[Q3u]
 obtain⟨s,hs⟩:=exq (⟨(b.take 4).toArray⟩:ByteArray);have zn:∀t:List UInt8,t.length<=4->t.isPrefixOf b=Q3V s ⟨t.toArray⟩:=fun t h=>by rw[hs,Qkj b t h]
 have hR:QV b=kR (fun t=>Q3V s ⟨t.toArray⟩) 0:=by
  simp[QV,kR,signsL,List.find?,zn [254,255] (by decide),zn [255,254] (by decide),zn [239,187,191] (by decide),zn [0,60,0,63] (by decide),zn [60,0,63,0] (by decide)]
 rw[hR];obtain⟨R,hRE⟩:=exq (kR (fun t=>Q3V s ⟨t.toArray⟩) 0)
 rw[<-hRE];obtain⟨R1,R2⟩:=R;refine Q1h (Qk6 Q3V) (Int) (fun k=>⟨[(5,.val (.string s)),(20,.agg [.val (.string ⟨#[254,255]⟩),.val (.int .i64 1),.val (.int .i64 2),.val (.string ⟨#[255,254]⟩),.val (.int .i64 2),.val (.int .i64 2),.val (.string ⟨#[239,187,191]⟩),.val (.int .i64 0),.val (.int .i64 3),.val (.string ⟨#[0,60,0,63]⟩),.val (.int .i64 1),.val (.int .i64 0),.val (.string ⟨#[60,0,63,0]⟩),.val (.int .i64 2),.val (.int .i64 0)]),(21,.val (.int .i64 k))],[]⟩) (fun k=>0<=k/\k<=5/\(R1,R2)=kR (fun t=>Q3V s ⟨t.toArray⟩) k.toNat) (fun k=>(5-k).toNat) 0 ?_ ?_ ?_
 ·exact⟨by omega,by omega,hRE⟩
 ·refine⟨[],_,rfl,?_,?_⟩
  ·show AV.val (.string (std.strB (std.cut (Q4 b) 0 (std.minI (std.len (Q4 b)) 4))))=.val (.string s)
   rw[p9,<-hs]
  ·repeat first|exact trivial|refine⟨rfl,?_⟩
 ·rintro k ⟨qI,hk5,hk⟩
  have hcs:k=0\/k=1\/k=2\/k=3\/k=4\/k=5:=by omega
  clear hR zn hRE p9 jU jW hs yj;rcases hcs with rfl|rfl|rfl|rfl|rfl|rfl
  ·with_reducible refine cv1 Q3V ?_
   with_reducible repeat' first|refine aU hk ?_|refine And.intro ?_ ?_|intro hb
   ·exact Qk4 _ _
   ·with_reducible refine cv1 Q3V ?_
    simp[kR,signsL,List.find?,hb]at hk;exact .pure rfl ⟨.inl (by rw[hk.1]),.inl (by rw[hk.2]),trivial⟩
   ·refine⟨1,⟨by omega,by omega,?_⟩,by omega,[],_,rfl,?_⟩
    ·rw[hk]
     simp only[kR,signsL,Int.reduceToNat,drop_succ_cons,drop_zero,find?_cons,hb]
    ·simp[Qm,lk,std]
  ·with_reducible refine cv1 Q3V ?_
   with_reducible repeat' first|refine aU hk ?_|refine And.intro ?_ ?_|intro hb
   ·exact Qk4 _ _
   ·with_reducible refine cv1 Q3V ?_
    simp[kR,signsL,List.find?,hb]at hk;exact .pure rfl ⟨.inl (by rw[hk.1]),.inl (by rw[hk.2]),trivial⟩
   ·refine⟨2,⟨by omega,by omega,?_⟩,by omega,[],_,rfl,?_⟩
    ·rw[hk]
     simp only[kR,signsL,Int.reduceToNat,drop_succ_cons,drop_zero,find?_cons,hb]
    ·simp[Qm,lk,std]
  ·with_reducible refine cv1 Q3V ?_
   with_reducible repeat' first|refine aU hk ?_|refine And.intro ?_ ?_|intro hb
   ·exact Qk4 _ _
   ·with_reducible refine cv1 Q3V ?_
    simp[kR,signsL,List.find?,hb]at hk;exact .pure rfl ⟨.inl (by rw[hk.1]),.inl (by rw[hk.2]),trivial⟩
   ·refine⟨3,⟨by omega,by omega,?_⟩,by omega,[],_,rfl,?_⟩
    ·rw[hk]
     simp only[kR,signsL,Int.reduceToNat,drop_succ_cons,drop_zero,find?_cons,hb]
    ·simp[Qm,lk,std]
  ·with_reducible refine cv1 Q3V ?_
   with_reducible repeat' first|refine aU hk ?_|refine And.intro ?_ ?_|intro hb
   ·exact Qk4 _ _
   ·with_reducible refine cv1 Q3V ?_
    simp[kR,signsL,List.find?,hb]at hk;exact .pure rfl ⟨.inl (by rw[hk.1]),.inl (by rw[hk.2]),trivial⟩
   ·refine⟨4,⟨by omega,by omega,?_⟩,by omega,[],_,rfl,?_⟩
    ·rw[hk]
     simp only[kR,signsL,Int.reduceToNat,drop_succ_cons,drop_zero,find?_cons,hb]
    ·simp[Qm,lk,std]
  ·with_reducible refine cv1 Q3V ?_
   with_reducible repeat' first|refine aU hk ?_|refine And.intro ?_ ?_|intro hb
   ·exact Qk4 _ _
   ·with_reducible refine cv1 Q3V ?_
    simp[kR,signsL,List.find?,hb]at hk;exact .pure rfl ⟨.inl (by rw[hk.1]),.inl (by rw[hk.2]),trivial⟩
   ·refine⟨5,⟨by omega,by omega,?_⟩,by omega,[],_,rfl,?_⟩
    ·rw[hk]
     simp only[kR,signsL,Int.reduceToNat,drop_succ_cons,drop_zero,find?_cons,hb]
    ·simp[Qm,lk,std]
  ·with_reducible refine cv1 Q3V ?_
   with_reducible repeat' first|refine aU hk ?_|refine And.intro ?_ ?_|intro hb
   rw[if_pos trivial];with_reducible refine cv1 Q3V ?_
   simp[kR,signsL]at hk;exact .pure rfl ⟨.inl (by rw[hk.1]),.inl (by rw[hk.2]),trivial⟩
section
variable {w:World}{g:Gh}{v:Value}
theorem Q4g{l:List Int}(h:ARel1 w g [] v (.slc 1 (Q0 l)))(M:Mem w g []):∃A c,v=.slice A l.length c/\Rd w (fun _=>True) 1 A l.length c (rc l):=by
 obtain⟨A,c,ys,h1,h2,h3⟩:=QoT h M;have e:Q0 l=(rc l).map .val:=by simp[Q0,rc,QhB]
 rw[e,Q6w]at h3;obtain rfl:=Q8U h3;rw[Qx]at h1 h2;exact⟨A,c,h1,h2⟩
theorem QeP{l:List UInt8}(h:ARel1 w g [] v (.slc 1 (Q4 l)))(M:Mem w g []):∃A c,v=.slice A l.length c/\Rd w (fun _=>True) 1 A l.length c (bc l):=by
 obtain⟨A,c,ys,h1,h2,h3⟩:=QoT h M;have e:Q4 l=(bc l).map .val:=by simp[Q4,bc,Q64]
 rw[e,Q6w]at h3;obtain rfl:=Q8U h3;rw[Q1c]at h1 h2;exact⟨A,c,h1,h2⟩
end
theorem Qqx(l:List Int)(from_:Int)(p:Int->Bool)(f:Nat)(ef:∀args w,(callFunc f args).run prog w=.ok (.enter f args) w)(hp:∀w,Q7p prog f #[] p w) :
  BCall prog 131 [.slc 1 (Q0 l),.val (.int .i64 from_),.val (.func (.func f) #[] #[])] [] (.val (.int .i64 (Q2L p l from_))) []:=by
 refine BCall.hand (enters_of func131 (by kernel_rfl) rfl) fun w g vs M hL=>?_
 obtain⟨v1,vs1,rfl,h1,hL⟩:=QX hL;obtain⟨v2,vs2,rfl,h2,hL⟩:=QX hL;obtain⟨v3,vs3,rfl,h3,hL⟩:=QX hL;obtain rfl:=Q2T hL;obtain⟨A,c,rfl,hr⟩:=Q4g h1 M;obtain rfl:=Q3v h2;obtain rfl:=Q3v h3;exact(Q85 _ A _ c l from_ f #[] p w ef hr (hp w)).mono fun e w' ⟨h,hb⟩=>⟨_,h,hb,PRel.val _ rfl⟩
theorem QpL(l:List Int)(k:Int)(h0:0<=k)(hk:k<=1000000000):BCall prog 136 [.slc 1 (Q0 l),.val (.int .i64 k)] [] (.val (.int .i64 (Qk l k.toNat))) []:=by
 refine BCall.hand (enters_of func136 (by kernel_rfl) rfl) fun w g vs M hL=>?_
 obtain⟨v1,vs1,rfl,h1,hL⟩:=QX hL;obtain⟨v2,vs2,rfl,h2,hL⟩:=QX hL;obtain rfl:=Q2T hL;obtain⟨A,c,rfl,hr⟩:=Q4g h1 M;obtain rfl:=Q3v h2;have:=Q8A _ A _ c l k.toNat w hr (by omega)
 rw[Int.toNat_of_nonneg h0]at this;exact this.mono fun e w' ⟨h,hb⟩=>⟨_,h,hb,PRel.val _ rfl⟩
theorem Qmv(l:List Int)(hl:l.length<=1000000000)(k:Int)(h0:0<=k)(hk:k<=l.length)(s:ByteArray)(hs:s.size<=1000000000):BCall prog 138 [.slc 1 (Q0 l),.val (.int .i64 k),.val (.string s)] [] (.val (.bool (Q3 l k.toNat s.data.toList))) []:=by
 refine BCall.hand (enters_of func138 (by kernel_rfl) rfl) fun w g vs M hL=>?_
 obtain⟨v1,vs1,rfl,h1,hL⟩:=QX hL;obtain⟨v2,vs2,rfl,h2,hL⟩:=QX hL;obtain⟨v3,vs3,rfl,h3,hL⟩:=QX hL;obtain rfl:=Q2T hL;obtain⟨A,c,rfl,hr⟩:=Q4g h1 M;obtain rfl:=Q3v h2;obtain rfl:=Q3v h3;have:=Q1Z _ A _ c l k.toNat s w hr (by omega) hl hs
 rw[Int.toNat_of_nonneg h0]at this;exact this.mono fun e w' ⟨h,hb⟩=>⟨_,h,hb,PRel.val _ rfl⟩
structure Tok where
 kind:Int
 from_:Int
 to:Int
 whole:Bool
 deriving Inhabited
def Tok.av(t:Tok):AV:=.agg [.val (.int .i64 t.kind),.val (.int .i64 t.from_),.val (.int .i64 t.to),.val (.bool t.whole)]
def Q13(l:List Int)(k:Nat):Tok:=⟨(Qd l k).1,k,(Qd l k).2.1,(Qd l k).2.2⟩
theorem QpB(l:List Int)(hl:l.length<=1000000000)(k:Int)(h0:0<=k)(hk:k<l.length):BCall prog 95 [.slc 1 (Q0 l),.val (.int .i64 k)] [] (.tup [(Q13 l k.toNat).av,.val (.bool true)]) []:=by
 refine BCall.hand (enters_of func95 (by kernel_rfl) rfl) fun w g vs M hL=>?_
 obtain⟨v1,vs1,rfl,h1,hL⟩:=QX hL;obtain⟨v2,vs2,rfl,h2,hL⟩:=QX hL;obtain rfl:=Q2T hL;obtain⟨A,c,rfl,hr⟩:=Q4g h1 M;obtain rfl:=Q3v h2;have:=Qjt _ A _ c l k.toNat w hr (by omega) hl
 rw[Int.toNat_of_nonneg h0]at this;refine this.mono fun e w' ⟨h,hb⟩=>⟨_,h,hb,_,rfl,rfl,fun j y u hy hu=>?_⟩
 match j,hy,hu with
 |0,hy,hu =>
  obtain rfl:Q20 (Qd l k.toNat) k.toNat=y:=by simpa using hy
  obtain rfl:(Q13 l k.toNat).av=u:=by simpa using hu
  refine⟨_,rfl,rfl,fun i y u hy hu=>?_⟩
  match i,hy,hu with
  |0,hy,hu=>cases hy;cases hu;exact⟨PRel.val _ rfl,rfl⟩
  |1,hy,hu=>cases hy;cases hu;exact⟨PRel.val _ rfl,rfl⟩
  |2,hy,hu=>cases hy;cases hu;exact⟨PRel.val _ rfl,rfl⟩
  |3,hy,hu=>cases hy;cases hu;exact⟨PRel.val _ rfl,rfl⟩
  |i+4,hy,hu=>simp at hy
 |1,hy,hu =>
  obtain rfl:Value.bool true=y:=by simpa using hy
  obtain rfl:AV.val (.bool true)=u:=by simpa using hu
  exact PRel.val _ rfl
 |j+2,hy,hu=>simp at hy
theorem Qj0(l:List Int)(k:Int)(h0:0<=k)(hk:(l.length:Int)<=k):BCall prog 95 [.slc 1 (Q0 l),.val (.int .i64 k)] [] (.tup [.agg [.val (.int .i64 0),.val (.int .i64 0),.val (.int .i64 0),.val (.bool false)],.val (.bool false)]) []:=by
 obtain⟨n,hn⟩:=QG l;have yu:n<=k:=by rw[hn.eq];exact hk
 refine fnN (cs0) func95 rfl fun _ _=>?_
 with_reducible refine cv1 (Q0 l) ?_
 have en:=hn.eq;have qB:=Qx l;with_reducible repeat' first|refine aU (zA qB h0) ?_|refine And.intro ?_ ?_|intro hb
 exact .pure rfl ⟨⟨.inl rfl,.inl rfl,.inl rfl,.inl rfl,trivial⟩,.inl rfl,trivial⟩
