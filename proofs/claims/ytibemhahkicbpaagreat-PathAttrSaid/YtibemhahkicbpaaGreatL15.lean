/- Lemmas, conditions told -/
import Derived.Test.YtibemhahkicbpaaGreatL12
import Derived.Test.YtibemhahkicbpaaGreatL14
set_option maxRecDepth 99999
set_option maxHeartbeats 0
set_option linter.unusedSimpArgs false
set_option linter.unusedVariables false
namespace Go.Proofs.YtibemhahkicbpaaGreat
open List(map_cons length_take length_drop map_take getElem?_eq_getElem getElem_mem length_append length_singleton mem_append map_congr_left sum_cons flatMap_cons mem_append_left flatMap_nil append_nil)
open Nat(le_refl le_of_ble_eq_true le_trans)
open Go.RowKit Go.Lib
def Qno:AV:=.val (.slice none 0 0)
def slR(l:List Int):AV:=match l with|[]=>Qno|l=>.slc 1 (Q0 l)
def slK(l:List Int):AV:=match l with|[]=>Qno|l=>.slc 1 (Q9 l)
structure Opn where
 name:List Int
 kids:List Int
 deriving Inhabited,DecidableEq
def Opn.av(x:Opn):AV:=.agg [slR x.name,slK x.kids]
def Qi(l:List Opn):List AV:=l.map Opn.av
structure Dg where
 f:Int
 t:Int
 c:Int
 deriving Inhabited,DecidableEq
def Dg.av(x:Dg):AV:=.agg [.val (.int .i64 x.f),.val (.int .i64 x.t),.val (.int .i64 x.c)]
def Qk(l:List Dg):List AV:=l.map Dg.av
def Qaq(x:AV):List Int:=(Q2x x).map intOf
def Qp8:AV->Opn
 |.agg [a,k]=>⟨Qaq a,Qaq k⟩
 |_=>⟨[],[]⟩
def dgB:AV->Dg
 |.agg [a,b,c]=>⟨intOf a,intOf b,intOf c⟩
 |_=>⟨0,0,0⟩
def Qo5:AV->Node
 |.agg [k,w,c,l,b,s]=>⟨intOf k,intOf w,intOf c,Q5y l,(Q2x b).map Q35,Qaq s⟩
 |_=>Q9d
theorem Q81{α:Type}{f:α->AV}{g:AV->α}(h:∀x,g (f x)=x)(l:List α):(l.map f).map g=l:=by
 induction l with
 |nil=>rfl
 |cons x r ih=>simp only[map_cons,h,ih]
theorem Q8W(l:List Int):(Q9 l).map intOf=l:=Q81 (fun _=>rfl) l
theorem Qlg(l:List Int):Qaq (slR l)=l:=by
 cases l with
 |nil=>rfl
 |cons x r=>exact Q44 (x::r)
theorem Ql7(l:List Int):Qaq (slK l)=l:=by
 cases l with
 |nil=>rfl
 |cons x r=>exact Q8W (x::r)
theorem QlK(x:Opn):Qp8 x.av=x:=by
 show(⟨Qaq (slR x.name),Qaq (slK x.kids)⟩:Opn)=x
 rw[Qlg,Ql7]
theorem Qmy(x:Dg):dgB x.av=x:=rfl
theorem Qji(x:Node):Qo5 x.av=x:=by
 show(⟨x.kind,x.width,x.count,x.leaf,(Q2 x.b).map Q35,(Q9 x.kids).map intOf⟩:Node)=x
 rw[Q3u,Q8W]
def QkF(l:List AV):List Opn:=l.map Qp8
def QoY(l:List AV):List Dg:=l.map dgB
def Qgx(l:List AV):List Node:=l.map Qo5
theorem Qcc(l:List Opn):QkF (Qi l)=l:=Q81 QlK l
theorem QdS(l:List Dg):QoY (Qk l)=l:=Q81 Qmy l
theorem Q9U(l:List Node):Qgx (Q3 l)=l:=Q81 Qji l
theorem Q3W(l:List Opn):(Qi l).length=l.length:=by simp[Qi]
theorem Qh1(l:List Dg):(Qk l).length=l.length:=by simp[Qk]
structure Mk where
 n:List Node
 d:List Dg
 s:List Opn
 deriving Inhabited
def obM(e:Nat)(b k m r o rt:AV)(N D S:List AV):List Ob :=
 [.box [b,.box 1 0,.row 5 e],.box [k,m,r,o,.box 2 0,rt,.row 4 e],.box [.row 3 e],.row 182 6 false e N,.row 146 3 false e D,.row 99 2 false e S]
def Q3K(ob:List Ob)(f:AV->AV->AV->AV->AV->AV->List AV->List AV->List AV->Option (AV×List Ob)):Option (AV×List Ob):=match ob with
 | [.box [b,.box 1 0,.row 5 0],.box [k,m,r,o,.box 2 0,rt,.row 4 0],.box [.row 3 0],.row 182 6 false 0 N,.row 146 3 false 0 D,.row 99 2 false 0 S]=>f b k m r o rt N D S
 |_=>none
def obT(e:Nat)(t:Txt)(b:List UInt8)(rt:Int)(m:Mk):List Ob :=
 obM e (.slc 1 (Q2 b)) (.val (.int .i64 t.kind)) (.val (.int .i64 t.bom)) (.slc 1 (Q0 t.r)) (.slc 1 (Q9 t.off)) (.val (.int .i64 rt)) (Q3 m.n) (Qk m.d) (Qi m.s)
def Q1s(t:Txt)(i:Int):Int:=t.off[i.toNat]?.getD 0
def QV(t:Txt)(c f u:Int)(m:Mk):Mk:={ m with d:=m.d++[⟨Q1s t f,Q1s t u,c⟩] }
def QZ(s:List Opn):Opn:=s[s.length-1]?.getD ⟨[],[]⟩
def Q2k(n:Int)(s:List Opn):List Opn:=s.set (s.length-1) ⟨(QZ s).name,(QZ s).kids++[n]⟩
def Q3g(n:Int)(m:Mk):Mk:={ m with s:=Q2k n m.s }
def Q20(x:Node)(m:Mk):Mk:={ m with n:=m.n++[x] }
def Q2n(t:Txt)(b:List UInt8)(kind f u:Int)(m:Mk):Mk:=Q20 (QI kind (QU t b f u)) m
def Qp5(m:Mk):Mk:={ m with s:=m.s.take (m.s.length-1) }
def Q22(last:Int)(m:Mk):Mk :=
 let m1:=Q3g last m
 Q3g m1.n.length (Q20 (Q1i m1.n 21 (QZ m1.s).kids) (Qp5 m1))
def Q3l(t:Txt)(at_:Int)(m:Mk):Mk :=
 let m1:=QV t 4 at_ at_ m
 Q22 m1.n.length (Q20 (QI 22 []) m1)
def Qs(t:Txt)(f u:Int):List Int:=(t.r.drop (QD t.r f u).name.from_.toNat).take ((QD t.r f u).name.to-(QD t.r f u).name.from_).toNat
def lkF(t:Txt)(b:List UInt8)(kind f u:Int)(m:Mk):Mk:=Q3g m.n.length (Q2n t b kind f u m)
def Q1G(t:Txt)(b:List UInt8)(kind f u:Int)(m:Mk):Mk :=
 if 64<m.s.length then lkF t b kind f u (QV t 5 f u m)
 else lkF t b kind f u { m with s:=m.s++[⟨Qs t f u,[]⟩] }
def Q2g(s:List Opn)(name:List Int):Nat->Nat
 |0=>0
 |k+1=>if(s[k+1]?.getD ⟨[],[]⟩).name=name then k+1 else Q2g s name k
def missGo(t:Txt)(f:Int)(k:Nat):Nat->Mk->Mk
 |0,m=>m
 |n+1,m=>if k<m.s.length-1 then missGo t f k n (Q3l t f m)else m
def Q2Y(t:Txt)(b:List UInt8)(kind f u:Int)(m:Mk):Mk :=
 let k:=Q2g m.s (Qs t f u) (m.s.length-1)
 if k=0 then lkF t b kind f u (QV t 3 f u m)
 else let m1:=missGo t f k m.s.length m
  Q22 m1.n.length (Q2n t b kind f u m1)
def Q26(t:Txt)(b:List UInt8)(kind f u:Int)(whole:Bool)(m:Mk):Mk :=
 let tagged:=kind=8\/kind=9\/kind=10
 let m1:=if whole=false then QV t 1 f u m else if tagged/\(QD t.r f u).right=false then QV t 2 f u m else m
 if whole=true/\kind=8/\0<(Qs t f u).length then Q1G t b kind f u m1
 else if whole=true/\kind=10 then Q2Y t b kind f u m1
 else lkF t b kind f u m1
section
open Tryz
theorem BCall.see{P:Program}{f:Nat}{args:List AV}{ob ob1 ob':List Ob}{res r' res':AV}{l:Eqs}(h:BCall P f args ob res ob1)(ρ:List (Option Nat))(h1:Q32 ρ=true)(h2:Qho ob ob1 ob' ρ=true)(h3:ob.length<=ρ.length)
  (h4:both (QkD ob1 ob' ρ res r') (Q9j ob1 ob' ρ ρ ob')=some l) (h5:Qe l) (h6:leA r' res'):BCall P f args ob res' ob':=by
 refine⟨h.1,fun w g vs M hL=>(h.2 w g vs M hL).mono fun e w' ⟨v,g',k1,k2,k3,k4⟩=>?_⟩
 obtain⟨⟨l1,e1,a1⟩,l2,e2,a2⟩:=Q37 h4 h5;have hF:Fits ob1 ob' ρ:=Q4M _ _ _ e2 a2;exact⟨v,g'.ren ρ,k1,k2.ren hF h1,Q9I (QaI hF h1 k3 e1 a1) h6,QeL hF h1 h2 h3 k4⟩
theorem QjU(l:List Int):slK l=.slc 1 (Q9 l)\/(slK l=.val (.slice none 0 0)/\Q9 l=[]):=by
 cases l with
 |nil=>exact .inr ⟨rfl,rfl⟩
 |cons x r=>exact .inl rfl
theorem QhB(l:List Int)(n:Int):slK (l++[n])=.slc 1 (Q9 l++[.val (.int .i64 n)]):=by
 rw[<-Qey,<-Q4T];cases l with
 |nil=>rfl
 |cons x r=>rfl
theorem Qkb(l:List Opn)(i:Nat)(x:Opn):(Qi l).set i x.av=Qi (l.set i x):=by simp[Qi,List.map_set]
theorem Qhg{s:List Opn}(h:1<=s.length):(Qi s)[s.length-1]?=some (QZ s).av:=by
 have:s.length-1<s.length:=by omega
 simp[Qi,QZ,this]
theorem QaH(t:Txt)(b:List UInt8)(rt:Int)(m:Mk)(hs:1<=m.s.length)(hn:m.s.length<=1000000)(hk:(QZ m.s).kids.length<=1000000)(n:Int) :
  BCall prog 42 [.box 0 0,.val (.int .i64 n)] (obT 0 t b rt m) (.tup []) (obT 1 t b rt (Q3g n m)):=by
 obtain⟨L,hL⟩:=QE m.s;have je:1<=L:=by rw[hL.eq];omega
 have h:=Qni (ob:=obT 0 t b rt m) (k:=5) rfl rfl (i:=L-1) (n:=n) ?_ (by omega) (a:=slR (QZ m.s).name) (u:=slK (QZ m.s).kids) (us:=Q9 (QZ m.s).kids) ?_ (QjU _) (by rw[Q2w];exact hk)
 ·have hi:(L-1).toNat=m.s.length-1:=by have:=hL.eq;omega
  rw[hi,<-QhB]at h;have e:∀S,(obT 0 t b rt m).set 5 (.row Q5U 2 false 1 S)=[.box [.slc 1 (Q2 b),.box 1 0,.row 5 0],.box [.val (.int .i64 t.kind),.val (.int .i64 t.bom),.slc 1 (Q0 t.r),.slc 1 (Q9 t.off),.box 2 0,.val (.int .i64 rt),.row 4 0],.box [.row 3 0],.row 182 6 false 0 (Q3 m.n),.row 146 3 false 0 (Qk m.d),.row 99 2 false 1 S]:=fun _=>rfl
  have e2:=Qkb m.s (m.s.length-1) ⟨(QZ m.s).name,(QZ m.s).kids++[n]⟩;rw[show(AV.agg [slR (QZ m.s).name,slK ((QZ m.s).kids++[n])])=Opn.av ⟨(QZ m.s).name,(QZ m.s).kids++[n]⟩ from rfl,e2,e]at h;exact h.see [some 0,some 1,some 2,some 3,some 4,some 5] rfl rfl (le_refl _) (r':=.tup []) rfl (by simp[Qe,Q3g,Q2k]) trivial
 ·intro w0 g0
  unfold obT obM;have hl:=Q3W m.s;with_reducible refine cv8 (Q3 m.n) (Qk m.d) (Qi m.s) (Q2 b) (Q0 t.r) (Q9 t.off) t.kind t.bom ?_
  have e:std.sub (std.len (Qi m.s)) 1=L-1:=by
   show((Qi m.s).length:Int)-1=L-1
   rw[hl,hL.eq]
  have e2:std.len (Qi m.s)=L:=by
   show((Qi m.s).length:Int)=L
   rw[hl,hL.eq]
  refine⟨?_,?_,rfl,rfl,?_,rfl⟩
  ·show -9223372036854775808<=std.sub (std.len (Qi m.s)) 1/\std.sub (std.len (Qi m.s)) 1<=9223372036854775807
   have:=hL.eq
   rw[e];omega
  ·show 0<=std.sub (std.len (Qi m.s)) 1/\std.sub (std.len (Qi m.s)) 1<std.len (Qi m.s)
   rw[e,e2];omega
  ·show AV.rptr 5 0 (std.sub (std.len (Qi m.s)) 1) 0=_
   rw[e]
 ·have hi:(L-1).toNat=m.s.length-1:=by have:=hL.eq;omega
  rw[hi];exact Qhg hs
def OT.then(l:List Nat)(t:OT):OT:=match l with
 | []=>t
 |i::r=>.cons i (OT.then r t)
def wrO:OT:=.then [0,1,2,4,5,6,7,8,9,10,11,12,13,14,15,16,17,18,19,20,21] (.fork (.of [3,22,23,24,25,26]) (.cons 22 (.fork (.of [3,23,24,25,26]) (.of [23,3,24,25,26]))))
theorem Q9C(t:Txt)(b:List UInt8)(rt:Int)(m:Mk)(hd:m.d.length<=1000000)(c f u:Int)(hf:0<=f/\f<t.off.length)(hu:0<=u/\u<t.off.length) :
  BCall prog 134 [.box 0 0,.val (.int .i64 c),.val (.int .i64 f),.val (.int .i64 u)] (obT 0 t b rt m) (.tup []) (obT 1 t b rt (QV t c f u m)):=by
 have olen:=Q2w t.off;have af:=Q2T (l:=t.off) (i:=f) hf.1 hf.2;have au:=Q2T (l:=t.off) (i:=u) hu.1 hu.2;have dlen:=Qh1 m.d;unfold obT obM;refine fnO false (cs0) (fun id=>match id with|1=> wrO|_=>.nil) func134 rfl fun _ _=>?_
 with_reducible refine cv8 (Q3 m.n) (Qk m.d) (Qi m.s) (Q2 b) (Q0 t.r) (Q9 t.off) t.kind t.bom ?_
 have ef:(Q9 t.off).getD f.toNat .dead=.val (.int .i64 (Q1s t f)):=by rw[List.getD_eq_getElem?_getD];exact af
 have eu:(Q9 t.off).getD u.toNat .dead=.val (.int .i64 (Q1s t u)):=by rw[List.getD_eq_getElem?_getD];exact au
 have hb:∀x,std.bnd (Qk m.d) [x]:=fun x=>by show(Qk m.d).length+1<=1000000000;omega
 have fin:∀x,x=AV.agg [.val (.int .i64 (Q1s t f)),.val (.int .i64 (Q1s t u)),.val (.int .i64 c)]->std.app (Qk m.d) [x]=Qk (QV t c f u m).d:=fun x hx=>by
  rw[hx];show Qk m.d++_=List.map _ (_++_);rw[List.map_append];rfl
 have fin2:=fin _ (show AV.agg [.val (.int .i64 (std.int (std.nth (std.cel (std.at_ (Q9 t.off) f)) 0))),.val (.int .i64 (std.int (std.nth (std.cel (std.at_ (Q9 t.off) u)) 0))),.val (.int .i64 c)]=_ by
  show AV.agg [.val (.int .i64 (intOf ((((Q9 t.off).getD f.toNat .dead).cells).getD 0 .dead))),.val (.int .i64 (intOf ((((Q9 t.off).getD u.toNat .dead).cells).getD 0 .dead))),.val (.int .i64 c)]=_;rw[ef,eu];rfl)
 have hc:∀x:Int,(Q9 t.off).getD x.toNat .dead=.val (.int .i64 (Q1s t x))->std.all [std.hasI .i64 (std.nth (std.cel (std.at_ (Q9 t.off) x)) 0)]:=fun x hx=>by
  show(((Q9 t.off).getD x.toNat .dead).cells).getD 0 .dead=.val (.int .i64 (intOf ((((Q9 t.off).getD x.toNat .dead).cells).getD 0 .dead)))/\True
  rw[hx];exact⟨rfl,trivial⟩
 have jM:∀x:Int,0<=x/\x<t.off.length->std.inb x (std.len (Q9 t.off)):=fun x hx=>by
  show 0<=x/\x<((Q9 t.off).length:Int);rw[olen];exact hx
 refine⟨jM f hf,hc f ef,jM u hu,hc u eu,⟨hb _,?_⟩,⟨hb _,?_⟩,hb _,?_⟩
 all_goals
  refine⟨[some 0,some 1,some 2,some 3,some 4,some 5],.tup [],_,rfl,rfl,le_refl _,rfl,?_,trivial⟩;simp[Qe];exact⟨rfl,fin2,rfl⟩
def Qps(p:Pr)(sl:Int->Int->List AV)(lf:Int->List AV->List AV->List AV):Nat->List AV->List Ob->Option (AV×List Ob):=fun f args ob=>match f,args with
 |179,[.agg _,.slc 1 _,.val (.int .i64 i),.val (.int .i64 j)]=>some (.slc 1 (sl i j),[])
 |43,[.box 0 0,.val (.int .i64 k),.slc 1 bs]=>match ob with
  | [.box [.row 1 0],.row 182 6 false 0 N]=>some (.val (.int .i64 (p.len N)),[.box [.row 1 1],.row 182 6 false 1 (lf k bs N)])
  |_=>none
 |_,_=>none
def slA(t:Txt)(b:List UInt8)(i j:Int):List AV:=Q2 (QU t b i j)
def lfA(k:Int)(bs N:List AV):List AV:=N++[(QI k (bs.map Q35)).av]
theorem QfU(k:Int)(bs:List UInt8)(l:List Node):lfA k (Q2 bs) (Q3 l)=Q3 (l++[QI k bs]):=by
 rw[lfA,Q3u];simp[Q3]
theorem Qcn(t:Txt)(b:List UInt8)(i j:Int):(QU t b i j).length<=b.length:=by
 rw[QU,length_take,length_drop];omega
theorem QaS(t:Txt)(b:List UInt8)(hb:b.length<=1000000)(ok:TxtOk t b)(qd:t.r.length<=1000000)(rt:Int)(m:Mk)(hn:m.n.length<=1000000)(kind f u:Int)(wh:Bool)(hf:0<=f)(hu:f<=u)(hl:u<=t.r.length) :
  BCall prog 138 [.box 0 0,.agg [.val (.int .i64 kind),.val (.int .i64 f),.val (.int .i64 u),.val (.bool wh)]] (obT 0 t b rt m) (.val (.int .i64 m.n.length)) (obT 1 t b rt (Q2n t b kind f u m)):=by
 have cS:=QnP t b hb ok qd f u hf hu hl;have cL:=QkY m.n (by omega) kind (QU t b f u) (by have:=Qcn t b f u;omega)
 rw[<-QfU]at cL;have e3:Q3 (Q2n t b kind f u m).n=lfA kind (slA t b f u) (Q3 m.n):=(QfU _ _ _).symm;unfold obT obM;rw[e3];clear hl;refine fnN (Qps std (slA t b) lfA) func138 rfl fun _ _=>?_
 with_reducible refine Qqc (slA t b) lfA (Q3 m.n) (Qk m.d) (Qi m.s) (Q2 b) (Q0 t.r) (Q9 t.off) t.kind t.bom ?_
 exact⟨cS,by rw[<-Q1o]at cL;exact cL,
  [some 0,some 1,some 2,some 3,some 4,some 5],.val (.int .i64 m.n.length),_,rfl,rfl,le_of_ble_eq_true rfl,rfl,by simp[Qe,std,Q3,Q2n,Q20],.inl rfl⟩
theorem Qjk:∀(n:Nat)(r:List Int)(at_:Int)(first:Bool),r.length<=n->(QB at_ first r).length<=r.length:=by
 intro n;induction n with
 |zero =>
  intro r at_ first h
  have:r=[]:=List.eq_nil_of_length_eq_zero (by omega)
  rw[this,QB,dif_pos rfl];exact le_refl _
 |succ n ih =>
  intro r at_ first h
  by_cases hr:r=[]
  ·rw[hr,QB,dif_pos rfl];exact le_refl _
  ·have hn:=Q3n r first hr
   rw[QB,dif_neg hr,List.length_cons];have:=ih (r.drop (Qt r first).2.toNat) (at_+(Qt r first).2) false (by rw[length_drop];omega)
   rw[length_drop]at this;omega
theorem Q45(l:List Int)(f u:Int):(QS l f u).length<=l.length:=by
 have:=Qjk _ ((l.take u.toNat).drop f.toNat) f true (le_refl _)
 rw[length_drop,length_take]at this;show(QB _ _ _).length<=_
 omega
theorem Qck(l:List Int)(f u:Int)(h0:0<=f)(h1:f<=u)(h2:u<=l.length):∀x∈QS l f u,f<=x.from_/\x.from_<x.to/\x.to<=u:=fun x hx=>by
 have:=Q48 [] _ ((l.take u.toNat).drop f.toNat) f true (le_refl _) x hx
 rw[length_drop,length_take]at this;omega
theorem Qgh(ps:List TPart):(Q1l ps).name=Qm\/(Q1l ps).name=ps[1]?.getD Qm:=by
 unfold Q1l;split
 ·simp only
  split
  ·exact .inr rfl
  ·exact .inr rfl
 ·exact .inl rfl
theorem Qh5(l:List Int)(f u:Int)(h0:0<=f)(h1:f<=u)(h2:u<=l.length):0<=(QD l f u).name.from_/\(QD l f u).name.from_<=(QD l f u).name.to/\(QD l f u).name.to<=l.length:=by
 rcases Qgh (QS l f u)with h|h
 ·rw[QD,h];exact⟨Int.le_refl _,Int.le_refl _,by show(0:Int)<=_;omega⟩
 ·rw[QD,h]
  cases hi:(QS l f u)[1]? with
  |none=>exact⟨Int.le_refl _,Int.le_refl _,by show(0:Int)<=_;omega⟩
  |some x =>
   have:=Qck l f u h0 h1 h2 x (List.mem_of_getElem? hi)
   show 0<=x.from_/\x.from_<=x.to/\x.to<=(l.length:Int);omega
theorem QfE(l:List Int)(hl:l.length<=1000000)(f u:Int)(h0:0<=f)(h1:f<=u)(h2:u<=l.length) :
  BCall prog 49 [.slc 1 (Q0 l),.val (.int .i64 f),.val (.int .i64 u)] [] (.agg [.val (.int .i64 (QD l f u).name.kind),.val (.int .i64 (QD l f u).name.from_),.val (.int .i64 (QD l f u).name.to),.slc 9 (Qh (QD l f u).attrs),.val (.bool (QD l f u).right),.val (.bool (QD l f u).empty)]) []:=by
 have jz:=Q45 l f u;have zT:QdE (QS l f u):=fun x hx=>by have:=Qck l f u h0 h1 h2 x hx;omega
 cases vN:QO (QS l f u) 0 [1,2]with
 |false =>
  have e:QD l f u=⟨Qm,[],false,false⟩:=by rw[QD,Q1l,if_neg (by rw[vN];decide)]
  rw[e];exact Qis l (by omega) f u h0 h1 h2 _ rfl (by omega) vN
 |true =>
  cases qu:QO (QS l f u) (Q3y (QS l f u) (Qy (QS l f u) ((QS l f u).length+1) 2).2 3).toNat [6]with
  |false=>exact QiR l (by omega) f u h0 h1 h2 _ rfl (by omega) zT vN qu
  |true=>exact Qlo l (by omega) f u h0 h1 h2 _ rfl (by omega) zT vN qu
def Qpg(rk rf ru:Int->Int->Int)(ra:Int->Int->List AV)(rr re:Int->Int->Bool):Nat->List AV->List Ob->Option (AV×List Ob):=fun f args _=>match f,args with
 |49,[.slc 1 _,.val (.int .i64 f),.val (.int .i64 u)]=>some (.agg [.val (.int .i64 (rk f u)),.val (.int .i64 (rf f u)),.val (.int .i64 (ru f u)),.slc 9 (ra f u),.val (.bool (rr f u)),.val (.bool (re f u))],[])
 |_,_=>none
def rdk(l:List Int)(f u:Int):Int:=(QD l f u).name.kind
def rdf(l:List Int)(f u:Int):Int:=(QD l f u).name.from_
def rdu(l:List Int)(f u:Int):Int:=(QD l f u).name.to
def rda(l:List Int)(f u:Int):List AV:=Qh (QD l f u).attrs
def rdr(l:List Int)(f u:Int):Bool:=(QD l f u).right
def rde(l:List Int)(f u:Int):Bool:=(QD l f u).empty
def nmO:OT:=.then [0,1,2,3,4,5,6,7,8,9,10,11] (.fork (.of [12,13,14,15]) (.of [14,12,13,15]))
theorem Qgu(t:Txt)(b:List UInt8)(qd:t.r.length<=1000000)(rt:Int)(m:Mk)(kind f u:Int)(wh:Bool)(hf:0<=f)(hu:f<=u)(hl:u<=t.r.length) :
  BCall prog 135 [.box 0 0,.agg [.val (.int .i64 kind),.val (.int .i64 f),.val (.int .i64 u),.val (.bool wh)]] (obT 0 t b rt m) (.slc 1 (Q0 (Qs t f u))) (obT 0 t b rt m):=by
 have cR:=QfE t.r qd f u hf hu hl;have jM:=Qh5 t.r f u hf hu hl;have rlen:=Qx t.r;unfold obT obM;refine fnO false (Qpg (rdk t.r) (rdf t.r) (rdu t.r) (rda t.r) (rdr t.r) (rde t.r)) (fun id=>match id with|1=> nmO|_=>.nil) func135 rfl fun _ _=>?_
 generalize hR:Q0 t.r=R;generalize hO:Q9 t.off=O;generalize hK:t.kind=K;generalize hM:t.bom=M;with_reducible refine Qqc (rdk t.r) (rdf t.r) (rdu t.r) (rda t.r) (rdr t.r) (rde t.r) (Q3 m.n) (Qk m.d) (Qi m.s) (Q2 b) ?_
 subst hR hO hK hM
 have jS:std.cutok (rdf t.r f u) (rdu t.r f u) (std.len (Q0 t.r)):=by
  show 0<=(QD t.r f u).name.from_/\(QD t.r f u).name.from_<=(QD t.r f u).name.to/\(QD t.r f u).name.to<=((Q0 t.r).length:Int);rw[rlen];exact jM
 have hres:std.cut (Q0 t.r) (rdf t.r f u) (rdu t.r f u)=Q0 (Qs t f u):=by
  show((Q0 t.r).drop (rdf t.r f u).toNat).take _=_
  simp only[Q0,Qs,map_take,List.map_drop];rfl
 refine⟨⟨cR,jS,?_⟩,cR,jS,?_⟩
 all_goals
  exact⟨[some 0,some 1,some 2,some 3,some 4,some 5],.slc 1 (Q0 (Qs t f u)),_,rfl,rfl,le_of_ble_eq_true rfl,rfl,by simp[Qe];exact hres,.inl rfl⟩
def kdA(n:Int)(S:List AV):List AV:=Qi (Q2k n (QkF S))
theorem QaD(n:Int)(s:List Opn):kdA n (Qi s)=Qi (Q2k n s):=by rw[kdA,Qcc]
def brA(k:Int)(ks N:List AV):List AV:=N++[(Q1i (Qgx N) k (ks.map intOf)).av]
theorem Qd7(k:Int)(ks:List Int)(l:List Node):brA k (Q9 ks) (Q3 l)=Q3 (l++[Q1i l k ks]):=by
 rw[brA,Q9U,Q8W];simp[Q3]
def Qpy(p:Pr)(kd:Int->List AV->List AV)(br:Int->List AV->List AV->List AV):Nat->List AV->List Ob->Option (AV×List Ob):=fun f args ob=>match f,args with
 |42,[.box 0 0,.val (.int .i64 n)]=>Q3K ob fun b k m r o rt N D S=>some (.tup [],obM 1 b k m r o rt N D (kd n S))
 |90,[.box 0 0,.val (.int .i64 k),.slc 1 ks]=>match ob with
  | [.box [.row 1 0],.row 182 6 false 0 N]=>some (.tup [.val (.int .i64 (p.len N)),.val (.int .i64 0)],[.box [.row 1 1],.row 182 6 false 1 (br k ks N)])
  |_=>none
 |_,_=>none
theorem QaB(n:Int)(s:List Opn):(Q2k n s).length=s.length:=by simp[Q2k]
theorem QnA(n:Int){s:List Opn}(h:1<=s.length):QZ (Q2k n s)=⟨(QZ s).name,(QZ s).kids++[n]⟩:=by
 have h1:s.length-1<(s.set (s.length-1) ⟨(QZ s).name,(QZ s).kids++[n]⟩).length:=by rw[List.length_set];omega
 have h2:s.length-1<s.length:=by omega
 show((s.set (s.length-1) ⟨(QZ s).name,(QZ s).kids++[n]⟩)[(s.set (s.length-1) _).length-1]?).getD _=_
 rw[List.length_set,List.getElem?_set_self h2];rfl
structure ArOk (l:List Node):Prop where
 w:∀n,0<=Q1c l n
 c:∀n,0<=Q2u l n/\Q2u l n<=2147483647
theorem QjJ(t:Txt)(b:List UInt8)(rt:Int)(m:Mk)(hs:2<=m.s.length)(hn:m.s.length<=1000000)(hk:∀x∈m.s,x.kids.length<=1000000)(hN:m.n.length<=1000000)(ar:ArOk m.n)(last:Int)
  (hl:∀k∈(QZ m.s).kids++[last],0<=k/\k<m.n.length) (yT:Q1Z m.n ((QZ m.s).kids++[last])<=2147483647) :
  BCall prog 139 [.box 0 0,.val (.int .i64 last)] (obT 0 t b rt m) (.tup []) (obT 1 t b rt (Q22 last m)):=by
 obtain⟨L,hL⟩:=QE m.s;obtain⟨m1,qF⟩:=exq (Q3g last m);have jL:m1.s=Q2k last m.s:=by rw[qF];rfl
 have yi:m1.s.length=m.s.length:=by rw[jL,QaB]
 have ht1:QZ m1.s=⟨(QZ m.s).name,(QZ m.s).kids++[last]⟩:=by rw[jL];exact QnA last (by omega)
 have mem:∀i,i<m.s.length->(m.s[i]?.getD ⟨[],[]⟩).kids.length<=1000000:=fun i h=>by
  have:m.s[i]?.getD ⟨[],[]⟩∈m.s:=by
   rw[getElem?_eq_getElem h];exact getElem_mem h
  exact hk _ this
 have c1:=QaH t b rt m (by omega) hn (mem _ (by omega)) last
 have c2:=Qfg m.n (by omega) 21 ((QZ m.s).kids++[last]) (by have:=mem (m.s.length-1) (by omega);simp only[length_append,length_singleton];show((m.s[m.s.length-1]?).getD ⟨[],[]⟩).kids.length+1<=_;omega) hl ar.w ar.c yT
 rw[<-Qd7,<-Q1o]at c2;obtain⟨m2,qm⟩:=exq (Q20 (Q1i m.n 21 ((QZ m.s).kids++[last])) (Qp5 m1))
 have hE:Q22 last m=Q3g m.n.length m2:=by
  rw[qm,<-(show(QZ m1.s).kids=(QZ m.s).kids++[last] by rw[ht1]),qF];rfl
 have jT:m2.s=m1.s.take (m1.s.length-1):=by rw[qm];rfl
 have c3:=QaH t b rt m2 (by rw[jT,length_take];omega) (by rw[jT,length_take];omega) (by
  have h1:m2.s.length-1<m.s.length-1:=by rw[jT,length_take];omega
  show((m2.s[m2.s.length-1]?).getD ⟨[],[]⟩).kids.length<=_
  have h2:∀j,j<m.s.length-1->m2.s[j]?=m.s[j]?:=fun j hj=>by
   rw[jT,List.getElem?_take,if_pos (by omega),jL,Q2k,List.getElem?_set_ne (by omega)]
  rw[h2 _ h1];exact mem _ (by omega)) m.n.length
 rw[hE];clear hl yT;unfold obT obM;refine fnN (Qpy std kdA brA) func139 rfl fun _ _=>?_
 with_reducible refine Qqc kdA brA (Q3 m.n) (Qk m.d) (Qi m.s) (Q2 b) (Q0 t.r) (Q9 t.off) t.kind t.bom ?_
 have hi:(((Qi m1.s).length:Int)-1).toNat=m1.s.length-1:=by rw[Q3W];omega
 have he:(List.drop 1 ((Qi m1.s).getD (((Qi m1.s).length:Int)-1).toNat AV.dead).cells).getD 0 AV.dead=.slc 1 (Q9 ((QZ m.s).kids++[last])):=by
  have e:(Qi m1.s).getD (m1.s.length-1) AV.dead=(QZ m1.s).av:=by rw[List.getD_eq_getElem?_getD,Qhg (by rw[yi];omega)];rfl
  rw[hi,e,ht1];show slK ((QZ m.s).kids++[last])=_;rw[QhB,Q4T];rfl
 have hc:List.take (((Qi m1.s).length:Int)-1-0).toNat (List.drop (Int.toNat 0) (Qi m1.s))=Qi m2.s:=by
  rw[Int.sub_zero,hi,jT];simp[Qi,map_take]
 have el:=Q3W m1.s;have eN:Q3 m2.n=brA 21 (Q9 ((QZ m.s).kids++[last])) (Q3 m.n):=by rw[qm,Qd7];show Q3 (m1.n++_)=_;rw[qF];rfl
 have eD:m2.d=m.d:=by rw[qm,qF];rfl
 have eS:(Q3g (m.n.length:Int) m2).s=Q2k m.n.length m2.s:=rfl;unfold obT obM at c1 c3;rw[eS,show(Q3g (m.n.length:Int) m2).n=m2.n from rfl,show(Q3g (m.n.length:Int) m2).d=m2.d from rfl,eD,eN]at c3;rw[show(Q3g last m).s=m1.s by rw[qF]]at c1
 simp only[QaD,<-jL,std,he,hc,Q2x];rw[Q1o]at c2 ⊢;refine⟨?_,?_,?_,⟨.inl trivial,trivial⟩,?_,c2,?_,?_⟩
 ·exact c1
 ·show(-9223372036854775808:Int)<=_/\_<=(9223372036854775807:Int)
  omega
 ·omega
 ·omega
 ·exact c3
 ·exact⟨[some 0,some 1,some 2,some 3,some 4,some 5],.tup [],_,rfl,rfl,le_refl _,rfl,by simp[Qe];exact⟨eN.symm,congrArg _ eD.symm,rfl⟩,trivial⟩
def wrA(t:Txt)(c f u:Int)(D:List AV):List AV:=Qk (QoY D++[⟨Q1s t f,Q1s t u,c⟩])
theorem Q9X(t:Txt)(c f u:Int)(d:List Dg):wrA t c f u (Qk d)=Qk (d++[⟨Q1s t f,Q1s t u,c⟩]):=by rw[wrA,QdS]
def mkB(N D S:List AV):Mk:=⟨Qgx N,QoY D,QkF S⟩
theorem Q2m(m:Mk):mkB (Q3 m.n) (Qk m.d) (Qi m.s)=m:=by rw[mkB,Q9U,QdS,Qcc]
def Q7P(l:Int)(N D S:List AV):List AV:=Q3 (Q22 l (mkB N D S)).n
def Q7G(l:Int)(N D S:List AV):List AV:=Qi (Q22 l (mkB N D S)).s
theorem QoL(l:Int)(m:Mk):(Q22 l m).d=m.d:=rfl
def QpO(p:Pr)(wr:Int->Int->Int->List AV->List AV)(lf:Int->List AV->List AV->List AV)(sn ss:Int->List AV->List AV->List AV->List AV):Nat->List AV->List Ob->Option (AV×List Ob):=fun f args ob=>match f,args with
 |134,[.box 0 0,.val (.int .i64 c),.val (.int .i64 f),.val (.int .i64 u)]=>Q3K ob fun b k m r o rt N D S=>some (.tup [],obM 1 b k m r o rt N (wr c f u D) S)
 |139,[.box 0 0,.val (.int .i64 n)]=>Q3K ob fun b k m r o rt N D S=>some (.tup [],obM 1 b k m r o rt (sn n N D S) D (ss n N D S))
 |43,[.box 0 0,.val (.int .i64 k),.val (.slice none 0 0)]=>match ob with
  | [.box [.row 1 0],.row 182 6 false 0 N]=>some (.val (.int .i64 (p.len N)),[.box [.row 1 1],.row 182 6 false 1 (lf k [] N)])
  |_=>none
 |_,_=>none
theorem Qo8(t:Txt)(b:List UInt8)(rt:Int)(m:Mk)(hd:m.d.length<=1000000)(at_:Int)(ha:0<=at_/\at_<t.off.length)(hs:2<=m.s.length)(hn:m.s.length<=1000000)(hk:∀x∈m.s,x.kids.length<=1000000)(hN:m.n.length<1000000)(ar:ArOk (m.n++[QI 22 []]))
  (hl:∀k∈(QZ m.s).kids,0<=k/\k<m.n.length) (yT:Q1Z (m.n++[QI 22 []]) ((QZ m.s).kids++[(m.n.length:Int)])<=2147483647) :
  BCall prog 89 [.box 0 0,.val (.int .i64 at_)] (obT 0 t b rt m) (.tup []) (obT 1 t b rt (Q3l t at_ m)):=by
 have c1:=Q9C t b rt m hd 4 at_ at_ ha ha;obtain⟨m1,qF⟩:=exq (QV t 4 at_ at_ m);rw[<-qF]at c1;have c2:=(QkY m1.n (by rw[qF];show m.n.length<_;omega) 22 [] (by simp)).le (args:=[.box 0 0,.val (.int .i64 22),.val (.slice none 0 0)]) ⟨.inl rfl,.inl rfl,.inr (.inl ⟨rfl,_,rfl⟩),trivial⟩
 obtain⟨m2,qm⟩:=exq (Q20 (QI 22 []) m1);have e2n:m2.n=m.n++[QI 22 []]:=by rw[qm,qF];rfl
 have e2s:m2.s=m.s:=by rw[qm,qF];rfl
 have c3:=QjJ t b rt m2 (by rw[e2s];exact hs) (by rw[e2s];exact hn) (by rw[e2s];exact hk) (by rw[e2n];simp;omega) (by rw[e2n];exact ar) m.n.length (by
  rw[e2n,e2s];intro k hk;rw[length_append,length_singleton];rcases mem_append.1 hk with h|h
  ·have:=hl k h;omega
  ·obtain rfl:k=(m.n.length:Int):=by simpa using h
   omega) (by rw[e2n,e2s];exact yT)
 have hE:Q3l t at_ m=Q22 m.n.length m2:=by rw[qm,qF];rfl
 rw[hE];clear hl yT;unfold obT obM;refine fnN (QpO std (wrA t) lfA Q7P Q7G) func89 rfl fun _ _=>?_
 generalize hK:t.kind=K;generalize hM:t.bom=M;with_reducible refine Qqc (wrA t) lfA Q7P Q7G (Q3 m.n) (Qk m.d) (Qi m.s) (Q2 b) (Q0 t.r) (Q9 t.off) ?_
 subst hK hM;have e2d:m2.d=m.d++[⟨Q1s t at_,Q1s t at_,4⟩]:=by rw[qm,qF];rfl
 have eL:lfA 22 [] (Q3 m.n)=Q3 m2.n:=by rw[e2n,<-QfU];rfl
 have eW:wrA t 4 at_ at_ (Qk m.d)=Qk m2.d:=by rw[Q9X,e2d]
 have f1:∀l,Q7P l (Q3 m2.n) (Qk m2.d) (Qi m.s)=Q3 (Q22 l m2).n:=fun l=>by rw[Q7P,<-e2s,Q2m]
 have f2:∀l,Q7G l (Q3 m2.n) (Qk m2.d) (Qi m.s)=Qi (Q22 l m2).s:=fun l=>by rw[Q7G,<-e2s,Q2m]
 unfold obT obM at c1 c3;rw[show m1.n=m.n by rw[qF];rfl,show m1.s=m.s by rw[qF];rfl,show m1.d=m2.d by rw[qm];rfl]at c1
 rw[show m1.n=m.n by rw[qF];rfl,<-e2n]at c2
 rw[e2s,QoL]at c3;simp only[std,eL,eW,f1,f2,Q1o];exact⟨c1,c2,c3,[some 0,some 1,some 2,some 3,some 4,some 5],.tup [],_,rfl,rfl,le_refl _,rfl,by simp[Qe];rfl,trivial⟩
def lfT(t:Txt)(b:List UInt8)(k f u:Int)(N:List AV):List AV:=N++[(QI k (QU t b f u)).av]
theorem Qbb(t:Txt)(b:List UInt8)(k f u:Int)(l:List Node):lfT t b k f u (Q3 l)=Q3 (l++[QI k (QU t b f u)]):=by simp[lfT,Q3]
def nmA(t:Txt)(f u:Int):List AV:=Q0 (Qs t f u)
def QpP(p:Pr)(nm:Int->Int->List AV)(wr:Int->Int->Int->List AV->List AV)(lf:Int->Int->Int->List AV->List AV)(kd:Int->List AV->List AV):Nat->List AV->List Ob->Option (AV×List Ob):=fun f args ob=>match f,args with
 |135,[.box 0 0,.agg [_,.val (.int .i64 f),.val (.int .i64 u),_]]=>some (.slc 1 (nm f u),ob)
 |134,[.box 0 0,.val (.int .i64 c),.val (.int .i64 f),.val (.int .i64 u)]=>Q3K ob fun b k m r o rt N D S=>some (.tup [],obM 1 b k m r o rt N (wr c f u D) S)
 |138,[.box 0 0,.agg [.val (.int .i64 kind),.val (.int .i64 f),.val (.int .i64 u),_]]=>Q3K ob fun b k m r o rt N D S=>some (.val (.int .i64 (p.len N)),obM 1 b k m r o rt (lf kind f u N) D S)
 |42,[.box 0 0,.val (.int .i64 n)]=>Q3K ob fun b k m r o rt N D S=>some (.tup [],obM 1 b k m r o rt N D (kd n S))
 |_,_=>none
structure InT (t:Txt) (f u:Int):Prop where
 h0:0<=f
 h1:f<=u
 h2:u<=t.r.length
structure Sml (t:Txt) (b:List UInt8):Prop where
 hb:b.length<=1000000
 hr:t.r.length<=1000000
 ok:TxtOk t b
theorem InT.off{t:Txt}{b:List UInt8}{f u:Int}(h:InT t f u)(hs:Sml t b):(0<=f/\f<t.off.length)/\0<=u/\u<t.off.length:=by
 have:=hs.ok.len
 have h0:=h.h0;have h1:=h.h1;have h2:=h.h2;omega
structure MkOk (m:Mk):Prop where
 n:m.n.length<=900000
 d:m.d.length<=900000
 s:m.s.length<=900000
 s1:1<=m.s.length
 k:∀x∈m.s,x.kids.length<=900000
theorem MkOk.top{m:Mk}(h:MkOk m):(QZ m.s).kids.length<=900000:=by
 have h1:=h.s1;have:m.s.length-1<m.s.length:=by omega
 show((m.s[m.s.length-1]?).getD ⟨[],[]⟩).kids.length<=_
 rw[getElem?_eq_getElem this];exact h.k _ (getElem_mem this)
theorem QmT(t:Txt)(b:List UInt8)(hs:Sml t b)(rt:Int)(m:Mk)(ok:MkOk m)(kind f u:Int)(wh:Bool)(hi:InT t f u)(jQ:Qs t f u≠[]) :
  BCall prog 136 [.box 0 0,.agg [.val (.int .i64 kind),.val (.int .i64 f),.val (.int .i64 u),.val (.bool wh)]] (obT 0 t b rt m) (.tup []) (obT 1 t b rt (Q1G t b kind f u m)):=by
 have cN:=Qgu t b hs.hr rt m kind f u wh hi.h0 hi.h1 hi.h2;have qQ:=hi.off hs;have hn:=ok.n;have hd:=ok.d;have hl:=ok.s;have yi:=ok.s1;have cW:=Q9C t b rt m (by omega) 5 f u qQ.1 qQ.2
 obtain⟨ma,pJ⟩:=exq (QV t 5 f u m);have cLa:=QaS t b hs.hb hs.ok hs.hr rt ma (by rw[pJ];show m.n.length<=_;omega) kind f u wh hi.h0 hi.h1 hi.h2
 have cKa:=QaH t b rt (Q2n t b kind f u ma) (by rw[pJ];exact yi) (by rw[pJ];show m.s.length<=_;omega) (by rw[pJ];have:=ok.top;show(QZ m.s).kids.length<=_;omega) m.n.length
 obtain⟨mb,hmb⟩:=exq ({ m with s:=m.s++[⟨Qs t f u,[]⟩] }:Mk)
 have k7:mb.s=m.s++[⟨Qs t f u,[]⟩]:=by rw[hmb]
 have cLb:=QaS t b hs.hb hs.ok hs.hr rt mb (by rw[hmb];show m.n.length<=_;omega) kind f u wh hi.h0 hi.h1 hi.h2
 have cKb:=QaH t b rt (Q2n t b kind f u mb) (by show 1<=mb.s.length;rw[k7];simp) (by show mb.s.length<=_;rw[k7];simp;omega) (by show(QZ mb.s).kids.length<=_;rw[k7];simp[QZ]) m.n.length
 have hE:Q1G t b kind f u m=if 64<m.s.length then Q3g m.n.length (Q2n t b kind f u ma)else Q3g m.n.length (Q2n t b kind f u mb):=by rw[pJ,hmb];rfl
 rw[hE];clear hE qQ;unfold obT obM;refine fnN (QpP std (nmA t) (wrA t) (lfT t b) kdA) func136 rfl fun _ _=>?_
 generalize hK:t.kind=K;generalize hM:t.bom=M;with_reducible refine Qqc (nmA t) (wrA t) (lfT t b) kdA (Q3 m.n) (Qk m.d) (Qi m.s) (Q2 b) (Q0 t.r) (Q9 t.off) ?_
 subst hK hM;subst pJ hmb;simp only[obT,obM,Q2n,Q20,Q3g,QV]at cN cW cLa cKa cLb cKb
 have eS:Qi m.s++[AV.agg [AV.slc 1 (nmA t f u),AV.val (Value.slice none 0 0)]]=Qi (m.s++[⟨Qs t f u,[]⟩]):=by
  have:slR (Qs t f u)=.slc 1 (nmA t f u):=by
   show slR (Qs t f u)=.slc 1 (Q0 (Qs t f u));cases h:Qs t f u with
   |nil=>exact absurd h jQ
   |cons x r=>rfl
  rw[<-this];simp[Qi,Opn.av,slK,Qno]
 have eb:std.bnd (Qi m.s) [AV.agg [AV.slc 1 (nmA t f u),AV.val (Value.slice none 0 0)]]:=by
  show(Qi m.s).length+1<=1000000000
  rw[Q3W];omega
 refine⟨cN,fun hd=>?_,fun hd=>⟨eb,?_⟩⟩
 ·have hg:64<m.s.length:=by
   have:(64:Int)<((Qi m.s).length:Int):=of_decide_eq_true hd
   rw[Q3W]at this;omega
  simp only[std,Qbb,Q9X,QaD,Q1o,if_pos hg,Q2n,Q20,Q3g,QV];exact⟨cW,cLa,cKa,[some 0,some 1,some 2,some 3,some 4,some 5],.tup [],_,rfl,rfl,le_of_ble_eq_true rfl,rfl,by simp[Qe],trivial⟩
 ·have hg:¬64<m.s.length:=by
   have:¬(64:Int)<((Qi m.s).length:Int):=of_decide_eq_false hd
   rw[Q3W]at this;omega
  simp only[std,eS,Qbb,Q9X,QaD,Q1o,if_neg hg,Q2n,Q20,Q3g,QV];exact⟨cLb,cKb,[some 0,some 1,some 2,some 3,some 4,some 5],.tup [],_,rfl,rfl,le_of_ble_eq_true rfl,rfl,by simp[Qe],trivial⟩
theorem Q43{l:List Node}{x:Node}{n:Int}(h0:0<=n)(h1:n<l.length):Qn (l++[x]) n=Qn l n:=by
 have h2:n.toNat<l.length:=by omega
 have h3:n<((l++[x]).length:Int):=by simp only[length_append,length_singleton];omega
 rw[Qn,Qn,if_pos ⟨h0,h3⟩,if_pos ⟨h0,h1⟩,List.getElem?_append_left h2]
theorem Q36{l:List Node}{x:Node}:Qn (l++[x]) l.length=x:=by
 rw[Qn,if_pos ⟨by omega,by simp only[length_append,length_singleton];omega⟩,Int.toNat_natCast]
 simp
theorem Q80{l:List Node}{n:Int}(h:¬(0<=n/\n<l.length)):Qn l n=Q9d:=by rw[Qn,if_neg h]
theorem Q8x{l:List Node}{x:Node}(n:Int):(0<=n/\n<l.length/\Qn (l++[x]) n=Qn l n)\/(n=l.length/\Qn (l++[x]) n=x)\/Qn (l++[x]) n=Q9d:=by
 by_cases h:0<=n/\n<l.length
 ·exact .inl ⟨h.1,h.2,Q43 h.1 h.2⟩
 ·by_cases h2:n=l.length
  ·subst h2;exact .inr (.inl ⟨rfl,Q36⟩)
  ·exact .inr (.inr (Q80 (by simp;omega)))
def InR(l:List Node)(ks:List Int):Prop:=∀k∈ks,0<=k/\k<l.length
theorem InR.more{l:List Node}{ks:List Int}(h:InR l ks)(x:Node):InR (l++[x]) ks:=fun k hk=>by have:=h k hk;simp;omega
theorem Qdj{l:List Node}(h:Wf l){x:Node}(hx:InR l x.kids):Wf (l++[x]):=fun n h0 h1 k hk=>by
 rcases Q8x (l:=l) (x:=x) n with ⟨h2,h3,h4⟩|⟨h2,h4⟩|h4
 ·rw[h4]at hk;exact h n h2 h3 k hk
 ·rw[h4]at hk;rw[h2];exact hx k hk
 ·rw[h4]at hk;cases hk
theorem QgP{l:List Node}(h:Wf l)(x:Node):∀(f:Nat)(n:Int),0<=n->n<l.length->prF (l++[x]) f n=prF l f n
 |0,_,_,_=>rfl
 |f+1,n,h0,h1=>by
  simp only[prF,Q43 h0 h1];congr 1
  refine congrArg List.flatten (map_congr_left fun k hk=>?_)
  have:=h n h0 h1 k hk
  exact QgP h x f k this.1 (by omega)
theorem QdB{l:List Node}(h:Wf l)(x:Node){n:Int}(h0:0<=n)(h1:n<l.length):pr (l++[x]) n=pr l n:=QgP h x _ n h0 h1
theorem Q76{l:List Node}(h:Wf l)(x:Node){ks:List Int}(hk:InR l ks):ks.flatMap (pr (l++[x]))=ks.flatMap (pr l) :=
 congrArg List.flatten (map_congr_left fun k yA=>QdB h x (hk k yA).1 (hk k yA).2)
theorem Qd8{l:List Node}(h:Wf l){x:Node}(hx:InR l x.kids):pr (l++[x]) l.length=x.b++x.kids.flatMap (pr l):=by
 rw[Qh3 (Qdj h hx) (by omega) (by simp only[length_append,length_singleton];omega),Q36,Q76 h x hx]
theorem Qfk{l:List Node}(h:Wf l)(hw:Qj2 l){x:Node}(hx:InR l x.kids)(py:x.width=(x.b++x.kids.flatMap (pr l)).length):Qj2 (l++[x]):=fun n h0 h1=>by
 rcases Q8x (l:=l) (x:=x) n with ⟨h2,h3,h4⟩|⟨h2,h4⟩|h4
 ·rw[h4,QdB h x h2 h3];exact hw n h2 h3
 ·rw[h4,h2,Qd8 h hx];exact py
 ·have h1:n<((l++[x]).length:Int):=h1
  by_cases h2:n<l.length
  ·rw[Q43 h0 h2]at h4
   rw[Q43 h0 h2,QdB h x h0 h2];exact hw n h0 h2
  ·have h3:n=l.length:=by simp at h1;omega
   subst h3;rw[Q36,Qd8 h hx];exact py
theorem Qjv{l:List Node}(h:ArOk l){x:Node}(hw:0<=x.width)(hc:0<=x.count/\x.count<=2147483647):ArOk (l++[x]):=by
 refine⟨fun n=>?_,fun n=>?_⟩
 ·rw[Q1c]
  rcases Q8x (l:=l) (x:=x) n with ⟨_,_,h4⟩|⟨_,h4⟩|h4
  ·rw[h4];exact h.w n
  ·rw[h4];exact hw
  ·rw[h4];exact Int.le_refl _
 ·rw[Q2u]
  rcases Q8x (l:=l) (x:=x) n with ⟨_,_,h4⟩|⟨_,h4⟩|h4
  ·rw[h4];exact h.c n
  ·rw[h4];exact hc
  ·rw[h4];exact⟨Int.le_refl _,by show(0:Int)<=_;omega⟩
structure Ar (l:List Node):Prop where
 wf:Wf l
 wide:Qj2 l
 ok:ArOk l
theorem Qov:Ar []:=⟨fun n h0 h1=>by simp at h1;omega,fun n h0 h1=>by simp at h1;omega,⟨fun n=>by rw[Q1c,Q80 (fun h=>by simp at h;omega)];exact Int.le_refl _,fun n=>by rw[Q2u,Q80 (fun h=>by simp at h;omega)];exact⟨Int.le_refl _,by show(0:Int)<=_;omega⟩⟩⟩
theorem Q4A{l:List Node}(h:Ar l)(k:Int)(bs:List UInt8):Ar (l++[QI k bs])/\pr (l++[QI k bs]) l.length=bs:=by
 have hx:InR l (QI k bs).kids:=fun k hk=>by cases hk
 refine⟨⟨Qdj h.wf hx,Qfk h.wf h.wide hx (by simp[QI]),Qjv h.ok (by show(0:Int)<=(bs.length:Int);omega) (by show(0:Int)<=1/\(1:Int)<=_;omega)⟩,?_⟩
 rw[Qd8 h.wf hx];simp[QI]
theorem Q8u{l:List Node}(hw:Qj2 l):∀{ks:List Int},InR l ks->Q1Z l ks=(ks.flatMap (pr l)).length
 | [],_=>rfl
 |k::r,hk=>by
  have ih:=Q8u hw (ks:=r) (fun x hx=>hk x (List.mem_cons_of_mem _ hx))
  have h1:=hk k (List.mem_cons_self ..);have h2:=hw k h1.1 h1.2;simp only[Q1Z,map_cons,sum_cons,flatMap_cons,length_append]at ih ⊢;rw[Q1c,h2,ih];omega
theorem Q6S{l:List Node}(h:Ar l)(k:Int){ks:List Int}(hk:InR l ks):Ar (l++[Q1i l k ks])/\pr (l++[Q1i l k ks]) l.length=ks.flatMap (pr l):=by
 have hx:InR l (Q1i l k ks).kids:=hk;refine⟨⟨Qdj h.wf hx,Qfk h.wf h.wide hx ?_,Qjv h.ok (Q5P h.ok.w ks) (Q8K h.ok.c ks)⟩,?_⟩
 ·show Q1Z l ks=(([]:List UInt8)++ks.flatMap (pr l)).length
  rw[List.nil_append];exact Q8u h.wide hk
 ·rw[Qd8 h.wf hx];rfl
theorem Q8k(s:List Opn)(x:Opn):QZ (s++[x])=x:=by simp[QZ]
theorem Q2D(n:Int)(s:List Opn)(x:Opn):Q2k n (s++[x])=s++[⟨x.name,x.kids++[n]⟩]:=by
 rw[Q2k,Q8k];simp
theorem Q2r{s:List Opn}(h:1<=s.length):∃s0,s=s0++[QZ s]:=by
 refine⟨s.dropLast,?_⟩;have jQ:s≠[]:=by rintro rfl;simp at h
 have h2:QZ s=s.getLast jQ:=by
  rw[QZ,List.getLast_eq_getElem,getElem?_eq_getElem (by omega)];rfl
 rw[h2];exact(List.dropLast_concat_getLast jQ).symm
def prK(l:List Node)(s:List Opn):List UInt8:=s.flatMap fun x=>x.kids.flatMap (pr l)
def Q69(s:List Opn):Nat:=(s.map fun x=>x.kids.length).sum
structure MkInv (m:Mk) (X:List UInt8) (B D:Nat):Prop where
 ar:Ar m.n
 rng:∀x∈m.s,InR m.n x.kids
 p:prK m.n m.s=X
 s1:1<=m.s.length
 n:m.n.length+2 * m.s.length<=B
 d:m.d.length+2 * m.s.length<=D
 k:Q69 m.s+2 * m.s.length<=B
 nm:∀x∈m.s,x.name.length<=1000000
theorem QmL{s:List Opn}{x:Opn}(h:x∈s):x.kids.length<=Q69 s:=by
 induction s with
 |nil=>cases h
 |cons y r ih =>
  simp only[Q69,map_cons,sum_cons]at ih ⊢;rcases List.mem_cons.1 h with rfl|h
  ·omega
  ·have:=ih h;omega
theorem MkInv.ok{m:Mk}{X:List UInt8}{B D:Nat}(h:MkInv m X B D)(hB:B<=900000)(hD:D<=900000):MkOk m :=
 ⟨by have:=h.n;omega,by have:=h.d;omega,by have:=h.n;omega,h.s1,fun x hx=>by have:=h.k;have:=QmL hx;omega⟩
theorem Q1P{m:Mk}{X:List UInt8}{B D:Nat}(h:MkInv m X B D)(t:Txt)(c f u:Int):MkInv (QV t c f u m) X B (D+1) :=
 ⟨h.ar,h.rng,h.p,h.s1,by have:=h.n;show m.n.length+2 * m.s.length<=_;omega,by have:=h.d;show(m.d++_).length+2 * m.s.length<=_;simp;omega,by have:=h.k;show Q69 m.s+2 * m.s.length<=_;omega,h.nm⟩
theorem Qde{l:List Node}(h:Wf l)(x:Node){s:List Opn}(hs:∀y∈s,InR l y.kids):prK (l++[x]) s=prK l s :=
 congrArg List.flatten (map_congr_left fun y hy=>Q76 h x (hs y hy))
theorem Q7f(l:List Node)(s:List Opn)(x:Opn):prK l (s++[x])=prK l s++x.kids.flatMap (pr l):=by simp[prK]
theorem Q3G(s:List Opn)(x:Opn):Q69 (s++[x])=Q69 s+x.kids.length:=by simp[Q69]
theorem Qh8{m:Mk}{X:List UInt8}{B D:Nat}(h:MkInv m X B D){x:Node}{Y:List UInt8}(ha:Ar (m.n++[x]))(hp:pr (m.n++[x]) m.n.length=Y):MkInv (Q3g m.n.length (Q20 x m)) (X++Y) (B+1) D:=by
 obtain⟨s0,q8⟩:=Q2r h.s1;generalize QZ m.s=y at q8
 have e:(Q3g m.n.length (Q20 x m)).s=s0++[⟨y.name,y.kids++[(m.n.length:Int)]⟩]:=by
  show Q2k m.n.length m.s=_;rw[q8,Q2D]
 have en:(Q3g m.n.length (Q20 x m)).n=m.n++[x]:=rfl;have hr:=h.rng;rw[q8]at hr;have vj:∀z∈s0,InR m.n z.kids:=fun z hz=>hr z (mem_append_left _ hz)
 have ya:InR m.n y.kids:=hr y (by simp)
 have h1:=h.n;have h2:=h.d;have h3:=h.k;have h4:=h.p;rw[q8]at h1 h2 h3 h4;rw[Q3G]at h3;rw[Q7f]at h4;simp only[length_append,length_singleton]at h1 h2 h3;have qB:=h.nm;rw[q8]at qB;refine⟨by rw[en];exact ha,fun z hz=>?_,?_,by rw[e];simp,?_,?_,?_,fun z hz=>?_⟩
 ·rw[en]
  rw[e]at hz;rcases mem_append.1 hz with hz|hz
  ·exact(vj z hz).more x
  ·obtain rfl:z=⟨y.name,y.kids++[(m.n.length:Int)]⟩:=by simpa using hz
   intro k hk;rcases mem_append.1 hk with hk|hk
   ·exact ya.more x k hk
   ·obtain rfl:k=(m.n.length:Int):=by simpa using hk
    simp;omega
 ·rw[e,en,Q7f,Qde h.ar.wf x vj]
  simp only[List.flatMap_append,flatMap_cons,flatMap_nil,append_nil];rw[Q76 h.ar.wf x ya,hp,<-List.append_assoc,h4]
 ·rw[e,en];simp only[length_append,length_singleton];omega
 ·rw[e];show m.d.length+_<=_;simp only[length_append,length_singleton];omega
 ·rw[e,Q3G];simp only[length_append,length_singleton];omega
 ·rw[e]at hz
  rcases mem_append.1 hz with hz|hz
  ·exact qB z (mem_append_left _ hz)
  ·obtain rfl:z=⟨y.name,y.kids++[(m.n.length:Int)]⟩:=by simpa using hz
   exact qB y (by simp)
theorem Qbg{m:Mk}{X:List UInt8}{B D:Nat}(h:MkInv m X B D)(t:Txt)(b:List UInt8)(kind f u:Int):MkInv (lkF t b kind f u m) (X++QU t b f u) (B+1) D :=
 Qh8 h (Q4A h.ar kind _).1 (Q4A h.ar kind _).2
theorem QdJ{m:Mk}{X:List UInt8}{B D:Nat}(h:MkInv m X B D)(nm:List Int)(qB:nm.length<=1000000):MkInv { m with s:=m.s++[⟨nm,[]⟩] } X (B+2) (D+2):=by
 have h1:=h.n;have h2:=h.d;have h3:=h.k;refine⟨h.ar,fun z hz=>?_,?_,by simp,?_,?_,?_,fun z hz=>?_⟩
 ·rcases mem_append.1 hz with hz|hz
  ·exact h.rng z hz
  ·obtain rfl:z=⟨nm,[]⟩:=by simpa using hz
   intro k hk;cases hk
 ·rw[Q7f];simpa using h.p
 ·simp only[length_append,length_singleton];omega
 ·simp only[length_append,length_singleton];omega
 ·rw[Q3G];simp only[length_append,length_singleton,List.length_nil];omega
 ·rcases mem_append.1 hz with hz|hz
  ·exact h.nm z hz
  ·obtain rfl:z=⟨nm,[]⟩:=by simpa using hz
   exact qB
theorem Qbe{m:Mk}{X:List UInt8}{B D:Nat}(h:MkInv m X B D)(hs:2<=m.s.length)(kind:Int)(bs:List UInt8){D':Nat}(hD:D<=D'+2):MkInv (Q22 m.n.length (Q20 (QI kind bs) m)) (X++bs) B D'/\(Q22 m.n.length (Q20 (QI kind bs) m)).s.length=m.s.length-1 /\
  InR (m.n++[QI kind bs]) ((QZ m.s).kids++[(m.n.length:Int)])/\(((QZ m.s).kids++[(m.n.length:Int)]).flatMap (pr (m.n++[QI kind bs]))).length<=X.length+bs.length:=by
 obtain⟨s1,jL⟩:=Q2r h.s1;generalize QZ m.s=x at jL;have yi:1<=s1.length:=by rw[jL]at hs;simp at hs;omega
 obtain⟨s0,q8⟩:=Q2r yi;generalize QZ s1=y at q8;subst q8;obtain⟨qw,ye⟩:=Q4A h.ar kind bs;have hr:=h.rng;rw[jL]at hr;have vj:∀z∈s0,InR m.n z.kids:=fun z hz=>hr z (mem_append_left _ (mem_append_left _ hz))
 have ya:InR m.n y.kids:=hr y (mem_append_left _ (by simp))
 have g8:InR m.n x.kids:=hr x (by simp)
 have yk:InR (m.n++[QI kind bs]) (x.kids++[(m.n.length:Int)]):=fun k hk=>by
  rcases mem_append.1 hk with hk|hk
  ·exact g8.more _ k hk
  ·obtain rfl:k=(m.n.length:Int):=by simpa using hk
   simp;omega
 obtain⟨l1,hl⟩:=exq (m.n++[QI kind bs]);obtain⟨yN,gO⟩:=Q6S qw 21 yk;obtain⟨z,hz⟩:=exq (Q1i l1 21 (x.kids++[(m.n.length:Int)]))
 have gX:(x.kids++[(m.n.length:Int)]).flatMap (pr l1)=x.kids.flatMap (pr m.n)++bs:=by
  rw[hl];simp only[List.flatMap_append,flatMap_cons,flatMap_nil,append_nil];rw[Q76 h.ar.wf _ g8,ye]
 rw[<-hl]at qw yN gO yk ⊢;rw[<-hz]at yN gO
 have eT:QZ (Q3g (m.n.length:Int) (Q20 (QI kind bs) m)).s=⟨x.name,x.kids++[(m.n.length:Int)]⟩:=by
  show QZ (Q2k m.n.length m.s)=_;rw[jL,Q2D,Q8k]
 have en:(Q22 m.n.length (Q20 (QI kind bs) m)).n=l1++[z]:=by
  show(m.n++[QI kind bs])++[Q1i (m.n++[QI kind bs]) 21 (QZ (Q3g (m.n.length:Int) (Q20 (QI kind bs) m)).s).kids]=_
  rw[eT,<-hl,<-hz]
 have es:(Q22 m.n.length (Q20 (QI kind bs) m)).s=s0++[⟨y.name,y.kids++[(l1.length:Int)]⟩]:=by
  show Q2k ((m.n++[QI kind bs]).length:Int) ((Q2k m.n.length m.s).take ((Q2k m.n.length m.s).length-1))=_
  have e2:(Q2k m.n.length m.s).take ((Q2k m.n.length m.s).length-1)=s0++[y]:=by
   rw[jL,Q2D,show(s0++[y]++[(⟨x.name,x.kids++[(m.n.length:Int)]⟩:Opn)]).length-1=(s0++[y]).length by simp]
   exact List.take_left
  rw[e2,Q2D,hl]
 have h1:=h.n;have h2:=h.d;have h3:=h.k;have h4:=h.p;rw[jL]at h1 h2 h3 h4;rw[Q3G,Q3G]at h3;rw[Q7f,Q7f]at h4;simp only[length_append,length_singleton]at h1 h2 h3;have nW:l1.length=m.n.length+1:=by rw[hl];simp
 have qB:=h.nm;rw[jL]at qB;refine⟨⟨by rw[en];exact yN,fun q hq=>?_,?_,by rw[es];simp,?_,?_,?_,fun q hq=>?_⟩,by rw[es,jL];simp,yk,?_⟩
 ·rw[en]
  rw[es]at hq
  have up:∀{ks:List Int},InR m.n ks->InR (l1++[z]) ks:=fun hk=>by
   rw[hl];exact(hk.more _).more _
  rcases mem_append.1 hq with hq|hq
  ·exact up (vj q hq)
  ·obtain rfl:q=⟨y.name,y.kids++[(l1.length:Int)]⟩:=by simpa using hq
   intro k hk;rcases mem_append.1 hk with hk|hk
   ·exact up ya k hk
   ·obtain rfl:k=(l1.length:Int):=by simpa using hk
    simp;omega
 ·have up0:prK (l1++[z]) s0=prK m.n s0:=by
   rw[Qde qw.wf z (fun q hq=>by rw[hl];exact(vj q hq).more _),hl,Qde h.ar.wf _ vj]
  have upy:y.kids.flatMap (pr (l1++[z]))=y.kids.flatMap (pr m.n):=by
   rw[Q76 qw.wf z (by rw[hl];exact ya.more _),hl,Q76 h.ar.wf _ ya]
  rw[es,en,Q7f,up0];simp only[List.flatMap_append,flatMap_cons,flatMap_nil,append_nil];rw[upy,gO,gX,<-h4];simp only[List.append_assoc]
 ·rw[es,en];simp only[length_append,length_singleton];omega
 ·rw[es];show m.d.length+_<=_;simp only[length_append,length_singleton];omega
 ·rw[es,Q3G];simp only[length_append,length_singleton];omega
 ·rw[es]at hq
  rcases mem_append.1 hq with hq|hq
  ·exact qB q (mem_append_left _ (mem_append_left _ hq))
  ·obtain rfl:q=⟨y.name,y.kids++[(l1.length:Int)]⟩:=by simpa using hq
   exact qB y (mem_append_left _ (by simp))
 ·rw[gX,<-h4]
  simp only[length_append];omega
theorem Q5D{m:Mk}{X:List UInt8}{B D:Nat}(h:MkInv m X B D)(hs:2<=m.s.length)(t:Txt)(at_:Int):MkInv (Q3l t at_ m) X B D/\(Q3l t at_ m).s.length=m.s.length-1 /\
  InR (m.n++[QI 22 []]) ((QZ m.s).kids++[(m.n.length:Int)])/\(((QZ m.s).kids++[(m.n.length:Int)]).flatMap (pr (m.n++[QI 22 []]))).length<=X.length:=by
 have:=Qbe (Q1P h t 4 at_ at_) hs 22 [] (D':=D) (by omega)
 rw[append_nil]at this;exact this
theorem Qa6(t:Txt)(f u:Int):(Qs t f u).length<=t.r.length:=by
 rw[Qs,length_take,length_drop];omega
theorem Q85(t:Txt)(a:Int)(m:Mk):(Q3l t a m).s.length=m.s.length-1:=by
 show(Q2k _ ((Q2k _ m.s).take ((Q2k _ m.s).length-1))).length=_
 rw[QaB,length_take,QaB];omega
theorem Q9g{t:Txt}{f:Int}{k:Nat}{x:Mk}(h:k<x.s.length-1):missGo t f k x.s.length x=missGo t f k (Q3l t f x).s.length (Q3l t f x):=by
 obtain⟨n,hn⟩:∃n,x.s.length=n+1:=⟨x.s.length-1,by omega⟩
 rw[Q85,hn];rw[hn]at h;show(if k<x.s.length-1 then _ else _)=_
 rw[hn,if_pos h];rfl
theorem Q9T{t:Txt}{f:Int}{k:Nat}{x:Mk}(h:¬k<x.s.length-1):missGo t f k x.s.length x=x:=by
 cases hn:x.s.length with
 |zero=>rfl
 |succ n =>
  show(if k<x.s.length-1 then _ else _)=_
  rw[if_neg h]
theorem MkInv.sum{l:List Node}(h:Ar l){ks:List Int}(hk:InR l ks){n:Nat}(hn:(ks.flatMap (pr l)).length<=n)(h2:n<=2147483647):Q1Z l ks<=2147483647:=by
 rw[Q8u h.wide hk];omega
theorem MkInv.top{m:Mk}{X:List UInt8}{B D:Nat}(h:MkInv m X B D):InR m.n (QZ m.s).kids:=by
 obtain⟨s0,q8⟩:=Q2r h.s1;refine h.rng _ ?_;rw[q8,Q8k];simp
theorem Qk8(t:Txt)(b:List UInt8)(rt:Int){m:Mk}{X:List UInt8}{B D:Nat}(h:MkInv m X B D)(hB:B<=900000)(hD:D<=900000)(hX:X.length<=1000000)(a:Int)(ha:0<=a/\a<t.off.length)(hs:2<=m.s.length) :
  BCall prog 89 [.box 0 0,.val (.int .i64 a)] (obT 0 t b rt m) (.tup []) (obT 1 t b rt (Q3l t a m)):=by
 have ok:=h.ok hB hD;obtain⟨_,_,h3,h4⟩:=Q5D h hs t a;have qw:=(Q4A h.ar 22 []).1;exact Qo8 t b rt m (by have:=ok.d;omega) a ha hs (by have:=ok.s;omega) (fun x hx=>by have:=ok.k x hx;omega) (by have:=ok.n;omega) qw.ok h.top (MkInv.sum qw h3 h4 (by omega))
theorem QoK(t:Txt)(b:List UInt8)(rt:Int){m:Mk}{X:List UInt8}{B D:Nat}(h:MkInv m X B D)(hB:B<=900000)(hD:D<=900000)(hX:X.length<=1000000)(hs:2<=m.s.length)(kind:Int)(bs:List UInt8)(k7:bs.length<=1000000) :
  BCall prog 139 [.box 0 0,.val (.int .i64 m.n.length)] (obT 0 t b rt (Q20 (QI kind bs) m)) (.tup []) (obT 1 t b rt (Q22 m.n.length (Q20 (QI kind bs) m))):=by
 have ok:=h.ok hB hD;obtain⟨_,_,h3,h4⟩:=Qbe h hs kind bs (D':=D) (by omega)
 have qw:=(Q4A h.ar kind bs).1;exact QjJ t b rt (Q20 (QI kind bs) m) hs (by have:=ok.s;show m.s.length<=_;omega) (fun x hx=>by have:=ok.k x hx;omega) (by have:=ok.n;show(m.n++_).length<=_;simp;omega) qw.ok m.n.length h3 (MkInv.sum qw h3 h4 (by omega))
def Q5I(t:Txt)(a:Int)(N D S:List AV):List AV:=Q3 (Q3l t a (mkB N D S)).n
def Q5B(t:Txt)(a:Int)(N D S:List AV):List AV:=Qk (Q3l t a (mkB N D S)).d
def Q5J(t:Txt)(a:Int)(N D S:List AV):List AV:=Qi (Q3l t a (mkB N D S)).s
def Qdo(p:Pr)(nm:Int->Int->List AV)(wr:Int->Int->Int->List AV->List AV)(lf:Int->Int->Int->List AV->List AV)(kd:Int->List AV->List AV)(eq:List AV->List AV->Bool)(mn md ms sn ss:Int->List AV->List AV->List AV->List AV):Nat->List AV->List Ob->Option (AV×List Ob):=fun f args ob=>match f,args with
 |135,[.box 0 0,.agg [_,.val (.int .i64 f),.val (.int .i64 u),_]]=>some (.slc 1 (nm f u),ob)
 |134,[.box 0 0,.val (.int .i64 c),.val (.int .i64 f),.val (.int .i64 u)]=>Q3K ob fun b k m r o rt N D S=>some (.tup [],obM 1 b k m r o rt N (wr c f u D) S)
 |138,[.box 0 0,.agg [.val (.int .i64 kind),.val (.int .i64 f),.val (.int .i64 u),_]]=>Q3K ob fun b k m r o rt N D S=>some (.val (.int .i64 (p.len N)),obM 1 b k m r o rt (lf kind f u N) D S)
 |42,[.box 0 0,.val (.int .i64 n)]=>Q3K ob fun b k m r o rt N D S=>some (.tup [],obM 1 b k m r o rt N D (kd n S))
 |178,[.slc 1 x,.slc 1 y]=>some (.val (.bool (eq x y)),[])
 |89,[.box 0 0,.val (.int .i64 a)]=>Q3K ob fun b k m r o rt N D S=>some (.tup [],obM 1 b k m r o rt (mn a N D S) (md a N D S) (ms a N D S))
 |139,[.box 0 0,.val (.int .i64 n)]=>Q3K ob fun b k m r o rt N D S=>some (.tup [],obM 1 b k m r o rt (sn n N D S) D (ss n N D S))
 |_,_=>none
def eqA(x y:List AV):Bool:=decide (x.map intOf=y.map intOf)
theorem Qjz(x y:List Int):eqA (Q0 x) (Q0 y)=decide (x=y):=by rw[eqA,Q44,Q44]
theorem Qm3(l:List Int):Q2x (slR l)=Q0 l:=by cases l<;>rfl
theorem QoH(l:List Int):slR l=.slc 1 (Q0 l)\/slR l=.val (.slice none 0 0):=by
 cases l with
 |nil=>exact .inr rfl
 |cons x r=>exact .inl rfl
def Q6f(s:List Opn)(k:Int):Opn:=s[k.toNat]?.getD ⟨[],[]⟩
theorem QoZ{s:List Opn}{k:Int}(h0:0<=k)(h1:k<s.length):(Qi s).getD k.toNat .dead=(Q6f s k).av:=by
 have:k.toNat<s.length:=by omega
 simp[Qi,Q6f,this]
theorem Q9Y{s:List Opn}{nm:List Int}{k:Int}(h:0<k):Q2g s nm k.toNat=if(Q6f s k).name=nm then k.toNat else Q2g s nm (k-1).toNat:=by
 obtain⟨n,hn⟩:∃n:Nat,k.toNat=n+1:=⟨k.toNat-1,by omega⟩
 rw[Q6f,show(k-1).toNat=n by omega,hn];rfl
theorem Qh4(t:Txt)(a:Int)(m:Mk):Q5I t a (Q3 m.n) (Qk m.d) (Qi m.s)=Q3 (Q3l t a m).n:=by rw[Q5I,Q2m]
theorem Qht(t:Txt)(a:Int)(m:Mk):Q5B t a (Q3 m.n) (Qk m.d) (Qi m.s)=Qk (Q3l t a m).d:=by rw[Q5B,Q2m]
theorem Qhi(t:Txt)(a:Int)(m:Mk):Q5J t a (Q3 m.n) (Qk m.d) (Qi m.s)=Qi (Q3l t a m).s:=by rw[Q5J,Q2m]
theorem QnD(l:Int)(y:Node)(m:Mk):Q7P l (Q3 (m.n++[y])) (Qk m.d) (Qi m.s)=Q3 (Q22 l (Q20 y m)).n:=by
 have:=Q2m (Q20 y m)
 rw[Q7P];exact congrArg (fun z=>Q3 (Q22 l z).n) this
theorem Qmk(l:Int)(y:Node)(m:Mk):Q7G l (Q3 (m.n++[y])) (Qk m.d) (Qi m.s)=Qi (Q22 l (Q20 y m)).s:=by
 have:=Q2m (Q20 y m)
 rw[Q7G];exact congrArg (fun z=>Qi (Q22 l z).s) this
theorem Qpu(t:Txt)(b:List UInt8)(hs:Sml t b)(rt:Int)(m:Mk)(X:List UInt8)(B D:Nat)(iv:MkInv m X B D)(hB:B<=800000)(hD:D<=800000)(hX:X.length<=1000000)(kind f u:Int)(wh:Bool)(hi:InT t f u) :
  BCall prog 137 [.box 0 0,.agg [.val (.int .i64 kind),.val (.int .i64 f),.val (.int .i64 u),.val (.bool wh)]] (obT 0 t b rt m) (.tup []) (obT 1 t b rt (Q2Y t b kind f u m)):=by
 have cN:=Qgu t b hs.hr rt m kind f u wh hi.h0 hi.h1 hi.h2;have qQ:=hi.off hs;have ok:=iv.ok (by omega) (by omega)
 unfold obT obM;obtain⟨L,hL⟩:=QE m.s;have slen:=Q3W m.s;refine fnN (Qdo std (nmA t) (wrA t) (lfT t b) kdA eqA (Q5I t) (Q5B t) (Q5J t) Q7P Q7G) func137 rfl fun _ _=>?_
 generalize hN:Q3 m.n=N;generalize zU:Qk m.d=D';generalize hS:Qi m.s=S;generalize vR:Q2 b=B';generalize hR:Q0 t.r=R;generalize hO:Q9 t.off=O;generalize hK:t.kind=K;generalize hM:t.bom=M;with_reducible refine Qqc (nmA t) (wrA t) (lfT t b) kdA eqA (Q5I t) (Q5B t) (Q5J t) Q7P Q7G ?_
 subst hN zU hS vR hR hO hK hM;have jE:std.len (Qi m.s)=L:=by show((Qi m.s).length:Int)=L;rw[slen,hL.eq]
 have k5:1<=L:=by have:=hL.eq;have:=ok.s1;omega
 have hLn:L<=900000:=by have:=hL.eq;have:=ok.s;omega
 refine⟨cN,?_,?_⟩
 ·show(-9223372036854775808:Int)<=std.len (Qi m.s)-1/\std.len (Qi m.s)-1<=(9223372036854775807:Int)
  rw[jE];omega
 obtain⟨nm0,qB⟩:=exq (Qs t f u);have hnmA:nmA t f u=Q0 nm0:=by rw[qB];rfl
 rw[hnmA];refine Q1h (Qdo std (nmA t) (wrA t) (lfT t b) kdA eqA (Q5I t) (Q5B t) (Q5J t) Q7P Q7G) (Int) (fun k=>⟨[(0,.box 0 0),(3,.box 6 0),(4,.slc 1 (Q0 nm0)),(5,.val (.int .i64 k))],[.box [.slc 1 (Q2 b),.box 1 0,.row 5 0],.box [.val (.int .i64 t.kind),.val (.int .i64 t.bom),.slc 1 (Q0 t.r),.slc 1 (Q9 t.off),.box 2 0,.val (.int .i64 rt),.row 4 0],.box [.row 3 0],.row 182 6 false 0 (Q3 m.n),.row 146 3 false 0 (Qk m.d),.row 99 2 false 0 (Qi m.s),.box [.val (.int .i64 kind),.val (.int .i64 f),.val (.int .i64 u),.val (.bool wh)]]⟩) (fun k=>0<=k/\k<=L-1/\Q2g m.s nm0 k.toNat=Q2g m.s nm0 (m.s.length-1)) (fun k=>k.toNat) (L-1) ?_ ?_ ?_
 ·exact⟨by omega,Int.le_refl _,by have:=hL.eq;rw[show(L-1).toNat=m.s.length-1 by omega]⟩
 ·exact⟨[some 0,some 1,some 2,some 3,some 4,some 5,some 6],_,rfl,by simp[Qe,lk,std,slen,hL.eq]⟩
 ·rintro k ⟨qO,jU,jn⟩
  generalize hN:Q3 m.n=N;generalize zU:Qk m.d=D';generalize hS:Qi m.s=S;generalize vR:Q2 b=B';generalize hR:Q0 t.r=R;generalize hO:Q9 t.off=O;generalize hK:t.kind=K;generalize hM:t.bom=M;generalize zV:Q0 nm0=NM;with_reducible refine Qqc (nmA t) (wrA t) (lfT t b) kdA eqA (Q5I t) (Q5B t) (Q5J t) Q7P Q7G ?_
  subst hN zU hS vR hR hO hK hM zV;have qX:k<m.s.length:=by have:=hL.eq;omega
  have jV:=QoZ qO qX
  have kI:std.nth (std.drp (std.cel (std.at_ (Qi m.s) k)) 0) 0=slR (Q6f m.s k).name:=by
   show((((Qi m.s).getD k.toNat .dead).cells).drop 0).getD 0 .dead=_
   rw[jV];rfl
  have zW:std.lst (std.nth (std.drp (std.cel (std.at_ (Qi m.s) k)) 0) 0)=Q0 (Q6f m.s k).name:=by
   show Q2x (std.nth (std.drp (std.cel (std.at_ (Qi m.s) k)) 0) 0)=_;rw[kI,Qm3]
  have z9:(Q6f m.s k).name.length<=1000000000:=by
   have gz:k.toNat<m.s.length:=by omega
   have:=iv.nm (Q6f m.s k) (by rw[Q6f,getElem?_eq_getElem gz];exact getElem_mem gz)
   omega
  have js:nm0.length<=1000000000:=by
   have h3:=Qa6 t f u;have h4:=hs.hr;rw[qB];omega
  have cE:=Qnb (Q6f m.s k).name nm0 z9 js;rw[<-Qjz,<-zW]at cE
  have hq:∀c,std.notB (eqA (std.lst (std.nth (std.drp (std.cel (std.at_ (Qi m.s) k)) 0) 0)) (Q0 nm0))=c->decide ((Q6f m.s k).name=nm0)=!c:=fun c h=>by
   rw[zW,Qjz]at h;have h:(!decide ((Q6f m.s k).name=nm0))=c:=h;rw[<-h,Bool.not_not]
  refine⟨fun hk=>⟨?_,⟨?_,trivial⟩,cE,fun jQ=>⟨?_,k-1,⟨?_,?_,?_⟩,?_,[some 0,some 1,some 2,some 3,some 4,some 5,some 6],_,rfl,by simp[Qe,lk,std]⟩,fun j6=>?_⟩,fun hk=>?_⟩
  ·show 0<=k/\k<std.len (Qi m.s)
   rw[jE];omega
  ·show std.nth (std.drp (std.cel (std.at_ (Qi m.s) k)) 0) 0=.slc 1 (std.lst (std.nth (std.drp (std.cel (std.at_ (Qi m.s) k)) 0) 0))\/std.nth (std.drp (std.cel (std.at_ (Qi m.s) k)) 0) 0=.val (.slice none 0 0)
   rw[zW,kI];exact QoH _
  ·show(-9223372036854775808:Int)<=k-1/\k-1<=(9223372036854775807:Int)
   omega
  ·have:0<k:=of_decide_eq_true hk
   omega
  ·omega
  ·have h1:0<k:=of_decide_eq_true hk
   rw[<-jn,Q9Y (nm:=nm0) h1,if_neg (of_decide_eq_false (hq _ jQ))]
  ·have h1:0<k:=of_decide_eq_true hk
   omega
  ·have h1:0<k:=of_decide_eq_true hk
   have hf:Q2g m.s nm0 (m.s.length-1)=k.toNat:=by rw[<-jn,Q9Y (nm:=nm0) h1,if_pos (of_decide_eq_true (hq _ j6))]
   clear cE hq;have ji:k.toNat≠0:=by omega
   have hE:Q2Y t b kind f u m=Q22 (missGo t f k.toNat m.s.length m).n.length (Q2n t b kind f u (missGo t f k.toNat m.s.length m)):=by
    show(if Q2g m.s (Qs t f u) (m.s.length-1)=0 then _ else _)=_
    rw[<-qB,hf,if_neg ji]
   obtain⟨kn,pz⟩:=exq k.toNat;obtain⟨M0,nA⟩:=exq (missGo t f kn m.s.length m);rw[<-pz,<-nA]at hE;have hkI:k=(kn:Int):=by omega
   rw[hE];clear hE hf jn qX;rw[if_pos trivial];generalize hN:Q3 m.n=N;generalize zU:Qk m.d=D';generalize hS:Qi m.s=S;generalize vR:Q2 b=B';generalize hR:Q0 t.r=R;generalize hO:Q9 t.off=O;generalize hK:t.kind=K;generalize hM:t.bom=M;generalize zV:Q0 nm0=NM;with_reducible refine Qqc (nmA t) (wrA t) (lfT t b) kdA eqA (Q5I t) (Q5B t) (Q5J t) Q7P Q7G ?_
   subst hN zU hS vR hR hO hK hM zV;refine⟨fun hz=>?_,fun _=>?_⟩
   ·have hz:(k == 0)=true:=hz
    have:k=0:=by simpa using hz
    omega
   refine Q1h (Qdo std (nmA t) (wrA t) (lfT t b) kdA eqA (Q5I t) (Q5B t) (Q5J t) Q7P Q7G) (Mk) (fun x=>⟨[(0,.box 0 0),(3,.box 6 0),(5,.val (.int .i64 k))],[.box [.slc 1 (Q2 b),.box 1 0,.row 5 1],.box [.val (.int .i64 t.kind),.val (.int .i64 t.bom),.slc 1 (Q0 t.r),.slc 1 (Q9 t.off),.box 2 0,.val (.int .i64 rt),.row 4 1],.box [.row 3 1],.row 182 6 false 1 (Q3 x.n),.row 146 3 false 1 (Qk x.d),.row 99 2 false 1 (Qi x.s),.box [.val (.int .i64 kind),.val (.int .i64 f),.val (.int .i64 u),.val (.bool wh)]]⟩) (fun x=>MkInv x X B D/\kn+1<=x.s.length/\missGo t f kn x.s.length x=M0) (fun x=>x.s.length) m ?_ ?_ ?_
   ·exact⟨iv,by have:=hL.eq;omega,nA.symm⟩
   ·exact⟨[some 0,some 1,some 2,some 3,some 4,some 5,some 6],_,rfl,by simp[Qe,lk,std]⟩
   ·rintro x ⟨hv,yx,yj⟩
    have okx:=hv.ok (by omega) (by omega)
    have xlen:=Q3W x.s;obtain⟨LX,za⟩:=QE x.s;generalize hN:Q3 x.n=N;generalize zU:Qk x.d=D';generalize hS:Qi x.s=S;generalize vR:Q2 b=B';generalize hR:Q0 t.r=R;generalize hO:Q9 t.off=O;generalize hK:t.kind=K;generalize hM:t.bom=M;with_reducible refine Qqc (nmA t) (wrA t) (lfT t b) kdA eqA (Q5I t) (Q5B t) (Q5J t) Q7P Q7G ?_
    subst hN zU hS vR hR hO hK hM;have zq:std.len (Qi x.s)=LX:=by show((Qi x.s).length:Int)=LX;rw[xlen,za.eq]
    have hX1:1<=LX/\LX<=900000:=by have:=za.eq;have:=okx.s;have:=okx.s1;omega
    simp only[Qh4,Qht,Qhi];refine⟨?_,fun vr=>?_,fun jJ=>?_⟩
    ·show(-9223372036854775808:Int)<=std.len (Qi x.s)-1/\std.len (Qi x.s)-1<=(9223372036854775807:Int)
     rw[zq];omega
    ·have vr:k<std.len (Qi x.s)-1:=of_decide_eq_true vr
     rw[zq]at vr;have jU:kn<x.s.length-1:=by have:=za.eq;omega
     have g9:2<=x.s.length:=by omega
     have c:=Qk8 t b rt hv (by omega) (by omega) hX f qQ.1 g9
     refine⟨c,Q3l t f x,⟨(Q5D hv g9 t f).1,by rw[Q85];omega,by rw[<-Q9g jU];exact yj⟩,by rw[Q85];omega,[some 0,some 1,some 2,some 3,some 4,some 5,some 6],_,rfl,by simp[Qe,lk,std]⟩
    ·have jJ:¬k<std.len (Qi x.s)-1:=of_decide_eq_false jJ
     rw[zq]at jJ;have jU:¬kn<x.s.length-1:=by have:=za.eq;omega
     have yf:x=M0:=by rw[<-yj,Q9T jU]
     subst yf;have g9:2<=x.s.length:=by omega
     have cL:=QaS t b hs.hb hs.ok hs.hr rt x (by have:=okx.n;omega) kind f u wh hi.h0 hi.h1 hi.h2
     have cS:=QoK t b rt hv (by omega) (by omega) hX g9 kind (QU t b f u) (by have:=Qcn t b f u;have:=hs.hb;omega)
     simp only[obT,obM,Q2n]at cL cS ⊢;clear jJ zq hX1 jU g9 yj yx hkI pz zW kI jV;rw[if_pos trivial];generalize hN:Q3 x.n=N;generalize zU:Qk x.d=D';generalize hS:Qi x.s=S;generalize vR:Q2 b=B';generalize hR:Q0 t.r=R;generalize hO:Q9 t.off=O;generalize hK:t.kind=K;generalize hM:t.bom=M;with_reducible refine Qqc (nmA t) (wrA t) (lfT t b) kdA eqA (Q5I t) (Q5B t) (Q5J t) Q7P Q7G ?_
     subst hN zU hS vR hR hO hK hM;simp only[std,Qbb,Q1o,QnD,Qmk];refine⟨cL,cS,[some 0,some 1,some 2,some 3,some 4,some 5],.tup [],_,rfl,rfl,le_of_ble_eq_true rfl,rfl,?_,trivial⟩;simp[Qe];rfl
  ·have hk:¬0<k:=of_decide_eq_false hk
   have nB:k=0:=by omega
   have hf:Q2g m.s nm0 (m.s.length-1)=0:=by rw[<-jn,nB];rfl
   have hE:Q2Y t b kind f u m=lkF t b kind f u (QV t 3 f u m):=by
    show(if Q2g m.s (Qs t f u) (m.s.length-1)=0 then _ else _)=_
    rw[<-qB,hf,if_pos rfl]
   rw[hE];clear cE hq hE hf jn qX zW kI jV z9 js;rw[if_pos trivial];generalize hN:Q3 m.n=N;generalize zU:Qk m.d=D';generalize hS:Qi m.s=S;generalize vR:Q2 b=B';generalize hR:Q0 t.r=R;generalize hO:Q9 t.off=O;generalize hK:t.kind=K;generalize hM:t.bom=M;generalize zV:Q0 nm0=NM;with_reducible refine Qqc (nmA t) (wrA t) (lfT t b) kdA eqA (Q5I t) (Q5B t) (Q5J t) Q7P Q7G ?_
   subst hN zU hS vR hR hO hK hM zV;refine⟨fun _=>?_,fun hz=>?_⟩
   ·have hd:=ok.d
    have cW:=Q9C t b rt m (by omega) 3 f u qQ.1 qQ.2
    have cL:=QaS t b hs.hb hs.ok hs.hr rt (QV t 3 f u m) (by have:=ok.n;show m.n.length<=_;omega) kind f u wh hi.h0 hi.h1 hi.h2
    have cK:=QaH t b rt (Q2n t b kind f u (QV t 3 f u m)) (by have:=ok.s1;exact this) (by have:=ok.s;show m.s.length<=_;omega) (by have:=ok.top;show(QZ m.s).kids.length<=_;omega) m.n.length
    simp only[obT,obM,Q2n,Q20,Q3g,QV,lkF]at cW cL cK ⊢;simp only[std,Qbb,Q9X,QaD,Q1o];exact⟨cW,cL,cK,[some 0,some 1,some 2,some 3,some 4,some 5],.tup [],_,rfl,rfl,le_of_ble_eq_true rfl,rfl,by simp[Qe],trivial⟩
   ·have hz:(k == 0)=false:=hz
    rw[nB]at hz;cases hz
end
theorem MkInv.mono{m:Mk}{X:List UInt8}{B D B' D':Nat}(h:MkInv m X B D)(hB:B<=B')(hD:D<=D'):MkInv m X B' D' :=
 ⟨h.ar,h.rng,h.p,h.s1,le_trans h.n hB,le_trans h.d hD,le_trans h.k hB,h.nm⟩
theorem Qc9{m:Mk}{X:List UInt8}{B D:Nat}(h:MkInv m X B D)(t:Txt)(b:List UInt8)(hr:t.r.length<=1000000)(kind f u:Int):MkInv (Q1G t b kind f u m) (X++QU t b f u) (B+3) (D+2):=by
 unfold Q1G;split
 ·exact(Qbg (Q1P h t 5 f u) t b kind f u).mono (by omega) (by omega)
 ·exact Qbg (QdJ h (Qs t f u) (le_trans (Qa6 t f u) hr)) t b kind f u
theorem Q7R(t:Txt)(f:Int)(k:Nat){X:List UInt8}{B D:Nat}:∀(n:Nat)(m:Mk),MkInv m X B D->k+1<=m.s.length->m.s.length<=n+k+1->MkInv (missGo t f k n m) X B D/\(missGo t f k n m).s.length=k+1
 |0,m,h,h1,h2=>⟨h,by show m.s.length=_;omega⟩
 |n+1,m,h,h1,h2=>by
  show MkInv (if _ then _ else _) X B D/\(if _ then _ else _:Mk).s.length=_;split
  ·have h3:=Q5D h (by omega) t f
   exact Q7R t f k n _ h3.1 (by omega) (by omega)
  ·exact⟨h,by omega⟩
theorem Q61(s:List Opn)(nm:List Int):∀k,Q2g s nm k<=k
 |0=>le_refl _
 |k+1=>by
  unfold Q2g;split
  ·exact le_refl _
  ·exact Nat.le_succ_of_le (Q61 s nm k)
theorem QgT{m:Mk}{X:List UInt8}{B D:Nat}(h:MkInv m X B D)(t:Txt)(b:List UInt8)(kind f u:Int):MkInv (Q2Y t b kind f u m) (X++QU t b f u) (B+1) (D+1):=by
 unfold Q2Y;have h1:=h.s1;have h2:=Q61 m.s (Qs t f u) (m.s.length-1);simp only
 split
 ·exact Qbg (Q1P h t 3 f u) t b kind f u
 ·obtain⟨h3,h4⟩:=Q7R t f (Q2g m.s (Qs t f u) (m.s.length-1)) m.s.length m h (by omega) (by omega)
  exact(Qbe h3 (by omega) kind (QU t b f u) (D':=D) (by omega)).1.mono (by omega) (by omega)
theorem QhK{m:Mk}{X:List UInt8}{B D:Nat}(h:MkInv m X B D)(t:Txt)(b:List UInt8)(hr:t.r.length<=1000000)(kind f u:Int)(wh:Bool):MkInv (Q26 t b kind f u wh m) (X++QU t b f u) (B+3) (D+3):=by
 unfold Q26;simp only
 generalize qF:(if wh=false then QV t 1 f u m else if(kind=8\/kind=9\/kind=10)/\(QD t.r f u).right=false then QV t 2 f u m else m)=m1
 have h1:MkInv m1 X B (D+1):=by
  rw[<-qF];split
  ·exact Q1P h t 1 f u
  ·split
   ·exact Q1P h t 2 f u
   ·exact h.mono (by omega) (by omega)
 split
 ·exact(Qc9 h1 t b hr kind f u).mono (by omega) (by omega)
 ·split
  ·exact(QgT h1 t b kind f u).mono (by omega) (by omega)
  ·exact(Qbg h1 t b kind f u).mono (by omega) (by omega)
def Q6y(t:Txt)(b:List UInt8)(k:Int):List UInt8:=b.take (Q1s t k).toNat
theorem Q7B{t:Txt}{b:List UInt8}(ok:TxtOk t b){f u:Int}(h0:0<=f)(h1:f<=u)(h2:u<=t.r.length):Q6y t b f++QU t b f u=Q6y t b u:=by
 have hm:=ok.mono f.toNat u.toNat (by omega) (by omega)
 have jE:=ok.len;have hf:f.toNat<t.off.length:=by omega
 have h3:=ok.range (t.off[f.toNat]'hf) (getElem_mem hf);have e3:t.off[f.toNat]?.getD 0=t.off[f.toNat]:=by rw[getElem?_eq_getElem hf];rfl
 rw[<-e3]at h3;show b.take (t.off[f.toNat]?.getD 0).toNat++(b.drop (t.off[f.toNat]?.getD 0).toNat).take _=b.take (t.off[u.toNat]?.getD 0).toNat;generalize t.off[f.toNat]?.getD 0=p at *;generalize t.off[u.toNat]?.getD 0=q at *;rw[show q.toNat=p.toNat+(q-p).toNat by omega,List.take_add]
theorem QaE{t:Txt}{b:List UInt8}(ok:TxtOk t b):Q6y t b t.r.length=b:=by
 rw[Q6y,Q1s,Int.toNat_natCast,ok.last,Int.toNat_natCast,List.take_length]
def Q7k(t:Txt)(b:List UInt8)(m:Mk)(x:Tok):Mk:=Q26 t b x.kind x.from_ x.to x.whole m
theorem Q9S(l:List Int){k:Nat}(h:k<l.length):(Q1m l k).from_=k/\(Q1m l k).to=((Ql l k).2.1:Nat)/\k<(Ql l k).2.1/\(Ql l k).2.1<=l.length:=⟨rfl,rfl,Q2E l k h⟩
def Q8R(t:Txt)(b:List UInt8)(m:Mk):Mk :=
 let m1:=(Q1r t.r).foldl (Q7k t b) m
 missGo t t.r.length 0 m1.s.length m1
def QL(m:Mk):Mk:=Q20 (Q1i m.n 20 (QZ m.s).kids) m
theorem QgY{l:List Node}(h:Wf l)(x:Node):∀(f:Nat)(n:Int),0<=n->n<l.length->coF (l++[x]) f n=coF l f n
 |0,_,_,_=>rfl
 |f+1,n,h0,h1=>by
  simp only[coF,Q43 h0 h1];congr 2
  refine map_congr_left fun k hk=>?_
  have:=h n h0 h1 k hk
  exact QgY h x f k this.1 (by omega)
theorem Qp0{l:List Node}(h:Wf l)(x:Node){n:Int}(h0:0<=n)(h1:n<l.length):co (l++[x]) n=co l n:=QgY h x _ n h0 h1
def coL(l:List Node)(ks:List Int):Nat:=(ks.map (co l)).sum
theorem Q70{l:List Node}(h:Wf l)(x:Node){ks:List Int}(hk:InR l ks):coL (l++[x]) ks=coL l ks :=
 congrArg List.sum (map_congr_left fun k yA=>Qp0 h x (hk k yA).1 (hk k yA).2)
theorem QcL{l:List Node}(h:Wf l){x:Node}(hx:InR l x.kids):co (l++[x]) l.length=1+coL l x.kids:=by
 rw[Qbd (Qdj h hx) (by omega) (by simp only[length_append,length_singleton];omega),Q36]
 exact congrArg (1 + ·) (Q70 h x hx)
theorem Q9K(l:List Node)(a b:List Int):coL l (a++b)=coL l a+coL l b:=by simp[coL]
theorem Q9F(l:List Node)(k:Int):coL l [k]=co l k:=by simp[coL]
def coK(l:List Node)(s:List Opn):Nat:=(s.map fun x=>coL l x.kids).sum
theorem Q6X(l:List Node)(s:List Opn)(x:Opn):coK l (s++[x])=coK l s+coL l x.kids:=by simp[coK]
theorem Qdc{l:List Node}(h:Wf l)(x:Node){s:List Opn}(hs:∀y∈s,InR l y.kids):coK (l++[x]) s=coK l s :=
 congrArg List.sum (map_congr_left fun y hy=>Q70 h x (hs y hy))
def Qaf(m:Mk):Prop:=coK m.n m.s<=m.n.length
theorem QmP{m:Mk}(h:Qaf m)(nm:List Int):Qaf { m with s:=m.s++[⟨nm,[]⟩] }:=by
 show coK m.n (m.s++[⟨nm,[]⟩])<=_;have h:coK m.n m.s<=m.n.length:=h;rw[Q6X];simpa[coL]using h
theorem Q7Q{m:Mk}{X:List UInt8}{B D:Nat}(h:MkInv m X B D)(hc:Qaf m)(kind:Int)(bs:List UInt8):Qaf (Q3g m.n.length (Q20 (QI kind bs) m)):=by
 obtain⟨s0,q8⟩:=Q2r h.s1;generalize QZ m.s=y at q8;have hr:=h.rng;rw[q8]at hr;have vj:∀z∈s0,InR m.n z.kids:=fun z hz=>hr z (mem_append_left _ hz)
 have ya:InR m.n y.kids:=hr y (by simp)
 have hx:InR m.n (QI kind bs).kids:=fun k hk=>by cases hk
 have hc:coK m.n m.s<=m.n.length:=hc;rw[q8,Q6X]at hc;show coK (m.n++[QI kind bs]) (Q2k m.n.length m.s)<=(m.n++[QI kind bs]).length;rw[q8,Q2D,Q6X,Q9K,Q9F,Qdc h.ar.wf _ vj,Q70 h.ar.wf _ ya,QcL h.ar.wf hx];have:coL m.n (QI kind bs).kids=0:=rfl
 rw[this];simp only[length_append,length_singleton];omega
theorem QgF{m:Mk}{X:List UInt8}{B D:Nat}(h:MkInv m X B D)(hc:Qaf m)(hs:2<=m.s.length)(kind:Int)(bs:List UInt8):Qaf (Q22 m.n.length (Q20 (QI kind bs) m)):=by
 obtain⟨s1,jL⟩:=Q2r h.s1;generalize QZ m.s=x at jL;have yi:1<=s1.length:=by rw[jL]at hs;simp at hs;omega
 obtain⟨s0,q8⟩:=Q2r yi;generalize QZ s1=y at q8;subst q8;have qw:=(Q4A h.ar kind bs).1;have hr:=h.rng;rw[jL]at hr;have vj:∀z∈s0,InR m.n z.kids:=fun z hz=>hr z (mem_append_left _ (mem_append_left _ hz))
 have ya:InR m.n y.kids:=hr y (mem_append_left _ (by simp))
 have g8:InR m.n x.kids:=hr x (by simp)
 have hx:InR m.n (QI kind bs).kids:=fun k hk=>by cases hk
 have yk:InR (m.n++[QI kind bs]) (x.kids++[(m.n.length:Int)]):=fun k hk=>by
  rcases mem_append.1 hk with hk|hk
  ·exact g8.more _ k hk
  ·obtain rfl:k=(m.n.length:Int):=by simpa using hk
   simp;omega
 obtain⟨l1,hl⟩:=exq (m.n++[QI kind bs]);obtain⟨z,hz⟩:=exq (Q1i l1 21 (x.kids++[(m.n.length:Int)]))
 have e1:coL l1 (x.kids++[(m.n.length:Int)])=coL m.n x.kids+1:=by
  rw[hl,Q9K,Q9F,Q70 h.ar.wf _ g8,QcL h.ar.wf hx];rfl
 have eT:QZ (Q3g (m.n.length:Int) (Q20 (QI kind bs) m)).s=⟨x.name,x.kids++[(m.n.length:Int)]⟩:=by
  show QZ (Q2k m.n.length m.s)=_;rw[jL,Q2D,Q8k]
 have en:(Q22 m.n.length (Q20 (QI kind bs) m)).n=l1++[z]:=by
  show(m.n++[QI kind bs])++[Q1i (m.n++[QI kind bs]) 21 (QZ (Q3g (m.n.length:Int) (Q20 (QI kind bs) m)).s).kids]=_
  rw[eT,<-hl,<-hz]
 have es:(Q22 m.n.length (Q20 (QI kind bs) m)).s=s0++[⟨y.name,y.kids++[(l1.length:Int)]⟩]:=by
  show Q2k ((m.n++[QI kind bs]).length:Int) ((Q2k m.n.length m.s).take ((Q2k m.n.length m.s).length-1))=_
  have e2:(Q2k m.n.length m.s).take ((Q2k m.n.length m.s).length-1)=s0++[y]:=by
   rw[jL,Q2D,show(s0++[y]++[(⟨x.name,x.kids++[(m.n.length:Int)]⟩:Opn)]).length-1=(s0++[y]).length by simp]
   exact List.take_left
  rw[e2,Q2D,hl]
 rw[<-hl]at qw yk;have hzk:InR l1 z.kids:=by rw[hz];exact yk
 have hc:coK m.n m.s<=m.n.length:=hc;rw[jL,Q6X,Q6X]at hc
 have up0:coK (l1++[z]) s0=coK m.n s0:=by
  rw[Qdc qw.wf z (fun q hq=>by rw[hl];exact(vj q hq).more _),hl,Qdc h.ar.wf _ vj]
 have upy:coL (l1++[z]) y.kids=coL m.n y.kids:=by
  rw[Q70 qw.wf z (by rw[hl];exact ya.more _),hl,Q70 h.ar.wf _ ya]
 have nW:l1.length=m.n.length+1:=by rw[hl];simp
 show coK (Q22 m.n.length (Q20 (QI kind bs) m)).n (Q22 m.n.length (Q20 (QI kind bs) m)).s<=(Q22 m.n.length (Q20 (QI kind bs) m)).n.length;rw[es,en,Q6X,Q9K,Q9F,up0,upy,QcL qw.wf hzk];have ez:coL l1 z.kids=coL m.n x.kids+1:=by rw[hz];exact e1
 rw[ez];simp only[length_append,length_singleton];omega
structure MkI (m:Mk) (X:List UInt8) (B D:Nat):Prop where
 i:MkInv m X B D
 c:Qaf m
section
variable {m:Mk}{X:List UInt8}{B D:Nat}
theorem MkI.lk(h:MkI m X B D)(t:Txt)(b:List UInt8)(kind f u:Int):MkI (lkF t b kind f u m) (X++QU t b f u) (B+1) D:=⟨Qbg h.i t b kind f u,Q7Q h.i h.c kind _⟩
theorem MkI.wrong(h:MkI m X B D)(t:Txt)(c f u:Int):MkI (QV t c f u m) X B (D+1):=⟨Q1P h.i t c f u,h.c⟩
theorem MkI.start(h:MkI m X B D)(t:Txt)(b:List UInt8)(hr:t.r.length<=1000000)(kind f u:Int):MkI (Q1G t b kind f u m) (X++QU t b f u) (B+3) (D+2):=by
 refine⟨Qc9 h.i t b hr kind f u,?_⟩;unfold Q1G;split
 ·exact((h.wrong t 5 f u).lk t b kind f u).c
 ·exact Q7Q (QdJ h.i (Qs t f u) (le_trans (Qa6 t f u) hr)) (QmP h.c _) kind _
theorem MkI.miss(h:MkI m X B D)(hs:2<=m.s.length)(t:Txt)(a:Int):MkI (Q3l t a m) X B D:=⟨(Q5D h.i hs t a).1,QgF (Q1P h.i t 4 a a) h.c hs 22 []⟩
end
theorem MkI.missGo(t:Txt)(f:Int)(k:Nat){X:List UInt8}{B D:Nat}:∀(n:Nat)(m:Mk),MkI m X B D->k+1<=m.s.length->m.s.length<=n+k+1->MkI (missGo t f k n m) X B D/\(Go.Proofs.YtibemhahkicbpaaGreat.missGo t f k n m).s.length=k+1
 |0,m,h,h1,h2=>⟨h,by show m.s.length=_;omega⟩
 |n+1,m,h,h1,h2=>by
  show MkI (if _ then _ else _) X B D/\(if _ then _ else _:Mk).s.length=_;split
  ·have h3:=Q5D h.i (by omega) t f
   exact MkI.missGo t f k n _ (h.miss (by omega) t f) (by omega) (by omega)
  ·exact⟨h,by omega⟩
section
variable {m:Mk}{X:List UInt8}{B D:Nat}
theorem MkI.end_(h:MkI m X B D)(t:Txt)(b:List UInt8)(kind f u:Int):MkI (Q2Y t b kind f u m) (X++QU t b f u) (B+1) (D+1):=by
 refine⟨QgT h.i t b kind f u,?_⟩;unfold Q2Y;have h1:=h.i.s1;have h2:=Q61 m.s (Qs t f u) (m.s.length-1);simp only
 split
 ·exact((h.wrong t 3 f u).lk t b kind f u).c
 ·obtain⟨h3,h4⟩:=MkI.missGo t f (Q2g m.s (Qs t f u) (m.s.length-1)) m.s.length m h (by omega) (by omega)
  exact QgF h3.i h3.c (by omega) kind _
theorem MkI.token(h:MkI m X B D)(t:Txt)(b:List UInt8)(hr:t.r.length<=1000000)(kind f u:Int)(wh:Bool):MkI (Q26 t b kind f u wh m) (X++QU t b f u) (B+3) (D+3):=by
 refine⟨QhK h.i t b hr kind f u wh,?_⟩;unfold Q26;simp only
 generalize qF:(if wh=false then QV t 1 f u m else if(kind=8\/kind=9\/kind=10)/\(QD t.r f u).right=false then QV t 2 f u m else m)=m1
 have h1:∃D',MkI m1 X B D':=by
  rw[<-qF];split
  ·exact⟨_,h.wrong t 1 f u⟩
  ·split
   ·exact⟨_,h.wrong t 2 f u⟩
   ·exact⟨_,h⟩
 obtain⟨D',h1⟩:=h1;split
 ·exact(h1.start t b hr kind f u).c
 ·split
  ·exact(h1.end_ t b kind f u).c
  ·exact(h1.lk t b kind f u).c
end
theorem QaO{t:Txt}{b:List UInt8}(ok:TxtOk t b)(hr:t.r.length<=1000000):∀(n k:Nat)(m:Mk)(B D:Nat),t.r.length-k<=n->k<=t.r.length->MkI m (Q6y t b k) B D ->
  MkI ((Q1S t.r k).foldl (Q7k t b) m) b (B+3 * n) (D+3 * n)
 |0,k,m,B,D,h,hk,hi=>by
  rw[Q1k (by omega)]
  have:k=t.r.length:=by omega
  subst this;rw[QaE ok]at hi;exact hi
 |n+1,k,m,B,D,h,hk,hi=>by
  by_cases jA:k<t.r.length
  ·obtain⟨h1,h2,h3,h4⟩:=Q9S t.r jA
   rw[Q1O jA,List.foldl_cons];have:=hi.token t b hr (Q1m t.r k).kind (Q1m t.r k).from_ (Q1m t.r k).to (Q1m t.r k).whole
   rw[h1,h2,Q7B ok (by omega) (by omega) (by omega)]at this
   have h5:=QaO ok hr n (Ql t.r k).2.1 _ (B+3) (D+3) (by omega) h4 this
   rw[show B+3 * (n+1)=B+3+3 * n by omega,show D+3 * (n+1)=D+3+3 * n by omega]
   have e:Q7k t b m (Q1m t.r k)=Q26 t b (Q1m t.r k).kind k ((Ql t.r k).2.1:Nat) (Q1m t.r k).whole m:=rfl;rw[e];exact h5
  ·rw[Q1k jA]
   have:k=t.r.length:=by omega
   subst this;rw[QaE ok]at hi;exact⟨hi.i.mono (by omega) (by omega),hi.c⟩
theorem Qda{t:Txt}{b:List UInt8}(ok:TxtOk t b)(hr:t.r.length<=1000000){m:Mk}{B D:Nat}(hi:MkI m (Q6y t b 0) B D) :
  MkI (Q8R t b m) b (B+3 * t.r.length) (D+3 * t.r.length)/\(Q8R t b m).s.length=1:=by
 have h1:=QaO ok hr t.r.length 0 m B D (by omega) (by omega) hi
 have h2:=h1.i.s1;obtain⟨h3,h4⟩:=MkI.missGo t t.r.length 0 _ _ h1 (by omega) (Nat.le_succ _)
 exact⟨h3,h4⟩
theorem Qe5{b:List UInt8}{m:Mk}{B D:Nat}(hi:MkI m b B D)(h1:m.s.length=1) :
  Ar (QL m).n/\pr (QL m).n m.n.length=b/\(Qn (QL m).n m.n.length).width=b.length/\co (QL m).n m.n.length<=1+m.n.length:=by
 have hk:=hi.i.top;obtain⟨ha,hp⟩:=Q6S hi.i.ar 20 hk;obtain⟨s0,q8⟩:=Q2r hi.i.s1
 have hs:s0=[]:=by
  rw[q8]at h1;exact List.eq_nil_of_length_eq_zero (by simpa using h1)
 subst hs
 have hX:(QZ m.s).kids.flatMap (pr m.n)=b:=by
  have:=hi.i.p
  rw[q8]at this;generalize QZ m.s=y at *;simpa[prK]using this
 have hC:coL m.n (QZ m.s).kids<=m.n.length:=by
  have h2:coK m.n m.s<=m.n.length:=hi.c;rw[q8]at h2;generalize QZ m.s=y at *;simpa[coK]using h2
 have jE:(m.n.length:Int)<((QL m).n.length:Int):=by
  show(m.n.length:Int)<((m.n++[_]).length:Int)
  simp only[length_append,length_singleton];omega
 have e2:pr (QL m).n m.n.length=b:=by
  show pr (m.n++[_]) _=_;rw[hp,hX]
 refine⟨ha,e2,?_,?_⟩
 ·have:=ha.wide m.n.length (by omega) jE
  have e3:(Qn (QL m).n m.n.length).width=((pr (QL m).n m.n.length).length:Int):=this;rw[e3,e2]
 ·show co (m.n++[Q1i m.n 20 (QZ m.s).kids]) m.n.length<=_
  rw[QcL hi.i.ar.wf (x:=Q1i m.n 20 (QZ m.s).kids) hk];have:coL m.n (Q1i m.n 20 (QZ m.s).kids).kids<=m.n.length:=hC
  omega
