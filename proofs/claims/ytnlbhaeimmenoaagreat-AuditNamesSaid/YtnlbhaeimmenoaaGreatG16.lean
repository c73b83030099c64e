/- Lemmas, conditions told -/
import Derived.Test.YtnlbhaeimmenoaaGreatG13
import Derived.Test.YtnlbhaeimmenoaaGreatG15
set_option maxRecDepth 99999
set_option maxHeartbeats 0
set_option linter.unusedSimpArgs false
set_option linter.unusedVariables false
namespace Go.Proofs.YtnlbhaeimmenoaaGreat
open List(map_cons length_take length_drop map_take getElem?_eq_getElem getElem_mem length_append length_singleton mem_append map_congr_left sum_cons flatMap_cons mem_append_left flatMap_nil append_nil)
open Nat(le_refl le_of_ble_eq_true le_trans)
open Go.RowKit Go.Lib
def Qos:AV:=.val (.slice none 0 0)
def slR(l:List Int):AV:=match l with|[]=>Qos|l=>.slc 1 (Q0 l)
def slK(l:List Int):AV:=match l with|[]=>Qos|l=>.slc 1 (Q9 l)
structure Opn where
 name:List Int
 kids:List Int
 deriving Inhabited,DecidableEq
def Opn.av(x:Opn):AV:=.agg [slR x.name,slK x.kids]
def Qg(l:List Opn):List AV:=l.map Opn.av
structure Dg where
 f:Int
 t:Int
 c:Int
 deriving Inhabited,DecidableEq
def Dg.av(x:Dg):AV:=.agg [.val (.int .i64 x.f),.val (.int .i64 x.t),.val (.int .i64 x.c)]
def Q11(l:List Dg):List AV:=l.map Dg.av
def QaZ(x:AV):List Int:=(Q2o x).map RowKit.intOf
def Qqw:AV->Opn
 |.agg [a,k]=>⟨QaZ a,QaZ k⟩
 |_=>⟨[],[]⟩
def dgB:AV->Dg
 |.agg [a,b,c]=>⟨RowKit.intOf a,RowKit.intOf b,RowKit.intOf c⟩
 |_=>⟨0,0,0⟩
def QoY:AV->Node
 |.agg [k,w,c,l,b,s]=>⟨RowKit.intOf k,RowKit.intOf w,RowKit.intOf c,Q6a l,(Q2o b).map Q2V,QaZ s⟩
 |_=>Q9h
theorem Q88{α:Type}{f:α->AV}{g:AV->α}(h:∀x,g (f x)=x)(l:List α):(l.map f).map g=l:=by
 induction l with
 |nil=>rfl
 |cons x r ih=>simp only[map_cons,h,ih]
theorem Q8S(l:List Int):(Q9 l).map RowKit.intOf=l:=Q88 (fun _=>rfl) l
theorem Qmm(l:List Int):QaZ (slR l)=l:=by
 cases l with
 |nil=>rfl
 |cons x r=>exact Q51 (x::r)
theorem Qkn(l:List Int):QaZ (slK l)=l:=by
 cases l with
 |nil=>rfl
 |cons x r=>exact Q8S (x::r)
theorem QkT(x:Opn):Qqw x.av=x:=by
 show(⟨QaZ (slR x.name),QaZ (slK x.kids)⟩:Opn)=x
 rw[Qmm,Qkn]
theorem Qnd(x:Dg):dgB x.av=x:=rfl
theorem Qil(x:Node):QoY x.av=x:=by
 show(⟨x.kind,x.width,x.count,x.leaf,(Q4 x.b).map Q2V,(Q9 x.kids).map RowKit.intOf⟩:Node)=x
 rw[Q3u,Q8S]
def Qlk(l:List AV):List Opn:=l.map Qqw
def QpJ(l:List AV):List Dg:=l.map dgB
def QgK(l:List AV):List Node:=l.map QoY
theorem Qco(l:List Opn):Qlk (Qg l)=l:=Q88 QkT l
theorem Qev(l:List Dg):QpJ (Q11 l)=l:=Q88 Qnd l
theorem Qbm(l:List Node):QgK (Q1 l)=l:=Q88 Qil l
theorem Q3K(l:List Opn):(Qg l).length=l.length:=by simp[Qg]
theorem Qn6(l:List Dg):(Q11 l).length=l.length:=by simp[Q11]
structure Mk where
 n:List Node
 d:List Dg
 s:List Opn
 deriving Inhabited
def obM(e:Nat)(b k m r o rt:AV)(N D S:List AV):List Ob :=
 [.box [b,.box 1 0,.row 5 e],.box [k,m,r,o,.box 2 0,rt,.row 4 e],.box [.row 3 e],.row 123 6 false e N,.row 113 3 false e D,.row 69 2 false e S]
def Q3S(ob:List Ob)(f:AV->AV->AV->AV->AV->AV->List AV->List AV->List AV->Option (AV×List Ob)):Option (AV×List Ob):=match ob with
 | [.box [b,.box 1 0,.row 5 0],.box [k,m,r,o,.box 2 0,rt,.row 4 0],.box [.row 3 0],.row 123 6 false 0 N,.row 113 3 false 0 D,.row 69 2 false 0 S]=>f b k m r o rt N D S
 |_=>none
def obT(e:Nat)(t:Txt)(b:List UInt8)(rt:Int)(m:Mk):List Ob :=
 obM e (.slc 1 (Q4 b)) (.val (.int .i64 t.kind)) (.val (.int .i64 t.bom)) (.slc 1 (Q0 t.r)) (.slc 1 (Q9 t.off)) (.val (.int .i64 rt)) (Q1 m.n) (Q11 m.d) (Qg m.s)
def Q2c(t:Txt)(i:Int):Int:=t.off[i.toNat]?.getD 0
def QI(t:Txt)(c f u:Int)(m:Mk):Mk:={ m with d:=m.d++[⟨Q2c t f,Q2c t u,c⟩] }
def QR(s:List Opn):Opn:=s[s.length-1]?.getD ⟨[],[]⟩
def Q1N(n:Int)(s:List Opn):List Opn:=s.set (s.length-1) ⟨(QR s).name,(QR s).kids++[n]⟩
def Q2X(n:Int)(m:Mk):Mk:={ m with s:=Q1N n m.s }
def Q1F(x:Node)(m:Mk):Mk:={ m with n:=m.n++[x] }
def Q2d(t:Txt)(b:List UInt8)(kind f u:Int)(m:Mk):Mk:=Q1F (Qq kind (QQ t b f u)) m
def Qqk(m:Mk):Mk:={ m with s:=m.s.take (m.s.length-1) }
def Q1C(last:Int)(m:Mk):Mk :=
 let m1:=Q2X last m
 Q2X m1.n.length (Q1F (Q15 m1.n 21 (QR m1.s).kids) (Qqk m1))
def Q2n(t:Txt)(at_:Int)(m:Mk):Mk :=
 let m1:=QI t 4 at_ at_ m
 Q1C m1.n.length (Q1F (Qq 22 []) m1)
def QC(t:Txt)(f u:Int):List Int:=(t.r.drop (QB t.r f u).name.from_.toNat).take ((QB t.r f u).name.to-(QB t.r f u).name.from_).toNat
def lkF(t:Txt)(b:List UInt8)(kind f u:Int)(m:Mk):Mk:=Q2X m.n.length (Q2d t b kind f u m)
def Q1k(t:Txt)(b:List UInt8)(kind f u:Int)(m:Mk):Mk :=
 if 64<m.s.length then lkF t b kind f u (QI t 5 f u m)
 else lkF t b kind f u { m with s:=m.s++[⟨QC t f u,[]⟩] }
def Q1H(s:List Opn)(name:List Int):Nat->Nat
 |0=>0
 |k+1=>if(s[k+1]?.getD ⟨[],[]⟩).name=name then k+1 else Q1H s name k
def missGo(t:Txt)(f:Int)(k:Nat):Nat->Mk->Mk
 |0,m=>m
 |n+1,m=>if k<m.s.length-1 then missGo t f k n (Q2n t f m)else m
def Q2u(t:Txt)(b:List UInt8)(kind f u:Int)(m:Mk):Mk :=
 let k:=Q1H m.s (QC t f u) (m.s.length-1)
 if k=0 then lkF t b kind f u (QI t 3 f u m)
 else let m1:=missGo t f k m.s.length m
  Q1C m1.n.length (Q2d t b kind f u m1)
def Q1E(t:Txt)(b:List UInt8)(kind f u:Int)(whole:Bool)(m:Mk):Mk :=
 let tagged:=kind=8\/kind=9\/kind=10
 let m1:=if whole=false then QI t 1 f u m else if tagged/\(QB t.r f u).right=false then QI t 2 f u m else m
 if whole=true/\kind=8/\0<(QC t f u).length then Q1k t b kind f u m1
 else if whole=true/\kind=10 then Q2u t b kind f u m1
 else lkF t b kind f u m1
section
open Tryz
theorem BCall.see{P:Program}{f:Nat}{args:List AV}{ob ob1 ob':List Ob}{res r' res':AV}{l:Eqs}(h:BCall P f args ob res ob1)(ρ:List (Option Nat))(h1:Q2w ρ=true)(h2:QeO ob ob1 ob' ρ=true)(h3:ob.length<=ρ.length)
  (h4:both (Qi7 ob1 ob' ρ res r') (Q87 ob1 ob' ρ ρ ob')=some l) (h5:Qm l) (h6:leA r' res'):BCall P f args ob res' ob':=by
 refine⟨h.1,fun w g vs M hL=>(h.2 w g vs M hL).mono fun e w' ⟨v,g',k1,k2,k3,k4⟩=>?_⟩
 obtain⟨⟨l1,e1,a1⟩,l2,e2,a2⟩:=Q35 h4 h5;have hF:Fits ob1 ob' ρ:=Q4y _ _ _ e2 a2;exact⟨v,g'.ren ρ,k1,k2.ren hF h1,Q9A (Qa5 hF h1 k3 e1 a1) h6,Qfi hF h1 h2 h3 k4⟩
theorem Qms(l:List Int):slK l=.slc 1 (Q9 l)\/(slK l=.val (.slice none 0 0)/\Q9 l=[]):=by
 cases l with
 |nil=>exact .inr ⟨rfl,rfl⟩
 |cons x r=>exact .inl rfl
theorem QhY(l:List Int)(n:Int):slK (l++[n])=.slc 1 (Q9 l++[.val (.int .i64 n)]):=by
 rw[<-QeW,<-Q55];cases l with
 |nil=>rfl
 |cons x r=>rfl
theorem Qla(l:List Opn)(i:Nat)(x:Opn):(Qg l).set i x.av=Qg (l.set i x):=by simp[Qg,List.map_set]
theorem QhO{s:List Opn}(h:1<=s.length):(Qg s)[s.length-1]?=some (QR s).av:=by
 have:s.length-1<s.length:=by omega
 simp[Qg,QR,this]
theorem Qbh(t:Txt)(b:List UInt8)(rt:Int)(m:Mk)(hs:1<=m.s.length)(hn:m.s.length<=1000000)(hk:(QR m.s).kids.length<=1000000)(n:Int) :
  BCall prog 23 [.box 0 0,.val (.int .i64 n)] (obT 0 t b rt m) (.tup []) (obT 1 t b rt (Q2X n m)):=by
 obtain⟨L,hL⟩:=QG m.s;have jf:1<=L:=by rw[hL.eq];omega
 have h:=Qo4 (ob:=obT 0 t b rt m) (k:=5) rfl rfl (i:=L-1) (n:=n) ?_ (by omega) (a:=slR (QR m.s).name) (u:=slK (QR m.s).kids) (us:=Q9 (QR m.s).kids) ?_ (Qms _) (by rw[Q31];exact hk)
 ·have hi:(L-1).toNat=m.s.length-1:=by have:=hL.eq;omega
  rw[hi,<-QhY]at h;have e:∀S,(obT 0 t b rt m).set 5 (.row Q4K 2 false 1 S)=[.box [.slc 1 (Q4 b),.box 1 0,.row 5 0],.box [.val (.int .i64 t.kind),.val (.int .i64 t.bom),.slc 1 (Q0 t.r),.slc 1 (Q9 t.off),.box 2 0,.val (.int .i64 rt),.row 4 0],.box [.row 3 0],.row 123 6 false 0 (Q1 m.n),.row 113 3 false 0 (Q11 m.d),.row 69 2 false 1 S]:=fun _=>rfl
  have e2:=Qla m.s (m.s.length-1) ⟨(QR m.s).name,(QR m.s).kids++[n]⟩;rw[show(AV.agg [slR (QR m.s).name,slK ((QR m.s).kids++[n])])=Opn.av ⟨(QR m.s).name,(QR m.s).kids++[n]⟩ from rfl,e2,e]at h;exact h.see [some 0,some 1,some 2,some 3,some 4,some 5] rfl rfl (le_refl _) (r':=.tup []) rfl (by simp[Qm,Q2X,Q1N]) trivial
 ·intro w0 g0
  unfold obT obM;have hl:=Q3K m.s;with_reducible refine cv8 (Q1 m.n) (Q11 m.d) (Qg m.s) (Q4 b) (Q0 t.r) (Q9 t.off) t.kind t.bom ?_
  have e:std.sub (std.len (Qg m.s)) 1=L-1:=by
   show((Qg m.s).length:Int)-1=L-1
   rw[hl,hL.eq]
  have e2:std.len (Qg m.s)=L:=by
   show((Qg m.s).length:Int)=L
   rw[hl,hL.eq]
  refine⟨?_,?_,rfl,rfl,?_,rfl⟩
  ·show -9223372036854775808<=std.sub (std.len (Qg m.s)) 1/\std.sub (std.len (Qg m.s)) 1<=9223372036854775807
   have:=hL.eq
   rw[e];omega
  ·show 0<=std.sub (std.len (Qg m.s)) 1/\std.sub (std.len (Qg m.s)) 1<std.len (Qg m.s)
   rw[e,e2];omega
  ·show AV.rptr 5 0 (std.sub (std.len (Qg m.s)) 1) 0=_
   rw[e]
 ·have hi:(L-1).toNat=m.s.length-1:=by have:=hL.eq;omega
  rw[hi];exact QhO hs
def OT.then(l:List Nat)(t:OT):OT:=match l with
 | []=>t
 |i::r=>.cons i (OT.then r t)
def wrO:OT:=.then [0,1,2,4,5,6,7,8,9,10,11,12,13,14,15,16,17,18,19,20,21] (.fork (.of [3,22,23,24,25,26]) (.cons 22 (.fork (.of [3,23,24,25,26]) (.of [23,3,24,25,26]))))
theorem Q9x(t:Txt)(b:List UInt8)(rt:Int)(m:Mk)(hd:m.d.length<=1000000)(c f u:Int)(hf:0<=f/\f<t.off.length)(hu:0<=u/\u<t.off.length) :
  BCall prog 96 [.box 0 0,.val (.int .i64 c),.val (.int .i64 f),.val (.int .i64 u)] (obT 0 t b rt m) (.tup []) (obT 1 t b rt (QI t c f u m)):=by
 have olen:=Q31 t.off;have af:=Q3L (l:=t.off) (i:=f) hf.1 hf.2;have au:=Q3L (l:=t.off) (i:=u) hu.1 hu.2;have dlen:=Qn6 m.d;unfold obT obM;refine fnO false (cs0) (fun id=>match id with|1=> wrO|_=>.nil) func96 rfl fun _ _=>?_
 with_reducible refine cv8 (Q1 m.n) (Q11 m.d) (Qg m.s) (Q4 b) (Q0 t.r) (Q9 t.off) t.kind t.bom ?_
 have ef:(Q9 t.off).getD f.toNat .dead=.val (.int .i64 (Q2c t f)):=by rw[List.getD_eq_getElem?_getD];exact af
 have eu:(Q9 t.off).getD u.toNat .dead=.val (.int .i64 (Q2c t u)):=by rw[List.getD_eq_getElem?_getD];exact au
 have hb:∀x,std.bnd (Q11 m.d) [x]:=fun x=>by show(Q11 m.d).length+1<=1000000000;omega
 have fin:∀x,x=AV.agg [.val (.int .i64 (Q2c t f)),.val (.int .i64 (Q2c t u)),.val (.int .i64 c)]->std.app (Q11 m.d) [x]=Q11 (QI t c f u m).d:=fun x hx=>by
  rw[hx];show Q11 m.d++_=List.map _ (_++_);rw[List.map_append];rfl
 have fin2:=fin _ (show AV.agg [.val (.int .i64 (std.int (std.nth (std.cel (std.at_ (Q9 t.off) f)) 0))),.val (.int .i64 (std.int (std.nth (std.cel (std.at_ (Q9 t.off) u)) 0))),.val (.int .i64 c)]=_ by
  show AV.agg [.val (.int .i64 (RowKit.intOf ((((Q9 t.off).getD f.toNat .dead).cells).getD 0 .dead))),.val (.int .i64 (RowKit.intOf ((((Q9 t.off).getD u.toNat .dead).cells).getD 0 .dead))),.val (.int .i64 c)]=_;rw[ef,eu];rfl)
 have hc:∀x:Int,(Q9 t.off).getD x.toNat .dead=.val (.int .i64 (Q2c t x))->std.all [std.hasI .i64 (std.nth (std.cel (std.at_ (Q9 t.off) x)) 0)]:=fun x hx=>by
  show(((Q9 t.off).getD x.toNat .dead).cells).getD 0 .dead=.val (.int .i64 (RowKit.intOf ((((Q9 t.off).getD x.toNat .dead).cells).getD 0 .dead)))/\True
  rw[hx];exact⟨rfl,trivial⟩
 have jS:∀x:Int,0<=x/\x<t.off.length->std.inb x (std.len (Q9 t.off)):=fun x hx=>by
  show 0<=x/\x<((Q9 t.off).length:Int);rw[olen];exact hx
 refine⟨jS f hf,hc f ef,jS u hu,hc u eu,⟨hb _,?_⟩,⟨hb _,?_⟩,hb _,?_⟩
 all_goals
  refine⟨[some 0,some 1,some 2,some 3,some 4,some 5],.tup [],_,rfl,rfl,le_refl _,rfl,?_,trivial⟩;simp[Qm];exact⟨rfl,fin2,rfl⟩
def Qrh(p:Pr)(sl:Int->Int->List AV)(lf:Int->List AV->List AV->List AV):Nat->List AV->List Ob->Option (AV×List Ob):=fun f args ob=>match f,args with
 |134,[.agg _,.slc 1 _,.val (.int .i64 i),.val (.int .i64 j)]=>some (.slc 1 (sl i j),[])
 |24,[.box 0 0,.val (.int .i64 k),.slc 1 bs]=>match ob with
  | [.box [.row 1 0],.row 123 6 false 0 N]=>some (.val (.int .i64 (p.len N)),[.box [.row 1 1],.row 123 6 false 1 (lf k bs N)])
  |_=>none
 |_,_=>none
def slA(t:Txt)(b:List UInt8)(i j:Int):List AV:=Q4 (QQ t b i j)
def lfA(k:Int)(bs N:List AV):List AV:=N++[(Qq k (bs.map Q2V)).av]
theorem QfT(k:Int)(bs:List UInt8)(l:List Node):lfA k (Q4 bs) (Q1 l)=Q1 (l++[Qq k bs]):=by
 rw[lfA,Q3u];simp[Q1]
theorem Qc5(t:Txt)(b:List UInt8)(i j:Int):(QQ t b i j).length<=b.length:=by
 rw[QQ,length_take,length_drop];omega
theorem Qa8(t:Txt)(b:List UInt8)(hb:b.length<=1000000)(ok:TxtOk t b)(qB:t.r.length<=1000000)(rt:Int)(m:Mk)(hn:m.n.length<=1000000)(kind f u:Int)(wh:Bool)(hf:0<=f)(hu:f<=u)(hl:u<=t.r.length) :
  BCall prog 100 [.box 0 0,.agg [.val (.int .i64 kind),.val (.int .i64 f),.val (.int .i64 u),.val (.bool wh)]] (obT 0 t b rt m) (.val (.int .i64 m.n.length)) (obT 1 t b rt (Q2d t b kind f u m)):=by
 have cS:=Qnc t b hb ok qB f u hf hu hl;have cL:=Qkq m.n (by omega) kind (QQ t b f u) (by have:=Qc5 t b f u;omega)
 rw[<-QfT]at cL;have e3:Q1 (Q2d t b kind f u m).n=lfA kind (slA t b f u) (Q1 m.n):=(QfT _ _ _).symm;unfold obT obM;rw[e3];clear hl;refine fnN (Qrh std (slA t b) lfA) func100 rfl fun _ _=>?_
 with_reducible refine Q61 (slA t b) lfA (Q1 m.n) (Q11 m.d) (Qg m.s) (Q4 b) (Q0 t.r) (Q9 t.off) t.kind t.bom ?_
 exact⟨cS,by rw[<-Q1g]at cL;exact cL,
  [some 0,some 1,some 2,some 3,some 4,some 5],.val (.int .i64 m.n.length),_,rfl,rfl,le_of_ble_eq_true rfl,rfl,by simp[Qm,std,Q1,Q2d,Q1F],.inl rfl⟩
theorem Qje:∀(n:Nat)(r:List Int)(at_:Int)(first:Bool),r.length<=n->(Qt at_ first r).length<=r.length:=by
 intro n;induction n with
 |zero =>
  intro r at_ first h
  have:r=[]:=List.eq_nil_of_length_eq_zero (by omega)
  rw[this,Qt,dif_pos rfl];exact le_refl _
 |succ n ih =>
  intro r at_ first h
  by_cases hr:r=[]
  ·rw[hr,Qt,dif_pos rfl];exact le_refl _
  ·have hn:=Q3i r first hr
   rw[Qt,dif_neg hr,List.length_cons];have:=ih (r.drop (Qj r first).2.toNat) (at_+(Qj r first).2) false (by rw[length_drop];omega)
   rw[length_drop]at this;omega
theorem Qax(l:List Int)(f u:Int):(QT l f u).length<=l.length:=by
 have:=Qje _ ((l.take u.toNat).drop f.toNat) f true (le_refl _)
 rw[length_drop,length_take]at this;show(Qt _ _ _).length<=_
 omega
theorem QbP(l:List Int)(f u:Int)(h0:0<=f)(h1:f<=u)(h2:u<=l.length):∀x∈QT l f u,f<=x.from_/\x.from_<x.to/\x.to<=u:=fun x hx=>by
 have:=Q7J [] _ ((l.take u.toNat).drop f.toNat) f true (le_refl _) x hx
 rw[length_drop,length_take]at this;omega
theorem QfV(ps:List TPart):(Q1f ps).name=Qn\/(Q1f ps).name=ps[1]?.getD Qn:=by
 unfold Q1f;split
 ·simp only
  split
  ·exact .inr rfl
  ·exact .inr rfl
 ·exact .inl rfl
theorem Q9M(l:List Int)(f u:Int)(h0:0<=f)(h1:f<=u)(h2:u<=l.length):0<=(QB l f u).name.from_/\(QB l f u).name.from_<=(QB l f u).name.to/\(QB l f u).name.to<=l.length:=by
 rcases QfV (QT l f u)with h|h
 ·rw[QB,h];exact⟨Int.le_refl _,Int.le_refl _,by show(0:Int)<=_;omega⟩
 ·rw[QB,h]
  cases hi:(QT l f u)[1]? with
  |none=>exact⟨Int.le_refl _,Int.le_refl _,by show(0:Int)<=_;omega⟩
  |some x =>
   have:=QbP l f u h0 h1 h2 x (List.mem_of_getElem? hi)
   show 0<=x.from_/\x.from_<=x.to/\x.to<=(l.length:Int);omega
theorem QaH(l:List Int)(hl:l.length<=1000000)(f u:Int)(h0:0<=f)(h1:f<=u)(h2:u<=l.length) :
  BCall prog 32 [.slc 1 (Q0 l),.val (.int .i64 f),.val (.int .i64 u)] [] (.agg [.val (.int .i64 (QB l f u).name.kind),.val (.int .i64 (QB l f u).name.from_),.val (.int .i64 (QB l f u).name.to),.slc 9 (QL (QB l f u).attrs),.val (.bool (QB l f u).right),.val (.bool (QB l f u).empty)]) []:=by
 have qX:=Qax l f u;have yx:Qej (QT l f u):=fun x hx=>by have:=QbP l f u h0 h1 h2 x hx;omega
 cases yM:QP (QT l f u) 0 [1,2]with
 |false =>
  have e:QB l f u=⟨Qn,[],false,false⟩:=by rw[QB,Q1f,if_neg (by rw[yM];decide)]
  rw[e];exact Qjk l (by omega) f u h0 h1 h2 _ rfl (by omega) yM
 |true =>
  cases qW:QP (QT l f u) (Q3T (QT l f u) (Qz (QT l f u) ((QT l f u).length+1) 2).2 3).toNat [6]with
  |false=>exact QjE l (by omega) f u h0 h1 h2 _ rfl (by omega) yx yM qW
  |true=>exact Ql3 l (by omega) f u h0 h1 h2 _ rfl (by omega) yx yM qW
def Qr5(rk rf ru:Int->Int->Int)(ra:Int->Int->List AV)(rr re:Int->Int->Bool):Nat->List AV->List Ob->Option (AV×List Ob):=fun f args _=>match f,args with
 |32,[.slc 1 _,.val (.int .i64 f),.val (.int .i64 u)]=>some (.agg [.val (.int .i64 (rk f u)),.val (.int .i64 (rf f u)),.val (.int .i64 (ru f u)),.slc 9 (ra f u),.val (.bool (rr f u)),.val (.bool (re f u))],[])
 |_,_=>none
def rdk(l:List Int)(f u:Int):Int:=(QB l f u).name.kind
def rdf(l:List Int)(f u:Int):Int:=(QB l f u).name.from_
def rdu(l:List Int)(f u:Int):Int:=(QB l f u).name.to
def rda(l:List Int)(f u:Int):List AV:=QL (QB l f u).attrs
def rdr(l:List Int)(f u:Int):Bool:=(QB l f u).right
def rde(l:List Int)(f u:Int):Bool:=(QB l f u).empty
def nmO:OT:=.then [0,1,2,3,4,5,6,7,8,9,10,11] (.fork (.of [12,13,14,15]) (.of [14,12,13,15]))
theorem QgH(t:Txt)(b:List UInt8)(qB:t.r.length<=1000000)(rt:Int)(m:Mk)(kind f u:Int)(wh:Bool)(hf:0<=f)(hu:f<=u)(hl:u<=t.r.length) :
  BCall prog 97 [.box 0 0,.agg [.val (.int .i64 kind),.val (.int .i64 f),.val (.int .i64 u),.val (.bool wh)]] (obT 0 t b rt m) (.slc 1 (Q0 (QC t f u))) (obT 0 t b rt m):=by
 have cR:=QaH t.r qB f u hf hu hl;have jS:=Q9M t.r f u hf hu hl;have rlen:=Qx t.r;unfold obT obM;refine fnO false (Qr5 (rdk t.r) (rdf t.r) (rdu t.r) (rda t.r) (rdr t.r) (rde t.r)) (fun id=>match id with|1=> nmO|_=>.nil) func97 rfl fun _ _=>?_
 generalize hR:Q0 t.r=R;generalize hO:Q9 t.off=O;generalize hK:t.kind=K;generalize hM:t.bom=M;with_reducible refine Q61 (rdk t.r) (rdf t.r) (rdu t.r) (rda t.r) (rdr t.r) (rde t.r) (Q1 m.n) (Q11 m.d) (Qg m.s) (Q4 b) ?_
 subst hR hO hK hM
 have jU:std.cutok (rdf t.r f u) (rdu t.r f u) (std.len (Q0 t.r)):=by
  show 0<=(QB t.r f u).name.from_/\(QB t.r f u).name.from_<=(QB t.r f u).name.to/\(QB t.r f u).name.to<=((Q0 t.r).length:Int);rw[rlen];exact jS
 have hres:std.cut (Q0 t.r) (rdf t.r f u) (rdu t.r f u)=Q0 (QC t f u):=by
  show((Q0 t.r).drop (rdf t.r f u).toNat).take _=_
  simp only[Q0,QC,map_take,List.map_drop];rfl
 refine⟨⟨cR,jU,?_⟩,cR,jU,?_⟩
 all_goals
  exact⟨[some 0,some 1,some 2,some 3,some 4,some 5],.slc 1 (Q0 (QC t f u)),_,rfl,rfl,le_of_ble_eq_true rfl,rfl,by simp[Qm];exact hres,.inl rfl⟩
def kdA(n:Int)(S:List AV):List AV:=Qg (Q1N n (Qlk S))
theorem Qa1(n:Int)(s:List Opn):kdA n (Qg s)=Qg (Q1N n s):=by rw[kdA,Qco]
def brA(k:Int)(ks N:List AV):List AV:=N++[(Q15 (QgK N) k (ks.map RowKit.intOf)).av]
theorem Qdf(k:Int)(ks:List Int)(l:List Node):brA k (Q9 ks) (Q1 l)=Q1 (l++[Q15 l k ks]):=by
 rw[brA,Qbm,Q8S];simp[Q1]
def Qr7(p:Pr)(kd:Int->List AV->List AV)(br:Int->List AV->List AV->List AV):Nat->List AV->List Ob->Option (AV×List Ob):=fun f args ob=>match f,args with
 |23,[.box 0 0,.val (.int .i64 n)]=>Q3S ob fun b k m r o rt N D S=>some (.tup [],obM 1 b k m r o rt N D (kd n S))
 |52,[.box 0 0,.val (.int .i64 k),.slc 1 ks]=>match ob with
  | [.box [.row 1 0],.row 123 6 false 0 N]=>some (.tup [.val (.int .i64 (p.len N)),.val (.int .i64 0)],[.box [.row 1 1],.row 123 6 false 1 (br k ks N)])
  |_=>none
 |_,_=>none
theorem Q4R(n:Int)(s:List Opn):(Q1N n s).length=s.length:=by simp[Q1N]
theorem QmY(n:Int){s:List Opn}(h:1<=s.length):QR (Q1N n s)=⟨(QR s).name,(QR s).kids++[n]⟩:=by
 have h1:s.length-1<(s.set (s.length-1) ⟨(QR s).name,(QR s).kids++[n]⟩).length:=by rw[List.length_set];omega
 have h2:s.length-1<s.length:=by omega
 show((s.set (s.length-1) ⟨(QR s).name,(QR s).kids++[n]⟩)[(s.set (s.length-1) _).length-1]?).getD _=_
 rw[List.length_set,List.getElem?_set_self h2];rfl
structure ArOk (l:List Node):Prop where
 w:∀n,0<=Q17 l n
 c:∀n,0<=Q2r l n/\Q2r l n<=2147483647
theorem Qkv(t:Txt)(b:List UInt8)(rt:Int)(m:Mk)(hs:2<=m.s.length)(hn:m.s.length<=1000000)(hk:∀x∈m.s,x.kids.length<=1000000)(hN:m.n.length<=1000000)(ar:ArOk m.n)(last:Int)
  (hl:∀k∈(QR m.s).kids++[last],0<=k/\k<m.n.length) (zK:Q1X m.n ((QR m.s).kids++[last])<=2147483647) :
  BCall prog 101 [.box 0 0,.val (.int .i64 last)] (obT 0 t b rt m) (.tup []) (obT 1 t b rt (Q1C last m)):=by
 obtain⟨L,hL⟩:=QG m.s;obtain⟨m1,jo⟩:=exq (Q2X last m);have jO:m1.s=Q1N last m.s:=by rw[jo];rfl
 have yb:m1.s.length=m.s.length:=by rw[jO,Q4R]
 have ht1:QR m1.s=⟨(QR m.s).name,(QR m.s).kids++[last]⟩:=by rw[jO];exact QmY last (by omega)
 have mem:∀i,i<m.s.length->(m.s[i]?.getD ⟨[],[]⟩).kids.length<=1000000:=fun i h=>by
  have:m.s[i]?.getD ⟨[],[]⟩∈m.s:=by
   rw[getElem?_eq_getElem h];exact getElem_mem h
  exact hk _ this
 have c1:=Qbh t b rt m (by omega) hn (mem _ (by omega)) last
 have c2:=QeK m.n (by omega) 21 ((QR m.s).kids++[last]) (by have:=mem (m.s.length-1) (by omega);simp only[length_append,length_singleton];show((m.s[m.s.length-1]?).getD ⟨[],[]⟩).kids.length+1<=_;omega) hl ar.w ar.c zK
 rw[<-Qdf,<-Q1g]at c2;obtain⟨m2,q7⟩:=exq (Q1F (Q15 m.n 21 ((QR m.s).kids++[last])) (Qqk m1))
 have hE:Q1C last m=Q2X m.n.length m2:=by
  rw[q7,<-(show(QR m1.s).kids=(QR m.s).kids++[last] by rw[ht1]),jo];rfl
 have jV:m2.s=m1.s.take (m1.s.length-1):=by rw[q7];rfl
 have c3:=Qbh t b rt m2 (by rw[jV,length_take];omega) (by rw[jV,length_take];omega) (by
  have h1:m2.s.length-1<m.s.length-1:=by rw[jV,length_take];omega
  show((m2.s[m2.s.length-1]?).getD ⟨[],[]⟩).kids.length<=_
  have h2:∀j,j<m.s.length-1->m2.s[j]?=m.s[j]?:=fun j hj=>by
   rw[jV,List.getElem?_take,if_pos (by omega),jO,Q1N,List.getElem?_set_ne (by omega)]
  rw[h2 _ h1];exact mem _ (by omega)) m.n.length
 rw[hE];clear hl zK;unfold obT obM;refine fnN (Qr7 std kdA brA) func101 rfl fun _ _=>?_
 with_reducible refine Q61 kdA brA (Q1 m.n) (Q11 m.d) (Qg m.s) (Q4 b) (Q0 t.r) (Q9 t.off) t.kind t.bom ?_
 have hi:(((Qg m1.s).length:Int)-1).toNat=m1.s.length-1:=by rw[Q3K];omega
 have he:(List.drop 1 ((Qg m1.s).getD (((Qg m1.s).length:Int)-1).toNat AV.dead).cells).getD 0 AV.dead=.slc 1 (Q9 ((QR m.s).kids++[last])):=by
  have e:(Qg m1.s).getD (m1.s.length-1) AV.dead=(QR m1.s).av:=by rw[List.getD_eq_getElem?_getD,QhO (by rw[yb];omega)];rfl
  rw[hi,e,ht1];show slK ((QR m.s).kids++[last])=_;rw[QhY,Q55];rfl
 have hc:List.take (((Qg m1.s).length:Int)-1-0).toNat (List.drop (Int.toNat 0) (Qg m1.s))=Qg m2.s:=by
  rw[Int.sub_zero,hi,jV];simp[Qg,map_take]
 have el:=Q3K m1.s;have eN:Q1 m2.n=brA 21 (Q9 ((QR m.s).kids++[last])) (Q1 m.n):=by rw[q7,Qdf];show Q1 (m1.n++_)=_;rw[jo];rfl
 have eD:m2.d=m.d:=by rw[q7,jo];rfl
 have eS:(Q2X (m.n.length:Int) m2).s=Q1N m.n.length m2.s:=rfl;unfold obT obM at c1 c3;rw[eS,show(Q2X (m.n.length:Int) m2).n=m2.n from rfl,show(Q2X (m.n.length:Int) m2).d=m2.d from rfl,eD,eN]at c3;rw[show(Q2X last m).s=m1.s by rw[jo]]at c1
 simp only[Qa1,<-jO,std,he,hc,Q2o];rw[Q1g]at c2 ⊢;refine⟨?_,?_,?_,⟨.inl trivial,trivial⟩,?_,c2,?_,?_⟩
 ·exact c1
 ·show(-9223372036854775808:Int)<=_/\_<=(9223372036854775807:Int)
  omega
 ·omega
 ·omega
 ·exact c3
 ·exact⟨[some 0,some 1,some 2,some 3,some 4,some 5],.tup [],_,rfl,rfl,le_refl _,rfl,by simp[Qm];exact⟨eN.symm,congrArg _ eD.symm,rfl⟩,trivial⟩
def wrA(t:Txt)(c f u:Int)(D:List AV):List AV:=Q11 (QpJ D++[⟨Q2c t f,Q2c t u,c⟩])
theorem QaF(t:Txt)(c f u:Int)(d:List Dg):wrA t c f u (Q11 d)=Q11 (d++[⟨Q2c t f,Q2c t u,c⟩]):=by rw[wrA,Qev]
def mkB(N D S:List AV):Mk:=⟨QgK N,QpJ D,Qlk S⟩
theorem Q2j(m:Mk):mkB (Q1 m.n) (Q11 m.d) (Qg m.s)=m:=by rw[mkB,Qbm,Qev,Qco]
def Q7n(l:Int)(N D S:List AV):List AV:=Q1 (Q1C l (mkB N D S)).n
def Q7H(l:Int)(N D S:List AV):List AV:=Qg (Q1C l (mkB N D S)).s
theorem Qp9(l:Int)(m:Mk):(Q1C l m).d=m.d:=rfl
def Qrd(p:Pr)(wr:Int->Int->Int->List AV->List AV)(lf:Int->List AV->List AV->List AV)(sn ss:Int->List AV->List AV->List AV->List AV):Nat->List AV->List Ob->Option (AV×List Ob):=fun f args ob=>match f,args with
 |96,[.box 0 0,.val (.int .i64 c),.val (.int .i64 f),.val (.int .i64 u)]=>Q3S ob fun b k m r o rt N D S=>some (.tup [],obM 1 b k m r o rt N (wr c f u D) S)
 |101,[.box 0 0,.val (.int .i64 n)]=>Q3S ob fun b k m r o rt N D S=>some (.tup [],obM 1 b k m r o rt (sn n N D S) D (ss n N D S))
 |24,[.box 0 0,.val (.int .i64 k),.val (.slice none 0 0)]=>match ob with
  | [.box [.row 1 0],.row 123 6 false 0 N]=>some (.val (.int .i64 (p.len N)),[.box [.row 1 1],.row 123 6 false 1 (lf k [] N)])
  |_=>none
 |_,_=>none
theorem Qq7(t:Txt)(b:List UInt8)(rt:Int)(m:Mk)(hd:m.d.length<=1000000)(at_:Int)(ha:0<=at_/\at_<t.off.length)(hs:2<=m.s.length)(hn:m.s.length<=1000000)(hk:∀x∈m.s,x.kids.length<=1000000)(hN:m.n.length<1000000)(ar:ArOk (m.n++[Qq 22 []]))
  (hl:∀k∈(QR m.s).kids,0<=k/\k<m.n.length) (zK:Q1X (m.n++[Qq 22 []]) ((QR m.s).kids++[(m.n.length:Int)])<=2147483647) :
  BCall prog 51 [.box 0 0,.val (.int .i64 at_)] (obT 0 t b rt m) (.tup []) (obT 1 t b rt (Q2n t at_ m)):=by
 have c1:=Q9x t b rt m hd 4 at_ at_ ha ha;obtain⟨m1,jo⟩:=exq (QI t 4 at_ at_ m);rw[<-jo]at c1;have c2:=(Qkq m1.n (by rw[jo];show m.n.length<_;omega) 22 [] (by simp)).le (args:=[.box 0 0,.val (.int .i64 22),.val (.slice none 0 0)]) ⟨.inl rfl,.inl rfl,.inr (.inl ⟨rfl,_,rfl⟩),trivial⟩
 obtain⟨m2,q7⟩:=exq (Q1F (Qq 22 []) m1);have e2n:m2.n=m.n++[Qq 22 []]:=by rw[q7,jo];rfl
 have e2s:m2.s=m.s:=by rw[q7,jo];rfl
 have c3:=Qkv t b rt m2 (by rw[e2s];exact hs) (by rw[e2s];exact hn) (by rw[e2s];exact hk) (by rw[e2n];simp;omega) (by rw[e2n];exact ar) m.n.length (by
  rw[e2n,e2s];intro k hk;rw[length_append,length_singleton];rcases mem_append.1 hk with h|h
  ·have:=hl k h;omega
  ·obtain rfl:k=(m.n.length:Int):=by simpa using h
   omega) (by rw[e2n,e2s];exact zK)
 have hE:Q2n t at_ m=Q1C m.n.length m2:=by rw[q7,jo];rfl
 rw[hE];clear hl zK;unfold obT obM;refine fnN (Qrd std (wrA t) lfA Q7n Q7H) func51 rfl fun _ _=>?_
 generalize hK:t.kind=K;generalize hM:t.bom=M;with_reducible refine Q61 (wrA t) lfA Q7n Q7H (Q1 m.n) (Q11 m.d) (Qg m.s) (Q4 b) (Q0 t.r) (Q9 t.off) ?_
 subst hK hM;have e2d:m2.d=m.d++[⟨Q2c t at_,Q2c t at_,4⟩]:=by rw[q7,jo];rfl
 have eL:lfA 22 [] (Q1 m.n)=Q1 m2.n:=by rw[e2n,<-QfT];rfl
 have eW:wrA t 4 at_ at_ (Q11 m.d)=Q11 m2.d:=by rw[QaF,e2d]
 have f1:∀l,Q7n l (Q1 m2.n) (Q11 m2.d) (Qg m.s)=Q1 (Q1C l m2).n:=fun l=>by rw[Q7n,<-e2s,Q2j]
 have f2:∀l,Q7H l (Q1 m2.n) (Q11 m2.d) (Qg m.s)=Qg (Q1C l m2).s:=fun l=>by rw[Q7H,<-e2s,Q2j]
 unfold obT obM at c1 c3;rw[show m1.n=m.n by rw[jo];rfl,show m1.s=m.s by rw[jo];rfl,show m1.d=m2.d by rw[q7];rfl]at c1
 rw[show m1.n=m.n by rw[jo];rfl,<-e2n]at c2
 rw[e2s,Qp9]at c3;simp only[std,eL,eW,f1,f2,Q1g];exact⟨c1,c2,c3,[some 0,some 1,some 2,some 3,some 4,some 5],.tup [],_,rfl,rfl,le_refl _,rfl,by simp[Qm];rfl,trivial⟩
def lfT(t:Txt)(b:List UInt8)(k f u:Int)(N:List AV):List AV:=N++[(Qq k (QQ t b f u)).av]
theorem Qat(t:Txt)(b:List UInt8)(k f u:Int)(l:List Node):lfT t b k f u (Q1 l)=Q1 (l++[Qq k (QQ t b f u)]):=by simp[lfT,Q1]
def nmA(t:Txt)(f u:Int):List AV:=Q0 (QC t f u)
def Qrf(p:Pr)(nm:Int->Int->List AV)(wr:Int->Int->Int->List AV->List AV)(lf:Int->Int->Int->List AV->List AV)(kd:Int->List AV->List AV):Nat->List AV->List Ob->Option (AV×List Ob):=fun f args ob=>match f,args with
 |97,[.box 0 0,.agg [_,.val (.int .i64 f),.val (.int .i64 u),_]]=>some (.slc 1 (nm f u),ob)
 |96,[.box 0 0,.val (.int .i64 c),.val (.int .i64 f),.val (.int .i64 u)]=>Q3S ob fun b k m r o rt N D S=>some (.tup [],obM 1 b k m r o rt N (wr c f u D) S)
 |100,[.box 0 0,.agg [.val (.int .i64 kind),.val (.int .i64 f),.val (.int .i64 u),_]]=>Q3S ob fun b k m r o rt N D S=>some (.val (.int .i64 (p.len N)),obM 1 b k m r o rt (lf kind f u N) D S)
 |23,[.box 0 0,.val (.int .i64 n)]=>Q3S ob fun b k m r o rt N D S=>some (.tup [],obM 1 b k m r o rt N D (kd n S))
 |_,_=>none
structure InT (t:Txt) (f u:Int):Prop where
 h0:0<=f
 h1:f<=u
 h2:u<=t.r.length
structure Sml (t:Txt) (b:List UInt8):Prop where
 hb:b.length<=1000000
 hr:t.r.length<=1000000
 ok:TxtOk t b
theorem InT.off{t:Txt}{b:List UInt8}{f u:Int}(h:InT t f u)(hs:Sml t b):(0<=f/\f<t.off.length)/\0<=u/\u<t.off.length:=by
 have:=hs.ok.len
 have h0:=h.h0;have h1:=h.h1;have h2:=h.h2;omega
structure MkOk (m:Mk):Prop where
 n:m.n.length<=900000
 d:m.d.length<=900000
 s:m.s.length<=900000
 s1:1<=m.s.length
 k:∀x∈m.s,x.kids.length<=900000
theorem MkOk.top{m:Mk}(h:MkOk m):(QR m.s).kids.length<=900000:=by
 have h1:=h.s1;have:m.s.length-1<m.s.length:=by omega
 show((m.s[m.s.length-1]?).getD ⟨[],[]⟩).kids.length<=_
 rw[getElem?_eq_getElem this];exact h.k _ (getElem_mem this)
theorem Qod(t:Txt)(b:List UInt8)(hs:Sml t b)(rt:Int)(m:Mk)(ok:MkOk m)(kind f u:Int)(wh:Bool)(hi:InT t f u)(jI:QC t f u≠[]) :
  BCall prog 98 [.box 0 0,.agg [.val (.int .i64 kind),.val (.int .i64 f),.val (.int .i64 u),.val (.bool wh)]] (obT 0 t b rt m) (.tup []) (obT 1 t b rt (Q1k t b kind f u m)):=by
 have cN:=QgH t b hs.hr rt m kind f u wh hi.h0 hi.h1 hi.h2;have qe:=hi.off hs;have hn:=ok.n;have hd:=ok.d;have hl:=ok.s;have yb:=ok.s1;have cW:=Q9x t b rt m (by omega) 5 f u qe.1 qe.2
 obtain⟨ma,pE⟩:=exq (QI t 5 f u m);have cLa:=Qa8 t b hs.hb hs.ok hs.hr rt ma (by rw[pE];show m.n.length<=_;omega) kind f u wh hi.h0 hi.h1 hi.h2
 have cKa:=Qbh t b rt (Q2d t b kind f u ma) (by rw[pE];exact yb) (by rw[pE];show m.s.length<=_;omega) (by rw[pE];have:=ok.top;show(QR m.s).kids.length<=_;omega) m.n.length
 obtain⟨mb,na⟩:=exq ({ m with s:=m.s++[⟨QC t f u,[]⟩] }:Mk)
 have kQ:mb.s=m.s++[⟨QC t f u,[]⟩]:=by rw[na]
 have cLb:=Qa8 t b hs.hb hs.ok hs.hr rt mb (by rw[na];show m.n.length<=_;omega) kind f u wh hi.h0 hi.h1 hi.h2
 have cKb:=Qbh t b rt (Q2d t b kind f u mb) (by show 1<=mb.s.length;rw[kQ];simp) (by show mb.s.length<=_;rw[kQ];simp;omega) (by show(QR mb.s).kids.length<=_;rw[kQ];simp[QR]) m.n.length
 have hE:Q1k t b kind f u m=if 64<m.s.length then Q2X m.n.length (Q2d t b kind f u ma)else Q2X m.n.length (Q2d t b kind f u mb):=by rw[pE,na];rfl
 rw[hE];clear hE qe;unfold obT obM;refine fnN (Qrf std (nmA t) (wrA t) (lfT t b) kdA) func98 rfl fun _ _=>?_
 generalize hK:t.kind=K;generalize hM:t.bom=M;with_reducible refine Q61 (nmA t) (wrA t) (lfT t b) kdA (Q1 m.n) (Q11 m.d) (Qg m.s) (Q4 b) (Q0 t.r) (Q9 t.off) ?_
 subst hK hM;subst pE na;simp only[obT,obM,Q2d,Q1F,Q2X,QI]at cN cW cLa cKa cLb cKb
 have eS:Qg m.s++[AV.agg [AV.slc 1 (nmA t f u),AV.val (Value.slice none 0 0)]]=Qg (m.s++[⟨QC t f u,[]⟩]):=by
  have:slR (QC t f u)=.slc 1 (nmA t f u):=by
   show slR (QC t f u)=.slc 1 (Q0 (QC t f u));cases h:QC t f u with
   |nil=>exact absurd h jI
   |cons x r=>rfl
  rw[<-this];simp[Qg,Opn.av,slK,Qos]
 have eb:std.bnd (Qg m.s) [AV.agg [AV.slc 1 (nmA t f u),AV.val (Value.slice none 0 0)]]:=by
  show(Qg m.s).length+1<=1000000000
  rw[Q3K];omega
 refine⟨cN,fun hd=>?_,fun hd=>⟨eb,?_⟩⟩
 ·have hg:64<m.s.length:=by
   have:(64:Int)<((Qg m.s).length:Int):=of_decide_eq_true hd
   rw[Q3K]at this;omega
  simp only[std,Qat,QaF,Qa1,Q1g,if_pos hg,Q2d,Q1F,Q2X,QI];exact⟨cW,cLa,cKa,[some 0,some 1,some 2,some 3,some 4,some 5],.tup [],_,rfl,rfl,le_of_ble_eq_true rfl,rfl,by simp[Qm],trivial⟩
 ·have hg:¬64<m.s.length:=by
   have:¬(64:Int)<((Qg m.s).length:Int):=of_decide_eq_false hd
   rw[Q3K]at this;omega
  simp only[std,eS,Qat,QaF,Qa1,Q1g,if_neg hg,Q2d,Q1F,Q2X,QI];exact⟨cLb,cKb,[some 0,some 1,some 2,some 3,some 4,some 5],.tup [],_,rfl,rfl,le_of_ble_eq_true rfl,rfl,by simp[Qm],trivial⟩
theorem Q2x{l:List Node}{x:Node}{n:Int}(h0:0<=n)(h1:n<l.length):Qh (l++[x]) n=Qh l n:=by
 have h2:n.toNat<l.length:=by omega
 have h3:n<((l++[x]).length:Int):=by simp only[length_append,length_singleton];omega
 rw[Qh,Qh,if_pos ⟨h0,h3⟩,if_pos ⟨h0,h1⟩,List.getElem?_append_left h2]
theorem Q2e{l:List Node}{x:Node}:Qh (l++[x]) l.length=x:=by
 rw[Qh,if_pos ⟨by omega,by simp only[length_append,length_singleton];omega⟩,Int.toNat_natCast]
 simp
theorem Q5P{l:List Node}{n:Int}(h:¬(0<=n/\n<l.length)):Qh l n=Q9h:=by rw[Qh,if_neg h]
theorem Q8o{l:List Node}{x:Node}(n:Int):(0<=n/\n<l.length/\Qh (l++[x]) n=Qh l n)\/(n=l.length/\Qh (l++[x]) n=x)\/Qh (l++[x]) n=Q9h:=by
 by_cases h:0<=n/\n<l.length
 ·exact .inl ⟨h.1,h.2,Q2x h.1 h.2⟩
 ·by_cases h2:n=l.length
  ·subst h2;exact .inr (.inl ⟨rfl,Q2e⟩)
  ·exact .inr (.inr (Q5P (by simp;omega)))
def InR(l:List Node)(ks:List Int):Prop:=∀k∈ks,0<=k/\k<l.length
theorem InR.more{l:List Node}{ks:List Int}(h:InR l ks)(x:Node):InR (l++[x]) ks:=fun k hk=>by have:=h k hk;simp;omega
theorem Q9Q{l:List Node}(h:Wf l){x:Node}(hx:InR l x.kids):Wf (l++[x]):=fun n h0 h1 k hk=>by
 rcases Q8o (l:=l) (x:=x) n with ⟨h2,h3,h4⟩|⟨h2,h4⟩|h4
 ·rw[h4]at hk;exact h n h2 h3 k hk
 ·rw[h4]at hk;rw[h2];exact hx k hk
 ·rw[h4]at hk;cases hk
theorem QgQ{l:List Node}(h:Wf l)(x:Node):∀(f:Nat)(n:Int),0<=n->n<l.length->prF (l++[x]) f n=prF l f n
 |0,_,_,_=>rfl
 |f+1,n,h0,h1=>by
  simp only[prF,Q2x h0 h1];congr 1
  refine congrArg List.flatten (map_congr_left fun k hk=>?_)
  have:=h n h0 h1 k hk
  exact QgQ h x f k this.1 (by omega)
theorem Qaw{l:List Node}(h:Wf l)(x:Node){n:Int}(h0:0<=n)(h1:n<l.length):pr (l++[x]) n=pr l n:=QgQ h x _ n h0 h1
theorem Q6P{l:List Node}(h:Wf l)(x:Node){ks:List Int}(hk:InR l ks):ks.flatMap (pr (l++[x]))=ks.flatMap (pr l) :=
 congrArg List.flatten (map_congr_left fun k yu=>Qaw h x (hk k yu).1 (hk k yu).2)
theorem QcX{l:List Node}(h:Wf l){x:Node}(hx:InR l x.kids):pr (l++[x]) l.length=x.b++x.kids.flatMap (pr l):=by
 rw[Qe2 (Q9Q h hx) (by omega) (by simp only[length_append,length_singleton];omega),Q2e,Q6P h x hx]
theorem Qey{l:List Node}(h:Wf l)(hw:QiM l){x:Node}(hx:InR l x.kids)(hxw:x.width=(x.b++x.kids.flatMap (pr l)).length):QiM (l++[x]):=fun n h0 h1=>by
 rcases Q8o (l:=l) (x:=x) n with ⟨h2,h3,h4⟩|⟨h2,h4⟩|h4
 ·rw[h4,Qaw h x h2 h3];exact hw n h2 h3
 ·rw[h4,h2,QcX h hx];exact hxw
 ·have h1:n<((l++[x]).length:Int):=h1
  by_cases h2:n<l.length
  ·rw[Q2x h0 h2]at h4
   rw[Q2x h0 h2,Qaw h x h0 h2];exact hw n h0 h2
  ·have h3:n=l.length:=by simp at h1;omega
   subst h3;rw[Q2e,QcX h hx];exact hxw
theorem Qmi{l:List Node}(h:ArOk l){x:Node}(hw:0<=x.width)(hc:0<=x.count/\x.count<=2147483647):ArOk (l++[x]):=by
 refine⟨fun n=>?_,fun n=>?_⟩
 ·rw[Q17]
  rcases Q8o (l:=l) (x:=x) n with ⟨_,_,h4⟩|⟨_,h4⟩|h4
  ·rw[h4];exact h.w n
  ·rw[h4];exact hw
  ·rw[h4];exact Int.le_refl _
 ·rw[Q2r]
  rcases Q8o (l:=l) (x:=x) n with ⟨_,_,h4⟩|⟨_,h4⟩|h4
  ·rw[h4];exact h.c n
  ·rw[h4];exact hc
  ·rw[h4];exact⟨Int.le_refl _,by show(0:Int)<=_;omega⟩
structure Ar (l:List Node):Prop where
 wf:Wf l
 wide:QiM l
 ok:ArOk l
theorem Qps:Ar []:=⟨fun n h0 h1=>by simp at h1;omega,fun n h0 h1=>by simp at h1;omega,⟨fun n=>by rw[Q17,Q5P (fun h=>by simp at h;omega)];exact Int.le_refl _,fun n=>by rw[Q2r,Q5P (fun h=>by simp at h;omega)];exact⟨Int.le_refl _,by show(0:Int)<=_;omega⟩⟩⟩
theorem Q3G{l:List Node}(h:Ar l)(k:Int)(bs:List UInt8):Ar (l++[Qq k bs])/\pr (l++[Qq k bs]) l.length=bs:=by
 have hx:InR l (Qq k bs).kids:=fun k hk=>by cases hk
 refine⟨⟨Q9Q h.wf hx,Qey h.wf h.wide hx (by simp[Qq]),Qmi h.ok (by show(0:Int)<=(bs.length:Int);omega) (by show(0:Int)<=1/\(1:Int)<=_;omega)⟩,?_⟩
 rw[QcX h.wf hx];simp[Qq]
theorem Q8b{l:List Node}(hw:QiM l):∀{ks:List Int},InR l ks->Q1X l ks=(ks.flatMap (pr l)).length
 | [],_=>rfl
 |k::r,hk=>by
  have ih:=Q8b hw (ks:=r) (fun x hx=>hk x (List.mem_cons_of_mem _ hx))
  have h1:=hk k (List.mem_cons_self ..);have h2:=hw k h1.1 h1.2;simp only[Q1X,map_cons,sum_cons,flatMap_cons,length_append]at ih ⊢;rw[Q17,h2,ih];omega
theorem Q6Q{l:List Node}(h:Ar l)(k:Int){ks:List Int}(hk:InR l ks):Ar (l++[Q15 l k ks])/\pr (l++[Q15 l k ks]) l.length=ks.flatMap (pr l):=by
 have hx:InR l (Q15 l k ks).kids:=hk;refine⟨⟨Q9Q h.wf hx,Qey h.wf h.wide hx ?_,Qmi h.ok (Q5t h.ok.w ks) (Q8C h.ok.c ks)⟩,?_⟩
 ·show Q1X l ks=(([]:List UInt8)++ks.flatMap (pr l)).length
  rw[List.nil_append];exact Q8b h.wide hk
 ·rw[QcX h.wf hx];rfl
theorem Q7P(s:List Opn)(x:Opn):QR (s++[x])=x:=by simp[QR]
theorem Q1U(n:Int)(s:List Opn)(x:Opn):Q1N n (s++[x])=s++[⟨x.name,x.kids++[n]⟩]:=by
 rw[Q1N,Q7P];simp
theorem Q26{s:List Opn}(h:1<=s.length):∃s0,s=s0++[QR s]:=by
 refine⟨s.dropLast,?_⟩;have jI:s≠[]:=by rintro rfl;simp at h
 have h2:QR s=s.getLast jI:=by
  rw[QR,List.getLast_eq_getElem,getElem?_eq_getElem (by omega)];rfl
 rw[h2];exact(List.dropLast_concat_getLast jI).symm
def prK(l:List Node)(s:List Opn):List UInt8:=s.flatMap fun x=>x.kids.flatMap (pr l)
def Q5Y(s:List Opn):Nat:=(s.map fun x=>x.kids.length).sum
structure MkInv (m:Mk) (X:List UInt8) (B D:Nat):Prop where
 ar:Ar m.n
 rng:∀x∈m.s,InR m.n x.kids
 p:prK m.n m.s=X
 s1:1<=m.s.length
 n:m.n.length+2 * m.s.length<=B
 d:m.d.length+2 * m.s.length<=D
 k:Q5Y m.s+2 * m.s.length<=B
 nm:∀x∈m.s,x.name.length<=1000000
theorem Qnz{s:List Opn}{x:Opn}(h:x∈s):x.kids.length<=Q5Y s:=by
 induction s with
 |nil=>cases h
 |cons y r ih =>
  simp only[Q5Y,map_cons,sum_cons]at ih ⊢;rcases List.mem_cons.1 h with rfl|h
  ·omega
  ·have:=ih h;omega
theorem MkInv.ok{m:Mk}{X:List UInt8}{B D:Nat}(h:MkInv m X B D)(hB:B<=900000)(hD:D<=900000):MkOk m :=
 ⟨by have:=h.n;omega,by have:=h.d;omega,by have:=h.n;omega,h.s1,fun x hx=>by have:=h.k;have:=Qnz hx;omega⟩
theorem Q1Q{m:Mk}{X:List UInt8}{B D:Nat}(h:MkInv m X B D)(t:Txt)(c f u:Int):MkInv (QI t c f u m) X B (D+1) :=
 ⟨h.ar,h.rng,h.p,h.s1,by have:=h.n;show m.n.length+2 * m.s.length<=_;omega,by have:=h.d;show(m.d++_).length+2 * m.s.length<=_;simp;omega,by have:=h.k;show Q5Y m.s+2 * m.s.length<=_;omega,h.nm⟩
theorem Qd5{l:List Node}(h:Wf l)(x:Node){s:List Opn}(hs:∀y∈s,InR l y.kids):prK (l++[x]) s=prK l s :=
 congrArg List.flatten (map_congr_left fun y hy=>Q6P h x (hs y hy))
theorem Q6H(l:List Node)(s:List Opn)(x:Opn):prK l (s++[x])=prK l s++x.kids.flatMap (pr l):=by simp[prK]
theorem Q3z(s:List Opn)(x:Opn):Q5Y (s++[x])=Q5Y s+x.kids.length:=by simp[Q5Y]
theorem Qi6{m:Mk}{X:List UInt8}{B D:Nat}(h:MkInv m X B D){x:Node}{Y:List UInt8}(ha:Ar (m.n++[x]))(hp:pr (m.n++[x]) m.n.length=Y):MkInv (Q2X m.n.length (Q1F x m)) (X++Y) (B+1) D:=by
 obtain⟨s0,qM⟩:=Q26 h.s1;generalize QR m.s=y at qM
 have e:(Q2X m.n.length (Q1F x m)).s=s0++[⟨y.name,y.kids++[(m.n.length:Int)]⟩]:=by
  show Q1N m.n.length m.s=_;rw[qM,Q1U]
 have en:(Q2X m.n.length (Q1F x m)).n=m.n++[x]:=rfl;have hr:=h.rng;rw[qM]at hr;have vC:∀z∈s0,InR m.n z.kids:=fun z hz=>hr z (mem_append_left _ hz)
 have v7:InR m.n y.kids:=hr y (by simp)
 have h1:=h.n;have h2:=h.d;have h3:=h.k;have h4:=h.p;rw[qM]at h1 h2 h3 h4;rw[Q3z]at h3;rw[Q6H]at h4;simp only[length_append,length_singleton]at h1 h2 h3;have qf:=h.nm;rw[qM]at qf;refine⟨by rw[en];exact ha,fun z hz=>?_,?_,by rw[e];simp,?_,?_,?_,fun z hz=>?_⟩
 ·rw[en]
  rw[e]at hz;rcases mem_append.1 hz with hz|hz
  ·exact(vC z hz).more x
  ·obtain rfl:z=⟨y.name,y.kids++[(m.n.length:Int)]⟩:=by simpa using hz
   intro k hk;rcases mem_append.1 hk with hk|hk
   ·exact v7.more x k hk
   ·obtain rfl:k=(m.n.length:Int):=by simpa using hk
    simp;omega
 ·rw[e,en,Q6H,Qd5 h.ar.wf x vC]
  simp only[List.flatMap_append,flatMap_cons,flatMap_nil,append_nil];rw[Q6P h.ar.wf x v7,hp,<-List.append_assoc,h4]
 ·rw[e,en];simp only[length_append,length_singleton];omega
 ·rw[e];show m.d.length+_<=_;simp only[length_append,length_singleton];omega
 ·rw[e,Q3z];simp only[length_append,length_singleton];omega
 ·rw[e]at hz
  rcases mem_append.1 hz with hz|hz
  ·exact qf z (mem_append_left _ hz)
  ·obtain rfl:z=⟨y.name,y.kids++[(m.n.length:Int)]⟩:=by simpa using hz
   exact qf y (by simp)
theorem QaT{m:Mk}{X:List UInt8}{B D:Nat}(h:MkInv m X B D)(t:Txt)(b:List UInt8)(kind f u:Int):MkInv (lkF t b kind f u m) (X++QQ t b f u) (B+1) D :=
 Qi6 h (Q3G h.ar kind _).1 (Q3G h.ar kind _).2
theorem QeE{m:Mk}{X:List UInt8}{B D:Nat}(h:MkInv m X B D)(nm:List Int)(qf:nm.length<=1000000):MkInv { m with s:=m.s++[⟨nm,[]⟩] } X (B+2) (D+2):=by
 have h1:=h.n;have h2:=h.d;have h3:=h.k;refine⟨h.ar,fun z hz=>?_,?_,by simp,?_,?_,?_,fun z hz=>?_⟩
 ·rcases mem_append.1 hz with hz|hz
  ·exact h.rng z hz
  ·obtain rfl:z=⟨nm,[]⟩:=by simpa using hz
   intro k hk;cases hk
 ·rw[Q6H];simpa using h.p
 ·simp only[length_append,length_singleton];omega
 ·simp only[length_append,length_singleton];omega
 ·rw[Q3z];simp only[length_append,length_singleton,List.length_nil];omega
 ·rcases mem_append.1 hz with hz|hz
  ·exact h.nm z hz
  ·obtain rfl:z=⟨nm,[]⟩:=by simpa using hz
   exact qf
theorem Qa0{m:Mk}{X:List UInt8}{B D:Nat}(h:MkInv m X B D)(hs:2<=m.s.length)(kind:Int)(bs:List UInt8){D':Nat}(hD:D<=D'+2):MkInv (Q1C m.n.length (Q1F (Qq kind bs) m)) (X++bs) B D'/\(Q1C m.n.length (Q1F (Qq kind bs) m)).s.length=m.s.length-1 /\
  InR (m.n++[Qq kind bs]) ((QR m.s).kids++[(m.n.length:Int)])/\(((QR m.s).kids++[(m.n.length:Int)]).flatMap (pr (m.n++[Qq kind bs]))).length<=X.length+bs.length:=by
 obtain⟨s1,jO⟩:=Q26 h.s1;generalize QR m.s=x at jO;have yb:1<=s1.length:=by rw[jO]at hs;simp at hs;omega
 obtain⟨s0,qM⟩:=Q26 yb;generalize QR s1=y at qM;subst qM;obtain⟨qS,zg⟩:=Q3G h.ar kind bs;have hr:=h.rng;rw[jO]at hr;have vC:∀z∈s0,InR m.n z.kids:=fun z hz=>hr z (mem_append_left _ (mem_append_left _ hz))
 have v7:InR m.n y.kids:=hr y (mem_append_left _ (by simp))
 have za:InR m.n x.kids:=hr x (by simp)
 have vM:InR (m.n++[Qq kind bs]) (x.kids++[(m.n.length:Int)]):=fun k hk=>by
  rcases mem_append.1 hk with hk|hk
  ·exact za.more _ k hk
  ·obtain rfl:k=(m.n.length:Int):=by simpa using hk
   simp;omega
 obtain⟨l1,hl⟩:=exq (m.n++[Qq kind bs]);obtain⟨yI,kq⟩:=Q6Q qS 21 vM;obtain⟨z,hz⟩:=exq (Q15 l1 21 (x.kids++[(m.n.length:Int)]))
 have ch:(x.kids++[(m.n.length:Int)]).flatMap (pr l1)=x.kids.flatMap (pr m.n)++bs:=by
  rw[hl];simp only[List.flatMap_append,flatMap_cons,flatMap_nil,append_nil];rw[Q6P h.ar.wf _ za,zg]
 rw[<-hl]at qS yI kq vM ⊢;rw[<-hz]at yI kq
 have eT:QR (Q2X (m.n.length:Int) (Q1F (Qq kind bs) m)).s=⟨x.name,x.kids++[(m.n.length:Int)]⟩:=by
  show QR (Q1N m.n.length m.s)=_;rw[jO,Q1U,Q7P]
 have en:(Q1C m.n.length (Q1F (Qq kind bs) m)).n=l1++[z]:=by
  show(m.n++[Qq kind bs])++[Q15 (m.n++[Qq kind bs]) 21 (QR (Q2X (m.n.length:Int) (Q1F (Qq kind bs) m)).s).kids]=_
  rw[eT,<-hl,<-hz]
 have es:(Q1C m.n.length (Q1F (Qq kind bs) m)).s=s0++[⟨y.name,y.kids++[(l1.length:Int)]⟩]:=by
  show Q1N ((m.n++[Qq kind bs]).length:Int) ((Q1N m.n.length m.s).take ((Q1N m.n.length m.s).length-1))=_
  have e2:(Q1N m.n.length m.s).take ((Q1N m.n.length m.s).length-1)=s0++[y]:=by
   rw[jO,Q1U,show(s0++[y]++[(⟨x.name,x.kids++[(m.n.length:Int)]⟩:Opn)]).length-1=(s0++[y]).length by simp]
   exact List.take_left
  rw[e2,Q1U,hl]
 have h1:=h.n;have h2:=h.d;have h3:=h.k;have h4:=h.p;rw[jO]at h1 h2 h3 h4;rw[Q3z,Q3z]at h3;rw[Q6H,Q6H]at h4;simp only[length_append,length_singleton]at h1 h2 h3;have gz:l1.length=m.n.length+1:=by rw[hl];simp
 have qf:=h.nm;rw[jO]at qf;refine⟨⟨by rw[en];exact yI,fun q hq=>?_,?_,by rw[es];simp,?_,?_,?_,fun q hq=>?_⟩,by rw[es,jO];simp,vM,?_⟩
 ·rw[en]
  rw[es]at hq
  have up:∀{ks:List Int},InR m.n ks->InR (l1++[z]) ks:=fun hk=>by
   rw[hl];exact(hk.more _).more _
  rcases mem_append.1 hq with hq|hq
  ·exact up (vC q hq)
  ·obtain rfl:q=⟨y.name,y.kids++[(l1.length:Int)]⟩:=by simpa using hq
   intro k hk;rcases mem_append.1 hk with hk|hk
   ·exact up v7 k hk
   ·obtain rfl:k=(l1.length:Int):=by simpa using hk
    simp;omega
 ·have up0:prK (l1++[z]) s0=prK m.n s0:=by
   rw[Qd5 qS.wf z (fun q hq=>by rw[hl];exact(vC q hq).more _),hl,Qd5 h.ar.wf _ vC]
  have upy:y.kids.flatMap (pr (l1++[z]))=y.kids.flatMap (pr m.n):=by
   rw[Q6P qS.wf z (by rw[hl];exact v7.more _),hl,Q6P h.ar.wf _ v7]
  rw[es,en,Q6H,up0];simp only[List.flatMap_append,flatMap_cons,flatMap_nil,append_nil];rw[upy,kq,ch,<-h4];simp only[List.append_assoc]
 ·rw[es,en];simp only[length_append,length_singleton];omega
 ·rw[es];show m.d.length+_<=_;simp only[length_append,length_singleton];omega
 ·rw[es,Q3z];simp only[length_append,length_singleton];omega
 ·rw[es]at hq
  rcases mem_append.1 hq with hq|hq
  ·exact qf q (mem_append_left _ (mem_append_left _ hq))
  ·obtain rfl:q=⟨y.name,y.kids++[(l1.length:Int)]⟩:=by simpa using hq
   exact qf y (mem_append_left _ (by simp))
 ·rw[ch,<-h4]
  simp only[length_append];omega
theorem Q4X{m:Mk}{X:List UInt8}{B D:Nat}(h:MkInv m X B D)(hs:2<=m.s.length)(t:Txt)(at_:Int):MkInv (Q2n t at_ m) X B D/\(Q2n t at_ m).s.length=m.s.length-1 /\
  InR (m.n++[Qq 22 []]) ((QR m.s).kids++[(m.n.length:Int)])/\(((QR m.s).kids++[(m.n.length:Int)]).flatMap (pr (m.n++[Qq 22 []]))).length<=X.length:=by
 have:=Qa0 (Q1Q h t 4 at_ at_) hs 22 [] (D':=D) (by omega)
 rw[append_nil]at this;exact this
theorem Qa9(t:Txt)(f u:Int):(QC t f u).length<=t.r.length:=by
 rw[QC,length_take,length_drop];omega
theorem Q8a(t:Txt)(a:Int)(m:Mk):(Q2n t a m).s.length=m.s.length-1:=by
 show(Q1N _ ((Q1N _ m.s).take ((Q1N _ m.s).length-1))).length=_
 rw[Q4R,length_take,Q4R];omega
theorem Q9m{t:Txt}{f:Int}{k:Nat}{x:Mk}(h:k<x.s.length-1):missGo t f k x.s.length x=missGo t f k (Q2n t f x).s.length (Q2n t f x):=by
 obtain⟨n,hn⟩:∃n,x.s.length=n+1:=⟨x.s.length-1,by omega⟩
 rw[Q8a,hn];rw[hn]at h;show(if k<x.s.length-1 then _ else _)=_
 rw[hn,if_pos h];rfl
theorem Q9Z{t:Txt}{f:Int}{k:Nat}{x:Mk}(h:¬k<x.s.length-1):missGo t f k x.s.length x=x:=by
 cases hn:x.s.length with
 |zero=>rfl
 |succ n =>
  show(if k<x.s.length-1 then _ else _)=_
  rw[if_neg h]
theorem MkInv.sum{l:List Node}(h:Ar l){ks:List Int}(hk:InR l ks){n:Nat}(hn:(ks.flatMap (pr l)).length<=n)(h2:n<=2147483647):Q1X l ks<=2147483647:=by
 rw[Q8b h.wide hk];omega
theorem MkInv.top{m:Mk}{X:List UInt8}{B D:Nat}(h:MkInv m X B D):InR m.n (QR m.s).kids:=by
 obtain⟨s0,qM⟩:=Q26 h.s1;refine h.rng _ ?_;rw[qM,Q7P];simp
theorem Qkt(t:Txt)(b:List UInt8)(rt:Int){m:Mk}{X:List UInt8}{B D:Nat}(h:MkInv m X B D)(hB:B<=900000)(hD:D<=900000)(hX:X.length<=1000000)(a:Int)(ha:0<=a/\a<t.off.length)(hs:2<=m.s.length) :
  BCall prog 51 [.box 0 0,.val (.int .i64 a)] (obT 0 t b rt m) (.tup []) (obT 1 t b rt (Q2n t a m)):=by
 have ok:=h.ok hB hD;obtain⟨_,_,h3,h4⟩:=Q4X h hs t a;have qS:=(Q3G h.ar 22 []).1;exact Qq7 t b rt m (by have:=ok.d;omega) a ha hs (by have:=ok.s;omega) (fun x hx=>by have:=ok.k x hx;omega) (by have:=ok.n;omega) qS.ok h.top (MkInv.sum qS h3 h4 (by omega))
theorem QpZ(t:Txt)(b:List UInt8)(rt:Int){m:Mk}{X:List UInt8}{B D:Nat}(h:MkInv m X B D)(hB:B<=900000)(hD:D<=900000)(hX:X.length<=1000000)(hs:2<=m.s.length)(kind:Int)(bs:List UInt8)(kQ:bs.length<=1000000) :
  BCall prog 101 [.box 0 0,.val (.int .i64 m.n.length)] (obT 0 t b rt (Q1F (Qq kind bs) m)) (.tup []) (obT 1 t b rt (Q1C m.n.length (Q1F (Qq kind bs) m))):=by
 have ok:=h.ok hB hD;obtain⟨_,_,h3,h4⟩:=Qa0 h hs kind bs (D':=D) (by omega)
 have qS:=(Q3G h.ar kind bs).1;exact Qkv t b rt (Q1F (Qq kind bs) m) hs (by have:=ok.s;show m.s.length<=_;omega) (fun x hx=>by have:=ok.k x hx;omega) (by have:=ok.n;show(m.n++_).length<=_;simp;omega) qS.ok m.n.length h3 (MkInv.sum qS h3 h4 (by omega))
def Q5r(t:Txt)(a:Int)(N D S:List AV):List AV:=Q1 (Q2n t a (mkB N D S)).n
def Q5y(t:Txt)(a:Int)(N D S:List AV):List AV:=Q11 (Q2n t a (mkB N D S)).d
def Q5u(t:Txt)(a:Int)(N D S:List AV):List AV:=Qg (Q2n t a (mkB N D S)).s
def QpX(p:Pr)(nm:Int->Int->List AV)(wr:Int->Int->Int->List AV->List AV)(lf:Int->Int->Int->List AV->List AV)(kd:Int->List AV->List AV)(eq:List AV->List AV->Bool)(mn md ms sn ss:Int->List AV->List AV->List AV->List AV):Nat->List AV->List Ob->Option (AV×List Ob):=fun f args ob=>match f,args with
 |97,[.box 0 0,.agg [_,.val (.int .i64 f),.val (.int .i64 u),_]]=>some (.slc 1 (nm f u),ob)
 |96,[.box 0 0,.val (.int .i64 c),.val (.int .i64 f),.val (.int .i64 u)]=>Q3S ob fun b k m r o rt N D S=>some (.tup [],obM 1 b k m r o rt N (wr c f u D) S)
 |100,[.box 0 0,.agg [.val (.int .i64 kind),.val (.int .i64 f),.val (.int .i64 u),_]]=>Q3S ob fun b k m r o rt N D S=>some (.val (.int .i64 (p.len N)),obM 1 b k m r o rt (lf kind f u N) D S)
 |23,[.box 0 0,.val (.int .i64 n)]=>Q3S ob fun b k m r o rt N D S=>some (.tup [],obM 1 b k m r o rt N D (kd n S))
 |133,[.slc 1 x,.slc 1 y]=>some (.val (.bool (eq x y)),[])
 |51,[.box 0 0,.val (.int .i64 a)]=>Q3S ob fun b k m r o rt N D S=>some (.tup [],obM 1 b k m r o rt (mn a N D S) (md a N D S) (ms a N D S))
 |101,[.box 0 0,.val (.int .i64 n)]=>Q3S ob fun b k m r o rt N D S=>some (.tup [],obM 1 b k m r o rt (sn n N D S) D (ss n N D S))
 |_,_=>none
def eqA(x y:List AV):Bool:=decide (x.map RowKit.intOf=y.map RowKit.intOf)
theorem QmI(x y:List Int):eqA (Q0 x) (Q0 y)=decide (x=y):=by rw[eqA,Q51,Q51]
theorem QmM(l:List Int):Q2o (slR l)=Q0 l:=by cases l<;>rfl
theorem QpM(l:List Int):slR l=.slc 1 (Q0 l)\/slR l=.val (.slice none 0 0):=by
 cases l with
 |nil=>exact .inr rfl
 |cons x r=>exact .inl rfl
def Q63(s:List Opn)(k:Int):Opn:=s[k.toNat]?.getD ⟨[],[]⟩
theorem Qqa{s:List Opn}{k:Int}(h0:0<=k)(h1:k<s.length):(Qg s).getD k.toNat .dead=(Q63 s k).av:=by
 have:k.toNat<s.length:=by omega
 simp[Qg,Q63,this]
theorem Q9S{s:List Opn}{nm:List Int}{k:Int}(h:0<k):Q1H s nm k.toNat=if(Q63 s k).name=nm then k.toNat else Q1H s nm (k-1).toNat:=by
 obtain⟨n,hn⟩:∃n:Nat,k.toNat=n+1:=⟨k.toNat-1,by omega⟩
 rw[Q63,show(k-1).toNat=n by omega,hn];rfl
theorem Qh8(t:Txt)(a:Int)(m:Mk):Q5r t a (Q1 m.n) (Q11 m.d) (Qg m.s)=Q1 (Q2n t a m).n:=by rw[Q5r,Q2j]
theorem QgZ(t:Txt)(a:Int)(m:Mk):Q5y t a (Q1 m.n) (Q11 m.d) (Qg m.s)=Q11 (Q2n t a m).d:=by rw[Q5y,Q2j]
theorem QgT(t:Txt)(a:Int)(m:Mk):Q5u t a (Q1 m.n) (Q11 m.d) (Qg m.s)=Qg (Q2n t a m).s:=by rw[Q5u,Q2j]
theorem Qnv(l:Int)(y:Node)(m:Mk):Q7n l (Q1 (m.n++[y])) (Q11 m.d) (Qg m.s)=Q1 (Q1C l (Q1F y m)).n:=by
 have:=Q2j (Q1F y m)
 rw[Q7n];exact congrArg (fun z=>Q1 (Q1C l z).n) this
theorem QoI(l:Int)(y:Node)(m:Mk):Q7H l (Q1 (m.n++[y])) (Q11 m.d) (Qg m.s)=Qg (Q1C l (Q1F y m)).s:=by
 have:=Q2j (Q1F y m)
 rw[Q7H];exact congrArg (fun z=>Qg (Q1C l z).s) this
theorem QqB(t:Txt)(b:List UInt8)(hs:Sml t b)(rt:Int)(m:Mk)(X:List UInt8)(B D:Nat)(iv:MkInv m X B D)(hB:B<=800000)(hD:D<=800000)(hX:X.length<=1000000)(kind f u:Int)(wh:Bool)(hi:InT t f u) :
  BCall prog 99 [.box 0 0,.agg [.val (.int .i64 kind),.val (.int .i64 f),.val (.int .i64 u),.val (.bool wh)]] (obT 0 t b rt m) (.tup []) (obT 1 t b rt (Q2u t b kind f u m)):=by
 have cN:=QgH t b hs.hr rt m kind f u wh hi.h0 hi.h1 hi.h2;have qe:=hi.off hs;have ok:=iv.ok (by omega) (by omega)
 unfold obT obM;obtain⟨L,hL⟩:=QG m.s;have slen:=Q3K m.s;refine fnN (QpX std (nmA t) (wrA t) (lfT t b) kdA eqA (Q5r t) (Q5y t) (Q5u t) Q7n Q7H) func99 rfl fun _ _=>?_
 generalize hN:Q1 m.n=N;generalize zp:Q11 m.d=D';generalize hS:Qg m.s=S;generalize vN:Q4 b=B';generalize hR:Q0 t.r=R;generalize hO:Q9 t.off=O;generalize hK:t.kind=K;generalize hM:t.bom=M;with_reducible refine Q61 (nmA t) (wrA t) (lfT t b) kdA eqA (Q5r t) (Q5y t) (Q5u t) Q7n Q7H ?_
 subst hN zp hS vN hR hO hK hM;have jH:std.len (Qg m.s)=L:=by show((Qg m.s).length:Int)=L;rw[slen,hL.eq]
 have hL1:1<=L:=by have:=hL.eq;have:=ok.s1;omega
 have hLn:L<=900000:=by have:=hL.eq;have:=ok.s;omega
 refine⟨cN,?_,?_⟩
 ·show(-9223372036854775808:Int)<=std.len (Qg m.s)-1/\std.len (Qg m.s)-1<=(9223372036854775807:Int)
  rw[jH];omega
 obtain⟨nm0,qf⟩:=exq (QC t f u);have hnmA:nmA t f u=Q0 nm0:=by rw[qf];rfl
 rw[hnmA];refine Q1h (QpX std (nmA t) (wrA t) (lfT t b) kdA eqA (Q5r t) (Q5y t) (Q5u t) Q7n Q7H) (Int) (fun k=>⟨[(0,.box 0 0),(3,.box 6 0),(4,.slc 1 (Q0 nm0)),(5,.val (.int .i64 k))],[.box [.slc 1 (Q4 b),.box 1 0,.row 5 0],.box [.val (.int .i64 t.kind),.val (.int .i64 t.bom),.slc 1 (Q0 t.r),.slc 1 (Q9 t.off),.box 2 0,.val (.int .i64 rt),.row 4 0],.box [.row 3 0],.row 123 6 false 0 (Q1 m.n),.row 113 3 false 0 (Q11 m.d),.row 69 2 false 0 (Qg m.s),.box [.val (.int .i64 kind),.val (.int .i64 f),.val (.int .i64 u),.val (.bool wh)]]⟩) (fun k=>0<=k/\k<=L-1/\Q1H m.s nm0 k.toNat=Q1H m.s nm0 (m.s.length-1)) (fun k=>k.toNat) (L-1) ?_ ?_ ?_
 ·exact⟨by omega,Int.le_refl _,by have:=hL.eq;rw[show(L-1).toNat=m.s.length-1 by omega]⟩
 ·exact⟨[some 0,some 1,some 2,some 3,some 4,some 5,some 6],_,rfl,by simp[Qm,lk,std,slen,hL.eq]⟩
 ·rintro k ⟨qI,jT,j1⟩
  generalize hN:Q1 m.n=N;generalize zp:Q11 m.d=D';generalize hS:Qg m.s=S;generalize vN:Q4 b=B';generalize hR:Q0 t.r=R;generalize hO:Q9 t.off=O;generalize hK:t.kind=K;generalize hM:t.bom=M;generalize xT:Q0 nm0=NM;with_reducible refine Q61 (nmA t) (wrA t) (lfT t b) kdA eqA (Q5r t) (Q5y t) (Q5u t) Q7n Q7H ?_
  subst hN zp hS vN hR hO hK hM xT;have qN:k<m.s.length:=by have:=hL.eq;omega
  have jX:=Qqa qI qN
  have cx:std.nth (std.drp (std.cel (std.at_ (Qg m.s) k)) 0) 0=slR (Q63 m.s k).name:=by
   show((((Qg m.s).getD k.toNat .dead).cells).drop 0).getD 0 .dead=_
   rw[jX];rfl
  have zO:std.lst (std.nth (std.drp (std.cel (std.at_ (Qg m.s) k)) 0) 0)=Q0 (Q63 m.s k).name:=by
   show Q2o (std.nth (std.drp (std.cel (std.at_ (Qg m.s) k)) 0) 0)=_;rw[cx,QmM]
  have yU:(Q63 m.s k).name.length<=1000000000:=by
   have zY:k.toNat<m.s.length:=by omega
   have:=iv.nm (Q63 m.s k) (by rw[Q63,getElem?_eq_getElem zY];exact getElem_mem zY)
   omega
  have qa:nm0.length<=1000000000:=by
   have h3:=Qa9 t f u;have h4:=hs.hr;rw[qf];omega
  have cE:=Qn4 (Q63 m.s k).name nm0 yU qa;rw[<-QmI,<-zO]at cE
  have hq:∀c,std.notB (eqA (std.lst (std.nth (std.drp (std.cel (std.at_ (Qg m.s) k)) 0) 0)) (Q0 nm0))=c->decide ((Q63 m.s k).name=nm0)=!c:=fun c h=>by
   rw[zO,QmI]at h;have h:(!decide ((Q63 m.s k).name=nm0))=c:=h;rw[<-h,Bool.not_not]
  refine⟨fun hk=>⟨?_,⟨?_,trivial⟩,cE,fun jI=>⟨?_,k-1,⟨?_,?_,?_⟩,?_,[some 0,some 1,some 2,some 3,some 4,some 5,some 6],_,rfl,by simp[Qm,lk,std]⟩,fun j4=>?_⟩,fun hk=>?_⟩
  ·show 0<=k/\k<std.len (Qg m.s)
   rw[jH];omega
  ·show std.nth (std.drp (std.cel (std.at_ (Qg m.s) k)) 0) 0=.slc 1 (std.lst (std.nth (std.drp (std.cel (std.at_ (Qg m.s) k)) 0) 0))\/std.nth (std.drp (std.cel (std.at_ (Qg m.s) k)) 0) 0=.val (.slice none 0 0)
   rw[zO,cx];exact QpM _
  ·show(-9223372036854775808:Int)<=k-1/\k-1<=(9223372036854775807:Int)
   omega
  ·have:0<k:=of_decide_eq_true hk
   omega
  ·omega
  ·have h1:0<k:=of_decide_eq_true hk
   rw[<-j1,Q9S (nm:=nm0) h1,if_neg (of_decide_eq_false (hq _ jI))]
  ·have h1:0<k:=of_decide_eq_true hk
   omega
  ·have h1:0<k:=of_decide_eq_true hk
   have hf:Q1H m.s nm0 (m.s.length-1)=k.toNat:=by rw[<-j1,Q9S (nm:=nm0) h1,if_pos (of_decide_eq_true (hq _ j4))]
   clear cE hq;have jq:k.toNat≠0:=by omega
   have hE:Q2u t b kind f u m=Q1C (missGo t f k.toNat m.s.length m).n.length (Q2d t b kind f u (missGo t f k.toNat m.s.length m)):=by
    show(if Q1H m.s (QC t f u) (m.s.length-1)=0 then _ else _)=_
    rw[<-qf,hf,if_neg jq]
   obtain⟨kn,pd⟩:=exq k.toNat;obtain⟨M0,pe⟩:=exq (missGo t f kn m.s.length m);rw[<-pd,<-pe]at hE;have hkI:k=(kn:Int):=by omega
   rw[hE];clear hE hf j1 qN;rw[if_pos trivial];generalize hN:Q1 m.n=N;generalize zp:Q11 m.d=D';generalize hS:Qg m.s=S;generalize vN:Q4 b=B';generalize hR:Q0 t.r=R;generalize hO:Q9 t.off=O;generalize hK:t.kind=K;generalize hM:t.bom=M;generalize xT:Q0 nm0=NM;with_reducible refine Q61 (nmA t) (wrA t) (lfT t b) kdA eqA (Q5r t) (Q5y t) (Q5u t) Q7n Q7H ?_
   subst hN zp hS vN hR hO hK hM xT;refine⟨fun hz=>?_,fun _=>?_⟩
   ·have hz:(k == 0)=true:=hz
    have:k=0:=by simpa using hz
    omega
   refine Q1h (QpX std (nmA t) (wrA t) (lfT t b) kdA eqA (Q5r t) (Q5y t) (Q5u t) Q7n Q7H) (Mk) (fun x=>⟨[(0,.box 0 0),(3,.box 6 0),(5,.val (.int .i64 k))],[.box [.slc 1 (Q4 b),.box 1 0,.row 5 1],.box [.val (.int .i64 t.kind),.val (.int .i64 t.bom),.slc 1 (Q0 t.r),.slc 1 (Q9 t.off),.box 2 0,.val (.int .i64 rt),.row 4 1],.box [.row 3 1],.row 123 6 false 1 (Q1 x.n),.row 113 3 false 1 (Q11 x.d),.row 69 2 false 1 (Qg x.s),.box [.val (.int .i64 kind),.val (.int .i64 f),.val (.int .i64 u),.val (.bool wh)]]⟩) (fun x=>MkInv x X B D/\kn+1<=x.s.length/\missGo t f kn x.s.length x=M0) (fun x=>x.s.length) m ?_ ?_ ?_
   ·exact⟨iv,by have:=hL.eq;omega,pe.symm⟩
   ·exact⟨[some 0,some 1,some 2,some 3,some 4,some 5,some 6],_,rfl,by simp[Qm,lk,std]⟩
   ·rintro x ⟨hv,gt,pf⟩
    have okx:=hv.ok (by omega) (by omega)
    have xlen:=Q3K x.s;obtain⟨LX,nc⟩:=QG x.s;generalize hN:Q1 x.n=N;generalize zp:Q11 x.d=D';generalize hS:Qg x.s=S;generalize vN:Q4 b=B';generalize hR:Q0 t.r=R;generalize hO:Q9 t.off=O;generalize hK:t.kind=K;generalize hM:t.bom=M;with_reducible refine Q61 (nmA t) (wrA t) (lfT t b) kdA eqA (Q5r t) (Q5y t) (Q5u t) Q7n Q7H ?_
    subst hN zp hS vN hR hO hK hM;have p7:std.len (Qg x.s)=LX:=by show((Qg x.s).length:Int)=LX;rw[xlen,nc.eq]
    have hX1:1<=LX/\LX<=900000:=by have:=nc.eq;have:=okx.s;have:=okx.s1;omega
    simp only[Qh8,QgZ,QgT];refine⟨?_,fun zM=>?_,fun jJ=>?_⟩
    ·show(-9223372036854775808:Int)<=std.len (Qg x.s)-1/\std.len (Qg x.s)-1<=(9223372036854775807:Int)
     rw[p7];omega
    ·have zM:k<std.len (Qg x.s)-1:=of_decide_eq_true zM
     rw[p7]at zM;have jT:kn<x.s.length-1:=by have:=nc.eq;omega
     have gQ:2<=x.s.length:=by omega
     have c:=Qkt t b rt hv (by omega) (by omega) hX f qe.1 gQ
     refine⟨c,Q2n t f x,⟨(Q4X hv gQ t f).1,by rw[Q8a];omega,by rw[<-Q9m jT];exact pf⟩,by rw[Q8a];omega,[some 0,some 1,some 2,some 3,some 4,some 5,some 6],_,rfl,by simp[Qm,lk,std]⟩
    ·have jJ:¬k<std.len (Qg x.s)-1:=of_decide_eq_false jJ
     rw[p7]at jJ;have jT:¬kn<x.s.length-1:=by have:=nc.eq;omega
     have zy:x=M0:=by rw[<-pf,Q9Z jT]
     subst zy;have gQ:2<=x.s.length:=by omega
     have cL:=Qa8 t b hs.hb hs.ok hs.hr rt x (by have:=okx.n;omega) kind f u wh hi.h0 hi.h1 hi.h2
     have cS:=QpZ t b rt hv (by omega) (by omega) hX gQ kind (QQ t b f u) (by have:=Qc5 t b f u;have:=hs.hb;omega)
     simp only[obT,obM,Q2d]at cL cS ⊢;clear jJ p7 hX1 jT gQ pf gt hkI pd zO cx jX;rw[if_pos trivial];generalize hN:Q1 x.n=N;generalize zp:Q11 x.d=D';generalize hS:Qg x.s=S;generalize vN:Q4 b=B';generalize hR:Q0 t.r=R;generalize hO:Q9 t.off=O;generalize hK:t.kind=K;generalize hM:t.bom=M;with_reducible refine Q61 (nmA t) (wrA t) (lfT t b) kdA eqA (Q5r t) (Q5y t) (Q5u t) Q7n Q7H ?_
     subst hN zp hS vN hR hO hK hM;simp only[std,Qat,Q1g,Qnv,QoI];refine⟨cL,cS,[some 0,some 1,some 2,some 3,some 4,some 5],.tup [],_,rfl,rfl,le_of_ble_eq_true rfl,rfl,?_,trivial⟩;simp[Qm];rfl
  ·have hk:¬0<k:=of_decide_eq_false hk
   have pg:k=0:=by omega
   have hf:Q1H m.s nm0 (m.s.length-1)=0:=by rw[<-j1,pg];rfl
   have hE:Q2u t b kind f u m=lkF t b kind f u (QI t 3 f u m):=by
    show(if Q1H m.s (QC t f u) (m.s.length-1)=0 then _ else _)=_
    rw[<-qf,hf,if_pos rfl]
   rw[hE];clear cE hq hE hf j1 qN zO cx jX yU qa;rw[if_pos trivial];generalize hN:Q1 m.n=N;generalize zp:Q11 m.d=D';generalize hS:Qg m.s=S;generalize vN:Q4 b=B';generalize hR:Q0 t.r=R;generalize hO:Q9 t.off=O;generalize hK:t.kind=K;generalize hM:t.bom=M;generalize xT:Q0 nm0=NM;with_reducible refine Q61 (nmA t) (wrA t) (lfT t b) kdA eqA (Q5r t) (Q5y t) (Q5u t) Q7n Q7H ?_
   subst hN zp hS vN hR hO hK hM xT;refine⟨fun _=>?_,fun hz=>?_⟩
   ·have hd:=ok.d
    have cW:=Q9x t b rt m (by omega) 3 f u qe.1 qe.2
    have cL:=Qa8 t b hs.hb hs.ok hs.hr rt (QI t 3 f u m) (by have:=ok.n;show m.n.length<=_;omega) kind f u wh hi.h0 hi.h1 hi.h2
    have cK:=Qbh t b rt (Q2d t b kind f u (QI t 3 f u m)) (by have:=ok.s1;exact this) (by have:=ok.s;show m.s.length<=_;omega) (by have:=ok.top;show(QR m.s).kids.length<=_;omega) m.n.length
    simp only[obT,obM,Q2d,Q1F,Q2X,QI,lkF]at cW cL cK ⊢;simp only[std,Qat,QaF,Qa1,Q1g];exact⟨cW,cL,cK,[some 0,some 1,some 2,some 3,some 4,some 5],.tup [],_,rfl,rfl,le_of_ble_eq_true rfl,rfl,by simp[Qm],trivial⟩
   ·have hz:(k == 0)=false:=hz
    rw[pg]at hz;cases hz
end
theorem MkInv.mono{m:Mk}{X:List UInt8}{B D B' D':Nat}(h:MkInv m X B D)(hB:B<=B')(hD:D<=D'):MkInv m X B' D' :=
 ⟨h.ar,h.rng,h.p,h.s1,le_trans h.n hB,le_trans h.d hD,le_trans h.k hB,h.nm⟩
theorem Qcx{m:Mk}{X:List UInt8}{B D:Nat}(h:MkInv m X B D)(t:Txt)(b:List UInt8)(hr:t.r.length<=1000000)(kind f u:Int):MkInv (Q1k t b kind f u m) (X++QQ t b f u) (B+3) (D+2):=by
 unfold Q1k;split
 ·exact(QaT (Q1Q h t 5 f u) t b kind f u).mono (by omega) (by omega)
 ·exact QaT (QeE h (QC t f u) (le_trans (Qa9 t f u) hr)) t b kind f u
theorem Q7i(t:Txt)(f:Int)(k:Nat){X:List UInt8}{B D:Nat}:∀(n:Nat)(m:Mk),MkInv m X B D->k+1<=m.s.length->m.s.length<=n+k+1->MkInv (missGo t f k n m) X B D/\(missGo t f k n m).s.length=k+1
 |0,m,h,h1,h2=>⟨h,by show m.s.length=_;omega⟩
 |n+1,m,h,h1,h2=>by
  show MkInv (if _ then _ else _) X B D/\(if _ then _ else _:Mk).s.length=_;split
  ·have h3:=Q4X h (by omega) t f
   exact Q7i t f k n _ h3.1 (by omega) (by omega)
  ·exact⟨h,by omega⟩
theorem Q4F(s:List Opn)(nm:List Int):∀k,Q1H s nm k<=k
 |0=>le_refl _
 |k+1=>by
  unfold Q1H;split
  ·exact le_refl _
  ·exact Nat.le_succ_of_le (Q4F s nm k)
theorem Qhd{m:Mk}{X:List UInt8}{B D:Nat}(h:MkInv m X B D)(t:Txt)(b:List UInt8)(kind f u:Int):MkInv (Q2u t b kind f u m) (X++QQ t b f u) (B+1) (D+1):=by
 unfold Q2u;have h1:=h.s1;have h2:=Q4F m.s (QC t f u) (m.s.length-1);simp only
 split
 ·exact QaT (Q1Q h t 3 f u) t b kind f u
 ·obtain⟨h3,h4⟩:=Q7i t f (Q1H m.s (QC t f u) (m.s.length-1)) m.s.length m h (by omega) (by omega)
  exact(Qa0 h3 (by omega) kind (QQ t b f u) (D':=D) (by omega)).1.mono (by omega) (by omega)
theorem Qj3{m:Mk}{X:List UInt8}{B D:Nat}(h:MkInv m X B D)(t:Txt)(b:List UInt8)(hr:t.r.length<=1000000)(kind f u:Int)(wh:Bool):MkInv (Q1E t b kind f u wh m) (X++QQ t b f u) (B+3) (D+3):=by
 unfold Q1E;simp only
 generalize jo:(if wh=false then QI t 1 f u m else if(kind=8\/kind=9\/kind=10)/\(QB t.r f u).right=false then QI t 2 f u m else m)=m1
 have h1:MkInv m1 X B (D+1):=by
  rw[<-jo];split
  ·exact Q1Q h t 1 f u
  ·split
   ·exact Q1Q h t 2 f u
   ·exact h.mono (by omega) (by omega)
 split
 ·exact(Qcx h1 t b hr kind f u).mono (by omega) (by omega)
 ·split
  ·exact(Qhd h1 t b kind f u).mono (by omega) (by omega)
  ·exact(QaT h1 t b kind f u).mono (by omega) (by omega)
def Q67(t:Txt)(b:List UInt8)(k:Int):List UInt8:=b.take (Q2c t k).toNat
theorem Q5X{t:Txt}{b:List UInt8}(ok:TxtOk t b){f u:Int}(h0:0<=f)(h1:f<=u)(h2:u<=t.r.length):Q67 t b f++QQ t b f u=Q67 t b u:=by
 have hm:=ok.mono f.toNat u.toNat (by omega) (by omega)
 have jH:=ok.len;have hf:f.toNat<t.off.length:=by omega
 have h3:=ok.range (t.off[f.toNat]'hf) (getElem_mem hf);have e3:t.off[f.toNat]?.getD 0=t.off[f.toNat]:=by rw[getElem?_eq_getElem hf];rfl
 rw[<-e3]at h3;show b.take (t.off[f.toNat]?.getD 0).toNat++(b.drop (t.off[f.toNat]?.getD 0).toNat).take _=b.take (t.off[u.toNat]?.getD 0).toNat;generalize t.off[f.toNat]?.getD 0=p at *;generalize t.off[u.toNat]?.getD 0=q at *;rw[show q.toNat=p.toNat+(q-p).toNat by omega,List.take_add]
theorem Qb5{t:Txt}{b:List UInt8}(ok:TxtOk t b):Q67 t b t.r.length=b:=by
 rw[Q67,Q2c,Int.toNat_natCast,ok.last,Int.toNat_natCast,List.take_length]
def Q5U(t:Txt)(b:List UInt8)(m:Mk)(x:Tok):Mk:=Q1E t b x.kind x.from_ x.to x.whole m
theorem Qb2(l:List Int){k:Nat}(h:k<l.length):(Q13 l k).from_=k/\(Q13 l k).to=((Qd l k).2.1:Nat)/\k<(Qd l k).2.1/\(Qd l k).2.1<=l.length:=⟨rfl,rfl,Q2a l k h⟩
def Q8D(t:Txt)(b:List UInt8)(m:Mk):Mk :=
 let m1:=(Q2E t.r).foldl (Q5U t b) m
 missGo t t.r.length 0 m1.s.length m1
def Qs(m:Mk):Mk:=Q1F (Q15 m.n 20 (QR m.s).kids) m
theorem QhK{l:List Node}(h:Wf l)(x:Node):∀(f:Nat)(n:Int),0<=n->n<l.length->coF (l++[x]) f n=coF l f n
 |0,_,_,_=>rfl
 |f+1,n,h0,h1=>by
  simp only[coF,Q2x h0 h1];congr 2
  refine map_congr_left fun k hk=>?_
  have:=h n h0 h1 k hk
  exact QhK h x f k this.1 (by omega)
theorem Qpw{l:List Node}(h:Wf l)(x:Node){n:Int}(h0:0<=n)(h1:n<l.length):co (l++[x]) n=co l n:=QhK h x _ n h0 h1
def coL(l:List Node)(ks:List Int):Nat:=(ks.map (co l)).sum
theorem Q74{l:List Node}(h:Wf l)(x:Node){ks:List Int}(hk:InR l ks):coL (l++[x]) ks=coL l ks :=
 congrArg List.sum (map_congr_left fun k yu=>Qpw h x (hk k yu).1 (hk k yu).2)
theorem Qdv{l:List Node}(h:Wf l){x:Node}(hx:InR l x.kids):co (l++[x]) l.length=1+coL l x.kids:=by
 rw[Qch (Q9Q h hx) (by omega) (by simp only[length_append,length_singleton];omega),Q2e]
 exact congrArg (1 + ·) (Q74 h x hx)
theorem Q9J(l:List Node)(a b:List Int):coL l (a++b)=coL l a+coL l b:=by simp[coL]
theorem Q9F(l:List Node)(k:Int):coL l [k]=co l k:=by simp[coL]
def coK(l:List Node)(s:List Opn):Nat:=(s.map fun x=>coL l x.kids).sum
theorem Q6X(l:List Node)(s:List Opn)(x:Opn):coK l (s++[x])=coK l s+coL l x.kids:=by simp[coK]
theorem QcD{l:List Node}(h:Wf l)(x:Node){s:List Opn}(hs:∀y∈s,InR l y.kids):coK (l++[x]) s=coK l s :=
 congrArg List.sum (map_congr_left fun y hy=>Q74 h x (hs y hy))
def Qa2(m:Mk):Prop:=coK m.n m.s<=m.n.length
theorem QoM{m:Mk}(h:Qa2 m)(nm:List Int):Qa2 { m with s:=m.s++[⟨nm,[]⟩] }:=by
 show coK m.n (m.s++[⟨nm,[]⟩])<=_;have h:coK m.n m.s<=m.n.length:=h;rw[Q6X];simpa[coL]using h
theorem Q7r{m:Mk}{X:List UInt8}{B D:Nat}(h:MkInv m X B D)(hc:Qa2 m)(kind:Int)(bs:List UInt8):Qa2 (Q2X m.n.length (Q1F (Qq kind bs) m)):=by
 obtain⟨s0,qM⟩:=Q26 h.s1;generalize QR m.s=y at qM;have hr:=h.rng;rw[qM]at hr;have vC:∀z∈s0,InR m.n z.kids:=fun z hz=>hr z (mem_append_left _ hz)
 have v7:InR m.n y.kids:=hr y (by simp)
 have hx:InR m.n (Qq kind bs).kids:=fun k hk=>by cases hk
 have hc:coK m.n m.s<=m.n.length:=hc;rw[qM,Q6X]at hc;show coK (m.n++[Qq kind bs]) (Q1N m.n.length m.s)<=(m.n++[Qq kind bs]).length;rw[qM,Q1U,Q6X,Q9J,Q9F,QcD h.ar.wf _ vC,Q74 h.ar.wf _ v7,Qdv h.ar.wf hx];have:coL m.n (Qq kind bs).kids=0:=rfl
 rw[this];simp only[length_append,length_singleton];omega
theorem Qho{m:Mk}{X:List UInt8}{B D:Nat}(h:MkInv m X B D)(hc:Qa2 m)(hs:2<=m.s.length)(kind:Int)(bs:List UInt8):Qa2 (Q1C m.n.length (Q1F (Qq kind bs) m)):=by
 obtain⟨s1,jO⟩:=Q26 h.s1;generalize QR m.s=x at jO;have yb:1<=s1.length:=by rw[jO]at hs;simp at hs;omega
 obtain⟨s0,qM⟩:=Q26 yb;generalize QR s1=y at qM;subst qM;have qS:=(Q3G h.ar kind bs).1;have hr:=h.rng;rw[jO]at hr;have vC:∀z∈s0,InR m.n z.kids:=fun z hz=>hr z (mem_append_left _ (mem_append_left _ hz))
 have v7:InR m.n y.kids:=hr y (mem_append_left _ (by simp))
 have za:InR m.n x.kids:=hr x (by simp)
 have hx:InR m.n (Qq kind bs).kids:=fun k hk=>by cases hk
 have vM:InR (m.n++[Qq kind bs]) (x.kids++[(m.n.length:Int)]):=fun k hk=>by
  rcases mem_append.1 hk with hk|hk
  ·exact za.more _ k hk
  ·obtain rfl:k=(m.n.length:Int):=by simpa using hk
   simp;omega
 obtain⟨l1,hl⟩:=exq (m.n++[Qq kind bs]);obtain⟨z,hz⟩:=exq (Q15 l1 21 (x.kids++[(m.n.length:Int)]))
 have e1:coL l1 (x.kids++[(m.n.length:Int)])=coL m.n x.kids+1:=by
  rw[hl,Q9J,Q9F,Q74 h.ar.wf _ za,Qdv h.ar.wf hx];rfl
 have eT:QR (Q2X (m.n.length:Int) (Q1F (Qq kind bs) m)).s=⟨x.name,x.kids++[(m.n.length:Int)]⟩:=by
  show QR (Q1N m.n.length m.s)=_;rw[jO,Q1U,Q7P]
 have en:(Q1C m.n.length (Q1F (Qq kind bs) m)).n=l1++[z]:=by
  show(m.n++[Qq kind bs])++[Q15 (m.n++[Qq kind bs]) 21 (QR (Q2X (m.n.length:Int) (Q1F (Qq kind bs) m)).s).kids]=_
  rw[eT,<-hl,<-hz]
 have es:(Q1C m.n.length (Q1F (Qq kind bs) m)).s=s0++[⟨y.name,y.kids++[(l1.length:Int)]⟩]:=by
  show Q1N ((m.n++[Qq kind bs]).length:Int) ((Q1N m.n.length m.s).take ((Q1N m.n.length m.s).length-1))=_
  have e2:(Q1N m.n.length m.s).take ((Q1N m.n.length m.s).length-1)=s0++[y]:=by
   rw[jO,Q1U,show(s0++[y]++[(⟨x.name,x.kids++[(m.n.length:Int)]⟩:Opn)]).length-1=(s0++[y]).length by simp]
   exact List.take_left
  rw[e2,Q1U,hl]
 rw[<-hl]at qS vM;have pF:InR l1 z.kids:=by rw[hz];exact vM
 have hc:coK m.n m.s<=m.n.length:=hc;rw[jO,Q6X,Q6X]at hc
 have up0:coK (l1++[z]) s0=coK m.n s0:=by
  rw[QcD qS.wf z (fun q hq=>by rw[hl];exact(vC q hq).more _),hl,QcD h.ar.wf _ vC]
 have upy:coL (l1++[z]) y.kids=coL m.n y.kids:=by
  rw[Q74 qS.wf z (by rw[hl];exact v7.more _),hl,Q74 h.ar.wf _ v7]
 have gz:l1.length=m.n.length+1:=by rw[hl];simp
 show coK (Q1C m.n.length (Q1F (Qq kind bs) m)).n (Q1C m.n.length (Q1F (Qq kind bs) m)).s<=(Q1C m.n.length (Q1F (Qq kind bs) m)).n.length;rw[es,en,Q6X,Q9J,Q9F,up0,upy,Qdv qS.wf pF];have ez:coL l1 z.kids=coL m.n x.kids+1:=by rw[hz];exact e1
 rw[ez];simp only[length_append,length_singleton];omega
structure MkI (m:Mk) (X:List UInt8) (B D:Nat):Prop where
 i:MkInv m X B D
 c:Qa2 m
section
variable {m:Mk}{X:List UInt8}{B D:Nat}
theorem MkI.lk(h:MkI m X B D)(t:Txt)(b:List UInt8)(kind f u:Int):MkI (lkF t b kind f u m) (X++QQ t b f u) (B+1) D:=⟨QaT h.i t b kind f u,Q7r h.i h.c kind _⟩
theorem MkI.wrong(h:MkI m X B D)(t:Txt)(c f u:Int):MkI (QI t c f u m) X B (D+1):=⟨Q1Q h.i t c f u,h.c⟩
theorem MkI.start(h:MkI m X B D)(t:Txt)(b:List UInt8)(hr:t.r.length<=1000000)(kind f u:Int):MkI (Q1k t b kind f u m) (X++QQ t b f u) (B+3) (D+2):=by
 refine⟨Qcx h.i t b hr kind f u,?_⟩;unfold Q1k;split
 ·exact((h.wrong t 5 f u).lk t b kind f u).c
 ·exact Q7r (QeE h.i (QC t f u) (le_trans (Qa9 t f u) hr)) (QoM h.c _) kind _
theorem MkI.miss(h:MkI m X B D)(hs:2<=m.s.length)(t:Txt)(a:Int):MkI (Q2n t a m) X B D:=⟨(Q4X h.i hs t a).1,Qho (Q1Q h.i t 4 a a) h.c hs 22 []⟩
end
theorem MkI.missGo(t:Txt)(f:Int)(k:Nat){X:List UInt8}{B D:Nat}:∀(n:Nat)(m:Mk),MkI m X B D->k+1<=m.s.length->m.s.length<=n+k+1->MkI (missGo t f k n m) X B D/\(Go.Proofs.YtnlbhaeimmenoaaGreat.missGo t f k n m).s.length=k+1
 |0,m,h,h1,h2=>⟨h,by show m.s.length=_;omega⟩
 |n+1,m,h,h1,h2=>by
  show MkI (if _ then _ else _) X B D/\(if _ then _ else _:Mk).s.length=_;split
  ·have h3:=Q4X h.i (by omega) t f
   exact MkI.missGo t f k n _ (h.miss (by omega) t f) (by omega) (by omega)
  ·exact⟨h,by omega⟩
section
variable {m:Mk}{X:List UInt8}{B D:Nat}
theorem MkI.end_(h:MkI m X B D)(t:Txt)(b:List UInt8)(kind f u:Int):MkI (Q2u t b kind f u m) (X++QQ t b f u) (B+1) (D+1):=by
 refine⟨Qhd h.i t b kind f u,?_⟩;unfold Q2u;have h1:=h.i.s1;have h2:=Q4F m.s (QC t f u) (m.s.length-1);simp only
 split
 ·exact((h.wrong t 3 f u).lk t b kind f u).c
 ·obtain⟨h3,h4⟩:=MkI.missGo t f (Q1H m.s (QC t f u) (m.s.length-1)) m.s.length m h (by omega) (by omega)
  exact Qho h3.i h3.c (by omega) kind _
theorem MkI.token(h:MkI m X B D)(t:Txt)(b:List UInt8)(hr:t.r.length<=1000000)(kind f u:Int)(wh:Bool):MkI (Q1E t b kind f u wh m) (X++QQ t b f u) (B+3) (D+3):=by
 refine⟨Qj3 h.i t b hr kind f u wh,?_⟩;unfold Q1E;simp only
 generalize jo:(if wh=false then QI t 1 f u m else if(kind=8\/kind=9\/kind=10)/\(QB t.r f u).right=false then QI t 2 f u m else m)=m1
 have h1:∃D',MkI m1 X B D':=by
  rw[<-jo];split
  ·exact⟨_,h.wrong t 1 f u⟩
  ·split
   ·exact⟨_,h.wrong t 2 f u⟩
   ·exact⟨_,h⟩
 obtain⟨D',h1⟩:=h1;split
 ·exact(h1.start t b hr kind f u).c
 ·split
  ·exact(h1.end_ t b kind f u).c
  ·exact(h1.lk t b kind f u).c
end
theorem Q9W{t:Txt}{b:List UInt8}(ok:TxtOk t b)(hr:t.r.length<=1000000):∀(n k:Nat)(m:Mk)(B D:Nat),t.r.length-k<=n->k<=t.r.length->MkI m (Q67 t b k) B D ->
  MkI ((Q1L t.r k).foldl (Q5U t b) m) b (B+3 * n) (D+3 * n)
 |0,k,m,B,D,h,hk,hi=>by
  rw[Q1a (by omega)]
  have:k=t.r.length:=by omega
  subst this;rw[Qb5 ok]at hi;exact hi
 |n+1,k,m,B,D,h,hk,hi=>by
  by_cases jB:k<t.r.length
  ·obtain⟨h1,h2,h3,h4⟩:=Qb2 t.r jB
   rw[Q1w jB,List.foldl_cons];have:=hi.token t b hr (Q13 t.r k).kind (Q13 t.r k).from_ (Q13 t.r k).to (Q13 t.r k).whole
   rw[h1,h2,Q5X ok (by omega) (by omega) (by omega)]at this
   have h5:=Q9W ok hr n (Qd t.r k).2.1 _ (B+3) (D+3) (by omega) h4 this
   rw[show B+3 * (n+1)=B+3+3 * n by omega,show D+3 * (n+1)=D+3+3 * n by omega]
   have e:Q5U t b m (Q13 t.r k)=Q1E t b (Q13 t.r k).kind k ((Qd t.r k).2.1:Nat) (Q13 t.r k).whole m:=rfl;rw[e];exact h5
  ·rw[Q1a jB]
   have:k=t.r.length:=by omega
   subst this;rw[Qb5 ok]at hi;exact⟨hi.i.mono (by omega) (by omega),hi.c⟩
theorem QhT{t:Txt}{b:List UInt8}(ok:TxtOk t b)(hr:t.r.length<=1000000){m:Mk}{B D:Nat}(hi:MkI m (Q67 t b 0) B D) :
  MkI (Q8D t b m) b (B+3 * t.r.length) (D+3 * t.r.length)/\(Q8D t b m).s.length=1:=by
 have h1:=Q9W ok hr t.r.length 0 m B D (by omega) (by omega) hi
 have h2:=h1.i.s1;obtain⟨h3,h4⟩:=MkI.missGo t t.r.length 0 _ _ h1 (by omega) (Nat.le_succ _)
 exact⟨h3,h4⟩
theorem Qel{b:List UInt8}{m:Mk}{B D:Nat}(hi:MkI m b B D)(h1:m.s.length=1) :
  Ar (Qs m).n/\pr (Qs m).n m.n.length=b/\(Qh (Qs m).n m.n.length).width=b.length/\co (Qs m).n m.n.length<=1+m.n.length:=by
 have hk:=hi.i.top;obtain⟨ha,hp⟩:=Q6Q hi.i.ar 20 hk;obtain⟨s0,qM⟩:=Q26 hi.i.s1
 have hs:s0=[]:=by
  rw[qM]at h1;exact List.eq_nil_of_length_eq_zero (by simpa using h1)
 subst hs
 have hX:(QR m.s).kids.flatMap (pr m.n)=b:=by
  have:=hi.i.p
  rw[qM]at this;generalize QR m.s=y at *;simpa[prK]using this
 have hC:coL m.n (QR m.s).kids<=m.n.length:=by
  have h2:coK m.n m.s<=m.n.length:=hi.c;rw[qM]at h2;generalize QR m.s=y at *;simpa[coK]using h2
 have jH:(m.n.length:Int)<((Qs m).n.length:Int):=by
  show(m.n.length:Int)<((m.n++[_]).length:Int)
  simp only[length_append,length_singleton];omega
 have e2:pr (Qs m).n m.n.length=b:=by
  show pr (m.n++[_]) _=_;rw[hp,hX]
 refine⟨ha,e2,?_,?_⟩
 ·have:=ha.wide m.n.length (by omega) jH
  have e3:(Qh (Qs m).n m.n.length).width=((pr (Qs m).n m.n.length).length:Int):=this;rw[e3,e2]
 ·show co (m.n++[Q15 m.n 20 (QR m.s).kids]) m.n.length<=_
  rw[Qdv hi.i.ar.wf (x:=Q15 m.n 20 (QR m.s).kids) hk];have:coL m.n (Q15 m.n 20 (QR m.s).kids).kids<=m.n.length:=hC
  omega
