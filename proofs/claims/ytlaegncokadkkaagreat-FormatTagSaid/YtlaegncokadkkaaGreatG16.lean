/- Lemmas, conditions told -/
import Derived.Test.YtlaegncokadkkaaGreatG13
import Derived.Test.YtlaegncokadkkaaGreatG15
set_option maxRecDepth 99999
set_option maxHeartbeats 0
set_option linter.unusedSimpArgs false
set_option linter.unusedVariables false
namespace Go.Proofs.YtlaegncokadkkaaGreat
open List(map_cons length_take length_drop length_cons map_take getElem?_eq_getElem getElem_mem length_append length_singleton mem_append map_congr_left sum_cons flatMap_cons mem_cons mem_append_left flatMap_nil append_nil flatten_cons)
open Nat(le_refl le_of_ble_eq_true le_trans)
open Go.RowKit Go.Lib
def QmF:AV:=.val (.slice none 0 0)
def slR(l:List Int):AV:=match l with|[]=>QmF|l=>.slc 1 (Q0 l)
def slK(l:List Int):AV:=match l with|[]=>QmF|l=>.slc 1 (Qh l)
structure Opn where
 name:List Int
 kids:List Int
 deriving Inhabited,DecidableEq
def Opn.av(x:Opn):AV:=.agg [slR x.name,slK x.kids]
def Qc(l:List Opn):List AV:=l.map Opn.av
structure Dg where
 f:Int
 t:Int
 c:Int
 deriving Inhabited,DecidableEq
def Dg.av(x:Dg):AV:=.agg [.val (.int .i64 x.f),.val (.int .i64 x.t),.val (.int .i64 x.c)]
def QJ(l:List Dg):List AV:=l.map Dg.av
def Q9N(x:AV):List Int:=(Q3z x).map intOf
def Qop:AV->Opn
 |.agg [a,k]=>⟨Q9N a,Q9N k⟩
 |_=>⟨[],[]⟩
def dgB:AV->Dg
 |.agg [a,b,c]=>⟨intOf a,intOf b,intOf c⟩
 |_=>⟨0,0,0⟩
def Qmu:AV->Node
 |.agg [k,w,c,l,b,s]=>⟨intOf k,intOf w,intOf c,Q8M l,(Q3z b).map Q2K,Q9N s⟩
 |_=>Qbq
theorem Q7n{α:Type}{f:α->AV}{g:AV->α}(h:∀x,g (f x)=x)(l:List α):(l.map f).map g=l:=by
 induction l with
 |nil=>rfl
 |cons x r ih=>simp only[map_cons,h,ih]
theorem Q85(l:List Int):(Qh l).map intOf=l:=Q7n (fun _=>rfl) l
theorem Qiy(l:List Int):Q9N (slR l)=l:=by
 cases l with
 |nil=>rfl
 |cons x r=>exact Q4n (x::r)
theorem QjY(l:List Int):Q9N (slK l)=l:=by
 cases l with
 |nil=>rfl
 |cons x r=>exact Q85 (x::r)
theorem QjC(x:Opn):Qop x.av=x:=by
 show(⟨Q9N (slR x.name),Q9N (slK x.kids)⟩:Opn)=x
 rw[Qiy,QjY]
theorem QlW(x:Dg):dgB x.av=x:=rfl
theorem QgG(x:Node):Qmu x.av=x:=by
 show(⟨x.kind,x.width,x.count,x.leaf,(Q5 x.b).map Q2K,(Qh x.kids).map intOf⟩:Node)=x
 rw[Q2Q,Q85]
def Qkp(l:List AV):List Opn:=l.map Qop
def Qnt(l:List AV):List Dg:=l.map dgB
def QeS(l:List AV):List Node:=l.map Qmu
theorem Qb8(l:List Opn):Qkp (Qc l)=l:=Q7n QjC l
theorem QcQ(l:List Dg):Qnt (QJ l)=l:=Q7n QlW l
theorem Qa4(l:List Node):QeS (Q9 l)=l:=Q7n QgG l
theorem Q3d(l:List Opn):(Qc l).length=l.length:=by simp[Qc]
theorem Qle(l:List Dg):(QJ l).length=l.length:=by simp[QJ]
structure Mk where
 n:List Node
 d:List Dg
 s:List Opn
 deriving Inhabited
def obM(e:Nat)(b k m r o rt:AV)(N D S:List AV):List Ob :=
 [.box [b,.box 1 0,.row 5 e],.box [k,m,r,o,.box 2 0,rt,.row 4 e],.box [.row 3 e],.row 197 6 false e N,.row 233 3 false e D,.row 136 2 false e S]
def Q37(ob:List Ob)(f:AV->AV->AV->AV->AV->AV->List AV->List AV->List AV->Option (AV×List Ob)):Option (AV×List Ob):=match ob with
 | [.box [b,.box 1 0,.row 5 0],.box [k,m,r,o,.box 2 0,rt,.row 4 0],.box [.row 3 0],.row 197 6 false 0 N,.row 233 3 false 0 D,.row 136 2 false 0 S]=>f b k m r o rt N D S
 |_=>none
def obT(e:Nat)(t:Txt)(b:List UInt8)(rt:Int)(m:Mk):List Ob :=
 obM e (.slc 1 (Q5 b)) (.val (.int .i64 t.kind)) (.val (.int .i64 t.bom)) (.slc 1 (Q0 t.r)) (.slc 1 (Qh t.off)) (.val (.int .i64 rt)) (Q9 m.n) (QJ m.d) (Qc m.s)
def Q31(t:Txt)(i:Int):Int:=t.off[i.toNat]?.getD 0
def QO(t:Txt)(c f u:Int)(m:Mk):Mk:={ m with d:=m.d++[⟨Q31 t f,Q31 t u,c⟩] }
def QM(s:List Opn):Opn:=s[s.length-1]?.getD ⟨[],[]⟩
def Q2L(n:Int)(s:List Opn):List Opn:=s.set (s.length-1) ⟨(QM s).name,(QM s).kids++[n]⟩
def Q3i(n:Int)(m:Mk):Mk:={ m with s:=Q2L n m.s }
def Q1W(x:Node)(m:Mk):Mk:={ m with n:=m.n++[x] }
def Q1O(t:Txt)(b:List UInt8)(kind f u:Int)(m:Mk):Mk:=Q1W (QA kind (Q1r t b f u)) m
def Qo9(m:Mk):Mk:={ m with s:=m.s.take (m.s.length-1) }
def Q1T(last:Int)(m:Mk):Mk :=
 let m1:=Q3i last m
 Q3i m1.n.length (Q1W (Q1U m1.n 21 (QM m1.s).kids) (Qo9 m1))
def Q3l(t:Txt)(at_:Int)(m:Mk):Mk :=
 let m1:=QO t 4 at_ at_ m
 Q1T m1.n.length (Q1W (QA 22 []) m1)
def Q10(t:Txt)(f u:Int):List Int:=(t.r.drop (Qa t.r f u).name.from_.toNat).take ((Qa t.r f u).name.to-(Qa t.r f u).name.from_).toNat
def lkF(t:Txt)(b:List UInt8)(kind f u:Int)(m:Mk):Mk:=Q3i m.n.length (Q1O t b kind f u m)
def Q1B(t:Txt)(b:List UInt8)(kind f u:Int)(m:Mk):Mk :=
 if 64<m.s.length then lkF t b kind f u (QO t 5 f u m)
 else lkF t b kind f u { m with s:=m.s++[⟨Q10 t f u,[]⟩] }
def Q2g(s:List Opn)(name:List Int):Nat->Nat
 |0=>0
 |k+1=>if(s[k+1]?.getD ⟨[],[]⟩).name=name then k+1 else Q2g s name k
def missGo(t:Txt)(f:Int)(k:Nat):Nat->Mk->Mk
 |0,m=>m
 |n+1,m=>if k<m.s.length-1 then missGo t f k n (Q3l t f m)else m
def Q3m(t:Txt)(b:List UInt8)(kind f u:Int)(m:Mk):Mk :=
 let k:=Q2g m.s (Q10 t f u) (m.s.length-1)
 if k=0 then lkF t b kind f u (QO t 3 f u m)
 else let m1:=missGo t f k m.s.length m
  Q1T m1.n.length (Q1O t b kind f u m1)
def Q36(t:Txt)(b:List UInt8)(kind f u:Int)(whole:Bool)(m:Mk):Mk :=
 let tagged:=kind=8\/kind=9\/kind=10
 let m1:=if whole=false then QO t 1 f u m else if tagged/\(Qa t.r f u).right=false then QO t 2 f u m else m
 if whole=true/\kind=8/\0<(Q10 t f u).length then Q1B t b kind f u m1
 else if whole=true/\kind=10 then Q3m t b kind f u m1
 else lkF t b kind f u m1
section
open Tryz
theorem BCall.see{P:Program}{f:Nat}{args:List AV}{ob ob1 ob':List Ob}{res r' res':AV}{l:Eqs}(h:BCall P f args ob res ob1)(ρ:List (Option Nat))(h1:Q1N ρ=true)(h2:QdV ob ob1 ob' ρ=true)(h3:ob.length<=ρ.length)
  (h4:both (QgI ob1 ob' ρ res r') (Q7C ob1 ob' ρ ρ ob')=some l) (h5:Qf l) (h6:leA r' res'):BCall P f args ob res' ob':=by
 refine⟨h.1,fun w g vs M hL=>(h.2 w g vs M hL).mono fun e w' ⟨v,g',k1,k2,k3,k4⟩=>?_⟩
 obtain⟨⟨l1,e1,a1⟩,l2,e2,a2⟩:=Q1y h4 h5;have hF:Fits ob1 ob' ρ:=Q2B _ _ _ e2 a2;exact⟨v,g'.ren ρ,k1,k2.ren hF h1,Q6a (Q4X hF h1 k3 e1 a1) h6,Q5x hF h1 h2 h3 k4⟩
theorem Qkg(l:List Int):slK l=.slc 1 (Qh l)\/(slK l=.val (.slice none 0 0)/\Qh l=[]):=by
 cases l with
 |nil=>exact .inr ⟨rfl,rfl⟩
 |cons x r=>exact .inl rfl
theorem Qgd(l:List Int)(n:Int):slK (l++[n])=.slc 1 (Qh l++[.val (.int .i64 n)]):=by
 rw[<-QiO,<-Q7i];cases l with
 |nil=>rfl
 |cons x r=>rfl
theorem Qjn(l:List Opn)(i:Nat)(x:Opn):(Qc l).set i x.av=Qc (l.set i x):=by simp[Qc,List.map_set]
theorem Qg9{s:List Opn}(h:1<=s.length):(Qc s)[s.length-1]?=some (QM s).av:=by
 have:s.length-1<s.length:=by omega
 simp[Qc,QM,this]
theorem Q9T(t:Txt)(b:List UInt8)(rt:Int)(m:Mk)(hs:1<=m.s.length)(hn:m.s.length<=1000000)(hk:(QM m.s).kids.length<=1000000)(n:Int) :
  BCall prog 63 [.box 0 0,.val (.int .i64 n)] (obT 0 t b rt m) (.tup []) (obT 1 t b rt (Q3i n m)):=by
 obtain⟨L,hL⟩:=QC m.s;have j4:1<=L:=by rw[hL.eq];omega
 have h:=QlX (ob:=obT 0 t b rt m) (k:=5) rfl rfl (i:=L-1) (n:=n) ?_ (by omega) (a:=slR (QM m.s).name) (u:=slK (QM m.s).kids) (us:=Qh (QM m.s).kids) ?_ (Qkg _) (by rw[Q5C];exact hk)
 ·have hi:(L-1).toNat=m.s.length-1:=by have:=hL.eq;omega
  rw[hi,<-Qgd]at h;have e:∀S,(obT 0 t b rt m).set 5 (.row Q4e 2 false 1 S)=[.box [.slc 1 (Q5 b),.box 1 0,.row 5 0],.box [.val (.int .i64 t.kind),.val (.int .i64 t.bom),.slc 1 (Q0 t.r),.slc 1 (Qh t.off),.box 2 0,.val (.int .i64 rt),.row 4 0],.box [.row 3 0],.row 197 6 false 0 (Q9 m.n),.row 233 3 false 0 (QJ m.d),.row 136 2 false 1 S]:=fun _=>rfl
  have e2:=Qjn m.s (m.s.length-1) ⟨(QM m.s).name,(QM m.s).kids++[n]⟩;rw[show(AV.agg [slR (QM m.s).name,slK ((QM m.s).kids++[n])])=Opn.av ⟨(QM m.s).name,(QM m.s).kids++[n]⟩ from rfl,e2,e]at h;exact h.see [some 0,some 1,some 2,some 3,some 4,some 5] rfl rfl (le_refl _) (r':=.tup []) rfl (by simp[Qf,Q3i,Q2L]) trivial
 ·intro w0 g0
  unfold obT obM;have hl:=Q3d m.s;with_reducible refine cv8 (Q9 m.n) (QJ m.d) (Qc m.s) (Q5 b) (Q0 t.r) (Qh t.off) t.kind t.bom ?_
  have e:std.sub (std.len (Qc m.s)) 1=L-1:=by
   show((Qc m.s).length:Int)-1=L-1
   rw[hl,hL.eq]
  have e2:std.len (Qc m.s)=L:=by
   show((Qc m.s).length:Int)=L
   rw[hl,hL.eq]
  refine⟨?_,?_,rfl,rfl,?_,rfl⟩
  ·show -9223372036854775808<=std.sub (std.len (Qc m.s)) 1/\std.sub (std.len (Qc m.s)) 1<=9223372036854775807
   have:=hL.eq
   rw[e];omega
  ·show 0<=std.sub (std.len (Qc m.s)) 1/\std.sub (std.len (Qc m.s)) 1<std.len (Qc m.s)
   rw[e,e2];omega
  ·show AV.rptr 5 0 (std.sub (std.len (Qc m.s)) 1) 0=_
   rw[e]
 ·have hi:(L-1).toNat=m.s.length-1:=by have:=hL.eq;omega
  rw[hi];exact Qg9 hs
def OT.then(l:List Nat)(t:OT):OT:=match l with
 | []=>t
 |i::r=>.cons i (OT.then r t)
def wrO:OT:=.then [0,1,2,4,5,6,7,8,9,10,11,12,13,14,15,16,17,18,19,20,21] (.fork (.of [3,22,23,24,25,26]) (.cons 22 (.fork (.of [3,23,24,25,26]) (.of [23,3,24,25,26]))))
theorem Q8X(t:Txt)(b:List UInt8)(rt:Int)(m:Mk)(hd:m.d.length<=1000000)(c f u:Int)(hf:0<=f/\f<t.off.length)(hu:0<=u/\u<t.off.length) :
  BCall prog 145 [.box 0 0,.val (.int .i64 c),.val (.int .i64 f),.val (.int .i64 u)] (obT 0 t b rt m) (.tup []) (obT 1 t b rt (QO t c f u m)):=by
 have olen:=Q5C t.off;have af:=Q4w (l:=t.off) (i:=f) hf.1 hf.2;have au:=Q4w (l:=t.off) (i:=u) hu.1 hu.2;have dlen:=Qle m.d;unfold obT obM;refine fnO false (cs0) (fun id=>match id with|1=> wrO|_=>.nil) func145 rfl fun _ _=>?_
 with_reducible refine cv8 (Q9 m.n) (QJ m.d) (Qc m.s) (Q5 b) (Q0 t.r) (Qh t.off) t.kind t.bom ?_
 have ef:(Qh t.off).getD f.toNat .dead=.val (.int .i64 (Q31 t f)):=by rw[List.getD_eq_getElem?_getD];exact af
 have eu:(Qh t.off).getD u.toNat .dead=.val (.int .i64 (Q31 t u)):=by rw[List.getD_eq_getElem?_getD];exact au
 have hb:∀x,std.bnd (QJ m.d) [x]:=fun x=>by show(QJ m.d).length+1<=1000000000;omega
 have fin:∀x,x=AV.agg [.val (.int .i64 (Q31 t f)),.val (.int .i64 (Q31 t u)),.val (.int .i64 c)]->std.app (QJ m.d) [x]=QJ (QO t c f u m).d:=fun x hx=>by
  rw[hx];show QJ m.d++_=List.map _ (_++_);rw[List.map_append];rfl
 have fin2:=fin _ (show AV.agg [.val (.int .i64 (std.int (std.nth (std.cel (std.at_ (Qh t.off) f)) 0))),.val (.int .i64 (std.int (std.nth (std.cel (std.at_ (Qh t.off) u)) 0))),.val (.int .i64 c)]=_ by
  show AV.agg [.val (.int .i64 (intOf ((((Qh t.off).getD f.toNat .dead).cells).getD 0 .dead))),.val (.int .i64 (intOf ((((Qh t.off).getD u.toNat .dead).cells).getD 0 .dead))),.val (.int .i64 c)]=_;rw[ef,eu];rfl)
 have hc:∀x:Int,(Qh t.off).getD x.toNat .dead=.val (.int .i64 (Q31 t x))->std.all [std.hasI .i64 (std.nth (std.cel (std.at_ (Qh t.off) x)) 0)]:=fun x hx=>by
  show(((Qh t.off).getD x.toNat .dead).cells).getD 0 .dead=.val (.int .i64 (intOf ((((Qh t.off).getD x.toNat .dead).cells).getD 0 .dead)))/\True
  rw[hx];exact⟨rfl,trivial⟩
 have je:∀x:Int,0<=x/\x<t.off.length->std.inb x (std.len (Qh t.off)):=fun x hx=>by
  show 0<=x/\x<((Qh t.off).length:Int);rw[olen];exact hx
 refine⟨je f hf,hc f ef,je u hu,hc u eu,⟨hb _,?_⟩,⟨hb _,?_⟩,hb _,?_⟩
 all_goals
  refine⟨[some 0,some 1,some 2,some 3,some 4,some 5],.tup [],_,rfl,rfl,le_refl _,rfl,?_,trivial⟩;simp[Qf];exact⟨rfl,fin2,rfl⟩
def Qox(p:Pr)(sl:Int->Int->List AV)(lf:Int->List AV->List AV->List AV):Nat->List AV->List Ob->Option (AV×List Ob):=fun f args ob=>match f,args with
 |196,[.agg _,.slc 1 _,.val (.int .i64 i),.val (.int .i64 j)]=>some (.slc 1 (sl i j),[])
 |64,[.box 0 0,.val (.int .i64 k),.slc 1 bs]=>match ob with
  | [.box [.row 1 0],.row 197 6 false 0 N]=>some (.val (.int .i64 (p.len N)),[.box [.row 1 1],.row 197 6 false 1 (lf k bs N)])
  |_=>none
 |_,_=>none
def slA(t:Txt)(b:List UInt8)(i j:Int):List AV:=Q5 (Q1r t b i j)
def lfA(k:Int)(bs N:List AV):List AV:=N++[(QA k (bs.map Q2K)).av]
theorem QeJ(k:Int)(bs:List UInt8)(l:List Node):lfA k (Q5 bs) (Q9 l)=Q9 (l++[QA k bs]):=by
 rw[lfA,Q2Q];simp[Q9]
theorem Qbp(t:Txt)(b:List UInt8)(i j:Int):(Q1r t b i j).length<=b.length:=by
 rw[Q1r,length_take,length_drop];omega
theorem Qae(t:Txt)(b:List UInt8)(hb:b.length<=1000000)(ok:TxtOk t b)(qI:t.r.length<=1000000)(rt:Int)(m:Mk)(hn:m.n.length<=1000000)(kind f u:Int)(wh:Bool)(hf:0<=f)(hu:f<=u)(hl:u<=t.r.length) :
  BCall prog 149 [.box 0 0,.agg [.val (.int .i64 kind),.val (.int .i64 f),.val (.int .i64 u),.val (.bool wh)]] (obT 0 t b rt m) (.val (.int .i64 m.n.length)) (obT 1 t b rt (Q1O t b kind f u m)):=by
 have cS:=Ql2 t b hb ok qI f u hf hu hl;have cL:=QiP m.n (by omega) kind (Q1r t b f u) (by have:=Qbp t b f u;omega)
 rw[<-QeJ]at cL;have e3:Q9 (Q1O t b kind f u m).n=lfA kind (slA t b f u) (Q9 m.n):=(QeJ _ _ _).symm;unfold obT obM;rw[e3];clear hl;refine fnN (Qox std (slA t b) lfA) func149 rfl fun _ _=>?_
 with_reducible refine Q5j (slA t b) lfA (Q9 m.n) (QJ m.d) (Qc m.s) (Q5 b) (Q0 t.r) (Qh t.off) t.kind t.bom ?_
 exact⟨cS,by rw[<-Q1z]at cL;exact cL,
  [some 0,some 1,some 2,some 3,some 4,some 5],.val (.int .i64 m.n.length),_,rfl,rfl,le_of_ble_eq_true rfl,rfl,by simp[Qf,std,Q9,Q1O,Q1W],.inl rfl⟩
theorem QaU:∀(n:Nat)(r:List Int)(at_:Int)(first:Bool),r.length<=n->(QQ at_ first r).length<=r.length:=by
 intro n;induction n with
 |zero =>
  intro r at_ first h
  have:r=[]:=List.eq_nil_of_length_eq_zero (by omega)
  rw[this,QQ,dif_pos rfl];exact le_refl _
 |succ n ih =>
  intro r at_ first h
  by_cases hr:r=[]
  ·rw[hr,QQ,dif_pos rfl];exact le_refl _
  ·have hn:=Q5z r first hr
   rw[QQ,dif_neg hr,length_cons];have:=ih (r.drop (QE r first).2.toNat) (at_+(QE r first).2) false (by rw[length_drop];omega)
   rw[length_drop]at this;omega
theorem Q9S(l:List Int)(f u:Int):(QI l f u).length<=l.length:=by
 have:=QaU _ ((l.take u.toNat).drop f.toNat) f true (le_refl _)
 rw[length_drop,length_take]at this;show(QQ _ _ _).length<=_
 omega
theorem Qbb(l:List Int)(f u:Int)(h0:0<=f)(h1:f<=u)(h2:u<=l.length):∀x∈QI l f u,f<=x.from_/\x.from_<x.to/\x.to<=u:=fun x hx=>by
 have:=Q51 [] _ ((l.take u.toNat).drop f.toNat) f true (le_refl _) x hx
 rw[length_drop,length_take]at this;omega
theorem Qf5(ps:List TPart):(Q19 ps).name=Qe\/(Q19 ps).name=ps[1]?.getD Qe:=by
 unfold Q19;split
 ·simp only
  split
  ·exact .inr rfl
  ·exact .inr rfl
 ·exact .inl rfl
theorem Q7p(l:List Int)(f u:Int)(h0:0<=f)(h1:f<=u)(h2:u<=l.length):0<=(Qa l f u).name.from_/\(Qa l f u).name.from_<=(Qa l f u).name.to/\(Qa l f u).name.to<=l.length:=by
 rcases Qf5 (QI l f u)with h|h
 ·rw[Qa,h];exact⟨Int.le_refl _,Int.le_refl _,by show(0:Int)<=_;omega⟩
 ·rw[Qa,h]
  cases hi:(QI l f u)[1]? with
  |none=>exact⟨Int.le_refl _,Int.le_refl _,by show(0:Int)<=_;omega⟩
  |some x =>
   have:=Qbb l f u h0 h1 h2 x (List.mem_of_getElem? hi)
   show 0<=x.from_/\x.from_<=x.to/\x.to<=(l.length:Int);omega
theorem Qc6(l:List Int)(hl:l.length<=1000000)(f u:Int)(h0:0<=f)(h1:f<=u)(h2:u<=l.length) :
  BCall prog 10 [.slc 1 (Q0 l),.val (.int .i64 f),.val (.int .i64 u)] [] (.agg [.val (.int .i64 (Qa l f u).name.kind),.val (.int .i64 (Qa l f u).name.from_),.val (.int .i64 (Qa l f u).name.to),.slc 9 (Qj (Qa l f u).attrs),.val (.bool (Qa l f u).right),.val (.bool (Qa l f u).empty)]) []:=by
 have jw:=Q9S l f u;have zN:Qdr (QI l f u):=fun x hx=>by have:=Qbb l f u h0 h1 h2 x hx;omega
 cases vr:Qz (QI l f u) 0 [1,2]with
 |false =>
  have e:Qa l f u=⟨Qe,[],false,false⟩:=by rw[Qa,Q19,if_neg (by rw[vr];decide)]
  rw[e];exact Qgs l (by omega) f u h0 h1 h2 _ rfl (by omega) vr
 |true =>
  cases qY:Qz (QI l f u) (Q35 (QI l f u) (Qi (QI l f u) ((QI l f u).length+1) 2).2 3).toNat [6]with
  |false=>exact Qhb l (by omega) f u h0 h1 h2 _ rfl (by omega) zN vr qY
  |true=>exact QjI l (by omega) f u h0 h1 h2 _ rfl (by omega) zN vr qY
def Qov(rk rf ru:Int->Int->Int)(ra:Int->Int->List AV)(rr re:Int->Int->Bool):Nat->List AV->List Ob->Option (AV×List Ob):=fun f args _=>match f,args with
 |10,[.slc 1 _,.val (.int .i64 f),.val (.int .i64 u)]=>some (.agg [.val (.int .i64 (rk f u)),.val (.int .i64 (rf f u)),.val (.int .i64 (ru f u)),.slc 9 (ra f u),.val (.bool (rr f u)),.val (.bool (re f u))],[])
 |_,_=>none
def rdk(l:List Int)(f u:Int):Int:=(Qa l f u).name.kind
def rdf(l:List Int)(f u:Int):Int:=(Qa l f u).name.from_
def rdu(l:List Int)(f u:Int):Int:=(Qa l f u).name.to
def rda(l:List Int)(f u:Int):List AV:=Qj (Qa l f u).attrs
def rdr(l:List Int)(f u:Int):Bool:=(Qa l f u).right
def rde(l:List Int)(f u:Int):Bool:=(Qa l f u).empty
def nmO:OT:=.then [0,1,2,3,4,5,6,7,8,9,10,11] (.fork (.of [12,13,14,15]) (.of [14,12,13,15]))
theorem Qfo(t:Txt)(b:List UInt8)(qI:t.r.length<=1000000)(rt:Int)(m:Mk)(kind f u:Int)(wh:Bool)(hf:0<=f)(hu:f<=u)(hl:u<=t.r.length) :
  BCall prog 146 [.box 0 0,.agg [.val (.int .i64 kind),.val (.int .i64 f),.val (.int .i64 u),.val (.bool wh)]] (obT 0 t b rt m) (.slc 1 (Q0 (Q10 t f u))) (obT 0 t b rt m):=by
 have cR:=Qc6 t.r qI f u hf hu hl;have je:=Q7p t.r f u hf hu hl;have rlen:=Q6 t.r;unfold obT obM;refine fnO false (Qov (rdk t.r) (rdf t.r) (rdu t.r) (rda t.r) (rdr t.r) (rde t.r)) (fun id=>match id with|1=> nmO|_=>.nil) func146 rfl fun _ _=>?_
 generalize hR:Q0 t.r=R;generalize hO:Qh t.off=O;generalize hK:t.kind=K;generalize hM:t.bom=M;with_reducible refine Q5j (rdk t.r) (rdf t.r) (rdu t.r) (rda t.r) (rdr t.r) (rde t.r) (Q9 m.n) (QJ m.d) (Qc m.s) (Q5 b) ?_
 subst hR hO hK hM
 have jH:std.cutok (rdf t.r f u) (rdu t.r f u) (std.len (Q0 t.r)):=by
  show 0<=(Qa t.r f u).name.from_/\(Qa t.r f u).name.from_<=(Qa t.r f u).name.to/\(Qa t.r f u).name.to<=((Q0 t.r).length:Int);rw[rlen];exact je
 have hres:std.cut (Q0 t.r) (rdf t.r f u) (rdu t.r f u)=Q0 (Q10 t f u):=by
  show((Q0 t.r).drop (rdf t.r f u).toNat).take _=_
  simp only[Q0,Q10,map_take,List.map_drop];rfl
 refine⟨⟨cR,jH,?_⟩,cR,jH,?_⟩
 all_goals
  exact⟨[some 0,some 1,some 2,some 3,some 4,some 5],.slc 1 (Q0 (Q10 t f u)),_,rfl,rfl,le_of_ble_eq_true rfl,rfl,by simp[Qf];exact hres,.inl rfl⟩
def kdA(n:Int)(S:List AV):List AV:=Qc (Q2L n (Qkp S))
theorem Q9d(n:Int)(s:List Opn):kdA n (Qc s)=Qc (Q2L n s):=by rw[kdA,Qb8]
def brA(k:Int)(ks N:List AV):List AV:=N++[(Q1U (QeS N) k (ks.map intOf)).av]
theorem QbN(k:Int)(ks:List Int)(l:List Node):brA k (Qh ks) (Q9 l)=Q9 (l++[Q1U l k ks]):=by
 rw[brA,Qa4,Q85];simp[Q9]
def QoO(p:Pr)(kd:Int->List AV->List AV)(br:Int->List AV->List AV->List AV):Nat->List AV->List Ob->Option (AV×List Ob):=fun f args ob=>match f,args with
 |63,[.box 0 0,.val (.int .i64 n)]=>Q37 ob fun b k m r o rt N D S=>some (.tup [],obM 1 b k m r o rt N D (kd n S))
 |104,[.box 0 0,.val (.int .i64 k),.slc 1 ks]=>match ob with
  | [.box [.row 1 0],.row 197 6 false 0 N]=>some (.tup [.val (.int .i64 (p.len N)),.val (.int .i64 0)],[.box [.row 1 1],.row 197 6 false 1 (br k ks N)])
  |_=>none
 |_,_=>none
theorem Q9j(n:Int)(s:List Opn):(Q2L n s).length=s.length:=by simp[Q2L]
theorem QlU(n:Int){s:List Opn}(h:1<=s.length):QM (Q2L n s)=⟨(QM s).name,(QM s).kids++[n]⟩:=by
 have h1:s.length-1<(s.set (s.length-1) ⟨(QM s).name,(QM s).kids++[n]⟩).length:=by rw[List.length_set];omega
 have h2:s.length-1<s.length:=by omega
 show((s.set (s.length-1) ⟨(QM s).name,(QM s).kids++[n]⟩)[(s.set (s.length-1) _).length-1]?).getD _=_
 rw[List.length_set,List.getElem?_set_self h2];rfl
structure ArOk (l:List Node):Prop where
 w:∀n,0<=Q47 l n
 c:∀n,0<=Q3e l n/\Q3e l n<=2147483647
theorem Qkz(t:Txt)(b:List UInt8)(rt:Int)(m:Mk)(hs:2<=m.s.length)(hn:m.s.length<=1000000)(hk:∀x∈m.s,x.kids.length<=1000000)(hN:m.n.length<=1000000)(ar:ArOk m.n)(last:Int)
  (hl:∀k∈(QM m.s).kids++[last],0<=k/\k<m.n.length) (vR:Q39 m.n ((QM m.s).kids++[last])<=2147483647) :
  BCall prog 150 [.box 0 0,.val (.int .i64 last)] (obT 0 t b rt m) (.tup []) (obT 1 t b rt (Q1T last m)):=by
 obtain⟨L,hL⟩:=QC m.s;obtain⟨m1,qp⟩:=exq (Q3i last m);have jr:m1.s=Q2L last m.s:=by rw[qp];rfl
 have vu:m1.s.length=m.s.length:=by rw[jr,Q9j]
 have ht1:QM m1.s=⟨(QM m.s).name,(QM m.s).kids++[last]⟩:=by rw[jr];exact QlU last (by omega)
 have mem:∀i,i<m.s.length->(m.s[i]?.getD ⟨[],[]⟩).kids.length<=1000000:=fun i h=>by
  have:m.s[i]?.getD ⟨[],[]⟩∈m.s:=by
   rw[getElem?_eq_getElem h];exact getElem_mem h
  exact hk _ this
 have c1:=Q9T t b rt m (by omega) hn (mem _ (by omega)) last
 have c2:=Qdt m.n (by omega) 21 ((QM m.s).kids++[last]) (by have:=mem (m.s.length-1) (by omega);simp only[length_append,length_singleton];show((m.s[m.s.length-1]?).getD ⟨[],[]⟩).kids.length+1<=_;omega) hl ar.w ar.c vR
 rw[<-QbN,<-Q1z]at c2;obtain⟨m2,qL⟩:=exq (Q1W (Q1U m.n 21 ((QM m.s).kids++[last])) (Qo9 m1))
 have hE:Q1T last m=Q3i m.n.length m2:=by
  rw[qL,<-(show(QM m1.s).kids=(QM m.s).kids++[last] by rw[ht1]),qp];rfl
 have qN:m2.s=m1.s.take (m1.s.length-1):=by rw[qL];rfl
 have c3:=Q9T t b rt m2 (by rw[qN,length_take];omega) (by rw[qN,length_take];omega) (by
  have h1:m2.s.length-1<m.s.length-1:=by rw[qN,length_take];omega
  show((m2.s[m2.s.length-1]?).getD ⟨[],[]⟩).kids.length<=_
  have h2:∀j,j<m.s.length-1->m2.s[j]?=m.s[j]?:=fun j hj=>by
   rw[qN,List.getElem?_take,if_pos (by omega),jr,Q2L,List.getElem?_set_ne (by omega)]
  rw[h2 _ h1];exact mem _ (by omega)) m.n.length
 rw[hE];clear hl vR;unfold obT obM;refine fnN (QoO std kdA brA) func150 rfl fun _ _=>?_
 with_reducible refine Q5j kdA brA (Q9 m.n) (QJ m.d) (Qc m.s) (Q5 b) (Q0 t.r) (Qh t.off) t.kind t.bom ?_
 have hi:(((Qc m1.s).length:Int)-1).toNat=m1.s.length-1:=by rw[Q3d];omega
 have he:(List.drop 1 ((Qc m1.s).getD (((Qc m1.s).length:Int)-1).toNat AV.dead).cells).getD 0 AV.dead=.slc 1 (Qh ((QM m.s).kids++[last])):=by
  have e:(Qc m1.s).getD (m1.s.length-1) AV.dead=(QM m1.s).av:=by rw[List.getD_eq_getElem?_getD,Qg9 (by rw[vu];omega)];rfl
  rw[hi,e,ht1];show slK ((QM m.s).kids++[last])=_;rw[Qgd,Q7i];rfl
 have hc:List.take (((Qc m1.s).length:Int)-1-0).toNat (List.drop (Int.toNat 0) (Qc m1.s))=Qc m2.s:=by
  rw[Int.sub_zero,hi,qN];simp[Qc,map_take]
 have el:=Q3d m1.s;have eN:Q9 m2.n=brA 21 (Qh ((QM m.s).kids++[last])) (Q9 m.n):=by rw[qL,QbN];show Q9 (m1.n++_)=_;rw[qp];rfl
 have eD:m2.d=m.d:=by rw[qL,qp];rfl
 have eS:(Q3i (m.n.length:Int) m2).s=Q2L m.n.length m2.s:=rfl;unfold obT obM at c1 c3;rw[eS,show(Q3i (m.n.length:Int) m2).n=m2.n from rfl,show(Q3i (m.n.length:Int) m2).d=m2.d from rfl,eD,eN]at c3;rw[show(Q3i last m).s=m1.s by rw[qp]]at c1
 simp only[Q9d,<-jr,std,he,hc,Q3z];rw[Q1z]at c2 ⊢;refine⟨?_,?_,?_,⟨.inl trivial,trivial⟩,?_,c2,?_,?_⟩
 ·exact c1
 ·show(-9223372036854775808:Int)<=_/\_<=(9223372036854775807:Int)
  omega
 ·omega
 ·omega
 ·exact c3
 ·exact⟨[some 0,some 1,some 2,some 3,some 4,some 5],.tup [],_,rfl,rfl,le_refl _,rfl,by simp[Qf];exact⟨eN.symm,congrArg _ eD.symm,rfl⟩,trivial⟩
def wrA(t:Txt)(c f u:Int)(D:List AV):List AV:=QJ (Qnt D++[⟨Q31 t f,Q31 t u,c⟩])
theorem Q99(t:Txt)(c f u:Int)(d:List Dg):wrA t c f u (QJ d)=QJ (d++[⟨Q31 t f,Q31 t u,c⟩]):=by rw[wrA,QcQ]
def mkB(N D S:List AV):Mk:=⟨QeS N,Qnt D,Qkp S⟩
theorem Q1J(m:Mk):mkB (Q9 m.n) (QJ m.d) (Qc m.s)=m:=by rw[mkB,Qa4,QcQ,Qb8]
def Q7b(l:Int)(N D S:List AV):List AV:=Q9 (Q1T l (mkB N D S)).n
def Q6V(l:Int)(N D S:List AV):List AV:=Qc (Q1T l (mkB N D S)).s
theorem QmV(l:Int)(m:Mk):(Q1T l m).d=m.d:=rfl
def Qoz(p:Pr)(wr:Int->Int->Int->List AV->List AV)(lf:Int->List AV->List AV->List AV)(sn ss:Int->List AV->List AV->List AV->List AV):Nat->List AV->List Ob->Option (AV×List Ob):=fun f args ob=>match f,args with
 |145,[.box 0 0,.val (.int .i64 c),.val (.int .i64 f),.val (.int .i64 u)]=>Q37 ob fun b k m r o rt N D S=>some (.tup [],obM 1 b k m r o rt N (wr c f u D) S)
 |150,[.box 0 0,.val (.int .i64 n)]=>Q37 ob fun b k m r o rt N D S=>some (.tup [],obM 1 b k m r o rt (sn n N D S) D (ss n N D S))
 |64,[.box 0 0,.val (.int .i64 k),.val (.slice none 0 0)]=>match ob with
  | [.box [.row 1 0],.row 197 6 false 0 N]=>some (.val (.int .i64 (p.len N)),[.box [.row 1 1],.row 197 6 false 1 (lf k [] N)])
  |_=>none
 |_,_=>none
theorem QmK(t:Txt)(b:List UInt8)(rt:Int)(m:Mk)(hd:m.d.length<=1000000)(at_:Int)(ha:0<=at_/\at_<t.off.length)(hs:2<=m.s.length)(hn:m.s.length<=1000000)(hk:∀x∈m.s,x.kids.length<=1000000)(hN:m.n.length<1000000)(ar:ArOk (m.n++[QA 22 []]))
  (hl:∀k∈(QM m.s).kids,0<=k/\k<m.n.length) (vR:Q39 (m.n++[QA 22 []]) ((QM m.s).kids++[(m.n.length:Int)])<=2147483647) :
  BCall prog 103 [.box 0 0,.val (.int .i64 at_)] (obT 0 t b rt m) (.tup []) (obT 1 t b rt (Q3l t at_ m)):=by
 have c1:=Q8X t b rt m hd 4 at_ at_ ha ha;obtain⟨m1,qp⟩:=exq (QO t 4 at_ at_ m);rw[<-qp]at c1;have c2:=(QiP m1.n (by rw[qp];show m.n.length<_;omega) 22 [] (by simp)).le (args:=[.box 0 0,.val (.int .i64 22),.val (.slice none 0 0)]) ⟨.inl rfl,.inl rfl,.inr (.inl ⟨rfl,_,rfl⟩),trivial⟩
 obtain⟨m2,qL⟩:=exq (Q1W (QA 22 []) m1);have e2n:m2.n=m.n++[QA 22 []]:=by rw[qL,qp];rfl
 have e2s:m2.s=m.s:=by rw[qL,qp];rfl
 have c3:=Qkz t b rt m2 (by rw[e2s];exact hs) (by rw[e2s];exact hn) (by rw[e2s];exact hk) (by rw[e2n];simp;omega) (by rw[e2n];exact ar) m.n.length (by
  rw[e2n,e2s];intro k hk;rw[length_append,length_singleton];rcases mem_append.1 hk with h|h
  ·have:=hl k h;omega
  ·obtain rfl:k=(m.n.length:Int):=by simpa using h
   omega) (by rw[e2n,e2s];exact vR)
 have hE:Q3l t at_ m=Q1T m.n.length m2:=by rw[qL,qp];rfl
 rw[hE];clear hl vR;unfold obT obM;refine fnN (Qoz std (wrA t) lfA Q7b Q6V) func103 rfl fun _ _=>?_
 generalize hK:t.kind=K;generalize hM:t.bom=M;with_reducible refine Q5j (wrA t) lfA Q7b Q6V (Q9 m.n) (QJ m.d) (Qc m.s) (Q5 b) (Q0 t.r) (Qh t.off) ?_
 subst hK hM;have e2d:m2.d=m.d++[⟨Q31 t at_,Q31 t at_,4⟩]:=by rw[qL,qp];rfl
 have eL:lfA 22 [] (Q9 m.n)=Q9 m2.n:=by rw[e2n,<-QeJ];rfl
 have eW:wrA t 4 at_ at_ (QJ m.d)=QJ m2.d:=by rw[Q99,e2d]
 have f1:∀l,Q7b l (Q9 m2.n) (QJ m2.d) (Qc m.s)=Q9 (Q1T l m2).n:=fun l=>by rw[Q7b,<-e2s,Q1J]
 have f2:∀l,Q6V l (Q9 m2.n) (QJ m2.d) (Qc m.s)=Qc (Q1T l m2).s:=fun l=>by rw[Q6V,<-e2s,Q1J]
 unfold obT obM at c1 c3;rw[show m1.n=m.n by rw[qp];rfl,show m1.s=m.s by rw[qp];rfl,show m1.d=m2.d by rw[qL];rfl]at c1
 rw[show m1.n=m.n by rw[qp];rfl,<-e2n]at c2
 rw[e2s,QmV]at c3;simp only[std,eL,eW,f1,f2,Q1z];exact⟨c1,c2,c3,[some 0,some 1,some 2,some 3,some 4,some 5],.tup [],_,rfl,rfl,le_refl _,rfl,by simp[Qf];rfl,trivial⟩
def lfT(t:Txt)(b:List UInt8)(k f u:Int)(N:List AV):List AV:=N++[(QA k (Q1r t b f u)).av]
theorem Q9E(t:Txt)(b:List UInt8)(k f u:Int)(l:List Node):lfT t b k f u (Q9 l)=Q9 (l++[QA k (Q1r t b f u)]):=by simp[lfT,Q9]
def nmA(t:Txt)(f u:Int):List AV:=Q0 (Q10 t f u)
def QoN(p:Pr)(nm:Int->Int->List AV)(wr:Int->Int->Int->List AV->List AV)(lf:Int->Int->Int->List AV->List AV)(kd:Int->List AV->List AV):Nat->List AV->List Ob->Option (AV×List Ob):=fun f args ob=>match f,args with
 |146,[.box 0 0,.agg [_,.val (.int .i64 f),.val (.int .i64 u),_]]=>some (.slc 1 (nm f u),ob)
 |145,[.box 0 0,.val (.int .i64 c),.val (.int .i64 f),.val (.int .i64 u)]=>Q37 ob fun b k m r o rt N D S=>some (.tup [],obM 1 b k m r o rt N (wr c f u D) S)
 |149,[.box 0 0,.agg [.val (.int .i64 kind),.val (.int .i64 f),.val (.int .i64 u),_]]=>Q37 ob fun b k m r o rt N D S=>some (.val (.int .i64 (p.len N)),obM 1 b k m r o rt (lf kind f u N) D S)
 |63,[.box 0 0,.val (.int .i64 n)]=>Q37 ob fun b k m r o rt N D S=>some (.tup [],obM 1 b k m r o rt N D (kd n S))
 |_,_=>none
structure InT (t:Txt) (f u:Int):Prop where
 h0:0<=f
 h1:f<=u
 h2:u<=t.r.length
structure Sml (t:Txt) (b:List UInt8):Prop where
 hb:b.length<=1000000
 hr:t.r.length<=1000000
 ok:TxtOk t b
theorem InT.off{t:Txt}{b:List UInt8}{f u:Int}(h:InT t f u)(hs:Sml t b):(0<=f/\f<t.off.length)/\0<=u/\u<t.off.length:=by
 have:=hs.ok.len
 have h0:=h.h0;have h1:=h.h1;have h2:=h.h2;omega
structure MkOk (m:Mk):Prop where
 n:m.n.length<=900000
 d:m.d.length<=900000
 s:m.s.length<=900000
 s1:1<=m.s.length
 k:∀x∈m.s,x.kids.length<=900000
theorem MkOk.top{m:Mk}(h:MkOk m):(QM m.s).kids.length<=900000:=by
 have h1:=h.s1;have:m.s.length-1<m.s.length:=by omega
 show((m.s[m.s.length-1]?).getD ⟨[],[]⟩).kids.length<=_
 rw[getElem?_eq_getElem this];exact h.k _ (getElem_mem this)
theorem Qlb(t:Txt)(b:List UInt8)(hs:Sml t b)(rt:Int)(m:Mk)(ok:MkOk m)(kind f u:Int)(wh:Bool)(hi:InT t f u)(jL:Q10 t f u≠[]) :
  BCall prog 147 [.box 0 0,.agg [.val (.int .i64 kind),.val (.int .i64 f),.val (.int .i64 u),.val (.bool wh)]] (obT 0 t b rt m) (.tup []) (obT 1 t b rt (Q1B t b kind f u m)):=by
 have cN:=Qfo t b hs.hr rt m kind f u wh hi.h0 hi.h1 hi.h2;have qr:=hi.off hs;have hn:=ok.n;have hd:=ok.d;have hl:=ok.s;have vu:=ok.s1;have cW:=Q8X t b rt m (by omega) 5 f u qr.1 qr.2
 obtain⟨ma,xC⟩:=exq (QO t 5 f u m);have cLa:=Qae t b hs.hb hs.ok hs.hr rt ma (by rw[xC];show m.n.length<=_;omega) kind f u wh hi.h0 hi.h1 hi.h2
 have cKa:=Q9T t b rt (Q1O t b kind f u ma) (by rw[xC];exact vu) (by rw[xC];show m.s.length<=_;omega) (by rw[xC];have:=ok.top;show(QM m.s).kids.length<=_;omega) m.n.length
 obtain⟨mb,pb⟩:=exq ({ m with s:=m.s++[⟨Q10 t f u,[]⟩] }:Mk)
 have xn:mb.s=m.s++[⟨Q10 t f u,[]⟩]:=by rw[pb]
 have cLb:=Qae t b hs.hb hs.ok hs.hr rt mb (by rw[pb];show m.n.length<=_;omega) kind f u wh hi.h0 hi.h1 hi.h2
 have cKb:=Q9T t b rt (Q1O t b kind f u mb) (by show 1<=mb.s.length;rw[xn];simp) (by show mb.s.length<=_;rw[xn];simp;omega) (by show(QM mb.s).kids.length<=_;rw[xn];simp[QM]) m.n.length
 have hE:Q1B t b kind f u m=if 64<m.s.length then Q3i m.n.length (Q1O t b kind f u ma)else Q3i m.n.length (Q1O t b kind f u mb):=by rw[xC,pb];rfl
 rw[hE];clear hE qr;unfold obT obM;refine fnN (QoN std (nmA t) (wrA t) (lfT t b) kdA) func147 rfl fun _ _=>?_
 generalize hK:t.kind=K;generalize hM:t.bom=M;with_reducible refine Q5j (nmA t) (wrA t) (lfT t b) kdA (Q9 m.n) (QJ m.d) (Qc m.s) (Q5 b) (Q0 t.r) (Qh t.off) ?_
 subst hK hM;subst xC pb;simp only[obT,obM,Q1O,Q1W,Q3i,QO]at cN cW cLa cKa cLb cKb
 have eS:Qc m.s++[AV.agg [AV.slc 1 (nmA t f u),AV.val (Value.slice none 0 0)]]=Qc (m.s++[⟨Q10 t f u,[]⟩]):=by
  have:slR (Q10 t f u)=.slc 1 (nmA t f u):=by
   show slR (Q10 t f u)=.slc 1 (Q0 (Q10 t f u));cases h:Q10 t f u with
   |nil=>exact absurd h jL
   |cons x r=>rfl
  rw[<-this];simp[Qc,Opn.av,slK,QmF]
 have eb:std.bnd (Qc m.s) [AV.agg [AV.slc 1 (nmA t f u),AV.val (Value.slice none 0 0)]]:=by
  show(Qc m.s).length+1<=1000000000
  rw[Q3d];omega
 refine⟨cN,fun hd=>?_,fun hd=>⟨eb,?_⟩⟩
 ·have hg:64<m.s.length:=by
   have:(64:Int)<((Qc m.s).length:Int):=of_decide_eq_true hd
   rw[Q3d]at this;omega
  simp only[std,Q9E,Q99,Q9d,Q1z,if_pos hg,Q1O,Q1W,Q3i,QO];exact⟨cW,cLa,cKa,[some 0,some 1,some 2,some 3,some 4,some 5],.tup [],_,rfl,rfl,le_of_ble_eq_true rfl,rfl,by simp[Qf],trivial⟩
 ·have hg:¬64<m.s.length:=by
   have:¬(64:Int)<((Qc m.s).length:Int):=of_decide_eq_false hd
   rw[Q3d]at this;omega
  simp only[std,eS,Q9E,Q99,Q9d,Q1z,if_neg hg,Q1O,Q1W,Q3i,QO];exact⟨cLb,cKb,[some 0,some 1,some 2,some 3,some 4,some 5],.tup [],_,rfl,rfl,le_of_ble_eq_true rfl,rfl,by simp[Qf],trivial⟩
theorem Q4b{l:List Node}{x:Node}{n:Int}(h0:0<=n)(h1:n<l.length):Q1l (l++[x]) n=Q1l l n:=by
 have h2:n.toNat<l.length:=by omega
 have h3:n<((l++[x]).length:Int):=by simp only[length_append,length_singleton];omega
 rw[Q1l,Q1l,if_pos ⟨h0,h3⟩,if_pos ⟨h0,h1⟩,List.getElem?_append_left h2]
theorem Q5c{l:List Node}{x:Node}:Q1l (l++[x]) l.length=x:=by
 rw[Q1l,if_pos ⟨by omega,by simp only[length_append,length_singleton];omega⟩,Int.toNat_natCast]
 simp
theorem Q76{l:List Node}{n:Int}(h:¬(0<=n/\n<l.length)):Q1l l n=Qbq:=by rw[Q1l,if_neg h]
theorem Q7I{l:List Node}{x:Node}(n:Int):(0<=n/\n<l.length/\Q1l (l++[x]) n=Q1l l n)\/(n=l.length/\Q1l (l++[x]) n=x)\/Q1l (l++[x]) n=Qbq:=by
 by_cases h:0<=n/\n<l.length
 ·exact .inl ⟨h.1,h.2,Q4b h.1 h.2⟩
 ·by_cases h2:n=l.length
  ·subst h2;exact .inr (.inl ⟨rfl,Q5c⟩)
  ·exact .inr (.inr (Q76 (by simp;omega)))
def InR(l:List Node)(ks:List Int):Prop:=∀k∈ks,0<=k/\k<l.length
theorem InR.more{l:List Node}{ks:List Int}(h:InR l ks)(x:Node):InR (l++[x]) ks:=fun k hk=>by have:=h k hk;simp;omega
theorem QbB{l:List Node}(h:Wf l){x:Node}(hx:InR l x.kids):Wf (l++[x]):=fun n h0 h1 k hk=>by
 rcases Q7I (l:=l) (x:=x) n with ⟨h2,h3,h4⟩|⟨h2,h4⟩|h4
 ·rw[h4]at hk;exact h n h2 h3 k hk
 ·rw[h4]at hk;rw[h2];exact hx k hk
 ·rw[h4]at hk;cases hk
theorem Qg6{l:List Node}(h:Wf l)(x:Node):∀(f:Nat)(n:Int),0<=n->n<l.length->prF (l++[x]) f n=prF l f n
 |0,_,_,_=>rfl
 |f+1,n,h0,h1=>by
  simp only[prF,Q4b h0 h1];congr 1
  refine congrArg List.flatten (map_congr_left fun k hk=>?_)
  have:=h n h0 h1 k hk
  exact Qg6 h x f k this.1 (by omega)
theorem Qf4{l:List Node}(h:Wf l)(x:Node){n:Int}(h0:0<=n)(h1:n<l.length):pr (l++[x]) n=pr l n:=Qg6 h x _ n h0 h1
theorem Q67{l:List Node}(h:Wf l)(x:Node){ks:List Int}(hk:InR l ks):ks.flatMap (pr (l++[x]))=ks.flatMap (pr l) :=
 congrArg List.flatten (map_congr_left fun k gE=>Qf4 h x (hk k gE).1 (hk k gE).2)
theorem QbI{l:List Node}(h:Wf l){x:Node}(hx:InR l x.kids):pr (l++[x]) l.length=x.b++x.kids.flatMap (pr l):=by
 rw[QnM (QbB h hx) (by omega) (by simp only[length_append,length_singleton];omega),Q5c,Q67 h x hx]
theorem QdR{l:List Node}(h:Wf l)(hw:QkG l){x:Node}(hx:InR l x.kids)(hxw:x.width=(x.b++x.kids.flatMap (pr l)).length):QkG (l++[x]):=fun n h0 h1=>by
 rcases Q7I (l:=l) (x:=x) n with ⟨h2,h3,h4⟩|⟨h2,h4⟩|h4
 ·rw[h4,Qf4 h x h2 h3];exact hw n h2 h3
 ·rw[h4,h2,QbI h hx];exact hxw
 ·have h1:n<((l++[x]).length:Int):=h1
  by_cases h2:n<l.length
  ·rw[Q4b h0 h2]at h4
   rw[Q4b h0 h2,Qf4 h x h0 h2];exact hw n h0 h2
  ·have h3:n=l.length:=by simp at h1;omega
   subst h3;rw[Q5c,QbI h hx];exact hxw
theorem QjQ{l:List Node}(h:ArOk l){x:Node}(hw:0<=x.width)(hc:0<=x.count/\x.count<=2147483647):ArOk (l++[x]):=by
 refine⟨fun n=>?_,fun n=>?_⟩
 ·rw[Q47]
  rcases Q7I (l:=l) (x:=x) n with ⟨_,_,h4⟩|⟨_,h4⟩|h4
  ·rw[h4];exact h.w n
  ·rw[h4];exact hw
  ·rw[h4];exact Int.le_refl _
 ·rw[Q3e]
  rcases Q7I (l:=l) (x:=x) n with ⟨_,_,h4⟩|⟨_,h4⟩|h4
  ·rw[h4];exact h.c n
  ·rw[h4];exact hc
  ·rw[h4];exact⟨Int.le_refl _,by show(0:Int)<=_;omega⟩
structure Ar (l:List Node):Prop where
 wf:Wf l
 wide:QkG l
 ok:ArOk l
theorem QmW:Ar []:=⟨fun n h0 h1=>by simp at h1;omega,fun n h0 h1=>by simp at h1;omega,⟨fun n=>by rw[Q47,Q76 (fun h=>by simp at h;omega)];exact Int.le_refl _,fun n=>by rw[Q3e,Q76 (fun h=>by simp at h;omega)];exact⟨Int.le_refl _,by show(0:Int)<=_;omega⟩⟩⟩
theorem Q5h{l:List Node}(h:Ar l)(k:Int)(bs:List UInt8):Ar (l++[QA k bs])/\pr (l++[QA k bs]) l.length=bs:=by
 have hx:InR l (QA k bs).kids:=fun k hk=>by cases hk
 refine⟨⟨QbB h.wf hx,QdR h.wf h.wide hx (by simp[QA]),QjQ h.ok (by show(0:Int)<=(bs.length:Int);omega) (by show(0:Int)<=1/\(1:Int)<=_;omega)⟩,?_⟩
 rw[QbI h.wf hx];simp[QA]
theorem Qck{l:List Node}(hw:QkG l):∀{ks:List Int},InR l ks->Q39 l ks=(ks.flatMap (pr l)).length
 | [],_=>rfl
 |k::r,hk=>by
  have ih:=Qck hw (ks:=r) (fun x hx=>hk x (List.mem_cons_of_mem _ hx))
  have h1:=hk k (List.mem_cons_self ..);have h2:=hw k h1.1 h1.2;simp only[Q39,map_cons,sum_cons,flatMap_cons,length_append]at ih ⊢;rw[Q47,h2,ih];omega
theorem Qhk{l:List Node}(h:Ar l)(k:Int){ks:List Int}(hk:InR l ks):Ar (l++[Q1U l k ks])/\pr (l++[Q1U l k ks]) l.length=ks.flatMap (pr l):=by
 have hx:InR l (Q1U l k ks).kids:=hk;refine⟨⟨QbB h.wf hx,QdR h.wf h.wide hx ?_,QjQ h.ok (Q7G h.ok.w ks) (Q8p h.ok.c ks)⟩,?_⟩
 ·show Q39 l ks=(([]:List UInt8)++ks.flatMap (pr l)).length
  rw[List.nil_append];exact Qck h.wide hk
 ·rw[QbI h.wf hx];rfl
theorem Q8V(s:List Opn)(x:Opn):QM (s++[x])=x:=by simp[QM]
theorem Q4y(n:Int)(s:List Opn)(x:Opn):Q2L n (s++[x])=s++[⟨x.name,x.kids++[n]⟩]:=by
 rw[Q2L,Q8V];simp
theorem Q3o{s:List Opn}(h:1<=s.length):∃s0,s=s0++[QM s]:=by
 refine⟨s.dropLast,?_⟩;have jL:s≠[]:=by rintro rfl;simp at h
 have h2:QM s=s.getLast jL:=by
  rw[QM,List.getLast_eq_getElem,getElem?_eq_getElem (by omega)];rfl
 rw[h2];exact(List.dropLast_concat_getLast jL).symm
def prK(l:List Node)(s:List Opn):List UInt8:=s.flatMap fun x=>x.kids.flatMap (pr l)
def Q5f(s:List Opn):Nat:=(s.map fun x=>x.kids.length).sum
structure MkInv (m:Mk) (X:List UInt8) (B D:Nat):Prop where
 ar:Ar m.n
 rng:∀x∈m.s,InR m.n x.kids
 p:prK m.n m.s=X
 s1:1<=m.s.length
 n:m.n.length+2 * m.s.length<=B
 d:m.d.length+2 * m.s.length<=D
 k:Q5f m.s+2 * m.s.length<=B
 nm:∀x∈m.s,x.name.length<=1000000
theorem QlF{s:List Opn}{x:Opn}(h:x∈s):x.kids.length<=Q5f s:=by
 induction s with
 |nil=>cases h
 |cons y r ih =>
  simp only[Q5f,map_cons,sum_cons]at ih ⊢;rcases mem_cons.1 h with rfl|h
  ·omega
  ·have:=ih h;omega
theorem MkInv.ok{m:Mk}{X:List UInt8}{B D:Nat}(h:MkInv m X B D)(hB:B<=900000)(hD:D<=900000):MkOk m :=
 ⟨by have:=h.n;omega,by have:=h.d;omega,by have:=h.n;omega,h.s1,fun x hx=>by have:=h.k;have:=QlF hx;omega⟩
theorem Q2y{m:Mk}{X:List UInt8}{B D:Nat}(h:MkInv m X B D)(t:Txt)(c f u:Int):MkInv (QO t c f u m) X B (D+1) :=
 ⟨h.ar,h.rng,h.p,h.s1,by have:=h.n;show m.n.length+2 * m.s.length<=_;omega,by have:=h.d;show(m.d++_).length+2 * m.s.length<=_;simp;omega,by have:=h.k;show Q5f m.s+2 * m.s.length<=_;omega,h.nm⟩
theorem QbO{l:List Node}(h:Wf l)(x:Node){s:List Opn}(hs:∀y∈s,InR l y.kids):prK (l++[x]) s=prK l s :=
 congrArg List.flatten (map_congr_left fun y hy=>Q67 h x (hs y hy))
theorem Q6b(l:List Node)(s:List Opn)(x:Opn):prK l (s++[x])=prK l s++x.kids.flatMap (pr l):=by simp[prK]
theorem Q2Z(s:List Opn)(x:Opn):Q5f (s++[x])=Q5f s+x.kids.length:=by simp[Q5f]
theorem Qfr{m:Mk}{X:List UInt8}{B D:Nat}(h:MkInv m X B D){x:Node}{Y:List UInt8}(ha:Ar (m.n++[x]))(hp:pr (m.n++[x]) m.n.length=Y):MkInv (Q3i m.n.length (Q1W x m)) (X++Y) (B+1) D:=by
 obtain⟨s0,yH⟩:=Q3o h.s1;generalize QM m.s=y at yH
 have e:(Q3i m.n.length (Q1W x m)).s=s0++[⟨y.name,y.kids++[(m.n.length:Int)]⟩]:=by
  show Q2L m.n.length m.s=_;rw[yH,Q4y]
 have en:(Q3i m.n.length (Q1W x m)).n=m.n++[x]:=rfl;have hr:=h.rng;rw[yH]at hr;have yR:∀z∈s0,InR m.n z.kids:=fun z hz=>hr z (mem_append_left _ hz)
 have zg:InR m.n y.kids:=hr y (by simp)
 have h1:=h.n;have h2:=h.d;have h3:=h.k;have h4:=h.p;rw[yH]at h1 h2 h3 h4;rw[Q2Z]at h3;rw[Q6b]at h4;simp only[length_append,length_singleton]at h1 h2 h3;have qi:=h.nm;rw[yH]at qi;refine⟨by rw[en];exact ha,fun z hz=>?_,?_,by rw[e];simp,?_,?_,?_,fun z hz=>?_⟩
 ·rw[en]
  rw[e]at hz;rcases mem_append.1 hz with hz|hz
  ·exact(yR z hz).more x
  ·obtain rfl:z=⟨y.name,y.kids++[(m.n.length:Int)]⟩:=by simpa using hz
   intro k hk;rcases mem_append.1 hk with hk|hk
   ·exact zg.more x k hk
   ·obtain rfl:k=(m.n.length:Int):=by simpa using hk
    simp;omega
 ·rw[e,en,Q6b,QbO h.ar.wf x yR]
  simp only[List.flatMap_append,flatMap_cons,flatMap_nil,append_nil];rw[Q67 h.ar.wf x zg,hp,<-List.append_assoc,h4]
 ·rw[e,en];simp only[length_append,length_singleton];omega
 ·rw[e];show m.d.length+_<=_;simp only[length_append,length_singleton];omega
 ·rw[e,Q2Z];simp only[length_append,length_singleton];omega
 ·rw[e]at hz
  rcases mem_append.1 hz with hz|hz
  ·exact qi z (mem_append_left _ hz)
  ·obtain rfl:z=⟨y.name,y.kids++[(m.n.length:Int)]⟩:=by simpa using hz
   exact qi y (by simp)
theorem Q9u{m:Mk}{X:List UInt8}{B D:Nat}(h:MkInv m X B D)(t:Txt)(b:List UInt8)(kind f u:Int):MkInv (lkF t b kind f u m) (X++Q1r t b f u) (B+1) D :=
 Qfr h (Q5h h.ar kind _).1 (Q5h h.ar kind _).2
theorem Qe7{m:Mk}{X:List UInt8}{B D:Nat}(h:MkInv m X B D)(nm:List Int)(qi:nm.length<=1000000):MkInv { m with s:=m.s++[⟨nm,[]⟩] } X (B+2) (D+2):=by
 have h1:=h.n;have h2:=h.d;have h3:=h.k;refine⟨h.ar,fun z hz=>?_,?_,by simp,?_,?_,?_,fun z hz=>?_⟩
 ·rcases mem_append.1 hz with hz|hz
  ·exact h.rng z hz
  ·obtain rfl:z=⟨nm,[]⟩:=by simpa using hz
   intro k hk;cases hk
 ·rw[Q6b];simpa using h.p
 ·simp only[length_append,length_singleton];omega
 ·simp only[length_append,length_singleton];omega
 ·rw[Q2Z];simp only[length_append,length_singleton,List.length_nil];omega
 ·rcases mem_append.1 hz with hz|hz
  ·exact h.nm z hz
  ·obtain rfl:z=⟨nm,[]⟩:=by simpa using hz
   exact qi
theorem Q9I{m:Mk}{X:List UInt8}{B D:Nat}(h:MkInv m X B D)(hs:2<=m.s.length)(kind:Int)(bs:List UInt8){D':Nat}(hD:D<=D'+2):MkInv (Q1T m.n.length (Q1W (QA kind bs) m)) (X++bs) B D'/\(Q1T m.n.length (Q1W (QA kind bs) m)).s.length=m.s.length-1 /\
  InR (m.n++[QA kind bs]) ((QM m.s).kids++[(m.n.length:Int)])/\(((QM m.s).kids++[(m.n.length:Int)]).flatMap (pr (m.n++[QA kind bs]))).length<=X.length+bs.length:=by
 obtain⟨s1,jr⟩:=Q3o h.s1;generalize QM m.s=x at jr;have vu:1<=s1.length:=by rw[jr]at hs;simp at hs;omega
 obtain⟨s0,yH⟩:=Q3o vu;generalize QM s1=y at yH;subst yH;obtain⟨vG,xH⟩:=Q5h h.ar kind bs;have hr:=h.rng;rw[jr]at hr;have yR:∀z∈s0,InR m.n z.kids:=fun z hz=>hr z (mem_append_left _ (mem_append_left _ hz))
 have zg:InR m.n y.kids:=hr y (mem_append_left _ (by simp))
 have xq:InR m.n x.kids:=hr x (by simp)
 have c9:InR (m.n++[QA kind bs]) (x.kids++[(m.n.length:Int)]):=fun k hk=>by
  rcases mem_append.1 hk with hk|hk
  ·exact xq.more _ k hk
  ·obtain rfl:k=(m.n.length:Int):=by simpa using hk
   simp;omega
 obtain⟨l1,hl⟩:=exq (m.n++[QA kind bs]);obtain⟨yn,kJ⟩:=Qhk vG 21 c9;obtain⟨z,hz⟩:=exq (Q1U l1 21 (x.kids++[(m.n.length:Int)]))
 have xo:(x.kids++[(m.n.length:Int)]).flatMap (pr l1)=x.kids.flatMap (pr m.n)++bs:=by
  rw[hl];simp only[List.flatMap_append,flatMap_cons,flatMap_nil,append_nil];rw[Q67 h.ar.wf _ xq,xH]
 rw[<-hl]at vG yn kJ c9 ⊢;rw[<-hz]at yn kJ
 have eT:QM (Q3i (m.n.length:Int) (Q1W (QA kind bs) m)).s=⟨x.name,x.kids++[(m.n.length:Int)]⟩:=by
  show QM (Q2L m.n.length m.s)=_;rw[jr,Q4y,Q8V]
 have en:(Q1T m.n.length (Q1W (QA kind bs) m)).n=l1++[z]:=by
  show(m.n++[QA kind bs])++[Q1U (m.n++[QA kind bs]) 21 (QM (Q3i (m.n.length:Int) (Q1W (QA kind bs) m)).s).kids]=_
  rw[eT,<-hl,<-hz]
 have es:(Q1T m.n.length (Q1W (QA kind bs) m)).s=s0++[⟨y.name,y.kids++[(l1.length:Int)]⟩]:=by
  show Q2L ((m.n++[QA kind bs]).length:Int) ((Q2L m.n.length m.s).take ((Q2L m.n.length m.s).length-1))=_
  have e2:(Q2L m.n.length m.s).take ((Q2L m.n.length m.s).length-1)=s0++[y]:=by
   rw[jr,Q4y,show(s0++[y]++[(⟨x.name,x.kids++[(m.n.length:Int)]⟩:Opn)]).length-1=(s0++[y]).length by simp]
   exact List.take_left
  rw[e2,Q4y,hl]
 have h1:=h.n;have h2:=h.d;have h3:=h.k;have h4:=h.p;rw[jr]at h1 h2 h3 h4;rw[Q2Z,Q2Z]at h3;rw[Q6b,Q6b]at h4;simp only[length_append,length_singleton]at h1 h2 h3;have gN:l1.length=m.n.length+1:=by rw[hl];simp
 have qi:=h.nm;rw[jr]at qi;refine⟨⟨by rw[en];exact yn,fun q hq=>?_,?_,by rw[es];simp,?_,?_,?_,fun q hq=>?_⟩,by rw[es,jr];simp,c9,?_⟩
 ·rw[en]
  rw[es]at hq
  have up:∀{ks:List Int},InR m.n ks->InR (l1++[z]) ks:=fun hk=>by
   rw[hl];exact(hk.more _).more _
  rcases mem_append.1 hq with hq|hq
  ·exact up (yR q hq)
  ·obtain rfl:q=⟨y.name,y.kids++[(l1.length:Int)]⟩:=by simpa using hq
   intro k hk;rcases mem_append.1 hk with hk|hk
   ·exact up zg k hk
   ·obtain rfl:k=(l1.length:Int):=by simpa using hk
    simp;omega
 ·have up0:prK (l1++[z]) s0=prK m.n s0:=by
   rw[QbO vG.wf z (fun q hq=>by rw[hl];exact(yR q hq).more _),hl,QbO h.ar.wf _ yR]
  have upy:y.kids.flatMap (pr (l1++[z]))=y.kids.flatMap (pr m.n):=by
   rw[Q67 vG.wf z (by rw[hl];exact zg.more _),hl,Q67 h.ar.wf _ zg]
  rw[es,en,Q6b,up0];simp only[List.flatMap_append,flatMap_cons,flatMap_nil,append_nil];rw[upy,kJ,xo,<-h4];simp only[List.append_assoc]
 ·rw[es,en];simp only[length_append,length_singleton];omega
 ·rw[es];show m.d.length+_<=_;simp only[length_append,length_singleton];omega
 ·rw[es,Q2Z];simp only[length_append,length_singleton];omega
 ·rw[es]at hq
  rcases mem_append.1 hq with hq|hq
  ·exact qi q (mem_append_left _ (mem_append_left _ hq))
  ·obtain rfl:q=⟨y.name,y.kids++[(l1.length:Int)]⟩:=by simpa using hq
   exact qi y (mem_append_left _ (by simp))
 ·rw[xo,<-h4]
  simp only[length_append];omega
theorem Q5E{m:Mk}{X:List UInt8}{B D:Nat}(h:MkInv m X B D)(hs:2<=m.s.length)(t:Txt)(at_:Int):MkInv (Q3l t at_ m) X B D/\(Q3l t at_ m).s.length=m.s.length-1 /\
  InR (m.n++[QA 22 []]) ((QM m.s).kids++[(m.n.length:Int)])/\(((QM m.s).kids++[(m.n.length:Int)]).flatMap (pr (m.n++[QA 22 []]))).length<=X.length:=by
 have:=Q9I (Q2y h t 4 at_ at_) hs 22 [] (D':=D) (by omega)
 rw[append_nil]at this;exact this
theorem Qa5(t:Txt)(f u:Int):(Q10 t f u).length<=t.r.length:=by
 rw[Q10,length_take,length_drop];omega
theorem Q7d(t:Txt)(a:Int)(m:Mk):(Q3l t a m).s.length=m.s.length-1:=by
 show(Q2L _ ((Q2L _ m.s).take ((Q2L _ m.s).length-1))).length=_
 rw[Q9j,length_take,Q9j];omega
theorem Q8I{t:Txt}{f:Int}{k:Nat}{x:Mk}(h:k<x.s.length-1):missGo t f k x.s.length x=missGo t f k (Q3l t f x).s.length (Q3l t f x):=by
 obtain⟨n,hn⟩:∃n,x.s.length=n+1:=⟨x.s.length-1,by omega⟩
 rw[Q7d,hn];rw[hn]at h;show(if k<x.s.length-1 then _ else _)=_
 rw[hn,if_pos h];rfl
theorem Q9y{t:Txt}{f:Int}{k:Nat}{x:Mk}(h:¬k<x.s.length-1):missGo t f k x.s.length x=x:=by
 cases hn:x.s.length with
 |zero=>rfl
 |succ n =>
  show(if k<x.s.length-1 then _ else _)=_
  rw[if_neg h]
theorem MkInv.sum{l:List Node}(h:Ar l){ks:List Int}(hk:InR l ks){n:Nat}(hn:(ks.flatMap (pr l)).length<=n)(h2:n<=2147483647):Q39 l ks<=2147483647:=by
 rw[Qck h.wide hk];omega
theorem MkInv.top{m:Mk}{X:List UInt8}{B D:Nat}(h:MkInv m X B D):InR m.n (QM m.s).kids:=by
 obtain⟨s0,yH⟩:=Q3o h.s1;refine h.rng _ ?_;rw[yH,Q8V];simp
theorem QiF(t:Txt)(b:List UInt8)(rt:Int){m:Mk}{X:List UInt8}{B D:Nat}(h:MkInv m X B D)(hB:B<=900000)(hD:D<=900000)(hX:X.length<=1000000)(a:Int)(ha:0<=a/\a<t.off.length)(hs:2<=m.s.length) :
  BCall prog 103 [.box 0 0,.val (.int .i64 a)] (obT 0 t b rt m) (.tup []) (obT 1 t b rt (Q3l t a m)):=by
 have ok:=h.ok hB hD;obtain⟨_,_,h3,h4⟩:=Q5E h hs t a;have vG:=(Q5h h.ar 22 []).1;exact QmK t b rt m (by have:=ok.d;omega) a ha hs (by have:=ok.s;omega) (fun x hx=>by have:=ok.k x hx;omega) (by have:=ok.n;omega) vG.ok h.top (MkInv.sum vG h3 h4 (by omega))
theorem QmX(t:Txt)(b:List UInt8)(rt:Int){m:Mk}{X:List UInt8}{B D:Nat}(h:MkInv m X B D)(hB:B<=900000)(hD:D<=900000)(hX:X.length<=1000000)(hs:2<=m.s.length)(kind:Int)(bs:List UInt8)(xn:bs.length<=1000000) :
  BCall prog 150 [.box 0 0,.val (.int .i64 m.n.length)] (obT 0 t b rt (Q1W (QA kind bs) m)) (.tup []) (obT 1 t b rt (Q1T m.n.length (Q1W (QA kind bs) m))):=by
 have ok:=h.ok hB hD;obtain⟨_,_,h3,h4⟩:=Q9I h hs kind bs (D':=D) (by omega)
 have vG:=(Q5h h.ar kind bs).1;exact Qkz t b rt (Q1W (QA kind bs) m) hs (by have:=ok.s;show m.s.length<=_;omega) (fun x hx=>by have:=ok.k x hx;omega) (by have:=ok.n;show(m.n++_).length<=_;simp;omega) vG.ok m.n.length h3 (MkInv.sum vG h3 h4 (by omega))
def Q4K(t:Txt)(a:Int)(N D S:List AV):List AV:=Q9 (Q3l t a (mkB N D S)).n
def Q4J(t:Txt)(a:Int)(N D S:List AV):List AV:=QJ (Q3l t a (mkB N D S)).d
def Q4W(t:Txt)(a:Int)(N D S:List AV):List AV:=Qc (Q3l t a (mkB N D S)).s
def Qny(p:Pr)(nm:Int->Int->List AV)(wr:Int->Int->Int->List AV->List AV)(lf:Int->Int->Int->List AV->List AV)(kd:Int->List AV->List AV)(eq:List AV->List AV->Bool)(mn md ms sn ss:Int->List AV->List AV->List AV->List AV):Nat->List AV->List Ob->Option (AV×List Ob):=fun f args ob=>match f,args with
 |146,[.box 0 0,.agg [_,.val (.int .i64 f),.val (.int .i64 u),_]]=>some (.slc 1 (nm f u),ob)
 |145,[.box 0 0,.val (.int .i64 c),.val (.int .i64 f),.val (.int .i64 u)]=>Q37 ob fun b k m r o rt N D S=>some (.tup [],obM 1 b k m r o rt N (wr c f u D) S)
 |149,[.box 0 0,.agg [.val (.int .i64 kind),.val (.int .i64 f),.val (.int .i64 u),_]]=>Q37 ob fun b k m r o rt N D S=>some (.val (.int .i64 (p.len N)),obM 1 b k m r o rt (lf kind f u N) D S)
 |63,[.box 0 0,.val (.int .i64 n)]=>Q37 ob fun b k m r o rt N D S=>some (.tup [],obM 1 b k m r o rt N D (kd n S))
 |195,[.slc 1 x,.slc 1 y]=>some (.val (.bool (eq x y)),[])
 |103,[.box 0 0,.val (.int .i64 a)]=>Q37 ob fun b k m r o rt N D S=>some (.tup [],obM 1 b k m r o rt (mn a N D S) (md a N D S) (ms a N D S))
 |150,[.box 0 0,.val (.int .i64 n)]=>Q37 ob fun b k m r o rt N D S=>some (.tup [],obM 1 b k m r o rt (sn n N D S) D (ss n N D S))
 |_,_=>none
def eqA(x y:List AV):Bool:=decide (x.map intOf=y.map intOf)
theorem QhV(x y:List Int):eqA (Q0 x) (Q0 y)=decide (x=y):=by rw[eqA,Q4n,Q4n]
theorem Qlu(l:List Int):Q3z (slR l)=Q0 l:=by cases l<;>rfl
theorem QmP(l:List Int):slR l=.slc 1 (Q0 l)\/slR l=.val (.slice none 0 0):=by
 cases l with
 |nil=>exact .inr rfl
 |cons x r=>exact .inl rfl
def Q5p(s:List Opn)(k:Int):Opn:=s[k.toNat]?.getD ⟨[],[]⟩
theorem Qnd{s:List Opn}{k:Int}(h0:0<=k)(h1:k<s.length):(Qc s).getD k.toNat .dead=(Q5p s k).av:=by
 have:k.toNat<s.length:=by omega
 simp[Qc,Q5p,this]
theorem Qaq{s:List Opn}{nm:List Int}{k:Int}(h:0<k):Q2g s nm k.toNat=if(Q5p s k).name=nm then k.toNat else Q2g s nm (k-1).toNat:=by
 obtain⟨n,hn⟩:∃n:Nat,k.toNat=n+1:=⟨k.toNat-1,by omega⟩
 rw[Q5p,show(k-1).toNat=n by omega,hn];rfl
theorem Qga(t:Txt)(a:Int)(m:Mk):Q4K t a (Q9 m.n) (QJ m.d) (Qc m.s)=Q9 (Q3l t a m).n:=by rw[Q4K,Q1J]
theorem Qfq(t:Txt)(a:Int)(m:Mk):Q4J t a (Q9 m.n) (QJ m.d) (Qc m.s)=QJ (Q3l t a m).d:=by rw[Q4J,Q1J]
theorem QfV(t:Txt)(a:Int)(m:Mk):Q4W t a (Q9 m.n) (QJ m.d) (Qc m.s)=Qc (Q3l t a m).s:=by rw[Q4W,Q1J]
theorem QlA(l:Int)(y:Node)(m:Mk):Q7b l (Q9 (m.n++[y])) (QJ m.d) (Qc m.s)=Q9 (Q1T l (Q1W y m)).n:=by
 have:=Q1J (Q1W y m)
 rw[Q7b];exact congrArg (fun z=>Q9 (Q1T l z).n) this
theorem Qls(l:Int)(y:Node)(m:Mk):Q6V l (Q9 (m.n++[y])) (QJ m.d) (Qc m.s)=Qc (Q1T l (Q1W y m)).s:=by
 have:=Q1J (Q1W y m)
 rw[Q6V];exact congrArg (fun z=>Qc (Q1T l z).s) this
theorem QnZ(t:Txt)(b:List UInt8)(hs:Sml t b)(rt:Int)(m:Mk)(X:List UInt8)(B D:Nat)(iv:MkInv m X B D)(hB:B<=800000)(hD:D<=800000)(hX:X.length<=1000000)(kind f u:Int)(wh:Bool)(hi:InT t f u) :
  BCall prog 148 [.box 0 0,.agg [.val (.int .i64 kind),.val (.int .i64 f),.val (.int .i64 u),.val (.bool wh)]] (obT 0 t b rt m) (.tup []) (obT 1 t b rt (Q3m t b kind f u m)):=by
 have cN:=Qfo t b hs.hr rt m kind f u wh hi.h0 hi.h1 hi.h2;have qr:=hi.off hs;have ok:=iv.ok (by omega) (by omega)
 unfold obT obM;obtain⟨L,hL⟩:=QC m.s;have slen:=Q3d m.s;refine fnN (Qny std (nmA t) (wrA t) (lfT t b) kdA eqA (Q4K t) (Q4J t) (Q4W t) Q7b Q6V) func148 rfl fun _ _=>?_
 generalize hN:Q9 m.n=N;generalize zE:QJ m.d=D';generalize hS:Qc m.s=S;generalize vD:Q5 b=B';generalize hR:Q0 t.r=R;generalize hO:Qh t.off=O;generalize hK:t.kind=K;generalize hM:t.bom=M;with_reducible refine Q5j (nmA t) (wrA t) (lfT t b) kdA eqA (Q4K t) (Q4J t) (Q4W t) Q7b Q6V ?_
 subst hN zE hS vD hR hO hK hM;have jC:std.len (Qc m.s)=L:=by show((Qc m.s).length:Int)=L;rw[slen,hL.eq]
 have hL1:1<=L:=by have:=hL.eq;have:=ok.s1;omega
 have hLn:L<=900000:=by have:=hL.eq;have:=ok.s;omega
 refine⟨cN,?_,?_⟩
 ·show(-9223372036854775808:Int)<=std.len (Qc m.s)-1/\std.len (Qc m.s)-1<=(9223372036854775807:Int)
  rw[jC];omega
 obtain⟨nm0,qi⟩:=exq (Q10 t f u);have hnmA:nmA t f u=Q0 nm0:=by rw[qi];rfl
 rw[hnmA];refine Q1p (Qny std (nmA t) (wrA t) (lfT t b) kdA eqA (Q4K t) (Q4J t) (Q4W t) Q7b Q6V) (Int) (fun k=>⟨[(0,.box 0 0),(3,.box 6 0),(4,.slc 1 (Q0 nm0)),(5,.val (.int .i64 k))],[.box [.slc 1 (Q5 b),.box 1 0,.row 5 0],.box [.val (.int .i64 t.kind),.val (.int .i64 t.bom),.slc 1 (Q0 t.r),.slc 1 (Qh t.off),.box 2 0,.val (.int .i64 rt),.row 4 0],.box [.row 3 0],.row 197 6 false 0 (Q9 m.n),.row 233 3 false 0 (QJ m.d),.row 136 2 false 0 (Qc m.s),.box [.val (.int .i64 kind),.val (.int .i64 f),.val (.int .i64 u),.val (.bool wh)]]⟩) (fun k=>0<=k/\k<=L-1/\Q2g m.s nm0 k.toNat=Q2g m.s nm0 (m.s.length-1)) (fun k=>k.toNat) (L-1) ?_ ?_ ?_
 ·exact⟨by omega,Int.le_refl _,by have:=hL.eq;rw[show(L-1).toNat=m.s.length-1 by omega]⟩
 ·exact⟨[some 0,some 1,some 2,some 3,some 4,some 5,some 6],_,rfl,by simp[Qf,lk,std,slen,hL.eq]⟩
 ·rintro k ⟨jl,jR,qC⟩
  generalize hN:Q9 m.n=N;generalize zE:QJ m.d=D';generalize hS:Qc m.s=S;generalize vD:Q5 b=B';generalize hR:Q0 t.r=R;generalize hO:Qh t.off=O;generalize hK:t.kind=K;generalize hM:t.bom=M;generalize xr:Q0 nm0=NM;with_reducible refine Q5j (nmA t) (wrA t) (lfT t b) kdA eqA (Q4K t) (Q4J t) (Q4W t) Q7b Q6V ?_
  subst hN zE hS vD hR hO hK hM xr;have qE:k<m.s.length:=by have:=hL.eq;omega
  have jW:=Qnd jl qE
  have ge:std.nth (std.drp (std.cel (std.at_ (Qc m.s) k)) 0) 0=slR (Q5p m.s k).name:=by
   show((((Qc m.s).getD k.toNat .dead).cells).drop 0).getD 0 .dead=_
   rw[jW];rfl
  have yh:std.lst (std.nth (std.drp (std.cel (std.at_ (Qc m.s) k)) 0) 0)=Q0 (Q5p m.s k).name:=by
   show Q3z (std.nth (std.drp (std.cel (std.at_ (Qc m.s) k)) 0) 0)=_;rw[ge,Qlu]
  have gf:(Q5p m.s k).name.length<=1000000000:=by
   have yp:k.toNat<m.s.length:=by omega
   have:=iv.nm (Q5p m.s k) (by rw[Q5p,getElem?_eq_getElem yp];exact getElem_mem yp)
   omega
  have qZ:nm0.length<=1000000000:=by
   have h3:=Qa5 t f u;have h4:=hs.hr;rw[qi];omega
  have cE:=QkO (Q5p m.s k).name nm0 gf qZ;rw[<-QhV,<-yh]at cE
  have hq:∀c,std.notB (eqA (std.lst (std.nth (std.drp (std.cel (std.at_ (Qc m.s) k)) 0) 0)) (Q0 nm0))=c->decide ((Q5p m.s k).name=nm0)=!c:=fun c h=>by
   rw[yh,QhV]at h;have h:(!decide ((Q5p m.s k).name=nm0))=c:=h;rw[<-h,Bool.not_not]
  refine⟨fun hk=>⟨?_,⟨?_,trivial⟩,cE,fun jL=>⟨?_,k-1,⟨?_,?_,?_⟩,?_,[some 0,some 1,some 2,some 3,some 4,some 5,some 6],_,rfl,by simp[Qf,lk,std]⟩,fun jj=>?_⟩,fun hk=>?_⟩
  ·show 0<=k/\k<std.len (Qc m.s)
   rw[jC];omega
  ·show std.nth (std.drp (std.cel (std.at_ (Qc m.s) k)) 0) 0=.slc 1 (std.lst (std.nth (std.drp (std.cel (std.at_ (Qc m.s) k)) 0) 0))\/std.nth (std.drp (std.cel (std.at_ (Qc m.s) k)) 0) 0=.val (.slice none 0 0)
   rw[yh,ge];exact QmP _
  ·show(-9223372036854775808:Int)<=k-1/\k-1<=(9223372036854775807:Int)
   omega
  ·have:0<k:=of_decide_eq_true hk
   omega
  ·omega
  ·have h1:0<k:=of_decide_eq_true hk
   rw[<-qC,Qaq (nm:=nm0) h1,if_neg (of_decide_eq_false (hq _ jL))]
  ·have h1:0<k:=of_decide_eq_true hk
   omega
  ·have h1:0<k:=of_decide_eq_true hk
   have hf:Q2g m.s nm0 (m.s.length-1)=k.toNat:=by rw[<-qC,Qaq (nm:=nm0) h1,if_pos (of_decide_eq_true (hq _ jj))]
   clear cE hq;have hkn:k.toNat≠0:=by omega
   have hE:Q3m t b kind f u m=Q1T (missGo t f k.toNat m.s.length m).n.length (Q1O t b kind f u (missGo t f k.toNat m.s.length m)):=by
    show(if Q2g m.s (Q10 t f u) (m.s.length-1)=0 then _ else _)=_
    rw[<-qi,hf,if_neg hkn]
   obtain⟨kn,xt⟩:=exq k.toNat;obtain⟨M0,xu⟩:=exq (missGo t f kn m.s.length m);rw[<-xt,<-xu]at hE;have hkI:k=(kn:Int):=by omega
   rw[hE];clear hE hf qC qE;rw[if_pos trivial];generalize hN:Q9 m.n=N;generalize zE:QJ m.d=D';generalize hS:Qc m.s=S;generalize vD:Q5 b=B';generalize hR:Q0 t.r=R;generalize hO:Qh t.off=O;generalize hK:t.kind=K;generalize hM:t.bom=M;generalize xr:Q0 nm0=NM;with_reducible refine Q5j (nmA t) (wrA t) (lfT t b) kdA eqA (Q4K t) (Q4J t) (Q4W t) Q7b Q6V ?_
   subst hN zE hS vD hR hO hK hM xr;refine⟨fun hz=>?_,fun _=>?_⟩
   ·have hz:(k == 0)=true:=hz
    have:k=0:=by simpa using hz
    omega
   refine Q1p (Qny std (nmA t) (wrA t) (lfT t b) kdA eqA (Q4K t) (Q4J t) (Q4W t) Q7b Q6V) (Mk) (fun x=>⟨[(0,.box 0 0),(3,.box 6 0),(5,.val (.int .i64 k))],[.box [.slc 1 (Q5 b),.box 1 0,.row 5 1],.box [.val (.int .i64 t.kind),.val (.int .i64 t.bom),.slc 1 (Q0 t.r),.slc 1 (Qh t.off),.box 2 0,.val (.int .i64 rt),.row 4 1],.box [.row 3 1],.row 197 6 false 1 (Q9 x.n),.row 233 3 false 1 (QJ x.d),.row 136 2 false 1 (Qc x.s),.box [.val (.int .i64 kind),.val (.int .i64 f),.val (.int .i64 u),.val (.bool wh)]]⟩) (fun x=>MkInv x X B D/\kn+1<=x.s.length/\missGo t f kn x.s.length x=M0) (fun x=>x.s.length) m ?_ ?_ ?_
   ·exact⟨iv,by have:=hL.eq;omega,xu.symm⟩
   ·exact⟨[some 0,some 1,some 2,some 3,some 4,some 5,some 6],_,rfl,by simp[Qf,lk,std]⟩
   ·rintro x ⟨hv,cY,cZ⟩
    have okx:=hv.ok (by omega) (by omega)
    have xlen:=Q3d x.s;obtain⟨LX,pd⟩:=QC x.s;generalize hN:Q9 x.n=N;generalize zE:QJ x.d=D';generalize hS:Qc x.s=S;generalize vD:Q5 b=B';generalize hR:Q0 t.r=R;generalize hO:Qh t.off=O;generalize hK:t.kind=K;generalize hM:t.bom=M;with_reducible refine Q5j (nmA t) (wrA t) (lfT t b) kdA eqA (Q4K t) (Q4J t) (Q4W t) Q7b Q6V ?_
    subst hN zE hS vD hR hO hK hM;have xj:std.len (Qc x.s)=LX:=by show((Qc x.s).length:Int)=LX;rw[xlen,pd.eq]
    have hX1:1<=LX/\LX<=900000:=by have:=pd.eq;have:=okx.s;have:=okx.s1;omega
    simp only[Qga,Qfq,QfV];refine⟨?_,fun yg=>?_,fun jF=>?_⟩
    ·show(-9223372036854775808:Int)<=std.len (Qc x.s)-1/\std.len (Qc x.s)-1<=(9223372036854775807:Int)
     rw[xj];omega
    ·have yg:k<std.len (Qc x.s)-1:=of_decide_eq_true yg
     rw[xj]at yg;have jR:kn<x.s.length-1:=by have:=pd.eq;omega
     have zh:2<=x.s.length:=by omega
     have c:=QiF t b rt hv (by omega) (by omega) hX f qr.1 zh
     refine⟨c,Q3l t f x,⟨(Q5E hv zh t f).1,by rw[Q7d];omega,by rw[<-Q8I jR];exact cZ⟩,by rw[Q7d];omega,[some 0,some 1,some 2,some 3,some 4,some 5,some 6],_,rfl,by simp[Qf,lk,std]⟩
    ·have jF:¬k<std.len (Qc x.s)-1:=of_decide_eq_false jF
     rw[xj]at jF;have jR:¬kn<x.s.length-1:=by have:=pd.eq;omega
     have xS:x=M0:=by rw[<-cZ,Q9y jR]
     subst xS;have zh:2<=x.s.length:=by omega
     have cL:=Qae t b hs.hb hs.ok hs.hr rt x (by have:=okx.n;omega) kind f u wh hi.h0 hi.h1 hi.h2
     have cS:=QmX t b rt hv (by omega) (by omega) hX zh kind (Q1r t b f u) (by have:=Qbp t b f u;have:=hs.hb;omega)
     simp only[obT,obM,Q1O]at cL cS ⊢;clear jF xj hX1 jR zh cZ cY hkI xt yh ge jW;rw[if_pos trivial];generalize hN:Q9 x.n=N;generalize zE:QJ x.d=D';generalize hS:Qc x.s=S;generalize vD:Q5 b=B';generalize hR:Q0 t.r=R;generalize hO:Qh t.off=O;generalize hK:t.kind=K;generalize hM:t.bom=M;with_reducible refine Q5j (nmA t) (wrA t) (lfT t b) kdA eqA (Q4K t) (Q4J t) (Q4W t) Q7b Q6V ?_
     subst hN zE hS vD hR hO hK hM;simp only[std,Q9E,Q1z,QlA,Qls];refine⟨cL,cS,[some 0,some 1,some 2,some 3,some 4,some 5],.tup [],_,rfl,rfl,le_of_ble_eq_true rfl,rfl,?_,trivial⟩;simp[Qf];rfl
  ·have hk:¬0<k:=of_decide_eq_false hk
   have xv:k=0:=by omega
   have hf:Q2g m.s nm0 (m.s.length-1)=0:=by rw[<-qC,xv];rfl
   have hE:Q3m t b kind f u m=lkF t b kind f u (QO t 3 f u m):=by
    show(if Q2g m.s (Q10 t f u) (m.s.length-1)=0 then _ else _)=_
    rw[<-qi,hf,if_pos rfl]
   rw[hE];clear cE hq hE hf qC qE yh ge jW gf qZ;rw[if_pos trivial];generalize hN:Q9 m.n=N;generalize zE:QJ m.d=D';generalize hS:Qc m.s=S;generalize vD:Q5 b=B';generalize hR:Q0 t.r=R;generalize hO:Qh t.off=O;generalize hK:t.kind=K;generalize hM:t.bom=M;generalize xr:Q0 nm0=NM;with_reducible refine Q5j (nmA t) (wrA t) (lfT t b) kdA eqA (Q4K t) (Q4J t) (Q4W t) Q7b Q6V ?_
   subst hN zE hS vD hR hO hK hM xr;refine⟨fun _=>?_,fun hz=>?_⟩
   ·have hd:=ok.d
    have cW:=Q8X t b rt m (by omega) 3 f u qr.1 qr.2
    have cL:=Qae t b hs.hb hs.ok hs.hr rt (QO t 3 f u m) (by have:=ok.n;show m.n.length<=_;omega) kind f u wh hi.h0 hi.h1 hi.h2
    have cK:=Q9T t b rt (Q1O t b kind f u (QO t 3 f u m)) (by have:=ok.s1;exact this) (by have:=ok.s;show m.s.length<=_;omega) (by have:=ok.top;show(QM m.s).kids.length<=_;omega) m.n.length
    simp only[obT,obM,Q1O,Q1W,Q3i,QO,lkF]at cW cL cK ⊢;simp only[std,Q9E,Q99,Q9d,Q1z];exact⟨cW,cL,cK,[some 0,some 1,some 2,some 3,some 4,some 5],.tup [],_,rfl,rfl,le_of_ble_eq_true rfl,rfl,by simp[Qf],trivial⟩
   ·have hz:(k == 0)=false:=hz
    rw[xv]at hz;cases hz
end
theorem MkInv.mono{m:Mk}{X:List UInt8}{B D B' D':Nat}(h:MkInv m X B D)(hB:B<=B')(hD:D<=D'):MkInv m X B' D' :=
 ⟨h.ar,h.rng,h.p,h.s1,le_trans h.n hB,le_trans h.d hD,le_trans h.k hB,h.nm⟩
theorem Qbg{m:Mk}{X:List UInt8}{B D:Nat}(h:MkInv m X B D)(t:Txt)(b:List UInt8)(hr:t.r.length<=1000000)(kind f u:Int):MkInv (Q1B t b kind f u m) (X++Q1r t b f u) (B+3) (D+2):=by
 unfold Q1B;split
 ·exact(Q9u (Q2y h t 5 f u) t b kind f u).mono (by omega) (by omega)
 ·exact Q9u (Qe7 h (Q10 t f u) (le_trans (Qa5 t f u) hr)) t b kind f u
theorem Q9t(t:Txt)(f:Int)(k:Nat){X:List UInt8}{B D:Nat}:∀(n:Nat)(m:Mk),MkInv m X B D->k+1<=m.s.length->m.s.length<=n+k+1->MkInv (missGo t f k n m) X B D/\(missGo t f k n m).s.length=k+1
 |0,m,h,h1,h2=>⟨h,by show m.s.length=_;omega⟩
 |n+1,m,h,h1,h2=>by
  show MkInv (if _ then _ else _) X B D/\(if _ then _ else _:Mk).s.length=_;split
  ·have h3:=Q5E h (by omega) t f
   exact Q9t t f k n _ h3.1 (by omega) (by omega)
  ·exact⟨h,by omega⟩
theorem Q78(s:List Opn)(nm:List Int):∀k,Q2g s nm k<=k
 |0=>le_refl _
 |k+1=>by
  unfold Q2g;split
  ·exact le_refl _
  ·exact Nat.le_succ_of_le (Q78 s nm k)
theorem QfD{m:Mk}{X:List UInt8}{B D:Nat}(h:MkInv m X B D)(t:Txt)(b:List UInt8)(kind f u:Int):MkInv (Q3m t b kind f u m) (X++Q1r t b f u) (B+1) (D+1):=by
 unfold Q3m;have h1:=h.s1;have h2:=Q78 m.s (Q10 t f u) (m.s.length-1);simp only
 split
 ·exact Q9u (Q2y h t 3 f u) t b kind f u
 ·obtain⟨h3,h4⟩:=Q9t t f (Q2g m.s (Q10 t f u) (m.s.length-1)) m.s.length m h (by omega) (by omega)
  exact(Q9I h3 (by omega) kind (Q1r t b f u) (D':=D) (by omega)).1.mono (by omega) (by omega)
theorem Qhd{m:Mk}{X:List UInt8}{B D:Nat}(h:MkInv m X B D)(t:Txt)(b:List UInt8)(hr:t.r.length<=1000000)(kind f u:Int)(wh:Bool):MkInv (Q36 t b kind f u wh m) (X++Q1r t b f u) (B+3) (D+3):=by
 unfold Q36;simp only
 generalize qp:(if wh=false then QO t 1 f u m else if(kind=8\/kind=9\/kind=10)/\(Qa t.r f u).right=false then QO t 2 f u m else m)=m1
 have h1:MkInv m1 X B (D+1):=by
  rw[<-qp];split
  ·exact Q2y h t 1 f u
  ·split
   ·exact Q2y h t 2 f u
   ·exact h.mono (by omega) (by omega)
 split
 ·exact(Qbg h1 t b hr kind f u).mono (by omega) (by omega)
 ·split
  ·exact(QfD h1 t b kind f u).mono (by omega) (by omega)
  ·exact(Q9u h1 t b kind f u).mono (by omega) (by omega)
def Q7E(t:Txt)(b:List UInt8)(k:Int):List UInt8:=b.take (Q31 t k).toNat
theorem Qep{t:Txt}{b:List UInt8}(ok:TxtOk t b){f u:Int}(h0:0<=f)(h1:f<=u)(h2:u<=t.r.length):Q7E t b f++Q1r t b f u=Q7E t b u:=by
 have hm:=ok.mono f.toNat u.toNat (by omega) (by omega)
 have jC:=ok.len;have hf:f.toNat<t.off.length:=by omega
 have h3:=ok.range (t.off[f.toNat]'hf) (getElem_mem hf);have e3:t.off[f.toNat]?.getD 0=t.off[f.toNat]:=by rw[getElem?_eq_getElem hf];rfl
 rw[<-e3]at h3;show b.take (t.off[f.toNat]?.getD 0).toNat++(b.drop (t.off[f.toNat]?.getD 0).toNat).take _=b.take (t.off[u.toNat]?.getD 0).toNat;generalize t.off[f.toNat]?.getD 0=p at *;generalize t.off[u.toNat]?.getD 0=q at *;rw[show q.toNat=p.toNat+(q-p).toNat by omega,List.take_add]
theorem QjS{t:Txt}{b:List UInt8}(ok:TxtOk t b):Q7E t b t.r.length=b:=by
 rw[Q7E,Q31,Int.toNat_natCast,ok.last,Int.toNat_natCast,List.take_length]
def QbX(t:Txt)(b:List UInt8)(m:Mk)(x:Tok):Mk:=Q36 t b x.kind x.from_ x.to x.whole m
theorem QnF(l:List Int){k:Nat}(h:k<l.length):(Q1M l k).from_=k/\(Q1M l k).to=((QZ l k).2.1:Nat)/\k<(QZ l k).2.1/\(QZ l k).2.1<=l.length:=⟨rfl,rfl,Q3S l k h⟩
def Qc9(t:Txt)(b:List UInt8)(m:Mk):Mk :=
 let m1:=(Qb1 t.r).foldl (QbX t b) m
 missGo t t.r.length 0 m1.s.length m1
def Q7L(m:Mk):Mk:=Q1W (Q1U m.n 20 (QM m.s).kids) m
theorem Qg1{l:List Node}(h:Wf l)(x:Node):∀(f:Nat)(n:Int),0<=n->n<l.length->coF (l++[x]) f n=coF l f n
 |0,_,_,_=>rfl
 |f+1,n,h0,h1=>by
  simp only[coF,Q4b h0 h1];congr 2
  refine map_congr_left fun k hk=>?_
  have:=h n h0 h1 k hk
  exact Qg1 h x f k this.1 (by omega)
theorem Qn3{l:List Node}(h:Wf l)(x:Node){n:Int}(h0:0<=n)(h1:n<l.length):co (l++[x]) n=co l n:=Qg1 h x _ n h0 h1
def coL(l:List Node)(ks:List Int):Nat:=(ks.map (co l)).sum
theorem Q6i{l:List Node}(h:Wf l)(x:Node){ks:List Int}(hk:InR l ks):coL (l++[x]) ks=coL l ks :=
 congrArg List.sum (map_congr_left fun k gE=>Qn3 h x (hk k gE).1 (hk k gE).2)
theorem Qej{l:List Node}(h:Wf l){x:Node}(hx:InR l x.kids):co (l++[x]) l.length=1+coL l x.kids:=by
 rw[Qor (QbB h hx) (by omega) (by simp only[length_append,length_singleton];omega),Q5c]
 exact congrArg (1 + ·) (Q6i h x hx)
theorem QbU(l:List Node)(a b:List Int):coL l (a++b)=coL l a+coL l b:=by simp[coL]
theorem Qcc(l:List Node)(k:Int):coL l [k]=co l k:=by simp[coL]
def coK(l:List Node)(s:List Opn):Nat:=(s.map fun x=>coL l x.kids).sum
theorem Q6k(l:List Node)(s:List Opn)(x:Opn):coK l (s++[x])=coK l s+coL l x.kids:=by simp[coK]
theorem Qcp{l:List Node}(h:Wf l)(x:Node){s:List Opn}(hs:∀y∈s,InR l y.kids):coK (l++[x]) s=coK l s :=
 congrArg List.sum (map_congr_left fun y hy=>Q6i h x (hs y hy))
def Q9b(m:Mk):Prop:=coK m.n m.s<=m.n.length
theorem Qlv{m:Mk}(h:Q9b m)(nm:List Int):Q9b { m with s:=m.s++[⟨nm,[]⟩] }:=by
 show coK m.n (m.s++[⟨nm,[]⟩])<=_;have h:coK m.n m.s<=m.n.length:=h;rw[Q6k];simpa[coL]using h
theorem Q6O{m:Mk}{X:List UInt8}{B D:Nat}(h:MkInv m X B D)(hc:Q9b m)(kind:Int)(bs:List UInt8):Q9b (Q3i m.n.length (Q1W (QA kind bs) m)):=by
 obtain⟨s0,yH⟩:=Q3o h.s1;generalize QM m.s=y at yH;have hr:=h.rng;rw[yH]at hr;have yR:∀z∈s0,InR m.n z.kids:=fun z hz=>hr z (mem_append_left _ hz)
 have zg:InR m.n y.kids:=hr y (by simp)
 have hx:InR m.n (QA kind bs).kids:=fun k hk=>by cases hk
 have hc:coK m.n m.s<=m.n.length:=hc;rw[yH,Q6k]at hc;show coK (m.n++[QA kind bs]) (Q2L m.n.length m.s)<=(m.n++[QA kind bs]).length;rw[yH,Q4y,Q6k,QbU,Qcc,Qcp h.ar.wf _ yR,Q6i h.ar.wf _ zg,Qej h.ar.wf hx];have:coL m.n (QA kind bs).kids=0:=rfl
 rw[this];simp only[length_append,length_singleton];omega
theorem QfN{m:Mk}{X:List UInt8}{B D:Nat}(h:MkInv m X B D)(hc:Q9b m)(hs:2<=m.s.length)(kind:Int)(bs:List UInt8):Q9b (Q1T m.n.length (Q1W (QA kind bs) m)):=by
 obtain⟨s1,jr⟩:=Q3o h.s1;generalize QM m.s=x at jr;have vu:1<=s1.length:=by rw[jr]at hs;simp at hs;omega
 obtain⟨s0,yH⟩:=Q3o vu;generalize QM s1=y at yH;subst yH;have vG:=(Q5h h.ar kind bs).1;have hr:=h.rng;rw[jr]at hr;have yR:∀z∈s0,InR m.n z.kids:=fun z hz=>hr z (mem_append_left _ (mem_append_left _ hz))
 have zg:InR m.n y.kids:=hr y (mem_append_left _ (by simp))
 have xq:InR m.n x.kids:=hr x (by simp)
 have hx:InR m.n (QA kind bs).kids:=fun k hk=>by cases hk
 have c9:InR (m.n++[QA kind bs]) (x.kids++[(m.n.length:Int)]):=fun k hk=>by
  rcases mem_append.1 hk with hk|hk
  ·exact xq.more _ k hk
  ·obtain rfl:k=(m.n.length:Int):=by simpa using hk
   simp;omega
 obtain⟨l1,hl⟩:=exq (m.n++[QA kind bs]);obtain⟨z,hz⟩:=exq (Q1U l1 21 (x.kids++[(m.n.length:Int)]))
 have e1:coL l1 (x.kids++[(m.n.length:Int)])=coL m.n x.kids+1:=by
  rw[hl,QbU,Qcc,Q6i h.ar.wf _ xq,Qej h.ar.wf hx];rfl
 have eT:QM (Q3i (m.n.length:Int) (Q1W (QA kind bs) m)).s=⟨x.name,x.kids++[(m.n.length:Int)]⟩:=by
  show QM (Q2L m.n.length m.s)=_;rw[jr,Q4y,Q8V]
 have en:(Q1T m.n.length (Q1W (QA kind bs) m)).n=l1++[z]:=by
  show(m.n++[QA kind bs])++[Q1U (m.n++[QA kind bs]) 21 (QM (Q3i (m.n.length:Int) (Q1W (QA kind bs) m)).s).kids]=_
  rw[eT,<-hl,<-hz]
 have es:(Q1T m.n.length (Q1W (QA kind bs) m)).s=s0++[⟨y.name,y.kids++[(l1.length:Int)]⟩]:=by
  show Q2L ((m.n++[QA kind bs]).length:Int) ((Q2L m.n.length m.s).take ((Q2L m.n.length m.s).length-1))=_
  have e2:(Q2L m.n.length m.s).take ((Q2L m.n.length m.s).length-1)=s0++[y]:=by
   rw[jr,Q4y,show(s0++[y]++[(⟨x.name,x.kids++[(m.n.length:Int)]⟩:Opn)]).length-1=(s0++[y]).length by simp]
   exact List.take_left
  rw[e2,Q4y,hl]
 rw[<-hl]at vG c9;have hzk:InR l1 z.kids:=by rw[hz];exact c9
 have hc:coK m.n m.s<=m.n.length:=hc;rw[jr,Q6k,Q6k]at hc
 have up0:coK (l1++[z]) s0=coK m.n s0:=by
  rw[Qcp vG.wf z (fun q hq=>by rw[hl];exact(yR q hq).more _),hl,Qcp h.ar.wf _ yR]
 have upy:coL (l1++[z]) y.kids=coL m.n y.kids:=by
  rw[Q6i vG.wf z (by rw[hl];exact zg.more _),hl,Q6i h.ar.wf _ zg]
 have gN:l1.length=m.n.length+1:=by rw[hl];simp
 show coK (Q1T m.n.length (Q1W (QA kind bs) m)).n (Q1T m.n.length (Q1W (QA kind bs) m)).s<=(Q1T m.n.length (Q1W (QA kind bs) m)).n.length;rw[es,en,Q6k,QbU,Qcc,up0,upy,Qej vG.wf hzk];have ez:coL l1 z.kids=coL m.n x.kids+1:=by rw[hz];exact e1
 rw[ez];simp only[length_append,length_singleton];omega
structure MkI (m:Mk) (X:List UInt8) (B D:Nat):Prop where
 i:MkInv m X B D
 c:Q9b m
section
variable {m:Mk}{X:List UInt8}{B D:Nat}
theorem MkI.lk(h:MkI m X B D)(t:Txt)(b:List UInt8)(kind f u:Int):MkI (lkF t b kind f u m) (X++Q1r t b f u) (B+1) D:=⟨Q9u h.i t b kind f u,Q6O h.i h.c kind _⟩
theorem MkI.wrong(h:MkI m X B D)(t:Txt)(c f u:Int):MkI (QO t c f u m) X B (D+1):=⟨Q2y h.i t c f u,h.c⟩
theorem MkI.start(h:MkI m X B D)(t:Txt)(b:List UInt8)(hr:t.r.length<=1000000)(kind f u:Int):MkI (Q1B t b kind f u m) (X++Q1r t b f u) (B+3) (D+2):=by
 refine⟨Qbg h.i t b hr kind f u,?_⟩;unfold Q1B;split
 ·exact((h.wrong t 5 f u).lk t b kind f u).c
 ·exact Q6O (Qe7 h.i (Q10 t f u) (le_trans (Qa5 t f u) hr)) (Qlv h.c _) kind _
theorem MkI.miss(h:MkI m X B D)(hs:2<=m.s.length)(t:Txt)(a:Int):MkI (Q3l t a m) X B D:=⟨(Q5E h.i hs t a).1,QfN (Q2y h.i t 4 a a) h.c hs 22 []⟩
end
theorem MkI.missGo(t:Txt)(f:Int)(k:Nat){X:List UInt8}{B D:Nat}:∀(n:Nat)(m:Mk),MkI m X B D->k+1<=m.s.length->m.s.length<=n+k+1->MkI (missGo t f k n m) X B D/\(Go.Proofs.YtlaegncokadkkaaGreat.missGo t f k n m).s.length=k+1
 |0,m,h,h1,h2=>⟨h,by show m.s.length=_;omega⟩
 |n+1,m,h,h1,h2=>by
  show MkI (if _ then _ else _) X B D/\(if _ then _ else _:Mk).s.length=_;split
  ·have h3:=Q5E h.i (by omega) t f
   exact MkI.missGo t f k n _ (h.miss (by omega) t f) (by omega) (by omega)
  ·exact⟨h,by omega⟩
section
variable {m:Mk}{X:List UInt8}{B D:Nat}
theorem MkI.end_(h:MkI m X B D)(t:Txt)(b:List UInt8)(kind f u:Int):MkI (Q3m t b kind f u m) (X++Q1r t b f u) (B+1) (D+1):=by
 refine⟨QfD h.i t b kind f u,?_⟩;unfold Q3m;have h1:=h.i.s1;have h2:=Q78 m.s (Q10 t f u) (m.s.length-1);simp only
 split
 ·exact((h.wrong t 3 f u).lk t b kind f u).c
 ·obtain⟨h3,h4⟩:=MkI.missGo t f (Q2g m.s (Q10 t f u) (m.s.length-1)) m.s.length m h (by omega) (by omega)
  exact QfN h3.i h3.c (by omega) kind _
theorem MkI.token(h:MkI m X B D)(t:Txt)(b:List UInt8)(hr:t.r.length<=1000000)(kind f u:Int)(wh:Bool):MkI (Q36 t b kind f u wh m) (X++Q1r t b f u) (B+3) (D+3):=by
 refine⟨Qhd h.i t b hr kind f u wh,?_⟩;unfold Q36;simp only
 generalize qp:(if wh=false then QO t 1 f u m else if(kind=8\/kind=9\/kind=10)/\(Qa t.r f u).right=false then QO t 2 f u m else m)=m1
 have h1:∃D',MkI m1 X B D':=by
  rw[<-qp];split
  ·exact⟨_,h.wrong t 1 f u⟩
  ·split
   ·exact⟨_,h.wrong t 2 f u⟩
   ·exact⟨_,h⟩
 obtain⟨D',h1⟩:=h1;split
 ·exact(h1.start t b hr kind f u).c
 ·split
  ·exact(h1.end_ t b kind f u).c
  ·exact(h1.lk t b kind f u).c
end
theorem Q7o{ps:List TPart}{a:Int}(h0:0<=a)(h1:a<=ps.length){k:Int}(h:Qz ps a.toNat [k]=true):a<ps.length:=by
 have:=((Q2Y (l:=ps) (a:=a.toNat) (ks:=[k]) (by omega)).1 h).1
 simp only[length_singleton]at this;omega
theorem Qgl{ps:List TPart}{a:Int}(h0:0<=a)(h1:a<ps.length):ps[a.toNat]?.getD Qe∈ps:=by
 have h2:a.toNat<ps.length:=by omega
 rw[getElem?_eq_getElem h2];exact getElem_mem h2
theorem Qdb(ps:List TPart):∀(f:Nat)(a:Int),0<=a->a<=ps.length->∀x∈(Qi ps f a).1,x.name∈ps/\x.value∈ps
 |0,a,_,_,x,hx=>by cases hx
 |f+1,a,h0,h1,x,hx=>by
  unfold Qi at hx;split at hx
  ·rename_i jB
   rcases mem_cons.1 hx with rfl|hx
   ·have hs:∃y,Q1b ps a=some y:=Option.isSome_iff_exists.1 jB
    obtain⟨y,hy⟩:=hs;rw[Qq,hy];unfold Q1b at hy;split at hy
    ·rename_i ht
     have jF:=Q7o h0 h1 ht.1;have xy:=Q7o (a:=a+1) (by omega) (by omega) ht.2
     obtain⟨hb,jU,_⟩:=Q4D ps (a+2) 3 (by omega) (by omega)
     simp only at hy
     split at hy
     ·rename_i h4
      have hle3:=Q7o (by omega) jU h4
      obtain⟨hc,yO,_⟩:=Q4D ps (Q35 ps (a+2) 3+1) 3 (by omega) (by omega)
      split at hy
      ·rename_i h5
       have hle4:=Q7o (by omega) yO h5
       simp only[Option.some.injEq]at hy;subst hy;exact⟨Qgl (by omega) xy,Qgl (by omega) hle4⟩
      ·cases hy
     ·cases hy
    ·cases hy
   ·have hg:=Q64 h0 h1 jB
    exact Qdb ps f _ (by omega) hg.2 x hx
  ·cases hx
theorem QaQ(ps:List TPart):∀(f:Nat)(a:Int),(Qi ps f a).1.length<=f
 |0,a=>le_refl 0
 |f+1,a=>by
  unfold Qi;split
  ·exact Nat.succ_le_succ (QaQ ps f _)
  ·exact Nat.zero_le _
structure PIn (l:List Int) (x:TPart):Prop where
 a:0<=x.from_
 b:x.from_<=x.to
 c:x.to<=l.length
theorem Q8Y(l:List Int):(∀x∈(Qa l 0 l.length).attrs,PIn l x.name/\PIn l x.value)/\(Qa l 0 l.length).attrs.length<=l.length+1:=by
 have e1:QI l 0 l.length=QQ 0 true l:=by
  unfold QI;rw[Int.toNat_natCast,List.take_length];rfl
 have jw:=QaU l.length l 0 true (le_refl _);rw[Qa,e1];generalize qD:QQ 0 true l=ps at jw
 have hm:((Q19 ps).attrs=[]\/(Q19 ps).attrs=(Qi ps (ps.length+1) 2).1/\2<=ps.length):=by
  unfold Q19;split
  ·rename_i ht
   have jF:=((Q2Y (Nat.zero_le _)).1 ht).1;simp only
   split<;>exact .inr ⟨rfl,by simpa using jF⟩
  ·exact .inl rfl
 rcases hm with h|⟨h,h2⟩
 ·rw[h];exact⟨fun x hx=>(by cases hx),(by simp)⟩
 ·rw[h]
  refine⟨fun x hx=>?_,by have:=QaQ ps (ps.length+1) 2;omega⟩
  obtain⟨h1,h2⟩:=Qdb _ _ 2 (by omega) (by omega) x hx
  rw[<-qD]at h1 h2;have hn:=Q51 l l.length l 0 true (le_refl _) x.name h1;have hv:=Q51 l l.length l 0 true (le_refl _) x.value h2;exact⟨⟨by omega,by omega,by omega⟩,⟨by omega,by omega,by omega⟩⟩
def cutL(l:List Int)(a b:Int):List Int:=(l.drop a.toNat).take (b-a).toNat
theorem QT(l:List Int)(a b:Int):(cutL l a b).length<=l.length:=by
 rw[cutL,length_take,length_drop];omega
def Q59(q r:Int):Int:=if q=1 then 34 else if q=2 then 39 else r
def Q2M(t:Int):List Int:=if t=39 then [38,97,112,111,115,59]else [38,113,117,111,116,59]
def Q81(t r:Int):List Int:=if r=t then Q2M t else [r]
def QN(t:Int)(l:List Int):List Int:=l.flatMap (Q81 t)
def Q4k(c:Cf)(l:List Int):List Int :=
 let a:=l[0]?.getD 0
 let t:=Q59 (wI c.q 0 2) a
 if l.length<2\/a≠l[l.length-1]?.getD 0\/(a≠34/\a≠39)\/t=a then l else t::QN t ((l.drop 1).take (l.length-2))++[t]
def QY(c:Cf):List Int:=if wI c.n 0 2=1 then [13,10]else if wI c.n 0 2=2 then [13]else [10]
def Q2j(c:Cf)(name:List Int)(short:Bool):List Int:=if short=false then [62]else if c.e=2 then [32,47,62]else if c.e=3 then [62,60,47]++name++[62]else [47,62]
def Q1q(c:Cf)(l:List Int)(a:TAttr):List Int:=cutL l a.name.from_ a.name.to++[61]++Q4k c (cutL l a.value.from_ a.value.to)
def QF(name:List Int)(attrs:List (List Int))(ahead e:List Int):List Int:=60::name++attrs.flatMap (ahead++·)++e
def QP(d:Int):Int:=if d > 1000 then 1000 else d+1
def Q3j(c0:Cf)(l:List Int)(deep:Int)(pair:Bool):List Int :=
 let c:=c0.clamp
 let t:=Qa l 0 l.length
 if t.right=false\/Q7 l 0 [60,47]=true then l else
 let name:=cutL l t.name.from_ t.name.to
 let ats:=t.attrs.map (Q1q c l)
 let e:=Q2j c name (t.empty||(pair&&decide (0<c.e)))
 let o:=QF name ats [32] e
 if c.wrap=true/\0<ats.length/\(o.length:Int)+(QL c deep).length > c.w then QF name ats (QY c++QL c (QP deep)) e else o
theorem Q4N(t:Int):∀l:List Int,(QN t l).length<=6 * l.length
 | []=>le_refl _
 |r::l=>by
  have ih:=Q4N t l;have e:QN t (r::l)=Q81 t r++QN t l:=rfl
  have h:(Q81 t r).length<=6:=by unfold Q81 Q2M;repeat' split
                                 all_goals simp
  rw[e,length_append,length_cons];omega
theorem Q5Z(c:Cf)(l:List Int):(Q4k c l).length<=6 * l.length+2:=by
 unfold Q4k;simp only
 split
 ·omega
 ·have:=Q4N (Q59 (wI c.q 0 2) (l[0]?.getD 0)) ((l.drop 1).take (l.length-2))
  rw[length_append,length_cons,length_singleton];rw[length_take,length_drop]at this;omega
theorem Q7m(c:Cf)(l:List Int)(a:TAttr):(Q1q c l a).length<=7 * l.length+3:=by
 unfold Q1q;have h1:=QT l a.name.from_ a.name.to;have h2:=QT l a.value.from_ a.value.to;have h3:=Q5Z c (cutL l a.value.from_ a.value.to);rw[length_append,length_append,length_singleton];omega
theorem Q7u(c:Cf)(d:Int):(QL c d).length<=1600:=by
 have hd:=Q48 (n:=d) (lo:=0) (hi:=200) (by decide)
 have hi:=Q48 (n:=c.i) (lo:=0) (hi:=8) (by decide)
 have qp:wI d 0 200 * wI c.i 0 8<=200 * 8:=Int.mul_le_mul hd.2 hi.2 hi.1 (by decide)
 unfold QL;split<;>rw[List.length_replicate]<;>omega
theorem Q7N(c:Cf):(QY c).length<=2:=by
 unfold QY;repeat' split
 all_goals decide
theorem Q6r(c:Cf)(name:List Int)(s:Bool):(Q2j c name s).length<=name.length+4:=by
 unfold Q2j;repeat' split
 all_goals simp
theorem Q2b(f:List Int->List Int)(n:Nat):∀l:List (List Int),(∀x∈l,(f x).length<=n)->(l.flatMap f).length<=n * l.length
 | [],_=>by simp
 |x::r,h=>by
  have ih:=Q2b f n r fun y hy=>h y (List.mem_cons_of_mem _ hy)
  have h1:=h x List.mem_cons_self;rw[flatMap_cons,length_append,length_cons,Nat.mul_add];omega
theorem Ql0(c:Cf)(d:Int):QL c ((if 1073741824<d then 1073741824 else d)+1)=QL c (QP d):=by
 have h:wI ((if 1073741824<d then 1073741824 else d)+1) 0 200=wI (QP d) 0 200:=by
  unfold wI QP;repeat' split
  all_goals omega
 unfold QL;rw[h]
def Q2J(name:List Int)(ats:List (List Int)):List (List Int):=[60]::name::ats.flatMap fun x=>[[32],x]
def Q13(name:List Int)(ats:List (List Int))(b p:List Int):List (List Int):=[60]::name::ats.flatMap fun x=>[b,p,x]
theorem Qa0(name:List Int)(ats:List (List Int))(e:List Int):(Q2J name ats).flatten++e=QF name ats [32] e:=by
 have h:∀l:List (List Int),(l.flatMap fun x=>[[32],x]).flatten=l.flatMap ([32]++·):=fun l=>by
  induction l with
  |nil=>rfl
  |cons x r ih=>rw[flatMap_cons,flatMap_cons,List.flatten_append,ih];simp
 rw[Q2J,flatten_cons,flatten_cons,h,QF];simp
theorem Q7Y(name:List Int)(ats:List (List Int))(b p e:List Int):(Q13 name ats b p).flatten++e=QF name ats (b++p) e:=by
 have h:∀l:List (List Int),(l.flatMap fun x=>[b,p,x]).flatten=l.flatMap ((b++p)++·):=fun l=>by
  induction l with
  |nil=>rfl
  |cons x r ih=>rw[flatMap_cons,flatMap_cons,List.flatten_append,ih];simp
 rw[Q13,flatten_cons,flatten_cons,h,QF];simp
section
open Tryz
theorem QcV(xs:List AV)(hn:xs.length<=1000000000):BCall prog 12 [.slc 1 xs] [] (.slc 1 xs) []:=by
 refine fnN (cs0) func12 rfl fun _ _=>?_
 with_reducible refine cv0 ?_
 refine⟨fun h=>.pure rfl ?_,?_,.pure rfl (.inl rfl)⟩
 ·have h:xs=[]:=h
  subst h;exact .inr (.inl ⟨rfl,_,rfl⟩)
 ·show 0+xs.length<=1000000000
  omega
theorem Q4I(l:List Int):Q1h (Q0 l)=true:=by
 induction l with
 |nil=>rfl
 |cons x r ih=>exact ih
theorem QbD(l:List Int):rwA (.slc 1 (Q0 l))=l:=by
 show(Q0 l).map std.int=l
 induction l with
 |nil=>rfl
 |cons x r ih=>exact congrArg (x :: ·) ih
def k2(a b:List AV):List AV:=a++b
def k3(a b c:List AV):List AV:=a++(b++c)
theorem Qia(a b:List Int):k2 (Q0 a) (Q0 b)=Q0 (a++b):=(Qy a b).symm
theorem Ql6(a b c:List Int):k3 (Q0 a) (Q0 b) (Q0 c)=Q0 (a++(b++c)):=by rw[Qy,Qy];rfl
theorem Qlk(a b:List Int)(h:a.length+b.length<=100000000):BCall prog 17 [.slc 1 [.slc 1 (Q0 a),.slc 1 (Q0 b)]] [] (.slc 1 (k2 (Q0 a) (Q0 b))) []:=by
 have h1:Q5L [.slc 1 (Q0 a),.slc 1 (Q0 b)]=true:=by
  show(Q1h (Q0 a)&&(Q1h (Q0 b)&&true))=true
  rw[Q4I,Q4I];rfl
 have e:[AV.slc 1 (Q0 a),.slc 1 (Q0 b)].map rwA=[a,b]:=by
  show [rwA _,rwA _]=_;rw[QbD,QbD]
 have:=Q9s _ h1 (by rw[e];simp[Q2d];omega)
 rw[e]at this;rw[Qia];simpa using this
theorem Qnz(a b c:List Int)(h:a.length+b.length+c.length<=100000000):BCall prog 17 [.slc 1 [.slc 1 (Q0 a),.slc 1 (Q0 b),.slc 1 (Q0 c)]] [] (.slc 1 (k3 (Q0 a) (Q0 b) (Q0 c))) []:=by
 have h1:Q5L [.slc 1 (Q0 a),.slc 1 (Q0 b),.slc 1 (Q0 c)]=true:=by
  show(Q1h (Q0 a)&&(Q1h (Q0 b)&&(Q1h (Q0 c)&&true)))=true
  rw[Q4I,Q4I,Q4I];rfl
 have e:[AV.slc 1 (Q0 a),.slc 1 (Q0 b),.slc 1 (Q0 c)].map rwA=[a,b,c]:=by
  show [rwA _,rwA _,rwA _]=_;rw[QbD,QbD,QbD]
 have:=Q9s _ h1 (by rw[e];simp[Q2d];omega)
 rw[e]at this;rw[Ql6];simpa using this
noncomputable def Ij_tab:List (Nat×FnI):=[
 (34,⟨f34,f34.body.getD .skip,fun _=>.nil⟩)]
theorem Q80:Qb5 Ij_tab:=by
 unfold Ij_tab;refine⟨⟨le_of_ble_eq_true rfl,func34,rfl,by kernel_rfl⟩,?_⟩
 exact trivial
theorem QhR:Q4R []:=trivial
theorem QgP:BCall prog 34 [.val (.string ⟨⟨[47,62]⟩⟩)] [] (.slc 1 (Q0 [47,62])) [] :=
 (Q2k (lf:=100) (Q5g Q80) (Q7J QhR) (ask:=Q61) Q1K 60 _ _ _ _ _ (by kernel_rfl)).2
theorem QcU:BCall prog 34 [.val (.string ⟨⟨[32,47,62]⟩⟩)] [] (.slc 1 (Q0 [32,47,62])) [] :=
 (Q2k (lf:=100) (Q5g Q80) (Q7J QhR) (ask:=Q61) Q1K 60 _ _ _ _ _ (by kernel_rfl)).2
theorem QdM:BCall prog 34 [.val (.string ⟨⟨[60,47]⟩⟩)] [] (.slc 1 (Q0 [60,47])) [] :=
 (Q2k (lf:=100) (Q5g Q80) (Q7J QhR) (ask:=Q61) Q1K 60 _ _ _ _ _ (by kernel_rfl)).2
