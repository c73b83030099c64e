/-
  Parts of the proof, joined: MkA MkB MkC MkD MkI MkE MkJ MkT MkK MkU MkV La Ls MkS. Conditions: as each theorem says.
-/
import Derived.Test.YthbjpdijafccjaaGreatQE05
import Derived.Test.YthbjpdijafccjaaGreatQE07
import Derived.Test.YthbjpdijafccjaaGreatQE12
set_option maxRecDepth 100000
set_option maxHeartbeats 8000000
namespace Go.Proofs.YthbjpdijafccjaaGreat
open Go.RowKit Go.Lib
def Qct:AV:=.val (.slice none 0 0)
def slR (l:List Int):AV:=match l with|[]=>Qct|l=>.slc 1 (Q0 l)
def slK (l:List Int):AV:=match l with|[]=>Qct|l=>.slc 1 (Q8 l)
structure Opn where
 name:List Int
 kids:List Int
 deriving Inhabited,DecidableEq
def Opn.av (x:Opn):AV:=.agg [slR x.name,slK x.kids]
def Qh (l:List Opn):List AV:=l.map Opn.av
structure Dg where
 f:Int
 t:Int
 c:Int
 deriving Inhabited,DecidableEq
def Dg.av (x:Dg):AV:=.agg [.val (.int .i64 x.f),.val (.int .i64 x.t),.val (.int .i64 x.c)]
def QC (l:List Dg):List AV:=l.map Dg.av
def Q92 (x:AV):List Int:=(Q2o x).map intOf
def QmA:AV→Opn
 |.agg [a,k]=>⟨Q92 a,Q92 k⟩
 |_=>⟨[],[]⟩
def dgB:AV→Dg
 |.agg [a,b,c]=>⟨intOf a,intOf b,intOf c⟩
 |_=>⟨0,0,0⟩
def Qlj:AV→Node
 |.agg [k,w,c,l,b,s]=>⟨intOf k,intOf w,intOf c,Q5e l,(Q2o b).map Q2S,Q92 s⟩
 |_=>Q8q
theorem Q7q {α:Type}{f:α→AV}{g:AV→α}(h:∀ x,g (f x)=x)(l:List α):(l.map f).map g=l:=by
 induction l with
 |nil=>rfl
 |cons x r ih=>simp only[List.map_cons,h,ih]
theorem Q8k (l:List Int):(Q8 l).map intOf=l:=Q7q (fun _=>rfl) l
theorem Qi7 (l:List Int):Q92 (slR l)=l:=by
 cases l with
 |nil=>rfl
 |cons x r=>exact Q3O (x::r)
theorem Qjj (l:List Int):Q92 (slK l)=l:=by
 cases l with
 |nil=>rfl
 |cons x r=>exact Q8k (x::r)
theorem QiB (x:Opn):QmA x.av=x:=by
 show (⟨Q92 (slR x.name),Q92 (slK x.kids)⟩:Opn)=x
 rw[Qi7,Qjj]
theorem Ql3 (x:Dg):dgB x.av=x:=rfl
theorem Qgr (x:Node):Qlj x.av=x:=by
 show (⟨x.kind,x.width,x.count,x.leaf,(Q2 x.b).map Q2S,(Q8 x.kids).map intOf⟩:Node)=x
 rw[Q3e,Q8k]
def QiS (l:List AV):List Opn:=l.map QmA
def Qlz (l:List AV):List Dg:=l.map dgB
def QeA (l:List AV):List Node:=l.map Qlj
theorem Qbb (l:List Opn):QiS (Qh l)=l:=Q7q QiB l
theorem Qd7 (l:List Dg):Qlz (QC l)=l:=Q7q Ql3 l
theorem Q9n (l:List Node):QeA (Q7 l)=l:=Q7q Qgr l
theorem Q3y (l:List Opn):(Qh l).length=l.length:=by simp[Qh]
theorem Q8T (l:List Dg):(QC l).length=l.length:=by simp[QC]
structure Mk where
 n:List Node
 d:List Dg
 s:List Opn
 deriving Inhabited
def obM (e:Nat)(b k m r o rt:AV)(N D S:List AV):List Ob :=
 [.box [b,.box 1 0,.row 5 e],.box [k,m,r,o,.box 2 0,rt,.row 4 e],.box [.row 3 e],.row 91 6 false e N,.row 53 3 false e D,.row 62 2 false e S]
def Q3t (ob:List Ob)(f:AV→AV→AV→AV→AV→AV→List AV→List AV→List AV→Option (AV×List Ob)):Option (AV×List Ob):=match ob with
 | [.box [b,.box 1 0,.row 5 0],.box [k,m,r,o,.box 2 0,rt,.row 4 0],.box [.row 3 0],.row 91 6 false 0 N,.row 53 3 false 0 D,.row 62 2 false 0 S]=>f b k m r o rt N D S
 |_=>none
def obT (e:Nat)(t:Txt)(b:List UInt8)(rt:Int)(m:Mk):List Ob :=
 obM e (.slc 1 (Q2 b)) (.val (.int .i64 t.kind)) (.val (.int .i64 t.bom)) (.slc 1 (Q0 t.r)) (.slc 1 (Q8 t.off)) (.val (.int .i64 rt)) (Q7 m.n) (QC m.d) (Qh m.s)
def Q1x (t:Txt)(i:Int):Int:=t.off[i.toNat]?.getD 0
def QP (t:Txt)(c f u:Int)(m:Mk):Mk:={ m with d:=m.d++[⟨Q1x t f,Q1x t u,c⟩] }
def QO (s:List Opn):Opn:=s[s.length-1]?.getD ⟨[],[]⟩
def Q1K (n:Int)(s:List Opn):List Opn:=s.set (s.length-1) ⟨(QO s).name,(QO s).kids++[n]⟩
def Q2N (n:Int)(m:Mk):Mk:={ m with s:=Q1K n m.s }
def Q1J (x:Node)(m:Mk):Mk:={ m with n:=m.n++[x] }
def Q29 (t:Txt)(b:List UInt8)(kind f u:Int)(m:Mk):Mk:=Q1J (Qu kind (Q13 t b f u)) m
def QmM (m:Mk):Mk:={ m with s:=m.s.take (m.s.length-1) }
def Q1I (last:Int)(m:Mk):Mk :=
 let m1:=Q2N last m
 Q2N m1.n.length (Q1J (Q1e m1.n 21 (QO m1.s).kids) (QmM m1))
def Q2x (t:Txt)(at_:Int)(m:Mk):Mk :=
 let m1:=QP t 4 at_ at_ m
 Q1I m1.n.length (Q1J (Qu 22 []) m1)
def Qo (t:Txt)(f u:Int):List Int:=(t.r.drop (QR t.r f u).name.from_.toNat).take ((QR t.r f u).name.to-(QR t.r f u).name.from_).toNat
def lkF (t:Txt)(b:List UInt8)(kind f u:Int)(m:Mk):Mk:=Q2N m.n.length (Q29 t b kind f u m)
def Q1u (t:Txt)(b:List UInt8)(kind f u:Int)(m:Mk):Mk :=
 if 64<m.s.length then lkF t b kind f u (QP t 5 f u m)
 else lkF t b kind f u { m with s:=m.s++[⟨Qo t f u,[]⟩] }
def Q1F (s:List Opn)(name:List Int):Nat→Nat
 |0=>0
 |k+1=>if (s[k+1]?.getD ⟨[],[]⟩).name=name then k+1 else Q1F s name k
def missGo (t:Txt)(f:Int)(k:Nat):Nat→Mk→Mk
 |0,m=>m
 |n+1,m=>if k<m.s.length-1 then missGo t f k n (Q2x t f m) else m
def Q2I (t:Txt)(b:List UInt8)(kind f u:Int)(m:Mk):Mk :=
 let k:=Q1F m.s (Qo t f u) (m.s.length-1)
 if k=0 then lkF t b kind f u (QP t 3 f u m)
 else let m1:=missGo t f k m.s.length m
  Q1I m1.n.length (Q29 t b kind f u m1)
def Q1Y (t:Txt)(b:List UInt8)(kind f u:Int)(whole:Bool)(m:Mk):Mk :=
 let tagged:=kind=8∨kind=9∨kind=10
 let m1:=if whole=false then QP t 1 f u m else if tagged∧(QR t.r f u).right=false then QP t 2 f u m else m
 if whole=true∧kind=8∧0<(Qo t f u).length then Q1u t b kind f u m1
 else if whole=true∧kind=10 then Q2I t b kind f u m1
 else lkF t b kind f u m1
end Go.Proofs.YthbjpdijafccjaaGreat
namespace Go.Proofs.YthbjpdijafccjaaGreat
open Go.RowKit Go.Lib Tryz
theorem BCall.see {P:Program}{f:Nat}{args:List AV}{ob ob1 ob':List Ob}{res r' res':AV}{l:Eqs}(h:BCall P f args ob res ob1)(ρ:List (Option Nat))(h1:Q2P ρ=true)(h2:Qfs ob ob1 ob' ρ=true)(h3:ob.length≤ρ.length)
  (h4:both (QiW ob1 ob' ρ res r') (Q8s ob1 ob' ρ ρ ob')=some l) (h5:Qe l) (h6:leA r' res'):BCall P f args ob res' ob':=by
 refine⟨h.1,fun w g vs M hL=>(h.2 w g vs M hL).mono fun e w' ⟨v,g',k1,k2,k3,k4⟩=>?_⟩
 obtain⟨⟨l1,e1,a1⟩,l2,e2,a2⟩:=Q30 h4 h5
 have hF:Fits ob1 ob' ρ:=Q4o _ _ _ e2 a2
 exact⟨v,g'.ren ρ,k1,k2.ren hF h1,Q8S (Q9u hF h1 k3 e1 a1) h6,Qca hF h1 h2 h3 k4⟩
theorem Qjm (l:List Int):slK l=.slc 1 (Q8 l)∨(slK l=.val (.slice none 0 0)∧Q8 l=[]):=by
 cases l with
 |nil=>exact .inr ⟨rfl,rfl⟩
 |cons x r=>exact .inl rfl
theorem Qf9 (l:List Int)(n:Int):slK (l++[n])=.slc 1 (Q8 l++[.val (.int .i64 n)]):=by
 rw[←Qcd,←Q4s]
 cases l with
 |nil=>rfl
 |cons x r=>rfl
theorem Qj3 (l:List Opn)(i:Nat)(x:Opn):(Qh l).set i x.av=Qh (l.set i x):=by simp[Qh,List.map_set]
theorem QfD {s:List Opn}(h:1≤s.length):(Qh s)[s.length-1]?=some (QO s).av:=by
 have:s.length-1<s.length:=by omega
 simp[Qh,QO,this]
theorem Q9W (t:Txt)(b:List UInt8)(rt:Int)(m:Mk)(hs:1≤m.s.length)(hn:m.s.length≤1000000)(hk:(QO m.s).kids.length≤1000000)(n:Int) :
  BCall prog 13 [.box 0 0,.val (.int .i64 n)] (obT 0 t b rt m) (.tup []) (obT 1 t b rt (Q2N n m)):=by
 obtain⟨L,hL⟩:=Qy m.s
 have hpos:1≤L:=by rw[hL.eq];omega
 have h:=Qk0 (ob:=obT 0 t b rt m) (k:=5) rfl rfl (i:=L-1) (n:=n) ?_ (by omega) (a:=slR (QO m.s).name) (u:=slK (QO m.s).kids) (us:=Q8 (QO m.s).kids) ?_ (Qjm _) (by rw[Q26];exact hk)
 ·have hi:(L-1).toNat=m.s.length-1:=by have:=hL.eq;omega
  rw[hi,←Qf9] at h
  have e:∀ S,(obT 0 t b rt m).set 5 (.row Q5C 2 false 1 S)=[.box [.slc 1 (Q2 b),.box 1 0,.row 5 0],.box [.val (.int .i64 t.kind),.val (.int .i64 t.bom),.slc 1 (Q0 t.r),.slc 1 (Q8 t.off),.box 2 0,.val (.int .i64 rt),.row 4 0],.box [.row 3 0],.row 91 6 false 0 (Q7 m.n),.row 53 3 false 0 (QC m.d),.row 62 2 false 1 S]:=fun _=>rfl
  have e2:=Qj3 m.s (m.s.length-1) ⟨(QO m.s).name,(QO m.s).kids++[n]⟩
  rw[show (AV.agg [slR (QO m.s).name,slK ((QO m.s).kids++[n])])=Opn.av ⟨(QO m.s).name,(QO m.s).kids++[n]⟩ from rfl,e2,e] at h
  exact h.see [some 0,some 1,some 2,some 3,some 4,some 5] rfl rfl (Nat.le_refl _) (r':=.tup []) rfl (by simp[Qe,Q2N,Q1K]) trivial
 ·intro w0 g0
  unfold obT obM
  have hl:=Q3y m.s
  generalize hp:std=p,hN:Q7 m.n=N,hD:QC m.d=D,hS:Qh m.s=S,hB:Q2 b=B,hR:Q0 t.r=R,hO:Q8 t.off=O,hK:t.kind=K,hM:t.bom=M
  generalize hT:Q5 p tys (cs0) _ _ _ _=T
  cbv at hT
  subst hT
  simp only[Tree.ok,Q1,S0]
  subst hp hN hD hS hB hR hO hK hM
  have e:std.sub (std.len (Qh m.s)) 1=L-1:=by
   show ((Qh m.s).length:Int)-1=L-1
   rw[hl,hL.eq]
  have e2:std.len (Qh m.s)=L:=by
   show ((Qh m.s).length:Int)=L
   rw[hl,hL.eq]
  refine⟨?_,?_,rfl,rfl,?_,rfl⟩
  ·show -9223372036854775808≤std.sub (std.len (Qh m.s)) 1∧std.sub (std.len (Qh m.s)) 1≤9223372036854775807
   have:=hL.eq
   rw[e]
   omega
  ·show 0≤std.sub (std.len (Qh m.s)) 1∧std.sub (std.len (Qh m.s)) 1<std.len (Qh m.s)
   rw[e,e2];omega
  ·show AV.rptr 5 0 (std.sub (std.len (Qh m.s)) 1) 0=_
   rw[e]
 ·have hi:(L-1).toNat=m.s.length-1:=by have:=hL.eq;omega
  rw[hi]
  exact QfD hs
def OT.then (l:List Nat)(t:OT):OT:=match l with
 | []=>t
 |i::r=>.cons i (OT.then r t)
def wrO:OT:=.then [0,1,2,4,5,6,7,8,9,10,11,12,13,14,15,16,17,18,19,20,21] (.fork (.of [3,22,23,24,25,26]) (.cons 22 (.fork (.of [3,23,24,25,26]) (.of [23,3,24,25,26]))))
theorem Q8L (t:Txt)(b:List UInt8)(rt:Int)(m:Mk)(hd:m.d.length≤1000000)(c f u:Int)(hf:0≤f∧f<t.off.length)(hu:0≤u∧u<t.off.length) :
  BCall prog 53 [.box 0 0,.val (.int .i64 c),.val (.int .i64 f),.val (.int .i64 u)] (obT 0 t b rt m) (.tup []) (obT 1 t b rt (QP t c f u m)):=by
 have olen:=Q26 t.off
 have af:=Q2r (l:=t.off) (i:=f) hf.1 hf.2
 have au:=Q2r (l:=t.off) (i:=u) hu.1 hu.2
 have dlen:=Q8T m.d
 unfold obT obM
 refine fnO false (cs:=cs0) (ord:=fun id=>match id with|1=> wrO|_=>.nil) func53 rfl (by kernel_rfl) ?_
 intro w0 g0
 generalize hp:std=p,hN:Q7 m.n=N,hD:QC m.d=D,hS:Qh m.s=S,hB:Q2 b=B,hR:Q0 t.r=R,hO:Q8 t.off=O,hK:t.kind=K,hM:t.bom=M
 generalize hT:Q5 p tys (cs0) _ _ _ _=T
 cbv at hT
 subst hT
 simp only[Tree.ok,Q1,S0]
 subst hp hN hD hS hB hR hO hK hM
 have ef:(Q8 t.off).getD f.toNat .dead=.val (.int .i64 (Q1x t f)):=by rw[List.getD_eq_getElem?_getD];exact af
 have eu:(Q8 t.off).getD u.toNat .dead=.val (.int .i64 (Q1x t u)):=by rw[List.getD_eq_getElem?_getD];exact au
 have hb:∀ x,std.bnd (QC m.d) [x]:=fun x=>by show (QC m.d).length+1≤1000000000;omega
 have fin:∀ x,x=AV.agg [.val (.int .i64 (Q1x t f)),.val (.int .i64 (Q1x t u)),.val (.int .i64 c)]→std.app (QC m.d) [x]=QC (QP t c f u m).d:=fun x hx=>by
  rw[hx]
  show QC m.d++_=List.map _ (_++_)
  rw[List.map_append];rfl
 have fin2:=fin _ (show AV.agg [.val (.int .i64 (std.int (std.nth (std.cel (std.at_ (Q8 t.off) f)) 0))),.val (.int .i64 (std.int (std.nth (std.cel (std.at_ (Q8 t.off) u)) 0))),.val (.int .i64 c)]=_ by
  show AV.agg [.val (.int .i64 (intOf ((((Q8 t.off).getD f.toNat .dead).cells).getD 0 .dead))),.val (.int .i64 (intOf ((((Q8 t.off).getD u.toNat .dead).cells).getD 0 .dead))),.val (.int .i64 c)]=_
  rw[ef,eu];rfl)
 have hc:∀ x:Int,(Q8 t.off).getD x.toNat .dead=.val (.int .i64 (Q1x t x))→std.all [std.hasI .i64 (std.nth (std.cel (std.at_ (Q8 t.off) x)) 0)]:=fun x hx=>by
  show (((Q8 t.off).getD x.toNat .dead).cells).getD 0 .dead=.val (.int .i64 (intOf ((((Q8 t.off).getD x.toNat .dead).cells).getD 0 .dead)))∧True
  rw[hx];exact⟨rfl,trivial⟩
 have hin:∀ x:Int,0≤x∧x<t.off.length→std.inb x (std.len (Q8 t.off)):=fun x hx=>by
  show 0≤x∧x<((Q8 t.off).length:Int)
  rw[olen];exact hx
 refine⟨hin f hf,hc f ef,hin u hu,hc u eu,⟨hb _,?_⟩,⟨hb _,?_⟩,hb _,?_⟩
 all_goals
  refine⟨[some 0,some 1,some 2,some 3,some 4,some 5],.tup [],_,rfl,rfl,Nat.le_refl _,rfl,?_,trivial⟩
  simp[Qe]
  exact⟨rfl,fin2,rfl⟩
def Qmd (p:Pr)(sl:Int→Int→List AV)(lf:Int→List AV→List AV→List AV):Nat→List AV→List Ob→Option (AV×List Ob):=fun f args ob=>match f,args with
 |81,[.agg _,.slc 1 _,.val (.int .i64 i),.val (.int .i64 j)]=>some (.slc 1 (sl i j),[])
 |14,[.box 0 0,.val (.int .i64 k),.slc 1 bs]=>match ob with
  | [.box [.row 1 0],.row 91 6 false 0 N]=>some (.val (.int .i64 (p.len N)),[.box [.row 1 1],.row 91 6 false 1 (lf k bs N)])
  |_=>none
 |_,_=>none
def slA (t:Txt)(b:List UInt8)(i j:Int):List AV:=Q2 (Q13 t b i j)
def lfA (k:Int)(bs N:List AV):List AV:=N++[(Qu k (bs.map Q2S)).av]
theorem QdS (k:Int)(bs:List UInt8)(l:List Node):lfA k (Q2 bs) (Q7 l)=Q7 (l++[Qu k bs]):=by
 rw[lfA,Q3e];simp[Q7]
theorem QaF (t:Txt)(b:List UInt8)(i j:Int):(Q13 t b i j).length≤b.length:=by
 rw[Q13,List.length_take,List.length_drop];omega
theorem Q9A (t:Txt)(b:List UInt8)(hb:b.length≤1000000)(ok:TxtOk t b)(hrl:t.r.length≤1000000)(rt:Int)(m:Mk)(hn:m.n.length≤1000000)(kind f u:Int)(wh:Bool)(hf:0≤f)(hu:f≤u)(hl:u≤t.r.length) :
  BCall prog 58 [.box 0 0,.agg [.val (.int .i64 kind),.val (.int .i64 f),.val (.int .i64 u),.val (.bool wh)]] (obT 0 t b rt m) (.val (.int .i64 m.n.length)) (obT 1 t b rt (Q29 t b kind f u m)):=by
 have cS:=Ql6 t b hb ok hrl f u hf hu hl
 have cL:=Qjn m.n (by omega) kind (Q13 t b f u) (by have:=QaF t b f u;omega)
 rw[←QdS] at cL
 have e3:Q7 (Q29 t b kind f u m).n=lfA kind (slA t b f u) (Q7 m.n):=(QdS _ _ _).symm
 unfold obT obM
 rw[e3]
 clear hl
 refine fnN (cs:=Qmd std (slA t b) lfA) func58 rfl (by kernel_rfl) ?_
 intro w0 g0
 generalize hp:std=p,hsl:slA t b=sl,hlf:lfA=lf,hN:Q7 m.n=N,hD:QC m.d=D,hS:Qh m.s=S,hB:Q2 b=B,hR:Q0 t.r=R,hO:Q8 t.off=O,hK:t.kind=K,hM:t.bom=M
 generalize hT:Q5 p tys (Qmd p sl lf) _ _ _ _=T
 cbv at hT
 subst hT
 simp only[Tree.ok,Q1,S0]
 subst hp hsl hlf hN hD hS hB hR hO hK hM
 exact⟨cS,by rw[←Q1g] at cL;exact cL,
  [some 0,some 1,some 2,some 3,some 4,some 5],.val (.int .i64 m.n.length),_,rfl,rfl,Nat.le_of_ble_eq_true rfl,rfl,by simp[Qe,std,Q7,Q29,Q1J],.inl rfl⟩
theorem QgP:∀ (n:Nat) (r:List Int) (at_:Int) (first:Bool),r.length≤n→(QD at_ first r).length≤r.length:=by
 intro n
 induction n with
 |zero =>
  intro r at_ first h
  have:r=[]:=List.eq_nil_of_length_eq_zero (by omega)
  rw[this,QD,dif_pos rfl]
  exact Nat.le_refl _
 |succ n ih =>
  intro r at_ first h
  by_cases hr:r=[]
  ·rw[hr,QD,dif_pos rfl];exact Nat.le_refl _
  ·have hn:=Q39 r first hr
   rw[QD,dif_neg hr,List.length_cons]
   have:=ih (r.drop (Qp r first).2.toNat) (at_+(Qp r first).2) false (by rw[List.length_drop];omega)
   rw[List.length_drop] at this
   omega
theorem Q9R (l:List Int)(f u:Int):(QU l f u).length≤l.length:=by
 have:=QgP _ ((l.take u.toNat).drop f.toNat) f true (Nat.le_refl _)
 rw[List.length_drop,List.length_take] at this
 show (QD _ _ _).length≤_
 omega
theorem QaP (l:List Int)(f u:Int)(h0:0≤f)(h1:f≤u)(h2:u≤l.length):∀ x∈QU l f u,f≤x.from_∧x.from_<x.to∧x.to≤u:=fun x hx=>by
 have:=Q7l [] _ ((l.take u.toNat).drop f.toNat) f true (Nat.le_refl _) x hx
 rw[List.length_drop,List.length_take] at this
 omega
theorem Qe3 (ps:List TPart):(Q1j ps).name=Ql∨(Q1j ps).name=ps[1]?.getD Ql:=by
 unfold Q1j
 split
 ·simp only
  split
  ·exact .inr rfl
  ·exact .inr rfl
 ·exact .inl rfl
theorem Qfh (l:List Int)(f u:Int)(h0:0≤f)(h1:f≤u)(h2:u≤l.length):0≤(QR l f u).name.from_∧(QR l f u).name.from_≤(QR l f u).name.to∧(QR l f u).name.to≤l.length:=by
 rcases Qe3 (QU l f u) with h|h
 ·rw[QR,h];exact⟨Int.le_refl _,Int.le_refl _,by show (0:Int)≤_;omega⟩
 ·rw[QR,h]
  cases hi:(QU l f u)[1]? with
  |none=>exact⟨Int.le_refl _,Int.le_refl _,by show (0:Int)≤_;omega⟩
  |some x =>
   have:=QaP l f u h0 h1 h2 x (List.mem_of_getElem? hi)
   show 0≤x.from_∧x.from_≤x.to∧x.to≤(l.length:Int)
   omega
theorem Qia (l:List Int)(hl:l.length≤1000000)(f u:Int)(h0:0≤f)(h1:f≤u)(h2:u≤l.length) :
  BCall prog 54 [.slc 1 (Q0 l),.val (.int .i64 f),.val (.int .i64 u)] [] (.agg [.val (.int .i64 (QR l f u).name.kind),.val (.int .i64 (QR l f u).name.from_),.val (.int .i64 (QR l f u).name.to),.slc 9 (QI (QR l f u).attrs),.val (.bool (QR l f u).right),.val (.bool (QR l f u).empty)]) []:=by
 have hpl:=Q9R l f u
 have hsm:QcS (QU l f u):=fun x hx=>by have:=QaP l f u h0 h1 h2 x hx;omega
 cases hop:QM (QU l f u) 0 [1,2] with
 |false =>
  have e:QR l f u=⟨Ql,[],false,false⟩:=by rw[QR,Q1j,if_neg (by rw[hop];decide)]
  rw[e]
  exact Qgd l (by omega) f u h0 h1 h2 _ rfl (by omega) hop
 |true =>
  cases hcl:QM (QU l f u) (Q3K (QU l f u) (QE (QU l f u) ((QU l f u).length+1) 2).2 3).toNat [6] with
  |false=>exact Qgs l (by omega) f u h0 h1 h2 _ rfl (by omega) hsm hop hcl
  |true=>exact Qhj l (by omega) f u h0 h1 h2 _ rfl (by omega) hsm hop hcl
def QmV (rk rf ru:Int→Int→Int)(ra:Int→Int→List AV)(rr re:Int→Int→Bool):Nat→List AV→List Ob→Option (AV×List Ob):=fun f args _=>match f,args with
 |54,[.slc 1 _,.val (.int .i64 f),.val (.int .i64 u)]=>some (.agg [.val (.int .i64 (rk f u)),.val (.int .i64 (rf f u)),.val (.int .i64 (ru f u)),.slc 9 (ra f u),.val (.bool (rr f u)),.val (.bool (re f u))],[])
 |_,_=>none
def rdk (l:List Int)(f u:Int):Int:=(QR l f u).name.kind
def rdf (l:List Int)(f u:Int):Int:=(QR l f u).name.from_
def rdu (l:List Int)(f u:Int):Int:=(QR l f u).name.to
def rda (l:List Int)(f u:Int):List AV:=QI (QR l f u).attrs
def rdr (l:List Int)(f u:Int):Bool:=(QR l f u).right
def rde (l:List Int)(f u:Int):Bool:=(QR l f u).empty
def nmO:OT:=.then [0,1,2,3,4,5,6,7,8,9,10,11] (.fork (.of [12,13,14,15]) (.of [14,12,13,15]))
theorem Qeu (t:Txt)(b:List UInt8)(hrl:t.r.length≤1000000)(rt:Int)(m:Mk)(kind f u:Int)(wh:Bool)(hf:0≤f)(hu:f≤u)(hl:u≤t.r.length) :
  BCall prog 55 [.box 0 0,.agg [.val (.int .i64 kind),.val (.int .i64 f),.val (.int .i64 u),.val (.bool wh)]] (obT 0 t b rt m) (.slc 1 (Q0 (Qo t f u))) (obT 0 t b rt m):=by
 have cR:=Qia t.r hrl f u hf hu hl
 have hin:=Qfh t.r f u hf hu hl
 have rlen:=Qi t.r
 unfold obT obM
 refine fnO false (cs:=QmV (rdk t.r) (rdf t.r) (rdu t.r) (rda t.r) (rdr t.r) (rde t.r)) (ord:=fun id=>match id with|1=> nmO|_=>.nil) func55 rfl (by kernel_rfl) ?_
 intro w0 g0
 generalize hp:std=p,hrk:rdk t.r=rk,hrf:rdf t.r=rf,hru:rdu t.r=ru,hra:rda t.r=ra,hrr:rdr t.r=rr,hre:rde t.r=re,hN:Q7 m.n=N,hD:QC m.d=D,hS:Qh m.s=S,hB:Q2 b=B,hR:Q0 t.r=R,hO:Q8 t.off=O,hK:t.kind=K,hM:t.bom=M
 generalize hT:Q5 p tys (QmV rk rf ru ra rr re) _ _ _ _=T
 cbv at hT
 subst hT
 simp only[Tree.ok,Q1,S0]
 subst hp hrk hrf hru hra hrr hre hN hD hS hB hR hO hK hM
 have hcut:std.cutok (rdf t.r f u) (rdu t.r f u) (std.len (Q0 t.r)):=by
  show 0≤(QR t.r f u).name.from_∧(QR t.r f u).name.from_≤(QR t.r f u).name.to∧(QR t.r f u).name.to≤((Q0 t.r).length:Int)
  rw[rlen];exact hin
 have hres:std.cut (Q0 t.r) (rdf t.r f u) (rdu t.r f u)=Q0 (Qo t f u):=by
  show ((Q0 t.r).drop (rdf t.r f u).toNat).take _=_
  simp only[Q0,Qo,List.map_take,List.map_drop];rfl
 refine⟨⟨cR,hcut,?_⟩,cR,hcut,?_⟩
 all_goals
  exact⟨[some 0,some 1,some 2,some 3,some 4,some 5],.slc 1 (Q0 (Qo t f u)),_,rfl,rfl,Nat.le_of_ble_eq_true rfl,rfl,by simp[Qe];exact hres,.inl rfl⟩
def kdA (n:Int)(S:List AV):List AV:=Qh (Q1K n (QiS S))
theorem Q93 (n:Int)(s:List Opn):kdA n (Qh s)=Qh (Q1K n s):=by rw[kdA,Qbb]
def brA (k:Int)(ks N:List AV):List AV:=N++[(Q1e (QeA N) k (ks.map intOf)).av]
theorem QbY (k:Int)(ks:List Int)(l:List Node):brA k (Q8 ks) (Q7 l)=Q7 (l++[Q1e l k ks]):=by
 rw[brA,Q9n,Q8k];simp[Q7]
def Qmp (p:Pr)(kd:Int→List AV→List AV)(br:Int→List AV→List AV→List AV):Nat→List AV→List Ob→Option (AV×List Ob):=fun f args ob=>match f,args with
 |13,[.box 0 0,.val (.int .i64 n)]=>Q3t ob fun b k m r o rt N D S=>some (.tup [],obM 1 b k m r o rt N D (kd n S))
 |32,[.box 0 0,.val (.int .i64 k),.slc 1 ks]=>match ob with
  | [.box [.row 1 0],.row 91 6 false 0 N]=>some (.tup [.val (.int .i64 (p.len N)),.val (.int .i64 0)],[.box [.row 1 1],.row 91 6 false 1 (br k ks N)])
  |_=>none
 |_,_=>none
theorem Q4A (n:Int)(s:List Opn):(Q1K n s).length=s.length:=by simp[Q1K]
theorem Ql7 (n:Int){s:List Opn}(h:1≤s.length):QO (Q1K n s)=⟨(QO s).name,(QO s).kids++[n]⟩:=by
 have h1:s.length-1<(s.set (s.length-1) ⟨(QO s).name,(QO s).kids++[n]⟩).length:=by rw[List.length_set];omega
 have h2:s.length-1<s.length:=by omega
 show ((s.set (s.length-1) ⟨(QO s).name,(QO s).kids++[n]⟩)[(s.set (s.length-1) _).length-1]?).getD _=_
 rw[List.length_set,List.getElem?_set_self h2];rfl
structure ArOk (l:List Node):Prop where
 w:∀ n,0≤QT l n
 c:∀ n,0≤Q2m l n∧Q2m l n≤2147483647
theorem Qj8 (t:Txt)(b:List UInt8)(rt:Int)(m:Mk)(hs:2≤m.s.length)(hn:m.s.length≤1000000)(hk:∀ x∈m.s,x.kids.length≤1000000)(hN:m.n.length≤1000000)(ar:ArOk m.n)(last:Int)
  (hl:∀ k∈(QO m.s).kids++[last],0≤k∧k<m.n.length) (hsum:Q1Z m.n ((QO m.s).kids++[last])≤2147483647) :
  BCall prog 59 [.box 0 0,.val (.int .i64 last)] (obT 0 t b rt m) (.tup []) (obT 1 t b rt (Q1I last m)):=by
 obtain⟨L,hL⟩:=Qy m.s
 obtain⟨m1,hm1⟩:=exq (Q2N last m)
 have hs1:m1.s=Q1K last m.s:=by rw[hm1];rfl
 have hl1:m1.s.length=m.s.length:=by rw[hs1,Q4A]
 have ht1:QO m1.s=⟨(QO m.s).name,(QO m.s).kids++[last]⟩:=by rw[hs1];exact Ql7 last (by omega)
 have mem:∀ i,i<m.s.length→(m.s[i]?.getD ⟨[],[]⟩).kids.length≤1000000:=fun i h=>by
  have:m.s[i]?.getD ⟨[],[]⟩∈m.s:=by
   rw[List.getElem?_eq_getElem h];exact List.getElem_mem h
  exact hk _ this
 have c1:=Q9W t b rt m (by omega) hn (mem _ (by omega)) last
 have c2:=QcF m.n (by omega) 21 ((QO m.s).kids++[last]) (by have:=mem (m.s.length-1) (by omega);simp only[List.length_append,List.length_singleton];show ((m.s[m.s.length-1]?).getD ⟨[],[]⟩).kids.length+1≤_;omega) hl ar.w ar.c hsum
 rw[←QbY,←Q1g] at c2
 obtain⟨m2,hm2⟩:=exq (Q1J (Q1e m.n 21 ((QO m.s).kids++[last])) (QmM m1))
 have hE:Q1I last m=Q2N m.n.length m2:=by
  rw[hm2,←(show (QO m1.s).kids=(QO m.s).kids++[last] by rw[ht1]),hm1];rfl
 have hs2:m2.s=m1.s.take (m1.s.length-1):=by rw[hm2];rfl
 have c3:=Q9W t b rt m2 (by rw[hs2,List.length_take];omega) (by rw[hs2,List.length_take];omega) (by
  have h1:m2.s.length-1<m.s.length-1:=by rw[hs2,List.length_take];omega
  show ((m2.s[m2.s.length-1]?).getD ⟨[],[]⟩).kids.length≤_
  have h2:∀ j,j<m.s.length-1→m2.s[j]?=m.s[j]?:=fun j hj=>by
   rw[hs2,List.getElem?_take,if_pos (by omega),hs1,Q1K,List.getElem?_set_ne (by omega)]
  rw[h2 _ h1]
  exact mem _ (by omega)) m.n.length
 rw[hE]
 clear hl hsum
 unfold obT obM
 refine fnN (cs:=Qmp std kdA brA) func59 rfl (by kernel_rfl) ?_
 intro w0 g0
 generalize hp:std=p,hkd:kdA=kd,hbr:brA=br,hN:Q7 m.n=N,hD:QC m.d=D,hS:Qh m.s=S,hB:Q2 b=B,hR:Q0 t.r=R,hO:Q8 t.off=O,hK:t.kind=K,hM:t.bom=M
 generalize hT:Q5 p tys (Qmp p kd br) _ _ _ _=T
 cbv at hT
 subst hT
 simp only[Tree.ok,Q1,S0]
 subst hp hkd hbr hN hD hS hB hR hO hK hM
 have hi:(((Qh m1.s).length:Int)-1).toNat=m1.s.length-1:=by rw[Q3y];omega
 have he:(List.drop 1 ((Qh m1.s).getD (((Qh m1.s).length:Int)-1).toNat AV.dead).cells).getD 0 AV.dead=.slc 1 (Q8 ((QO m.s).kids++[last])):=by
  have e:(Qh m1.s).getD (m1.s.length-1) AV.dead=(QO m1.s).av:=by rw[List.getD_eq_getElem?_getD,QfD (by rw[hl1];omega)];rfl
  rw[hi,e,ht1]
  show slK ((QO m.s).kids++[last])=_
  rw[Qf9,Q4s];rfl
 have hc:List.take (((Qh m1.s).length:Int)-1-0).toNat (List.drop (Int.toNat 0) (Qh m1.s))=Qh m2.s:=by
  rw[Int.sub_zero,hi,hs2]
  simp[Qh,List.map_take]
 have el:=Q3y m1.s
 have eN:Q7 m2.n=brA 21 (Q8 ((QO m.s).kids++[last])) (Q7 m.n):=by rw[hm2,QbY];show Q7 (m1.n++_)=_;rw[hm1];rfl
 have eD:m2.d=m.d:=by rw[hm2,hm1];rfl
 have eS:(Q2N (m.n.length:Int) m2).s=Q1K m.n.length m2.s:=rfl
 unfold obT obM at c1 c3
 rw[eS,show (Q2N (m.n.length:Int) m2).n=m2.n from rfl,show (Q2N (m.n.length:Int) m2).d=m2.d from rfl,eD,eN] at c3
 rw[show (Q2N last m).s=m1.s by rw[hm1]] at c1
 simp only[Q93,←hs1,std,he,hc,Q2o]
 rw[Q1g] at c2 ⊢
 refine⟨?_,?_,?_,⟨.inl trivial,trivial⟩,?_,c2,?_,?_⟩
 ·exact c1
 ·show (-9223372036854775808:Int)≤_∧_≤(9223372036854775807:Int)
  omega
 ·omega
 ·omega
 ·exact c3
 ·exact⟨[some 0,some 1,some 2,some 3,some 4,some 5],.tup [],_,rfl,rfl,Nat.le_refl _,rfl,by simp[Qe];exact⟨eN.symm,congrArg _ eD.symm,rfl⟩,trivial⟩
def wrA (t:Txt)(c f u:Int)(D:List AV):List AV:=QC (Qlz D++[⟨Q1x t f,Q1x t u,c⟩])
theorem Q9b (t:Txt)(c f u:Int)(d:List Dg):wrA t c f u (QC d)=QC (d++[⟨Q1x t f,Q1x t u,c⟩]):=by rw[wrA,Qd7]
def mkB (N D S:List AV):Mk:=⟨QeA N,Qlz D,QiS S⟩
theorem Q2d (m:Mk):mkB (Q7 m.n) (QC m.d) (Qh m.s)=m:=by rw[mkB,Q9n,Qd7,Qbb]
def Q7h (l:Int)(N D S:List AV):List AV:=Q7 (Q1I l (mkB N D S)).n
def Q72 (l:Int)(N D S:List AV):List AV:=Qh (Q1I l (mkB N D S)).s
theorem Qma (l:Int)(m:Mk):(Q1I l m).d=m.d:=rfl
def QmR (p:Pr)(wr:Int→Int→Int→List AV→List AV)(lf:Int→List AV→List AV→List AV)(sn ss:Int→List AV→List AV→List AV→List AV):Nat→List AV→List Ob→Option (AV×List Ob):=fun f args ob=>match f,args with
 |53,[.box 0 0,.val (.int .i64 c),.val (.int .i64 f),.val (.int .i64 u)]=>Q3t ob fun b k m r o rt N D S=>some (.tup [],obM 1 b k m r o rt N (wr c f u D) S)
 |59,[.box 0 0,.val (.int .i64 n)]=>Q3t ob fun b k m r o rt N D S=>some (.tup [],obM 1 b k m r o rt (sn n N D S) D (ss n N D S))
 |14,[.box 0 0,.val (.int .i64 k),.val (.slice none 0 0)]=>match ob with
  | [.box [.row 1 0],.row 91 6 false 0 N]=>some (.val (.int .i64 (p.len N)),[.box [.row 1 1],.row 91 6 false 1 (lf k [] N)])
  |_=>none
 |_,_=>none
theorem QlY (t:Txt)(b:List UInt8)(rt:Int)(m:Mk)(hd:m.d.length≤1000000)(at_:Int)(ha:0≤at_∧at_<t.off.length)(hs:2≤m.s.length)(hn:m.s.length≤1000000)(hk:∀ x∈m.s,x.kids.length≤1000000)(hN:m.n.length<1000000)(ar:ArOk (m.n++[Qu 22 []]))
  (hl:∀ k∈(QO m.s).kids,0≤k∧k<m.n.length) (hsum:Q1Z (m.n++[Qu 22 []]) ((QO m.s).kids++[(m.n.length:Int)])≤2147483647) :
  BCall prog 31 [.box 0 0,.val (.int .i64 at_)] (obT 0 t b rt m) (.tup []) (obT 1 t b rt (Q2x t at_ m)):=by
 have c1:=Q8L t b rt m hd 4 at_ at_ ha ha
 obtain⟨m1,hm1⟩:=exq (QP t 4 at_ at_ m)
 rw[←hm1] at c1
 have c2:=(Qjn m1.n (by rw[hm1];show m.n.length<_;omega) 22 [] (by simp)).le (args:=[.box 0 0,.val (.int .i64 22),.val (.slice none 0 0)]) ⟨.inl rfl,.inl rfl,.inr (.inl ⟨rfl,_,rfl⟩),trivial⟩
 obtain⟨m2,hm2⟩:=exq (Q1J (Qu 22 []) m1)
 have e2n:m2.n=m.n++[Qu 22 []]:=by rw[hm2,hm1];rfl
 have e2s:m2.s=m.s:=by rw[hm2,hm1];rfl
 have c3:=Qj8 t b rt m2 (by rw[e2s];exact hs) (by rw[e2s];exact hn) (by rw[e2s];exact hk) (by rw[e2n];simp;omega) (by rw[e2n];exact ar) m.n.length (by
  rw[e2n,e2s]
  intro k hk
  rw[List.length_append,List.length_singleton]
  rcases List.mem_append.1 hk with h|h
  ·have:=hl k h;omega
  ·obtain rfl:k=(m.n.length:Int):=by simpa using h
   omega) (by rw[e2n,e2s];exact hsum)
 have hE:Q2x t at_ m=Q1I m.n.length m2:=by rw[hm2,hm1];rfl
 rw[hE]
 clear hl hsum
 unfold obT obM
 refine fnN (cs:=QmR std (wrA t) lfA Q7h Q72) func31 rfl (by kernel_rfl) ?_
 intro w0 g0
 generalize hp:std=p,hwr:wrA t=wr,hlf:lfA=lf,hsn:Q7h=sn,hss:Q72=ss,hN:Q7 m.n=N,hD:QC m.d=D,hS:Qh m.s=S,hB:Q2 b=B,hR:Q0 t.r=R,hO:Q8 t.off=O,hK:t.kind=K,hM:t.bom=M
 generalize hT:Q5 p tys (QmR p wr lf sn ss) _ _ _ _=T
 cbv at hT
 subst hT
 simp only[Tree.ok,Q1,S0]
 subst hp hwr hlf hsn hss hN hD hS hB hR hO hK hM
 have e2d:m2.d=m.d++[⟨Q1x t at_,Q1x t at_,4⟩]:=by rw[hm2,hm1];rfl
 have eL:lfA 22 [] (Q7 m.n)=Q7 m2.n:=by rw[e2n,←QdS];rfl
 have eW:wrA t 4 at_ at_ (QC m.d)=QC m2.d:=by rw[Q9b,e2d]
 have f1:∀ l,Q7h l (Q7 m2.n) (QC m2.d) (Qh m.s)=Q7 (Q1I l m2).n:=fun l=>by rw[Q7h,←e2s,Q2d]
 have f2:∀ l,Q72 l (Q7 m2.n) (QC m2.d) (Qh m.s)=Qh (Q1I l m2).s:=fun l=>by rw[Q72,←e2s,Q2d]
 unfold obT obM at c1 c3
 rw[show m1.n=m.n by rw[hm1];rfl,show m1.s=m.s by rw[hm1];rfl,show m1.d=m2.d by rw[hm2];rfl] at c1
 rw[show m1.n=m.n by rw[hm1];rfl,←e2n] at c2
 rw[e2s,Qma] at c3
 simp only[std,eL,eW,f1,f2,Q1g]
 exact⟨c1,c2,c3,[some 0,some 1,some 2,some 3,some 4,some 5],.tup [],_,rfl,rfl,Nat.le_refl _,rfl,by simp[Qe];rfl,trivial⟩
def lfT (t:Txt)(b:List UInt8)(k f u:Int)(N:List AV):List AV:=N++[(Qu k (Q13 t b f u)).av]
theorem Qa6 (t:Txt)(b:List UInt8)(k f u:Int)(l:List Node):lfT t b k f u (Q7 l)=Q7 (l++[Qu k (Q13 t b f u)]):=by simp[lfT,Q7]
def nmA (t:Txt)(f u:Int):List AV:=Q0 (Qo t f u)
def Qmw (p:Pr)(nm:Int→Int→List AV)(wr:Int→Int→Int→List AV→List AV)(lf:Int→Int→Int→List AV→List AV)(kd:Int→List AV→List AV):Nat→List AV→List Ob→Option (AV×List Ob):=fun f args ob=>match f,args with
 |55,[.box 0 0,.agg [_,.val (.int .i64 f),.val (.int .i64 u),_]]=>some (.slc 1 (nm f u),ob)
 |53,[.box 0 0,.val (.int .i64 c),.val (.int .i64 f),.val (.int .i64 u)]=>Q3t ob fun b k m r o rt N D S=>some (.tup [],obM 1 b k m r o rt N (wr c f u D) S)
 |58,[.box 0 0,.agg [.val (.int .i64 kind),.val (.int .i64 f),.val (.int .i64 u),_]]=>Q3t ob fun b k m r o rt N D S=>some (.val (.int .i64 (p.len N)),obM 1 b k m r o rt (lf kind f u N) D S)
 |13,[.box 0 0,.val (.int .i64 n)]=>Q3t ob fun b k m r o rt N D S=>some (.tup [],obM 1 b k m r o rt N D (kd n S))
 |_,_=>none
structure InT (t:Txt) (f u:Int):Prop where
 h0:0≤f
 h1:f≤u
 h2:u≤t.r.length
structure Sml (t:Txt) (b:List UInt8):Prop where
 hb:b.length≤1000000
 hr:t.r.length≤1000000
 ok:TxtOk t b
theorem InT.off {t:Txt}{b:List UInt8}{f u:Int}(h:InT t f u)(hs:Sml t b):(0≤f∧f<t.off.length)∧0≤u∧u<t.off.length:=by
 have:=hs.ok.len
 have h0:=h.h0
 have h1:=h.h1
 have h2:=h.h2
 omega
structure MkOk (m:Mk):Prop where
 n:m.n.length≤900000
 d:m.d.length≤900000
 s:m.s.length≤900000
 s1:1≤m.s.length
 k:∀ x∈m.s,x.kids.length≤900000
theorem MkOk.top {m:Mk}(h:MkOk m):(QO m.s).kids.length≤900000:=by
 have h1:=h.s1
 have:m.s.length-1<m.s.length:=by omega
 show ((m.s[m.s.length-1]?).getD ⟨[],[]⟩).kids.length≤_
 rw[List.getElem?_eq_getElem this]
 exact h.k _ (List.getElem_mem this)
theorem QjN (t:Txt)(b:List UInt8)(hs:Sml t b)(rt:Int)(m:Mk)(ok:MkOk m)(kind f u:Int)(wh:Bool)(hi:InT t f u)(hne:Qo t f u≠[]) :
  BCall prog 56 [.box 0 0,.agg [.val (.int .i64 kind),.val (.int .i64 f),.val (.int .i64 u),.val (.bool wh)]] (obT 0 t b rt m) (.tup []) (obT 1 t b rt (Q1u t b kind f u m)):=by
 have cN:=Qeu t b hs.hr rt m kind f u wh hi.h0 hi.h1 hi.h2
 have hoff:=hi.off hs
 have hn:=ok.n
 have hd:=ok.d
 have hl:=ok.s
 have hl1:=ok.s1
 have cW:=Q8L t b rt m (by omega) 5 f u hoff.1 hoff.2
 obtain⟨ma,hma⟩:=exq (QP t 5 f u m)
 have cLa:=Q9A t b hs.hb hs.ok hs.hr rt ma (by rw[hma];show m.n.length≤_;omega) kind f u wh hi.h0 hi.h1 hi.h2
 have cKa:=Q9W t b rt (Q29 t b kind f u ma) (by rw[hma];exact hl1) (by rw[hma];show m.s.length≤_;omega) (by rw[hma];have:=ok.top;show (QO m.s).kids.length≤_;omega) m.n.length
 obtain⟨mb,hmb⟩:=exq ({ m with s:=m.s++[⟨Qo t f u,[]⟩] }:Mk)
 have hbs:mb.s=m.s++[⟨Qo t f u,[]⟩]:=by rw[hmb]
 have cLb:=Q9A t b hs.hb hs.ok hs.hr rt mb (by rw[hmb];show m.n.length≤_;omega) kind f u wh hi.h0 hi.h1 hi.h2
 have cKb:=Q9W t b rt (Q29 t b kind f u mb) (by show 1≤mb.s.length;rw[hbs];simp) (by show mb.s.length≤_;rw[hbs];simp;omega) (by show (QO mb.s).kids.length≤_;rw[hbs];simp[QO]) m.n.length
 have hE:Q1u t b kind f u m=if 64<m.s.length then Q2N m.n.length (Q29 t b kind f u ma) else Q2N m.n.length (Q29 t b kind f u mb):=by rw[hma,hmb];rfl
 rw[hE]
 clear hE hoff
 unfold obT obM
 refine fnN (cs:=Qmw std (nmA t) (wrA t) (lfT t b) kdA) func56 rfl (by kernel_rfl) ?_
 intro w0 g0
 generalize hp:std=p,hnm:nmA t=nm,hwr:wrA t=wr,hlf:lfT t b=lf,hkd:kdA=kd,hN:Q7 m.n=N,hD:QC m.d=D,hS:Qh m.s=S,hB:Q2 b=B,hR:Q0 t.r=R,hO:Q8 t.off=O,hK:t.kind=K,hM:t.bom=M
 generalize hT:Q5 p tys (Qmw p nm wr lf kd) _ _ _ _=T
 cbv at hT
 subst hT
 simp only[Tree.ok,Q1,S0]
 subst hp hnm hwr hlf hkd hN hD hS hB hR hO hK hM
 subst hma hmb
 simp only[obT,obM,Q29,Q1J,Q2N,QP] at cN cW cLa cKa cLb cKb
 have eS:Qh m.s++[AV.agg [AV.slc 1 (nmA t f u),AV.val (Value.slice none 0 0)]]=Qh (m.s++[⟨Qo t f u,[]⟩]):=by
  have:slR (Qo t f u)=.slc 1 (nmA t f u):=by
   show slR (Qo t f u)=.slc 1 (Q0 (Qo t f u))
   cases h:Qo t f u with
   |nil=>exact absurd h hne
   |cons x r=>rfl
  rw[←this];simp[Qh,Opn.av,slK,Qct]
 have eb:std.bnd (Qh m.s) [AV.agg [AV.slc 1 (nmA t f u),AV.val (Value.slice none 0 0)]]:=by
  show (Qh m.s).length+1≤1000000000
  rw[Q3y];omega
 refine⟨cN,fun hd=>?_,fun hd=>⟨eb,?_⟩⟩
 ·have hg:64<m.s.length:=by
   have:(64:Int)<((Qh m.s).length:Int):=of_decide_eq_true hd
   rw[Q3y] at this;omega
  simp only[std,Qa6,Q9b,Q93,Q1g,if_pos hg,Q29,Q1J,Q2N,QP]
  exact⟨cW,cLa,cKa,[some 0,some 1,some 2,some 3,some 4,some 5],.tup [],_,rfl,rfl,Nat.le_of_ble_eq_true rfl,rfl,by simp[Qe],trivial⟩
 ·have hg:¬ 64<m.s.length:=by
   have:¬ (64:Int)<((Qh m.s).length:Int):=of_decide_eq_false hd
   rw[Q3y] at this;omega
  simp only[std,eS,Qa6,Q9b,Q93,Q1g,if_neg hg,Q29,Q1J,Q2N,QP]
  exact⟨cLb,cKb,[some 0,some 1,some 2,some 3,some 4,some 5],.tup [],_,rfl,rfl,Nat.le_of_ble_eq_true rfl,rfl,by simp[Qe],trivial⟩
theorem Q2s {l:List Node}{x:Node}{n:Int}(h0:0≤n)(h1:n<l.length):Qj (l++[x]) n=Qj l n:=by
 have h2:n.toNat<l.length:=by omega
 have h3:n<((l++[x]).length:Int):=by simp only[List.length_append,List.length_singleton];omega
 rw[Qj,Qj,if_pos ⟨h0,h3⟩,if_pos ⟨h0,h1⟩,List.getElem?_append_left h2]
theorem Q2a {l:List Node}{x:Node}:Qj (l++[x]) l.length=x:=by
 rw[Qj,if_pos ⟨by omega,by simp only[List.length_append,List.length_singleton];omega⟩,Int.toNat_natCast]
 simp
theorem Q5L {l:List Node}{n:Int}(h:¬ (0≤n∧n<l.length)):Qj l n=Q8q:=by rw[Qj,if_neg h]
theorem Q7F {l:List Node}{x:Node}(n:Int):(0≤n∧n<l.length∧Qj (l++[x]) n=Qj l n)∨(n=l.length∧Qj (l++[x]) n=x)∨Qj (l++[x]) n=Q8q:=by
 by_cases h:0≤n∧n<l.length
 ·exact .inl ⟨h.1,h.2,Q2s h.1 h.2⟩
 ·by_cases h2:n=l.length
  ·subst h2;exact .inr (.inl ⟨rfl,Q2a⟩)
  ·exact .inr (.inr (Q5L (by simp;omega)))
def InR (l:List Node)(ks:List Int):Prop:=∀ k∈ks,0≤k∧k<l.length
theorem InR.more {l:List Node}{ks:List Int}(h:InR l ks)(x:Node):InR (l++[x]) ks:=fun k hk=>by have:=h k hk;simp;omega
theorem Q9g {l:List Node}(h:Wf l){x:Node}(hx:InR l x.kids):Wf (l++[x]):=fun n h0 h1 k hk=>by
 rcases Q7F (l:=l) (x:=x) n with ⟨h2,h3,h4⟩|⟨h2,h4⟩|h4
 ·rw[h4] at hk;exact h n h2 h3 k hk
 ·rw[h4] at hk;rw[h2];exact hx k hk
 ·rw[h4] at hk;cases hk
theorem QeL {l:List Node}(h:Wf l)(x:Node):∀ (f:Nat) (n:Int),0≤n→n<l.length→prF (l++[x]) f n=prF l f n
 |0,_,_,_=>rfl
 |f+1,n,h0,h1=>by
  simp only[prF,Q2s h0 h1]
  congr 1
  refine congrArg List.flatten (List.map_congr_left fun k hk=>?_)
  have:=h n h0 h1 k hk
  exact QeL h x f k this.1 (by omega)
theorem Q9r {l:List Node}(h:Wf l)(x:Node){n:Int}(h0:0≤n)(h1:n<l.length):pr (l++[x]) n=pr l n:=QeL h x _ n h0 h1
theorem Q6o {l:List Node}(h:Wf l)(x:Node){ks:List Int}(hk:InR l ks):ks.flatMap (pr (l++[x]))=ks.flatMap (pr l) :=
 congrArg List.flatten (List.map_congr_left fun k hk'=>Q9r h x (hk k hk').1 (hk k hk').2)
theorem Qbn {l:List Node}(h:Wf l){x:Node}(hx:InR l x.kids):pr (l++[x]) l.length=x.b++x.kids.flatMap (pr l):=by
 rw[Qfd (Q9g h hx) (by omega) (by simp only[List.length_append,List.length_singleton];omega),Q2a,Q6o h x hx]
theorem Qdl {l:List Node}(h:Wf l)(hw:QgH l){x:Node}(hx:InR l x.kids)(hxw:x.width=(x.b++x.kids.flatMap (pr l)).length):QgH (l++[x]):=fun n h0 h1=>by
 rcases Q7F (l:=l) (x:=x) n with ⟨h2,h3,h4⟩|⟨h2,h4⟩|h4
 ·rw[h4,Q9r h x h2 h3];exact hw n h2 h3
 ·rw[h4,h2,Qbn h hx];exact hxw
 ·have h1:n<((l++[x]).length:Int):=h1
  by_cases h2:n<l.length
  ·rw[Q2s h0 h2] at h4
   rw[Q2s h0 h2,Q9r h x h0 h2];exact hw n h0 h2
  ·have h3:n=l.length:=by simp at h1;omega
   subst h3
   rw[Q2a,Qbn h hx];exact hxw
theorem Qhh {l:List Node}(h:ArOk l){x:Node}(hw:0≤x.width)(hc:0≤x.count∧x.count≤2147483647):ArOk (l++[x]):=by
 refine⟨fun n=>?_,fun n=>?_⟩
 ·rw[QT]
  rcases Q7F (l:=l) (x:=x) n with ⟨_,_,h4⟩|⟨_,h4⟩|h4
  ·rw[h4];exact h.w n
  ·rw[h4];exact hw
  ·rw[h4];exact Int.le_refl _
 ·rw[Q2m]
  rcases Q7F (l:=l) (x:=x) n with ⟨_,_,h4⟩|⟨_,h4⟩|h4
  ·rw[h4];exact h.c n
  ·rw[h4];exact hc
  ·rw[h4];exact⟨Int.le_refl _,by show (0:Int)≤_;omega⟩
structure Ar (l:List Node):Prop where
 wf:Wf l
 wide:QgH l
 ok:ArOk l
theorem QlX:Ar []:=⟨fun n h0 h1=>by simp at h1;omega,fun n h0 h1=>by simp at h1;omega,⟨fun n=>by rw[QT,Q5L (fun h=>by simp at h;omega)];exact Int.le_refl _,fun n=>by rw[Q2m,Q5L (fun h=>by simp at h;omega)];exact⟨Int.le_refl _,by show (0:Int)≤_;omega⟩⟩⟩
theorem Q3w {l:List Node}(h:Ar l)(k:Int)(bs:List UInt8):Ar (l++[Qu k bs])∧pr (l++[Qu k bs]) l.length=bs:=by
 have hx:InR l (Qu k bs).kids:=fun k hk=>by cases hk
 refine⟨⟨Q9g h.wf hx,Qdl h.wf h.wide hx (by simp[Qu]),Qhh h.ok (by show (0:Int)≤(bs.length:Int);omega) (by show (0:Int)≤1∧(1:Int)≤_;omega)⟩,?_⟩
 rw[Qbn h.wf hx]
 simp[Qu]
theorem Q7T {l:List Node}(hw:QgH l):∀ {ks:List Int},InR l ks→Q1Z l ks=(ks.flatMap (pr l)).length
 | [],_=>rfl
 |k::r,hk=>by
  have ih:=Q7T hw (ks:=r) (fun x hx=>hk x (List.mem_cons_of_mem _ hx))
  have h1:=hk k (List.mem_cons_self ..)
  have h2:=hw k h1.1 h1.2
  simp only[Q1Z,List.map_cons,List.sum_cons,List.flatMap_cons,List.length_append] at ih ⊢
  rw[QT,h2,ih];omega
theorem Q6M {l:List Node}(h:Ar l)(k:Int){ks:List Int}(hk:InR l ks):Ar (l++[Q1e l k ks])∧pr (l++[Q1e l k ks]) l.length=ks.flatMap (pr l):=by
 have hx:InR l (Q1e l k ks).kids:=hk
 refine⟨⟨Q9g h.wf hx,Qdl h.wf h.wide hx ?_,Qhh h.ok (Q5b h.ok.w ks) (Q7Z h.ok.c ks)⟩,?_⟩
 ·show Q1Z l ks=(([]:List UInt8)++ks.flatMap (pr l)).length
  rw[List.nil_append];exact Q7T h.wide hk
 ·rw[Qbn h.wf hx];rfl
theorem Q7A (s:List Opn)(x:Opn):QO (s++[x])=x:=by simp[QO]
theorem Q1T (n:Int)(s:List Opn)(x:Opn):Q1K n (s++[x])=s++[⟨x.name,x.kids++[n]⟩]:=by
 rw[Q1K,Q7A]
 simp
theorem Q25 {s:List Opn}(h:1≤s.length):∃ s0,s=s0++[QO s]:=by
 refine⟨s.dropLast,?_⟩
 have hne:s≠[]:=by rintro rfl;simp at h
 have h2:QO s=s.getLast hne:=by
  rw[QO,List.getLast_eq_getElem,List.getElem?_eq_getElem (by omega)];rfl
 rw[h2];exact (List.dropLast_concat_getLast hne).symm
def prK (l:List Node)(s:List Opn):List UInt8:=s.flatMap fun x=>x.kids.flatMap (pr l)
def Q5I (s:List Opn):Nat:=(s.map fun x=>x.kids.length).sum
structure MkInv (m:Mk) (X:List UInt8) (B D:Nat):Prop where
 ar:Ar m.n
 rng:∀ x∈m.s,InR m.n x.kids
 p:prK m.n m.s=X
 s1:1≤m.s.length
 n:m.n.length+2 * m.s.length≤B
 d:m.d.length+2 * m.s.length≤D
 k:Q5I m.s+2 * m.s.length≤B
 nm:∀ x∈m.s,x.name.length≤1000000
theorem QkW {s:List Opn}{x:Opn}(h:x∈s):x.kids.length≤Q5I s:=by
 induction s with
 |nil=>cases h
 |cons y r ih =>
  simp only[Q5I,List.map_cons,List.sum_cons] at ih ⊢
  rcases List.mem_cons.1 h with rfl|h
  ·omega
  ·have:=ih h;omega
theorem MkInv.ok {m:Mk}{X:List UInt8}{B D:Nat}(h:MkInv m X B D)(hB:B≤900000)(hD:D≤900000):MkOk m :=
 ⟨by have:=h.n;omega,by have:=h.d;omega,by have:=h.n;omega,h.s1,fun x hx=>by have:=h.k;have:=QkW hx;omega⟩
theorem Q1L {m:Mk}{X:List UInt8}{B D:Nat}(h:MkInv m X B D)(t:Txt)(c f u:Int):MkInv (QP t c f u m) X B (D+1) :=
 ⟨h.ar,h.rng,h.p,h.s1,by have:=h.n;show m.n.length+2 * m.s.length≤_;omega,by have:=h.d;show (m.d++_).length+2 * m.s.length≤_;simp;omega,by have:=h.k;show Q5I m.s+2 * m.s.length≤_;omega,h.nm⟩
theorem Qbp {l:List Node}(h:Wf l)(x:Node){s:List Opn}(hs:∀ y∈s,InR l y.kids):prK (l++[x]) s=prK l s :=
 congrArg List.flatten (List.map_congr_left fun y hy=>Q6o h x (hs y hy))
theorem Q6r (l:List Node)(s:List Opn)(x:Opn):prK l (s++[x])=prK l s++x.kids.flatMap (pr l):=by simp[prK]
theorem Q3n (s:List Opn)(x:Opn):Q5I (s++[x])=Q5I s+x.kids.length:=by simp[Q5I]
theorem QfI {m:Mk}{X:List UInt8}{B D:Nat}(h:MkInv m X B D){x:Node}{Y:List UInt8}(ha:Ar (m.n++[x]))(hp:pr (m.n++[x]) m.n.length=Y):MkInv (Q2N m.n.length (Q1J x m)) (X++Y) (B+1) D:=by
 obtain⟨s0,hs0⟩:=Q25 h.s1
 generalize QO m.s=y at hs0
 have e:(Q2N m.n.length (Q1J x m)).s=s0++[⟨y.name,y.kids++[(m.n.length:Int)]⟩]:=by
  show Q1K m.n.length m.s=_
  rw[hs0,Q1T]
 have en:(Q2N m.n.length (Q1J x m)).n=m.n++[x]:=rfl
 have hr:=h.rng
 rw[hs0] at hr
 have hr0:∀ z∈s0,InR m.n z.kids:=fun z hz=>hr z (List.mem_append_left _ hz)
 have hry:InR m.n y.kids:=hr y (by simp)
 have h1:=h.n
 have h2:=h.d
 have h3:=h.k
 have h4:=h.p
 rw[hs0] at h1 h2 h3 h4
 rw[Q3n] at h3
 rw[Q6r] at h4
 simp only[List.length_append,List.length_singleton] at h1 h2 h3
 have hnm:=h.nm
 rw[hs0] at hnm
 refine⟨by rw[en];exact ha,fun z hz=>?_,?_,by rw[e];simp,?_,?_,?_,fun z hz=>?_⟩
 ·rw[en]
  rw[e] at hz
  rcases List.mem_append.1 hz with hz|hz
  ·exact (hr0 z hz).more x
  ·obtain rfl:z=⟨y.name,y.kids++[(m.n.length:Int)]⟩:=by simpa using hz
   intro k hk
   rcases List.mem_append.1 hk with hk|hk
   ·exact hry.more x k hk
   ·obtain rfl:k=(m.n.length:Int):=by simpa using hk
    simp;omega
 ·rw[e,en,Q6r,Qbp h.ar.wf x hr0]
  simp only[List.flatMap_append,List.flatMap_cons,List.flatMap_nil,List.append_nil]
  rw[Q6o h.ar.wf x hry,hp,←List.append_assoc,h4]
 ·rw[e,en];simp only[List.length_append,List.length_singleton];omega
 ·rw[e];show m.d.length+_≤_;simp only[List.length_append,List.length_singleton];omega
 ·rw[e,Q3n];simp only[List.length_append,List.length_singleton];omega
 ·rw[e] at hz
  rcases List.mem_append.1 hz with hz|hz
  ·exact hnm z (List.mem_append_left _ hz)
  ·obtain rfl:z=⟨y.name,y.kids++[(m.n.length:Int)]⟩:=by simpa using hz
   exact hnm y (by simp)
theorem Qa0 {m:Mk}{X:List UInt8}{B D:Nat}(h:MkInv m X B D)(t:Txt)(b:List UInt8)(kind f u:Int):MkInv (lkF t b kind f u m) (X++Q13 t b f u) (B+1) D :=
 QfI h (Q3w h.ar kind _).1 (Q3w h.ar kind _).2
theorem Qda {m:Mk}{X:List UInt8}{B D:Nat}(h:MkInv m X B D)(nm:List Int)(hnm:nm.length≤1000000):MkInv { m with s:=m.s++[⟨nm,[]⟩] } X (B+2) (D+2):=by
 have h1:=h.n
 have h2:=h.d
 have h3:=h.k
 refine⟨h.ar,fun z hz=>?_,?_,by simp,?_,?_,?_,fun z hz=>?_⟩
 ·rcases List.mem_append.1 hz with hz|hz
  ·exact h.rng z hz
  ·obtain rfl:z=⟨nm,[]⟩:=by simpa using hz
   intro k hk;cases hk
 ·rw[Q6r];simpa using h.p
 ·simp only[List.length_append,List.length_singleton];omega
 ·simp only[List.length_append,List.length_singleton];omega
 ·rw[Q3n];simp only[List.length_append,List.length_singleton,List.length_nil];omega
 ·rcases List.mem_append.1 hz with hz|hz
  ·exact h.nm z hz
  ·obtain rfl:z=⟨nm,[]⟩:=by simpa using hz
   exact hnm
theorem Q9f {m:Mk}{X:List UInt8}{B D:Nat}(h:MkInv m X B D)(hs:2≤m.s.length)(kind:Int)(bs:List UInt8){D':Nat}(hD:D≤D'+2):MkInv (Q1I m.n.length (Q1J (Qu kind bs) m)) (X++bs) B D'∧(Q1I m.n.length (Q1J (Qu kind bs) m)).s.length=m.s.length-1 ∧
  InR (m.n++[Qu kind bs]) ((QO m.s).kids++[(m.n.length:Int)])∧(((QO m.s).kids++[(m.n.length:Int)]).flatMap (pr (m.n++[Qu kind bs]))).length≤X.length+bs.length:=by
 obtain⟨s1,hs1⟩:=Q25 h.s1
 generalize QO m.s=x at hs1
 have hl1:1≤s1.length:=by rw[hs1] at hs;simp at hs;omega
 obtain⟨s0,hs0⟩:=Q25 hl1
 generalize QO s1=y at hs0
 subst hs0
 obtain⟨ha1,hp1⟩:=Q3w h.ar kind bs
 have hr:=h.rng
 rw[hs1] at hr
 have hr0:∀ z∈s0,InR m.n z.kids:=fun z hz=>hr z (List.mem_append_left _ (List.mem_append_left _ hz))
 have hry:InR m.n y.kids:=hr y (List.mem_append_left _ (by simp))
 have hrx:InR m.n x.kids:=hr x (by simp)
 have hks:InR (m.n++[Qu kind bs]) (x.kids++[(m.n.length:Int)]):=fun k hk=>by
  rcases List.mem_append.1 hk with hk|hk
  ·exact hrx.more _ k hk
  ·obtain rfl:k=(m.n.length:Int):=by simpa using hk
   simp;omega
 obtain⟨l1,hl⟩:=exq (m.n++[Qu kind bs])
 obtain⟨ha2,hp2⟩:=Q6M ha1 21 hks
 obtain⟨z,hz⟩:=exq (Q1e l1 21 (x.kids++[(m.n.length:Int)]))
 have hpk:(x.kids++[(m.n.length:Int)]).flatMap (pr l1)=x.kids.flatMap (pr m.n)++bs:=by
  rw[hl]
  simp only[List.flatMap_append,List.flatMap_cons,List.flatMap_nil,List.append_nil]
  rw[Q6o h.ar.wf _ hrx,hp1]
 rw[←hl] at ha1 ha2 hp2 hks ⊢
 rw[←hz] at ha2 hp2
 have eT:QO (Q2N (m.n.length:Int) (Q1J (Qu kind bs) m)).s=⟨x.name,x.kids++[(m.n.length:Int)]⟩:=by
  show QO (Q1K m.n.length m.s)=_
  rw[hs1,Q1T,Q7A]
 have en:(Q1I m.n.length (Q1J (Qu kind bs) m)).n=l1++[z]:=by
  show (m.n++[Qu kind bs])++[Q1e (m.n++[Qu kind bs]) 21 (QO (Q2N (m.n.length:Int) (Q1J (Qu kind bs) m)).s).kids]=_
  rw[eT,←hl,←hz]
 have es:(Q1I m.n.length (Q1J (Qu kind bs) m)).s=s0++[⟨y.name,y.kids++[(l1.length:Int)]⟩]:=by
  show Q1K ((m.n++[Qu kind bs]).length:Int) ((Q1K m.n.length m.s).take ((Q1K m.n.length m.s).length-1))=_
  have e2:(Q1K m.n.length m.s).take ((Q1K m.n.length m.s).length-1)=s0++[y]:=by
   rw[hs1,Q1T,show (s0++[y]++[(⟨x.name,x.kids++[(m.n.length:Int)]⟩:Opn)]).length-1=(s0++[y]).length by simp]
   exact List.take_left
  rw[e2,Q1T,hl]
 have h1:=h.n
 have h2:=h.d
 have h3:=h.k
 have h4:=h.p
 rw[hs1] at h1 h2 h3 h4
 rw[Q3n,Q3n] at h3
 rw[Q6r,Q6r] at h4
 simp only[List.length_append,List.length_singleton] at h1 h2 h3
 have hll:l1.length=m.n.length+1:=by rw[hl];simp
 have hnm:=h.nm
 rw[hs1] at hnm
 refine⟨⟨by rw[en];exact ha2,fun q hq=>?_,?_,by rw[es];simp,?_,?_,?_,fun q hq=>?_⟩,by rw[es,hs1];simp,hks,?_⟩
 ·rw[en]
  rw[es] at hq
  have up:∀ {ks:List Int},InR m.n ks→InR (l1++[z]) ks:=fun hk=>by
   rw[hl];exact (hk.more _).more _
  rcases List.mem_append.1 hq with hq|hq
  ·exact up (hr0 q hq)
  ·obtain rfl:q=⟨y.name,y.kids++[(l1.length:Int)]⟩:=by simpa using hq
   intro k hk
   rcases List.mem_append.1 hk with hk|hk
   ·exact up hry k hk
   ·obtain rfl:k=(l1.length:Int):=by simpa using hk
    simp;omega
 ·have up0:prK (l1++[z]) s0=prK m.n s0:=by
   rw[Qbp ha1.wf z (fun q hq=>by rw[hl];exact (hr0 q hq).more _),hl,Qbp h.ar.wf _ hr0]
  have upy:y.kids.flatMap (pr (l1++[z]))=y.kids.flatMap (pr m.n):=by
   rw[Q6o ha1.wf z (by rw[hl];exact hry.more _),hl,Q6o h.ar.wf _ hry]
  rw[es,en,Q6r,up0]
  simp only[List.flatMap_append,List.flatMap_cons,List.flatMap_nil,List.append_nil]
  rw[upy,hp2,hpk,←h4]
  simp only[List.append_assoc]
 ·rw[es,en];simp only[List.length_append,List.length_singleton];omega
 ·rw[es];show m.d.length+_≤_;simp only[List.length_append,List.length_singleton];omega
 ·rw[es,Q3n];simp only[List.length_append,List.length_singleton];omega
 ·rw[es] at hq
  rcases List.mem_append.1 hq with hq|hq
  ·exact hnm q (List.mem_append_left _ (List.mem_append_left _ hq))
  ·obtain rfl:q=⟨y.name,y.kids++[(l1.length:Int)]⟩:=by simpa using hq
   exact hnm y (List.mem_append_left _ (by simp))
 ·rw[hpk,←h4]
  simp only[List.length_append]
  omega
theorem Q4B {m:Mk}{X:List UInt8}{B D:Nat}(h:MkInv m X B D)(hs:2≤m.s.length)(t:Txt)(at_:Int):MkInv (Q2x t at_ m) X B D∧(Q2x t at_ m).s.length=m.s.length-1 ∧
  InR (m.n++[Qu 22 []]) ((QO m.s).kids++[(m.n.length:Int)])∧(((QO m.s).kids++[(m.n.length:Int)]).flatMap (pr (m.n++[Qu 22 []]))).length≤X.length:=by
 have:=Q9f (Q1L h t 4 at_ at_) hs 22 [] (D':=D) (by omega)
 rw[List.append_nil] at this
 exact this
theorem Qa7 (t:Txt)(f u:Int):(Qo t f u).length≤t.r.length:=by
 rw[Qo,List.length_take,List.length_drop];omega
theorem Q7p (t:Txt)(a:Int)(m:Mk):(Q2x t a m).s.length=m.s.length-1:=by
 show (Q1K _ ((Q1K _ m.s).take ((Q1K _ m.s).length-1))).length=_
 rw[Q4A,List.length_take,Q4A];omega
theorem Q8x {t:Txt}{f:Int}{k:Nat}{x:Mk}(h:k<x.s.length-1):missGo t f k x.s.length x=missGo t f k (Q2x t f x).s.length (Q2x t f x):=by
 obtain⟨n,hn⟩:∃ n,x.s.length=n+1:=⟨x.s.length-1,by omega⟩
 rw[Q7p,hn]
 rw[hn] at h
 show (if k<x.s.length-1 then _ else _)=_
 rw[hn,if_pos h];rfl
theorem Q9Y {t:Txt}{f:Int}{k:Nat}{x:Mk}(h:¬ k<x.s.length-1):missGo t f k x.s.length x=x:=by
 cases hn:x.s.length with
 |zero=>rfl
 |succ n =>
  show (if k<x.s.length-1 then _ else _)=_
  rw[if_neg h]
theorem MkInv.sum {l:List Node}(h:Ar l){ks:List Int}(hk:InR l ks){n:Nat}(hn:(ks.flatMap (pr l)).length≤n)(h2:n≤2147483647):Q1Z l ks≤2147483647:=by
 rw[Q7T h.wide hk];omega
theorem MkInv.top {m:Mk}{X:List UInt8}{B D:Nat}(h:MkInv m X B D):InR m.n (QO m.s).kids:=by
 obtain⟨s0,hs0⟩:=Q25 h.s1
 refine h.rng _ ?_
 rw[hs0,Q7A];simp
theorem Qhi (t:Txt)(b:List UInt8)(rt:Int){m:Mk}{X:List UInt8}{B D:Nat}(h:MkInv m X B D)(hB:B≤900000)(hD:D≤900000)(hX:X.length≤1000000)(a:Int)(ha:0≤a∧a<t.off.length)(hs:2≤m.s.length) :
  BCall prog 31 [.box 0 0,.val (.int .i64 a)] (obT 0 t b rt m) (.tup []) (obT 1 t b rt (Q2x t a m)):=by
 have ok:=h.ok hB hD
 obtain⟨_,_,h3,h4⟩:=Q4B h hs t a
 have ha1:=(Q3w h.ar 22 []).1
 exact QlY t b rt m (by have:=ok.d;omega) a ha hs (by have:=ok.s;omega) (fun x hx=>by have:=ok.k x hx;omega) (by have:=ok.n;omega) ha1.ok h.top (MkInv.sum ha1 h3 h4 (by omega))
theorem Qm7 (t:Txt)(b:List UInt8)(rt:Int){m:Mk}{X:List UInt8}{B D:Nat}(h:MkInv m X B D)(hB:B≤900000)(hD:D≤900000)(hX:X.length≤1000000)(hs:2≤m.s.length)(kind:Int)(bs:List UInt8)(hbs:bs.length≤1000000) :
  BCall prog 59 [.box 0 0,.val (.int .i64 m.n.length)] (obT 0 t b rt (Q1J (Qu kind bs) m)) (.tup []) (obT 1 t b rt (Q1I m.n.length (Q1J (Qu kind bs) m))):=by
 have ok:=h.ok hB hD
 obtain⟨_,_,h3,h4⟩:=Q9f h hs kind bs (D':=D) (by omega)
 have ha1:=(Q3w h.ar kind bs).1
 exact Qj8 t b rt (Q1J (Qu kind bs) m) hs (by have:=ok.s;show m.s.length≤_;omega) (fun x hx=>by have:=ok.k x hx;omega) (by have:=ok.n;show (m.n++_).length≤_;simp;omega) ha1.ok m.n.length h3 (MkInv.sum ha1 h3 h4 (by omega))
def Q5u (t:Txt)(a:Int)(N D S:List AV):List AV:=Q7 (Q2x t a (mkB N D S)).n
def Q5o (t:Txt)(a:Int)(N D S:List AV):List AV:=QC (Q2x t a (mkB N D S)).d
def Q5a (t:Txt)(a:Int)(N D S:List AV):List AV:=Qh (Q2x t a (mkB N D S)).s
def QbO (p:Pr)(nm:Int→Int→List AV)(wr:Int→Int→Int→List AV→List AV)(lf:Int→Int→Int→List AV→List AV)(kd:Int→List AV→List AV)(eq:List AV→List AV→Bool)(mn md ms sn ss:Int→List AV→List AV→List AV→List AV):Nat→List AV→List Ob→Option (AV×List Ob):=fun f args ob=>match f,args with
 |55,[.box 0 0,.agg [_,.val (.int .i64 f),.val (.int .i64 u),_]]=>some (.slc 1 (nm f u),ob)
 |53,[.box 0 0,.val (.int .i64 c),.val (.int .i64 f),.val (.int .i64 u)]=>Q3t ob fun b k m r o rt N D S=>some (.tup [],obM 1 b k m r o rt N (wr c f u D) S)
 |58,[.box 0 0,.agg [.val (.int .i64 kind),.val (.int .i64 f),.val (.int .i64 u),_]]=>Q3t ob fun b k m r o rt N D S=>some (.val (.int .i64 (p.len N)),obM 1 b k m r o rt (lf kind f u N) D S)
 |13,[.box 0 0,.val (.int .i64 n)]=>Q3t ob fun b k m r o rt N D S=>some (.tup [],obM 1 b k m r o rt N D (kd n S))
 |80,[.slc 1 x,.slc 1 y]=>some (.val (.bool (eq x y)),[])
 |31,[.box 0 0,.val (.int .i64 a)]=>Q3t ob fun b k m r o rt N D S=>some (.tup [],obM 1 b k m r o rt (mn a N D S) (md a N D S) (ms a N D S))
 |59,[.box 0 0,.val (.int .i64 n)]=>Q3t ob fun b k m r o rt N D S=>some (.tup [],obM 1 b k m r o rt (sn n N D S) D (ss n N D S))
 |_,_=>none
def eqA (x y:List AV):Bool:=decide (x.map intOf=y.map intOf)
theorem Qiu (x y:List Int):eqA (Q0 x) (Q0 y)=decide (x=y):=by rw[eqA,Q3O,Q3O]
theorem Qk7 (l:List Int):Q2o (slR l)=Q0 l:=by cases l<;>rfl
theorem Qm3 (l:List Int):slR l=.slc 1 (Q0 l)∨slR l=.val (.slice none 0 0):=by
 cases l with
 |nil=>exact .inr rfl
 |cons x r=>exact .inl rfl
def Q5N (s:List Opn)(k:Int):Opn:=s[k.toNat]?.getD ⟨[],[]⟩
theorem Qlt {s:List Opn}{k:Int}(h0:0≤k)(h1:k<s.length):(Qh s).getD k.toNat .dead=(Q5N s k).av:=by
 have:k.toNat<s.length:=by omega
 simp[Qh,Q5N,this]
theorem Q9o {s:List Opn}{nm:List Int}{k:Int}(h:0<k):Q1F s nm k.toNat=if (Q5N s k).name=nm then k.toNat else Q1F s nm (k-1).toNat:=by
 obtain⟨n,hn⟩:∃ n:Nat,k.toNat=n+1:=⟨k.toNat-1,by omega⟩
 rw[Q5N,show (k-1).toNat=n by omega,hn];rfl
theorem QeY (t:Txt)(a:Int)(m:Mk):Q5u t a (Q7 m.n) (QC m.d) (Qh m.s)=Q7 (Q2x t a m).n:=by rw[Q5u,Q2d]
theorem QfH (t:Txt)(a:Int)(m:Mk):Q5o t a (Q7 m.n) (QC m.d) (Qh m.s)=QC (Q2x t a m).d:=by rw[Q5o,Q2d]
theorem QfF (t:Txt)(a:Int)(m:Mk):Q5a t a (Q7 m.n) (QC m.d) (Qh m.s)=Qh (Q2x t a m).s:=by rw[Q5a,Q2d]
theorem Qks (l:Int)(y:Node)(m:Mk):Q7h l (Q7 (m.n++[y])) (QC m.d) (Qh m.s)=Q7 (Q1I l (Q1J y m)).n:=by
 have:=Q2d (Q1J y m)
 rw[Q7h];exact congrArg (fun z=>Q7 (Q1I l z).n) this
theorem Ql1 (l:Int)(y:Node)(m:Mk):Q72 l (Q7 (m.n++[y])) (QC m.d) (Qh m.s)=Qh (Q1I l (Q1J y m)).s:=by
 have:=Q2d (Q1J y m)
 rw[Q72];exact congrArg (fun z=>Qh (Q1I l z).s) this
theorem Qmb (t:Txt)(b:List UInt8)(hs:Sml t b)(rt:Int)(m:Mk)(X:List UInt8)(B D:Nat)(iv:MkInv m X B D)(hB:B≤800000)(hD:D≤800000)(hX:X.length≤1000000)(kind f u:Int)(wh:Bool)(hi:InT t f u) :
  BCall prog 57 [.box 0 0,.agg [.val (.int .i64 kind),.val (.int .i64 f),.val (.int .i64 u),.val (.bool wh)]] (obT 0 t b rt m) (.tup []) (obT 1 t b rt (Q2I t b kind f u m)):=by
 have cN:=Qeu t b hs.hr rt m kind f u wh hi.h0 hi.h1 hi.h2
 have hoff:=hi.off hs
 have ok:=iv.ok (by omega) (by omega)
 unfold obT obM
 obtain⟨L,hL⟩:=Qy m.s
 have slen:=Q3y m.s
 refine fnN (cs:=QbO std (nmA t) (wrA t) (lfT t b) kdA eqA (Q5u t) (Q5o t) (Q5a t) Q7h Q72) func57 rfl (by kernel_rfl) ?_
 intro w0 g0
 generalize hp:std=p,hnm:nmA t=nm,hwr:wrA t=wr,hlf:lfT t b=lf,hkd:kdA=kd,heq:eqA=eq,hmn:Q5u t=mn,hmd:Q5o t=md,hms:Q5a t=ms,hsn:Q7h=sn,hss:Q72=ss,hN:Q7 m.n=N,hD':QC m.d=D',hS:Qh m.s=S,hB':Q2 b=B',hR:Q0 t.r=R,hO:Q8 t.off=O,hK:t.kind=K,hM:t.bom=M
 generalize hT:Q5 p tys (QbO p nm wr lf kd eq mn md ms sn ss) _ _ _ _=T
 cbv at hT
 subst hT
 simp only[Tree.ok,Q1,S0]
 subst hp hnm hwr hlf hkd heq hmn hmd hms hsn hss hN hD' hS hB' hR hO hK hM
 have hlen:std.len (Qh m.s)=L:=by show ((Qh m.s).length:Int)=L;rw[slen,hL.eq]
 have hL1:1≤L:=by have:=hL.eq;have:=ok.s1;omega
 have hLn:L≤900000:=by have:=hL.eq;have:=ok.s;omega
 refine⟨cN,?_,?_⟩
 ·show (-9223372036854775808:Int)≤std.len (Qh m.s)-1∧std.len (Qh m.s)-1≤(9223372036854775807:Int)
  rw[hlen];omega
 obtain⟨nm0,hnm⟩:=exq (Qo t f u)
 have hnmA:nmA t f u=Q0 nm0:=by rw[hnm];rfl
 rw[hnmA]
 refine Q1r (cs:=QbO std (nmA t) (wrA t) (lfT t b) kdA eqA (Q5u t) (Q5o t) (Q5a t) Q7h Q72) (by kernel_rfl) (X:=Int) (fun k=>⟨[(0,.box 0 0),(3,.box 6 0),(4,.slc 1 (Q0 nm0)),(5,.val (.int .i64 k))],[.box [.slc 1 (Q2 b),.box 1 0,.row 5 0],.box [.val (.int .i64 t.kind),.val (.int .i64 t.bom),.slc 1 (Q0 t.r),.slc 1 (Q8 t.off),.box 2 0,.val (.int .i64 rt),.row 4 0],.box [.row 3 0],.row 91 6 false 0 (Q7 m.n),.row 53 3 false 0 (QC m.d),.row 62 2 false 0 (Qh m.s),.box [.val (.int .i64 kind),.val (.int .i64 f),.val (.int .i64 u),.val (.bool wh)]]⟩) (fun k=>0≤k∧k≤L-1∧Q1F m.s nm0 k.toNat=Q1F m.s nm0 (m.s.length-1)) (fun k=>k.toNat) (L-1) ?_ ?_ ?_
 ·exact⟨by omega,Int.le_refl _,by have:=hL.eq;rw[show (L-1).toNat=m.s.length-1 by omega]⟩
 ·exact⟨[some 0,some 1,some 2,some 3,some 4,some 5,some 6],_,rfl,by simp[Qe,lk,std,slen,hL.eq]⟩
 ·rintro k ⟨hk0,hk1,hk2⟩
  generalize hp:std=p,hnm:nmA t=nm,hwr:wrA t=wr,hlf:lfT t b=lf,hkd:kdA=kd,heq:eqA=eq,hmn:Q5u t=mn,hmd:Q5o t=md,hms:Q5a t=ms,hsn:Q7h=sn,hss:Q72=ss,hN:Q7 m.n=N,hD':QC m.d=D',hS:Qh m.s=S,hB':Q2 b=B',hR:Q0 t.r=R,hO:Q8 t.off=O,hK:t.kind=K,hM:t.bom=M,hNM:Q0 nm0=NM
  generalize hT:Q5 p tys (QbO p nm wr lf kd eq mn md ms sn ss) _ _ _ _=T
  cbv at hT
  subst hT
  simp only[Tree.ok,Q1,S0]
  subst hp hnm hwr hlf hkd heq hmn hmd hms hsn hss hN hD' hS hB' hR hO hK hM hNM
  have hkl:k<m.s.length:=by have:=hL.eq;omega
  have hat:=Qlt hk0 hkl
  have hcel:std.nth (std.drp (std.cel (std.at_ (Qh m.s) k)) 0) 0=slR (Q5N m.s k).name:=by
   show ((((Qh m.s).getD k.toNat .dead).cells).drop 0).getD 0 .dead=_
   rw[hat];rfl
  have hlst:std.lst (std.nth (std.drp (std.cel (std.at_ (Qh m.s) k)) 0) 0)=Q0 (Q5N m.s k).name:=by
   show Q2o (std.nth (std.drp (std.cel (std.at_ (Qh m.s) k)) 0) 0)=_
   rw[hcel,Qk7]
  have hnl:(Q5N m.s k).name.length≤1000000000:=by
   have hk3:k.toNat<m.s.length:=by omega
   have:=iv.nm (Q5N m.s k) (by rw[Q5N,List.getElem?_eq_getElem hk3];exact List.getElem_mem hk3)
   omega
  have hn0:nm0.length≤1000000000:=by
   have h3:=Qa7 t f u
   have h4:=hs.hr
   rw[hnm];omega
  have cE:=QjL (Q5N m.s k).name nm0 hnl hn0
  rw[←Qiu,←hlst] at cE
  have hq:∀ c,std.notB (eqA (std.lst (std.nth (std.drp (std.cel (std.at_ (Qh m.s) k)) 0) 0)) (Q0 nm0))=c→decide ((Q5N m.s k).name=nm0)=!c:=fun c h=>by
   rw[hlst,Qiu] at h
   have h:(!decide ((Q5N m.s k).name=nm0))=c:=h
   rw[←h,Bool.not_not]
  refine⟨fun hk=>⟨?_,⟨?_,trivial⟩,cE,fun hne=>⟨?_,k-1,⟨?_,?_,?_⟩,?_,[some 0,some 1,some 2,some 3,some 4,some 5,some 6],_,rfl,by simp[Qe,lk,std]⟩,fun heq=>?_⟩,fun hk=>?_⟩
  ·show 0≤k∧k<std.len (Qh m.s)
   rw[hlen];omega
  ·show std.nth (std.drp (std.cel (std.at_ (Qh m.s) k)) 0) 0=.slc 1 (std.lst (std.nth (std.drp (std.cel (std.at_ (Qh m.s) k)) 0) 0))∨std.nth (std.drp (std.cel (std.at_ (Qh m.s) k)) 0) 0=.val (.slice none 0 0)
   rw[hlst,hcel];exact Qm3 _
  ·show (-9223372036854775808:Int)≤k-1∧k-1≤(9223372036854775807:Int)
   omega
  ·have:0<k:=of_decide_eq_true hk
   omega
  ·omega
  ·have h1:0<k:=of_decide_eq_true hk
   rw[←hk2,Q9o (nm:=nm0) h1,if_neg (of_decide_eq_false (hq _ hne))]
  ·have h1:0<k:=of_decide_eq_true hk
   omega
  ·have h1:0<k:=of_decide_eq_true hk
   have hf:Q1F m.s nm0 (m.s.length-1)=k.toNat:=by rw[←hk2,Q9o (nm:=nm0) h1,if_pos (of_decide_eq_true (hq _ heq))]
   clear cE hq
   have hkn:k.toNat≠0:=by omega
   have hE:Q2I t b kind f u m=Q1I (missGo t f k.toNat m.s.length m).n.length (Q29 t b kind f u (missGo t f k.toNat m.s.length m)):=by
    show (if Q1F m.s (Qo t f u) (m.s.length-1)=0 then _ else _)=_
    rw[←hnm,hf,if_neg hkn]
   obtain⟨kn,hkn'⟩:=exq k.toNat
   obtain⟨M0,hM0⟩:=exq (missGo t f kn m.s.length m)
   rw[←hkn',←hM0] at hE
   have hkI:k=(kn:Int):=by omega
   rw[hE]
   clear hE hf hk2 hkl
   rw[if_pos trivial]
   generalize hp:std=p,hnm:nmA t=nm,hwr:wrA t=wr,hlf:lfT t b=lf,hkd:kdA=kd,heq:eqA=eq,hmn:Q5u t=mn,hmd:Q5o t=md,hms:Q5a t=ms,hsn:Q7h=sn,hss:Q72=ss,hN:Q7 m.n=N,hD':QC m.d=D',hS:Qh m.s=S,hB':Q2 b=B',hR:Q0 t.r=R,hO:Q8 t.off=O,hK:t.kind=K,hM:t.bom=M,hNM:Q0 nm0=NM
   generalize hT:Q5 p tys (QbO p nm wr lf kd eq mn md ms sn ss) _ _ _ _=T
   cbv at hT
   subst hT
   simp only[Tree.ok,Q1,S0]
   subst hp hnm hwr hlf hkd heq hmn hmd hms hsn hss hN hD' hS hB' hR hO hK hM hNM
   refine⟨fun hz=>?_,fun _=>?_⟩
   ·have hz:(k == 0)=true:=hz
    have:k=0:=by simpa using hz
    omega
   refine Q1r (cs:=QbO std (nmA t) (wrA t) (lfT t b) kdA eqA (Q5u t) (Q5o t) (Q5a t) Q7h Q72) (by kernel_rfl) (X:=Mk) (fun x=>⟨[(0,.box 0 0),(3,.box 6 0),(5,.val (.int .i64 k))],[.box [.slc 1 (Q2 b),.box 1 0,.row 5 1],.box [.val (.int .i64 t.kind),.val (.int .i64 t.bom),.slc 1 (Q0 t.r),.slc 1 (Q8 t.off),.box 2 0,.val (.int .i64 rt),.row 4 1],.box [.row 3 1],.row 91 6 false 1 (Q7 x.n),.row 53 3 false 1 (QC x.d),.row 62 2 false 1 (Qh x.s),.box [.val (.int .i64 kind),.val (.int .i64 f),.val (.int .i64 u),.val (.bool wh)]]⟩) (fun x=>MkInv x X B D∧kn+1≤x.s.length∧missGo t f kn x.s.length x=M0) (fun x=>x.s.length) m ?_ ?_ ?_
   ·exact⟨iv,by have:=hL.eq;omega,hM0.symm⟩
   ·exact⟨[some 0,some 1,some 2,some 3,some 4,some 5,some 6],_,rfl,by simp[Qe,lk,std]⟩
   ·rintro x ⟨hv,hx1,hx2⟩
    have okx:=hv.ok (by omega) (by omega)
    have xlen:=Q3y x.s
    obtain⟨LX,hLX⟩:=Qy x.s
    generalize hp:std=p,hnm:nmA t=nm,hwr:wrA t=wr,hlf:lfT t b=lf,hkd:kdA=kd,heq:eqA=eq,hmn:Q5u t=mn,hmd:Q5o t=md,hms:Q5a t=ms,hsn:Q7h=sn,hss:Q72=ss,hN:Q7 x.n=N,hD':QC x.d=D',hS:Qh x.s=S,hB':Q2 b=B',hR:Q0 t.r=R,hO:Q8 t.off=O,hK:t.kind=K,hM:t.bom=M
    generalize hT:Q5 p tys (QbO p nm wr lf kd eq mn md ms sn ss) _ _ _ _=T
    cbv at hT
    subst hT
    simp only[Tree.ok,Q1,S0]
    subst hp hnm hwr hlf hkd heq hmn hmd hms hsn hss hN hD' hS hB' hR hO hK hM
    have hlx:std.len (Qh x.s)=LX:=by show ((Qh x.s).length:Int)=LX;rw[xlen,hLX.eq]
    have hX1:1≤LX∧LX≤900000:=by have:=hLX.eq;have:=okx.s;have:=okx.s1;omega
    simp only[QeY,QfH,QfF]
    refine⟨?_,fun hgt=>?_,fun hle=>?_⟩
    ·show (-9223372036854775808:Int)≤std.len (Qh x.s)-1∧std.len (Qh x.s)-1≤(9223372036854775807:Int)
     rw[hlx];omega
    ·have hgt:k<std.len (Qh x.s)-1:=of_decide_eq_true hgt
     rw[hlx] at hgt
     have hk1:kn<x.s.length-1:=by have:=hLX.eq;omega
     have hxs2:2≤x.s.length:=by omega
     have c:=Qhi t b rt hv (by omega) (by omega) hX f hoff.1 hxs2
     refine⟨c,Q2x t f x,⟨(Q4B hv hxs2 t f).1,by rw[Q7p];omega,by rw[←Q8x hk1];exact hx2⟩,by rw[Q7p];omega,[some 0,some 1,some 2,some 3,some 4,some 5,some 6],_,rfl,by simp[Qe,lk,std]⟩
    ·have hle:¬ k<std.len (Qh x.s)-1:=of_decide_eq_false hle
     rw[hlx] at hle
     have hk1:¬ kn<x.s.length-1:=by have:=hLX.eq;omega
     have hx0:x=M0:=by rw[←hx2,Q9Y hk1]
     subst hx0
     have hxs2:2≤x.s.length:=by omega
     have cL:=Q9A t b hs.hb hs.ok hs.hr rt x (by have:=okx.n;omega) kind f u wh hi.h0 hi.h1 hi.h2
     have cS:=Qm7 t b rt hv (by omega) (by omega) hX hxs2 kind (Q13 t b f u) (by have:=QaF t b f u;have:=hs.hb;omega)
     simp only[obT,obM,Q29] at cL cS ⊢
     clear hle hlx hX1 hk1 hxs2 hx2 hx1 hkI hkn' hlst hcel hat
     rw[if_pos trivial]
     generalize hp:std=p,hnm:nmA t=nm,hwr:wrA t=wr,hlf:lfT t b=lf,hkd:kdA=kd,heq:eqA=eq,hmn:Q5u t=mn,hmd:Q5o t=md,hms:Q5a t=ms,hsn:Q7h=sn,hss:Q72=ss,hN:Q7 x.n=N,hD':QC x.d=D',hS:Qh x.s=S,hB':Q2 b=B',hR:Q0 t.r=R,hO:Q8 t.off=O,hK:t.kind=K,hM:t.bom=M
     generalize hT:Q5 p tys (QbO p nm wr lf kd eq mn md ms sn ss) _ _ _ _=T
     cbv at hT
     subst hT
     simp only[Tree.ok,Q1,S0]
     subst hp hnm hwr hlf hkd heq hmn hmd hms hsn hss hN hD' hS hB' hR hO hK hM
     simp only[std,Qa6,Q1g,Qks,Ql1]
     refine⟨cL,cS,[some 0,some 1,some 2,some 3,some 4,some 5],.tup [],_,rfl,rfl,Nat.le_of_ble_eq_true rfl,rfl,?_,trivial⟩
     simp[Qe]
     rfl
  ·have hk:¬ 0<k:=of_decide_eq_false hk
   have hk0':k=0:=by omega
   have hf:Q1F m.s nm0 (m.s.length-1)=0:=by rw[←hk2,hk0'];rfl
   have hE:Q2I t b kind f u m=lkF t b kind f u (QP t 3 f u m):=by
    show (if Q1F m.s (Qo t f u) (m.s.length-1)=0 then _ else _)=_
    rw[←hnm,hf,if_pos rfl]
   rw[hE]
   clear cE hq hE hf hk2 hkl hlst hcel hat hnl hn0
   rw[if_pos trivial]
   generalize hp:std=p,hnm:nmA t=nm,hwr:wrA t=wr,hlf:lfT t b=lf,hkd:kdA=kd,heq:eqA=eq,hmn:Q5u t=mn,hmd:Q5o t=md,hms:Q5a t=ms,hsn:Q7h=sn,hss:Q72=ss,hN:Q7 m.n=N,hD':QC m.d=D',hS:Qh m.s=S,hB':Q2 b=B',hR:Q0 t.r=R,hO:Q8 t.off=O,hK:t.kind=K,hM:t.bom=M,hNM:Q0 nm0=NM
   generalize hT:Q5 p tys (QbO p nm wr lf kd eq mn md ms sn ss) _ _ _ _=T
   cbv at hT
   subst hT
   simp only[Tree.ok,Q1,S0]
   subst hp hnm hwr hlf hkd heq hmn hmd hms hsn hss hN hD' hS hB' hR hO hK hM hNM
   refine⟨fun _=>?_,fun hz=>?_⟩
   ·have hd:=ok.d
    have cW:=Q8L t b rt m (by omega) 3 f u hoff.1 hoff.2
    have cL:=Q9A t b hs.hb hs.ok hs.hr rt (QP t 3 f u m) (by have:=ok.n;show m.n.length≤_;omega) kind f u wh hi.h0 hi.h1 hi.h2
    have cK:=Q9W t b rt (Q29 t b kind f u (QP t 3 f u m)) (by have:=ok.s1;exact this) (by have:=ok.s;show m.s.length≤_;omega) (by have:=ok.top;show (QO m.s).kids.length≤_;omega) m.n.length
    simp only[obT,obM,Q29,Q1J,Q2N,QP,lkF] at cW cL cK ⊢
    simp only[std,Qa6,Q9b,Q93,Q1g]
    exact⟨cW,cL,cK,[some 0,some 1,some 2,some 3,some 4,some 5],.tup [],_,rfl,rfl,Nat.le_of_ble_eq_true rfl,rfl,by simp[Qe],trivial⟩
   ·have hz:(k == 0)=false:=hz
    rw[hk0'] at hz;cases hz
end Go.Proofs.YthbjpdijafccjaaGreat
namespace Go.Proofs.YthbjpdijafccjaaGreat
open Go.RowKit Go.Lib
theorem MkInv.mono {m:Mk}{X:List UInt8}{B D B' D':Nat}(h:MkInv m X B D)(hB:B≤B')(hD:D≤D'):MkInv m X B' D' :=
 ⟨h.ar,h.rng,h.p,h.s1,Nat.le_trans h.n hB,Nat.le_trans h.d hD,Nat.le_trans h.k hB,h.nm⟩
theorem Qb4 {m:Mk}{X:List UInt8}{B D:Nat}(h:MkInv m X B D)(t:Txt)(b:List UInt8)(hr:t.r.length≤1000000)(kind f u:Int):MkInv (Q1u t b kind f u m) (X++Q13 t b f u) (B+3) (D+2):=by
 unfold Q1u
 split
 ·exact (Qa0 (Q1L h t 5 f u) t b kind f u).mono (by omega) (by omega)
 ·exact Qa0 (Qda h (Qo t f u) (Nat.le_trans (Qa7 t f u) hr)) t b kind f u
theorem Q7d (t:Txt)(f:Int)(k:Nat){X:List UInt8}{B D:Nat}:∀ (n:Nat) (m:Mk),MkInv m X B D→k+1≤m.s.length→m.s.length≤n+k+1→MkInv (missGo t f k n m) X B D∧(missGo t f k n m).s.length=k+1
 |0,m,h,h1,h2=>⟨h,by show m.s.length=_;omega⟩
 |n+1,m,h,h1,h2=>by
  show MkInv (if _ then _ else _) X B D∧(if _ then _ else _:Mk).s.length=_
  split
  ·have h3:=Q4B h (by omega) t f
   exact Q7d t f k n _ h3.1 (by omega) (by omega)
  ·exact⟨h,by omega⟩
theorem Q4D (s:List Opn)(nm:List Int):∀ k,Q1F s nm k≤k
 |0=>Nat.le_refl _
 |k+1=>by
  unfold Q1F
  split
  ·exact Nat.le_refl _
  ·exact Nat.le_succ_of_le (Q4D s nm k)
theorem Qfb {m:Mk}{X:List UInt8}{B D:Nat}(h:MkInv m X B D)(t:Txt)(b:List UInt8)(kind f u:Int):MkInv (Q2I t b kind f u m) (X++Q13 t b f u) (B+1) (D+1):=by
 unfold Q2I
 have h1:=h.s1
 have h2:=Q4D m.s (Qo t f u) (m.s.length-1)
 simp only
 split
 ·exact Qa0 (Q1L h t 3 f u) t b kind f u
 ·obtain⟨h3,h4⟩:=Q7d t f (Q1F m.s (Qo t f u) (m.s.length-1)) m.s.length m h (by omega) (by omega)
  exact (Q9f h3 (by omega) kind (Q13 t b f u) (D':=D) (by omega)).1.mono (by omega) (by omega)
theorem QgN {m:Mk}{X:List UInt8}{B D:Nat}(h:MkInv m X B D)(t:Txt)(b:List UInt8)(hr:t.r.length≤1000000)(kind f u:Int)(wh:Bool):MkInv (Q1Y t b kind f u wh m) (X++Q13 t b f u) (B+3) (D+3):=by
 unfold Q1Y
 simp only
 generalize hm1:(if wh=false then QP t 1 f u m else if (kind=8∨kind=9∨kind=10)∧(QR t.r f u).right=false then QP t 2 f u m else m)=m1
 have h1:MkInv m1 X B (D+1):=by
  rw[←hm1]
  split
  ·exact Q1L h t 1 f u
  ·split
   ·exact Q1L h t 2 f u
   ·exact h.mono (by omega) (by omega)
 split
 ·exact (Qb4 h1 t b hr kind f u).mono (by omega) (by omega)
 ·split
  ·exact (Qfb h1 t b kind f u).mono (by omega) (by omega)
  ·exact (Qa0 h1 t b kind f u).mono (by omega) (by omega)
def Q5R (t:Txt)(b:List UInt8)(k:Int):List UInt8:=b.take (Q1x t k).toNat
theorem Q5K {t:Txt}{b:List UInt8}(ok:TxtOk t b){f u:Int}(h0:0≤f)(h1:f≤u)(h2:u≤t.r.length):Q5R t b f++Q13 t b f u=Q5R t b u:=by
 have hm:=ok.mono f.toNat u.toNat (by omega) (by omega)
 have hlen:=ok.len
 have hf:f.toNat<t.off.length:=by omega
 have h3:=ok.range (t.off[f.toNat]'hf) (List.getElem_mem hf)
 have e3:t.off[f.toNat]?.getD 0=t.off[f.toNat]:=by rw[List.getElem?_eq_getElem hf];rfl
 rw[←e3] at h3
 show b.take (t.off[f.toNat]?.getD 0).toNat++(b.drop (t.off[f.toNat]?.getD 0).toNat).take _=b.take (t.off[u.toNat]?.getD 0).toNat
 generalize t.off[f.toNat]?.getD 0=p at *
 generalize t.off[u.toNat]?.getD 0=q at *
 rw[show q.toNat=p.toNat+(q-p).toNat by omega,List.take_add]
theorem Q9J {t:Txt}{b:List UInt8}(ok:TxtOk t b):Q5R t b t.r.length=b:=by
 rw[Q5R,Q1x,Int.toNat_natCast,ok.last,Int.toNat_natCast,List.take_length]
def Q63 (t:Txt)(b:List UInt8)(m:Mk)(x:Tok):Mk:=Q1Y t b x.kind x.from_ x.to x.whole m
theorem Q84 (l:List Int){k:Nat}(h:k<l.length):(Q11 l k).from_=k∧(Q11 l k).to=((Qk l k).2.1:Nat)∧k<(Qk l k).2.1∧(Qk l k).2.1≤l.length:=⟨rfl,rfl,Q3I l k h⟩
def Q86 (t:Txt)(b:List UInt8)(m:Mk):Mk :=
 let m1:=(Q5P t.r).foldl (Q63 t b) m
 missGo t t.r.length 0 m1.s.length m1
def Q15 (m:Mk):Mk:=Q1J (Q1e m.n 20 (QO m.s).kids) m
end Go.Proofs.YthbjpdijafccjaaGreat
namespace Go.Proofs.YthbjpdijafccjaaGreat
open Go.RowKit Go.Lib Tryz
def Qj0 (t:Txt)(b:List UInt8)(k f u:Int)(N D S:List AV):List AV:=Q7 (Q1u t b k f u (mkB N D S)).n
def QiU (t:Txt)(b:List UInt8)(k f u:Int)(N D S:List AV):List AV:=QC (Q1u t b k f u (mkB N D S)).d
def Qjo (t:Txt)(b:List UInt8)(k f u:Int)(N D S:List AV):List AV:=Qh (Q1u t b k f u (mkB N D S)).s
def Qjw (t:Txt)(b:List UInt8)(k f u:Int)(N D S:List AV):List AV:=Q7 (Q2I t b k f u (mkB N D S)).n
def Qiy (t:Txt)(b:List UInt8)(k f u:Int)(N D S:List AV):List AV:=QC (Q2I t b k f u (mkB N D S)).d
def Qjv (t:Txt)(b:List UInt8)(k f u:Int)(N D S:List AV):List AV:=Qh (Q2I t b k f u (mkB N D S)).s
def QmJ (p:Pr)(nm:Int→Int→List AV)(wr:Int→Int→Int→List AV→List AV)(lf:Int→Int→Int→List AV→List AV)(kd:Int→List AV→List AV)(sn sd ss en ed es:Int→Int→Int→List AV→List AV→List AV→List AV)(rk rf ru:Int→Int→Int)(ra:Int→Int→List AV)(rr re:Int→Int→Bool):Nat→List AV→List Ob→Option (AV×List Ob):=fun f args ob=>match f,args with
 |54,[.slc 1 _,.val (.int .i64 f),.val (.int .i64 u)]=>some (.agg [.val (.int .i64 (rk f u)),.val (.int .i64 (rf f u)),.val (.int .i64 (ru f u)),.slc 9 (ra f u),.val (.bool (rr f u)),.val (.bool (re f u))],[])
 |55,[.box 0 0,.agg [_,.val (.int .i64 f),.val (.int .i64 u),_]]=>some (.slc 1 (nm f u),ob)
 |53,[.box 0 0,.val (.int .i64 c),.val (.int .i64 f),.val (.int .i64 u)]=>Q3t ob fun b k m r o rt N D S=>some (.tup [],obM 1 b k m r o rt N (wr c f u D) S)
 |58,[.box 0 0,.agg [.val (.int .i64 kind),.val (.int .i64 f),.val (.int .i64 u),_]]=>Q3t ob fun b k m r o rt N D S=>some (.val (.int .i64 (p.len N)),obM 1 b k m r o rt (lf kind f u N) D S)
 |13,[.box 0 0,.val (.int .i64 n)]=>Q3t ob fun b k m r o rt N D S=>some (.tup [],obM 1 b k m r o rt N D (kd n S))
 |56,[.box 0 0,.agg [.val (.int .i64 kind),.val (.int .i64 f),.val (.int .i64 u),_]]=>Q3t ob fun b k m r o rt N D S=>some (.tup [],obM 1 b k m r o rt (sn kind f u N D S) (sd kind f u N D S) (ss kind f u N D S))
 |57,[.box 0 0,.agg [.val (.int .i64 kind),.val (.int .i64 f),.val (.int .i64 u),_]]=>Q3t ob fun b k m r o rt N D S=>some (.tup [],obM 1 b k m r o rt (en kind f u N D S) (ed kind f u N D S) (es kind f u N D S))
 |_,_=>none
theorem QmH (t:Txt)(c f u:Int)(m:Mk):(QP t c f u m).n=m.n:=rfl
theorem QmT (t:Txt)(c f u:Int)(m:Mk):(QP t c f u m).s=m.s:=rfl
theorem Qmu (t:Txt)(c f u:Int)(m:Mk):(QP t c f u m).d=m.d++[⟨Q1x t f,Q1x t u,c⟩]:=rfl
theorem QlI (t:Txt)(f u:Int):(nmA t f u).length=(Qo t f u).length:=Qi _
theorem QfC (t:Txt)(b:List UInt8)(k f u:Int)(m:Mk):Qj0 t b k f u (Q7 m.n) (QC m.d) (Qh m.s)=Q7 (Q1u t b k f u m).n:=by rw[Qj0,Q2d]
theorem Qka (t:Txt)(b:List UInt8)(k f u c:Int)(m:Mk):Qj0 t b k f u (Q7 m.n) (QC (m.d++[⟨Q1x t f,Q1x t u,c⟩])) (Qh m.s)=Q7 (Q1u t b k f u (QP t c f u m)).n:=QfC t b k f u (QP t c f u m)
theorem Qfc (t:Txt)(b:List UInt8)(k f u:Int)(m:Mk):QiU t b k f u (Q7 m.n) (QC m.d) (Qh m.s)=QC (Q1u t b k f u m).d:=by rw[QiU,Q2d]
theorem QkE (t:Txt)(b:List UInt8)(k f u c:Int)(m:Mk):QiU t b k f u (Q7 m.n) (QC (m.d++[⟨Q1x t f,Q1x t u,c⟩])) (Qh m.s)=QC (Q1u t b k f u (QP t c f u m)).d:=Qfc t b k f u (QP t c f u m)
theorem Qfi (t:Txt)(b:List UInt8)(k f u:Int)(m:Mk):Qjo t b k f u (Q7 m.n) (QC m.d) (Qh m.s)=Qh (Q1u t b k f u m).s:=by rw[Qjo,Q2d]
theorem QkS (t:Txt)(b:List UInt8)(k f u c:Int)(m:Mk):Qjo t b k f u (Q7 m.n) (QC (m.d++[⟨Q1x t f,Q1x t u,c⟩])) (Qh m.s)=Qh (Q1u t b k f u (QP t c f u m)).s:=Qfi t b k f u (QP t c f u m)
theorem Qf0 (t:Txt)(b:List UInt8)(k f u:Int)(m:Mk):Qjw t b k f u (Q7 m.n) (QC m.d) (Qh m.s)=Q7 (Q2I t b k f u m).n:=by rw[Qjw,Q2d]
theorem Qkp (t:Txt)(b:List UInt8)(k f u c:Int)(m:Mk):Qjw t b k f u (Q7 m.n) (QC (m.d++[⟨Q1x t f,Q1x t u,c⟩])) (Qh m.s)=Q7 (Q2I t b k f u (QP t c f u m)).n:=Qf0 t b k f u (QP t c f u m)
theorem QfB (t:Txt)(b:List UInt8)(k f u:Int)(m:Mk):Qiy t b k f u (Q7 m.n) (QC m.d) (Qh m.s)=QC (Q2I t b k f u m).d:=by rw[Qiy,Q2d]
theorem QkR (t:Txt)(b:List UInt8)(k f u c:Int)(m:Mk):Qiy t b k f u (Q7 m.n) (QC (m.d++[⟨Q1x t f,Q1x t u,c⟩])) (Qh m.s)=QC (Q2I t b k f u (QP t c f u m)).d:=QfB t b k f u (QP t c f u m)
theorem Qfk (t:Txt)(b:List UInt8)(k f u:Int)(m:Mk):Qjv t b k f u (Q7 m.n) (QC m.d) (Qh m.s)=Qh (Q2I t b k f u m).s:=by rw[Qjv,Q2d]
theorem QjI (t:Txt)(b:List UInt8)(k f u c:Int)(m:Mk):Qjv t b k f u (Q7 m.n) (QC (m.d++[⟨Q1x t f,Q1x t u,c⟩])) (Qh m.s)=Qh (Q2I t b k f u (QP t c f u m)).s:=Qfk t b k f u (QP t c f u m)
theorem QmY (t:Txt)(b:List UInt8)(k f u:Int)(m:Mk):(lkF t b k f u m).n=m.n++[Qu k (Q13 t b f u)]:=rfl
theorem QmL (t:Txt)(b:List UInt8)(k f u:Int)(m:Mk):(lkF t b k f u m).d=m.d:=rfl
theorem QmC (t:Txt)(b:List UInt8)(k f u:Int)(m:Mk):(lkF t b k f u m).s=Q1K m.n.length m.s:=rfl
theorem Qk9 (t:Txt)(b:List UInt8)(hs:Sml t b)(rt:Int)(m:Mk)(X:List UInt8)(B D:Nat)(iv:MkInv m X B D)(hB:B≤700000)(hD:D≤700000)(hX:X.length≤1000000)(kind f u:Int)(wh:Bool)(hi:InT t f u) :
  BCall prog 30 [.box 0 0,.agg [.val (.int .i64 kind),.val (.int .i64 f),.val (.int .i64 u),.val (.bool wh)]] (obT 0 t b rt m) (.tup []) (obT 1 t b rt (Q1Y t b kind f u wh m)):=by
 have cR:=Qia t.r hs.hr f u hi.h0 hi.h1 hi.h2
 have hoff:=hi.off hs
 have ok:=iv.ok (by omega) (by omega)
 have hdl:=ok.d
 have cW:=fun c=>Q8L t b rt m (by omega) c f u hoff.1 hoff.2
 have key:∀ (m1:Mk) (D1:Nat),MkInv m1 X B D1→D1≤700001 →
   BCall prog 55 [.box 0 0,.agg [.val (.int .i64 kind),.val (.int .i64 f),.val (.int .i64 u),.val (.bool wh)]] (obT 0 t b rt m1) (.slc 1 (nmA t f u)) (obT 0 t b rt m1) ∧
   (Qo t f u≠[]→BCall prog 56 [.box 0 0,.agg [.val (.int .i64 kind),.val (.int .i64 f),.val (.int .i64 u),.val (.bool wh)]] (obT 0 t b rt m1) (.tup []) (obT 1 t b rt (Q1u t b kind f u m1))) ∧
   BCall prog 57 [.box 0 0,.agg [.val (.int .i64 kind),.val (.int .i64 f),.val (.int .i64 u),.val (.bool wh)]] (obT 0 t b rt m1) (.tup []) (obT 1 t b rt (Q2I t b kind f u m1)) ∧
   BCall prog 58 [.box 0 0,.agg [.val (.int .i64 kind),.val (.int .i64 f),.val (.int .i64 u),.val (.bool wh)]] (obT 0 t b rt m1) (.val (.int .i64 m1.n.length)) (obT 1 t b rt (Q29 t b kind f u m1)) ∧
   BCall prog 13 [.box 0 0,.val (.int .i64 m1.n.length)] (obT 0 t b rt (Q29 t b kind f u m1)) (.tup []) (obT 1 t b rt (lkF t b kind f u m1)):=fun m1 D1 iv1 hD1=>by
  have ok1:=iv1.ok (by omega) (by omega)
  exact⟨Qeu t b hs.hr rt m1 kind f u wh hi.h0 hi.h1 hi.h2,fun hne=>QjN t b hs rt m1 ok1 kind f u wh hi hne,Qmb t b hs rt m1 X B D1 iv1 (by omega) (by omega) hX kind f u wh hi,
   Q9A t b hs.hb hs.ok hs.hr rt m1 (by have:=ok1.n;omega) kind f u wh hi.h0 hi.h1 hi.h2,
   Q9W t b rt (Q29 t b kind f u m1) ok1.s1 (by have:=ok1.s;show m1.s.length≤_;omega) (by have:=ok1.top;show (QO m1.s).kids.length≤_;omega) m1.n.length⟩
 obtain⟨n0,s0,e0,l0,k0⟩:=key m D iv (by omega)
 obtain⟨n1,s1,e1,l1,k1⟩:=key _ _ (Q1L iv t 1 f u) (by omega)
 obtain⟨n2,s2,e2,l2,k2⟩:=key _ _ (Q1L iv t 2 f u) (by omega)
 have w1:=cW 1
 have w2:=cW 2
 clear key cW hoff hdl
 unfold obT obM
 refine fnN (cs:=QmJ std (nmA t) (wrA t) (lfT t b) kdA (Qj0 t b) (QiU t b) (Qjo t b) (Qjw t b) (Qiy t b) (Qjv t b) (rdk t.r) (rdf t.r) (rdu t.r) (rda t.r) (rdr t.r) (rde t.r)) func30 rfl (by kernel_rfl) ?_
 intro w0 g0
 generalize hp:std=p,hnm:nmA t=nm,hwr:wrA t=wr,hlf:lfT t b=lf,hkd:kdA=kd,hsn:Qj0 t b=sn,hsd:QiU t b=sd,hss:Qjo t b=ss,hen:Qjw t b=en,hed:Qiy t b=ed,hes:Qjv t b=es,hrk:rdk t.r=rk,hrf:rdf t.r=rf,hru:rdu t.r=ru,hra:rda t.r=ra,hrr:rdr t.r=rr,hre:rde t.r=re,hN:Q7 m.n=N,hD':QC m.d=D',hS:Qh m.s=S,hB':Q2 b=B',hR:Q0 t.r=R,hO:Q8 t.off=O,hK:t.kind=K,hM:t.bom=M
 generalize hT:Q5 p tys (QmJ p nm wr lf kd sn sd ss en ed es rk rf ru ra rr re) _ _ _ _=T
 cbv at hT
 subst hT
 simp only[Tree.ok,Q1,S0]
 subst hp hnm hwr hlf hkd hsn hsd hss hen hed hes hrk hrf hru hra hrr hre hN hD' hS hB' hR hO hK hM
 simp only[obT,obM,Q29,Q1J,QmH,QmT,Qmu,QmY,QmL,QmC,Q2N] at n0 s0 e0 l0 k0 n1 s1 e1 l1 k1 n2 s2 e2 l2 k2 w1 w2
 simp only[std,Qa6,Q9b,Q93,Q1g,QfC,Qfc,Qfi,Qf0,QfB,Qfk,Qka,QkE,QkS,Qkp,QkR,QjI,beq_iff_eq,beq_eq_false_iff_ne,decide_eq_true_eq,decide_eq_false_iff_not,QlI,rdr,Bool.not_eq_true',Bool.not_eq_false',Int.natCast_pos]
 have hne:0<(Qo t f u).length→Qo t f u≠[]:=fun h e=>by rw[e] at h;exact absurd h (by decide)
 repeat' first
  |(with_reducible apply And.intro)
  |(with_reducible intro hh)
 all_goals first
  |(exfalso;omega)
  |exact w1
  |exact w2
  |exact cR
  |exact n0
  |exact n1
  |exact n2
  |exact e0
  |exact e1
  |exact e2
  |exact l0
  |exact l1
  |exact l2
  |exact k0
  |exact k1
  |exact k2
  |exact s0 (hne (by assumption))
  |exact s1 (hne (by assumption))
  |exact s2 (hne (by assumption))
  |skip
 all_goals clear n0 s0 e0 l0 k0 n1 s1 e1 l1 k1 n2 s2 e2 l2 k2 w1 w2 cR iv ok hi hs hne
 all_goals first
  |(exfalso;simp_all;done)
  |(refine⟨[some 0,some 1,some 2,some 3,some 4,some 5],.tup [],_,rfl,rfl,Nat.le_of_ble_eq_true rfl,rfl,?_,trivial⟩
    simp[Qe,Q1Y,QmY,QmL,QmC,QmH,QmT,Qmu, *])
end Go.Proofs.YthbjpdijafccjaaGreat
namespace Go.Proofs.YthbjpdijafccjaaGreat
open Go.RowKit Go.Lib
theorem Qfx {l:List Node}(h:Wf l)(x:Node):∀ (f:Nat) (n:Int),0≤n→n<l.length→coF (l++[x]) f n=coF l f n
 |0,_,_,_=>rfl
 |f+1,n,h0,h1=>by
  simp only[coF,Q2s h0 h1]
  congr 2
  refine List.map_congr_left fun k hk=>?_
  have:=h n h0 h1 k hk
  exact Qfx h x f k this.1 (by omega)
theorem Qlu {l:List Node}(h:Wf l)(x:Node){n:Int}(h0:0≤n)(h1:n<l.length):co (l++[x]) n=co l n:=Qfx h x _ n h0 h1
def coL (l:List Node)(ks:List Int):Nat:=(ks.map (co l)).sum
theorem Q6J {l:List Node}(h:Wf l)(x:Node){ks:List Int}(hk:InR l ks):coL (l++[x]) ks=coL l ks :=
 congrArg List.sum (List.map_congr_left fun k hk'=>Qlu h x (hk k hk').1 (hk k hk').2)
theorem Qc4 {l:List Node}(h:Wf l){x:Node}(hx:InR l x.kids):co (l++[x]) l.length=1+coL l x.kids:=by
 rw[QfJ (Q9g h hx) (by omega) (by simp only[List.length_append,List.length_singleton];omega),Q2a]
 exact congrArg (1 + ·) (Q6J h x hx)
theorem Qbo (l:List Node)(a b:List Int):coL l (a++b)=coL l a+coL l b:=by simp[coL]
theorem QbR (l:List Node)(k:Int):coL l [k]=co l k:=by simp[coL]
def coK (l:List Node)(s:List Opn):Nat:=(s.map fun x=>coL l x.kids).sum
theorem Q6D (l:List Node)(s:List Opn)(x:Opn):coK l (s++[x])=coK l s+coL l x.kids:=by simp[coK]
theorem QbE {l:List Node}(h:Wf l)(x:Node){s:List Opn}(hs:∀ y∈s,InR l y.kids):coK (l++[x]) s=coK l s :=
 congrArg List.sum (List.map_congr_left fun y hy=>Q6J h x (hs y hy))
def Q9y (m:Mk):Prop:=coK m.n m.s≤m.n.length
theorem Qkn {m:Mk}(h:Q9y m)(nm:List Int):Q9y { m with s:=m.s++[⟨nm,[]⟩] }:=by
 show coK m.n (m.s++[⟨nm,[]⟩])≤_
 have h:coK m.n m.s≤m.n.length:=h
 rw[Q6D]
 simpa[coL] using h
theorem Q7n {m:Mk}{X:List UInt8}{B D:Nat}(h:MkInv m X B D)(hc:Q9y m)(kind:Int)(bs:List UInt8):Q9y (Q2N m.n.length (Q1J (Qu kind bs) m)):=by
 obtain⟨s0,hs0⟩:=Q25 h.s1
 generalize QO m.s=y at hs0
 have hr:=h.rng
 rw[hs0] at hr
 have hr0:∀ z∈s0,InR m.n z.kids:=fun z hz=>hr z (List.mem_append_left _ hz)
 have hry:InR m.n y.kids:=hr y (by simp)
 have hx:InR m.n (Qu kind bs).kids:=fun k hk=>by cases hk
 have hc:coK m.n m.s≤m.n.length:=hc
 rw[hs0,Q6D] at hc
 show coK (m.n++[Qu kind bs]) (Q1K m.n.length m.s)≤(m.n++[Qu kind bs]).length
 rw[hs0,Q1T,Q6D,Qbo,QbR,QbE h.ar.wf _ hr0,Q6J h.ar.wf _ hry,Qc4 h.ar.wf hx]
 have:coL m.n (Qu kind bs).kids=0:=rfl
 rw[this]
 simp only[List.length_append,List.length_singleton]
 omega
theorem Qfu {m:Mk}{X:List UInt8}{B D:Nat}(h:MkInv m X B D)(hc:Q9y m)(hs:2≤m.s.length)(kind:Int)(bs:List UInt8):Q9y (Q1I m.n.length (Q1J (Qu kind bs) m)):=by
 obtain⟨s1,hs1⟩:=Q25 h.s1
 generalize QO m.s=x at hs1
 have hl1:1≤s1.length:=by rw[hs1] at hs;simp at hs;omega
 obtain⟨s0,hs0⟩:=Q25 hl1
 generalize QO s1=y at hs0
 subst hs0
 have ha1:=(Q3w h.ar kind bs).1
 have hr:=h.rng
 rw[hs1] at hr
 have hr0:∀ z∈s0,InR m.n z.kids:=fun z hz=>hr z (List.mem_append_left _ (List.mem_append_left _ hz))
 have hry:InR m.n y.kids:=hr y (List.mem_append_left _ (by simp))
 have hrx:InR m.n x.kids:=hr x (by simp)
 have hx:InR m.n (Qu kind bs).kids:=fun k hk=>by cases hk
 have hks:InR (m.n++[Qu kind bs]) (x.kids++[(m.n.length:Int)]):=fun k hk=>by
  rcases List.mem_append.1 hk with hk|hk
  ·exact hrx.more _ k hk
  ·obtain rfl:k=(m.n.length:Int):=by simpa using hk
   simp;omega
 obtain⟨l1,hl⟩:=exq (m.n++[Qu kind bs])
 obtain⟨z,hz⟩:=exq (Q1e l1 21 (x.kids++[(m.n.length:Int)]))
 have e1:coL l1 (x.kids++[(m.n.length:Int)])=coL m.n x.kids+1:=by
  rw[hl,Qbo,QbR,Q6J h.ar.wf _ hrx,Qc4 h.ar.wf hx];rfl
 have eT:QO (Q2N (m.n.length:Int) (Q1J (Qu kind bs) m)).s=⟨x.name,x.kids++[(m.n.length:Int)]⟩:=by
  show QO (Q1K m.n.length m.s)=_
  rw[hs1,Q1T,Q7A]
 have en:(Q1I m.n.length (Q1J (Qu kind bs) m)).n=l1++[z]:=by
  show (m.n++[Qu kind bs])++[Q1e (m.n++[Qu kind bs]) 21 (QO (Q2N (m.n.length:Int) (Q1J (Qu kind bs) m)).s).kids]=_
  rw[eT,←hl,←hz]
 have es:(Q1I m.n.length (Q1J (Qu kind bs) m)).s=s0++[⟨y.name,y.kids++[(l1.length:Int)]⟩]:=by
  show Q1K ((m.n++[Qu kind bs]).length:Int) ((Q1K m.n.length m.s).take ((Q1K m.n.length m.s).length-1))=_
  have e2:(Q1K m.n.length m.s).take ((Q1K m.n.length m.s).length-1)=s0++[y]:=by
   rw[hs1,Q1T,show (s0++[y]++[(⟨x.name,x.kids++[(m.n.length:Int)]⟩:Opn)]).length-1=(s0++[y]).length by simp]
   exact List.take_left
  rw[e2,Q1T,hl]
 rw[←hl] at ha1 hks
 have hzk:InR l1 z.kids:=by rw[hz];exact hks
 have hc:coK m.n m.s≤m.n.length:=hc
 rw[hs1,Q6D,Q6D] at hc
 have up0:coK (l1++[z]) s0=coK m.n s0:=by
  rw[QbE ha1.wf z (fun q hq=>by rw[hl];exact (hr0 q hq).more _),hl,QbE h.ar.wf _ hr0]
 have upy:coL (l1++[z]) y.kids=coL m.n y.kids:=by
  rw[Q6J ha1.wf z (by rw[hl];exact hry.more _),hl,Q6J h.ar.wf _ hry]
 have hll:l1.length=m.n.length+1:=by rw[hl];simp
 show coK (Q1I m.n.length (Q1J (Qu kind bs) m)).n (Q1I m.n.length (Q1J (Qu kind bs) m)).s≤(Q1I m.n.length (Q1J (Qu kind bs) m)).n.length
 rw[es,en,Q6D,Qbo,QbR,up0,upy,Qc4 ha1.wf hzk]
 have ez:coL l1 z.kids=coL m.n x.kids+1:=by rw[hz];exact e1
 rw[ez]
 simp only[List.length_append,List.length_singleton]
 omega
structure MkI (m:Mk) (X:List UInt8) (B D:Nat):Prop where
 i:MkInv m X B D
 c:Q9y m
section
variable {m:Mk} {X:List UInt8} {B D:Nat}
theorem MkI.lk (h:MkI m X B D)(t:Txt)(b:List UInt8)(kind f u:Int):MkI (lkF t b kind f u m) (X++Q13 t b f u) (B+1) D:=⟨Qa0 h.i t b kind f u,Q7n h.i h.c kind _⟩
theorem MkI.wrong (h:MkI m X B D)(t:Txt)(c f u:Int):MkI (QP t c f u m) X B (D+1):=⟨Q1L h.i t c f u,h.c⟩
theorem MkI.start (h:MkI m X B D)(t:Txt)(b:List UInt8)(hr:t.r.length≤1000000)(kind f u:Int):MkI (Q1u t b kind f u m) (X++Q13 t b f u) (B+3) (D+2):=by
 refine⟨Qb4 h.i t b hr kind f u,?_⟩
 unfold Q1u
 split
 ·exact ((h.wrong t 5 f u).lk t b kind f u).c
 ·exact Q7n (Qda h.i (Qo t f u) (Nat.le_trans (Qa7 t f u) hr)) (Qkn h.c _) kind _
theorem MkI.miss (h:MkI m X B D)(hs:2≤m.s.length)(t:Txt)(a:Int):MkI (Q2x t a m) X B D:=⟨(Q4B h.i hs t a).1,Qfu (Q1L h.i t 4 a a) h.c hs 22 []⟩
end
theorem MkI.missGo (t:Txt)(f:Int)(k:Nat){X:List UInt8}{B D:Nat}:∀ (n:Nat) (m:Mk),MkI m X B D→k+1≤m.s.length→m.s.length≤n+k+1→MkI (missGo t f k n m) X B D∧(Go.Proofs.YthbjpdijafccjaaGreat.missGo t f k n m).s.length=k+1
 |0,m,h,h1,h2=>⟨h,by show m.s.length=_;omega⟩
 |n+1,m,h,h1,h2=>by
  show MkI (if _ then _ else _) X B D∧(if _ then _ else _:Mk).s.length=_
  split
  ·have h3:=Q4B h.i (by omega) t f
   exact MkI.missGo t f k n _ (h.miss (by omega) t f) (by omega) (by omega)
  ·exact⟨h,by omega⟩
section
variable {m:Mk} {X:List UInt8} {B D:Nat}
theorem MkI.end_ (h:MkI m X B D)(t:Txt)(b:List UInt8)(kind f u:Int):MkI (Q2I t b kind f u m) (X++Q13 t b f u) (B+1) (D+1):=by
 refine⟨Qfb h.i t b kind f u,?_⟩
 unfold Q2I
 have h1:=h.i.s1
 have h2:=Q4D m.s (Qo t f u) (m.s.length-1)
 simp only
 split
 ·exact ((h.wrong t 3 f u).lk t b kind f u).c
 ·obtain⟨h3,h4⟩:=MkI.missGo t f (Q1F m.s (Qo t f u) (m.s.length-1)) m.s.length m h (by omega) (by omega)
  exact Qfu h3.i h3.c (by omega) kind _
theorem MkI.token (h:MkI m X B D)(t:Txt)(b:List UInt8)(hr:t.r.length≤1000000)(kind f u:Int)(wh:Bool):MkI (Q1Y t b kind f u wh m) (X++Q13 t b f u) (B+3) (D+3):=by
 refine⟨QgN h.i t b hr kind f u wh,?_⟩
 unfold Q1Y
 simp only
 generalize hm1:(if wh=false then QP t 1 f u m else if (kind=8∨kind=9∨kind=10)∧(QR t.r f u).right=false then QP t 2 f u m else m)=m1
 have h1:∃ D',MkI m1 X B D':=by
  rw[←hm1]
  split
  ·exact⟨_,h.wrong t 1 f u⟩
  ·split
   ·exact⟨_,h.wrong t 2 f u⟩
   ·exact⟨_,h⟩
 obtain⟨D',h1⟩:=h1
 split
 ·exact (h1.start t b hr kind f u).c
 ·split
  ·exact (h1.end_ t b kind f u).c
  ·exact (h1.lk t b kind f u).c
end
theorem Q9z {t:Txt}{b:List UInt8}(ok:TxtOk t b)(hr:t.r.length≤1000000):∀ (n k:Nat) (m:Mk) (B D:Nat),t.r.length-k≤n→k≤t.r.length→MkI m (Q5R t b k) B D →
  MkI ((Q1U t.r k).foldl (Q63 t b) m) b (B+3 * n) (D+3 * n)
 |0,k,m,B,D,h,hk,hi=>by
  rw[Q1q (by omega)]
  have:k=t.r.length:=by omega
  subst this
  rw[Q9J ok] at hi
  exact hi
 |n+1,k,m,B,D,h,hk,hi=>by
  by_cases hlt:k<t.r.length
  ·obtain⟨h1,h2,h3,h4⟩:=Q84 t.r hlt
   rw[Q1W hlt,List.foldl_cons]
   have:=hi.token t b hr (Q11 t.r k).kind (Q11 t.r k).from_ (Q11 t.r k).to (Q11 t.r k).whole
   rw[h1,h2,Q5K ok (by omega) (by omega) (by omega)] at this
   have h5:=Q9z ok hr n (Qk t.r k).2.1 _ (B+3) (D+3) (by omega) h4 this
   rw[show B+3 * (n+1)=B+3+3 * n by omega,show D+3 * (n+1)=D+3+3 * n by omega]
   have e:Q63 t b m (Q11 t.r k)=Q1Y t b (Q11 t.r k).kind k ((Qk t.r k).2.1:Nat) (Q11 t.r k).whole m:=rfl
   rw[e]
   exact h5
  ·rw[Q1q hlt]
   have:k=t.r.length:=by omega
   subst this
   rw[Q9J ok] at hi
   exact⟨hi.i.mono (by omega) (by omega),hi.c⟩
theorem Qbj {t:Txt}{b:List UInt8}(ok:TxtOk t b)(hr:t.r.length≤1000000){m:Mk}{B D:Nat}(hi:MkI m (Q5R t b 0) B D) :
  MkI (Q86 t b m) b (B+3 * t.r.length) (D+3 * t.r.length)∧(Q86 t b m).s.length=1:=by
 have h1:=Q9z ok hr t.r.length 0 m B D (by omega) (by omega) hi
 have h2:=h1.i.s1
 obtain⟨h3,h4⟩:=MkI.missGo t t.r.length 0 _ _ h1 (by omega) (Nat.le_succ _)
 exact⟨h3,h4⟩
theorem Qcl {b:List UInt8}{m:Mk}{B D:Nat}(hi:MkI m b B D)(h1:m.s.length=1) :
  Ar (Q15 m).n∧pr (Q15 m).n m.n.length=b∧(Qj (Q15 m).n m.n.length).width=b.length∧co (Q15 m).n m.n.length≤1+m.n.length:=by
 have hk:=hi.i.top
 obtain⟨ha,hp⟩:=Q6M hi.i.ar 20 hk
 obtain⟨s0,hs0⟩:=Q25 hi.i.s1
 have hs:s0=[]:=by
  rw[hs0] at h1
  exact List.eq_nil_of_length_eq_zero (by simpa using h1)
 subst hs
 have hX:(QO m.s).kids.flatMap (pr m.n)=b:=by
  have:=hi.i.p
  rw[hs0] at this
  generalize QO m.s=y at *
  simpa[prK] using this
 have hC:coL m.n (QO m.s).kids≤m.n.length:=by
  have h2:coK m.n m.s≤m.n.length:=hi.c
  rw[hs0] at h2
  generalize QO m.s=y at *
  simpa[coK] using h2
 have hlen:(m.n.length:Int)<((Q15 m).n.length:Int):=by
  show (m.n.length:Int)<((m.n++[_]).length:Int)
  simp only[List.length_append,List.length_singleton];omega
 have e2:pr (Q15 m).n m.n.length=b:=by
  show pr (m.n++[_]) _=_
  rw[hp,hX]
 refine⟨ha,e2,?_,?_⟩
 ·have:=ha.wide m.n.length (by omega) hlen
  have e3:(Qj (Q15 m).n m.n.length).width=((pr (Q15 m).n m.n.length).length:Int):=this
  rw[e3,e2]
 ·show co (m.n++[Q1e m.n 20 (QO m.s).kids]) m.n.length≤_
  rw[Qc4 hi.i.ar.wf (x:=Q1e m.n 20 (QO m.s).kids) hk]
  have:coL m.n (Q1e m.n 20 (QO m.s).kids).kids≤m.n.length:=hC
  omega
end Go.Proofs.YthbjpdijafccjaaGreat
namespace Go.Proofs.YthbjpdijafccjaaGreat
open Go.RowKit Go.Lib Tryz
def Q9v (t:Txt)(b:List UInt8)(k f u:Int)(w:Bool)(N D S:List AV):List AV:=Q7 (Q1Y t b k f u w (mkB N D S)).n
def Q9C (t:Txt)(b:List UInt8)(k f u:Int)(w:Bool)(N D S:List AV):List AV:=QC (Q1Y t b k f u w (mkB N D S)).d
def Q8V (t:Txt)(b:List UInt8)(k f u:Int)(w:Bool)(N D S:List AV):List AV:=Qh (Q1Y t b k f u w (mkB N D S)).s
theorem Ql9 (t:Txt)(b:List UInt8)(k f u:Int)(w:Bool)(m:Mk):Q9v t b k f u w (Q7 m.n) (QC m.d) (Qh m.s)=Q7 (Q1Y t b k f u w m).n:=by rw[Q9v,Q2d]
theorem Qla (t:Txt)(b:List UInt8)(k f u:Int)(w:Bool)(m:Mk):Q9C t b k f u w (Q7 m.n) (QC m.d) (Qh m.s)=QC (Q1Y t b k f u w m).d:=by rw[Q9C,Q2d]
theorem Qkq (t:Txt)(b:List UInt8)(k f u:Int)(w:Bool)(m:Mk):Q8V t b k f u w (Q7 m.n) (QC m.d) (Qh m.s)=Qh (Q1Y t b k f u w m).s:=by rw[Q8V,Q2d]
def QbV (p:Pr)(TK:List AV)(tn td ts:Int→Int→Int→Bool→List AV→List AV→List AV→List AV)(mn md ms:Int→List AV→List AV→List AV→List AV)(br:Int→List AV→List AV→List AV):Nat→List AV→List Ob→Option (AV×List Ob):=fun f args ob=>match f,args with
 |29,[.slc 1 _]=>some (.slc 4 TK,[])
 |30,[.box 0 0,.agg [.val (.int .i64 kind),.val (.int .i64 f),.val (.int .i64 u),.val (.bool wh)]]=>Q3t ob fun b k m r o rt N D S=>some (.tup [],obM 1 b k m r o rt (tn kind f u wh N D S) (td kind f u wh N D S) (ts kind f u wh N D S))
 |31,[.box 0 0,.val (.int .i64 a)]=>Q3t ob fun b k m r o rt N D S=>some (.tup [],obM 1 b k m r o rt (mn a N D S) (md a N D S) (ms a N D S))
 |32,[.box 0 0,.val (.int .i64 k),.slc 1 ks]=>match ob with
  | [.box [.row 1 0],.row 91 6 false 0 N]=>some (.tup [.val (.int .i64 (p.len N)),.val (.int .i64 0)],[.box [.row 1 1],.row 91 6 false 1 (br k ks N)])
  |_=>none
 |_,_=>none
def alO:OT:=.then [0,1,2,4,5,6,7,8,9,10,11,12,13,14,15,16,17] (.fork (.of [3,18,19,20,21,22,23,24]) (.of [18,19,20,21,3,22,23,24]))
theorem QbZ (l:List Int):∀ n k:Nat,l.length-k≤n→(Q1U l k).length≤n
 |0,k,h=>by rw[Q1q (by omega)];exact Nat.le_refl _
 |n+1,k,h=>by
  by_cases hk:k<l.length
  ·have:=Q3I l k hk
   rw[Q1W hk,List.length_cons]
   have:=QbZ l n (Qk l k).2.1 (by omega)
   omega
  ·rw[Q1q hk];exact Nat.zero_le _
theorem Qld (t:Txt)(b:List UInt8)(hs:Sml t b)(rt:Int)(m:Mk)(B D:Nat)(iv:MkI m (Q5R t b 0) B D)(hB:B+3 * t.r.length≤600000)(hD:D+3 * t.r.length≤600000) :
  BCall prog 15 [.box 0 0] (obT 0 t b rt m) (.tup []) (obT 1 t b (Q86 t b m).n.length (Q15 (Q86 t b m))):=by
 have cT:=QiO t.r hs.hr
 obtain⟨toks,htk⟩:=exq (Q5P t.r)
 rw[←htk] at cT
 have hnl:toks.length≤1000000:=by
  have:=QbZ t.r t.r.length 0 (by omega)
  rw[htk];exact Nat.le_trans this hs.hr
 obtain⟨n,hn⟩:=Qy toks
 obtain⟨M0,hM0⟩:=exq (toks.foldl (Q63 t b) m)
 obtain⟨M1,hM1⟩:=exq (Q86 t b m)
 have hM01:M1=missGo t t.r.length 0 M0.s.length M0:=by rw[hM1,hM0,htk];rfl
 rw[←hM1]
 obtain⟨E,hE⟩:=exq (Q15 M1)
 unfold obT obM
 refine fnO false (cs:=QbV std (Q1i toks) (Q9v t b) (Q9C t b) (Q8V t b) (Q5u t) (Q5o t) (Q5a t) brA) (ord:=fun id=>match id with|7=> alO|_=>.nil) func15 rfl (by kernel_rfl) ?_
 intro w0 g0
 generalize hp:std=p,hTK:Q1i toks=TK,htn:Q9v t b=tn,htd:Q9C t b=td,hts:Q8V t b=ts,hmn:Q5u t=mn,hmd:Q5o t=md,hms:Q5a t=ms,hbr:brA=br,hN:Q7 m.n=N,hD':QC m.d=D',hS:Qh m.s=S,hB':Q2 b=B',hR:Q0 t.r=R,hO:Q8 t.off=O,hK:t.kind=K,hM:t.bom=M
 generalize hT:Q5 p tys (QbV p TK tn td ts mn md ms br) _ _ _ _=T
 cbv at hT
 subst hT
 simp only[Tree.ok,Q1,S0]
 subst hp hTK htn htd hts hmn hmd hms hbr hN hD' hS hB' hR hO hK hM
 have tlen:=Q7O toks
 have hnm:std.len (Q1i toks)=n:=by show ((Q1i toks).length:Int)=n;rw[tlen,hn.eq]
 refine⟨cT,?_⟩
 refine Q1r (cs:=QbV std (Q1i toks) (Q9v t b) (Q9C t b) (Q8V t b) (Q5u t) (Q5o t) (Q5a t) brA) (by kernel_rfl) (X:=Int×Mk×Nat) (fun x=>⟨[(0,.box 0 0),(12,.slc 4 (Q1i toks)),(13,.val (.int .i64 n)),(14,.val (.int .i64 x.1))],[.box [.slc 1 (Q2 b),.box 1 0,.row 5 1],.box [.val (.int .i64 t.kind),.val (.int .i64 t.bom),.slc 1 (Q0 t.r),.slc 1 (Q8 t.off),.box 2 0,.val (.int .i64 rt),.row 4 1],.box [.row 3 1],.row 91 6 false 1 (Q7 x.2.1.n),.row 53 3 false 1 (QC x.2.1.d),.row 62 2 false 1 (Qh x.2.1.s)]⟩) (fun x=>0≤x.1∧x.1≤n∧x.2.2≤t.r.length∧Q1U t.r x.2.2=toks.drop x.1.toNat∧MkI x.2.1 (Q5R t b x.2.2) (B+3 * x.2.2) (D+3 * x.2.2)∧(toks.drop x.1.toNat).foldl (Q63 t b) x.2.1=M0) (fun x=>(n-x.1).toNat) (0,m,0) ?_ ?_ ?_
 ·have:=hn.eq
  exact⟨Int.le_refl _,by simp only;omega,Nat.zero_le _,by rw[htk];rfl,iv,hM0.symm⟩
 ·refine⟨[some 0,some 1,some 2,some 3,some 4,some 5],_,rfl,?_⟩
  repeat first
   |exact trivial
   |refine⟨rfl,?_⟩
   |refine⟨hnm,?_⟩
   |refine⟨gI (hnm),?_⟩
   |refine⟨gA (hnm),?_⟩
   |refine⟨gB (hnm),?_⟩
   |refine⟨gR (hnm),?_⟩
   |refine⟨gT (hnm),?_⟩
 ·rintro⟨i,x,k⟩ ⟨hi0,hi1,hk,hd,hv,hf⟩
  simp only at hi0 hi1 hk hd hv hf
  have okx:=hv.i.ok (by omega) (by omega)
  rcases Int.lt_or_eq_of_le hi1 with hlt|heq
  ·have en:=hn.eq
   have hil:i.toNat<toks.length:=by omega
   have hkl:k<t.r.length:=by
    by_cases h:k<t.r.length
    ·exact h
    ·rw[Q1q h] at hd
     have:=congrArg List.length hd
     rw[List.length_drop] at this
     simp at this
     omega
   obtain⟨t1,t2,t3,t4⟩:=Q84 t.r hkl
   have hdr:toks.drop i.toNat=Q11 t.r k::Q1U t.r (Qk t.r k).2.1:=by rw[←hd,Q1W hkl]
   have hxe:toks[i.toNat]?=some (Q11 t.r k):=by rw[←List.head?_drop,hdr];rfl
   have hdn:Q1U t.r (Qk t.r k).2.1=toks.drop (i+1).toNat:=by
    rw[show (i+1).toNat=i.toNat+1 by omega,←List.tail_drop,hdr];rfl
   have hat:(Q1i toks).getD i.toNat .dead=(Q11 t.r k).av:=by
    rw[List.getD_eq_getElem?_getD,Q1i,List.getElem?_map,hxe];rfl
   have hin:InT t (Q11 t.r k).from_ (Q11 t.r k).to:=⟨by omega,by omega,by omega⟩
   have hXl:(Q5R t b k).length≤1000000:=by
    have:=hs.hb
    rw[Q5R,List.length_take];omega
   have c:=Qk9 t b hs rt x (Q5R t b k) (B+3 * k) (D+3 * k) hv.i (by omega) (by omega) hXl (Q11 t.r k).kind (Q11 t.r k).from_ (Q11 t.r k).to (Q11 t.r k).whole hin
   have hv2:MkI (Q63 t b x (Q11 t.r k)) (Q5R t b (Qk t.r k).2.1) (B+3 * (Qk t.r k).2.1) (D+3 * (Qk t.r k).2.1):=by
    have:=hv.token t b hs.hr (Q11 t.r k).kind (Q11 t.r k).from_ (Q11 t.r k).to (Q11 t.r k).whole
    rw[t1,t2,Q5K hs.ok (by omega) (by omega) (by omega)] at this
    have e:Q63 t b x (Q11 t.r k)=Q1Y t b (Q11 t.r k).kind k ((Qk t.r k).2.1:Nat) (Q11 t.r k).whole x:=rfl
    rw[e]
    exact⟨this.i.mono (by omega) (by omega),this.c⟩
   have hf2:(toks.drop (i+1).toNat).foldl (Q63 t b) (Q63 t b x (Q11 t.r k))=M0:=by
    rw[hdr,List.foldl_cons] at hf
    rw[←hdn];exact hf
   obtain⟨y,hy⟩:=exq (Q11 t.r k)
   obtain⟨k2,hk2⟩:=exq ((Qk t.r k).2.1)
   rw[←hy] at hat hin c hv2 hf2
   rw[←hk2] at hv2 hdn t4
   clear en t1 t2 t3 hdr hxe hd hf hy hk2 hkl
   generalize hp:std=p,hTK:Q1i toks=TK,htn:Q9v t b=tn,htd:Q9C t b=td,hts:Q8V t b=ts,hmn:Q5u t=mn,hmd:Q5o t=md,hms:Q5a t=ms,hbr:brA=br,hN:Q7 x.n=N,hD':QC x.d=D',hS:Qh x.s=S,hB':Q2 b=B',hR:Q0 t.r=R,hO:Q8 t.off=O,hK:t.kind=K,hM:t.bom=M
   generalize hT:Q5 p tys (QbV p TK tn td ts mn md ms br) _ _ _ _=T
   cbv at hT
   subst hT
   simp only[Tree.ok,Q1,S0]
   subst hp hTK htn htd hts hmn hmd hms hbr hN hD' hS hB' hR hO hK hM
   unfold obT obM at c
   simp only[std,hat,Tok.av,AV.cells,List.getD_cons_zero,List.getD_cons_succ,intOf,Q5e,Q3p,Ql9,Qla,Qkq,decide_eq_true_eq,decide_eq_false_iff_not]
   refine⟨fun _=>⟨?_,⟨trivial,trivial,trivial,trivial,trivial⟩,c,?_,(i+1,Q63 t b x y,k2),⟨?_,?_,t4,hdn,hv2,hf2⟩,?_,[some 0,some 1,some 2,some 3,some 4,some 5],_,rfl,?_⟩,fun h=>?_⟩
   ·have:=hn.eq
    rw[tlen];omega
   ·have:=hn.eq
    have:=hs.hr
    show (-9223372036854775808:Int)≤i+1∧i+1≤(9223372036854775807:Int)
    omega
   ·show 0≤i+1
    omega
   ·show i+1≤n
    omega
   ·show (n-(i+1)).toNat<(n-i).toNat
    omega
   ·simp[Qe,lk,Q63]
   ·omega
  ·have hd0:toks.drop i.toNat=[]:=List.drop_eq_nil_of_le (by have:=hn.eq;omega)
   rw[hd0] at hd hf
   have hxM:x=M0:=hf
   have hkr:k=t.r.length:=by
    by_cases h:k<t.r.length
    ·rw[Q1W h] at hd;cases hd
    ·omega
   subst hxM
   rw[heq]
   clear hd hf hd0 hk
   have hlr:(t.r.length:Int)=t.r.length:=rfl
   obtain⟨rl,hrl⟩:=Qy t.r
   generalize hp:std=p,hTK:Q1i toks=TK,htn:Q9v t b=tn,htd:Q9C t b=td,hts:Q8V t b=ts,hmn:Q5u t=mn,hmd:Q5o t=md,hms:Q5a t=ms,hbr:brA=br,hN:Q7 x.n=N,hD':QC x.d=D',hS:Qh x.s=S,hB':Q2 b=B',hR:Q0 t.r=R,hO:Q8 t.off=O,hK:t.kind=K,hM:t.bom=M
   generalize hT:Q5 p tys (QbV p TK tn td ts mn md ms br) _ _ _ _=T
   cbv at hT
   subst hT
   simp only[Tree.ok,Q1,S0]
   subst hp hTK htn htd hts hmn hmd hms hbr hN hD' hS hB' hR hO hK hM
   refine⟨fun h=>?_,fun _=>?_⟩
   ·have h:n<n:=of_decide_eq_true h
    omega
   rw[if_pos trivial]
   generalize hp:std=p,hTK:Q1i toks=TK,htn:Q9v t b=tn,htd:Q9C t b=td,hts:Q8V t b=ts,hmn:Q5u t=mn,hmd:Q5o t=md,hms:Q5a t=ms,hbr:brA=br,hN:Q7 x.n=N,hD':QC x.d=D',hS:Qh x.s=S,hB':Q2 b=B',hR:Q0 t.r=R,hO:Q8 t.off=O,hK:t.kind=K,hM:t.bom=M
   generalize hT:Q5 p tys (QbV p TK tn td ts mn md ms br) _ _ _ _=T
   cbv at hT
   subst hT
   simp only[Tree.ok,Q1,S0]
   subst hp hTK htn htd hts hmn hmd hms hbr hN hD' hS hB' hR hO hK hM
   rw[hkr,Q9J hs.ok] at hv
   have hv0:MkI x b (B+3 * t.r.length) (D+3 * t.r.length):=hv
   have hrl2:std.len (Q0 t.r)=rl:=by show ((Q0 t.r).length:Int)=rl;rw[Qi,hrl.eq]
   clear hv hkr hlr okx heq hi0 hi1
   refine Q1r (cs:=QbV std (Q1i toks) (Q9v t b) (Q9C t b) (Q8V t b) (Q5u t) (Q5o t) (Q5a t) brA) (by kernel_rfl) (X:=Mk) (fun x=>⟨[(0,.box 0 0)],[.box [.slc 1 (Q2 b),.box 1 0,.row 5 1],.box [.val (.int .i64 t.kind),.val (.int .i64 t.bom),.slc 1 (Q0 t.r),.slc 1 (Q8 t.off),.box 2 0,.val (.int .i64 rt),.row 4 1],.box [.row 3 1],.row 91 6 false 1 (Q7 x.n),.row 53 3 false 1 (QC x.d),.row 62 2 false 1 (Qh x.s)]⟩) (fun x=>MkI x b (B+3 * t.r.length) (D+3 * t.r.length)∧missGo t t.r.length 0 x.s.length x=M1) (fun x=>x.s.length) x ?_ ?_ ?_
   ·exact⟨hv0,hM01.symm⟩
   ·exact⟨[some 0,some 1,some 2,some 3,some 4,some 5],_,rfl,by simp[Qe,lk,std]⟩
   ·rintro y ⟨hv,hg⟩
    have oky:=hv.i.ok (by omega) (by omega)
    have ylen:=Q3y y.s
    obtain⟨LY,hLY⟩:=Qy y.s
    generalize hp:std=p,hTK:Q1i toks=TK,htn:Q9v t b=tn,htd:Q9C t b=td,hts:Q8V t b=ts,hmn:Q5u t=mn,hmd:Q5o t=md,hms:Q5a t=ms,hbr:brA=br,hN:Q7 y.n=N,hD':QC y.d=D',hS:Qh y.s=S,hB':Q2 b=B',hR:Q0 t.r=R,hO:Q8 t.off=O,hK:t.kind=K,hM:t.bom=M
    generalize hT:Q5 p tys (QbV p TK tn td ts mn md ms br) _ _ _ _=T
    cbv at hT
    subst hT
    simp only[Tree.ok,Q1,S0]
    subst hp hTK htn htd hts hmn hmd hms hbr hN hD' hS hB' hR hO hK hM
    have hly:std.len (Qh y.s)=LY:=by show ((Qh y.s).length:Int)=LY;rw[ylen,hLY.eq]
    simp only[QeY,QfH,QfF]
    refine⟨fun hgt=>?_,fun hle=>?_⟩
    ·have hgt:1<std.len (Qh y.s):=of_decide_eq_true hgt
     rw[hly] at hgt
     have hy2:2≤y.s.length:=by have:=hLY.eq;omega
     have hrr:=hrl.eq
     have hol:=hs.ok.len
     have c:=Qhi t b rt hv.i (by omega) (by omega) hs.hb t.r.length (by omega) hy2
     have erl:(t.r.length:Int)=std.len (Q0 t.r):=by rw[hrl2];exact hrr.symm
     rw[erl] at c
     refine⟨c,Q2x t (std.len (Q0 t.r)) y,⟨by rw[←erl];exact hv.miss hy2 t t.r.length,?_⟩,by rw[Q7p];omega,[some 0,some 1,some 2,some 3,some 4,some 5],_,rfl,by simp[Qe,lk,std]⟩
     rw[←erl,←Q8x (by omega)];exact hg
    ·have hle:¬ 1<std.len (Qh y.s):=of_decide_eq_false hle
     rw[hly] at hle
     have hy1:y.s.length=1:=by have:=hLY.eq;have:=hv.i.s1;omega
     have hyM:y=M1:=by rw[←hg,Q9Y (by omega)]
     subst hyM
     clear hle hly
     rw[if_pos trivial]
     generalize hp:std=p,hTK:Q1i toks=TK,htn:Q9v t b=tn,htd:Q9C t b=td,hts:Q8V t b=ts,hmn:Q5u t=mn,hmd:Q5o t=md,hms:Q5a t=ms,hbr:brA=br,hN:Q7 y.n=N,hD':QC y.d=D',hS:Qh y.s=S,hB':Q2 b=B',hR:Q0 t.r=R,hO:Q8 t.off=O,hK:t.kind=K,hM:t.bom=M
     generalize hT:Q5 p tys (QbV p TK tn td ts mn md ms br) _ _ _ _=T
     cbv at hT
     subst hT
     simp only[Tree.ok,Q1,S0]
     subst hp hTK htn htd hts hmn hmd hms hbr hN hD' hS hB' hR hO hK hM
     obtain⟨o,ho⟩:∃ o,y.s=[o]:=List.length_eq_one_iff.1 hy1
     have hto:QO y.s=o:=by rw[ho];rfl
     have hcell:std.nth (std.drp (std.cel (std.at_ (Qh y.s) 0)) 1) 0=slK (QO y.s).kids:=by rw[hto,ho];rfl
     have hlst:std.lst (slK (QO y.s).kids)=Q8 (QO y.s).kids:=by cases (QO y.s).kids<;>rfl
     have hcl2:std.lst (std.nth (std.drp (std.cel (std.at_ (Qh y.s) 0)) 1) 0)=Q8 (QO y.s).kids:=by rw[hcell,hlst]
     have hflat:((QO y.s).kids.flatMap (pr y.n)).length≤b.length:=by
      have:=hv.i.p
      rw[hto,←this,ho]
      simp[prK]
     have hkl:(QO y.s).kids.length≤900000:=oky.top
     have cB:=QcF y.n (by have:=oky.n;omega) 20 (QO y.s).kids (by omega) hv.i.top hv.i.ar.ok.w hv.i.ar.ok.c (MkInv.sum hv.i.ar hv.i.top hflat (by have:=hs.hb;omega))
     rw[←QbY,←Q1g,←hcl2] at cB
     have hnl2:=Q1g y.n
     have fin:brA 20 (std.lst (std.nth (std.drp (std.cel (std.at_ (Qh y.s) 0)) 1) 0)) (Q7 y.n)=Q7 (Q15 y).n:=by
      rw[hcl2,QbY];rfl
     have e0:std.len (Q7 y.n)=(y.n.length:Int):=by show ((Q7 y.n).length:Int)=_;rw[hnl2]
     refine⟨?_,⟨?_,trivial⟩,⟨cB,?_⟩,cB,?_⟩
     ·show 0≤(0:Int)∧(0:Int)<std.len (Qh y.s)
      show 0≤(0:Int)∧(0:Int)<((Qh y.s).length:Int)
      rw[ylen,hy1];decide
     ·show std.hasL 1 (std.nth (std.drp (std.cel (std.at_ (Qh y.s) 0)) 1) 0)
      rw[hcell]
      rcases Qjm (QO y.s).kids with h|h
      ·exact .inl (by rw[h];rfl)
      ·exact .inr h.1
     all_goals
      refine⟨[some 0,some 1,some 2,some 3,some 4,some 5],.tup [],_,rfl,rfl,Nat.le_of_ble_eq_true rfl,rfl,?_,trivial⟩
      repeat first
       |exact trivial
       |refine⟨rfl,?_⟩
       |refine⟨e0,?_⟩
       |refine⟨gI (e0),?_⟩
       |refine⟨gA (e0),?_⟩
       |refine⟨gB (e0),?_⟩
       |refine⟨gR (e0),?_⟩
       |refine⟨gT (e0),?_⟩
       |refine⟨fin,?_⟩
       |refine⟨gI (fin),?_⟩
       |refine⟨gA (fin),?_⟩
       |refine⟨gB (fin),?_⟩
       |refine⟨gR (fin),?_⟩
       |refine⟨gT (fin),?_⟩
def mk0:Mk:=⟨[],[],[⟨[],[]⟩]⟩
def Qih (bs:List UInt8):Mk:=Q2N 0 (Q1J (Qu 23 bs) mk0)
def Q3v (b:List UInt8):Mk:=if 0<(QQ b).2 then Qih (b.take (QQ b).2.toNat) else mk0
def QG (b:List UInt8):Mk:=Q86 (Qd b) b (Q3v b)
def Q96 (t:Txt)(m:Mk):AV:=.agg [.val (.int .i64 t.kind),.val (.int .i64 t.bom),.slc 1 (Q0 t.r),.slc 1 (Q8 t.off),.ref [.slc 6 (Q7 (Q15 m).n)],.val (.int .i64 m.n.length),.slc 3 (QC m.d)]
def Qlc (kd bm:Int)(R O:List AV)(rt:Int)(an ad asx N1 S1:List AV):Nat→List AV→List Ob→Option (AV×List Ob):=fun f args ob=>match f,args with
 |11,[.slc 1 _]=>some (.agg [.val (.int .i64 kd),.val (.int .i64 bm),.slc 1 R,.slc 1 O],[])
 |12,[]=>some (.box 0 0,[.box [.val (.slice none 0 0)]])
 |14,[.box 0 0,.val (.int .i64 _),.slc 1 _]=>match ob with
  | [.box [.val (.slice none 0 0)]]=>some (.val (.int .i64 0),[.box [.row 1 1],.row 91 6 false 1 N1])
  |_=>none
 |13,[.box 0 0,.val (.int .i64 _)]=>match ob with
  | [.box [b,.box 1 0,.row 4 0],.box [k,m,r,o,.box 2 0,q,.val (.slice none 0 0)],.box [.row 3 0],.row 91 6 false 0 N,.row 62 2 false 0 _] =>
   some (.tup [],[.box [b,.box 1 0,.row 4 1],.box [k,m,r,o,.box 2 0,q,.row 5 1],.box [.row 3 1],.row 91 6 false 1 N,.row 62 2 false 1 S1,.row 53 3 false 1 []])
  |_=>none
 |15,[.box 0 0]=>match ob with
  | [.box [b,.box 1 0,.row 3 0],.box [k,m,r,o,.box 2 0,_,.val (.slice none 0 0)],.box [.val (.slice none 0 0)],.row 62 2 false 0 _] =>
   some (.tup [],[.box [b,.box 1 0,.row 3 1],.box [k,m,r,o,.box 2 0,.val (.int .i64 rt),.row 4 1],.box [.row 5 1],.row 62 2 false 1 asx,.row 53 3 false 1 ad,.row 91 6 false 1 an])
  |_=>Q3t ob fun b k m r o _ _ _ _=>some (.tup [],obM 1 b k m r o (.val (.int .i64 rt)) an ad asx)
 |_,_=>none
theorem mk0_inv:MkI mk0 [] 2 2 :=
 have h:∀ x∈mk0.s,x=⟨[],[]⟩:=fun x hx=>by simpa[mk0] using hx
 ⟨⟨QlX,(fun x hx=>by rw[h x hx];exact fun k hk=>by cases hk),rfl,Nat.le_refl _,Nat.le_refl _,Nat.le_refl _,Nat.le_refl _,(fun x hx=>by rw[h x hx];exact Nat.zero_le _)⟩,Nat.le_refl _⟩
theorem Qj6 (bs:List UInt8):MkI (Qih bs) bs 3 2:=by
 have h:=mk0_inv
 have ha:=Q3w h.i.ar 23 bs
 exact⟨QfI h.i ha.1 ha.2,Q7n h.i h.c 23 bs⟩
theorem Qh0 (b:List UInt8):Q5R (Qd b) b 0=b.take (QQ b).2.toNat:=by
 rw[Q5R,Q1x,show (0:Int).toNat=0 from rfl,(Q3D b).2.1]
theorem Q6v (b:List UInt8):MkI (Q3v b) (Q5R (Qd b) b 0) 3 2:=by
 rw[Qh0,Q3v]
 have hb:=Q48 b
 split
 ·exact Qj6 _
 ·have:(QQ b).2=0:=by omega
  rw[this]
  exact⟨mk0_inv.i.mono (by omega) (Nat.le_refl _),mk0_inv.c⟩
theorem Q66 (b:List UInt8)(hb:b.length≤100000):Sml (Qd b) b:=⟨by omega,Nat.le_trans (Q3D b).2.2.1 (by omega),(Q3D b).1⟩
theorem Qk1 (t:Txt)(b:List UInt8)(hs:Sml t b)(B D:Nat)(iv:MkI mk0 (Q5R t b 0) B D)(hB:B+3 * t.r.length≤600000)(hD:D+3 * t.r.length≤600000) :
  BCall prog 15 [.box 0 0] [.box [.slc 1 (Q2 b),.box 1 0,.row 3 0],.box [.val (.int .i64 t.kind),.val (.int .i64 t.bom),.slc 1 (Q0 t.r),.slc 1 (Q8 t.off),.box 2 0,.val (.int .i64 0),.val (.slice none 0 0)],.box [.val (.slice none 0 0)],.row 62 2 false 0 (Qh mk0.s)] (.tup [])
   [.box [.slc 1 (Q2 b),.box 1 0,.row 3 1],.box [.val (.int .i64 t.kind),.val (.int .i64 t.bom),.slc 1 (Q0 t.r),.slc 1 (Q8 t.off),.box 2 0,.val (.int .i64 (Q86 t b mk0).n.length),.row 4 1],.box [.row 5 1],.row 62 2 false 1 (Qh (Q15 (Q86 t b mk0)).s),.row 53 3 false 1 (QC (Q15 (Q86 t b mk0)).d),.row 91 6 false 1 (Q7 (Q15 (Q86 t b mk0)).n)]:=by
 have h:=Qld t b hs 0 mk0 B D iv hB hD
 unfold obT obM at h
 exact h.tell [some 0,some 1,some 2,none,none,some 3] [some 0,some 1,some 2,some 5,some 4,some 3] rfl rfl rfl (Nat.le_of_ble_eq_true rfl) rfl (by simp[Qe,Q7,QC,mk0]) (res':=.tup []) rfl (by simp[Qe]) trivial
theorem QjZ (t:Txt)(b:List UInt8)(m:Mk)(hd:m.d=[])(hs:1≤m.s.length)(hn:m.s.length≤1000000)(hk:(QO m.s).kids.length≤1000000)(n:Int) :
  BCall prog 13 [.box 0 0,.val (.int .i64 n)] [.box [.slc 1 (Q2 b),.box 1 0,.row 4 0],.box [.val (.int .i64 t.kind),.val (.int .i64 t.bom),.slc 1 (Q0 t.r),.slc 1 (Q8 t.off),.box 2 0,.val (.int .i64 0),.val (.slice none 0 0)],.box [.row 3 0],.row 91 6 false 0 (Q7 m.n),.row 62 2 false 0 (Qh m.s)] (.tup [])
   [.box [.slc 1 (Q2 b),.box 1 0,.row 4 1],.box [.val (.int .i64 t.kind),.val (.int .i64 t.bom),.slc 1 (Q0 t.r),.slc 1 (Q8 t.off),.box 2 0,.val (.int .i64 0),.row 5 1],.box [.row 3 1],.row 91 6 false 1 (Q7 m.n),.row 62 2 false 1 (Qh (Q1K n m.s)),.row 53 3 false 1 []]:=by
 have h:=Q9W t b 0 m hs hn hk n
 unfold obT obM at h
 exact h.tell [some 0,some 1,some 2,some 3,none,some 4] [some 0,some 1,some 2,some 3,some 5,some 4] rfl rfl rfl (Nat.le_of_ble_eq_true rfl) rfl (by simp[Qe,QC,hd]) (res':=.tup []) rfl (by simp[Qe,QC,Q2N,hd]) trivial
theorem Qfm (b:List UInt8)(hb:b.length≤100000):BCall prog 5 [.slc 1 (Q2 b)] [] (Q96 (Qd b) (QG b)) []:=by
 obtain⟨ok,h1,h2,h3,h4⟩:=Q3D b
 have hs:=Q66 b hb
 have cD:=Qjd b (by omega) (by omega) (fun x hx=>by have:=h4 x hx;omega)
 have hkb:=Q48 b
 have hE:QG b=Q86 (Qd b) b (Q3v b):=rfl
 have hiv:=Q6v b
 have hrl:=hs.hr
 have c0:=fun (h:Q3v b=mk0)=>Qk1 (Qd b) b hs 3 2 (by rw[←h];exact hiv) (by omega) (by omega)
 have c1:=Qld (Qd b) b hs 0 (Q3v b) 3 2 hiv (by omega) (by omega)
 rw[←hE] at c1
 obtain⟨M,hM⟩:=exq (QG b)
 rw[←hM] at c1 hE ⊢
 have cL:=QjG 23 (b.take (QQ b).2.toNat) (by rw[List.length_take];omega)
 have cK:=QjZ (Qd b) b (Q1J (Qu 23 (b.take (QQ b).2.toNat)) mk0) rfl (Nat.le_refl _) (Nat.le_of_ble_eq_true rfl) (Nat.zero_le _) 0
 obtain⟨t,ht⟩:=exq (Qd b)
 have htb:t.bom=(QQ b).2:=by rw[ht];rfl
 rw[←ht] at cD c0 c1 cK hE ⊢
 rw[←htb] at cL cK hkb
 have hf:Q3v b=if 0<t.bom then Qih (b.take t.bom.toNat) else mk0:=by rw[htb];rfl
 obtain⟨nb,hnb⟩:=Qy b
 have hbn:t.bom≤nb:=by rw[hnb.eq];exact hkb.2
 have hb0:=hkb.1
 have hcut:std.cut (Q2 b) 0 t.bom=Q2 (b.take t.bom.toNat):=by
  show ((Q2 b).drop (0:Int).toNat).take (t.bom-0).toNat=_
  simp[Q2,List.map_take]
 have hbl:=Q10 b
 clear h1 h2 h3 h4 hkb hrl
 refine fnN (cs:=Qlc t.kind t.bom (Q0 t.r) (Q8 t.off) M.n.length (Q7 (Q15 M).n) (QC M.d) (Qh M.s) (Q7 [Qu 23 (b.take t.bom.toNat)]) (Qh (Q1K 0 mk0.s))) func5 rfl (by kernel_rfl) ?_
 intro w0 g0
 generalize hp:std=p
 generalize hN1:Q7 [Qu 23 (b.take t.bom.toNat)]=N1
 generalize hS1:Qh (Q1K 0 mk0.s)=S1
 generalize hrt:(M.n.length:Int)=rt
 generalize han:Q7 (Q15 M).n=an
 generalize had:QC M.d=ad
 generalize hasx:Qh M.s=asx
 generalize hbm:t.bom=bm
 generalize hkd:t.kind=kd
 generalize hR:Q0 t.r=R
 generalize hO:Q8 t.off=O
 generalize hB':Q2 b=B'
 generalize hT:Q5 p tys (Qlc kd bm R O rt an ad asx N1 S1) _ _ _ _=T
 cbv at hT
 subst hT
 simp only[Tree.ok,Q1,S0]
 subst hp hN1 hS1 hrt han had hasx hbm hkd hR hO hB'
 refine⟨cD,Qmx,fun h=>⟨?_,?_,cK,?_,.pure rfl ⟨.inl rfl,.inl rfl,.inl rfl,.inl rfl,.inl rfl,.inl rfl,.inl rfl,trivial⟩⟩,fun h=>⟨?_,.pure rfl ⟨.inl rfl,.inl rfl,.inl rfl,.inl rfl,.inl rfl,.inl rfl,.inl rfl,trivial⟩⟩⟩
 ·show 0≤(0:Int)∧0≤t.bom∧t.bom≤((Q2 b).length:Int)
  have:=hnb.eq
  rw[hbl];omega
 ·show BCall _ _ [.box 0 0,.val (.int .i64 23),.slc 1 (std.cut (Q2 b) 0 t.bom)] _ _ _
  rw[hcut];exact cL
 ·have h:0<t.bom:=of_decide_eq_true h
  rw[if_pos h] at hf
  rw[hf] at c1
  exact c1
 ·have h:¬ 0<t.bom:=of_decide_eq_false h
  rw[if_neg h] at hf
  have c:=c0 hf
  rw[hf] at hE
  rw[←hE] at c
  exact c
def QmP (pr:Int→List AV):Nat→List AV→List Ob→Option (AV×List Ob):=fun f args _=>match f,args with
 |43,[.ref [.slc 6 _],.val (.int .i64 n)]=>some (.slc 1 (pr n),[])
 |_,_=>none
def prA (l:List Node)(n:Int):List AV:=Q2 (pr l n)
structure PrOk (l:List Node) (n:Int):Prop where
 len:l.length≤1000000000
 wf:Wf l
 wide:QgH l
 h0:0≤n
 h1:n<l.length
 p:(pr l n).length≤1000000
 c:co l n≤1000000
theorem Qjl (t:Txt)(m:Mk)(h:PrOk (Q15 m).n m.n.length):BCall prog 24 [Q96 t m] [] (.slc 1 (Q2 (pr (Q15 m).n m.n.length))) []:=by
 have cP:=QeT (Q15 m).n h.len h.wf h.wide m.n.length h.h0 h.h1 h.p h.c
 obtain⟨rt,hrt⟩:=exq (m.n.length:Int)
 obtain⟨l,hl⟩:=exq ((Q15 m).n)
 unfold Q96
 rw[←hrt,←hl] at cP ⊢
 clear h
 refine fnN (cs:=QmP (prA l)) func24 rfl (by kernel_rfl) ?_
 intro w0 g0
 generalize hp:std=p,hpr:prA l=pr,hN:Q7 l=N,hR:Q0 t.r=R,hO:Q8 t.off=O,hD':QC m.d=D',hK:t.kind=K,hM:t.bom=M
 generalize hT:Q5 p tys (QmP pr) _ _ _ _=T
 cbv at hT
 subst hT
 simp only[Tree.ok,Q1,S0]
 subst hp hpr hN hR hO hD' hK hM
 exact⟨cP,.pure rfl (.inl rfl)⟩
def QmD (N:List AV):Nat→List AV→List Ob→Option (AV×List Ob):=fun f args _=>match f,args with
 |21,[.ref [.slc 6 _],.val (.int .i64 n)]=>some (.tup [.agg [.ref [.slc 6 N],.val (.int .i64 n),.val (.int .i64 0),.val (.int .i64 0),.opt (.val (.pointer none))],.val (.int .i64 0)],[])
 |_,_=>none
theorem Qba (t:Txt)(m:Mk):BCall prog 8 [Q96 t m] [] (.agg ((Cur.root m.n.length).cs (Q7 (Q15 m).n))) []:=by
 have cR:=QlD (Q15 m).n m.n.length (by omega) (by show (m.n.length:Int)<((m.n++[_]).length:Int);simp only[List.length_append,List.length_singleton];omega)
 obtain⟨rt,hrt⟩:=exq (m.n.length:Int)
 obtain⟨l,hl⟩:=exq ((Q15 m).n)
 unfold Q96
 rw[←hrt,←hl] at cR ⊢
 refine fnN (cs:=QmD (Q7 l)) func8 rfl (by kernel_rfl) ?_
 intro w0 g0
 generalize hp:std=p,hN:Q7 l=N,hR:Q0 t.r=R,hO:Q8 t.off=O,hD':QC m.d=D',hK:t.kind=K,hM:t.bom=M
 generalize hT:Q5 p tys (QmD N) _ _ _ _=T
 cbv at hT
 subst hT
 simp only[Tree.ok,Q1,S0]
 subst hp hN hR hO hD' hK hM
 exact⟨cR,.pure rfl ⟨.inl rfl,.inl rfl,.inl rfl,.inl rfl,.inl rfl,trivial⟩⟩
theorem QjS (b:List UInt8):BCall prog 4 [.slc 1 (Q2 b)] [] (.slc 1 (Q2 (b.take 400))) []:=by
 obtain⟨n,hn⟩:=Qy b
 have hbl:=Q10 b
 have hlen:std.len (Q2 b)=n:=by show ((Q2 b).length:Int)=n;rw[hbl,hn.eq]
 refine fnN (cs:=cs0) func4 rfl (by kernel_rfl) ?_
 intro w0 g0
 generalize hp:std=p,hB':Q2 b=B'
 generalize hT:Q5 p tys (cs0) _ _ _ _=T
 cbv at hT
 subst hT
 simp only[Tree.ok,Q1,S0]
 subst hp hB'
 refine⟨fun h=>⟨?_,.pure rfl (.inl ?_)⟩,fun h=>.pure rfl (.inl ?_)⟩
 ·have h:400<std.len (Q2 b):=of_decide_eq_true h
  show 0≤(0:Int)∧0≤(400:Int)∧(400:Int)≤std.len (Q2 b)
  omega
 ·show AV.slc 1 (((Q2 b).drop (0:Int).toNat).take ((400:Int)-0).toNat)=_
  simp[Q2,List.map_take]
 ·have h:¬ 400<std.len (Q2 b):=of_decide_eq_false h
  have:=hn.eq
  rw[List.take_of_length_le (by omega)]
end Go.Proofs.YthbjpdijafccjaaGreat
namespace Go.Proofs.YthbjpdijafccjaaGreat
open Go.RowKit Go.Lib
def exB:List UInt8:=[60,97,62,60,98,62,60,47,97,62]
theorem Qn0:(QG exB).d=[⟨6,6,4⟩]:=by cbv
theorem Qmz:(toC (Q15 (QG exB)).n (Cur.root (QG exB).n.length) [0,1,1]).map (fun c=>(Qj (Q15 (QG exB)).n c.n).kind)=some 22:=by cbv
end Go.Proofs.YthbjpdijafccjaaGreat
namespace Go.Proofs.YthbjpdijafccjaaGreat
open Go.RowKit Go.Lib Tryz
structure CurIn (l:List Node) (W C:Nat) (c:Cur):Prop where
 h0:0≤c.n
 h1:c.n<l.length
 f0:0≤c.f
 w:c.f+(Qj l c.n).width≤W
 co:co l c.n≤C
theorem QjJ (l:List Node)(ks:List Int):ks.length≤coL l ks:=by
 induction ks with
 |nil=>exact Nat.zero_le _
 |cons k r ih=>have:=Qhu l k;simp only[coL,List.map_cons,List.sum_cons,List.length_cons] at ih ⊢;omega
theorem QjR (l:List Node){ks:List Int}{k:Int}(h:k∈ks):co l k≤coL l ks:=by
 induction ks with
 |nil=>cases h
 |cons x r ih =>
  simp only[coL,List.map_cons,List.sum_cons] at ih ⊢
  rcases List.mem_cons.1 h with rfl|h
  ·omega
  ·have:=ih h;omega
section
variable {l:List Node} {W C:Nat} {c:Cur}
theorem CurIn.kids (ha:Ar l)(h:CurIn l W C c):InR l (Qq l c):=fun k hk=>by
 have h1:=ha.wf c.n h.h0 h.h1 k hk
 have:=h.h1
 omega
theorem CurIn.wide (ha:Ar l)(h:CurIn l W C c):Q1Z l (Qq l c)≤(Qj l c.n).width∧0≤(Qj l c.n).width:=by
 rw[ha.wide c.n h.h0 h.h1,Q7T ha.wide (h.kids ha),Qfd ha.wf h.h0 h.h1,List.length_append]
 show (((Qq l c).flatMap (pr l)).length:Int)≤(((Qj l c.n).b.length+((Qq l c).flatMap (pr l)).length:Nat):Int)∧_
 omega
theorem CurIn.cos (ha:Ar l)(h:CurIn l W C c):1+coL l (Qq l c)≤C:=by
 have:=h.co
 rw[QfJ ha.wf h.h0 h.h1] at this
 exact this
theorem CurIn.ok (ha:Ar l)(h:CurIn l W C c)(hW:W≤2147483647)(hC:C≤1000000):CurOk l c:=by
 have h1:=h.wide ha
 have h2:=h.cos ha
 have h3:=QjJ l (Qq l c)
 have h4:=h.w
 have h5:=h.f0
 exact⟨by omega,by omega,h5,by omega⟩
theorem CurIn.down (ha:Ar l)(h:CurIn l W C c){k:Int}(h0:0≤k)(h1:k<(Qq l c).length):CurIn l W C (Q2z l c k):=by
 have hk:k.toNat<(Qq l c).length:=by omega
 have hx:(Qq l c)[k.toNat]?.getD 0=(Qq l c)[k.toNat]:=by rw[List.getElem?_eq_getElem hk];rfl
 have hm:(Qq l c)[k.toNat]∈Qq l c:=List.getElem_mem hk
 have hr:=h.kids ha _ hm
 have hw:=h.wide ha
 have hc:=h.cos ha
 have hcm:=QjR l hm
 have hs1:=Q5b ha.ok.w ((Qq l c).take k.toNat)
 have hs2:=Q8H ha.ok.w (Qq l c) (k.toNat+1)
 have hs3:Q1Z l ((Qq l c).take (k.toNat+1))=Q1Z l ((Qq l c).take k.toNat)+(Qj l (Qq l c)[k.toNat]).width:=by
  rw[List.take_add_one,List.getElem?_eq_getElem hk]
  show (((Qq l c).take k.toNat++[(Qq l c)[k.toNat]]).map (QT l)).sum=_
  rw[List.map_append,List.sum_append]
  simp[Q1Z,QT]
 have h4:=h.w
 have h5:=h.f0
 refine⟨?_,?_,?_,?_,?_⟩
 ·show 0≤(Qq l c)[k.toNat]?.getD 0
  rw[hx];exact hr.1
 ·show (Qq l c)[k.toNat]?.getD 0<_
  rw[hx];exact hr.2
 ·show 0≤c.f+Q1Z l ((Qq l c).take k.toNat)
  omega
 ·show c.f+Q1Z l ((Qq l c).take k.toNat)+(Qj l ((Qq l c)[k.toNat]?.getD 0)).width≤W
  rw[hx];omega
 ·show Go.Proofs.YthbjpdijafccjaaGreat.co l ((Qq l c)[k.toNat]?.getD 0)≤C
  rw[hx];omega
end
theorem CurIn.to {l:List Node}{W C:Nat}(ha:Ar l):∀ (p:List Int) (c x:Cur),CurIn l W C c→toC l c p=some x→CurIn l W C x
 | [],c,x,h,e=>by
  obtain rfl:c=x:=by simpa[toC] using e
  exact h
 |k::r,c,x,h,e=>by
  have e:(if 0≤k∧k<(Qq l c).length then toC l (Q2z l c k) r else none)=some x:=e
  split at e
  ·rename_i hk
   exact CurIn.to ha r _ x (h.down ha hk.1 hk.2) e
  ·cases e
structure TreeOk (b:List UInt8) (m:Mk):Prop where
 ar:Ar (Q15 m).n
 p:pr (Q15 m).n m.n.length=b
 w:(Qj (Q15 m).n m.n.length).width=b.length
 c:co (Q15 m).n m.n.length≤400000
 n:(Q15 m).n.length≤400000
 s:m.s.length=1
theorem Qdj (b:List UInt8)(hb:b.length≤100000):TreeOk b (QG b):=by
 have hs:=Q66 b hb
 have hr:=(Q3D b).2.2.1
 obtain⟨h1,h2⟩:=Qbj hs.ok hs.hr (Q6v b)
 have h1:MkI (QG b) b (3+3 * (Qd b).r.length) (2+3 * (Qd b).r.length):=h1
 have h2:(QG b).s.length=1:=h2
 obtain⟨k1,k2,k3,k4⟩:=Qcl h1 h2
 have hn:=h1.i.n
 exact⟨k1,k2,k3,by omega,by show ((QG b).n++[_]).length≤_;simp only[List.length_append,List.length_singleton];omega,h2⟩
theorem Qc9 (m:Mk):(m.n.length:Int)<((Q15 m).n.length:Int):=by
 show (m.n.length:Int)<((m.n++[_]).length:Int)
 simp only[List.length_append,List.length_singleton];omega
theorem TreeOk.pr {b:List UInt8}{m:Mk}(h:TreeOk b m)(hb:b.length≤100000):PrOk (Q15 m).n m.n.length :=
 ⟨by have:=h.n;omega,h.ar.wf,h.ar.wide,by omega,Qc9 m,by rw[h.p];omega,by have:=h.c;omega⟩
theorem TreeOk.root {b:List UInt8}{m:Mk}(h:TreeOk b m):CurIn (Q15 m).n b.length 400000 (.root m.n.length) :=
 ⟨by show (0:Int)≤m.n.length;omega,Qc9 m,Int.le_refl _,by show (0:Int)+(Qj (Q15 m).n m.n.length).width≤_;rw[h.w];omega,h.c⟩
theorem Q9T (l:List UInt8):std.strB (Q2 l)=⟨l.toArray⟩:=by
 show (⟨((Q2 l).map Q2S).toArray⟩:ByteArray)=_
 rw[Q3e]
theorem Qcg (a:ByteArray):std.eqS a a=true:=by
 show (a.toList == a.toList)=true
 exact beq_self_eq_true _
def QmG (K M rt tn tf tk:Int)(R O N D PB:List AV)(U:AV):Nat→List AV→List Ob→Option (AV×List Ob):=fun f args _=>match f,args with
 |5,[.slc 1 _]=>some (.agg [.val (.int .i64 K),.val (.int .i64 M),.slc 1 R,.slc 1 O,.ref [.slc 6 N],.val (.int .i64 rt),.slc 3 D],[])
 |8,[.agg _]=>some (.agg [.ref [.slc 6 N],.val (.int .i64 rt),.val (.int .i64 0),.val (.int .i64 0),.opt (.val (.pointer none))],[])
 |23,[.agg _,.slc 1 _]=>some (.tup [.agg [.ref [.slc 6 N],.val (.int .i64 tn),.val (.int .i64 tf),.val (.int .i64 tk),.opt U],.val (.bool true)],[])
 |24,[.agg _]=>some (.slc 1 PB,[])
 |9,[.agg _]=>some (.val (.int .i64 22),[])
 |_,_=>none
theorem QjH:BCall prog 10 [] [] (.val (.bool true)) []:=by
 have hb:exB.length≤100000:=by decide
 have hO:=Qdj exB hb
 have cP:=Qfm exB hb
 have cC:=Qba (Qd exB) (QG exB)
 have cPr:=Qjl (Qd exB) (QG exB) (hO.pr hb)
 rw[hO.p] at cPr
 have hd:=Qn0
 have hto:=Qmz
 obtain⟨x,hx,hk⟩:=Option.map_eq_some_iff.1 hto
 have cT:=Qn4 (Q15 (QG exB)).n hO.ar.ok.w (.root (QG exB).n.length) [0,1,1] (by decide) (fun j x h=>(CurIn.to hO.ar _ _ _ hO.root h).ok hO.ar (by decide) (by decide))
 rw[hx] at cT
 have cK:=Qbm (Q15 (QG exB)).n x
 rw[hk] at cK
 generalize QG exB=m at cP cC cPr cT cK hd
 generalize Qd exB=t at cP cC cPr
 obtain⟨rt,hrt⟩:=exq (m.n.length:Int)
 unfold Q96 at cP cC cPr
 simp only[Qmg,Cur.cs,Option.isSome_some,hd] at cP cC cPr cT cK
 rw[←hrt] at cP cC cPr cT
 clear hO hb hto hx hk hd
 refine fnN (cs:=QmG t.kind t.bom rt x.n x.f x.k (Q0 t.r) (Q8 t.off) (Q7 (Q15 m).n) [.agg [.val (.int .i64 6),.val (.int .i64 6),.val (.int .i64 4)]] (Q2 exB) (upO (Q7 (Q15 m).n) x)) func10 rfl (by kernel_rfl) ?_
 intro w0 g0
 generalize hp:std=p
 generalize hU:upO (Q7 (Q15 m).n) x=U
 generalize hN:Q7 (Q15 m).n=N
 generalize htn:x.n=tn
 generalize htf:x.f=tf
 generalize htk:x.k=tk
 generalize hK:t.kind=K
 generalize hM:t.bom=M
 generalize hR:Q0 t.r=R
 generalize hO:Q8 t.off=O
 generalize hPB:Q2 exB=PB
 generalize hT:Q5 p tys (QmG K M rt tn tf tk R O N [.agg [.val (.int .i64 6),.val (.int .i64 6),.val (.int .i64 4)]] PB U) _ _ _ _=T
 cbv at hT
 subst hT
 simp only[Tree.ok,Q1,S0]
 subst hp hU hN htn htf htk hK hM hR hO hPB
 have hS:std.eqS (std.strB (Q2 exB)) ⟨#[60,97,62,60,98,62,60,47,97,62]⟩=true:=by rw[Q9T];exact Qcg _
 repeat' first
  |(with_reducible apply And.intro)
  |(with_reducible intro hh)
 all_goals first
  |exact cP
  |exact cC
  |exact cT
  |exact cPr
  |exact cK
  |exact Q4u _
  |exact QhS
  |exact absurd (hS.symm.trans hh) (by decide)
  |exact absurd hh (by decide)
  |exact .pure rfl (.inl rfl)
  |exact List.cons_ne_nil _ _
  |exact⟨rfl,rfl,rfl,trivial⟩
  |exact⟨(by decide:(0:Int)≤0),(by decide:(0:Int)<1)⟩
end Go.Proofs.YthbjpdijafccjaaGreat
namespace Go.Proofs.YthbjpdijafccjaaGreat
open Go.RowKit Go.Lib
def Q54 (x:Node):Prop:=x.b=[]∨x.kids=[]
def Qn5 (n:Nat)(x:Dg):Prop:=0≤x.f∧x.f≤x.t∧x.t≤n∧1≤x.c∧x.c≤5
structure MkS (z:Nat) (m:Mk):Prop where
 n:∀ x∈m.n,Q54 x
 d:∀ x∈m.d,Qn5 z x
theorem Q7e {l:List Node}(h:∀ x∈l,Q54 x){y:Node}(hy:Q54 y):∀ x∈l++[y],Q54 x:=fun x hx=>by
 rcases List.mem_append.1 hx with hx|hx
 ·exact h x hx
 ·obtain rfl:x=y:=by simpa using hx
  exact hy
theorem Q8O (k:Int)(b:List UInt8):Q54 (Qu k b):=.inr rfl
theorem QaE (l:List Node)(k:Int)(ks:List Int):Q54 (Q1e l k ks):=.inl rfl
section
variable {n:Nat} {m:Mk}
theorem MkS.add (h:MkS n m){y:Node}(hy:Q54 y):MkS n (Q1J y m):=⟨Q7e h.n hy,h.d⟩
theorem MkS.kid (h:MkS n m)(k:Int):MkS n (Q2N k m):=⟨h.n,h.d⟩
theorem MkS.lk (h:MkS n m)(t:Txt)(b:List UInt8)(kind f u:Int):MkS n (lkF t b kind f u m):=(h.add (Q8O _ _)).kid _
theorem MkS.shut (h:MkS n m)(l:Int):MkS n (Q1I l m):=⟨Q7e h.n (QaE _ _ _),h.d⟩
structure Plc (t:Txt) (n:Nat) (f u:Int):Prop where
 h0:0≤Q1x t f
 h1:Q1x t f≤Q1x t u
 h2:Q1x t u≤n
theorem MkS.wrong (h:MkS n m)(t:Txt){c f u:Int}(hp:Plc t n f u)(hc:1≤c∧c≤5):MkS n (QP t c f u m):=⟨h.n,fun x hx=>by
 rcases List.mem_append.1 hx with hx|hx
 ·exact h.d x hx
 ·obtain rfl:x=⟨Q1x t f,Q1x t u,c⟩:=by simpa using hx
  exact⟨hp.h0,hp.h1,hp.h2,hc.1,hc.2⟩⟩
theorem Plc.same {t:Txt}{f u:Int}(h:Plc t n f u):Plc t n f f:=⟨h.h0,Int.le_refl _,Int.le_trans h.h1 h.h2⟩
theorem MkS.miss (h:MkS n m)(t:Txt){a:Int}(hp:Plc t n a a):MkS n (Q2x t a m):=((h.wrong t hp (by decide)).add (Q8O _ _)).shut _
end
theorem MkS.missGo {n:Nat}(t:Txt){f:Int}(hp:Plc t n f f)(k:Nat):∀ (j:Nat) (m:Mk),MkS n m→MkS n (missGo t f k j m)
 |0,_,h=>h
 |j+1,m,h=>by
  show MkS n (if _ then _ else _)
  split
  ·exact MkS.missGo t hp k j _ (h.miss t hp)
  ·exact h
section
variable {n:Nat} {m:Mk}
theorem MkS.start (h:MkS n m)(t:Txt)(b:List UInt8)(kind:Int){f u:Int}(hp:Plc t n f u):MkS n (Q1u t b kind f u m):=by
 unfold Q1u
 split
 ·exact (h.wrong t hp (by decide)).lk t b kind f u
 ·exact MkS.lk (m:={ m with s:=m.s++[⟨Qo t f u,[]⟩] }) ⟨h.n,h.d⟩ t b kind f u
theorem MkS.end_ (h:MkS n m)(t:Txt)(b:List UInt8)(kind:Int){f u:Int}(hp:Plc t n f u):MkS n (Q2I t b kind f u m):=by
 unfold Q2I
 simp only
 split
 ·exact (h.wrong t hp (by decide)).lk t b kind f u
 ·exact ((MkS.missGo t hp.same _ _ _ h).add (Q8O _ _)).shut _
theorem MkS.token (h:MkS n m)(t:Txt)(b:List UInt8)(kind:Int){f u:Int}(wh:Bool)(hp:Plc t n f u):MkS n (Q1Y t b kind f u wh m):=by
 unfold Q1Y
 simp only
 generalize hm1:(if wh=false then QP t 1 f u m else if (kind=8∨kind=9∨kind=10)∧(QR t.r f u).right=false then QP t 2 f u m else m)=m1
 have h1:MkS n m1:=by
  rw[←hm1]
  split
  ·exact h.wrong t hp (by decide)
  ·split
   ·exact h.wrong t hp (by decide)
   ·exact h
 split
 ·exact h1.start t b kind hp
 ·split
  ·exact h1.end_ t b kind hp
  ·exact h1.lk t b kind f u
end
theorem QeB {t:Txt}{b:List UInt8}(ok:TxtOk t b){f u:Int}(h0:0≤f)(h1:f≤u)(h2:u≤t.r.length):Plc t b.length f u:=by
 have hm:=ok.mono f.toNat u.toNat (by omega) (by omega)
 have hlen:=ok.len
 have hf:f.toNat<t.off.length:=by omega
 have hu:u.toNat<t.off.length:=by omega
 have h3:=ok.range (t.off[f.toNat]'hf) (List.getElem_mem hf)
 have h4:=ok.range (t.off[u.toNat]'hu) (List.getElem_mem hu)
 have e3:t.off[f.toNat]?.getD 0=t.off[f.toNat]:=by rw[List.getElem?_eq_getElem hf];rfl
 have e4:t.off[u.toNat]?.getD 0=t.off[u.toNat]:=by rw[List.getElem?_eq_getElem hu];rfl
 rw[←e3] at h3
 rw[←e4] at h4
 exact⟨h3.1,hm,h4.2⟩
theorem MkS.toks {t:Txt}{b:List UInt8}(ok:TxtOk t b):∀ (n k:Nat) (m:Mk),t.r.length-k≤n→MkS b.length m→MkS b.length ((Q1U t.r k).foldl (Q63 t b) m)
 |0,k,m,h,hi=>by
  rw[Q1q (by omega)];exact hi
 |n+1,k,m,h,hi=>by
  by_cases hlt:k<t.r.length
  ·obtain⟨h1,h2,h3,h4⟩:=Q84 t.r hlt
   rw[Q1W hlt,List.foldl_cons]
   have hp:Plc t b.length (Q11 t.r k).from_ (Q11 t.r k).to:=QeB ok (by omega) (by omega) (by omega)
   exact MkS.toks ok n (Qk t.r k).2.1 _ (by omega) (hi.token t b _ _ hp)
  ·rw[Q1q hlt];exact hi
theorem MkS.all {t:Txt}{b:List UInt8}(ok:TxtOk t b){m:Mk}(hi:MkS b.length m):MkS b.length (Q86 t b m) :=
 MkS.missGo t (QeB ok (by omega) (Int.le_refl _) (Int.le_refl _)) 0 _ _ (MkS.toks ok t.r.length 0 m (by omega) hi)
theorem QkZ (b:List UInt8)(n:Nat):MkS n (Q3v b):=by
 have h0:MkS n mk0:=⟨(fun x hx=>by cases hx),fun x hx=>by cases hx⟩
 unfold Q3v
 split
 ·exact (h0.add (Q8O _ _)).kid _
 ·exact h0
theorem QkK (b:List UInt8):MkS b.length (QG b):=MkS.all (Q3D b).1 (QkZ b _)
theorem Qd2 (b:List UInt8):∀ x∈(Q15 (QG b)).n,Q54 x:=Q7e (QkK b).n (QaE _ _ _)
end Go.Proofs.YthbjpdijafccjaaGreat
