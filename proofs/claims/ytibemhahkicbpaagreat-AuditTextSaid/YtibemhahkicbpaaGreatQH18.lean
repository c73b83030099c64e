/-
  Parts of the proof, joined: MkA MkB MkC MkD MkI MkE MkJ MkK. Conditions: as each theorem says.
-/
import Derived.Test.YtibemhahkicbpaaGreatQH09
import Derived.Test.YtibemhahkicbpaaGreatQH14
import Derived.Test.YtibemhahkicbpaaGreatQH17
import Derived.Test.YtibemhahkicbpaaGreatQH13
set_option maxRecDepth 100000
set_option maxHeartbeats 8000000
namespace Go.Proofs.YtibemhahkicbpaaGreat
open Go.RowKit Go.Lib
def Qif:AV:=.val (.slice none 0 0)
def slR (l:List Int):AV:=match l with|[]=>Qif|l=>.slc 1 (Q5 l)
def slK (l:List Int):AV:=match l with|[]=>Qif|l=>.slc 1 (Q7 l)
structure Opn where
 name:List Int
 kids:List Int
 deriving Inhabited,DecidableEq
def Opn.av (x:Opn):AV:=.agg [slR x.name,slK x.kids]
def Qb (l:List Opn):List AV:=l.map Opn.av
structure Dg where
 f:Int
 t:Int
 c:Int
 deriving Inhabited,DecidableEq
def Dg.av (x:Dg):AV:=.agg [.val (.int .i64 x.f),.val (.int .i64 x.t),.val (.int .i64 x.c)]
def Qx (l:List Dg):List AV:=l.map Dg.av
def Q7q (x:AV):List Int:=(Q1C x).map intOf
def Qjx:AV→Opn
 |.agg [a,k]=>⟨Q7q a,Q7q k⟩
 |_=>⟨[],[]⟩
def dgB:AV→Dg
 |.agg [a,b,c]=>⟨intOf a,intOf b,intOf c⟩
 |_=>⟨0,0,0⟩
def Qi7:AV→Node
 |.agg [k,w,c,l,b,s]=>⟨intOf k,intOf w,intOf c,Q4u l,(Q1C b).map Q2e,Q7q s⟩
 |_=>Q6O
theorem Q6a {α:Type}{f:α→AV}{g:AV→α}(h:∀ x,g (f x)=x)(l:List α):(l.map f).map g=l:=by
 induction l with
 |nil=>rfl
 |cons x r ih=>simp only[List.map_cons,h,ih]
theorem Q6E (l:List Int):(Q7 l).map intOf=l:=Q6a (fun _=>rfl) l
theorem Qg9 (l:List Int):Q7q (slR l)=l:=by
 cases l with
 |nil=>rfl
 |cons x r=>exact Q3p (x::r)
theorem Qfg (l:List Int):Q7q (slK l)=l:=by
 cases l with
 |nil=>rfl
 |cons x r=>exact Q6E (x::r)
theorem Qf3 (x:Opn):Qjx x.av=x:=by
 show (⟨Q7q (slR x.name),Q7q (slK x.kids)⟩:Opn)=x
 rw[Qg9,Qfg]
theorem Qh5 (x:Dg):dgB x.av=x:=rfl
theorem QdZ (x:Node):Qi7 x.av=x:=by
 show (⟨x.kind,x.width,x.count,x.leaf,(Q3 x.b).map Q2e,(Q7 x.kids).map intOf⟩:Node)=x
 rw[Q2P,Q6E]
def Qgh (l:List AV):List Opn:=l.map Qjx
def QiO (l:List AV):List Dg:=l.map dgB
def Qc0 (l:List AV):List Node:=l.map Qi7
theorem Q98 (l:List Opn):Qgh (Qb l)=l:=Q6a Qf3 l
theorem Qbc (l:List Dg):QiO (Qx l)=l:=Q6a Qh5 l
theorem Q7w (l:List Node):Qc0 (Q0 l)=l:=Q6a QdZ l
theorem Q2A (l:List Opn):(Qb l).length=l.length:=by simp[Qb]
theorem QhN (l:List Dg):(Qx l).length=l.length:=by simp[Qx]
structure Mk where
 n:List Node
 d:List Dg
 s:List Opn
 deriving Inhabited
def obM (e:Nat)(b k m r o rt:AV)(N D S:List AV):List Ob :=
 [.box [b,.box 1 0,.row 5 e],.box [k,m,r,o,.box 2 0,rt,.row 4 e],.box [.row 3 e],.row 182 6 false e N,.row 146 3 false e D,.row 99 2 false e S]
def Q2J (ob:List Ob)(f:AV→AV→AV→AV→AV→AV→List AV→List AV→List AV→Option (AV×List Ob)):Option (AV×List Ob):=match ob with
 | [.box [b,.box 1 0,.row 5 0],.box [k,m,r,o,.box 2 0,rt,.row 4 0],.box [.row 3 0],.row 182 6 false 0 N,.row 146 3 false 0 D,.row 99 2 false 0 S]=>f b k m r o rt N D S
 |_=>none
def obT (e:Nat)(t:Txt)(b:List UInt8)(rt:Int)(m:Mk):List Ob :=
 obM e (.slc 1 (Q3 b)) (.val (.int .i64 t.kind)) (.val (.int .i64 t.bom)) (.slc 1 (Q5 t.r)) (.slc 1 (Q7 t.off)) (.val (.int .i64 rt)) (Q0 m.n) (Qx m.d) (Qb m.s)
def Q1N (t:Txt)(i:Int):Int:=t.off[i.toNat]?.getD 0
def Qu (t:Txt)(c f u:Int)(m:Mk):Mk:={ m with d:=m.d++[⟨Q1N t f,Q1N t u,c⟩] }
def Qt (s:List Opn):Opn:=s[s.length-1]?.getD ⟨[],[]⟩
def Q1b (n:Int)(s:List Opn):List Opn:=s.set (s.length-1) ⟨(Qt s).name,(Qt s).kids++[n]⟩
def Q2d (n:Int)(m:Mk):Mk:={ m with s:=Q1b n m.s }
def Q15 (x:Node)(m:Mk):Mk:={ m with n:=m.n++[x] }
def Q1r (t:Txt)(b:List UInt8)(kind f u:Int)(m:Mk):Mk:=Q15 (Ql kind (QM t b f u)) m
def Qjz (m:Mk):Mk:={ m with s:=m.s.take (m.s.length-1) }
def Q12 (last:Int)(m:Mk):Mk :=
 let m1:=Q2d last m
 Q2d m1.n.length (Q15 (QQ m1.n 21 (Qt m1.s).kids) (Qjz m1))
def Q1P (t:Txt)(at_:Int)(m:Mk):Mk :=
 let m1:=Qu t 4 at_ at_ m
 Q12 m1.n.length (Q15 (Ql 22 []) m1)
def Qw (t:Txt)(f u:Int):List Int:=(t.r.drop (QJ t.r f u).name.from_.toNat).take ((QJ t.r f u).name.to-(QJ t.r f u).name.from_).toNat
def lkF (t:Txt)(b:List UInt8)(kind f u:Int)(m:Mk):Mk:=Q2d m.n.length (Q1r t b kind f u m)
def QV (t:Txt)(b:List UInt8)(kind f u:Int)(m:Mk):Mk :=
 if 64<m.s.length then lkF t b kind f u (Qu t 5 f u m)
 else lkF t b kind f u { m with s:=m.s++[⟨Qw t f u,[]⟩] }
def Q1g (s:List Opn)(name:List Int):Nat→Nat
 |0=>0
 |k+1=>if (s[k+1]?.getD ⟨[],[]⟩).name=name then k+1 else Q1g s name k
def missGo (t:Txt)(f:Int)(k:Nat):Nat→Mk→Mk
 |0,m=>m
 |n+1,m=>if k<m.s.length-1 then missGo t f k n (Q1P t f m) else m
def Q2b (t:Txt)(b:List UInt8)(kind f u:Int)(m:Mk):Mk :=
 let k:=Q1g m.s (Qw t f u) (m.s.length-1)
 if k=0 then lkF t b kind f u (Qu t 3 f u m)
 else let m1:=missGo t f k m.s.length m
  Q12 m1.n.length (Q1r t b kind f u m1)
def Q1A (t:Txt)(b:List UInt8)(kind f u:Int)(whole:Bool)(m:Mk):Mk :=
 let tagged:=kind=8∨kind=9∨kind=10
 let m1:=if whole=false then Qu t 1 f u m else if tagged∧(QJ t.r f u).right=false then Qu t 2 f u m else m
 if whole=true∧kind=8∧0<(Qw t f u).length then QV t b kind f u m1
 else if whole=true∧kind=10 then Q2b t b kind f u m1
 else lkF t b kind f u m1
end Go.Proofs.YtibemhahkicbpaaGreat
namespace Go.Proofs.YtibemhahkicbpaaGreat
open Go.RowKit Go.Lib Tryz
theorem BCall.see {P:Program}{f:Nat}{args:List AV}{ob ob1 ob':List Ob}{res r' res':AV}{l:Eqs}(h:BCall P f args ob res ob1)(ρ:List (Option Nat))(h1:Q1V ρ=true)(h2:Qbr ob ob1 ob' ρ=true)(h3:ob.length≤ρ.length)
  (h4:both (QdP ob1 ob' ρ res r') (Q66 ob1 ob' ρ ρ ob')=some l) (h5:Qd l) (h6:leA r' res'):BCall P f args ob res' ob':=by
 refine⟨h.1,fun w g vs M hL=>(h.2 w g vs M hL).mono fun e w' ⟨v,g',k1,k2,k3,k4⟩=>?_⟩
 obtain⟨⟨l1,e1,a1⟩,l2,e2,a2⟩:=Q27 h4 h5
 have hF:Fits ob1 ob' ρ:=Q3f _ _ _ e2 a2
 exact⟨v,g'.ren ρ,k1,k2.ren hF h1,Q76 (Q7V hF h1 k3 e1 a1) h6,Qaf hF h1 h2 h3 k4⟩
theorem Qft (l:List Int):slK l=.slc 1 (Q7 l)∨(slK l=.val (.slice none 0 0)∧Q7 l=[]):=by
 cases l with
 |nil=>exact .inr ⟨rfl,rfl⟩
 |cons x r=>exact .inl rfl
theorem QcK (l:List Int)(n:Int):slK (l++[n])=.slc 1 (Q7 l++[.val (.int .i64 n)]):=by
 rw[←Qb5,←Q4N]
 cases l with
 |nil=>rfl
 |cons x r=>rfl
theorem Qg7 (l:List Opn)(i:Nat)(x:Opn):(Qb l).set i x.av=Qb (l.set i x):=by simp[Qb,List.map_set]
theorem QcF {s:List Opn}(h:1≤s.length):(Qb s)[s.length-1]?=some (Qt s).av:=by
 have:s.length-1<s.length:=by omega
 simp[Qb,Qt,this]
theorem Q7y (t:Txt)(b:List UInt8)(rt:Int)(m:Mk)(hs:1≤m.s.length)(hn:m.s.length≤1000000)(hk:(Qt m.s).kids.length≤1000000)(n:Int) :
  BCall prog 42 [.box 0 0,.val (.int .i64 n)] (obT 0 t b rt m) (.tup []) (obT 1 t b rt (Q2d n m)):=by
 obtain⟨L,hL⟩:=QS m.s
 have hpos:1≤L:=by rw[hL.eq];omega
 have h:=Qhb (ob:=obT 0 t b rt m) (k:=5) rfl rfl (i:=L-1) (n:=n) ?_ (by omega) (a:=slR (Qt m.s).name) (u:=slK (Qt m.s).kids) (us:=Q7 (Qt m.s).kids) ?_ (Qft _) (by rw[Q20];exact hk)
 ·have hi:(L-1).toNat=m.s.length-1:=by have:=hL.eq;omega
  rw[hi,←QcK] at h
  have e:∀ S,(obT 0 t b rt m).set 5 (.row Q41 2 false 1 S)=[.box [.slc 1 (Q3 b),.box 1 0,.row 5 0],.box [.val (.int .i64 t.kind),.val (.int .i64 t.bom),.slc 1 (Q5 t.r),.slc 1 (Q7 t.off),.box 2 0,.val (.int .i64 rt),.row 4 0],.box [.row 3 0],.row 182 6 false 0 (Q0 m.n),.row 146 3 false 0 (Qx m.d),.row 99 2 false 1 S]:=fun _=>rfl
  have e2:=Qg7 m.s (m.s.length-1) ⟨(Qt m.s).name,(Qt m.s).kids++[n]⟩
  rw[show (AV.agg [slR (Qt m.s).name,slK ((Qt m.s).kids++[n])])=Opn.av ⟨(Qt m.s).name,(Qt m.s).kids++[n]⟩ from rfl,e2,e] at h
  exact h.see [some 0,some 1,some 2,some 3,some 4,some 5] rfl rfl (Nat.le_refl _) (r':=.tup []) rfl (by simp[Qd,Q2d,Q1b]) trivial
 ·intro w0 g0
  unfold obT obM
  have hl:=Q2A m.s
  generalize hp:std=p,hN:Q0 m.n=N,hD:Qx m.d=D,hS:Qb m.s=S,hB:Q3 b=B,hR:Q5 t.r=R,hO:Q7 t.off=O,hK:t.kind=K,hM:t.bom=M
  generalize hT:Q8 p tys (cs0) _ _ _ _=T
  cbv at hT
  subst hT
  simp only[Tree.ok,Q4,S0]
  subst hp hN hD hS hB hR hO hK hM
  have e:std.sub (std.len (Qb m.s)) 1=L-1:=by
   show ((Qb m.s).length:Int)-1=L-1
   rw[hl,hL.eq]
  have e2:std.len (Qb m.s)=L:=by
   show ((Qb m.s).length:Int)=L
   rw[hl,hL.eq]
  refine⟨?_,?_,rfl,rfl,?_,rfl⟩
  ·show -9223372036854775808≤std.sub (std.len (Qb m.s)) 1∧std.sub (std.len (Qb m.s)) 1≤9223372036854775807
   have:=hL.eq
   rw[e]
   omega
  ·show 0≤std.sub (std.len (Qb m.s)) 1∧std.sub (std.len (Qb m.s)) 1<std.len (Qb m.s)
   rw[e,e2];omega
  ·show AV.rptr 5 0 (std.sub (std.len (Qb m.s)) 1) 0=_
   rw[e]
 ·have hi:(L-1).toNat=m.s.length-1:=by have:=hL.eq;omega
  rw[hi]
  exact QcF hs
def OT.then (l:List Nat)(t:OT):OT:=match l with
 | []=>t
 |i::r=>.cons i (OT.then r t)
def wrO:OT:=.then [0,1,2,4,5,6,7,8,9,10,11,12,13,14,15,16,17,18,19,20,21] (.fork (.of [3,22,23,24,25,26]) (.cons 22 (.fork (.of [3,23,24,25,26]) (.of [23,3,24,25,26]))))
theorem Q79 (t:Txt)(b:List UInt8)(rt:Int)(m:Mk)(hd:m.d.length≤1000000)(c f u:Int)(hf:0≤f∧f<t.off.length)(hu:0≤u∧u<t.off.length) :
  BCall prog 134 [.box 0 0,.val (.int .i64 c),.val (.int .i64 f),.val (.int .i64 u)] (obT 0 t b rt m) (.tup []) (obT 1 t b rt (Qu t c f u m)):=by
 have olen:=Q20 t.off
 have af:=Q2C (l:=t.off) (i:=f) hf.1 hf.2
 have au:=Q2C (l:=t.off) (i:=u) hu.1 hu.2
 have dlen:=QhN m.d
 unfold obT obM
 refine fnO false (cs:=cs0) (ord:=fun id=>match id with|1=> wrO|_=>.nil) func134 rfl (by kernel_rfl) ?_
 intro w0 g0
 generalize hp:std=p,hN:Q0 m.n=N,hD:Qx m.d=D,hS:Qb m.s=S,hB:Q3 b=B,hR:Q5 t.r=R,hO:Q7 t.off=O,hK:t.kind=K,hM:t.bom=M
 generalize hT:Q8 p tys (cs0) _ _ _ _=T
 cbv at hT
 subst hT
 simp only[Tree.ok,Q4,S0]
 subst hp hN hD hS hB hR hO hK hM
 have ef:(Q7 t.off).getD f.toNat .dead=.val (.int .i64 (Q1N t f)):=by rw[List.getD_eq_getElem?_getD];exact af
 have eu:(Q7 t.off).getD u.toNat .dead=.val (.int .i64 (Q1N t u)):=by rw[List.getD_eq_getElem?_getD];exact au
 have hb:∀ x,std.bnd (Qx m.d) [x]:=fun x=>by show (Qx m.d).length+1≤1000000000;omega
 have fin:∀ x,x=AV.agg [.val (.int .i64 (Q1N t f)),.val (.int .i64 (Q1N t u)),.val (.int .i64 c)]→std.app (Qx m.d) [x]=Qx (Qu t c f u m).d:=fun x hx=>by
  rw[hx]
  show Qx m.d++_=List.map _ (_++_)
  rw[List.map_append];rfl
 have fin2:=fin _ (show AV.agg [.val (.int .i64 (std.int (std.nth (std.cel (std.at_ (Q7 t.off) f)) 0))),.val (.int .i64 (std.int (std.nth (std.cel (std.at_ (Q7 t.off) u)) 0))),.val (.int .i64 c)]=_ by
  show AV.agg [.val (.int .i64 (intOf ((((Q7 t.off).getD f.toNat .dead).cells).getD 0 .dead))),.val (.int .i64 (intOf ((((Q7 t.off).getD u.toNat .dead).cells).getD 0 .dead))),.val (.int .i64 c)]=_
  rw[ef,eu];rfl)
 have hc:∀ x:Int,(Q7 t.off).getD x.toNat .dead=.val (.int .i64 (Q1N t x))→std.all [std.hasI .i64 (std.nth (std.cel (std.at_ (Q7 t.off) x)) 0)]:=fun x hx=>by
  show (((Q7 t.off).getD x.toNat .dead).cells).getD 0 .dead=.val (.int .i64 (intOf ((((Q7 t.off).getD x.toNat .dead).cells).getD 0 .dead)))∧True
  rw[hx];exact⟨rfl,trivial⟩
 have hin:∀ x:Int,0≤x∧x<t.off.length→std.inb x (std.len (Q7 t.off)):=fun x hx=>by
  show 0≤x∧x<((Q7 t.off).length:Int)
  rw[olen];exact hx
 refine⟨hin f hf,hc f ef,hin u hu,hc u eu,⟨hb _,?_⟩,⟨hb _,?_⟩,hb _,?_⟩
 all_goals
  refine⟨[some 0,some 1,some 2,some 3,some 4,some 5],.tup [],_,rfl,rfl,Nat.le_refl _,rfl,?_,trivial⟩
  simp[Qd]
  exact⟨rfl,fin2,rfl⟩
def Qjb (p:Pr)(sl:Int→Int→List AV)(lf:Int→List AV→List AV→List AV):Nat→List AV→List Ob→Option (AV×List Ob):=fun f args ob=>match f,args with
 |179,[.agg _,.slc 1 _,.val (.int .i64 i),.val (.int .i64 j)]=>some (.slc 1 (sl i j),[])
 |43,[.box 0 0,.val (.int .i64 k),.slc 1 bs]=>match ob with
  | [.box [.row 1 0],.row 182 6 false 0 N]=>some (.val (.int .i64 (p.len N)),[.box [.row 1 1],.row 182 6 false 1 (lf k bs N)])
  |_=>none
 |_,_=>none
def slA (t:Txt)(b:List UInt8)(i j:Int):List AV:=Q3 (QM t b i j)
def lfA (k:Int)(bs N:List AV):List AV:=N++[(Ql k (bs.map Q2e)).av]
theorem Qcb (k:Int)(bs:List UInt8)(l:List Node):lfA k (Q3 bs) (Q0 l)=Q0 (l++[Ql k bs]):=by
 rw[lfA,Q2P];simp[Q0]
theorem Q9p (t:Txt)(b:List UInt8)(i j:Int):(QM t b i j).length≤b.length:=by
 rw[QM,List.length_take,List.length_drop];omega
theorem Q7F (t:Txt)(b:List UInt8)(hb:b.length≤1000000)(ok:TxtOk t b)(hrl:t.r.length≤1000000)(rt:Int)(m:Mk)(hn:m.n.length≤1000000)(kind f u:Int)(wh:Bool)(hf:0≤f)(hu:f≤u)(hl:u≤t.r.length) :
  BCall prog 138 [.box 0 0,.agg [.val (.int .i64 kind),.val (.int .i64 f),.val (.int .i64 u),.val (.bool wh)]] (obT 0 t b rt m) (.val (.int .i64 m.n.length)) (obT 1 t b rt (Q1r t b kind f u m)):=by
 have cS:=QgN t b hb ok hrl f u hf hu hl
 have cL:=Qf4 m.n (by omega) kind (QM t b f u) (by have:=Q9p t b f u;omega)
 rw[←Qcb] at cL
 have e3:Q0 (Q1r t b kind f u m).n=lfA kind (slA t b f u) (Q0 m.n):=(Qcb _ _ _).symm
 unfold obT obM
 rw[e3]
 clear hl
 refine fnN (cs:=Qjb std (slA t b) lfA) func138 rfl (by kernel_rfl) ?_
 intro w0 g0
 generalize hp:std=p,hsl:slA t b=sl,hlf:lfA=lf,hN:Q0 m.n=N,hD:Qx m.d=D,hS:Qb m.s=S,hB:Q3 b=B,hR:Q5 t.r=R,hO:Q7 t.off=O,hK:t.kind=K,hM:t.bom=M
 generalize hT:Q8 p tys (Qjb p sl lf) _ _ _ _=T
 cbv at hT
 subst hT
 simp only[Tree.ok,Q4,S0]
 subst hp hsl hlf hN hD hS hB hR hO hK hM
 exact⟨cS,by rw[←QG] at cL;exact cL,
  [some 0,some 1,some 2,some 3,some 4,some 5],.val (.int .i64 m.n.length),_,rfl,rfl,Nat.le_of_ble_eq_true rfl,rfl,by simp[Qd,std,Q0,Q1r,Q15],.inl rfl⟩
theorem Qeh:∀ (n:Nat) (r:List Int) (at_:Int) (first:Bool),r.length≤n→(Qs at_ first r).length≤r.length:=by
 intro n
 induction n with
 |zero =>
  intro r at_ first h
  have:r=[]:=List.eq_nil_of_length_eq_zero (by omega)
  rw[this,Qs,dif_pos rfl]
  exact Nat.le_refl _
 |succ n ih =>
  intro r at_ first h
  by_cases hr:r=[]
  ·rw[hr,Qs,dif_pos rfl];exact Nat.le_refl _
  ·have hn:=Q3v r first hr
   rw[Qs,dif_neg hr,List.length_cons]
   have:=ih (r.drop (Qq r first).2.toNat) (at_+(Qq r first).2) false (by rw[List.length_drop];omega)
   rw[List.length_drop] at this
   omega
theorem QbD (l:List Int)(f u:Int):(Q13 l f u).length≤l.length:=by
 have:=Qeh _ ((l.take u.toNat).drop f.toNat) f true (Nat.le_refl _)
 rw[List.length_drop,List.length_take] at this
 show (Qs _ _ _).length≤_
 omega
theorem Q8J (l:List Int)(f u:Int)(h0:0≤f)(h1:f≤u)(h2:u≤l.length):∀ x∈Q13 l f u,f≤x.from_∧x.from_<x.to∧x.to≤u:=fun x hx=>by
 have:=Q8h [] _ ((l.take u.toNat).drop f.toNat) f true (Nat.le_refl _) x hx
 rw[List.length_drop,List.length_take] at this
 omega
theorem Qce (ps:List TPart):(Q1x ps).name=Qp∨(Q1x ps).name=ps[1]?.getD Qp:=by
 unfold Q1x
 split
 ·simp only
  split
  ·exact .inr rfl
  ·exact .inr rfl
 ·exact .inl rfl
theorem Qhc (l:List Int)(f u:Int)(h0:0≤f)(h1:f≤u)(h2:u≤l.length):0≤(QJ l f u).name.from_∧(QJ l f u).name.from_≤(QJ l f u).name.to∧(QJ l f u).name.to≤l.length:=by
 rcases Qce (Q13 l f u) with h|h
 ·rw[QJ,h];exact⟨Int.le_refl _,Int.le_refl _,by show (0:Int)≤_;omega⟩
 ·rw[QJ,h]
  cases hi:(Q13 l f u)[1]? with
  |none=>exact⟨Int.le_refl _,Int.le_refl _,by show (0:Int)≤_;omega⟩
  |some x =>
   have:=Q8J l f u h0 h1 h2 x (List.mem_of_getElem? hi)
   show 0≤x.from_∧x.from_≤x.to∧x.to≤(l.length:Int)
   omega
theorem QbK (l:List Int)(hl:l.length≤1000000)(f u:Int)(h0:0≤f)(h1:f≤u)(h2:u≤l.length) :
  BCall prog 49 [.slc 1 (Q5 l),.val (.int .i64 f),.val (.int .i64 u)] [] (.agg [.val (.int .i64 (QJ l f u).name.kind),.val (.int .i64 (QJ l f u).name.from_),.val (.int .i64 (QJ l f u).name.to),.slc 9 (QO (QJ l f u).attrs),.val (.bool (QJ l f u).right),.val (.bool (QJ l f u).empty)]) []:=by
 have hpl:=QbD l f u
 have hsm:Qd4 (Q13 l f u):=fun x hx=>by have:=Q8J l f u h0 h1 h2 x hx;omega
 cases hop:Qz (Q13 l f u) 0 [1,2] with
 |false =>
  have e:QJ l f u=⟨Qp,[],false,false⟩:=by rw[QJ,Q1x,if_neg (by rw[hop];decide)]
  rw[e]
  exact QdE l (by omega) f u h0 h1 h2 _ rfl (by omega) hop
 |true =>
  cases hcl:Qz (Q13 l f u) (Q30 (Q13 l f u) (QC (Q13 l f u) ((Q13 l f u).length+1) 2).2 3).toNat [6] with
  |false=>exact Qev l (by omega) f u h0 h1 h2 _ rfl (by omega) hsm hop hcl
  |true=>exact Qgp l (by omega) f u h0 h1 h2 _ rfl (by omega) hsm hop hcl
def QjJ (rk rf ru:Int→Int→Int)(ra:Int→Int→List AV)(rr re:Int→Int→Bool):Nat→List AV→List Ob→Option (AV×List Ob):=fun f args _=>match f,args with
 |49,[.slc 1 _,.val (.int .i64 f),.val (.int .i64 u)]=>some (.agg [.val (.int .i64 (rk f u)),.val (.int .i64 (rf f u)),.val (.int .i64 (ru f u)),.slc 9 (ra f u),.val (.bool (rr f u)),.val (.bool (re f u))],[])
 |_,_=>none
def rdk (l:List Int)(f u:Int):Int:=(QJ l f u).name.kind
def rdf (l:List Int)(f u:Int):Int:=(QJ l f u).name.from_
def rdu (l:List Int)(f u:Int):Int:=(QJ l f u).name.to
def rda (l:List Int)(f u:Int):List AV:=QO (QJ l f u).attrs
def rdr (l:List Int)(f u:Int):Bool:=(QJ l f u).right
def rde (l:List Int)(f u:Int):Bool:=(QJ l f u).empty
def nmO:OT:=.then [0,1,2,3,4,5,6,7,8,9,10,11] (.fork (.of [12,13,14,15]) (.of [14,12,13,15]))
theorem Qc6 (t:Txt)(b:List UInt8)(hrl:t.r.length≤1000000)(rt:Int)(m:Mk)(kind f u:Int)(wh:Bool)(hf:0≤f)(hu:f≤u)(hl:u≤t.r.length) :
  BCall prog 135 [.box 0 0,.agg [.val (.int .i64 kind),.val (.int .i64 f),.val (.int .i64 u),.val (.bool wh)]] (obT 0 t b rt m) (.slc 1 (Q5 (Qw t f u))) (obT 0 t b rt m):=by
 have cR:=QbK t.r hrl f u hf hu hl
 have hin:=Qhc t.r f u hf hu hl
 have rlen:=Q1i t.r
 unfold obT obM
 refine fnO false (cs:=QjJ (rdk t.r) (rdf t.r) (rdu t.r) (rda t.r) (rdr t.r) (rde t.r)) (ord:=fun id=>match id with|1=> nmO|_=>.nil) func135 rfl (by kernel_rfl) ?_
 intro w0 g0
 generalize hp:std=p,hrk:rdk t.r=rk,hrf:rdf t.r=rf,hru:rdu t.r=ru,hra:rda t.r=ra,hrr:rdr t.r=rr,hre:rde t.r=re,hN:Q0 m.n=N,hD:Qx m.d=D,hS:Qb m.s=S,hB:Q3 b=B,hR:Q5 t.r=R,hO:Q7 t.off=O,hK:t.kind=K,hM:t.bom=M
 generalize hT:Q8 p tys (QjJ rk rf ru ra rr re) _ _ _ _=T
 cbv at hT
 subst hT
 simp only[Tree.ok,Q4,S0]
 subst hp hrk hrf hru hra hrr hre hN hD hS hB hR hO hK hM
 have hcut:std.cutok (rdf t.r f u) (rdu t.r f u) (std.len (Q5 t.r)):=by
  show 0≤(QJ t.r f u).name.from_∧(QJ t.r f u).name.from_≤(QJ t.r f u).name.to∧(QJ t.r f u).name.to≤((Q5 t.r).length:Int)
  rw[rlen];exact hin
 have hres:std.cut (Q5 t.r) (rdf t.r f u) (rdu t.r f u)=Q5 (Qw t f u):=by
  show ((Q5 t.r).drop (rdf t.r f u).toNat).take _=_
  simp only[Q5,Qw,List.map_take,List.map_drop];rfl
 refine⟨⟨cR,hcut,?_⟩,cR,hcut,?_⟩
 all_goals
  exact⟨[some 0,some 1,some 2,some 3,some 4,some 5],.slc 1 (Q5 (Qw t f u)),_,rfl,rfl,Nat.le_of_ble_eq_true rfl,rfl,by simp[Qd];exact hres,.inl rfl⟩
def kdA (n:Int)(S:List AV):List AV:=Qb (Q1b n (Qgh S))
theorem Q8i (n:Int)(s:List Opn):kdA n (Qb s)=Qb (Q1b n s):=by rw[kdA,Q98]
def brA (k:Int)(ks N:List AV):List AV:=N++[(QQ (Qc0 N) k (ks.map intOf)).av]
theorem Q9F (k:Int)(ks:List Int)(l:List Node):brA k (Q7 ks) (Q0 l)=Q0 (l++[QQ l k ks]):=by
 rw[brA,Q7w,Q6E];simp[Q0]
def QjF (p:Pr)(kd:Int→List AV→List AV)(br:Int→List AV→List AV→List AV):Nat→List AV→List Ob→Option (AV×List Ob):=fun f args ob=>match f,args with
 |42,[.box 0 0,.val (.int .i64 n)]=>Q2J ob fun b k m r o rt N D S=>some (.tup [],obM 1 b k m r o rt N D (kd n S))
 |90,[.box 0 0,.val (.int .i64 k),.slc 1 ks]=>match ob with
  | [.box [.row 1 0],.row 182 6 false 0 N]=>some (.tup [.val (.int .i64 (p.len N)),.val (.int .i64 0)],[.box [.row 1 1],.row 182 6 false 1 (br k ks N)])
  |_=>none
 |_,_=>none
theorem Q3r (n:Int)(s:List Opn):(Q1b n s).length=s.length:=by simp[Q1b]
theorem Qgz (n:Int){s:List Opn}(h:1≤s.length):Qt (Q1b n s)=⟨(Qt s).name,(Qt s).kids++[n]⟩:=by
 have h1:s.length-1<(s.set (s.length-1) ⟨(Qt s).name,(Qt s).kids++[n]⟩).length:=by rw[List.length_set];omega
 have h2:s.length-1<s.length:=by omega
 show ((s.set (s.length-1) ⟨(Qt s).name,(Qt s).kids++[n]⟩)[(s.set (s.length-1) _).length-1]?).getD _=_
 rw[List.length_set,List.getElem?_set_self h2];rfl
structure ArOk (l:List Node):Prop where
 w:∀ n,0≤Qm l n
 c:∀ n,0≤Q1M l n∧Q1M l n≤2147483647
theorem QeC (t:Txt)(b:List UInt8)(rt:Int)(m:Mk)(hs:2≤m.s.length)(hn:m.s.length≤1000000)(hk:∀ x∈m.s,x.kids.length≤1000000)(hN:m.n.length≤1000000)(ar:ArOk m.n)(last:Int)
  (hl:∀ k∈(Qt m.s).kids++[last],0≤k∧k<m.n.length) (hsum:Q19 m.n ((Qt m.s).kids++[last])≤2147483647) :
  BCall prog 139 [.box 0 0,.val (.int .i64 last)] (obT 0 t b rt m) (.tup []) (obT 1 t b rt (Q12 last m)):=by
 obtain⟨L,hL⟩:=QS m.s
 obtain⟨m1,hm1⟩:=exq (Q2d last m)
 have hs1:m1.s=Q1b last m.s:=by rw[hm1];rfl
 have hl1:m1.s.length=m.s.length:=by rw[hs1,Q3r]
 have ht1:Qt m1.s=⟨(Qt m.s).name,(Qt m.s).kids++[last]⟩:=by rw[hs1];exact Qgz last (by omega)
 have mem:∀ i,i<m.s.length→(m.s[i]?.getD ⟨[],[]⟩).kids.length≤1000000:=fun i h=>by
  have:m.s[i]?.getD ⟨[],[]⟩∈m.s:=by
   rw[List.getElem?_eq_getElem h];exact List.getElem_mem h
  exact hk _ this
 have c1:=Q7y t b rt m (by omega) hn (mem _ (by omega)) last
 have c2:=Qbg m.n (by omega) 21 ((Qt m.s).kids++[last]) (by have:=mem (m.s.length-1) (by omega);simp only[List.length_append,List.length_singleton];show ((m.s[m.s.length-1]?).getD ⟨[],[]⟩).kids.length+1≤_;omega) hl ar.w ar.c hsum
 rw[←Q9F,←QG] at c2
 obtain⟨m2,hm2⟩:=exq (Q15 (QQ m.n 21 ((Qt m.s).kids++[last])) (Qjz m1))
 have hE:Q12 last m=Q2d m.n.length m2:=by
  rw[hm2,←(show (Qt m1.s).kids=(Qt m.s).kids++[last] by rw[ht1]),hm1];rfl
 have hs2:m2.s=m1.s.take (m1.s.length-1):=by rw[hm2];rfl
 have c3:=Q7y t b rt m2 (by rw[hs2,List.length_take];omega) (by rw[hs2,List.length_take];omega) (by
  have h1:m2.s.length-1<m.s.length-1:=by rw[hs2,List.length_take];omega
  show ((m2.s[m2.s.length-1]?).getD ⟨[],[]⟩).kids.length≤_
  have h2:∀ j,j<m.s.length-1→m2.s[j]?=m.s[j]?:=fun j hj=>by
   rw[hs2,List.getElem?_take,if_pos (by omega),hs1,Q1b,List.getElem?_set_ne (by omega)]
  rw[h2 _ h1]
  exact mem _ (by omega)) m.n.length
 rw[hE]
 clear hl hsum
 unfold obT obM
 refine fnN (cs:=QjF std kdA brA) func139 rfl (by kernel_rfl) ?_
 intro w0 g0
 generalize hp:std=p,hkd:kdA=kd,hbr:brA=br,hN:Q0 m.n=N,hD:Qx m.d=D,hS:Qb m.s=S,hB:Q3 b=B,hR:Q5 t.r=R,hO:Q7 t.off=O,hK:t.kind=K,hM:t.bom=M
 generalize hT:Q8 p tys (QjF p kd br) _ _ _ _=T
 cbv at hT
 subst hT
 simp only[Tree.ok,Q4,S0]
 subst hp hkd hbr hN hD hS hB hR hO hK hM
 have hi:(((Qb m1.s).length:Int)-1).toNat=m1.s.length-1:=by rw[Q2A];omega
 have he:(List.drop 1 ((Qb m1.s).getD (((Qb m1.s).length:Int)-1).toNat AV.dead).cells).getD 0 AV.dead=.slc 1 (Q7 ((Qt m.s).kids++[last])):=by
  have e:(Qb m1.s).getD (m1.s.length-1) AV.dead=(Qt m1.s).av:=by rw[List.getD_eq_getElem?_getD,QcF (by rw[hl1];omega)];rfl
  rw[hi,e,ht1]
  show slK ((Qt m.s).kids++[last])=_
  rw[QcK,Q4N];rfl
 have hc:List.take (((Qb m1.s).length:Int)-1-0).toNat (List.drop (Int.toNat 0) (Qb m1.s))=Qb m2.s:=by
  rw[Int.sub_zero,hi,hs2]
  simp[Qb,List.map_take]
 have el:=Q2A m1.s
 have eN:Q0 m2.n=brA 21 (Q7 ((Qt m.s).kids++[last])) (Q0 m.n):=by rw[hm2,Q9F];show Q0 (m1.n++_)=_;rw[hm1];rfl
 have eD:m2.d=m.d:=by rw[hm2,hm1];rfl
 have eS:(Q2d (m.n.length:Int) m2).s=Q1b m.n.length m2.s:=rfl
 unfold obT obM at c1 c3
 rw[eS,show (Q2d (m.n.length:Int) m2).n=m2.n from rfl,show (Q2d (m.n.length:Int) m2).d=m2.d from rfl,eD,eN] at c3
 rw[show (Q2d last m).s=m1.s by rw[hm1]] at c1
 simp only[Q8i,←hs1,std,he,hc,Q1C]
 rw[QG] at c2 ⊢
 refine⟨?_,?_,?_,⟨.inl trivial,trivial⟩,?_,c2,?_,?_⟩
 ·exact c1
 ·show (-9223372036854775808:Int)≤_∧_≤(9223372036854775807:Int)
  omega
 ·omega
 ·omega
 ·exact c3
 ·exact⟨[some 0,some 1,some 2,some 3,some 4,some 5],.tup [],_,rfl,rfl,Nat.le_refl _,rfl,by simp[Qd];exact⟨eN.symm,congrArg _ eD.symm,rfl⟩,trivial⟩
def wrA (t:Txt)(c f u:Int)(D:List AV):List AV:=Qx (QiO D++[⟨Q1N t f,Q1N t u,c⟩])
theorem Q7r (t:Txt)(c f u:Int)(d:List Dg):wrA t c f u (Qx d)=Qx (d++[⟨Q1N t f,Q1N t u,c⟩]):=by rw[wrA,Qbc]
def mkB (N D S:List AV):Mk:=⟨Qc0 N,QiO D,Qgh S⟩
theorem Q1u (m:Mk):mkB (Q0 m.n) (Qx m.d) (Qb m.s)=m:=by rw[mkB,Q7w,Qbc,Q98]
def Q5o (l:Int)(N D S:List AV):List AV:=Q0 (Q12 l (mkB N D S)).n
def Q5n (l:Int)(N D S:List AV):List AV:=Qb (Q12 l (mkB N D S)).s
theorem QiH (l:Int)(m:Mk):(Q12 l m).d=m.d:=rfl
def QjA (p:Pr)(wr:Int→Int→Int→List AV→List AV)(lf:Int→List AV→List AV→List AV)(sn ss:Int→List AV→List AV→List AV→List AV):Nat→List AV→List Ob→Option (AV×List Ob):=fun f args ob=>match f,args with
 |134,[.box 0 0,.val (.int .i64 c),.val (.int .i64 f),.val (.int .i64 u)]=>Q2J ob fun b k m r o rt N D S=>some (.tup [],obM 1 b k m r o rt N (wr c f u D) S)
 |139,[.box 0 0,.val (.int .i64 n)]=>Q2J ob fun b k m r o rt N D S=>some (.tup [],obM 1 b k m r o rt (sn n N D S) D (ss n N D S))
 |43,[.box 0 0,.val (.int .i64 k),.val (.slice none 0 0)]=>match ob with
  | [.box [.row 1 0],.row 182 6 false 0 N]=>some (.val (.int .i64 (p.len N)),[.box [.row 1 1],.row 182 6 false 1 (lf k [] N)])
  |_=>none
 |_,_=>none
theorem Qis (t:Txt)(b:List UInt8)(rt:Int)(m:Mk)(hd:m.d.length≤1000000)(at_:Int)(ha:0≤at_∧at_<t.off.length)(hs:2≤m.s.length)(hn:m.s.length≤1000000)(hk:∀ x∈m.s,x.kids.length≤1000000)(hN:m.n.length<1000000)(ar:ArOk (m.n++[Ql 22 []]))
  (hl:∀ k∈(Qt m.s).kids,0≤k∧k<m.n.length) (hsum:Q19 (m.n++[Ql 22 []]) ((Qt m.s).kids++[(m.n.length:Int)])≤2147483647) :
  BCall prog 89 [.box 0 0,.val (.int .i64 at_)] (obT 0 t b rt m) (.tup []) (obT 1 t b rt (Q1P t at_ m)):=by
 have c1:=Q79 t b rt m hd 4 at_ at_ ha ha
 obtain⟨m1,hm1⟩:=exq (Qu t 4 at_ at_ m)
 rw[←hm1] at c1
 have c2:=(Qf4 m1.n (by rw[hm1];show m.n.length<_;omega) 22 [] (by simp)).le (args:=[.box 0 0,.val (.int .i64 22),.val (.slice none 0 0)]) ⟨.inl rfl,.inl rfl,.inr (.inl ⟨rfl,_,rfl⟩),trivial⟩
 obtain⟨m2,hm2⟩:=exq (Q15 (Ql 22 []) m1)
 have e2n:m2.n=m.n++[Ql 22 []]:=by rw[hm2,hm1];rfl
 have e2s:m2.s=m.s:=by rw[hm2,hm1];rfl
 have c3:=QeC t b rt m2 (by rw[e2s];exact hs) (by rw[e2s];exact hn) (by rw[e2s];exact hk) (by rw[e2n];simp;omega) (by rw[e2n];exact ar) m.n.length (by
  rw[e2n,e2s]
  intro k hk
  rw[List.length_append,List.length_singleton]
  rcases List.mem_append.1 hk with h|h
  ·have:=hl k h;omega
  ·obtain rfl:k=(m.n.length:Int):=by simpa using h
   omega) (by rw[e2n,e2s];exact hsum)
 have hE:Q1P t at_ m=Q12 m.n.length m2:=by rw[hm2,hm1];rfl
 rw[hE]
 clear hl hsum
 unfold obT obM
 refine fnN (cs:=QjA std (wrA t) lfA Q5o Q5n) func89 rfl (by kernel_rfl) ?_
 intro w0 g0
 generalize hp:std=p,hwr:wrA t=wr,hlf:lfA=lf,hsn:Q5o=sn,hss:Q5n=ss,hN:Q0 m.n=N,hD:Qx m.d=D,hS:Qb m.s=S,hB:Q3 b=B,hR:Q5 t.r=R,hO:Q7 t.off=O,hK:t.kind=K,hM:t.bom=M
 generalize hT:Q8 p tys (QjA p wr lf sn ss) _ _ _ _=T
 cbv at hT
 subst hT
 simp only[Tree.ok,Q4,S0]
 subst hp hwr hlf hsn hss hN hD hS hB hR hO hK hM
 have e2d:m2.d=m.d++[⟨Q1N t at_,Q1N t at_,4⟩]:=by rw[hm2,hm1];rfl
 have eL:lfA 22 [] (Q0 m.n)=Q0 m2.n:=by rw[e2n,←Qcb];rfl
 have eW:wrA t 4 at_ at_ (Qx m.d)=Qx m2.d:=by rw[Q7r,e2d]
 have f1:∀ l,Q5o l (Q0 m2.n) (Qx m2.d) (Qb m.s)=Q0 (Q12 l m2).n:=fun l=>by rw[Q5o,←e2s,Q1u]
 have f2:∀ l,Q5n l (Q0 m2.n) (Qx m2.d) (Qb m.s)=Qb (Q12 l m2).s:=fun l=>by rw[Q5n,←e2s,Q1u]
 unfold obT obM at c1 c3
 rw[show m1.n=m.n by rw[hm1];rfl,show m1.s=m.s by rw[hm1];rfl,show m1.d=m2.d by rw[hm2];rfl] at c1
 rw[show m1.n=m.n by rw[hm1];rfl,←e2n] at c2
 rw[e2s,QiH] at c3
 simp only[std,eL,eW,f1,f2,QG]
 exact⟨c1,c2,c3,[some 0,some 1,some 2,some 3,some 4,some 5],.tup [],_,rfl,rfl,Nat.le_refl _,rfl,by simp[Qd];rfl,trivial⟩
def lfT (t:Txt)(b:List UInt8)(k f u:Int)(N:List AV):List AV:=N++[(Ql k (QM t b f u)).av]
theorem Q7X (t:Txt)(b:List UInt8)(k f u:Int)(l:List Node):lfT t b k f u (Q0 l)=Q0 (l++[Ql k (QM t b f u)]):=by simp[lfT,Q0]
def nmA (t:Txt)(f u:Int):List AV:=Q5 (Qw t f u)
def QjD (p:Pr)(nm:Int→Int→List AV)(wr:Int→Int→Int→List AV→List AV)(lf:Int→Int→Int→List AV→List AV)(kd:Int→List AV→List AV):Nat→List AV→List Ob→Option (AV×List Ob):=fun f args ob=>match f,args with
 |135,[.box 0 0,.agg [_,.val (.int .i64 f),.val (.int .i64 u),_]]=>some (.slc 1 (nm f u),ob)
 |134,[.box 0 0,.val (.int .i64 c),.val (.int .i64 f),.val (.int .i64 u)]=>Q2J ob fun b k m r o rt N D S=>some (.tup [],obM 1 b k m r o rt N (wr c f u D) S)
 |138,[.box 0 0,.agg [.val (.int .i64 kind),.val (.int .i64 f),.val (.int .i64 u),_]]=>Q2J ob fun b k m r o rt N D S=>some (.val (.int .i64 (p.len N)),obM 1 b k m r o rt (lf kind f u N) D S)
 |42,[.box 0 0,.val (.int .i64 n)]=>Q2J ob fun b k m r o rt N D S=>some (.tup [],obM 1 b k m r o rt N D (kd n S))
 |_,_=>none
structure InT (t:Txt) (f u:Int):Prop where
 h0:0≤f
 h1:f≤u
 h2:u≤t.r.length
structure Sml (t:Txt) (b:List UInt8):Prop where
 hb:b.length≤1000000
 hr:t.r.length≤1000000
 ok:TxtOk t b
theorem InT.off {t:Txt}{b:List UInt8}{f u:Int}(h:InT t f u)(hs:Sml t b):(0≤f∧f<t.off.length)∧0≤u∧u<t.off.length:=by
 have:=hs.ok.len
 have h0:=h.h0
 have h1:=h.h1
 have h2:=h.h2
 omega
structure MkOk (m:Mk):Prop where
 n:m.n.length≤900000
 d:m.d.length≤900000
 s:m.s.length≤900000
 s1:1≤m.s.length
 k:∀ x∈m.s,x.kids.length≤900000
theorem MkOk.top {m:Mk}(h:MkOk m):(Qt m.s).kids.length≤900000:=by
 have h1:=h.s1
 have:m.s.length-1<m.s.length:=by omega
 show ((m.s[m.s.length-1]?).getD ⟨[],[]⟩).kids.length≤_
 rw[List.getElem?_eq_getElem this]
 exact h.k _ (List.getElem_mem this)
theorem QgQ (t:Txt)(b:List UInt8)(hs:Sml t b)(rt:Int)(m:Mk)(ok:MkOk m)(kind f u:Int)(wh:Bool)(hi:InT t f u)(hne:Qw t f u≠[]) :
  BCall prog 136 [.box 0 0,.agg [.val (.int .i64 kind),.val (.int .i64 f),.val (.int .i64 u),.val (.bool wh)]] (obT 0 t b rt m) (.tup []) (obT 1 t b rt (QV t b kind f u m)):=by
 have cN:=Qc6 t b hs.hr rt m kind f u wh hi.h0 hi.h1 hi.h2
 have hoff:=hi.off hs
 have hn:=ok.n
 have hd:=ok.d
 have hl:=ok.s
 have hl1:=ok.s1
 have cW:=Q79 t b rt m (by omega) 5 f u hoff.1 hoff.2
 obtain⟨ma,hma⟩:=exq (Qu t 5 f u m)
 have cLa:=Q7F t b hs.hb hs.ok hs.hr rt ma (by rw[hma];show m.n.length≤_;omega) kind f u wh hi.h0 hi.h1 hi.h2
 have cKa:=Q7y t b rt (Q1r t b kind f u ma) (by rw[hma];exact hl1) (by rw[hma];show m.s.length≤_;omega) (by rw[hma];have:=ok.top;show (Qt m.s).kids.length≤_;omega) m.n.length
 obtain⟨mb,hmb⟩:=exq ({ m with s:=m.s++[⟨Qw t f u,[]⟩] }:Mk)
 have hbs:mb.s=m.s++[⟨Qw t f u,[]⟩]:=by rw[hmb]
 have cLb:=Q7F t b hs.hb hs.ok hs.hr rt mb (by rw[hmb];show m.n.length≤_;omega) kind f u wh hi.h0 hi.h1 hi.h2
 have cKb:=Q7y t b rt (Q1r t b kind f u mb) (by show 1≤mb.s.length;rw[hbs];simp) (by show mb.s.length≤_;rw[hbs];simp;omega) (by show (Qt mb.s).kids.length≤_;rw[hbs];simp[Qt]) m.n.length
 have hE:QV t b kind f u m=if 64<m.s.length then Q2d m.n.length (Q1r t b kind f u ma) else Q2d m.n.length (Q1r t b kind f u mb):=by rw[hma,hmb];rfl
 rw[hE]
 clear hE hoff
 unfold obT obM
 refine fnN (cs:=QjD std (nmA t) (wrA t) (lfT t b) kdA) func136 rfl (by kernel_rfl) ?_
 intro w0 g0
 generalize hp:std=p,hnm:nmA t=nm,hwr:wrA t=wr,hlf:lfT t b=lf,hkd:kdA=kd,hN:Q0 m.n=N,hD:Qx m.d=D,hS:Qb m.s=S,hB:Q3 b=B,hR:Q5 t.r=R,hO:Q7 t.off=O,hK:t.kind=K,hM:t.bom=M
 generalize hT:Q8 p tys (QjD p nm wr lf kd) _ _ _ _=T
 cbv at hT
 subst hT
 simp only[Tree.ok,Q4,S0]
 subst hp hnm hwr hlf hkd hN hD hS hB hR hO hK hM
 subst hma hmb
 simp only[obT,obM,Q1r,Q15,Q2d,Qu] at cN cW cLa cKa cLb cKb
 have eS:Qb m.s++[AV.agg [AV.slc 1 (nmA t f u),AV.val (Value.slice none 0 0)]]=Qb (m.s++[⟨Qw t f u,[]⟩]):=by
  have:slR (Qw t f u)=.slc 1 (nmA t f u):=by
   show slR (Qw t f u)=.slc 1 (Q5 (Qw t f u))
   cases h:Qw t f u with
   |nil=>exact absurd h hne
   |cons x r=>rfl
  rw[←this];simp[Qb,Opn.av,slK,Qif]
 have eb:std.bnd (Qb m.s) [AV.agg [AV.slc 1 (nmA t f u),AV.val (Value.slice none 0 0)]]:=by
  show (Qb m.s).length+1≤1000000000
  rw[Q2A];omega
 refine⟨cN,fun hd=>?_,fun hd=>⟨eb,?_⟩⟩
 ·have hg:64<m.s.length:=by
   have:(64:Int)<((Qb m.s).length:Int):=of_decide_eq_true hd
   rw[Q2A] at this;omega
  simp only[std,Q7X,Q7r,Q8i,QG,if_pos hg,Q1r,Q15,Q2d,Qu]
  exact⟨cW,cLa,cKa,[some 0,some 1,some 2,some 3,some 4,some 5],.tup [],_,rfl,rfl,Nat.le_of_ble_eq_true rfl,rfl,by simp[Qd],trivial⟩
 ·have hg:¬ 64<m.s.length:=by
   have:¬ (64:Int)<((Qb m.s).length:Int):=of_decide_eq_false hd
   rw[Q2A] at this;omega
  simp only[std,eS,Q7X,Q7r,Q8i,QG,if_neg hg,Q1r,Q15,Q2d,Qu]
  exact⟨cLb,cKb,[some 0,some 1,some 2,some 3,some 4,some 5],.tup [],_,rfl,rfl,Nat.le_of_ble_eq_true rfl,rfl,by simp[Qd],trivial⟩
theorem Q1Y {l:List Node}{x:Node}{n:Int}(h0:0≤n)(h1:n<l.length):Qk (l++[x]) n=Qk l n:=by
 have h2:n.toNat<l.length:=by omega
 have h3:n<((l++[x]).length:Int):=by simp only[List.length_append,List.length_singleton];omega
 rw[Qk,Qk,if_pos ⟨h0,h3⟩,if_pos ⟨h0,h1⟩,List.getElem?_append_left h2]
theorem Q2r {l:List Node}{x:Node}:Qk (l++[x]) l.length=x:=by
 rw[Qk,if_pos ⟨by omega,by simp only[List.length_append,List.length_singleton];omega⟩,Int.toNat_natCast]
 simp
theorem Q4c {l:List Node}{n:Int}(h:¬ (0≤n∧n<l.length)):Qk l n=Q6O:=by rw[Qk,if_neg h]
theorem Q61 {l:List Node}{x:Node}(n:Int):(0≤n∧n<l.length∧Qk (l++[x]) n=Qk l n)∨(n=l.length∧Qk (l++[x]) n=x)∨Qk (l++[x]) n=Q6O:=by
 by_cases h:0≤n∧n<l.length
 ·exact .inl ⟨h.1,h.2,Q1Y h.1 h.2⟩
 ·by_cases h2:n=l.length
  ·subst h2;exact .inr (.inl ⟨rfl,Q2r⟩)
  ·exact .inr (.inr (Q4c (by simp;omega)))
def InR (l:List Node)(ks:List Int):Prop:=∀ k∈ks,0≤k∧k<l.length
theorem InR.more {l:List Node}{ks:List Int}(h:InR l ks)(x:Node):InR (l++[x]) ks:=fun k hk=>by have:=h k hk;simp;omega
theorem Q7P {l:List Node}(h:Wf l){x:Node}(hx:InR l x.kids):Wf (l++[x]):=fun n h0 h1 k hk=>by
 rcases Q61 (l:=l) (x:=x) n with ⟨h2,h3,h4⟩|⟨h2,h4⟩|h4
 ·rw[h4] at hk;exact h n h2 h3 k hk
 ·rw[h4] at hk;rw[h2];exact hx k hk
 ·rw[h4] at hk;cases hk
theorem Qcq {l:List Node}(h:Wf l)(x:Node):∀ (f:Nat) (n:Int),0≤n→n<l.length→prF (l++[x]) f n=prF l f n
 |0,_,_,_=>rfl
 |f+1,n,h0,h1=>by
  simp only[prF,Q1Y h0 h1]
  congr 1
  refine congrArg List.flatten (List.map_congr_left fun k hk=>?_)
  have:=h n h0 h1 k hk
  exact Qcq h x f k this.1 (by omega)
theorem Q9X {l:List Node}(h:Wf l)(x:Node){n:Int}(h0:0≤n)(h1:n<l.length):pr (l++[x]) n=pr l n:=Qcq h x _ n h0 h1
theorem Q4P {l:List Node}(h:Wf l)(x:Node){ks:List Int}(hk:InR l ks):ks.flatMap (pr (l++[x]))=ks.flatMap (pr l) :=
 congrArg List.flatten (List.map_congr_left fun k hk'=>Q9X h x (hk k hk').1 (hk k hk').2)
theorem Q9U {l:List Node}(h:Wf l){x:Node}(hx:InR l x.kids):pr (l++[x]) l.length=x.b++x.kids.flatMap (pr l):=by
 rw[QcS (Q7P h hx) (by omega) (by simp only[List.length_append,List.length_singleton];omega),Q2r,Q4P h x hx]
theorem QaY {l:List Node}(h:Wf l)(hw:Qds l){x:Node}(hx:InR l x.kids)(hxw:x.width=(x.b++x.kids.flatMap (pr l)).length):Qds (l++[x]):=fun n h0 h1=>by
 rcases Q61 (l:=l) (x:=x) n with ⟨h2,h3,h4⟩|⟨h2,h4⟩|h4
 ·rw[h4,Q9X h x h2 h3];exact hw n h2 h3
 ·rw[h4,h2,Q9U h hx];exact hxw
 ·have h1:n<((l++[x]).length:Int):=h1
  by_cases h2:n<l.length
  ·rw[Q1Y h0 h2] at h4
   rw[Q1Y h0 h2,Q9X h x h0 h2];exact hw n h0 h2
  ·have h3:n=l.length:=by simp at h1;omega
   subst h3
   rw[Q2r,Q9U h hx];exact hxw
theorem QfC {l:List Node}(h:ArOk l){x:Node}(hw:0≤x.width)(hc:0≤x.count∧x.count≤2147483647):ArOk (l++[x]):=by
 refine⟨fun n=>?_,fun n=>?_⟩
 ·rw[Qm]
  rcases Q61 (l:=l) (x:=x) n with ⟨_,_,h4⟩|⟨_,h4⟩|h4
  ·rw[h4];exact h.w n
  ·rw[h4];exact hw
  ·rw[h4];exact Int.le_refl _
 ·rw[Q1M]
  rcases Q61 (l:=l) (x:=x) n with ⟨_,_,h4⟩|⟨_,h4⟩|h4
  ·rw[h4];exact h.c n
  ·rw[h4];exact hc
  ·rw[h4];exact⟨Int.le_refl _,by show (0:Int)≤_;omega⟩
structure Ar (l:List Node):Prop where
 wf:Wf l
 wide:Qds l
 ok:ArOk l
theorem QiN:Ar []:=⟨fun n h0 h1=>by simp at h1;omega,fun n h0 h1=>by simp at h1;omega,⟨fun n=>by rw[Qm,Q4c (fun h=>by simp at h;omega)];exact Int.le_refl _,fun n=>by rw[Q1M,Q4c (fun h=>by simp at h;omega)];exact⟨Int.le_refl _,by show (0:Int)≤_;omega⟩⟩⟩
theorem Q36 {l:List Node}(h:Ar l)(k:Int)(bs:List UInt8):Ar (l++[Ql k bs])∧pr (l++[Ql k bs]) l.length=bs:=by
 have hx:InR l (Ql k bs).kids:=fun k hk=>by cases hk
 refine⟨⟨Q7P h.wf hx,QaY h.wf h.wide hx (by simp[Ql]),QfC h.ok (by show (0:Int)≤(bs.length:Int);omega) (by show (0:Int)≤1∧(1:Int)≤_;omega)⟩,?_⟩
 rw[Q9U h.wf hx]
 simp[Ql]
theorem Q6d {l:List Node}(hw:Qds l):∀ {ks:List Int},InR l ks→Q19 l ks=(ks.flatMap (pr l)).length
 | [],_=>rfl
 |k::r,hk=>by
  have ih:=Q6d hw (ks:=r) (fun x hx=>hk x (List.mem_cons_of_mem _ hx))
  have h1:=hk k (List.mem_cons_self ..)
  have h2:=hw k h1.1 h1.2
  simp only[Q19,List.map_cons,List.sum_cons,List.flatMap_cons,List.length_append] at ih ⊢
  rw[Qm,h2,ih];omega
theorem Q8V {l:List Node}(h:Ar l)(k:Int){ks:List Int}(hk:InR l ks):Ar (l++[QQ l k ks])∧pr (l++[QQ l k ks]) l.length=ks.flatMap (pr l):=by
 have hx:InR l (QQ l k ks).kids:=hk
 refine⟨⟨Q7P h.wf hx,QaY h.wf h.wide hx ?_,QfC h.ok (Q3S h.ok.w ks) (Q6M h.ok.c ks)⟩,?_⟩
 ·show Q19 l ks=(([]:List UInt8)++ks.flatMap (pr l)).length
  rw[List.nil_append];exact Q6d h.wide hk
 ·rw[Q9U h.wf hx];rfl
theorem Q6g (s:List Opn)(x:Opn):Qt (s++[x])=x:=by simp[Qt]
theorem Q1E (n:Int)(s:List Opn)(x:Opn):Q1b n (s++[x])=s++[⟨x.name,x.kids++[n]⟩]:=by
 rw[Q1b,Q6g]
 simp
theorem Q1w {s:List Opn}(h:1≤s.length):∃ s0,s=s0++[Qt s]:=by
 refine⟨s.dropLast,?_⟩
 have hne:s≠[]:=by rintro rfl;simp at h
 have h2:Qt s=s.getLast hne:=by
  rw[Qt,List.getLast_eq_getElem,List.getElem?_eq_getElem (by omega)];rfl
 rw[h2];exact (List.dropLast_concat_getLast hne).symm
def prK (l:List Node)(s:List Opn):List UInt8:=s.flatMap fun x=>x.kids.flatMap (pr l)
def Q44 (s:List Opn):Nat:=(s.map fun x=>x.kids.length).sum
structure MkInv (m:Mk) (X:List UInt8) (B D:Nat):Prop where
 ar:Ar m.n
 rng:∀ x∈m.s,InR m.n x.kids
 p:prK m.n m.s=X
 s1:1≤m.s.length
 n:m.n.length+2 * m.s.length≤B
 d:m.d.length+2 * m.s.length≤D
 k:Q44 m.s+2 * m.s.length≤B
 nm:∀ x∈m.s,x.name.length≤1000000
theorem Qh7 {s:List Opn}{x:Opn}(h:x∈s):x.kids.length≤Q44 s:=by
 induction s with
 |nil=>cases h
 |cons y r ih =>
  simp only[Q44,List.map_cons,List.sum_cons] at ih ⊢
  rcases List.mem_cons.1 h with rfl|h
  ·omega
  ·have:=ih h;omega
theorem MkInv.ok {m:Mk}{X:List UInt8}{B D:Nat}(h:MkInv m X B D)(hB:B≤900000)(hD:D≤900000):MkOk m :=
 ⟨by have:=h.n;omega,by have:=h.d;omega,by have:=h.n;omega,h.s1,fun x hx=>by have:=h.k;have:=Qh7 hx;omega⟩
theorem Q2a {m:Mk}{X:List UInt8}{B D:Nat}(h:MkInv m X B D)(t:Txt)(c f u:Int):MkInv (Qu t c f u m) X B (D+1) :=
 ⟨h.ar,h.rng,h.p,h.s1,by have:=h.n;show m.n.length+2 * m.s.length≤_;omega,by have:=h.d;show (m.d++_).length+2 * m.s.length≤_;simp;omega,by have:=h.k;show Q44 m.s+2 * m.s.length≤_;omega,h.nm⟩
theorem Q9G {l:List Node}(h:Wf l)(x:Node){s:List Opn}(hs:∀ y∈s,InR l y.kids):prK (l++[x]) s=prK l s :=
 congrArg List.flatten (List.map_congr_left fun y hy=>Q4P h x (hs y hy))
theorem Q4W (l:List Node)(s:List Opn)(x:Opn):prK l (s++[x])=prK l s++x.kids.flatMap (pr l):=by simp[prK]
theorem Q2v (s:List Opn)(x:Opn):Q44 (s++[x])=Q44 s+x.kids.length:=by simp[Q44]
theorem Qcm {m:Mk}{X:List UInt8}{B D:Nat}(h:MkInv m X B D){x:Node}{Y:List UInt8}(ha:Ar (m.n++[x]))(hp:pr (m.n++[x]) m.n.length=Y):MkInv (Q2d m.n.length (Q15 x m)) (X++Y) (B+1) D:=by
 obtain⟨s0,hs0⟩:=Q1w h.s1
 generalize Qt m.s=y at hs0
 have e:(Q2d m.n.length (Q15 x m)).s=s0++[⟨y.name,y.kids++[(m.n.length:Int)]⟩]:=by
  show Q1b m.n.length m.s=_
  rw[hs0,Q1E]
 have en:(Q2d m.n.length (Q15 x m)).n=m.n++[x]:=rfl
 have hr:=h.rng
 rw[hs0] at hr
 have hr0:∀ z∈s0,InR m.n z.kids:=fun z hz=>hr z (List.mem_append_left _ hz)
 have hry:InR m.n y.kids:=hr y (by simp)
 have h1:=h.n
 have h2:=h.d
 have h3:=h.k
 have h4:=h.p
 rw[hs0] at h1 h2 h3 h4
 rw[Q2v] at h3
 rw[Q4W] at h4
 simp only[List.length_append,List.length_singleton] at h1 h2 h3
 have hnm:=h.nm
 rw[hs0] at hnm
 refine⟨by rw[en];exact ha,fun z hz=>?_,?_,by rw[e];simp,?_,?_,?_,fun z hz=>?_⟩
 ·rw[en]
  rw[e] at hz
  rcases List.mem_append.1 hz with hz|hz
  ·exact (hr0 z hz).more x
  ·obtain rfl:z=⟨y.name,y.kids++[(m.n.length:Int)]⟩:=by simpa using hz
   intro k hk
   rcases List.mem_append.1 hk with hk|hk
   ·exact hry.more x k hk
   ·obtain rfl:k=(m.n.length:Int):=by simpa using hk
    simp;omega
 ·rw[e,en,Q4W,Q9G h.ar.wf x hr0]
  simp only[List.flatMap_append,List.flatMap_cons,List.flatMap_nil,List.append_nil]
  rw[Q4P h.ar.wf x hry,hp,←List.append_assoc,h4]
 ·rw[e,en];simp only[List.length_append,List.length_singleton];omega
 ·rw[e];show m.d.length+_≤_;simp only[List.length_append,List.length_singleton];omega
 ·rw[e,Q2v];simp only[List.length_append,List.length_singleton];omega
 ·rw[e] at hz
  rcases List.mem_append.1 hz with hz|hz
  ·exact hnm z (List.mem_append_left _ hz)
  ·obtain rfl:z=⟨y.name,y.kids++[(m.n.length:Int)]⟩:=by simpa using hz
   exact hnm y (by simp)
theorem Q88 {m:Mk}{X:List UInt8}{B D:Nat}(h:MkInv m X B D)(t:Txt)(b:List UInt8)(kind f u:Int):MkInv (lkF t b kind f u m) (X++QM t b f u) (B+1) D :=
 Qcm h (Q36 h.ar kind _).1 (Q36 h.ar kind _).2
theorem Qbk {m:Mk}{X:List UInt8}{B D:Nat}(h:MkInv m X B D)(nm:List Int)(hnm:nm.length≤1000000):MkInv { m with s:=m.s++[⟨nm,[]⟩] } X (B+2) (D+2):=by
 have h1:=h.n
 have h2:=h.d
 have h3:=h.k
 refine⟨h.ar,fun z hz=>?_,?_,by simp,?_,?_,?_,fun z hz=>?_⟩
 ·rcases List.mem_append.1 hz with hz|hz
  ·exact h.rng z hz
  ·obtain rfl:z=⟨nm,[]⟩:=by simpa using hz
   intro k hk;cases hk
 ·rw[Q4W];simpa using h.p
 ·simp only[List.length_append,List.length_singleton];omega
 ·simp only[List.length_append,List.length_singleton];omega
 ·rw[Q2v];simp only[List.length_append,List.length_singleton,List.length_nil];omega
 ·rcases List.mem_append.1 hz with hz|hz
  ·exact h.nm z hz
  ·obtain rfl:z=⟨nm,[]⟩:=by simpa using hz
   exact hnm
theorem Q81 {m:Mk}{X:List UInt8}{B D:Nat}(h:MkInv m X B D)(hs:2≤m.s.length)(kind:Int)(bs:List UInt8){D':Nat}(hD:D≤D'+2):MkInv (Q12 m.n.length (Q15 (Ql kind bs) m)) (X++bs) B D'∧(Q12 m.n.length (Q15 (Ql kind bs) m)).s.length=m.s.length-1 ∧
  InR (m.n++[Ql kind bs]) ((Qt m.s).kids++[(m.n.length:Int)])∧(((Qt m.s).kids++[(m.n.length:Int)]).flatMap (pr (m.n++[Ql kind bs]))).length≤X.length+bs.length:=by
 obtain⟨s1,hs1⟩:=Q1w h.s1
 generalize Qt m.s=x at hs1
 have hl1:1≤s1.length:=by rw[hs1] at hs;simp at hs;omega
 obtain⟨s0,hs0⟩:=Q1w hl1
 generalize Qt s1=y at hs0
 subst hs0
 obtain⟨ha1,hp1⟩:=Q36 h.ar kind bs
 have hr:=h.rng
 rw[hs1] at hr
 have hr0:∀ z∈s0,InR m.n z.kids:=fun z hz=>hr z (List.mem_append_left _ (List.mem_append_left _ hz))
 have hry:InR m.n y.kids:=hr y (List.mem_append_left _ (by simp))
 have hrx:InR m.n x.kids:=hr x (by simp)
 have hks:InR (m.n++[Ql kind bs]) (x.kids++[(m.n.length:Int)]):=fun k hk=>by
  rcases List.mem_append.1 hk with hk|hk
  ·exact hrx.more _ k hk
  ·obtain rfl:k=(m.n.length:Int):=by simpa using hk
   simp;omega
 obtain⟨l1,hl⟩:=exq (m.n++[Ql kind bs])
 obtain⟨ha2,hp2⟩:=Q8V ha1 21 hks
 obtain⟨z,hz⟩:=exq (QQ l1 21 (x.kids++[(m.n.length:Int)]))
 have hpk:(x.kids++[(m.n.length:Int)]).flatMap (pr l1)=x.kids.flatMap (pr m.n)++bs:=by
  rw[hl]
  simp only[List.flatMap_append,List.flatMap_cons,List.flatMap_nil,List.append_nil]
  rw[Q4P h.ar.wf _ hrx,hp1]
 rw[←hl] at ha1 ha2 hp2 hks ⊢
 rw[←hz] at ha2 hp2
 have eT:Qt (Q2d (m.n.length:Int) (Q15 (Ql kind bs) m)).s=⟨x.name,x.kids++[(m.n.length:Int)]⟩:=by
  show Qt (Q1b m.n.length m.s)=_
  rw[hs1,Q1E,Q6g]
 have en:(Q12 m.n.length (Q15 (Ql kind bs) m)).n=l1++[z]:=by
  show (m.n++[Ql kind bs])++[QQ (m.n++[Ql kind bs]) 21 (Qt (Q2d (m.n.length:Int) (Q15 (Ql kind bs) m)).s).kids]=_
  rw[eT,←hl,←hz]
 have es:(Q12 m.n.length (Q15 (Ql kind bs) m)).s=s0++[⟨y.name,y.kids++[(l1.length:Int)]⟩]:=by
  show Q1b ((m.n++[Ql kind bs]).length:Int) ((Q1b m.n.length m.s).take ((Q1b m.n.length m.s).length-1))=_
  have e2:(Q1b m.n.length m.s).take ((Q1b m.n.length m.s).length-1)=s0++[y]:=by
   rw[hs1,Q1E,show (s0++[y]++[(⟨x.name,x.kids++[(m.n.length:Int)]⟩:Opn)]).length-1=(s0++[y]).length by simp]
   exact List.take_left
  rw[e2,Q1E,hl]
 have h1:=h.n
 have h2:=h.d
 have h3:=h.k
 have h4:=h.p
 rw[hs1] at h1 h2 h3 h4
 rw[Q2v,Q2v] at h3
 rw[Q4W,Q4W] at h4
 simp only[List.length_append,List.length_singleton] at h1 h2 h3
 have hll:l1.length=m.n.length+1:=by rw[hl];simp
 have hnm:=h.nm
 rw[hs1] at hnm
 refine⟨⟨by rw[en];exact ha2,fun q hq=>?_,?_,by rw[es];simp,?_,?_,?_,fun q hq=>?_⟩,by rw[es,hs1];simp,hks,?_⟩
 ·rw[en]
  rw[es] at hq
  have up:∀ {ks:List Int},InR m.n ks→InR (l1++[z]) ks:=fun hk=>by
   rw[hl];exact (hk.more _).more _
  rcases List.mem_append.1 hq with hq|hq
  ·exact up (hr0 q hq)
  ·obtain rfl:q=⟨y.name,y.kids++[(l1.length:Int)]⟩:=by simpa using hq
   intro k hk
   rcases List.mem_append.1 hk with hk|hk
   ·exact up hry k hk
   ·obtain rfl:k=(l1.length:Int):=by simpa using hk
    simp;omega
 ·have up0:prK (l1++[z]) s0=prK m.n s0:=by
   rw[Q9G ha1.wf z (fun q hq=>by rw[hl];exact (hr0 q hq).more _),hl,Q9G h.ar.wf _ hr0]
  have upy:y.kids.flatMap (pr (l1++[z]))=y.kids.flatMap (pr m.n):=by
   rw[Q4P ha1.wf z (by rw[hl];exact hry.more _),hl,Q4P h.ar.wf _ hry]
  rw[es,en,Q4W,up0]
  simp only[List.flatMap_append,List.flatMap_cons,List.flatMap_nil,List.append_nil]
  rw[upy,hp2,hpk,←h4]
  simp only[List.append_assoc]
 ·rw[es,en];simp only[List.length_append,List.length_singleton];omega
 ·rw[es];show m.d.length+_≤_;simp only[List.length_append,List.length_singleton];omega
 ·rw[es,Q2v];simp only[List.length_append,List.length_singleton];omega
 ·rw[es] at hq
  rcases List.mem_append.1 hq with hq|hq
  ·exact hnm q (List.mem_append_left _ (List.mem_append_left _ hq))
  ·obtain rfl:q=⟨y.name,y.kids++[(l1.length:Int)]⟩:=by simpa using hq
   exact hnm y (List.mem_append_left _ (by simp))
 ·rw[hpk,←h4]
  simp only[List.length_append]
  omega
theorem Q3N {m:Mk}{X:List UInt8}{B D:Nat}(h:MkInv m X B D)(hs:2≤m.s.length)(t:Txt)(at_:Int):MkInv (Q1P t at_ m) X B D∧(Q1P t at_ m).s.length=m.s.length-1 ∧
  InR (m.n++[Ql 22 []]) ((Qt m.s).kids++[(m.n.length:Int)])∧(((Qt m.s).kids++[(m.n.length:Int)]).flatMap (pr (m.n++[Ql 22 []]))).length≤X.length:=by
 have:=Q81 (Q2a h t 4 at_ at_) hs 22 [] (D':=D) (by omega)
 rw[List.append_nil] at this
 exact this
theorem Q7e (t:Txt)(f u:Int):(Qw t f u).length≤t.r.length:=by
 rw[Qw,List.length_take,List.length_drop];omega
theorem Q5U (t:Txt)(a:Int)(m:Mk):(Q1P t a m).s.length=m.s.length-1:=by
 show (Q1b _ ((Q1b _ m.s).take ((Q1b _ m.s).length-1))).length=_
 rw[Q3r,List.length_take,Q3r];omega
theorem Q6P {t:Txt}{f:Int}{k:Nat}{x:Mk}(h:k<x.s.length-1):missGo t f k x.s.length x=missGo t f k (Q1P t f x).s.length (Q1P t f x):=by
 obtain⟨n,hn⟩:∃ n,x.s.length=n+1:=⟨x.s.length-1,by omega⟩
 rw[Q5U,hn]
 rw[hn] at h
 show (if k<x.s.length-1 then _ else _)=_
 rw[hn,if_pos h];rfl
theorem Q7G {t:Txt}{f:Int}{k:Nat}{x:Mk}(h:¬ k<x.s.length-1):missGo t f k x.s.length x=x:=by
 cases hn:x.s.length with
 |zero=>rfl
 |succ n =>
  show (if k<x.s.length-1 then _ else _)=_
  rw[if_neg h]
theorem MkInv.sum {l:List Node}(h:Ar l){ks:List Int}(hk:InR l ks){n:Nat}(hn:(ks.flatMap (pr l)).length≤n)(h2:n≤2147483647):Q19 l ks≤2147483647:=by
 rw[Q6d h.wide hk];omega
theorem MkInv.top {m:Mk}{X:List UInt8}{B D:Nat}(h:MkInv m X B D):InR m.n (Qt m.s).kids:=by
 obtain⟨s0,hs0⟩:=Q1w h.s1
 refine h.rng _ ?_
 rw[hs0,Q6g];simp
theorem Qff (t:Txt)(b:List UInt8)(rt:Int){m:Mk}{X:List UInt8}{B D:Nat}(h:MkInv m X B D)(hB:B≤900000)(hD:D≤900000)(hX:X.length≤1000000)(a:Int)(ha:0≤a∧a<t.off.length)(hs:2≤m.s.length) :
  BCall prog 89 [.box 0 0,.val (.int .i64 a)] (obT 0 t b rt m) (.tup []) (obT 1 t b rt (Q1P t a m)):=by
 have ok:=h.ok hB hD
 obtain⟨_,_,h3,h4⟩:=Q3N h hs t a
 have ha1:=(Q36 h.ar 22 []).1
 exact Qis t b rt m (by have:=ok.d;omega) a ha hs (by have:=ok.s;omega) (fun x hx=>by have:=ok.k x hx;omega) (by have:=ok.n;omega) ha1.ok h.top (MkInv.sum ha1 h3 h4 (by omega))
theorem QiQ (t:Txt)(b:List UInt8)(rt:Int){m:Mk}{X:List UInt8}{B D:Nat}(h:MkInv m X B D)(hB:B≤900000)(hD:D≤900000)(hX:X.length≤1000000)(hs:2≤m.s.length)(kind:Int)(bs:List UInt8)(hbs:bs.length≤1000000) :
  BCall prog 139 [.box 0 0,.val (.int .i64 m.n.length)] (obT 0 t b rt (Q15 (Ql kind bs) m)) (.tup []) (obT 1 t b rt (Q12 m.n.length (Q15 (Ql kind bs) m))):=by
 have ok:=h.ok hB hD
 obtain⟨_,_,h3,h4⟩:=Q81 h hs kind bs (D':=D) (by omega)
 have ha1:=(Q36 h.ar kind bs).1
 exact QeC t b rt (Q15 (Ql kind bs) m) hs (by have:=ok.s;show m.s.length≤_;omega) (fun x hx=>by have:=ok.k x hx;omega) (by have:=ok.n;show (m.n++_).length≤_;simp;omega) ha1.ok m.n.length h3 (MkInv.sum ha1 h3 h4 (by omega))
def Q3P (t:Txt)(a:Int)(N D S:List AV):List AV:=Q0 (Q1P t a (mkB N D S)).n
def Q3Z (t:Txt)(a:Int)(N D S:List AV):List AV:=Qx (Q1P t a (mkB N D S)).d
def Q3U (t:Txt)(a:Int)(N D S:List AV):List AV:=Qb (Q1P t a (mkB N D S)).s
def Q9v (p:Pr)(nm:Int→Int→List AV)(wr:Int→Int→Int→List AV→List AV)(lf:Int→Int→Int→List AV→List AV)(kd:Int→List AV→List AV)(eq:List AV→List AV→Bool)(mn md ms sn ss:Int→List AV→List AV→List AV→List AV):Nat→List AV→List Ob→Option (AV×List Ob):=fun f args ob=>match f,args with
 |135,[.box 0 0,.agg [_,.val (.int .i64 f),.val (.int .i64 u),_]]=>some (.slc 1 (nm f u),ob)
 |134,[.box 0 0,.val (.int .i64 c),.val (.int .i64 f),.val (.int .i64 u)]=>Q2J ob fun b k m r o rt N D S=>some (.tup [],obM 1 b k m r o rt N (wr c f u D) S)
 |138,[.box 0 0,.agg [.val (.int .i64 kind),.val (.int .i64 f),.val (.int .i64 u),_]]=>Q2J ob fun b k m r o rt N D S=>some (.val (.int .i64 (p.len N)),obM 1 b k m r o rt (lf kind f u N) D S)
 |42,[.box 0 0,.val (.int .i64 n)]=>Q2J ob fun b k m r o rt N D S=>some (.tup [],obM 1 b k m r o rt N D (kd n S))
 |178,[.slc 1 x,.slc 1 y]=>some (.val (.bool (eq x y)),[])
 |89,[.box 0 0,.val (.int .i64 a)]=>Q2J ob fun b k m r o rt N D S=>some (.tup [],obM 1 b k m r o rt (mn a N D S) (md a N D S) (ms a N D S))
 |139,[.box 0 0,.val (.int .i64 n)]=>Q2J ob fun b k m r o rt N D S=>some (.tup [],obM 1 b k m r o rt (sn n N D S) D (ss n N D S))
 |_,_=>none
def eqA (x y:List AV):Bool:=decide (x.map intOf=y.map intOf)
theorem Qga (x y:List Int):eqA (Q5 x) (Q5 y)=decide (x=y):=by rw[eqA,Q3p,Q3p]
theorem QgY (l:List Int):Q1C (slR l)=Q5 l:=by cases l<;>rfl
theorem QiC (l:List Int):slR l=.slc 1 (Q5 l)∨slR l=.val (.slice none 0 0):=by
 cases l with
 |nil=>exact .inr rfl
 |cons x r=>exact .inl rfl
def Q4h (s:List Opn)(k:Int):Opn:=s[k.toNat]?.getD ⟨[],[]⟩
theorem Qic {s:List Opn}{k:Int}(h0:0≤k)(h1:k<s.length):(Qb s).getD k.toNat .dead=(Q4h s k).av:=by
 have:k.toNat<s.length:=by omega
 simp[Qb,Q4h,this]
theorem Q8e {s:List Opn}{nm:List Int}{k:Int}(h:0<k):Q1g s nm k.toNat=if (Q4h s k).name=nm then k.toNat else Q1g s nm (k-1).toNat:=by
 obtain⟨n,hn⟩:∃ n:Nat,k.toNat=n+1:=⟨k.toNat-1,by omega⟩
 rw[Q4h,show (k-1).toNat=n by omega,hn];rfl
theorem Qdi (t:Txt)(a:Int)(m:Mk):Q3P t a (Q0 m.n) (Qx m.d) (Qb m.s)=Q0 (Q1P t a m).n:=by rw[Q3P,Q1u]
theorem Qde (t:Txt)(a:Int)(m:Mk):Q3Z t a (Q0 m.n) (Qx m.d) (Qb m.s)=Qx (Q1P t a m).d:=by rw[Q3Z,Q1u]
theorem Qdo (t:Txt)(a:Int)(m:Mk):Q3U t a (Q0 m.n) (Qx m.d) (Qb m.s)=Qb (Q1P t a m).s:=by rw[Q3U,Q1u]
theorem QgS (l:Int)(y:Node)(m:Mk):Q5o l (Q0 (m.n++[y])) (Qx m.d) (Qb m.s)=Q0 (Q12 l (Q15 y m)).n:=by
 have:=Q1u (Q15 y m)
 rw[Q5o];exact congrArg (fun z=>Q0 (Q12 l z).n) this
theorem Qh6 (l:Int)(y:Node)(m:Mk):Q5n l (Q0 (m.n++[y])) (Qx m.d) (Qb m.s)=Qb (Q12 l (Q15 y m)).s:=by
 have:=Q1u (Q15 y m)
 rw[Q5n];exact congrArg (fun z=>Qb (Q12 l z).s) this
theorem Qjp (t:Txt)(b:List UInt8)(hs:Sml t b)(rt:Int)(m:Mk)(X:List UInt8)(B D:Nat)(iv:MkInv m X B D)(hB:B≤800000)(hD:D≤800000)(hX:X.length≤1000000)(kind f u:Int)(wh:Bool)(hi:InT t f u) :
  BCall prog 137 [.box 0 0,.agg [.val (.int .i64 kind),.val (.int .i64 f),.val (.int .i64 u),.val (.bool wh)]] (obT 0 t b rt m) (.tup []) (obT 1 t b rt (Q2b t b kind f u m)):=by
 have cN:=Qc6 t b hs.hr rt m kind f u wh hi.h0 hi.h1 hi.h2
 have hoff:=hi.off hs
 have ok:=iv.ok (by omega) (by omega)
 unfold obT obM
 obtain⟨L,hL⟩:=QS m.s
 have slen:=Q2A m.s
 refine fnN (cs:=Q9v std (nmA t) (wrA t) (lfT t b) kdA eqA (Q3P t) (Q3Z t) (Q3U t) Q5o Q5n) func137 rfl (by kernel_rfl) ?_
 intro w0 g0
 generalize hp:std=p,hnm:nmA t=nm,hwr:wrA t=wr,hlf:lfT t b=lf,hkd:kdA=kd,heq:eqA=eq,hmn:Q3P t=mn,hmd:Q3Z t=md,hms:Q3U t=ms,hsn:Q5o=sn,hss:Q5n=ss,hN:Q0 m.n=N,hD':Qx m.d=D',hS:Qb m.s=S,hB':Q3 b=B',hR:Q5 t.r=R,hO:Q7 t.off=O,hK:t.kind=K,hM:t.bom=M
 generalize hT:Q8 p tys (Q9v p nm wr lf kd eq mn md ms sn ss) _ _ _ _=T
 cbv at hT
 subst hT
 simp only[Tree.ok,Q4,S0]
 subst hp hnm hwr hlf hkd heq hmn hmd hms hsn hss hN hD' hS hB' hR hO hK hM
 have hlen:std.len (Qb m.s)=L:=by show ((Qb m.s).length:Int)=L;rw[slen,hL.eq]
 have hL1:1≤L:=by have:=hL.eq;have:=ok.s1;omega
 have hLn:L≤900000:=by have:=hL.eq;have:=ok.s;omega
 refine⟨cN,?_,?_⟩
 ·show (-9223372036854775808:Int)≤std.len (Qb m.s)-1∧std.len (Qb m.s)-1≤(9223372036854775807:Int)
  rw[hlen];omega
 obtain⟨nm0,hnm⟩:=exq (Qw t f u)
 have hnmA:nmA t f u=Q5 nm0:=by rw[hnm];rfl
 rw[hnmA]
 refine Q1S (cs:=Q9v std (nmA t) (wrA t) (lfT t b) kdA eqA (Q3P t) (Q3Z t) (Q3U t) Q5o Q5n) (by kernel_rfl) (X:=Int) (fun k=>⟨[(0,.box 0 0),(3,.box 6 0),(4,.slc 1 (Q5 nm0)),(5,.val (.int .i64 k))],[.box [.slc 1 (Q3 b),.box 1 0,.row 5 0],.box [.val (.int .i64 t.kind),.val (.int .i64 t.bom),.slc 1 (Q5 t.r),.slc 1 (Q7 t.off),.box 2 0,.val (.int .i64 rt),.row 4 0],.box [.row 3 0],.row 182 6 false 0 (Q0 m.n),.row 146 3 false 0 (Qx m.d),.row 99 2 false 0 (Qb m.s),.box [.val (.int .i64 kind),.val (.int .i64 f),.val (.int .i64 u),.val (.bool wh)]]⟩) (fun k=>0≤k∧k≤L-1∧Q1g m.s nm0 k.toNat=Q1g m.s nm0 (m.s.length-1)) (fun k=>k.toNat) (L-1) ?_ ?_ ?_
 ·exact⟨by omega,Int.le_refl _,by have:=hL.eq;rw[show (L-1).toNat=m.s.length-1 by omega]⟩
 ·exact⟨[some 0,some 1,some 2,some 3,some 4,some 5,some 6],_,rfl,by simp[Qd,lk,std,slen,hL.eq]⟩
 ·rintro k ⟨hk0,hk1,hk2⟩
  generalize hp:std=p,hnm:nmA t=nm,hwr:wrA t=wr,hlf:lfT t b=lf,hkd:kdA=kd,heq:eqA=eq,hmn:Q3P t=mn,hmd:Q3Z t=md,hms:Q3U t=ms,hsn:Q5o=sn,hss:Q5n=ss,hN:Q0 m.n=N,hD':Qx m.d=D',hS:Qb m.s=S,hB':Q3 b=B',hR:Q5 t.r=R,hO:Q7 t.off=O,hK:t.kind=K,hM:t.bom=M,hNM:Q5 nm0=NM
  generalize hT:Q8 p tys (Q9v p nm wr lf kd eq mn md ms sn ss) _ _ _ _=T
  cbv at hT
  subst hT
  simp only[Tree.ok,Q4,S0]
  subst hp hnm hwr hlf hkd heq hmn hmd hms hsn hss hN hD' hS hB' hR hO hK hM hNM
  have hkl:k<m.s.length:=by have:=hL.eq;omega
  have hat:=Qic hk0 hkl
  have hcel:std.nth (std.drp (std.cel (std.at_ (Qb m.s) k)) 0) 0=slR (Q4h m.s k).name:=by
   show ((((Qb m.s).getD k.toNat .dead).cells).drop 0).getD 0 .dead=_
   rw[hat];rfl
  have hlst:std.lst (std.nth (std.drp (std.cel (std.at_ (Qb m.s) k)) 0) 0)=Q5 (Q4h m.s k).name:=by
   show Q1C (std.nth (std.drp (std.cel (std.at_ (Qb m.s) k)) 0) 0)=_
   rw[hcel,QgY]
  have hnl:(Q4h m.s k).name.length≤1000000000:=by
   have hk3:k.toNat<m.s.length:=by omega
   have:=iv.nm (Q4h m.s k) (by rw[Q4h,List.getElem?_eq_getElem hk3];exact List.getElem_mem hk3)
   omega
  have hn0:nm0.length≤1000000000:=by
   have h3:=Q7e t f u
   have h4:=hs.hr
   rw[hnm];omega
  have cE:=Qhr (Q4h m.s k).name nm0 hnl hn0
  rw[←Qga,←hlst] at cE
  have hq:∀ c,std.notB (eqA (std.lst (std.nth (std.drp (std.cel (std.at_ (Qb m.s) k)) 0) 0)) (Q5 nm0))=c→decide ((Q4h m.s k).name=nm0)=!c:=fun c h=>by
   rw[hlst,Qga] at h
   have h:(!decide ((Q4h m.s k).name=nm0))=c:=h
   rw[←h,Bool.not_not]
  refine⟨fun hk=>⟨?_,⟨?_,trivial⟩,cE,fun hne=>⟨?_,k-1,⟨?_,?_,?_⟩,?_,[some 0,some 1,some 2,some 3,some 4,some 5,some 6],_,rfl,by simp[Qd,lk,std]⟩,fun heq=>?_⟩,fun hk=>?_⟩
  ·show 0≤k∧k<std.len (Qb m.s)
   rw[hlen];omega
  ·show std.nth (std.drp (std.cel (std.at_ (Qb m.s) k)) 0) 0=.slc 1 (std.lst (std.nth (std.drp (std.cel (std.at_ (Qb m.s) k)) 0) 0))∨std.nth (std.drp (std.cel (std.at_ (Qb m.s) k)) 0) 0=.val (.slice none 0 0)
   rw[hlst,hcel];exact QiC _
  ·show (-9223372036854775808:Int)≤k-1∧k-1≤(9223372036854775807:Int)
   omega
  ·have:0<k:=of_decide_eq_true hk
   omega
  ·omega
  ·have h1:0<k:=of_decide_eq_true hk
   rw[←hk2,Q8e (nm:=nm0) h1,if_neg (of_decide_eq_false (hq _ hne))]
  ·have h1:0<k:=of_decide_eq_true hk
   omega
  ·have h1:0<k:=of_decide_eq_true hk
   have hf:Q1g m.s nm0 (m.s.length-1)=k.toNat:=by rw[←hk2,Q8e (nm:=nm0) h1,if_pos (of_decide_eq_true (hq _ heq))]
   clear cE hq
   have hkn:k.toNat≠0:=by omega
   have hE:Q2b t b kind f u m=Q12 (missGo t f k.toNat m.s.length m).n.length (Q1r t b kind f u (missGo t f k.toNat m.s.length m)):=by
    show (if Q1g m.s (Qw t f u) (m.s.length-1)=0 then _ else _)=_
    rw[←hnm,hf,if_neg hkn]
   obtain⟨kn,hkn'⟩:=exq k.toNat
   obtain⟨M0,hM0⟩:=exq (missGo t f kn m.s.length m)
   rw[←hkn',←hM0] at hE
   have hkI:k=(kn:Int):=by omega
   rw[hE]
   clear hE hf hk2 hkl
   rw[if_pos trivial]
   generalize hp:std=p,hnm:nmA t=nm,hwr:wrA t=wr,hlf:lfT t b=lf,hkd:kdA=kd,heq:eqA=eq,hmn:Q3P t=mn,hmd:Q3Z t=md,hms:Q3U t=ms,hsn:Q5o=sn,hss:Q5n=ss,hN:Q0 m.n=N,hD':Qx m.d=D',hS:Qb m.s=S,hB':Q3 b=B',hR:Q5 t.r=R,hO:Q7 t.off=O,hK:t.kind=K,hM:t.bom=M,hNM:Q5 nm0=NM
   generalize hT:Q8 p tys (Q9v p nm wr lf kd eq mn md ms sn ss) _ _ _ _=T
   cbv at hT
   subst hT
   simp only[Tree.ok,Q4,S0]
   subst hp hnm hwr hlf hkd heq hmn hmd hms hsn hss hN hD' hS hB' hR hO hK hM hNM
   refine⟨fun hz=>?_,fun _=>?_⟩
   ·have hz:(k == 0)=true:=hz
    have:k=0:=by simpa using hz
    omega
   refine Q1S (cs:=Q9v std (nmA t) (wrA t) (lfT t b) kdA eqA (Q3P t) (Q3Z t) (Q3U t) Q5o Q5n) (by kernel_rfl) (X:=Mk) (fun x=>⟨[(0,.box 0 0),(3,.box 6 0),(5,.val (.int .i64 k))],[.box [.slc 1 (Q3 b),.box 1 0,.row 5 1],.box [.val (.int .i64 t.kind),.val (.int .i64 t.bom),.slc 1 (Q5 t.r),.slc 1 (Q7 t.off),.box 2 0,.val (.int .i64 rt),.row 4 1],.box [.row 3 1],.row 182 6 false 1 (Q0 x.n),.row 146 3 false 1 (Qx x.d),.row 99 2 false 1 (Qb x.s),.box [.val (.int .i64 kind),.val (.int .i64 f),.val (.int .i64 u),.val (.bool wh)]]⟩) (fun x=>MkInv x X B D∧kn+1≤x.s.length∧missGo t f kn x.s.length x=M0) (fun x=>x.s.length) m ?_ ?_ ?_
   ·exact⟨iv,by have:=hL.eq;omega,hM0.symm⟩
   ·exact⟨[some 0,some 1,some 2,some 3,some 4,some 5,some 6],_,rfl,by simp[Qd,lk,std]⟩
   ·rintro x ⟨hv,hx1,hx2⟩
    have okx:=hv.ok (by omega) (by omega)
    have xlen:=Q2A x.s
    obtain⟨LX,hLX⟩:=QS x.s
    generalize hp:std=p,hnm:nmA t=nm,hwr:wrA t=wr,hlf:lfT t b=lf,hkd:kdA=kd,heq:eqA=eq,hmn:Q3P t=mn,hmd:Q3Z t=md,hms:Q3U t=ms,hsn:Q5o=sn,hss:Q5n=ss,hN:Q0 x.n=N,hD':Qx x.d=D',hS:Qb x.s=S,hB':Q3 b=B',hR:Q5 t.r=R,hO:Q7 t.off=O,hK:t.kind=K,hM:t.bom=M
    generalize hT:Q8 p tys (Q9v p nm wr lf kd eq mn md ms sn ss) _ _ _ _=T
    cbv at hT
    subst hT
    simp only[Tree.ok,Q4,S0]
    subst hp hnm hwr hlf hkd heq hmn hmd hms hsn hss hN hD' hS hB' hR hO hK hM
    have hlx:std.len (Qb x.s)=LX:=by show ((Qb x.s).length:Int)=LX;rw[xlen,hLX.eq]
    have hX1:1≤LX∧LX≤900000:=by have:=hLX.eq;have:=okx.s;have:=okx.s1;omega
    simp only[Qdi,Qde,Qdo]
    refine⟨?_,fun hgt=>?_,fun hle=>?_⟩
    ·show (-9223372036854775808:Int)≤std.len (Qb x.s)-1∧std.len (Qb x.s)-1≤(9223372036854775807:Int)
     rw[hlx];omega
    ·have hgt:k<std.len (Qb x.s)-1:=of_decide_eq_true hgt
     rw[hlx] at hgt
     have hk1:kn<x.s.length-1:=by have:=hLX.eq;omega
     have hxs2:2≤x.s.length:=by omega
     have c:=Qff t b rt hv (by omega) (by omega) hX f hoff.1 hxs2
     refine⟨c,Q1P t f x,⟨(Q3N hv hxs2 t f).1,by rw[Q5U];omega,by rw[←Q6P hk1];exact hx2⟩,by rw[Q5U];omega,[some 0,some 1,some 2,some 3,some 4,some 5,some 6],_,rfl,by simp[Qd,lk,std]⟩
    ·have hle:¬ k<std.len (Qb x.s)-1:=of_decide_eq_false hle
     rw[hlx] at hle
     have hk1:¬ kn<x.s.length-1:=by have:=hLX.eq;omega
     have hx0:x=M0:=by rw[←hx2,Q7G hk1]
     subst hx0
     have hxs2:2≤x.s.length:=by omega
     have cL:=Q7F t b hs.hb hs.ok hs.hr rt x (by have:=okx.n;omega) kind f u wh hi.h0 hi.h1 hi.h2
     have cS:=QiQ t b rt hv (by omega) (by omega) hX hxs2 kind (QM t b f u) (by have:=Q9p t b f u;have:=hs.hb;omega)
     simp only[obT,obM,Q1r] at cL cS ⊢
     clear hle hlx hX1 hk1 hxs2 hx2 hx1 hkI hkn' hlst hcel hat
     rw[if_pos trivial]
     generalize hp:std=p,hnm:nmA t=nm,hwr:wrA t=wr,hlf:lfT t b=lf,hkd:kdA=kd,heq:eqA=eq,hmn:Q3P t=mn,hmd:Q3Z t=md,hms:Q3U t=ms,hsn:Q5o=sn,hss:Q5n=ss,hN:Q0 x.n=N,hD':Qx x.d=D',hS:Qb x.s=S,hB':Q3 b=B',hR:Q5 t.r=R,hO:Q7 t.off=O,hK:t.kind=K,hM:t.bom=M
     generalize hT:Q8 p tys (Q9v p nm wr lf kd eq mn md ms sn ss) _ _ _ _=T
     cbv at hT
     subst hT
     simp only[Tree.ok,Q4,S0]
     subst hp hnm hwr hlf hkd heq hmn hmd hms hsn hss hN hD' hS hB' hR hO hK hM
     simp only[std,Q7X,QG,QgS,Qh6]
     refine⟨cL,cS,[some 0,some 1,some 2,some 3,some 4,some 5],.tup [],_,rfl,rfl,Nat.le_of_ble_eq_true rfl,rfl,?_,trivial⟩
     simp[Qd]
     rfl
  ·have hk:¬ 0<k:=of_decide_eq_false hk
   have hk0':k=0:=by omega
   have hf:Q1g m.s nm0 (m.s.length-1)=0:=by rw[←hk2,hk0'];rfl
   have hE:Q2b t b kind f u m=lkF t b kind f u (Qu t 3 f u m):=by
    show (if Q1g m.s (Qw t f u) (m.s.length-1)=0 then _ else _)=_
    rw[←hnm,hf,if_pos rfl]
   rw[hE]
   clear cE hq hE hf hk2 hkl hlst hcel hat hnl hn0
   rw[if_pos trivial]
   generalize hp:std=p,hnm:nmA t=nm,hwr:wrA t=wr,hlf:lfT t b=lf,hkd:kdA=kd,heq:eqA=eq,hmn:Q3P t=mn,hmd:Q3Z t=md,hms:Q3U t=ms,hsn:Q5o=sn,hss:Q5n=ss,hN:Q0 m.n=N,hD':Qx m.d=D',hS:Qb m.s=S,hB':Q3 b=B',hR:Q5 t.r=R,hO:Q7 t.off=O,hK:t.kind=K,hM:t.bom=M,hNM:Q5 nm0=NM
   generalize hT:Q8 p tys (Q9v p nm wr lf kd eq mn md ms sn ss) _ _ _ _=T
   cbv at hT
   subst hT
   simp only[Tree.ok,Q4,S0]
   subst hp hnm hwr hlf hkd heq hmn hmd hms hsn hss hN hD' hS hB' hR hO hK hM hNM
   refine⟨fun _=>?_,fun hz=>?_⟩
   ·have hd:=ok.d
    have cW:=Q79 t b rt m (by omega) 3 f u hoff.1 hoff.2
    have cL:=Q7F t b hs.hb hs.ok hs.hr rt (Qu t 3 f u m) (by have:=ok.n;show m.n.length≤_;omega) kind f u wh hi.h0 hi.h1 hi.h2
    have cK:=Q7y t b rt (Q1r t b kind f u (Qu t 3 f u m)) (by have:=ok.s1;exact this) (by have:=ok.s;show m.s.length≤_;omega) (by have:=ok.top;show (Qt m.s).kids.length≤_;omega) m.n.length
    simp only[obT,obM,Q1r,Q15,Q2d,Qu,lkF] at cW cL cK ⊢
    simp only[std,Q7X,Q7r,Q8i,QG]
    exact⟨cW,cL,cK,[some 0,some 1,some 2,some 3,some 4,some 5],.tup [],_,rfl,rfl,Nat.le_of_ble_eq_true rfl,rfl,by simp[Qd],trivial⟩
   ·have hz:(k == 0)=false:=hz
    rw[hk0'] at hz;cases hz
end Go.Proofs.YtibemhahkicbpaaGreat
namespace Go.Proofs.YtibemhahkicbpaaGreat
open Go.RowKit Go.Lib
theorem MkInv.mono {m:Mk}{X:List UInt8}{B D B' D':Nat}(h:MkInv m X B D)(hB:B≤B')(hD:D≤D'):MkInv m X B' D' :=
 ⟨h.ar,h.rng,h.p,h.s1,Nat.le_trans h.n hB,Nat.le_trans h.d hD,Nat.le_trans h.k hB,h.nm⟩
theorem Q91 {m:Mk}{X:List UInt8}{B D:Nat}(h:MkInv m X B D)(t:Txt)(b:List UInt8)(hr:t.r.length≤1000000)(kind f u:Int):MkInv (QV t b kind f u m) (X++QM t b f u) (B+3) (D+2):=by
 unfold QV
 split
 ·exact (Q88 (Q2a h t 5 f u) t b kind f u).mono (by omega) (by omega)
 ·exact Q88 (Qbk h (Qw t f u) (Nat.le_trans (Q7e t f u) hr)) t b kind f u
theorem Q7O (t:Txt)(f:Int)(k:Nat){X:List UInt8}{B D:Nat}:∀ (n:Nat) (m:Mk),MkInv m X B D→k+1≤m.s.length→m.s.length≤n+k+1→MkInv (missGo t f k n m) X B D∧(missGo t f k n m).s.length=k+1
 |0,m,h,h1,h2=>⟨h,by show m.s.length=_;omega⟩
 |n+1,m,h,h1,h2=>by
  show MkInv (if _ then _ else _) X B D∧(if _ then _ else _:Mk).s.length=_
  split
  ·have h3:=Q3N h (by omega) t f
   exact Q7O t f k n _ h3.1 (by omega) (by omega)
  ·exact⟨h,by omega⟩
theorem Q49 (s:List Opn)(nm:List Int):∀ k,Q1g s nm k≤k
 |0=>Nat.le_refl _
 |k+1=>by
  unfold Q1g
  split
  ·exact Nat.le_refl _
  ·exact Nat.le_succ_of_le (Q49 s nm k)
theorem Qcy {m:Mk}{X:List UInt8}{B D:Nat}(h:MkInv m X B D)(t:Txt)(b:List UInt8)(kind f u:Int):MkInv (Q2b t b kind f u m) (X++QM t b f u) (B+1) (D+1):=by
 unfold Q2b
 have h1:=h.s1
 have h2:=Q49 m.s (Qw t f u) (m.s.length-1)
 simp only
 split
 ·exact Q88 (Q2a h t 3 f u) t b kind f u
 ·obtain⟨h3,h4⟩:=Q7O t f (Q1g m.s (Qw t f u) (m.s.length-1)) m.s.length m h (by omega) (by omega)
  exact (Q81 h3 (by omega) kind (QM t b f u) (D':=D) (by omega)).1.mono (by omega) (by omega)
theorem Qef {m:Mk}{X:List UInt8}{B D:Nat}(h:MkInv m X B D)(t:Txt)(b:List UInt8)(hr:t.r.length≤1000000)(kind f u:Int)(wh:Bool):MkInv (Q1A t b kind f u wh m) (X++QM t b f u) (B+3) (D+3):=by
 unfold Q1A
 simp only
 generalize hm1:(if wh=false then Qu t 1 f u m else if (kind=8∨kind=9∨kind=10)∧(QJ t.r f u).right=false then Qu t 2 f u m else m)=m1
 have h1:MkInv m1 X B (D+1):=by
  rw[←hm1]
  split
  ·exact Q2a h t 1 f u
  ·split
   ·exact Q2a h t 2 f u
   ·exact h.mono (by omega) (by omega)
 split
 ·exact (Q91 h1 t b hr kind f u).mono (by omega) (by omega)
 ·split
  ·exact (Qcy h1 t b kind f u).mono (by omega) (by omega)
  ·exact (Q88 h1 t b kind f u).mono (by omega) (by omega)
def Q4B (t:Txt)(b:List UInt8)(k:Int):List UInt8:=b.take (Q1N t k).toNat
theorem Q5x {t:Txt}{b:List UInt8}(ok:TxtOk t b){f u:Int}(h0:0≤f)(h1:f≤u)(h2:u≤t.r.length):Q4B t b f++QM t b f u=Q4B t b u:=by
 have hm:=ok.mono f.toNat u.toNat (by omega) (by omega)
 have hlen:=ok.len
 have hf:f.toNat<t.off.length:=by omega
 have h3:=ok.range (t.off[f.toNat]'hf) (List.getElem_mem hf)
 have e3:t.off[f.toNat]?.getD 0=t.off[f.toNat]:=by rw[List.getElem?_eq_getElem hf];rfl
 rw[←e3] at h3
 show b.take (t.off[f.toNat]?.getD 0).toNat++(b.drop (t.off[f.toNat]?.getD 0).toNat).take _=b.take (t.off[u.toNat]?.getD 0).toNat
 generalize t.off[f.toNat]?.getD 0=p at *
 generalize t.off[u.toNat]?.getD 0=q at *
 rw[show q.toNat=p.toNat+(q-p).toNat by omega,List.take_add]
theorem Q7t {t:Txt}{b:List UInt8}(ok:TxtOk t b):Q4B t b t.r.length=b:=by
 rw[Q4B,Q1N,Int.toNat_natCast,ok.last,Int.toNat_natCast,List.take_length]
def Q5R (t:Txt)(b:List UInt8)(m:Mk)(x:Tok):Mk:=Q1A t b x.kind x.from_ x.to x.whole m
theorem Qa1 (l:List Int){k:Nat}(h:k<l.length):(QI l k).from_=k∧(QI l k).to=((QA l k).2.1:Nat)∧k<(QA l k).2.1∧(QA l k).2.1≤l.length:=⟨rfl,rfl,Q2D l k h⟩
def Q6Y (t:Txt)(b:List UInt8)(m:Mk):Mk :=
 let m1:=(Q3M t.r).foldl (Q5R t b) m
 missGo t t.r.length 0 m1.s.length m1
def QE (m:Mk):Mk:=Q15 (QQ m.n 20 (Qt m.s).kids) m
end Go.Proofs.YtibemhahkicbpaaGreat
namespace Go.Proofs.YtibemhahkicbpaaGreat
open Go.RowKit Go.Lib
theorem QcU {l:List Node}(h:Wf l)(x:Node):∀ (f:Nat) (n:Int),0≤n→n<l.length→coF (l++[x]) f n=coF l f n
 |0,_,_,_=>rfl
 |f+1,n,h0,h1=>by
  simp only[coF,Q1Y h0 h1]
  congr 2
  refine List.map_congr_left fun k hk=>?_
  have:=h n h0 h1 k hk
  exact QcU h x f k this.1 (by omega)
theorem Qiw {l:List Node}(h:Wf l)(x:Node){n:Int}(h0:0≤n)(h1:n<l.length):co (l++[x]) n=co l n:=QcU h x _ n h0 h1
def coL (l:List Node)(ks:List Int):Nat:=(ks.map (co l)).sum
theorem Q4O {l:List Node}(h:Wf l)(x:Node){ks:List Int}(hk:InR l ks):coL (l++[x]) ks=coL l ks :=
 congrArg List.sum (List.map_congr_left fun k hk'=>Qiw h x (hk k hk').1 (hk k hk').2)
theorem Q9M {l:List Node}(h:Wf l){x:Node}(hx:InR l x.kids):co (l++[x]) l.length=1+coL l x.kids:=by
 rw[Qbo (Q7P h hx) (by omega) (by simp only[List.length_append,List.length_singleton];omega),Q2r]
 exact congrArg (1 + ·) (Q4O h x hx)
theorem Q71 (l:List Node)(a b:List Int):coL l (a++b)=coL l a+coL l b:=by simp[coL]
theorem Q78 (l:List Node)(k:Int):coL l [k]=co l k:=by simp[coL]
def coK (l:List Node)(s:List Opn):Nat:=(s.map fun x=>coL l x.kids).sum
theorem Q4Y (l:List Node)(s:List Opn)(x:Opn):coK l (s++[x])=coK l s+coL l x.kids:=by simp[coK]
theorem Q9u {l:List Node}(h:Wf l)(x:Node){s:List Opn}(hs:∀ y∈s,InR l y.kids):coK (l++[x]) s=coK l s :=
 congrArg List.sum (List.map_congr_left fun y hy=>Q4O h x (hs y hy))
def Q7K (m:Mk):Prop:=coK m.n m.s≤m.n.length
theorem QgA {m:Mk}(h:Q7K m)(nm:List Int):Q7K { m with s:=m.s++[⟨nm,[]⟩] }:=by
 show coK m.n (m.s++[⟨nm,[]⟩])≤_
 have h:coK m.n m.s≤m.n.length:=h
 rw[Q4Y]
 simpa[coL] using h
theorem Q5q {m:Mk}{X:List UInt8}{B D:Nat}(h:MkInv m X B D)(hc:Q7K m)(kind:Int)(bs:List UInt8):Q7K (Q2d m.n.length (Q15 (Ql kind bs) m)):=by
 obtain⟨s0,hs0⟩:=Q1w h.s1
 generalize Qt m.s=y at hs0
 have hr:=h.rng
 rw[hs0] at hr
 have hr0:∀ z∈s0,InR m.n z.kids:=fun z hz=>hr z (List.mem_append_left _ hz)
 have hry:InR m.n y.kids:=hr y (by simp)
 have hx:InR m.n (Ql kind bs).kids:=fun k hk=>by cases hk
 have hc:coK m.n m.s≤m.n.length:=hc
 rw[hs0,Q4Y] at hc
 show coK (m.n++[Ql kind bs]) (Q1b m.n.length m.s)≤(m.n++[Ql kind bs]).length
 rw[hs0,Q1E,Q4Y,Q71,Q78,Q9u h.ar.wf _ hr0,Q4O h.ar.wf _ hry,Q9M h.ar.wf hx]
 have:coL m.n (Ql kind bs).kids=0:=rfl
 rw[this]
 simp only[List.length_append,List.length_singleton]
 omega
theorem Qd9 {m:Mk}{X:List UInt8}{B D:Nat}(h:MkInv m X B D)(hc:Q7K m)(hs:2≤m.s.length)(kind:Int)(bs:List UInt8):Q7K (Q12 m.n.length (Q15 (Ql kind bs) m)):=by
 obtain⟨s1,hs1⟩:=Q1w h.s1
 generalize Qt m.s=x at hs1
 have hl1:1≤s1.length:=by rw[hs1] at hs;simp at hs;omega
 obtain⟨s0,hs0⟩:=Q1w hl1
 generalize Qt s1=y at hs0
 subst hs0
 have ha1:=(Q36 h.ar kind bs).1
 have hr:=h.rng
 rw[hs1] at hr
 have hr0:∀ z∈s0,InR m.n z.kids:=fun z hz=>hr z (List.mem_append_left _ (List.mem_append_left _ hz))
 have hry:InR m.n y.kids:=hr y (List.mem_append_left _ (by simp))
 have hrx:InR m.n x.kids:=hr x (by simp)
 have hx:InR m.n (Ql kind bs).kids:=fun k hk=>by cases hk
 have hks:InR (m.n++[Ql kind bs]) (x.kids++[(m.n.length:Int)]):=fun k hk=>by
  rcases List.mem_append.1 hk with hk|hk
  ·exact hrx.more _ k hk
  ·obtain rfl:k=(m.n.length:Int):=by simpa using hk
   simp;omega
 obtain⟨l1,hl⟩:=exq (m.n++[Ql kind bs])
 obtain⟨z,hz⟩:=exq (QQ l1 21 (x.kids++[(m.n.length:Int)]))
 have e1:coL l1 (x.kids++[(m.n.length:Int)])=coL m.n x.kids+1:=by
  rw[hl,Q71,Q78,Q4O h.ar.wf _ hrx,Q9M h.ar.wf hx];rfl
 have eT:Qt (Q2d (m.n.length:Int) (Q15 (Ql kind bs) m)).s=⟨x.name,x.kids++[(m.n.length:Int)]⟩:=by
  show Qt (Q1b m.n.length m.s)=_
  rw[hs1,Q1E,Q6g]
 have en:(Q12 m.n.length (Q15 (Ql kind bs) m)).n=l1++[z]:=by
  show (m.n++[Ql kind bs])++[QQ (m.n++[Ql kind bs]) 21 (Qt (Q2d (m.n.length:Int) (Q15 (Ql kind bs) m)).s).kids]=_
  rw[eT,←hl,←hz]
 have es:(Q12 m.n.length (Q15 (Ql kind bs) m)).s=s0++[⟨y.name,y.kids++[(l1.length:Int)]⟩]:=by
  show Q1b ((m.n++[Ql kind bs]).length:Int) ((Q1b m.n.length m.s).take ((Q1b m.n.length m.s).length-1))=_
  have e2:(Q1b m.n.length m.s).take ((Q1b m.n.length m.s).length-1)=s0++[y]:=by
   rw[hs1,Q1E,show (s0++[y]++[(⟨x.name,x.kids++[(m.n.length:Int)]⟩:Opn)]).length-1=(s0++[y]).length by simp]
   exact List.take_left
  rw[e2,Q1E,hl]
 rw[←hl] at ha1 hks
 have hzk:InR l1 z.kids:=by rw[hz];exact hks
 have hc:coK m.n m.s≤m.n.length:=hc
 rw[hs1,Q4Y,Q4Y] at hc
 have up0:coK (l1++[z]) s0=coK m.n s0:=by
  rw[Q9u ha1.wf z (fun q hq=>by rw[hl];exact (hr0 q hq).more _),hl,Q9u h.ar.wf _ hr0]
 have upy:coL (l1++[z]) y.kids=coL m.n y.kids:=by
  rw[Q4O ha1.wf z (by rw[hl];exact hry.more _),hl,Q4O h.ar.wf _ hry]
 have hll:l1.length=m.n.length+1:=by rw[hl];simp
 show coK (Q12 m.n.length (Q15 (Ql kind bs) m)).n (Q12 m.n.length (Q15 (Ql kind bs) m)).s≤(Q12 m.n.length (Q15 (Ql kind bs) m)).n.length
 rw[es,en,Q4Y,Q71,Q78,up0,upy,Q9M ha1.wf hzk]
 have ez:coL l1 z.kids=coL m.n x.kids+1:=by rw[hz];exact e1
 rw[ez]
 simp only[List.length_append,List.length_singleton]
 omega
structure MkI (m:Mk) (X:List UInt8) (B D:Nat):Prop where
 i:MkInv m X B D
 c:Q7K m
section
variable {m:Mk} {X:List UInt8} {B D:Nat}
theorem MkI.lk (h:MkI m X B D)(t:Txt)(b:List UInt8)(kind f u:Int):MkI (lkF t b kind f u m) (X++QM t b f u) (B+1) D:=⟨Q88 h.i t b kind f u,Q5q h.i h.c kind _⟩
theorem MkI.wrong (h:MkI m X B D)(t:Txt)(c f u:Int):MkI (Qu t c f u m) X B (D+1):=⟨Q2a h.i t c f u,h.c⟩
theorem MkI.start (h:MkI m X B D)(t:Txt)(b:List UInt8)(hr:t.r.length≤1000000)(kind f u:Int):MkI (QV t b kind f u m) (X++QM t b f u) (B+3) (D+2):=by
 refine⟨Q91 h.i t b hr kind f u,?_⟩
 unfold QV
 split
 ·exact ((h.wrong t 5 f u).lk t b kind f u).c
 ·exact Q5q (Qbk h.i (Qw t f u) (Nat.le_trans (Q7e t f u) hr)) (QgA h.c _) kind _
theorem MkI.miss (h:MkI m X B D)(hs:2≤m.s.length)(t:Txt)(a:Int):MkI (Q1P t a m) X B D:=⟨(Q3N h.i hs t a).1,Qd9 (Q2a h.i t 4 a a) h.c hs 22 []⟩
end
theorem MkI.missGo (t:Txt)(f:Int)(k:Nat){X:List UInt8}{B D:Nat}:∀ (n:Nat) (m:Mk),MkI m X B D→k+1≤m.s.length→m.s.length≤n+k+1→MkI (missGo t f k n m) X B D∧(Go.Proofs.YtibemhahkicbpaaGreat.missGo t f k n m).s.length=k+1
 |0,m,h,h1,h2=>⟨h,by show m.s.length=_;omega⟩
 |n+1,m,h,h1,h2=>by
  show MkI (if _ then _ else _) X B D∧(if _ then _ else _:Mk).s.length=_
  split
  ·have h3:=Q3N h.i (by omega) t f
   exact MkI.missGo t f k n _ (h.miss (by omega) t f) (by omega) (by omega)
  ·exact⟨h,by omega⟩
section
variable {m:Mk} {X:List UInt8} {B D:Nat}
theorem MkI.end_ (h:MkI m X B D)(t:Txt)(b:List UInt8)(kind f u:Int):MkI (Q2b t b kind f u m) (X++QM t b f u) (B+1) (D+1):=by
 refine⟨Qcy h.i t b kind f u,?_⟩
 unfold Q2b
 have h1:=h.i.s1
 have h2:=Q49 m.s (Qw t f u) (m.s.length-1)
 simp only
 split
 ·exact ((h.wrong t 3 f u).lk t b kind f u).c
 ·obtain⟨h3,h4⟩:=MkI.missGo t f (Q1g m.s (Qw t f u) (m.s.length-1)) m.s.length m h (by omega) (by omega)
  exact Qd9 h3.i h3.c (by omega) kind _
theorem MkI.token (h:MkI m X B D)(t:Txt)(b:List UInt8)(hr:t.r.length≤1000000)(kind f u:Int)(wh:Bool):MkI (Q1A t b kind f u wh m) (X++QM t b f u) (B+3) (D+3):=by
 refine⟨Qef h.i t b hr kind f u wh,?_⟩
 unfold Q1A
 simp only
 generalize hm1:(if wh=false then Qu t 1 f u m else if (kind=8∨kind=9∨kind=10)∧(QJ t.r f u).right=false then Qu t 2 f u m else m)=m1
 have h1:∃ D',MkI m1 X B D':=by
  rw[←hm1]
  split
  ·exact⟨_,h.wrong t 1 f u⟩
  ·split
   ·exact⟨_,h.wrong t 2 f u⟩
   ·exact⟨_,h⟩
 obtain⟨D',h1⟩:=h1
 split
 ·exact (h1.start t b hr kind f u).c
 ·split
  ·exact (h1.end_ t b kind f u).c
  ·exact (h1.lk t b kind f u).c
end
theorem Qao {t:Txt}{b:List UInt8}(ok:TxtOk t b)(hr:t.r.length≤1000000):∀ (n k:Nat) (m:Mk) (B D:Nat),t.r.length-k≤n→k≤t.r.length→MkI m (Q4B t b k) B D →
  MkI ((Q2q t.r k).foldl (Q5R t b) m) b (B+3 * n) (D+3 * n)
 |0,k,m,B,D,h,hk,hi=>by
  rw[Q1o (by omega)]
  have:k=t.r.length:=by omega
  subst this
  rw[Q7t ok] at hi
  exact hi
 |n+1,k,m,B,D,h,hk,hi=>by
  by_cases hlt:k<t.r.length
  ·obtain⟨h1,h2,h3,h4⟩:=Qa1 t.r hlt
   rw[Q1X hlt,List.foldl_cons]
   have:=hi.token t b hr (QI t.r k).kind (QI t.r k).from_ (QI t.r k).to (QI t.r k).whole
   rw[h1,h2,Q5x ok (by omega) (by omega) (by omega)] at this
   have h5:=Qao ok hr n (QA t.r k).2.1 _ (B+3) (D+3) (by omega) h4 this
   rw[show B+3 * (n+1)=B+3+3 * n by omega,show D+3 * (n+1)=D+3+3 * n by omega]
   have e:Q5R t b m (QI t.r k)=Q1A t b (QI t.r k).kind k ((QA t.r k).2.1:Nat) (QI t.r k).whole m:=rfl
   rw[e]
   exact h5
  ·rw[Q1o hlt]
   have:k=t.r.length:=by omega
   subst this
   rw[Q7t ok] at hi
   exact⟨hi.i.mono (by omega) (by omega),hi.c⟩
theorem QgW {t:Txt}{b:List UInt8}(ok:TxtOk t b)(hr:t.r.length≤1000000){m:Mk}{B D:Nat}(hi:MkI m (Q4B t b 0) B D) :
  MkI (Q6Y t b m) b (B+3 * t.r.length) (D+3 * t.r.length)∧(Q6Y t b m).s.length=1:=by
 have h1:=Qao ok hr t.r.length 0 m B D (by omega) (by omega) hi
 have h2:=h1.i.s1
 obtain⟨h3,h4⟩:=MkI.missGo t t.r.length 0 _ _ h1 (by omega) (Nat.le_succ _)
 exact⟨h3,h4⟩
theorem QaI {b:List UInt8}{m:Mk}{B D:Nat}(hi:MkI m b B D)(h1:m.s.length=1) :
  Ar (QE m).n∧pr (QE m).n m.n.length=b∧(Qk (QE m).n m.n.length).width=b.length∧co (QE m).n m.n.length≤1+m.n.length:=by
 have hk:=hi.i.top
 obtain⟨ha,hp⟩:=Q8V hi.i.ar 20 hk
 obtain⟨s0,hs0⟩:=Q1w hi.i.s1
 have hs:s0=[]:=by
  rw[hs0] at h1
  exact List.eq_nil_of_length_eq_zero (by simpa using h1)
 subst hs
 have hX:(Qt m.s).kids.flatMap (pr m.n)=b:=by
  have:=hi.i.p
  rw[hs0] at this
  generalize Qt m.s=y at *
  simpa[prK] using this
 have hC:coL m.n (Qt m.s).kids≤m.n.length:=by
  have h2:coK m.n m.s≤m.n.length:=hi.c
  rw[hs0] at h2
  generalize Qt m.s=y at *
  simpa[coK] using h2
 have hlen:(m.n.length:Int)<((QE m).n.length:Int):=by
  show (m.n.length:Int)<((m.n++[_]).length:Int)
  simp only[List.length_append,List.length_singleton];omega
 have e2:pr (QE m).n m.n.length=b:=by
  show pr (m.n++[_]) _=_
  rw[hp,hX]
 refine⟨ha,e2,?_,?_⟩
 ·have:=ha.wide m.n.length (by omega) hlen
  have e3:(Qk (QE m).n m.n.length).width=((pr (QE m).n m.n.length).length:Int):=this
  rw[e3,e2]
 ·show co (m.n++[QQ m.n 20 (Qt m.s).kids]) m.n.length≤_
  rw[Q9M hi.i.ar.wf (x:=QQ m.n 20 (Qt m.s).kids) hk]
  have:coL m.n (QQ m.n 20 (Qt m.s).kids).kids≤m.n.length:=hC
  omega
end Go.Proofs.YtibemhahkicbpaaGreat
