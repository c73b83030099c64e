/-
  Parts of the proof, joined: MkA MkB MkC MkD MkI MkE MkJ MkK. Conditions: as each theorem says.
-/
import Derived.Test.YtibemhahkicbpaaGreatQI10
import Derived.Test.YtibemhahkicbpaaGreatQI15
import Derived.Test.YtibemhahkicbpaaGreatQI18
import Derived.Test.YtibemhahkicbpaaGreatQI14
set_option maxRecDepth 100000
set_option maxHeartbeats 8000000
namespace Go.Proofs.YtibemhahkicbpaaGreat
open Go.RowKit Go.Lib
def QiX:AV:=.val (.slice none 0 0)
def slR (l:List Int):AV:=match l with|[]=>QiX|l=>.slc 1 (Q1 l)
def slK (l:List Int):AV:=match l with|[]=>QiX|l=>.slc 1 (Q9 l)
structure Opn where
 name:List Int
 kids:List Int
 deriving Inhabited,DecidableEq
def Opn.av (x:Opn):AV:=.agg [slR x.name,slK x.kids]
def Qc (l:List Opn):List AV:=l.map Opn.av
structure Dg where
 f:Int
 t:Int
 c:Int
 deriving Inhabited,DecidableEq
def Dg.av (x:Dg):AV:=.agg [.val (.int .i64 x.f),.val (.int .i64 x.t),.val (.int .i64 x.c)]
def Qz (l:List Dg):List AV:=l.map Dg.av
def Q8s (x:AV):List Int:=(Q1O x).map Qg
def Ql9:AV→Opn
 |.agg [a,k]=>⟨Q8s a,Q8s k⟩
 |_=>⟨[],[]⟩
def dgB:AV→Dg
 |.agg [a,b,c]=>⟨Qg a,Qg b,Qg c⟩
 |_=>⟨0,0,0⟩
def QjB:AV→Node
 |.agg [k,w,c,l,b,s]=>⟨Qg k,Qg w,Qg c,Q53 l,(Q1O b).map Q2p,Q8s s⟩
 |_=>Q7t
theorem Q6F {α:Type}{f:α→AV}{g:AV→α}(h:∀ x,g (f x)=x)(l:List α):(l.map f).map g=l:=by
 induction l with
 |nil=>rfl
 |cons x r ih=>simp only[List.map_cons,h,ih]
theorem Q7g (l:List Int):(Q9 l).map Qg=l:=Q6F (fun _=>rfl) l
theorem Qg0 (l:List Int):Q8s (slR l)=l:=by
 cases l with
 |nil=>rfl
 |cons x r=>exact Q3G (x::r)
theorem QgR (l:List Int):Q8s (slK l)=l:=by
 cases l with
 |nil=>rfl
 |cons x r=>exact Q7g (x::r)
theorem Qha (x:Opn):Ql9 x.av=x:=by
 show (⟨Q8s (slR x.name),Q8s (slK x.kids)⟩:Opn)=x
 rw[Qg0,QgR]
theorem Qje (x:Dg):dgB x.av=x:=rfl
theorem QeX (x:Node):QjB x.av=x:=by
 show (⟨x.kind,x.width,x.count,x.leaf,(Q5 x.b).map Q2p,(Q9 x.kids).map Qg⟩:Node)=x
 rw[Q32,Q7g]
def QgX (l:List AV):List Opn:=l.map Ql9
def Qkn (l:List AV):List Dg:=l.map dgB
def QcR (l:List AV):List Node:=l.map QjB
theorem Qa1 (l:List Opn):QgX (Qc l)=l:=Q6F Qha l
theorem Qbu (l:List Dg):Qkn (Qz l)=l:=Q6F Qje l
theorem Q7W (l:List Node):QcR (Q0 l)=l:=Q6F QeX l
theorem Q2N (l:List Opn):(Qc l).length=l.length:=by simp[Qc]
theorem QhR (l:List Dg):(Qz l).length=l.length:=by simp[Qz]
structure Mk where
 n:List Node
 d:List Dg
 s:List Opn
 deriving Inhabited
def obM (e:Nat)(b k m r o rt:AV)(N D S:List AV):List Ob :=
 [.box [b,.box 1 0,.row 5 e],.box [k,m,r,o,.box 2 0,rt,.row 4 e],.box [.row 3 e],.row 182 6 false e N,.row 146 3 false e D,.row 99 2 false e S]
def Q2M (ob:List Ob)(f:AV→AV→AV→AV→AV→AV→List AV→List AV→List AV→Option (AV×List Ob)):Option (AV×List Ob):=match ob with
 | [.box [b,.box 1 0,.row 5 0],.box [k,m,r,o,.box 2 0,rt,.row 4 0],.box [.row 3 0],.row 182 6 false 0 N,.row 146 3 false 0 D,.row 99 2 false 0 S]=>f b k m r o rt N D S
 |_=>none
def obT (e:Nat)(t:Txt)(b:List UInt8)(rt:Int)(m:Mk):List Ob :=
 obM e (.slc 1 (Q5 b)) (.val (.int .i64 t.kind)) (.val (.int .i64 t.bom)) (.slc 1 (Q1 t.r)) (.slc 1 (Q9 t.off)) (.val (.int .i64 rt)) (Q0 m.n) (Qz m.d) (Qc m.s)
def Q1s (t:Txt)(i:Int):Int:=t.off[i.toNat]?.getD 0
def Qw (t:Txt)(c f u:Int)(m:Mk):Mk:={ m with d:=m.d++[⟨Q1s t f,Q1s t u,c⟩] }
def QB (s:List Opn):Opn:=s[s.length-1]?.getD ⟨[],[]⟩
def Q1d (n:Int)(s:List Opn):List Opn:=s.set (s.length-1) ⟨(QB s).name,(QB s).kids++[n]⟩
def Q2g (n:Int)(m:Mk):Mk:={ m with s:=Q1d n m.s }
def Q1a (x:Node)(m:Mk):Mk:={ m with n:=m.n++[x] }
def Q1H (t:Txt)(b:List UInt8)(kind f u:Int)(m:Mk):Mk:=Q1a (Qj kind (QL t b f u)) m
def Qlg (m:Mk):Mk:={ m with s:=m.s.take (m.s.length-1) }
def Q16 (last:Int)(m:Mk):Mk :=
 let m1:=Q2g last m
 Q2g m1.n.length (Q1a (QM m1.n 21 (QB m1.s).kids) (Qlg m1))
def Q1Q (t:Txt)(at_:Int)(m:Mk):Mk :=
 let m1:=Qw t 4 at_ at_ m
 Q16 m1.n.length (Q1a (Qj 22 []) m1)
def Qs (t:Txt)(f u:Int):List Int:=(t.r.drop (Qy t.r f u).name.from_.toNat).take ((Qy t.r f u).name.to-(Qy t.r f u).name.from_).toNat
def lkF (t:Txt)(b:List UInt8)(kind f u:Int)(m:Mk):Mk:=Q2g m.n.length (Q1H t b kind f u m)
def QZ (t:Txt)(b:List UInt8)(kind f u:Int)(m:Mk):Mk :=
 if 64<m.s.length then lkF t b kind f u (Qw t 5 f u m)
 else lkF t b kind f u { m with s:=m.s++[⟨Qs t f u,[]⟩] }
def Q18 (s:List Opn)(name:List Int):Nat→Nat
 |0=>0
 |k+1=>if (s[k+1]?.getD ⟨[],[]⟩).name=name then k+1 else Q18 s name k
def missGo (t:Txt)(f:Int)(k:Nat):Nat→Mk→Mk
 |0,m=>m
 |n+1,m=>if k<m.s.length-1 then missGo t f k n (Q1Q t f m) else m
def Q1Y (t:Txt)(b:List UInt8)(kind f u:Int)(m:Mk):Mk :=
 let k:=Q18 m.s (Qs t f u) (m.s.length-1)
 if k=0 then lkF t b kind f u (Qw t 3 f u m)
 else let m1:=missGo t f k m.s.length m
  Q16 m1.n.length (Q1H t b kind f u m1)
def Q1f (t:Txt)(b:List UInt8)(kind f u:Int)(whole:Bool)(m:Mk):Mk :=
 let tagged:=kind=8∨kind=9∨kind=10
 let m1:=if whole=false then Qw t 1 f u m else if tagged∧(Qy t.r f u).right=false then Qw t 2 f u m else m
 if whole=true∧kind=8∧0<(Qs t f u).length then QZ t b kind f u m1
 else if whole=true∧kind=10 then Q1Y t b kind f u m1
 else lkF t b kind f u m1
end Go.Proofs.YtibemhahkicbpaaGreat
namespace Go.Proofs.YtibemhahkicbpaaGreat
open Go.RowKit Go.Lib Tryz
theorem BCall.see {P:Program}{f:Nat}{args:List AV}{ob ob1 ob':List Ob}{res r' res':AV}{l:Eqs}(h:BCall P f args ob res ob1)(ρ:List (Option Nat))(h1:Q2a ρ=true)(h2:Qcl ob ob1 ob' ρ=true)(h3:ob.length≤ρ.length)
  (h4:both (Qf7 ob1 ob' ρ res r') (Q6s ob1 ob' ρ ρ ob')=some l) (h5:Qh l) (h6:leA r' res'):BCall P f args ob res' ob':=by
 refine⟨h.1,fun w g vs M hL=>(h.2 w g vs M hL).mono fun e w' ⟨v,g',k1,k2,k3,k4⟩=>?_⟩
 obtain⟨⟨l1,e1,a1⟩,l2,e2,a2⟩:=Q2m h4 h5
 have hF:Fits ob1 ob' ρ:=Q3y _ _ _ e2 a2
 exact⟨v,g'.ren ρ,k1,k2.ren hF h1,Q7Q (Q8k hF h1 k3 e1 a1) h6,Qbt hF h1 h2 h3 k4⟩
theorem QgE (l:List Int):slK l=.slc 1 (Q9 l)∨(slK l=.val (.slice none 0 0)∧Q9 l=[]):=by
 cases l with
 |nil=>exact .inr ⟨rfl,rfl⟩
 |cons x r=>exact .inl rfl
theorem Qel (l:List Int)(n:Int):slK (l++[n])=.slc 1 (Q9 l++[.val (.int .i64 n)]):=by
 rw[←Qbj,←Q4N]
 cases l with
 |nil=>rfl
 |cons x r=>rfl
theorem Qg4 (l:List Opn)(i:Nat)(x:Opn):(Qc l).set i x.av=Qc (l.set i x):=by simp[Qc,List.map_set]
theorem Qex {s:List Opn}(h:1≤s.length):(Qc s)[s.length-1]?=some (QB s).av:=by
 have:s.length-1<s.length:=by omega
 simp[Qc,QB,this]
theorem Q87 (t:Txt)(b:List UInt8)(rt:Int)(m:Mk)(hs:1≤m.s.length)(hn:m.s.length≤1000000)(hk:(QB m.s).kids.length≤1000000)(n:Int) :
  BCall prog 42 [.box 0 0,.val (.int .i64 n)] (obT 0 t b rt m) (.tup []) (obT 1 t b rt (Q2g n m)):=by
 obtain⟨L,hL⟩:=QX m.s
 have hpos:1≤L:=by rw[hL.eq];omega
 have h:=QiJ (ob:=obT 0 t b rt m) (k:=5) rfl rfl (i:=L-1) (n:=n) ?_ (by omega) (a:=slR (QB m.s).name) (u:=slK (QB m.s).kids) (us:=Q9 (QB m.s).kids) ?_ (QgE _) (by rw[Q2h];exact hk)
 ·have hi:(L-1).toNat=m.s.length-1:=by have:=hL.eq;omega
  rw[hi,←Qel] at h
  have e:∀ S,(obT 0 t b rt m).set 5 (.row Q4v 2 false 1 S)=[.box [.slc 1 (Q5 b),.box 1 0,.row 5 0],.box [.val (.int .i64 t.kind),.val (.int .i64 t.bom),.slc 1 (Q1 t.r),.slc 1 (Q9 t.off),.box 2 0,.val (.int .i64 rt),.row 4 0],.box [.row 3 0],.row 182 6 false 0 (Q0 m.n),.row 146 3 false 0 (Qz m.d),.row 99 2 false 1 S]:=fun _=>rfl
  have e2:=Qg4 m.s (m.s.length-1) ⟨(QB m.s).name,(QB m.s).kids++[n]⟩
  rw[show (AV.agg [slR (QB m.s).name,slK ((QB m.s).kids++[n])])=Opn.av ⟨(QB m.s).name,(QB m.s).kids++[n]⟩ from rfl,e2,e] at h
  exact h.see [some 0,some 1,some 2,some 3,some 4,some 5] rfl rfl (Nat.le_refl _) (r':=.tup []) rfl (by simp[Qh,Q2g,Q1d]) trivial
 ·intro w0 g0
  unfold obT obM
  have hl:=Q2N m.s
  generalize hp:std=p,hN:Q0 m.n=N,hD:Qz m.d=D,hS:Qc m.s=S,hB:Q5 b=B,hR:Q1 t.r=R,hO:Q9 t.off=O,hK:t.kind=K,hM:t.bom=M
  generalize hT:Q8 p tys (cs0) _ _ _ _=T
  cbv at hT
  subst hT
  simp only[Tree.ok,Q4,S0]
  subst hp hN hD hS hB hR hO hK hM
  have e:std.sub (std.len (Qc m.s)) 1=L-1:=by
   show ((Qc m.s).length:Int)-1=L-1
   rw[hl,hL.eq]
  have e2:std.len (Qc m.s)=L:=by
   show ((Qc m.s).length:Int)=L
   rw[hl,hL.eq]
  refine⟨?_,?_,rfl,rfl,?_,rfl⟩
  ·show -9223372036854775808≤std.sub (std.len (Qc m.s)) 1∧std.sub (std.len (Qc m.s)) 1≤9223372036854775807
   have:=hL.eq
   rw[e]
   omega
  ·show 0≤std.sub (std.len (Qc m.s)) 1∧std.sub (std.len (Qc m.s)) 1<std.len (Qc m.s)
   rw[e,e2];omega
  ·show AV.rptr 5 0 (std.sub (std.len (Qc m.s)) 1) 0=_
   rw[e]
 ·have hi:(L-1).toNat=m.s.length-1:=by have:=hL.eq;omega
  rw[hi]
  exact Qex hs
def OT.then (l:List Nat)(t:OT):OT:=match l with
 | []=>t
 |i::r=>.cons i (OT.then r t)
def wrO:OT:=.then [0,1,2,4,5,6,7,8,9,10,11,12,13,14,15,16,17,18,19,20,21] (.fork (.of [3,22,23,24,25,26]) (.cons 22 (.fork (.of [3,23,24,25,26]) (.of [23,3,24,25,26]))))
theorem Q7M (t:Txt)(b:List UInt8)(rt:Int)(m:Mk)(hd:m.d.length≤1000000)(c f u:Int)(hf:0≤f∧f<t.off.length)(hu:0≤u∧u<t.off.length) :
  BCall prog 134 [.box 0 0,.val (.int .i64 c),.val (.int .i64 f),.val (.int .i64 u)] (obT 0 t b rt m) (.tup []) (obT 1 t b rt (Qw t c f u m)):=by
 have olen:=Q2h t.off
 have af:=Q2K (l:=t.off) (i:=f) hf.1 hf.2
 have au:=Q2K (l:=t.off) (i:=u) hu.1 hu.2
 have dlen:=QhR m.d
 unfold obT obM
 refine fnO false (cs:=cs0) (ord:=fun id=>match id with|1=> wrO|_=>.nil) func134 rfl (by kernel_rfl) ?_
 intro w0 g0
 generalize hp:std=p,hN:Q0 m.n=N,hD:Qz m.d=D,hS:Qc m.s=S,hB:Q5 b=B,hR:Q1 t.r=R,hO:Q9 t.off=O,hK:t.kind=K,hM:t.bom=M
 generalize hT:Q8 p tys (cs0) _ _ _ _=T
 cbv at hT
 subst hT
 simp only[Tree.ok,Q4,S0]
 subst hp hN hD hS hB hR hO hK hM
 have ef:(Q9 t.off).getD f.toNat .dead=.val (.int .i64 (Q1s t f)):=by rw[List.getD_eq_getElem?_getD];exact af
 have eu:(Q9 t.off).getD u.toNat .dead=.val (.int .i64 (Q1s t u)):=by rw[List.getD_eq_getElem?_getD];exact au
 have hb:∀ x,std.bnd (Qz m.d) [x]:=fun x=>by show (Qz m.d).length+1≤1000000000;omega
 have fin:∀ x,x=AV.agg [.val (.int .i64 (Q1s t f)),.val (.int .i64 (Q1s t u)),.val (.int .i64 c)]→std.app (Qz m.d) [x]=Qz (Qw t c f u m).d:=fun x hx=>by
  rw[hx]
  show Qz m.d++_=List.map _ (_++_)
  rw[List.map_append];rfl
 have fin2:=fin _ (show AV.agg [.val (.int .i64 (std.int (std.nth (std.cel (std.at_ (Q9 t.off) f)) 0))),.val (.int .i64 (std.int (std.nth (std.cel (std.at_ (Q9 t.off) u)) 0))),.val (.int .i64 c)]=_ by
  show AV.agg [.val (.int .i64 (Qg ((((Q9 t.off).getD f.toNat .dead).cells).getD 0 .dead))),.val (.int .i64 (Qg ((((Q9 t.off).getD u.toNat .dead).cells).getD 0 .dead))),.val (.int .i64 c)]=_
  rw[ef,eu];rfl)
 have hc:∀ x:Int,(Q9 t.off).getD x.toNat .dead=.val (.int .i64 (Q1s t x))→std.all [std.hasI .i64 (std.nth (std.cel (std.at_ (Q9 t.off) x)) 0)]:=fun x hx=>by
  show (((Q9 t.off).getD x.toNat .dead).cells).getD 0 .dead=.val (.int .i64 (Qg ((((Q9 t.off).getD x.toNat .dead).cells).getD 0 .dead)))∧True
  rw[hx];exact⟨rfl,trivial⟩
 have hin:∀ x:Int,0≤x∧x<t.off.length→std.inb x (std.len (Q9 t.off)):=fun x hx=>by
  show 0≤x∧x<((Q9 t.off).length:Int)
  rw[olen];exact hx
 refine⟨hin f hf,hc f ef,hin u hu,hc u eu,⟨hb _,?_⟩,⟨hb _,?_⟩,hb _,?_⟩
 all_goals
  refine⟨[some 0,some 1,some 2,some 3,some 4,some 5],.tup [],_,rfl,rfl,Nat.le_refl _,rfl,?_,trivial⟩
  simp[Qh]
  exact⟨rfl,fin2,rfl⟩
def QkL (p:Pr)(sl:Int→Int→List AV)(lf:Int→List AV→List AV→List AV):Nat→List AV→List Ob→Option (AV×List Ob):=fun f args ob=>match f,args with
 |179,[.agg _,.slc 1 _,.val (.int .i64 i),.val (.int .i64 j)]=>some (.slc 1 (sl i j),[])
 |43,[.box 0 0,.val (.int .i64 k),.slc 1 bs]=>match ob with
  | [.box [.row 1 0],.row 182 6 false 0 N]=>some (.val (.int .i64 (p.len N)),[.box [.row 1 1],.row 182 6 false 1 (lf k bs N)])
  |_=>none
 |_,_=>none
def slA (t:Txt)(b:List UInt8)(i j:Int):List AV:=Q5 (QL t b i j)
def lfA (k:Int)(bs N:List AV):List AV:=N++[(Qj k (bs.map Q2p)).av]
theorem QcX (k:Int)(bs:List UInt8)(l:List Node):lfA k (Q5 bs) (Q0 l)=Q0 (l++[Qj k bs]):=by
 rw[lfA,Q32];simp[Q0]
theorem Q9x (t:Txt)(b:List UInt8)(i j:Int):(QL t b i j).length≤b.length:=by
 rw[QL,List.length_take,List.length_drop];omega
theorem Q95 (t:Txt)(b:List UInt8)(hb:b.length≤1000000)(ok:TxtOk t b)(hrl:t.r.length≤1000000)(rt:Int)(m:Mk)(hn:m.n.length≤1000000)(kind f u:Int)(wh:Bool)(hf:0≤f)(hu:f≤u)(hl:u≤t.r.length) :
  BCall prog 138 [.box 0 0,.agg [.val (.int .i64 kind),.val (.int .i64 f),.val (.int .i64 u),.val (.bool wh)]] (obT 0 t b rt m) (.val (.int .i64 m.n.length)) (obT 1 t b rt (Q1H t b kind f u m)):=by
 have cS:=Qip t b hb ok hrl f u hf hu hl
 have cL:=Qg3 m.n (by omega) kind (QL t b f u) (by have:=Q9x t b f u;omega)
 rw[←QcX] at cL
 have e3:Q0 (Q1H t b kind f u m).n=lfA kind (slA t b f u) (Q0 m.n):=(QcX _ _ _).symm
 unfold obT obM
 rw[e3]
 clear hl
 refine fnN (cs:=QkL std (slA t b) lfA) func138 rfl (by kernel_rfl) ?_
 intro w0 g0
 generalize hp:std=p,hsl:slA t b=sl,hlf:lfA=lf,hN:Q0 m.n=N,hD:Qz m.d=D,hS:Qc m.s=S,hB:Q5 b=B,hR:Q1 t.r=R,hO:Q9 t.off=O,hK:t.kind=K,hM:t.bom=M
 generalize hT:Q8 p tys (QkL p sl lf) _ _ _ _=T
 cbv at hT
 subst hT
 simp only[Tree.ok,Q4,S0]
 subst hp hsl hlf hN hD hS hB hR hO hK hM
 exact⟨cS,by rw[←QT] at cL;exact cL,
  [some 0,some 1,some 2,some 3,some 4,some 5],.val (.int .i64 m.n.length),_,rfl,rfl,Nat.le_of_ble_eq_true rfl,rfl,by simp[Qh,std,Q0,Q1H,Q1a],.inl rfl⟩
theorem QeM:∀ (n:Nat) (r:List Int) (at_:Int) (first:Bool),r.length≤n→(Qt at_ first r).length≤r.length:=by
 intro n
 induction n with
 |zero =>
  intro r at_ first h
  have:r=[]:=List.eq_nil_of_length_eq_zero (by omega)
  rw[this,Qt,dif_pos rfl]
  exact Nat.le_refl _
 |succ n ih =>
  intro r at_ first h
  by_cases hr:r=[]
  ·rw[hr,Qt,dif_pos rfl];exact Nat.le_refl _
  ·have hn:=Q3g r first hr
   rw[Qt,dif_neg hr,List.length_cons]
   have:=ih (r.drop (Qr r first).2.toNat) (at_+(Qr r first).2) false (by rw[List.length_drop];omega)
   rw[List.length_drop] at this
   omega
theorem Q6h (l:List Int)(f u:Int):(Q12 l f u).length≤l.length:=by
 have:=QeM _ ((l.take u.toNat).drop f.toNat) f true (Nat.le_refl _)
 rw[List.length_drop,List.length_take] at this
 show (Qt _ _ _).length≤_
 omega
theorem Qa7 (l:List Int)(f u:Int)(h0:0≤f)(h1:f≤u)(h2:u≤l.length):∀ x∈Q12 l f u,f≤x.from_∧x.from_<x.to∧x.to≤u:=fun x hx=>by
 have:=Q4t [] _ ((l.take u.toNat).drop f.toNat) f true (Nat.le_refl _) x hx
 rw[List.length_drop,List.length_take] at this
 omega
theorem Qdg (ps:List TPart):(Q1w ps).name=Qu∨(Q1w ps).name=ps[1]?.getD Qu:=by
 unfold Q1w
 split
 ·simp only
  split
  ·exact .inr rfl
  ·exact .inr rfl
 ·exact .inl rfl
theorem Qi4 (l:List Int)(f u:Int)(h0:0≤f)(h1:f≤u)(h2:u≤l.length):0≤(Qy l f u).name.from_∧(Qy l f u).name.from_≤(Qy l f u).name.to∧(Qy l f u).name.to≤l.length:=by
 rcases Qdg (Q12 l f u) with h|h
 ·rw[Qy,h];exact⟨Int.le_refl _,Int.le_refl _,by show (0:Int)≤_;omega⟩
 ·rw[Qy,h]
  cases hi:(Q12 l f u)[1]? with
  |none=>exact⟨Int.le_refl _,Int.le_refl _,by show (0:Int)≤_;omega⟩
  |some x =>
   have:=Qa7 l f u h0 h1 h2 x (List.mem_of_getElem? hi)
   show 0≤x.from_∧x.from_≤x.to∧x.to≤(l.length:Int)
   omega
theorem QaR (l:List Int)(hl:l.length≤1000000)(f u:Int)(h0:0≤f)(h1:f≤u)(h2:u≤l.length) :
  BCall prog 49 [.slc 1 (Q1 l),.val (.int .i64 f),.val (.int .i64 u)] [] (.agg [.val (.int .i64 (Qy l f u).name.kind),.val (.int .i64 (Qy l f u).name.from_),.val (.int .i64 (Qy l f u).name.to),.slc 9 (Qo (Qy l f u).attrs),.val (.bool (Qy l f u).right),.val (.bool (Qy l f u).empty)]) []:=by
 have hpl:=Q6h l f u
 have hsm:Qe2 (Q12 l f u):=fun x hx=>by have:=Qa7 l f u h0 h1 h2 x hx;omega
 cases hop:QG (Q12 l f u) 0 [1,2] with
 |false =>
  have e:Qy l f u=⟨Qu,[],false,false⟩:=by rw[Qy,Q1w,if_neg (by rw[hop];decide)]
  rw[e]
  exact QeV l (by omega) f u h0 h1 h2 _ rfl (by omega) hop
 |true =>
  cases hcl:QG (Q12 l f u) (Q3e (Q12 l f u) (QE (Q12 l f u) ((Q12 l f u).length+1) 2).2 3).toNat [6] with
  |false=>exact Qfq l (by omega) f u h0 h1 h2 _ rfl (by omega) hsm hop hcl
  |true=>exact Qhz l (by omega) f u h0 h1 h2 _ rfl (by omega) hsm hop hcl
def Ql2 (rk rf ru:Int→Int→Int)(ra:Int→Int→List AV)(rr re:Int→Int→Bool):Nat→List AV→List Ob→Option (AV×List Ob):=fun f args _=>match f,args with
 |49,[.slc 1 _,.val (.int .i64 f),.val (.int .i64 u)]=>some (.agg [.val (.int .i64 (rk f u)),.val (.int .i64 (rf f u)),.val (.int .i64 (ru f u)),.slc 9 (ra f u),.val (.bool (rr f u)),.val (.bool (re f u))],[])
 |_,_=>none
def rdk (l:List Int)(f u:Int):Int:=(Qy l f u).name.kind
def rdf (l:List Int)(f u:Int):Int:=(Qy l f u).name.from_
def rdu (l:List Int)(f u:Int):Int:=(Qy l f u).name.to
def rda (l:List Int)(f u:Int):List AV:=Qo (Qy l f u).attrs
def rdr (l:List Int)(f u:Int):Bool:=(Qy l f u).right
def rde (l:List Int)(f u:Int):Bool:=(Qy l f u).empty
def nmO:OT:=.then [0,1,2,3,4,5,6,7,8,9,10,11] (.fork (.of [12,13,14,15]) (.of [14,12,13,15]))
theorem Qde (t:Txt)(b:List UInt8)(hrl:t.r.length≤1000000)(rt:Int)(m:Mk)(kind f u:Int)(wh:Bool)(hf:0≤f)(hu:f≤u)(hl:u≤t.r.length) :
  BCall prog 135 [.box 0 0,.agg [.val (.int .i64 kind),.val (.int .i64 f),.val (.int .i64 u),.val (.bool wh)]] (obT 0 t b rt m) (.slc 1 (Q1 (Qs t f u))) (obT 0 t b rt m):=by
 have cR:=QaR t.r hrl f u hf hu hl
 have hin:=Qi4 t.r f u hf hu hl
 have rlen:=Q13 t.r
 unfold obT obM
 refine fnO false (cs:=Ql2 (rdk t.r) (rdf t.r) (rdu t.r) (rda t.r) (rdr t.r) (rde t.r)) (ord:=fun id=>match id with|1=> nmO|_=>.nil) func135 rfl (by kernel_rfl) ?_
 intro w0 g0
 generalize hp:std=p,hrk:rdk t.r=rk,hrf:rdf t.r=rf,hru:rdu t.r=ru,hra:rda t.r=ra,hrr:rdr t.r=rr,hre:rde t.r=re,hN:Q0 m.n=N,hD:Qz m.d=D,hS:Qc m.s=S,hB:Q5 b=B,hR:Q1 t.r=R,hO:Q9 t.off=O,hK:t.kind=K,hM:t.bom=M
 generalize hT:Q8 p tys (Ql2 rk rf ru ra rr re) _ _ _ _=T
 cbv at hT
 subst hT
 simp only[Tree.ok,Q4,S0]
 subst hp hrk hrf hru hra hrr hre hN hD hS hB hR hO hK hM
 have hcut:std.cutok (rdf t.r f u) (rdu t.r f u) (std.len (Q1 t.r)):=by
  show 0≤(Qy t.r f u).name.from_∧(Qy t.r f u).name.from_≤(Qy t.r f u).name.to∧(Qy t.r f u).name.to≤((Q1 t.r).length:Int)
  rw[rlen];exact hin
 have hres:std.cut (Q1 t.r) (rdf t.r f u) (rdu t.r f u)=Q1 (Qs t f u):=by
  show ((Q1 t.r).drop (rdf t.r f u).toNat).take _=_
  simp only[Q1,Qs,List.map_take,List.map_drop];rfl
 refine⟨⟨cR,hcut,?_⟩,cR,hcut,?_⟩
 all_goals
  exact⟨[some 0,some 1,some 2,some 3,some 4,some 5],.slc 1 (Q1 (Qs t f u)),_,rfl,rfl,Nat.le_of_ble_eq_true rfl,rfl,by simp[Qh];exact hres,.inl rfl⟩
def kdA (n:Int)(S:List AV):List AV:=Qc (Q1d n (QgX S))
theorem Q8n (n:Int)(s:List Opn):kdA n (Qc s)=Qc (Q1d n s):=by rw[kdA,Qa1]
def brA (k:Int)(ks N:List AV):List AV:=N++[(QM (QcR N) k (ks.map Qg)).av]
theorem QaN (k:Int)(ks:List Int)(l:List Node):brA k (Q9 ks) (Q0 l)=Q0 (l++[QM l k ks]):=by
 rw[brA,Q7W,Q7g];simp[Q0]
def QkK (p:Pr)(kd:Int→List AV→List AV)(br:Int→List AV→List AV→List AV):Nat→List AV→List Ob→Option (AV×List Ob):=fun f args ob=>match f,args with
 |42,[.box 0 0,.val (.int .i64 n)]=>Q2M ob fun b k m r o rt N D S=>some (.tup [],obM 1 b k m r o rt N D (kd n S))
 |90,[.box 0 0,.val (.int .i64 k),.slc 1 ks]=>match ob with
  | [.box [.row 1 0],.row 182 6 false 0 N]=>some (.tup [.val (.int .i64 (p.len N)),.val (.int .i64 0)],[.box [.row 1 1],.row 182 6 false 1 (br k ks N)])
  |_=>none
 |_,_=>none
theorem Q3J (n:Int)(s:List Opn):(Q1d n s).length=s.length:=by simp[Q1d]
theorem Qji (n:Int){s:List Opn}(h:1≤s.length):QB (Q1d n s)=⟨(QB s).name,(QB s).kids++[n]⟩:=by
 have h1:s.length-1<(s.set (s.length-1) ⟨(QB s).name,(QB s).kids++[n]⟩).length:=by rw[List.length_set];omega
 have h2:s.length-1<s.length:=by omega
 show ((s.set (s.length-1) ⟨(QB s).name,(QB s).kids++[n]⟩)[(s.set (s.length-1) _).length-1]?).getD _=_
 rw[List.length_set,List.getElem?_set_self h2];rfl
structure ArOk (l:List Node):Prop where
 w:∀ n,0≤QJ l n
 c:∀ n,0≤Q1L l n∧Q1L l n≤2147483647
theorem QhF (t:Txt)(b:List UInt8)(rt:Int)(m:Mk)(hs:2≤m.s.length)(hn:m.s.length≤1000000)(hk:∀ x∈m.s,x.kids.length≤1000000)(hN:m.n.length≤1000000)(ar:ArOk m.n)(last:Int)
  (hl:∀ k∈(QB m.s).kids++[last],0≤k∧k<m.n.length) (hsum:Q1l m.n ((QB m.s).kids++[last])≤2147483647) :
  BCall prog 139 [.box 0 0,.val (.int .i64 last)] (obT 0 t b rt m) (.tup []) (obT 1 t b rt (Q16 last m)):=by
 obtain⟨L,hL⟩:=QX m.s
 obtain⟨m1,hm1⟩:=exq (Q2g last m)
 have hs1:m1.s=Q1d last m.s:=by rw[hm1];rfl
 have hl1:m1.s.length=m.s.length:=by rw[hs1,Q3J]
 have ht1:QB m1.s=⟨(QB m.s).name,(QB m.s).kids++[last]⟩:=by rw[hs1];exact Qji last (by omega)
 have mem:∀ i,i<m.s.length→(m.s[i]?.getD ⟨[],[]⟩).kids.length≤1000000:=fun i h=>by
  have:m.s[i]?.getD ⟨[],[]⟩∈m.s:=by
   rw[List.getElem?_eq_getElem h];exact List.getElem_mem h
  exact hk _ this
 have c1:=Q87 t b rt m (by omega) hn (mem _ (by omega)) last
 have c2:=Qcz m.n (by omega) 21 ((QB m.s).kids++[last]) (by have:=mem (m.s.length-1) (by omega);simp only[List.length_append,List.length_singleton];show ((m.s[m.s.length-1]?).getD ⟨[],[]⟩).kids.length+1≤_;omega) hl ar.w ar.c hsum
 rw[←QaN,←QT] at c2
 obtain⟨m2,hm2⟩:=exq (Q1a (QM m.n 21 ((QB m.s).kids++[last])) (Qlg m1))
 have hE:Q16 last m=Q2g m.n.length m2:=by
  rw[hm2,←(show (QB m1.s).kids=(QB m.s).kids++[last] by rw[ht1]),hm1];rfl
 have hs2:m2.s=m1.s.take (m1.s.length-1):=by rw[hm2];rfl
 have c3:=Q87 t b rt m2 (by rw[hs2,List.length_take];omega) (by rw[hs2,List.length_take];omega) (by
  have h1:m2.s.length-1<m.s.length-1:=by rw[hs2,List.length_take];omega
  show ((m2.s[m2.s.length-1]?).getD ⟨[],[]⟩).kids.length≤_
  have h2:∀ j,j<m.s.length-1→m2.s[j]?=m.s[j]?:=fun j hj=>by
   rw[hs2,List.getElem?_take,if_pos (by omega),hs1,Q1d,List.getElem?_set_ne (by omega)]
  rw[h2 _ h1]
  exact mem _ (by omega)) m.n.length
 rw[hE]
 clear hl hsum
 unfold obT obM
 refine fnN (cs:=QkK std kdA brA) func139 rfl (by kernel_rfl) ?_
 intro w0 g0
 generalize hp:std=p,hkd:kdA=kd,hbr:brA=br,hN:Q0 m.n=N,hD:Qz m.d=D,hS:Qc m.s=S,hB:Q5 b=B,hR:Q1 t.r=R,hO:Q9 t.off=O,hK:t.kind=K,hM:t.bom=M
 generalize hT:Q8 p tys (QkK p kd br) _ _ _ _=T
 cbv at hT
 subst hT
 simp only[Tree.ok,Q4,S0]
 subst hp hkd hbr hN hD hS hB hR hO hK hM
 have hi:(((Qc m1.s).length:Int)-1).toNat=m1.s.length-1:=by rw[Q2N];omega
 have he:(List.drop 1 ((Qc m1.s).getD (((Qc m1.s).length:Int)-1).toNat AV.dead).cells).getD 0 AV.dead=.slc 1 (Q9 ((QB m.s).kids++[last])):=by
  have e:(Qc m1.s).getD (m1.s.length-1) AV.dead=(QB m1.s).av:=by rw[List.getD_eq_getElem?_getD,Qex (by rw[hl1];omega)];rfl
  rw[hi,e,ht1]
  show slK ((QB m.s).kids++[last])=_
  rw[Qel,Q4N];rfl
 have hc:List.take (((Qc m1.s).length:Int)-1-0).toNat (List.drop (Int.toNat 0) (Qc m1.s))=Qc m2.s:=by
  rw[Int.sub_zero,hi,hs2]
  simp[Qc,List.map_take]
 have el:=Q2N m1.s
 have eN:Q0 m2.n=brA 21 (Q9 ((QB m.s).kids++[last])) (Q0 m.n):=by rw[hm2,QaN];show Q0 (m1.n++_)=_;rw[hm1];rfl
 have eD:m2.d=m.d:=by rw[hm2,hm1];rfl
 have eS:(Q2g (m.n.length:Int) m2).s=Q1d m.n.length m2.s:=rfl
 unfold obT obM at c1 c3
 rw[eS,show (Q2g (m.n.length:Int) m2).n=m2.n from rfl,show (Q2g (m.n.length:Int) m2).d=m2.d from rfl,eD,eN] at c3
 rw[show (Q2g last m).s=m1.s by rw[hm1]] at c1
 simp only[Q8n,←hs1,std,he,hc,Q1O]
 rw[QT] at c2 ⊢
 refine⟨?_,?_,?_,⟨.inl trivial,trivial⟩,?_,c2,?_,?_⟩
 ·exact c1
 ·show (-9223372036854775808:Int)≤_∧_≤(9223372036854775807:Int)
  omega
 ·omega
 ·omega
 ·exact c3
 ·exact⟨[some 0,some 1,some 2,some 3,some 4,some 5],.tup [],_,rfl,rfl,Nat.le_refl _,rfl,by simp[Qh];exact⟨eN.symm,congrArg _ eD.symm,rfl⟩,trivial⟩
def wrA (t:Txt)(c f u:Int)(D:List AV):List AV:=Qz (Qkn D++[⟨Q1s t f,Q1s t u,c⟩])
theorem Q8t (t:Txt)(c f u:Int)(d:List Dg):wrA t c f u (Qz d)=Qz (d++[⟨Q1s t f,Q1s t u,c⟩]):=by rw[wrA,Qbu]
def mkB (N D S:List AV):Mk:=⟨QcR N,Qkn D,QgX S⟩
theorem Q1J (m:Mk):mkB (Q0 m.n) (Qz m.d) (Qc m.s)=m:=by rw[mkB,Q7W,Qbu,Qa1]
def Q5W (l:Int)(N D S:List AV):List AV:=Q0 (Q16 l (mkB N D S)).n
def Q67 (l:Int)(N D S:List AV):List AV:=Qc (Q16 l (mkB N D S)).s
theorem Qkt (l:Int)(m:Mk):(Q16 l m).d=m.d:=rfl
def QkR (p:Pr)(wr:Int→Int→Int→List AV→List AV)(lf:Int→List AV→List AV→List AV)(sn ss:Int→List AV→List AV→List AV→List AV):Nat→List AV→List Ob→Option (AV×List Ob):=fun f args ob=>match f,args with
 |134,[.box 0 0,.val (.int .i64 c),.val (.int .i64 f),.val (.int .i64 u)]=>Q2M ob fun b k m r o rt N D S=>some (.tup [],obM 1 b k m r o rt N (wr c f u D) S)
 |139,[.box 0 0,.val (.int .i64 n)]=>Q2M ob fun b k m r o rt N D S=>some (.tup [],obM 1 b k m r o rt (sn n N D S) D (ss n N D S))
 |43,[.box 0 0,.val (.int .i64 k),.val (.slice none 0 0)]=>match ob with
  | [.box [.row 1 0],.row 182 6 false 0 N]=>some (.val (.int .i64 (p.len N)),[.box [.row 1 1],.row 182 6 false 1 (lf k [] N)])
  |_=>none
 |_,_=>none
theorem Qkl (t:Txt)(b:List UInt8)(rt:Int)(m:Mk)(hd:m.d.length≤1000000)(at_:Int)(ha:0≤at_∧at_<t.off.length)(hs:2≤m.s.length)(hn:m.s.length≤1000000)(hk:∀ x∈m.s,x.kids.length≤1000000)(hN:m.n.length<1000000)(ar:ArOk (m.n++[Qj 22 []]))
  (hl:∀ k∈(QB m.s).kids,0≤k∧k<m.n.length) (hsum:Q1l (m.n++[Qj 22 []]) ((QB m.s).kids++[(m.n.length:Int)])≤2147483647) :
  BCall prog 89 [.box 0 0,.val (.int .i64 at_)] (obT 0 t b rt m) (.tup []) (obT 1 t b rt (Q1Q t at_ m)):=by
 have c1:=Q7M t b rt m hd 4 at_ at_ ha ha
 obtain⟨m1,hm1⟩:=exq (Qw t 4 at_ at_ m)
 rw[←hm1] at c1
 have c2:=(Qg3 m1.n (by rw[hm1];show m.n.length<_;omega) 22 [] (by simp)).le (args:=[.box 0 0,.val (.int .i64 22),.val (.slice none 0 0)]) ⟨.inl rfl,.inl rfl,.inr (.inl ⟨rfl,_,rfl⟩),trivial⟩
 obtain⟨m2,hm2⟩:=exq (Q1a (Qj 22 []) m1)
 have e2n:m2.n=m.n++[Qj 22 []]:=by rw[hm2,hm1];rfl
 have e2s:m2.s=m.s:=by rw[hm2,hm1];rfl
 have c3:=QhF t b rt m2 (by rw[e2s];exact hs) (by rw[e2s];exact hn) (by rw[e2s];exact hk) (by rw[e2n];simp;omega) (by rw[e2n];exact ar) m.n.length (by
  rw[e2n,e2s]
  intro k hk
  rw[List.length_append,List.length_singleton]
  rcases List.mem_append.1 hk with h|h
  ·have:=hl k h;omega
  ·obtain rfl:k=(m.n.length:Int):=by simpa using h
   omega) (by rw[e2n,e2s];exact hsum)
 have hE:Q1Q t at_ m=Q16 m.n.length m2:=by rw[hm2,hm1];rfl
 rw[hE]
 clear hl hsum
 unfold obT obM
 refine fnN (cs:=QkR std (wrA t) lfA Q5W Q67) func89 rfl (by kernel_rfl) ?_
 intro w0 g0
 generalize hp:std=p,hwr:wrA t=wr,hlf:lfA=lf,hsn:Q5W=sn,hss:Q67=ss,hN:Q0 m.n=N,hD:Qz m.d=D,hS:Qc m.s=S,hB:Q5 b=B,hR:Q1 t.r=R,hO:Q9 t.off=O,hK:t.kind=K,hM:t.bom=M
 generalize hT:Q8 p tys (QkR p wr lf sn ss) _ _ _ _=T
 cbv at hT
 subst hT
 simp only[Tree.ok,Q4,S0]
 subst hp hwr hlf hsn hss hN hD hS hB hR hO hK hM
 have e2d:m2.d=m.d++[⟨Q1s t at_,Q1s t at_,4⟩]:=by rw[hm2,hm1];rfl
 have eL:lfA 22 [] (Q0 m.n)=Q0 m2.n:=by rw[e2n,←QcX];rfl
 have eW:wrA t 4 at_ at_ (Qz m.d)=Qz m2.d:=by rw[Q8t,e2d]
 have f1:∀ l,Q5W l (Q0 m2.n) (Qz m2.d) (Qc m.s)=Q0 (Q16 l m2).n:=fun l=>by rw[Q5W,←e2s,Q1J]
 have f2:∀ l,Q67 l (Q0 m2.n) (Qz m2.d) (Qc m.s)=Qc (Q16 l m2).s:=fun l=>by rw[Q67,←e2s,Q1J]
 unfold obT obM at c1 c3
 rw[show m1.n=m.n by rw[hm1];rfl,show m1.s=m.s by rw[hm1];rfl,show m1.d=m2.d by rw[hm2];rfl] at c1
 rw[show m1.n=m.n by rw[hm1];rfl,←e2n] at c2
 rw[e2s,Qkt] at c3
 simp only[std,eL,eW,f1,f2,QT]
 exact⟨c1,c2,c3,[some 0,some 1,some 2,some 3,some 4,some 5],.tup [],_,rfl,rfl,Nat.le_refl _,rfl,by simp[Qh];rfl,trivial⟩
def lfT (t:Txt)(b:List UInt8)(k f u:Int)(N:List AV):List AV:=N++[(Qj k (QL t b f u)).av]
theorem Q8Y (t:Txt)(b:List UInt8)(k f u:Int)(l:List Node):lfT t b k f u (Q0 l)=Q0 (l++[Qj k (QL t b f u)]):=by simp[lfT,Q0]
def nmA (t:Txt)(f u:Int):List AV:=Q1 (Qs t f u)
def Ql5 (p:Pr)(nm:Int→Int→List AV)(wr:Int→Int→Int→List AV→List AV)(lf:Int→Int→Int→List AV→List AV)(kd:Int→List AV→List AV):Nat→List AV→List Ob→Option (AV×List Ob):=fun f args ob=>match f,args with
 |135,[.box 0 0,.agg [_,.val (.int .i64 f),.val (.int .i64 u),_]]=>some (.slc 1 (nm f u),ob)
 |134,[.box 0 0,.val (.int .i64 c),.val (.int .i64 f),.val (.int .i64 u)]=>Q2M ob fun b k m r o rt N D S=>some (.tup [],obM 1 b k m r o rt N (wr c f u D) S)
 |138,[.box 0 0,.agg [.val (.int .i64 kind),.val (.int .i64 f),.val (.int .i64 u),_]]=>Q2M ob fun b k m r o rt N D S=>some (.val (.int .i64 (p.len N)),obM 1 b k m r o rt (lf kind f u N) D S)
 |42,[.box 0 0,.val (.int .i64 n)]=>Q2M ob fun b k m r o rt N D S=>some (.tup [],obM 1 b k m r o rt N D (kd n S))
 |_,_=>none
structure InT (t:Txt) (f u:Int):Prop where
 h0:0≤f
 h1:f≤u
 h2:u≤t.r.length
structure Sml (t:Txt) (b:List UInt8):Prop where
 hb:b.length≤1000000
 hr:t.r.length≤1000000
 ok:TxtOk t b
theorem InT.off {t:Txt}{b:List UInt8}{f u:Int}(h:InT t f u)(hs:Sml t b):(0≤f∧f<t.off.length)∧0≤u∧u<t.off.length:=by
 have:=hs.ok.len
 have h0:=h.h0
 have h1:=h.h1
 have h2:=h.h2
 omega
structure MkOk (m:Mk):Prop where
 n:m.n.length≤900000
 d:m.d.length≤900000
 s:m.s.length≤900000
 s1:1≤m.s.length
 k:∀ x∈m.s,x.kids.length≤900000
theorem MkOk.top {m:Mk}(h:MkOk m):(QB m.s).kids.length≤900000:=by
 have h1:=h.s1
 have:m.s.length-1<m.s.length:=by omega
 show ((m.s[m.s.length-1]?).getD ⟨[],[]⟩).kids.length≤_
 rw[List.getElem?_eq_getElem this]
 exact h.k _ (List.getElem_mem this)
theorem Qiq (t:Txt)(b:List UInt8)(hs:Sml t b)(rt:Int)(m:Mk)(ok:MkOk m)(kind f u:Int)(wh:Bool)(hi:InT t f u)(hne:Qs t f u≠[]) :
  BCall prog 136 [.box 0 0,.agg [.val (.int .i64 kind),.val (.int .i64 f),.val (.int .i64 u),.val (.bool wh)]] (obT 0 t b rt m) (.tup []) (obT 1 t b rt (QZ t b kind f u m)):=by
 have cN:=Qde t b hs.hr rt m kind f u wh hi.h0 hi.h1 hi.h2
 have hoff:=hi.off hs
 have hn:=ok.n
 have hd:=ok.d
 have hl:=ok.s
 have hl1:=ok.s1
 have cW:=Q7M t b rt m (by omega) 5 f u hoff.1 hoff.2
 obtain⟨ma,hma⟩:=exq (Qw t 5 f u m)
 have cLa:=Q95 t b hs.hb hs.ok hs.hr rt ma (by rw[hma];show m.n.length≤_;omega) kind f u wh hi.h0 hi.h1 hi.h2
 have cKa:=Q87 t b rt (Q1H t b kind f u ma) (by rw[hma];exact hl1) (by rw[hma];show m.s.length≤_;omega) (by rw[hma];have:=ok.top;show (QB m.s).kids.length≤_;omega) m.n.length
 obtain⟨mb,hmb⟩:=exq ({ m with s:=m.s++[⟨Qs t f u,[]⟩] }:Mk)
 have hbs:mb.s=m.s++[⟨Qs t f u,[]⟩]:=by rw[hmb]
 have cLb:=Q95 t b hs.hb hs.ok hs.hr rt mb (by rw[hmb];show m.n.length≤_;omega) kind f u wh hi.h0 hi.h1 hi.h2
 have cKb:=Q87 t b rt (Q1H t b kind f u mb) (by show 1≤mb.s.length;rw[hbs];simp) (by show mb.s.length≤_;rw[hbs];simp;omega) (by show (QB mb.s).kids.length≤_;rw[hbs];simp[QB]) m.n.length
 have hE:QZ t b kind f u m=if 64<m.s.length then Q2g m.n.length (Q1H t b kind f u ma) else Q2g m.n.length (Q1H t b kind f u mb):=by rw[hma,hmb];rfl
 rw[hE]
 clear hE hoff
 unfold obT obM
 refine fnN (cs:=Ql5 std (nmA t) (wrA t) (lfT t b) kdA) func136 rfl (by kernel_rfl) ?_
 intro w0 g0
 generalize hp:std=p,hnm:nmA t=nm,hwr:wrA t=wr,hlf:lfT t b=lf,hkd:kdA=kd,hN:Q0 m.n=N,hD:Qz m.d=D,hS:Qc m.s=S,hB:Q5 b=B,hR:Q1 t.r=R,hO:Q9 t.off=O,hK:t.kind=K,hM:t.bom=M
 generalize hT:Q8 p tys (Ql5 p nm wr lf kd) _ _ _ _=T
 cbv at hT
 subst hT
 simp only[Tree.ok,Q4,S0]
 subst hp hnm hwr hlf hkd hN hD hS hB hR hO hK hM
 subst hma hmb
 simp only[obT,obM,Q1H,Q1a,Q2g,Qw] at cN cW cLa cKa cLb cKb
 have eS:Qc m.s++[AV.agg [AV.slc 1 (nmA t f u),AV.val (Value.slice none 0 0)]]=Qc (m.s++[⟨Qs t f u,[]⟩]):=by
  have:slR (Qs t f u)=.slc 1 (nmA t f u):=by
   show slR (Qs t f u)=.slc 1 (Q1 (Qs t f u))
   cases h:Qs t f u with
   |nil=>exact absurd h hne
   |cons x r=>rfl
  rw[←this];simp[Qc,Opn.av,slK,QiX]
 have eb:std.bnd (Qc m.s) [AV.agg [AV.slc 1 (nmA t f u),AV.val (Value.slice none 0 0)]]:=by
  show (Qc m.s).length+1≤1000000000
  rw[Q2N];omega
 refine⟨cN,fun hd=>?_,fun hd=>⟨eb,?_⟩⟩
 ·have hg:64<m.s.length:=by
   have:(64:Int)<((Qc m.s).length:Int):=of_decide_eq_true hd
   rw[Q2N] at this;omega
  simp only[std,Q8Y,Q8t,Q8n,QT,if_pos hg,Q1H,Q1a,Q2g,Qw]
  exact⟨cW,cLa,cKa,[some 0,some 1,some 2,some 3,some 4,some 5],.tup [],_,rfl,rfl,Nat.le_of_ble_eq_true rfl,rfl,by simp[Qh],trivial⟩
 ·have hg:¬ 64<m.s.length:=by
   have:¬ (64:Int)<((Qc m.s).length:Int):=of_decide_eq_false hd
   rw[Q2N] at this;omega
  simp only[std,eS,Q8Y,Q8t,Q8n,QT,if_neg hg,Q1H,Q1a,Q2g,Qw]
  exact⟨cLb,cKb,[some 0,some 1,some 2,some 3,some 4,some 5],.tup [],_,rfl,rfl,Nat.le_of_ble_eq_true rfl,rfl,by simp[Qh],trivial⟩
theorem Q1S {l:List Node}{x:Node}{n:Int}(h0:0≤n)(h1:n<l.length):Qe (l++[x]) n=Qe l n:=by
 have h2:n.toNat<l.length:=by omega
 have h3:n<((l++[x]).length:Int):=by simp only[List.length_append,List.length_singleton];omega
 rw[Qe,Qe,if_pos ⟨h0,h3⟩,if_pos ⟨h0,h1⟩,List.getElem?_append_left h2]
theorem Q1G {l:List Node}{x:Node}:Qe (l++[x]) l.length=x:=by
 rw[Qe,if_pos ⟨by omega,by simp only[List.length_append,List.length_singleton];omega⟩,Int.toNat_natCast]
 simp
theorem Q4j {l:List Node}{n:Int}(h:¬ (0≤n∧n<l.length)):Qe l n=Q7t:=by rw[Qe,if_neg h]
theorem Q6q {l:List Node}{x:Node}(n:Int):(0≤n∧n<l.length∧Qe (l++[x]) n=Qe l n)∨(n=l.length∧Qe (l++[x]) n=x)∨Qe (l++[x]) n=Q7t:=by
 by_cases h:0≤n∧n<l.length
 ·exact .inl ⟨h.1,h.2,Q1S h.1 h.2⟩
 ·by_cases h2:n=l.length
  ·subst h2;exact .inr (.inl ⟨rfl,Q1G⟩)
  ·exact .inr (.inr (Q4j (by simp;omega)))
def InR (l:List Node)(ks:List Int):Prop:=∀ k∈ks,0≤k∧k<l.length
theorem InR.more {l:List Node}{ks:List Int}(h:InR l ks)(x:Node):InR (l++[x]) ks:=fun k hk=>by have:=h k hk;simp;omega
theorem Q8d {l:List Node}(h:Wf l){x:Node}(hx:InR l x.kids):Wf (l++[x]):=fun n h0 h1 k hk=>by
 rcases Q6q (l:=l) (x:=x) n with ⟨h2,h3,h4⟩|⟨h2,h4⟩|h4
 ·rw[h4] at hk;exact h n h2 h3 k hk
 ·rw[h4] at hk;rw[h2];exact hx k hk
 ·rw[h4] at hk;cases hk
theorem QdG {l:List Node}(h:Wf l)(x:Node):∀ (f:Nat) (n:Int),0≤n→n<l.length→prF (l++[x]) f n=prF l f n
 |0,_,_,_=>rfl
 |f+1,n,h0,h1=>by
  simp only[prF,Q1S h0 h1]
  congr 1
  refine congrArg List.flatten (List.map_congr_left fun k hk=>?_)
  have:=h n h0 h1 k hk
  exact QdG h x f k this.1 (by omega)
theorem Q8F {l:List Node}(h:Wf l)(x:Node){n:Int}(h0:0≤n)(h1:n<l.length):pr (l++[x]) n=pr l n:=QdG h x _ n h0 h1
theorem Q5A {l:List Node}(h:Wf l)(x:Node){ks:List Int}(hk:InR l ks):ks.flatMap (pr (l++[x]))=ks.flatMap (pr l) :=
 congrArg List.flatten (List.map_congr_left fun k hk'=>Q8F h x (hk k hk').1 (hk k hk').2)
theorem QaH {l:List Node}(h:Wf l){x:Node}(hx:InR l x.kids):pr (l++[x]) l.length=x.b++x.kids.flatMap (pr l):=by
 rw[Qen (Q8d h hx) (by omega) (by simp only[List.length_append,List.length_singleton];omega),Q1G,Q5A h x hx]
theorem Qcd {l:List Node}(h:Wf l)(hw:Qfr l){x:Node}(hx:InR l x.kids)(hxw:x.width=(x.b++x.kids.flatMap (pr l)).length):Qfr (l++[x]):=fun n h0 h1=>by
 rcases Q6q (l:=l) (x:=x) n with ⟨h2,h3,h4⟩|⟨h2,h4⟩|h4
 ·rw[h4,Q8F h x h2 h3];exact hw n h2 h3
 ·rw[h4,h2,QaH h hx];exact hxw
 ·have h1:n<((l++[x]).length:Int):=h1
  by_cases h2:n<l.length
  ·rw[Q1S h0 h2] at h4
   rw[Q1S h0 h2,Q8F h x h0 h2];exact hw n h0 h2
  ·have h3:n=l.length:=by simp at h1;omega
   subst h3
   rw[Q1G,QaH h hx];exact hxw
theorem QgJ {l:List Node}(h:ArOk l){x:Node}(hw:0≤x.width)(hc:0≤x.count∧x.count≤2147483647):ArOk (l++[x]):=by
 refine⟨fun n=>?_,fun n=>?_⟩
 ·rw[QJ]
  rcases Q6q (l:=l) (x:=x) n with ⟨_,_,h4⟩|⟨_,h4⟩|h4
  ·rw[h4];exact h.w n
  ·rw[h4];exact hw
  ·rw[h4];exact Int.le_refl _
 ·rw[Q1L]
  rcases Q6q (l:=l) (x:=x) n with ⟨_,_,h4⟩|⟨_,h4⟩|h4
  ·rw[h4];exact h.c n
  ·rw[h4];exact hc
  ·rw[h4];exact⟨Int.le_refl _,by show (0:Int)≤_;omega⟩
structure Ar (l:List Node):Prop where
 wf:Wf l
 wide:Qfr l
 ok:ArOk l
theorem QkC:Ar []:=⟨fun n h0 h1=>by simp at h1;omega,fun n h0 h1=>by simp at h1;omega,⟨fun n=>by rw[QJ,Q4j (fun h=>by simp at h;omega)];exact Int.le_refl _,fun n=>by rw[Q1L,Q4j (fun h=>by simp at h;omega)];exact⟨Int.le_refl _,by show (0:Int)≤_;omega⟩⟩⟩
theorem Q2O {l:List Node}(h:Ar l)(k:Int)(bs:List UInt8):Ar (l++[Qj k bs])∧pr (l++[Qj k bs]) l.length=bs:=by
 have hx:InR l (Qj k bs).kids:=fun k hk=>by cases hk
 refine⟨⟨Q8d h.wf hx,Qcd h.wf h.wide hx (by simp[Qj]),QgJ h.ok (by show (0:Int)≤(bs.length:Int);omega) (by show (0:Int)≤1∧(1:Int)≤_;omega)⟩,?_⟩
 rw[QaH h.wf hx]
 simp[Qj]
theorem Q6m {l:List Node}(hw:Qfr l):∀ {ks:List Int},InR l ks→Q1l l ks=(ks.flatMap (pr l)).length
 | [],_=>rfl
 |k::r,hk=>by
  have ih:=Q6m hw (ks:=r) (fun x hx=>hk x (List.mem_cons_of_mem _ hx))
  have h1:=hk k (List.mem_cons_self ..)
  have h2:=hw k h1.1 h1.2
  simp only[Q1l,List.map_cons,List.sum_cons,List.flatMap_cons,List.length_append] at ih ⊢
  rw[QJ,h2,ih];omega
theorem Q5l {l:List Node}(h:Ar l)(k:Int){ks:List Int}(hk:InR l ks):Ar (l++[QM l k ks])∧pr (l++[QM l k ks]) l.length=ks.flatMap (pr l):=by
 have hx:InR l (QM l k ks).kids:=hk
 refine⟨⟨Q8d h.wf hx,Qcd h.wf h.wide hx ?_,QgJ h.ok (Q4g h.ok.w ks) (Q78 h.ok.c ks)⟩,?_⟩
 ·show Q1l l ks=(([]:List UInt8)++ks.flatMap (pr l)).length
  rw[List.nil_append];exact Q6m h.wide hk
 ·rw[QaH h.wf hx];rfl
theorem Q6x (s:List Opn)(x:Opn):QB (s++[x])=x:=by simp[QB]
theorem Q1h (n:Int)(s:List Opn)(x:Opn):Q1d n (s++[x])=s++[⟨x.name,x.kids++[n]⟩]:=by
 rw[Q1d,Q6x]
 simp
theorem Q1B {s:List Opn}(h:1≤s.length):∃ s0,s=s0++[QB s]:=by
 refine⟨s.dropLast,?_⟩
 have hne:s≠[]:=by rintro rfl;simp at h
 have h2:QB s=s.getLast hne:=by
  rw[QB,List.getLast_eq_getElem,List.getElem?_eq_getElem (by omega)];rfl
 rw[h2];exact (List.dropLast_concat_getLast hne).symm
def prK (l:List Node)(s:List Opn):List UInt8:=s.flatMap fun x=>x.kids.flatMap (pr l)
def Q4h (s:List Opn):Nat:=(s.map fun x=>x.kids.length).sum
structure MkInv (m:Mk) (X:List UInt8) (B D:Nat):Prop where
 ar:Ar m.n
 rng:∀ x∈m.s,InR m.n x.kids
 p:prK m.n m.s=X
 s1:1≤m.s.length
 n:m.n.length+2 * m.s.length≤B
 d:m.d.length+2 * m.s.length≤D
 k:Q4h m.s+2 * m.s.length≤B
 nm:∀ x∈m.s,x.name.length≤1000000
theorem Qih {s:List Opn}{x:Opn}(h:x∈s):x.kids.length≤Q4h s:=by
 induction s with
 |nil=>cases h
 |cons y r ih =>
  simp only[Q4h,List.map_cons,List.sum_cons] at ih ⊢
  rcases List.mem_cons.1 h with rfl|h
  ·omega
  ·have:=ih h;omega
theorem MkInv.ok {m:Mk}{X:List UInt8}{B D:Nat}(h:MkInv m X B D)(hB:B≤900000)(hD:D≤900000):MkOk m :=
 ⟨by have:=h.n;omega,by have:=h.d;omega,by have:=h.n;omega,h.s1,fun x hx=>by have:=h.k;have:=Qih hx;omega⟩
theorem Q1e {m:Mk}{X:List UInt8}{B D:Nat}(h:MkInv m X B D)(t:Txt)(c f u:Int):MkInv (Qw t c f u m) X B (D+1) :=
 ⟨h.ar,h.rng,h.p,h.s1,by have:=h.n;show m.n.length+2 * m.s.length≤_;omega,by have:=h.d;show (m.d++_).length+2 * m.s.length≤_;simp;omega,by have:=h.k;show Q4h m.s+2 * m.s.length≤_;omega,h.nm⟩
theorem Qb8 {l:List Node}(h:Wf l)(x:Node){s:List Opn}(hs:∀ y∈s,InR l y.kids):prK (l++[x]) s=prK l s :=
 congrArg List.flatten (List.map_congr_left fun y hy=>Q5A h x (hs y hy))
theorem Q5x (l:List Node)(s:List Opn)(x:Opn):prK l (s++[x])=prK l s++x.kids.flatMap (pr l):=by simp[prK]
theorem Q2G (s:List Opn)(x:Opn):Q4h (s++[x])=Q4h s+x.kids.length:=by simp[Q4h]
theorem Qed {m:Mk}{X:List UInt8}{B D:Nat}(h:MkInv m X B D){x:Node}{Y:List UInt8}(ha:Ar (m.n++[x]))(hp:pr (m.n++[x]) m.n.length=Y):MkInv (Q2g m.n.length (Q1a x m)) (X++Y) (B+1) D:=by
 obtain⟨s0,hs0⟩:=Q1B h.s1
 generalize QB m.s=y at hs0
 have e:(Q2g m.n.length (Q1a x m)).s=s0++[⟨y.name,y.kids++[(m.n.length:Int)]⟩]:=by
  show Q1d m.n.length m.s=_
  rw[hs0,Q1h]
 have en:(Q2g m.n.length (Q1a x m)).n=m.n++[x]:=rfl
 have hr:=h.rng
 rw[hs0] at hr
 have hr0:∀ z∈s0,InR m.n z.kids:=fun z hz=>hr z (List.mem_append_left _ hz)
 have hry:InR m.n y.kids:=hr y (by simp)
 have h1:=h.n
 have h2:=h.d
 have h3:=h.k
 have h4:=h.p
 rw[hs0] at h1 h2 h3 h4
 rw[Q2G] at h3
 rw[Q5x] at h4
 simp only[List.length_append,List.length_singleton] at h1 h2 h3
 have hnm:=h.nm
 rw[hs0] at hnm
 refine⟨by rw[en];exact ha,fun z hz=>?_,?_,by rw[e];simp,?_,?_,?_,fun z hz=>?_⟩
 ·rw[en]
  rw[e] at hz
  rcases List.mem_append.1 hz with hz|hz
  ·exact (hr0 z hz).more x
  ·obtain rfl:z=⟨y.name,y.kids++[(m.n.length:Int)]⟩:=by simpa using hz
   intro k hk
   rcases List.mem_append.1 hk with hk|hk
   ·exact hry.more x k hk
   ·obtain rfl:k=(m.n.length:Int):=by simpa using hk
    simp;omega
 ·rw[e,en,Q5x,Qb8 h.ar.wf x hr0]
  simp only[List.flatMap_append,List.flatMap_cons,List.flatMap_nil,List.append_nil]
  rw[Q5A h.ar.wf x hry,hp,←List.append_assoc,h4]
 ·rw[e,en];simp only[List.length_append,List.length_singleton];omega
 ·rw[e];show m.d.length+_≤_;simp only[List.length_append,List.length_singleton];omega
 ·rw[e,Q2G];simp only[List.length_append,List.length_singleton];omega
 ·rw[e] at hz
  rcases List.mem_append.1 hz with hz|hz
  ·exact hnm z (List.mem_append_left _ hz)
  ·obtain rfl:z=⟨y.name,y.kids++[(m.n.length:Int)]⟩:=by simpa using hz
   exact hnm y (by simp)
theorem Q7X {m:Mk}{X:List UInt8}{B D:Nat}(h:MkInv m X B D)(t:Txt)(b:List UInt8)(kind f u:Int):MkInv (lkF t b kind f u m) (X++QL t b f u) (B+1) D :=
 Qed h (Q2O h.ar kind _).1 (Q2O h.ar kind _).2
theorem QbJ {m:Mk}{X:List UInt8}{B D:Nat}(h:MkInv m X B D)(nm:List Int)(hnm:nm.length≤1000000):MkInv { m with s:=m.s++[⟨nm,[]⟩] } X (B+2) (D+2):=by
 have h1:=h.n
 have h2:=h.d
 have h3:=h.k
 refine⟨h.ar,fun z hz=>?_,?_,by simp,?_,?_,?_,fun z hz=>?_⟩
 ·rcases List.mem_append.1 hz with hz|hz
  ·exact h.rng z hz
  ·obtain rfl:z=⟨nm,[]⟩:=by simpa using hz
   intro k hk;cases hk
 ·rw[Q5x];simpa using h.p
 ·simp only[List.length_append,List.length_singleton];omega
 ·simp only[List.length_append,List.length_singleton];omega
 ·rw[Q2G];simp only[List.length_append,List.length_singleton,List.length_nil];omega
 ·rcases List.mem_append.1 hz with hz|hz
  ·exact h.nm z hz
  ·obtain rfl:z=⟨nm,[]⟩:=by simpa using hz
   exact hnm
theorem Q8K {m:Mk}{X:List UInt8}{B D:Nat}(h:MkInv m X B D)(hs:2≤m.s.length)(kind:Int)(bs:List UInt8){D':Nat}(hD:D≤D'+2):MkInv (Q16 m.n.length (Q1a (Qj kind bs) m)) (X++bs) B D'∧(Q16 m.n.length (Q1a (Qj kind bs) m)).s.length=m.s.length-1 ∧
  InR (m.n++[Qj kind bs]) ((QB m.s).kids++[(m.n.length:Int)])∧(((QB m.s).kids++[(m.n.length:Int)]).flatMap (pr (m.n++[Qj kind bs]))).length≤X.length+bs.length:=by
 obtain⟨s1,hs1⟩:=Q1B h.s1
 generalize QB m.s=x at hs1
 have hl1:1≤s1.length:=by rw[hs1] at hs;simp at hs;omega
 obtain⟨s0,hs0⟩:=Q1B hl1
 generalize QB s1=y at hs0
 subst hs0
 obtain⟨ha1,hp1⟩:=Q2O h.ar kind bs
 have hr:=h.rng
 rw[hs1] at hr
 have hr0:∀ z∈s0,InR m.n z.kids:=fun z hz=>hr z (List.mem_append_left _ (List.mem_append_left _ hz))
 have hry:InR m.n y.kids:=hr y (List.mem_append_left _ (by simp))
 have hrx:InR m.n x.kids:=hr x (by simp)
 have hks:InR (m.n++[Qj kind bs]) (x.kids++[(m.n.length:Int)]):=fun k hk=>by
  rcases List.mem_append.1 hk with hk|hk
  ·exact hrx.more _ k hk
  ·obtain rfl:k=(m.n.length:Int):=by simpa using hk
   simp;omega
 obtain⟨l1,hl⟩:=exq (m.n++[Qj kind bs])
 obtain⟨ha2,hp2⟩:=Q5l ha1 21 hks
 obtain⟨z,hz⟩:=exq (QM l1 21 (x.kids++[(m.n.length:Int)]))
 have hpk:(x.kids++[(m.n.length:Int)]).flatMap (pr l1)=x.kids.flatMap (pr m.n)++bs:=by
  rw[hl]
  simp only[List.flatMap_append,List.flatMap_cons,List.flatMap_nil,List.append_nil]
  rw[Q5A h.ar.wf _ hrx,hp1]
 rw[←hl] at ha1 ha2 hp2 hks ⊢
 rw[←hz] at ha2 hp2
 have eT:QB (Q2g (m.n.length:Int) (Q1a (Qj kind bs) m)).s=⟨x.name,x.kids++[(m.n.length:Int)]⟩:=by
  show QB (Q1d m.n.length m.s)=_
  rw[hs1,Q1h,Q6x]
 have en:(Q16 m.n.length (Q1a (Qj kind bs) m)).n=l1++[z]:=by
  show (m.n++[Qj kind bs])++[QM (m.n++[Qj kind bs]) 21 (QB (Q2g (m.n.length:Int) (Q1a (Qj kind bs) m)).s).kids]=_
  rw[eT,←hl,←hz]
 have es:(Q16 m.n.length (Q1a (Qj kind bs) m)).s=s0++[⟨y.name,y.kids++[(l1.length:Int)]⟩]:=by
  show Q1d ((m.n++[Qj kind bs]).length:Int) ((Q1d m.n.length m.s).take ((Q1d m.n.length m.s).length-1))=_
  have e2:(Q1d m.n.length m.s).take ((Q1d m.n.length m.s).length-1)=s0++[y]:=by
   rw[hs1,Q1h,show (s0++[y]++[(⟨x.name,x.kids++[(m.n.length:Int)]⟩:Opn)]).length-1=(s0++[y]).length by simp]
   exact List.take_left
  rw[e2,Q1h,hl]
 have h1:=h.n
 have h2:=h.d
 have h3:=h.k
 have h4:=h.p
 rw[hs1] at h1 h2 h3 h4
 rw[Q2G,Q2G] at h3
 rw[Q5x,Q5x] at h4
 simp only[List.length_append,List.length_singleton] at h1 h2 h3
 have hll:l1.length=m.n.length+1:=by rw[hl];simp
 have hnm:=h.nm
 rw[hs1] at hnm
 refine⟨⟨by rw[en];exact ha2,fun q hq=>?_,?_,by rw[es];simp,?_,?_,?_,fun q hq=>?_⟩,by rw[es,hs1];simp,hks,?_⟩
 ·rw[en]
  rw[es] at hq
  have up:∀ {ks:List Int},InR m.n ks→InR (l1++[z]) ks:=fun hk=>by
   rw[hl];exact (hk.more _).more _
  rcases List.mem_append.1 hq with hq|hq
  ·exact up (hr0 q hq)
  ·obtain rfl:q=⟨y.name,y.kids++[(l1.length:Int)]⟩:=by simpa using hq
   intro k hk
   rcases List.mem_append.1 hk with hk|hk
   ·exact up hry k hk
   ·obtain rfl:k=(l1.length:Int):=by simpa using hk
    simp;omega
 ·have up0:prK (l1++[z]) s0=prK m.n s0:=by
   rw[Qb8 ha1.wf z (fun q hq=>by rw[hl];exact (hr0 q hq).more _),hl,Qb8 h.ar.wf _ hr0]
  have upy:y.kids.flatMap (pr (l1++[z]))=y.kids.flatMap (pr m.n):=by
   rw[Q5A ha1.wf z (by rw[hl];exact hry.more _),hl,Q5A h.ar.wf _ hry]
  rw[es,en,Q5x,up0]
  simp only[List.flatMap_append,List.flatMap_cons,List.flatMap_nil,List.append_nil]
  rw[upy,hp2,hpk,←h4]
  simp only[List.append_assoc]
 ·rw[es,en];simp only[List.length_append,List.length_singleton];omega
 ·rw[es];show m.d.length+_≤_;simp only[List.length_append,List.length_singleton];omega
 ·rw[es,Q2G];simp only[List.length_append,List.length_singleton];omega
 ·rw[es] at hq
  rcases List.mem_append.1 hq with hq|hq
  ·exact hnm q (List.mem_append_left _ (List.mem_append_left _ hq))
  ·obtain rfl:q=⟨y.name,y.kids++[(l1.length:Int)]⟩:=by simpa using hq
   exact hnm y (List.mem_append_left _ (by simp))
 ·rw[hpk,←h4]
  simp only[List.length_append]
  omega
theorem Q3D {m:Mk}{X:List UInt8}{B D:Nat}(h:MkInv m X B D)(hs:2≤m.s.length)(t:Txt)(at_:Int):MkInv (Q1Q t at_ m) X B D∧(Q1Q t at_ m).s.length=m.s.length-1 ∧
  InR (m.n++[Qj 22 []]) ((QB m.s).kids++[(m.n.length:Int)])∧(((QB m.s).kids++[(m.n.length:Int)]).flatMap (pr (m.n++[Qj 22 []]))).length≤X.length:=by
 have:=Q8K (Q1e h t 4 at_ at_) hs 22 [] (D':=D) (by omega)
 rw[List.append_nil] at this
 exact this
theorem Q8x (t:Txt)(f u:Int):(Qs t f u).length≤t.r.length:=by
 rw[Qs,List.length_take,List.length_drop];omega
theorem Q6J (t:Txt)(a:Int)(m:Mk):(Q1Q t a m).s.length=m.s.length-1:=by
 show (Q1d _ ((Q1d _ m.s).take ((Q1d _ m.s).length-1))).length=_
 rw[Q3J,List.length_take,Q3J];omega
theorem Q7u {t:Txt}{f:Int}{k:Nat}{x:Mk}(h:k<x.s.length-1):missGo t f k x.s.length x=missGo t f k (Q1Q t f x).s.length (Q1Q t f x):=by
 obtain⟨n,hn⟩:∃ n,x.s.length=n+1:=⟨x.s.length-1,by omega⟩
 rw[Q6J,hn]
 rw[hn] at h
 show (if k<x.s.length-1 then _ else _)=_
 rw[hn,if_pos h];rfl
theorem Q89 {t:Txt}{f:Int}{k:Nat}{x:Mk}(h:¬ k<x.s.length-1):missGo t f k x.s.length x=x:=by
 cases hn:x.s.length with
 |zero=>rfl
 |succ n =>
  show (if k<x.s.length-1 then _ else _)=_
  rw[if_neg h]
theorem MkInv.sum {l:List Node}(h:Ar l){ks:List Int}(hk:InR l ks){n:Nat}(hn:(ks.flatMap (pr l)).length≤n)(h2:n≤2147483647):Q1l l ks≤2147483647:=by
 rw[Q6m h.wide hk];omega
theorem MkInv.top {m:Mk}{X:List UInt8}{B D:Nat}(h:MkInv m X B D):InR m.n (QB m.s).kids:=by
 obtain⟨s0,hs0⟩:=Q1B h.s1
 refine h.rng _ ?_
 rw[hs0,Q6x];simp
theorem Qhu (t:Txt)(b:List UInt8)(rt:Int){m:Mk}{X:List UInt8}{B D:Nat}(h:MkInv m X B D)(hB:B≤900000)(hD:D≤900000)(hX:X.length≤1000000)(a:Int)(ha:0≤a∧a<t.off.length)(hs:2≤m.s.length) :
  BCall prog 89 [.box 0 0,.val (.int .i64 a)] (obT 0 t b rt m) (.tup []) (obT 1 t b rt (Q1Q t a m)):=by
 have ok:=h.ok hB hD
 obtain⟨_,_,h3,h4⟩:=Q3D h hs t a
 have ha1:=(Q2O h.ar 22 []).1
 exact Qkl t b rt m (by have:=ok.d;omega) a ha hs (by have:=ok.s;omega) (fun x hx=>by have:=ok.k x hx;omega) (by have:=ok.n;omega) ha1.ok h.top (MkInv.sum ha1 h3 h4 (by omega))
theorem Qkg (t:Txt)(b:List UInt8)(rt:Int){m:Mk}{X:List UInt8}{B D:Nat}(h:MkInv m X B D)(hB:B≤900000)(hD:D≤900000)(hX:X.length≤1000000)(hs:2≤m.s.length)(kind:Int)(bs:List UInt8)(hbs:bs.length≤1000000) :
  BCall prog 139 [.box 0 0,.val (.int .i64 m.n.length)] (obT 0 t b rt (Q1a (Qj kind bs) m)) (.tup []) (obT 1 t b rt (Q16 m.n.length (Q1a (Qj kind bs) m))):=by
 have ok:=h.ok hB hD
 obtain⟨_,_,h3,h4⟩:=Q8K h hs kind bs (D':=D) (by omega)
 have ha1:=(Q2O h.ar kind bs).1
 exact QhF t b rt (Q1a (Qj kind bs) m) hs (by have:=ok.s;show m.s.length≤_;omega) (fun x hx=>by have:=ok.k x hx;omega) (by have:=ok.n;show (m.n++_).length≤_;simp;omega) ha1.ok m.n.length h3 (MkInv.sum ha1 h3 h4 (by omega))
def Q47 (t:Txt)(a:Int)(N D S:List AV):List AV:=Q0 (Q1Q t a (mkB N D S)).n
def Q44 (t:Txt)(a:Int)(N D S:List AV):List AV:=Qz (Q1Q t a (mkB N D S)).d
def Q42 (t:Txt)(a:Int)(N D S:List AV):List AV:=Qc (Q1Q t a (mkB N D S)).s
def Qb5 (p:Pr)(nm:Int→Int→List AV)(wr:Int→Int→Int→List AV→List AV)(lf:Int→Int→Int→List AV→List AV)(kd:Int→List AV→List AV)(eq:List AV→List AV→Bool)(mn md ms sn ss:Int→List AV→List AV→List AV→List AV):Nat→List AV→List Ob→Option (AV×List Ob):=fun f args ob=>match f,args with
 |135,[.box 0 0,.agg [_,.val (.int .i64 f),.val (.int .i64 u),_]]=>some (.slc 1 (nm f u),ob)
 |134,[.box 0 0,.val (.int .i64 c),.val (.int .i64 f),.val (.int .i64 u)]=>Q2M ob fun b k m r o rt N D S=>some (.tup [],obM 1 b k m r o rt N (wr c f u D) S)
 |138,[.box 0 0,.agg [.val (.int .i64 kind),.val (.int .i64 f),.val (.int .i64 u),_]]=>Q2M ob fun b k m r o rt N D S=>some (.val (.int .i64 (p.len N)),obM 1 b k m r o rt (lf kind f u N) D S)
 |42,[.box 0 0,.val (.int .i64 n)]=>Q2M ob fun b k m r o rt N D S=>some (.tup [],obM 1 b k m r o rt N D (kd n S))
 |178,[.slc 1 x,.slc 1 y]=>some (.val (.bool (eq x y)),[])
 |89,[.box 0 0,.val (.int .i64 a)]=>Q2M ob fun b k m r o rt N D S=>some (.tup [],obM 1 b k m r o rt (mn a N D S) (md a N D S) (ms a N D S))
 |139,[.box 0 0,.val (.int .i64 n)]=>Q2M ob fun b k m r o rt N D S=>some (.tup [],obM 1 b k m r o rt (sn n N D S) D (ss n N D S))
 |_,_=>none
def eqA (x y:List AV):Bool:=decide (x.map Qg=y.map Qg)
theorem Qg1 (x y:List Int):eqA (Q1 x) (Q1 y)=decide (x=y):=by rw[eqA,Q3G,Q3G]
theorem QhT (l:List Int):Q1O (slR l)=Q1 l:=by cases l<;>rfl
theorem QjI (l:List Int):slR l=.slc 1 (Q1 l)∨slR l=.val (.slice none 0 0):=by
 cases l with
 |nil=>exact .inr rfl
 |cons x r=>exact .inl rfl
def Q4B (s:List Opn)(k:Int):Opn:=s[k.toNat]?.getD ⟨[],[]⟩
theorem QjO {s:List Opn}{k:Int}(h0:0≤k)(h1:k<s.length):(Qc s).getD k.toNat .dead=(Q4B s k).av:=by
 have:k.toNat<s.length:=by omega
 simp[Qc,Q4B,this]
theorem Q80 {s:List Opn}{nm:List Int}{k:Int}(h:0<k):Q18 s nm k.toNat=if (Q4B s k).name=nm then k.toNat else Q18 s nm (k-1).toNat:=by
 obtain⟨n,hn⟩:∃ n:Nat,k.toNat=n+1:=⟨k.toNat-1,by omega⟩
 rw[Q4B,show (k-1).toNat=n by omega,hn];rfl
theorem Qei (t:Txt)(a:Int)(m:Mk):Q47 t a (Q0 m.n) (Qz m.d) (Qc m.s)=Q0 (Q1Q t a m).n:=by rw[Q47,Q1J]
theorem Qet (t:Txt)(a:Int)(m:Mk):Q44 t a (Q0 m.n) (Qz m.d) (Qc m.s)=Qz (Q1Q t a m).d:=by rw[Q44,Q1J]
theorem Qep (t:Txt)(a:Int)(m:Mk):Q42 t a (Q0 m.n) (Qz m.d) (Qc m.s)=Qc (Q1Q t a m).s:=by rw[Q42,Q1J]
theorem Qi5 (l:Int)(y:Node)(m:Mk):Q5W l (Q0 (m.n++[y])) (Qz m.d) (Qc m.s)=Q0 (Q16 l (Q1a y m)).n:=by
 have:=Q1J (Q1a y m)
 rw[Q5W];exact congrArg (fun z=>Q0 (Q16 l z).n) this
theorem QiA (l:Int)(y:Node)(m:Mk):Q67 l (Q0 (m.n++[y])) (Qz m.d) (Qc m.s)=Qc (Q16 l (Q1a y m)).s:=by
 have:=Q1J (Q1a y m)
 rw[Q67];exact congrArg (fun z=>Qc (Q16 l z).s) this
theorem QkJ (t:Txt)(b:List UInt8)(hs:Sml t b)(rt:Int)(m:Mk)(X:List UInt8)(B D:Nat)(iv:MkInv m X B D)(hB:B≤800000)(hD:D≤800000)(hX:X.length≤1000000)(kind f u:Int)(wh:Bool)(hi:InT t f u) :
  BCall prog 137 [.box 0 0,.agg [.val (.int .i64 kind),.val (.int .i64 f),.val (.int .i64 u),.val (.bool wh)]] (obT 0 t b rt m) (.tup []) (obT 1 t b rt (Q1Y t b kind f u m)):=by
 have cN:=Qde t b hs.hr rt m kind f u wh hi.h0 hi.h1 hi.h2
 have hoff:=hi.off hs
 have ok:=iv.ok (by omega) (by omega)
 unfold obT obM
 obtain⟨L,hL⟩:=QX m.s
 have slen:=Q2N m.s
 refine fnN (cs:=Qb5 std (nmA t) (wrA t) (lfT t b) kdA eqA (Q47 t) (Q44 t) (Q42 t) Q5W Q67) func137 rfl (by kernel_rfl) ?_
 intro w0 g0
 generalize hp:std=p,hnm:nmA t=nm,hwr:wrA t=wr,hlf:lfT t b=lf,hkd:kdA=kd,heq:eqA=eq,hmn:Q47 t=mn,hmd:Q44 t=md,hms:Q42 t=ms,hsn:Q5W=sn,hss:Q67=ss,hN:Q0 m.n=N,hD':Qz m.d=D',hS:Qc m.s=S,hB':Q5 b=B',hR:Q1 t.r=R,hO:Q9 t.off=O,hK:t.kind=K,hM:t.bom=M
 generalize hT:Q8 p tys (Qb5 p nm wr lf kd eq mn md ms sn ss) _ _ _ _=T
 cbv at hT
 subst hT
 simp only[Tree.ok,Q4,S0]
 subst hp hnm hwr hlf hkd heq hmn hmd hms hsn hss hN hD' hS hB' hR hO hK hM
 have hlen:std.len (Qc m.s)=L:=by show ((Qc m.s).length:Int)=L;rw[slen,hL.eq]
 have hL1:1≤L:=by have:=hL.eq;have:=ok.s1;omega
 have hLn:L≤900000:=by have:=hL.eq;have:=ok.s;omega
 refine⟨cN,?_,?_⟩
 ·show (-9223372036854775808:Int)≤std.len (Qc m.s)-1∧std.len (Qc m.s)-1≤(9223372036854775807:Int)
  rw[hlen];omega
 obtain⟨nm0,hnm⟩:=exq (Qs t f u)
 have hnmA:nmA t f u=Q1 nm0:=by rw[hnm];rfl
 rw[hnmA]
 refine Q1P (cs:=Qb5 std (nmA t) (wrA t) (lfT t b) kdA eqA (Q47 t) (Q44 t) (Q42 t) Q5W Q67) (by kernel_rfl) (X:=Int) (fun k=>⟨[(0,.box 0 0),(3,.box 6 0),(4,.slc 1 (Q1 nm0)),(5,.val (.int .i64 k))],[.box [.slc 1 (Q5 b),.box 1 0,.row 5 0],.box [.val (.int .i64 t.kind),.val (.int .i64 t.bom),.slc 1 (Q1 t.r),.slc 1 (Q9 t.off),.box 2 0,.val (.int .i64 rt),.row 4 0],.box [.row 3 0],.row 182 6 false 0 (Q0 m.n),.row 146 3 false 0 (Qz m.d),.row 99 2 false 0 (Qc m.s),.box [.val (.int .i64 kind),.val (.int .i64 f),.val (.int .i64 u),.val (.bool wh)]]⟩) (fun k=>0≤k∧k≤L-1∧Q18 m.s nm0 k.toNat=Q18 m.s nm0 (m.s.length-1)) (fun k=>k.toNat) (L-1) ?_ ?_ ?_
 ·exact⟨by omega,Int.le_refl _,by have:=hL.eq;rw[show (L-1).toNat=m.s.length-1 by omega]⟩
 ·exact⟨[some 0,some 1,some 2,some 3,some 4,some 5,some 6],_,rfl,by simp[Qh,lk,std,slen,hL.eq]⟩
 ·rintro k ⟨hk0,hk1,hk2⟩
  generalize hp:std=p,hnm:nmA t=nm,hwr:wrA t=wr,hlf:lfT t b=lf,hkd:kdA=kd,heq:eqA=eq,hmn:Q47 t=mn,hmd:Q44 t=md,hms:Q42 t=ms,hsn:Q5W=sn,hss:Q67=ss,hN:Q0 m.n=N,hD':Qz m.d=D',hS:Qc m.s=S,hB':Q5 b=B',hR:Q1 t.r=R,hO:Q9 t.off=O,hK:t.kind=K,hM:t.bom=M,hNM:Q1 nm0=NM
  generalize hT:Q8 p tys (Qb5 p nm wr lf kd eq mn md ms sn ss) _ _ _ _=T
  cbv at hT
  subst hT
  simp only[Tree.ok,Q4,S0]
  subst hp hnm hwr hlf hkd heq hmn hmd hms hsn hss hN hD' hS hB' hR hO hK hM hNM
  have hkl:k<m.s.length:=by have:=hL.eq;omega
  have hat:=QjO hk0 hkl
  have hcel:std.nth (std.drp (std.cel (std.at_ (Qc m.s) k)) 0) 0=slR (Q4B m.s k).name:=by
   show ((((Qc m.s).getD k.toNat .dead).cells).drop 0).getD 0 .dead=_
   rw[hat];rfl
  have hlst:std.lst (std.nth (std.drp (std.cel (std.at_ (Qc m.s) k)) 0) 0)=Q1 (Q4B m.s k).name:=by
   show Q1O (std.nth (std.drp (std.cel (std.at_ (Qc m.s) k)) 0) 0)=_
   rw[hcel,QhT]
  have hnl:(Q4B m.s k).name.length≤1000000000:=by
   have hk3:k.toNat<m.s.length:=by omega
   have:=iv.nm (Q4B m.s k) (by rw[Q4B,List.getElem?_eq_getElem hk3];exact List.getElem_mem hk3)
   omega
  have hn0:nm0.length≤1000000000:=by
   have h3:=Q8x t f u
   have h4:=hs.hr
   rw[hnm];omega
  have cE:=Qiv (Q4B m.s k).name nm0 hnl hn0
  rw[←Qg1,←hlst] at cE
  have hq:∀ c,std.notB (eqA (std.lst (std.nth (std.drp (std.cel (std.at_ (Qc m.s) k)) 0) 0)) (Q1 nm0))=c→decide ((Q4B m.s k).name=nm0)=!c:=fun c h=>by
   rw[hlst,Qg1] at h
   have h:(!decide ((Q4B m.s k).name=nm0))=c:=h
   rw[←h,Bool.not_not]
  refine⟨fun hk=>⟨?_,⟨?_,trivial⟩,cE,fun hne=>⟨?_,k-1,⟨?_,?_,?_⟩,?_,[some 0,some 1,some 2,some 3,some 4,some 5,some 6],_,rfl,by simp[Qh,lk,std]⟩,fun heq=>?_⟩,fun hk=>?_⟩
  ·show 0≤k∧k<std.len (Qc m.s)
   rw[hlen];omega
  ·show std.nth (std.drp (std.cel (std.at_ (Qc m.s) k)) 0) 0=.slc 1 (std.lst (std.nth (std.drp (std.cel (std.at_ (Qc m.s) k)) 0) 0))∨std.nth (std.drp (std.cel (std.at_ (Qc m.s) k)) 0) 0=.val (.slice none 0 0)
   rw[hlst,hcel];exact QjI _
  ·show (-9223372036854775808:Int)≤k-1∧k-1≤(9223372036854775807:Int)
   omega
  ·have:0<k:=of_decide_eq_true hk
   omega
  ·omega
  ·have h1:0<k:=of_decide_eq_true hk
   rw[←hk2,Q80 (nm:=nm0) h1,if_neg (of_decide_eq_false (hq _ hne))]
  ·have h1:0<k:=of_decide_eq_true hk
   omega
  ·have h1:0<k:=of_decide_eq_true hk
   have hf:Q18 m.s nm0 (m.s.length-1)=k.toNat:=by rw[←hk2,Q80 (nm:=nm0) h1,if_pos (of_decide_eq_true (hq _ heq))]
   clear cE hq
   have hkn:k.toNat≠0:=by omega
   have hE:Q1Y t b kind f u m=Q16 (missGo t f k.toNat m.s.length m).n.length (Q1H t b kind f u (missGo t f k.toNat m.s.length m)):=by
    show (if Q18 m.s (Qs t f u) (m.s.length-1)=0 then _ else _)=_
    rw[←hnm,hf,if_neg hkn]
   obtain⟨kn,hkn'⟩:=exq k.toNat
   obtain⟨M0,hM0⟩:=exq (missGo t f kn m.s.length m)
   rw[←hkn',←hM0] at hE
   have hkI:k=(kn:Int):=by omega
   rw[hE]
   clear hE hf hk2 hkl
   rw[if_pos trivial]
   generalize hp:std=p,hnm:nmA t=nm,hwr:wrA t=wr,hlf:lfT t b=lf,hkd:kdA=kd,heq:eqA=eq,hmn:Q47 t=mn,hmd:Q44 t=md,hms:Q42 t=ms,hsn:Q5W=sn,hss:Q67=ss,hN:Q0 m.n=N,hD':Qz m.d=D',hS:Qc m.s=S,hB':Q5 b=B',hR:Q1 t.r=R,hO:Q9 t.off=O,hK:t.kind=K,hM:t.bom=M,hNM:Q1 nm0=NM
   generalize hT:Q8 p tys (Qb5 p nm wr lf kd eq mn md ms sn ss) _ _ _ _=T
   cbv at hT
   subst hT
   simp only[Tree.ok,Q4,S0]
   subst hp hnm hwr hlf hkd heq hmn hmd hms hsn hss hN hD' hS hB' hR hO hK hM hNM
   refine⟨fun hz=>?_,fun _=>?_⟩
   ·have hz:(k == 0)=true:=hz
    have:k=0:=by simpa using hz
    omega
   refine Q1P (cs:=Qb5 std (nmA t) (wrA t) (lfT t b) kdA eqA (Q47 t) (Q44 t) (Q42 t) Q5W Q67) (by kernel_rfl) (X:=Mk) (fun x=>⟨[(0,.box 0 0),(3,.box 6 0),(5,.val (.int .i64 k))],[.box [.slc 1 (Q5 b),.box 1 0,.row 5 1],.box [.val (.int .i64 t.kind),.val (.int .i64 t.bom),.slc 1 (Q1 t.r),.slc 1 (Q9 t.off),.box 2 0,.val (.int .i64 rt),.row 4 1],.box [.row 3 1],.row 182 6 false 1 (Q0 x.n),.row 146 3 false 1 (Qz x.d),.row 99 2 false 1 (Qc x.s),.box [.val (.int .i64 kind),.val (.int .i64 f),.val (.int .i64 u),.val (.bool wh)]]⟩) (fun x=>MkInv x X B D∧kn+1≤x.s.length∧missGo t f kn x.s.length x=M0) (fun x=>x.s.length) m ?_ ?_ ?_
   ·exact⟨iv,by have:=hL.eq;omega,hM0.symm⟩
   ·exact⟨[some 0,some 1,some 2,some 3,some 4,some 5,some 6],_,rfl,by simp[Qh,lk,std]⟩
   ·rintro x ⟨hv,hx1,hx2⟩
    have okx:=hv.ok (by omega) (by omega)
    have xlen:=Q2N x.s
    obtain⟨LX,hLX⟩:=QX x.s
    generalize hp:std=p,hnm:nmA t=nm,hwr:wrA t=wr,hlf:lfT t b=lf,hkd:kdA=kd,heq:eqA=eq,hmn:Q47 t=mn,hmd:Q44 t=md,hms:Q42 t=ms,hsn:Q5W=sn,hss:Q67=ss,hN:Q0 x.n=N,hD':Qz x.d=D',hS:Qc x.s=S,hB':Q5 b=B',hR:Q1 t.r=R,hO:Q9 t.off=O,hK:t.kind=K,hM:t.bom=M
    generalize hT:Q8 p tys (Qb5 p nm wr lf kd eq mn md ms sn ss) _ _ _ _=T
    cbv at hT
    subst hT
    simp only[Tree.ok,Q4,S0]
    subst hp hnm hwr hlf hkd heq hmn hmd hms hsn hss hN hD' hS hB' hR hO hK hM
    have hlx:std.len (Qc x.s)=LX:=by show ((Qc x.s).length:Int)=LX;rw[xlen,hLX.eq]
    have hX1:1≤LX∧LX≤900000:=by have:=hLX.eq;have:=okx.s;have:=okx.s1;omega
    simp only[Qei,Qet,Qep]
    refine⟨?_,fun hgt=>?_,fun hle=>?_⟩
    ·show (-9223372036854775808:Int)≤std.len (Qc x.s)-1∧std.len (Qc x.s)-1≤(9223372036854775807:Int)
     rw[hlx];omega
    ·have hgt:k<std.len (Qc x.s)-1:=of_decide_eq_true hgt
     rw[hlx] at hgt
     have hk1:kn<x.s.length-1:=by have:=hLX.eq;omega
     have hxs2:2≤x.s.length:=by omega
     have c:=Qhu t b rt hv (by omega) (by omega) hX f hoff.1 hxs2
     refine⟨c,Q1Q t f x,⟨(Q3D hv hxs2 t f).1,by rw[Q6J];omega,by rw[←Q7u hk1];exact hx2⟩,by rw[Q6J];omega,[some 0,some 1,some 2,some 3,some 4,some 5,some 6],_,rfl,by simp[Qh,lk,std]⟩
    ·have hle:¬ k<std.len (Qc x.s)-1:=of_decide_eq_false hle
     rw[hlx] at hle
     have hk1:¬ kn<x.s.length-1:=by have:=hLX.eq;omega
     have hx0:x=M0:=by rw[←hx2,Q89 hk1]
     subst hx0
     have hxs2:2≤x.s.length:=by omega
     have cL:=Q95 t b hs.hb hs.ok hs.hr rt x (by have:=okx.n;omega) kind f u wh hi.h0 hi.h1 hi.h2
     have cS:=Qkg t b rt hv (by omega) (by omega) hX hxs2 kind (QL t b f u) (by have:=Q9x t b f u;have:=hs.hb;omega)
     simp only[obT,obM,Q1H] at cL cS ⊢
     clear hle hlx hX1 hk1 hxs2 hx2 hx1 hkI hkn' hlst hcel hat
     rw[if_pos trivial]
     generalize hp:std=p,hnm:nmA t=nm,hwr:wrA t=wr,hlf:lfT t b=lf,hkd:kdA=kd,heq:eqA=eq,hmn:Q47 t=mn,hmd:Q44 t=md,hms:Q42 t=ms,hsn:Q5W=sn,hss:Q67=ss,hN:Q0 x.n=N,hD':Qz x.d=D',hS:Qc x.s=S,hB':Q5 b=B',hR:Q1 t.r=R,hO:Q9 t.off=O,hK:t.kind=K,hM:t.bom=M
     generalize hT:Q8 p tys (Qb5 p nm wr lf kd eq mn md ms sn ss) _ _ _ _=T
     cbv at hT
     subst hT
     simp only[Tree.ok,Q4,S0]
     subst hp hnm hwr hlf hkd heq hmn hmd hms hsn hss hN hD' hS hB' hR hO hK hM
     simp only[std,Q8Y,QT,Qi5,QiA]
     refine⟨cL,cS,[some 0,some 1,some 2,some 3,some 4,some 5],.tup [],_,rfl,rfl,Nat.le_of_ble_eq_true rfl,rfl,?_,trivial⟩
     simp[Qh]
     rfl
  ·have hk:¬ 0<k:=of_decide_eq_false hk
   have hk0':k=0:=by omega
   have hf:Q18 m.s nm0 (m.s.length-1)=0:=by rw[←hk2,hk0'];rfl
   have hE:Q1Y t b kind f u m=lkF t b kind f u (Qw t 3 f u m):=by
    show (if Q18 m.s (Qs t f u) (m.s.length-1)=0 then _ else _)=_
    rw[←hnm,hf,if_pos rfl]
   rw[hE]
   clear cE hq hE hf hk2 hkl hlst hcel hat hnl hn0
   rw[if_pos trivial]
   generalize hp:std=p,hnm:nmA t=nm,hwr:wrA t=wr,hlf:lfT t b=lf,hkd:kdA=kd,heq:eqA=eq,hmn:Q47 t=mn,hmd:Q44 t=md,hms:Q42 t=ms,hsn:Q5W=sn,hss:Q67=ss,hN:Q0 m.n=N,hD':Qz m.d=D',hS:Qc m.s=S,hB':Q5 b=B',hR:Q1 t.r=R,hO:Q9 t.off=O,hK:t.kind=K,hM:t.bom=M,hNM:Q1 nm0=NM
   generalize hT:Q8 p tys (Qb5 p nm wr lf kd eq mn md ms sn ss) _ _ _ _=T
   cbv at hT
   subst hT
   simp only[Tree.ok,Q4,S0]
   subst hp hnm hwr hlf hkd heq hmn hmd hms hsn hss hN hD' hS hB' hR hO hK hM hNM
   refine⟨fun _=>?_,fun hz=>?_⟩
   ·have hd:=ok.d
    have cW:=Q7M t b rt m (by omega) 3 f u hoff.1 hoff.2
    have cL:=Q95 t b hs.hb hs.ok hs.hr rt (Qw t 3 f u m) (by have:=ok.n;show m.n.length≤_;omega) kind f u wh hi.h0 hi.h1 hi.h2
    have cK:=Q87 t b rt (Q1H t b kind f u (Qw t 3 f u m)) (by have:=ok.s1;exact this) (by have:=ok.s;show m.s.length≤_;omega) (by have:=ok.top;show (QB m.s).kids.length≤_;omega) m.n.length
    simp only[obT,obM,Q1H,Q1a,Q2g,Qw,lkF] at cW cL cK ⊢
    simp only[std,Q8Y,Q8t,Q8n,QT]
    exact⟨cW,cL,cK,[some 0,some 1,some 2,some 3,some 4,some 5],.tup [],_,rfl,rfl,Nat.le_of_ble_eq_true rfl,rfl,by simp[Qh],trivial⟩
   ·have hz:(k == 0)=false:=hz
    rw[hk0'] at hz;cases hz
end Go.Proofs.YtibemhahkicbpaaGreat
namespace Go.Proofs.YtibemhahkicbpaaGreat
open Go.RowKit Go.Lib
theorem MkInv.mono {m:Mk}{X:List UInt8}{B D B' D':Nat}(h:MkInv m X B D)(hB:B≤B')(hD:D≤D'):MkInv m X B' D' :=
 ⟨h.ar,h.rng,h.p,h.s1,Nat.le_trans h.n hB,Nat.le_trans h.d hD,Nat.le_trans h.k hB,h.nm⟩
theorem Q9N {m:Mk}{X:List UInt8}{B D:Nat}(h:MkInv m X B D)(t:Txt)(b:List UInt8)(hr:t.r.length≤1000000)(kind f u:Int):MkInv (QZ t b kind f u m) (X++QL t b f u) (B+3) (D+2):=by
 unfold QZ
 split
 ·exact (Q7X (Q1e h t 5 f u) t b kind f u).mono (by omega) (by omega)
 ·exact Q7X (QbJ h (Qs t f u) (Nat.le_trans (Q8x t f u) hr)) t b kind f u
theorem Q6c (t:Txt)(f:Int)(k:Nat){X:List UInt8}{B D:Nat}:∀ (n:Nat) (m:Mk),MkInv m X B D→k+1≤m.s.length→m.s.length≤n+k+1→MkInv (missGo t f k n m) X B D∧(missGo t f k n m).s.length=k+1
 |0,m,h,h1,h2=>⟨h,by show m.s.length=_;omega⟩
 |n+1,m,h,h1,h2=>by
  show MkInv (if _ then _ else _) X B D∧(if _ then _ else _:Mk).s.length=_
  split
  ·have h3:=Q3D h (by omega) t f
   exact Q6c t f k n _ h3.1 (by omega) (by omega)
  ·exact⟨h,by omega⟩
theorem Q3M (s:List Opn)(nm:List Int):∀ k,Q18 s nm k≤k
 |0=>Nat.le_refl _
 |k+1=>by
  unfold Q18
  split
  ·exact Nat.le_refl _
  ·exact Nat.le_succ_of_le (Q3M s nm k)
theorem Qea {m:Mk}{X:List UInt8}{B D:Nat}(h:MkInv m X B D)(t:Txt)(b:List UInt8)(kind f u:Int):MkInv (Q1Y t b kind f u m) (X++QL t b f u) (B+1) (D+1):=by
 unfold Q1Y
 have h1:=h.s1
 have h2:=Q3M m.s (Qs t f u) (m.s.length-1)
 simp only
 split
 ·exact Q7X (Q1e h t 3 f u) t b kind f u
 ·obtain⟨h3,h4⟩:=Q6c t f (Q18 m.s (Qs t f u) (m.s.length-1)) m.s.length m h (by omega) (by omega)
  exact (Q8K h3 (by omega) kind (QL t b f u) (D':=D) (by omega)).1.mono (by omega) (by omega)
theorem Qf4 {m:Mk}{X:List UInt8}{B D:Nat}(h:MkInv m X B D)(t:Txt)(b:List UInt8)(hr:t.r.length≤1000000)(kind f u:Int)(wh:Bool):MkInv (Q1f t b kind f u wh m) (X++QL t b f u) (B+3) (D+3):=by
 unfold Q1f
 simp only
 generalize hm1:(if wh=false then Qw t 1 f u m else if (kind=8∨kind=9∨kind=10)∧(Qy t.r f u).right=false then Qw t 2 f u m else m)=m1
 have h1:MkInv m1 X B (D+1):=by
  rw[←hm1]
  split
  ·exact Q1e h t 1 f u
  ·split
   ·exact Q1e h t 2 f u
   ·exact h.mono (by omega) (by omega)
 split
 ·exact (Q9N h1 t b hr kind f u).mono (by omega) (by omega)
 ·split
  ·exact (Qea h1 t b kind f u).mono (by omega) (by omega)
  ·exact (Q7X h1 t b kind f u).mono (by omega) (by omega)
def Q4D (t:Txt)(b:List UInt8)(k:Int):List UInt8:=b.take (Q1s t k).toNat
theorem Q4q {t:Txt}{b:List UInt8}(ok:TxtOk t b){f u:Int}(h0:0≤f)(h1:f≤u)(h2:u≤t.r.length):Q4D t b f++QL t b f u=Q4D t b u:=by
 have hm:=ok.mono f.toNat u.toNat (by omega) (by omega)
 have hlen:=ok.len
 have hf:f.toNat<t.off.length:=by omega
 have h3:=ok.range (t.off[f.toNat]'hf) (List.getElem_mem hf)
 have e3:t.off[f.toNat]?.getD 0=t.off[f.toNat]:=by rw[List.getElem?_eq_getElem hf];rfl
 rw[←e3] at h3
 show b.take (t.off[f.toNat]?.getD 0).toNat++(b.drop (t.off[f.toNat]?.getD 0).toNat).take _=b.take (t.off[u.toNat]?.getD 0).toNat
 generalize t.off[f.toNat]?.getD 0=p at *
 generalize t.off[u.toNat]?.getD 0=q at *
 rw[show q.toNat=p.toNat+(q-p).toNat by omega,List.take_add]
theorem Q8q {t:Txt}{b:List UInt8}(ok:TxtOk t b):Q4D t b t.r.length=b:=by
 rw[Q4D,Q1s,Int.toNat_natCast,ok.last,Int.toNat_natCast,List.take_length]
def Q4F (t:Txt)(b:List UInt8)(m:Mk)(x:Tok):Mk:=Q1f t b x.kind x.from_ x.to x.whole m
theorem Q91 (l:List Int){k:Nat}(h:k<l.length):(QK l k).from_=k∧(QK l k).to=((Qv l k).2.1:Nat)∧k<(Qv l k).2.1∧(Qv l k).2.1≤l.length:=⟨rfl,rfl,Q1V l k h⟩
def Q6X (t:Txt)(b:List UInt8)(m:Mk):Mk :=
 let m1:=(Q14 t.r).foldl (Q4F t b) m
 missGo t t.r.length 0 m1.s.length m1
def Qp (m:Mk):Mk:=Q1a (QM m.n 20 (QB m.s).kids) m
end Go.Proofs.YtibemhahkicbpaaGreat
namespace Go.Proofs.YtibemhahkicbpaaGreat
open Go.RowKit Go.Lib
theorem Qes {l:List Node}(h:Wf l)(x:Node):∀ (f:Nat) (n:Int),0≤n→n<l.length→coF (l++[x]) f n=coF l f n
 |0,_,_,_=>rfl
 |f+1,n,h0,h1=>by
  simp only[coF,Q1S h0 h1]
  congr 2
  refine List.map_congr_left fun k hk=>?_
  have:=h n h0 h1 k hk
  exact Qes h x f k this.1 (by omega)
theorem Qk5 {l:List Node}(h:Wf l)(x:Node){n:Int}(h0:0≤n)(h1:n<l.length):co (l++[x]) n=co l n:=Qes h x _ n h0 h1
def coL (l:List Node)(ks:List Int):Nat:=(ks.map (co l)).sum
theorem Q5c {l:List Node}(h:Wf l)(x:Node){ks:List Int}(hk:InR l ks):coL (l++[x]) ks=coL l ks :=
 congrArg List.sum (List.map_congr_left fun k hk'=>Qk5 h x (hk k hk').1 (hk k hk').2)
theorem QaA {l:List Node}(h:Wf l){x:Node}(hx:InR l x.kids):co (l++[x]) l.length=1+coL l x.kids:=by
 rw[Q9v (Q8d h hx) (by omega) (by simp only[List.length_append,List.length_singleton];omega),Q1G]
 exact congrArg (1 + ·) (Q5c h x hx)
theorem Q7H (l:List Node)(a b:List Int):coL l (a++b)=coL l a+coL l b:=by simp[coL]
theorem Q7L (l:List Node)(k:Int):coL l [k]=co l k:=by simp[coL]
def coK (l:List Node)(s:List Opn):Nat:=(s.map fun x=>coL l x.kids).sum
theorem Q5j (l:List Node)(s:List Opn)(x:Opn):coK l (s++[x])=coK l s+coL l x.kids:=by simp[coK]
theorem Qar {l:List Node}(h:Wf l)(x:Node){s:List Opn}(hs:∀ y∈s,InR l y.kids):coK (l++[x]) s=coK l s :=
 congrArg List.sum (List.map_congr_left fun y hy=>Q5c h x (hs y hy))
def Q8T (m:Mk):Prop:=coK m.n m.s≤m.n.length
theorem QhX {m:Mk}(h:Q8T m)(nm:List Int):Q8T { m with s:=m.s++[⟨nm,[]⟩] }:=by
 show coK m.n (m.s++[⟨nm,[]⟩])≤_
 have h:coK m.n m.s≤m.n.length:=h
 rw[Q5j]
 simpa[coL] using h
theorem Q68 {m:Mk}{X:List UInt8}{B D:Nat}(h:MkInv m X B D)(hc:Q8T m)(kind:Int)(bs:List UInt8):Q8T (Q2g m.n.length (Q1a (Qj kind bs) m)):=by
 obtain⟨s0,hs0⟩:=Q1B h.s1
 generalize QB m.s=y at hs0
 have hr:=h.rng
 rw[hs0] at hr
 have hr0:∀ z∈s0,InR m.n z.kids:=fun z hz=>hr z (List.mem_append_left _ hz)
 have hry:InR m.n y.kids:=hr y (by simp)
 have hx:InR m.n (Qj kind bs).kids:=fun k hk=>by cases hk
 have hc:coK m.n m.s≤m.n.length:=hc
 rw[hs0,Q5j] at hc
 show coK (m.n++[Qj kind bs]) (Q1d m.n.length m.s)≤(m.n++[Qj kind bs]).length
 rw[hs0,Q1h,Q5j,Q7H,Q7L,Qar h.ar.wf _ hr0,Q5c h.ar.wf _ hry,QaA h.ar.wf hx]
 have:coL m.n (Qj kind bs).kids=0:=rfl
 rw[this]
 simp only[List.length_append,List.length_singleton]
 omega
theorem QdX {m:Mk}{X:List UInt8}{B D:Nat}(h:MkInv m X B D)(hc:Q8T m)(hs:2≤m.s.length)(kind:Int)(bs:List UInt8):Q8T (Q16 m.n.length (Q1a (Qj kind bs) m)):=by
 obtain⟨s1,hs1⟩:=Q1B h.s1
 generalize QB m.s=x at hs1
 have hl1:1≤s1.length:=by rw[hs1] at hs;simp at hs;omega
 obtain⟨s0,hs0⟩:=Q1B hl1
 generalize QB s1=y at hs0
 subst hs0
 have ha1:=(Q2O h.ar kind bs).1
 have hr:=h.rng
 rw[hs1] at hr
 have hr0:∀ z∈s0,InR m.n z.kids:=fun z hz=>hr z (List.mem_append_left _ (List.mem_append_left _ hz))
 have hry:InR m.n y.kids:=hr y (List.mem_append_left _ (by simp))
 have hrx:InR m.n x.kids:=hr x (by simp)
 have hx:InR m.n (Qj kind bs).kids:=fun k hk=>by cases hk
 have hks:InR (m.n++[Qj kind bs]) (x.kids++[(m.n.length:Int)]):=fun k hk=>by
  rcases List.mem_append.1 hk with hk|hk
  ·exact hrx.more _ k hk
  ·obtain rfl:k=(m.n.length:Int):=by simpa using hk
   simp;omega
 obtain⟨l1,hl⟩:=exq (m.n++[Qj kind bs])
 obtain⟨z,hz⟩:=exq (QM l1 21 (x.kids++[(m.n.length:Int)]))
 have e1:coL l1 (x.kids++[(m.n.length:Int)])=coL m.n x.kids+1:=by
  rw[hl,Q7H,Q7L,Q5c h.ar.wf _ hrx,QaA h.ar.wf hx];rfl
 have eT:QB (Q2g (m.n.length:Int) (Q1a (Qj kind bs) m)).s=⟨x.name,x.kids++[(m.n.length:Int)]⟩:=by
  show QB (Q1d m.n.length m.s)=_
  rw[hs1,Q1h,Q6x]
 have en:(Q16 m.n.length (Q1a (Qj kind bs) m)).n=l1++[z]:=by
  show (m.n++[Qj kind bs])++[QM (m.n++[Qj kind bs]) 21 (QB (Q2g (m.n.length:Int) (Q1a (Qj kind bs) m)).s).kids]=_
  rw[eT,←hl,←hz]
 have es:(Q16 m.n.length (Q1a (Qj kind bs) m)).s=s0++[⟨y.name,y.kids++[(l1.length:Int)]⟩]:=by
  show Q1d ((m.n++[Qj kind bs]).length:Int) ((Q1d m.n.length m.s).take ((Q1d m.n.length m.s).length-1))=_
  have e2:(Q1d m.n.length m.s).take ((Q1d m.n.length m.s).length-1)=s0++[y]:=by
   rw[hs1,Q1h,show (s0++[y]++[(⟨x.name,x.kids++[(m.n.length:Int)]⟩:Opn)]).length-1=(s0++[y]).length by simp]
   exact List.take_left
  rw[e2,Q1h,hl]
 rw[←hl] at ha1 hks
 have hzk:InR l1 z.kids:=by rw[hz];exact hks
 have hc:coK m.n m.s≤m.n.length:=hc
 rw[hs1,Q5j,Q5j] at hc
 have up0:coK (l1++[z]) s0=coK m.n s0:=by
  rw[Qar ha1.wf z (fun q hq=>by rw[hl];exact (hr0 q hq).more _),hl,Qar h.ar.wf _ hr0]
 have upy:coL (l1++[z]) y.kids=coL m.n y.kids:=by
  rw[Q5c ha1.wf z (by rw[hl];exact hry.more _),hl,Q5c h.ar.wf _ hry]
 have hll:l1.length=m.n.length+1:=by rw[hl];simp
 show coK (Q16 m.n.length (Q1a (Qj kind bs) m)).n (Q16 m.n.length (Q1a (Qj kind bs) m)).s≤(Q16 m.n.length (Q1a (Qj kind bs) m)).n.length
 rw[es,en,Q5j,Q7H,Q7L,up0,upy,QaA ha1.wf hzk]
 have ez:coL l1 z.kids=coL m.n x.kids+1:=by rw[hz];exact e1
 rw[ez]
 simp only[List.length_append,List.length_singleton]
 omega
structure MkI (m:Mk) (X:List UInt8) (B D:Nat):Prop where
 i:MkInv m X B D
 c:Q8T m
section
variable {m:Mk} {X:List UInt8} {B D:Nat}
theorem MkI.lk (h:MkI m X B D)(t:Txt)(b:List UInt8)(kind f u:Int):MkI (lkF t b kind f u m) (X++QL t b f u) (B+1) D:=⟨Q7X h.i t b kind f u,Q68 h.i h.c kind _⟩
theorem MkI.wrong (h:MkI m X B D)(t:Txt)(c f u:Int):MkI (Qw t c f u m) X B (D+1):=⟨Q1e h.i t c f u,h.c⟩
theorem MkI.start (h:MkI m X B D)(t:Txt)(b:List UInt8)(hr:t.r.length≤1000000)(kind f u:Int):MkI (QZ t b kind f u m) (X++QL t b f u) (B+3) (D+2):=by
 refine⟨Q9N h.i t b hr kind f u,?_⟩
 unfold QZ
 split
 ·exact ((h.wrong t 5 f u).lk t b kind f u).c
 ·exact Q68 (QbJ h.i (Qs t f u) (Nat.le_trans (Q8x t f u) hr)) (QhX h.c _) kind _
theorem MkI.miss (h:MkI m X B D)(hs:2≤m.s.length)(t:Txt)(a:Int):MkI (Q1Q t a m) X B D:=⟨(Q3D h.i hs t a).1,QdX (Q1e h.i t 4 a a) h.c hs 22 []⟩
end
theorem MkI.missGo (t:Txt)(f:Int)(k:Nat){X:List UInt8}{B D:Nat}:∀ (n:Nat) (m:Mk),MkI m X B D→k+1≤m.s.length→m.s.length≤n+k+1→MkI (missGo t f k n m) X B D∧(Go.Proofs.YtibemhahkicbpaaGreat.missGo t f k n m).s.length=k+1
 |0,m,h,h1,h2=>⟨h,by show m.s.length=_;omega⟩
 |n+1,m,h,h1,h2=>by
  show MkI (if _ then _ else _) X B D∧(if _ then _ else _:Mk).s.length=_
  split
  ·have h3:=Q3D h.i (by omega) t f
   exact MkI.missGo t f k n _ (h.miss (by omega) t f) (by omega) (by omega)
  ·exact⟨h,by omega⟩
section
variable {m:Mk} {X:List UInt8} {B D:Nat}
theorem MkI.end_ (h:MkI m X B D)(t:Txt)(b:List UInt8)(kind f u:Int):MkI (Q1Y t b kind f u m) (X++QL t b f u) (B+1) (D+1):=by
 refine⟨Qea h.i t b kind f u,?_⟩
 unfold Q1Y
 have h1:=h.i.s1
 have h2:=Q3M m.s (Qs t f u) (m.s.length-1)
 simp only
 split
 ·exact ((h.wrong t 3 f u).lk t b kind f u).c
 ·obtain⟨h3,h4⟩:=MkI.missGo t f (Q18 m.s (Qs t f u) (m.s.length-1)) m.s.length m h (by omega) (by omega)
  exact QdX h3.i h3.c (by omega) kind _
theorem MkI.token (h:MkI m X B D)(t:Txt)(b:List UInt8)(hr:t.r.length≤1000000)(kind f u:Int)(wh:Bool):MkI (Q1f t b kind f u wh m) (X++QL t b f u) (B+3) (D+3):=by
 refine⟨Qf4 h.i t b hr kind f u wh,?_⟩
 unfold Q1f
 simp only
 generalize hm1:(if wh=false then Qw t 1 f u m else if (kind=8∨kind=9∨kind=10)∧(Qy t.r f u).right=false then Qw t 2 f u m else m)=m1
 have h1:∃ D',MkI m1 X B D':=by
  rw[←hm1]
  split
  ·exact⟨_,h.wrong t 1 f u⟩
  ·split
   ·exact⟨_,h.wrong t 2 f u⟩
   ·exact⟨_,h⟩
 obtain⟨D',h1⟩:=h1
 split
 ·exact (h1.start t b hr kind f u).c
 ·split
  ·exact (h1.end_ t b kind f u).c
  ·exact (h1.lk t b kind f u).c
end
theorem Q7V {t:Txt}{b:List UInt8}(ok:TxtOk t b)(hr:t.r.length≤1000000):∀ (n k:Nat) (m:Mk) (B D:Nat),t.r.length-k≤n→k≤t.r.length→MkI m (Q4D t b k) B D →
  MkI ((Q1o t.r k).foldl (Q4F t b) m) b (B+3 * n) (D+3 * n)
 |0,k,m,B,D,h,hk,hi=>by
  rw[QU (by omega)]
  have:k=t.r.length:=by omega
  subst this
  rw[Q8q ok] at hi
  exact hi
 |n+1,k,m,B,D,h,hk,hi=>by
  by_cases hlt:k<t.r.length
  ·obtain⟨h1,h2,h3,h4⟩:=Q91 t.r hlt
   rw[Q1j hlt,List.foldl_cons]
   have:=hi.token t b hr (QK t.r k).kind (QK t.r k).from_ (QK t.r k).to (QK t.r k).whole
   rw[h1,h2,Q4q ok (by omega) (by omega) (by omega)] at this
   have h5:=Q7V ok hr n (Qv t.r k).2.1 _ (B+3) (D+3) (by omega) h4 this
   rw[show B+3 * (n+1)=B+3+3 * n by omega,show D+3 * (n+1)=D+3+3 * n by omega]
   have e:Q4F t b m (QK t.r k)=Q1f t b (QK t.r k).kind k ((Qv t.r k).2.1:Nat) (QK t.r k).whole m:=rfl
   rw[e]
   exact h5
  ·rw[QU hlt]
   have:k=t.r.length:=by omega
   subst this
   rw[Q8q ok] at hi
   exact⟨hi.i.mono (by omega) (by omega),hi.c⟩
theorem QaG {t:Txt}{b:List UInt8}(ok:TxtOk t b)(hr:t.r.length≤1000000){m:Mk}{B D:Nat}(hi:MkI m (Q4D t b 0) B D) :
  MkI (Q6X t b m) b (B+3 * t.r.length) (D+3 * t.r.length)∧(Q6X t b m).s.length=1:=by
 have h1:=Q7V ok hr t.r.length 0 m B D (by omega) (by omega) hi
 have h2:=h1.i.s1
 obtain⟨h3,h4⟩:=MkI.missGo t t.r.length 0 _ _ h1 (by omega) (Nat.le_succ _)
 exact⟨h3,h4⟩
theorem QbN {b:List UInt8}{m:Mk}{B D:Nat}(hi:MkI m b B D)(h1:m.s.length=1) :
  Ar (Qp m).n∧pr (Qp m).n m.n.length=b∧(Qe (Qp m).n m.n.length).width=b.length∧co (Qp m).n m.n.length≤1+m.n.length:=by
 have hk:=hi.i.top
 obtain⟨ha,hp⟩:=Q5l hi.i.ar 20 hk
 obtain⟨s0,hs0⟩:=Q1B hi.i.s1
 have hs:s0=[]:=by
  rw[hs0] at h1
  exact List.eq_nil_of_length_eq_zero (by simpa using h1)
 subst hs
 have hX:(QB m.s).kids.flatMap (pr m.n)=b:=by
  have:=hi.i.p
  rw[hs0] at this
  generalize QB m.s=y at *
  simpa[prK] using this
 have hC:coL m.n (QB m.s).kids≤m.n.length:=by
  have h2:coK m.n m.s≤m.n.length:=hi.c
  rw[hs0] at h2
  generalize QB m.s=y at *
  simpa[coK] using h2
 have hlen:(m.n.length:Int)<((Qp m).n.length:Int):=by
  show (m.n.length:Int)<((m.n++[_]).length:Int)
  simp only[List.length_append,List.length_singleton];omega
 have e2:pr (Qp m).n m.n.length=b:=by
  show pr (m.n++[_]) _=_
  rw[hp,hX]
 refine⟨ha,e2,?_,?_⟩
 ·have:=ha.wide m.n.length (by omega) hlen
  have e3:(Qe (Qp m).n m.n.length).width=((pr (Qp m).n m.n.length).length:Int):=this
  rw[e3,e2]
 ·show co (m.n++[QM m.n 20 (QB m.s).kids]) m.n.length≤_
  rw[QaA hi.i.ar.wf (x:=QM m.n 20 (QB m.s).kids) hk]
  have:coL m.n (QM m.n 20 (QB m.s).kids).kids≤m.n.length:=hC
  omega
end Go.Proofs.YtibemhahkicbpaaGreat
