/-
  Parts of the proof, joined: Yf. Conditions: as each theorem says.
-/
import Derived.Test.YthbjpdijafccjaaGreatQE22
import Derived.Test.YthbjpdijafccjaaGreatQE40
import Derived.Test.YthbjpdijafccjaaGreatQE13
set_option maxRecDepth 100000
set_option maxHeartbeats 8000000
namespace Go.Proofs.YthbjpdijafccjaaGreat
open Go.RowKit Go.Lib Tryz
def Qt (l:List (List Int)):List AV:=l.map fun x=>.val (.string (runesBytes x))
theorem Q3Z (l:List (List Int)):(Qt l).length=l.length:=by simp[Qt]
theorem Qcb (a b:List (List Int)):Qt (a++b)=Qt a++Qt b:=by simp[Qt]
def Q8F (e:Nat)(B:List AV)(K M:Int)(R O OP EV WR:List AV):List Ob :=
 [.box [.slc 1 B,.val (.int .i64 K),.val (.int .i64 M),.slc 1 R,.slc 1 O,.row 1 e,.row 2 e,.row 3 e],.row 9 1 false e OP,.row 47 3 false e EV,.row 49 3 false e WR]
def obR (e:Nat)(t:Txt)(b:List UInt8)(s:RSt):List Ob:=Q8F e (Q2 b) t.kind t.bom (Q0 t.r) (Q8 t.off) (Qt s.op) (QK s.ev) (QC s.wr)
def QmW (rk rf ru:Int)(ra:List AV)(rr re:Bool):Nat→List AV→List Ob→Option (AV×List Ob):=fun f _ _=>match f with
 |38=>some (.agg [.val (.int .i64 rk),.val (.int .i64 rf),.val (.int .i64 ru),.slc 9 ra,.val (.bool rr),.val (.bool re)],[])
 |_=>none
theorem QgC (t:Txt)(hl:t.r.length≤1000000)(hu:Un t.r)(f u:Int)(h0:0≤f)(h1:f≤u)(h2:u≤t.r.length)(kind:Int)(wh:Bool) :
  BCall prog 36 [.slc 1 (Q0 t.r),.agg [.val (.int .i64 kind),.val (.int .i64 f),.val (.int .i64 u),.val (.bool wh)]] [] (.val (.string (runesBytes (Qo t f u)))) []:=by
 have cR:=Qf7 t.r hl hu f u h0 h1 h2
 have hin:=Qfh t.r f u h0 h1 h2
 have hN:Qo t f u=(t.r.drop (QR t.r f u).name.from_.toNat).take ((QR t.r f u).name.to-(QR t.r f u).name.from_).toNat:=rfl
 rw[hN]
 obtain⟨T,hT⟩:=exq (QR t.r f u)
 rw[←hT] at cR hin ⊢
 rw[Q80] at cR
 obtain⟨rf,hrf⟩:=exq T.name.from_
 obtain⟨ru,hru⟩:=exq T.name.to
 rw[←hrf,←hru] at cR hin ⊢
 obtain⟨n,hn⟩:=Qy t.r
 have hin3:ru≤n:=by have:=hn.eq;omega
 obtain⟨hi0,hi1,hi2⟩:=hin
 clear hT hN hi2
 refine fnN (cs:=QmW T.name.kind rf ru (QI T.attrs) T.right T.empty) func36 rfl (by kernel_rfl) ?_
 intro w0 g0
 generalize hp:std=p,hk:T.name.kind=k,ha:QI T.attrs=a,hr:T.right=r,he:T.empty=e,hR:Q0 t.r=R
 generalize hT:Q5 p tys (QmW k rf ru a r e) _ _ _ _=T
 cbv at hT
 subst hT
 simp only[Tree.ok,Q1,S0]
 subst hp hk ha hr he hR
 have hlen:std.len (Q0 t.r)=n:=by show ((Q0 t.r).length:Int)=n;rw[Qi,hn.eq]
 have hcut:std.cut (Q0 t.r) rf ru=Q0 ((t.r.drop rf.toNat).take (ru-rf).toNat):=by
  show ((Q0 t.r).drop rf.toNat).take (ru-rf).toNat=_
  simp[Q0,List.map_drop,List.map_take]
 refine⟨cR,?_,?_,.pure rfl (.inl ?_)⟩
 ·show 0≤rf∧rf≤ru∧ru≤std.len (Q0 t.r)
  rw[hlen];exact⟨hi0,hi1,hin3⟩
 ·show (std.isR (std.cut (Q0 t.r) rf ru)).q
  rw[hcut]
  exact fun x hx=>by
   obtain⟨y,_,rfl⟩:=List.mem_map.1 hx
   exact⟨y,rfl⟩
 ·show AV.val (.string (runesBytes ((std.cut (Q0 t.r) rf ru).map intOf)))=_
  rw[hcut,Q3O]
theorem Q5D (t:Txt)(b:List UInt8)(s:RSt)(hd:s.wr.length≤1000000)(c f u:Int)(hf:0≤f∧f<t.off.length)(hu:0≤u∧u<t.off.length) :
  BCall prog 37 [.box 0 0,.val (.int .i64 c),.val (.int .i64 f),.val (.int .i64 u)] (obR 0 t b s) (.tup []) (obR 1 t b (Q2F t c f u s)):=by
 have olen:=Q26 t.off
 have af:=Q2r (l:=t.off) (i:=f) hf.1 hf.2
 have au:=Q2r (l:=t.off) (i:=u) hu.1 hu.2
 have dlen:=Q8T s.wr
 unfold obR Q8F
 refine fnN (cs:=cs0) func37 rfl (by kernel_rfl) ?_
 intro w0 g0
 generalize hp:std=p,hD:QC s.wr=D,hS:Qt s.op=S,hE:QK s.ev=E,hB:Q2 b=B,hR:Q0 t.r=R,hO:Q8 t.off=O,hK:t.kind=K,hM:t.bom=M
 generalize hT:Q5 p tys (cs0) _ _ _ _=T
 cbv at hT
 subst hT
 simp only[Tree.ok,Q1,S0]
 subst hp hD hS hE hB hR hO hK hM
 have ef:(Q8 t.off).getD f.toNat .dead=.val (.int .i64 (Q1x t f)):=by rw[List.getD_eq_getElem?_getD];exact af
 have eu:(Q8 t.off).getD u.toNat .dead=.val (.int .i64 (Q1x t u)):=by rw[List.getD_eq_getElem?_getD];exact au
 have hb:∀ x,std.bnd (QC s.wr) [x]:=fun x=>by show (QC s.wr).length+1≤1000000000;omega
 have fin:∀ x,x=AV.agg [.val (.int .i64 (Q1x t f)),.val (.int .i64 (Q1x t u)),.val (.int .i64 c)]→std.app (QC s.wr) [x]=QC (Q2F t c f u s).wr:=fun x hx=>by
  rw[hx]
  show QC s.wr++_=List.map _ (_++_)
  rw[List.map_append];rfl
 have fin2:=fin _ (show AV.agg [.val (.int .i64 (std.int (std.nth (std.cel (std.at_ (Q8 t.off) f)) 0))),.val (.int .i64 (std.int (std.nth (std.cel (std.at_ (Q8 t.off) u)) 0))),.val (.int .i64 c)]=_ by
  show AV.agg [.val (.int .i64 (intOf ((((Q8 t.off).getD f.toNat .dead).cells).getD 0 .dead))),.val (.int .i64 (intOf ((((Q8 t.off).getD u.toNat .dead).cells).getD 0 .dead))),.val (.int .i64 c)]=_
  rw[ef,eu];rfl)
 have hc:∀ x:Int,(Q8 t.off).getD x.toNat .dead=.val (.int .i64 (Q1x t x))→std.all [std.hasI .i64 (std.nth (std.cel (std.at_ (Q8 t.off) x)) 0)]:=fun x hx=>by
  show (((Q8 t.off).getD x.toNat .dead).cells).getD 0 .dead=.val (.int .i64 (intOf ((((Q8 t.off).getD x.toNat .dead).cells).getD 0 .dead)))∧True
  rw[hx];exact⟨rfl,trivial⟩
 have hin:∀ x:Int,0≤x∧x<t.off.length→std.inb x (std.len (Q8 t.off)):=fun x hx=>by
  show 0≤x∧x<((Q8 t.off).length:Int)
  rw[olen];exact hx
 refine⟨hin f hf,hc f ef,hin u hu,hc u eu,hb _,?_⟩
 refine⟨[some 0,some 1,some 2,some 3],.tup [],_,rfl,rfl,Nat.le_refl _,rfl,?_,trivial⟩
 simp[Qe]
 exact⟨rfl,rfl,fin2⟩
theorem Q5v (t:Txt)(b:List UInt8)(hs:Sml t b)(s:RSt)(hd:s.ev.length≤1000000)(kind f u:Int)(wh:Bool)(hi:InT t f u) :
  BCall prog 41 [.box 0 0,.agg [.val (.int .i64 kind),.val (.int .i64 f),.val (.int .i64 u),.val (.bool wh)]] (obR 0 t b s) (.tup []) (obR 1 t b (Q1V t b kind f u s)):=by
 obtain⟨hf,hu⟩:=hi.off hs
 have olen:=Q26 t.off
 have af:=Q2r (l:=t.off) (i:=f) hf.1 hf.2
 have au:=Q2r (l:=t.off) (i:=u) hu.1 hu.2
 have dlen:=Q69 s.ev
 have hp:=QeB hs.ok hi.h0 hi.h1 hi.h2
 have q0:=hp.h0
 have q1:=hp.h1
 have q2:=hp.h2
 have blen:=Q10 b
 unfold obR Q8F
 refine fnN (cs:=cs0) func41 rfl (by kernel_rfl) ?_
 intro w0 g0
 generalize hp:std=p,hD:QC s.wr=D,hS:Qt s.op=S,hE:QK s.ev=E,hB:Q2 b=B,hR:Q0 t.r=R,hO:Q8 t.off=O,hK:t.kind=K,hM:t.bom=M
 generalize hT:Q5 p tys (cs0) _ _ _ _=T
 cbv at hT
 subst hT
 simp only[Tree.ok,Q1,S0]
 subst hp hD hS hE hB hR hO hK hM
 have ef:(Q8 t.off).getD f.toNat .dead=.val (.int .i64 (Q1x t f)):=by rw[List.getD_eq_getElem?_getD];exact af
 have eu:(Q8 t.off).getD u.toNat .dead=.val (.int .i64 (Q1x t u)):=by rw[List.getD_eq_getElem?_getD];exact au
 have hb:∀ x,std.bnd (QK s.ev) [x]:=fun x=>by show (QK s.ev).length+1≤1000000000;omega
 have xf:std.int (std.nth (std.cel (std.at_ (Q8 t.off) f)) 0)=Q1x t f:=by
  show intOf ((((Q8 t.off).getD f.toNat .dead).cells).getD 0 .dead)=_
  rw[ef];rfl
 have xu:std.int (std.nth (std.cel (std.at_ (Q8 t.off) u)) 0)=Q1x t u:=by
  show intOf ((((Q8 t.off).getD u.toNat .dead).cells).getD 0 .dead)=_
  rw[eu];rfl
 have hc:∀ x:Int,(Q8 t.off).getD x.toNat .dead=.val (.int .i64 (Q1x t x))→std.all [std.hasI .i64 (std.nth (std.cel (std.at_ (Q8 t.off) x)) 0)]:=fun x hx=>by
  show (((Q8 t.off).getD x.toNat .dead).cells).getD 0 .dead=.val (.int .i64 (intOf ((((Q8 t.off).getD x.toNat .dead).cells).getD 0 .dead)))∧True
  rw[hx];exact⟨rfl,trivial⟩
 have hin:∀ x:Int,0≤x∧x<t.off.length→std.inb x (std.len (Q8 t.off)):=fun x hx=>by
  show 0≤x∧x<((Q8 t.off).length:Int)
  rw[olen];exact hx
 refine⟨hin f hf,hc f ef,hin u hu,hc u eu,?_,hb _,?_⟩
 ·show (std.cutok (std.int (std.nth (std.cel (std.at_ (Q8 t.off) f)) 0)) (std.int (std.nth (std.cel (std.at_ (Q8 t.off) u)) 0)) (std.len (Q2 b))).q
  rw[xf,xu]
  show 0≤Q1x t f∧Q1x t f≤Q1x t u∧Q1x t u≤((Q2 b).length:Int)
  rw[blen];exact⟨q0,q1,q2⟩
 refine⟨[some 0,some 1,some 2,some 3],.tup [],_,rfl,rfl,Nat.le_of_ble_eq_true rfl,rfl,?_,trivial⟩
 have e:std.cut (Q2 b) (Q1x t f) (Q1x t u)=Q2 (Q13 t b f u):=by
  show ((Q2 b).drop _).take _=Q2 ((b.drop _).take _)
  simp[Q2,List.map_drop,List.map_take,Q1x]
 have e9:QK s.ev++[AV.agg [.val (.int .i64 2),.val (.int .i64 kind),.slc 1 (std.cut (Q2 b) (std.int (std.nth (std.cel (std.at_ (Q8 t.off) f)) 0)) (std.int (std.nth (std.cel (std.at_ (Q8 t.off) u)) 0)))]]=QK (Q1V t b kind f u s).ev:=by
  rw[xf,xu,e]
  show QK s.ev++_=QK (s.ev++_)
  rw[Q7H];rfl
 simp[Qe]
 exact⟨rfl,e9,rfl⟩
def Qmo (OP EV WR:List AV):Nat→List AV→List Ob→Option (AV×List Ob):=fun f _ ob=>match f with
 |37=>match ob with
  | [.box [B,K,M,R,O,.row 1 0,.row 2 0,.row 3 0],_,_,_]=>some (.tup [],[.box [B,K,M,R,O,.row 1 1,.row 2 1,.row 3 1],.row 9 1 false 1 OP,.row 47 3 false 1 EV,.row 49 3 false 1 WR])
  |_=>none
 |_=>none
theorem Qay (t:Txt)(b:List UInt8)(s:RSt)(hd:s.wr.length≤1000000)(he:s.ev.length≤1000000)(a:Int)(ha:0≤a∧a<t.off.length)(hs:1≤s.op.length)(hs2:s.op.length≤1000000) :
  BCall prog 42 [.box 0 0,.val (.int .i64 a)] (obR 0 t b s) (.tup []) (obR 1 t b (Q2j t a s)):=by
 have cW:=Q5D t b s hd 4 a a ha ha
 have slen:=Q3Z s.op
 have elen:=Q69 s.ev
 have e1:(Q2F t 4 a a s).wr=(Q2j t a s).wr:=rfl
 unfold obR Q8F at cW ⊢
 rw[e1] at cW
 obtain⟨L,hL⟩:=Qy s.op
 have hL1:1≤L∧L≤1000000:=by have:=hL.eq;omega
 refine fnN (cs:=Qmo (Qt s.op) (QK s.ev) (QC (Q2j t a s).wr)) func42 rfl (by kernel_rfl) ?_
 intro w0 g0
 generalize hp:std=p,hD:QC s.wr=D,hS:Qt s.op=S,hE:QK s.ev=E,hW:QC (Q2j t a s).wr=W,hB:Q2 b=B,hR:Q0 t.r=R,hO:Q8 t.off=O,hK:t.kind=K,hM:t.bom=M
 generalize hT:Q5 p tys (Qmo S E W) _ _ _ _=T
 cbv at hT
 subst hT
 simp only[Tree.ok,Q1,S0]
 subst hp hD hS hE hW hB hR hO hK hM
 have hlen:std.len (Qt s.op)=L:=by show ((Qt s.op).length:Int)=L;rw[slen,hL.eq]
 refine⟨cW,?_,?_,?_,?_⟩
 ·show (QK s.ev).length+2≤1000000000
  omega
 ·show (-9223372036854775808:Int)≤std.len (Qt s.op)-1∧std.len (Qt s.op)-1≤(9223372036854775807:Int)
  rw[hlen];omega
 ·show 0≤(0:Int)∧0≤std.len (Qt s.op)-1∧std.len (Qt s.op)-1≤std.len (Qt s.op)
  rw[hlen];omega
 refine⟨[some 0,some 1,some 2,some 3],.tup [],_,rfl,rfl,Nat.le_of_ble_eq_true rfl,rfl,?_,trivial⟩
 have eo:std.cut (Qt s.op) 0 (std.len (Qt s.op)-1)=Qt (Q2j t a s).op:=by
  rw[hlen]
  show ((Qt s.op).drop 0).take (L-1-0).toNat=Qt (s.op.take (s.op.length-1))
  have:=hL.eq
  rw[List.drop_zero,show (L-1-0).toNat=s.op.length-1 by omega]
  simp[Qt,List.map_take]
 have ee:QK s.ev++[AV.agg [.val (.int .i64 2),.val (.int .i64 22),.val (.slice none 0 0)],.agg [.val (.int .i64 3),.val (.int .i64 0),.val (.slice none 0 0)]]=QK (Q2j t a s).ev:=by
  show _=QK (s.ev++_)
  rw[Q7H];rfl
 simp[Qe]
 exact⟨eo,ee⟩
theorem Qix {op:List (List Int)}{nm:List Int}{i:Int}(h:0≤i):Q3q op nm (i+1).toNat=if op[i.toNat]?.getD []=nm then i else Q3q op nm i.toNat:=by
 rw[show (i+1).toNat=i.toNat+1 by omega]
 show (if _ then ((i.toNat:Nat):Int) else _)=_
 rw[Int.toNat_of_nonneg h]
theorem QdT (t:Txt)(b:List UInt8)(s:RSt)(hw:∀ x∈s.op,∀ r∈x,0<Qw r)(hs2:s.op.length≤1000000)(nm:List Int)(hn:∀ r∈nm,0<Qw r) :
  BCall prog 69 [.box 0 0,.val (.string (runesBytes nm))] (obR 0 t b s) (.val (.int .i64 (Q3q s.op nm s.op.length))) (obR 1 t b s):=by
 have slen:=Q3Z s.op
 unfold obR Q8F
 obtain⟨L,hL⟩:=Qy s.op
 have hL1:0≤L∧L≤1000000:=by have:=hL.eq;omega
 obtain⟨F,hF⟩:=exq (Q3q s.op nm s.op.length)
 rw[←hF]
 obtain⟨NS,hNS⟩:=exq (runesBytes nm)
 rw[←hNS]
 refine fnN (cs:=cs0) func69 rfl (by kernel_rfl) ?_
 intro w0 g0
 generalize hp:std=p,hD:QC s.wr=D,hS:Qt s.op=S,hE:QK s.ev=E,hB:Q2 b=B,hR:Q0 t.r=R,hO:Q8 t.off=O,hK:t.kind=K,hM:t.bom=M
 generalize hT:Q5 p tys (cs0) _ _ _ _=T
 cbv at hT
 subst hT
 simp only[Tree.ok,Q1,S0]
 subst hp hD hS hE hB hR hO hK hM
 have hlen:std.len (Qt s.op)=L:=by show ((Qt s.op).length:Int)=L;rw[slen,hL.eq]
 refine⟨?_,?_⟩
 ·show (-9223372036854775808:Int)≤std.len (Qt s.op)-1∧std.len (Qt s.op)-1≤(9223372036854775807:Int)
  rw[hlen];omega
 have hlen1:std.sub (std.len (Qt s.op)) 1=L-1:=by rw[hlen];rfl
 refine Q1r (cs:=cs0) (by kernel_rfl) (X:=Int) (fun i=>⟨[(0,.box 0 0),(1,.val (.string NS)),(5,.val (.int .i64 i))],[.box [.slc 1 (Q2 b),.val (.int .i64 t.kind),.val (.int .i64 t.bom),.slc 1 (Q0 t.r),.slc 1 (Q8 t.off),.row 1 0,.row 2 0,.row 3 0],.row 9 1 false 0 (Qt s.op),.row 47 3 false 0 (QK s.ev),.row 49 3 false 0 (QC s.wr)]⟩) (fun i=>-1≤i∧i≤L-1∧Q3q s.op nm (i+1).toNat=F) (fun i=>(i+1).toNat) (L-1) ?_ ?_ ?_
 ·exact⟨by omega,Int.le_refl _,by have:=hL.eq;rw[hF,show (L-1+1).toNat=s.op.length by omega]⟩
 ·refine⟨[some 0,some 1,some 2,some 3],_,rfl,?_⟩
  repeat first
   |exact trivial
   |refine⟨rfl,?_⟩
   |refine⟨hlen1,?_⟩
   |refine⟨gI (hlen1),?_⟩
   |refine⟨gA (hlen1),?_⟩
   |refine⟨gB (hlen1),?_⟩
   |refine⟨gR (hlen1),?_⟩
   |refine⟨gT (hlen1),?_⟩
 ·rintro i ⟨hi0,hi1,hi2⟩
  rcases Int.lt_or_eq_of_le hi0 with hlt|heq
  ·have hi3:0≤i:=by omega
   rw[Qix hi3] at hi2
   have hil:i.toNat<s.op.length:=by have:=hL.eq;omega
   have hx:(Qt s.op)[i.toNat]?.getD .dead=.val (.string (runesBytes (s.op[i.toNat]?.getD []))):=by
    rw[Qt,List.getElem?_map,List.getElem?_eq_getElem hil];rfl
   have hxw:∀ r∈s.op[i.toNat]?.getD [],0<Qw r:=by
    rw[List.getElem?_eq_getElem hil];exact hw _ (List.getElem_mem hil)
   obtain⟨X,hX⟩:=exq (s.op[i.toNat]?.getD [])
   rw[←hX] at hi2 hx hxw
   obtain⟨XS,hXS⟩:=exq (runesBytes X)
   have hE:std.eqS XS NS=decide (X=nm):=by rw[hXS,hNS];exact Qjz hxw hn
   rw[←hXS] at hx
   clear hX hXS
   generalize hp:std=p,hD:QC s.wr=D,hS:Qt s.op=S,hE:QK s.ev=E,hB:Q2 b=B,hR:Q0 t.r=R,hO:Q8 t.off=O,hK:t.kind=K,hM:t.bom=M
   generalize hT:Q5 p tys (cs0) _ _ _ _=T
   cbv at hT
   subst hT
   simp only[Tree.ok,Q1,S0]
   subst hp hD hS hE hB hR hO hK hM
   have hx':(Qt s.op).getD i.toNat .dead=.val (.string XS):=by rw[List.getD_eq_getElem?_getD];exact hx
   have hS:std.str (std.nth (std.cel (std.at_ (Qt s.op) i)) 0)=XS:=by
    show Q9k ((((Qt s.op).getD i.toNat .dead).cells).getD 0 .dead)=_
    rw[hx'];rfl
   have hQ:std.hasS (std.nth (std.cel (std.at_ (Qt s.op) i)) 0):=by
    show (((Qt s.op).getD i.toNat .dead).cells).getD 0 .dead=.val (.string (Q9k ((((Qt s.op).getD i.toNat .dead).cells).getD 0 .dead)))
    rw[hx'];rfl
   refine⟨fun _=>⟨?_,⟨hQ,trivial⟩,fun heq=>?_,fun hne=>⟨?_,i-1,⟨by omega,by omega,?_⟩,by omega,[some 0,some 1,some 2,some 3],_,rfl,?_⟩⟩,fun h=>?_⟩
   ·show 0≤i∧i<std.len (Qt s.op)
    rw[hlen];omega
   ·have heq:std.eqS (std.str (std.nth (std.cel (std.at_ (Qt s.op) i)) 0)) NS=true:=heq
    rw[hS,hE] at heq
    have heq:=of_decide_eq_true heq
    rw[if_pos heq] at hi2
    rw[←hi2]
    refine⟨[some 0,some 1,some 2,some 3],.val (.int .i64 i),_,rfl,rfl,Nat.le_of_ble_eq_true rfl,rfl,?_,.inl rfl⟩
    simp[Qe]
   ·show (-9223372036854775808:Int)≤i-1∧i-1≤(9223372036854775807:Int)
    omega
   ·have hne:std.eqS (std.str (std.nth (std.cel (std.at_ (Qt s.op) i)) 0)) NS=false:=hne
    rw[hS,hE] at hne
    have hne:=of_decide_eq_false hne
    rw[if_neg hne] at hi2
    rw[show (i-1+1).toNat=i.toNat by omega];exact hi2
   ·simp[Qe,lk,std]
   ·have h:decide ((0:Int)≤i)=false:=h
    exact absurd hi3 (of_decide_eq_false h)
  ·have hi2:(-1:Int)=F:=by rw[←hi2,←heq];rfl
   rw[←heq,←hi2]
   generalize hp:std=p,hD:QC s.wr=D,hS:Qt s.op=S,hE:QK s.ev=E,hB:Q2 b=B,hR:Q0 t.r=R,hO:Q8 t.off=O,hK:t.kind=K,hM:t.bom=M
   generalize hT:Q5 p tys (cs0) _ _ _ _=T
   cbv at hT
   subst hT
   simp only[Tree.ok,Q1,S0]
   subst hp hD hS hE hB hR hO hK hM
   refine⟨fun h=>?_,fun _=>?_⟩
   ·have h:decide ((0:Int)≤-1)=true:=h
    simp at h
   ·rw[if_pos trivial]
    generalize hp:std=p,hD:QC s.wr=D,hS:Qt s.op=S,hE:QK s.ev=E,hB:Q2 b=B,hR:Q0 t.r=R,hO:Q8 t.off=O,hK:t.kind=K,hM:t.bom=M
    generalize hT:Q5 p tys cs0 _ _ _ _=T
    cbv at hT
    subst hT
    simp only[Tree.ok,Q1,S0]
    subst hp hD hS hE hB hR hO hK hM
    refine⟨[some 0,some 1,some 2,some 3],.val (.int .i64 (-1)),_,rfl,rfl,Nat.le_of_ble_eq_true rfl,rfl,?_,.inl rfl⟩
    simp[Qe]
end Go.Proofs.YthbjpdijafccjaaGreat
