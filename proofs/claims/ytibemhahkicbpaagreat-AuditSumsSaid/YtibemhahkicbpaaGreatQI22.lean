/-
  Parts of the proof, joined: ClA ClB ClP ClM ClC Ug Uh Of Og Ye. Conditions: as each theorem says.
-/
import Derived.Test.YtibemhahkicbpaaGreatQI21
import Derived.Test.YtibemhahkicbpaaGreatQI05
import Derived.Test.YtibemhahkicbpaaGreatQI02
import Derived.Test.YtibemhahkicbpaaGreatQI12
import Derived.Test.YtibemhahkicbpaaGreatQI14
set_option maxRecDepth 100000
set_option maxHeartbeats 8000000
namespace Go.Proofs.YtibemhahkicbpaaGreat
open Go.RowKit Go.Lib Tryz
def QhN (pc:List AV):Nat→List AV→List Ob→Option (AV×List Ob):=fun f args _=>match f,args with
 |48,[.val (.int .i64 _),.slc 1 _]=>some (.slc 3 pc,[])
 |_,_=>none
def Q1F (kind:Int)(b:List UInt8):List Int:=(Q4E kind b).map Itm.r
theorem QiL (kind:Int)(b:List UInt8)(hb:b.length≤1000000)(hp:(Q4E kind b).length≤1000000):BCall prog 150 [.val (.int .i64 kind),.slc 1 (Q5 b)] [] (.slc 1 (Q1 (Q1F kind b))) []:=by
 have cP:=Q8X kind b (by omega)
 obtain⟨ps,hps⟩:=exq (Q4E kind b)
 unfold Q1F
 rw[←hps] at cP hp ⊢
 obtain⟨n,hn⟩:=QX ps
 have hlen:std.len (QS ps)=n:=by show ((QS ps).length:Int)=n;rw[Q4a,hn.eq]
 have en:=hn.eq
 refine fnN (cs:=QhN (QS ps)) func150 rfl (by kernel_rfl) ?_
 intro w0 g0
 generalize hp:std=p,hpc:QS ps=pc,hB:Q5 b=B
 generalize hT:Q8 p tys (QhN pc) _ _ _ _=T
 cbv at hT
 subst hT
 simp only[Tree.ok,Q4,S0]
 subst hp hpc hB
 refine⟨cP,?_⟩
 refine Q1P (cs:=QhN (QS ps)) (by kernel_rfl) (X:=Int) (fun k=>⟨[(5,.row 0 0),(10,.slc 3 (QS ps)),(11,.val (.int .i64 n)),(12,.val (.int .i64 k))],[.row 21 1 false 0 (Q1 ((ps.take k.toNat).map Itm.r))]⟩) (fun k=>0≤k∧k≤n) (fun k=>(n-k).toNat) 0 ?_ ?_ ?_
 ·have:=hn.eq
  exact⟨Int.le_refl 0,by omega⟩
 ·refine⟨[none],_,rfl,?_⟩
  have e1:Q1 ((ps.take (0:Int).toNat).map Itm.r)=[]:=rfl
  rw[e1]
  repeat first
   |exact trivial
   |refine⟨rfl,?_⟩
   |refine⟨gI hlen,?_⟩
   |refine⟨gI (gI hlen),?_⟩
   |refine⟨gA (gI hlen),?_⟩
   |refine⟨gB (gI hlen),?_⟩
   |refine⟨gR (gI hlen),?_⟩
   |refine⟨gT (gI hlen),?_⟩
 ·rintro k ⟨hk0,hk1⟩
  have hk0:0≤k:=hk0
  have hk1:k≤n:=hk1
  clear en
  generalize hp:std=p,hpc:QS ps=pc,hB:Q5 b=B,hRA:Q1 ((ps.take k.toNat).map Itm.r)=RA
  generalize hT:Q8 p tys (QhN pc) _ _ _ _=T
  cbv at hT
  subst hT
  simp only[Tree.ok,Q4,S0]
  subst hp hpc hB hRA
  have en:=hn.eq
  refine⟨fun h=>?_,fun h=>?_⟩
  ·have h:k<n:=of_decide_eq_true h
   have hk:k.toNat<ps.length:=by omega
   have hat:(QS ps).getD k.toNat .dead=ps[k.toNat].av:=by
    rw[List.getD_eq_getElem?_getD,QS,List.getElem?_map,List.getElem?_eq_getElem hk];rfl
   have e1:Q1 ((ps.take (k+1).toNat).map Itm.r)=Q1 ((ps.take k.toNat).map Itm.r)++[.val (.int .i32 ps[k.toNat].r)]:=by
    rw[show (k+1).toNat=k.toNat+1 by omega,List.take_add_one,List.getElem?_eq_getElem hk,List.map_append,Qaf];rfl
   have hl:(Q1 ((ps.take k.toNat).map Itm.r)).length≤1000000:=by rw[Q13,List.length_map,List.length_take];omega
   have hw:∀ i:Nat,AV.cells ps[k.toNat].av=[.val (.int .i32 ps[k.toNat].r),.val (.int .i64 ps[k.toNat].off),.val (.int .i64 ps[k.toNat].n)]:=fun _=>rfl
   have ha:std.cel (std.at_ (QS ps) k)=[.val (.int .i32 ps[k.toNat].r),.val (.int .i64 ps[k.toNat].off),.val (.int .i64 ps[k.toNat].n)]:=by
    show AV.cells ((QS ps).getD k.toNat .dead)=_
    rw[hat];rfl
   have h0:std.hasI .i32 (std.nth (std.cel (std.at_ (QS ps) k)) 0):=by rw[ha];rfl
   have h1:std.hasI .i64 (std.nth (std.cel (std.at_ (QS ps) k)) 1):=by rw[ha];rfl
   have h2:std.hasI .i64 (std.nth (std.cel (std.at_ (QS ps) k)) 2):=by rw[ha];rfl
   have hx:std.int (std.nth (std.cel (std.at_ (QS ps) k)) 0)=ps[k.toNat].r:=by rw[ha];rfl
   rw[←hx] at e1
   refine⟨?_,⟨h0,h1,h2,trivial⟩,?_,?_,k+1,⟨by omega,by omega⟩,by omega,[some 0],_,rfl,?_⟩
   ·show 0≤k∧k<std.len (QS ps)
    rw[hlen];omega
   ·show (Q1 ((ps.take k.toNat).map Itm.r)).length+1≤1000000000
    omega
   ·show (-9223372036854775808:Int)≤k+1∧k+1≤(9223372036854775807:Int)
    omega
   ·have e1:std.app (Q1 ((ps.take k.toNat).map Itm.r)) [.val (.int .i32 (std.int (std.nth (std.cel (std.at_ (QS ps) k)) 0)))]=Q1 ((ps.take (k+1).toNat).map Itm.r):=e1.symm
    repeat first
     |exact trivial
     |refine⟨rfl,?_⟩
     |refine⟨e1,?_⟩
     |refine⟨gI (e1),?_⟩
     |refine⟨gA (e1),?_⟩
     |refine⟨gB (e1),?_⟩
     |refine⟨gR (e1),?_⟩
     |refine⟨gT (e1),?_⟩
  ·have h:¬ k<n:=of_decide_eq_false h
   rw[if_pos trivial,show ps.take k.toNat=ps from List.take_of_length_le (by omega)]
   clear en
   generalize hp:std=p,hpc:QS ps=pc,hB:Q5 b=B,hRA:Q1 (ps.map Itm.r)=RA
   generalize hT:Q8 p tys (QhN pc) _ _ _ _=T
   cbv at hT
   subst hT
   simp only[Tree.ok,Q4,S0]
   subst hp hpc hB hRA
   exact .pure rfl (.inl rfl)
def Ql8 (pr ru:Int→List AV)(n:Int):Nat→List AV→List Ob→Option (AV×List Ob):=fun f args _=>match f,args with
 |59,[.ref [.slc 6 _],.val (.int .i64 n)]=>some (.slc 1 (pr n),[])
 |150,[.val (.int .i64 _),.slc 1 _]=>some (.slc 1 (ru n),[])
 |_,_=>none
def trO:OT:=.then [0,1,3,4,5] (.fork (.of [2,6,7,8]) (.of [6,2,7,8]))
def ruN (kind:Int)(l:List Node)(n:Int):List Int:=Q1F kind (pr l n)
def ruA (kind:Int)(l:List Node)(n:Int):List AV:=Q1 (ruN kind l n)
theorem QfY (t:Txt)(m:Mk)(n:Int)(h:PrOk (Qp m).n n)(hp:(Q4E t.kind (pr (Qp m).n n)).length≤1000000):BCall prog 125 [Q5H t m,.val (.int .i64 n)] [] (.slc 1 (Q1 (ruN t.kind (Qp m).n n))) []:=by
 have cP:=Qjo (Qp m).n h.len h.wf h.wide n h.h0 h.h1 h.p h.c
 have cR:=QiL t.kind (pr (Qp m).n n) h.p hp
 obtain⟨rt,hrt⟩:=exq (m.n.length:Int)
 obtain⟨l,hl⟩:=exq ((Qp m).n)
 unfold Q5H
 rw[←hrt,←hl]
 rw[←hl] at cP cR
 clear h hp
 have cP:BCall prog 59 [.ref [.slc 6 (Q0 l)],.val (.int .i64 n)] [] (.slc 1 (prA l n)) []:=cP
 have cR:BCall prog 150 [.val (.int .i64 t.kind),.slc 1 (prA l n)] [] (.slc 1 (ruA t.kind l n)) []:=cR
 show BCall _ _ _ _ (.slc 1 (ruA t.kind l n)) _
 refine fnO false (cs:=Ql8 (prA l) (ruA t.kind l) n) (ord:=fun id=>match id with|1=> trO|_=>.nil) func125 rfl (by kernel_rfl) ?_
 intro w0 g0
 generalize hp:std=p
 generalize hpr:prA l=pr
 generalize hru:ruA t.kind l=ru
 generalize hN:Q0 l=N
 generalize hR:Q1 t.r=R
 generalize hO:Q9 t.off=O
 generalize hD':Qz m.d=D'
 generalize hK:t.kind=K
 generalize hM:t.bom=M
 generalize hT:Q8 p tys (Ql8 pr ru n) _ _ _ _=T
 cbv at hT
 subst hT
 simp only[Tree.ok,Q4,S0]
 subst hp hpr hru hN hR hO hD' hK hM
 exact⟨⟨cP,cR,.pure rfl (.inl rfl)⟩,cP,cR,.pure rfl (.inl rfl)⟩
end Go.Proofs.YtibemhahkicbpaaGreat
namespace Go.Proofs.YtibemhahkicbpaaGreat
open Go.RowKit Go.Lib
theorem Q7q (l:List UInt8)(h:(Ql l).1≠-1):0<QQ (Ql l).1:=by
 have h':¬ ((decodeL l).1=65533∧(decodeL l).2=1):=fun hh=>h (by rw[Ql,if_pos hh])
 rw[Ql,if_neg h']
 show 0<QQ ((decodeL l).1:Int)
 clear h
 rw[decodeL_N] at h' ⊢
 have k0:=(l.getD 0 0).toNat_lt
 have k1:=(l.getD 1 0).toNat_lt
 have k2:=(l.getD 2 0).toNat_lt
 have k3:=(l.getD 3 0).toNat_lt
 rcases decodeN_shape l.length (l.getD 0 0).toNat (l.getD 1 0).toNat (l.getD 2 0).toNat (l.getD 3 0).toNat with ⟨c,e⟩|⟨c1,c2,c3,cv,e⟩|⟨c1,c2,c3,c4,cv,cs,e⟩|⟨c1,c2,c3,c4,c5,cv,cw,e⟩|e
 all_goals (rw[e] at h' ⊢;dsimp only at h' ⊢)
 all_goals (try (exact absurd ⟨rfl,rfl⟩ h'))
 all_goals (unfold QQ;repeat' split)
 all_goals omega
theorem QcL (l:List UInt8)(n:Nat)(hne:l≠[])(hn:(Ql l).2≤n):Ql (l.take n)=Ql l:=by
 by_cases h:(Ql l).1=-1
 ·have h2:Ql l=(-1,1):=by
   unfold Ql at h ⊢
   split
   ·rfl
   ·rename_i h3
    rw[if_neg h3] at h
    simp only at h
    omega
  have h1:1≤n:=by rw[h2] at hn;exact hn
  have hne2:l.take n≠[]:=by
   intro h3
   rcases List.take_eq_nil_iff.1 h3 with h3|h3
   ·omega
   ·exact hne h3
  by_cases h3:(Ql (l.take n)).1=-1
  ·rw[h2]
   unfold Ql at h3 ⊢
   split
   ·rfl
   ·rename_i h4
    rw[if_neg h4] at h3
    simp only at h3
    omega
  ·have g:=Q4W _ hne2 h3
   have hle:=Q6Y _ hne2
   refine absurd ⟨l.drop (Ql (l.take n)).2,?_⟩ (Qd6 l h _ (Q7q _ h3))
   rw[←g,List.take_take,Nat.min_eq_left (by rw[List.length_take] at hle;omega),List.take_append_drop]
 ·have g:=Q4W _ hne h
  have hw:=Q7q _ h
  have e:l.take n=encodeRune (Ql l).1++(l.drop (Ql l).2).take (n-(Ql l).2):=by
   rw[←g,←List.drop_take]
   conv=>lhs;rw[←List.take_append_drop (Ql l).2 (l.take n),List.take_take,Nat.min_eq_left hn]
  have e2:l=encodeRune (Ql l).1++l.drop (Ql l).2:=by rw[←g,List.take_append_drop]
  rw[e,Q4n _ hw]
  conv=>rhs;rw[e2,Q4n _ hw]
theorem Q73 (big:Bool)(x y:UInt8):(Q17 big [x,y]).2=2:=by
 unfold Q17;simp only;split<;>rfl
theorem Qfs (big:Bool)(l:List UInt8)(n:Nat)(hne:l≠[])(h:(Q17 big l).2≤n):Q17 big (l.take n)=Q17 big l:=by
 match l,hne with
 | [x],_ =>
  have h:(1:Int)≤n:=h
  rw[List.take_of_length_le (by simp;omega)]
 | [x,y],_ =>
  rw[Q73] at h
  rw[List.take_of_length_le (by simp;omega)]
 | [x,y,z],_ =>
  have e:Q17 big [x,y,z]=Q17 big [x,y]:=rfl
  rw[e,Q73] at h
  by_cases h2:n=2
  ·subst h2;rfl
  ·rw[List.take_of_length_le (by simp;omega)]
 |x::y::x2::y2::r,_ =>
  have e:Q17 big (x::y::x2::y2::r)=if (55296≤QR big x y∧QR big x y<56320)∧(56320≤QR big x2 y2∧QR big x2 y2<57344) then (65536+(QR big x y-55296) * 1024+(QR big x2 y2-56320),4) else Q17 big [x,y]:=rfl
  by_cases hC:(55296≤QR big x y∧QR big x y<56320)∧(56320≤QR big x2 y2∧QR big x2 y2<57344)
  ·rw[e,if_pos hC] at h ⊢
   have h:(4:Int)≤n:=h
   obtain⟨m,rfl⟩:∃ m,n=m+4:=⟨n-4,by omega⟩
   show Q17 big (x::y::x2::y2::r.take m)=_
   exact if_pos hC
  ·rw[e,if_neg hC] at h ⊢
   rw[Q73] at h
   by_cases h2:n=2
   ·subst h2;rfl
   ·by_cases h3:n=3
    ·subst h3;rfl
    ·obtain⟨m,rfl⟩:∃ m,n=m+4:=⟨n-4,by omega⟩
     show Q17 big (x::y::x2::y2::r.take m)=_
     exact if_neg hC
def Q1E (kind:Int)(l:List UInt8):Int×Nat:=if kind=0 then Ql l else ((Q17 (decide (kind=1)) l).1,(Q17 (decide (kind=1)) l).2.toNat)
theorem Q5f (kind:Int)(l:List UInt8)(hne:l≠[]):1≤(Q1E kind l).2∧(Q1E kind l).2≤l.length:=by
 unfold Q1E
 split
 ·exact⟨Q6g l,Q6Y l hne⟩
 ·have:=Q6E (decide (kind=1)) l hne
  simp only
  omega
theorem Qfn (kind:Int)(l:List UInt8)(n:Nat)(hne:l≠[])(h:(Q1E kind l).2≤n):Q1E kind (l.take n)=Q1E kind l:=by
 unfold Q1E at h ⊢
 split
 ·rename_i hk
  rw[if_pos hk] at h
  exact QcL l n hne h
 ·rename_i hk
  rw[if_neg hk] at h
  simp only at h
  rw[Qfs _ l n hne (by omega)]
def Qcs (kind:Int)(n off:Nat)(l:List UInt8):List Itm:=if kind=0 then (Q1u n off l).map Qe6 else if kind=1 then Q1M true off l else if kind=2 then Q1M false off l else []
theorem Q45 (kind:Int)(n off:Nat):Qcs kind n off []=[]:=by
 unfold Qcs
 rw[Q2E,Q1M,dif_pos rfl,Q1M,dif_pos rfl]
 simp
theorem Qai (big:Bool)(off:Nat){l:List UInt8}(hne:l≠[]):Q1M big off l=⟨(Q17 big l).1,(off:Int),((Q17 big l).2.toNat:Int)⟩::Q1M big ((off+(Q17 big l).2.toNat:Nat):Int) (l.drop (Q17 big l).2.toNat):=by
 have:=Q6E big l hne
 have e1:((Q17 big l).2.toNat:Int)=(Q17 big l).2:=Int.toNat_of_nonneg (by omega)
 have e2:((off+(Q17 big l).2.toNat:Nat):Int)=(off:Int)+(Q17 big l).2:=by rw[Int.natCast_add,e1]
 rw[e2,e1]
 conv=>lhs;rw[Q1M,dif_neg hne]
theorem Q7a {kind:Int}(hk:kind=0∨kind=1∨kind=2){l:List UInt8}(hne:l≠[])(n off:Nat):Qcs kind (n+1) off l=⟨(Q1E kind l).1,off,(Q1E kind l).2⟩::Qcs kind n (off+(Q1E kind l).2) (l.drop (Q1E kind l).2):=by
 rcases hk with rfl|rfl|rfl
 ·obtain⟨b,t,rfl⟩:=List.exists_cons_of_ne_nil hne
  rfl
 ·exact Qai true off hne
 ·exact Qai false off hne
theorem Qb9 {kind:Int}(hk:kind=0∨kind=1∨kind=2):∀ (n off:Nat) (l:List UInt8),l.length≤n→(Qcs kind n off l).length≤l.length
 |0,off,l,h=>by
  obtain rfl:l=[]:=List.eq_nil_of_length_eq_zero (by omega)
  rw[Q45];exact Nat.le_refl _
 |n+1,off,l,h=>by
  by_cases hne:l=[]
  ·subst hne
   rw[Q45];exact Nat.le_refl _
  ·have hs:=Q5f kind l hne
   have ih:=Qb9 hk n (off+(Q1E kind l).2) (l.drop (Q1E kind l).2) (by rw[List.length_drop];omega)
   rw[List.length_drop] at ih
   rw[Q7a hk hne,List.length_cons]
   omega
theorem QgN {kind:Int}(hk:kind=0∨kind=1∨kind=2)(l:List UInt8):(Q4E kind l).length≤l.length:=Qb9 hk l.length 0 l (Nat.le_refl _)
def wdK (kind:Int):Nat→List UInt8→Nat
 |0,_=>0
 |j+1,l=>if l=[] then 0 else (Q1E kind l).2+wdK kind j (l.drop (Q1E kind l).2)
def rnK (kind:Int):Nat→List UInt8→List Int
 |0,_=>[]
 |n+1,l=>if l=[] then [] else (Q1E kind l).1::rnK kind n (l.drop (Q1E kind l).2)
theorem Q6M (kind:Int)(j:Nat):wdK kind j []=0:=by cases j<;>rfl
theorem Q3Q (kind:Int)(n:Nat):rnK kind n []=[]:=by cases n<;>rfl
theorem Qgf {kind:Int}(hk:kind=0∨kind=1∨kind=2):∀ (n off:Nat) (l:List UInt8),l.length≤n→(Qcs kind n off l).map Itm.r=rnK kind n l
 |0,off,l,h=>by
  obtain rfl:l=[]:=List.eq_nil_of_length_eq_zero (by omega)
  rw[Q45];rfl
 |n+1,off,l,h=>by
  by_cases hne:l=[]
  ·subst hne
   rw[Q45];rfl
  ·have hs:=Q5f kind l hne
   rw[Q7a hk hne,rnK,if_neg hne,List.map_cons,Qgf hk n _ _ (by rw[List.length_drop];omega)]
theorem QbQ {kind:Int}(hk:kind=0∨kind=1∨kind=2):∀ (n off:Nat) (l:List UInt8),l.length≤n→∀ j,j≤(Qcs kind n off l).length→((Qcs kind n off l).map Itm.off++[((off+l.length:Nat):Int)])[j]?=some ((off+wdK kind j l:Nat):Int)
 |0,off,l,h,j,hj=>by
  obtain rfl:l=[]:=List.eq_nil_of_length_eq_zero (by omega)
  rw[Q45] at hj ⊢
  obtain rfl:j=0:=by simpa using hj
  rfl
 |n+1,off,l,h,j,hj=>by
  by_cases hne:l=[]
  ·subst hne
   rw[Q45] at hj ⊢
   obtain rfl:j=0:=by simpa using hj
   rfl
  ·have hs:=Q5f kind l hne
   rw[Q7a hk hne] at hj ⊢
   cases j with
   |zero=>rfl
   |succ j =>
    have ih:=QbQ hk n (off+(Q1E kind l).2) (l.drop (Q1E kind l).2) (by rw[List.length_drop];omega) j (by simpa using hj)
    rw[List.length_drop,show off+(Q1E kind l).2+(l.length-(Q1E kind l).2)=off+l.length by omega] at ih
    rw[wdK,if_neg hne,←Nat.add_assoc,←ih]
    rfl
theorem Q8l (kind:Int):∀ (n m:Nat) (l:List UInt8),l.length≤n→l.length≤m→rnK kind n l=rnK kind m l
 |0,m,l,h,_=>by
  obtain rfl:l=[]:=List.eq_nil_of_length_eq_zero (by omega)
  rw[Q3Q,Q3Q]
 |n+1,0,l,_,h=>by
  obtain rfl:l=[]:=List.eq_nil_of_length_eq_zero (by omega)
  rw[Q3Q,Q3Q]
 |n+1,m+1,l,h1,h2=>by
  by_cases hne:l=[]
  ·subst hne;rfl
  ·have hs:=Q5f kind l hne
   rw[rnK,rnK,if_neg hne,if_neg hne,Q8l kind n m _ (by rw[List.length_drop];omega) (by rw[List.length_drop];omega)]
theorem QbU (kind:Int):∀ (n j:Nat) (l:List UInt8),l.length≤n→rnK kind n (l.take (wdK kind j l))=(rnK kind n l).take j
 |0,j,l,h=>by
  obtain rfl:l=[]:=List.eq_nil_of_length_eq_zero (by omega)
  rw[Q6M];simp[rnK]
 |n+1,j,l,h=>by
  by_cases hne:l=[]
  ·subst hne
   rw[Q6M,Q3Q];simp[Q3Q]
  ·have hs:=Q5f kind l hne
   cases j with
   |zero=>rfl
   |succ j =>
    have ih:=QbU kind n j (l.drop (Q1E kind l).2) (by rw[List.length_drop];omega)
    rw[wdK,if_neg hne]
    have hne2:l.take ((Q1E kind l).2+wdK kind j (l.drop (Q1E kind l).2))≠[]:=by
     intro h3
     rcases List.take_eq_nil_iff.1 h3 with h3|h3
     ·omega
     ·exact hne h3
    rw[rnK,if_neg hne2,Qfn kind l _ hne (by omega),List.drop_take,show (Q1E kind l).2+wdK kind j (l.drop (Q1E kind l).2)-(Q1E kind l).2=wdK kind j (l.drop (Q1E kind l).2) by omega,ih,rnK,if_neg hne]
    rfl
theorem Qcw (kind:Int):∀ (n j:Nat) (l:List UInt8),l.length≤n→rnK kind n (l.drop (wdK kind j l))=(rnK kind n l).drop j
 |0,j,l,h=>by
  obtain rfl:l=[]:=List.eq_nil_of_length_eq_zero (by omega)
  rw[Q6M];simp[rnK]
 |n+1,j,l,h=>by
  by_cases hne:l=[]
  ·subst hne
   rw[Q6M,Q3Q];simp[Q3Q]
  ·have hs:=Q5f kind l hne
   cases j with
   |zero=>rfl
   |succ j =>
    have ih:=Qcw kind n j (l.drop (Q1E kind l).2) (by rw[List.length_drop];omega)
    rw[wdK,if_neg hne,←List.drop_drop,Q8l kind (n+1) n _ (by rw[List.length_drop,List.length_drop];omega) (by rw[List.length_drop,List.length_drop];omega),ih]
    conv=>rhs;rw[rnK,if_neg hne]
    rfl
theorem QdY (kind:Int):∀ (f g:Nat) (l:List UInt8),wdK kind (f+g) l=wdK kind f l+wdK kind g (l.drop (wdK kind f l))
 |0,g,l=>by rw[Nat.zero_add];show _=0+wdK kind g (l.drop 0);rw[Nat.zero_add,List.drop_zero]
 |f+1,g,l=>by
  by_cases hne:l=[]
  ·subst hne;simp[Q6M]
  ·rw[show f+1+g=(f+g)+1 by omega,wdK,if_neg hne,wdK,if_neg hne,QdY kind f g,List.drop_drop]
   omega
theorem Q9H {kind:Int}(hk:kind=0∨kind=1∨kind=2)(l:List UInt8):Q1F kind l=rnK kind l.length l:=Qgf hk l.length 0 l (Nat.le_refl _)
theorem Qe0 (b:List UInt8){j:Nat}(hj:j≤(Q6 b).r.length):Q1s (Q6 b) j=((QI b).2.toNat+wdK (QI b).1 j (b.drop (QI b).2.toNat):Nat):=by
 have hb:=Q4b b
 have hj2:j≤(Q2S b).length:=by
  have:(Q6 b).r.length=(Q2S b).length:=List.length_map _
  omega
 have h:=QbQ (Q4S b) (b.drop (QI b).2.toNat).length 0 (b.drop (QI b).2.toNat) (Nat.le_refl _) j hj2
 have h:((Q2S b).map Itm.off++[((0+(b.drop (QI b).2.toNat).length:Nat):Int)])[j]?=some ((0+wdK (QI b).1 j (b.drop (QI b).2.toNat):Nat):Int):=h
 rw[Nat.zero_add,Nat.zero_add,List.length_drop,show ((b.length-(QI b).2.toNat:Nat):Int)=(b.length:Int)-(QI b).2 by omega] at h
 show ((Q6 b).off[(j:Int).toNat]?.getD 0:Int)=_
 rw[Qcm,Int.toNat_natCast,List.getElem?_map,h]
 show (_+_:Int)=_
 rw[Int.natCast_add,Int.toNat_of_nonneg hb.1,Int.add_comm]
theorem Qct (b:List UInt8){f u:Int}(h0:0≤f)(h1:f≤u)(h2:u≤(Q6 b).r.length):Q1F (Q6 b).kind (QL (Q6 b) b f u)=((Q6 b).r.drop f.toNat).take (u-f).toNat:=by
 obtain⟨i,rfl⟩:=Int.eq_ofNat_of_zero_le h0
 obtain⟨g,rfl⟩:∃ g:Nat,u=((i+g:Nat):Int):=⟨(u-i).toNat,by omega⟩
 obtain⟨c,hc⟩:=exq (b.drop (QI b).2.toNat)
 have e1:((Q6 b).off[(i:Int).toNat]?.getD 0:Int)=_:=Qe0 b (j:=i) (by omega)
 have e2:((Q6 b).off[((i+g:Nat):Int).toNat]?.getD 0:Int)=_:=Qe0 b (j:=i+g) (by omega)
 have hr:(Q6 b).r=rnK (QI b).1 c.length c:=by rw[hc];exact Q9H (Q4S b) _
 have hs:QL (Q6 b) b i ((i+g:Nat):Int)=(c.drop (wdK (QI b).1 i c)).take (wdK (QI b).1 g (c.drop (wdK (QI b).1 i c))):=by
  unfold QL
  rw[e1,e2,←hc,Int.toNat_natCast,QdY,←List.drop_drop,←hc]
  congr 1
  omega
 rw[hs,hr,show (((i+g:Nat):Int)-(i:Int)).toNat=g by omega,Int.toNat_natCast]
 show Q1F (QI b).1 _=_
 rw[Q9H (Q4S b),Q8l _ _ c.length _ (Nat.le_refl _) (by rw[List.length_take,List.length_drop];omega),QbU _ _ _ _ (by rw[List.length_drop];omega),Qcw _ _ _ _ (Nat.le_refl _)]
def shP (d:Int)(x:TPart):TPart:=⟨x.kind,x.from_+d,x.to+d⟩
theorem Q2P {r:List Int}(h:r≠[])(a:Int)(first:Bool):Qt a first r=⟨(Qr r first).1,a,a+(Qr r first).2⟩::Qt (a+(Qr r first).2) false (r.drop (Qr r first).2.toNat):=by
 conv=>lhs;rw[Qt,dif_neg h]
theorem Q8C (d:Int):∀ (n:Nat) (r:List Int) (a:Int) (first:Bool),r.length≤n→Qt (a+d) first r=(Qt a first r).map (shP d)
 |0,r,a,first,h=>by
  obtain rfl:r=[]:=List.eq_nil_of_length_eq_zero (by omega)
  rw[Qt,dif_pos rfl,Qt,dif_pos rfl];rfl
 |n+1,r,a,first,h=>by
  by_cases hr:r=[]
  ·rw[Qt,dif_pos hr,Qt,dif_pos hr];rfl
  ·have hn:=Q3g r first hr
   have ih:=Q8C d n (r.drop (Qr r first).2.toNat) (a+(Qr r first).2) false (by rw[List.length_drop];omega)
   rw[Q2P hr,Q2P hr,List.map_cons,←ih,shP,show a+d+(Qr r first).2=a+(Qr r first).2+d by omega]
theorem Qgu (d:Int)(ps:List TPart)(a:Nat)(ks:List Int):QG (ps.map (shP d)) a ks=QG ps a ks:=by
 unfold QG
 rw[←List.map_drop,←List.map_take,List.map_map]
 rfl
theorem Q88 (ps:List TPart):(Q1w ps).name=if QG ps 0 [1,2]=true then ps[1]?.getD Qu else Qu:=by
 unfold Q1w
 split
 ·simp only
  split
  ·rfl
  ·rfl
 ·rfl
def Q6n (r:List Int):List Int:=Qs ⟨0,0,r,[]⟩ 0 r.length
theorem Q8a (t:Txt){f u:Int}(h0:0≤f)(h1:f≤u)(h2:u≤t.r.length):Q6n ((t.r.drop f.toNat).take (u-f).toNat)=Qs t f u:=by
 obtain⟨s,hs⟩:=exq ((t.r.drop f.toNat).take (u-f).toNat)
 have hsl:(s.length:Int)=u-f:=by rw[hs,List.length_take,List.length_drop];omega
 have hs2:(t.r.take u.toNat).drop f.toNat=s:=by rw[hs,List.drop_take];congr 1;omega
 have e1:Q12 s 0 s.length=Qt 0 true s:=by
  unfold Q12
  rw[Int.toNat_natCast,List.take_length];rfl
 have e2:Q12 t.r f u=(Qt 0 true s).map (shP f):=by
  unfold Q12
  rw[hs2]
  have:=Q8C f s.length s 0 true (Nat.le_refl _)
  rw[Int.zero_add] at this
  exact this
 rw[←hs]
 unfold Q6n Qs Qy
 rw[e1,e2,Q88,Q88,Qgu]
 obtain⟨ps,hps⟩:=exq (Qt 0 true s)
 rw[←hps]
 split
 ·rename_i ht
  have hl:=((Q1K (Nat.zero_le _)).1 ht).1
  have hl:2≤ps.length:=by simpa using hl
  have hin:∀ x∈ps,_:=fun x hx=>Q4t s s.length s 0 true (Nat.le_refl _) x (by rw[←hps];exact hx)
  rw[List.getElem?_map,List.getElem?_eq_getElem (show 1<ps.length by omega)]
  have hp:=hin ps[1] (List.getElem_mem _)
  show (s.drop ps[1].from_.toNat).take (ps[1].to-ps[1].from_).toNat=(t.r.drop (ps[1].from_+f).toNat).take ((ps[1].to+f)-(ps[1].from_+f)).toNat
  rw[hs,List.drop_take,List.drop_drop,List.take_take,show (ps[1].from_+f).toNat=f.toNat+ps[1].from_.toNat by omega,show min (ps[1].to-ps[1].from_).toNat ((u-f).toNat-ps[1].from_.toNat)=((ps[1].to+f)-(ps[1].from_+f)).toNat by omega]
 ·rfl
theorem Qda {r:Int}(h:QP r=true):0<QQ r:=by
 have key:∀ x∈startSp,0≤x.1∧x.2≤1114111∧(x.2<55296∨57343<x.1):=by decide
 obtain⟨x,hx,hr⟩:=List.any_eq_true.1 (show startSp.any (fun x=>decide (x.1≤r)&&decide (r≤x.2))=true from h)
 have hk:=key x hx
 simp only[Bool.and_eq_true,decide_eq_true_eq] at hr
 unfold QQ
 repeat' split
 all_goals omega
theorem Qah (t:Txt){f u:Int}(h0:0≤f)(h1:f≤u)(h2:u≤t.r.length)(hne:Qs t f u≠[]):f+2≤u∧∃ r0 rs,Qs t f u=r0::rs∧QP r0=true:=by
 obtain⟨s,hs⟩:=exq ((t.r.drop f.toNat).take (u-f).toNat)
 have hsl:(s.length:Int)=u-f:=by rw[hs,List.length_take,List.length_drop];omega
 have hloc:=Q8a t h0 h1 h2
 rw[←hs] at hloc
 rw[←hloc] at hne ⊢
 have e1:Q12 s 0 s.length=Qt 0 true s:=by
  unfold Q12
  rw[Int.toNat_natCast,List.take_length];rfl
 have en:Q6n s=(s.drop (Q1w (Qt 0 true s)).name.from_.toNat).take ((Q1w (Qt 0 true s)).name.to-(Q1w (Qt 0 true s)).name.from_).toNat:=by
  have e2:Qy s 0 s.length=Q1w (Qt 0 true s):=by rw[Qy,e1]
  show (s.drop (Qy s 0 s.length).name.from_.toNat).take ((Qy s 0 s.length).name.to-(Qy s 0 s.length).name.from_).toNat=_
  rw[e2]
 rw[Q88] at en
 split at en
 ·rename_i ht
  have ht2:=(Q1K (Nat.zero_le _)).1 ht
  have hl:2≤(Qt 0 true s).length:=by simpa using ht2.1
  have hk2:((Qt 0 true s)[1]?.getD Qu).kind=2:=ht2.2 1 (by decide)
  have hs0:s≠[]:=by
   intro h
   rw[h,Qt,dif_pos rfl] at hl
   simp at hl
  have hn0:=Q3g s true hs0
  rw[Q2P hs0] at hl hk2 en
  obtain⟨x,hx⟩:=exq (s.drop (Qr s true).2.toNat)
  rw[←hx] at hl hk2 en
  have hx0:x≠[]:=by
   intro h
   rw[h,Qt,dif_pos rfl] at hl
   simp at hl
  have hn1:=Q3g x false hx0
  rw[Q2P hx0] at hk2 en
  have hk2:(Qr x false).1=2:=hk2
  have en:Q6n s=(s.drop (0+(Qr s true).2).toNat).take ((0+(Qr s true).2+(Qr x false).2)-(0+(Qr s true).2)).toNat:=en
  rw[show (0+(Qr s true).2).toNat=(Qr s true).2.toNat by omega,←hx,show ((0+(Qr s true).2+(Qr x false).2)-(0+(Qr s true).2)).toNat=(Qr x false).2.toNat by omega] at en
  have hxl:x.length=s.length-(Qr s true).2.toNat:=by rw[hx,List.length_drop]
  have hlead:0<Q10 x 0:=by
   unfold Qr at hk2
   rw[if_neg (by simp),if_neg (by simp)] at hk2
   split at hk2
   ·simp at hk2
   ·split at hk2
    ·rename_i h;omega
    ·split at hk2
     ·simp at hk2
     ·split at hk2
      ·simp at hk2
      ·split at hk2<;>simp at hk2
  obtain⟨r0,rs,rfl⟩:=List.exists_cons_of_ne_nil hx0
  have hst:QP r0=true:=by
   by_cases hq:QP r0=true
   ·exact hq
   ·have:Q10 (r0::rs) 0=0:=by show (if QP r0 then _ else 0)=0;rw[if_neg hq]
    omega
  refine⟨by simp only[List.length_cons] at hxl;omega,r0,rs.take ((Qr (r0::rs) false).2.toNat-1),?_,hst⟩
  rw[en]
  obtain⟨q,hq⟩:∃ q,(Qr (r0::rs) false).2.toNat=q+1:=⟨_,(Nat.sub_add_cancel (by omega)).symm⟩
  rw[hq];rfl
 ·exact absurd en (by intro h;rw[h] at hne;exact hne rfl)
end Go.Proofs.YtibemhahkicbpaaGreat
namespace Go.Proofs.YtibemhahkicbpaaGreat
open Go.RowKit Go.Lib
def elM (l:List Node)(x:Node):Bool:=decide (x.kind=21)&&decide (QD l (x.kids.getLast?.getD (-1))=22)
def n01 (b:Bool):Nat:=if b then 1 else 0
def cmF (l:List Node):Nat→Int→Nat
 |0,_=>0
 |f+1,n=>n01 (elM l (Qe l n))+((Qe l n).kids.map (cmF l f)).sum
def cm (l:List Node)(n:Int):Nat:=cmF l (n.toNat+1) n
theorem Qc5 {l:List Node}(hw:Wf l):∀ (f f':Nat) (n:Int),0≤n→n<l.length→n.toNat<f→n.toNat<f'→cmF l f n=cmF l f' n
 |0,_,_,_,_,h,_=>by omega
 |_+1,0,_,_,_,_,h=>by omega
 |f+1,f'+1,n,h0,h1,h2,h3=>by
  simp only[cmF]
  congr 2
  refine List.map_congr_left fun k hk=>?_
  have:=hw n h0 h1 k hk
  exact Qc5 hw f f' k this.1 (by omega) (by omega) (by omega)
theorem QkX {l:List Node}(hw:Wf l){n:Int}(h0:0≤n)(h1:n<l.length):cm l n=n01 (elM l (Qe l n))+((Qe l n).kids.map (cm l)).sum:=by
 show cmF l (n.toNat+1) n=_
 simp only[cmF]
 congr 2
 refine List.map_congr_left fun k hk=>?_
 have:=hw n h0 h1 k hk
 exact Qc5 hw _ _ k this.1 (by omega) (by omega) (by omega)
theorem Q4U {l:List Node}{x:Node}{n:Int}(h0:0≤n)(h1:n<l.length):QD (l++[x]) n=QD l n:=by unfold QD;rw[Q1S h0 h1]
theorem Q4T {l:List Node}{x:Node}:QD (l++[x]) l.length=x.kind:=by unfold QD;rw[Q1G]
theorem Qhb (l:List Node):QD l (-1)=0:=by unfold QD;rw[Q4j (by omega)];rfl
theorem Qeq {l:List Node}{x:Node}(hx:InR l x.kids)(z:Node):elM (l++[z]) x=elM l x:=by
 unfold elM
 cases h:x.kids.getLast? with
 |none=>simp only[Option.getD_none,Qhb]
 |some k =>
  have:=hx k (List.mem_of_getLast? h)
  simp only[Option.getD_some,Q4U this.1 this.2]
theorem Qec {l:List Node}(h:Wf l)(x:Node):∀ (f:Nat) (n:Int),0≤n→n<l.length→cmF (l++[x]) f n=cmF l f n
 |0,_,_,_=>rfl
 |f+1,n,h0,h1=>by
  have hr:InR l (Qe l n).kids:=fun k hk=>by have:=h n h0 h1 k hk;omega
  simp only[cmF,Q1S h0 h1,Qeq hr]
  congr 2
  refine List.map_congr_left fun k hk=>?_
  have:=hr k hk
  exact Qec h x f k this.1 this.2
theorem Qk7 {l:List Node}(h:Wf l)(x:Node){n:Int}(h0:0≤n)(h1:n<l.length):cm (l++[x]) n=cm l n:=Qec h x _ n h0 h1
def cmL (l:List Node)(ks:List Int):Nat:=(ks.map (cm l)).sum
theorem Q5y {l:List Node}(h:Wf l)(x:Node){ks:List Int}(hk:InR l ks):cmL (l++[x]) ks=cmL l ks :=
 congrArg List.sum (List.map_congr_left fun k hk'=>Qk7 h x (hk k hk').1 (hk k hk').2)
theorem Qhw {l:List Node}(h:Wf l){x:Node}(hx:InR l x.kids):cm (l++[x]) l.length=n01 (elM l x)+cmL l x.kids:=by
 rw[QkX (Q8d h hx) (by omega) (by simp only[List.length_append,List.length_singleton];omega),Q1G,Qeq hx]
 exact congrArg (n01 (elM l x) + ·) (Q5y h x hx)
theorem Q7N (l:List Node)(a b:List Int):cmL l (a++b)=cmL l a+cmL l b:=by simp[cmL]
theorem Q7F (l:List Node)(k:Int):cmL l [k]=cm l k:=by simp[cmL]
def cmK (l:List Node)(s:List Opn):Nat:=(s.map fun x=>cmL l x.kids).sum
theorem Q5s (l:List Node)(s:List Opn)(x:Opn):cmK l (s++[x])=cmK l s+cmL l x.kids:=by simp[cmK]
theorem Q7J {l:List Node}(h:Wf l)(x:Node){s:List Opn}(hs:∀ y∈s,InR l y.kids):cmK (l++[x]) s=cmK l s :=
 congrArg List.sum (List.map_congr_left fun y hy=>Q5y h x (hs y hy))
theorem QhA (l:List Node){kind:Int}(hk:kind≠21)(bs:List UInt8):elM l (Qj kind bs)=false:=by
 unfold elM
 rw[decide_eq_false (show ¬ (Qj kind bs).kind=21 from hk)];rfl
theorem Qja (l:List Node)(kind:Int)(bs:List UInt8):InR l (Qj kind bs).kids:=fun k hk=>by cases hk
theorem QaY {l:List Node}(h:Wf l){kind:Int}(hk:kind≠21)(bs:List UInt8):cm (l++[Qj kind bs]) l.length=0:=by
 rw[Qhw h (Qja l kind bs),QhA l hk];rfl
def Qhi (nm:List Int):Prop:=∃ r0 rs,nm=r0::rs∧QP r0=true
def nmN (K:Int)(l:List Node)(n:Int):List Int:=Q6n (Q1F K (pr l n))
structure StOk (K:Int) (l:List Node) (y:Opn) (k0:Int) (r:List Int):Prop where
 k:y.kids=k0::r
 s:QD l k0=8
 n:nmN K l k0=y.name
 l:Qhi y.name
structure ElIs (K:Int) (l:List Node) (ks:List Int) (k0:Int) (r:List Int) (kl:Int):Prop where
 k:ks=k0::(r++[kl])
 s:QD l k0=8
 ld:Qhi (nmN K l k0)
 e:QD l kl=22∨(QD l kl=10∧nmN K l kl=nmN K l k0)
def QcZ (K:Int)(l:List Node)(n:Int):Prop:=QD l n=21→∃ k0 r kl,ElIs K l (Qe l n).kids k0 r kl
theorem Qat (K:Int){l:List Node}(h:Wf l)(x:Node){n:Int}(h0:0≤n)(h1:n<l.length):nmN K (l++[x]) n=nmN K l n:=by unfold nmN;rw[Q8F h x h0 h1]
theorem StOk.old {K:Int}{l:List Node}(h:Wf l){y:Opn}{k0:Int}{r:List Int}(hr:InR l y.kids)(hs:StOk K l y k0 r)(x:Node):StOk K (l++[x]) y k0 r:=by
 have:=hr k0 (by rw[hs.k];simp)
 exact⟨hs.k,by rw[Q4U this.1 this.2];exact hs.s,by rw[Qat K h x this.1 this.2];exact hs.n,hs.l⟩
theorem ElIs.old {K:Int}{l:List Node}(h:Wf l){ks:List Int}{k0:Int}{r:List Int}{kl:Int}(hr:InR l ks)(hs:ElIs K l ks k0 r kl)(x:Node):ElIs K (l++[x]) ks k0 r kl:=by
 have h1:=hr k0 (by rw[hs.k];simp)
 have h2:=hr kl (by rw[hs.k];simp)
 refine⟨hs.k,?_,?_,?_⟩
 ·rw[Q4U h1.1 h1.2];exact hs.s
 ·rw[Qat K h x h1.1 h1.2];exact hs.ld
 ·rw[Q4U h2.1 h2.2,Qat K h x h1.1 h1.2,Qat K h x h2.1 h2.2];exact hs.e
theorem QjU {K:Int}{l:List Node}(h:Wf l){n:Int}(h0:0≤n)(h1:n<l.length)(he:QcZ K l n)(x:Node):QcZ K (l++[x]) n:=fun hk=>by
 rw[Q4U h0 h1] at hk
 obtain⟨k0,r,kl,hs⟩:=he hk
 rw[Q1S h0 h1]
 exact⟨k0,r,kl,hs.old h (fun k hk=>by have:=h n h0 h1 k hk;omega) x⟩
theorem Qaq {K:Int}{l:List Node}(h:Wf l)(he:∀ n:Int,0≤n→n<l.length→QcZ K l n){x:Node}(hx:QcZ K (l++[x]) l.length):∀ n:Int,0≤n→n<(l++[x]).length→QcZ K (l++[x]) n:=fun n h0 h1=>by
 simp only[List.length_append,List.length_singleton] at h1
 by_cases h2:n<l.length
 ·exact QjU h h0 h2 (he n h0 h2) x
 ·obtain rfl:n=l.length:=by omega
  exact hx
theorem Qd2 {K:Int}{l:List Node}{x:Node}(hk:x.kind≠21):QcZ K (l++[x]) l.length:=fun h=>by
 rw[Q4T] at h;exact absurd h hk
theorem Q2v {s:List Opn}{x z:Opn}:z∈(s++[x]).drop 1↔z∈s.drop 1∨(s≠[]∧z=x):=by
 cases s<;>simp
structure CIn (K:Int) (m:Mk) (c:Nat):Prop where
 el:∀ n:Int,0≤n→n<m.n.length→QcZ K m.n n
 st:∀ y∈m.s.drop 1,∃ k0 r,StOk K m.n y k0 r
 cm:cmK m.n m.s=c
section
variable {K:Int} {m:Mk} {X:List UInt8} {B D c:Nat}
theorem CIn.wrong (h:CIn K m c)(t:Txt)(d f u:Int):CIn K (Qw t d f u m) c:=⟨h.el,h.st,h.cm⟩
theorem CIn.leaf (h:MkInv m X B D)(hc:CIn K m c){kind:Int}(hk:kind≠21)(bs:List UInt8):CIn K (Q2g m.n.length (Q1a (Qj kind bs) m)) c:=by
 obtain⟨s0,hs0⟩:=Q1B h.s1
 generalize QB m.s=y at hs0
 have hr:=h.rng
 have hst:=hc.st
 have hcm:=hc.cm
 rw[hs0] at hr hst hcm
 have hr0:∀ z∈s0,InR m.n z.kids:=fun z hz=>hr z (List.mem_append_left _ hz)
 have hry:InR m.n y.kids:=hr y (by simp)
 refine⟨?_,?_,?_⟩
 ·exact Qaq h.ar.wf hc.el (Qd2 hk)
 ·show ∀ z∈(Q1d m.n.length m.s).drop 1,∃ k0 r,StOk K (m.n++[Qj kind bs]) z k0 r
  rw[hs0,Q1h]
  intro z hz
  rcases Q2v.1 hz with hz|⟨hne,rfl⟩
  ·obtain⟨k0,r,hs⟩:=hst z (Q2v.2 (.inl hz))
   exact⟨k0,r,hs.old h.ar.wf (hr0 z (List.mem_of_mem_drop hz)) _⟩
  ·obtain⟨k0,r,hs⟩:=hst y (Q2v.2 (.inr ⟨hne,rfl⟩))
   have hs:=hs.old h.ar.wf hry (Qj kind bs)
   exact⟨k0,r++[(m.n.length:Int)],by show y.kids++_=_;rw[hs.k];rfl,hs.s,hs.n,hs.l⟩
 ·show cmK (m.n++[Qj kind bs]) (Q1d m.n.length m.s)=c
  rw[Q5s] at hcm
  rw[hs0,Q1h,Q5s,Q7N,Q7F,Q7J h.ar.wf _ hr0,Q5y h.ar.wf _ hry,QaY h.ar.wf hk]
  exact hcm
theorem CIn.push (h:MkInv m X B D)(hc:CIn K m c)(bs:List UInt8){nm:List Int}(hn:Q6n (Q1F K bs)=nm)(hl:Qhi nm):CIn K (Q2g m.n.length (Q1a (Qj 8 bs) { m with s:=m.s++[⟨nm,[]⟩] })) c:=by
 have ha:=(Q2O h.ar 8 bs)
 have hks:∀ z∈m.s,InR m.n z.kids:=h.rng
 refine⟨?_,?_,?_⟩
 ·exact Qaq h.ar.wf hc.el (Qd2 (by show (8:Int)≠21;decide))
 ·show ∀ z∈(Q1d m.n.length (m.s++[⟨nm,[]⟩])).drop 1,∃ k0 r,StOk K (m.n++[Qj 8 bs]) z k0 r
  rw[Q1h]
  intro z hz
  rcases Q2v.1 hz with hz|⟨hne,rfl⟩
  ·obtain⟨k0,r,hs⟩:=hc.st z hz
   exact⟨k0,r,hs.old h.ar.wf (hks z (List.mem_of_mem_drop hz)) _⟩
  ·refine⟨m.n.length,[],rfl,Q4T,?_,hl⟩
   unfold nmN
   rw[ha.2];exact hn
 ·show cmK (m.n++[Qj 8 bs]) (Q1d m.n.length (m.s++[⟨nm,[]⟩]))=c
  rw[Q1h,Q5s,Q7N,Q7F,Q7J h.ar.wf _ hks,QaY h.ar.wf (by decide)]
  exact hc.cm
theorem Qao {s0:List Opn}{y x:Opn}(hs1:m.s=s0++[y]++[x])(kind:Int)(bs:List UInt8) :
  (Q16 m.n.length (Q1a (Qj kind bs) m)).n=(m.n++[Qj kind bs])++[QM (m.n++[Qj kind bs]) 21 (x.kids++[(m.n.length:Int)])]∧(Q16 m.n.length (Q1a (Qj kind bs) m)).s=s0++[⟨y.name,y.kids++[((m.n++[Qj kind bs]).length:Int)]⟩]:=by
 have eT:QB (Q2g (m.n.length:Int) (Q1a (Qj kind bs) m)).s=⟨x.name,x.kids++[(m.n.length:Int)]⟩:=by
  show QB (Q1d m.n.length m.s)=_
  rw[hs1,Q1h,Q6x]
 constructor
 ·show (m.n++[Qj kind bs])++[QM (m.n++[Qj kind bs]) 21 (QB (Q2g (m.n.length:Int) (Q1a (Qj kind bs) m)).s).kids]=_
  rw[eT]
 ·show Q1d ((m.n++[Qj kind bs]).length:Int) ((Q1d m.n.length m.s).take ((Q1d m.n.length m.s).length-1))=_
  have e2:(Q1d m.n.length m.s).take ((Q1d m.n.length m.s).length-1)=s0++[y]:=by
   rw[hs1,Q1h,show (s0++[y]++[(⟨x.name,x.kids++[(m.n.length:Int)]⟩:Opn)]).length-1=(s0++[y]).length by simp]
   exact List.take_left
  rw[e2,Q1h]
theorem Q77 {s:List Opn}(hs:2≤s.length):∃ s0 y,s=s0++[y]++[QB s]:=by
 obtain⟨s1,hs1⟩:=Q1B (s:=s) (by omega)
 have hl1:1≤s1.length:=by rw[hs1] at hs;simp at hs;omega
 obtain⟨s0,hs0⟩:=Q1B hl1
 exact⟨s0,QB s1,by rw[←hs0];exact hs1⟩
theorem CIn.shut (h:MkInv m X B D)(hc:CIn K m c)(hs:2≤m.s.length){kind:Int}(bs:List UInt8)(hk:kind=22∨(kind=10∧Q6n (Q1F K bs)=(QB m.s).name)):CIn K (Q16 m.n.length (Q1a (Qj kind bs) m)) (c+n01 (decide (kind=22))):=by
 obtain⟨s0,y,hs1⟩:=Q77 hs
 generalize QB m.s=x at hs1 hk
 obtain⟨en,es⟩:=Qao hs1 kind bs
 have hk21:kind≠21:=by omega
 obtain⟨ha1,hp1⟩:=Q2O h.ar kind bs
 have hr:=h.rng
 have hst:=hc.st
 have hcm:=hc.cm
 rw[hs1] at hr hst hcm
 have hr0:∀ z∈s0,InR m.n z.kids:=fun z hz=>hr z (List.mem_append_left _ (List.mem_append_left _ hz))
 have hry:InR m.n y.kids:=hr y (List.mem_append_left _ (by simp))
 have hrx:InR m.n x.kids:=hr x (by simp)
 have hks:InR (m.n++[Qj kind bs]) (x.kids++[(m.n.length:Int)]):=fun k hk=>by
  rcases List.mem_append.1 hk with hk|hk
  ·exact hrx.more _ k hk
  ·obtain rfl:k=(m.n.length:Int):=by simpa using hk
   simp;omega
 obtain⟨k0,r,hx⟩:=hst x (Q2v.2 (.inr ⟨by simp,rfl⟩))
 have hx1:=hx.old h.ar.wf hrx (Qj kind bs)
 obtain⟨l1,hl⟩:=exq (m.n++[Qj kind bs])
 have hl1:((m.n++[Qj kind bs]).length:Int)=l1.length:=by rw[hl]
 have hel1:=Qaq h.ar.wf hc.el (x:=Qj kind bs) (Qd2 hk21)
 have hnew:QD (m.n++[Qj kind bs]) m.n.length=kind:=Q4T
 have hnmn:nmN K (m.n++[Qj kind bs]) m.n.length=Q6n (Q1F K bs):=by unfold nmN;rw[hp1]
 have up0:∀ z:Node,cmK (l1++[z]) s0=cmK m.n s0:=fun z=>by
  rw[Q7J (by rw[hl];exact ha1.wf) z (fun q hq=>by rw[hl];exact (hr0 q hq).more _),hl,Q7J h.ar.wf _ hr0]
 have upy:∀ z:Node,cmL (l1++[z]) y.kids=cmL m.n y.kids:=fun z=>by
  rw[Q5y (by rw[hl];exact ha1.wf) z (by rw[hl];exact hry.more _),hl,Q5y h.ar.wf _ hry]
 have e1:cmL l1 (x.kids++[(m.n.length:Int)])=cmL m.n x.kids:=by
  rw[hl,Q7N,Q7F,Q5y h.ar.wf _ hrx,QaY h.ar.wf hk21];rfl
 rw[←hl] at ha1 hks hx1 hel1 en es hnew hnmn
 obtain⟨z,hz⟩:=exq (QM l1 21 (x.kids++[(m.n.length:Int)]))
 rw[←hz] at en
 have hzk:z.kids=x.kids++[(m.n.length:Int)]:=by rw[hz];rfl
 have hzm:elM l1 z=decide (kind=22):=by
  unfold elM
  rw[hzk,List.getLast?_concat,Option.getD_some,hnew,hz];rfl
 refine⟨?_,?_,?_⟩
 ·rw[en]
  refine Qaq ha1.wf hel1 (fun _=>⟨k0,r,m.n.length,?_⟩)
  rw[Q1G,hzk]
  refine ElIs.old ha1.wf hks ⟨by rw[hx1.k];rfl,hx1.s,?_,?_⟩ z
  ·rw[hx1.n];exact hx1.l
  ·rw[hnew,hnmn,hx1.n];exact hk
 ·rw[en,es]
  intro q hq
  rcases Q2v.1 hq with hq|⟨hne,rfl⟩
  ·obtain⟨q0,qr,hq1⟩:=hst q (Q2v.2 (.inl (Q2v.2 (.inl hq))))
   have hqr:=hr0 q (List.mem_of_mem_drop hq)
   have hq2:=hq1.old h.ar.wf hqr (Qj kind bs)
   rw[←hl] at hq2
   exact⟨q0,qr,hq2.old ha1.wf (by rw[hl];exact hqr.more _) z⟩
  ·obtain⟨q0,qr,hq1⟩:=hst y (Q2v.2 (.inl (Q2v.2 (.inr ⟨hne,rfl⟩))))
   have hq2:=hq1.old h.ar.wf hry (Qj kind bs)
   rw[←hl] at hq2
   have hq3:=hq2.old ha1.wf (by rw[hl];exact hry.more _) z
   exact⟨q0,qr++[(l1.length:Int)],by show y.kids++_=_;rw[hq3.k];rfl,hq3.s,hq3.n,hq3.l⟩
 ·rw[en,es,Q5s,Q7N,Q7F,up0,upy,Qhw ha1.wf (by rw[hzk];exact hks),hzm,hzk,e1]
  rw[Q5s,Q5s] at hcm
  omega
def Q98 (d:List Dg):Nat:=(d.filter fun x=>decide (x.c=4)).length
theorem Qce (d:List Dg)(x:Dg):Q98 (d++[x])=Q98 d+n01 (decide (x.c=4)):=by
 unfold Q98 n01
 rw[List.filter_append,List.length_append]
 by_cases h:x.c=4<;>simp[h]
def sz (m:Mk):Nat:=m.n.length+2 * m.s.length
structure CI (K:Int) (m:Mk) (S:Nat):Prop where
 c:CIn K m (Q98 m.d)
 z:2 * sz m≤S
theorem CI.wrong {S:Nat}(h:CI K m S)(t:Txt){d f u:Int}(hd:d≠4):CI K (Qw t d f u m) S:=by
 refine⟨?_,h.z⟩
 have:Q98 (Qw t d f u m).d=Q98 m.d:=by
  show Q98 (m.d++[_])=_
  rw[Qce,decide_eq_false (show ¬ d=4 from hd)];rfl
 rw[this]
 exact h.c.wrong t d f u
theorem CI.lk {S:Nat}(h:MkI m X B D)(hc:CI K m S)(t:Txt)(b:List UInt8){kind:Int}(hk:kind≠21)(f u:Int):CI K (lkF t b kind f u m) (S+2):=by
 refine⟨hc.c.leaf h.i hk _,?_⟩
 have:=hc.z
 show 2 * ((m.n++[_]).length+2 * (Q1d _ m.s).length)≤_
 unfold sz at this
 rw[Q3J]
 simp only[List.length_append,List.length_singleton]
 omega
theorem QdJ (last:Int)(hs:1≤m.s.length)(kind:Int)(bs:List UInt8):sz (Q16 last (Q1a (Qj kind bs) m))=sz m:=by
 have e1:(Q16 last (Q1a (Qj kind bs) m)).s.length=m.s.length-1:=by
  show (Q1d _ ((Q1d _ m.s).take ((Q1d _ m.s).length-1))).length=_
  rw[Q3J,List.length_take,Q3J];omega
 have e2:(Q16 last (Q1a (Qj kind bs) m)).n.length=m.n.length+2:=by
  show ((m.n++[_])++[_]).length=_
  simp
 unfold sz
 omega
theorem CI.miss {S:Nat}(h:MkI m X B D)(hc:CI K m S)(hs:2≤m.s.length)(t:Txt)(a:Int):CI K (Q1Q t a m) S:=by
 refine⟨?_,?_⟩
 ·have h2:=CIn.shut (h.wrong t 4 a a).i (hc.c.wrong t 4 a a) hs (kind:=22) [] (.inl rfl)
  have:Q98 (Q1Q t a m).d=Q98 m.d+1:=by
   show Q98 (m.d++[_])=_
   rw[Qce];rfl
  rw[this]
  exact h2
 ·have:sz (Q1Q t a m)=sz m:=QdJ _ (by show 1≤m.s.length;omega) 22 []
  rw[this];exact hc.z
theorem QcH (t:Txt)(a:Int)(hs:2≤m.s.length):(Q1Q t a m).s.map Opn.name <+: m.s.map Opn.name:=by
 obtain⟨s0,y,hs1⟩:=Q77 hs
 have e:=(Qao (m:=Qw t 4 a a m) (s0:=s0) (y:=y) (x:=QB m.s) hs1 22 []).2
 have e:(Q1Q t a m).s=_:=e
 rw[e,hs1]
 exact⟨[(QB m.s).name],by simp⟩
end
theorem CI.missGo {K:Int}(t:Txt)(f:Int)(k:Nat){X:List UInt8}{B D S:Nat}:∀ (n:Nat) (m:Mk),MkI m X B D→CI K m S→k+1≤m.s.length→m.s.length≤n+k+1→CI K (missGo t f k n m) S∧(Go.Proofs.YtibemhahkicbpaaGreat.missGo t f k n m).s.map Opn.name <+: m.s.map Opn.name
 |0,m,_,hc,_,_=>⟨hc,List.prefix_refl _⟩
 |n+1,m,h,hc,h1,h2=>by
  show CI K (if _ then _ else _) S∧(if _ then _ else _:Mk).s.map Opn.name <+: _
  split
  ·have h3:=Q3D h.i (by omega) t f
   have ih:=CI.missGo t f k n _ (h.miss (by omega) t f) (hc.miss h (by omega) t f) (by omega) (by omega)
   exact⟨ih.1,ih.2.trans (QcH t f (by omega))⟩
  ·exact⟨hc,List.prefix_refl _⟩
theorem Q6v (s:List Opn)(nm:List Int):∀ k,Q18 s nm k≠0→(s[Q18 s nm k]?.getD ⟨[],[]⟩).name=nm
 |0,h=>absurd rfl h
 |k+1,h=>by
  unfold Q18 at h ⊢
  split at h
  ·rename_i h1
   rw[if_pos h1];exact h1
  ·rename_i h1
   rw[if_neg h1];exact Q6v s nm k h
theorem Q7U (b:List UInt8){f u:Int}(h0:0≤f)(h1:f≤u)(h2:u≤(Q6 b).r.length):Q6n (Q1F (Q6 b).kind (QL (Q6 b) b f u))=Qs (Q6 b) f u:=by
 rw[Qct b h0 h1 h2,Q8a _ h0 h1 h2]
section
variable {m:Mk} {X:List UInt8} {B D S:Nat} {b:List UInt8} {f u:Int}
theorem CI.end_ (h:MkI m X B D)(hc:CI (Q6 b).kind m S)(h0:0≤f)(h1:f≤u)(h2:u≤(Q6 b).r.length):CI (Q6 b).kind (Q1Y (Q6 b) b 10 f u m) (S+2):=by
 unfold Q1Y
 have hs1:=h.i.s1
 have hle:=Q3M m.s (Qs (Q6 b) f u) (m.s.length-1)
 simp only
 split
 ·exact CI.lk (h.wrong (Q6 b) 3 f u) (hc.wrong (Q6 b) (by decide)) (Q6 b) b (by decide) f u
 ·rename_i hk0
  have hnm:=Q6v m.s (Qs (Q6 b) f u) (m.s.length-1) hk0
  obtain⟨k,hk⟩:=exq (Q18 m.s (Qs (Q6 b) f u) (m.s.length-1))
  rw[←hk] at hk0 hle hnm ⊢
  obtain⟨h3,h4⟩:=MkI.missGo (Q6 b) f k m.s.length m h (by omega) (by omega)
  obtain⟨h5,tl,h6⟩:=CI.missGo (Q6 b) f k m.s.length m h hc (by omega) (by omega)
  obtain⟨m1,hm1⟩:=exq (Go.Proofs.YtibemhahkicbpaaGreat.missGo (Q6 b) f k m.s.length m)
  rw[←hm1] at h3 h4 h5 h6 ⊢
  have htop:(QB m1.s).name=Qs (Q6 b) f u:=by
   rw[←hnm]
   have e1:(m.s.map Opn.name)[k]?=(m1.s.map Opn.name)[k]?:=by
    rw[←h6,List.getElem?_append_left (by rw[List.length_map];omega)]
   rw[List.getElem?_map,List.getElem?_map] at e1
   unfold QB
   rw[h4,Nat.add_sub_cancel]
   have hk1:k<m.s.length:=by omega
   have hk2:k<m1.s.length:=by omega
   rw[List.getElem?_eq_getElem hk1,List.getElem?_eq_getElem hk2] at e1 ⊢
   simp only[Option.map_some,Option.some.injEq] at e1
   exact e1.symm
  refine⟨?_,?_⟩
  ·have:=CIn.shut h3.i h5.c (by omega) (kind:=10) (QL (Q6 b) b f u) (.inr ⟨rfl,by rw[Q7U b h0 h1 h2,htop]⟩)
   exact this
  ·have e:sz (Q16 m1.n.length (Q1H (Q6 b) b 10 f u m1))=sz m1:=QdJ _ (by omega) 10 _
   rw[e]
   exact Nat.le_trans h5.z (by omega)
theorem CI.start (h:MkI m X B D)(hc:CI (Q6 b).kind m S)(h0:0≤f)(h1:f≤u)(h2:u≤(Q6 b).r.length)(hn:Qs (Q6 b) f u≠[]):CI (Q6 b).kind (QZ (Q6 b) b 8 f u m) (S+6):=by
 unfold QZ
 split
 ·have:=CI.lk (h.wrong (Q6 b) 5 f u) (hc.wrong (Q6 b) (by decide)) (Q6 b) b (kind:=8) (by decide) f u
  exact⟨this.c,Nat.le_trans this.z (by omega)⟩
 ·refine⟨hc.c.push h.i (QL (Q6 b) b f u) (Q7U b h0 h1 h2) (Qah _ h0 h1 h2 hn).2,?_⟩
  have:=hc.z
  show 2 * ((m.n++[_]).length+2 * (Q1d _ (m.s++[_])).length)≤_
  unfold sz at this
  rw[Q3J]
  simp only[List.length_append,List.length_singleton]
  omega
theorem CI.token (h:MkI m X B D)(hc:CI (Q6 b).kind m S){kind:Int}(hk:kind≠21)(h0:0≤f)(h1:f<u)(h2:u≤(Q6 b).r.length)(wh:Bool):CI (Q6 b).kind (Q1f (Q6 b) b kind f u wh m) (S+3 * (u-f).toNat):=by
 unfold Q1f
 simp only
 generalize hm1:(if wh=false then Qw (Q6 b) 1 f u m else if (kind=8∨kind=9∨kind=10)∧(Qy (Q6 b).r f u).right=false then Qw (Q6 b) 2 f u m else m)=m1
 have h3:∃ D',MkI m1 X B D':=by
  rw[←hm1]
  split
  ·exact⟨_,h.wrong (Q6 b) 1 f u⟩
  ·split
   ·exact⟨_,h.wrong (Q6 b) 2 f u⟩
   ·exact⟨_,h⟩
 have hc1:CI (Q6 b).kind m1 S:=by
  rw[←hm1]
  split
  ·exact hc.wrong (Q6 b) (by decide)
  ·split
   ·exact hc.wrong (Q6 b) (by decide)
   ·exact hc
 obtain⟨D',h3⟩:=h3
 split
 ·rename_i hs
  obtain⟨_,rfl,hs⟩:=hs
  have hn:Qs (Q6 b) f u≠[]:=List.length_pos_iff.1 hs
  have h4:=CI.start h3 hc1 h0 (by omega) h2 hn
  have h5:=(Qah _ h0 (by omega) h2 hn).1
  exact⟨h4.c,Nat.le_trans h4.z (by omega)⟩
 ·split
  ·rename_i hs
   obtain⟨_,rfl⟩:=hs
   have h4:=CI.end_ h3 hc1 h0 (by omega) h2
   exact⟨h4.c,Nat.le_trans h4.z (by omega)⟩
  ·have h4:=CI.lk h3 hc1 (Q6 b) b hk f u
   exact⟨h4.c,Nat.le_trans h4.z (by omega)⟩
end
theorem Qfy (l:List Int)(k:Nat):(Q3m l k).1≠21:=by
 unfold Q3m
 repeat' split
 all_goals (intro h;simp at h)
theorem Q65 (l:List Int)(kd k skip:Nat)(bs:List UInt8):(QV l kd k skip bs).1=kd:=by unfold QV;split<;>rfl
theorem Q7m (l:List Int)(k:Nat):(Qv l k).1≠21:=by
 unfold Qv
 split
 ·unfold Q26
  split
  ·rw[Q65];decide
  ·split
   ·rw[Q65];decide
   ·split
    ·rw[Q65];decide
    ·split
     ·exact (by decide:(7:Nat)≠21)
     ·split
      ·exact (by decide:(10:Nat)≠21)
      ·split
       ·unfold Q1W
        repeat' split
        all_goals (intro h;simp at h)
       ·exact (by decide:(11:Nat)≠21)
 ·split
  ·exact Qfy l k
  ·split
   ·exact (by decide:(11:Nat)≠21)
   ·exact (by decide:(1:Nat)≠21)
theorem CI.toks {b:List UInt8}(hb:b.length≤1000000):∀ (n k:Nat) (m:Mk) (B D S:Nat),(Q6 b).r.length-k≤n→k≤(Q6 b).r.length→MkI m (Q4D (Q6 b) b k) B D→CI (Q6 b).kind m S →
  CI (Q6 b).kind ((Q1o (Q6 b).r k).foldl (Q4F (Q6 b) b) m) (S+3 * ((Q6 b).r.length-k))
 |0,k,m,B,D,S,h,hk,hi,hc=>by
  rw[QU (by omega)]
  exact⟨hc.c,Nat.le_trans hc.z (by omega)⟩
 |n+1,k,m,B,D,S,h,hk,hi,hc=>by
  have ok:=(Q2y b).1
  have hr:(Q6 b).r.length≤1000000:=Nat.le_trans (Q2y b).2.2.1 hb
  by_cases hlt:k<(Q6 b).r.length
  ·obtain⟨h1,h2,h3,h4⟩:=Q91 (Q6 b).r hlt
   rw[Q1j hlt,List.foldl_cons]
   have:=hi.token (Q6 b) b hr (QK (Q6 b).r k).kind (QK (Q6 b).r k).from_ (QK (Q6 b).r k).to (QK (Q6 b).r k).whole
   rw[h1,h2,Q4q ok (by omega) (by omega) (by omega)] at this
   have hkd:(QK (Q6 b).r k).kind≠21:=by
    show (((Qv (Q6 b).r k).1:Nat):Int)≠21
    have:=Q7m (Q6 b).r k
    omega
   have hc2:=CI.token hi hc hkd (f:=k) (u:=((Qv (Q6 b).r k).2.1:Nat)) (by omega) (by omega) (by omega) (QK (Q6 b).r k).whole
   have h5:=CI.toks hb n (Qv (Q6 b).r k).2.1 _ (B+3) (D+3) _ (by omega) h4 this hc2
   have e:Q4F (Q6 b) b m (QK (Q6 b).r k)=Q1f (Q6 b) b (QK (Q6 b).r k).kind k ((Qv (Q6 b).r k).2.1:Nat) (QK (Q6 b).r k).whole m:=rfl
   rw[e]
   exact⟨h5.c,Nat.le_trans h5.z (by omega)⟩
  ·rw[QU hlt]
   exact⟨hc.c,Nat.le_trans hc.z (by omega)⟩
end Go.Proofs.YtibemhahkicbpaaGreat
namespace Go.Proofs.YtibemhahkicbpaaGreat
open Go.RowKit Go.Lib Tryz
theorem QbV (l:List Int)(hl:l.length≤1000000)(f u:Int)(h0:0≤f)(h1:f≤u)(h2:u≤l.length)(hne:Q3b ((l.drop f.toNat).take (u-f).toNat)≠[]) :
  BCall prog 50 [.agg [.val (.int .i64 0),.val (.int .i64 0),.slc 1 (Q1 l),.val (.slice none 0 0)],.val (.int .i64 f),.val (.int .i64 u)] [] (.val (.string ⟨(Q3b ((l.drop f.toNat).take (u-f).toNat)).toArray⟩)) []:=by
 obtain⟨i,rfl⟩:=Int.eq_ofNat_of_zero_le h0
 obtain⟨j,rfl⟩:=Int.eq_ofNat_of_zero_le (Int.le_trans h0 h1)
 have e1:((i:Int).toNat)=i:=Int.toNat_natCast i
 have e2:((j:Int)-(i:Int)).toNat=j-i:=by omega
 rw[e1,e2] at hne ⊢
 refine BCall.hand (enters_of func50 (by kernel_rfl) rfl) fun w g vs M hL=>?_
 obtain⟨v1,vs1,rfl,k1,hL⟩:=Q1r hL
 obtain⟨v2,vs2,rfl,k2,hL⟩:=Q1r hL
 obtain⟨v3,vs3,rfl,k3,hL⟩:=Q1r hL
 obtain rfl:=Q4o hL
 obtain rfl:=ARel.valEq (ob:=[]) k2
 obtain rfl:=ARel.valEq (ob:=[]) k3
 obtain⟨cs,rfl,hc⟩:=k1
 obtain⟨c0,c1,c2,c3,rfl⟩:∃ c0 c1 c2 c3,cs=#[c0,c1,c2,c3]:=by
  rcases cs with ⟨l4⟩
  match l4,hc.1 with
  | [a,b,c,d],_=>exact⟨a,b,c,d,rfl⟩
 obtain rfl:=ARel.valEq (ob:=[]) (hc.2 0 c0 _ rfl rfl).1
 obtain rfl:=ARel.valEq (ob:=[]) (hc.2 1 c1 _ rfl rfl).1
 obtain rfl:=ARel.valEq (ob:=[]) (hc.2 3 c3 _ rfl rfl).1
 obtain⟨A,c,rfl,hr⟩:=Q4R (hc.2 2 c2 _ rfl rfl).1 M
 exact (QbW _ A _ c l i j w hr (by omega) (by omega) hl hne).mono fun e w' ⟨h,hb⟩=>⟨_,h,hb,.val _ rfl⟩
theorem Qhx {nm:List Int}(h:Qhi nm):Q3b nm≠[]:=by
 obtain⟨r0,rs,rfl,h0⟩:=h
 have hw:=Qda h0
 have hb:r0≠-1:=by rintro rfl;exact absurd hw (by decide)
 have e:Q3b (r0::rs)=Q1U [r0]++Q3b rs:=by
  show (if r0=-1 then [] else Q1U [r0])++Q3b rs=_
  rw[if_neg hb]
 have h1:(Q1U [r0]).length=QQ r0:=by
  have:Q1U [r0]=encodeRune r0:=by
   show Q52 r0++[]=_
   rw[Q52,if_neg (by omega),List.append_nil]
  rw[this,Q7h r0 hw]
 intro h2
 have:=congrArg List.length h2
 rw[e,List.length_append,h1] at this
 simp at this
 omega
theorem Qdk {x:List Int}(h:0<Q10 x 0):∃ r0 rs,x=r0::rs∧QP r0=true:=by
 cases x with
 |nil=>simp[Q10] at h
 |cons r0 rs =>
  refine⟨r0,rs,rfl,?_⟩
  by_cases hq:QP r0=true
  ·exact hq
  ·have:Q10 (r0::rs) 0=0:=by show (if QP r0 then _ else 0)=0;rw[if_neg hq]
   omega
theorem QcN:∀ (n:Nat) (r:List Int) (at_:Int) (first:Bool),r.length≤n→∀ p∈Qt at_ first r,p.kind=2→∃ r0,r[(p.from_-at_).toNat]?=some r0∧QP r0=true:=by
 intro n
 induction n with
 |zero =>
  intro r at_ first h p hp
  obtain rfl:r=[]:=List.eq_nil_of_length_eq_zero (by omega)
  rw[Qt,dif_pos rfl] at hp
  cases hp
 |succ n ih =>
  intro r at_ first h p hp hk
  by_cases hr:r=[]
  ·rw[hr,Qt,dif_pos rfl] at hp;cases hp
  ·have hn:=Q3g r first hr
   rw[Q2P hr] at hp
   rcases List.mem_cons.1 hp with rfl|hp
   ·have hk:(Qr r first).1=2:=hk
    have hlead:0<Q10 r 0:=by
     unfold Qr at hk
     split at hk
     ·simp at hk
     ·split at hk
      ·simp at hk
      ·split at hk
       ·simp at hk
       ·split at hk
        ·rename_i h;omega
        ·split at hk
         ·simp at hk
         ·split at hk
          ·simp at hk
          ·split at hk<;>simp at hk
    obtain⟨r0,rs,rfl,h0⟩:=Qdk hlead
    exact⟨r0,by show (r0::rs)[(at_-at_).toNat]?=_;rw[Int.sub_self];rfl,h0⟩
   ·have hin:=Q4t r n (r.drop (Qr r first).2.toNat) (at_+(Qr r first).2) false (by rw[List.length_drop];omega) p hp
    obtain⟨r0,h1,h2⟩:=ih (r.drop (Qr r first).2.toNat) (at_+(Qr r first).2) false (by rw[List.length_drop];omega) p hp hk
    refine⟨r0,?_,h2⟩
    rw[List.getElem?_drop] at h1
    rw[←h1]
    congr 1
    omega
theorem Q8D (ps:List TPart):∀ (f:Nat) (a:Int),0≤a→a≤ps.length→∀ x∈(QE ps f a).1,x.name∈ps∧x.name.kind=2
 |0,a,_,_,x,hx=>by cases hx
 |f+1,a,h0,h1,x,hx=>by
  unfold QE at hx
  split at hx
  ·rename_i hok
   rcases List.mem_cons.1 hx with rfl|hx
   ·have hs:∃ y,Q25 ps a=some y:=Option.isSome_iff_exists.1 hok
    obtain⟨y,hy⟩:=hs
    rw[QY,hy]
    unfold Q25 at hy
    split at hy
    ·rename_i ht
     have hle:=(Q1K (l:=ps) (a:=a.toNat) (ks:=[3]) (by omega)).1 ht.1
     have ht2:=(Q1K (l:=ps) (a:=(a+1).toNat) (ks:=[2]) (by have:=hle.1;simp at this;omega)).1 ht.2
     have hlt:(a+1).toNat<ps.length:=by have:=ht2.1;simp at this;omega
     have hkd:(ps[(a+1).toNat]?.getD Qu).kind=2:=ht2.2 0 (by decide)
     simp only at hy
     split at hy
     ·split at hy
      ·simp only[Option.some.injEq] at hy
       subst hy
       show ps[(a+1).toNat]?.getD Qu∈ps∧_
       refine⟨?_,hkd⟩
       rw[List.getElem?_eq_getElem hlt]
       exact List.getElem_mem hlt
      ·cases hy
     ·cases hy
    ·cases hy
   ·have hg:=Q5o h0 h1 hok
    exact Q8D ps f _ (by omega) hg.2 x hx
  ·cases hx
structure NamIn (l:List Int) (p:TPart):Prop where
 h0:0≤p.from_
 h1:p.from_<p.to
 h2:p.to≤l.length
 ld:Qhi ((l.drop p.from_.toNat).take (p.to-p.from_).toNat)
theorem Qd3 (l:List Int):∀ x∈(Qy l 0 l.length).attrs,NamIn l x.name:=by
 have e1:Q12 l 0 l.length=Qt 0 true l:=by
  unfold Q12
  rw[Int.toNat_natCast,List.take_length];rfl
 intro x hx
 have hx:x∈(Q1w (Qt 0 true l)).attrs:=by rw[←e1];exact hx
 have hm:x∈(QE (Qt 0 true l) ((Qt 0 true l).length+1) 2).1∧2≤(Qt 0 true l).length:=by
  unfold Q1w at hx
  split at hx
  ·rename_i ht
   have hle:=((Q1K (Nat.zero_le _)).1 ht).1
   refine⟨?_,by simpa using hle⟩
   simp only at hx
   split at hx<;>exact hx
  ·cases hx
 obtain⟨h1,h2⟩:=Q8D _ _ 2 (by omega) (by omega) x hm.1
 have hin:=Q4t l l.length l 0 true (Nat.le_refl _) x.name h1
 obtain⟨r0,h3,h4⟩:=QcN l.length l 0 true (Nat.le_refl _) x.name h1 h2
 rw[Int.sub_zero] at h3
 refine⟨by omega,hin.2.1,by omega,?_⟩
 have hlt:x.name.from_.toNat<l.length:=by omega
 rw[List.drop_eq_getElem_cons hlt,show (x.name.to-x.name.from_).toNat=(x.name.to-x.name.from_).toNat-1+1 by omega,List.take_succ_cons]
 refine⟨_,_,rfl,?_⟩
 rw[List.getElem?_eq_getElem hlt] at h3
 rw[Option.some.inj h3];exact h4
def Q6C (s t:ByteArray):ByteArray:=if Q1D s t=true then s.extract t.size s.size else s
def Ql1 (pre:ByteArray→ByteArray→Bool):Nat→List AV→List Ob→Option (AV×List Ob):=fun f args _=>match f,args with
 |173,[.val (.string s),.val (.string t)]=>some (.val (.bool (pre s t)),[])
 |_,_=>none
theorem Qjs (s t:ByteArray):BCall prog 219 [.val (.string s),.val (.string t)] [] (.tup [.val (.string (Q6C s t)),.val (.bool (Q1D s t))]) []:=by
 have cH:=QjD s t
 refine fnN (cs:=Ql1 Q1D) func219 rfl (by kernel_rfl) ?_
 intro w0 g0
 generalize hp:std=p,hpre:Q1D=pre
 generalize hT:Q8 p tys (Ql1 pre) _ _ _ _=T
 cbv at hT
 subst hT
 simp only[Tree.ok,Q4,S0]
 subst hp hpre
 refine⟨cH,fun h=>?_,fun h=>⟨?_,?_⟩⟩
 ·have e:Q1D s t=false:=by
   have h:(!Q1D s t)=true:=h
   simpa using h
  refine .pure rfl ⟨.inl ?_,.inl ?_,trivial⟩
  ·rw[Q6C,e];rfl
  ·rw[e]
 ·have e:Q1D s t=true:=by
   have h:(!Q1D s t)=false:=h
   simpa using h
  have h2:t.size≤s.size:=by
   rw[Q1D,Bool.and_eq_true] at e
   exact of_decide_eq_true e.1
  show (0:Int)≤(t.size:Int)∧(t.size:Int)≤(s.size:Int)∧(s.size:Int)≤(s.size:Int)
  omega
 ·have e:Q1D s t=true:=by
   have h:(!Q1D s t)=false:=h
   simpa using h
  refine .pure rfl ⟨.inl ?_,.inl ?_,trivial⟩
  ·rw[Q6C,if_pos e];rfl
  ·rw[e]
def QkF (s:ByteArray)(b:Bool):Nat→List AV→List Ob→Option (AV×List Ob):=fun f args _=>match f,args with
 |219,[.val (.string _),.val (.string _)]=>some (.tup [.val (.string s),.val (.bool b)],[])
 |_,_=>none
theorem Qk4 (s t:ByteArray):BCall prog 191 [.val (.string s),.val (.string t)] [] (.tup [.val (.string (Q6C s t)),.val (.bool (Q1D s t))]) []:=by
 have cH:=Qjs s t
 generalize Q6C s t=u at cH ⊢
 generalize Q1D s t=b at cH ⊢
 refine fnN (cs:=QkF u b) func191 rfl (by kernel_rfl) ?_
 intro w0 g0
 generalize hp:std=p
 generalize hT:Q8 p tys (QkF u b) _ _ _ _=T
 cbv at hT
 subst hT
 simp only[Tree.ok,Q4,S0]
 subst hp
 exact⟨cH,.pure rfl ⟨.inl rfl,.inl rfl,trivial⟩⟩
theorem QgV (s:ByteArray)(hs:s.size≤300000000):BCall prog 192 [.val (.string s)] [] (.val (.bool (Q63 s.data.toList))) []:=by
 refine BCall.hand (enters_of func192 (by kernel_rfl) rfl) fun w g vs M hL=>?_
 obtain⟨v1,vs1,rfl,k1,hL⟩:=Q1r hL
 obtain rfl:=Q4o hL
 obtain rfl:=Q64 k1
 exact (QfA s w hs).mono fun e w' ⟨h,hb⟩=>⟨_,h,hb,.val _ rfl⟩
def QaD:ByteArray:=⟨#[120,109,108,110,115]⟩
def Q2Q:ByteArray:=⟨#[120,109,108,110,115,58]⟩
def Q8b (q:ByteArray):ByteArray×Bool :=
 if std.eqS q QaD=true then (⟨#[]⟩,true)
 else if Q1D q Q2Q=true∧Q63 (Q6C q Q2Q).data.toList=true then (Q6C q Q2Q,true) else (⟨#[]⟩,false)
def QkI (u:ByteArray)(b pl:Bool):Nat→List AV→List Ob→Option (AV×List Ob):=fun f args _=>match f,args with
 |191,[.val (.string _),.val (.string _)]=>some (.tup [.val (.string u),.val (.bool b)],[])
 |192,[.val (.string _)]=>some (.val (.bool pl),[])
 |_,_=>none
theorem Qfa (s t:ByteArray):(Q6C s t).size≤s.size:=by
 rw[Q6C];split
 ·rw[ByteArray.size_extract];omega
 ·exact Nat.le_refl _
theorem QcW (q:ByteArray)(hq:q.size≤300000000):BCall prog 149 [.val (.string q)] [] (.tup [.val (.string (Q8b q).1),.val (.bool (Q8b q).2)]) []:=by
 have cC:=Qk4 q Q2Q
 have cP:=QgV (Q6C q Q2Q) (Nat.le_trans (Qfa _ _) hq)
 have hD:Q8b q=if std.eqS q QaD=true then (⟨#[]⟩,true)
  else if Q1D q Q2Q=true∧Q63 (Q6C q Q2Q).data.toList=true then (Q6C q Q2Q,true) else (⟨#[]⟩,false):=rfl
 generalize Q63 (Q6C q Q2Q).data.toList=pl at cP hD
 generalize Q6C q Q2Q=u at cC cP hD
 generalize Q1D q Q2Q=b at cC hD
 generalize Q8b q=R at hD ⊢
 refine fnN (cs:=QkI u b pl) func149 rfl (by kernel_rfl) ?_
 intro w0 g0
 generalize hp:std=p
 generalize hT:Q8 p tys (QkI u b pl) _ _ _ _=T
 cbv at hT
 subst hT
 simp only[Tree.ok,Q4,S0]
 subst hp
 refine⟨fun h=>?_,fun h=>⟨cC,?_⟩⟩
 ·have h:std.eqS q QaD=true:=h
  rw[if_pos h] at hD
  exact .pure rfl ⟨.inl (by rw[hD]),.inl (by rw[hD]),trivial⟩
 ·have h:std.eqS q QaD=false:=h
  rw[if_neg (by rw[h];decide)] at hD
  cases b with
  |false=>exact⟨fun _=>.pure rfl ⟨.inl (by rw[hD];rfl),.inl (by rw[hD];rfl),trivial⟩,fun h1=>absurd (show true=false from h1) (by decide)⟩
  |true =>
   refine⟨fun h1=>absurd (show false=true from h1) (by decide),fun _=>⟨cP,?_⟩⟩
   cases pl with
   |false=>exact⟨fun _=>.pure rfl ⟨.inl (by rw[hD];rfl),.inl (by rw[hD];rfl),trivial⟩,fun h1=>absurd (show true=false from h1) (by decide)⟩
   |true=>exact⟨fun h1=>absurd (show false=true from h1) (by decide),fun _=>.pure rfl ⟨.inl (by rw[hD];rfl),.inl (by rw[hD];rfl),trivial⟩⟩
def anS (l:List Int)(p:TPart):ByteArray:=⟨(Q3b ((l.drop p.from_.toNat).take (p.to-p.from_).toNat)).toArray⟩
def QbO (l:List Int)(a:TAttr):Bool:=(Q8b (anS l a.name)).2
def Q2X (l:List Int)(al:List TAttr):Nat:=(al.filter (QbO l)).length
def Q8Q (l:List Int)(al:List TAttr)(r:Rp):Rp:={ r with a6:=r.a6+al.length,a7:=r.a7+Q2X l al }
theorem Q6R (l:List Int)(al:List TAttr):Q2X l al≤al.length:=List.length_filter_le _ _
theorem Qdn (l:List Int)(al:List TAttr){k:Nat}(h:k<al.length):Q2X l (al.take (k+1))=Q2X l (al.take k)+(if QbO l (al[k]?.getD tattr0)=true then 1 else 0):=by
 rw[Q2X,Q2X,List.take_succ_eq_append_getElem h,List.filter_append,List.length_append,List.getElem?_eq_getElem h]
 congr 1
 show (List.filter (QbO l) [al[k]]).length=if QbO l al[k]=true then 1 else 0
 rw[List.filter_cons]
 split<;>rfl
def Qgc (rk rf rt:Int)(ra:List AV)(rr re:Bool)(st:Int→Int→ByteArray)(d1:ByteArray→ByteArray)(d2:ByteArray→Bool):Nat→List AV→List Ob→Option (AV×List Ob):=fun f args _=>match f,args with
 |49,[.slc 1 _,.val (.int .i64 _),.val (.int .i64 _)]=>some (.agg [.val (.int .i64 rk),.val (.int .i64 rf),.val (.int .i64 rt),.slc 9 ra,.val (.bool rr),.val (.bool re)],[])
 |50,[.agg _,.val (.int .i64 f),.val (.int .i64 u)]=>some (.val (.string (st f u)),[])
 |149,[.val (.string q)]=>some (.tup [.val (.string (d1 q)),.val (.bool (d2 q))],[])
 |_,_=>none
def stS (l:List Int)(f u:Int):ByteArray:=⟨(Q3b ((l.drop f.toNat).take (u-f).toNat)).toArray⟩
def d1S (q:ByteArray):ByteArray:=(Q8b q).1
def d2S (q:ByteArray):Bool:=(Q8b q).2
theorem Q7r (ps:List TPart):∀ (f:Nat) (a:Int),(QE ps f a).1.length≤f
 |0,a=>Nat.le_refl _
 |f+1,a=>by
  unfold QE
  split
  ·have:=Q7r ps f (Q1z ps a)
   simp only[List.length_cons];omega
  ·exact Nat.zero_le _
theorem Q4G (l:List Int)(f u:Int):(Qy l f u).attrs.length≤(Q12 l f u).length+1:=by
 unfold Qy
 generalize Q12 l f u=ps
 unfold Q1w
 split
 ·have h:=Q7r ps (ps.length+1) 2
  simp only
  split<;>exact h
 ·exact Nat.zero_le _
theorem QjC (l:List Int)(hl:l.length≤1000000)(r:Rp)(h6:0≤r.a6∧r.a6≤1000000000000)(h7:0≤r.a7∧r.a7≤1000000000000) :
  BCall prog 124 [.box 0 0,.slc 1 (Q1 l)] [.box r.cs] (.tup []) [.box (Q8Q l (Qy l 0 l.length).attrs r).cs]:=by
 have cR:=QaR l hl 0 l.length (Int.le_refl _) (by omega) (Int.le_refl _)
 have hnm:=Qd3 l
 obtain⟨n,hn⟩:=QX l
 have hlen:std.len (Q1 l)=n:=by show ((Q1 l).length:Int)=n;rw[Q13,hn.eq]
 rw[←hn.eq] at cR hnm ⊢
 have hal:(Qy l 0 n).attrs.length≤1000002:=by
  have h1:=Q4G l 0 n
  have h2:=Q6h l 0 n
  omega
 obtain⟨R1,hR1⟩:=exq (Q8Q l (Qy l 0 n).attrs r)
 rw[←hR1]
 generalize (Qy l 0 n).name.kind=rk at cR
 generalize (Qy l 0 n).name.from_=rf at cR
 generalize (Qy l 0 n).name.to=rt at cR
 generalize (Qy l 0 n).attrs=al at cR hnm hR1 hal
 generalize (Qy l 0 n).right=rr at cR
 generalize (Qy l 0 n).empty=re at cR
 obtain⟨m,hm⟩:=QX al
 have hml:std.len (Qo al)=m:=by show ((Qo al).length:Int)=m;rw[Q5X,hm.eq]
 unfold Rp.cs
 refine fnN (cs:=Qgc rk rf rt (Qo al) rr re (stS l) d1S d2S) func124 rfl (by kernel_rfl) ?_
 intro w0 g0
 generalize hp:std=p,hra:Qo al=ra,hst:stS l=st,hd1:d1S=d1,hd2:d2S=d2,hrx:Q1 l=rx
 generalize hT:Q8 p tys (Qgc rk rf rt ra rr re st d1 d2) _ _ _ _=T
 cbv at hT
 subst hT
 simp only[Tree.ok,Q4,S0]
 subst hp hra hst hd1 hd2 hrx
 refine⟨by rw[←hlen] at cR;exact cR,?_⟩
 refine Q1P (cs:=Qgc rk rf rt (Qo al) rr re (stS l) d1S d2S) (by kernel_rfl) (X:=Int×Int×Int) (fun x=>⟨[(0,.box 0 0),(4,.box 1 0),(15,.slc 9 (Qo al)),(16,.val (.int .i64 m)),(17,.val (.int .i64 x.1))],[.box [.val (.int .i64 r.a0),.val (.int .i64 r.a1),.val (.int .i64 r.a2),.val (.int .i64 r.a3),.val (.int .i64 r.a4),.val (.int .i64 r.a5),.val (.int .i64 x.2.1),.val (.int .i64 x.2.2),.val (.int .i64 r.t0),.val (.int .i64 r.t1),.val (.int .i64 r.t2),.val (.int .i64 r.t3),.val (.int .i64 r.t4),.val (.int .i64 r.t5),.val (.int .i64 r.t6),.val (.int .i64 r.t7),.val (.int .i64 r.t8),.val (.int .i64 r.t9),.val (.int .i64 r.t10),.val (.int .i64 r.t11),.val (.int .i64 r.w0),.val (.int .i64 r.w1),.val (.int .i64 r.w2),.val (.int .i64 r.w3),.val (.int .i64 r.w4),.val (.int .i64 r.w5)],.box [.val (.int .i64 0),.val (.int .i64 0),.slc 1 (Q1 l),.val (.slice none 0 0)]]⟩) (fun x=>0≤x.1∧x.1≤m∧x.2.1=r.a6+x.1∧x.2.2=r.a7+Q2X l (al.take x.1.toNat)) (fun x=>(m-x.1).toNat) (0,r.a6,r.a7) ?_ ?_ ?_
 ·exact⟨Int.le_refl _,by have:=hm.eq;show (0:Int)≤m;omega,(Int.add_zero _).symm,(Int.add_zero _).symm⟩
 ·refine⟨[some 0,some 1],_,rfl,?_⟩
  repeat first
   |exact trivial
   |refine⟨rfl,?_⟩
   |refine⟨hml,?_⟩
   |refine⟨gI (hml),?_⟩
   |refine⟨gA (hml),?_⟩
   |refine⟨gB (hml),?_⟩
   |refine⟨gR (hml),?_⟩
   |refine⟨gT (hml),?_⟩
 ·rintro⟨i,A,B⟩ ⟨hi0,hi1,hA,hB⟩
  simp only at hi0 hi1 hA hB
  obtain⟨nb,hnb⟩:∃ nb,IsN (Q2X l (al.take i.toNat)) nb:=⟨_,rfl⟩
  rw[←hnb.eq] at hB
  have hbl:=Q6R l (al.take i.toNat)
  rw[List.length_take] at hbl
  rcases Int.lt_or_eq_of_le hi1 with hlt|heq
  ·have hil:i.toNat<al.length:=by have:=hm.eq;omega
   have hstep:=Qdn l al hil
   obtain⟨x,hx⟩:=exq (al[i.toNat])
   have hxe:al[i.toNat]?.getD tattr0=x:=by rw[List.getElem?_eq_getElem hil,hx];rfl
   rw[hxe] at hstep
   have hxm:x∈al:=by rw[hx];exact List.getElem_mem hil
   have hat:std.at_ (Qo al) i=x.av:=by
    show (Qo al).getD i.toNat .dead=_
    rw[List.getD_eq_getElem?_getD,Qo,List.getElem?_map,List.getElem?_eq_getElem hil,hx];rfl
   have hN:=hnm x hxm
   have cS:=QbV l hl x.name.from_ x.name.to hN.h0 (by have:=hN.h1;omega) hN.h2 (Qhx hN.ld)
   have hsl:(stS l x.name.from_ x.name.to).size≤300000000:=by
    rw[stS]
    have h1:=QbH ((l.drop x.name.from_.toNat).take (x.name.to-x.name.from_).toNat)
    have h2:((l.drop x.name.from_.toNat).take (x.name.to-x.name.from_).toNat).length≤l.length:=by
     rw[List.length_take,List.length_drop];omega
    show (Q3b _).toArray.size≤_
    rw[List.size_toArray];omega
   have cD:=QcW (stS l x.name.from_ x.name.to) hsl
   have hml2:m≤1000002:=by have:=hm.eq;omega
   have hA0:0≤A∧A≤1000002000000:=by omega
   have hnb1:0≤nb∧nb≤1000002:=by rw[hnb.eq];omega
   have hB0:0≤B∧B≤1000002000000:=by omega
   have hX:∀ j:Nat,std.nth (std.cel (std.at_ (Qo al) i)) j=x.cs.getD j .dead:=fun j=>by rw[hat];rfl
   have h1:std.int (std.nth (std.cel (std.at_ (Qo al) i)) 1)=x.name.from_:=by rw[hX];rfl
   have h2:std.int (std.nth (std.cel (std.at_ (Qo al) i)) 2)=x.name.to:=by rw[hX];rfl
   have hq:∀ j:Nat,j<9→std.nth (std.cel (std.at_ (Qo al) i)) j=.val (.int .i64 (std.int (std.nth (std.cel (std.at_ (Qo al) i)) j))):=fun j hj=>by
    rw[hX]
    rcases j with _|_|_|_|_|_|_|_|_|j<;>first|rfl|omega
   have hst2:stS l (std.int (std.nth (std.cel (std.at_ (Qo al) i)) 1)) (std.int (std.nth (std.cel (std.at_ (Qo al) i)) 2))=stS l x.name.from_ x.name.to:=by rw[h1,h2]
   have hlt2:std.ltI i m=true:=decide_eq_true hlt
   have hbd:QbO l x=d2S (stS l x.name.from_ x.name.to):=rfl
   rw[hbd] at hstep
   clear hil hx hxe hxm hbl hal hX hbd
   generalize hp:std=p,hra:Qo al=ra,hst:stS l=st,hd1:d1S=d1,hd2:d2S=d2,hrx:Q1 l=rx
   generalize hT:Q8 p tys (Qgc rk rf rt ra rr re st d1 d2) _ _ _ _=T
   cbv at hT
   subst hT
   simp only[Tree.ok,Q4,S0]
   subst hp hra hst hd1 hd2 hrx
   refine⟨fun _=>⟨⟨hi0,?_⟩,⟨hq 0 (by decide),hq 1 (by decide),hq 2 (by decide),hq 3 (by decide),hq 4 (by decide),hq 5 (by decide),hq 6 (by decide),hq 7 (by decide),hq 8 (by decide),trivial⟩,?_,?_,?_,fun hd=>?_,fun hd=>?_⟩,fun h=>absurd (hlt2.symm.trans h) (by decide)⟩
   ·show i<std.len (Qo al)
    rw[hml];exact hlt
   ·show -9223372036854775808≤A+1∧A+1≤9223372036854775807
    omega
   ·show BCall _ _ [.agg _,.val (.int .i64 (std.int (std.nth (std.cel (std.at_ (Qo al) i)) 1))),.val (.int .i64 (std.int (std.nth (std.cel (std.at_ (Qo al) i)) 2)))] [] (.val (.string (stS l (std.int (std.nth (std.cel (std.at_ (Qo al) i)) 1)) (std.int (std.nth (std.cel (std.at_ (Qo al) i)) 2))))) []
    rw[h1,h2];exact cS
   ·show BCall _ _ [.val (.string (stS l (std.int (std.nth (std.cel (std.at_ (Qo al) i)) 1)) (std.int (std.nth (std.cel (std.at_ (Qo al) i)) 2))))] [] (.tup [.val (.string (d1S (stS l (std.int (std.nth (std.cel (std.at_ (Qo al) i)) 1)) (std.int (std.nth (std.cel (std.at_ (Qo al) i)) 2))))),.val (.bool (d2S (stS l (std.int (std.nth (std.cel (std.at_ (Qo al) i)) 1)) (std.int (std.nth (std.cel (std.at_ (Qo al) i)) 2)))))]) []
    rw[hst2];exact cD
   ·have hd:d2S (stS l x.name.from_ x.name.to)=true:=by rw[←hst2];exact hd
    rw[if_pos hd] at hstep
    refine⟨(show (-9223372036854775808:Int)≤B+1∧B+1≤(9223372036854775807:Int) from by omega),(show (-9223372036854775808:Int)≤i+1∧i+1≤(9223372036854775807:Int) from by omega),(i+1,A+1,B+1),⟨?_,?_,?_,?_⟩,?_,[some 0,some 1],_,rfl,?_⟩
    ·show 0≤i+1;omega
    ·show i+1≤m;omega
    ·show A+1=r.a6+(i+1);omega
    ·show B+1=r.a7+Q2X l (al.take (i+1).toNat)
     have e:=hnb.eq
     rw[show (i+1).toNat=i.toNat+1 by omega,hstep];omega
    ·show (m-(i+1)).toNat<(m-i).toNat;omega
    ·repeat first
      |exact trivial
      |refine⟨rfl,?_⟩
      |refine⟨hml,?_⟩
      |refine⟨gI (hml),?_⟩
      |refine⟨gA (hml),?_⟩
      |refine⟨gB (hml),?_⟩
      |refine⟨gR (hml),?_⟩
      |refine⟨gT (hml),?_⟩
   ·have hd:d2S (stS l x.name.from_ x.name.to)=false:=by rw[←hst2];exact hd
    rw[if_neg (by rw[hd];decide)] at hstep
    refine⟨(show (-9223372036854775808:Int)≤i+1∧i+1≤(9223372036854775807:Int) from by omega),(i+1,A+1,B),⟨?_,?_,?_,?_⟩,?_,[some 0,some 1],_,rfl,?_⟩
    ·show 0≤i+1;omega
    ·show i+1≤m;omega
    ·show A+1=r.a6+(i+1);omega
    ·show B=r.a7+Q2X l (al.take (i+1).toNat)
     have e:=hnb.eq
     rw[show (i+1).toNat=i.toNat+1 by omega,hstep];omega
    ·show (m-(i+1)).toNat<(m-i).toNat;omega
    ·repeat first
      |exact trivial
      |refine⟨rfl,?_⟩
      |refine⟨hml,?_⟩
      |refine⟨gI (hml),?_⟩
      |refine⟨gA (hml),?_⟩
      |refine⟨gB (hml),?_⟩
      |refine⟨gR (hml),?_⟩
      |refine⟨gT (hml),?_⟩
  ·have ht:al.take i.toNat=al:=List.take_of_length_le (by have:=hm.eq;omega)
   rw[hnb.eq,ht] at hB
   have hl2:std.ltI i m=false:=decide_eq_false (by omega)
   have e6:R1.a6=A:=by rw[hR1];show r.a6+(al.length:Int)=A;have:=hm.eq;omega
   have e7:R1.a7=B:=by rw[hR1];show r.a7+(Q2X l al:Int)=B;omega
   have eR:R1={ r with a6:=A,a7:=B }:=by rw[←e6,←e7,hR1];rfl
   rw[eR]
   clear e6 e7 eR hR1 hA hB ht
   generalize hp:std=p,hra:Qo al=ra,hst:stS l=st,hd1:d1S=d1,hd2:d2S=d2,hrx:Q1 l=rx
   generalize hT:Q8 p tys (Qgc rk rf rt ra rr re st d1 d2) _ _ _ _=T
   cbv at hT
   subst hT
   simp only[Tree.ok,Q4,S0]
   subst hp hra hst hd1 hd2 hrx
   refine⟨fun h=>absurd (hl2.symm.trans h) (by decide),fun _=>?_⟩
   rw[if_pos trivial]
   generalize hp:std=p,hra:Qo al=ra,hrx:Q1 l=rx
   generalize hT:Q5B p tys _ _ _ _=T
   cbv at hT
   subst hT
   simp only[Tree.ok,Q4,S0]
   subst hp hra hrx
   refine⟨[some 0],.tup [],_,rfl,rfl,Nat.le_refl _,rfl,?_,trivial⟩
   repeat first
    |exact trivial
    |refine⟨rfl,?_⟩
end Go.Proofs.YtibemhahkicbpaaGreat
namespace Go.Proofs.YtibemhahkicbpaaGreat
open Go.RowKit Go.Lib
section
variable {w w':World} {A':Nat→Nat→Prop}
end
structure Ev where
 do_:Int
 kind:Int
 b:List UInt8
 deriving Inhabited,DecidableEq
def Ev.av (x:Ev):AV:=if x.do_=2 then .agg [.val (.int .i64 2),.val (.int .i64 x.kind),.slc 1 (Q5 x.b)] else .agg [.val (.int .i64 x.do_),.val (.int .i64 0),.val (.slice none 0 0)]
def spF (l:List Node):Nat→Int→Bool→List Ev
 |0,_,_=>[]
 |f+1,n,top=>if (Qe l n).kind≠21∧top=false then [⟨2,(Qe l n).kind,pr l n⟩]
  else (if top=true then [] else [⟨1,0,[]⟩])++(Qe l n).kids.flatMap (fun k=>spF l f k false)++(if top=true then [] else [⟨3,0,[]⟩])
def spV (l:List Node)(n:Int)(top:Bool):List Ev:=spF l (n.toNat+1) n top
theorem Qc3 {l:List Node}(hw:Wf l):∀ (f f':Nat) (n:Int) (top:Bool),0≤n→n<l.length→n.toNat<f→n.toNat<f'→spF l f n top=spF l f' n top
 |0,_,_,_,_,_,h,_=>by omega
 |_+1,0,_,_,_,_,_,h=>by omega
 |f+1,f'+1,n,top,h0,h1,h2,h3=>by
  simp only[spF]
  have:(Qe l n).kids.flatMap (fun k=>spF l f k false)=(Qe l n).kids.flatMap (fun k=>spF l f' k false):=by
   refine congrArg List.flatten (List.map_congr_left fun k hk=>?_)
   have:=hw n h0 h1 k hk
   exact Qc3 hw f f' k false this.1 (by omega) (by omega) (by omega)
  rw[this]
theorem Q8O {l:List Node}(hw:Wf l){n:Int}(h0:0≤n)(h1:n<l.length)(top:Bool):spV l n top=if (Qe l n).kind≠21∧top=false then [⟨2,(Qe l n).kind,pr l n⟩]
  else (if top=true then [] else [⟨1,0,[]⟩])++(Qe l n).kids.flatMap (fun k=>spV l k false)++(if top=true then [] else [⟨3,0,[]⟩]):=by
 show spF l (n.toNat+1) n top=_
 simp only[spF]
 have:(Qe l n).kids.flatMap (fun k=>spF l n.toNat k false)=(Qe l n).kids.flatMap (fun k=>spV l k false):=by
  refine congrArg List.flatten (List.map_congr_left fun k hk=>?_)
  have:=hw n h0 h1 k hk
  exact Qc3 hw _ _ k false this.1 (by omega) (by omega) (by omega)
 rw[this]
end Go.Proofs.YtibemhahkicbpaaGreat
namespace Go.Proofs.YtibemhahkicbpaaGreat
open Go.RowKit Go.Lib
end Go.Proofs.YtibemhahkicbpaaGreat
namespace Go.Proofs.YtibemhahkicbpaaGreat
open Go.RowKit Go.Lib
structure Evr where
 do_:Int
 kind:Int
 b:Option (List UInt8)
 deriving Inhabited
def Evr.ev (x:Evr):Ev:=⟨x.do_,x.kind,x.b.getD []⟩
def Evr.ba (x:Evr):AV:=match x.b with|some b=>.slc 1 (Q5 b)|none=>QiX
def Evr.av (x:Evr):AV:=.agg [.val (.int .i64 x.do_),.val (.int .i64 x.kind),x.ba]
structure RSt where
 op:List (List Int)
 ev:List Evr
 wr:List Dg
 deriving Inhabited
def Q3W (t:Txt)(c f u:Int)(s:RSt):RSt:=⟨s.op,s.ev,s.wr++[⟨Q1s t f,Q1s t u,c⟩]⟩
def Q7s (t:Txt)(b:List UInt8)(kind f u:Int)(s:RSt):RSt:=⟨s.op,s.ev++[⟨2,kind,some (QL t b f u)⟩],s.wr⟩
def Qgo (t:Txt)(a:Int)(s:RSt):RSt:=⟨s.op.take (s.op.length-1),s.ev++[⟨2,22,none⟩,⟨3,0,none⟩],s.wr++[⟨Q1s t a,Q1s t a,4⟩]⟩
def Q5N (op:List (List Int))(nm:List Int):Nat→Int
 |0=>-1
 |k+1=>if op[k]?.getD []=nm then k else Q5N op nm k
def Q2T (t:Txt)(f:Int)(k:Nat):Nat→RSt→RSt
 |0,s=>s
 |n+1,s=>if k<s.op.length then Q2T t f k n (Qgo t f s) else s
def QaF (t:Txt)(b:List UInt8)(kind f u:Int)(s:RSt):RSt :=
 if 64≤s.op.length then Q7s t b kind f u (Q3W t 5 f u s)
 else Q7s t b kind f u ⟨s.op++[Qs t f u],s.ev++[⟨1,0,none⟩],s.wr⟩
def Qjk (t:Txt)(b:List UInt8)(kind f u:Int)(s:RSt):RSt :=
 if Q5N s.op (Qs t f u) s.op.length<0 then Q7s t b kind f u (Q3W t 3 f u s)
 else
  let s1:=Q7s t b kind f u (Q2T t f ((Q5N s.op (Qs t f u) s.op.length).toNat+1) (s.op.length+1) s)
  ⟨s1.op.take (Q5N s.op (Qs t f u) s.op.length).toNat,s1.ev++[⟨3,0,none⟩],s1.wr⟩
def Q8B (t:Txt)(b:List UInt8)(kind f u:Int)(wh:Bool)(s:RSt):RSt :=
 let s1:=if wh=false then Q3W t 1 f u s else if (kind=8∨kind=9∨kind=10)∧(Qy t.r f u).right=false then Q3W t 2 f u s else s
 if wh=true∧kind=8∧0<(Qs t f u).length then QaF t b kind f u s1
 else if wh=true∧kind=10 then Qjk t b kind f u s1
 else Q7s t b kind f u s1
def Qbs (t:Txt)(b:List UInt8)(s:RSt)(x:Tok):RSt:=Q8B t b x.kind x.from_ x.to x.whole s
def Qlr (t:Txt)(b:List UInt8)(s:RSt):RSt :=
 let s1:=(Q14 t.r).foldl (Qbs t b) s
 Q2T t t.r.length 0 (s1.op.length+1) s1
def Q3n (b:List UInt8):RSt:=⟨[],if 0<(QI b).2 then [⟨2,23,some (b.take (QI b).2.toNat)⟩] else [],[]⟩
def Q1g (b:List UInt8):RSt:=Qlr (Q6 b) b (Q3n b)
theorem QdP {l:List Node}(h:Wf l)(x:Node):∀ (f:Nat) (n:Int) (top:Bool),0≤n→n<l.length→spF (l++[x]) f n top=spF l f n top
 |0,_,_,_,_=>rfl
 |f+1,n,top,h0,h1=>by
  simp only[spF,Q1S h0 h1]
  have e1:pr (l++[x]) n=pr l n:=Q8F h x h0 h1
  have e2:(Qe l n).kids.flatMap (fun k=>spF (l++[x]) f k false)=(Qe l n).kids.flatMap (fun k=>spF l f k false):=by
   refine congrArg List.flatten (List.map_congr_left fun k hk=>?_)
   have:=h n h0 h1 k hk
   exact QdP h x f k false this.1 (by omega)
  rw[e1,e2]
theorem QjS {l:List Node}(h:Wf l)(x:Node){n:Int}(top:Bool)(h0:0≤n)(h1:n<l.length):spV (l++[x]) n top=spV l n top:=QdP h x _ n top h0 h1
def spL (l:List Node)(ks:List Int):List Ev:=ks.flatMap fun k=>spV l k false
theorem Q4m {l:List Node}(h:Wf l)(x:Node){ks:List Int}(hk:InR l ks):spL (l++[x]) ks=spL l ks :=
 congrArg List.flatten (List.map_congr_left fun k hk'=>QjS h x false (hk k hk').1 (hk k hk').2)
theorem QaK (l:List Node)(a b:List Int):spL l (a++b)=spL l a++spL l b:=by simp[spL]
theorem Q7P (l:List Node)(k:Int):spL l [k]=spV l k false:=by simp[spL]
theorem Qb6 {l:List Node}(h:Ar l){kind:Int}(hk:kind≠21)(bs:List UInt8):spV (l++[Qj kind bs]) l.length false=[⟨2,kind,bs⟩]:=by
 have ha:=Q2O h kind bs
 rw[Q8O ha.1.wf (by omega) (by simp only[List.length_append,List.length_singleton];omega),Q1G,if_pos ⟨hk,rfl⟩,ha.2];rfl
theorem Qf0 {l:List Node}(h:Ar l){ks:List Int}(hk:InR l ks):spV (l++[QM l 21 ks]) l.length false=⟨1,0,[]⟩::(spL l ks++[⟨3,0,[]⟩]):=by
 have ha:=Q5l h 21 hk
 rw[Q8O ha.1.wf (by omega) (by simp only[List.length_append,List.length_singleton];omega),Q1G,if_neg (fun e=>e.1 rfl),if_neg (by decide),if_neg (by decide)]
 show [_]++spL (l++[QM l 21 ks]) ks++_=_
 rw[Q4m h.wf _ hk];rfl
theorem QiH {l:List Node}(h:Ar l){ks:List Int}(hk:InR l ks):spV (l++[QM l 20 ks]) l.length true=spL l ks:=by
 have ha:=Q5l h 20 hk
 rw[Q8O ha.1.wf (by omega) (by simp only[List.length_append,List.length_singleton];omega),Q1G,if_neg (fun e=>by cases e.2),if_pos rfl,if_pos rfl]
 show []++spL (l++[QM l 20 ks]) ks++[]=_
 rw[Q4m h.wf _ hk,List.nil_append,List.append_nil]
def evO (l:List Node)(x:Opn):List Ev:=⟨1,0,[]⟩::spL l x.kids
def evS (l:List Node)(s:List Opn):List Ev:=s.flatMap (evO l)
theorem Q5w (l:List Node)(s:List Opn)(x:Opn):evS l (s++[x])=evS l s++evO l x:=by simp[evS]
theorem Q7D {l:List Node}(h:Wf l)(x:Node){s:List Opn}(hs:∀ y∈s,InR l y.kids):evS (l++[x]) s=evS l s :=
 congrArg List.flatten (List.map_congr_left fun y hy=>by unfold evO;rw[Q4m h x (hs y hy)])
structure Rel (m:Mk) (s:RSt):Prop where
 op:s.op=(m.s.drop 1).map Opn.name
 wr:s.wr=m.d
 ev:(⟨1,0,[]⟩:Ev)::s.ev.map Evr.ev=evS m.n m.s
theorem Qfm {s:List Opn}(hs:s≠[])(x:Opn):(s++[x]).drop 1=s.drop 1++[x]:=by
 cases s with
 |nil=>exact absurd rfl hs
 |cons a r=>rfl
section
variable {m:Mk} {s:RSt} {X:List UInt8} {B D:Nat}
theorem Rel.len (h:Rel m s):s.op.length=m.s.length-1:=by rw[h.op];simp
theorem Rel.wrong (h:Rel m s)(t:Txt)(c f u:Int):Rel (Qw t c f u m) (Q3W t c f u s) :=
 ⟨h.op,by show s.wr++_=m.d++_;rw[h.wr],h.ev⟩
theorem Rel.leaf (hm:MkInv m X B D)(h:Rel m s){kind:Int}(hk:kind≠21)(bs:List UInt8)(q:Option (List UInt8))(hq:q.getD []=bs):Rel (Q2g m.n.length (Q1a (Qj kind bs) m)) ⟨s.op,s.ev++[⟨2,kind,q⟩],s.wr⟩:=by
 obtain⟨s0,hs0⟩:=Q1B hm.s1
 generalize QB m.s=y at hs0
 have hr:=hm.rng
 have ho:=h.op
 have he:=h.ev
 rw[hs0] at hr ho he
 have hr0:∀ z∈s0,InR m.n z.kids:=fun z hz=>hr z (List.mem_append_left _ hz)
 have hry:InR m.n y.kids:=hr y (by simp)
 refine⟨?_,h.wr,?_⟩
 ·show s.op=((Q1d m.n.length m.s).drop 1).map Opn.name
  rw[hs0,Q1h,ho]
  cases s0<;>simp
 ·show (⟨1,0,[]⟩:Ev)::(s.ev++[(⟨2,kind,q⟩:Evr)]).map Evr.ev=evS (m.n++[Qj kind bs]) (Q1d m.n.length m.s)
  rw[Q5w] at he
  rw[hs0,Q1h,Q5w,Q7D hm.ar.wf _ hr0]
  unfold evO
  rw[QaK,Q7P,Q4m hm.ar.wf _ hry,Qb6 hm.ar hk,List.map_append,←List.cons_append,he]
  unfold evO Evr.ev
  rw[←hq]
  simp
theorem Rel.push (hm:MkInv m X B D)(h:Rel m s)(bs:List UInt8)(nm:List Int)(k:Int)(hk:k≠21):Rel (Q2g m.n.length (Q1a (Qj k bs) { m with s:=m.s++[⟨nm,[]⟩] })) ⟨s.op++[nm],(s.ev++[⟨1,0,none⟩])++[⟨2,k,some bs⟩],s.wr⟩:=by
 have hne:m.s≠[]:=fun e=>by have:=hm.s1;rw[e] at this;simp at this
 refine⟨?_,h.wr,?_⟩
 ·show s.op++[nm]=((Q1d m.n.length (m.s++[⟨nm,[]⟩])).drop 1).map Opn.name
  rw[Q1h,Qfm hne,List.map_append,←h.op];rfl
 ·show (⟨1,0,[]⟩:Ev)::((s.ev++[(⟨1,0,none⟩:Evr)])++[(⟨2,k,some bs⟩:Evr)]).map Evr.ev=evS (m.n++[Qj k bs]) (Q1d m.n.length (m.s++[⟨nm,[]⟩]))
  rw[Q1h,Q5w,Q7D hm.ar.wf _ hm.rng,←h.ev]
  unfold evO
  rw[List.nil_append,Q7P,Qb6 hm.ar hk]
  simp[Evr.ev]
theorem Qfd (s0:List Opn)(y x:Opn)(z:List Int):(((s0++[y]++[x]).drop 1).map Opn.name).take ((((s0++[y]++[x]).drop 1).map Opn.name).length-1)=((s0++[(⟨y.name,z⟩:Opn)]).drop 1).map Opn.name:=by
 cases s0 with
 |nil=>rfl
 |cons a r =>
  have e:((a::r++[y]++[x]).drop 1).map Opn.name=(r.map Opn.name++[y.name])++[x.name]:=by simp
  rw[e,List.length_append,List.length_singleton,Nat.add_sub_cancel,List.take_left]
  simp
theorem Rel.shut (hm:MkInv m X B D)(h:Rel m s)(hs:2≤m.s.length){kind:Int}(hk:kind≠21)(bs:List UInt8)(q:Option (List UInt8))(hq:q.getD []=bs) :
  Rel (Q16 m.n.length (Q1a (Qj kind bs) m)) ⟨s.op.take (s.op.length-1),s.ev++[⟨2,kind,q⟩,⟨3,0,none⟩],s.wr⟩:=by
 obtain⟨s0,y,hs1⟩:=Q77 hs
 generalize QB m.s=x at hs1
 obtain⟨en,es⟩:=Qao hs1 kind bs
 obtain⟨ha1,hp1⟩:=Q2O hm.ar kind bs
 have hr:=hm.rng
 have ho:=h.op
 have he:=h.ev
 rw[hs1] at hr ho he
 have hr0:∀ z∈s0,InR m.n z.kids:=fun z hz=>hr z (List.mem_append_left _ (List.mem_append_left _ hz))
 have hry:InR m.n y.kids:=hr y (List.mem_append_left _ (by simp))
 have hrx:InR m.n x.kids:=hr x (by simp)
 have hks:InR (m.n++[Qj kind bs]) (x.kids++[(m.n.length:Int)]):=fun k hk=>by
  rcases List.mem_append.1 hk with hk|hk
  ·exact hrx.more _ k hk
  ·obtain rfl:k=(m.n.length:Int):=by simpa using hk
   simp;omega
 have hsp:=Qf0 ha1 hks
 have e1:spL (m.n++[Qj kind bs]) (x.kids++[(m.n.length:Int)])=spL m.n x.kids++[⟨2,kind,bs⟩]:=by
  rw[QaK,Q7P,Q4m hm.ar.wf _ hrx,Qb6 hm.ar hk]
 rw[e1] at hsp
 obtain⟨l1,hl⟩:=exq (m.n++[Qj kind bs])
 rw[←hl] at hsp en es ha1
 generalize QM l1 21 (x.kids++[(m.n.length:Int)])=z at hsp en
 have up0:evS (l1++[z]) s0=evS m.n s0:=by
  rw[Q7D ha1.wf z (fun q hq=>by rw[hl];exact (hr0 q hq).more _),hl,Q7D hm.ar.wf _ hr0]
 have upy:spL (l1++[z]) y.kids=spL m.n y.kids:=by
  rw[Q4m ha1.wf z (by rw[hl];exact hry.more _),hl,Q4m hm.ar.wf _ hry]
 refine⟨?_,h.wr,?_⟩
 ·show s.op.take (s.op.length-1)=_
  rw[es,ho,Qfd]
 ·show (⟨1,0,[]⟩:Ev)::(s.ev++[(⟨2,kind,q⟩:Evr),⟨3,0,none⟩]).map Evr.ev=_
  rw[Q5w,Q5w] at he
  rw[en,es,Q5w,up0,List.map_append,←List.cons_append,he]
  unfold evO
  rw[QaK,Q7P,upy,hsp,←hq]
  simp[Evr.ev]
theorem Rel.miss (hm:MkInv m X B D)(h:Rel m s)(hs:2≤m.s.length)(t:Txt)(a:Int):Rel (Q1Q t a m) (Qgo t a s) :=
 Rel.shut (Q1e hm t 4 a a) (h.wrong t 4 a a) hs (kind:=22) (by decide) [] none rfl
end
theorem Rel.missGo (t:Txt)(f:Int)(k:Nat){X:List UInt8}{B D:Nat}:∀ (n:Nat) (m:Mk) (s:RSt),MkInv m X B D→Rel m s→Rel (Go.Proofs.YtibemhahkicbpaaGreat.missGo t f k n m) (Q2T t f k n s)
 |0,m,s,_,h=>h
 |n+1,m,s,hm,h=>by
  show Rel (if _ then _ else _) (if _ then _ else _)
  rw[h.len]
  split
  ·exact Rel.missGo t f k n _ _ (Q3D hm (by omega) t f).1 (h.miss hm (by omega) t f)
  ·exact h
theorem QdB (s:List Opn)(nm:List Int):∀ k,((Q18 s nm k:Nat):Int)=Q5N ((s.drop 1).map Opn.name) nm k+1
 |0=>rfl
 |k+1=>by
  unfold Q18 Q5N
  have e:((s.drop 1).map Opn.name)[k]?.getD []=(s[k+1]?.getD ⟨[],[]⟩).name:=by
   rw[List.getElem?_map,List.getElem?_drop,Nat.add_comm 1 k]
   cases s[k+1]?<;>rfl
  rw[e]
  split
  ·rfl
  ·exact QdB s nm k
section
variable {m:Mk} {s:RSt} {X:List UInt8} {B D:Nat} {t:Txt} {b:List UInt8} {f u:Int}
theorem Rel.lk (hm:MkInv m X B D)(h:Rel m s){kind:Int}(hk:kind≠21):Rel (lkF t b kind f u m) (Q7s t b kind f u s) :=
 Rel.leaf hm h hk (QL t b f u) (some (QL t b f u)) rfl
theorem Rel.start (hm:MkInv m X B D)(h:Rel m s){kind:Int}(hk:kind≠21):Rel (QZ t b kind f u m) (QaF t b kind f u s):=by
 have h1:=hm.s1
 unfold QZ QaF
 rw[h.len]
 by_cases hc:64<m.s.length
 ·rw[if_pos hc,if_pos (by omega)]
  exact Rel.lk (Q1e hm t 5 f u) (h.wrong t 5 f u) hk
 ·rw[if_neg hc,if_neg (by omega)]
  exact Rel.push hm h (QL t b f u) (Qs t f u) kind hk
theorem Rel.end_ (hm:MkInv m X B D)(h:Rel m s){kind:Int}(hk:kind≠21):Rel (Q1Y t b kind f u m) (Qjk t b kind f u s):=by
 have h1:=hm.s1
 have hf:=QdB m.s (Qs t f u) (m.s.length-1)
 have hle:=Q3M m.s (Qs t f u) (m.s.length-1)
 rw[←h.op] at hf
 unfold Q1Y Qjk
 rw[h.len]
 simp only
 generalize hK:Q18 m.s (Qs t f u) (m.s.length-1)=K at hf hle ⊢
 generalize hR:Q5N s.op (Qs t f u) (m.s.length-1)=r at hf ⊢
 by_cases hc:K=0
 ·rw[if_pos hc,if_pos (by omega)]
  exact Rel.lk (Q1e hm t 3 f u) (h.wrong t 3 f u) hk
 ·rw[if_neg hc,if_neg (by omega)]
  have hr:r.toNat+1=K:=by omega
  rw[show m.s.length-1+1=m.s.length by omega,hr]
  obtain⟨h3,h4⟩:=Q6c t f K m.s.length m hm (by omega) (by omega)
  have h5:=Rel.missGo t f K m.s.length m s hm h
  have h6:=h5.len
  have h7:=Rel.shut h3 h5 (by omega) hk (QL t b f u) (some (QL t b f u)) rfl
  have e:r.toNat=(Q2T t f K m.s.length s).op.length-1:=by omega
  show Rel _ ⟨(Q2T t f K m.s.length s).op.take r.toNat,((Q2T t f K m.s.length s).ev++[_])++[_],_⟩
  rw[e,List.append_assoc]
  exact h7
theorem Rel.token (hm:MkInv m X B D)(h:Rel m s){kind:Int}(hk:kind≠21)(wh:Bool):Rel (Q1f t b kind f u wh m) (Q8B t b kind f u wh s):=by
 unfold Q1f Q8B
 simp only
 generalize hm1:(if wh=false then Qw t 1 f u m else if (kind=8∨kind=9∨kind=10)∧(Qy t.r f u).right=false then Qw t 2 f u m else m)=m1
 generalize hs1:(if wh=false then Q3W t 1 f u s else if (kind=8∨kind=9∨kind=10)∧(Qy t.r f u).right=false then Q3W t 2 f u s else s)=s1
 have h3:∃ D',MkInv m1 X B D'∧Rel m1 s1:=by
  rw[←hm1,←hs1]
  split
  ·exact⟨_,Q1e hm t 1 f u,h.wrong t 1 f u⟩
  ·split
   ·exact⟨_,Q1e hm t 2 f u,h.wrong t 2 f u⟩
   ·exact⟨_,hm,h⟩
 obtain⟨D',h3,h4⟩:=h3
 split
 ·exact Rel.start h3 h4 hk
 ·split
  ·exact Rel.end_ h3 h4 hk
  ·exact Rel.lk h3 h4 hk
end
theorem Rel.toks {t:Txt}{b:List UInt8}(ok:TxtOk t b)(hr:t.r.length≤1000000):∀ (n k:Nat) (m:Mk) (s:RSt) (B D:Nat),t.r.length-k≤n→k≤t.r.length→MkI m (Q4D t b k) B D→Rel m s →
  Rel ((Q1o t.r k).foldl (Q4F t b) m) ((Q1o t.r k).foldl (Qbs t b) s)
 |0,k,m,s,B,D,h,hk,hi,hc=>by
  rw[QU (by omega)];exact hc
 |n+1,k,m,s,B,D,h,hk,hi,hc=>by
  by_cases hlt:k<t.r.length
  ·obtain⟨h1,h2,h3,h4⟩:=Q91 t.r hlt
   rw[Q1j hlt,List.foldl_cons,List.foldl_cons]
   have:=hi.token t b hr (QK t.r k).kind (QK t.r k).from_ (QK t.r k).to (QK t.r k).whole
   rw[h1,h2,Q4q ok (by omega) (by omega) (by omega)] at this
   have hkd:(QK t.r k).kind≠21:=by
    show (((Qv t.r k).1:Nat):Int)≠21
    have:=Q7m t.r k
    omega
   have h5:Rel (Q1f t b (QK t.r k).kind k ((Qv t.r k).2.1:Nat) (QK t.r k).whole m) (Qbs t b s (QK t.r k)):=Rel.token hi.i hc hkd _
   exact Rel.toks ok hr n (Qv t.r k).2.1 _ _ (B+3) (D+3) (by omega) h4 this h5
  ·rw[QU hlt];exact hc
theorem Qfg (b:List UInt8):Rel (Q2B b) (Q3n b):=by
 have h0:Rel mk0 ⟨[],[],[]⟩:=⟨rfl,rfl,rfl⟩
 unfold Q2B Q3n
 split
 ·exact Rel.leaf mk0_inv.i h0 (kind:=23) (by decide) _ (some _) rfl
 ·exact h0
theorem QfL (b:List UInt8)(hb:b.length≤100000):(Q1g b).wr=(Qd b).d∧(Q1g b).ev.map Evr.ev=spV (Qp (Qd b)).n (Qd b).n.length true:=by
 have hs:=Q6o b hb
 have ok:=(Q2y b).1
 have hi:=Q5g b
 obtain⟨h1,h2⟩:=QaG ok hs.hr hi
 have h3:=Rel.toks ok hs.hr (Q6 b).r.length 0 _ _ _ _ (by omega) (by omega) hi (Qfg b)
 have h4:=(Q7V ok hs.hr (Q6 b).r.length 0 _ _ _ (by omega) (by omega) hi)
 have hR:Rel (Qd b) (Q1g b):=by
  show Rel (missGo _ _ _ _ _) (Q2T _ _ _ _ _)
  have e:=h3.len
  have hs1:=h4.i.s1
  show Rel (missGo (Q6 b) _ 0 ((Q1o (Q6 b).r 0).foldl (Q4F (Q6 b) b) (Q2B b)).s.length ((Q1o (Q6 b).r 0).foldl (Q4F (Q6 b) b) (Q2B b))) (Q2T (Q6 b) _ 0 (((Q1o (Q6 b).r 0).foldl (Qbs (Q6 b) b) (Q3n b)).op.length+1) ((Q1o (Q6 b).r 0).foldl (Qbs (Q6 b) b) (Q3n b)))
  rw[e,show ∀ x:Nat,1≤x→x-1+1=x from fun x hx=>by omega]
  ·exact Rel.missGo _ _ _ _ _ _ h4.i h3
  ·exact hs1
 refine⟨hR.wr,?_⟩
 have h2:(Qd b).s.length=1:=h2
 obtain⟨x,hx⟩:=List.length_eq_one_iff.1 h2
 have hr:=h1.i.rng
 have hx':(Q6X (Q6 b) b (Q2B b)).s=[x]:=hx
 rw[hx'] at hr
 have he:=hR.ev
 rw[hx] at he
 have he2:(Q1g b).ev.map Evr.ev=spL (Qd b).n x.kids:=by
  have:evS (Qd b).n [x]=⟨1,0,[]⟩::spL (Qd b).n x.kids:=by simp[evS,evO]
  rw[this] at he
  exact (List.cons.inj he).2
 rw[he2]
 have e3:(Qp (Qd b)).n=(Qd b).n++[QM (Qd b).n 20 x.kids]:=by
  show (Qd b).n++[QM (Qd b).n 20 (QB (Qd b).s).kids]=_
  rw[hx];rfl
 rw[e3]
 exact (QiH h1.i.ar (hr x (by simp))).symm
end Go.Proofs.YtibemhahkicbpaaGreat
