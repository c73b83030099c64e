/- Lemmas; conditions told. -/
import Derived.Test.YtibemhahkicbpaaGreatQJ30
import Derived.Test.YtibemhahkicbpaaGreatQJ25
set_option maxRecDepth 99999
set_option maxHeartbeats 0
set_option linter.unusedSimpArgs false
set_option linter.unusedVariables false
namespace Go.Proofs.YtibemhahkicbpaaGreat
open List(length_take getElem?_eq_getElem getElem_mem getD_eq_getElem?_getD take_of_length_le getElem?_map length_map)
open Int(le_refl lt_or_eq_of_le)
open Go.RowKit Go.Lib
section
open Tryz
structure TgD where
 k:Int
 f:Int
 u:Int
 at_:List AV
 r:Bool
 e:Bool
def tgF(l:List Int)(f u:Int):TgD:=⟨(QD l f u).name.kind,(QD l f u).name.from_,(QD l f u).name.to,Qh (QD l f u).attrs,(QD l f u).right,(QD l f u).empty⟩
def gF(kk:Int)(f:Int->Int):Int->Int:=fun k=>if k=kk then f k+1 else f k
def QaU(l:List Int)(ts:List Tok):Nat:=(ts.map (aT l)).sum
def Qb1(l:List Int)(ts:List Tok):Nat:=(ts.map (bT l)).sum
theorem Qo0(l:List Int)(x:Tok):aT l x<=l.length+1/\bT l x<=aT l x:=by
 have h1:=Q3S l x.from_ x.to;have h2:=Q45 l x.from_ x.to;have h3:=Q5E l (QD l x.from_ x.to).attrs;unfold aT bT;split<;>omega
theorem Qeh{α:Type}(g:α->Nat)(l:List α){k:Nat}(h:k<l.length):((l.take (k+1)).map g).sum=((l.take k).map g).sum+g l[k]:=by
 rw[List.take_succ_eq_append_getElem h,List.map_append,List.sum_append];simp
theorem Qjw{α:Type}(g:α->Nat)(c:Nat)(l:List α)(h:∀x∈l,g x<=c):(l.map g).sum<=c * l.length:=by
 induction l with
 |nil=>simp
 |cons x r ih =>
  have h1:=h x (List.mem_cons_self ..);have h2:=ih fun y hy=>h y (List.mem_cons_of_mem _ hy)
  rw[List.map_cons,List.sum_cons,List.length_cons,Nat.mul_succ];omega
theorem Qkg(l:List Int)(a c:Nat):(((Q0 l).drop a).take c).map intOf=(l.drop a).take c:=by
 rw[List.map_take,List.map_drop];congr 2
 unfold Q0;rw[List.map_map];exact List.map_id _
theorem Qmu(l:List Int)(a c:Int):(std.isR (std.cut (Q0 l) a c)).q:=fun x hx=>by
 have hx:x∈Q0 l:=List.drop_subset _ _ (List.take_subset _ _ hx);obtain⟨n,_,rfl⟩:=List.mem_map.1 hx;exact⟨n,rfl⟩
theorem QdZ:∀(L:List Ev)(x:Int×Int)(c:Nat),(-(c:Int)<=x.1/\x.1<=c/\0<=x.2/\x.2<=c)->(-((c+L.length:Nat):Int)<=(L.foldl Q3R x).1/\(L.foldl Q3R x).1<=((c+L.length:Nat):Int)/\0<=(L.foldl Q3R x).2/\(L.foldl Q3R x).2<=((c+L.length:Nat):Int))
 | [],x,c,h=>h
 |e::L,x,c,h=>by
  have key:-((c+1:Nat):Int)<=(Q3R x e).1/\(Q3R x e).1<=((c+1:Nat):Int)/\0<=(Q3R x e).2/\(Q3R x e).2<=((c+1:Nat):Int):=by
   have hd:-((c+1:Nat):Int)<=dS x.1 e/\dS x.1 e<=((c+1:Nat):Int):=by
    unfold dS;split
    ·omega
    ·split<;>omega
   show _<=dS x.1 e/\dS x.1 e<=_/\0<=(if x.2<dS x.1 e then dS x.1 e else x.2)/\(if x.2<dS x.1 e then dS x.1 e else x.2)<=_;refine⟨hd.1,hd.2,?_,?_⟩<;>split<;>omega
  have ih:=QdZ L (Q3R x e) (c+1) key;rw[List.foldl_cons,List.length_cons,show c+(L.length+1)=c+1+L.length by omega]
  exact ih
theorem QnM(L:List Ev){k:Nat}(h:k<L.length):m1 (L.take (k+1))=m1 (L.take k)+(if L[k].do_=1 then 1 else 0):=by
 rw[List.take_succ_eq_append_getElem h];refine(Q8q _ _ _).trans ?_;congr 1
 rw[Q2s];by_cases hk:L[k].do_=1
 ·rw[decide_eq_true hk,if_pos hk];rfl
 ·rw[decide_eq_false hk,if_neg hk];rfl
theorem Qn4(ds:List Dg)(k:Int){i:Nat}(h:i<ds.length):cD (ds.take (i+1)) k=cD (ds.take i) k+(if ds[i].c=k then 1 else 0):=by
 rw[List.take_succ_eq_append_getElem h];refine(Q8q _ _ _).trans ?_;congr 1
 rw[Q2s];by_cases hk:ds[i].c=k
 ·rw[decide_eq_true hk,if_pos hk];rfl
 ·rw[decide_eq_false hk,if_neg hk];rfl
theorem QpF(ds:List Dg)(k:Int):cD ds k<=ds.length:=List.length_filter_le _ _
def RefIs(nb n:Int)(l:List Int)(ts:List Tok)(ev:List Evr)(ds:List Dg)(RR:Rp):Prop :=
 RR=⟨nb,n,Q60 l,(lcF l l.length).1,(m1 (ev.map Evr.ev):Int)+Q1L ts 9,((ev.map Evr.ev).foldl Q3R (0,0)).2,QaU l ts,Qb1 l ts,
  Q1L ts 0,Q1L ts 1,Q1L ts 2,Q1L ts 3,Q1L ts 4,Q1L ts 5,Q1L ts 6,Q1L ts 7,Q1L ts 8,Q1L ts 9,Q1L ts 10,Q1L ts 11,
  0,cD ds 1,cD ds 2,cD ds 3,cD ds 4,cD ds 5⟩
theorem RefIs.out{nb n:Int}{l:List Int}{ts:List Tok}{ev:List Evr}{ds:List Dg}{RR:Rp}(h:RefIs nb n l ts ev ds RR){k ln E dp bs A B:Int}{f c:Int->Int}
  (h1:IsN (Q60 l) k) (h2:ln=(lcF l l.length).1) (h3:IsN (m1 (ev.map Evr.ev)) E) (h4:(ev.map Evr.ev).foldl Q3R (0,0)=(dp,bs)) (h5:IsN (QaU l ts) A) (h6:IsN (Qb1 l ts) B) (h7:(fun k=>((Q1L ts k:Nat):Int))=f) (h8:(fun k=>((cD ds k:Nat):Int))=c) :
  RR=⟨nb,n,k,ln,E+f 9,bs,A,B,f 0,f 1,f 2,f 3,f 4,f 5,f 6,f 7,f 8,f 9,f 10,f 11,0,c 1,c 2,c 3,c 4,c 5⟩:=by
 subst h7 h8 h2;rw[show k=_ from h1,show E=_ from h3,show A=_ from h5,show B=_ from h6,show RR=_ from h,h4]
def Q4O(kd bm:Int)(R O LN TK SB OP E2 WR:List AV)(tg:Int->Int->TgD)(d1:ByteArray->ByteArray)(d2:ByteArray->Bool):Nat->List AV->List Ob->Option (AV×List Ob):=fun f args _=>match f,args with
 |45,[.slc 1 _]=>some (.agg [.val (.int .i64 kd),.val (.int .i64 bm),.slc 1 R,.slc 1 O],[])
 |71,[.slc 1 _]=>some (.slc 2 LN,[])
 |72,[.slc 1 _]=>some (.slc 4 TK,[])
 |53,[.slc 1 _,.val (.int .i64 a),.val (.int .i64 b)]=>some (.agg [.val (.int .i64 (tg a b).k),.val (.int .i64 (tg a b).f),.val (.int .i64 (tg a b).u),.slc 9 (tg a b).at_,.val (.bool (tg a b).r),.val (.bool (tg a b).e)],[])
 |73,[.val (.string q)]=>some (.tup [.val (.string (d1 q)),.val (.bool (d2 q))],[])
 |14,[.slc 1 _]=>some (.ref [.slc 1 SB,.val (.int .i64 kd),.val (.int .i64 bm),.slc 1 R,.slc 1 O,.slc 1 OP,.slc 3 E2,.slc 3 WR],[])
 |_,_=>none
theorem Qju(b:List UInt8)(hl:b.length<=400)(OP:List AV)(kd bm:Int)(O:List AV)(l:List Int)(ts:List Tok)(ev:List Evr)(ds:List Dg)(nb n:Int)(q6:Len b nb)(hn:Len l n)(hu:∀x∈l,-1<=x)(ki:l.length<=400)(RR:Rp)(ph:∀x∈ts,TokOk l x)(gE:ts.length<=400)(hev:ev.length<=9000000)(pi:∀x∈ds,1<=x.c/\x.c<=5)(zi:ds.length<=400000)(yc:RefIs nb n l ts ev ds RR)
  (cP:BCall prog 14 [.slc 1 (Q2 b)] [] (.ref [.slc 1 (Q2 b),.val (.int .i64 kd),.val (.int .i64 bm),.slc 1 (Q0 l),.slc 1 O,.slc 1 OP,.slc 3 (Qv ev),.slc 3 (Qk ds)]) [])
  (cD:BCall prog 45 [.slc 1 (Q2 b)] [] (.agg [.val (.int .i64 kd),.val (.int .i64 bm),.slc 1 (Q0 l),.slc 1 O]) [])
  (cL:BCall prog 71 [.slc 1 (Q0 l)] [] (.slc 2 (Q2b l (l.length+1))) [])
  (cT:BCall prog 72 [.slc 1 (Q0 l)] [] (.slc 4 (QA ts)) [])
  (cRd:∀f u:Int,0<=f->f<=u->u<=l.length->BCall prog 53 [.slc 1 (Q0 l),.val (.int .i64 f),.val (.int .i64 u)] [] (.agg [.val (.int .i64 (tgF l f u).k),.val (.int .i64 (tgF l f u).f),.val (.int .i64 (tgF l f u).u),.slc 9 (tgF l f u).at_,.val (.bool (tgF l f u).r),.val (.bool (tgF l f u).e)]) []) :
  BCall prog 33 [.slc 1 (Q2 b)] [] (.agg RR.cs) []:=by
 have ze:std.len (Q2 b)=nb:=by show((Q2 b).length:Int)=nb;rw[Q11,q6.eq]
 have jB:std.len (Q0 l)=n:=by show((Q0 l).length:Int)=n;rw[Qx,hn.eq]
 refine fnN (Q4O kd bm (Q0 l) O (Q2b l (l.length+1)) (QA ts) (Q2 b) OP (Qv ev) (Qk ds) (tgF l) d1S d2S) func33 rfl fun _ _=>?_
 with_reducible refine cv9 (Q0 l) (Q2b l (l.length+1)) (QA ts) (Q2 b) (Qv ev) (Qk ds) (tgF l) d1S d2S ?_
 refine⟨cD,?_⟩;refine Q1h (Q4O kd bm (Q0 l) O (Q2b l (l.length+1)) (QA ts) (Q2 b) OP (Qv ev) (Qk ds) (tgF l) d1S d2S) (Int×Int) (fun x=>⟨[(0,.slc 1 (Q2 b)),(2,.box 0 0),(3,.box 1 0),(4,.box 2 0),(29,.slc 1 (Q0 l)),(30,.val (.int .i64 n)),(31,.val (.int .i64 x.1))],[.box rp0.cs,.box [.val (.int .i64 kd),.val (.int .i64 bm),.slc 1 (Q0 l),.slc 1 O],.box (Rp.cs ⟨nb,n,x.2,0,0,0,0,0,0,0,0,0,0,0,0,0,0,0,0,0,0,0,0,0,0,0⟩)]⟩) (fun x=>0<=x.1/\x.1<=n/\IsN (Q60 (l.take x.1.toNat)) x.2) (fun x=>(n-x.1).toNat) (0,0) ?_ ?_ ?_
 ·exact⟨le_refl _,by have:=hn.eq;show(0:Int)<=n;omega,rfl⟩
 ·refine⟨[some 0,some 1,some 2],_,rfl,?_⟩
  exact eq2 jB ze
 ·rintro⟨i,k⟩ ⟨jK,qE,hb⟩
  simp only at jK qE hb
  have pQ:0<=k/\k<=1000000:=by
   have h1:=Qdv (l.take i.toNat);rw[length_take]at h1;rw[hb.eq];omega
  rcases lt_or_eq_of_le qE with jA|jZ
  ·have jS:i.toNat<l.length:=by have:=hn.eq;omega
   have qu:n<=1000000:=by have:=hn.eq;omega
   have jP:=Qcu l jS;have hx:=QJ (l:=l) jK (by have:=hn.eq;omega)
   have vl:-1<=l[i.toNat]?.getD 0:=by rw[getElem?_eq_getElem jS];exact hu _ (getElem_mem jS)
   obtain⟨c,hc⟩:=exq (l[i.toNat]?.getD 0);rw[<-hc]at hx jP vl
   have jU:std.at_ (Q0 l) i=.val (.int .i32 c):=by
    show(Q0 l).getD i.toNat .dead=_
    rw[getD_eq_getElem?_getD];exact hx
   have hX:std.int (std.nth (std.cel (std.at_ (Q0 l) i)) 0)=c:=by rw[jU];rfl
   have yT:std.nth (std.cel (std.at_ (Q0 l) i)) 0=.val (.int .i32 (std.int (std.nth (std.cel (std.at_ (Q0 l) i)) 0))):=by rw[jU];rfl
   have jb:std.ltI i n=true:=decide_eq_true jA;have jR:i<std.len (Q0 l):=by rw[jB];exact jA
   clear hx hc jS jU hu cL cT cRd ph cP pi;with_reducible refine cv9 (Q0 l) (Q2b l (l.length+1)) (QA ts) (Q2 b) (Qv ev) (Qk ds) (tgF l) d1S d2S ?_
   refine⟨fun _=>⟨⟨jK,jR⟩,⟨yT,trivial⟩,fun hq=>?_,fun hq=>?_⟩,fun h=>absurd (jb.symm.trans h) (by decide)⟩
   ·have hq:c<0:=by
     have h:std.int (std.nth (std.cel (std.at_ (Q0 l) i)) 0)<0:=of_decide_eq_true hq;rw[hX]at h;exact h
    rw[if_pos (show c=-1 by omega)]at jP
    refine⟨(show(-9223372036854775808:Int)<=k+1/\k+1<=(9223372036854775807:Int) from by omega),(show(-9223372036854775808:Int)<=i+1/\i+1<=(9223372036854775807:Int) from by omega),(i+1,k+1),⟨?_,?_,?_⟩,?_,[some 0,some 1,some 2],_,rfl,?_⟩
    ·show 0<=i+1;omega
    ·show i+1<=n;omega
    ·show k+1=((Q60 (l.take (i+1).toNat):Nat):Int)
     have e:=hb.eq;rw[show(i+1).toNat=i.toNat+1 by omega,jP];omega
    ·show(n-(i+1)).toNat<(n-i).toNat;omega
    ·exact eq1 jB
   ·have hq:¬c=-1:=fun e=>by
     have h:¬std.int (std.nth (std.cel (std.at_ (Q0 l) i)) 0)<0:=of_decide_eq_false hq;rw[hX]at h;omega
    rw[if_neg hq]at jP;refine⟨(show(-9223372036854775808:Int)<=i+1/\i+1<=(9223372036854775807:Int) from by omega),(i+1,k),⟨?_,?_,?_⟩,?_,[some 0,some 1,some 2],_,rfl,?_⟩
    ·show 0<=i+1;omega
    ·show i+1<=n;omega
    ·show k=((Q60 (l.take (i+1).toNat):Nat):Int)
     have e:=hb.eq;rw[show(i+1).toNat=i.toNat+1 by omega,jP];omega
    ·show(n-(i+1)).toNat<(n-i).toNat;omega
    ·exact eq1 jB
  ·have nl:k=(Q60 l:Int):=by
    have e:=hb.eq;rw[take_of_length_le (by have:=hn.eq;omega)]at e
    exact e
   have v8:std.ltI i n=false:=decide_eq_false (by omega)
   obtain⟨nbad,yF⟩:∃nbad:Int,IsN (Q60 l) nbad:=⟨_,rfl⟩;rw[<-yF.eq]at nl;subst nl;clear hb hu;with_reducible refine cv9 (Q0 l) (Q2b l (l.length+1)) (QA ts) (Q2 b) (Qv ev) (Qk ds) (tgF l) d1S d2S ?_
   refine⟨fun h=>absurd (v8.symm.trans h) (by decide),fun _=>?_⟩
   rw[if_pos trivial];with_reducible refine cv9 (Q0 l) (Q2b l (l.length+1)) (QA ts) (Q2 b) (Qv ev) (Qk ds) (tgF l) d1S d2S ?_
   have qU:std.len (Q2b l (l.length+1))=n+1:=by show((Q2b l (l.length+1)).length:Int)=n+1;rw[Q7d,hn.eq];omega
   have pj:std.at_ (Q2b l (l.length+1)) (std.len (Q0 l))=.agg [.val (.int .i64 (lcF l l.length).1),.val (.int .i64 (lcF l l.length).2)]:=by
    rw[jB];show(Q2b l (l.length+1)).getD n.toNat .dead=_
    rw[Qa7,getD_eq_getElem?_getD,List.getElem?_append_right (by rw[Q7d];have:=hn.eq;omega),Q7d,show n.toNat-l.length=0 by have:=hn.eq;omega];rfl
   obtain⟨ln,hlnE⟩:=exq ((lcF l l.length).1);have hLv:std.int (std.nth (std.drp (std.cel (std.at_ (Q2b l (l.length+1)) (std.len (Q0 l)))) 0) 0)=ln:=by rw[pj,hlnE];rfl
   refine⟨cL,?_,?_,cT,?_⟩
   ·show 0<=std.len (Q0 l)/\std.len (Q0 l)<std.len (Q2b l (l.length+1))
    rw[jB,qU];have:=hn.eq;omega
   ·show(std.all [std.hasI .i64 (std.nth (std.drp (std.cel (std.at_ (Q2b l (l.length+1)) (std.len (Q0 l)))) 0) 0)]).q
    rw[pj];exact⟨rfl,trivial⟩
   clear pj qU;obtain⟨m,hm⟩:=QE ts;have vr:std.len (QA ts)=m:=by show((QA ts).length:Int)=m;rw[Q5G,hm.eq]
   refine Q1h (Q4O kd bm (Q0 l) O (Q2b l (l.length+1)) (QA ts) (Q2 b) OP (Qv ev) (Qk ds) (tgF l) d1S d2S) (Int×Int×Int×(Int->Int)) (fun x=>⟨[(0,.slc 1 (Q2 b)),(2,.box 0 0),(3,.box 1 0),(4,.box 2 0),(55,.slc 4 (QA ts)),(56,.val (.int .i64 m)),(57,.val (.int .i64 x.1))],[.box rp0.cs,.box [.val (.int .i64 kd),.val (.int .i64 bm),.slc 1 (Q0 l),.slc 1 O],.box (Rp.cs ⟨nb,n,k,ln,0,0,x.2.1,x.2.2.1,x.2.2.2 0,x.2.2.2 1,x.2.2.2 2,x.2.2.2 3,x.2.2.2 4,x.2.2.2 5,x.2.2.2 6,x.2.2.2 7,x.2.2.2 8,x.2.2.2 9,x.2.2.2 10,x.2.2.2 11,0,0,0,0,0,0⟩)]⟩) (fun x=>0<=x.1/\x.1<=m/\(∀k,IsN (Q1L (ts.take x.1.toNat) k) (x.2.2.2 k))/\IsN (QaU l (ts.take x.1.toNat)) x.2.1/\IsN (Qb1 l (ts.take x.1.toNat)) x.2.2.1) (fun x=>(m-x.1).toNat) (0,0,0,fun _=>0) ?_ ?_ ?_
   ·exact⟨le_refl _,by have:=hm.eq;show(0:Int)<=m;omega,fun k=>rfl,rfl,rfl⟩
   ·refine⟨[some 0,some 1,some 2],_,rfl,?_⟩
    exact eq2 vr hLv
   ·clear hLv cL cT cD
    rintro⟨i,A,B,f⟩ ⟨jK,qE,hf,hA,hB⟩;simp only at jK qE hf hA hB
    have qT:m<=400:=by have:=hm.eq;omega
    have xT:∀k,0<=f k/\f k<=1000000:=fun k=>by
     have h1:=QgW (ts.take i.toNat) k;rw[length_take]at h1;rw[(hf k).eq];omega
    have hAb:0<=A/\A<=1000000:=by
     have h1:QaU l (ts.take i.toNat)<=401 * (ts.take i.toNat).length:=Qjw _ 401 _ fun x _=>by have:=(Qo0 l x).1;omega
     rw[length_take]at h1;rw[hA.eq];omega
    have hBb:0<=B/\B<=1000000:=by
     have h1:Qb1 l (ts.take i.toNat)<=401 * (ts.take i.toNat).length:=Qjw _ 401 _ fun x _=>by have:=Qo0 l x;omega
     rw[length_take]at h1;rw[hB.eq];omega
    rcases lt_or_eq_of_le qE with jA|jZ
    ·have jS:i.toNat<ts.length:=by have:=hm.eq;omega
     have jP:=fun k=>Qc8 ts k jS
     have zD:QaU l (ts.take (i.toNat+1))=QaU l (ts.take i.toNat)+aT l ts[i.toNat]:=Qeh _ _ jS;have yz:Qb1 l (ts.take (i.toNat+1))=Qb1 l (ts.take i.toNat)+bT l ts[i.toNat]:=Qeh _ _ jS;obtain⟨x,hx⟩:=exq (ts[i.toNat]);have zd:x∈ts:=by rw[hx];exact getElem_mem jS
     have jU:std.at_ (QA ts) i=x.av:=by
      show(QA ts).getD i.toNat .dead=_
      rw[getD_eq_getElem?_getD,QA,getElem?_map,getElem?_eq_getElem jS,hx];rfl
     have jE:=ph x zd;rw[<-hx]at jP zD yz;have q8:=jE.k0;have jX:=jE.k1;have cR:=cRd x.from_ x.to jE.f0 (Int.le_of_lt jE.f1) jE.f2;have qC:=QiN l jE.f0 (Int.le_of_lt jE.f1) jE.f2;have ja:=Q3S l x.from_ x.to;have qD:=Q45 l x.from_ x.to;have hX:std.int (std.nth (std.cel (std.at_ (QA ts) i)) 0)=x.kind:=by rw[jU];rfl
     have hF:std.int (std.nth (std.cel (std.at_ (QA ts) i)) 1)=x.from_:=by rw[jU];rfl
     have hU:std.int (std.nth (std.cel (std.at_ (QA ts) i)) 2)=x.to:=by rw[jU];rfl
     have yT:(std.all [std.hasI .i64 (std.nth (std.cel (std.at_ (QA ts) i)) 0),std.hasI .i64 (std.nth (std.cel (std.at_ (QA ts) i)) 1),std.hasI .i64 (std.nth (std.cel (std.at_ (QA ts) i)) 2),std.hasB (std.nth (std.cel (std.at_ (QA ts) i)) 3)]).q:=by rw[jU];exact⟨rfl,rfl,rfl,rfl,trivial⟩
     unfold aT at zD;unfold bT at yz;generalize x.kind=kk at hX q8 jX jP zD yz;generalize x.from_=F at hF cR qC zD yz ja qD;generalize x.to=U at hU cR qC zD yz ja qD;have jb:std.ltI i m=true:=decide_eq_true jA;have jR:i<std.len (QA ts):=by rw[vr];exact jA
     have qa:∀k,IsN (Q1L (ts.take (i+1).toNat) k) (if k=kk then f k+1 else f k):=fun k=>by
      show(if k=kk then f k+1 else f k)=((Q1L (ts.take (i+1).toNat) k:Nat):Int)
      rw[show(i+1).toNat=i.toNat+1 by omega,jP k,(hf k).eq]
      by_cases h:k=kk
      ·rw[if_pos h,if_pos h.symm];omega
      ·rw[if_neg h,if_neg (fun e=>h e.symm)];omega
     have qK:∀k,(std.inR .i64 (std.add (f k) 1)).q:=fun k=>by
      have:=xT k
      show -9223372036854775808<=f k+1/\f k+1<=9223372036854775807;omega
     clear hx zd jU jP hf jS ph jE cRd cP pi;by_cases h89:kk=8\/kk=9
     ·rw[if_pos h89]at zD yz
      obtain⟨al,pH⟩:=exq ((QD l F U).attrs);rw[<-pH]at qC ja zD yz;have yN:(tgF l F U).at_=Qh al:=by rw[pH];rfl
      obtain⟨na,gm⟩:=QE al;have k8:std.len (tgF l F U).at_=na:=by rw[yN];show((Qh al).length:Int)=na;rw[Q3v,gm.eq]
      have hna0:0<=na:=by have:=gm.eq;omega
      have hna1:na<=402:=by have:=gm.eq;omega
      clear pH;obtain⟨gv,hgv⟩:=exq (gF kk f);rcases h89 with rfl|rfl
      all_goals
       generalize hC:Code.region 14 _ _=C14;generalize hp:std=p;generalize hH:QA ts=TK;rw[hp,hH]at hX hF hU;generalize zS:Q0 l=rx;generalize hLN:Q2b l (l.length+1)=LN;generalize hSB:Q2 b=SB;generalize xC:Qv ev=E2;generalize hWR:Qk ds=WR;generalize htg:tgF l=tg;generalize yu:d1S=d1;generalize cz:d2S=d2;generalize hT:Q4 p tys (Q4O kd bm rx O LN TK SB OP E2 WR tg d1 d2) _ _ _ _=T;cbv at hT;obtain⟨dd,kX⟩:∃dd:Nat,1+1=dd:=⟨_,rfl⟩;cbv at kX;rw[hX,hF,hU]at hT;subst hC;cbv at hT;subst hT;simp only[Tree.ok,Q1,S0];subst hp hH zS hLN hSB xC hWR htg yu cz;refine⟨fun _=>⟨⟨jK,jR⟩,yT,qK _,?_⟩,fun h=>absurd (jb.symm.trans h) (by decide)⟩
       first
        |refine⟨fun _=>⟨cR,?_⟩,fun h=>absurd h (by decide)⟩
        |refine⟨fun h=>absurd h (by decide),fun _=>⟨fun _=>⟨cR,?_⟩,fun h=>absurd h (by decide)⟩⟩
       refine Q1h (Q4O kd bm (Q0 l) O (Q2b l (l.length+1)) (QA ts) (Q2 b) OP (Qv ev) (Qk ds) (tgF l) d1S d2S) (Int×Int×Int) (fun x=>⟨[(0,.slc 1 (Q2 b)),(2,.box 0 0),(3,.box 1 0),(4,.box 2 0),(55,.slc 4 (QA ts)),(56,.val (.int .i64 m)),(57,.val (.int .i64 i)),(84,.slc 9 (tgF l F U).at_),(85,.val (.int .i64 na)),(86,.val (.int .i64 x.1))],[.box rp0.cs,.box [.val (.int .i64 kd),.val (.int .i64 bm),.slc 1 (Q0 l),.slc 1 O],.box (Rp.cs ⟨nb,n,k,ln,0,0,x.2.1,x.2.2,gv 0,gv 1,gv 2,gv 3,gv 4,gv 5,gv 6,gv 7,gv 8,gv 9,gv 10,gv 11,0,0,0,0,0,0⟩)]⟩) (fun x=>0<=x.1/\x.1<=na/\x.2.1=A+x.1/\IsN (Q2e l (al.take x.1.toNat)) (x.2.2-B)) (fun x=>(na-x.1).toNat) (0,A,B) ?_ ?_ ?_
       ·exact⟨le_refl _,hna0,by show A=A+0;omega,by show B-B=((0:Nat):Int);omega⟩
       ·subst hgv
        refine⟨[some 0,some 1,some 2],_,rfl,?_⟩;exact eq1 k8
       ·rintro⟨j,A1,B1⟩ ⟨xp,zK,hA1,gM⟩
        simp only at xp zK hA1 gM
        have hst3:∀k,IsN (Q1L (ts.take (i+1).toNat) k) (gv k):=by rw[hgv];exact qa
        clear hgv
        have hB1b:0<=B1-B/\B1-B<=402:=by
         have h1:=Q5E l (al.take j.toNat);rw[length_take]at h1;rw[gM.eq];have:=gm.eq;omega
        rcases lt_or_eq_of_le zK with yi|hje
        ·have gn:j.toNat<al.length:=by have:=gm.eq;omega
         have yG:=Qaj l al gn;rw[getElem?_eq_getElem gn,Option.getD_some]at yG;obtain⟨y,hy⟩:=exq (al[j.toNat]);rw[<-hy]at yG;obtain⟨y0,y1,y2,ys⟩:=qC y (by rw[hy];exact getElem_mem gn)
         have gK:std.at_ (tgF l F U).at_ j=.agg y.cs:=by
          rw[yN];show(Qh al).getD j.toNat .dead=_
          rw[getD_eq_getElem?_getD,Qh,getElem?_map,getElem?_eq_getElem gn,hy];rfl
         have hq:∀q:Nat,q<9->std.nth (std.cel (std.at_ (tgF l F U).at_ j)) q=.val (.int .i64 (std.int (std.nth (std.cel (std.at_ (tgF l F U).at_ j)) q))):=fun q hq=>by
          rw[gK];rcases q with _|_|_|_|_|_|_|_|_|q<;>first|rfl|omega
         have zu:std.int (std.nth (std.cel (std.at_ (tgF l F U).at_ j)) 1)=y.name.from_:=by rw[gK];rfl
         have yd:std.int (std.nth (std.cel (std.at_ (tgF l F U).at_ j)) 2)=y.name.to:=by rw[gK];rfl
         have vu:std.ltI j na=true:=decide_eq_true yi;have y3:y.name.to<=n:=by rw[hn.eq];exact y2
         have hqs:std.strR (std.cut (Q0 l) (std.int (std.nth (std.cel (std.at_ (tgF l F U).at_ j)) 1)) (std.int (std.nth (std.cel (std.at_ (tgF l F U).at_ j)) 2)))=anS l y.name:=by
          rw[zu,yd,<-ys];show runesBytes ((((Q0 l).drop y.name.from_.toNat).take (y.name.to-y.name.from_).toNat).map intOf)=_;rw[Qkg]
         have cDe:=Qfn (anS l y.name) (by
          have h:=Qba ((l.drop y.name.from_.toNat).take (y.name.to-y.name.from_).toNat);have h2:((l.drop y.name.from_.toNat).take (y.name.to-y.name.from_).toNat).length<=l.length:=by rw[length_take,List.length_drop];omega
          show(Q3Q ((l.drop y.name.from_.toNat).take (y.name.to-y.name.from_).toNat)).toArray.size<=_
          rw[List.size_toArray];omega)
         have hbA:Q6c l y=d2S (std.strR (std.cut (Q0 l) (std.int (std.nth (std.cel (std.at_ (tgF l F U).at_ j)) 1)) (std.int (std.nth (std.cel (std.at_ (tgF l F U).at_ j)) 2)))):=by rw[hqs];rfl
         rw[<-hqs]at cDe;clear hy gK gn qC cR qa zD yz yN qK hqs ys y2 hst3 hA hB;with_reducible refine cv9 (Q0 l) (Q2b l (l.length+1)) (QA ts) (Q2 b) (Qv ev) (Qk ds) (tgF l) d1S d2S ?_
         refine⟨fun _=>⟨⟨xp,?_⟩,⟨hq 0 (by decide),hq 1 (by decide),hq 2 (by decide),hq 3 (by decide),hq 4 (by decide),hq 5 (by decide),hq 6 (by decide),hq 7 (by decide),hq 8 (by decide),trivial⟩,(show(-9223372036854775808:Int)<=A1+1/\A1+1<=(9223372036854775807:Int) from by omega),?_,Qmu l _ _,cDe,fun hd=>?_,fun hd=>?_⟩,fun h=>absurd (vu.symm.trans h) (by decide)⟩
         ·show j<std.len (tgF l F U).at_
          rw[k8];exact yi
         ·show 0<=std.int (std.nth (std.cel (std.at_ (tgF l F U).at_ j)) 1)/\std.int (std.nth (std.cel (std.at_ (tgF l F U).at_ j)) 1)<=std.int (std.nth (std.cel (std.at_ (tgF l F U).at_ j)) 2)/\std.int (std.nth (std.cel (std.at_ (tgF l F U).at_ j)) 2)<=std.len (Q0 l)
          rw[zu,yd,jB];omega
         ·have hd:Q6c l y=true:=hbA.trans hd
          rw[if_pos hd]at yG;refine⟨(show(-9223372036854775808:Int)<=B1+1/\B1+1<=(9223372036854775807:Int) from by omega),(show(-9223372036854775808:Int)<=j+1/\j+1<=(9223372036854775807:Int) from by omega),(j+1,A1+1,B1+1),⟨?_,?_,?_,?_⟩,?_,[some 0,some 1,some 2],_,rfl,?_⟩
          ·show 0<=j+1;omega
          ·show j+1<=na;omega
          ·show A1+1=A+(j+1);omega
          ·show B1+1-B=((Q2e l (al.take (j+1).toNat):Nat):Int)
           have e:=gM.eq;rw[show(j+1).toNat=j.toNat+1 by omega,yG];omega
          ·show(na-(j+1)).toNat<(na-j).toNat;omega
          ·exact eq1 k8
         ·have hd:Q6c l y=false:=hbA.trans hd
          rw[if_neg (by rw[hd];decide)]at yG
          refine⟨(show(-9223372036854775808:Int)<=j+1/\j+1<=(9223372036854775807:Int) from by omega),(j+1,A1+1,B1),⟨?_,?_,?_,?_⟩,?_,[some 0,some 1,some 2],_,rfl,?_⟩
          ·show 0<=j+1;omega
          ·show j+1<=na;omega
          ·show A1+1=A+(j+1);omega
          ·show B1-B=((Q2e l (al.take (j+1).toNat):Nat):Int)
           have e:=gM.eq;rw[show(j+1).toNat=j.toNat+1 by omega,yG];omega
          ·show(na-(j+1)).toNat<(na-j).toNat;omega
          ·exact eq1 k8
        ·have xz:std.ltI j na=false:=decide_eq_false (by omega)
         have eB:IsN (Q2e l al) (B1-B):=by
          rw[take_of_length_le (by have:=gm.eq;omega)]at gM
          exact gM
         have hA4:IsN (QaU l (ts.take (i+1).toNat)) A1:=by
          show A1=((QaU l (ts.take (i+1).toNat):Nat):Int);have e1:=hA.eq;have e2:=gm.eq;rw[show(i+1).toNat=i.toNat+1 by omega,zD];omega
         have hB4:IsN (Qb1 l (ts.take (i+1).toNat)) B1:=by
          show B1=((Qb1 l (ts.take (i+1).toNat):Nat):Int);have e1:=hB.eq;have e2:=eB.eq;rw[show(i+1).toNat=i.toNat+1 by omega,yz];omega
         clear gM zD yz hA hB eB qC cR qa yN qK;with_reducible refine cv9 (Q0 l) (Q2b l (l.length+1)) (QA ts) (Q2 b) (Qv ev) (Qk ds) (tgF l) d1S d2S ?_
         refine⟨fun h=>absurd (xz.symm.trans h) (by decide),fun _=>?_⟩
         rw[if_pos trivial];with_reducible refine cv9 (Q0 l) (Q2b l (l.length+1)) (QA ts) (Q2 b) (Qv ev) (Qk ds) (tgF l) d1S d2S ?_
         refine⟨(show(-9223372036854775808:Int)<=i+1/\i+1<=(9223372036854775807:Int) from by omega),(i+1,A1,B1,gv),⟨?_,?_,hst3,hA4,hB4⟩,?_,[some 0,some 1,some 2],_,rfl,?_⟩
         ·show 0<=i+1;omega
         ·show i+1<=m;omega
         ·show(m-(i+1)).toNat<(m-i).toNat;omega
         ·exact eq1 vr
     ·rw[if_neg h89]at zD yz
      have hA4:IsN (QaU l (ts.take (i+1).toNat)) A:=by
       show A=((QaU l (ts.take (i+1).toNat):Nat):Int);have e1:=hA.eq;rw[show(i+1).toNat=i.toNat+1 by omega,zD];omega
      have hB4:IsN (Qb1 l (ts.take (i+1).toNat)) B:=by
       show B=((Qb1 l (ts.take (i+1).toNat):Nat):Int);have e1:=hB.eq;rw[show(i+1).toNat=i.toNat+1 by omega,yz];omega
      clear zD yz hA hB qC ja qD cR;obtain rfl|rfl|rfl|rfl|rfl|rfl|rfl|rfl|rfl:kk=1\/kk=2\/kk=3\/kk=4\/kk=5\/kk=6\/kk=7\/kk=10\/kk=11:=by omega
      all_goals
       clear h89;generalize hC:Code.region 14 _ _=C14;generalize hp:std=p;generalize hH:QA ts=TK;rw[hp,hH]at hX hF hU;generalize zS:Q0 l=rx;generalize hLN:Q2b l (l.length+1)=LN;generalize hSB:Q2 b=SB;generalize xC:Qv ev=E2;generalize hWR:Qk ds=WR;generalize htg:tgF l=tg;generalize yu:d1S=d1;generalize cz:d2S=d2;generalize hT:Q4 p tys (Q4O kd bm rx O LN TK SB OP E2 WR tg d1 d2) _ _ _ _=T;cbv at hT;obtain⟨dd,kX⟩:∃dd:Nat,1+1=dd:=⟨_,rfl⟩;cbv at kX;rw[hX,hF,hU]at hT;subst hC;cbv at hT;subst hT;simp only[Tree.ok,Q1,S0];subst hp hH zS hLN hSB xC hWR htg yu cz;refine⟨fun _=>⟨⟨jK,jR⟩,yT,qK _,fun h=>absurd h (by decide),fun _=>⟨fun h=>absurd h (by decide),fun _=>?_⟩⟩,fun h=>absurd (jb.symm.trans h) (by decide)⟩
       refine⟨(show(-9223372036854775808:Int)<=i+1/\i+1<=(9223372036854775807:Int) from by omega),(i+1,A,B,_),⟨?_,?_,qa,hA4,hB4⟩,?_,[some 0,some 1,some 2],_,rfl,?_⟩
       rotate_left 3
       exact eq1 vr
       ·show 0<=i+1;omega
       ·show i+1<=m;omega
       ·show(m-(i+1)).toNat<(m-i).toNat;omega
    ·have np:(fun k=>((Q1L ts k:Nat):Int))=f:=funext fun k=>by
      have e:=(hf k).eq;rw[take_of_length_le (by have:=hm.eq;omega)]at e
      exact e.symm
     have nu:IsN (QaU l ts) A:=by
      rw[take_of_length_le (by have:=hm.eq;omega)]at hA
      exact hA
     have hBt:IsN (Qb1 l ts) B:=by
      rw[take_of_length_le (by have:=hm.eq;omega)]at hB
      exact hB
     have xz:std.ltI i m=false:=decide_eq_false (by omega)
     have hf9:0<=f 9/\f 9<=1000000:=xT 9;clear hf hA hB ph cRd xT;generalize Code.region 14 _ _=C14;with_reducible refine cv9 (Q0 l) (Q2b l (l.length+1)) (QA ts) (Q2 b) (Qv ev) (Qk ds) (tgF l) d1S d2S ?_
     refine⟨fun h=>absurd (xz.symm.trans h) (by decide),fun _=>?_⟩
     rw[if_pos trivial];with_reducible refine cv9 (Q0 l) (Q2b l (l.length+1)) (QA ts) (Q2 b) (Qv ev) (Qk ds) (tgF l) d1S d2S ?_
     refine⟨cP,⟨.inl rfl,trivial⟩,?_⟩;obtain⟨ne,jJ⟩:=QE ev;have jf:std.len (Qv ev)=ne:=by show((Qv ev).length:Int)=ne;rw[Q6A,jJ.eq]
     have hne9:ne<=9000000:=by have:=jJ.eq;omega
     clear cP;refine Q1h (Q4O kd bm (Q0 l) O (Q2b l (l.length+1)) (QA ts) (Q2 b) OP (Qv ev) (Qk ds) (tgF l) d1S d2S) (Int×Int×Int×Int) (fun x=>⟨[(2,.box 0 0),(4,.box 1 0),(14,.ref [.slc 1 (Q2 b),.val (.int .i64 kd),.val (.int .i64 bm),.slc 1 (Q0 l),.slc 1 O,.slc 1 OP,.slc 3 (Qv ev),.slc 3 (Qk ds)]),(15,.val (.int .i64 x.2.1)),(120,.slc 3 (Qv ev)),(121,.val (.int .i64 ne)),(122,.val (.int .i64 x.1))],[.box rp0.cs,.box (Rp.cs ⟨nb,n,k,ln,x.2.2.1,x.2.2.2,A,B,f 0,f 1,f 2,f 3,f 4,f 5,f 6,f 7,f 8,f 9,f 10,f 11,0,0,0,0,0,0⟩)]⟩) (fun x=>0<=x.1/\x.1<=ne/\IsN (m1 ((ev.map Evr.ev).take x.1.toNat)) x.2.2.1/\((ev.map Evr.ev).take x.1.toNat).foldl Q3R (0,0)=(x.2.1,x.2.2.2)) (fun x=>(ne-x.1).toNat) (0,0,0,0) ?_ ?_ ?_
     ·exact⟨le_refl _,by have:=jJ.eq;show(0:Int)<=ne;omega,rfl,rfl⟩
     ·refine⟨[some 0,some 2],_,rfl,?_⟩
      exact eq1 jf
     ·rintro⟨v,dp,E,bs⟩ ⟨gD,gz,hE,hD⟩
      simp only at gD gz hE hD
      have cj:=QdZ ((ev.map Evr.ev).take v.toNat) (0,0) 0 ⟨le_refl _,le_refl _,le_refl _,le_refl _⟩;rw[hD,length_take]at cj
      have hrg1:-9000000<=dp/\dp<=9000000/\0<=bs/\bs<=9000000:=by
       have h9:(ev.map Evr.ev).length=ev.length:=length_map _;obtain⟨q1,q2,q3,q4⟩:=cj;simp only at q1 q2 q3 q4
       omega
      have hEb:0<=E/\E<=9000000:=by
       have h1:m1 ((ev.map Evr.ev).take v.toNat)<=((ev.map Evr.ev).take v.toNat).length:=List.length_filter_le _ _;rw[length_take,length_map]at h1;rw[hE.eq];omega
      clear cj;rcases lt_or_eq_of_le gz with nN|hve
      ·have jS:v.toNat<(ev.map Evr.ev).length:=by rw[length_map];have:=jJ.eq;omega
       have pI:=QnM (ev.map Evr.ev) jS;have hsD:=Qin Q3R (0,0) (ev.map Evr.ev) jS;rw[hD]at hsD;have qh:v.toNat<ev.length:=by have:=jJ.eq;omega
       rw[List.getElem_map]at pI hsD
       have jU:std.at_ (Qv ev) v=(ev[v.toNat]).av:=by
        show(Qv ev).getD v.toNat .dead=_
        rw[getD_eq_getElem?_getD,Qv,getElem?_map,getElem?_eq_getElem qh];rfl
       generalize ev[v.toNat]=e at pI hsD jU;have hX:std.int (std.nth (std.cel (std.at_ (Qv ev) v)) 0)=e.do_:=by rw[jU];rfl
       have yT:(std.all [std.hasI .i64 (std.nth (std.cel (std.at_ (Qv ev) v)) 0),std.hasI .i64 (std.nth (std.cel (std.at_ (Qv ev) v)) 1),std.hasL 1 (std.nth (std.cel (std.at_ (Qv ev) v)) 2)]).q:=by
        rw[jU];refine⟨rfl,rfl,?_,trivial⟩;show(std.hasL 1 e.ba).q
        unfold Evr.ba;split
        ·exact .inl rfl
        ·exact .inr rfl
       have gp:((ev.map Evr.ev).take (v.toNat+1)).foldl Q3R (0,0)=(dS dp e.ev,if bs<dS dp e.ev then dS dp e.ev else bs):=hsD;have hdo:e.ev.do_=e.do_:=rfl;unfold dS at gp;rw[hdo]at gp pI;generalize e.do_=dd at hX pI gp;have jb:std.ltI v ne=true:=decide_eq_true nN;have jR:v<std.len (Qv ev):=by rw[jf];exact nN
       have hjE1:dd=1->IsN (m1 ((ev.map Evr.ev).take (v+1).toNat)) (E+1):=fun h=>by
        show E+1=((m1 _:Nat):Int);have e:=hE.eq;rw[show(v+1).toNat=v.toNat+1 by omega,pI,if_pos h];omega
       have ka:¬dd=1->IsN (m1 ((ev.map Evr.ev).take (v+1).toNat)) E:=fun h=>by
        show E=((m1 _:Nat):Int);have e:=hE.eq;rw[show(v+1).toNat=v.toNat+1 by omega,pI,if_neg h];omega
       have hjD:=gp;rw[show v.toNat+1=(v+1).toNat by omega]at hjD
       clear hsD jU jS qh hdo hD pi pI gp hE;with_reducible refine cv9 (Q0 l) (Q2b l (l.length+1)) (QA ts) (Q2 b) (Qv ev) (Qk ds) (tgF l) d1S d2S ?_
       have hbq:∀d:Int,std.ltI bs d=true->bs<d:=fun d h=>of_decide_eq_true h
       have kN:∀d:Int,std.ltI bs d=false->¬bs<d:=fun d h=>of_decide_eq_false h
       have hZ:(std.inR .i64 (std.add v 1)).q:=(show(-9223372036854775808:Int)<=v+1/\v+1<=(9223372036854775807:Int) from by omega)
       have hE1q:(std.inR .i64 (std.add E 1)).q:=(show(-9223372036854775808:Int)<=E+1/\E+1<=(9223372036854775807:Int) from by omega)
       have hd1q:(std.inR .i64 (std.add dp 1)).q:=(show(-9223372036854775808:Int)<=dp+1/\dp+1<=(9223372036854775807:Int) from by omega)
       have hdmq:(std.inR .i64 (std.sub dp 1)).q:=(show(-9223372036854775808:Int)<=dp-1/\dp-1<=(9223372036854775807:Int) from by omega)
       refine⟨fun _=>⟨⟨gD,jR⟩,yT,fun h1=>?_,fun h1=>?_⟩,fun h=>absurd (jb.symm.trans h) (by decide)⟩
       ·have e:dd=1:=by rw[<-hX];exact eq_of_beq h1
        have zZ:=hjD;rw[if_pos e]at zZ;refine⟨hE1q,hd1q,fun h3=>?_,fun h3=>⟨fun hb=>?_,fun hb=>?_⟩⟩
        ·have h:std.int (std.nth (std.cel (std.at_ (Qv ev) v)) 0)=3:=eq_of_beq h3
         rw[hX,e]at h;exact absurd h (by decide)
        ·rw[if_pos (hbq (dp+1) hb)]at zZ
         refine⟨hZ,(v+1,dp+1,E+1,dp+1),⟨(show 0<=v+1 by omega),(show v+1<=ne by omega),hjE1 e,zZ⟩,(show(ne-(v+1)).toNat<(ne-v).toNat by omega),[some 0,some 1],_,rfl,?_⟩
         exact eq1 jf
        ·rw[if_neg (kN (dp+1) hb)]at zZ
         refine⟨hZ,(v+1,dp+1,E+1,bs),⟨(show 0<=v+1 by omega),(show v+1<=ne by omega),hjE1 e,zZ⟩,(show(ne-(v+1)).toNat<(ne-v).toNat by omega),[some 0,some 1],_,rfl,?_⟩
         exact eq1 jf
       ·have e:¬dd=1:=fun e=>by
         have h:(std.int (std.nth (std.cel (std.at_ (Qv ev) v)) 0) == 1)=false:=h1;rw[hX,e]at h;exact absurd h (by decide)
        have zZ:=hjD;rw[if_neg e]at zZ;refine⟨fun h3=>⟨hdmq,fun hb=>?_,fun hb=>?_⟩,fun h3=>⟨fun hb=>?_,fun hb=>?_⟩⟩
        ·have e3:dd=3:=by rw[<-hX];exact eq_of_beq h3
         rw[if_pos e3,if_pos (hbq (dp-1) hb)]at zZ;refine⟨hZ,(v+1,dp-1,E,dp-1),⟨(show 0<=v+1 by omega),(show v+1<=ne by omega),ka e,zZ⟩,(show(ne-(v+1)).toNat<(ne-v).toNat by omega),[some 0,some 1],_,rfl,?_⟩
         exact eq1 jf
        ·have e3:dd=3:=by rw[<-hX];exact eq_of_beq h3
         rw[if_pos e3,if_neg (kN (dp-1) hb)]at zZ;refine⟨hZ,(v+1,dp-1,E,bs),⟨(show 0<=v+1 by omega),(show v+1<=ne by omega),ka e,zZ⟩,(show(ne-(v+1)).toNat<(ne-v).toNat by omega),[some 0,some 1],_,rfl,?_⟩
         exact eq1 jf
        ·have e3:¬dd=3:=fun e=>by
          have h:(std.int (std.nth (std.cel (std.at_ (Qv ev) v)) 0) == 3)=false:=h3;rw[hX,e]at h;exact absurd h (by decide)
         rw[if_neg e3,if_pos (hbq dp hb)]at zZ;refine⟨hZ,(v+1,dp,E,dp),⟨(show 0<=v+1 by omega),(show v+1<=ne by omega),ka e,zZ⟩,(show(ne-(v+1)).toNat<(ne-v).toNat by omega),[some 0,some 1],_,rfl,?_⟩
         exact eq1 jf
        ·have e3:¬dd=3:=fun e=>by
          have h:(std.int (std.nth (std.cel (std.at_ (Qv ev) v)) 0) == 3)=false:=h3;rw[hX,e]at h;exact absurd h (by decide)
         rw[if_neg e3,if_neg (kN dp hb)]at zZ;refine⟨hZ,(v+1,dp,E,bs),⟨(show 0<=v+1 by omega),(show v+1<=ne by omega),ka e,zZ⟩,(show(ne-(v+1)).toNat<(ne-v).toNat by omega),[some 0,some 1],_,rfl,?_⟩
         exact eq1 jf
      ·have vm:(ev.map Evr.ev).take v.toNat=ev.map Evr.ev:=take_of_length_le (by rw[length_map];have:=jJ.eq;omega)
       rw[vm]at hE hD;have hl4:std.ltI v ne=false:=decide_eq_false (by omega)
       with_reducible refine cv9 (Q0 l) (Q2b l (l.length+1)) (QA ts) (Q2 b) (Qv ev) (Qk ds) (tgF l) d1S d2S ?_
       refine⟨fun h=>absurd (hl4.symm.trans h) (by decide),fun _=>?_⟩
       rw[if_pos trivial];with_reducible refine cv9 (Q0 l) (Q2b l (l.length+1)) (QA ts) (Q2 b) (Qv ev) (Qk ds) (tgF l) d1S d2S ?_
       obtain⟨nd,hnd⟩:=QE ds;have gG:std.len (Qk ds)=nd:=by show((Qk ds).length:Int)=nd;rw[Qk,length_map,hnd.eq]
       have hnd9:nd<=400000:=by rw[hnd.eq];omega
       refine⟨(show(-9223372036854775808:Int)<=E+f 9/\E+f 9<=(9223372036854775807:Int) from by omega),⟨.inl rfl,trivial⟩,?_⟩
       refine Q1h (Q4O kd bm (Q0 l) O (Q2b l (l.length+1)) (QA ts) (Q2 b) OP (Qv ev) (Qk ds) (tgF l) d1S d2S) (Int×(Int->Int)) (fun x=>⟨[(2,.box 0 0),(4,.box 1 0),(157,.slc 3 (Qk ds)),(158,.val (.int .i64 nd)),(159,.val (.int .i64 x.1))],[.box rp0.cs,.box (Rp.cs ⟨nb,n,k,ln,E+f 9,bs,A,B,f 0,f 1,f 2,f 3,f 4,f 5,f 6,f 7,f 8,f 9,f 10,f 11,0,x.2 1,x.2 2,x.2 3,x.2 4,x.2 5⟩)]⟩) (fun x=>0<=x.1/\x.1<=nd/\∀k,IsN (cD (ds.take x.1.toNat) k) (x.2 k)) (fun x=>(nd-x.1).toNat) (0,fun _=>0) ?_ ?_ ?_
       ·exact⟨le_refl _,by have:=hnd.eq;show(0:Int)<=nd;omega,fun k=>rfl⟩
       ·refine⟨[some 0,some 1],_,rfl,?_⟩
        exact eq1 gG
       ·rintro⟨u,c⟩ ⟨pU,hu1,hc⟩
        simp only at pU hu1 hc
        have pv:∀k,0<=c k/\c k<=400000:=fun k=>by
         have h1:=QpF (ds.take u.toNat) k;rw[length_take]at h1;rw[(hc k).eq];omega
        rcases lt_or_eq_of_le hu1 with hul|hue
        ·have jS:u.toNat<ds.length:=by have:=hnd.eq;omega
         have jP:=fun k=>Qn4 ds k jS
         obtain⟨x,hx⟩:=exq (ds[u.toNat]);have zd:x∈ds:=by rw[hx];exact getElem_mem jS
         have jU:std.at_ (Qk ds) u=x.av:=by
          show(Qk ds).getD u.toNat .dead=_
          rw[getD_eq_getElem?_getD,Qk,getElem?_map,getElem?_eq_getElem jS,hx];rfl
         obtain⟨q8,jX⟩:=pi x zd;rw[<-hx]at jP;have hX:std.int (std.nth (std.cel (std.at_ (Qk ds) u)) 2)=x.c:=by rw[jU];rfl
         have yT:(std.all [std.hasI .i64 (std.nth (std.cel (std.at_ (Qk ds) u)) 0),std.hasI .i64 (std.nth (std.cel (std.at_ (Qk ds) u)) 1),std.hasI .i64 (std.nth (std.cel (std.at_ (Qk ds) u)) 2)]).q:=by rw[jU];exact⟨rfl,rfl,rfl,trivial⟩
         generalize x.c=kk at hX q8 jX jP;have jb:std.ltI u nd=true:=decide_eq_true hul;have jR:u<std.len (Qk ds):=by rw[gG];exact hul
         have qa:∀k,IsN (cD (ds.take (u+1).toNat) k) (if k=kk then c k+1 else c k):=fun k=>by
          show(if k=kk then c k+1 else c k)=((cD (ds.take (u+1).toNat) k:Nat):Int)
          rw[show(u+1).toNat=u.toNat+1 by omega,jP k,(hc k).eq]
          by_cases h:k=kk
          ·rw[if_pos h,if_pos h.symm];omega
          ·rw[if_neg h,if_neg (fun e=>h e.symm)];omega
         have qK:∀k,(std.inR .i64 (std.add (c k) 1)).q:=fun k=>by
          have:=pv k
          show -9223372036854775808<=c k+1/\c k+1<=9223372036854775807;omega
         clear hx zd jU jP jS pi hc hE hD jf hrg1 vm yc;obtain rfl|rfl|rfl|rfl|rfl:kk=1\/kk=2\/kk=3\/kk=4\/kk=5:=by omega
         all_goals
          generalize hC:Code.region 42 _ _=C42;generalize hp:std=p;generalize hDD:Qk ds=DD;rw[hp,hDD]at hX;generalize zS:Q0 l=rx;generalize hLN:Q2b l (l.length+1)=LN;generalize hH:QA ts=TK;generalize hSB:Q2 b=SB;generalize xC:Qv ev=E2;generalize htg:tgF l=tg;generalize yu:d1S=d1;generalize cz:d2S=d2;generalize hT:Q4 p tys (Q4O kd bm rx O LN TK SB OP E2 DD tg d1 d2) _ _ _ _=T;cbv at hT;obtain⟨dd,kX⟩:∃dd:Nat,1+1=dd:=⟨_,rfl⟩;cbv at kX;rw[hX]at hT;subst hC;cbv at hT;subst hT;simp only[Tree.ok,Q1,S0];subst hp hDD;refine⟨fun _=>⟨⟨pU,jR⟩,yT,qK _,(show(-9223372036854775808:Int)<=u+1/\u+1<=(9223372036854775807:Int) from by omega),(u+1,_),⟨?_,?_,qa⟩,?_,[some 0,some 1],_,rfl,?_⟩,fun h=>absurd (jb.symm.trans h) (by decide)⟩
          rotate_left 3
          exact eq1 gG
          ·show 0<=u+1;omega
          ·show u+1<=nd;omega
          ·show(nd-(u+1)).toNat<(nd-u).toNat;omega
        ·have hcc:(fun k=>((cD ds k:Nat):Int))=c:=funext fun k=>by
          have e:=(hc k).eq;rw[take_of_length_le (by have:=hnd.eq;omega)]at e
          exact e.symm
         have hR:=yc.out yF hlnE hE hD nu hBt np hcc;rw[hR];have hl5:std.ltI u nd=false:=decide_eq_false (by omega)
         clear hc hcc np nu hBt hE hD vm yc hR yF pi;unfold Rp.cs;generalize Code.region 42 _ _=C42;with_reducible refine cv9 (Q0 l) (Q2b l (l.length+1)) (QA ts) (Q2 b) (Qv ev) (Qk ds) (tgF l) d1S d2S ?_
         refine⟨fun h=>absurd (hl5.symm.trans h) (by decide),fun _=>?_⟩
         rw[if_pos trivial];with_reducible refine cv9 (Q0 l) (Q2b l (l.length+1)) (QA ts) (Q2 b) (Qv ev) (Qk ds) (tgF l) d1S d2S ?_
         exact .pure rfl ⟨.inl rfl,.inl rfl,.inl rfl,.inl rfl,.inl rfl,.inl rfl,.inl rfl,.inl rfl,.inl rfl,.inl rfl,.inl rfl,.inl rfl,.inl rfl,.inl rfl,.inl rfl,.inl rfl,.inl rfl,.inl rfl,.inl rfl,.inl rfl,.inl rfl,.inl rfl,.inl rfl,.inl rfl,.inl rfl,.inl rfl,trivial⟩
