/-
  Parts of the proof, joined: Ua. Conditions: as each theorem says.
-/
import Derived.Test.YtibemhahkicbpaaGreatQH20
import Derived.Test.YtibemhahkicbpaaGreatQH04
set_option maxRecDepth 100000
set_option maxHeartbeats 8000000
namespace Go.Proofs.YtibemhahkicbpaaGreat
open Go.RowKit Go.Lib Tryz
theorem Qjh (a:List UInt8):BCall prog 75 [.slc 1 (Q3 a),.slc 1 (Q3 a)] [] (.val (.bool true)) []:=by
 have hB:∀ y∈Q3 a,∃ n:UInt8,y=.val (.int .u8 n.toNat):=Q82 _
 refine fnN (cs:=cs0) func75 rfl (by kernel_rfl) ?_
 intro w0 g0
 generalize hp:std=p,hA':Q3 a=A'
 generalize hT:Q8 p tys (cs0) _ _ _ _=T
 cbv at hT
 subst hT
 simp only[Tree.ok,Q4,S0]
 subst hp hA'
 refine⟨hB,hB,.pure rfl (.inl ?_)⟩
 show AV.val (.bool (std.eqS _ _))=_
 rw[Qb3]
theorem Qgt (l:List Node)(c:Cur):BCall prog 64 [.agg (c.el (Q0 l))] [] (.val (.int .i64 c.n)) []:=by
 rw[Cur.el]
 obtain⟨cn,hcn⟩:=exq c.n
 obtain⟨cf,hcf⟩:=exq c.f
 obtain⟨ck,hck⟩:=exq c.k
 rw[←hcn,←hcf,←hck]
 refine fnN (cs:=cs0) func64 rfl (by kernel_rfl) ?_
 intro w0 g0
 generalize hp:std=p
 generalize hU:upO (Q0 l) c=U
 generalize hN:Q0 l=N
 generalize hT:Q8 p tys (cs0) _ _ _ _=T
 cbv at hT
 subst hT
 simp only[Tree.ok,Q4,S0]
 subst hp hU hN
 exact .pure rfl (.inl rfl)
def Q9d:Int→List Tok→Int→Prop
 |k,[],n=>k=n
 |k,t::ts,n=>t.from_=k∧k<t.to∧Q9d t.to ts n
theorem QaH:∀ (ts:List ((Nat×Nat×Bool)×Nat)) (k n:Nat),QcN k ts n→Q9d k (ts.map Qju) n
 | [],k,n,h=>by
  have h:k=n:=h
  show (k:Int)=n
  omega
 |t::ts,k,n,h=>by
  obtain⟨h1,h2,h3⟩:=(show t.2=k∧k<t.1.2.1∧QcN t.1.2.1 ts n from h)
  refine⟨?_,?_,QaH ts _ n h3⟩
  ·show ((t.2:Nat):Int)=k
   omega
  ·show (k:Int)<((t.1.2.1:Nat):Int)
   omega
theorem QeZ (l:List Int):Q9d 0 (Q3M l) l.length:=QaH _ 0 _ (Qcl l l.length 0 (by omega) (Nat.zero_le _))
def Qea (TK:List AV):Nat→List AV→List Ob→Option (AV×List Ob):=fun f args _=>match f,args with
 |87,[.slc 1 _]=>some (.slc 4 TK,[])
 |_,_=>none
theorem Qe4 (l:List Int)(hl:l.length≤1000000):BCall prog 74 [.slc 1 (Q5 l)] [] (.val (.bool true)) []:=by
 have cT:=Q7T l hl
 have hcut:=QeZ l
 have htl:(Q3M l).length≤1000000:=by
  have key:∀ (ts:List Tok) (k n:Int),Q9d k ts n→k+ts.length≤n:=by
   intro ts
   induction ts with
   |nil=>intro k n h;have h:k=n:=h;simp;omega
   |cons t ts ih =>
    intro k n h
    obtain⟨_,h2,h3⟩:=h
    have:=ih _ _ h3
    simp only[List.length_cons];omega
  have:=key _ _ _ hcut
  omega
 obtain⟨n,hn⟩:=QS l
 obtain⟨nt,hnt⟩:=QS (Q3M l)
 have hxl:=Q1i l
 have hrl:std.len (Q5 l)=n:=by show ((Q5 l).length:Int)=n;rw[hxl,hn.eq]
 have htk:std.len (QL (Q3M l))=nt:=by show ((QL (Q3M l)).length:Int)=nt;rw[Q7U,hnt.eq]
 rw[←hn.eq] at hcut
 obtain⟨ts,hts⟩:=exq (Q3M l)
 rw[←hts] at cT hcut htl htk hnt
 clear hts hl
 refine fnN (cs:=Qea (QL ts)) func74 rfl (by kernel_rfl) ?_
 intro w0 g0
 generalize hp:std=p,hTK:QL ts=TK,hrx:Q5 l=rx
 generalize hT:Q8 p tys (Qea TK) _ _ _ _=T
 cbv at hT
 subst hT
 simp only[Tree.ok,Q4,S0]
 subst hp hTK hrx
 refine⟨cT,?_⟩
 refine Q1S (cs:=Qea (QL ts)) (by kernel_rfl) (X:=Int×Int) (fun x=>⟨[(0,.slc 1 (Q5 l)),(3,.val (.int .i64 x.2)),(7,.slc 4 (QL ts)),(8,.val (.int .i64 nt)),(9,.val (.int .i64 x.1))],[]⟩) (fun x=>0≤x.1∧x.1≤nt∧Q9d x.2 (ts.drop x.1.toNat) n) (fun x=>(nt-x.1).toNat) (0,0) ?_ ?_ ?_
 ·exact⟨Int.le_refl _,by have:=hnt.eq;show (0:Int)≤nt;omega,hcut⟩
 ·refine⟨[],_,rfl,?_⟩
  repeat first
   |exact trivial
   |refine⟨rfl,?_⟩
   |refine⟨htk,?_⟩
   |refine⟨gI (htk),?_⟩
   |refine⟨gA (htk),?_⟩
   |refine⟨gB (htk),?_⟩
   |refine⟨gR (htk),?_⟩
   |refine⟨gT (htk),?_⟩
 ·rintro⟨i,a⟩ ⟨hi0,hi1,hJ⟩
  simp only at hi0 hi1 hJ
  rcases Int.lt_or_eq_of_le hi1 with hlt|heq
  ·have hil:i.toNat<ts.length:=by have:=hnt.eq;omega
   obtain⟨x,hx⟩:=exq (ts[i.toNat])
   have hat:(QL ts).getD i.toNat .dead=x.av:=by
    rw[List.getD_eq_getElem?_getD,QL,List.getElem?_map,List.getElem?_eq_getElem hil,hx];rfl
   rw[List.drop_eq_getElem_cons hil,←hx] at hJ
   obtain⟨j1,j2,j3⟩:=hJ
   have hnt2:nt≤1000000:=by have:=hnt.eq;omega
   clear hx hil
   generalize hp:std=p,hTK:QL ts=TK,hrx:Q5 l=rx
   generalize hT:Q8 p tys (Qea TK) _ _ _ _=T
   cbv at hT
   subst hT
   simp only[Tree.ok,Q4,S0]
   subst hp hTK hrx
   have htk2:((QL ts).length:Int)=nt:=htk
   have j1b:(x.from_ == a)=true:=by rw[j1];exact beq_self_eq_true a
   have j2b:decide (x.to≤a)=false:=decide_eq_false (by omega)
   simp only[std,hat,Tok.av,AV.cells,List.getD_cons_zero,List.getD_cons_succ,intOf,Q2y,htk2,j1b,j2b,Bool.not_true,Bool.true_eq_false,Bool.false_eq_true,false_implies,true_implies,decide_eq_true_eq,decide_eq_false_iff_not,Bool.not_eq_true',Bool.not_eq_false',beq_iff_eq,and_true]
   repeat' first
    |(with_reducible apply And.intro)
    |(with_reducible intro hh)
   all_goals first
    |(exfalso;omega)
    |trivial
    |(show (-9223372036854775808:Int)≤i+1;omega)
    |(show i+1≤(9223372036854775807:Int);omega)
    |omega
    |skip
   all_goals
    refine⟨(i+1,x.to),⟨by show 0≤i+1;omega,by show i+1≤nt;omega,?_⟩,by show (nt-(i+1)).toNat<(nt-i).toNat;omega,[],_,rfl,?_⟩
    ·show Q9d x.to (ts.drop (i+1).toNat) n
     rw[show (i+1).toNat=i.toNat+1 by omega];exact j3
    ·repeat first
      |exact trivial
      |refine⟨rfl,?_⟩
      |refine⟨htk,?_⟩
      |refine⟨gI (htk),?_⟩
      |refine⟨gA (htk),?_⟩
      |refine⟨gB (htk),?_⟩
      |refine⟨gR (htk),?_⟩
      |refine⟨gT (htk),?_⟩
  ·have hJ2:a=n:=by
    rw[List.drop_eq_nil_of_le (by have:=hnt.eq;omega)] at hJ
    exact hJ
   rw[heq]
   clear hJ
   generalize hp:std=p,hTK:QL ts=TK,hrx:Q5 l=rx
   generalize hT:Q8 p tys (Qea TK) _ _ _ _=T
   cbv at hT
   subst hT
   simp only[Tree.ok,Q4,S0]
   subst hp hTK hrx
   refine⟨fun h=>absurd (of_decide_eq_true h) (by omega),fun _=>?_⟩
   rw[if_pos trivial]
   generalize hp:std=p,hTK:QL ts=TK,hrx:Q5 l=rx
   generalize hT:Q8 p tys (Qea TK) _ _ _ _=T
   cbv at hT
   subst hT
   simp only[Tree.ok,Q4,S0]
   subst hp hTK hrx
   refine .pure rfl (.inl ?_)
   show AV.val (.bool (decide (a=std.len (Q5 l))))=_
   rw[hrl,hJ2];simp
def Qdr (K M rt:Int)(R O N D PB WA:List AV)(w:Int→Int→Int)(wd:Int→Int)(tx:Int→List AV):Nat→List AV→List Ob→Option (AV×List Ob):=fun f args _=>match f,args with
 |13,[.slc 1 _]=>some (.agg [.val (.int .i64 K),.val (.int .i64 M),.slc 1 R,.slc 1 O,.ref [.slc 6 N],.val (.int .i64 rt),.slc 3 D],[])
 |74,[.slc 1 _]=>some (.val (.bool true),[])
 |76,[.agg _]=>some (.slc 1 PB,[])
 |75,[.slc 1 _,.slc 1 _]=>some (.val (.bool true),[])
 |29,[.agg _]=>some (.agg [.opt (.ref [.slc 6 N]),.val (.int .i64 rt),.val (.int .i64 0),.val (.int .i64 0),.opt (.val (.pointer none))],[])
 |30,[.agg _,.val (.int .i64 _)]=>some (.slc 5 WA,[])
 |23,[.agg [_,.val (.int .i64 n),.val (.int .i64 f),_,_]]=>some (.agg [.val (.int .i64 f),.val (.int .i64 (w f n))],[])
 |64,[.agg [_,.val (.int .i64 n),_,_,_]]=>some (.val (.int .i64 n),[])
 |58,[.ref [.slc 6 _],.val (.int .i64 n)]=>some (.val (.int .i64 (wd n)),[])
 |24,[.agg [_,.val (.int .i64 n),_,_,_]]=>some (.slc 1 (tx n),[])
 |_,_=>none
def hoO:OT:=.then [0,1,2,3,4,5,6,7,8,9,10,11,13,16,17,18] (.fork (.then [12] (.fork (.of [14,15,19,20,21,22,23,24,25,26,27,28,29,30,31,32,33,34]) (.then [19] (.fork (.of [14,15,20,21,22,23,24,25,26,27,28,29,30,31,32,33,34]) (.of [20,14,15,21,22,23,24,25,26,27,28,29,30,31,32,33,34]))))) (.fork (.then [14] (.fork (.of [12,15,19,20,21,22,23,24,25,26,27,28,29,30,31,32,33,34]) (.then [19] (.fork (.of [12,15,20,21,22,23,24,25,26,27,28,29,30,31,32,33,34]) (.of [20,12,15,21,22,23,24,25,26,27,28,29,30,31,32,33,34]))))) (.then [19] (.fork (.then [12] (.fork (.of [14,15,20,21,22,23,24,25,26,27,28,29,30,31,32,33,34]) (.of [20,14,15,21,22,23,24,25,26,27,28,29,30,31,32,33,34]))) (.fork (.then [14] (.fork (.of [12,15,20,21,22,23,24,25,26,27,28,29,30,31,32,33,34]) (.of [20,12,15,21,22,23,24,25,26,27,28,29,30,31,32,33,34]))) (.of [20,12,14,15,21,22,23,24,25,26,27,28,29,30,31,32,33,34]))))))
theorem QhZ (b:List UInt8)(hl:b.length≤400):BCall prog 35 [.slc 1 (Q3 b)] [] (.val (.bool true)) []:=by
 have hO:=QaJ b (by omega)
 have hN:=Qam b
 have cP:=QcL b (by omega)
 have cT:=Qfc (Q9 b) (QD b) (hO.pr (by omega))
 rw[hO.p] at cT
 have cV:=Qe4 (Q9 b).r (by have:=(Q3d b).2.2.1;omega)
 have cE:=Qjh
 have cC:=(QdI (Q9 b) (QD b)).res (res':=.agg ((Cur.root (QD b).n.length).el (Q0 (QE (QD b)).n))) ⟨.inr (.inr (.inl ⟨rfl,trivial⟩)),.inl rfl,.inl rfl,.inl rfl,.inl rfl,trivial⟩
 have cW:=QeS (QE (QD b)).n b.length 400000 hO.ar (by omega) (by omega) (.root (QD b).n.length) hO.root 1073741824 (by omega)
 have hAt:CurB (QE (QD b)).n b 400000 (.root (QD b).n.length):=⟨hO.root,[],[],by show b=[]++(pr (QE (QD b)).n (QD b).n.length++[]);rw[hO.p];simp,rfl⟩
 have hAll:=Qgn hO.ar hN hAt 1073741824
 have hln:(QE (QD b)).n.length≤1000000000:=by have:=hO.n;omega
 have har:=hO.ar
 generalize QD b=m at cP cC cT cW hAll hln har
 generalize Q9 b=t at cP cC cT cV
 obtain⟨rt,hrt⟩:=exq (m.n.length:Int)
 unfold Q7s at cP cC cT
 simp only[Cur.el] at cC cW
 rw[←hrt] at cP cC cW cT hAll
 have hwn:(Q8T (QE m).n (.root rt) 1073741824).length≤1073741824:=Q85 _ _ _
 generalize Q8T (QE m).n (.root rt) 1073741824=ws at cW hAll hwn
 generalize (QE m).n=l at cP cC cW cT hAll hln har
 generalize m.d=ds at cP cC cT
 generalize t.kind=K at cP cC cT
 generalize t.bom=M at cP cC cT
 generalize hR:Q5 t.r=R at cP cC cT cV
 generalize Q7 t.off=O at cP cC cT
 clear hO hN hAt hrt hR
 obtain⟨nb,hnb⟩:=QS b
 have hblen:std.len (Q3 b)=nb:=by show ((Q3 b).length:Int)=nb;rw[Q1j,hnb.eq]
 obtain⟨nw,hnw⟩:=QS ws
 have hwl:std.len (Qv (Q0 l) ws)=nw:=by show ((Qv (Q0 l) ws).length:Int)=nw;rw[Q2l,hnw.eq]
 refine fnO false (cs:=Qdr K M rt R O (Q0 l) (Qx ds) (Q3 b) (Qv (Q0 l) ws) (toW l) (Qm l) (prA l)) (ord:=fun id=>match id with|8=> hoO|_=>.nil) func35 rfl (by kernel_rfl) ?_
 intro w0 g0
 generalize hp:std=p
 generalize hw:toW l=w
 generalize htx:prA l=tx
 generalize hwd:Qm l=wd
 generalize hWA:Qv (Q0 l) ws=WA
 generalize hN:Q0 l=N
 generalize hD:Qx ds=D
 generalize hPB:Q3 b=PB
 generalize hT:Q8 p tys (Qdr K M rt R O N D PB WA w wd tx) _ _ _ _=T
 cbv at hT
 subst hT
 simp only[Tree.ok,Q4,S0]
 subst hp hw htx hwd hWA hN hD hPB
 refine⟨cP,cV,fun h=>absurd (show false=true from h) (by decide),fun _=>⟨cT,cE _,fun h=>absurd (show false=true from h) (by decide),fun _=>⟨cC,cW,?_⟩⟩⟩
 refine QjC (cs:=Qdr K M rt R O (Q0 l) (Qx ds) (Q3 b) (Qv (Q0 l) ws) (toW l) (Qm l) (prA l)) (ord:=fun id=>match id with|8=> hoO|_=>.nil) (by kernel_rfl) (X:=Int) (fun i=>⟨[(0,.slc 1 (Q3 b)),(3,.box 0 0),(23,.slc 5 (Qv (Q0 l) ws)),(24,.val (.int .i64 nw)),(25,.val (.int .i64 i))],[.box [.val (.int .i64 K),.val (.int .i64 M),.slc 1 R,.slc 1 O,.ref [.slc 6 (Q0 l)],.val (.int .i64 rt),.slc 3 (Qx ds)]]⟩) (fun i=>0≤i∧i≤nw) (fun i=>(nw-i).toNat) 0 ?_ ?_ ?_
 ·exact⟨Int.le_refl _,by have:=hnw.eq;omega⟩
 ·refine⟨[some 0],_,rfl,?_⟩
  repeat first
   |exact trivial
   |refine⟨rfl,?_⟩
   |refine⟨hwl,?_⟩
   |refine⟨gI (hwl),?_⟩
   |refine⟨gA (hwl),?_⟩
   |refine⟨gB (hwl),?_⟩
   |refine⟨gR (hwl),?_⟩
   |refine⟨gT (hwl),?_⟩
 ·rintro i ⟨hi0,hi1⟩
  rcases Int.lt_or_eq_of_le hi1 with hlt|heq
  ·have hil:i.toNat<ws.length:=by have:=hnw.eq;omega
   obtain⟨x,hx⟩:=exq (ws[i.toNat])
   have hxm:x∈ws:=by rw[hx];exact List.getElem_mem hil
   have hat:(Qv (Q0 l) ws).getD i.toNat .dead=.agg (x.el (Q0 l)):=by
    rw[List.getD_eq_getElem?_getD,Qv,List.getElem?_map,List.getElem?_eq_getElem hil,hx];rfl
   obtain⟨hxi,hxa⟩:=hAll x hxm
   have hxp:=CurB.pr har hln (by omega) (by omega) (⟨hxi,hxa⟩:CurB l b 400000 x)
   have hw0:=(hxi.wide har).2
   have hwd:Qm l x.n=((pr l x.n).length:Int):=har.wide x.n hxi.h0 hxi.h1
   have hf0:=hxi.f0
   have hfw:=hxi.w
   have hfw:x.f+Qm l x.n≤nb:=by rw[hnb.eq];exact hfw
   have hw0:0≤Qm l x.n:=hw0
   have hnb400:nb≤400:=by rw[hnb.eq];omega
   have cSp:=Qhw l x (by omega)
   have cTx:=QgC l x hxp
   have cNo:=Qgt l x
   have cWd:=Q9C l x.n
   have hcut:std.cut (Q3 b) x.f (x.f+Qm l x.n)=Q3 (pr l x.n):=by
    show ((Q3 b).drop x.f.toNat).take (x.f+Qm l x.n-x.f).toNat=_
    have e:=hxa.cut
    rw[show (x.f+Qm l x.n-x.f).toNat=(pr l x.n).length by omega]
    conv=>rhs;rw[←e]
    simp[Q3,List.map_take,List.map_drop]
   have hUx:Q3C (.opt (upO (Q0 l) x)):=Qdk _ _
   have hnw2:nw≤1073741824:=by have:=hnw.eq;omega
   clear hwd hxp hil hx
   generalize hp:std=p
   generalize hw:toW l=w
   generalize htx:prA l=tx
   generalize hwd:Qm l=wd
   generalize hWA:Qv (Q0 l) ws=WA
   generalize hN:Q0 l=N
   generalize hD:Qx ds=D
   generalize hPB:Q3 b=PB
   generalize hT:Q8 p tys (Qdr K M rt R O N D PB WA w wd tx) _ _ _ _=T
   cbv at hT
   subst hT
   simp only[Tree.ok,Q4,S0]
   subst hp hw htx hwd hWA hN hD hPB
   have hcut2:List.take (toW l x.f x.n-x.f).toNat (List.drop x.f.toNat (Q3 b))=Q3 (pr l x.n):=hcut
   have hto:toW l x.f x.n=x.f+Qm l x.n:=rfl
   have hbl:((Q3 b).length:Int)=nb:=hblen
   have hwl2:((Qv (Q0 l) ws).length:Int)=nw:=hwl
   have hpa:prA l x.n=Q3 (pr l x.n):=rfl
   have cSp2:BCall prog 23 [.agg (x.el (Q0 l))] [] (.agg [.val (.int .i64 x.f),.val (.int .i64 (toW l x.f x.n))]) []:=cSp
   have cWd2:BCall prog 58 [.ref [.slc 6 (Q0 l)],.val (.int .i64 x.n)] [] (.val (.int .i64 (Qm l x.n))) []:=cWd
   have cEq:=cE (pr l x.n)
   have hsub:(toW l x.f x.n-x.f == Qm l x.n)=true:=by rw[hto,show x.f+Qm l x.n-x.f=Qm l x.n by omega];exact beq_self_eq_true _
   simp only[Cur.el] at cSp2 cTx cNo
   simp only[std,hat,Cur.el,AV.cells,List.getD_cons_zero,List.getD_cons_succ,intOf,QhD,Q2y,hcut2,hpa,hbl,hwl2,hsub,decide_eq_true_eq,decide_eq_false_iff_not,beq_self_eq_true,Bool.not_true,Bool.false_eq_true,Bool.true_eq_false,false_implies,true_implies,and_true]
   repeat' first
    |(with_reducible apply And.intro)
    |(with_reducible intro hh)
   all_goals first
    |exact cSp2
    |exact cTx
    |exact cNo
    |exact cWd2
    |exact cEq
    |exact hUx
    |(exfalso;omega)
    |trivial
    |(show (-9223372036854775808:Int)≤i+1;omega)
    |(show i+1≤(9223372036854775807:Int);omega)
    |(show (-9223372036854775808:Int)≤toW l x.f x.n-x.f;rw[hto];omega)
    |(show toW l x.f x.n-x.f≤(9223372036854775807:Int);rw[hto];omega)
    |(rw[hto];omega)
    |skip
   all_goals
    refine⟨i+1,⟨by omega,by omega⟩,by omega,[some 0],_,rfl,?_⟩
    repeat first
     |exact trivial
     |refine⟨rfl,?_⟩
     |refine⟨hwl,?_⟩
     |refine⟨gI (hwl),?_⟩
     |refine⟨gA (hwl),?_⟩
     |refine⟨gB (hwl),?_⟩
     |refine⟨gR (hwl),?_⟩
     |refine⟨gT (hwl),?_⟩
  ·rw[heq]
   generalize hp:std=p
   generalize hw:toW l=w
   generalize htx:prA l=tx
   generalize hwd:Qm l=wd
   generalize hWA:Qv (Q0 l) ws=WA
   generalize hN:Q0 l=N
   generalize hD:Qx ds=D
   generalize hPB:Q3 b=PB
   generalize hT:Q8 p tys (Qdr K M rt R O N D PB WA w wd tx) _ _ _ _=T
   cbv at hT
   subst hT
   simp only[Tree.ok,Q4,S0]
   subst hp hw htx hwd hWA hN hD hPB
   refine⟨fun h=>absurd (of_decide_eq_true h) (by omega),fun _=>?_⟩
   rw[if_pos trivial]
   generalize hp:std=p
   generalize hw:toW l=w
   generalize htx:prA l=tx
   generalize hwd:Qm l=wd
   generalize hWA:Qv (Q0 l) ws=WA
   generalize hN:Q0 l=N
   generalize hD:Qx ds=D
   generalize hPB:Q3 b=PB
   generalize hT:Q8 p tys (Qdr K M rt R O N D PB WA w wd tx) _ _ _ _=T
   cbv at hT
   subst hT
   simp only[Tree.ok,Q4,S0]
   subst hp hw htx hwd hWA hN hD hPB
   exact .pure rfl (.inl rfl)
end Go.Proofs.YtibemhahkicbpaaGreat
