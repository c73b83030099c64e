/- Lemmas, conditions told -/
import Derived.Test.YtnlbhaeimmenoaaGreatG20
set_option maxRecDepth 99999
set_option maxHeartbeats 0
set_option linter.unusedSimpArgs false
set_option linter.unusedVariables false
namespace Go.Proofs.YtnlbhaeimmenoaaGreat
open List(length_append getElem?_eq_getElem take_of_length_le mergeSort_perm length_map map_append)
open Nat(zero_add le_of_ble_eq_true)
open Go.RowKit Go.Lib
section
open Tryz
theorem QlA(l:List Node)(c:Cur):BCall prog 11 [.agg (c.el (Q1 l))] [] (.val (.int .i64 (QO l c.n))) [] :=
 (Qng l c).le (args:=[.agg (c.el (Q1 l))]) ⟨⟨.inr (.inr (.inr rfl)),.inl rfl,.inl rfl,.inl rfl,.inl rfl,trivial⟩,trivial⟩
def Qfb(K M rt:Int)(R O N D WA S1:List AV)(kd nn:Int)(nm:ByteArray)(dec:Int->ByteArray):Nat->List AV->List Ob->Option (AV×List Ob):=fun f args ob=>match f,args with
 |8,[.slc 1 _]=>some (.agg [.val (.int .i64 K),.val (.int .i64 M),.slc 1 R,.slc 1 O,.ref [.slc 6 N],.val (.int .i64 rt),.slc 3 D],[])
 |9,[.agg _]=>some (.agg [.opt (.ref [.slc 6 N]),.val (.int .i64 rt),.val (.int .i64 0),.val (.int .i64 0),.opt (.val (.pointer none))],[])
 |10,[.agg _,.val (.int .i64 _)]=>some (.slc 5 WA,[])
 |11,[.agg _]=>some (.val (.int .i64 kd),[])
 |13,[.agg _]=>some (.val (.int .i64 nn),[])
 |12,[.agg _,.val (.int .i64 _)]=>some (.val (.string nm),[])
 |14,[.row 0 0]=>some (.tup [],[.row 9 1 false 0 S1])
 |15,[.val (.int .i64 n)]=>some (.val (.string (dec n)),[])
 |_,_=>none
theorem QnL(b:List UInt8)(K M rt:Int)(R O D:List AV)(l:List Node)(ws:List Cur)(hws:ws.length<=1073741824)(NC:Cur->List Nam)(vK:(ws.flatMap NC).length<=100000)
  (cP:BCall prog 8 [.slc 1 (Q4 b)] [] (.agg [.val (.int .i64 K),.val (.int .i64 M),.slc 1 R,.slc 1 O,.ref [.slc 6 (Q1 l)],.val (.int .i64 rt),.slc 3 D]) [])
  (cC:BCall prog 9 [.agg [.val (.int .i64 K),.val (.int .i64 M),.slc 1 R,.slc 1 O,.ref [.slc 6 (Q1 l)],.val (.int .i64 rt),.slc 3 D]] [] (.agg [.opt (.ref [.slc 6 (Q1 l)]),.val (.int .i64 rt),.val (.int .i64 0),.val (.int .i64 0),.opt (.val (.pointer none))]) [])
  (cW:BCall prog 10 [.agg [.opt (.ref [.slc 6 (Q1 l)]),.val (.int .i64 rt),.val (.int .i64 0),.val (.int .i64 0),.opt (.val (.pointer none))],.val (.int .i64 1073741824)] [] (.slc 5 (QA (Q1 l) ws)) [])
  (cKd:∀c:Cur,BCall prog 11 [.agg (c.el (Q1 l))] [] (.val (.int .i64 (QO l c.n))) [])
  (cNd:∀c:Cur,BCall prog 13 [.agg (c.el (Q1 l))] [] (.val (.int .i64 c.n)) [])
  (cNm:∀c∈ws,(¬(QO l c.n=8\/QO l c.n=9)->NC c=[])/\(QO l c.n=8\/QO l c.n=9->∃s:Nam,NC c=[s]/\s.length<=100000/\BCall prog 12 [.agg [.val (.int .i64 K),.val (.int .i64 M),.slc 1 R,.slc 1 O,.ref [.slc 6 (Q1 l)],.val (.int .i64 rt),.slc 3 D],.val (.int .i64 c.n)] [] (.val (.string (bsB s))) [])) :
  BCall prog 5 [.slc 1 (Q4 b)] [] (.slc 1 (Q1G (Q3X (Q2t (ws.flatMap NC))))) []:=by
 have qm:∀c∈ws,(NC c).length<=1:=fun c hc=>by
  by_cases h:QO l c.n=8\/QO l c.n=9
  ·obtain⟨s,e,_⟩:=(cNm c hc).2 h
   rw[e];simp
  ·rw[(cNm c hc).1 h];simp
 have xZ:∀(k:Nat)(s:Nam),((ws.take k).flatMap NC).count s<=k:=fun k s=>by
  have h1:∀us:List Cur,(∀c∈us,(NC c).length<=1)->(us.flatMap NC).length<=us.length:=fun us=>by
   induction us with
   |nil=>intro _;exact Nat.le_refl _
   |cons c r ih =>
    intro h;have h2:=ih fun x hx=>h x (List.mem_cons_of_mem _ hx)
    have h3:=h c List.mem_cons_self;rw[List.flatMap_cons,length_append,List.length_cons];omega
  have h2:=h1 (ws.take k) fun c hc=>qm c (List.mem_of_mem_take hc)
  have h3:(ws.take k).length<=k:=by rw[List.length_take];omega
  have h4:((ws.take k).flatMap NC).count s<=((ws.take k).flatMap NC).length:=List.count_le_length;omega
 have yp:∀x∈ws.flatMap NC,x.length<=100000:=fun x hx=>by
  obtain⟨c,hc,cz⟩:=List.mem_flatMap.1 hx;by_cases h:QO l c.n=8\/QO l c.n=9
  ·obtain⟨s,e,h2,_⟩:=(cNm c hc).2 h
   rw[e]at cz;obtain rfl:x=s:=by simpa using cz
   exact h2
  ·rw[(cNm c hc).1 h]at cz;cases cz
 obtain⟨nw,np⟩:=QG ws;have hwl:std.len (QA (Q1 l) ws)=nw:=by show((QA (Q1 l) ws).length:Int)=nw;rw[Q3n,np.eq]
 have hnw0:0<=nw/\nw<=1073741824:=by rw[np.eq];omega
 obtain⟨FM,nB⟩:=exq (Qbq (ws.flatMap NC));obtain⟨KS,pJ⟩:=exq ((FM.map Prod.fst).mergeSort leN)
 have nC:KS.map (fun s=>(s,Q3j s FM))=Q3X (Q2t (ws.flatMap NC)):=by
  rw[pJ,nB];exact Qji _ _ (List.Perm.refl _)
 obtain⟨RES,zR⟩:∃RES,Q1G (Q3X (Q2t (ws.flatMap NC)))=RES:=⟨_,rfl⟩;rw[zR];rw[<-nC]at zR;refine fnN (Qfb K M rt R O (Q1 l) D (QA (Q1 l) ws) (Ql KS) 0 0 ⟨#[]⟩ nbN) func5 rfl fun _ _=>?_
 with_reducible refine cv5 (QA (Q1 l) ws) (Q1 l) nbN (Ql KS) (Q4 b) ?_
 refine⟨cP,cC,cW,?_⟩;refine Qal (cs:=(fun x:Int×List (Nam×Nat)=>Qfb K M rt R O (Q1 l) D (QA (Q1 l) ws) (Ql KS) (QO l (ws[x.1.toNat]?.getD (.root 0)).n) (ws[x.1.toNat]?.getD (.root 0)).n (bsB ((NC (ws[x.1.toNat]?.getD (.root 0))).headD [])) nbN)) (ord:=fun _=>.nil) Q80 (by kernel_rfl) (by kernel_rfl) (by kernel_rfl) (X:=Int×List (Nam×Nat)) (fun x=>⟨[(3,.box 0 0),(4,.iter 1),(17,.slc 5 (QA (Q1 l) ws)),(18,.val (.int .i64 nw)),(19,.val (.int .i64 x.1))],[.box [.val (.int .i64 K),.val (.int .i64 M),.slc 1 R,.slc 1 O,.ref [.slc 6 (Q1 l)],.val (.int .i64 rt),.slc 3 D],.iter (.map (Q2W x.2))]⟩) (fun x=>0<=x.1/\x.1<=nw/\x.2=Qbq ((ws.take x.1.toNat).flatMap NC)) (fun x=>(nw-x.1).toNat) (0,[]) ?_ ?_ ?_
 ·exact⟨Int.le_refl _,hnw0.1,rfl⟩
 ·refine⟨[some 0,some 1],_,rfl,?_⟩
  have e1:Q2W ((0,[]):Int×List (Nam×Nat)).2=[]:=rfl;rw[e1];exact eq1 hwl
 ·rintro⟨i,m⟩ ⟨jN,qn,hJ⟩
  simp only at jN qn hJ
  have ei:(i+1).toNat=i.toNat+1:=by omega
  rcases Int.lt_or_eq_of_le qn with jB|j4
  ·have j3:i.toNat<ws.length:=by have:=np.eq;omega
   have hx:ws[i.toNat]?.getD (.root 0)=ws[i.toNat]:=by rw[getElem?_eq_getElem j3];rfl
   have jX:std.at_ (QA (Q1 l) ws) i=.agg ((ws[i.toNat]?.getD (.root 0)).el (Q1 l)):=by
    show(QA (Q1 l) ws).getD i.toNat .dead=_
    rw[List.getD_eq_getElem?_getD,QA,List.getElem?_map,getElem?_eq_getElem j3];rfl
   have pI:ws[i.toNat]?.getD (.root 0)∈ws:=by rw[hx];exact List.getElem_mem j3
   have jb:(ws.take (i+1).toNat).flatMap NC=(ws.take i.toNat).flatMap NC++NC (ws[i.toNat]?.getD (.root 0)):=by
    rw[ei,List.take_succ_eq_append_getElem j3,List.flatMap_append,hx];simp
   obtain⟨vJ,gX⟩:=cNm _ pI
   have k7:∀s,Q3j s m<=i.toNat:=fun s=>by
    rw[Qd8 (hJ ▸ Qdk ((ws.take i.toNat).flatMap NC)) s];exact xZ _ s
   simp only
   clear hx j3 pI;generalize ws[i.toNat]?.getD (.root 0)=x at jX jb vJ gX ⊢
   have cK:BCall prog 11 [.agg [.opt (std.uno (std.nth (std.cel (std.at_ (QA (Q1 l) ws) i)) 0)),.val (.int .i64 (std.int (std.nth (std.cel (std.at_ (QA (Q1 l) ws) i)) 1))),.val (.int .i64 (std.int (std.nth (std.cel (std.at_ (QA (Q1 l) ws) i)) 2))),.val (.int .i64 (std.int (std.nth (std.cel (std.at_ (QA (Q1 l) ws) i)) 3))),.opt (std.uno (std.nth (std.cel (std.at_ (QA (Q1 l) ws) i)) 4))]] [] (.val (.int .i64 (QO l x.n))) []:=by
    rw[jX];exact cKd x
   have cNo:BCall prog 13 [.agg [.opt (std.uno (std.nth (std.cel (std.at_ (QA (Q1 l) ws) i)) 0)),.val (.int .i64 (std.int (std.nth (std.cel (std.at_ (QA (Q1 l) ws) i)) 1))),.val (.int .i64 (std.int (std.nth (std.cel (std.at_ (QA (Q1 l) ws) i)) 2))),.val (.int .i64 (std.int (std.nth (std.cel (std.at_ (QA (Q1 l) ws) i)) 3))),.opt (std.uno (std.nth (std.cel (std.at_ (QA (Q1 l) ws) i)) 4))]] [] (.val (.int .i64 x.n)) []:=by
    rw[jX];exact cNd x
   have xY:(std.all [std.hasP (std.nth (std.cel (std.at_ (QA (Q1 l) ws) i)) 0),std.hasI .i64 (std.nth (std.cel (std.at_ (QA (Q1 l) ws) i)) 1),std.hasI .i64 (std.nth (std.cel (std.at_ (QA (Q1 l) ws) i)) 2),std.hasI .i64 (std.nth (std.cel (std.at_ (QA (Q1 l) ws) i)) 3),std.hasP (std.nth (std.cel (std.at_ (QA (Q1 l) ws) i)) 4)]).q:=by
    rw[jX];exact⟨trivial,rfl,rfl,rfl,Qh9 _ _,trivial⟩
   have qD:std.ltI i nw=true:=decide_eq_true jB;have jS:0<=i/\i<std.len (QA (Q1 l) ws):=⟨jN,by rw[hwl];exact jB⟩
   have vB:(std.inR .i64 (std.add i 1)).q:=by
    show -9223372036854775808<=i+1/\i+1<=9223372036854775807;omega
   clear jX cKd cNd cNm cP cC cW;by_cases gY:QO l x.n=8\/QO l x.n=9
   ·obtain⟨s,jO,jV,cNa⟩:=gX gY
    have yq:Q3Z s m=Qbq ((ws.take (i+1).toNat).flatMap NC):=by
     rw[jb,jO,hJ,Qbq,Qbq,List.foldl_append];rfl
    have hcs:=k7 s;have vy:=QdI s m;have nD:=Qc0 s m;rw[jO];simp only[List.headD_cons];obtain⟨c,yV⟩:∃c:Int,IsN (Q3j s m) c:=⟨_,rfl⟩
    have eSet:∀j,Q7C s m=some j->(Q2W m).set j (.val (.string (bsB s)),.val (.int .i64 (std.add c 1)))=Q2W (Q3Z s m):=fun j hj=>by
     rw[yV.eq];exact(vy j hj).1
    have eNon:Q7C s m=none->Q2W m++[(.val (.string (bsB s)),.val (.int .i64 (std.add 0 1)))]=Q2W (Q3Z s m):=fun hj=>(nD hj).1
    clear vy nD;clear vJ gX jb k7 hJ;have hc9:0<=c/\c<=1073741824:=by rw[yV.eq];omega
    clear hcs;generalize QO l x.n=kd at cK gY ⊢;generalize x.n=nn at cNo cNa ⊢;rcases gY with rfl|rfl
    all_goals
     with_reducible refine cv6 (QA (Q1 l) ws) (Q1 l) nbN (Ql KS) (Q2W m) (bsB s) ?_
     refine⟨fun _=>⟨jS,xY,cK,?_⟩,fun h=>absurd (qD.symm.trans h) (by decide)⟩
     first
      |refine⟨fun _=>⟨cNo,cNa,?_⟩,fun h=>absurd h (by decide)⟩
      |refine⟨fun h=>absurd h (by decide),fun _=>⟨cK,fun _=>⟨cNo,cNa,?_⟩,fun h=>absurd h (by decide)⟩⟩
     rw[Q9H s m 0];rcases hj:Q7C s m with _|j
     ·simp only[Option.map_none]
      refine⟨(show(-9223372036854775808:Int)<=0+1/\(0:Int)+1<=(9223372036854775807:Int) from by omega),?_⟩
      have e9:std.appE (Q2W m) (.val (.string (bsB s)),.val (.int .i64 (std.add 0 1)))=Q2W (Q3Z s m):=eNon hj;refine⟨vB,(i+1,Q3Z s m),⟨by show 0<=i+1;omega,by show i+1<=nw;omega,yq⟩,by show(nw-(i+1)).toNat<(nw-i).toNat;omega,[some 0,some 1],_,rfl,?_⟩
      exact eq1 (congrArg (fun z=>AV.tup (Q5h z)) e9)
     ·simp only[Option.map_some,zero_add]
      rw[<-yV.eq];refine Tree.via fun T hT=>?_
      generalize hp:std=p at hT;generalize kB:Q2W m=MM at hT;generalize kC:bsB s=SS at hT;generalize kD:QA (Q1 l) ws=WA at hT;generalize kE:Q1 l=NA at hT;generalize gZ:nbN=dec at hT;generalize yN:Ql KS=S1 at hT;with_unfolding_all cbv at hT
      subst hT;simp only[Tree.ok,Q1u,S0];subst hp kB kC kD kE gZ yN;refine⟨(show(-9223372036854775808:Int)<=c+1/\c+1<=(9223372036854775807:Int) from by omega),?_⟩
      rw[Q9H s m 0,hj];simp only[Option.map_some,zero_add];refine Tree.via fun T hT=>?_
      generalize hp:std=p at hT;generalize kB:Q2W m=MM at hT;generalize kC:bsB s=SS at hT;generalize kD:QA (Q1 l) ws=WA at hT;generalize kE:Q1 l=NA at hT;generalize gZ:nbN=dec at hT;generalize yN:Ql KS=S1 at hT;with_unfolding_all cbv at hT
      subst hT;simp only[Tree.ok,Q1u,S0];subst hp kB kC kD kE gZ yN;have e9:std.setE (Q2W m) j (.val (.string (bsB s)),.val (.int .i64 (std.add c 1)))=Q2W (Q3Z s m):=eSet j hj;refine⟨vB,(i+1,Q3Z s m),⟨by show 0<=i+1;omega,by show i+1<=nw;omega,yq⟩,by show(nw-(i+1)).toNat<(nw-i).toNat;omega,[some 0,some 1],_,rfl,?_⟩
      exact eq1 (congrArg (fun z=>AV.tup (Q5h z)) e9)
   ·have zr:=vJ gY
    rw[zr,List.append_nil]at jb;rw[<-jb]at hJ;rw[zr];generalize QO l x.n=kd at cK gY ⊢;generalize x.n=nn at cNo ⊢
    have jI:std.eqI kd 8=false/\std.eqI kd 9=false:=by
     constructor
     ·show(kd == 8)=false
      simp only[beq_eq_false_iff_ne,ne_eq];omega
     ·show(kd == 9)=false
      simp only[beq_eq_false_iff_ne,ne_eq];omega
    clear vJ gX jb zr gY cNo k7;simp only[List.headD_nil];with_reducible refine cv6 (QA (Q1 l) ws) (Q1 l) nbN (Ql KS) (Q2W m) (bsB []) ?_
    refine⟨fun _=>⟨jS,xY,cK,fun h=>absurd (jI.1.symm.trans h) (by decide),fun _=>⟨cK,fun h=>absurd (jI.2.symm.trans h) (by decide),fun _=>⟨vB,(i+1,m),⟨by show 0<=i+1;omega,by show i+1<=nw;omega,hJ⟩,by show(nw-(i+1)).toNat<(nw-i).toNat;omega,[some 0,some 1],_,rfl,?_⟩⟩⟩,fun h=>absurd (qD.symm.trans h) (by decide)⟩
    exact eq0
  ·have hmF:m=FM:=by
    rw[hJ,nB,take_of_length_le (by have:=np.eq;omega)]
   have vt:std.ltI i nw=false:=decide_eq_false (by omega)
   rw[hmF];have hC:=Qdk (ws.flatMap NC);rw[<-nB]at hC
   have hKb:∀x∈KS,x.length<=100000:=fun x hx=>by
    rw[pJ]at hx;exact yp x ((hC.mem x).1 ((mergeSort_perm _ leN).mem_iff.1 hx))
   have hKm:∀x∈KS,Q7C x FM≠none:=fun x hx h=>by
    rw[pJ]at hx;exact Qf4 x FM h ((mergeSort_perm _ leN).mem_iff.1 hx)
   have hKl:KS.length=FM.length:=by rw[pJ,List.length_mergeSort,length_map]
   have hG:∀s,Q3j s FM<=1073741824:=fun s=>by
    rw[Qd8 hC s];have:=xZ ws.length s
    rw[List.take_length]at this;omega
   have hSo:∀sn:List Nat,(Q2C FM sn).Perm (FM.map Prod.fst)->(Q2C FM sn).mergeSort leN=KS:=fun sn hp=>by
    rw[pJ]
    exact Q8B (Q5T (hp.nodup_iff.2 hC.nd)) (Q5T hC.nd) fun x=>by
     rw[(mergeSort_perm _ leN).mem_iff,(mergeSort_perm _ leN).mem_iff,hp.mem_iff]
   have hFl:FM.length<=100000:=by
    have:=Qh4 (ws.flatMap NC) []
    rw[nB];show((ws.flatMap NC).foldl (fun m s=>Q3Z s m) []).length<=_
    rw[List.length_nil]at this;omega
   clear hJ hmF xZ yp qm cNm cKd cNd cP cC cW nB hC pJ nC;simp only
   generalize QO l (ws[i.toNat]?.getD (.root 0)).n=kd;generalize (ws[i.toNat]?.getD (.root 0)).n=nn;generalize bsB ((NC (ws[i.toNat]?.getD (.root 0))).headD [])=sB;with_reducible refine cv5 (QA (Q1 l) ws) (Q1 l) nbN (Ql KS) (Q2W FM) ?_
   refine⟨fun h=>absurd (vt.symm.trans h) (by decide),fun _=>?_⟩
   rw[if_pos trivial];with_reducible refine cv5 (QA (Q1 l) ws) (Q1 l) nbN (Ql KS) (Q2W FM) ?_
   refine Q1h (Qfb K M rt R O (Q1 l) D (QA (Q1 l) ws) (Ql KS) 0 0 ⟨#[]⟩ nbN) (List Nat) (fun x=>⟨[(4,.iter 0),(7,.row 2 0),(40,.iter 1)],[.iter (.map (Q2W FM)),.iter (.mit 0 (Q2W FM) x none),.row 9 1 false 0 (Ql (Q2C FM x))]⟩) (fun x=>x.Nodup/\∀j∈x,j<FM.length) (fun x=>FM.length-x.length) [] ?_ ?_ ?_
   ·exact⟨List.nodup_nil,fun j h=>by cases h⟩
   ·refine⟨[some 1,some 2,none],_,rfl,?_⟩
    have e1:Ql (Q2C FM [])=[]:=rfl;rw[e1];exact eq0
   ·rintro sn ⟨hn,jB⟩
    have hn:sn.Nodup:=hn;have jB:∀j∈sn,j<FM.length:=jB;have zD:sn.length<=FM.length:=Q86 _ _ hn jB;have yU:(Ql (Q2C FM sn)).length=sn.length:=by rw[Q3k,Q2C,length_map]
    with_reducible refine cv6 (QA (Q1 l) ws) (Q1 l) nbN (Ql KS) (Q2W FM) (Ql (Q2C FM sn)) ?_
    refine⟨rfl,fun j q hj yh=>?_,fun qH=>?_⟩
    ·have vl:j<FM.length:=by have:=Q8 hj;rwa [QdJ]at this
     obtain⟨s,c,hq,hs⟩:∃(s:Nam) (c:Int),q=(.val (.string (bsB s)),.val (.int .i64 c))/\s=QbY FM j:=by
      refine⟨FM[j].1,(FM[j].2:Int),?_,?_⟩
      ·rw[Q2W,List.getElem?_map,getElem?_eq_getElem vl]at hj
       exact(Option.some.inj hj).symm
      ·rw[QbY,getElem?_eq_getElem vl];rfl
     subst hq
     have eN:std.app (Ql (Q2C FM sn)) [.val (.string (bsB s))]=Ql (Q2C FM (sn++[j])):=by
      rw[show Q2C FM (sn++[j])=Q2C FM sn++[s] by rw[Q2C,Q2C,map_append,hs];rfl,QaC];rfl
     have yg:(sn++[j]).Nodup:=List.nodup_append.2 ⟨hn,by simp,fun a ha b hb=>by
      obtain rfl:b=j:=by simpa using hb
      rintro rfl;exact yh ha⟩
     have qD:∀k∈sn++[j],k<FM.length:=fun k hk=>by
      rcases List.mem_append.1 hk with hk|hk
      ·exact jB k hk
      ·obtain rfl:k=j:=by simpa using hk
       exact vl
     have xL:=Q86 _ _ yg qD;rw[length_append,List.length_singleton]at xL;refine Tree.via fun T hT=>?_
     generalize xT:Ql (Q2C FM sn)=NM at hT;generalize hp:std=p at hT;generalize kB:Q2W FM=MM at hT;generalize kC:bsB s=SS at hT;generalize kD:QA (Q1 l) ws=WA at hT;generalize kE:Q1 l=NA at hT;generalize gZ:nbN=dec at hT;generalize yN:Ql KS=S1 at hT;with_unfolding_all cbv at hT
     subst hT;simp only[Tree.ok,Q1u,S0];subst hp kB kC kD kE gZ yN xT;have hb:(Ql (Q2C FM sn)).length+1<=1000000000:=by rw[yU];omega
     refine⟨rfl,hj,hb,sn++[j],⟨yg,qD⟩,?_,[some 0,some 1,some 2],_,rfl,?_⟩
     ·show FM.length-(sn++[j]).length<FM.length-sn.length
      rw[length_append,List.length_singleton];omega
     ·exact eq1 eN
    ·have hp:=QlM FM sn hn jB (fun j h=>qH j (by rw[QdJ];exact h))
     have cS:=QpQ (Q2C FM sn) (by rw[Q2C,length_map];omega)
     rw[hSo sn hp]at cS;clear qH hp hn jB hSo zD yU;rw[if_pos trivial];with_reducible refine cv6 (QA (Q1 l) ws) (Q1 l) nbN (Ql KS) (Q2W FM) (Ql (Q2C FM sn)) ?_
     refine⟨cS,?_⟩;obtain⟨nk,gq⟩:=QG KS;have qN:std.len (Ql KS)=nk:=by show((Ql KS).length:Int)=nk;rw[Q3k,gq.eq]
     have hnk0:0<=nk/\nk<=100000:=by rw[gq.eq];omega
     refine Q1h (Qfb K M rt R O (Q1 l) D (QA (Q1 l) ws) (Ql KS) 0 0 ⟨#[]⟩ nbN) (Int) (fun i=>⟨[(4,.iter 0),(9,.row 2 0),(51,.row 1 0),(52,.val (.int .i64 nk)),(53,.val (.int .i64 i))],[.iter (.map (Q2W FM)),.row 9 1 false 0 (Ql KS),.row 9 1 false 0 (Q1G ((KS.take i.toNat).map fun s=>(s,Q3j s FM)))]⟩) (fun i=>0<=i/\i<=nk) (fun i=>(nk-i).toNat) 0 ?_ ?_ ?_
     ·exact⟨Int.le_refl 0,hnk0.1⟩
     ·refine⟨[some 0,some 2,none],_,rfl,?_⟩
      have e1:Q1G ((KS.take (0:Int).toNat).map fun s=>(s,Q3j s FM))=[]:=rfl
      rw[e1];exact eq1 qN
     ·rintro i ⟨jN,qn⟩
      have jN:0<=i:=jN;have qn:i<=nk:=qn;rcases Int.lt_or_eq_of_le qn with jB|j4
      ·have nt:i.toNat<KS.length:=by have:=gq.eq;omega
       have ei:(i+1).toNat=i.toNat+1:=by omega
       have yC:=Q8p (l:=KS) (k:=i) jN (by rw[<-gq.eq];exact jB)
       obtain⟨s,hs⟩:∃s,KS[i.toNat]?.getD []=s:=⟨_,rfl⟩;have jV:KS[i.toNat]=s:=by rw[<-hs,getElem?_eq_getElem nt];rfl
       have yx:s∈KS:=by rw[<-jV];exact List.getElem_mem nt
       have qu:=hKb s yx;have j8:=hKm s yx;rw[hs]at yC;obtain⟨c,yV⟩:∃c:Int,IsN (Q3j s FM) c:=⟨_,rfl⟩;have hg:=hG s;have hc9:0<=c/\c<=1073741824:=by rw[yV.eq];omega
       have cN:BCall prog 15 [.val (.int .i64 c)] [] (.val (.string (nbN c))) []:=Qls c (by omega) (by omega)
       obtain⟨OT9,nu⟩:=exq ((KS.take i.toNat).map fun s=>(s,Q3j s FM))
       have jR:(Q1G OT9).length<=100000:=by rw[Qan,nu,length_map,List.length_take];omega
       have eO:std.app (Q1G OT9) [.val (.string (std.catS (std.catS (bsB s) ⟨#[32]⟩) (nbN c)))]=Q1G ((KS.take (i+1).toNat).map fun s=>(s,Q3j s FM)):=by
        rw[ei,List.take_succ_eq_append_getElem nt,map_append,<-nu,Qeg,jV,yV.eq];show Q1G OT9++[AV.val (.string (std.catS (std.catS (bsB s) (bsB [32])) (bsB (Q36 (Q3j s FM:Int)))))]=_;rw[Q5g,Q5g,List.append_assoc];rfl
       have hX:std.str (std.nth (std.drp (std.cel (std.at_ (Ql KS) i)) 0) 0)=bsB s:=by rw[yC];rfl
       have xY:(std.hasS (std.nth (std.drp (std.cel (std.at_ (Ql KS) i)) 0) 0)).q:=by rw[yC];rfl
       have vH:(std.catok (bsB s) ⟨#[32]⟩).q:=by
        show((((bsB s).size+1:Nat)):Int)<=9223372036854775807
        rw[Q3p];omega
       have vm:(std.catok (std.catS (bsB s) ⟨#[32]⟩) (nbN c)).q:=by
        have h1:=Q7X c (by omega)
        show(((std.catS (bsB s) (bsB [32])).size+(bsB (Q36 c)).size:Nat):Int)<=9223372036854775807
        rw[Q5g,Q3p,Q3p,length_append,List.length_singleton];omega
       have jQ:(Q1G OT9).length+1<=1000000000:=by omega
       have vB:(std.inR .i64 (std.add i 1)).q:=by
        show -9223372036854775808<=i+1/\i+1<=9223372036854775807;omega
       have jS:0<=i/\i<std.len (Ql KS):=⟨jN,by rw[qN];exact jB⟩
       have qD:std.ltI i nk=true:=decide_eq_true jB;rw[<-nu];clear yC hs jV yx hKb hKm hG hg jR nu nt;generalize hC:Code.region 19 _ _=C19;generalize hp:std=p;generalize yN:Ql KS=S1;rw[hp,yN]at hX;generalize kB:Q2W FM=MM;generalize kD:QA (Q1 l) ws=WA;generalize kE:Q1 l=NA;generalize gZ:nbN=dec;generalize hOO:Q1G OT9=OO;generalize hT:Q1o p tys (Qfb K M rt R O NA D WA S1 0 0 ⟨#[]⟩ dec) _ _ _ _=T;cbv at hT;obtain⟨dd,hdd⟩:∃dd:Nat,1+1=dd:=⟨_,rfl⟩;cbv at hdd;rw[hX]at hT;generalize kC:bsB s=SS at hT;subst hC;cbv at hT;subst hT;simp only[Tree.ok,Q1u,S0];subst hp yN kB kD kE gZ hOO kC;refine⟨fun _=>⟨jS,⟨xY,trivial⟩,vH,?_⟩,fun h=>absurd (qD.symm.trans h) (by decide)⟩
       rw[Q9H s FM 0];rcases hj:Q7C s FM with _|j
       ·exact absurd hj j8
       simp only[Option.map_some,zero_add];rw[<-yV.eq];refine Tree.via fun T hT=>?_
       generalize hOO:Q1G OT9=OO at hT;generalize hp:std=p at hT;generalize kB:Q2W FM=MM at hT;generalize kC:bsB s=SS at hT;generalize kD:QA (Q1 l) ws=WA at hT;generalize kE:Q1 l=NA at hT;generalize gZ:nbN=dec at hT;generalize yN:Ql KS=S1 at hT;with_unfolding_all cbv at hT
       subst hT;simp only[Tree.ok,Q1u,S0];subst hp kB kC kD kE gZ yN hOO;refine⟨cN,vm,jQ,vB,i+1,⟨by show 0<=i+1;omega,by show i+1<=nk;omega⟩,by show(nk-(i+1)).toNat<(nk-i).toNat;omega,[some 0,some 1,some 2],_,rfl,?_⟩
       exact eq1 eO
      ·have hl3:std.ltI i nk=false:=decide_eq_false (by omega)
       have yr:Q1G ((KS.take i.toNat).map fun s=>(s,Q3j s FM))=RES:=by
        rw[take_of_length_le (by have:=gq.eq;omega)]
        exact zR
       rw[yr];with_reducible refine cv5 (QA (Q1 l) ws) (Q1 l) nbN (Ql KS) (Q2W FM) ?_
       refine⟨fun h=>absurd (hl3.symm.trans h) (by decide),fun _=>?_⟩
       rw[if_pos trivial];with_reducible refine cv5 (QA (Q1 l) ws) (Q1 l) nbN (Ql KS) (Q2W FM) ?_
       exact .pure rfl (.inl rfl)
theorem Q9e{l:List Node}:∀(k:Nat)(st:List Cur)(j:Nat),(Q23 l k st).length<k->Q23 l (k+j) st=Q23 l k st
 |0,st,j,h=>by cases h
 |k+1,st,j,h=>by
  rw[show k+1+j=(k+j)+1 by omega]
  unfold Q23 at h ⊢;cases hg:st.getLast? with
  |none=>rfl
  |some x =>
   rw[hg]at h;simp only[List.length_cons]at h;simp only
   rw[Q9e k _ j (by omega)]
noncomputable def aw33_tab:List (Nat×FnI):=[
 (7,⟨f7,f7.body.getD .skip,fun _=>.nil⟩),
 (20,⟨f20,f20.body.getD .skip,fun _=>.nil⟩),
 (43,⟨f43,f43.body.getD .skip,fun _=>.nil⟩),
 (89,⟨f89,f89.body.getD .skip,fun _=>.nil⟩),
 (9,⟨f9,f9.body.getD .skip,fun _=>.nil⟩),
 (26,⟨f26,f26.body.getD .skip,fun _=>.nil⟩),
 (53,⟨f53,f53.body.getD .skip,fun _=>.nil⟩),
 (44,⟨f44,f44.body.getD .skip,fun _=>.nil⟩),
 (11,⟨f11,f11.body.getD .skip,fun _=>.nil⟩),
 (29,⟨f29,f29.body.getD .skip,fun _=>.nil⟩),
 (55,⟨f55,f55.body.getD .skip,fun _=>.nil⟩),
 (90,⟨f90,f90.body.getD .skip,fun _=>.nil⟩),
 (124,⟨f124,f124.body.getD .skip,fun _=>.nil⟩),
 (13,⟨f13,f13.body.getD .skip,fun _=>.nil⟩),
 (31,⟨f31,f31.body.getD .skip,fun id=>match id with|1=>.th [0,1,3,4,5] (.fork (.of [2,6,7,8]) (.of [6,2,7,8]))|_=>.nil⟩),
 (59,⟨f59,f59.body.getD .skip,fun _=>.nil⟩),
 (58,⟨f58,f58.body.getD .skip,fun _=>.nil⟩),
 (91,⟨f91,f91.body.getD .skip,fun _=>.nil⟩),
 (125,⟨f125,f125.body.getD .skip,fun _=>.nil⟩),
 (144,⟨f144,f144.body.getD .skip,fun _=>.nil⟩),
 (159,⟨f159,f159.body.getD .skip,fun _=>.nil⟩),
 (126,⟨f126,f126.body.getD .skip,fun _=>.nil⟩)]
theorem Qfp:Qi1 aw33_tab:=by
 unfold aw33_tab;refine⟨⟨le_of_ble_eq_true rfl,func7,rfl,by kernel_rfl⟩,?_⟩
 refine⟨⟨le_of_ble_eq_true rfl,func20,rfl,by kernel_rfl⟩,?_⟩
 refine⟨⟨le_of_ble_eq_true rfl,func43,rfl,by kernel_rfl⟩,?_⟩
 refine⟨⟨le_of_ble_eq_true rfl,func89,rfl,by kernel_rfl⟩,?_⟩
 refine⟨⟨le_of_ble_eq_true rfl,func9,rfl,by kernel_rfl⟩,?_⟩
 refine⟨⟨le_of_ble_eq_true rfl,func26,rfl,by kernel_rfl⟩,?_⟩
 refine⟨⟨le_of_ble_eq_true rfl,func53,rfl,by kernel_rfl⟩,?_⟩
 refine⟨⟨le_of_ble_eq_true rfl,func44,rfl,by kernel_rfl⟩,?_⟩
 refine⟨⟨le_of_ble_eq_true rfl,func11,rfl,by kernel_rfl⟩,?_⟩
 refine⟨⟨le_of_ble_eq_true rfl,func29,rfl,by kernel_rfl⟩,?_⟩
 refine⟨⟨le_of_ble_eq_true rfl,func55,rfl,by kernel_rfl⟩,?_⟩
 refine⟨⟨le_of_ble_eq_true rfl,func90,rfl,by kernel_rfl⟩,?_⟩
 refine⟨⟨le_of_ble_eq_true rfl,func124,rfl,by kernel_rfl⟩,?_⟩
 refine⟨⟨le_of_ble_eq_true rfl,func13,rfl,by kernel_rfl⟩,?_⟩
 refine⟨⟨le_of_ble_eq_true rfl,func31,rfl,by kernel_rfl⟩,?_⟩
 refine⟨⟨le_of_ble_eq_true rfl,func59,rfl,by kernel_rfl⟩,?_⟩
 refine⟨⟨le_of_ble_eq_true rfl,func58,rfl,by kernel_rfl⟩,?_⟩
 refine⟨⟨le_of_ble_eq_true rfl,func91,rfl,by kernel_rfl⟩,?_⟩
 refine⟨⟨le_of_ble_eq_true rfl,func125,rfl,by kernel_rfl⟩,?_⟩
 refine⟨⟨le_of_ble_eq_true rfl,func144,rfl,by kernel_rfl⟩,?_⟩
 refine⟨⟨le_of_ble_eq_true rfl,func159,rfl,by kernel_rfl⟩,?_⟩
 refine⟨⟨le_of_ble_eq_true rfl,func126,rfl,by kernel_rfl⟩,?_⟩
 exact trivial
def aw33_b:List UInt8:=[60,97,32,120,61,39,49,39,47,62]
def Qgs:AV:=.agg [.val (.int .i64 0),.val (.int .i64 0),.slc 1 [.val (.int .i32 60),.val (.int .i32 97),.val (.int .i32 32),.val (.int .i32 120),.val (.int .i32 61),.val (.int .i32 39),.val (.int .i32 49),.val (.int .i32 39),.val (.int .i32 47),.val (.int .i32 62)],.slc 1 [.val (.int .i64 0),.val (.int .i64 1),.val (.int .i64 2),.val (.int .i64 3),.val (.int .i64 4),.val (.int .i64 5),.val (.int .i64 6),.val (.int .i64 7),.val (.int .i64 8),.val (.int .i64 9),.val (.int .i64 10)],.ref [.slc 6 [.agg [.val (.int .i64 9),.val (.int .i64 10),.val (.int .i64 1),.val (.bool true),.slc 1 [.val (.int .u8 60),.val (.int .u8 97),.val (.int .u8 32),.val (.int .u8 120),.val (.int .u8 61),.val (.int .u8 39),.val (.int .u8 49),.val (.int .u8 39),.val (.int .u8 47),.val (.int .u8 62)],.slc 1 []],.agg [.val (.int .i64 20),.val (.int .i64 10),.val (.int .i64 2),.val (.bool false),.slc 1 [],.slc 1 [.val (.int .i64 0)]]]],.val (.int .i64 1),.slc 3 []]
theorem Qof:Q7e (Q6 aw33_b) (Qc aw33_b)=Qgs:=by cbv
theorem Qpr:BCall prog 8 [.slc 1 (Q4 aw33_b)] [] Qgs []:=by
 rw[<-Qof];exact QgU aw33_b (by decide)
def Qkh:List AV:=[.agg [.val (.int .i64 9),.val (.int .i64 10),.val (.int .i64 1),.val (.bool true),.slc 1 [.val (.int .u8 60),.val (.int .u8 97),.val (.int .u8 32),.val (.int .u8 120),.val (.int .u8 61),.val (.int .u8 39),.val (.int .u8 49),.val (.int .u8 39),.val (.int .u8 47),.val (.int .u8 62)],.slc 1 []],.agg [.val (.int .i64 20),.val (.int .i64 10),.val (.int .i64 2),.val (.bool false),.slc 1 [],.slc 1 [.val (.int .i64 0)]]]
def QgS:List AV:=[.agg [.ref [.slc 6 Qkh],.val (.int .i64 1),.val (.int .i64 0),.val (.int .i64 0),.val (.pointer none)],.val (.int .i64 1073741824)]
def Q9v:AV:=.slc 5 [.agg [.opt (.ref [.slc 6 [.agg [.val (.int .i64 9),.val (.int .i64 10),.val (.int .i64 1),.val (.bool true),.slc 1 [.val (.int .u8 60),.val (.int .u8 97),.val (.int .u8 32),.val (.int .u8 120),.val (.int .u8 61),.val (.int .u8 39),.val (.int .u8 49),.val (.int .u8 39),.val (.int .u8 47),.val (.int .u8 62)],.slc 1 []],.agg [.val (.int .i64 20),.val (.int .i64 10),.val (.int .i64 2),.val (.bool false),.slc 1 [],.slc 1 [.val (.int .i64 0)]]]]),.val (.int .i64 1),.val (.int .i64 0),.val (.int .i64 0),.opt (.val (.pointer none))],.agg [.opt (.ref [.slc 6 [.agg [.val (.int .i64 9),.val (.int .i64 10),.val (.int .i64 1),.val (.bool true),.slc 1 [.val (.int .u8 60),.val (.int .u8 97),.val (.int .u8 32),.val (.int .u8 120),.val (.int .u8 61),.val (.int .u8 39),.val (.int .u8 49),.val (.int .u8 39),.val (.int .u8 47),.val (.int .u8 62)],.slc 1 []],.agg [.val (.int .i64 20),.val (.int .i64 10),.val (.int .i64 2),.val (.bool false),.slc 1 [],.slc 1 [.val (.int .i64 0)]]]]),.val (.int .i64 0),.val (.int .i64 0),.val (.int .i64 0),.opt (.ref [.ref [.slc 6 [.agg [.val (.int .i64 9),.val (.int .i64 10),.val (.int .i64 1),.val (.bool true),.slc 1 [.val (.int .u8 60),.val (.int .u8 97),.val (.int .u8 32),.val (.int .u8 120),.val (.int .u8 61),.val (.int .u8 39),.val (.int .u8 49),.val (.int .u8 39),.val (.int .u8 47),.val (.int .u8 62)],.slc 1 []],.agg [.val (.int .i64 20),.val (.int .i64 10),.val (.int .i64 2),.val (.bool false),.slc 1 [],.slc 1 [.val (.int .i64 0)]]]],.val (.int .i64 1),.val (.int .i64 0),.val (.int .i64 0),.opt (.val (.pointer none))])]]
theorem QpN:BCall prog 10 QgS [] Q9v []:=by
 have hO:=Q8r aw33_b (by decide)
 have h:=Qlf (Qs (Qc aw33_b)).n aw33_b.length 400000 hO.ar (by decide) (by decide) (Cur.root (Qc aw33_b).n.length) hO.root 1073741824 (by decide)
 have e0:(Q23 (Qs (Qc aw33_b)).n 30 [(Cur.root (Qc aw33_b).n.length)]).length<30:=by
  have:(Q23 (Qs (Qc aw33_b)).n 30 [(Cur.root (Qc aw33_b).n.length)]).length=(Q2o Q9v).length:=by cbv
  rw[this];decide
 have ew:Q7c (Qs (Qc aw33_b)).n (Cur.root (Qc aw33_b).n.length) 1073741824=Q23 (Qs (Qc aw33_b)).n 30 [(Cur.root (Qc aw33_b).n.length)]:=Q9e 30 [(Cur.root (Qc aw33_b).n.length)] 1073741794 e0;rw[ew]at h;have e2:AV.slc 5 (QA (Q1 (Qs (Qc aw33_b)).n) (Q23 (Qs (Qc aw33_b)).n 30 [(Cur.root (Qc aw33_b).n.length)]))=Q9v:=by cbv
 have e1:AV.agg ((Cur.root (Qc aw33_b).n.length).el (Q1 (Qs (Qc aw33_b)).n))=.agg [.opt (.ref [.slc 6 Qkh]),.val (.int .i64 1),.val (.int .i64 0),.val (.int .i64 0),.opt (.val (.pointer none))]:=by cbv
 rw[e1,e2]at h;exact h.le ⟨⟨.inr (.inr (.inl ⟨rfl,trivial⟩)),.inl rfl,.inl rfl,.inl rfl,.inr (.inr (.inl ⟨rfl,trivial⟩)),trivial⟩,.inl rfl,trivial⟩
theorem QpP:BCall prog 46 [.val (.int .i64 0),.slc 1 (Q4 [60,97,32,120,61,39,49,39,47,62])] [] (.slc 3 [.agg [.val (.int .i32 60),.val (.int .i64 0),.val (.int .i64 1)],.agg [.val (.int .i32 97),.val (.int .i64 1),.val (.int .i64 1)],.agg [.val (.int .i32 32),.val (.int .i64 2),.val (.int .i64 1)],.agg [.val (.int .i32 120),.val (.int .i64 3),.val (.int .i64 1)],.agg [.val (.int .i32 61),.val (.int .i64 4),.val (.int .i64 1)],.agg [.val (.int .i32 39),.val (.int .i64 5),.val (.int .i64 1)],.agg [.val (.int .i32 49),.val (.int .i64 6),.val (.int .i64 1)],.agg [.val (.int .i32 39),.val (.int .i64 7),.val (.int .i64 1)],.agg [.val (.int .i32 47),.val (.int .i64 8),.val (.int .i64 1)],.agg [.val (.int .i32 62),.val (.int .i64 9),.val (.int .i64 1)]]) []:=by
 have e:AV.slc 3 (QM (Q4a 0 [60,97,32,120,61,39,49,39,47,62]))=.slc 3 [.agg [.val (.int .i32 60),.val (.int .i64 0),.val (.int .i64 1)],.agg [.val (.int .i32 97),.val (.int .i64 1),.val (.int .i64 1)],.agg [.val (.int .i32 32),.val (.int .i64 2),.val (.int .i64 1)],.agg [.val (.int .i32 120),.val (.int .i64 3),.val (.int .i64 1)],.agg [.val (.int .i32 61),.val (.int .i64 4),.val (.int .i64 1)],.agg [.val (.int .i32 39),.val (.int .i64 5),.val (.int .i64 1)],.agg [.val (.int .i32 49),.val (.int .i64 6),.val (.int .i64 1)],.agg [.val (.int .i32 39),.val (.int .i64 7),.val (.int .i64 1)],.agg [.val (.int .i32 47),.val (.int .i64 8),.val (.int .i64 1)],.agg [.val (.int .i32 62),.val (.int .i64 9),.val (.int .i64 1)]]:=by cbv
 rw[<-e];exact Qa4 _ _ (by decide)
theorem Qpv:BCall prog 32 [.slc 1 (Q0 [60,97,32,120,61,39,49,39,47,62]),.val (.int .i64 0),.val (.int .i64 10)] [] (.agg [.val (.int .i64 2),.val (.int .i64 1),.val (.int .i64 2),.slc 9 [.agg [.val (.int .i64 2),.val (.int .i64 3),.val (.int .i64 4),.val (.int .i64 5),.val (.int .i64 5),.val (.int .i64 8),.val (.int .i64 7),.val (.int .i64 2),.val (.int .i64 8)]],.val (.bool true),.val (.bool true)]) []:=by
 have e:AV.agg [.val (.int .i64 (QB [60,97,32,120,61,39,49,39,47,62] 0 10).name.kind),.val (.int .i64 (QB [60,97,32,120,61,39,49,39,47,62] 0 10).name.from_),.val (.int .i64 (QB [60,97,32,120,61,39,49,39,47,62] 0 10).name.to),.slc 9 (QL (QB [60,97,32,120,61,39,49,39,47,62] 0 10).attrs),.val (.bool (QB [60,97,32,120,61,39,49,39,47,62] 0 10).right),.val (.bool (QB [60,97,32,120,61,39,49,39,47,62] 0 10).empty)]=.agg [.val (.int .i64 2),.val (.int .i64 1),.val (.int .i64 2),.slc 9 [.agg [.val (.int .i64 2),.val (.int .i64 3),.val (.int .i64 4),.val (.int .i64 5),.val (.int .i64 5),.val (.int .i64 8),.val (.int .i64 7),.val (.int .i64 2),.val (.int .i64 8)]],.val (.bool true),.val (.bool true)]:=by cbv
 rw[<-e];exact QaH [60,97,32,120,61,39,49,39,47,62] (by decide) 0 10 (by decide) (by decide) (by decide)
theorem QpD:BCall prog 33 [.agg [.val (.int .i64 0),.val (.int .i64 0),.slc 1 (Q0 [60,97,32,120,61,39,49,39,47,62]),.val (.slice none 0 0)],.val (.int .i64 3),.val (.int .i64 4)] [] (.val (.string ⟨#[120]⟩)) []:=by
 have e:AV.val (.string ⟨(Q3h ((([60,97,32,120,61,39,49,39,47,62]:List Int).drop (3:Int).toNat).take ((4:Int)-3).toNat)).toArray⟩)=.val (.string ⟨#[120]⟩):=by cbv
 rw[<-e];exact QaL [60,97,32,120,61,39,49,39,47,62] (by decide) 3 4 (by decide) (by decide) (by decide) (by decide)
theorem Qq5:BCall prog 49 [.slc 1 (Q0 [60,97,32,120,61,39,49,39,47,62])] [] (.slc 4 [.agg [.val (.int .i64 9),.val (.int .i64 0),.val (.int .i64 10),.val (.bool true)]]) []:=by
 have e:AV.slc 4 (QS (Q2E [60,97,32,120,61,39,49,39,47,62]))=.slc 4 [.agg [.val (.int .i64 9),.val (.int .i64 0),.val (.int .i64 10),.val (.bool true)]]:=by cbv
 rw[<-e];exact Qe8 _ (by decide)
def Qhr:List BE:=[
 ⟨8,[.slc 1 (Q4 aw33_b)],[],Qgs,[]⟩,
 ⟨10,QgS,[],Q9v,[]⟩,
 ⟨46,[.val (.int .i64 0),.slc 1 (Q4 [60,97,32,120,61,39,49,39,47,62])],[],.slc 3 [.agg [.val (.int .i32 60),.val (.int .i64 0),.val (.int .i64 1)],.agg [.val (.int .i32 97),.val (.int .i64 1),.val (.int .i64 1)],.agg [.val (.int .i32 32),.val (.int .i64 2),.val (.int .i64 1)],.agg [.val (.int .i32 120),.val (.int .i64 3),.val (.int .i64 1)],.agg [.val (.int .i32 61),.val (.int .i64 4),.val (.int .i64 1)],.agg [.val (.int .i32 39),.val (.int .i64 5),.val (.int .i64 1)],.agg [.val (.int .i32 49),.val (.int .i64 6),.val (.int .i64 1)],.agg [.val (.int .i32 39),.val (.int .i64 7),.val (.int .i64 1)],.agg [.val (.int .i32 47),.val (.int .i64 8),.val (.int .i64 1)],.agg [.val (.int .i32 62),.val (.int .i64 9),.val (.int .i64 1)]],[]⟩,
 ⟨32,[.slc 1 (Q0 [60,97,32,120,61,39,49,39,47,62]),.val (.int .i64 0),.val (.int .i64 10)],[],.agg [.val (.int .i64 2),.val (.int .i64 1),.val (.int .i64 2),.slc 9 [.agg [.val (.int .i64 2),.val (.int .i64 3),.val (.int .i64 4),.val (.int .i64 5),.val (.int .i64 5),.val (.int .i64 8),.val (.int .i64 7),.val (.int .i64 2),.val (.int .i64 8)]],.val (.bool true),.val (.bool true)],[]⟩,
 ⟨33,[.agg [.val (.int .i64 0),.val (.int .i64 0),.slc 1 (Q0 [60,97,32,120,61,39,49,39,47,62]),.val (.slice none 0 0)],.val (.int .i64 3),.val (.int .i64 4)],[],.val (.string ⟨#[120]⟩),[]⟩,
 ⟨49,[.slc 1 (Q0 [60,97,32,120,61,39,49,39,47,62])],[],.slc 4 [.agg [.val (.int .i64 9),.val (.int .i64 0),.val (.int .i64 10),.val (.bool true)]],[]⟩]
theorem Qkx:Qi4 Qhr:=by
 unfold Qhr;refine⟨⟨rfl,Qpr⟩,?_⟩;refine⟨⟨rfl,QpN⟩,?_⟩;refine⟨⟨rfl,QpP⟩,?_⟩;refine⟨⟨rfl,Qpv⟩,?_⟩;refine⟨⟨rfl,QpD⟩,?_⟩;refine⟨⟨rfl,Qq5⟩,?_⟩;exact trivial
def QeH:Nat->List Srt->Bool:=Qqv
theorem QiI:∀T sh,QeH T sh=true->Qfw prog T sh/\Q9o prog T sh:=Qns
theorem QjM:BCall prog 7 [] [] (.val (.bool true)) [] :=
 QqZ Qfp Qkx (ask:=QeH) QiI (lf:=100) (n:=40) (by kernel_rfl)
theorem Qja(b:List UInt8)(hb:b.length<=100000000):BCall prog 79 [.slc 1 (Q4 b)] [] (.slc 3 (QM (Q4m b))) []:=by
 refine BCall.hand (enters_of func79 (by kernel_rfl) rfl) fun w g vs M hL=>?_
 obtain⟨v1,vs1,rfl,h1,hL⟩:=QX hL;obtain rfl:=Q2T hL;obtain⟨A,c,rfl,hr⟩:=QeP h1 M;refine(QfZ _ A _ c b w hr (by omega)).mono fun e w' ⟨v,h,⟨n',ho⟩,zH⟩=>⟨v,h,zH,?_⟩
 have hn:n'=(QM (Q4m b)).length:=by
  have:=ho.1
  rw[Q44]at this;rw[Q3o,Q4m,length_map];omega
 refine Qhj (A':=(g.imm w w').A) ho (by decide) ?_ hn (fun x hx=>?_) (fun b o h1 h2=>.inr ⟨h1,h2⟩)
 ·rw[Q4m,QaJ]
  refine Qbg fun u hu=>?_
  obtain⟨x,_,hx⟩:=List.mem_flatMap.1 hu;simp only[List.mem_cons,List.not_mem_nil,or_false]at hx;rcases hx with rfl|rfl|rfl<;>rfl
 ·obtain⟨y,_,rfl⟩:=List.mem_map.1 hx
  rfl
def Qqm(f8:List AV)(fw:Bool->List AV):Nat->List AV->List Ob->Option (AV×List Ob):=fun f args _=>match f,args with
 |79,[.slc 1 _]=>some (.slc 3 f8,[])
 |80,[.slc 1 _,.val (.bool b)]=>some (.slc 3 (fw b),[])
 |_,_=>none
theorem Qjb(kind:Int)(b:List UInt8)(hb:b.length<=100000000)(hk:kind=0\/kind=1\/kind=2):BCall prog 37 [.slc 1 (Q4 b),.val (.int .i64 kind)] [] (.slc 3 (QM (Q4a kind b))) []:=by
 have c8:=Qja b hb;obtain⟨fw,xN⟩:=exq (fun big=>QM (Q1n big 0 b))
 have cw:∀big,BCall prog 80 [.slc 1 (Q4 b),.val (.bool big)] [] (.slc 3 (fw big)) []:=fun big=>by rw[xN];exact QiA big b (by omega)
 obtain⟨f8,xz⟩:=exq (QM (Q4m b));rw[<-xz]at c8;obtain⟨R,hR⟩:=exq (QM (Q4a kind b));rw[<-hR]
 have qz:R=if kind=0 then f8 else fw (decide (kind=1)):=by
  rw[hR,Q4a,xz,xN];rcases hk with h|h|h
  ·rw[if_pos h,if_pos h]
  ·rw[if_neg (by omega),if_pos h,if_neg (by omega),decide_eq_true h]
  ·rw[if_neg (by omega),if_neg (by omega),if_pos h,if_neg (by omega),decide_eq_false (by omega)]
 clear hR xN xz;by_cases h0:kind=0
 ·rw[if_pos h0]at qz
  rw[qz];clear qz;refine fnN (Qqm f8 fw) func37 rfl fun _ _=>?_
  with_reducible refine cv1 (Q4 b) ?_
  with_reducible repeat' first|refine aU h0 ?_|refine And.intro ?_ ?_|intro hb
  all_goals first
   |exact c8
   |exact .pure rfl (.inl rfl)
 ·rw[if_neg h0]at qz
  rw[qz];clear qz;refine fnN (Qqm f8 fw) func37 rfl fun _ _=>?_
  with_reducible refine cv1 (Q4 b) ?_
  with_reducible repeat' first|refine aU h0 ?_|refine And.intro ?_ ?_|intro hb
  all_goals first
   |exact cw _
   |(refine .pure rfl (.inl ?_);rfl)
def QoS(k bom:Int)(pc:List AV):Nat->List AV->List Ob->Option (AV×List Ob):=fun f args _=>match f,args with
 |36,_=>some (.tup [.val (.int .i64 k),.val (.int .i64 bom)],[])
 |37,[.slc 1 _,.val (.int .i64 _)]=>some (.slc 3 pc,[])
 |_,_=>none
theorem Qi8(b:List UInt8)(hb:b.length<=1000000)(jm:(Q2S b).length<=1000000)(qe:∀x∈Q2S b,0<=x.off/\x.off<=1000000) :
  BCall prog 16 [.slc 1 (Q4 b)] [] (.agg (Q6 b).cs) []:=by
 have z8:=Q4Z b;have cK:=Qig b;have kW:=Q4J b;obtain⟨k,hk⟩:=exq ((QV b).1);obtain⟨bom,vg⟩:=exq ((QV b).2);obtain⟨ps,yP⟩:=exq (Q2S b);have hT:Q6 b=⟨k,bom,ps.map Itm.r,ps.map (fun x=>x.off+bom)++[(b.length:Int)]⟩:=by rw[hk,vg,yP];rfl
 have nX:ps=Q4a k (b.drop bom.toNat):=by rw[hk,vg,yP];rfl
 rw[hT];rw[<-yP]at jm qe;rw[<-hk,<-vg]at cK;rw[<-vg]at z8;rw[<-hk]at kW;clear hT hk vg yP
 have jU:std.cut (Q4 b) bom (std.len (Q4 b))=Q4 (b.drop bom.toNat):=by
  show((Q4 b).drop bom.toNat).take ((Q4 b).length-bom:Int).toNat=_
  rw[Q4,Q4,List.map_drop,take_of_length_le (by simp;omega)]
 have cP:BCall prog 37 [.slc 1 (std.cut (Q4 b) bom (std.len (Q4 b))),.val (.int .i64 k)] [] (.slc 3 (QM ps)) []:=by
  rw[jU,nX];exact Qjb k _ (by rw[List.length_drop];omega) kW
 obtain⟨nb,yQ⟩:=QG b;obtain⟨n,hn⟩:=QG ps;have nY:bom<=nb:=by rw[yQ.eq];exact z8.2
 have xo:=z8.1;clear z8;refine fnN (QoS k bom (QM ps)) func16 rfl fun _ _=>?_
 with_reducible refine cv2 (Q4 b) (QM ps) ?_
 have enb:=yQ.eq;have en:=hn.eq;have jW:=Q1c b;refine⟨cK,?_,cP,?_⟩
 ·simp only[std,jW];omega
 have qf:std.len (QM ps)=n:=by simp only[std,Q3o];omega
 refine Q1h (QoS k bom (QM ps)) (Int) (fun i=>⟨[(0,.slc 1 (Q4 b)),(2,.box 0 0),(4,.val (.int .i64 bom)),(5,.box 1 0),(20,.slc 3 (QM ps)),(21,.val (.int .i64 n)),(22,.val (.int .i64 i))],[.box [.val (.int .i64 0),.val (.int .i64 0),.val (.slice none 0 0),.val (.slice none 0 0)],.box [.val (.int .i64 k),.val (.int .i64 bom),.row 2 0,.row 3 0],.row 21 1 false 0 (Q0 ((ps.take i.toNat).map Itm.r)),.row 3 1 false 0 (Q9 ((ps.take i.toNat).map fun x=>x.off+bom))]⟩) (fun i=>0<=i/\i<=n) (fun i=>(n-i).toNat) 0 ?_ ?_ ?_
 ·omega
 ·refine⟨[some 0,some 1,none,none],_,rfl,?_⟩
  simp only[Int.toNat_zero,List.take_zero,List.map_nil]
  repeat first
   |exact trivial
   |refine⟨gI qf,?_⟩
   |refine⟨rfl,?_⟩
 ·rintro i ⟨jN,jS⟩
  have j3:=Q3o ps;rcases Int.lt_or_eq_of_le jS with jB|j4
  ·have jX:(QM ps)[i.toNat]?.getD .dead=(ps[i.toNat]?.getD ⟨0,0,0⟩).av:=QfP Itm.av jN (by omega) ⟨0,0,0⟩
   have vV:i.toNat<ps.length:=by omega
   have hx:=qe (ps[i.toNat]?.getD ⟨0,0,0⟩) (by simp[vV])
   have ht:ps.take (i+1).toNat=ps.take i.toNat++[ps[i.toNat]?.getD ⟨0,0,0⟩]:=by
    rw[show(i+1).toNat=i.toNat+1 by omega,List.take_add_one]
    simp[vV]
   have vB:Q0 ((ps.take (i+1).toNat).map Itm.r)=Q0 ((ps.take i.toNat).map Itm.r)++[.val (.int .i32 (ps[i.toNat]?.getD ⟨0,0,0⟩).r)]:=by
    rw[ht,map_append,Q8V];rfl
   have q6:Q9 ((ps.take (i+1).toNat).map fun x=>x.off+bom)=Q9 ((ps.take i.toNat).map fun x=>x.off+bom)++[.val (.int .i64 (bom+(ps[i.toNat]?.getD ⟨0,0,0⟩).off))]:=by
    rw[ht,map_append,Q55,Int.add_comm bom];rfl
   have yb:(Q0 ((ps.take i.toNat).map Itm.r)).length<=1000000:=by simp[Q0];omega
   have vt:(Q9 ((ps.take i.toNat).map fun x=>x.off+bom)).length<=1000000:=by simp[Q9];omega
   obtain⟨x,hxE⟩:=exq (ps[i.toNat]?.getD ⟨0,0,0⟩);rw[<-hxE]at jX hx vB q6;obtain⟨R,hR⟩:=exq (Q0 ((ps.take i.toNat).map Itm.r));obtain⟨O,hO⟩:=exq (Q9 ((ps.take i.toNat).map fun x=>x.off+bom))
   rw[<-hR]at vB yb ⊢;rw[<-hO]at q6 vt ⊢;clear en enb ht;with_reducible refine cv2 (Q4 b) (QM ps) ?_
   have en:=hn.eq;have enb:=yQ.eq
   repeat' first
    |(with_reducible refine And.intro (fun hx=>absurd hx (by first|(try simp[std,S1,jX,Itm.av,j3,jB,jN])<;>omega|omega)) (fun _=>?_))
    |(with_reducible refine And.intro (fun _=>?_) (fun hx=>absurd hx (by first|(try simp[std,S1,jX,Itm.av,j3,jB,jN])<;>omega|omega)))
    |(with_reducible refine And.intro (by first|(try simp[std,S1,jX,Itm.av,j3,jB,jN])<;>omega|omega) ?_)
    |(with_reducible refine And.intro ?_ ?_)
    |(with_reducible intro hb)
   exact⟨i+1,⟨by omega,by omega⟩,by omega,[some 0,some 1,some 2,some 3],_,rfl,by simp[-List.map_take,Qm,lk,std,jX,j3,Itm.av,AV.cells,RowKit.intOf,vB,q6]⟩
  ·have ht:ps.take i.toNat=ps:=take_of_length_le (by omega)
   rw[ht];have vt:(Q9 (ps.map fun x=>x.off+bom)).length<=1000000:=by simp[Q9];omega
   have hf:Q9 (ps.map (fun x=>x.off+bom)++[(b.length:Int)])=Q9 (ps.map fun x=>x.off+bom)++[.val (.int .i64 nb)]:=by
    rw[Q55,yQ.eq];rfl
   have hlb:std.len (Q4 b)=nb:=by rw[enb];simp only[std,jW]
   obtain⟨R,hR⟩:=exq (Q0 (ps.map Itm.r));obtain⟨O,hO⟩:=exq (Q9 (ps.map fun x=>x.off+bom))
   rw[<-hO]at vt hf
   have hcs:(Txt.mk k bom (ps.map Itm.r) (ps.map (fun x=>x.off+bom)++[(b.length:Int)])).cs=[.val (.int .i64 k),.val (.int .i64 bom),.slc 1 R,.slc 1 (O++[.val (.int .i64 nb)])]:=by
    rw[Txt.cs,hf,hR]
   rw[hcs,<-hR,<-hO];clear en enb ht hcs;with_reducible refine cv2 (Q4 b) (QM ps) ?_
   with_reducible repeat' first|refine aU j4 ?_|refine And.intro ?_ ?_|intro hb
   rw[if_pos trivial];with_reducible refine cv2 (Q4 b) (QM ps) ?_
   refine⟨?_,.pure rfl ?_⟩
   ·simp[std];omega
   ·refine⟨.inl rfl,.inl rfl,.inl rfl,.inl ?_,trivial⟩
    show AV.slc 1 (std.app O [.val (.int .i64 (std.len (Q4 b)))])=_;rw[hlb];rfl
