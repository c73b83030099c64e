/- Lemmas, conditions told -/
import Derived.Test.YtibemhahkicbpaaGreatL22
set_option maxRecDepth 99999
set_option maxHeartbeats 0
set_option linter.unusedSimpArgs false
set_option linter.unusedVariables false
namespace Go.Proofs.YtibemhahkicbpaaGreat
open Go.RowKit Go.Lib
section
open Tryz
def Qw3(SB LS T:List AV)(WV:AV)(C:List AV)(ok:Bool)(F IT:List AV)(A1 R1:AV):Nat->List AV->List Ob->Option (AV×List Ob):=fun g _ _=>match g with
 |11=>some (.slc 1 SB,[])
 |12=>some (.slc 1 LS,[])
 |13=>some (.agg T,[])
 |14=>some (WV,[])
 |15=>some (.tup [.agg C,.val (.bool ok)],[])
 |16=>some (A1,[])
 |17=>some (.tup [.agg F,.val (.bool ok)],[])
 |18=>some (.slc 3 IT,[])
 |19=>some (R1,[])
 |20=>some (.val (.bool true),[])
 |_=>none
def QvE(ef:Int)(its:List Itm):List Int:=(Qvz its).map fun x=>ef+x
theorem QvJ(ef:Int)(its:List Itm):(QvE ef its).length=its.length+1:=by rw[QvE,List.length_map,QvB]
theorem QvU(ef:Int)(its:List Itm){k:Int}(h0:0<=k)(h1:k<=its.length):std.at_ (Q9 (QvE ef its)) k=.val (.int .i64 (ef+gI_ (Qvz its) k)):=by
 have hk:k.toNat<(Qvz its).length:=by rw[QvB];omega
 show(Q9 (QvE ef its)).getD k.toNat .dead=_
 rw[List.getD_eq_getElem?_getD,Q9,QvE,List.map_map,List.getElem?_map,gI_,List.getElem?_eq_getElem hk];rfl
theorem Qw0(B LA SB LS TR TO N D OP E2 PA TX:List AV)(tk tm rt cn cf ck ef ee ia ib a1 a2 v1 v2 pk pf pt qk qf qt:Int)(P U:AV)(em ok is al:Bool)(nm:ByteArray)(its:List Itm)(ru:List Int)(zb:ru=its.map Itm.r)
  (j1:its.length<=1000000) (xo:∀x∈its,0<=x.off/\x.off<=1000000/\0<=x.n/\x.n<=1000000) (hef:0<=ef/\ef<=1000000) (hP:Q56 P) (hU:Q56 U)
  (yK:(ok&&al)=false->is=false/\a1=0/\a2=0/\v1=0/\v2=0)
  (hyes:(ok&&al)=true->is=true/\(0<=pf/\pf<=its.length/\a1=ef+gI_ (Qvz its) pf)/\(0<=pt/\pt<=its.length/\a2=ef+gI_ (Qvz its) pt)/\(0<=qf+1/\qf+1<=its.length/\v1=ef+gI_ (Qvz its) (qf+1))/\(0<=qt-1/\qt-1<=its.length/\v2=ef+gI_ (Qvz its) (qt-1)))
  (cS:BCall prog 11 [.slc 1 B] [] (.slc 1 SB) []) (cs:BCall prog 12 [.slc 1 LA] [] (.slc 1 LS) [])
  (cP:BCall prog 13 [.slc 1 SB] [] (.agg [.val (.int .i64 tk),.val (.int .i64 tm),.slc 1 TR,.slc 1 TO,.ref [.slc 6 N],.val (.int .i64 rt),.slc 3 D]) []) (cR:BCall prog 14 [.slc 1 SB] [] (.ref [.slc 1 SB,.val (.int .i64 tk),.val (.int .i64 tm),.slc 1 TR,.slc 1 TO,.slc 1 OP,.slc 3 E2,.slc 3 D]) [])
  (cE:BCall prog 15 [.agg [.val (.int .i64 tk),.val (.int .i64 tm),.slc 1 TR,.slc 1 TO,.ref [.slc 6 N],.val (.int .i64 rt),.slc 3 D],.slc 1 LS] [] (.tup [.agg [.opt P,.val (.int .i64 cn),.val (.int .i64 cf),.val (.int .i64 ck),.opt U],.val (.bool ok)]) [])
  (cAt:BCall prog 16 [.agg [.val (.int .i64 tk),.val (.int .i64 tm),.slc 1 TR,.slc 1 TO,.ref [.slc 6 N],.val (.int .i64 rt),.slc 3 D],.agg [.opt P,.val (.int .i64 cn),.val (.int .i64 cf),.val (.int .i64 ck),.opt U],.val (.string nm)] [] (.tup [.agg [.val (.int .i64 a1),.val (.int .i64 a2)],.agg [.val (.int .i64 v1),.val (.int .i64 v2)],.val (.bool is)]) [])
  (cF:BCall prog 17 [.ref [.slc 1 SB,.val (.int .i64 tk),.val (.int .i64 tm),.slc 1 TR,.slc 1 TO,.slc 1 OP,.slc 3 E2,.slc 3 D],.slc 1 LS] [] (.tup [.agg [.slc 1 PA,.val (.int .i64 ef),.val (.int .i64 ee),.val (.int .i64 ia),.val (.int .i64 ib),.val (.bool em),.slc 1 TX],.val (.bool ok)]) [])
  (cI:BCall prog 18 [.slc 1 TX,.val (.int .i64 tk)] [] (.slc 3 (QP its)) [])
  (cRA:BCall prog 19 [.slc 1 (Q0 ru),.val (.string nm)] [] (.tup [.agg [.val (.int .i64 pk),.val (.int .i64 pf),.val (.int .i64 pt)],.agg [.val (.int .i64 qk),.val (.int .i64 qf),.val (.int .i64 qt)],.val (.bool al)]) [])
  (cA:BCall prog 20 [] [] (.val (.bool true)) []) :
  BCall prog 3 [.slc 1 B,.slc 1 LA,.val (.string nm)] [] (.val (.bool true)) []:=by
 obtain⟨n,hn⟩:=QE its;have nR:std.len (QP its)=n:=by show((QP its).length:Int)=n;rw[Q3m,hn.eq]
 have js:0<=n/\n<=1000000:=by rw[hn.eq];omega
 have h00:[AV.val (.int .i64 ef)]=Q9 (QvE ef []):=by simp[QvE,Qvz,Q9,Qgf]
 refine fnO false (Qw3 SB LS ([.val (.int .i64 tk),.val (.int .i64 tm),.slc 1 TR,.slc 1 TO,.ref [.slc 6 N],.val (.int .i64 rt),.slc 3 D]) (.ref [.slc 1 SB,.val (.int .i64 tk),.val (.int .i64 tm),.slc 1 TR,.slc 1 TO,.slc 1 OP,.slc 3 E2,.slc 3 D]) ([.opt P,.val (.int .i64 cn),.val (.int .i64 cf),.val (.int .i64 ck),.opt U]) ok ([.slc 1 PA,.val (.int .i64 ef),.val (.int .i64 ee),.val (.int .i64 ia),.val (.int .i64 ib),.val (.bool em),.slc 1 TX]) (QP its) (.tup [.agg [.val (.int .i64 a1),.val (.int .i64 a2)],.agg [.val (.int .i64 v1),.val (.int .i64 v2)],.val (.bool is)]) (.tup [.agg [.val (.int .i64 pk),.val (.int .i64 pf),.val (.int .i64 pt)],.agg [.val (.int .i64 qk),.val (.int .i64 qf),.val (.int .i64 qt)],.val (.bool al)])) (fun id=>match id with|8=> .of [0,1,2,3,4,5,6,9,7,8]|_=>.nil) func3 rfl fun _ _=>?_
 with_reducible refine cv1 (QP its) ?_
 refine⟨cS,cs,cP,cR,cE,cAt,cF,⟨rfl,trivial⟩,cI,?_⟩;refine Quc (Qw3 SB LS ([.val (.int .i64 tk),.val (.int .i64 tm),.slc 1 TR,.slc 1 TO,.ref [.slc 6 N],.val (.int .i64 rt),.slc 3 D]) (.ref [.slc 1 SB,.val (.int .i64 tk),.val (.int .i64 tm),.slc 1 TR,.slc 1 TO,.slc 1 OP,.slc 3 E2,.slc 3 D]) ([.opt P,.val (.int .i64 cn),.val (.int .i64 cf),.val (.int .i64 ck),.opt U]) ok ([.slc 1 PA,.val (.int .i64 ef),.val (.int .i64 ee),.val (.int .i64 ia),.val (.int .i64 ib),.val (.bool em),.slc 1 TX]) (QP its) (.tup [.agg [.val (.int .i64 a1),.val (.int .i64 a2)],.agg [.val (.int .i64 v1),.val (.int .i64 v2)],.val (.bool is)]) (.tup [.agg [.val (.int .i64 pk),.val (.int .i64 pf),.val (.int .i64 pt)],.agg [.val (.int .i64 qk),.val (.int .i64 qf),.val (.int .i64 qt)],.val (.bool al)])) (fun id=>match id with|8=> .of [0,1,2,3,4,5,6,9,7,8]|_=>.nil) (Int) (fun i=>⟨[(2,.val (.string nm)),(10,.val (.bool ok)),(11,.box 0 0),(12,.box 1 0),(13,.val (.bool is)),(14,.box 2 0),(16,.row 3 0),(17,.row 4 0),(61,.slc 3 (QP its)),(62,.val (.int .i64 n)),(63,.val (.int .i64 i))],[.box [.val (.int .i64 a1),.val (.int .i64 a2)],.box [.val (.int .i64 v1),.val (.int .i64 v2)],.box [.slc 1 PA,.val (.int .i64 ef),.val (.int .i64 ee),.val (.int .i64 ia),.val (.int .i64 ib),.val (.bool em),.slc 1 TX],.row 21 1 false 0 (Q0 ((its.take i.toNat).map Itm.r)),.row 3 1 false 0 (Q9 (QvE ef (its.take i.toNat)))]⟩) (fun i=>0<=i/\i<=n) (fun i=>(n-i).toNat) 0 ?_ ?_ ?_
 ·exact⟨Int.le_refl 0,js.1⟩
 ·refine⟨[some 2,some 3,some 4,none,some 5],_,rfl,?_⟩
  exact eq2 nR h00
 ·rintro i ⟨jK,qi⟩
  have jK:0<=i:=jK;have qi:i<=n:=qi;obtain⟨RU,zx⟩:=exq (Q0 ((its.take i.toNat).map Itm.r));obtain⟨OF,zy⟩:=exq (Q9 (QvE ef (its.take i.toNat)));have hRUl:RU.length<=1000000:=by rw[zx,Qx,List.length_map,List.length_take];omega
  have hOFl:OF.length<=1000001:=by rw[zy,Q2w,QvJ,List.length_take];omega
  rw[<-zx,<-zy];with_reducible refine cv1 (QP its) ?_
  refine⟨fun h=>?_,fun h=>?_⟩
  ·have gp:i<n:=of_decide_eq_true h
   have hk:i.toNat<its.length:=by have:=hn.eq;omega
   obtain⟨x,hx⟩:=exq (its[i.toNat])
   have jV:std.at_ (QP its) i=x.av:=by
    show(QP its).getD i.toNat .dead=_
    rw[List.getD_eq_getElem?_getD,QP,List.getElem?_map,List.getElem?_eq_getElem hk,hx];rfl
   have hxo:=xo x (by rw[hx];exact List.getElem_mem hk)
   have xX:(std.all [std.hasI .i32 (std.nth (std.cel (std.at_ (QP its) i)) 0),std.hasI .i64 (std.nth (std.cel (std.at_ (QP its) i)) 1),std.hasI .i64 (std.nth (std.cel (std.at_ (QP its) i)) 2)]).q:=by rw[jV];exact⟨rfl,rfl,rfl,trivial⟩
   have e0:std.int (std.nth (std.cel (std.at_ (QP its) i)) 0)=x.r:=by rw[jV];rfl
   have e1:std.int (std.nth (std.cel (std.at_ (QP its) i)) 1)=x.off:=by rw[jV];rfl
   have e2:std.int (std.nth (std.cel (std.at_ (QP its) i)) 2)=x.n:=by rw[jV];rfl
   have vh:its.take (i+1).toNat=its.take i.toNat++[x]:=by
    rw[show(i+1).toNat=i.toNat+1 by omega,List.take_add_one,List.getElem?_eq_getElem hk,hx];rfl
   have f0:std.app RU [.val (.int .i32 (std.int (std.nth (std.cel (std.at_ (QP its) i)) 0)))]=Q0 ((its.take (i+1).toNat).map Itm.r):=by
    rw[e0,vh,List.map_append,Q95,zx];rfl
   have f1:std.app OF [.val (.int .i64 (std.add (std.add ef (std.int (std.nth (std.cel (std.at_ (QP its) i)) 1))) (std.int (std.nth (std.cel (std.at_ (QP its) i)) 2))))]=Q9 (QvE ef (its.take (i+1).toNat)):=by
    rw[e1,e2,vh,QvE,Qvz,List.map_append,<-List.cons_append,List.map_append,Q4T,zy];show Q9 (QvE ef _)++[Qgf (ef+x.off+x.n)]=Q9 (QvE ef _)++[Qgf (ef+(x.off+x.n))];rw[Int.add_assoc]
   refine⟨⟨jK,by show i<std.len (QP its);rw[nR];exact gp⟩,xX,?_,?_,?_,?_,?_,i+1,⟨by omega,by omega⟩,by omega,[some 0,some 1,some 2,some 3,some 4],_,rfl,?_⟩
   ·show RU.length+1<=1000000000
    omega
   ·show std.inR .i64 (ef+std.int (std.nth (std.cel (std.at_ (QP its) i)) 1))
    rw[e1,Qhr];omega
   ·show std.inR .i64 (ef+std.int (std.nth (std.cel (std.at_ (QP its) i)) 1)+std.int (std.nth (std.cel (std.at_ (QP its) i)) 2))
    rw[e1,e2,Qhr];omega
   ·show OF.length+1<=1000000000
    omega
   ·show std.inR .i64 (i+1)
    rw[Qhr];omega
   ·exact eq2 f0 f1
  ·have gp:i=n:=by
    have h:¬i<n:=of_decide_eq_false h;omega
   have vh:its.take i.toNat=its:=List.take_of_length_le (by have:=hn.eq;omega)
   rw[vh,<-zb]at zx;rw[vh]at zy;have cRA2:BCall prog 19 [.slc 1 RU,.val (.string nm)] [] (.tup [.agg [.val (.int .i64 pk),.val (.int .i64 pf),.val (.int .i64 pt)],.agg [.val (.int .i64 qk),.val (.int .i64 qf),.val (.int .i64 qt)],.val (.bool al)]) []:=by rw[zx];exact cRA
   have hOl:std.len OF=(its.length:Int)+1:=by
    rw[zy];show((Q9 (QvE ef its)).length:Int)=_
    rw[Q2w,QvJ];omega
   have Pq:∀e:Int,0<=e->e<=its.length->(std.inb e (std.len OF)).q/\(std.nth (std.drp (std.cel (std.at_ OF e)) 0) 0)=.val (.int .i64 (ef+gI_ (Qvz its) e)):=fun e e0 e1=>by
    refine⟨⟨e0,by rw[hOl];omega⟩,?_⟩
    rw[zy,QvU ef its e0 e1];rfl
   rw[if_pos trivial];with_reducible refine cv1 (QP its) ?_
   refine⟨cRA2,fun ho=>?_,fun ho=>⟨fun ha=>?_,fun ha=>?_⟩⟩
   rotate_left 2
   ·have ho:ok=true:=by have h:(!ok)=false:=ho;simpa using h
    have ha:al=true:=by have h:(!al)=false:=ha;simpa using h
    obtain⟨his,⟨p0,p1,p2⟩,⟨q0,q1,q2⟩,⟨r0,r1,r2⟩,⟨s0,s1,s2⟩⟩:=hyes (by rw[ho,ha];rfl)
    have X:∀x:AV,∀v:Int,x=.val (.int .i64 v)->(std.all [std.hasI .i64 x]).q:=fun x v h=>by rw[h];exact⟨rfl,trivial⟩
    have I:∀x:AV,∀v:Int,x=.val (.int .i64 v)->std.int x=v:=fun x v h=>by rw[h];rfl
    obtain⟨P1,P2⟩:=Pq pf p0 p1;obtain⟨Q1,Q2⟩:=Pq pt q0 q1;obtain⟨R1,R2⟩:=Pq (qf+1) r0 r1;obtain⟨S1,S2⟩:=Pq (qt-1) s0 s1
    have G:∀a b c d:Int,a=c->b=d->std.andB (std.eqI a c) (std.andB (std.eqI b d) true)=true:=fun a b c d h k=>by
     subst h;subst k;show((a == a)&&((b == b)&&true))=true
     simp
    have W1:(std.inR .i64 (std.add qf 1)).q:=by
     show std.inR .i64 (qf+1);rw[Qhr];omega
    have W2:(std.inR .i64 (std.sub qt 1)).q:=by
     show std.inR .i64 (qt-1);rw[Qhr];omega
    refine⟨fun _=>⟨P1,X _ _ P2,Q1,X _ _ Q2,QtM,fun _=>⟨W1,R1,X _ _ R2,W2,S1,X _ _ S2,QtM,fun _=>⟨cA,.pure rfl (.inl rfl)⟩,fun h=>?_⟩,fun h=>?_⟩,fun h=>absurd (his.symm.trans h) Bool.noConfusion⟩
    ·exact absurd ((G v1 v2 _ _ (r2.trans (I _ _ R2).symm) (s2.trans (I _ _ S2).symm)).symm.trans h) Bool.noConfusion
    ·exact absurd ((G a1 a2 _ _ (p2.trans (I _ _ P2).symm) (q2.trans (I _ _ Q2).symm)).symm.trans h) Bool.noConfusion
   all_goals
    have hf:(ok&&al)=false:=by
     first
      |(have h:(!ok)=true:=ho;have h2:ok=false:=by simpa using h
        rw[h2];rfl)
      |(have h:(!al)=true:=ha;have h2:al=false:=by simpa using h
        rw[h2,Bool.and_false])
    obtain⟨rfl,rfl,rfl,rfl,rfl⟩:=yK hf;exact⟨fun _=>⟨QtM,fun _=>⟨QtM,fun _=>⟨cA,.pure rfl (.inl rfl)⟩,fun h=>absurd (show true=false from h) Bool.noConfusion⟩,fun h=>absurd (show true=false from h) Bool.noConfusion⟩,fun h=>absurd (show true=false from h) Bool.noConfusion⟩
def QvC:AV:=.opt (.val (.pointer none))
def QvN:AV:=.agg [.val (.int .i64 0),.val (.int .i64 0),.val (.int .i64 0),.val (.bool false),.val (.slice none 0 0),.val (.slice none 0 0)]
def QvQ:Nat->List AV->List Ob->Option (AV×List Ob):=fun g _ _=>match g with
 |118=>some (.val (.int .i64 0),[])
 |117=>some (QvN,[])
 |115=>some (.val (.int .i64 0),[])
 |55=>some (.val (.int .i64 0),[])
 |21=>some (.tup [.agg [.val (.pointer none),.val (.int .i64 0),.val (.int .i64 0),.val (.int .i64 0),.val (.pointer none)],.val (.bool false)],[])
 |_=>none
theorem QvV:BCall prog 118 [QvC] [] (.val (.int .i64 0)) []:=by
 unfold QvC;refine fnN (QvQ) func118 rfl fun _ _=>?_
 with_reducible refine cv0 ?_
 exact⟨fun _=>.pure rfl (Qk3 rfl),fun h=>absurd (show true=false from h) Bool.noConfusion⟩
theorem QvY:BCall prog 117 [QvC,.val (.int .i64 0)] [] QvN []:=by
 have hL:=QvV;unfold QvC at *;unfold QvN;refine fnN (QvQ) func117 rfl fun _ _=>?_
 with_reducible refine cv0 ?_
 refine⟨fun h=>absurd (show false=true from h) Bool.noConfusion,fun _=>⟨hL,fun _=>?_,fun h=>absurd (show true=false from h) Bool.noConfusion⟩⟩
 exact .pure rfl (Qk3 rfl)
theorem QvT:BCall prog 115 [QvC,.val (.int .i64 0)] [] (.val (.int .i64 0)) []:=by
 have hL:=QvY;unfold QvN at hL;unfold QvC at *;refine fnN (QvQ) func115 rfl fun _ _=>?_
 with_reducible refine cv0 ?_
 refine⟨hL,?_⟩;exact .pure rfl (Qk3 rfl)
theorem QvR:BCall prog 55 [.agg [QvC,.val (.int .i64 0),.val (.int .i64 0),.val (.int .i64 0),QvC]] [] (.val (.int .i64 0)) []:=by
 have hL:=QvT;unfold QvC at *;refine fnN (QvQ) func55 rfl fun _ _=>?_
 with_reducible refine cv0 ?_
 refine⟨hL,?_⟩;exact .pure rfl (Qk3 rfl)
theorem QvX:BCall prog 21 [.agg [QvC,.val (.int .i64 0),.val (.int .i64 0),.val (.int .i64 0),QvC]] [] (.tup [.agg [.val (.pointer none),.val (.int .i64 0),.val (.int .i64 0),.val (.int .i64 0),.val (.pointer none)],.val (.bool false)]) []:=by
 have hL:=QvR;unfold QvC at *;refine fnN (QvQ) func21 rfl fun _ _=>?_
 with_reducible refine cv0 ?_
 refine⟨hL,fun h=>absurd (show false=true from h) Bool.noConfusion,fun _=>⟨fun h=>absurd (show false=true from h) Bool.noConfusion,fun _=>?_⟩⟩
 exact .pure rfl (Qk3 rfl)
theorem QvS(TR TO N D:List AV)(tk tm rt0:Int)(nm:ByteArray) :
  BCall prog 16 [.agg [.val (.int .i64 tk),.val (.int .i64 tm),.slc 1 TR,.slc 1 TO,.ref [.slc 6 N],.val (.int .i64 rt0),.slc 3 D],.agg [QvC,.val (.int .i64 0),.val (.int .i64 0),.val (.int .i64 0),QvC],.val (.string nm)] [] (atR 0 [] none) []:=by
 have hL:=QvX;unfold QvC at *;refine fnO false (QvQ) (fun id=>match id with|7=> .of [0,1,2,3,7,4,5,6]|17=> QvM|_=>.nil) func16 rfl fun _ _=>?_
 with_reducible refine cv0 ?_
 refine⟨hL,fun _=>?_,fun h=>absurd (show true=false from h) Bool.noConfusion⟩
 trace_state
 exact .pure rfl (Qk3 rfl)
