/- Lemmas, conditions told -/
import Derived.Test.YtibemhahkicbpaaGreatL19
set_option maxRecDepth 99999
set_option maxHeartbeats 0
set_option linter.unusedSimpArgs false
set_option linter.unusedVariables false
namespace Go.Proofs.YtibemhahkicbpaaGreat
open Go.RowKit Go.Lib
section
open Tryz
def Qvz(its:List Itm):List Int:=0::its.map fun x=>x.off+x.n
theorem QvB(its:List Itm):(Qvz its).length=its.length+1:=by simp[Qvz]
def QvA(ru:List Int)(nm:ByteArray)(a:TAttr):Bool:=std.eqS (stS ru a.name.from_ a.name.to) nm
def atO(al:List TAttr)(ru:List Int)(nm:ByteArray):Option TAttr:=al.find? (QvA ru nm)
def gI_(l:List Int)(i:Int):Int:=l[i.toNat]?.getD 0
def atR(f:Int)(off:List Int):Option TAttr->AV
 |none=>.tup [.agg [.val (.int .i64 0),.val (.int .i64 0)],.agg [.val (.int .i64 0),.val (.int .i64 0)],.val (.bool false)]
 |some a=>.tup [.agg [.val (.int .i64 (f+gI_ off a.all.from_)),.val (.int .i64 (f+gI_ off a.all.to))],.agg [.val (.int .i64 (f+gI_ off (a.value.from_+1))),.val (.int .i64 (f+gI_ off (a.value.to-1)))],.val (.bool true)]
def Qw1(TG TX IT ra:List AV)(f e rk rf rt:Int)(rr re:Bool)(st:Int->Int->ByteArray):Nat->List AV->List Ob->Option (AV×List Ob):=fun g args _=>match g,args with
 |21,[.agg _]=>some (.tup [.agg TG,.val (.bool true)],[])
 |23,[.agg _]=>some (.agg [.val (.int .i64 f),.val (.int .i64 e)],[])
 |24,[.agg _]=>some (.slc 1 TX,[])
 |48,[.val (.int .i64 _),.slc 1 _]=>some (.slc 3 IT,[])
 |49,[.slc 1 _,.val (.int .i64 _),.val (.int .i64 _)]=>some (.agg [.val (.int .i64 rk),.val (.int .i64 rf),.val (.int .i64 rt),.slc 9 ra,.val (.bool rr),.val (.bool re)],[])
 |50,[.agg _,.val (.int .i64 f),.val (.int .i64 u)]=>some (.val (.string (st f u)),[])
 |_,_=>none
def QvM:OT:=.then [0,1,2,3,4,5,6,7,8,9,10,11,12,13,14,15,16,17,18,19,20,26,27,28,29] (.fork (.then [21,22,23] (.fork (.then [24,25] (.fork (.then [30,31,32] (.fork (.of [33,34,35,36,37,38]) (.of [36,33,34,35,37,38]))) (.of [36,30,31,32,33,34,35,37,38]))) (.fork (.then [30,31,32] (.fork (.then [24,25] (.fork (.of [33,34,35,36,37,38]) (.of [36,33,34,35,37,38]))) (.fork (.then [33,34] (.fork (.of [24,25,35,36,37,38]) (.of [36,24,25,35,37,38]))) (.of [36,24,25,33,34,35,37,38])))) (.of [36,24,25,30,31,32,33,34,35,37,38])))) (.fork (.then [30,31,32] (.fork (.then [21,22,23] (.fork (.then [24,25] (.fork (.of [33,34,35,36,37,38]) (.of [36,33,34,35,37,38]))) (.fork (.then [33,34] (.fork (.of [24,25,35,36,37,38]) (.of [36,24,25,35,37,38]))) (.of [36,24,25,33,34,35,37,38])))) (.fork (.then [33,34] (.fork (.then [21,22,23] (.fork (.of [24,25,35,36,37,38]) (.of [36,24,25,35,37,38]))) (.of [36,21,22,23,24,25,35,37,38]))) (.of [36,21,22,23,24,25,33,34,35,37,38])))) (.of [36,21,22,23,24,25,30,31,32,33,34,35,37,38])))
theorem Qw2(TR TO N D TX:List AV)(tk tm rt0 cn cf ck gn gf gk f e rk rf rt:Int)(U V:AV)(rr re:Bool)(nm:ByteArray)(its:List Itm)(al:List TAttr)(ru:List Int)(zb:ru=its.map Itm.r)
  (j1:its.length<=1000000) (nN:∀x∈Qvz its,0<=x/\x<=1000000) (xo:∀x∈its,0<=x.off/\x.off<=1000000/\0<=x.n/\x.n<=1000000) (hf:0<=f/\f<=1000000) (jX:al.length<=1000000) (jM:∀a∈al,AttIn ru a)
  (cT:BCall prog 21 [.agg [.opt (.ref [.slc 6 N]),.val (.int .i64 cn),.val (.int .i64 cf),.val (.int .i64 ck),.opt U]] [] (.tup [.agg [.opt (.ref [.slc 6 N]),.val (.int .i64 gn),.val (.int .i64 gf),.val (.int .i64 gk),.opt V],.val (.bool true)]) [])
  (cSp:BCall prog 23 [.agg [.opt (.ref [.slc 6 N]),.val (.int .i64 gn),.val (.int .i64 gf),.val (.int .i64 gk),.opt V]] [] (.agg [.val (.int .i64 f),.val (.int .i64 e)]) [])
  (cTx:BCall prog 24 [.agg [.opt (.ref [.slc 6 N]),.val (.int .i64 gn),.val (.int .i64 gf),.val (.int .i64 gk),.opt V]] [] (.slc 1 TX) [])
  (cPc:BCall prog 48 [.val (.int .i64 tk),.slc 1 TX] [] (.slc 3 (QP its)) [])
  (cRd:BCall prog 49 [.slc 1 (Q0 ru),.val (.int .i64 0),.val (.int .i64 ru.length)] [] (.agg [.val (.int .i64 rk),.val (.int .i64 rf),.val (.int .i64 rt),.slc 9 (Qh al),.val (.bool rr),.val (.bool re)]) [])
  (cSt:∀a∈al,BCall prog 50 [.agg [.val (.int .i64 0),.val (.int .i64 0),.slc 1 (Q0 ru),.val (.slice none 0 0)],.val (.int .i64 a.name.from_),.val (.int .i64 a.name.to)] [] (.val (.string (stS ru a.name.from_ a.name.to))) []) :
  BCall prog 16 [.agg [.val (.int .i64 tk),.val (.int .i64 tm),.slc 1 TR,.slc 1 TO,.ref [.slc 6 N],.val (.int .i64 rt0),.slc 3 D],.agg [.opt (.ref [.slc 6 N]),.val (.int .i64 cn),.val (.int .i64 cf),.val (.int .i64 ck),.opt U],.val (.string nm)] [] (atR f (Qvz its) (atO al ru nm)) []:=by
 obtain⟨n,hn⟩:=QE its;have nR:std.len (QP its)=n:=by show((QP its).length:Int)=n;rw[Q3m,hn.eq]
 have js:0<=n/\n<=1000000:=by rw[hn.eq];omega
 obtain⟨m,hm⟩:=QE al;have hAl:std.len (Qh al)=m:=by show((Qh al).length:Int)=m;rw[Q3v,hm.eq]
 have qA:0<=m/\m<=1000000:=by rw[hm.eq];omega
 refine fnO false (Qw1 ([.opt (.ref [.slc 6 N]),.val (.int .i64 gn),.val (.int .i64 gf),.val (.int .i64 gk),.opt V]) TX (QP its) (Qh al) f e rk rf rt rr re (stS ru)) (fun id=>match id with|7=> .of [0,1,2,3,7,4,5,6]|17=> QvM|_=>.nil) func16 rfl fun _ _=>?_
 with_reducible refine cv3 (QP its) (Qh al) (stS ru) ?_
 refine⟨cT,fun h=>absurd (show false=true from h) Bool.noConfusion,fun _=>⟨cSp,cTx,cPc,?_⟩⟩
 refine Quc (Qw1 ([.opt (.ref [.slc 6 N]),.val (.int .i64 gn),.val (.int .i64 gf),.val (.int .i64 gk),.opt V]) TX (QP its) (Qh al) f e rk rf rt rr re (stS ru)) (fun id=>match id with|7=> .of [0,1,2,3,7,4,5,6]|17=> QvM|_=>.nil) (Int) (fun i=>⟨[(2,.val (.string nm)),(6,.box 0 0),(7,.box 1 0),(11,.val (.int .i64 f)),(12,.row 2 0),(13,.row 3 0),(36,.slc 3 (QP its)),(37,.val (.int .i64 n)),(38,.val (.int .i64 i))],[.box [.val (.int .i64 0),.val (.int .i64 0)],.box [.val (.int .i64 0),.val (.int .i64 0)],.row 21 1 false 0 (Q0 ((its.take i.toNat).map Itm.r)),.row 3 1 false 0 (Q9 (Qvz (its.take i.toNat)))]⟩) (fun i=>0<=i/\i<=n) (fun i=>(n-i).toNat) 0 ?_ ?_ ?_
 ·exact⟨Int.le_refl 0,js.1⟩
 ·refine⟨[some 2,some 3,none,some 5],_,rfl,?_⟩
  exact eq1 nR
 ·rintro i ⟨jK,qi⟩
  have jK:0<=i:=jK;have qi:i<=n:=qi;obtain⟨RU,zx⟩:=exq (Q0 ((its.take i.toNat).map Itm.r));obtain⟨OF,zy⟩:=exq (Q9 (Qvz (its.take i.toNat)));have hRUl:RU.length<=1000000:=by rw[zx,Qx,List.length_map,List.length_take];omega
  have hOFl:OF.length<=1000001:=by rw[zy,Q2w,QvB,List.length_take];omega
  rw[<-zx,<-zy];with_reducible refine cv3 (QP its) (Qh al) (stS ru) ?_
  refine⟨fun h=>?_,fun h=>?_⟩
  ·have gp:i<n:=of_decide_eq_true h
   have hk:i.toNat<its.length:=by have:=hn.eq;omega
   obtain⟨x,hx⟩:=exq (its[i.toNat])
   have jV:std.at_ (QP its) i=x.av:=by
    show(QP its).getD i.toNat .dead=_
    rw[List.getD_eq_getElem?_getD,QP,List.getElem?_map,List.getElem?_eq_getElem hk,hx];rfl
   have hxo:=xo x (by rw[hx];exact List.getElem_mem hk)
   have xX:(std.all [std.hasI .i32 (std.nth (std.cel (std.at_ (QP its) i)) 0),std.hasI .i64 (std.nth (std.cel (std.at_ (QP its) i)) 1),std.hasI .i64 (std.nth (std.cel (std.at_ (QP its) i)) 2)]).q:=by rw[jV];exact⟨rfl,rfl,rfl,trivial⟩
   have e0:std.int (std.nth (std.cel (std.at_ (QP its) i)) 0)=x.r:=by rw[jV];rfl
   have e1:std.int (std.nth (std.cel (std.at_ (QP its) i)) 1)=x.off:=by rw[jV];rfl
   have e2:std.int (std.nth (std.cel (std.at_ (QP its) i)) 2)=x.n:=by rw[jV];rfl
   have vh:its.take (i+1).toNat=its.take i.toNat++[x]:=by
    rw[show(i+1).toNat=i.toNat+1 by omega,List.take_add_one,List.getElem?_eq_getElem hk,hx];rfl
   have f0:std.app RU [.val (.int .i32 (std.int (std.nth (std.cel (std.at_ (QP its) i)) 0)))]=Q0 ((its.take (i+1).toNat).map Itm.r):=by
    rw[e0,vh,List.map_append,Q95,zx];rfl
   have f1:std.app OF [.val (.int .i64 (std.add (std.int (std.nth (std.cel (std.at_ (QP its) i)) 1)) (std.int (std.nth (std.cel (std.at_ (QP its) i)) 2))))]=Q9 (Qvz (its.take (i+1).toNat)):=by
    rw[e1,e2,vh,Qvz,List.map_append,<-List.cons_append,Q4T,zy];rfl
   have q1:(std.inR .i64 (std.add (std.int (std.nth (std.cel (std.at_ (QP its) i)) 1)) (std.int (std.nth (std.cel (std.at_ (QP its) i)) 2)))).q:=by
    rw[e1,e2];show std.inR .i64 (x.off+x.n);rw[Qhr];omega
   refine⟨⟨jK,by show i<std.len (QP its);rw[nR];exact gp⟩,xX,?_,q1,?_,?_,i+1,⟨by omega,by omega⟩,by omega,[some 0,some 1,some 2,some 3],_,rfl,?_⟩
   ·show RU.length+1<=1000000000
    omega
   ·show OF.length+1<=1000000000
    omega
   ·show std.inR .i64 (i+1)
    rw[Qhr];omega
   ·exact eq2 f0 f1
  ·have gp:i=n:=by
    have h:¬i<n:=of_decide_eq_false h;omega
   have vh:its.take i.toNat=its:=List.take_of_length_le (by have:=hn.eq;omega)
   rw[vh,<-zb]at zx;rw[vh]at zy
   have hRl:std.len RU=(ru.length:Int):=by
    rw[zx];show((Q0 ru).length:Int)=_
    rw[Qx]
   have cRd2:BCall prog 49 [.slc 1 RU,.val (.int .i64 0),.val (.int .i64 (std.len RU))] [] (.agg [.val (.int .i64 rk),.val (.int .i64 rf),.val (.int .i64 rt),.slc 9 (Qh al),.val (.bool rr),.val (.bool re)]) []:=by rw[hRl,zx];exact cRd
   rw[if_pos trivial];with_reducible refine cv3 (QP its) (Qh al) (stS ru) ?_
   refine⟨cRd2,?_⟩;as_aux_lemma =>
   refine Quc (Qw1 ([.opt (.ref [.slc 6 N]),.val (.int .i64 gn),.val (.int .i64 gf),.val (.int .i64 gk),.opt V]) TX (QP its) (Qh al) f e rk rf rt rr re (stS ru)) (fun id=>match id with|7=> .of [0,1,2,3,7,4,5,6]|17=> QvM|_=>.nil) (Int) (fun j=>⟨[(2,.val (.string nm)),(6,.box 0 0),(7,.box 1 0),(11,.val (.int .i64 f)),(12,.row 2 0),(13,.row 3 0),(60,.slc 9 (Qh al)),(61,.val (.int .i64 m)),(62,.val (.int .i64 j))],[.box [.val (.int .i64 0),.val (.int .i64 0)],.box [.val (.int .i64 0),.val (.int .i64 0)],.row 21 1 true 0 RU,.row 3 1 false 0 OF]⟩) (fun j=>0<=j/\j<=m/\atO (al.drop j.toNat) ru nm=atO al ru nm) (fun j=>(m-j).toNat) 0 ?_ ?_ ?_
   ·exact⟨Int.le_refl 0,qA.1,rfl⟩
   ·refine⟨[some 0,some 1,some 2,some 3],_,rfl,?_⟩
    exact eq1 hAl
   ·rintro j ⟨yH,yB,yd⟩
    have yH:0<=j:=yH;have yB:j<=m:=yB;have yd:atO (al.drop j.toNat) ru nm=atO al ru nm:=yd;with_reducible refine cv3 (QP its) (Qh al) (stS ru) ?_
    refine⟨fun h=>?_,fun h=>?_⟩
    ·have zg:j<m:=of_decide_eq_true h
     have hk:j.toNat<al.length:=by have:=hm.eq;omega
     obtain⟨x,hx⟩:=exq (al[j.toNat])
     have jV:std.at_ (Qh al) j=x.av:=by
      show(Qh al).getD j.toNat .dead=_
      rw[List.getD_eq_getElem?_getD,Qh,List.getElem?_map,List.getElem?_eq_getElem hk,hx];rfl
     have hxm:x∈al:=by rw[hx];exact List.getElem_mem hk
     have hI:=jM x hxm;have gE:al.drop j.toNat=x::al.drop (j.toNat+1):=by rw[hx];exact List.drop_eq_getElem_cons hk
     rw[gE,atO,List.find?_cons]at yd;have hX:∀k:Nat,std.nth (std.cel (std.at_ (Qh al) j)) k=x.cs.getD k .dead:=fun k=>by rw[jV];rfl
     have hq:∀k:Nat,k<9->std.nth (std.cel (std.at_ (Qh al) j)) k=.val (.int .i64 (std.int (std.nth (std.cel (std.at_ (Qh al) j)) k))):=fun k hk=>by
      rw[hX];rcases k with _|_|_|_|_|_|_|_|_|k<;>first|rfl|omega
     have c1:(std.int (std.nth (std.cel (std.at_ (Qh al) j)) 1))=x.name.from_:=by rw[hX];rfl
     have c2:(std.int (std.nth (std.cel (std.at_ (Qh al) j)) 2))=x.name.to:=by rw[hX];rfl
     have c4:(std.int (std.nth (std.cel (std.at_ (Qh al) j)) 4))=x.value.from_:=by rw[hX];rfl
     have c5:(std.int (std.nth (std.cel (std.at_ (Qh al) j)) 5))=x.value.to:=by rw[hX];rfl
     have c7:(std.int (std.nth (std.cel (std.at_ (Qh al) j)) 7))=x.all.from_:=by rw[hX];rfl
     have c8:(std.int (std.nth (std.cel (std.at_ (Qh al) j)) 8))=x.all.to:=by rw[hX];rfl
     have vB:(ru.length:Int)=its.length:=by rw[zb,List.length_map]
     have h1:=hI.n0;have h2:=hI.n1;have h3:=hI.n2;have h4:=hI.v0;have h5:=hI.v1;have h6:=hI.v2;have h7:=hI.a0;have h8:=hI.a1;have h9:=hI.a2
     have hOl:std.len OF=(its.length:Int)+1:=by
      rw[zy];show((Q9 (Qvz its)).length:Int)=_
      rw[Q2w,QvB];omega
     have P:∀e:Int,0<=e->e<=its.length->(std.inb e (std.len OF)).q/\(std.all [std.hasI .i64 (std.nth (std.drp (std.cel (std.at_ OF e)) 0) 0)]).q/\(std.inR .i64 (std.add f (std.int (std.nth (std.drp (std.cel (std.at_ OF e)) 0) 0)))).q/\std.add f (std.int (std.nth (std.drp (std.cel (std.at_ OF e)) 0) 0))=f+gI_ (Qvz its) e:=fun e e0 e1=>by
      have hk:e.toNat<(Qvz its).length:=by rw[QvB];omega
      have hO:(std.nth (std.drp (std.cel (std.at_ OF e)) 0) 0)=.val (.int .i64 (gI_ (Qvz its) e)):=by
       rw[zy];show std.nth (std.drp (std.cel ((Q9 (Qvz its)).getD e.toNat .dead)) 0) 0=_;rw[List.getD_eq_getElem?_getD,Q9,List.getElem?_map,gI_,List.getElem?_eq_getElem hk];rfl
      have hg:0<=gI_ (Qvz its) e/\gI_ (Qvz its) e<=1000000:=by
       rw[gI_,List.getElem?_eq_getElem hk];exact nN _ (List.getElem_mem hk)
      refine⟨⟨e0,by rw[hOl];omega⟩,?_,?_,?_⟩
      ·rw[hO];exact⟨rfl,trivial⟩
      ·rw[hO]
       show std.inR .i64 (f+gI_ (Qvz its) e);rw[Qhr];omega
      ·rw[hO];rfl
     have F3:BCall prog 50 [.agg [.val (.int .i64 0),.val (.int .i64 0),.slc 1 RU,.val (.slice none 0 0)],.val (.int .i64 (std.int (std.nth (std.cel (std.at_ (Qh al) j)) 1))),.val (.int .i64 (std.int (std.nth (std.cel (std.at_ (Qh al) j)) 2)))] [] (.val (.string (stS ru (std.int (std.nth (std.cel (std.at_ (Qh al) j)) 1)) (std.int (std.nth (std.cel (std.at_ (Qh al) j)) 2))))) []:=by
      rw[c1,c2,zx];exact cSt x hxm
     refine⟨⟨yH,by show j<std.len (Qh al);rw[hAl];exact zg⟩,⟨hq 0 (by decide),hq 1 (by decide),hq 2 (by decide),hq 3 (by decide),hq 4 (by decide),hq 5 (by decide),hq 6 (by decide),hq 7 (by decide),hq 8 (by decide),trivial⟩,F3,fun hd=>?_,fun hd=>?_⟩
     ·have hd:QvA ru nm x=true:=by
       rw[QvA,<-c1,<-c2];exact hd
      rw[hd]at yd;rw[<-yd];clear hq hX;obtain⟨G7,H7,R7,E7⟩:=P (std.int (std.nth (std.cel (std.at_ (Qh al) j)) 7)) (by rw[c7];omega) (by rw[c7];omega)
      obtain⟨G8,H8,R8,E8⟩:=P (std.int (std.nth (std.cel (std.at_ (Qh al) j)) 8)) (by rw[c8];omega) (by rw[c8];omega)
      obtain⟨G4,H4,R4,E4⟩:=P (std.add (std.int (std.nth (std.cel (std.at_ (Qh al) j)) 4)) 1) (by rw[c4];show 0<=x.value.from_+1;omega) (by rw[c4];show x.value.from_+1<=_;omega)
      obtain⟨G5,H5,R5,E5⟩:=P (std.sub (std.int (std.nth (std.cel (std.at_ (Qh al) j)) 5)) 1) (by rw[c5];show 0<=x.value.to-1;omega) (by rw[c5];show x.value.to-1<=_;omega)
      have Q4:(std.inR .i64 (std.add (std.int (std.nth (std.cel (std.at_ (Qh al) j)) 4)) 1)).q:=by
       rw[c4];show std.inR .i64 (x.value.from_+1);rw[Qhr];omega
      have Q5:(std.inR .i64 (std.sub (std.int (std.nth (std.cel (std.at_ (Qh al) j)) 5)) 1)).q:=by
       rw[c5];show std.inR .i64 (x.value.to-1);rw[Qhr];omega
      have E7:std.add f (std.int (std.nth (std.drp (std.cel (std.at_ OF (std.int (std.nth (std.cel (std.at_ (Qh al) j)) 7)))) 0) 0))=f+gI_ (Qvz its) x.all.from_:=by rw[E7,c7]
      have E8:std.add f (std.int (std.nth (std.drp (std.cel (std.at_ OF (std.int (std.nth (std.cel (std.at_ (Qh al) j)) 8)))) 0) 0))=f+gI_ (Qvz its) x.all.to:=by rw[E8,c8]
      have E4:std.add f (std.int (std.nth (std.drp (std.cel (std.at_ OF (std.add (std.int (std.nth (std.cel (std.at_ (Qh al) j)) 4)) 1))) 0) 0))=f+gI_ (Qvz its) (x.value.from_+1):=by rw[E4,c4];rfl
      have E5:std.add f (std.int (std.nth (std.drp (std.cel (std.at_ OF (std.sub (std.int (std.nth (std.cel (std.at_ (Qh al) j)) 5)) 1))) 0) 0))=f+gI_ (Qvz its) (x.value.to-1):=by rw[E5,c5];rfl
      clear P F3;repeat' first|exact G7|exact H7|exact R7|exact G8|exact H8|exact R8|exact G4|exact H4|exact R4|exact G5|exact H5|exact R5|exact Q4|exact Q5|with_reducible refine zA ?_ ?_
      all_goals
       with_reducible refine cv3 (QP its) (Qh al) (stS ru) ?_
       refine⟨[],atR f (Qvz its) (some x),_,rfl,rfl,Nat.le_refl _,rfl,?_,Qk3 rfl⟩;exact eq4 E7 E8 E4 E5
     ·have hd:QvA ru nm x=false:=by
       rw[QvA,<-c1,<-c2];exact hd
      rw[hd]at yd;refine⟨?_,j+1,⟨by omega,by omega,?_⟩,by omega,[some 0,some 1,some 2,some 3],_,rfl,?_⟩
      ·show std.inR .i64 (j+1)
       rw[Qhr];omega
      ·show atO (al.drop (j+1).toNat) ru nm=_
       rw[show(j+1).toNat=j.toNat+1 by omega];exact yd
      ·exact eq1 hAl
    ·have zg:j=m:=by
      have h:¬j<m:=of_decide_eq_false h;omega
     have gE:al.drop j.toNat=[]:=List.drop_eq_nil_of_le (by have:=hm.eq;omega)
     rw[gE]at yd;rw[<-yd];rw[if_pos trivial];with_reducible refine cv3 (QP its) (Qh al) (stS ru) ?_
     refine⟨[],atR f (Qvz its) none,_,rfl,rfl,Nat.le_refl _,rfl,?_,Qk3 rfl⟩;exact eq0
