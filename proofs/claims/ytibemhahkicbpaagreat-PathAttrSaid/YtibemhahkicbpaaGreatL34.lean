/- Lemmas, conditions told -/
import Derived.Test.YtibemhahkicbpaaGreatL22
import Derived.Test.YtibemhahkicbpaaGreatL31
import Derived.Test.YtibemhahkicbpaaGreatL32
set_option maxRecDepth 99999
set_option maxHeartbeats 0
set_option linter.unusedSimpArgs false
set_option linter.unusedVariables false
namespace Go.Proofs.YtibemhahkicbpaaGreat
open Int(le_refl)
open Go.RowKit Go.Lib
section
open Tryz
def raR:Option TAttr->AV
 |none=>.tup [.agg [.val (.int .i64 0),.val (.int .i64 0),.val (.int .i64 0)],.agg [.val (.int .i64 0),.val (.int .i64 0),.val (.int .i64 0)],.val (.bool false)]
 |some a=>.tup [.agg [.val (.int .i64 a.all.kind),.val (.int .i64 a.all.from_),.val (.int .i64 a.all.to)],.agg [.val (.int .i64 a.value.kind),.val (.int .i64 a.value.from_),.val (.int .i64 a.value.to)],.val (.bool true)]
def Q4O(ra:List AV)(rk rf rt:Int)(rr re:Bool):Nat->List AV->List Ob->Option (AV×List Ob):=fun g _ _=>match g with
 |53=>some (.agg [.val (.int .i64 rk),.val (.int .i64 rf),.val (.int .i64 rt),.slc 9 ra,.val (.bool rr),.val (.bool re)],[])
 |_=>none
theorem QvP(l:List Int)(a c:Nat):(((Q0 l).drop a).take c).map intOf=(l.drop a).take c:=by
 rw[List.map_take,List.map_drop];congr 2
 unfold Q0;rw[List.map_map];exact List.map_id _
theorem QvG(l:List Int)(hl:l.length<=1000000)(hu:Un l)(nm:ByteArray) :
  BCall prog 19 [.slc 1 (Q0 l),.val (.string nm)] [] (raR (atO (QD l 0 l.length).attrs l nm)) []:=by
 have cR:=Qd0 l hl hu 0 l.length (le_refl _) (by omega) (le_refl _)
 have qB:=QiN l (f:=0) (u:=l.length) (le_refl _) (by omega) (le_refl _)
 unfold Q8H at cR;obtain⟨n,hn⟩:=QE l;have jE:std.len (Q0 l)=n:=by show((Q0 l).length:Int)=n;rw[Qx,hn.eq]
 rw[<-hn.eq]at cR qB ⊢
 have jX:(QD l 0 n).attrs.length<=1000002:=by
  have h1:=Q3S l 0 n;have h2:=Q45 l 0 n;omega
 generalize (QD l 0 n).name.kind=rk at cR;generalize (QD l 0 n).name.from_=rf at cR;generalize (QD l 0 n).name.to=rt at cR;generalize (QD l 0 n).attrs=al at cR qB jX ⊢;generalize (QD l 0 n).right=rr at cR;generalize (QD l 0 n).empty=re at cR;obtain⟨m,hm⟩:=QE al;have gK:std.len (Qh al)=m:=by show((Qh al).length:Int)=m;rw[Q3v,hm.eq]
 have qA:0<=m/\m<=1000002:=by rw[hm.eq];omega
 refine fnO false (Q4O (Qh al) rk rf rt rr re) (fun id=>match id with|5=> .then [0,1,2] (.fork (.of [3,4,5,6]) (.of [4,3,5,6]))|_=>.nil) func19 rfl fun _ _=>?_
 with_reducible refine cv2 (Qh al) (Q0 l) ?_
 refine⟨by rw[<-jE]at cR;exact cR,?_⟩
 refine Quc (Q4O (Qh al) rk rf rt rr re) (fun id=>match id with|5=> .then [0,1,2] (.fork (.of [3,4,5,6]) (.of [4,3,5,6]))|_=>.nil) (Int) (fun j=>⟨[(0,.slc 1 (Q0 l)),(1,.val (.string nm)),(4,.box 0 0),(5,.box 1 0),(13,.slc 9 (Qh al)),(14,.val (.int .i64 m)),(15,.val (.int .i64 j))],[.box [.val (.int .i64 0),.val (.int .i64 0),.val (.int .i64 0)],.box [.val (.int .i64 0),.val (.int .i64 0),.val (.int .i64 0)]]⟩) (fun j=>0<=j/\j<=m/\atO (al.drop j.toNat) l nm=atO al l nm) (fun j=>(m-j).toNat) 0 ?_ ?_ ?_
 ·exact⟨le_refl 0,qA.1,rfl⟩
 ·refine⟨[some 0,some 1],_,rfl,?_⟩
  exact eq1 gK
 ·rintro j ⟨yH,yB,yd⟩
  have yH:0<=j:=yH;have yB:j<=m:=yB;have yd:atO (al.drop j.toNat) l nm=atO al l nm:=yd;with_reducible refine cv2 (Qh al) (Q0 l) ?_
  refine⟨fun h=>?_,fun h=>?_⟩
  ·have zg:j<m:=of_decide_eq_true h
   have hk:j.toNat<al.length:=by have:=hm.eq;omega
   obtain⟨x,hx⟩:=exq (al[j.toNat])
   have jV:std.at_ (Qh al) j=x.av:=by
    show(Qh al).getD j.toNat .dead=_
    rw[List.getD_eq_getElem?_getD,Qh,List.getElem?_map,List.getElem?_eq_getElem hk,hx];rfl
   have hxm:x∈al:=by rw[hx];exact List.getElem_mem hk
   obtain⟨y0,y1,y2,ys⟩:=qB x hxm;have gE:al.drop j.toNat=x::al.drop (j.toNat+1):=by rw[hx];exact List.drop_eq_getElem_cons hk
   rw[gE,atO,List.find?_cons]at yd;have hX:∀k:Nat,std.nth (std.cel (std.at_ (Qh al) j)) k=x.cs.getD k .dead:=fun k=>by rw[jV];rfl
   have hq:∀k:Nat,k<9->std.nth (std.cel (std.at_ (Qh al) j)) k=.val (.int .i64 (std.int (std.nth (std.cel (std.at_ (Qh al) j)) k))):=fun k hk=>by
    rw[hX];rcases k with _|_|_|_|_|_|_|_|_|k<;>first|rfl|omega
   have c1:(std.int (std.nth (std.cel (std.at_ (Qh al) j)) 1))=x.name.from_:=by rw[hX];rfl
   have c2:(std.int (std.nth (std.cel (std.at_ (Qh al) j)) 2))=x.name.to:=by rw[hX];rfl
   have E:∀k:Nat,k<9->std.nth (std.cel (std.at_ (Qh al) j)) k=x.cs.getD k .dead:=fun k _=>hX k
   have c3:(std.int (std.nth (std.cel (std.at_ (Qh al) j)) 3))=x.value.kind:=by rw[hX];rfl
   have c4:(std.int (std.nth (std.cel (std.at_ (Qh al) j)) 4))=x.value.from_:=by rw[hX];rfl
   have c5:(std.int (std.nth (std.cel (std.at_ (Qh al) j)) 5))=x.value.to:=by rw[hX];rfl
   have c6:(std.int (std.nth (std.cel (std.at_ (Qh al) j)) 6))=x.all.kind:=by rw[hX];rfl
   have c7:(std.int (std.nth (std.cel (std.at_ (Qh al) j)) 7))=x.all.from_:=by rw[hX];rfl
   have c8:(std.int (std.nth (std.cel (std.at_ (Qh al) j)) 8))=x.all.to:=by rw[hX];rfl
   have hqs:std.strR (std.cut (Q0 l) (std.int (std.nth (std.cel (std.at_ (Qh al) j)) 1)) (std.int (std.nth (std.cel (std.at_ (Qh al) j)) 2)))=stS l x.name.from_ x.name.to:=by
    rw[c1,c2];show runesBytes ((((Q0 l).drop x.name.from_.toNat).take (x.name.to-x.name.from_).toNat).map intOf)=_;rw[QvP,ys];rfl
   have hR:(std.isR (std.cut (Q0 l) (std.int (std.nth (std.cel (std.at_ (Qh al) j)) 1)) (std.int (std.nth (std.cel (std.at_ (Qh al) j)) 2)))).q:=fun z hz=>by
    have jy:z∈Q0 l:=List.mem_of_mem_drop (List.mem_of_mem_take hz);obtain⟨r,_,rfl⟩:=List.mem_map.1 jy;exact⟨r,rfl⟩
   clear E ys;refine⟨⟨yH,by show j<std.len (Qh al);rw[gK];exact zg⟩,⟨hq 0 (by decide),hq 1 (by decide),hq 2 (by decide),hq 3 (by decide),hq 4 (by decide),hq 5 (by decide),hq 6 (by decide),hq 7 (by decide),hq 8 (by decide),trivial⟩,?_,hR,fun hd=>?_,fun hd=>?_⟩
   ·show 0<=(std.int (std.nth (std.cel (std.at_ (Qh al) j)) 1))/\(std.int (std.nth (std.cel (std.at_ (Qh al) j)) 1))<=(std.int (std.nth (std.cel (std.at_ (Qh al) j)) 2))/\(std.int (std.nth (std.cel (std.at_ (Qh al) j)) 2))<=std.len (Q0 l)
    rw[c1,c2,jE,hn.eq];omega
   ·have hd:QvA l nm x=true:=by
     rw[QvA,<-hqs];exact hd
    rw[hd]at yd;rw[<-yd];clear hq hX;refine zA ?_ ?_
    all_goals
     with_reducible refine cv2 (Qh al) (Q0 l) ?_
     refine⟨[],raR (some x),_,rfl,rfl,Nat.le_refl _,rfl,?_,Qk3 rfl⟩;exact eq6 c3 c4 c5 c6 c7 c8
   ·have hd:QvA l nm x=false:=by
     rw[QvA,<-hqs];exact hd
    rw[hd]at yd;refine⟨?_,j+1,⟨by omega,by omega,?_⟩,by omega,[some 0,some 1],_,rfl,?_⟩
    ·show std.inR .i64 (j+1)
     rw[Qhr];omega
    ·show atO (al.drop (j+1).toNat) l nm=_
     rw[show(j+1).toNat=j.toNat+1 by omega];exact yd
    ·exact eq1 gK
  ·have zg:j=m:=by
    have h:¬j<m:=of_decide_eq_false h;omega
   have gE:al.drop j.toNat=[]:=List.drop_eq_nil_of_le (by have:=hm.eq;omega)
   rw[gE]at yd;rw[<-yd];rw[if_pos trivial];with_reducible refine cv2 (Qh al) (Q0 l) ?_
   refine⟨[],raR none,_,rfl,rfl,Nat.le_refl _,rfl,?_,Qk3 rfl⟩;exact eq0
