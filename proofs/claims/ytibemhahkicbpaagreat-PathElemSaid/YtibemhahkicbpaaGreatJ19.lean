/- Lemmas, conditions told -/
import Derived.Test.YtibemhahkicbpaaGreatJ16
set_option maxRecDepth 99999
set_option maxHeartbeats 0
set_option linter.unusedSimpArgs false
set_option linter.unusedVariables false
namespace Go.Proofs.YtibemhahkicbpaaGreat
open Go.RowKit Go.Lib
section
open Tryz
theorem Qlj(l:List Int):0<=Q1E l/\Q1E l<=l.length:=by
 unfold Q1E;split
 ·cases h:(l.drop 1).findIdx? (· == l.getD 0 0)with
  |none=>simp
  |some k =>
   have:=(List.findIdx?_eq_some_iff_getElem.1 h).1
   simp at this;simp only;omega
 ·omega
theorem Q3n(l:List Int)(first:Bool)(h:l≠[]):1<=(Qt l first).2/\(Qt l first).2<=l.length:=by
 have hp:0<l.length:=List.length_pos_iff.2 h;unfold Qt;split
 ·rename_i h1
  have:=Q17 l 0 _ (by omega) h1.2
  simp only[List.length_cons,List.length_nil]at this;simp only;omega
 ·split
  ·simp only;omega
  ·split
   ·rename_i h1
    have:Q2X Qd l 0<=l.length:=by
     rw[Q2X,if_neg (by omega)]
     have:=(List.takeWhile_sublist Qd (l:=l.drop (0:Int).toNat)).length_le
     simpa using this
    simp only;omega
   ·split
    ·rename_i h1
     have:Qj l 0<=l.length:=by
      unfold Qj;split
      ·omega
      ·split
       ·have:=(List.takeWhile_sublist Qq (l:=l.drop 0)).length_le
        simpa using this
       ·omega
     simp only;omega
    ·split
     ·simp only;omega
     ·split
      ·have:=Qlj l
       simp only;omega
      ·split<;>(simp only;omega)
def QB(at_:Int)(first:Bool)(r:List Int):List TPart :=
 if h:r=[]then []else⟨(Qt r first).1,at_,at_+(Qt r first).2⟩::QB (at_+(Qt r first).2) false (r.drop (Qt r first).2.toNat)
termination_by r.length
decreasing_by
 have:=Q3n r first h
 simp only[List.length_drop];omega
def QS(l:List Int)(from_ to:Int):List TPart:=QB from_ true ((l.take to.toNat).drop from_.toNat)
def pkA(xs:List AV)(b:Bool):Int:=(Qt (xs.map intOf) b).1
def pnA(xs:List AV)(b:Bool):Int:=(Qt (xs.map intOf) b).2
theorem Q44(l:List Int):(Q0 l).map intOf=l:=by
 induction l with
 |nil=>rfl
 |cons x r ih=>rw[Q0,List.map_cons,List.map_cons];rw[Q0]at ih;rw[ih];rfl
def QhP(pk pn:List AV->Bool->Int):Nat->List AV->List Ob->Option (AV×List Ob):=fun f args _=>match f,args with
 |144,[.slc 1 xs,.val (.bool b)]=>some (.tup [.val (.int .i64 (pk xs b)),.val (.int .i64 (pn xs b))],[])
 |_,_=>none
theorem QcI(l:List Int)(hl:l.length<=1000000000)(from_ to:Int)(h0:0<=from_)(h1:from_<=to)(h2:to<=l.length) :
  BCall prog 100 [.slc 1 (Q0 l),.val (.int .i64 from_),.val (.int .i64 to)] [] (.slc 3 (Q8 (QS l from_ to))) []:=by
 obtain⟨n,hn⟩:=QE l;have pP:to<=n:=by rw[hn.eq];exact h2
 have vy:n<=1000000000:=by rw[hn.eq];omega
 clear h2;refine fnN (QhP pkA pnA) func100 rfl fun _ _=>?_
 with_reducible refine cv3 pkA pnA (Q0 l) ?_
 have en:=hn.eq;have ql:=Qx l;have kW:(((Q0 l).length:Nat):Int)=n:=by omega
 with_reducible repeat' first|refine aU (zA kW <| zA h0 <| zA h1 pP) ?_|refine zA ?_ ?_|intro hb
 refine Q1h (QhP pkA pnA) (List TPart×Int) (fun x=>⟨[(0,.slc 1 (Q0 l)),(1,.val (.int .i64 from_)),(2,.val (.int .i64 to)),(7,.row 0 0),(8,.val (.int .i64 x.2))],[.row 113 3 false 0 (Q8 x.1)]⟩) (fun x=>from_<=x.2/\x.2<=to/\x.1++QB x.2 (decide (x.2=from_)) ((l.take to.toNat).drop x.2.toNat)=QS l from_ to/\x.1.length<=x.2.toNat) (fun x=>(to-x.2).toNat) ([],from_) ?_ ?_ ?_
 ·exact⟨by omega,h1,by simp[QS],by simp⟩
 ·exact⟨[none],_,rfl,by simp[Qe,lk,Q8]⟩
 ·rintro⟨out,k⟩ ⟨js,qE,j9,j6⟩
  simp only at js qE j9 j6
  have jR:=Q1d out;by_cases hk:k<to
  ·obtain⟨r,hr⟩:=exq ((l.take to.toNat).drop k.toNat)
   have kh:r.length=to.toNat-k.toNat:=by rw[hr,List.length_drop,List.length_take];omega
   have xl:r≠[]:=by intro h;rw[h]at kh;simp at kh;omega
   have jS:std.cut (Q0 l) k to=Q0 r:=by
    show((Q0 l).drop k.toNat).take (to-k).toNat=_
    rw[hr,Q0,Q0,List.map_drop,List.map_take,List.drop_take];congr 1;omega
   obtain⟨first,hf⟩:=exq (decide (k=from_))
   have j7:std.eqI k from_=first:=by
    rw[hf];show(k == from_)=decide (k=from_)
    by_cases h:k=from_<;>simp[h]
   have hpn:=Q3n r first xl
   have hb:=Qn3 r xl (by omega) first
   obtain⟨K,hK⟩:=exq ((Qt r first).1)
   obtain⟨N,hN⟩:=exq ((Qt r first).2)
   have gQ:pkA (std.cut (Q0 l) k to) (std.eqI k from_)=K:=by rw[jS,j7,pkA,Q44,hK]
   have nF:pnA (std.cut (Q0 l) k to) (std.eqI k from_)=N:=by rw[jS,j7,pnA,Q44,hN]
   rw[<-hK,<-hN]at hb
   have hb:BCall prog 144 [.slc 1 (std.cut (Q0 l) k to),.val (.bool (std.eqI k from_))] [] (.tup [.val (.int .i64 (pkA (std.cut (Q0 l) k to) (std.eqI k from_))),.val (.int .i64 (pnA (std.cut (Q0 l) k to) (std.eqI k from_)))]) []:=by
    rw[gQ,nF,jS,j7];exact hb
   have hG:out++[⟨K,k,k+N⟩]++QB (k+N) (decide (k+N=from_)) ((l.take to.toNat).drop (k+N).toNat)=QS l from_ to:=by
    have e1:decide (k+N=from_)=false:=by simp;omega
    have e2:(l.take to.toNat).drop (k+N).toNat=r.drop N.toNat:=by rw[hr,List.drop_drop];congr 1;omega
    have e3:QB k first r=⟨K,k,k+N⟩::QB (k+N) false (r.drop N.toNat):=by
     conv=>lhs;rw[QB]
     rw[dif_neg xl,<-hK,<-hN]
    rw[e1,e2,<-j9,<-hf,<-hr,e3];simp
   have hN1:1<=N:=by rw[hN];exact hpn.1
   have kD:k+N<=to:=by rw[hN];omega
   clear hpn hf en;with_reducible refine cv4 pkA pnA (Q0 l) (Q8 out) ?_
   have en:=hn.eq;have zq:std.add k (pnA (std.cut (Q0 l) k to) (std.eqI k from_))=k+N:=by rw[nF];rfl
   have jK:std.inR .i64 (std.add k (pnA (std.cut (Q0 l) k to) (std.eqI k from_))):=by
    rw[zq];exact(Qhr _).2 (by omega)
   refine⟨fun _=>⟨?_,hb,jK,?_,jK,(out++[⟨K,k,k+N⟩],k+N),⟨by simp only;omega,kD,hG,by simp only[List.length_append,List.length_singleton];omega⟩,by simp only;omega,[some 0],_,rfl,?_⟩,fun h=>?_⟩
   ·simp only[std,ql];omega
   ·simp only[std,jR,List.length_singleton];omega
   ·refine⟨rfl,rfl,rfl,rfl,?_,?_,trivial⟩
    ·show AV.val (.int .i64 (std.add k (pnA (std.cut (Q0 l) k to) (std.eqI k from_))))=_
     rw[zq]
    ·show AV.slc 0 (std.app (Q8 out) [.agg [.val (.int .i64 (pkA (std.cut (Q0 l) k to) (std.eqI k from_))),.val (.int .i64 k),.val (.int .i64 (std.add k (pnA (std.cut (Q0 l) k to) (std.eqI k from_))))]])=_
     rw[zq,gQ,QaN,Q7O];rfl
   ·simp[std]at h;omega
  ·have hG:out=QS l from_ to:=by
    have:(l.take to.toNat).drop k.toNat=[]:=List.drop_eq_nil_of_le (by rw[List.length_take];omega)
    rw[<-j9,this,QB,dif_pos rfl,List.append_nil]
   clear en;with_reducible refine cv4 pkA pnA (Q0 l) (Q8 out) ?_
   with_reducible repeat' first|refine aU hk ?_|refine zA ?_ ?_|intro hb
   rw[if_pos trivial];with_reducible refine cv4 pkA pnA (Q0 l) (Q8 out) ?_
   exact .pure rfl (.inl (by rw[hG]))
