/-
  Parts of the proof, joined: TgS. Conditions: as each theorem says.
-/
import Derived.Test.YthbjpdijafccjaaGreatQE08
import Derived.Test.YthbjpdijafccjaaGreatQE05
set_option maxRecDepth 100000
set_option maxHeartbeats 8000000
namespace Go.Proofs.YthbjpdijafccjaaGreat
open Go.RowKit Go.Lib Tryz
theorem QhG (l:List Int):0≤Q1v l∧Q1v l≤l.length:=by
 unfold Q1v
 split
 ·cases h:(l.drop 1).findIdx? (· == l.getD 0 0) with
  |none=>simp
  |some k =>
   have:=(List.findIdx?_eq_some_iff_getElem.1 h).1
   simp at this
   simp only;omega
 ·omega
theorem Q39 (l:List Int)(first:Bool)(h:l≠[]):1≤(Qp l first).2∧(Qp l first).2≤l.length:=by
 have hp:0<l.length:=List.length_pos_iff.2 h
 unfold Qp
 split
 ·rename_i h1
  have:=QX l 0 _ (by omega) h1.2
  simp only[List.length_cons,List.length_nil] at this
  simp only;omega
 ·split
  ·simp only;omega
  ·split
   ·rename_i h1
    have:Q2Q Qc l 0≤l.length:=by
     rw[Q2Q,if_neg (by omega)]
     have:=(List.takeWhile_sublist Qc (l:=l.drop (0:Int).toNat)).length_le
     simpa using this
    simp only;omega
   ·split
    ·rename_i h1
     have:Qg l 0≤l.length:=by
      unfold Qg
      split
      ·omega
      ·split
       ·have:=(List.takeWhile_sublist Qs (l:=l.drop 0)).length_le
        simpa using this
       ·omega
     simp only;omega
    ·split
     ·simp only;omega
     ·split
      ·have:=QhG l
       simp only;omega
      ·split<;>(simp only;omega)
def QD (at_:Int)(first:Bool)(r:List Int):List TPart :=
 if h:r=[] then [] else ⟨(Qp r first).1,at_,at_+(Qp r first).2⟩::QD (at_+(Qp r first).2) false (r.drop (Qp r first).2.toNat)
termination_by r.length
decreasing_by
 have:=Q39 r first h
 simp only[List.length_drop];omega
def QU (l:List Int)(from_ to:Int):List TPart:=QD from_ true ((l.take to.toNat).drop from_.toNat)
def pkA (xs:List AV)(b:Bool):Int:=(Qp (xs.map intOf) b).1
def pnA (xs:List AV)(b:Bool):Int:=(Qp (xs.map intOf) b).2
theorem Q3O (l:List Int):(Q0 l).map intOf=l:=by
 induction l with
 |nil=>rfl
 |cons x r ih=>rw[Q0,List.map_cons,List.map_cons];rw[Q0] at ih;rw[ih];rfl
def Qgb (pk pn:List AV→Bool→Int):Nat→List AV→List Ob→Option (AV×List Ob):=fun f args _=>match f,args with
 |105,[.slc 1 xs,.val (.bool b)]=>some (.tup [.val (.int .i64 (pk xs b)),.val (.int .i64 (pn xs b))],[])
 |_,_=>none
theorem Qc6 (l:List Int)(hl:l.length≤1000000000)(from_ to:Int)(h0:0≤from_)(h1:from_≤to)(h2:to≤l.length) :
  BCall prog 77 [.slc 1 (Q0 l),.val (.int .i64 from_),.val (.int .i64 to)] [] (.slc 3 (Q9 (QU l from_ to))) []:=by
 obtain⟨n,hn⟩:=Qy l
 have h2n:to≤n:=by rw[hn.eq];exact h2
 have hnb:n≤1000000000:=by rw[hn.eq];omega
 clear h2
 refine fnN (cs:=Qgb pkA pnA) func77 rfl (by kernel_rfl) ?_
 intro w0 g0
 generalize hp:std=p,hpk:pkA=pk,hpn:pnA=pn,hrs:Q0 l=rs
 generalize hT:Q5 p tys (Qgb pk pn) _ _ _ _=T
 cbv at hT
 subst hT
 simp only[Tree.ok,Q1,S0]
 subst hp hpk hpn hrs
 have en:=hn.eq
 have hrl:=Qi l
 have hrn:(((Q0 l).length:Nat):Int)=n:=by omega
 repeat' first
  |(with_reducible refine And.intro (fun hx=>absurd hx (by first|(try simp[std,S1,hrn,h0,h1,h2n])<;>omega|omega)) (fun _=>?_))
  |(with_reducible refine And.intro (fun _=>?_) (fun hx=>absurd hx (by first|(try simp[std,S1,hrn,h0,h1,h2n])<;>omega|omega)))
  |(with_reducible refine And.intro (by first|(try simp[std,S1,hrn,h0,h1,h2n])<;>omega|omega) ?_)
  |(with_reducible refine And.intro ?_ ?_)
  |(with_reducible intro hb)
 refine Q1r (cs:=Qgb pkA pnA) (by kernel_rfl) (X:=List TPart×Int) (fun x=>⟨[(0,.slc 1 (Q0 l)),(1,.val (.int .i64 from_)),(2,.val (.int .i64 to)),(7,.row 0 0),(8,.val (.int .i64 x.2))],[.row 126 3 false 0 (Q9 x.1)]⟩) (fun x=>from_≤x.2∧x.2≤to∧x.1++QD x.2 (decide (x.2=from_)) ((l.take to.toNat).drop x.2.toNat)=QU l from_ to∧x.1.length≤x.2.toNat) (fun x=>(to-x.2).toNat) ([],from_) ?_ ?_ ?_
 ·exact⟨by omega,h1,by simp[QU],by simp⟩
 ·exact⟨[none],_,rfl,by simp[Qe,lk,Q9]⟩
 ·rintro⟨out,k⟩ ⟨hJ0,hJ1,hJ2,hJ3⟩
  simp only at hJ0 hJ1 hJ2 hJ3
  have hol:=Q16 out
  by_cases hk:k<to
  ·obtain⟨r,hr⟩:=exq ((l.take to.toNat).drop k.toNat)
   have hrlen:r.length=to.toNat-k.toNat:=by rw[hr,List.length_drop,List.length_take];omega
   have hrne:r≠[]:=by intro h;rw[h] at hrlen;simp at hrlen;omega
   have hcut:std.cut (Q0 l) k to=Q0 r:=by
    show ((Q0 l).drop k.toNat).take (to-k).toNat=_
    rw[hr,Q0,Q0,List.map_drop,List.map_take,List.drop_take]
    congr 1;omega
   obtain⟨first,hf⟩:=exq (decide (k=from_))
   have heq:std.eqI k from_=first:=by
    rw[hf]
    show (k == from_)=decide (k=from_)
    by_cases h:k=from_<;>simp[h]
   have hpn:=Q39 r first hrne
   have hb:=QkX r hrne (by omega) first
   obtain⟨K,hK⟩:=exq ((Qp r first).1)
   obtain⟨N,hN⟩:=exq ((Qp r first).2)
   have hpk:pkA (std.cut (Q0 l) k to) (std.eqI k from_)=K:=by rw[hcut,heq,pkA,Q3O,hK]
   have hpnn:pnA (std.cut (Q0 l) k to) (std.eqI k from_)=N:=by rw[hcut,heq,pnA,Q3O,hN]
   rw[←hK,←hN] at hb
   have hb:BCall prog 105 [.slc 1 (std.cut (Q0 l) k to),.val (.bool (std.eqI k from_))] [] (.tup [.val (.int .i64 (pkA (std.cut (Q0 l) k to) (std.eqI k from_))),.val (.int .i64 (pnA (std.cut (Q0 l) k to) (std.eqI k from_)))]) []:=by
    rw[hpk,hpnn,hcut,heq];exact hb
   have hG:out++[⟨K,k,k+N⟩]++QD (k+N) (decide (k+N=from_)) ((l.take to.toNat).drop (k+N).toNat)=QU l from_ to:=by
    have e1:decide (k+N=from_)=false:=by simp;omega
    have e2:(l.take to.toNat).drop (k+N).toNat=r.drop N.toNat:=by rw[hr,List.drop_drop];congr 1;omega
    have e3:QD k first r=⟨K,k,k+N⟩::QD (k+N) false (r.drop N.toNat):=by
     conv=>lhs;rw[QD]
     rw[dif_neg hrne,←hK,←hN]
    rw[e1,e2,←hJ2,←hf,←hr,e3];simp
   have hN1:1≤N:=by rw[hN];exact hpn.1
   have hN2:k+N≤to:=by rw[hN];omega
   clear hpn hf en
   generalize hp:std=p,hpk:pkA=pk,hpn:pnA=pn,hrs:Q0 l=rs,ho:Q9 out=o
   generalize hT:Q5 p tys (Qgb pk pn) _ _ _ _=T
   cbv at hT
   subst hT
   simp only[Tree.ok,Q1,S0]
   subst hp hpk hpn hrs ho
   have en:=hn.eq
   have hadd:std.add k (pnA (std.cut (Q0 l) k to) (std.eqI k from_))=k+N:=by rw[hpnn];rfl
   have hin:std.inR .i64 (std.add k (pnA (std.cut (Q0 l) k to) (std.eqI k from_))):=by
    rw[hadd];exact (QeO _).2 (by omega)
   refine⟨fun _=>⟨?_,hb,hin,?_,hin,(out++[⟨K,k,k+N⟩],k+N),⟨by simp only;omega,hN2,hG,by simp only[List.length_append,List.length_singleton];omega⟩,by simp only;omega,[some 0],_,rfl,?_⟩,fun h=>?_⟩
   ·simp only[std,hrl];omega
   ·simp only[std,hol,List.length_singleton];omega
   ·refine⟨rfl,rfl,rfl,rfl,?_,?_,trivial⟩
    ·show AV.val (.int .i64 (std.add k (pnA (std.cut (Q0 l) k to) (std.eqI k from_))))=_
     rw[hadd]
    ·show AV.slc 0 (std.app (Q9 out) [.agg [.val (.int .i64 (pkA (std.cut (Q0 l) k to) (std.eqI k from_))),.val (.int .i64 k),.val (.int .i64 (std.add k (pnA (std.cut (Q0 l) k to) (std.eqI k from_))))]])=_
     rw[hadd,hpk,Q9w,Q7c];rfl
   ·simp[std] at h;omega
  ·have hG:out=QU l from_ to:=by
    have:(l.take to.toNat).drop k.toNat=[]:=List.drop_eq_nil_of_le (by rw[List.length_take];omega)
    rw[←hJ2,this,QD,dif_pos rfl,List.append_nil]
   clear en
   generalize hp:std=p,hpk:pkA=pk,hpn:pnA=pn,hrs:Q0 l=rs,ho:Q9 out=o
   generalize hT:Q5 p tys (Qgb pk pn) _ _ _ _=T
   cbv at hT
   subst hT
   simp only[Tree.ok,Q1,S0]
   subst hp hpk hpn hrs ho
   repeat' first
    |(with_reducible refine And.intro (fun hx=>absurd hx (by first|(try simp[std,S1,hk])<;>omega|omega)) (fun _=>?_))
    |(with_reducible refine And.intro (fun _=>?_) (fun hx=>absurd hx (by first|(try simp[std,S1,hk])<;>omega|omega)))
    |(with_reducible refine And.intro (by first|(try simp[std,S1,hk])<;>omega|omega) ?_)
    |(with_reducible refine And.intro ?_ ?_)
    |(with_reducible intro hb)
   rw[if_pos trivial]
   generalize hp:std=p,hpk:pkA=pk,hpn:pnA=pn,hrs:Q0 l=rs,ho:Q9 out=o
   generalize hT:Q5 p tys (Qgb pk pn) _ _ _ _=T
   cbv at hT
   subst hT
   simp only[Tree.ok,Q1,S0]
   subst hp hpk hpn hrs ho
   exact .pure rfl (.inl (by rw[hG]))
end Go.Proofs.YthbjpdijafccjaaGreat
