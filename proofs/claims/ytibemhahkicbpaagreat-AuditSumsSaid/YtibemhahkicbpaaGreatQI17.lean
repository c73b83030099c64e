/-
  Parts of the proof, joined: TgS. Conditions: as each theorem says.
-/
import Derived.Test.YtibemhahkicbpaaGreatQI16
import Derived.Test.YtibemhahkicbpaaGreatQI10
set_option maxRecDepth 100000
set_option maxHeartbeats 8000000
namespace Go.Proofs.YtibemhahkicbpaaGreat
open Go.RowKit Go.Lib Tryz
theorem Qgx (l:List Int):0≤Q4x l∧Q4x l≤l.length:=by
 unfold Q4x
 split
 ·cases h:(l.drop 1).findIdx? (· == l.getD 0 0) with
  |none=>simp
  |some k =>
   have:=(List.findIdx?_eq_some_iff_getElem.1 h).1
   simp at this
   simp only;omega
 ·omega
theorem Q3g (l:List Int)(first:Bool)(h:l≠[]):1≤(Qr l first).2∧(Qr l first).2≤l.length:=by
 have hp:0<l.length:=List.length_pos_iff.2 h
 unfold Qr
 split
 ·rename_i h1
  have:=Q2I l 0 _ (by omega) h1.2
  simp only[List.length_cons,List.length_nil] at this
  simp only;omega
 ·split
  ·simp only;omega
  ·split
   ·rename_i h1
    have:Q4I Q3u l 0≤l.length:=by
     rw[Q4I,if_neg (by omega)]
     have:=(List.takeWhile_sublist Q3u (l:=l.drop (0:Int).toNat)).length_le
     simpa using this
    simp only;omega
   ·split
    ·rename_i h1
     have:Q10 l 0≤l.length:=by
      unfold Q10
      split
      ·omega
      ·split
       ·have:=(List.takeWhile_sublist Q15 (l:=l.drop 0)).length_le
        simpa using this
       ·omega
     simp only;omega
    ·split
     ·simp only;omega
     ·split
      ·have:=Qgx l
       simp only;omega
      ·split<;>(simp only;omega)
def Qt (at_:Int)(first:Bool)(r:List Int):List TPart :=
 if h:r=[] then [] else ⟨(Qr r first).1,at_,at_+(Qr r first).2⟩::Qt (at_+(Qr r first).2) false (r.drop (Qr r first).2.toNat)
termination_by r.length
decreasing_by
 have:=Q3g r first h
 simp only[List.length_drop];omega
def Q12 (l:List Int)(from_ to:Int):List TPart:=Qt from_ true ((l.take to.toNat).drop from_.toNat)
def pkA (xs:List AV)(b:Bool):Int:=(Qr (xs.map Qg) b).1
def pnA (xs:List AV)(b:Bool):Int:=(Qr (xs.map Qg) b).2
theorem Q3G (l:List Int):(Q1 l).map Qg=l:=by
 induction l with
 |nil=>rfl
 |cons x r ih=>rw[Q1,List.map_cons,List.map_cons];rw[Q1] at ih;rw[ih];rfl
def QfB (pk pn:List AV→Bool→Int):Nat→List AV→List Ob→Option (AV×List Ob):=fun f args _=>match f,args with
 |144,[.slc 1 xs,.val (.bool b)]=>some (.tup [.val (.int .i64 (pk xs b)),.val (.int .i64 (pn xs b))],[])
 |_,_=>none
theorem QaW (l:List Int)(hl:l.length≤1000000000)(from_ to:Int)(h0:0≤from_)(h1:from_≤to)(h2:to≤l.length) :
  BCall prog 100 [.slc 1 (Q1 l),.val (.int .i64 from_),.val (.int .i64 to)] [] (.slc 3 (Qf (Q12 l from_ to))) []:=by
 obtain⟨n,hn⟩:=QX l
 have h2n:to≤n:=by rw[hn.eq];exact h2
 have hnb:n≤1000000000:=by rw[hn.eq];omega
 clear h2
 refine fnN (cs:=QfB pkA pnA) func100 rfl (by kernel_rfl) ?_
 intro w0 g0
 generalize hp:std=p,hpk:pkA=pk,hpn:pnA=pn,hrs:Q1 l=rs
 generalize hT:Q8 p tys (QfB pk pn) _ _ _ _=T
 cbv at hT
 subst hT
 simp only[Tree.ok,Q4,S0]
 subst hp hpk hpn hrs
 have en:=hn.eq
 have hrl:=Q13 l
 have hrn:(((Q1 l).length:Nat):Int)=n:=by omega
 repeat' first
  |(with_reducible refine And.intro (fun hx=>absurd hx (by first|(try simp[std,S1,hrn,h0,h1,h2n])<;>omega|omega)) (fun _=>?_))
  |(with_reducible refine And.intro (fun _=>?_) (fun hx=>absurd hx (by first|(try simp[std,S1,hrn,h0,h1,h2n])<;>omega|omega)))
  |(with_reducible refine And.intro (by first|(try simp[std,S1,hrn,h0,h1,h2n])<;>omega|omega) ?_)
  |(with_reducible refine And.intro ?_ ?_)
  |(with_reducible intro hb)
 refine Q1P (cs:=QfB pkA pnA) (by kernel_rfl) (X:=List TPart×Int) (fun x=>⟨[(0,.slc 1 (Q1 l)),(1,.val (.int .i64 from_)),(2,.val (.int .i64 to)),(7,.row 0 0),(8,.val (.int .i64 x.2))],[.row 113 3 false 0 (Qf x.1)]⟩) (fun x=>from_≤x.2∧x.2≤to∧x.1++Qt x.2 (decide (x.2=from_)) ((l.take to.toNat).drop x.2.toNat)=Q12 l from_ to∧x.1.length≤x.2.toNat) (fun x=>(to-x.2).toNat) ([],from_) ?_ ?_ ?_
 ·exact⟨by omega,h1,by simp[Q12],by simp⟩
 ·exact⟨[none],_,rfl,by simp[Qh,lk,Qf]⟩
 ·rintro⟨out,k⟩ ⟨hJ0,hJ1,hJ2,hJ3⟩
  simp only at hJ0 hJ1 hJ2 hJ3
  have hol:=Q6a out
  by_cases hk:k<to
  ·obtain⟨r,hr⟩:=exq ((l.take to.toNat).drop k.toNat)
   have hrlen:r.length=to.toNat-k.toNat:=by rw[hr,List.length_drop,List.length_take];omega
   have hrne:r≠[]:=by intro h;rw[h] at hrlen;simp at hrlen;omega
   have hcut:std.cut (Q1 l) k to=Q1 r:=by
    show ((Q1 l).drop k.toNat).take (to-k).toNat=_
    rw[hr,Q1,Q1,List.map_drop,List.map_take,List.drop_take]
    congr 1;omega
   obtain⟨first,hf⟩:=exq (decide (k=from_))
   have heq:std.eqI k from_=first:=by
    rw[hf]
    show (k == from_)=decide (k=from_)
    by_cases h:k=from_<;>simp[h]
   have hpn:=Q3g r first hrne
   have hb:=QiF r hrne (by omega) first
   obtain⟨K,hK⟩:=exq ((Qr r first).1)
   obtain⟨N,hN⟩:=exq ((Qr r first).2)
   have hpk:pkA (std.cut (Q1 l) k to) (std.eqI k from_)=K:=by rw[hcut,heq,pkA,Q3G,hK]
   have hpnn:pnA (std.cut (Q1 l) k to) (std.eqI k from_)=N:=by rw[hcut,heq,pnA,Q3G,hN]
   rw[←hK,←hN] at hb
   have hb:BCall prog 144 [.slc 1 (std.cut (Q1 l) k to),.val (.bool (std.eqI k from_))] [] (.tup [.val (.int .i64 (pkA (std.cut (Q1 l) k to) (std.eqI k from_))),.val (.int .i64 (pnA (std.cut (Q1 l) k to) (std.eqI k from_)))]) []:=by
    rw[hpk,hpnn,hcut,heq];exact hb
   have hG:out++[⟨K,k,k+N⟩]++Qt (k+N) (decide (k+N=from_)) ((l.take to.toNat).drop (k+N).toNat)=Q12 l from_ to:=by
    have e1:decide (k+N=from_)=false:=by simp;omega
    have e2:(l.take to.toNat).drop (k+N).toNat=r.drop N.toNat:=by rw[hr,List.drop_drop];congr 1;omega
    have e3:Qt k first r=⟨K,k,k+N⟩::Qt (k+N) false (r.drop N.toNat):=by
     conv=>lhs;rw[Qt]
     rw[dif_neg hrne,←hK,←hN]
    rw[e1,e2,←hJ2,←hf,←hr,e3];simp
   have hN1:1≤N:=by rw[hN];exact hpn.1
   have hN2:k+N≤to:=by rw[hN];omega
   clear hpn hf en
   generalize hp:std=p,hpk:pkA=pk,hpn:pnA=pn,hrs:Q1 l=rs,ho:Qf out=o
   generalize hT:Q8 p tys (QfB pk pn) _ _ _ _=T
   cbv at hT
   subst hT
   simp only[Tree.ok,Q4,S0]
   subst hp hpk hpn hrs ho
   have en:=hn.eq
   have hadd:std.add k (pnA (std.cut (Q1 l) k to) (std.eqI k from_))=k+N:=by rw[hpnn];rfl
   have hin:std.inR .i64 (std.add k (pnA (std.cut (Q1 l) k to) (std.eqI k from_))):=by
    rw[hadd];exact (Qjz _).2 (by omega)
   refine⟨fun _=>⟨?_,hb,hin,?_,hin,(out++[⟨K,k,k+N⟩],k+N),⟨by simp only;omega,hN2,hG,by simp only[List.length_append,List.length_singleton];omega⟩,by simp only;omega,[some 0],_,rfl,?_⟩,fun h=>?_⟩
   ·simp only[std,hrl];omega
   ·simp only[std,hol,List.length_singleton];omega
   ·refine⟨rfl,rfl,rfl,rfl,?_,?_,trivial⟩
    ·show AV.val (.int .i64 (std.add k (pnA (std.cut (Q1 l) k to) (std.eqI k from_))))=_
     rw[hadd]
    ·show AV.slc 0 (std.app (Qf out) [.agg [.val (.int .i64 (pkA (std.cut (Q1 l) k to) (std.eqI k from_))),.val (.int .i64 k),.val (.int .i64 (std.add k (pnA (std.cut (Q1 l) k to) (std.eqI k from_))))]])=_
     rw[hadd,hpk,Qdu,Q8y];rfl
   ·simp[std] at h;omega
  ·have hG:out=Q12 l from_ to:=by
    have:(l.take to.toNat).drop k.toNat=[]:=List.drop_eq_nil_of_le (by rw[List.length_take];omega)
    rw[←hJ2,this,Qt,dif_pos rfl,List.append_nil]
   clear en
   generalize hp:std=p,hpk:pkA=pk,hpn:pnA=pn,hrs:Q1 l=rs,ho:Qf out=o
   generalize hT:Q8 p tys (QfB pk pn) _ _ _ _=T
   cbv at hT
   subst hT
   simp only[Tree.ok,Q4,S0]
   subst hp hpk hpn hrs ho
   repeat' first
    |(with_reducible refine And.intro (fun hx=>absurd hx (by first|(try simp[std,S1,hk])<;>omega|omega)) (fun _=>?_))
    |(with_reducible refine And.intro (fun _=>?_) (fun hx=>absurd hx (by first|(try simp[std,S1,hk])<;>omega|omega)))
    |(with_reducible refine And.intro (by first|(try simp[std,S1,hk])<;>omega|omega) ?_)
    |(with_reducible refine And.intro ?_ ?_)
    |(with_reducible intro hb)
   rw[if_pos trivial]
   generalize hp:std=p,hpk:pkA=pk,hpn:pnA=pn,hrs:Q1 l=rs,ho:Qf out=o
   generalize hT:Q8 p tys (QfB pk pn) _ _ _ _=T
   cbv at hT
   subst hT
   simp only[Tree.ok,Q4,S0]
   subst hp hpk hpn hrs ho
   exact .pure rfl (.inl (by rw[hG]))
end Go.Proofs.YtibemhahkicbpaaGreat
