/-
  Parts of the proof, joined: Wm Wn Wo Wp. Conditions: as each theorem says.
-/
import Derived.Test.YthbjpdijafccjaaGreatQE30
import Derived.Test.YthbjpdijafccjaaGreatQE31
import Derived.Test.YthbjpdijafccjaaGreatQE32
import Derived.Test.YthbjpdijafccjaaGreatQE33
import Derived.Test.YthbjpdijafccjaaGreatQE34
import Derived.Test.YthbjpdijafccjaaGreatQE35
import Derived.Test.YthbjpdijafccjaaGreatQE36
import Derived.Test.YthbjpdijafccjaaGreatQE37
import Derived.Test.YthbjpdijafccjaaGreatQE15
import Derived.Test.YthbjpdijafccjaaGreatQE12
set_option maxRecDepth 100000
set_option maxHeartbeats 8000000
namespace Go.Proofs.YthbjpdijafccjaaGreat
open Go.RowKit Go.Lib Tryz
theorem QjB {L:List Int}{k:Nat}(h:Qn (L[k]?.getD 0)=false):Qg L k=0:=by
 unfold Qg
 cases e:L[k]? with
 |none=>rfl
 |some c =>
  rw[e] at h
  have h:Qn c=false:=h
  show (if Qn c=true then _ else 0)=0
  rw[if_neg (by rw[h];decide)]
theorem Qid (l:List Int)(hl:l.length≤1000000000)(hu:Un l)(f k to:Int)(h:Rng l k to):BCall prog 92 [.slc 1 (Q0 l),.val (.int .i64 f),.val (.int .i64 k),.val (.int .i64 to)] [] (Q1Q (QZ l f k to) k) []:=by
 have e0:=Q8Q (l:=l) h.h0 h.h1
 have hnl:∀ c:Int,l[k.toNat]?.getD 0=c→Qn c=false→Qg (l.take to.toNat) k.toNat=0:=fun c e hc=>QjB (by rw[e0,e];exact hc)
 by_cases h60:l[k.toNat]?.getD 0=60
 ·by_cases hkf:k=f
  ·cases hs:Q3 (l.take to.toNat) k.toNat [60,47] with
   |true=>exact Qaj l hl hu f k to h hkf h60 hs
   |false=>exact Qab l hl hu f k to h hkf h60 hs
  ·exact Qhp l hl hu f k to h (by rw[h60];rfl) (hnl 60 h60 (by decide)) (by rw[h60];decide) hkf h60
 ·cases hsp:Qc (l[k.toNat]?.getD 0) with
  |true=>exact QdD l hl hu f k to h h60 hsp
  |false =>
   rcases Nat.eq_zero_or_pos (Qg (l.take to.toNat) k.toNat) with hlead|hlead
   ·by_cases h61:l[k.toNat]?.getD 0=61
    ·exact QhH l hl hu f k to h h60 hsp hlead h61
    ·by_cases q34:l[k.toNat]?.getD 0=34
     ·by_cases hv:0<Q1v (QB l k to)
      ·exact QcH l hl hu f k to h h60 hsp hlead h61 q34 hv
      ·exact Qdg l hl hu f k to h h60 hsp hlead h61 q34 hv
     ·by_cases q39:l[k.toNat]?.getD 0=39
      ·by_cases hv:0<Q1v (QB l k to)
       ·exact QdJ l hl hu f k to h h60 hsp hlead h61 q39 hv
       ·exact Qci l hl hu f k to h h60 hsp hlead h61 q39 hv
      ·have hnq:¬ (l[k.toNat]?.getD 0=34∨l[k.toNat]?.getD 0=39):=fun e=>e.elim q34 q39
       by_cases h62:l[k.toNat]?.getD 0=62
       ·by_cases hk1:k+1=to
        ·exact QhX l hl hu f k to h h60 hsp hlead h61 hnq hk1 h62
        ·exact Qh8 l hl hu f k to h h60 hsp hlead h61 hnq hk1 h62
       ·by_cases h47:l[k.toNat]?.getD 0=47
        ·by_cases hk2:k+2=to
         ·by_cases h62b:l[(k+1).toNat]?.getD 0=62
          ·exact QhP l hl hu f k to h h60 hsp hlead h61 hnq hk2 h47 h62b
          ·exact Qga l hl hu f k to h h60 hsp hlead h61 hnq hk2 h47 h62b
         ·exact Qgw l hl hu f k to h h60 hsp hlead h61 hnq hk2 h47
        ·exact Qg2 l hl hu f k to h h60 hsp hlead h61 hnq h62 h47
   ·exact Qe0 l hl hu f k to h h60 hsp hlead
def Qh3 (kd nx:Int→Int):Nat→List AV→List Ob→Option (AV×List Ob):=fun f args _=>match f,args with
 |92,[.slc 1 _,.val (.int .i64 _),.val (.int .i64 k),.val (.int .i64 _)]=>some (.agg [.val (.int .i64 (kd k)),.val (.int .i64 k),.val (.int .i64 (nx k))],[])
 |_,_=>none
theorem Q6k (l:List Int)(hl:l.length≤1000000)(hu:Un l)(from_ to:Int)(h0:0≤from_)(h1:from_≤to)(h2:to≤l.length) :
  BCall prog 65 [.slc 1 (Q0 l),.val (.int .i64 from_),.val (.int .i64 to)] [] (.slc 3 (Q9 (QU l from_ to))) []:=by
 obtain⟨n,hn⟩:=Qy l
 have hxl:=Qi l
 have h2n:to≤n:=by rw[hn.eq];exact h2
 have hnb:n≤1000000:=by rw[hn.eq];omega
 obtain⟨kd,hkd⟩:=exq (fun k:Int=>(QZ l from_ k to).1:Int→Int)
 obtain⟨nx,hnx⟩:=exq (fun k:Int=>k+(QZ l from_ k to).2:Int→Int)
 have cP:∀ k:Int,0≤k→k<to→BCall prog 92 [.slc 1 (Q0 l),.val (.int .i64 from_),.val (.int .i64 k),.val (.int .i64 to)] [] (.agg [.val (.int .i64 (kd k)),.val (.int .i64 k),.val (.int .i64 (nx k))]) []:=fun k k0 k1=>by
  rw[hkd,hnx]
  exact Qid l (by omega) hu from_ k to ⟨k0,k1,h2⟩
 have hstep:∀ k:Int,from_≤k→k<to→k<nx k∧nx k≤to∧QD k (decide (k=from_)) (QB l k to)=⟨kd k,k,nx k⟩::QD (nx k) (decide (nx k=from_)) (QB l (nx k) to):=fun k k0 k1=>by
  have hr:Rng l k to:=⟨by omega,k1,h2⟩
  have hp:=Q39 (QB l k to) (decide (k=from_)) hr.ne
  have hlen:=hr.len
  have e3:=Q28 hr.ne k (decide (k=from_))
  obtain⟨K,hK⟩:=exq ((Qp (QB l k to) (decide (k=from_))).1)
  obtain⟨N,hN⟩:=exq ((Qp (QB l k to) (decide (k=from_))).2)
  rw[←hK,←hN] at e3
  rw[←hN] at hp
  have e1:nx k=k+N:=by rw[hnx,hN];rfl
  have e2:kd k=K:=by rw[hkd,hK];rfl
  have e4:decide (k+N=from_)=false:=decide_eq_false (by omega)
  have e5:(QB l k to).drop N.toNat=QB l (k+N) to:=by
   rw[QB,QB,List.drop_drop]
   congr 1
   omega
  rw[e1,e2,e3,e4,e5]
  exact⟨by omega,by omega,rfl⟩
 clear hkd hnx
 refine fnN (cs:=Qh3 kd nx) func65 rfl (by kernel_rfl) ?_
 intro w0 g0
 generalize hp:std=p,hrs:Q0 l=rs
 generalize hT:Q5 p tys (Qh3 kd nx) _ _ _ _=T
 cbv at hT
 subst hT
 simp only[Tree.ok,Q1,S0]
 subst hp hrs
 have en:=hn.eq
 have hrn:(((Q0 l).length:Nat):Int)=n:=by omega
 repeat' first
  |(with_reducible refine And.intro (fun hx=>absurd hx (by first|(try simp[std,S1,hrn,h0,h1,h2n])<;>omega|omega)) (fun _=>?_))
  |(with_reducible refine And.intro (fun _=>?_) (fun hx=>absurd hx (by first|(try simp[std,S1,hrn,h0,h1,h2n])<;>omega|omega)))
  |(with_reducible refine And.intro (by first|(try simp[std,S1,hrn,h0,h1,h2n])<;>omega|omega) ?_)
  |(with_reducible refine And.intro ?_ ?_)
  |(with_reducible intro hb)
 refine Q1r (cs:=Qh3 kd nx) (by kernel_rfl) (X:=List TPart×Int) (fun x=>⟨[(0,.slc 1 (Q0 l)),(1,.val (.int .i64 from_)),(2,.val (.int .i64 to)),(7,.row 0 0),(8,.val (.int .i64 x.2))],[.row 108 3 false 0 (Q9 x.1)]⟩) (fun x=>from_≤x.2∧x.2≤to∧x.1++QD x.2 (decide (x.2=from_)) (QB l x.2 to)=QU l from_ to∧(x.1.length:Int)≤x.2) (fun x=>(to-x.2).toNat) ([],from_) ?_ ?_ ?_
 ·exact⟨by omega,h1,by simp[QU,QB],h0⟩
 ·exact⟨[none],_,rfl,by simp[Qe,lk,Q9]⟩
 ·rintro⟨out,k⟩ ⟨hJ0,hJ1,hJ2,hJ3⟩
  simp only at hJ0 hJ1 hJ2 hJ3
  have hol:=Q16 out
  have hbd:out.length≤1000000:=by omega
  obtain⟨q,hq⟩:=Qy out
  have hJ4:q≤k:=by rw[hq.eq];exact hJ3
  by_cases hk:k<to
  ·obtain⟨s1,s2,s3⟩:=hstep k hJ0 hk
   have cPk:=cP k (by omega) hk
   have hG:out++[⟨kd k,k,nx k⟩]++QD (nx k) (decide (nx k=from_)) (QB l (nx k) to)=QU l from_ to:=by
    rw[←hJ2,s3];simp
   clear s3 en hrn
   generalize hp:std=p,hrs:Q0 l=rs,ho:Q9 out=o
   generalize hT:Q5 p tys (Qh3 kd nx) _ _ _ _=T
   cbv at hT
   subst hT
   simp only[Tree.ok,Q1,S0]
   subst hp hrs ho
   have eq:=hq.eq
   repeat' first
    |(with_reducible refine And.intro (fun hx=>absurd hx (by first|(try simp[std,S1,hol,hk,hJ0])<;>omega|omega)) (fun _=>?_))
    |(with_reducible refine And.intro (fun _=>?_) (fun hx=>absurd hx (by first|(try simp[std,S1,hol,hk,hJ0])<;>omega|omega)))
    |(with_reducible refine And.intro (by first|(try simp[std,S1,hol,hk,hJ0])<;>omega|omega) ?_)
    |(with_reducible refine And.intro ?_ ?_)
    |(with_reducible intro hb)
   all_goals exact⟨(out++[⟨kd k,k,nx k⟩],nx k),⟨by simp only;omega,s2,hG,by show ((out++[_]).length:Int)≤nx k;simp only[List.length_append,List.length_singleton];omega⟩,by simp only;omega,[some 0],_,rfl,by simp[Qe,lk,std,Q9w,Q7c]⟩
  ·have hG:out=QU l from_ to:=by
    have:QB l k to=[]:=List.drop_eq_nil_of_le (by rw[List.length_take];omega)
    rw[←hJ2,this,QD,dif_pos rfl,List.append_nil]
   clear en hrn
   generalize hp:std=p,hrs:Q0 l=rs,ho:Q9 out=o
   generalize hT:Q5 p tys (Qh3 kd nx) _ _ _ _=T
   cbv at hT
   subst hT
   simp only[Tree.ok,Q1,S0]
   subst hp hrs ho
   repeat' first
    |(with_reducible refine And.intro (fun hx=>absurd hx (by first|(try simp[std,S1,hk])<;>omega|omega)) (fun _=>?_))
    |(with_reducible refine And.intro (fun _=>?_) (fun hx=>absurd hx (by first|(try simp[std,S1,hk])<;>omega|omega)))
    |(with_reducible refine And.intro (by first|(try simp[std,S1,hk])<;>omega|omega) ?_)
    |(with_reducible refine And.intro ?_ ?_)
    |(with_reducible intro hb)
   all_goals
    rw[if_pos trivial]
    generalize hp:std=p,hrs:Q0 l=rs,ho:Q9 out=o
    generalize hT:Q5 p tys (Qh3 kd nx) _ _ _ _=T
    cbv at hT
    subst hT
    simp only[Tree.ok,Q1,S0]
    subst hp hrs ho
    exact .pure rfl (.inl (by rw[hG]))
def kdF (l:List TPart)(a:Int):Int:=(l[a.toNat]?.getD Ql).kind
def bkF (l:List TPart)(a:Int):Int:=if kdF l a=3 then a+1 else a
def nxF (l:List TPart)(a:Int):Int:=match Q1N l a with|some x=>x.2|none=>-1
theorem Q41 (l:List TPart)(a k:Int)(hk:k≠0):QM l a.toNat [k]=decide (kdF l a=k):=by
 rw[QM,kdF]
 cases e:l[a.toNat]? with
 |none =>
  rw[List.getElem?_eq_none_iff] at e
  rw[List.drop_of_length_le e]
  show false=decide ((0:Int)=k)
  rw[decide_eq_false (fun h=>hk h.symm)]
 |some x =>
  obtain⟨h1,h2⟩:=List.getElem?_eq_some_iff.1 e
  rw[List.drop_eq_getElem_cons h1,h2]
  show ([x.kind] == [k])=decide (x.kind=k)
  by_cases h:x.kind=k<;>simp[h]
theorem QeV (l:List TPart)(a:Int):Q3K l a 3=bkF l a:=by
 rw[Q3K,bkF,Q41 l a 3 (by decide)]
 simp only[decide_eq_true_eq]
theorem Q7M (l:List TPart)(a:Int):Q1N l a=if kdF l a=3∧kdF l (a+1)=2 then if kdF l (bkF l (a+2))=4 then if kdF l (bkF l (bkF l (a+2)+1))=5 then some (Q4z (l[(a+1).toNat]?.getD Ql) (l[a.toNat]?.getD Ql) (l[(bkF l (bkF l (a+2)+1)).toNat]?.getD Ql),bkF l (bkF l (a+2)+1)+1) else none else none else none:=by
 unfold Q1N
 simp only[Q41 l _ 3 (by decide),Q41 l _ 2 (by decide),Q41 l _ 4 (by decide),Q41 l _ 5 (by decide),QeV,decide_eq_true_eq,Q4z]
theorem Q8o {l:List TPart}{a k:Int}(h0:0≤a)(h:kdF l a=k)(hk:k≠0):a<l.length:=by
 by_cases h1:a<l.length
 ·exact h1
 ·rw[kdF,List.getElem?_eq_none (by omega)] at h
  exact absurd h.symm hk
theorem Q3r (l:List TPart)(hl:l.length≤1000000000)(a:Int)(h0:0≤a):BCall prog 66 [.slc 3 (Q9 l),.val (.int .i64 a)] [] (.val (.int .i64 (kdF l a))) []:=by
 obtain⟨n,hn⟩:=Qy l
 have hol:=Q16 l
 obtain⟨K,hK⟩:=exq (kdF l a)
 rw[←hK]
 have e1:a<n→(Q9 l)[a.toNat]?.getD .dead=(l[a.toNat]?.getD Ql).av:=fun h=>Q24 h0 (by have:=hn.eq;omega)
 have e2:¬ a<n→K=0:=fun h=>by
  rw[hK,kdF,List.getElem?_eq_none (by have:=hn.eq;omega)];rfl
 by_cases hlt:a<n
 ·have hat:=e1 hlt
  have hK2:(l[a.toNat]?.getD Ql).kind=K:=by rw[hK];rfl
  obtain⟨x,hx⟩:=exq (l[a.toNat]?.getD Ql)
  rw[←hx] at hat hK2
  rw[TPart.av] at hat
  clear e1 e2 hK hx
  refine fnN (cs:=cs0) func66 rfl (by kernel_rfl) ?_
  intro w0 g0
  generalize hp:std=p,hrs:Q9 l=rs
  generalize hT:Q5 p tys (cs0) _ _ _ _=T
  cbv at hT
  subst hT
  simp only[Tree.ok,Q1,S0]
  subst hp hrs
  have hxn:(((Q9 l).length:Nat):Int)=n:=by have:=hn.eq;omega
  repeat' first
   |(with_reducible refine And.intro (fun hx=>absurd hx (by first|(try simp[std,S1,hxn,hat,h0,hlt])<;>omega|omega)) (fun _=>?_))
   |(with_reducible refine And.intro (fun _=>?_) (fun hx=>absurd hx (by first|(try simp[std,S1,hxn,hat,h0,hlt])<;>omega|omega)))
   |(with_reducible refine And.intro (by first|(try simp[std,S1,hxn,hat,h0,hlt])<;>omega|omega) ?_)
   |(with_reducible refine And.intro ?_ ?_)
   |(with_reducible intro hb)
  all_goals exact .pure rfl (.inl (by simp[std,hat,AV.cells,intOf,hK2]))
 ·have hK2:=e2 hlt
  clear e1 e2 hK
  refine fnN (cs:=cs0) func66 rfl (by kernel_rfl) ?_
  intro w0 g0
  generalize hp:std=p,hrs:Q9 l=rs
  generalize hT:Q5 p tys (cs0) _ _ _ _=T
  cbv at hT
  subst hT
  simp only[Tree.ok,Q1,S0]
  subst hp hrs
  have hxn:(((Q9 l).length:Nat):Int)=n:=by have:=hn.eq;omega
  repeat' first
   |(with_reducible refine And.intro (fun hx=>absurd hx (by first|(try simp[std,S1,hxn,h0,hlt])<;>omega|omega)) (fun _=>?_))
   |(with_reducible refine And.intro (fun _=>?_) (fun hx=>absurd hx (by first|(try simp[std,S1,hxn,h0,hlt])<;>omega|omega)))
   |(with_reducible refine And.intro (by first|(try simp[std,S1,hxn,h0,hlt])<;>omega|omega) ?_)
   |(with_reducible refine And.intro ?_ ?_)
   |(with_reducible intro hb)
  all_goals exact .pure rfl (.inl (by rw[hK2]))
def Ql5 (K:Int→Int):Nat→List AV→List Ob→Option (AV×List Ob):=fun f args _=>match f,args with
 |66,[_,.val (.int .i64 a)]=>some (.val (.int .i64 (K a)),[])
 |_,_=>none
theorem Q43 (l:List TPart)(hl:l.length≤1000000000)(a:Int)(h0:0≤a)(h1:a≤1000000000):BCall prog 68 [.slc 3 (Q9 l),.val (.int .i64 a)] [] (.val (.int .i64 (bkF l a))) []:=by
 obtain⟨K,hK⟩:=exq (kdF l)
 have cK:=Q3r l hl a h0
 rw[←hK] at cK
 by_cases h3:K a=3
 ·have e:bkF l a=a+1:=by rw[bkF,←hK,if_pos h3]
  rw[e]
  clear hK e
  refine fnN (cs:=Ql5 K) func68 rfl (by kernel_rfl) ?_
  intro w0 g0
  generalize hp:std=p,hrs:Q9 l=rs
  generalize hT:Q5 p tys (Ql5 K) _ _ _ _=T
  cbv at hT
  subst hT
  simp only[Tree.ok,Q1,S0]
  subst hp hrs
  refine⟨cK,?_⟩
  repeat' first
   |(with_reducible refine And.intro (fun hx=>absurd hx (by first|(try simp[std,S1,h3,h0,h1])<;>omega|omega)) (fun _=>?_))
   |(with_reducible refine And.intro (fun _=>?_) (fun hx=>absurd hx (by first|(try simp[std,S1,h3,h0,h1])<;>omega|omega)))
   |(with_reducible refine And.intro (by first|(try simp[std,S1,h3,h0,h1])<;>omega|omega) ?_)
   |(with_reducible refine And.intro ?_ ?_)
   |(with_reducible intro hb)
  all_goals exact .pure rfl (.inl rfl)
 ·have e:bkF l a=a:=by rw[bkF,←hK,if_neg h3]
  rw[e]
  clear hK e
  refine fnN (cs:=Ql5 K) func68 rfl (by kernel_rfl) ?_
  intro w0 g0
  generalize hp:std=p,hrs:Q9 l=rs
  generalize hT:Q5 p tys (Ql5 K) _ _ _ _=T
  cbv at hT
  subst hT
  simp only[Tree.ok,Q1,S0]
  subst hp hrs
  refine⟨cK,?_⟩
  repeat' first
   |(with_reducible refine And.intro (fun hx=>absurd hx (by first|(try simp[std,S1,h3,h0,h1])<;>omega|omega)) (fun _=>?_))
   |(with_reducible refine And.intro (fun _=>?_) (fun hx=>absurd hx (by first|(try simp[std,S1,h3,h0,h1])<;>omega|omega)))
   |(with_reducible refine And.intro (by first|(try simp[std,S1,h3,h0,h1])<;>omega|omega) ?_)
   |(with_reducible refine And.intro ?_ ?_)
   |(with_reducible intro hb)
  all_goals exact .pure rfl (.inl rfl)
def Q6S (K B:Int→Int):Nat→List AV→List Ob→Option (AV×List Ob):=fun f args _=>match f,args with
 |66,[_,.val (.int .i64 a)]=>some (.val (.int .i64 (K a)),[])
 |68,[_,.val (.int .i64 a)]=>some (.val (.int .i64 (B a)),[])
 |_,_=>none
theorem QhC (l:List TPart)(hl:l.length≤1000000)(a:Int)(h0:0≤a)(h1:a≤1000000)(g:¬ kdF l a=3):BCall prog 67 [.slc 3 (Q9 l),.val (.int .i64 a)] [] (.tup [.agg (QF l a).cs,.val (.int .i64 (nxF l a))]) []:=by
 have hR:Q1N l a=none:=by rw[Q7M,if_neg (fun e=>g e.1)]
 have e1:QF l a=tattr0:=by rw[QF,hR]
 have e2:nxF l a=-1:=by rw[nxF,hR]
 rw[e1,e2]
 clear e1 e2 hR
 have hbk:∀ a,0≤a→a≤bkF l a∧bkF l a≤a+1:=fun a _=>by rw[bkF];split<;>omega
 have cK:=Q3r l (by omega)
 have cB:=Q43 l (by omega)
 obtain⟨n,hn⟩:=Qy l
 have hol:=Q16 l
 have hn9:n≤1000000:=by rw[hn.eq];omega
 obtain⟨K,hK⟩:=exq (kdF l)
 obtain⟨B,hB⟩:=exq (bkF l)
 simp only[←hK,←hB] at *
 clear hK hB
 have b1:=hbk (a+2) (by omega)
 have b2:=hbk (B (a+2)+1) (by omega)
 have c1:=cK a h0
 have c2:=cK (a+1) (by omega)
 have c3:=cB (a+2) (by omega) (by omega)
 have c4:=cK (B (a+2)) (by omega)
 have c5:=cB (B (a+2)+1) (by omega) (by omega)
 have c6:=cK (B (B (a+2)+1)) (by omega)
 clear cK cB hbk
 refine fnN (cs:=Q6S K B) func67 rfl (by kernel_rfl) ?_
 intro w0 g0
 generalize hp:std=p,hps:Q9 l=ps
 generalize hT:Q5 p tys (Q6S K B) _ _ _ _=T
 cbv at hT
 subst hT
 simp only[Tree.ok,Q1,S0]
 subst hp hps
 have hxn:(((Q9 l).length:Nat):Int)=n:=by have:=hn.eq;omega
 repeat' first
  |(with_reducible refine And.intro (fun hx=>absurd hx (by first|(try simp[std,S1,hxn,h0,g])<;>omega|omega)) (fun _=>?_))
  |(with_reducible refine And.intro (fun _=>?_) (fun hx=>absurd hx (by first|(try simp[std,S1,hxn,h0,g])<;>omega|omega)))
  |(with_reducible refine And.intro (by first|(try simp[std,S1,hxn,h0,g])<;>omega|omega) ?_)
  |(with_reducible refine And.intro ?_ ?_)
  |(with_reducible intro hb)
 all_goals first
  |exact c1
  |exact c2
  |exact c3
  |exact c4
  |exact c5
  |exact c6
  |exact .pure rfl ⟨⟨.inl rfl,.inl rfl,.inl rfl,.inl rfl,.inl rfl,.inl rfl,.inl rfl,.inl rfl,.inl rfl,trivial⟩,.inl rfl,trivial⟩
theorem QhV (l:List TPart)(hl:l.length≤1000000)(a:Int)(h0:0≤a)(h1:a≤1000000)(g3:kdF l a=3)(g:¬ kdF l (a+1)=2):BCall prog 67 [.slc 3 (Q9 l),.val (.int .i64 a)] [] (.tup [.agg (QF l a).cs,.val (.int .i64 (nxF l a))]) []:=by
 have hR:Q1N l a=none:=by rw[Q7M,if_neg (fun e=>g e.2)]
 have e1:QF l a=tattr0:=by rw[QF,hR]
 have e2:nxF l a=-1:=by rw[nxF,hR]
 rw[e1,e2]
 clear e1 e2 hR
 have hbk:∀ a,0≤a→a≤bkF l a∧bkF l a≤a+1:=fun a _=>by rw[bkF];split<;>omega
 have cK:=Q3r l (by omega)
 have cB:=Q43 l (by omega)
 obtain⟨n,hn⟩:=Qy l
 have hol:=Q16 l
 have hn9:n≤1000000:=by rw[hn.eq];omega
 obtain⟨K,hK⟩:=exq (kdF l)
 obtain⟨B,hB⟩:=exq (bkF l)
 simp only[←hK,←hB] at *
 clear hK hB
 have b1:=hbk (a+2) (by omega)
 have b2:=hbk (B (a+2)+1) (by omega)
 have c1:=cK a h0
 have c2:=cK (a+1) (by omega)
 have c3:=cB (a+2) (by omega) (by omega)
 have c4:=cK (B (a+2)) (by omega)
 have c5:=cB (B (a+2)+1) (by omega) (by omega)
 have c6:=cK (B (B (a+2)+1)) (by omega)
 clear cK cB hbk
 refine fnN (cs:=Q6S K B) func67 rfl (by kernel_rfl) ?_
 intro w0 g0
 generalize hp:std=p,hps:Q9 l=ps
 generalize hT:Q5 p tys (Q6S K B) _ _ _ _=T
 cbv at hT
 subst hT
 simp only[Tree.ok,Q1,S0]
 subst hp hps
 have hxn:(((Q9 l).length:Nat):Int)=n:=by have:=hn.eq;omega
 repeat' first
  |(with_reducible refine And.intro (fun hx=>absurd hx (by first|(try simp[std,S1,hxn,h0,g3,g])<;>omega|omega)) (fun _=>?_))
  |(with_reducible refine And.intro (fun _=>?_) (fun hx=>absurd hx (by first|(try simp[std,S1,hxn,h0,g3,g])<;>omega|omega)))
  |(with_reducible refine And.intro (by first|(try simp[std,S1,hxn,h0,g3,g])<;>omega|omega) ?_)
  |(with_reducible refine And.intro ?_ ?_)
  |(with_reducible intro hb)
 all_goals first
  |exact c1
  |exact c2
  |exact c3
  |exact c4
  |exact c5
  |exact c6
  |exact .pure rfl ⟨⟨.inl rfl,.inl rfl,.inl rfl,.inl rfl,.inl rfl,.inl rfl,.inl rfl,.inl rfl,.inl rfl,trivial⟩,.inl rfl,trivial⟩
theorem Qi6 (l:List TPart)(hl:l.length≤1000000)(a:Int)(h0:0≤a)(h1:a≤1000000)(g3:kdF l a=3)(g2:kdF l (a+1)=2)(g:¬ kdF l (bkF l (a+2))=4):BCall prog 67 [.slc 3 (Q9 l),.val (.int .i64 a)] [] (.tup [.agg (QF l a).cs,.val (.int .i64 (nxF l a))]) []:=by
 have hR:Q1N l a=none:=by rw[Q7M,if_pos ⟨g3,g2⟩,if_neg g]
 have e1:QF l a=tattr0:=by rw[QF,hR]
 have e2:nxF l a=-1:=by rw[nxF,hR]
 rw[e1,e2]
 clear e1 e2 hR
 have hbk:∀ a,0≤a→a≤bkF l a∧bkF l a≤a+1:=fun a _=>by rw[bkF];split<;>omega
 have cK:=Q3r l (by omega)
 have cB:=Q43 l (by omega)
 obtain⟨n,hn⟩:=Qy l
 have hol:=Q16 l
 have hn9:n≤1000000:=by rw[hn.eq];omega
 obtain⟨K,hK⟩:=exq (kdF l)
 obtain⟨B,hB⟩:=exq (bkF l)
 simp only[←hK,←hB] at *
 clear hK hB
 have b1:=hbk (a+2) (by omega)
 have b2:=hbk (B (a+2)+1) (by omega)
 have c1:=cK a h0
 have c2:=cK (a+1) (by omega)
 have c3:=cB (a+2) (by omega) (by omega)
 have c4:=cK (B (a+2)) (by omega)
 have c5:=cB (B (a+2)+1) (by omega) (by omega)
 have c6:=cK (B (B (a+2)+1)) (by omega)
 clear cK cB hbk
 refine fnN (cs:=Q6S K B) func67 rfl (by kernel_rfl) ?_
 intro w0 g0
 generalize hp:std=p,hps:Q9 l=ps
 generalize hT:Q5 p tys (Q6S K B) _ _ _ _=T
 cbv at hT
 subst hT
 simp only[Tree.ok,Q1,S0]
 subst hp hps
 have hxn:(((Q9 l).length:Nat):Int)=n:=by have:=hn.eq;omega
 repeat' first
  |(with_reducible refine And.intro (fun hx=>absurd hx (by first|(try simp[std,S1,hxn,h0,g3,g2,g])<;>omega|omega)) (fun _=>?_))
  |(with_reducible refine And.intro (fun _=>?_) (fun hx=>absurd hx (by first|(try simp[std,S1,hxn,h0,g3,g2,g])<;>omega|omega)))
  |(with_reducible refine And.intro (by first|(try simp[std,S1,hxn,h0,g3,g2,g])<;>omega|omega) ?_)
  |(with_reducible refine And.intro ?_ ?_)
  |(with_reducible intro hb)
 all_goals first
  |exact c1
  |exact c2
  |exact c3
  |exact c4
  |exact c5
  |exact c6
  |exact .pure rfl ⟨⟨.inl rfl,.inl rfl,.inl rfl,.inl rfl,.inl rfl,.inl rfl,.inl rfl,.inl rfl,.inl rfl,trivial⟩,.inl rfl,trivial⟩
theorem QhF (l:List TPart)(hl:l.length≤1000000)(a:Int)(h0:0≤a)(h1:a≤1000000)(g3:kdF l a=3)(g2:kdF l (a+1)=2)(g4:kdF l (bkF l (a+2))=4)(g:¬ kdF l (bkF l (bkF l (a+2)+1))=5):BCall prog 67 [.slc 3 (Q9 l),.val (.int .i64 a)] [] (.tup [.agg (QF l a).cs,.val (.int .i64 (nxF l a))]) []:=by
 have hR:Q1N l a=none:=by rw[Q7M,if_pos ⟨g3,g2⟩,if_pos g4,if_neg g]
 have e1:QF l a=tattr0:=by rw[QF,hR]
 have e2:nxF l a=-1:=by rw[nxF,hR]
 rw[e1,e2]
 clear e1 e2 hR
 have hbk:∀ a,0≤a→a≤bkF l a∧bkF l a≤a+1:=fun a _=>by rw[bkF];split<;>omega
 have cK:=Q3r l (by omega)
 have cB:=Q43 l (by omega)
 obtain⟨n,hn⟩:=Qy l
 have hol:=Q16 l
 have hn9:n≤1000000:=by rw[hn.eq];omega
 obtain⟨K,hK⟩:=exq (kdF l)
 obtain⟨B,hB⟩:=exq (bkF l)
 simp only[←hK,←hB] at *
 clear hK hB
 have b1:=hbk (a+2) (by omega)
 have b2:=hbk (B (a+2)+1) (by omega)
 have c1:=cK a h0
 have c2:=cK (a+1) (by omega)
 have c3:=cB (a+2) (by omega) (by omega)
 have c4:=cK (B (a+2)) (by omega)
 have c5:=cB (B (a+2)+1) (by omega) (by omega)
 have c6:=cK (B (B (a+2)+1)) (by omega)
 clear cK cB hbk
 refine fnN (cs:=Q6S K B) func67 rfl (by kernel_rfl) ?_
 intro w0 g0
 generalize hp:std=p,hps:Q9 l=ps
 generalize hT:Q5 p tys (Q6S K B) _ _ _ _=T
 cbv at hT
 subst hT
 simp only[Tree.ok,Q1,S0]
 subst hp hps
 have hxn:(((Q9 l).length:Nat):Int)=n:=by have:=hn.eq;omega
 repeat' first
  |(with_reducible refine And.intro (fun hx=>absurd hx (by first|(try simp[std,S1,hxn,h0,g3,g2,g4,g])<;>omega|omega)) (fun _=>?_))
  |(with_reducible refine And.intro (fun _=>?_) (fun hx=>absurd hx (by first|(try simp[std,S1,hxn,h0,g3,g2,g4,g])<;>omega|omega)))
  |(with_reducible refine And.intro (by first|(try simp[std,S1,hxn,h0,g3,g2,g4,g])<;>omega|omega) ?_)
  |(with_reducible refine And.intro ?_ ?_)
  |(with_reducible intro hb)
 all_goals first
  |exact c1
  |exact c2
  |exact c3
  |exact c4
  |exact c5
  |exact c6
  |exact .pure rfl ⟨⟨.inl rfl,.inl rfl,.inl rfl,.inl rfl,.inl rfl,.inl rfl,.inl rfl,.inl rfl,.inl rfl,trivial⟩,.inl rfl,trivial⟩
theorem QgM (l:List TPart)(hl:l.length≤1000000)(a:Int)(h0:0≤a)(h1:a≤1000000)(g3:kdF l a=3)(g2:kdF l (a+1)=2)(g4:kdF l (bkF l (a+2))=4)(g5:kdF l (bkF l (bkF l (a+2)+1))=5):BCall prog 67 [.slc 3 (Q9 l),.val (.int .i64 a)] [] (.tup [.agg (QF l a).cs,.val (.int .i64 (nxF l a))]) []:=by
 have hR:Q1N l a=some (Q4z (l[(a+1).toNat]?.getD Ql) (l[a.toNat]?.getD Ql) (l[(bkF l (bkF l (a+2)+1)).toNat]?.getD Ql),bkF l (bkF l (a+2)+1)+1):=by rw[Q7M,if_pos ⟨g3,g2⟩,if_pos g4,if_pos g5]
 have e1:QF l a=Q4z (l[(a+1).toNat]?.getD Ql) (l[a.toNat]?.getD Ql) (l[(bkF l (bkF l (a+2)+1)).toNat]?.getD Ql):=by rw[QF,hR]
 have e2:nxF l a=bkF l (bkF l (a+2)+1)+1:=by rw[nxF,hR]
 rw[e1,e2]
 clear e1 e2 hR
 have hbk:∀ a,0≤a→a≤bkF l a∧bkF l a≤a+1:=fun a _=>by rw[bkF];split<;>omega
 have cK:=Q3r l (by omega)
 have cB:=Q43 l (by omega)
 obtain⟨n,hn⟩:=Qy l
 have hol:=Q16 l
 have hn9:n≤1000000:=by rw[hn.eq];omega
 have lt1:a<n:=by rw[hn.eq];exact Q8o h0 g3 (by decide)
 have lt2:a+1<n:=by rw[hn.eq];exact Q8o (by omega) g2 (by decide)
 have lt3:bkF l (bkF l (a+2)+1)<n:=by
  have b1:=hbk (a+2) (by omega)
  have b2:=hbk (bkF l (a+2)+1) (by omega)
  rw[hn.eq];exact Q8o (by omega) g5 (by decide)
 have r1:(Q9 l)[a.toNat]?.getD .dead=(l[a.toNat]?.getD Ql).av:=Q24 h0 (by have:=hn.eq;omega)
 have r2:(Q9 l)[(a+1).toNat]?.getD .dead=(l[(a+1).toNat]?.getD Ql).av:=Q24 (by omega) (by have:=hn.eq;omega)
 have r3:(Q9 l)[(bkF l (bkF l (a+2)+1)).toNat]?.getD .dead=(l[(bkF l (bkF l (a+2)+1)).toNat]?.getD Ql).av:=Q24 (by have b1:=hbk (a+2) (by omega);have b2:=hbk (bkF l (a+2)+1) (by omega);omega) (by have:=hn.eq;omega)
 obtain⟨x,hx⟩:=exq (l[a.toNat]?.getD Ql)
 obtain⟨y,hy⟩:=exq (l[(a+1).toNat]?.getD Ql)
 obtain⟨q,hq⟩:=exq (l[(bkF l (bkF l (a+2)+1)).toNat]?.getD Ql)
 rw[←hx] at r1
 rw[←hy] at r2
 rw[←hq] at r3
 rw[←hx,←hy,←hq]
 rw[TPart.av] at r1 r2 r3
 clear hx hy hq
 obtain⟨K,hK⟩:=exq (kdF l)
 obtain⟨B,hB⟩:=exq (bkF l)
 simp only[←hK,←hB] at *
 clear hK hB
 have b1:=hbk (a+2) (by omega)
 have b2:=hbk (B (a+2)+1) (by omega)
 have c1:=cK a h0
 have c2:=cK (a+1) (by omega)
 have c3:=cB (a+2) (by omega) (by omega)
 have c4:=cK (B (a+2)) (by omega)
 have c5:=cB (B (a+2)+1) (by omega) (by omega)
 have c6:=cK (B (B (a+2)+1)) (by omega)
 clear cK cB hbk
 refine fnN (cs:=Q6S K B) func67 rfl (by kernel_rfl) ?_
 intro w0 g0
 generalize hp:std=p,hps:Q9 l=ps
 generalize hT:Q5 p tys (Q6S K B) _ _ _ _=T
 cbv at hT
 subst hT
 simp only[Tree.ok,Q1,S0]
 subst hp hps
 have hxn:(((Q9 l).length:Nat):Int)=n:=by have:=hn.eq;omega
 repeat' first
  |(with_reducible refine And.intro (fun hx=>absurd hx (by first|(try simp[std,S1,hxn,h0,g3,g2,g4,g5,r1,r2,r3,lt1,lt2,lt3])<;>omega|omega)) (fun _=>?_))
  |(with_reducible refine And.intro (fun _=>?_) (fun hx=>absurd hx (by first|(try simp[std,S1,hxn,h0,g3,g2,g4,g5,r1,r2,r3,lt1,lt2,lt3])<;>omega|omega)))
  |(with_reducible refine And.intro (by first|(try simp[std,S1,hxn,h0,g3,g2,g4,g5,r1,r2,r3,lt1,lt2,lt3])<;>omega|omega) ?_)
  |(with_reducible refine And.intro ?_ ?_)
  |(with_reducible intro hb)
 all_goals first
  |exact c1
  |exact c2
  |exact c3
  |exact c4
  |exact c5
  |exact c6
  |(refine .pure rfl ⟨⟨.inl ?_,.inl ?_,.inl ?_,.inl ?_,.inl ?_,.inl ?_,.inl ?_,.inl ?_,.inl ?_,trivial⟩,.inl rfl,trivial⟩<;>simp[std,r1,r2,r3,AV.cells,intOf,Q4z])
theorem Qbq (l:List TPart)(hl:l.length≤1000000)(a:Int)(h0:0≤a)(h1:a≤1000000):BCall prog 67 [.slc 3 (Q9 l),.val (.int .i64 a)] [] (.tup [.agg (QF l a).cs,.val (.int .i64 (nxF l a))]) []:=by
 by_cases g3:kdF l a=3
 ·by_cases g2:kdF l (a+1)=2
  ·by_cases g4:kdF l (bkF l (a+2))=4
   ·by_cases g5:kdF l (bkF l (bkF l (a+2)+1))=5
    ·exact QgM l hl a h0 h1 g3 g2 g4 g5
    ·exact QhF l hl a h0 h1 g3 g2 g4 g5
   ·exact Qi6 l hl a h0 h1 g3 g2 g4
  ·exact QhV l hl a h0 h1 g3 g2
 ·exact QhC l hl a h0 h1 g3
theorem QdP {r:List Int}{b:Bool}(h:(Qp r b).1=1):(Qp r b).2=1∨(Qp r b).2=2:=by
 unfold Qp at h ⊢
 split
 ·exact .inr rfl
 ·rename_i h1
  rw[if_neg h1] at h
  split
  ·exact .inl rfl
  ·rename_i h2
   rw[if_neg h2] at h
   repeat' split at h
   all_goals (simp only at h;omega)
theorem QfR {l:List Int}{f u:Int}(h:kdF (QU l f u) 0=1):((QU l f u)[0]?.getD Ql).to-((QU l f u)[0]?.getD Ql).from_=1∨((QU l f u)[0]?.getD Ql).to-((QU l f u)[0]?.getD Ql).from_=2:=by
 unfold QU at h ⊢
 by_cases hr:(l.take u.toNat).drop f.toNat=[]
 ·rw[hr,kdF,QD,dif_pos rfl] at h
  exact absurd h (by decide)
 ·rw[Q28 hr] at h ⊢
  have h:(Qp ((l.take u.toNat).drop f.toNat) true).1=1:=h
  have h2:=QdP h
  show f+(Qp ((l.take u.toNat).drop f.toNat) true).2-f=1∨f+(Qp ((l.take u.toNat).drop f.toNat) true).2-f=2
  omega
theorem Q59 (l:List TPart):QM l 0 [1,2]=decide (kdF l 0=1∧kdF l 1=2):=by
 rw[QM,kdF,kdF]
 match l with
 | []=>rfl
 | [x] =>
  show ([x.kind] == [1,2])=decide (x.kind=1∧(0:Int)=2)
  simp
 |x::y::r =>
  show ([x.kind,y.kind] == [1,2])=decide (x.kind=1∧y.kind=2)
  by_cases h:x.kind=1<;>by_cases h2:y.kind=2<;>simp[h,h2]
theorem QhT {l:List TPart}{a:Int}(h0:0≤a)(h1:a≤l.length):(Q1z l a=true∧a<nxF l a∧nxF l a≤l.length∧Q1H l a=nxF l a)∨(Q1z l a=false∧nxF l a=-1):=by
 cases hg:Q1N l a with
 |none=>exact .inr ⟨by rw[Q1z,hg];rfl,by rw[nxF,hg]⟩
 |some x =>
  have hr:=QaA h0 h1 (x:=x.1) (b:=x.2) hg
  exact .inl ⟨by rw[Q1z,hg];rfl,by rw[nxF,hg];exact hr.1,by rw[nxF,hg];exact hr.2,by rw[Q1H,nxF,hg]⟩
theorem Q4G {l:List Int}{f u:Int}:(QU l f u).length≤l.length:=Q9R l f u
def Q4M (ps:List AV)(K B:Int→Int)(ce:Int→Nat→Int)(nx:Int→Int):Nat→List AV→List Ob→Option (AV×List Ob):=fun f args _=>match f,args with
 |65,_=>some (.slc 3 ps,[])
 |66,[_,.val (.int .i64 a)]=>some (.val (.int .i64 (K a)),[])
 |68,[_,.val (.int .i64 a)]=>some (.val (.int .i64 (B a)),[])
 |67,[_,.val (.int .i64 a)]=>some (.tup [.agg [.val (.int .i64 (ce a 0)),.val (.int .i64 (ce a 1)),.val (.int .i64 (ce a 2)),.val (.int .i64 (ce a 3)),.val (.int .i64 (ce a 4)),.val (.int .i64 (ce a 5)),.val (.int .i64 (ce a 6)),.val (.int .i64 (ce a 7)),.val (.int .i64 (ce a 8))],.val (.int .i64 (nx a))],[])
 |_,_=>none
def Q80 (t:TTag):AV:=.agg [.val (.int .i64 t.name.kind),.val (.int .i64 t.name.from_),.val (.int .i64 t.name.to),.slc 9 (QI t.attrs),.val (.bool t.right),.val (.bool t.empty)]
theorem Qcm (l:List Int)(hl:l.length≤1000000)(hu:Un l)(from_ to:Int)(h0:0≤from_)(h1:from_≤to)(h2:to≤l.length)(ps:List TPart)(hps:ps=QU l from_ to)(k0:¬ kdF ps 0=1):BCall prog 38 [.slc 1 (Q0 l),.val (.int .i64 from_),.val (.int .i64 to)] [] (Q80 ⟨Ql,[],false,false⟩) []:=by
 have hpl:ps.length≤1000000:=by have:=Q4G (l:=l) (f:=from_) (u:=to);rw[hps];omega
 have cP:=Q6k l hl hu from_ to h0 h1 h2
 rw[←hps] at cP
 have cK0:=Q3r ps (by omega) 0 (by omega)
 have cK1:=Q3r ps (by omega) 1 (by omega)
 obtain⟨K,hK⟩:=exq (kdF ps)
 simp only[←hK] at *
 clear hK hps h2
 rw[Q80]
 refine fnN (cs:=Q4M (Q9 ps) K (fun _=>0) (fun _ _=>0) (fun _=>0)) func38 rfl (by kernel_rfl) ?_
 intro w0 g0
 generalize hp:std=p,hqs:Q9 ps=qs,hrs:Q0 l=rs
 generalize hT:Q5 p tys (Q4M qs K (fun _=>0) (fun _ _=>0) (fun _=>0)) _ _ _ _=T
 cbv at hT
 subst hT
 simp only[Tree.ok,Q1,S0]
 subst hp hqs hrs
 repeat' first
  |(with_reducible refine And.intro (fun hx=>absurd hx (by first|(try simp[std,S1,k0])<;>omega|omega)) (fun _=>?_))
  |(with_reducible refine And.intro (fun _=>?_) (fun hx=>absurd hx (by first|(try simp[std,S1,k0])<;>omega|omega)))
  |(with_reducible refine And.intro (by first|(try simp[std,S1,k0])<;>omega|omega) ?_)
  |(with_reducible refine And.intro ?_ ?_)
  |(with_reducible intro hb)
 all_goals first
  |exact cP
  |exact cK0
  |exact cK1
  |exact .pure rfl ⟨.inl rfl,.inl rfl,.inl rfl,.inr (.inl ⟨rfl,_,rfl⟩),.inl rfl,.inl rfl,trivial⟩
theorem QcN (l:List Int)(hl:l.length≤1000000)(hu:Un l)(from_ to:Int)(h0:0≤from_)(h1:from_≤to)(h2:to≤l.length)(ps:List TPart)(hps:ps=QU l from_ to)(k0:kdF ps 0=1)(k1:¬ kdF ps 1=2):BCall prog 38 [.slc 1 (Q0 l),.val (.int .i64 from_),.val (.int .i64 to)] [] (Q80 ⟨Ql,[],false,false⟩) []:=by
 have hpl:ps.length≤1000000:=by have:=Q4G (l:=l) (f:=from_) (u:=to);rw[hps];omega
 have cP:=Q6k l hl hu from_ to h0 h1 h2
 rw[←hps] at cP
 have cK0:=Q3r ps (by omega) 0 (by omega)
 have cK1:=Q3r ps (by omega) 1 (by omega)
 obtain⟨K,hK⟩:=exq (kdF ps)
 simp only[←hK] at *
 clear hK hps h2
 rw[Q80]
 refine fnN (cs:=Q4M (Q9 ps) K (fun _=>0) (fun _ _=>0) (fun _=>0)) func38 rfl (by kernel_rfl) ?_
 intro w0 g0
 generalize hp:std=p,hqs:Q9 ps=qs,hrs:Q0 l=rs
 generalize hT:Q5 p tys (Q4M qs K (fun _=>0) (fun _ _=>0) (fun _=>0)) _ _ _ _=T
 cbv at hT
 subst hT
 simp only[Tree.ok,Q1,S0]
 subst hp hqs hrs
 repeat' first
  |(with_reducible refine And.intro (fun hx=>absurd hx (by first|(try simp[std,S1,k0,k1])<;>omega|omega)) (fun _=>?_))
  |(with_reducible refine And.intro (fun _=>?_) (fun hx=>absurd hx (by first|(try simp[std,S1,k0,k1])<;>omega|omega)))
  |(with_reducible refine And.intro (by first|(try simp[std,S1,k0,k1])<;>omega|omega) ?_)
  |(with_reducible refine And.intro ?_ ?_)
  |(with_reducible intro hb)
 all_goals first
  |exact cP
  |exact cK0
  |exact cK1
  |exact .pure rfl ⟨.inl rfl,.inl rfl,.inl rfl,.inr (.inl ⟨rfl,_,rfl⟩),.inl rfl,.inl rfl,trivial⟩
end Go.Proofs.YthbjpdijafccjaaGreat
