/-
  Parts of the proof, joined: Vk. Conditions: as each theorem says.
-/
import Derived.Test.YthbjpdijafccjaaGreatQE26
set_option maxRecDepth 100000
set_option maxHeartbeats 8000000
namespace Go.Proofs.YthbjpdijafccjaaGreat
open Go.RowKit Go.Lib Tryz
theorem Qb1 (r:Int):Q1M r=true↔r≠60∧r≠38∧r≠-1:=by
 unfold Q1M
 simp only[Bool.and_eq_true,bne_iff_ne]
theorem QfM (l:List Int)(hl:l.length≤1000000000)(hu:Un l)(k:Int)(h0:0≤k)(h1:k<l.length)(hM:NoMark l k.toNat)(h60:¬ l[k.toNat]?.getD 0=60)(h38:¬ l[k.toNat]?.getD 0=38)(hm1:¬ l[k.toNat]?.getD 0=-1):BCall prog 64 [.slc 1 (Q0 l),.val (.int .i64 k)] [] (Q1t ((Qk l k.toNat).1:Nat) k ((Qk l k.toNat).2.1:Nat) (Qk l k.toNat).2.2) []:=by
 have c1:BCall prog 85 [.slc 1 (Q0 l),.val (.int .i64 k),.val (.string ⟨#[60,33,45,45]⟩)] [] (.val (.bool false)) []:=by
  have:=Qa l hl hu.i32 k h0 (by omega) ⟨#[60,33,45,45]⟩ (by decide)
  have e:Q3 l k.toNat (⟨#[60,33,45,45]⟩:ByteArray).data.toList=false:=hM.s1
  rw[e] at this
  exact this
 have c2:BCall prog 85 [.slc 1 (Q0 l),.val (.int .i64 k),.val (.string ⟨#[60,33,91,67,68,65,84,65,91]⟩)] [] (.val (.bool false)) []:=by
  have:=Qa l hl hu.i32 k h0 (by omega) ⟨#[60,33,91,67,68,65,84,65,91]⟩ (by decide)
  have e:Q3 l k.toNat (⟨#[60,33,91,67,68,65,84,65,91]⟩:ByteArray).data.toList=false:=hM.s2
  rw[e] at this
  exact this
 have c3:BCall prog 85 [.slc 1 (Q0 l),.val (.int .i64 k),.val (.string ⟨#[60,63]⟩)] [] (.val (.bool false)) []:=by
  have:=Qa l hl hu.i32 k h0 (by omega) ⟨#[60,63]⟩ (by decide)
  have e:Q3 l k.toNat (⟨#[60,63]⟩:ByteArray).data.toList=false:=hM.s3
  rw[e] at this
  exact this
 have c4:BCall prog 85 [.slc 1 (Q0 l),.val (.int .i64 k),.val (.string ⟨#[60,33,68,79,67,84,89,80,69]⟩)] [] (.val (.bool false)) []:=by
  have:=Qa l hl hu.i32 k h0 (by omega) ⟨#[60,33,68,79,67,84,89,80,69]⟩ (by decide)
  have e:Q3 l k.toNat (⟨#[60,33,68,79,67,84,89,80,69]⟩:ByteArray).data.toList=false:=hM.s4
  rw[e] at this
  exact this
 have c5:BCall prog 85 [.slc 1 (Q0 l),.val (.int .i64 k),.val (.string ⟨#[60,47]⟩)] [] (.val (.bool false)) []:=by
  have:=Qa l hl hu.i32 k h0 (by omega) ⟨#[60,47]⟩ (by decide)
  have e:Q3 l k.toNat (⟨#[60,47]⟩:ByteArray).data.toList=false:=hM.s5
  rw[e] at this
  exact this
 have ak:=Qv (l:=l) (i:=k) h0 h1
 obtain⟨n,hn⟩:=Qy l
 have hxl:=Qi l
 have hkn:k<n:=by have:=hn.eq;omega
 have hn9:n≤1000000000:=by have:=hn.eq;omega
 have e:Qk l k.toNat=(1,k.toNat+plN l k,true):=by
  rw[Qk,List.getD_eq_getElem?_getD,if_neg h60,if_neg h38,if_neg hm1];rfl
 rw[e]
 obtain⟨N,hN⟩:∃ N:Int,IsN (plN l k) N:=⟨_,rfl⟩
 obtain⟨t,ht⟩:=exq (k+N:Int)
 have ht2:(((k.toNat+plN l k:Nat)):Int)=t:=by rw[ht,hN.eq];omega
 show BCall _ _ _ _ (Q1t 1 k ((k.toNat+plN l k:Nat):Int) true) _
 rw[ht2,Q1t]
 clear e ht2 hM
 refine fnN (cs:=Q3W false false false false false true 0 0 0 true) func64 rfl (by kernel_rfl) ?_
 intro w0 g0
 generalize hp:std=p,hrx:Q0 l=rx
 generalize hT:Q5 p tys (Q3W false false false false false true 0 0 0 true) _ _ _ _=T
 cbv at hT
 subst hT
 simp only[Tree.ok,Q1,S0]
 subst hp hrx
 have hxn:=QV hn
 repeat' first
  |(with_reducible refine And.intro (fun hx=>absurd hx (by first|(try simp[std,S1,hxn,ak,h60,h38,hm1,hkn,h0])<;>omega|omega)) (fun _=>?_))
  |(with_reducible refine And.intro (fun _=>?_) (fun hx=>absurd hx (by first|(try simp[std,S1,hxn,ak,h60,h38,hm1,hkn,h0])<;>omega|omega)))
  |(with_reducible refine And.intro (by first|(try simp[std,S1,hxn,ak,h60,h38,hm1,hkn,h0])<;>omega|omega) ?_)
  |(with_reducible refine And.intro ?_ ?_)
  |(with_reducible intro hb)
 all_goals first
  |exact c1
  |exact c2
  |exact c3
  |exact c4
  |exact c5
  |skip
 refine Q1r (cs:=Q3W false false false false false true 0 0 0 true) (by kernel_rfl) (X:=Int) (fun i=>⟨[(0,.slc 1 (Q0 l)),(1,.val (.int .i64 k)),(4,.box 0 0),(5,.val (.int .i64 i))],[.box [.val (.int .i64 0),.val (.int .i64 0),.val (.int .i64 0),.val (.bool false)]]⟩) (fun i=>(k≤i∧i≤n)∧i+(plN l i:Nat)=k+N) (fun i=>(n-i).toNat) k ?_ ?_ ?_
 ·exact⟨⟨Int.le_refl _,by omega⟩,by rw[hN.eq]⟩
 ·refine⟨[some 0],_,rfl,?_⟩
  repeat first
   |exact trivial
   |refine⟨rfl,?_⟩
 ·rintro i ⟨⟨hq0,hqn⟩,hi⟩
  have hi0:k≤i:=hq0
  have hin:i≤n:=hqn
  have hi:i+(plN l i:Nat)=k+N:=hi
  clear hq0 hqn hxn ak
  by_cases hlt:i<n
  ·have hil:i<l.length:=by have:=hn.eq;omega
   have ai:=Qv (l:=l) (i:=i) (by omega) hil
   by_cases hp:Q1M (l[i.toNat]?.getD 0)=true
   ·obtain⟨p1,p2,p3⟩:=(Qb1 _).1 hp
    have hst:=Qj2 (by omega) hil hp
    have hJ:i+1+(plN l (i+1):Nat)=k+N:=by omega
    clear hi hst hil hN hp
    generalize hp:std=p,hrx:Q0 l=rx
    generalize hT:Q5 p tys (Q3W false false false false false true 0 0 0 true) _ _ _ _=T
    cbv at hT
    subst hT
    simp only[Tree.ok,Q1,S0]
    subst hp hrx
    have hxn:=QV hn
    repeat' first
     |(with_reducible refine And.intro (fun hx=>absurd hx (by first|(try simp[std,S1,hxn,ai,hlt,hi0,h0,p1,p2,p3])<;>omega|omega)) (fun _=>?_))
     |(with_reducible refine And.intro (fun _=>?_) (fun hx=>absurd hx (by first|(try simp[std,S1,hxn,ai,hlt,hi0,h0,p1,p2,p3])<;>omega|omega)))
     |(with_reducible refine And.intro (by first|(try simp[std,S1,hxn,ai,hlt,hi0,h0,p1,p2,p3])<;>omega|omega) ?_)
     |(with_reducible refine And.intro ?_ ?_)
     |(with_reducible intro hb)
    all_goals
     refine⟨i+1,⟨⟨by omega,by omega⟩,hJ⟩,by omega,[some 0],_,rfl,?_⟩
     repeat first
      |exact trivial
      |refine⟨rfl,?_⟩
   ·have hn1:=Qd3 (l:=l) (i:=i) (by omega) (fun _=>by simpa using hp)
    have hti:t=i:=by omega
    have hps:l[i.toNat]?.getD 0=60∨l[i.toNat]?.getD 0=38∨l[i.toNat]?.getD 0=-1:=by
     by_cases q1:l[i.toNat]?.getD 0=60
     ·exact .inl q1
     ·by_cases q2:l[i.toNat]?.getD 0=38
      ·exact .inr (.inl q2)
      ·by_cases q3:l[i.toNat]?.getD 0=-1
       ·exact .inr (.inr q3)
       ·exact absurd ((Qb1 _).2 ⟨q1,q2,q3⟩) hp
    clear hi hil hn1 hp hN ht
    rcases hps with hps|hps|hps
    all_goals
     generalize hp:std=p,hrx:Q0 l=rx
     generalize hT:Q5 p tys (Q3W false false false false false true 0 0 0 true) _ _ _ _=T
     cbv at hT
     subst hT
     simp only[Tree.ok,Q1,S0]
     subst hp hrx
     have hxn:=QV hn
     repeat' first
      |(with_reducible refine And.intro (fun hx=>absurd hx (by first|(try simp[std,S1,hxn,ai,hlt,hi0,h0,hps])<;>omega|omega)) (fun _=>?_))
      |(with_reducible refine And.intro (fun _=>?_) (fun hx=>absurd hx (by first|(try simp[std,S1,hxn,ai,hlt,hi0,h0,hps])<;>omega|omega)))
      |(with_reducible refine And.intro (by first|(try simp[std,S1,hxn,ai,hlt,hi0,h0,hps])<;>omega|omega) ?_)
      |(with_reducible refine And.intro ?_ ?_)
      |(with_reducible intro hb)
     all_goals
      rw[if_pos trivial]
      generalize hp:std=p,hrx:Q0 l=rx
      generalize hT:Q5 p tys _ _ _ _ _=T
      cbv at hT
      subst hT
      simp only[Tree.ok,Q1,S0]
      subst hp hrx
      exact .pure rfl ⟨.inl rfl,.inl rfl,.inl (by rw[hti]),.inl rfl,trivial⟩
  ·have hn1:=Qd3 (l:=l) (i:=i) (by omega) (fun h=>absurd (by have:=hn.eq;omega) hlt)
   have hti:t=i:=by omega
   clear hi hn1 hN ht
   generalize hp:std=p,hrx:Q0 l=rx
   generalize hT:Q5 p tys (Q3W false false false false false true 0 0 0 true) _ _ _ _=T
   cbv at hT
   subst hT
   simp only[Tree.ok,Q1,S0]
   subst hp hrx
   have hxn:=QV hn
   repeat' first
    |(with_reducible refine And.intro (fun hx=>absurd hx (by first|(try simp[std,S1,hxn,hlt,hi0,h0])<;>omega|omega)) (fun _=>?_))
    |(with_reducible refine And.intro (fun _=>?_) (fun hx=>absurd hx (by first|(try simp[std,S1,hxn,hlt,hi0,h0])<;>omega|omega)))
    |(with_reducible refine And.intro (by first|(try simp[std,S1,hxn,hlt,hi0,h0])<;>omega|omega) ?_)
    |(with_reducible refine And.intro ?_ ?_)
    |(with_reducible intro hb)
   all_goals
    rw[if_pos trivial]
    generalize hp:std=p,hrx:Q0 l=rx
    generalize hT:Q5 p tys _ _ _ _ _=T
    cbv at hT
    subst hT
    simp only[Tree.ok,Q1,S0]
    subst hp hrx
    exact .pure rfl ⟨.inl rfl,.inl rfl,.inl (by rw[hti]),.inl rfl,trivial⟩
theorem QkY (l:List Int)(hl:l.length≤1000000000)(hu:Un l)(k:Int)(h0:0≤k)(h1:k<l.length):BCall prog 64 [.slc 1 (Q0 l),.val (.int .i64 k)] [] (Q1t ((Qk l k.toNat).1:Nat) k ((Qk l k.toNat).2.1:Nat) (Qk l k.toNat).2.2) []:=by
 cases s1:Q3 l k.toNat [60,33,45,45] with
 |true=>exact QiG l hl hu k h0 h1 s1
 |false =>
  cases s2:Q3 l k.toNat [60,33,91,67,68,65,84,65,91] with
  |true=>exact Qj7 l hl hu k h0 h1 s1 s2
  |false =>
   cases s3:Q3 l k.toNat [60,63] with
   |true=>exact QhL l hl hu k h0 h1 s1 s2 s3
   |false =>
    cases s4:Q3 l k.toNat [60,33,68,79,67,84,89,80,69] with
    |true=>exact QiD l hl hu k h0 h1 s1 s2 s3 s4
    |false =>
     cases s5:Q3 l k.toNat [60,47] with
     |true=>exact Qit l hl hu k h0 h1 s1 s2 s3 s4 s5
     |false =>
      have hM:NoMark l k.toNat:=⟨s1,s2,s3,s4,s5⟩
      by_cases h60:l[k.toNat]?.getD 0=60
      ·by_cases hk1:k+1<l.length
       ·cases hns:Qn (l[k.toNat+1]?.getD 0) with
        |true=>exact QfW l hl hu k h0 h1 hM h60 hk1 hns
        |false=>exact Qg4 l hl hu k h0 h1 hM h60 hk1 hns
       ·exact Qgl l hl hu k h0 h1 hM h60 hk1
      ·by_cases h38:l[k.toNat]?.getD 0=38
       ·exact QiA l hl hu k h0 h1 hM h38
       ·by_cases hm1:l[k.toNat]?.getD 0=-1
        ·exact Qig l hl hu k h0 h1 hM hm1
        ·exact QfM l hl hu k h0 h1 hM h60 h38 hm1
def QfL (kd to:Int→Int)(wh:Int→Bool):Nat→List AV→List Ob→Option (AV×List Ob):=fun f args _=>match f,args with
 |64,[.slc 1 _,.val (.int .i64 k)]=>some (.agg [.val (.int .i64 (kd k)),.val (.int .i64 k),.val (.int .i64 (to k)),.val (.bool (wh k))],[])
 |_,_=>none
theorem QgU (l:List Int)(hl:l.length≤1000000)(hu:Un l):BCall prog 35 [.slc 1 (Q0 l)] [] (.slc 4 (Q1i (Q5P l))) []:=by
 obtain⟨n,hn⟩:=Qy l
 have hxl:=Qi l
 obtain⟨kd,hkd⟩:=exq (fun k:Int=>(((Qk l k.toNat).1:Nat):Int):Int→Int)
 obtain⟨to,hto⟩:=exq (fun k:Int=>(((Qk l k.toNat).2.1:Nat):Int):Int→Int)
 obtain⟨wh,hwh⟩:=exq (fun k:Int=>(Qk l k.toNat).2.2:Int→Bool)
 have cN:∀ k:Int,0≤k→k<n→BCall prog 64 [.slc 1 (Q0 l),.val (.int .i64 k)] [] (.agg [.val (.int .i64 (kd k)),.val (.int .i64 k),.val (.int .i64 (to k)),.val (.bool (wh k))]) []:=fun k k0 k1=>by
  rw[hkd,hto,hwh]
  exact QkY l (by omega) hu k k0 (by have:=hn.eq;omega)
 have hstep:∀ k:Int,0≤k→k<n→k<to k∧to k≤n∧(Q11 l k.toNat)=⟨kd k,k,to k,wh k⟩∧(to k).toNat=(Qk l k.toNat).2.1:=fun k k0 k1=>by
  have h:=Q3I l k.toNat (by have:=hn.eq;omega)
  have e:=hn.eq
  rw[hto,hkd,hwh]
  refine⟨by simp only;omega,by simp only;omega,?_,by simp only;omega⟩
  simp only[Q11,Int.toNat_of_nonneg k0]
 have hn9:n≤1000000:=by have:=hn.eq;omega
 clear hkd hto hwh
 refine fnN (cs:=QfL kd to wh) func35 rfl (by kernel_rfl) ?_
 intro w0 g0
 generalize hp:std=p,hrs:Q0 l=rs
 generalize hT:Q5 p tys (QfL kd to wh) _ _ _ _=T
 cbv at hT
 subst hT
 simp only[Tree.ok,Q1,S0]
 subst hp hrs
 refine Q1r (cs:=QfL kd to wh) (by kernel_rfl) (X:=List Tok×Int) (fun x=>⟨[(0,.slc 1 (Q0 l)),(3,.row 0 0),(4,.val (.int .i64 x.2))],[.row 104 4 false 0 (Q1i x.1)]⟩) (fun x=>0≤x.2∧x.2≤n∧x.1++Q1U l x.2.toNat=Q5P l∧(x.1.length:Int)≤x.2) (fun x=>(n-x.2).toNat) ([],0) ?_ ?_ ?_
 ·have:=hn.eq
  exact⟨by simp only;omega,by simp only;omega,rfl,by simp⟩
 ·exact⟨[none],_,rfl,by simp[Qe,lk,Q1i]⟩
 ·rintro⟨out,k⟩ ⟨hJ0,hJ1,hJ2,hJ3⟩
  simp only at hJ0 hJ1 hJ2 hJ3
  have hol:=Q7O out
  have hbd:out.length≤1000000:=by omega
  obtain⟨q,hq⟩:=Qy out
  have hJ4:q≤k:=by rw[hq.eq];exact hJ3
  by_cases hk:k<n
  ·obtain⟨s1,s2,s3,s4⟩:=hstep k hJ0 hk
   have cNk:=cN k hJ0 hk
   have hG:out++[⟨kd k,k,to k,wh k⟩]++Q1U l (to k).toNat=Q5P l:=by
    have e:=hn.eq
    rw[←hJ2,Q1W (k:=k.toNat) (by omega),s3,s4];simp
   clear s3 s4
   generalize hp:std=p,hrs:Q0 l=rs,ho:Q1i out=o
   generalize hT:Q5 p tys (QfL kd to wh) _ _ _ _=T
   cbv at hT
   subst hT
   simp only[Tree.ok,Q1,S0]
   subst hp hrs ho
   have eq:=hq.eq
   have hxn:=QV hn
   repeat' first
    |(with_reducible refine And.intro (fun hx=>absurd hx (by first|(try simp[std,S1,hol,hxn,hk,hJ0])<;>omega|omega)) (fun _=>?_))
    |(with_reducible refine And.intro (fun _=>?_) (fun hx=>absurd hx (by first|(try simp[std,S1,hol,hxn,hk,hJ0])<;>omega|omega)))
    |(with_reducible refine And.intro (by first|(try simp[std,S1,hol,hxn,hk,hJ0])<;>omega|omega) ?_)
    |(with_reducible refine And.intro ?_ ?_)
    |(with_reducible intro hb)
   all_goals exact⟨(out++[⟨kd k,k,to k,wh k⟩],to k),⟨by simp only;omega,s2,hG,by show ((out++[_]).length:Int)≤to k;simp only[List.length_append,List.length_singleton];omega⟩,by simp only;omega,[some 0],_,rfl,by simp[Qe,lk,std,Qd9,QcY]⟩
  ·have hG:out=Q5P l:=by
    have e:=hn.eq
    rw[←hJ2,Q1q (by omega),List.append_nil]
   generalize hp:std=p,hrs:Q0 l=rs,ho:Q1i out=o
   generalize hT:Q5 p tys (QfL kd to wh) _ _ _ _=T
   cbv at hT
   subst hT
   simp only[Tree.ok,Q1,S0]
   subst hp hrs ho
   have hxn:=QV hn
   repeat' first
    |(with_reducible refine And.intro (fun hx=>absurd hx (by first|(try simp[std,S1,hxn,hk])<;>omega|omega)) (fun _=>?_))
    |(with_reducible refine And.intro (fun _=>?_) (fun hx=>absurd hx (by first|(try simp[std,S1,hxn,hk])<;>omega|omega)))
    |(with_reducible refine And.intro (by first|(try simp[std,S1,hxn,hk])<;>omega|omega) ?_)
    |(with_reducible refine And.intro ?_ ?_)
    |(with_reducible intro hb)
   all_goals
    rw[if_pos trivial]
    generalize hp:std=p,hrs:Q0 l=rs,ho:Q1i out=o
    generalize hT:Q5 p tys (QfL kd to wh) _ _ _ _=T
    cbv at hT
    subst hT
    simp only[Tree.ok,Q1,S0]
    subst hp hrs ho
    exact .pure rfl (.inl (by rw[hG]))
end Go.Proofs.YthbjpdijafccjaaGreat
