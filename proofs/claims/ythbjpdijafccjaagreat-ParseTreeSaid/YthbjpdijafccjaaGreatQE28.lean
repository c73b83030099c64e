/-
  Parts of the proof, joined: Wa Wb. Conditions: as each theorem says.
-/
import Derived.Test.YthbjpdijafccjaaGreatQE27
import Derived.Test.YthbjpdijafccjaaGreatQE08
set_option maxRecDepth 100000
set_option maxHeartbeats 8000000
namespace Go.Proofs.YthbjpdijafccjaaGreat
open Go.RowKit Go.Lib Tryz
theorem Q8Q {l:List Int}{to i:Int}(h0:0≤i)(h1:i<to):(l.take to.toNat)[i.toNat]?.getD 0=l[i.toNat]?.getD 0:=by
 rw[List.getElem?_take,if_pos (by omega)]
theorem Q1w (l:List Int)(hl:l.length≤1000000000)(k to:Int)(h0:0≤k)(h1:k<to)(h2:to≤l.length):BCall prog 118 [.slc 1 (Q0 l),.val (.int .i64 k),.val (.int .i64 to)] [] (.val (.int .i64 (Qx (l.take to.toNat) k))) []:=by
 obtain⟨n,hn⟩:=Qy l
 obtain⟨R,hR⟩:=exq (Qx (l.take to.toNat) k:Int)
 rw[←hR]
 have hxl:=Qi l
 obtain⟨L,hL⟩:=exq (l.take to.toNat)
 have hLl:(L.length:Int)=to:=by rw[hL,List.length_take];omega
 have hLa:∀ i:Int,0≤i→i<to→rAt L i=l[i.toNat]?.getD 0:=fun i i0 i1=>by rw[hL];exact Q8Q i0 i1
 obtain⟨q,hq⟩:=exq (rAt L k)
 have hk:Q12 L k.toNat=Q2i L q (k+1).toNat:=by
  rw[Q12,List.getD_eq_getElem?_getD,hq,rAt,show (k+1).toNat=k.toNat+1 by omega]
 rw[←hL,Qx,hk] at hR
 have hqk:q=l[k.toNat]?.getD 0:=by rw[hq];exact hLa k h0 h1
 have ak:=Qv (l:=l) h0 (by omega)
 have htn:to≤n:=by have:=hn.eq;omega
 have hn9:n≤1000000000:=by have:=hn.eq;omega
 obtain⟨tl,htl⟩:∃ tl:Int,Len L tl:=Qy L
 have htt:tl=to:=by rw[htl.eq,hLl]
 clear hk hq hL hLl h2
 refine fnN (cs:=cs0) func118 rfl (by kernel_rfl) ?_
 intro w0 g0
 generalize hp:std=p,hrx:Q0 l=rx
 generalize hT:Q5 p tys (cs0) _ _ _ _=T
 cbv at hT
 subst hT
 simp only[Tree.ok,Q1,S0]
 subst hp hrx
 have hxn:=QV hn
 repeat' first
  |(with_reducible refine And.intro (fun hx=>absurd hx (by first|(try simp[std,S1,hxn,h1,htn])<;>omega|omega)) (fun _=>?_))
  |(with_reducible refine And.intro (fun _=>?_) (fun hx=>absurd hx (by first|(try simp[std,S1,hxn,h1,htn])<;>omega|omega)))
  |(with_reducible refine And.intro (by first|(try simp[std,S1,hxn,h1,htn])<;>omega|omega) ?_)
  |(with_reducible refine And.intro ?_ ?_)
  |(with_reducible intro hb)
 refine Q1r (cs:=cs0) (by kernel_rfl) (X:=Int) (fun i=>⟨[(0,.slc 1 (Q0 l)),(1,.val (.int .i64 k)),(2,.val (.int .i64 to)),(7,.val (.int .i64 i))],[]⟩) (fun i=>k+1≤i∧i≤to∧Q2i L q i.toNat=Q2i L q (k+1).toNat) (fun i=>(to-i).toNat) (k+1) ?_ ?_ ?_
 ·exact⟨Int.le_refl _,by omega,rfl⟩
 ·refine⟨[],_,rfl,?_⟩
  repeat first
   |exact trivial
   |refine⟨rfl,?_⟩
 ·rintro i ⟨hi0,hin,hi⟩
  have hi0:k+1≤i:=hi0
  have hin:i≤to:=hin
  have hi:Q2i L q i.toNat=Q2i L q (k+1).toNat:=hi
  rcases Int.lt_or_eq_of_le hin with hlt|heq
  ·have ai:=Qv (l:=l) (i:=i) (by omega) (by have:=hn.eq;omega)
   have hst:=Qf4 (l:=L) (q:=q) (i:=i) (by omega) (by have:=htl.eq;omega)
   rw[hi,hLa i (by omega) hlt] at hst
   clear hxn hi
   generalize hp:std=p,hrx:Q0 l=rx
   generalize hT:Q5 p tys (cs0) _ _ _ _=T
   cbv at hT
   subst hT
   simp only[Tree.ok,Q1,S0]
   subst hp hrx
   have hxn:=QV hn
   repeat' first
    |(with_reducible refine And.intro (fun hx=>absurd hx (by first|(try simp[std,S1,ai,ak,hxn,hlt,hi0,htn])<;>omega|omega)) (fun _=>?_))
    |(with_reducible refine And.intro (fun _=>?_) (fun hx=>absurd hx (by first|(try simp[std,S1,ai,ak,hxn,hlt,hi0,htn])<;>omega|omega)))
    |(with_reducible refine And.intro (by first|(try simp[std,S1,ai,ak,hxn,hlt,hi0,htn])<;>omega|omega) ?_)
    |(with_reducible refine And.intro ?_ ?_)
    |(with_reducible intro hb)
   ·have hb2:l[i.toNat]?.getD 0=q:=by rw[hqk];simpa[std,ai,ak,AV.cells,intOf] using hb
    have hR2:R=i+1:=by rw[hR,hst,if_pos hb2,if_pos rfl];show (((i+1).toNat:Nat):Int)=_;omega
    generalize hp:std=p,hrx:Q0 l=rx
    generalize hT:Q4N p tys _ _ _ _=T
    cbv at hT
    subst hT
    simp only[Tree.ok,Q1,S0]
    subst hp hrx
    refine .pure rfl (.inl ?_)
    rw[hR2];rfl
   ·have hb2:¬ l[i.toNat]?.getD 0=q:=by rw[hqk];simpa[std,ai,ak,AV.cells,intOf] using hb
    rw[if_neg hb2] at hst
    refine⟨i+1,⟨by omega,by omega,hst.symm⟩,by omega,[],_,rfl,?_⟩
    repeat first
     |exact trivial
     |refine⟨rfl,?_⟩
  ·have hq2:Q2i L q i.toNat=(L.length,false):=by rw[Q2i,dif_neg (by have:=htl.eq;omega)]
   have hR2:R=-1:=by rw[hR,←hi,hq2];rfl
   rw[heq]
   clear hxn hi hq2
   generalize hp:std=p,hrx:Q0 l=rx
   generalize hT:Q5 p tys (cs0) _ _ _ _=T
   cbv at hT
   subst hT
   simp only[Tree.ok,Q1,S0]
   subst hp hrx
   have hxn:=QV hn
   repeat' first
    |(with_reducible refine And.intro (fun hx=>absurd hx (by first|(try simp[std,S1,hxn])<;>omega|omega)) (fun _=>?_))
    |(with_reducible refine And.intro (fun _=>?_) (fun hx=>absurd hx (by first|(try simp[std,S1,hxn])<;>omega|omega)))
    |(with_reducible refine And.intro (by first|(try simp[std,S1,hxn])<;>omega|omega) ?_)
    |(with_reducible refine And.intro ?_ ?_)
    |(with_reducible intro hb)
   ·rw[if_pos trivial]
    generalize hp:std=p,hrx:Q0 l=rx
    generalize hT:Q5 p tys _ _ _ _ _=T
    cbv at hT
    subst hT
    simp only[Tree.ok,Q1,S0]
    subst hp hrx
    refine .pure rfl (.inl ?_)
    rw[hR2]
end Go.Proofs.YthbjpdijafccjaaGreat
namespace Go.Proofs.YthbjpdijafccjaaGreat
open Go.RowKit Go.Lib
def QB (l:List Int)(k to:Int):List Int:=(l.take to.toNat).drop k.toNat
theorem Q1b (L:List Int)(k:Nat)(bs:List UInt8):Q3 (L.drop k) 0 bs=Q3 L k bs:=by
 unfold Q3;rw[List.drop_zero]
theorem Qh1 (L:List Int)(k:Nat):Qg (L.drop k) 0=Qg L k:=by
 unfold Qg
 rw[List.getElem?_drop,Nat.add_zero,List.drop_zero]
theorem QhK (p:Int→Bool)(r:List Int):Q2Q p r 0=(r.takeWhile p).length:=by
 rw[Q2Q,if_neg (by omega)];rfl
theorem Qcn (L:List Int)(q:Int):∀ (n k:Nat),L.length-k≤n→Q2i L q k=match (L.drop k).findIdx? (· == q) with
  |some j=>(k+j+1,true)
  |none=>(L.length,false)
 |0,k,h=>by
  rw[Q3B L q k (by omega),List.drop_of_length_le (by omega)];rfl
 |n+1,k,h=>by
  by_cases hk:k<L.length
  ·rw[List.drop_eq_getElem_cons hk,List.findIdx?_cons]
   by_cases hq:L[k]=q
   ·rw[Q5V L q k hk hq,if_pos (by simpa using hq)]
   ·rw[Q5f L q k hk hq,if_neg (by simpa using hq),Qcn L q n (k+1) (by omega)]
    cases (L.drop (k+1)).findIdx? (· == q) with
    |none=>rfl
    |some j=>simp only[Option.map_some];congr 1;omega
  ·rw[Q3B L q k hk,List.drop_of_length_le (by omega)];rfl
structure Rng (l:List Int) (k to:Int):Prop where
 h0:0≤k
 h1:k<to
 h2:to≤l.length
section
variable {l:List Int} {k to:Int}
theorem Rng.len (h:Rng l k to):((QB l k to).length:Int)=to-k:=by
 have:=h.h0;have:=h.h1;have:=h.h2
 rw[QB,List.length_drop,List.length_take];omega
theorem Rng.ne (h:Rng l k to):QB l k to≠[]:=fun e=>by
 have h1:=h.len
 have:=h.h1
 rw[e] at h1
 simp at h1
 omega
theorem Rng.at_ (h:Rng l k to){i:Int}(i0:0≤i)(i1:k+i<to):(QB l k to).getD i.toNat 0=l[(k+i).toNat]?.getD 0:=by
 have:=h.h0
 rw[QB,List.getD_eq_getElem?_getD,List.getElem?_drop,List.getElem?_take,if_pos (by omega)]
 congr 2
 omega
theorem Rng.head (h:Rng l k to):(QB l k to).getD 0 0=l[k.toNat]?.getD 0:=by
 have:=h.at_ (i:=0) (Int.le_refl _) (by have:=h.h1;omega)
 rw[Int.add_zero] at this
 exact this
theorem Rng.val (h:Rng l k to)(hq:l[k.toNat]?.getD 0=34∨l[k.toNat]?.getD 0=39):(0<Q1v (QB l k to)∧Qx (l.take to.toNat) k=k+Q1v (QB l k to))∨(Q1v (QB l k to)=0∧Qx (l.take to.toNat) k=-1):=by
 have h0:=h.h0
 have h1:=h.h1
 have hqd:Q12 (l.take to.toNat) k.toNat=Q2i (l.take to.toNat) (l[k.toNat]?.getD 0) (k.toNat+1):=by
  rw[Q12,List.getD_eq_getElem?_getD,Q8Q h0 h1]
 have hd:(QB l k to).drop 1=(l.take to.toNat).drop (k.toNat+1):=by rw[QB,List.drop_drop]
 rw[Qx,hqd,Qcn _ _ _ _ (Nat.le_refl _)]
 unfold Q1v
 rw[h.head,if_pos hq,hd]
 cases ((l.take to.toNat).drop (k.toNat+1)).findIdx? (· == l[k.toNat]?.getD 0) with
 |none=>exact .inr ⟨rfl,rfl⟩
 |some j =>
  refine .inl ⟨by show (0:Int)<(j:Int)+2;omega,?_⟩
  show ((k.toNat+1+j+1:Nat):Int)=k+((j:Int)+2)
  omega
theorem Rng.noval (h:Rng l k to)(hq:¬ (l[k.toNat]?.getD 0=34∨l[k.toNat]?.getD 0=39)):Q1v (QB l k to)=0:=by
 unfold Q1v
 rw[h.head,if_neg hq]
def Q68 (l:List Int)(k to:Int):Prop:=(k+1=to∧l[k.toNat]?.getD 0=62)∨(k+2=to∧l[k.toNat]?.getD 0=47∧l[(k+1).toNat]?.getD 0=62)
theorem Rng.ends (h:Rng l k to):((((QB l k to).length:Int)=2∧Q3 (QB l k to) 0 [47,62]=true)∨(((QB l k to).length:Int)=1∧(QB l k to).getD 0 0=62))↔Q68 l k to:=by
 have hl:=h.len
 unfold Q68
 rw[h.head]
 constructor
 ·rintro (⟨e1,e2⟩|⟨e1,e2⟩)
  ·have a0:=Q6C e2 (i:=0) (by decide)
   have a1:=Q6C e2 (i:=1) (by decide)
   have b0:=h.head
   have b1:=h.at_ (i:=1) (by decide) (by omega)
   rw[List.getD_eq_getElem?_getD] at b0 b1
   have a0:(QB l k to)[0]?=some 47:=a0
   have a1:(QB l k to)[1]?=some 62:=a1
   rw[a0] at b0
   rw[show (1:Int).toNat=1 from rfl,a1] at b1
   exact .inr ⟨by omega,b0.symm,b1.symm⟩
  ·exact .inl ⟨by omega,e2⟩
 ·rintro (⟨e1,e2⟩|⟨e1,e2,e3⟩)
  ·exact .inr ⟨by omega,e2⟩
  ·refine .inl ⟨by omega,?_⟩
   have b0:=h.head
   have b1:=h.at_ (i:=1) (by decide) (by omega)
   rw[e2] at b0
   rw[e3] at b1
   generalize QB l k to=r at *
   match r,hl with
   | [x,y],_ =>
    have b0:x=47:=b0
    have b1:y=62:=b1
    subst b0 b1
    rfl
   | [],hl=>simp at hl;omega
   | [_],hl=>simp at hl;omega
   |_::_::_::_,hl=>simp at hl;omega
end
def QZ (l:List Int)(f k to:Int):Int×Int:=Qp (QB l k to) (decide (k=f))
end Go.Proofs.YthbjpdijafccjaaGreat
