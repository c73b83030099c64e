/-
  Parts of the proof, joined: Vf. Conditions: as each theorem says.
-/
import Derived.Test.YthbjpdijafccjaaGreatQE20
import Derived.Test.YthbjpdijafccjaaGreatQE01
set_option maxRecDepth 100000
set_option maxHeartbeats 8000000
namespace Go.Proofs.YthbjpdijafccjaaGreat
open Go.RowKit Go.Lib Tryz
def Un (l:List Int):Prop:=∀ x∈l,-1≤x∧x≤1114111
theorem Un.i32 {l:List Int}(h:Un l):I32 l:=fun x hx=>by have:=h x hx;omega
theorem Un.at_ {l:List Int}(h:Un l)(i:Int)(h0:0≤i)(h1:i<l.length):-1≤l[i.toNat]?.getD 0∧l[i.toNat]?.getD 0≤1114111:=by
 rw[List.getElem?_eq_getElem (by omega)]
 exact h _ (List.getElem_mem _)
def Q4Y (l:List Int)(k:Nat):Nat×Nat×Bool:=if Q1p l (k+1) (Qg l (k+1))=true then (2,k+2+Qg l (k+1),true) else (11,k+1,false)
theorem Qce {l:List Int}{k:Nat}(h:Q3 l k [38,35,120]=true):Q3 l k [38,35]=true:=by
 unfold Q3 at h ⊢
 rw[Bool.and_eq_true,beq_iff_eq] at h
 rw[Bool.and_eq_true,beq_iff_eq]
 refine⟨by decide,?_⟩
 have h2:=congrArg (List.take 2) h.2
 rw[List.take_take] at h2
 exact h2
theorem Q6C {l:List Int}{k:Nat}{bs:List UInt8}(h:Q3 l k bs=true){i:Nat}(hi:i<bs.length):l[k+i]?=some ((bs[i].toNat:Nat):Int):=by
 unfold Q3 at h
 rw[Bool.and_eq_true,beq_iff_eq] at h
 have h2:=congrArg (fun z=>z[i]?) h.2
 simp only[List.getElem?_take,List.getElem?_drop,if_pos hi] at h2
 rw[h2,bi,List.getElem?_map,List.getElem?_eq_getElem hi];rfl
theorem QlM {l:List Int}{k:Nat}(h:Q3 l k [38,35]=false):Q1h l k=Q4Y l k:=by
 have h2:Q3 l k [38,35,120]=false:=by
  cases h3:Q3 l k [38,35,120] with
  |false=>rfl
  |true=>rw[Qce h3] at h;cases h
 rw[Q1h,h,h2];rfl
theorem Qmj {l:List Int}{k:Nat}(h:Q3 l k [38,35,120]=true):Q1h l k=if Q1p l (k+3) (Q5E l k)=true then (3,k+4+Q5E l k,true) else Q4Y l k:=by
 have h3:l[k+2]?=some 120:=Q6C h (i:=2) (by decide)
 have hd:Q53 l k=0:=by
  obtain⟨hl,e⟩:=List.getElem?_eq_some_iff.1 h3
  rw[Q53,List.drop_eq_getElem_cons hl,e];rfl
 rw[Q1h,h,hd]
 cases Q1p l (k+3) (Q5E l k) with
 |true=>rfl
 |false =>
  rw[show Q1p l (k+2) 0=false from rfl]
  simp only[Bool.and_false,Bool.false_eq_true,if_false]
  rfl
theorem QmX {l:List Int}{k:Nat}(h1:Q3 l k [38,35]=true)(h2:Q3 l k [38,35,120]=false):Q1h l k=if Q1p l (k+2) (Q53 l k)=true then (3,k+3+Q53 l k,true) else Q4Y l k:=by
 rw[Q1h,h1,h2]
 cases Q1p l (k+2) (Q53 l k)<;>rfl
theorem QS {l:List Int}{p:Nat}{m:Nat}:Q1p l p m=true↔0<m∧p+m<l.length∧l[p+m]?.getD 0=59:=by
 unfold Q1p
 rw[Bool.and_eq_true,decide_eq_true_eq,beq_iff_eq]
 constructor
 ·rintro⟨h1,h2⟩
  have h3:=List.getElem?_eq_some_iff.1 h2
  exact⟨h1,h3.1,by rw[h2];rfl⟩
 ·rintro⟨h1,h2,h3⟩
  rw[List.getElem?_eq_getElem h2] at h3 ⊢
  exact⟨h1,congrArg some h3⟩
def Qby (base:Int)(r:Int):Bool:=decide (0≤Q1m r base)
theorem Qb3 (r:Int):Q62 r=true↔48≤r∧r≤57:=by
 unfold Q62 Q57
 split
 ·simp only[Bool.false_eq_true,false_iff];omega
 ·simp only[true_iff];omega
theorem QgT (r:Int):Q6U r=true↔(97≤r∧r≤102)∨(65≤r∧r≤70)∨(48≤r∧r≤57):=by
 unfold Q6U Q8X
 split
 ·simp only[true_iff];omega
 ·split
  ·simp only[true_iff];omega
  ·have:=Qb3 r
   unfold Q62 at this
   rw[this];omega
theorem QeW (r:Int):Qiz (isF r 48 57) (isF r 97 102) (isF r 65 70) r=if 65≤r∧r≤70 then r-55 else if 97≤r∧r≤102 then r-87 else if 48≤r∧r≤57 then r-48 else -1:=by
 unfold Qiz
 simp only[Qi8]
theorem Qkb (r:Int):Qby 10 r=Q62 r:=by
 rw[Bool.eq_iff_iff,Qb3,Qby,decide_eq_true_eq,Q1m,QeW]
 generalize hv:(if 65≤r∧r≤70 then r-55 else if 97≤r∧r≤102 then r-87 else if 48≤r∧r≤57 then r-48 else -1)=v
 split at hv
 ·split<;>omega
 ·split at hv
  ·split<;>omega
  ·split at hv<;>(split<;>omega)
theorem QjE (r:Int):Qby 16 r=Q6U r:=by
 rw[Bool.eq_iff_iff,QgT,Qby,decide_eq_true_eq,Q1m,QeW]
 generalize hv:(if 65≤r∧r≤70 then r-55 else if 97≤r∧r≤102 then r-87 else if 48≤r∧r≤57 then r-48 else -1)=v
 split at hv
 ·split<;>omega
 ·split at hv
  ·split<;>omega
  ·split at hv<;>(split<;>omega)
def Q23 (l:List Int)(base a:Int):Nat:=((l.drop a.toNat).takeWhile (Qby base)).length
theorem Q6p {l:List Int}{base i:Int}(h0:0≤i)(h1:i<l.length)(h:0≤Q1m (l[i.toNat]?.getD 0) base):Q23 l base i=Q23 l base (i+1)+1:=by
 obtain⟨hl,e⟩:=Q56 h0 h1
 rw[e] at h
 rw[Q23,Q23,List.drop_eq_getElem_cons hl,List.takeWhile_cons,if_pos (by rw[Qby];exact decide_eq_true h),List.length_cons,show (i+1).toNat=i.toNat+1 by omega]
theorem Q3h {l:List Int}{base i:Int}(h0:0≤i)(h:i<l.length→¬ 0≤Q1m (l[i.toNat]?.getD 0) base):Q23 l base i=0:=by
 by_cases h1:i<l.length
 ·obtain⟨hl,e⟩:=Q56 h0 h1
  have h:=h h1
  rw[e] at h
  rw[Q23,List.drop_eq_getElem_cons hl,List.takeWhile_cons,if_neg (by rw[Qby];simpa using h)];rfl
 ·rw[Q23,List.drop_of_length_le (by omega)];rfl
theorem Ql2 (l:List Int)(k:Nat):Q23 l 10 ((k:Int)+2)=Q53 l k:=by
 rw[Q23,Q53,show ((k:Int)+2).toNat=k+2 by omega,show Qby 10=Q62 from funext Qkb]
theorem Qko (l:List Int)(k:Nat):Q23 l 16 ((k:Int)+3)=Q5E l k:=by
 rw[Q23,Q5E,show ((k:Int)+3).toNat=k+3 by omega,show Qby 16=Q6U from funext QjE]
theorem Q8J {l:List Int}{k:Nat}(h1:Q3 l k [38,35]=true)(base a:Int)(hb:(Q3 l k [38,35,120]=true∧base=16∧a=(k:Int)+3)∨(Q3 l k [38,35,120]=false∧base=10∧a=(k:Int)+2)) :
  Q1h l k=if Q1p l a.toNat (Q23 l base a)=true then (3,a.toNat+Q23 l base a+1,true) else Q4Y l k:=by
 rcases hb with ⟨h2,rfl,rfl⟩|⟨h2,rfl,rfl⟩
 ·rw[Qmj h2,Qko,show ((k:Int)+3).toNat=k+3 by omega,show k+3+Q5E l k+1=k+4+Q5E l k by omega]
 ·rw[QmX h1 h2,Ql2,show ((k:Int)+2).toNat=k+2 by omega,show k+2+Q53 l k+1=k+3+Q53 l k by omega]
def Q35 (s1 s2:Bool)(dg:Int→Int→Int)(m:Int):Nat→List AV→List Ob→Option (AV×List Ob):=fun f args _=>match f,args with
 |1000011,_=>some (.val (.bool s1),[])
 |1000016,_=>some (.val (.bool s2),[])
 |115,[.val (.int .i32 r),.val (.int .i64 b)]=>some (.val (.int .i64 (dg r b)),[])
 |116,[.slc 1 _,.val (.int .i64 _)]=>some (.val (.int .i64 m),[])
 |_,_=>none
theorem Q3H {l:List Int}{k m:Int}(h0:0≤k)(hm:m=(Qg l (k.toNat+1):Nat))(h1:0<m)(h2:k+1+m<l.length)(h3:l[(k+1+m).toNat]?.getD 0=59):Q4Y l k.toNat=(2,(k+m+2).toNat,true):=by
 rw[Q4Y,if_pos (QS.2 ⟨by omega,by omega,by rw[←h3];congr 2;omega⟩)]
 congr 2
 omega
theorem Q2k {l:List Int}{k m:Int}(h0:0≤k)(hm:m=(Qg l (k.toNat+1):Nat))(h:¬ (0<m∧k+1+m<l.length∧l[(k+1+m).toNat]?.getD 0=59)):Q4Y l k.toNat=(11,(k+1).toNat,false):=by
 rw[Q4Y,if_neg (fun he=>h ?_),show (k+1).toNat=k.toNat+1 by omega]
 obtain⟨e1,e2,e3⟩:=QS.1 he
 exact⟨by omega,by omega,by rw[←e3];congr 2;omega⟩
theorem QjU (l:List Int)(hl:l.length≤1000000000)(hu:Un l)(k:Int)(h0:0≤k)(h1:k<l.length)(hs1:Q3 l k.toNat [38,35]=false):BCall prog 91 [.slc 1 (Q0 l),.val (.int .i64 k)] [] (Q1t ((Q1h l k.toNat).1:Nat) k ((Q1h l k.toNat).2.1:Nat) (Q1h l k.toNat).2.2) []:=by
 have c1:BCall prog 85 [.slc 1 (Q0 l),.val (.int .i64 k),.val (.string ⟨#[38,35]⟩)] [] (.val (.bool (Q3 l k.toNat [38,35]))) []:=Qa l hl hu.i32 k h0 (by omega) ⟨#[38,35]⟩ (by decide)
 have c2:BCall prog 85 [.slc 1 (Q0 l),.val (.int .i64 k),.val (.string ⟨#[38,35,120]⟩)] [] (.val (.bool (Q3 l k.toNat [38,35,120]))) []:=Qa l hl hu.i32 k h0 (by omega) ⟨#[38,35,120]⟩ (by decide)
 have cL:=Q1a l hl (k+1) (by omega) (by omega)
 rw[show (k+1).toNat=k.toNat+1 by omega] at cL
 have hle:Qg l (k.toNat+1)≤l.length:=by
  unfold Qg
  split
  ·omega
  ·split
   ·have:=(List.takeWhile_sublist Qs (l:=l.drop (k.toNat+1))).length_le
    rw[List.length_drop] at this
    omega
   ·omega
 obtain⟨n,hn⟩:=Qy l
 have hxl:=Qi l
 have hkn:k<n:=by have:=hn.eq;omega
 have hn9:n≤1000000000:=by have:=hn.eq;omega
 obtain⟨m,hm9⟩:=exq ((Qg l (k.toNat+1):Nat):Int)
 have hm0:0≤m:=by omega
 have hmn:m≤n:=by have:=hn.eq;omega
 rw[←hm9] at cL
 have hD:∀ i:Int,0≤i→i<n→∀ base,BCall prog 115 [.val (.int .i32 (l[i.toNat]?.getD 0)),.val (.int .i64 base)] [] (.val (.int .i64 (Q1m (l[i.toNat]?.getD 0) base))) []:=fun i i0 i1 base=>Q4J _ base (hu.at_ i i0 (by have:=hn.eq;omega))
 obtain⟨kd,hkd⟩:=exq (((Q1h l k.toNat).1:Nat):Int)
 obtain⟨tt,htt⟩:=exq (((Q1h l k.toNat).2.1:Nat):Int)
 obtain⟨ww,hww⟩:=exq ((Q1h l k.toNat).2.2:Bool)
 rw[←hkd,←htt,←hww,Q1t]
 clear hle
 have hT9:=QlM hs1
 rw[hs1] at c1
 clear hs1 c2 hD
 by_cases h1m:0<m
 ·by_cases h2m:k+1+m<n
  ·have h2l:k+1+m<l.length:=by have:=hn.eq;omega
   have am:=Qv (l:=l) (i:=k+1+m) (by omega) h2l
   by_cases h59:l[(k+1+m).toNat]?.getD 0=59
   ·have h9:=h2l
    have hT:=Q3H h0 hm9 h1m h2l h59
    rw[hT9,hT] at hkd htt hww
    have hkd:kd=2:=hkd
    have htt:tt=k+m+2:=by rw[htt];show (((k+m+2).toNat:Nat):Int)=_;omega
    have hww:ww=true:=hww
    clear hT hT9 hm9
    refine fnN (cs:=Q35 false false Q1m m) func91 rfl (by kernel_rfl) ?_
    intro w0 g0
    generalize hp:std=p,hrx:Q0 l=rx,hdg:Q1m=dg
    generalize hT:Q5 p tys (Q35 false false dg m) _ _ _ _=T
    cbv at hT
    subst hT
    simp only[Tree.ok,Q1,S0]
    subst hp hrx hdg
    have hxn:=QV hn
    repeat' first
     |(with_reducible refine And.intro (fun hx=>absurd hx (by first|(try simp[std,S1,hxn,h1m,h2m,am,h59,h0,hkn])<;>omega|omega)) (fun _=>?_))
     |(with_reducible refine And.intro (fun _=>?_) (fun hx=>absurd hx (by first|(try simp[std,S1,hxn,h1m,h2m,am,h59,h0,hkn])<;>omega|omega)))
     |(with_reducible refine And.intro (by first|(try simp[std,S1,hxn,h1m,h2m,am,h59,h0,hkn])<;>omega|omega) ?_)
     |(with_reducible refine And.intro ?_ ?_)
     |(with_reducible intro hb)
    all_goals exact .pure rfl ⟨.inl (by rw[hkd]),.inl rfl,.inl (by first|(rw[htt];done)|(rw[htt];rfl)),.inl (by rw[hww]),trivial⟩
   ·have h9:=h2l
    have hT:=Q2k h0 hm9 (fun h=>h59 h.2.2)
    rw[hT9,hT] at hkd htt hww
    have hkd:kd=11:=hkd
    have htt:tt=k+1:=by rw[htt];show (((k+1).toNat:Nat):Int)=_;omega
    have hww:ww=false:=hww
    clear hT hT9 hm9
    refine fnN (cs:=Q35 false false Q1m m) func91 rfl (by kernel_rfl) ?_
    intro w0 g0
    generalize hp:std=p,hrx:Q0 l=rx,hdg:Q1m=dg
    generalize hT:Q5 p tys (Q35 false false dg m) _ _ _ _=T
    cbv at hT
    subst hT
    simp only[Tree.ok,Q1,S0]
    subst hp hrx hdg
    have hxn:=QV hn
    repeat' first
     |(with_reducible refine And.intro (fun hx=>absurd hx (by first|(try simp[std,S1,hxn,h1m,h2m,am,h59,h0,hkn])<;>omega|omega)) (fun _=>?_))
     |(with_reducible refine And.intro (fun _=>?_) (fun hx=>absurd hx (by first|(try simp[std,S1,hxn,h1m,h2m,am,h59,h0,hkn])<;>omega|omega)))
     |(with_reducible refine And.intro (by first|(try simp[std,S1,hxn,h1m,h2m,am,h59,h0,hkn])<;>omega|omega) ?_)
     |(with_reducible refine And.intro ?_ ?_)
     |(with_reducible intro hb)
    all_goals exact .pure rfl ⟨.inl (by rw[hkd]),.inl rfl,.inl (by first|(rw[htt];done)|(rw[htt];rfl)),.inl (by rw[hww]),trivial⟩
  ·have h9:=h1m
   have hT:=Q2k h0 hm9 (fun h=>h2m (by have:=hn.eq;have:=h.2.1;omega))
   rw[hT9,hT] at hkd htt hww
   have hkd:kd=11:=hkd
   have htt:tt=k+1:=by rw[htt];show (((k+1).toNat:Nat):Int)=_;omega
   have hww:ww=false:=hww
   clear hT hT9 hm9
   refine fnN (cs:=Q35 false false Q1m m) func91 rfl (by kernel_rfl) ?_
   intro w0 g0
   generalize hp:std=p,hrx:Q0 l=rx,hdg:Q1m=dg
   generalize hT:Q5 p tys (Q35 false false dg m) _ _ _ _=T
   cbv at hT
   subst hT
   simp only[Tree.ok,Q1,S0]
   subst hp hrx hdg
   have hxn:=QV hn
   repeat' first
    |(with_reducible refine And.intro (fun hx=>absurd hx (by first|(try simp[std,S1,hxn,h1m,h2m,h0,hkn])<;>omega|omega)) (fun _=>?_))
    |(with_reducible refine And.intro (fun _=>?_) (fun hx=>absurd hx (by first|(try simp[std,S1,hxn,h1m,h2m,h0,hkn])<;>omega|omega)))
    |(with_reducible refine And.intro (by first|(try simp[std,S1,hxn,h1m,h2m,h0,hkn])<;>omega|omega) ?_)
    |(with_reducible refine And.intro ?_ ?_)
    |(with_reducible intro hb)
   all_goals exact .pure rfl ⟨.inl (by rw[hkd]),.inl rfl,.inl (by first|(rw[htt];done)|(rw[htt];rfl)),.inl (by rw[hww]),trivial⟩
 ·have h9:=h0
  have hT:=Q2k h0 hm9 (fun h=>h1m h.1)
  rw[hT9,hT] at hkd htt hww
  have hkd:kd=11:=hkd
  have htt:tt=k+1:=by rw[htt];show (((k+1).toNat:Nat):Int)=_;omega
  have hww:ww=false:=hww
  clear hT hT9 hm9
  refine fnN (cs:=Q35 false false Q1m m) func91 rfl (by kernel_rfl) ?_
  intro w0 g0
  generalize hp:std=p,hrx:Q0 l=rx,hdg:Q1m=dg
  generalize hT:Q5 p tys (Q35 false false dg m) _ _ _ _=T
  cbv at hT
  subst hT
  simp only[Tree.ok,Q1,S0]
  subst hp hrx hdg
  have hxn:=QV hn
  repeat' first
   |(with_reducible refine And.intro (fun hx=>absurd hx (by first|(try simp[std,S1,hxn,h1m,h0,hkn])<;>omega|omega)) (fun _=>?_))
   |(with_reducible refine And.intro (fun _=>?_) (fun hx=>absurd hx (by first|(try simp[std,S1,hxn,h1m,h0,hkn])<;>omega|omega)))
   |(with_reducible refine And.intro (by first|(try simp[std,S1,hxn,h1m,h0,hkn])<;>omega|omega) ?_)
   |(with_reducible refine And.intro ?_ ?_)
   |(with_reducible intro hb)
  all_goals exact .pure rfl ⟨.inl (by rw[hkd]),.inl rfl,.inl (by first|(rw[htt];done)|(rw[htt];rfl)),.inl (by rw[hww]),trivial⟩
end Go.Proofs.YthbjpdijafccjaaGreat
