/-
  Parts of the proof, joined: Ve. Conditions: as each theorem says.
-/
import Derived.Test.YthbjpdijafccjaaGreatQE17
import Derived.Test.YthbjpdijafccjaaGreatQE01
set_option maxRecDepth 100000
set_option maxHeartbeats 8000000
namespace Go.Proofs.YthbjpdijafccjaaGreat
open Go.RowKit Go.Lib Tryz
theorem Qi0 (l:List Int):∀ (n k:Nat),l.length-k≤n→(QJ l false k).2=false→(QJ l false k).1=l.length:=by
 intro n
 induction n with
 |zero=>intro k h _;rw[Q2b l false k (by omega)]
 |succ n ih =>
  intro k h h2
  by_cases hk:k<l.length
  ·cases hq:Q3a l[k] with
   |true =>
    rw[Q4w l false k hk hq] at h2 ⊢
    have:=Q2w l k hk
    exact ih _ (by omega) h2
   |false =>
    by_cases h62:l[k]=62
    ·rw[Q5h l false k hk h62] at h2;cases h2
    ·have h60:¬ (l[k]=60∧false=true):=fun h=>by cases h.2
     rw[Q44 l false k hk hq h62 h60] at h2 ⊢
     exact ih _ (by omega) h2
  ·rw[Q2b l false k hk]
def QY (l:List Int)(k:Int):Int:=if (Q3i l k.toNat).2=true then ((Q3i l k.toNat).1:Nat) else -1
def Q7G (s1 s2 w1 w2:Bool)(t1 t2 k F:Int):Nat→List AV→List Ob→Option (AV×List Ob):=fun f args _=>match f,args with
 |1000010,_=>some (.val (.bool s1),[])
 |1000021,_=>some (.val (.bool s2),[])
 |1000013,_=>some (Q1t 4 k t1 w1,[])
 |1000024,_=>some (Q1t 5 k t2 w2,[])
 |114,[.slc 1 _,.val (.int .i64 _),.val (.int .i32 _),.val (.int .i32 _)]=>some (.val (.int .i64 F),[])
 |_,_=>none
theorem QfK (l:List Int)(hl:l.length≤1000000000)(hi32:I32 l)(k:Int)(h0:0≤k)(h1:k<l.length):BCall prog 110 [.slc 1 (Q0 l),.val (.int .i64 k)] [] (.val (.int .i64 (QY l k))) []:=by
 have c1:BCall prog 85 [.slc 1 (Q0 l),.val (.int .i64 k),.val (.string ⟨#[60,33,45,45]⟩)] [] (.val (.bool (Q3 l k.toNat [60,33,45,45]))) []:=Qa l hl hi32 k h0 (by omega) ⟨#[60,33,45,45]⟩ (by decide)
 have c2:BCall prog 85 [.slc 1 (Q0 l),.val (.int .i64 k),.val (.string ⟨#[60,63]⟩)] [] (.val (.bool (Q3 l k.toNat [60,63]))) []:=Qa l hl hi32 k h0 (by omega) ⟨#[60,63]⟩ (by decide)
 have ak:=Qv (l:=l) (i:=k) h0 h1
 have hkk:((k.toNat:Nat):Int)=k:=Int.toNat_of_nonneg h0
 obtain⟨n,hn⟩:=Qy l
 have hxl:=Qi l
 have hkn:k<n:=by have:=hn.eq;omega
 have hn9:n≤1000000000:=by have:=hn.eq;omega
 obtain⟨R,hR⟩:=exq (QY l k:Int)
 rw[←hR]
 rw[QY,Q3i] at hR
 cases hs1:Q3 l k.toNat [60,33,45,45] with
 |true =>
  have hfit:=QX l k.toNat _ (by omega) hs1
  simp only[List.length_cons,List.length_nil] at hfit
  have cT:BCall prog 86 [.slc 1 (Q0 l),.val (.int .i64 4),.val (.int .i64 k),.val (.int .i64 4),.val (.string ⟨#[45,45,62]⟩)] [] (Q1t 4 k (Q3l l (k+4) [45,45,62]) (Q3j l (k+4) [45,45,62])) []:=Q7Q l hl hi32 4 k 4 h0 (by decide) (by omega) ⟨#[45,45,62]⟩ (by decide)
  obtain⟨_,u2,u3⟩:=Q5c l 4 k.toNat 4 [45,45,62] (by omega)
  rw[hkk] at u2 u3
  have u2:((Q17 l 4 k.toNat 4 [45,45,62]).2.1:Int)=Q3l l (k+4) [45,45,62]:=u2
  have u3:(Q17 l 4 k.toNat 4 [45,45,62]).2.2=Q3j l (k+4) [45,45,62]:=u3
  rw[if_pos hs1] at hR
  simp only[u2,u3] at hR
  rw[hs1] at c1
  generalize Q3l l (k+4) [45,45,62]=t1 at cT hR
  generalize Q3j l (k+4) [45,45,62]=w1 at cT hR
  rw[Q1t] at cT
  clear u2 u3 hs1 hfit c2 hkk
  cases w1 with
  |true =>
   have hR:R=t1:=hR
   refine fnN (cs:=Q7G true true true true t1 0 k 0) func110 rfl (by kernel_rfl) ?_
   intro w0 g0
   generalize hp:std=p,hrx:Q0 l=rx
   generalize hT:Q5 p tys (Q7G true true true true t1 0 k 0) _ _ _ _=T
   cbv at hT
   subst hT
   simp only[Tree.ok,Q1,S0]
   subst hp hrx
   repeat' first
    |(with_reducible apply And.intro)
    |exact fun h=>absurd (show false=true from h) (by decide)
    |exact fun h=>absurd (show true=false from h) (by decide)
    |(intro _)
   all_goals first
    |exact c1
    |exact c2
    |exact cT
    |exact .pure rfl (.inl (by rw[hR]))
  |false =>
   have hR:R=-1:=hR
   refine fnN (cs:=Q7G true true false true t1 0 k 0) func110 rfl (by kernel_rfl) ?_
   intro w0 g0
   generalize hp:std=p,hrx:Q0 l=rx
   generalize hT:Q5 p tys (Q7G true true false true t1 0 k 0) _ _ _ _=T
   cbv at hT
   subst hT
   simp only[Tree.ok,Q1,S0]
   subst hp hrx
   repeat' first
    |(with_reducible apply And.intro)
    |exact fun h=>absurd (show false=true from h) (by decide)
    |exact fun h=>absurd (show true=false from h) (by decide)
    |(intro _)
   all_goals first
    |exact c1
    |exact c2
    |exact cT
    |exact .pure rfl (.inl (by rw[hR]))
 |false =>
  rw[hs1] at c1
  rw[if_neg (show ¬ Q3 l k.toNat [60,33,45,45]=true by rw[hs1];decide)] at hR
  cases hs2:Q3 l k.toNat [60,63] with
  |true =>
   have hfit:=QX l k.toNat _ (by omega) hs2
   simp only[List.length_cons,List.length_nil] at hfit
   have cT:BCall prog 86 [.slc 1 (Q0 l),.val (.int .i64 5),.val (.int .i64 k),.val (.int .i64 2),.val (.string ⟨#[63,62]⟩)] [] (Q1t 5 k (Q3l l (k+2) [63,62]) (Q3j l (k+2) [63,62])) []:=Q7Q l hl hi32 5 k 2 h0 (by decide) (by omega) ⟨#[63,62]⟩ (by decide)
   obtain⟨_,u2,u3⟩:=Q5c l 5 k.toNat 2 [63,62] (by omega)
   rw[hkk] at u2 u3
   have u2:((Q17 l 5 k.toNat 2 [63,62]).2.1:Int)=Q3l l (k+2) [63,62]:=u2
   have u3:(Q17 l 5 k.toNat 2 [63,62]).2.2=Q3j l (k+2) [63,62]:=u3
   rw[if_pos hs2] at hR
   simp only[u2,u3] at hR
   rw[hs2] at c2
   generalize Q3l l (k+2) [63,62]=t1 at cT hR
   generalize Q3j l (k+2) [63,62]=w1 at cT hR
   rw[Q1t] at cT
   clear u2 u3 hs1 hs2 hfit hkk
   cases w1 with
   |true =>
    have hR:R=t1:=hR
    refine fnN (cs:=Q7G false true true true 0 t1 k 0) func110 rfl (by kernel_rfl) ?_
    intro w0 g0
    generalize hp:std=p,hrx:Q0 l=rx
    generalize hT:Q5 p tys (Q7G false true true true 0 t1 k 0) _ _ _ _=T
    cbv at hT
    subst hT
    simp only[Tree.ok,Q1,S0]
    subst hp hrx
    repeat' first
     |(with_reducible apply And.intro)
     |exact fun h=>absurd (show false=true from h) (by decide)
     |exact fun h=>absurd (show true=false from h) (by decide)
     |(intro _)
    all_goals first
     |exact c1
     |exact c2
     |exact cT
     |exact .pure rfl (.inl (by rw[hR]))
   |false =>
    have hR:R=-1:=hR
    refine fnN (cs:=Q7G false true true false 0 t1 k 0) func110 rfl (by kernel_rfl) ?_
    intro w0 g0
    generalize hp:std=p,hrx:Q0 l=rx
    generalize hT:Q5 p tys (Q7G false true true false 0 t1 k 0) _ _ _ _=T
    cbv at hT
    subst hT
    simp only[Tree.ok,Q1,S0]
    subst hp hrx
    repeat' first
     |(with_reducible apply And.intro)
     |exact fun h=>absurd (show false=true from h) (by decide)
     |exact fun h=>absurd (show true=false from h) (by decide)
     |(intro _)
    all_goals first
     |exact c1
     |exact c2
     |exact cT
     |exact .pure rfl (.inl (by rw[hR]))
  |false =>
   rw[hs2] at c2
   rw[if_neg (show ¬ Q3 l k.toNat [60,63]=true by rw[hs2];decide)] at hR
   have hgk:l.getD k.toNat 0=l[k.toNat]?.getD 0:=List.getD_eq_getElem?_getD
   rw[hgk] at hR
   by_cases h60:l[k.toNat]?.getD 0=60
   ·rw[if_pos h60] at hR
    have cF:=QfG l hl k h0 (by omega) 62 62
    have hfa:=Qd5 l k.toNat false
    have har:=Q2T l false l.length k.toNat (by omega) (by omega)
    have hno:=Qi0 l l.length k.toNat (by omega)
    obtain⟨F,hF⟩:=exq (Q9P l k.toNat 62 62:Int)
    rw[←hF] at cF
    rw[Q9P,show frF l k.toNat 62 62 k.toNat=Q88 l false k.toNat from hfa,Q88] at hF
    simp only at hR
    generalize (QJ l false k.toNat).1=p at hF hR har hno
    generalize (QJ l false k.toNat).2=w at hF hR har hno
    clear hfa hs1 hs2 hkk hgk
    cases w with
    |true =>
     have hpl:=har.2.2 rfl
     rw[if_pos (.inl rfl)] at hF
     have hF:F=(p:Int):=hF
     have hR:R=F+1:=by rw[hR,if_pos rfl,hF];show ((min (p+1) l.length:Nat):Int)=_;omega
     have hF0:0≤F:=by omega
     have hF1:F<n:=by have:=hn.eq;omega
     clear hF har hno hpl
     refine fnN (cs:=Q7G false false true true 0 0 k F) func110 rfl (by kernel_rfl) ?_
     intro w0 g0
     generalize hp:std=p,hrx:Q0 l=rx
     generalize hT:Q5 p tys (Q7G false false true true 0 0 k F) _ _ _ _=T
     cbv at hT
     subst hT
     simp only[Tree.ok,Q1,S0]
     subst hp hrx
     have hxn:=QV hn
     repeat' first
      |(with_reducible refine And.intro (fun hx=>absurd hx (by first|(try simp[std,S1,hxn,ak,hF0,hF1,h60,hkn])<;>omega|omega)) (fun _=>?_))
      |(with_reducible refine And.intro (fun _=>?_) (fun hx=>absurd hx (by first|(try simp[std,S1,hxn,ak,hF0,hF1,h60,hkn])<;>omega|omega)))
      |(with_reducible refine And.intro (by first|(try simp[std,S1,hxn,ak,hF0,hF1,h60,hkn])<;>omega|omega) ?_)
      |(with_reducible refine And.intro ?_ ?_)
      |(with_reducible intro hb)
     all_goals exact .pure rfl (.inl (by rw[hR];rfl))
    |false =>
     have hpl:=hno rfl
     rw[if_neg (by rw[hpl];simp)] at hF
     have hF:F=-1:=hF
     have hR:R=-1:=hR
     have hF0:F<0:=by omega
     clear hF har hno hpl
     refine fnN (cs:=Q7G false false true true 0 0 k F) func110 rfl (by kernel_rfl) ?_
     intro w0 g0
     generalize hp:std=p,hrx:Q0 l=rx
     generalize hT:Q5 p tys (Q7G false false true true 0 0 k F) _ _ _ _=T
     cbv at hT
     subst hT
     simp only[Tree.ok,Q1,S0]
     subst hp hrx
     have hxn:=QV hn
     repeat' first
      |(with_reducible refine And.intro (fun hx=>absurd hx (by first|(try simp[std,S1,hxn,ak,hF0,h60,hkn])<;>omega|omega)) (fun _=>?_))
      |(with_reducible refine And.intro (fun _=>?_) (fun hx=>absurd hx (by first|(try simp[std,S1,hxn,ak,hF0,h60,hkn])<;>omega|omega)))
      |(with_reducible refine And.intro (by first|(try simp[std,S1,hxn,ak,hF0,h60,hkn])<;>omega|omega) ?_)
      |(with_reducible refine And.intro ?_ ?_)
      |(with_reducible intro hb)
     all_goals exact .pure rfl (.inl (by rw[hR]))
   ·rw[if_neg h60] at hR
    have hR:R=k+1:=by rw[hR,if_pos rfl];show ((k.toNat+1:Nat):Int)=_;omega
    clear hs1 hs2 hkk hgk
    refine fnN (cs:=Q7G false false true true 0 0 k 0) func110 rfl (by kernel_rfl) ?_
    intro w0 g0
    generalize hp:std=p,hrx:Q0 l=rx
    generalize hT:Q5 p tys (Q7G false false true true 0 0 k 0) _ _ _ _=T
    cbv at hT
    subst hT
    simp only[Tree.ok,Q1,S0]
    subst hp hrx
    have hxn:=QV hn
    repeat' first
     |(with_reducible refine And.intro (fun hx=>absurd hx (by first|(try simp[std,S1,hxn,ak,h60,hkn])<;>omega|omega)) (fun _=>?_))
     |(with_reducible refine And.intro (fun _=>?_) (fun hx=>absurd hx (by first|(try simp[std,S1,hxn,ak,h60,hkn])<;>omega|omega)))
     |(with_reducible refine And.intro (by first|(try simp[std,S1,hxn,ak,h60,hkn])<;>omega|omega) ?_)
     |(with_reducible refine And.intro ?_ ?_)
     |(with_reducible intro hb)
    all_goals exact .pure rfl (.inl (by rw[hR];rfl))
def Q4e (l:List Int)(x:Bool×Int):Nat×Bool:=if x.2<0 then (l.length,false) else if x.1=true then Q2h l (Q3z l x.2.toNat true).1 (Q3z l x.2.toNat true).2 else Q2h l x.2.toNat true
theorem Qa5 (l:List Int)(k:Nat):Q2h l k false=(l.length,false):=Q4p l k false (fun h=>by cases h.2)
theorem Qhm (l:List Int)(k:Nat):Q3z l k false=(l.length,false):=Q4j l k false (fun h=>by cases h.2)
theorem Q56 {l:List Int}{i:Int}(h0:0≤i)(h1:i<l.length):∃ h:i.toNat<l.length,l[i.toNat]?.getD 0=l[i.toNat]:=⟨by omega,by rw[List.getElem?_eq_getElem (by omega)];rfl⟩
theorem QbM {l:List Int}{i:Int}(h:0≤i):Q4e l (true,i)=Q2h l (Q3z l i.toNat true).1 (Q3z l i.toNat true).2:=by
 show (if i<0 then ((l.length,false):Nat×Bool) else if true=true then _ else _)=_
 rw[if_neg (by omega),if_pos rfl]
theorem Q6b {l:List Int}{i:Int}(h:0≤i):Q4e l (false,i)=Q2h l i.toNat true:=by
 show (if i<0 then ((l.length,false):Nat×Bool) else if false=true then _ else _)=_
 rw[if_neg (by omega),if_neg (by decide)]
theorem QgX {l:List Int}{i:Int}(h0:0≤i)(h1:i<l.length)(h:l[i.toNat]?.getD 0=93):Q4e l (true,i)=Q4e l (false,i+1):=by
 obtain⟨hl,e⟩:=Q56 h0 h1
 rw[e] at h
 rw[QbM h0,Q6b (by omega),show (i+1).toNat=i.toNat+1 by omega,Q8b l i.toNat hl h]
theorem QkN {l:List Int}{i:Int}(h0:0≤i)(h1:i<l.length)(h:¬ l[i.toNat]?.getD 0=93):Q4e l (true,i)=Q4e l (true,QY l i)∧(QY l i=-1∨(i<QY l i∧QY l i≤l.length)):=by
 obtain⟨hl,e⟩:=Q56 h0 h1
 rw[e] at h
 have hr:=Q4W l i.toNat hl
 rw[QbM h0,Q7g l i.toNat hl h,QY]
 cases hd:(Q3i l i.toNat).2 with
 |true =>
  rw[if_pos rfl]
  refine⟨?_,.inr (by omega)⟩
  rw[QbM (by omega),Int.toNat_natCast]
 |false =>
  rw[if_neg (by decide),Qhm,Qa5]
  exact⟨rfl,.inl rfl⟩
theorem Qky {l:List Int}{i:Int}(h0:0≤i)(h1:i<l.length)(h:l[i.toNat]?.getD 0=62):Q4e l (false,i)=((i+1).toNat,true):=by
 obtain⟨hl,e⟩:=Q56 h0 h1
 rw[e] at h
 rw[Q6b h0,Q8e l i.toNat hl h,show (i+1).toNat=i.toNat+1 by omega]
theorem Ql4 {l:List Int}{i:Int}(h0:0≤i)(h1:i<l.length)(h:l[i.toNat]?.getD 0=91):Q4e l (false,i)=Q4e l (true,i+1):=by
 obtain⟨hl,e⟩:=Q56 h0 h1
 rw[e] at h
 rw[Q6b h0,QbM (by omega),show (i+1).toNat=i.toNat+1 by omega,Q8m l i.toNat hl h]
 rfl
theorem Qdf {l:List Int}{i:Int}(h0:0≤i)(h1:i<l.length)(h:l[i.toNat]?.getD 0=34∨l[i.toNat]?.getD 0=39):Q4e l (false,i)=Q4e l (false,Qx l i)∧(Qx l i=-1∨(i<Qx l i∧Qx l i≤l.length)):=by
 obtain⟨hl,e⟩:=Q56 h0 h1
 rw[e] at h
 have hr:=Q2w l i.toNat hl
 have hq:Q3a l[i.toNat]=true:=by rcases h with h|h<;>rw[h]<;>rfl
 rw[Q6b h0,Q89 l i.toNat hl (by omega) hq,Qx]
 cases hd:(Q12 l i.toNat).2 with
 |true =>
  rw[if_pos rfl]
  refine⟨?_,.inr (by omega)⟩
  rw[Q6b (by omega),Int.toNat_natCast]
 |false =>
  rw[if_neg (by decide),Qa5]
  exact⟨rfl,.inl rfl⟩
theorem Qg7 {l:List Int}{i:Int}(h0:0≤i)(h1:i<l.length)(h62:¬ l[i.toNat]?.getD 0=62)(h34:¬ l[i.toNat]?.getD 0=34)(h39:¬ l[i.toNat]?.getD 0=39)(h91:¬ l[i.toNat]?.getD 0=91):Q4e l (false,i)=Q4e l (false,i+1):=by
 obtain⟨hl,e⟩:=Q56 h0 h1
 rw[e] at h62 h34 h39 h91
 have hq:Q3a l[i.toNat]=false:=by simp only[Q3a,Bool.or_eq_false_iff,beq_eq_false_iff_ne];exact⟨h34,h39⟩
 rw[Q6b h0,Q6b (by omega),show (i+1).toNat=i.toNat+1 by omega,Q7b l i.toNat hl h62 hq h91]
theorem QiF {l:List Int}{x:Bool×Int}(h:x.2<0∨(l.length:Int)≤x.2):Q4e l x=(l.length,false):=by
 unfold Q4e
 split
 ·rfl
 ·rename_i h2
  have h3:¬ x.2.toNat<l.length:=by omega
  split
  ·rw[Q4j l _ _ (fun h=>h3 h.1),Qa5]
  ·exact Q4p l _ _ (fun h=>h3 h.1)
def Q8D (wi cl:Int→Int):Nat→List AV→List Ob→Option (AV×List Ob):=fun f args _=>match f,args with
 |110,[.slc 1 _,.val (.int .i64 k)]=>some (.val (.int .i64 (wi k)),[])
 |111,[.slc 1 _,.val (.int .i64 k)]=>some (.val (.int .i64 (cl k)),[])
 |_,_=>none
theorem Qe7 (l:List Int)(hl:l.length≤1000000000)(hi32:I32 l)(k:Int)(h0:0≤k)(h1:k+9≤l.length):BCall prog 87 [.slc 1 (Q0 l),.val (.int .i64 k)] [] (Q1t 7 k ((Q3G l k.toNat).2.1:Nat) (Q3G l k.toNat).2.2) []:=by
 obtain⟨n,hn⟩:=Qy l
 have cW:∀ i:Int,0≤i→i<n→BCall prog 110 [.slc 1 (Q0 l),.val (.int .i64 i)] [] (.val (.int .i64 (QY l i))) []:=fun i i0 i1=>QfK l hl hi32 i i0 (by have:=hn.eq;omega)
 have cC:∀ i:Int,0≤i→i<n→BCall prog 111 [.slc 1 (Q0 l),.val (.int .i64 i)] [] (.val (.int .i64 (Qx l i))) []:=fun i i0 i1=>QfO l hl i i0 (by have:=hn.eq;omega)
 have hxl:=Qi l
 have hd:Q3G l k.toNat=(7,(Q4e l (false,k+9)).1,(Q4e l (false,k+9)).2):=by
  rw[Q3G,Q6b (by omega),show (k+9).toNat=k.toNat+9 by omega]
 rw[hd]
 obtain⟨rt,hrt⟩:=exq (((Q4e l (false,k+9)).1:Nat):Int)
 obtain⟨rb,hrb⟩:=exq ((Q4e l (false,k+9)).2:Bool)
 show BCall _ _ _ _ (Q1t 7 k ((Q4e l (false,k+9)).1:Nat) (Q4e l (false,k+9)).2) _
 rw[←hrt,←hrb,Q1t]
 have hk9:k+9≤n:=by have:=hn.eq;omega
 have hn9:n≤1000000000:=by have:=hn.eq;omega
 clear hd h1
 refine fnN (cs:=Q8D (QY l) (Qx l)) func87 rfl (by kernel_rfl) ?_
 intro w0 g0
 generalize hp:std=p,hrx:Q0 l=rx,hwi:QY l=wi,hcl:Qx l=cl
 generalize hT:Q5 p tys (Q8D wi cl) _ _ _ _=T
 cbv at hT
 subst hT
 simp only[Tree.ok,Q1,S0]
 subst hp hrx hwi hcl
 have hxn:=QV hn
 repeat' first
  |(with_reducible refine And.intro (fun hx=>absurd hx (by first|(try simp[std,S1,hxn,hk9,h0])<;>omega|omega)) (fun _=>?_))
  |(with_reducible refine And.intro (fun _=>?_) (fun hx=>absurd hx (by first|(try simp[std,S1,hxn,hk9,h0])<;>omega|omega)))
  |(with_reducible refine And.intro (by first|(try simp[std,S1,hxn,hk9,h0])<;>omega|omega) ?_)
  |(with_reducible refine And.intro ?_ ?_)
  |(with_reducible intro hb)
 refine Q1r (cs:=Q8D (QY l) (Qx l)) (by kernel_rfl) (X:=Bool×Int) (fun x=>⟨[(0,.slc 1 (Q0 l)),(1,.val (.int .i64 k)),(4,.box 0 0),(5,.val (.bool x.1)),(6,.val (.int .i64 x.2))],[.box [.val (.int .i64 0),.val (.int .i64 0),.val (.int .i64 0),.val (.bool false)]]⟩) (fun x=>(-1≤x.2∧x.2≤n)∧Q4e l x=Q4e l (false,k+9)) (fun x=>if x.2<0 then 0 else (n-x.2+1).toNat) (false,k+9) ?_ ?_ ?_
 ·exact⟨⟨by show -1≤k+9;omega,hk9⟩,rfl⟩
 ·refine⟨[some 0],_,rfl,?_⟩
  repeat first
   |exact trivial
   |refine⟨rfl,?_⟩
 ·rintro⟨op,i⟩ ⟨⟨hq0,hqn⟩,hi⟩
  have hm1:-1≤i:=hq0
  have hin:i≤n:=hqn
  clear hq0 hqn
  by_cases hc:0≤i∧i<n
  ·obtain⟨hi0',hlt⟩:=hc
   have hi0:0≤i:=hi0'
   have hil:i<l.length:=by have:=hn.eq;omega
   have ai:=Qv (l:=l) (i:=i) hi0 hil
   cases op with
   |true =>
    by_cases h93:l[i.toNat]?.getD 0=93
    ·have hst:=QgX hi0 hil h93
     rw[hi] at hst
     clear hi hxn hil
     generalize hp:std=p,hrx:Q0 l=rx,hwi:QY l=wi,hcl:Qx l=cl
     generalize hT:Q5 p tys (Q8D wi cl) _ _ _ _=T
     cbv at hT
     subst hT
     simp only[Tree.ok,Q1,S0]
     subst hp hrx hwi hcl
     have hxn:=QV hn
     repeat' first
      |(with_reducible refine And.intro (fun hx=>absurd hx (by first|(try simp[std,S1,hxn,ai,hlt,hi0,h93])<;>omega|omega)) (fun _=>?_))
      |(with_reducible refine And.intro (fun _=>?_) (fun hx=>absurd hx (by first|(try simp[std,S1,hxn,ai,hlt,hi0,h93])<;>omega|omega)))
      |(with_reducible refine And.intro (by first|(try simp[std,S1,hxn,ai,hlt,hi0,h93])<;>omega|omega) ?_)
      |(with_reducible refine And.intro ?_ ?_)
      |(with_reducible intro hb)
     all_goals
      refine⟨(false,i+1),⟨⟨by show -1≤i+1;omega,by show i+1≤n;omega⟩,hst.symm⟩,?_,[some 0],_,rfl,?_⟩
      ·show (if i+1<0 then 0 else (n-(i+1)+1).toNat)<(if i<0 then 0 else (n-i+1).toNat)
       rw[if_neg (by omega),if_neg (by omega)];omega
      repeat first
       |exact trivial
       |refine⟨rfl,?_⟩
    ·obtain⟨hst,hwr⟩:=QkN hi0 hil h93
     have cWi:=cW i hi0 hlt
     have hwb:-1≤QY l i∧QY l i≤n∧(QY l i<0∨i<QY l i):=by have:=hn.eq;omega
     clear hwr
     rw[hi] at hst
     clear hi hxn hil
     generalize hp:std=p,hrx:Q0 l=rx,hwi:QY l=wi,hcl:Qx l=cl
     generalize hT:Q5 p tys (Q8D wi cl) _ _ _ _=T
     cbv at hT
     subst hT
     simp only[Tree.ok,Q1,S0]
     subst hp hrx hwi hcl
     have hxn:=QV hn
     repeat' first
      |(with_reducible refine And.intro (fun hx=>absurd hx (by first|(try simp[std,S1,hxn,ai,hlt,hi0,h93])<;>omega|omega)) (fun _=>?_))
      |(with_reducible refine And.intro (fun _=>?_) (fun hx=>absurd hx (by first|(try simp[std,S1,hxn,ai,hlt,hi0,h93])<;>omega|omega)))
      |(with_reducible refine And.intro (by first|(try simp[std,S1,hxn,ai,hlt,hi0,h93])<;>omega|omega) ?_)
      |(with_reducible refine And.intro ?_ ?_)
      |(with_reducible intro hb)
     all_goals
      refine⟨(true,QY l i),⟨⟨by show -1≤QY l i;omega,by show QY l i≤n;omega⟩,hst.symm⟩,?_,[some 0],_,rfl,?_⟩
      ·show (if QY l i<0 then 0 else (n-QY l i+1).toNat)<(if i<0 then 0 else (n-i+1).toNat)
       rw[if_neg (show ¬ i<0 by omega)]
       split<;>omega
      repeat first
       |exact trivial
       |refine⟨rfl,?_⟩
   |false =>
    by_cases h62:l[i.toNat]?.getD 0=62
    ·have hst:=Qky hi0 hil h62
     rw[hi] at hst
     have ht2:rt=i+1:=by rw[hrt,hst];show (((i+1).toNat:Nat):Int)=_;omega
     have hw2:rb=true:=by rw[hrb,hst]
     clear hi hxn hil hst
     generalize hp:std=p,hrx:Q0 l=rx,hwi:QY l=wi,hcl:Qx l=cl
     generalize hT:Q5 p tys (Q8D wi cl) _ _ _ _=T
     cbv at hT
     subst hT
     simp only[Tree.ok,Q1,S0]
     subst hp hrx hwi hcl
     have hxn:=QV hn
     repeat' first
      |(with_reducible refine And.intro (fun hx=>absurd hx (by first|(try simp[std,S1,hxn,ai,hlt,hi0,h62])<;>omega|omega)) (fun _=>?_))
      |(with_reducible refine And.intro (fun _=>?_) (fun hx=>absurd hx (by first|(try simp[std,S1,hxn,ai,hlt,hi0,h62])<;>omega|omega)))
      |(with_reducible refine And.intro (by first|(try simp[std,S1,hxn,ai,hlt,hi0,h62])<;>omega|omega) ?_)
      |(with_reducible refine And.intro ?_ ?_)
      |(with_reducible intro hb)
     all_goals
      generalize hp:std=p,hrx:Q0 l=rx,hwi:QY l=wi,hcl:Qx l=cl
      generalize hT:Q4N p tys _ _ _ _=T
      cbv at hT
      subst hT
      simp only[Tree.ok,Q1,S0]
      subst hp hrx hwi hcl
      exact .pure rfl ⟨.inl rfl,.inl rfl,.inl (by rw[ht2];rfl),.inl (by rw[hw2]),trivial⟩
    ·by_cases h91:l[i.toNat]?.getD 0=91
     ·have hst:=Ql4 hi0 hil h91
      rw[hi] at hst
      clear hi hxn hil
      generalize hp:std=p,hrx:Q0 l=rx,hwi:QY l=wi,hcl:Qx l=cl
      generalize hT:Q5 p tys (Q8D wi cl) _ _ _ _=T
      cbv at hT
      subst hT
      simp only[Tree.ok,Q1,S0]
      subst hp hrx hwi hcl
      have hxn:=QV hn
      repeat' first
       |(with_reducible refine And.intro (fun hx=>absurd hx (by first|(try simp[std,S1,hxn,ai,hlt,hi0,h62,h91])<;>omega|omega)) (fun _=>?_))
       |(with_reducible refine And.intro (fun _=>?_) (fun hx=>absurd hx (by first|(try simp[std,S1,hxn,ai,hlt,hi0,h62,h91])<;>omega|omega)))
       |(with_reducible refine And.intro (by first|(try simp[std,S1,hxn,ai,hlt,hi0,h62,h91])<;>omega|omega) ?_)
       |(with_reducible refine And.intro ?_ ?_)
       |(with_reducible intro hb)
      all_goals
       refine⟨(true,i+1),⟨⟨by show -1≤i+1;omega,by show i+1≤n;omega⟩,hst.symm⟩,?_,[some 0],_,rfl,?_⟩
       ·show (if i+1<0 then 0 else (n-(i+1)+1).toNat)<(if i<0 then 0 else (n-i+1).toNat)
        rw[if_neg (by omega),if_neg (by omega)];omega
       repeat first
        |exact trivial
        |refine⟨rfl,?_⟩
     ·by_cases h34:l[i.toNat]?.getD 0=34
      ·obtain⟨hst,hwr⟩:=Qdf hi0 hil (.inl h34)
       have cCi:=cC i hi0 hlt
       have hwb:-1≤Qx l i∧Qx l i≤n∧(Qx l i<0∨i<Qx l i):=by have:=hn.eq;omega
       clear hwr
       rw[hi] at hst
       clear hi hxn hil
       generalize hp:std=p,hrx:Q0 l=rx,hwi:QY l=wi,hcl:Qx l=cl
       generalize hT:Q5 p tys (Q8D wi cl) _ _ _ _=T
       cbv at hT
       subst hT
       simp only[Tree.ok,Q1,S0]
       subst hp hrx hwi hcl
       have hxn:=QV hn
       repeat' first
        |(with_reducible refine And.intro (fun hx=>absurd hx (by first|(try simp[std,S1,hxn,ai,hlt,hi0,h62,h91,h34])<;>omega|omega)) (fun _=>?_))
        |(with_reducible refine And.intro (fun _=>?_) (fun hx=>absurd hx (by first|(try simp[std,S1,hxn,ai,hlt,hi0,h62,h91,h34])<;>omega|omega)))
        |(with_reducible refine And.intro (by first|(try simp[std,S1,hxn,ai,hlt,hi0,h62,h91,h34])<;>omega|omega) ?_)
        |(with_reducible refine And.intro ?_ ?_)
        |(with_reducible intro hb)
       all_goals
        refine⟨(false,Qx l i),⟨⟨by show -1≤Qx l i;omega,by show Qx l i≤n;omega⟩,hst.symm⟩,?_,[some 0],_,rfl,?_⟩
        ·show (if Qx l i<0 then 0 else (n-Qx l i+1).toNat)<(if i<0 then 0 else (n-i+1).toNat)
         rw[if_neg (show ¬ i<0 by omega)]
         split<;>omega
        repeat first
         |exact trivial
         |refine⟨rfl,?_⟩
      ·by_cases h39:l[i.toNat]?.getD 0=39
       ·obtain⟨hst,hwr⟩:=Qdf hi0 hil (.inr h39)
        have cCi:=cC i hi0 hlt
        have hwb:-1≤Qx l i∧Qx l i≤n∧(Qx l i<0∨i<Qx l i):=by have:=hn.eq;omega
        clear hwr
        rw[hi] at hst
        clear hi hxn hil
        generalize hp:std=p,hrx:Q0 l=rx,hwi:QY l=wi,hcl:Qx l=cl
        generalize hT:Q5 p tys (Q8D wi cl) _ _ _ _=T
        cbv at hT
        subst hT
        simp only[Tree.ok,Q1,S0]
        subst hp hrx hwi hcl
        have hxn:=QV hn
        repeat' first
         |(with_reducible refine And.intro (fun hx=>absurd hx (by first|(try simp[std,S1,hxn,ai,hlt,hi0,h62,h91,h34,h39])<;>omega|omega)) (fun _=>?_))
         |(with_reducible refine And.intro (fun _=>?_) (fun hx=>absurd hx (by first|(try simp[std,S1,hxn,ai,hlt,hi0,h62,h91,h34,h39])<;>omega|omega)))
         |(with_reducible refine And.intro (by first|(try simp[std,S1,hxn,ai,hlt,hi0,h62,h91,h34,h39])<;>omega|omega) ?_)
         |(with_reducible refine And.intro ?_ ?_)
         |(with_reducible intro hb)
        all_goals
         refine⟨(false,Qx l i),⟨⟨by show -1≤Qx l i;omega,by show Qx l i≤n;omega⟩,hst.symm⟩,?_,[some 0],_,rfl,?_⟩
         ·show (if Qx l i<0 then 0 else (n-Qx l i+1).toNat)<(if i<0 then 0 else (n-i+1).toNat)
          rw[if_neg (show ¬ i<0 by omega)]
          split<;>omega
         repeat first
          |exact trivial
          |refine⟨rfl,?_⟩
       ·have hst:=Qg7 hi0 hil h62 h34 h39 h91
        rw[hi] at hst
        clear hi hxn hil
        generalize hp:std=p,hrx:Q0 l=rx,hwi:QY l=wi,hcl:Qx l=cl
        generalize hT:Q5 p tys (Q8D wi cl) _ _ _ _=T
        cbv at hT
        subst hT
        simp only[Tree.ok,Q1,S0]
        subst hp hrx hwi hcl
        have hxn:=QV hn
        repeat' first
         |(with_reducible refine And.intro (fun hx=>absurd hx (by first|(try simp[std,S1,hxn,ai,hlt,hi0,h62,h91,h34,h39])<;>omega|omega)) (fun _=>?_))
         |(with_reducible refine And.intro (fun _=>?_) (fun hx=>absurd hx (by first|(try simp[std,S1,hxn,ai,hlt,hi0,h62,h91,h34,h39])<;>omega|omega)))
         |(with_reducible refine And.intro (by first|(try simp[std,S1,hxn,ai,hlt,hi0,h62,h91,h34,h39])<;>omega|omega) ?_)
         |(with_reducible refine And.intro ?_ ?_)
         |(with_reducible intro hb)
        all_goals
         refine⟨(false,i+1),⟨⟨by show -1≤i+1;omega,by show i+1≤n;omega⟩,hst.symm⟩,?_,[some 0],_,rfl,?_⟩
         ·show (if i+1<0 then 0 else (n-(i+1)+1).toNat)<(if i<0 then 0 else (n-i+1).toNat)
          rw[if_neg (by omega),if_neg (by omega)];omega
         repeat first
          |exact trivial
          |refine⟨rfl,?_⟩
  ·have hq2:Q4e l (op,i)=(l.length,false):=QiF (by show i<0∨_≤i;have:=hn.eq;omega)
   rw[hq2] at hi
   have ht2:rt=n:=by rw[hrt,←hi,hn.eq]
   have hw2:rb=false:=by rw[hrb,←hi]
   clear hi hq2 hxn
   by_cases hneg:0≤i
   ·have hge:¬ i<n:=fun h=>hc ⟨hneg,h⟩
    generalize hp:std=p,hrx:Q0 l=rx,hwi:QY l=wi,hcl:Qx l=cl
    generalize hT:Q5 p tys (Q8D wi cl) _ _ _ _=T
    cbv at hT
    subst hT
    simp only[Tree.ok,Q1,S0]
    subst hp hrx hwi hcl
    have hxn:=QV hn
    repeat' first
     |(with_reducible refine And.intro (fun hx=>absurd hx (by first|(try simp[std,S1,hxn,hge,hneg])<;>omega|omega)) (fun _=>?_))
     |(with_reducible refine And.intro (fun _=>?_) (fun hx=>absurd hx (by first|(try simp[std,S1,hxn,hge,hneg])<;>omega|omega)))
     |(with_reducible refine And.intro (by first|(try simp[std,S1,hxn,hge,hneg])<;>omega|omega) ?_)
     |(with_reducible refine And.intro ?_ ?_)
     |(with_reducible intro hb)
    all_goals
     rw[if_pos trivial]
     generalize hp:std=p,hrx:Q0 l=rx,hwi:QY l=wi,hcl:Qx l=cl
     generalize hT:Q5 p tys _ _ _ _ _=T
     cbv at hT
     subst hT
     simp only[Tree.ok,Q1,S0]
     subst hp hrx hwi hcl
     exact .pure rfl ⟨.inl rfl,.inl rfl,.inl (by rw[ht2];exact congrArg _ (congrArg _ hxn)),.inl (by rw[hw2]),trivial⟩
   ·generalize hp:std=p,hrx:Q0 l=rx,hwi:QY l=wi,hcl:Qx l=cl
    generalize hT:Q5 p tys (Q8D wi cl) _ _ _ _=T
    cbv at hT
    subst hT
    simp only[Tree.ok,Q1,S0]
    subst hp hrx hwi hcl
    have hxn:=QV hn
    repeat' first
     |(with_reducible refine And.intro (fun hx=>absurd hx (by first|(try simp[std,S1,hxn,hneg])<;>omega|omega)) (fun _=>?_))
     |(with_reducible refine And.intro (fun _=>?_) (fun hx=>absurd hx (by first|(try simp[std,S1,hxn,hneg])<;>omega|omega)))
     |(with_reducible refine And.intro (by first|(try simp[std,S1,hxn,hneg])<;>omega|omega) ?_)
     |(with_reducible refine And.intro ?_ ?_)
     |(with_reducible intro hb)
    all_goals
     rw[if_pos trivial]
     generalize hp:std=p,hrx:Q0 l=rx,hwi:QY l=wi,hcl:Qx l=cl
     generalize hT:Q5 p tys _ _ _ _ _=T
     cbv at hT
     subst hT
     simp only[Tree.ok,Q1,S0]
     subst hp hrx hwi hcl
     exact .pure rfl ⟨.inl rfl,.inl rfl,.inl (by rw[ht2];exact congrArg _ (congrArg _ hxn)),.inl (by rw[hw2]),trivial⟩
end Go.Proofs.YthbjpdijafccjaaGreat
