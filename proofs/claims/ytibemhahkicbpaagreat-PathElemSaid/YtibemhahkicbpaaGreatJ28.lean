/- Lemmas, conditions told -/
import Derived.Test.YtibemhahkicbpaaGreatJ24
set_option maxRecDepth 99999
set_option maxHeartbeats 0
set_option linter.unusedSimpArgs false
set_option linter.unusedVariables false
namespace Go.Proofs.YtibemhahkicbpaaGreat
open Go.RowKit Go.Lib
section
open Tryz
theorem Qk2(l:List Int):∀(n k:Nat),l.length-k<=n->(QN l false k).2=false->(QN l false k).1=l.length:=by
 intro n;induction n with
 |zero=>intro k h _;rw[Q2l l false k (by omega)]
 |succ n ih =>
  intro k h h2;by_cases hk:k<l.length
  ·cases hq:Q3k l[k]with
   |true =>
    rw[Q50 l false k hk hq]at h2 ⊢;have:=Q2C l k hk
    exact ih _ (by omega) h2
   |false =>
    by_cases j4:l[k]=62
    ·rw[Q5K l false k hk j4]at h2;cases h2
    ·have jO:¬(l[k]=60/\false=true):=fun h=>by cases h.2
     rw[Q4k l false k hk hq j4 jO]at h2 ⊢;exact ih _ (by omega) h2
  ·rw[Q2l l false k hk]
def Q18(l:List Int)(k:Int):Int:=if(Q3D l k.toNat).2=true then((Q3D l k.toNat).1:Nat)else -1
def Q8b(s1 s2 w1 w2:Bool)(t1 t2 k F:Int):Nat->List AV->List Ob->Option (AV×List Ob):=fun f args _=>match f,args with
 |1000010,_=>some (.val (.bool s1),[])
 |1000021,_=>some (.val (.bool s2),[])
 |1000013,_=>some (Q1B 4 k t1 w1,[])
 |1000024,_=>some (Q1B 5 k t2 w2,[])
 |198,[.slc 1 _,.val (.int .i64 _),.val (.int .i32 _),.val (.int .i32 _)]=>some (.val (.int .i64 F),[])
 |_,_=>none
theorem Qij(l:List Int)(hl:l.length<=1000000000)(yA:I32 l)(k:Int)(h0:0<=k)(h1:k<l.length):BCall prog 194 [.slc 1 (Q0 l),.val (.int .i64 k)] [] (.val (.int .i64 (Q18 l k))) []:=by
 have c1:BCall prog 151 [.slc 1 (Q0 l),.val (.int .i64 k),.val (.string ⟨#[60,33,45,45]⟩)] [] (.val (.bool (Q6 l k.toNat [60,33,45,45]))) []:=Qc l hl yA k h0 (by omega) ⟨#[60,33,45,45]⟩ (by decide)
 have c2:BCall prog 151 [.slc 1 (Q0 l),.val (.int .i64 k),.val (.string ⟨#[60,63]⟩)] [] (.val (.bool (Q6 l k.toNat [60,63]))) []:=Qc l hl yA k h0 (by omega) ⟨#[60,63]⟩ (by decide)
 have ak:=QJ (l:=l) (i:=k) h0 h1;have yI:((k.toNat:Nat):Int)=k:=Int.toNat_of_nonneg h0;obtain⟨n,hn⟩:=QE l;have jq:=Qx l;have jh:k<n:=by have:=hn.eq;omega
 have qA:n<=1000000000:=by have:=hn.eq;omega
 obtain⟨R,hR⟩:=exq (Q18 l k:Int);rw[<-hR];rw[Q18,Q3D]at hR;cases jM:Q6 l k.toNat [60,33,45,45]with
 |true =>
  have j2:=Q17 l k.toNat _ (by omega) jM
  simp only[List.length_cons,List.length_nil]at j2;have cT:BCall prog 152 [.slc 1 (Q0 l),.val (.int .i64 4),.val (.int .i64 k),.val (.int .i64 4),.val (.string ⟨#[45,45,62]⟩)] [] (Q1B 4 k (Q3C l (k+4) [45,45,62]) (Q3F l (k+4) [45,45,62])) []:=Q8v l hl yA 4 k 4 h0 (by decide) (by omega) ⟨#[45,45,62]⟩ (by decide)
  obtain⟨_,u2,u3⟩:=Q5L l 4 k.toNat 4 [45,45,62] (by omega)
  rw[yI]at u2 u3;have u2:((Q14 l 4 k.toNat 4 [45,45,62]).2.1:Int)=Q3C l (k+4) [45,45,62]:=u2;have u3:(Q14 l 4 k.toNat 4 [45,45,62]).2.2=Q3F l (k+4) [45,45,62]:=u3;rw[if_pos jM]at hR;simp only[u2,u3]at hR;rw[jM]at c1;generalize Q3C l (k+4) [45,45,62]=t1 at cT hR;generalize Q3F l (k+4) [45,45,62]=w1 at cT hR;rw[Q1B]at cT;clear u2 u3 jM j2 c2 yI;cases w1 with
  |true =>
   have hR:R=t1:=hR;refine fnN (Q8b true true true true t1 0 k 0) func194 rfl fun _ _=>?_
   with_reducible refine cv1 (Q0 l) ?_
   repeat' first
    |(with_reducible apply And.intro)
    |exact fun h=>absurd (show false=true from h) (by decide)
    |exact fun h=>absurd (show true=false from h) (by decide)
    |(intro _)
   all_goals first
    |exact c1
    |exact c2
    |exact cT
    |exact .pure rfl (.inl (by rw[hR]))
  |false =>
   have hR:R=-1:=hR;refine fnN (Q8b true true false true t1 0 k 0) func194 rfl fun _ _=>?_
   with_reducible refine cv1 (Q0 l) ?_
   repeat' first
    |(with_reducible apply And.intro)
    |exact fun h=>absurd (show false=true from h) (by decide)
    |exact fun h=>absurd (show true=false from h) (by decide)
    |(intro _)
   all_goals first
    |exact c1
    |exact c2
    |exact cT
    |exact .pure rfl (.inl (by rw[hR]))
 |false =>
  rw[jM]at c1;rw[if_neg (show ¬Q6 l k.toNat [60,33,45,45]=true by rw[jM];decide)]at hR
  cases jT:Q6 l k.toNat [60,63]with
  |true =>
   have j2:=Q17 l k.toNat _ (by omega) jT
   simp only[List.length_cons,List.length_nil]at j2;have cT:BCall prog 152 [.slc 1 (Q0 l),.val (.int .i64 5),.val (.int .i64 k),.val (.int .i64 2),.val (.string ⟨#[63,62]⟩)] [] (Q1B 5 k (Q3C l (k+2) [63,62]) (Q3F l (k+2) [63,62])) []:=Q8v l hl yA 5 k 2 h0 (by decide) (by omega) ⟨#[63,62]⟩ (by decide)
   obtain⟨_,u2,u3⟩:=Q5L l 5 k.toNat 2 [63,62] (by omega)
   rw[yI]at u2 u3;have u2:((Q14 l 5 k.toNat 2 [63,62]).2.1:Int)=Q3C l (k+2) [63,62]:=u2;have u3:(Q14 l 5 k.toNat 2 [63,62]).2.2=Q3F l (k+2) [63,62]:=u3;rw[if_pos jT]at hR;simp only[u2,u3]at hR;rw[jT]at c2;generalize Q3C l (k+2) [63,62]=t1 at cT hR;generalize Q3F l (k+2) [63,62]=w1 at cT hR;rw[Q1B]at cT;clear u2 u3 jM jT j2 yI;cases w1 with
   |true =>
    have hR:R=t1:=hR;refine fnN (Q8b false true true true 0 t1 k 0) func194 rfl fun _ _=>?_
    with_reducible refine cv1 (Q0 l) ?_
    repeat' first
     |(with_reducible apply And.intro)
     |exact fun h=>absurd (show false=true from h) (by decide)
     |exact fun h=>absurd (show true=false from h) (by decide)
     |(intro _)
    all_goals first
     |exact c1
     |exact c2
     |exact cT
     |exact .pure rfl (.inl (by rw[hR]))
   |false =>
    have hR:R=-1:=hR;refine fnN (Q8b false true true false 0 t1 k 0) func194 rfl fun _ _=>?_
    with_reducible refine cv1 (Q0 l) ?_
    repeat' first
     |(with_reducible apply And.intro)
     |exact fun h=>absurd (show false=true from h) (by decide)
     |exact fun h=>absurd (show true=false from h) (by decide)
     |(intro _)
    all_goals first
     |exact c1
     |exact c2
     |exact cT
     |exact .pure rfl (.inl (by rw[hR]))
  |false =>
   rw[jT]at c2;rw[if_neg (show ¬Q6 l k.toNat [60,63]=true by rw[jT];decide)]at hR
   have hgk:l.getD k.toNat 0=l[k.toNat]?.getD 0:=List.getD_eq_getElem?_getD;rw[hgk]at hR;by_cases jO:l[k.toNat]?.getD 0=60
   ·rw[if_pos jO]at hR
    have cF:=Qhw l hl k h0 (by omega) 62 62
    have gx:=QeG l k.toNat false;have zu:=Q38 l false l.length k.toNat (by omega) (by omega)
    have yj:=Qk2 l l.length k.toNat (by omega)
    obtain⟨F,hF⟩:=exq (Q9N l k.toNat 62 62:Int);rw[<-hF]at cF;rw[Q9N,show frF l k.toNat 62 62 k.toNat=Q8C l false k.toNat from gx,Q8C]at hF;simp only at hR
    generalize (QN l false k.toNat).1=p at hF hR zu yj;generalize (QN l false k.toNat).2=w at hF hR zu yj;clear gx jM jT yI hgk;cases w with
    |true =>
     have jv:=zu.2.2 rfl;rw[if_pos (.inl rfl)]at hF;have hF:F=(p:Int):=hF;have hR:R=F+1:=by rw[hR,if_pos rfl,hF];show((min (p+1) l.length:Nat):Int)=_;omega
     have zX:0<=F:=by omega
     have nS:F<n:=by have:=hn.eq;omega
     clear hF zu yj jv;refine fnN (Q8b false false true true 0 0 k F) func194 rfl fun _ _=>?_
     with_reducible refine cv1 (Q0 l) ?_
     have jB:=Q15 hn;with_reducible repeat' first|refine aU (zA jB <| zA ak <| zA zX <| zA nS <| zA jO jh) ?_|refine zA ?_ ?_|intro hb
     all_goals exact .pure rfl (.inl (by rw[hR];rfl))
    |false =>
     have jv:=yj rfl;rw[if_neg (by rw[jv];simp)]at hF
     have hF:F=-1:=hF;have hR:R=-1:=hR;have zX:F<0:=by omega
     clear hF zu yj jv;refine fnN (Q8b false false true true 0 0 k F) func194 rfl fun _ _=>?_
     with_reducible refine cv1 (Q0 l) ?_
     have jB:=Q15 hn;with_reducible repeat' first|refine aU (zA jB <| zA ak <| zA zX <| zA jO jh) ?_|refine zA ?_ ?_|intro hb
     all_goals exact .pure rfl (.inl (by rw[hR]))
   ·rw[if_neg jO]at hR
    have hR:R=k+1:=by rw[hR,if_pos rfl];show((k.toNat+1:Nat):Int)=_;omega
    clear jM jT yI hgk;refine fnN (Q8b false false true true 0 0 k 0) func194 rfl fun _ _=>?_
    with_reducible refine cv1 (Q0 l) ?_
    have jB:=Q15 hn;with_reducible repeat' first|refine aU (zA jB <| zA ak <| zA jO jh) ?_|refine zA ?_ ?_|intro hb
    all_goals exact .pure rfl (.inl (by rw[hR];rfl))
def Q4z(l:List Int)(x:Bool×Int):Nat×Bool:=if x.2<0 then(l.length,false)else if x.1=true then Q2v l (Q3M l x.2.toNat true).1 (Q3M l x.2.toNat true).2 else Q2v l x.2.toNat true
theorem QaW(l:List Int)(k:Nat):Q2v l k false=(l.length,false):=Q4J l k false (fun h=>by cases h.2)
theorem QkL(l:List Int)(k:Nat):Q3M l k false=(l.length,false):=Q4I l k false (fun h=>by cases h.2)
theorem Q5r{l:List Int}{i:Int}(h0:0<=i)(h1:i<l.length):∃h:i.toNat<l.length,l[i.toNat]?.getD 0=l[i.toNat]:=⟨by omega,by rw[List.getElem?_eq_getElem (by omega)];rfl⟩
theorem Qd1{l:List Int}{i:Int}(h:0<=i):Q4z l (true,i)=Q2v l (Q3M l i.toNat true).1 (Q3M l i.toNat true).2:=by
 show(if i<0 then((l.length,false):Nat×Bool)else if true=true then _ else _)=_
 rw[if_neg (by omega),if_pos rfl]
theorem Q6I{l:List Int}{i:Int}(h:0<=i):Q4z l (false,i)=Q2v l i.toNat true:=by
 show(if i<0 then((l.length,false):Nat×Bool)else if false=true then _ else _)=_
 rw[if_neg (by omega),if_neg (by decide)]
theorem QiK{l:List Int}{i:Int}(h0:0<=i)(h1:i<l.length)(h:l[i.toNat]?.getD 0=93):Q4z l (true,i)=Q4z l (false,i+1):=by
 obtain⟨hl,e⟩:=Q5r h0 h1;rw[e]at h;rw[Qd1 h0,Q6I (by omega),show(i+1).toNat=i.toNat+1 by omega,Q8Z l i.toNat hl h]
theorem Qmg{l:List Int}{i:Int}(h0:0<=i)(h1:i<l.length)(h:¬l[i.toNat]?.getD 0=93):Q4z l (true,i)=Q4z l (true,Q18 l i)/\(Q18 l i=-1\/(i<Q18 l i/\Q18 l i<=l.length)):=by
 obtain⟨hl,e⟩:=Q5r h0 h1;rw[e]at h;have hr:=Q5i l i.toNat hl;rw[Qd1 h0,Q7V l i.toNat hl h,Q18];cases hd:(Q3D l i.toNat).2 with
 |true =>
  rw[if_pos rfl];refine⟨?_,.inr (by omega)⟩
  rw[Qd1 (by omega),Int.toNat_natCast]
 |false =>
  rw[if_neg (by decide),QkL,QaW]
  exact⟨rfl,.inl rfl⟩
theorem Qml{l:List Int}{i:Int}(h0:0<=i)(h1:i<l.length)(h:l[i.toNat]?.getD 0=62):Q4z l (false,i)=((i+1).toNat,true):=by
 obtain⟨hl,e⟩:=Q5r h0 h1;rw[e]at h;rw[Q6I h0,Q8Q l i.toNat hl h,show(i+1).toNat=i.toNat+1 by omega]
theorem QmE{l:List Int}{i:Int}(h0:0<=i)(h1:i<l.length)(h:l[i.toNat]?.getD 0=91):Q4z l (false,i)=Q4z l (true,i+1):=by
 obtain⟨hl,e⟩:=Q5r h0 h1;rw[e]at h;rw[Q6I h0,Qd1 (by omega),show(i+1).toNat=i.toNat+1 by omega,Q93 l i.toNat hl h]
 rfl
theorem QdW{l:List Int}{i:Int}(h0:0<=i)(h1:i<l.length)(h:l[i.toNat]?.getD 0=34\/l[i.toNat]?.getD 0=39):Q4z l (false,i)=Q4z l (false,QC l i)/\(QC l i=-1\/(i<QC l i/\QC l i<=l.length)):=by
 obtain⟨hl,e⟩:=Q5r h0 h1;rw[e]at h;have hr:=Q2C l i.toNat hl;have hq:Q3k l[i.toNat]=true:=by rcases h with h|h<;>rw[h]<;>rfl
 rw[Q6I h0,Q8V l i.toNat hl (by omega) hq,QC]
 cases hd:(Q1a l i.toNat).2 with
 |true =>
  rw[if_pos rfl];refine⟨?_,.inr (by omega)⟩
  rw[Q6I (by omega),Int.toNat_natCast]
 |false =>
  rw[if_neg (by decide),QaW]
  exact⟨rfl,.inl rfl⟩
theorem Qi9{l:List Int}{i:Int}(h0:0<=i)(h1:i<l.length)(j4:¬l[i.toNat]?.getD 0=62)(zF:¬l[i.toNat]?.getD 0=34)(zf:¬l[i.toNat]?.getD 0=39)(zL:¬l[i.toNat]?.getD 0=91):Q4z l (false,i)=Q4z l (false,i+1):=by
 obtain⟨hl,e⟩:=Q5r h0 h1;rw[e]at j4 zF zf zL;have hq:Q3k l[i.toNat]=false:=by simp only[Q3k,Bool.or_eq_false_iff,beq_eq_false_iff_ne];exact⟨zF,zf⟩
 rw[Q6I h0,Q6I (by omega),show(i+1).toNat=i.toNat+1 by omega,Q7X l i.toNat hl j4 hq zL]
theorem QjP{l:List Int}{x:Bool×Int}(h:x.2<0\/(l.length:Int)<=x.2):Q4z l x=(l.length,false):=by
 unfold Q4z;split
 ·rfl
 ·rename_i h2
  have h3:¬x.2.toNat<l.length:=by omega
  split
  ·rw[Q4I l _ _ (fun h=>h3 h.1),QaW]
  ·exact Q4J l _ _ (fun h=>h3 h.1)
def Q9p(wi cl:Int->Int):Nat->List AV->List Ob->Option (AV×List Ob):=fun f args _=>match f,args with
 |194,[.slc 1 _,.val (.int .i64 k)]=>some (.val (.int .i64 (wi k)),[])
 |195,[.slc 1 _,.val (.int .i64 k)]=>some (.val (.int .i64 (cl k)),[])
 |_,_=>none
theorem QfX(l:List Int)(hl:l.length<=1000000000)(yA:I32 l)(k:Int)(h0:0<=k)(h1:k+9<=l.length):BCall prog 153 [.slc 1 (Q0 l),.val (.int .i64 k)] [] (Q1B 7 k ((Q3E l k.toNat).2.1:Nat) (Q3E l k.toNat).2.2) []:=by
 obtain⟨n,hn⟩:=QE l;have cW:∀i:Int,0<=i->i<n->BCall prog 194 [.slc 1 (Q0 l),.val (.int .i64 i)] [] (.val (.int .i64 (Q18 l i))) []:=fun i i0 i1=>Qij l hl yA i i0 (by have:=hn.eq;omega)
 have cC:∀i:Int,0<=i->i<n->BCall prog 195 [.slc 1 (Q0 l),.val (.int .i64 i)] [] (.val (.int .i64 (QC l i))) []:=fun i i0 i1=>Qih l hl i i0 (by have:=hn.eq;omega)
 have jq:=Qx l
 have hd:Q3E l k.toNat=(7,(Q4z l (false,k+9)).1,(Q4z l (false,k+9)).2):=by
  rw[Q3E,Q6I (by omega),show(k+9).toNat=k.toNat+9 by omega]
 rw[hd];obtain⟨rt,vP⟩:=exq (((Q4z l (false,k+9)).1:Nat):Int);obtain⟨rb,v5⟩:=exq ((Q4z l (false,k+9)).2:Bool);show BCall _ _ _ _ (Q1B 7 k ((Q4z l (false,k+9)).1:Nat) (Q4z l (false,k+9)).2) _;rw[<-vP,<-v5,Q1B];have pC:k+9<=n:=by have:=hn.eq;omega
 have qA:n<=1000000000:=by have:=hn.eq;omega
 clear hd h1;refine fnN (Q9p (Q18 l) (QC l)) func153 rfl fun _ _=>?_
 with_reducible refine cv3 (Q0 l) (Q18 l) (QC l) ?_
 have jB:=Q15 hn;with_reducible repeat' first|refine aU (zA jB <| zA pC h0) ?_|refine zA ?_ ?_|intro hb
 refine Q1h (Q9p (Q18 l) (QC l)) (Bool×Int) (fun x=>⟨[(0,.slc 1 (Q0 l)),(1,.val (.int .i64 k)),(4,.box 0 0),(5,.val (.bool x.1)),(6,.val (.int .i64 x.2))],[.box [.val (.int .i64 0),.val (.int .i64 0),.val (.int .i64 0),.val (.bool false)]]⟩) (fun x=>(-1<=x.2/\x.2<=n)/\Q4z l x=Q4z l (false,k+9)) (fun x=>if x.2<0 then 0 else(n-x.2+1).toNat) (false,k+9) ?_ ?_ ?_
 ·exact⟨⟨by show -1<=k+9;omega,pC⟩,rfl⟩
 ·refine⟨[some 0],_,rfl,?_⟩
  exact eq0
 ·rintro⟨op,i⟩ ⟨⟨qx,vE⟩,hi⟩
  have qF:-1<=i:=qx;have jK:i<=n:=vE;clear qx vE;by_cases hc:0<=i/\i<n
  ·obtain⟨hi0',jA⟩:=hc
   have jL:0<=i:=hi0';have j5:i<l.length:=by have:=hn.eq;omega
   have ai:=QJ (l:=l) (i:=i) jL j5;cases op with
   |true =>
    by_cases gr:l[i.toNat]?.getD 0=93
    ·have jH:=QiK jL j5 gr
     rw[hi]at jH;clear hi jB j5;with_reducible refine cv3 (Q0 l) (Q18 l) (QC l) ?_
     have jB:=Q15 hn;with_reducible repeat' first|refine aU (zA jB <| zA ai <| zA jA <| zA jL gr) ?_|refine zA ?_ ?_|intro hb
     all_goals
      refine⟨(false,i+1),⟨⟨by show -1<=i+1;omega,by show i+1<=n;omega⟩,jH.symm⟩,?_,[some 0],_,rfl,?_⟩
      ·show(if i+1<0 then 0 else(n-(i+1)+1).toNat)<(if i<0 then 0 else(n-i+1).toNat)
       rw[if_neg (by omega),if_neg (by omega)];omega
      exact eq0
    ·obtain⟨jH,c9⟩:=Qmg jL j5 gr
     have cWi:=cW i jL jA;have hwb:-1<=Q18 l i/\Q18 l i<=n/\(Q18 l i<0\/i<Q18 l i):=by have:=hn.eq;omega
     clear c9;rw[hi]at jH;clear hi jB j5;with_reducible refine cv3 (Q0 l) (Q18 l) (QC l) ?_
     have jB:=Q15 hn;with_reducible repeat' first|refine aU (zA jB <| zA ai <| zA jA <| zA jL gr) ?_|refine zA ?_ ?_|intro hb
     all_goals
      refine⟨(true,Q18 l i),⟨⟨by show -1<=Q18 l i;omega,by show Q18 l i<=n;omega⟩,jH.symm⟩,?_,[some 0],_,rfl,?_⟩
      ·show(if Q18 l i<0 then 0 else(n-Q18 l i+1).toNat)<(if i<0 then 0 else(n-i+1).toNat)
       rw[if_neg (show ¬i<0 by omega)]
       split<;>omega
      exact eq0
   |false =>
    by_cases j4:l[i.toNat]?.getD 0=62
    ·have jH:=Qml jL j5 j4
     rw[hi]at jH;have zE:rt=i+1:=by rw[vP,jH];show(((i+1).toNat:Nat):Int)=_;omega
     have gZ:rb=true:=by rw[v5,jH]
     clear hi jB j5 jH;with_reducible refine cv3 (Q0 l) (Q18 l) (QC l) ?_
     have jB:=Q15 hn;with_reducible repeat' first|refine aU (zA jB <| zA ai <| zA jA <| zA jL j4) ?_|refine zA ?_ ?_|intro hb
     all_goals
      with_reducible refine cv3 (Q0 l) (Q18 l) (QC l) ?_
      exact .pure rfl ⟨.inl rfl,.inl rfl,.inl (by rw[zE];rfl),.inl (by rw[gZ]),trivial⟩
    ·by_cases zL:l[i.toNat]?.getD 0=91
     ·have jH:=QmE jL j5 zL
      rw[hi]at jH;clear hi jB j5;with_reducible refine cv3 (Q0 l) (Q18 l) (QC l) ?_
      have jB:=Q15 hn;with_reducible repeat' first|refine aU (zA jB <| zA ai <| zA jA <| zA jL <| zA j4 zL) ?_|refine zA ?_ ?_|intro hb
      all_goals
       refine⟨(true,i+1),⟨⟨by show -1<=i+1;omega,by show i+1<=n;omega⟩,jH.symm⟩,?_,[some 0],_,rfl,?_⟩
       ·show(if i+1<0 then 0 else(n-(i+1)+1).toNat)<(if i<0 then 0 else(n-i+1).toNat)
        rw[if_neg (by omega),if_neg (by omega)];omega
       exact eq0
     ·by_cases zF:l[i.toNat]?.getD 0=34
      ·obtain⟨jH,c9⟩:=QdW jL j5 (.inl zF)
       have cCi:=cC i jL jA;have hwb:-1<=QC l i/\QC l i<=n/\(QC l i<0\/i<QC l i):=by have:=hn.eq;omega
       clear c9;rw[hi]at jH;clear hi jB j5;with_reducible refine cv3 (Q0 l) (Q18 l) (QC l) ?_
       have jB:=Q15 hn;with_reducible repeat' first|refine aU (zA jB <| zA ai <| zA jA <| zA jL <| zA j4 <| zA zL zF) ?_|refine zA ?_ ?_|intro hb
       all_goals
        refine⟨(false,QC l i),⟨⟨by show -1<=QC l i;omega,by show QC l i<=n;omega⟩,jH.symm⟩,?_,[some 0],_,rfl,?_⟩
        ·show(if QC l i<0 then 0 else(n-QC l i+1).toNat)<(if i<0 then 0 else(n-i+1).toNat)
         rw[if_neg (show ¬i<0 by omega)]
         split<;>omega
        exact eq0
      ·by_cases zf:l[i.toNat]?.getD 0=39
       ·obtain⟨jH,c9⟩:=QdW jL j5 (.inr zf)
        have cCi:=cC i jL jA;have hwb:-1<=QC l i/\QC l i<=n/\(QC l i<0\/i<QC l i):=by have:=hn.eq;omega
        clear c9;rw[hi]at jH;clear hi jB j5;with_reducible refine cv3 (Q0 l) (Q18 l) (QC l) ?_
        have jB:=Q15 hn;with_reducible repeat' first|refine aU (zA jB <| zA ai <| zA jA <| zA jL <| zA j4 <| zA zL <| zA zF zf) ?_|refine zA ?_ ?_|intro hb
        all_goals
         refine⟨(false,QC l i),⟨⟨by show -1<=QC l i;omega,by show QC l i<=n;omega⟩,jH.symm⟩,?_,[some 0],_,rfl,?_⟩
         ·show(if QC l i<0 then 0 else(n-QC l i+1).toNat)<(if i<0 then 0 else(n-i+1).toNat)
          rw[if_neg (show ¬i<0 by omega)]
          split<;>omega
         exact eq0
       ·have jH:=Qi9 jL j5 j4 zF zf zL
        rw[hi]at jH;clear hi jB j5;with_reducible refine cv3 (Q0 l) (Q18 l) (QC l) ?_
        have jB:=Q15 hn;with_reducible repeat' first|refine aU (zA jB <| zA ai <| zA jA <| zA jL <| zA j4 <| zA zL <| zA zF zf) ?_|refine zA ?_ ?_|intro hb
        all_goals
         refine⟨(false,i+1),⟨⟨by show -1<=i+1;omega,by show i+1<=n;omega⟩,jH.symm⟩,?_,[some 0],_,rfl,?_⟩
         ·show(if i+1<0 then 0 else(n-(i+1)+1).toNat)<(if i<0 then 0 else(n-i+1).toNat)
          rw[if_neg (by omega),if_neg (by omega)];omega
         exact eq0
  ·have vt:Q4z l (op,i)=(l.length,false):=QjP (by show i<0\/_<=i;have:=hn.eq;omega)
   rw[vt]at hi;have zE:rt=n:=by rw[vP,<-hi,hn.eq]
   have gZ:rb=false:=by rw[v5,<-hi]
   clear hi vt jB;by_cases xq:0<=i
   ·have zi:¬i<n:=fun h=>hc ⟨xq,h⟩
    with_reducible refine cv3 (Q0 l) (Q18 l) (QC l) ?_
    have jB:=Q15 hn;with_reducible repeat' first|refine aU (zA jB <| zA zi xq) ?_|refine zA ?_ ?_|intro hb
    all_goals
     rw[if_pos trivial];with_reducible refine cv3 (Q0 l) (Q18 l) (QC l) ?_
     exact .pure rfl ⟨.inl rfl,.inl rfl,.inl (by rw[zE];exact congrArg _ (congrArg _ jB)),.inl (by rw[gZ]),trivial⟩
   ·with_reducible refine cv3 (Q0 l) (Q18 l) (QC l) ?_
    have jB:=Q15 hn;with_reducible repeat' first|refine aU (zA jB xq) ?_|refine zA ?_ ?_|intro hb
    all_goals
     rw[if_pos trivial];with_reducible refine cv3 (Q0 l) (Q18 l) (QC l) ?_
     exact .pure rfl ⟨.inl rfl,.inl rfl,.inl (by rw[zE];exact congrArg _ (congrArg _ jB)),.inl (by rw[gZ]),trivial⟩
