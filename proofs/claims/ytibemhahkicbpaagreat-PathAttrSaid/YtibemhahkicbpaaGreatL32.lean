/- Lemmas, conditions told -/
import Derived.Test.YtibemhahkicbpaaGreatL25
import Derived.Test.YtibemhahkicbpaaGreatL26
import Derived.Test.YtibemhahkicbpaaGreatL27
import Derived.Test.YtibemhahkicbpaaGreatL28
import Derived.Test.YtibemhahkicbpaaGreatL29
import Derived.Test.YtibemhahkicbpaaGreatL30
set_option maxRecDepth 99999
set_option maxHeartbeats 0
set_option linter.unusedSimpArgs false
set_option linter.unusedVariables false
namespace Go.Proofs.YtibemhahkicbpaaGreat
open List(length_append length_singleton length_take append_nil map_drop map_take getD_eq_getElem?_getD)
open Nat(le_refl le_of_ble_eq_true)
open Go.RowKit Go.Lib
section
open Tryz
theorem QmO{L:List Int}{k:Nat}(h:Qp (L[k]?.getD 0)=false):Qj L k=0:=by
 unfold Qj;cases e:L[k]? with
 |none=>rfl
 |some c =>
  rw[e]at h;have h:Qp c=false:=h;show(if Qp c=true then _ else 0)=0
  rw[if_neg (by rw[h];decide)]
theorem Qkq(l:List Int)(hl:l.length<=1000000000)(hu:Un l)(f k to:Int)(h:Rng l k to):BCall prog 147 [.slc 1 (Q0 l),.val (.int .i64 f),.val (.int .i64 k),.val (.int .i64 to)] [] (Q1V (Q19 l f k to) k) []:=by
 have e0:=Q9v (l:=l) h.h0 h.h1;have z9:∀c:Int,l[k.toNat]?.getD 0=c->Qp c=false->Qj (l.take to.toNat) k.toNat=0:=fun c e hc=>QmO (by rw[e0,e];exact hc)
 by_cases jO:l[k.toNat]?.getD 0=60
 ·by_cases gG:k=f
  ·cases hs:Q6 (l.take to.toNat) k.toNat [60,47]with
   |true=>exact Qbq l hl hu f k to h gG jO hs
   |false=>exact QbL l hl hu f k to h gG jO hs
  ·exact Qjt l hl hu f k to h (by rw[jO];rfl) (z9 60 jO (by decide)) (by rw[jO];decide) gG jO
 ·cases j9:Qd (l[k.toNat]?.getD 0)with
  |true=>exact Qf1 l hl hu f k to h jO j9
  |false =>
   rcases Nat.eq_zero_or_pos (Qj (l.take to.toNat) k.toNat)with jF|jF
   ·by_cases jx:l[k.toNat]?.getD 0=61
    ·exact QlQ l hl hu f k to h jO j9 jF jx
    ·by_cases q34:l[k.toNat]?.getD 0=34
     ·by_cases hv:0<Q1E (QM l k to)
      ·exact Qe2 l hl hu f k to h jO j9 jF jx q34 hv
      ·exact QeD l hl hu f k to h jO j9 jF jx q34 hv
     ·by_cases q39:l[k.toNat]?.getD 0=39
      ·by_cases hv:0<Q1E (QM l k to)
       ·exact Qfq l hl hu f k to h jO j9 jF jx q39 hv
       ·exact Qep l hl hu f k to h jO j9 jF jx q39 hv
      ·have qT:¬(l[k.toNat]?.getD 0=34\/l[k.toNat]?.getD 0=39):=fun e=>e.elim q34 q39
       by_cases j4:l[k.toNat]?.getD 0=62
       ·by_cases jU:k+1=to
        ·exact QkX l hl hu f k to h jO j9 jF jx qT jU j4
        ·exact QiZ l hl hu f k to h jO j9 jF jx qT jU j4
       ·by_cases vM:l[k.toNat]?.getD 0=47
        ·by_cases jn:k+2=to
         ·by_cases gM:l[(k+1).toNat]?.getD 0=62
          ·exact QlT l hl hu f k to h jO j9 jF jx qT jn vM gM
          ·exact Qjj l hl hu f k to h jO j9 jF jx qT jn vM gM
         ·exact QiI l hl hu f k to h jO j9 jF jx qT jn vM
        ·exact QiO l hl hu f k to h jO j9 jF jx qT j4 vM
   ·exact QfK l hl hu f k to h jO j9 jF
def QhF(kd nx:Int->Int):Nat->List AV->List Ob->Option (AV×List Ob):=fun f args _=>match f,args with
 |147,[.slc 1 _,.val (.int .i64 _),.val (.int .i64 k),.val (.int .i64 _)]=>some (.agg [.val (.int .i64 (kd k)),.val (.int .i64 k),.val (.int .i64 (nx k))],[])
 |_,_=>none
theorem Q6m(l:List Int)(hl:l.length<=1000000)(hu:Un l)(from_ to:Int)(h0:0<=from_)(h1:from_<=to)(h2:to<=l.length) :
  BCall prog 109 [.slc 1 (Q0 l),.val (.int .i64 from_),.val (.int .i64 to)] [] (.slc 3 (Q8 (QS l from_ to))) []:=by
 obtain⟨n,hn⟩:=QE l;have jt:=Qx l;have pD:to<=n:=by rw[hn.eq];exact h2
 have vu:n<=1000000:=by rw[hn.eq];omega
 obtain⟨kd,jD⟩:=exq (fun k:Int=>(Q19 l from_ k to).1:Int->Int)
 obtain⟨nx,jH⟩:=exq (fun k:Int=>k+(Q19 l from_ k to).2:Int->Int)
 have cP:∀k:Int,0<=k->k<to->BCall prog 147 [.slc 1 (Q0 l),.val (.int .i64 from_),.val (.int .i64 k),.val (.int .i64 to)] [] (.agg [.val (.int .i64 (kd k)),.val (.int .i64 k),.val (.int .i64 (nx k))]) []:=fun k k0 k1=>by
  rw[jD,jH];exact Qkq l (by omega) hu from_ k to ⟨k0,k1,h2⟩
 have j8:∀k:Int,from_<=k->k<to->k<nx k/\nx k<=to/\QB k (decide (k=from_)) (QM l k to)=⟨kd k,k,nx k⟩::QB (nx k) (decide (nx k=from_)) (QM l (nx k) to):=fun k k0 k1=>by
  have hr:Rng l k to:=⟨by omega,k1,h2⟩
  have hp:=Q3n (QM l k to) (decide (k=from_)) hr.ne;have jE:=hr.len;have e3:=Q2f hr.ne k (decide (k=from_));obtain⟨K,hK⟩:=exq ((Qt (QM l k to) (decide (k=from_))).1);obtain⟨N,hN⟩:=exq ((Qt (QM l k to) (decide (k=from_))).2);rw[<-hK,<-hN]at e3;rw[<-hN]at hp;have e1:nx k=k+N:=by rw[jH,hN];rfl
  have e2:kd k=K:=by rw[jD,hK];rfl
  have e4:decide (k+N=from_)=false:=decide_eq_false (by omega)
  have e5:(QM l k to).drop N.toNat=QM l (k+N) to:=by
   rw[QM,QM,List.drop_drop];congr 1
   omega
  rw[e1,e2,e3,e4,e5];exact⟨by omega,by omega,rfl⟩
 clear jD jH;refine fnN (QhF kd nx) func109 rfl fun _ _=>?_
 with_reducible refine cv1 (Q0 l) ?_
 have en:=hn.eq;have kT:(((Q0 l).length:Nat):Int)=n:=by omega
 with_reducible repeat' first|refine aU (zA kT <| zA h0 <| zA h1 pD) ?_|refine zA ?_ ?_|intro hb
 refine Q1h (QhF kd nx) (List TPart×Int) (fun x=>⟨[(0,.slc 1 (Q0 l)),(1,.val (.int .i64 from_)),(2,.val (.int .i64 to)),(7,.row 0 0),(8,.val (.int .i64 x.2))],[.row 60 3 false 0 (Q8 x.1)]⟩) (fun x=>from_<=x.2/\x.2<=to/\x.1++QB x.2 (decide (x.2=from_)) (QM l x.2 to)=QS l from_ to/\(x.1.length:Int)<=x.2) (fun x=>(to-x.2).toNat) ([],from_) ?_ ?_ ?_
 ·exact⟨by omega,h1,by simp[QS,QM],h0⟩
 ·exact⟨[none],_,rfl,by simp[Qe,lk,Q8]⟩
 ·rintro⟨out,k⟩ ⟨jq,qE,jb,j5⟩
  simp only at jq qE jb j5
  have jR:=Q1d out;have hbd:out.length<=1000000:=by omega
  obtain⟨q,hq⟩:=QE out;have qJ:q<=k:=by rw[hq.eq];exact j5
  by_cases hk:k<to
  ·obtain⟨s1,s2,s3⟩:=j8 k jq hk
   have cPk:=cP k (by omega) hk
   have hG:out++[⟨kd k,k,nx k⟩]++QB (nx k) (decide (nx k=from_)) (QM l (nx k) to)=QS l from_ to:=by
    rw[<-jb,s3];simp
   clear s3 en kT;with_reducible refine cv2 (Q0 l) (Q8 out) ?_
   have eq:=hq.eq;with_reducible repeat' first|refine aU (zA jR <| zA hk jq) ?_|refine zA ?_ ?_|intro hb
   all_goals exact⟨(out++[⟨kd k,k,nx k⟩],nx k),⟨by simp only;omega,s2,hG,by show((out++[_]).length:Int)<=nx k;simp only[length_append,length_singleton];omega⟩,by simp only;omega,[some 0],_,rfl,by simp[Qe,lk,std,QaN,Q7O]⟩
  ·have hG:out=QS l from_ to:=by
    have:QM l k to=[]:=List.drop_eq_nil_of_le (by rw[length_take];omega)
    rw[<-jb,this,QB,dif_pos rfl,append_nil]
   clear en kT;with_reducible refine cv2 (Q0 l) (Q8 out) ?_
   with_reducible repeat' first|refine aU hk ?_|refine zA ?_ ?_|intro hb
   all_goals
    rw[if_pos trivial];with_reducible refine cv2 (Q0 l) (Q8 out) ?_
    exact .pure rfl (.inl (by rw[hG]))
def kdF(l:List TPart)(a:Int):Int:=(l[a.toNat]?.getD Qm).kind
def bkF(l:List TPart)(a:Int):Int:=if kdF l a=3 then a+1 else a
def nxF(l:List TPart)(a:Int):Int:=match Q1q l a with|some x=>x.2|none=>-1
theorem Q4t(l:List TPart)(a k:Int)(hk:k≠0):QO l a.toNat [k]=decide (kdF l a=k):=by
 rw[QO,kdF];cases e:l[a.toNat]? with
 |none =>
  rw[List.getElem?_eq_none_iff]at e;rw[List.drop_of_length_le e];show false=decide ((0:Int)=k);rw[decide_eq_false (fun h=>hk h.symm)]
 |some x =>
  obtain⟨h1,h2⟩:=List.getElem?_eq_some_iff.1 e;rw[List.drop_eq_getElem_cons h1,h2];show([x.kind] == [k])=decide (x.kind=k)
  by_cases h:x.kind=k<;>simp[h]
theorem Qhv(l:List TPart)(a:Int):Q3y l a 3=bkF l a:=by
 rw[Q3y,bkF,Q4t l a 3 (by decide)]
 simp only[decide_eq_true_eq]
theorem Q8A(l:List TPart)(a:Int):Q1q l a=if kdF l a=3/\kdF l (a+1)=2 then if kdF l (bkF l (a+2))=4 then if kdF l (bkF l (bkF l (a+2)+1))=5 then some (Q51 (l[(a+1).toNat]?.getD Qm) (l[a.toNat]?.getD Qm) (l[(bkF l (bkF l (a+2)+1)).toNat]?.getD Qm),bkF l (bkF l (a+2)+1)+1)else none else none else none:=by
 unfold Q1q;simp only[Q4t l _ 3 (by decide),Q4t l _ 2 (by decide),Q4t l _ 4 (by decide),Q4t l _ 5 (by decide),Qhv,decide_eq_true_eq,Q51]
theorem Q9i{l:List TPart}{a k:Int}(h0:0<=a)(h:kdF l a=k)(hk:k≠0):a<l.length:=by
 by_cases h1:a<l.length
 ·exact h1
 ·rw[kdF,List.getElem?_eq_none (by omega)]at h
  exact absurd h.symm hk
theorem Q3V(l:List TPart)(hl:l.length<=1000000000)(a:Int)(h0:0<=a):BCall prog 110 [.slc 3 (Q8 l),.val (.int .i64 a)] [] (.val (.int .i64 (kdF l a))) []:=by
 obtain⟨n,hn⟩:=QE l;have jR:=Q1d l;obtain⟨K,hK⟩:=exq (kdF l a);rw[<-hK];have e1:a<n->(Q8 l)[a.toNat]?.getD .dead=(l[a.toNat]?.getD Qm).av:=fun h=>Q2a h0 (by have:=hn.eq;omega)
 have e2:¬a<n->K=0:=fun h=>by
  rw[hK,kdF,List.getElem?_eq_none (by have:=hn.eq;omega)];rfl
 by_cases jA:a<n
 ·have jV:=e1 jA
  have hK2:(l[a.toNat]?.getD Qm).kind=K:=by rw[hK];rfl
  obtain⟨x,hx⟩:=exq (l[a.toNat]?.getD Qm);rw[<-hx]at jV hK2;rw[TPart.av]at jV;clear e1 e2 hK hx;refine fnN (cs0) func110 rfl fun _ _=>?_
  with_reducible refine cv1 (Q8 l) ?_
  have jB:(((Q8 l).length:Nat):Int)=n:=by have:=hn.eq;omega
  with_reducible repeat' first|refine aU (zA jB <| zA jV <| zA h0 jA) ?_|refine zA ?_ ?_|intro hb
  all_goals exact .pure rfl (.inl (by simp[std,jV,AV.cells,intOf,hK2]))
 ·have hK2:=e2 jA
  clear e1 e2 hK;refine fnN (cs0) func110 rfl fun _ _=>?_
  with_reducible refine cv1 (Q8 l) ?_
  have jB:(((Q8 l).length:Nat):Int)=n:=by have:=hn.eq;omega
  with_reducible repeat' first|refine aU (zA jB <| zA h0 jA) ?_|refine zA ?_ ?_|intro hb
  all_goals exact .pure rfl (.inl (by rw[hK2]))
def Qne(K:Int->Int):Nat->List AV->List Ob->Option (AV×List Ob):=fun f args _=>match f,args with
 |110,[_,.val (.int .i64 a)]=>some (.val (.int .i64 (K a)),[])
 |_,_=>none
theorem Q4q(l:List TPart)(hl:l.length<=1000000000)(a:Int)(h0:0<=a)(h1:a<=1000000000):BCall prog 112 [.slc 3 (Q8 l),.val (.int .i64 a)] [] (.val (.int .i64 (bkF l a))) []:=by
 obtain⟨K,hK⟩:=exq (kdF l);have cK:=Q3V l hl a h0;rw[<-hK]at cK;by_cases h3:K a=3
 ·have e:bkF l a=a+1:=by rw[bkF,<-hK,if_pos h3]
  rw[e];clear hK e;refine fnN (Qne K) func112 rfl fun _ _=>?_
  with_reducible refine cv1 (Q8 l) ?_
  refine⟨cK,?_⟩;with_reducible repeat' first|refine aU (zA h3 <| zA h0 h1) ?_|refine zA ?_ ?_|intro hb
  all_goals exact .pure rfl (.inl rfl)
 ·have e:bkF l a=a:=by rw[bkF,<-hK,if_neg h3]
  rw[e];clear hK e;refine fnN (Qne K) func112 rfl fun _ _=>?_
  with_reducible refine cv1 (Q8 l) ?_
  refine⟨cK,?_⟩;with_reducible repeat' first|refine aU (zA h3 <| zA h0 h1) ?_|refine zA ?_ ?_|intro hb
  all_goals exact .pure rfl (.inl rfl)
def Q7q(K B:Int->Int):Nat->List AV->List Ob->Option (AV×List Ob):=fun f args _=>match f,args with
 |110,[_,.val (.int .i64 a)]=>some (.val (.int .i64 (K a)),[])
 |112,[_,.val (.int .i64 a)]=>some (.val (.int .i64 (B a)),[])
 |_,_=>none
theorem QkH(l:List TPart)(hl:l.length<=1000000)(a:Int)(h0:0<=a)(h1:a<=1000000)(g:¬kdF l a=3):BCall prog 111 [.slc 3 (Q8 l),.val (.int .i64 a)] [] (.tup [.agg (QH l a).cs,.val (.int .i64 (nxF l a))]) []:=by
 have hR:Q1q l a=none:=by rw[Q8A,if_neg (fun e=>g e.1)]
 have e1:QH l a=tattr0:=by rw[QH,hR]
 have e2:nxF l a=-1:=by rw[nxF,hR]
 rw[e1,e2];clear e1 e2 hR;have qp:∀a,0<=a->a<=bkF l a/\bkF l a<=a+1:=fun a _=>by rw[bkF];split<;>omega
 have cK:=Q3V l (by omega)
 have cB:=Q4q l (by omega)
 obtain⟨n,hn⟩:=QE l;have jR:=Q1d l;have qD:n<=1000000:=by rw[hn.eq];omega
 obtain⟨K,hK⟩:=exq (kdF l);obtain⟨B,hB⟩:=exq (bkF l);simp only[<-hK,<-hB]at *;clear hK hB;have b1:=qp (a+2) (by omega)
 have b2:=qp (B (a+2)+1) (by omega)
 have c1:=cK a h0;have c2:=cK (a+1) (by omega)
 have c3:=cB (a+2) (by omega) (by omega)
 have c4:=cK (B (a+2)) (by omega)
 have c5:=cB (B (a+2)+1) (by omega) (by omega)
 have c6:=cK (B (B (a+2)+1)) (by omega)
 clear cK cB qp;refine fnN (Q7q K B) func111 rfl fun _ _=>?_
 with_reducible refine cv1 (Q8 l) ?_
 have jB:(((Q8 l).length:Nat):Int)=n:=by have:=hn.eq;omega
 with_reducible repeat' first|refine aU (zA jB <| zA h0 g) ?_|refine zA ?_ ?_|intro hb
 all_goals first
  |exact c1
  |exact c2
  |exact c3
  |exact c4
  |exact c5
  |exact c6
  |exact .pure rfl ⟨⟨.inl rfl,.inl rfl,.inl rfl,.inl rfl,.inl rfl,.inl rfl,.inl rfl,.inl rfl,.inl rfl,trivial⟩,.inl rfl,trivial⟩
theorem Qlq(l:List TPart)(hl:l.length<=1000000)(a:Int)(h0:0<=a)(h1:a<=1000000)(g3:kdF l a=3)(g:¬kdF l (a+1)=2):BCall prog 111 [.slc 3 (Q8 l),.val (.int .i64 a)] [] (.tup [.agg (QH l a).cs,.val (.int .i64 (nxF l a))]) []:=by
 have hR:Q1q l a=none:=by rw[Q8A,if_neg (fun e=>g e.2)]
 have e1:QH l a=tattr0:=by rw[QH,hR]
 have e2:nxF l a=-1:=by rw[nxF,hR]
 rw[e1,e2];clear e1 e2 hR;have qp:∀a,0<=a->a<=bkF l a/\bkF l a<=a+1:=fun a _=>by rw[bkF];split<;>omega
 have cK:=Q3V l (by omega)
 have cB:=Q4q l (by omega)
 obtain⟨n,hn⟩:=QE l;have jR:=Q1d l;have qD:n<=1000000:=by rw[hn.eq];omega
 obtain⟨K,hK⟩:=exq (kdF l);obtain⟨B,hB⟩:=exq (bkF l);simp only[<-hK,<-hB]at *;clear hK hB;have b1:=qp (a+2) (by omega)
 have b2:=qp (B (a+2)+1) (by omega)
 have c1:=cK a h0;have c2:=cK (a+1) (by omega)
 have c3:=cB (a+2) (by omega) (by omega)
 have c4:=cK (B (a+2)) (by omega)
 have c5:=cB (B (a+2)+1) (by omega) (by omega)
 have c6:=cK (B (B (a+2)+1)) (by omega)
 clear cK cB qp;refine fnN (Q7q K B) func111 rfl fun _ _=>?_
 with_reducible refine cv1 (Q8 l) ?_
 have jB:(((Q8 l).length:Nat):Int)=n:=by have:=hn.eq;omega
 with_reducible repeat' first|refine aU (zA jB <| zA h0 <| zA g3 g) ?_|refine zA ?_ ?_|intro hb
 all_goals first
  |exact c1
  |exact c2
  |exact c3
  |exact c4
  |exact c5
  |exact c6
  |exact .pure rfl ⟨⟨.inl rfl,.inl rfl,.inl rfl,.inl rfl,.inl rfl,.inl rfl,.inl rfl,.inl rfl,.inl rfl,trivial⟩,.inl rfl,trivial⟩
theorem QkQ(l:List TPart)(hl:l.length<=1000000)(a:Int)(h0:0<=a)(h1:a<=1000000)(g3:kdF l a=3)(g2:kdF l (a+1)=2)(g:¬kdF l (bkF l (a+2))=4):BCall prog 111 [.slc 3 (Q8 l),.val (.int .i64 a)] [] (.tup [.agg (QH l a).cs,.val (.int .i64 (nxF l a))]) []:=by
 have hR:Q1q l a=none:=by rw[Q8A,if_pos ⟨g3,g2⟩,if_neg g]
 have e1:QH l a=tattr0:=by rw[QH,hR]
 have e2:nxF l a=-1:=by rw[nxF,hR]
 rw[e1,e2];clear e1 e2 hR;have qp:∀a,0<=a->a<=bkF l a/\bkF l a<=a+1:=fun a _=>by rw[bkF];split<;>omega
 have cK:=Q3V l (by omega)
 have cB:=Q4q l (by omega)
 obtain⟨n,hn⟩:=QE l;have jR:=Q1d l;have qD:n<=1000000:=by rw[hn.eq];omega
 obtain⟨K,hK⟩:=exq (kdF l);obtain⟨B,hB⟩:=exq (bkF l);simp only[<-hK,<-hB]at *;clear hK hB;have b1:=qp (a+2) (by omega)
 have b2:=qp (B (a+2)+1) (by omega)
 have c1:=cK a h0;have c2:=cK (a+1) (by omega)
 have c3:=cB (a+2) (by omega) (by omega)
 have c4:=cK (B (a+2)) (by omega)
 have c5:=cB (B (a+2)+1) (by omega) (by omega)
 have c6:=cK (B (B (a+2)+1)) (by omega)
 clear cK cB qp;refine fnN (Q7q K B) func111 rfl fun _ _=>?_
 with_reducible refine cv1 (Q8 l) ?_
 have jB:(((Q8 l).length:Nat):Int)=n:=by have:=hn.eq;omega
 with_reducible repeat' first|refine aU (zA jB <| zA h0 <| zA g3 <| zA g2 g) ?_|refine zA ?_ ?_|intro hb
 all_goals first
  |exact c1
  |exact c2
  |exact c3
  |exact c4
  |exact c5
  |exact c6
  |exact .pure rfl ⟨⟨.inl rfl,.inl rfl,.inl rfl,.inl rfl,.inl rfl,.inl rfl,.inl rfl,.inl rfl,.inl rfl,trivial⟩,.inl rfl,trivial⟩
theorem QjQ(l:List TPart)(hl:l.length<=1000000)(a:Int)(h0:0<=a)(h1:a<=1000000)(g3:kdF l a=3)(g2:kdF l (a+1)=2)(g4:kdF l (bkF l (a+2))=4)(g:¬kdF l (bkF l (bkF l (a+2)+1))=5):BCall prog 111 [.slc 3 (Q8 l),.val (.int .i64 a)] [] (.tup [.agg (QH l a).cs,.val (.int .i64 (nxF l a))]) []:=by
 have hR:Q1q l a=none:=by rw[Q8A,if_pos ⟨g3,g2⟩,if_pos g4,if_neg g]
 have e1:QH l a=tattr0:=by rw[QH,hR]
 have e2:nxF l a=-1:=by rw[nxF,hR]
 rw[e1,e2];clear e1 e2 hR;have qp:∀a,0<=a->a<=bkF l a/\bkF l a<=a+1:=fun a _=>by rw[bkF];split<;>omega
 have cK:=Q3V l (by omega)
 have cB:=Q4q l (by omega)
 obtain⟨n,hn⟩:=QE l;have jR:=Q1d l;have qD:n<=1000000:=by rw[hn.eq];omega
 obtain⟨K,hK⟩:=exq (kdF l);obtain⟨B,hB⟩:=exq (bkF l);simp only[<-hK,<-hB]at *;clear hK hB;have b1:=qp (a+2) (by omega)
 have b2:=qp (B (a+2)+1) (by omega)
 have c1:=cK a h0;have c2:=cK (a+1) (by omega)
 have c3:=cB (a+2) (by omega) (by omega)
 have c4:=cK (B (a+2)) (by omega)
 have c5:=cB (B (a+2)+1) (by omega) (by omega)
 have c6:=cK (B (B (a+2)+1)) (by omega)
 clear cK cB qp;refine fnN (Q7q K B) func111 rfl fun _ _=>?_
 with_reducible refine cv1 (Q8 l) ?_
 have jB:(((Q8 l).length:Nat):Int)=n:=by have:=hn.eq;omega
 with_reducible repeat' first|refine aU (zA jB <| zA h0 <| zA g3 <| zA g2 <| zA g4 g) ?_|refine zA ?_ ?_|intro hb
 all_goals first
  |exact c1
  |exact c2
  |exact c3
  |exact c4
  |exact c5
  |exact c6
  |exact .pure rfl ⟨⟨.inl rfl,.inl rfl,.inl rfl,.inl rfl,.inl rfl,.inl rfl,.inl rfl,.inl rfl,.inl rfl,trivial⟩,.inl rfl,trivial⟩
theorem Qik(l:List TPart)(hl:l.length<=1000000)(a:Int)(h0:0<=a)(h1:a<=1000000)(g3:kdF l a=3)(g2:kdF l (a+1)=2)(g4:kdF l (bkF l (a+2))=4)(g5:kdF l (bkF l (bkF l (a+2)+1))=5):BCall prog 111 [.slc 3 (Q8 l),.val (.int .i64 a)] [] (.tup [.agg (QH l a).cs,.val (.int .i64 (nxF l a))]) []:=by
 have hR:Q1q l a=some (Q51 (l[(a+1).toNat]?.getD Qm) (l[a.toNat]?.getD Qm) (l[(bkF l (bkF l (a+2)+1)).toNat]?.getD Qm),bkF l (bkF l (a+2)+1)+1):=by rw[Q8A,if_pos ⟨g3,g2⟩,if_pos g4,if_pos g5]
 have e1:QH l a=Q51 (l[(a+1).toNat]?.getD Qm) (l[a.toNat]?.getD Qm) (l[(bkF l (bkF l (a+2)+1)).toNat]?.getD Qm):=by rw[QH,hR]
 have e2:nxF l a=bkF l (bkF l (a+2)+1)+1:=by rw[nxF,hR]
 rw[e1,e2];clear e1 e2 hR;have qp:∀a,0<=a->a<=bkF l a/\bkF l a<=a+1:=fun a _=>by rw[bkF];split<;>omega
 have cK:=Q3V l (by omega)
 have cB:=Q4q l (by omega)
 obtain⟨n,hn⟩:=QE l;have jR:=Q1d l;have qD:n<=1000000:=by rw[hn.eq];omega
 have lt1:a<n:=by rw[hn.eq];exact Q9i h0 g3 (by decide)
 have lt2:a+1<n:=by rw[hn.eq];exact Q9i (by omega) g2 (by decide)
 have lt3:bkF l (bkF l (a+2)+1)<n:=by
  have b1:=qp (a+2) (by omega)
  have b2:=qp (bkF l (a+2)+1) (by omega)
  rw[hn.eq];exact Q9i (by omega) g5 (by decide)
 have r1:(Q8 l)[a.toNat]?.getD .dead=(l[a.toNat]?.getD Qm).av:=Q2a h0 (by have:=hn.eq;omega)
 have r2:(Q8 l)[(a+1).toNat]?.getD .dead=(l[(a+1).toNat]?.getD Qm).av:=Q2a (by omega) (by have:=hn.eq;omega)
 have r3:(Q8 l)[(bkF l (bkF l (a+2)+1)).toNat]?.getD .dead=(l[(bkF l (bkF l (a+2)+1)).toNat]?.getD Qm).av:=Q2a (by have b1:=qp (a+2) (by omega);have b2:=qp (bkF l (a+2)+1) (by omega);omega) (by have:=hn.eq;omega)
 obtain⟨x,hx⟩:=exq (l[a.toNat]?.getD Qm);obtain⟨y,hy⟩:=exq (l[(a+1).toNat]?.getD Qm);obtain⟨q,hq⟩:=exq (l[(bkF l (bkF l (a+2)+1)).toNat]?.getD Qm);rw[<-hx]at r1;rw[<-hy]at r2;rw[<-hq]at r3;rw[<-hx,<-hy,<-hq];rw[TPart.av]at r1 r2 r3;clear hx hy hq;obtain⟨K,hK⟩:=exq (kdF l);obtain⟨B,hB⟩:=exq (bkF l);simp only[<-hK,<-hB]at *;clear hK hB;have b1:=qp (a+2) (by omega)
 have b2:=qp (B (a+2)+1) (by omega)
 have c1:=cK a h0;have c2:=cK (a+1) (by omega)
 have c3:=cB (a+2) (by omega) (by omega)
 have c4:=cK (B (a+2)) (by omega)
 have c5:=cB (B (a+2)+1) (by omega) (by omega)
 have c6:=cK (B (B (a+2)+1)) (by omega)
 clear cK cB qp;refine fnN (Q7q K B) func111 rfl fun _ _=>?_
 with_reducible refine cv1 (Q8 l) ?_
 have jB:(((Q8 l).length:Nat):Int)=n:=by have:=hn.eq;omega
 with_reducible repeat' first|refine aU (zA jB <| zA h0 <| zA g3 <| zA g2 <| zA g4 <| zA g5 <| zA r1 <| zA r2 <| zA r3 <| zA lt1 <| zA lt2 lt3) ?_|refine zA ?_ ?_|intro hb
 all_goals first
  |exact c1
  |exact c2
  |exact c3
  |exact c4
  |exact c5
  |exact c6
  |(refine .pure rfl ⟨⟨.inl ?_,.inl ?_,.inl ?_,.inl ?_,.inl ?_,.inl ?_,.inl ?_,.inl ?_,.inl ?_,trivial⟩,.inl rfl,trivial⟩<;>simp[std,r1,r2,r3,AV.cells,intOf,Q51])
theorem Qd6(l:List TPart)(hl:l.length<=1000000)(a:Int)(h0:0<=a)(h1:a<=1000000):BCall prog 111 [.slc 3 (Q8 l),.val (.int .i64 a)] [] (.tup [.agg (QH l a).cs,.val (.int .i64 (nxF l a))]) []:=by
 by_cases g3:kdF l a=3
 ·by_cases g2:kdF l (a+1)=2
  ·by_cases g4:kdF l (bkF l (a+2))=4
   ·by_cases g5:kdF l (bkF l (bkF l (a+2)+1))=5
    ·exact Qik l hl a h0 h1 g3 g2 g4 g5
    ·exact QjQ l hl a h0 h1 g3 g2 g4 g5
   ·exact QkQ l hl a h0 h1 g3 g2 g4
  ·exact Qlq l hl a h0 h1 g3 g2
 ·exact QkH l hl a h0 h1 g3
theorem Qg0{r:List Int}{b:Bool}(h:(Qt r b).1=1):(Qt r b).2=1\/(Qt r b).2=2:=by
 unfold Qt at h ⊢;split
 ·exact .inr rfl
 ·rename_i h1
  rw[if_neg h1]at h;split
  ·exact .inl rfl
  ·rename_i h2
   rw[if_neg h2]at h;repeat' split at h
   all_goals (simp only at h;omega)
theorem QhQ{l:List Int}{f u:Int}(h:kdF (QS l f u) 0=1):((QS l f u)[0]?.getD Qm).to-((QS l f u)[0]?.getD Qm).from_=1\/((QS l f u)[0]?.getD Qm).to-((QS l f u)[0]?.getD Qm).from_=2:=by
 unfold QS at h ⊢;by_cases hr:(l.take u.toNat).drop f.toNat=[]
 ·rw[hr,kdF,QB,dif_pos rfl]at h
  exact absurd h (by decide)
 ·rw[Q2f hr]at h ⊢
  have h:(Qt ((l.take u.toNat).drop f.toNat) true).1=1:=h;have h2:=Qg0 h;show f+(Qt ((l.take u.toNat).drop f.toNat) true).2-f=1\/f+(Qt ((l.take u.toNat).drop f.toNat) true).2-f=2;omega
theorem Q5M(l:List TPart):QO l 0 [1,2]=decide (kdF l 0=1/\kdF l 1=2):=by
 rw[QO,kdF,kdF];match l with
 | []=>rfl
 | [x] =>
  show([x.kind] == [1,2])=decide (x.kind=1/\(0:Int)=2)
  simp
 |x::y::r =>
  show([x.kind,y.kind] == [1,2])=decide (x.kind=1/\y.kind=2)
  by_cases h:x.kind=1<;>by_cases h2:y.kind=2<;>simp[h,h2]
theorem QkO{l:List TPart}{a:Int}(h0:0<=a)(h1:a<=l.length):(Q1p l a=true/\a<nxF l a/\nxF l a<=l.length/\Q1z l a=nxF l a)\/(Q1p l a=false/\nxF l a=-1):=by
 cases hg:Q1q l a with
 |none=>exact .inr ⟨by rw[Q1p,hg];rfl,by rw[nxF,hg]⟩
 |some x =>
  have hr:=QbO h0 h1 (x:=x.1) (b:=x.2) hg;exact .inl ⟨by rw[Q1p,hg];rfl,by rw[nxF,hg];exact hr.1,by rw[nxF,hg];exact hr.2,by rw[Q1z,nxF,hg]⟩
theorem Q52{l:List Int}{f u:Int}:(QS l f u).length<=l.length:=Q45 l f u
def Q58(ps:List AV)(K B:Int->Int)(ce:Int->Nat->Int)(nx:Int->Int):Nat->List AV->List Ob->Option (AV×List Ob):=fun f args _=>match f,args with
 |109,_=>some (.slc 3 ps,[])
 |110,[_,.val (.int .i64 a)]=>some (.val (.int .i64 (K a)),[])
 |112,[_,.val (.int .i64 a)]=>some (.val (.int .i64 (B a)),[])
 |111,[_,.val (.int .i64 a)]=>some (.tup [.agg [.val (.int .i64 (ce a 0)),.val (.int .i64 (ce a 1)),.val (.int .i64 (ce a 2)),.val (.int .i64 (ce a 3)),.val (.int .i64 (ce a 4)),.val (.int .i64 (ce a 5)),.val (.int .i64 (ce a 6)),.val (.int .i64 (ce a 7)),.val (.int .i64 (ce a 8))],.val (.int .i64 (nx a))],[])
 |_,_=>none
def Q8H(t:TTag):AV:=.agg [.val (.int .i64 t.name.kind),.val (.int .i64 t.name.from_),.val (.int .i64 t.name.to),.slc 9 (Qh t.attrs),.val (.bool t.right),.val (.bool t.empty)]
theorem Qe4(l:List Int)(hl:l.length<=1000000)(hu:Un l)(from_ to:Int)(h0:0<=from_)(h1:from_<=to)(h2:to<=l.length)(ps:List TPart)(jp:ps=QS l from_ to)(k0:¬kdF ps 0=1):BCall prog 53 [.slc 1 (Q0 l),.val (.int .i64 from_),.val (.int .i64 to)] [] (Q8H ⟨Qm,[],false,false⟩) []:=by
 have jz:ps.length<=1000000:=by have:=Q52 (l:=l) (f:=from_) (u:=to);rw[jp];omega
 have cP:=Q6m l hl hu from_ to h0 h1 h2;rw[<-jp]at cP;have cK0:=Q3V ps (by omega) 0 (by omega)
 have cK1:=Q3V ps (by omega) 1 (by omega)
 obtain⟨K,hK⟩:=exq (kdF ps);simp only[<-hK]at *;clear hK jp h2;rw[Q8H];refine fnN (Q58 (Q8 ps) K (fun _=>0) (fun _ _=>0) (fun _=>0)) func53 rfl fun _ _=>?_
 with_reducible refine cv2 (Q8 ps) (Q0 l) ?_
 with_reducible repeat' first|refine aU k0 ?_|refine zA ?_ ?_|intro hb
 all_goals first
  |exact cP
  |exact cK0
  |exact cK1
  |exact .pure rfl ⟨.inl rfl,.inl rfl,.inl rfl,.inr (.inl ⟨rfl,_,rfl⟩),.inl rfl,.inl rfl,trivial⟩
theorem QeY(l:List Int)(hl:l.length<=1000000)(hu:Un l)(from_ to:Int)(h0:0<=from_)(h1:from_<=to)(h2:to<=l.length)(ps:List TPart)(jp:ps=QS l from_ to)(k0:kdF ps 0=1)(k1:¬kdF ps 1=2):BCall prog 53 [.slc 1 (Q0 l),.val (.int .i64 from_),.val (.int .i64 to)] [] (Q8H ⟨Qm,[],false,false⟩) []:=by
 have jz:ps.length<=1000000:=by have:=Q52 (l:=l) (f:=from_) (u:=to);rw[jp];omega
 have cP:=Q6m l hl hu from_ to h0 h1 h2;rw[<-jp]at cP;have cK0:=Q3V ps (by omega) 0 (by omega)
 have cK1:=Q3V ps (by omega) 1 (by omega)
 obtain⟨K,hK⟩:=exq (kdF ps);simp only[<-hK]at *;clear hK jp h2;rw[Q8H];refine fnN (Q58 (Q8 ps) K (fun _=>0) (fun _ _=>0) (fun _=>0)) func53 rfl fun _ _=>?_
 with_reducible refine cv2 (Q8 ps) (Q0 l) ?_
 with_reducible repeat' first|refine aU (zA k0 k1) ?_|refine zA ?_ ?_|intro hb
 all_goals first
  |exact cP
  |exact cK0
  |exact cK1
  |exact .pure rfl ⟨.inl rfl,.inl rfl,.inl rfl,.inr (.inl ⟨rfl,_,rfl⟩),.inl rfl,.inl rfl,trivial⟩
theorem Qjq(l:List Int)(hl:l.length<=1000000)(hu:Un l)(from_ to:Int)(h0:0<=from_)(h1:from_<=to)(h2:to<=l.length)(ps:List TPart)(jp:ps=QS l from_ to)(k0:kdF ps 0=1)(k1:kdF ps 1=2)(ats:List TAttr)(ae:Int)(q6:ats=(Qy ps (ps.length+1) 2).1)(v7:ae=(Qy ps (ps.length+1) 2).2)(b:Int)(hb:b=bkF ps ae)(kb:¬kdF ps b=6):BCall prog 53 [.slc 1 (Q0 l),.val (.int .i64 from_),.val (.int .i64 to)] [] (Q8H (Q1l ps)) []:=by
 have jz:ps.length<=1000000:=by have:=Q52 (l:=l) (f:=from_) (u:=to);rw[jp];omega
 have cP:=Q6m l hl hu from_ to h0 h1 h2;rw[<-jp]at cP;obtain⟨n,hn⟩:=QE ps
 have js:2<=n:=by
  have:=Q9i (by omega) k1 (by decide)
  rw[hn.eq];omega
 have qB:n<=1000000:=by rw[hn.eq];omega
 obtain⟨o,ho⟩:=exq (ps[0]?.getD Qm);obtain⟨nm,qU⟩:=exq (ps[1]?.getD Qm);have r0:(Q8 ps)[0]?.getD .dead=o.av:=by rw[ho];exact Q2a (i:=0) (by omega) (by have:=hn.eq;omega)
 have r1:(Q8 ps)[1]?.getD .dead=nm.av:=by rw[qU];exact Q2a (i:=1) (by omega) (by have:=hn.eq;omega)
 have qv:0<=ae/\ae<=n:=by
  have e:=hn.eq;have:=Q2L (l:=ps) (ps.length+1) 2 (by omega) (by omega)
  rw[<-v7]at this;omega
 have yD:0<=b/\b<=ae+1:=by
  rw[hb,bkF];split<;>omega
 have cK0:=Q3V ps (by omega) 0 (by omega)
 have cK1:=Q3V ps (by omega) 1 (by omega)
 have cB:=Q4q ps (by omega) ae qv.1 (by omega)
 rw[<-hb]at cB;have cKb:=Q3V ps (by omega) b yD.1
 have hR:Q1l ps=⟨nm,ats,false,false⟩:=by simp only[Q1l,show QO ps 0 [1,2]=true from by rw[Q5M,k0,k1];rfl,if_true,<-q6,<-v7,Qhv,<-hb,Q4t ps b 6 (by decide),<-ho,<-qU,decide_eq_true_eq];rw[if_neg (fun e=>kb e.1)]
 rw[hR,Q8H];clear hR;obtain⟨K,hK⟩:=exq (kdF ps);obtain⟨B,hB⟩:=exq (bkF ps);simp only[<-hK,<-hB]at k0 k1 hb cB cK0 cK1 cKb kb ;obtain⟨ce,yX⟩:=exq (ceF ps);obtain⟨nx,jH⟩:=exq (nxF ps)
 have cA:∀a:Int,0<=a->a<=n->BCall prog 111 [.slc 3 (Q8 ps),.val (.int .i64 a)] [] (.tup [.agg [.val (.int .i64 (ce a 0)),.val (.int .i64 (ce a 1)),.val (.int .i64 (ce a 2)),.val (.int .i64 (ce a 3)),.val (.int .i64 (ce a 4)),.val (.int .i64 (ce a 5)),.val (.int .i64 (ce a 6)),.val (.int .i64 (ce a 7)),.val (.int .i64 (ce a 8))],.val (.int .i64 (nx a))]) []:=fun a h3 h4=>by
  rw[yX,jH];exact Qd6 ps (by omega) a h3 (by omega)
 have gi:∀a:Int,0<=a->a<=n->(Q1p ps a=true/\a<nx a/\nx a<=n/\Q1z ps a=nx a)\/(Q1p ps a=false/\nx a=-1):=fun a h3 h4=>by
  rw[jH,hn.eq];exact QkO h3 (by rw[<-hn.eq];exact h4)
 have vQ:∀a:Int,Qh [QH ps a]=[.agg [.val (.int .i64 (ce a 0)),.val (.int .i64 (ce a 1)),.val (.int .i64 (ce a 2)),.val (.int .i64 (ce a 3)),.val (.int .i64 (ce a 4)),.val (.int .i64 (ce a 5)),.val (.int .i64 (ce a 6)),.val (.int .i64 (ce a 7)),.val (.int .i64 (ce a 8))]]:=fun a=>by rw[yX];rfl
 have cB:BCall prog 112 [.slc 3 (Q8 ps),.val (.int .i64 ae)] [] (.val (.int .i64 (B ae))) []:=by rw[<-hb];exact cB
 rw[hb]at cKb kb ;clear yX jH hK hB ho qU;refine fnN (Q58 (Q8 ps) K B ce nx) func53 rfl fun _ _=>?_
 with_reducible refine cv2 (Q8 ps) (Q0 l) ?_
 have jB:(((Q8 ps).length:Nat):Int)=n:=by have:=hn.eq;have:=Q1d ps;omega
 repeat' first
  |(with_reducible refine And.intro (fun hx=>absurd hx (by first|(try simp[std,S1,k0,k1,jB,js,r1,TPart.av])<;>omega|omega)) (fun _=>?_))
  |(with_reducible refine And.intro (fun _=>?_) (fun hx=>absurd hx (by first|(try simp[std,S1,k0,k1,jB,js,r1,TPart.av])<;>omega|omega)))
  |(with_reducible refine And.intro (by first|(try simp[std,S1,k0,k1,jB,js,r1,TPart.av])<;>omega|omega) ?_)
  |(with_reducible refine zA ?_ ?_)
  |(with_reducible intro hb)
 all_goals first
  |exact cP
  |exact cK0
  |exact cK1
  |skip
 refine Q1h (Q58 (Q8 ps) K B ce nx) (List TAttr×Int×Int) (fun x=>⟨[(6,.box 0 0),(7,.slc 3 (Q8 ps)),(8,.box 1 0),(9,.val (.int .i64 x.2.1)),(10,.val (.int .i64 x.2.2))],[.box [.val (.int .i64 0),.val (.int .i64 0),.val (.int .i64 0),.val (.slice none 0 0),.val (.bool false),.val (.bool false)],.box [.val (.int .i64 nm.kind),.val (.int .i64 nm.from_),.val (.int .i64 nm.to),.row 2 0,.val (.bool false),.val (.bool false)],.row 128 9 false 0 (Qh x.1)]⟩) (fun x=>0<=x.2.2/\2+x.2.2<=x.2.1/\x.2.1<=n/\(∃f:Nat,n-x.2.1<f/\x.1++(Qy ps f x.2.1).1=ats/\(Qy ps f x.2.1).2=ae)/\(x.1.length:Int)<=x.2.1) (fun x=>(n-x.2.1).toNat) ([],2,0) ?_ ?_ ?_
 ·exact⟨by simp,by simp,js,⟨ps.length+1,by have:=hn.eq;simp only;omega,by rw[q6];rfl,by rw[v7]⟩,by simp⟩
 ·exact⟨[some 0,some 1,none],_,rfl,by simp[Qe,lk,std,r1,TPart.av,AV.cells,intOf,Qh]⟩
 ·rintro⟨out,a,i⟩ ⟨gj,jq,qE,⟨f,jb,j5,qJ⟩,gD⟩
  simp only at gj jq qE jb j5 qJ gD
  have jR:=Q3v out;obtain⟨f,rfl⟩:∃f',f=f'+1:=⟨f-1,by omega⟩
  have cN:=cA a (by omega) qE
  have jM:i<n:=by omega
  have px:out.length<=1000000:=by omega
  obtain⟨m,hm⟩:=QE out;rcases gi a (by omega) qE with ⟨jl,g1,g2,g3⟩|⟨jl,g1⟩
  ·rw[Qy,if_pos jl,g3]at j5 qJ
   have hG:out++[QH ps a]++(Qy ps f (nx a)).1=ats:=by rw[<-j5];simp
   have yu:=vQ a;have yY:n-nx a<f:=by omega
   have yZ:((out++[QH ps a]).length:Int)<=nx a:=by simp only[length_append,length_singleton];omega
   have gm:¬nx a<0:=by omega
   have ha0:0<=a:=by omega
   clear jB jb g3 gD j5;with_reducible refine cv3 (Q8 ps) (Q0 l) (Qh out) ?_
   have jB:(((Q8 ps).length:Nat):Int)=n:=by have:=hn.eq;have:=Q1d ps;omega
   with_reducible repeat' first|refine aU (zA jB <| zA jR <| zA jM <| zA gm gj) ?_|refine zA ?_ ?_|intro hb
   all_goals first
    |exact cN
    |skip
   refine⟨(out++[QH ps a],nx a,i+1),⟨by simp only;omega,by simp only;omega,g2,⟨f,yY,hG,qJ⟩,yZ⟩,by simp only;omega,[some 0,some 1,some 2],_,rfl,?_⟩
   simp[Qe,lk,std,Q4S,yu]
  ·rw[Qy,if_neg (by rw[jl];exact Bool.false_ne_true)]at j5 qJ
   simp only[append_nil]at j5 qJ;have gm:nx a<0:=by omega
   clear g1;rw[<-j5];rw[<-qJ]at qv yD cB cKb kb ;have hJ6:a=ae:=qJ;clear jB jb q6 v7 j5 qJ hb;with_reducible refine cv3 (Q8 ps) (Q0 l) (Qh out) ?_
   have jB:(((Q8 ps).length:Nat):Int)=n:=by have:=hn.eq;have:=Q1d ps;omega
   with_reducible repeat' first|refine aU (zA jB <| zA jR <| zA jM <| zA gm gj) ?_|refine zA ?_ ?_|intro hb
   all_goals first
    |exact cN
    |skip
   rw[if_pos trivial];with_reducible refine cv3 (Q8 ps) (Q0 l) (Qh out) ?_
   with_reducible repeat' first|refine aU (zA kb jB) ?_|refine zA ?_ ?_|intro hb
   all_goals first
    |exact cB
    |exact cKb
    |exact .pure rfl ⟨.inl rfl,.inl rfl,.inl rfl,.inl rfl,.inl rfl,.inl rfl,trivial⟩
theorem QjL(l:List Int)(hl:l.length<=1000000)(hu:Un l)(from_ to:Int)(h0:0<=from_)(h1:from_<=to)(h2:to<=l.length)(ps:List TPart)(jp:ps=QS l from_ to)(k0:kdF ps 0=1)(k1:kdF ps 1=2)(ats:List TAttr)(ae:Int)(q6:ats=(Qy ps (ps.length+1) 2).1)(v7:ae=(Qy ps (ps.length+1) 2).2)(b:Int)(hb:b=bkF ps ae)(kb:kdF ps b=6)(jj:¬b+1=ps.length):BCall prog 53 [.slc 1 (Q0 l),.val (.int .i64 from_),.val (.int .i64 to)] [] (Q8H (Q1l ps)) []:=by
 have jz:ps.length<=1000000:=by have:=Q52 (l:=l) (f:=from_) (u:=to);rw[jp];omega
 have cP:=Q6m l hl hu from_ to h0 h1 h2;rw[<-jp]at cP;obtain⟨n,hn⟩:=QE ps
 have js:2<=n:=by
  have:=Q9i (by omega) k1 (by decide)
  rw[hn.eq];omega
 have qB:n<=1000000:=by rw[hn.eq];omega
 obtain⟨o,ho⟩:=exq (ps[0]?.getD Qm);obtain⟨nm,qU⟩:=exq (ps[1]?.getD Qm);have r0:(Q8 ps)[0]?.getD .dead=o.av:=by rw[ho];exact Q2a (i:=0) (by omega) (by have:=hn.eq;omega)
 have r1:(Q8 ps)[1]?.getD .dead=nm.av:=by rw[qU];exact Q2a (i:=1) (by omega) (by have:=hn.eq;omega)
 have qv:0<=ae/\ae<=n:=by
  have e:=hn.eq;have:=Q2L (l:=ps) (ps.length+1) 2 (by omega) (by omega)
  rw[<-v7]at this;omega
 have yD:0<=b/\b<=ae+1:=by
  rw[hb,bkF];split<;>omega
 have cK0:=Q3V ps (by omega) 0 (by omega)
 have cK1:=Q3V ps (by omega) 1 (by omega)
 have cB:=Q4q ps (by omega) ae qv.1 (by omega)
 rw[<-hb]at cB;have cKb:=Q3V ps (by omega) b yD.1
 have hR:Q1l ps=⟨nm,ats,false,false⟩:=by simp only[Q1l,show QO ps 0 [1,2]=true from by rw[Q5M,k0,k1];rfl,if_true,<-q6,<-v7,Qhv,<-hb,Q4t ps b 6 (by decide),<-ho,<-qU,decide_eq_true_eq];rw[if_neg (fun e=>jj (by have:=Q9i yD.1 kb (by decide);omega))]
 rw[hR,Q8H];clear hR;obtain⟨K,hK⟩:=exq (kdF ps);obtain⟨B,hB⟩:=exq (bkF ps);simp only[<-hK,<-hB]at k0 k1 hb cB cK0 cK1 cKb kb ;obtain⟨ce,yX⟩:=exq (ceF ps);obtain⟨nx,jH⟩:=exq (nxF ps)
 have cA:∀a:Int,0<=a->a<=n->BCall prog 111 [.slc 3 (Q8 ps),.val (.int .i64 a)] [] (.tup [.agg [.val (.int .i64 (ce a 0)),.val (.int .i64 (ce a 1)),.val (.int .i64 (ce a 2)),.val (.int .i64 (ce a 3)),.val (.int .i64 (ce a 4)),.val (.int .i64 (ce a 5)),.val (.int .i64 (ce a 6)),.val (.int .i64 (ce a 7)),.val (.int .i64 (ce a 8))],.val (.int .i64 (nx a))]) []:=fun a h3 h4=>by
  rw[yX,jH];exact Qd6 ps (by omega) a h3 (by omega)
 have gi:∀a:Int,0<=a->a<=n->(Q1p ps a=true/\a<nx a/\nx a<=n/\Q1z ps a=nx a)\/(Q1p ps a=false/\nx a=-1):=fun a h3 h4=>by
  rw[jH,hn.eq];exact QkO h3 (by rw[<-hn.eq];exact h4)
 have vQ:∀a:Int,Qh [QH ps a]=[.agg [.val (.int .i64 (ce a 0)),.val (.int .i64 (ce a 1)),.val (.int .i64 (ce a 2)),.val (.int .i64 (ce a 3)),.val (.int .i64 (ce a 4)),.val (.int .i64 (ce a 5)),.val (.int .i64 (ce a 6)),.val (.int .i64 (ce a 7)),.val (.int .i64 (ce a 8))]]:=fun a=>by rw[yX];rfl
 have cB:BCall prog 112 [.slc 3 (Q8 ps),.val (.int .i64 ae)] [] (.val (.int .i64 (B ae))) []:=by rw[<-hb];exact cB
 rw[hb]at cKb kb ;clear yX jH hK hB ho qU;refine fnN (Q58 (Q8 ps) K B ce nx) func53 rfl fun _ _=>?_
 with_reducible refine cv2 (Q8 ps) (Q0 l) ?_
 have jB:(((Q8 ps).length:Nat):Int)=n:=by have:=hn.eq;have:=Q1d ps;omega
 repeat' first
  |(with_reducible refine And.intro (fun hx=>absurd hx (by first|(try simp[std,S1,k0,k1,jB,js,r1,TPart.av])<;>omega|omega)) (fun _=>?_))
  |(with_reducible refine And.intro (fun _=>?_) (fun hx=>absurd hx (by first|(try simp[std,S1,k0,k1,jB,js,r1,TPart.av])<;>omega|omega)))
  |(with_reducible refine And.intro (by first|(try simp[std,S1,k0,k1,jB,js,r1,TPart.av])<;>omega|omega) ?_)
  |(with_reducible refine zA ?_ ?_)
  |(with_reducible intro hb)
 all_goals first
  |exact cP
  |exact cK0
  |exact cK1
  |skip
 refine Q1h (Q58 (Q8 ps) K B ce nx) (List TAttr×Int×Int) (fun x=>⟨[(6,.box 0 0),(7,.slc 3 (Q8 ps)),(8,.box 1 0),(9,.val (.int .i64 x.2.1)),(10,.val (.int .i64 x.2.2))],[.box [.val (.int .i64 0),.val (.int .i64 0),.val (.int .i64 0),.val (.slice none 0 0),.val (.bool false),.val (.bool false)],.box [.val (.int .i64 nm.kind),.val (.int .i64 nm.from_),.val (.int .i64 nm.to),.row 2 0,.val (.bool false),.val (.bool false)],.row 128 9 false 0 (Qh x.1)]⟩) (fun x=>0<=x.2.2/\2+x.2.2<=x.2.1/\x.2.1<=n/\(∃f:Nat,n-x.2.1<f/\x.1++(Qy ps f x.2.1).1=ats/\(Qy ps f x.2.1).2=ae)/\(x.1.length:Int)<=x.2.1) (fun x=>(n-x.2.1).toNat) ([],2,0) ?_ ?_ ?_
 ·exact⟨by simp,by simp,js,⟨ps.length+1,by have:=hn.eq;simp only;omega,by rw[q6];rfl,by rw[v7]⟩,by simp⟩
 ·exact⟨[some 0,some 1,none],_,rfl,by simp[Qe,lk,std,r1,TPart.av,AV.cells,intOf,Qh]⟩
 ·rintro⟨out,a,i⟩ ⟨gj,jq,qE,⟨f,jb,j5,qJ⟩,gD⟩
  simp only at gj jq qE jb j5 qJ gD
  have jR:=Q3v out;obtain⟨f,rfl⟩:∃f',f=f'+1:=⟨f-1,by omega⟩
  have cN:=cA a (by omega) qE
  have jM:i<n:=by omega
  have px:out.length<=1000000:=by omega
  obtain⟨m,hm⟩:=QE out;rcases gi a (by omega) qE with ⟨jl,g1,g2,g3⟩|⟨jl,g1⟩
  ·rw[Qy,if_pos jl,g3]at j5 qJ
   have hG:out++[QH ps a]++(Qy ps f (nx a)).1=ats:=by rw[<-j5];simp
   have yu:=vQ a;have yY:n-nx a<f:=by omega
   have yZ:((out++[QH ps a]).length:Int)<=nx a:=by simp only[length_append,length_singleton];omega
   have gm:¬nx a<0:=by omega
   have ha0:0<=a:=by omega
   clear jB jb g3 gD j5;with_reducible refine cv3 (Q8 ps) (Q0 l) (Qh out) ?_
   have jB:(((Q8 ps).length:Nat):Int)=n:=by have:=hn.eq;have:=Q1d ps;omega
   with_reducible repeat' first|refine aU (zA jB <| zA jR <| zA jM <| zA gm gj) ?_|refine zA ?_ ?_|intro hb
   all_goals first
    |exact cN
    |skip
   refine⟨(out++[QH ps a],nx a,i+1),⟨by simp only;omega,by simp only;omega,g2,⟨f,yY,hG,qJ⟩,yZ⟩,by simp only;omega,[some 0,some 1,some 2],_,rfl,?_⟩
   simp[Qe,lk,std,Q4S,yu]
  ·rw[Qy,if_neg (by rw[jl];exact Bool.false_ne_true)]at j5 qJ
   simp only[append_nil]at j5 qJ;have gm:nx a<0:=by omega
   clear g1;rw[<-j5];rw[<-qJ]at qv yD cB cKb kb ;have hb9:b=B a:=by rw[qJ];exact hb
   clear jB jb q6 v7 j5 qJ hb;with_reducible refine cv3 (Q8 ps) (Q0 l) (Qh out) ?_
   have jB:(((Q8 ps).length:Nat):Int)=n:=by have:=hn.eq;have:=Q1d ps;omega
   with_reducible repeat' first|refine aU (zA jB <| zA jR <| zA jM <| zA gm gj) ?_|refine zA ?_ ?_|intro hb
   all_goals first
    |exact cN
    |skip
   rw[if_pos trivial];have jj:¬B a+1=n:=by rw[<-hb9,hn.eq];exact jj
   with_reducible refine cv3 (Q8 ps) (Q0 l) (Qh out) ?_
   with_reducible repeat' first|refine aU (zA kb <| zA jB <| zA jj yD) ?_|refine zA ?_ ?_|intro hb
   all_goals first
    |exact cB
    |exact cKb
    |exact .pure rfl ⟨.inl rfl,.inl rfl,.inl rfl,.inl rfl,.inl rfl,.inl rfl,trivial⟩
theorem Qiw(l:List Int)(hl:l.length<=1000000)(hu:Un l)(from_ to:Int)(h0:0<=from_)(h1:from_<=to)(h2:to<=l.length)(ps:List TPart)(jp:ps=QS l from_ to)(k0:kdF ps 0=1)(k1:kdF ps 1=2)(ats:List TAttr)(ae:Int)(q6:ats=(Qy ps (ps.length+1) 2).1)(v7:ae=(Qy ps (ps.length+1) 2).2)(b:Int)(hb:b=bkF ps ae)(kb:kdF ps b=6)(jj:b+1=ps.length):BCall prog 53 [.slc 1 (Q0 l),.val (.int .i64 from_),.val (.int .i64 to)] [] (Q8H (Q1l ps)) []:=by
 have jz:ps.length<=1000000:=by have:=Q52 (l:=l) (f:=from_) (u:=to);rw[jp];omega
 have cP:=Q6m l hl hu from_ to h0 h1 h2;rw[<-jp]at cP;obtain⟨n,hn⟩:=QE ps
 have js:2<=n:=by
  have:=Q9i (by omega) k1 (by decide)
  rw[hn.eq];omega
 have qB:n<=1000000:=by rw[hn.eq];omega
 obtain⟨o,ho⟩:=exq (ps[0]?.getD Qm);obtain⟨nm,qU⟩:=exq (ps[1]?.getD Qm);have r0:(Q8 ps)[0]?.getD .dead=o.av:=by rw[ho];exact Q2a (i:=0) (by omega) (by have:=hn.eq;omega)
 have r1:(Q8 ps)[1]?.getD .dead=nm.av:=by rw[qU];exact Q2a (i:=1) (by omega) (by have:=hn.eq;omega)
 have qv:0<=ae/\ae<=n:=by
  have e:=hn.eq;have:=Q2L (l:=ps) (ps.length+1) 2 (by omega) (by omega)
  rw[<-v7]at this;omega
 have yD:0<=b/\b<=ae+1:=by
  rw[hb,bkF];split<;>omega
 obtain⟨q,hq⟩:=exq (ps[b.toNat]?.getD Qm);have rb:(Q8 ps)[b.toNat]?.getD .dead=q.av:=by rw[hq];exact Q2a yD.1 (Q9i yD.1 kb (by decide))
 have nL:o.to-o.from_=1\/o.to-o.from_=2:=by rw[ho,jp];exact QhQ (by rw[<-jp];exact k0)
 have zT:QdE ps:=fun x hx=>by
  have h9:x∈QB from_ true ((l.take to.toNat).drop from_.toNat):=by rw[jp]at hx;exact hx
  have:=Q48 ((l.take to.toNat).drop from_.toNat) _ _ from_ true (le_refl _) x h9
  rw[List.length_drop,length_take]at this;omega
 have so:=Q5z zT 0;have sq:=Q5z zT b.toNat;rw[<-ho]at so;rw[<-hq]at sq;clear zT;obtain⟨x,hx⟩:=exq (q.to-q.from_);obtain⟨y,hy⟩:=exq (o.to-o.from_);have cK0:=Q3V ps (by omega) 0 (by omega)
 have cK1:=Q3V ps (by omega) 1 (by omega)
 have cB:=Q4q ps (by omega) ae qv.1 (by omega)
 rw[<-hb]at cB;have cKb:=Q3V ps (by omega) b yD.1
 have hR:Q1l ps=⟨nm,ats,decide (y=1)||(decide (ats.length=0)&&!decide (x=2)),decide (x=2)&&(decide (y=1)||(decide (ats.length=0)&&!decide (x=2)))⟩:=by simp only[Q1l,show QO ps 0 [1,2]=true from by rw[Q5M,k0,k1];rfl,if_true,<-q6,<-v7,Qhv,<-hb,Q4t ps b 6 (by decide),<-ho,<-qU,decide_eq_true_eq];rw[if_pos ⟨kb,by omega⟩,<-hq,<-hx,<-hy]
 rw[hR,Q8H];clear hR;obtain⟨K,hK⟩:=exq (kdF ps);obtain⟨B,hB⟩:=exq (bkF ps);simp only[<-hK,<-hB]at k0 k1 hb cB cK0 cK1 cKb kb ;obtain⟨ce,yX⟩:=exq (ceF ps);obtain⟨nx,jH⟩:=exq (nxF ps)
 have cA:∀a:Int,0<=a->a<=n->BCall prog 111 [.slc 3 (Q8 ps),.val (.int .i64 a)] [] (.tup [.agg [.val (.int .i64 (ce a 0)),.val (.int .i64 (ce a 1)),.val (.int .i64 (ce a 2)),.val (.int .i64 (ce a 3)),.val (.int .i64 (ce a 4)),.val (.int .i64 (ce a 5)),.val (.int .i64 (ce a 6)),.val (.int .i64 (ce a 7)),.val (.int .i64 (ce a 8))],.val (.int .i64 (nx a))]) []:=fun a h3 h4=>by
  rw[yX,jH];exact Qd6 ps (by omega) a h3 (by omega)
 have gi:∀a:Int,0<=a->a<=n->(Q1p ps a=true/\a<nx a/\nx a<=n/\Q1z ps a=nx a)\/(Q1p ps a=false/\nx a=-1):=fun a h3 h4=>by
  rw[jH,hn.eq];exact QkO h3 (by rw[<-hn.eq];exact h4)
 have vQ:∀a:Int,Qh [QH ps a]=[.agg [.val (.int .i64 (ce a 0)),.val (.int .i64 (ce a 1)),.val (.int .i64 (ce a 2)),.val (.int .i64 (ce a 3)),.val (.int .i64 (ce a 4)),.val (.int .i64 (ce a 5)),.val (.int .i64 (ce a 6)),.val (.int .i64 (ce a 7)),.val (.int .i64 (ce a 8))]]:=fun a=>by rw[yX];rfl
 have cB:BCall prog 112 [.slc 3 (Q8 ps),.val (.int .i64 ae)] [] (.val (.int .i64 (B ae))) []:=by rw[<-hb];exact cB
 rw[hb]at cKb kb ;clear yX jH hK hB ho qU hq jp;refine fnN (Q58 (Q8 ps) K B ce nx) func53 rfl fun _ _=>?_
 with_reducible refine cv2 (Q8 ps) (Q0 l) ?_
 have jB:(((Q8 ps).length:Nat):Int)=n:=by have:=hn.eq;have:=Q1d ps;omega
 repeat' first
  |(with_reducible refine And.intro (fun hx=>absurd hx (by first|(try simp[std,S1,k0,k1,jB,js,r1,TPart.av])<;>omega|omega)) (fun _=>?_))
  |(with_reducible refine And.intro (fun _=>?_) (fun hx=>absurd hx (by first|(try simp[std,S1,k0,k1,jB,js,r1,TPart.av])<;>omega|omega)))
  |(with_reducible refine And.intro (by first|(try simp[std,S1,k0,k1,jB,js,r1,TPart.av])<;>omega|omega) ?_)
  |(with_reducible refine zA ?_ ?_)
  |(with_reducible intro hb)
 all_goals first
  |exact cP
  |exact cK0
  |exact cK1
  |skip
 refine Q1h (Q58 (Q8 ps) K B ce nx) (List TAttr×Int×Int) (fun x=>⟨[(6,.box 0 0),(7,.slc 3 (Q8 ps)),(8,.box 1 0),(9,.val (.int .i64 x.2.1)),(10,.val (.int .i64 x.2.2))],[.box [.val (.int .i64 0),.val (.int .i64 0),.val (.int .i64 0),.val (.slice none 0 0),.val (.bool false),.val (.bool false)],.box [.val (.int .i64 nm.kind),.val (.int .i64 nm.from_),.val (.int .i64 nm.to),.row 2 0,.val (.bool false),.val (.bool false)],.row 128 9 false 0 (Qh x.1)]⟩) (fun x=>0<=x.2.2/\2+x.2.2<=x.2.1/\x.2.1<=n/\(∃f:Nat,n-x.2.1<f/\x.1++(Qy ps f x.2.1).1=ats/\(Qy ps f x.2.1).2=ae)/\(x.1.length:Int)<=x.2.1) (fun x=>(n-x.2.1).toNat) ([],2,0) ?_ ?_ ?_
 ·exact⟨by simp,by simp,js,⟨ps.length+1,by have:=hn.eq;simp only;omega,by rw[q6];rfl,by rw[v7]⟩,by simp⟩
 ·exact⟨[some 0,some 1,none],_,rfl,by simp[Qe,lk,std,r1,TPart.av,AV.cells,intOf,Qh]⟩
 ·rintro⟨out,a,i⟩ ⟨gj,jq,qE,⟨f,jb,j5,qJ⟩,gD⟩
  simp only at gj jq qE jb j5 qJ gD
  have jR:=Q3v out;obtain⟨f,rfl⟩:∃f',f=f'+1:=⟨f-1,by omega⟩
  have cN:=cA a (by omega) qE
  have jM:i<n:=by omega
  have px:out.length<=1000000:=by omega
  obtain⟨m,hm⟩:=QE out;rcases gi a (by omega) qE with ⟨jl,g1,g2,g3⟩|⟨jl,g1⟩
  ·rw[Qy,if_pos jl,g3]at j5 qJ
   have hG:out++[QH ps a]++(Qy ps f (nx a)).1=ats:=by rw[<-j5];simp
   have yu:=vQ a;have yY:n-nx a<f:=by omega
   have yZ:((out++[QH ps a]).length:Int)<=nx a:=by simp only[length_append,length_singleton];omega
   have gm:¬nx a<0:=by omega
   have ha0:0<=a:=by omega
   clear jB jb g3 gD j5;with_reducible refine cv3 (Q8 ps) (Q0 l) (Qh out) ?_
   have jB:(((Q8 ps).length:Nat):Int)=n:=by have:=hn.eq;have:=Q1d ps;omega
   with_reducible repeat' first|refine aU (zA jB <| zA jR <| zA jM <| zA gm gj) ?_|refine zA ?_ ?_|intro hb
   all_goals first
    |exact cN
    |skip
   refine⟨(out++[QH ps a],nx a,i+1),⟨by simp only;omega,by simp only;omega,g2,⟨f,yY,hG,qJ⟩,yZ⟩,by simp only;omega,[some 0,some 1,some 2],_,rfl,?_⟩
   simp[Qe,lk,std,Q4S,yu]
  ·rw[Qy,if_neg (by rw[jl];exact Bool.false_ne_true)]at j5 qJ
   simp only[append_nil]at j5 qJ;have gm:nx a<0:=by omega
   clear g1;rw[<-j5];rw[<-qJ]at qv yD cB cKb kb ;have hb9:b=B a:=by rw[qJ];exact hb
   clear jB jb q6 v7 j5 qJ hb;with_reducible refine cv3 (Q8 ps) (Q0 l) (Qh out) ?_
   have jB:(((Q8 ps).length:Nat):Int)=n:=by have:=hn.eq;have:=Q1d ps;omega
   with_reducible repeat' first|refine aU (zA jB <| zA jR <| zA jM <| zA gm gj) ?_|refine zA ?_ ?_|intro hb
   all_goals first
    |exact cN
    |skip
   rw[if_pos trivial];have jj:B a+1=n:=by rw[<-hb9,hn.eq];exact jj
   rw[hb9]at rb;with_reducible refine cv3 (Q8 ps) (Q0 l) (Qh out) ?_
   have yG:=hx.symm;have vZ:=hy.symm;rw[<-hy]at nL;have ev:∀v:Int,v=2\/¬v=2:=fun v=>by omega
   have el:out.length=0\/¬out.length=0:=by omega
   rcases ev x with x2|x2
   all_goals rcases el with l0|l0
   all_goals rcases nL with y1|y1
   all_goals
    repeat' first
     |(with_reducible refine And.intro (fun hx=>absurd hx (by first|(try simp[std,S1,kb,jB,jj,yD,rb,r0,TPart.av,yG,vZ,x2,y1,l0,jR])<;>omega|omega)) (fun _=>?_))
     |(with_reducible refine And.intro (fun _=>?_) (fun hx=>absurd hx (by first|(try simp[std,S1,kb,jB,jj,yD,rb,r0,TPart.av,yG,vZ,x2,y1,l0,jR])<;>omega|omega)))
     |(with_reducible refine And.intro (by first|(try simp[std,S1,kb,jB,jj,yD,rb,r0,TPart.av,yG,vZ,x2,y1,l0,jR])<;>omega|omega) ?_)
     |(with_reducible refine zA ?_ ?_)
     |(with_reducible intro hb)
   all_goals first
    |exact cB
    |exact cKb
    |(refine(Qhr _).2 ?_;simp[std,rb,r0,TPart.av,AV.cells,intOf,yG,vZ,x2,y1];done)
    |(refine(Qhr _).2 ?_;simp[std,rb,r0,TPart.av,AV.cells,intOf,yG,vZ];omega)
    |(refine .pure rfl ⟨.inl rfl,.inl rfl,.inl rfl,.inl rfl,.inl ?_,.inl ?_,trivial⟩<;>simp[std,rb,r0,TPart.av,AV.cells,intOf,Q2x,yG,vZ,x2,y1,l0,jR])
theorem Qd0(l:List Int)(hl:l.length<=1000000)(hu:Un l)(from_ to:Int)(h0:0<=from_)(h1:from_<=to)(h2:to<=l.length):BCall prog 53 [.slc 1 (Q0 l),.val (.int .i64 from_),.val (.int .i64 to)] [] (Q8H (QD l from_ to)) []:=by
 rw[QD];obtain⟨ps,jp⟩:=exq (QS l from_ to);rw[<-jp];by_cases k0:kdF ps 0=1
 ·by_cases k1:kdF ps 1=2
  ·by_cases kb:kdF ps (bkF ps (Qy ps (ps.length+1) 2).2)=6
   ·by_cases jj:bkF ps (Qy ps (ps.length+1) 2).2+1=ps.length
    ·exact Qiw l hl hu from_ to h0 h1 h2 ps jp k0 k1 _ _ rfl rfl _ rfl kb jj
    ·exact QjL l hl hu from_ to h0 h1 h2 ps jp k0 k1 _ _ rfl rfl _ rfl kb jj
   ·exact Qjq l hl hu from_ to h0 h1 h2 ps jp k0 k1 _ _ rfl rfl _ rfl kb
  ·have e:Q1l ps=⟨Qm,[],false,false⟩:=by
    rw[Q1l,if_neg];rw[Q5M,decide_eq_true_eq];exact fun e=>k1 e.2
   rw[e];exact QeY l hl hu from_ to h0 h1 h2 ps jp k0 k1
 ·have e:Q1l ps=⟨Qm,[],false,false⟩:=by
   rw[Q1l,if_neg];rw[Q5M,decide_eq_true_eq];exact fun e=>k0 e.1
  rw[e];exact Qe4 l hl hu from_ to h0 h1 h2 ps jp k0
def Qz(l:List (List Int)):List AV:=l.map fun x=>.val (.string (runesBytes x))
theorem Q4f(l:List (List Int)):(Qz l).length=l.length:=by simp[Qz]
theorem Qex(a b:List (List Int)):Qz (a++b)=Qz a++Qz b:=by simp[Qz]
def Q9u(e:Nat)(B:List AV)(K M:Int)(R O OP EV WR:List AV):List Ob :=
 [.box [.slc 1 B,.val (.int .i64 K),.val (.int .i64 M),.slc 1 R,.slc 1 O,.row 1 e,.row 2 e,.row 3 e],.row 9 1 false e OP,.row 107 3 false e EV,.row 157 3 false e WR]
def obR(e:Nat)(t:Txt)(b:List UInt8)(s:RSt):List Ob:=Q9u e (Q2 b) t.kind t.bom (Q0 t.r) (Q9 t.off) (Qz s.op) (Qv s.ev) (Qk s.wr)
def QpG(rk rf ru:Int)(ra:List AV)(rr re:Bool):Nat->List AV->List Ob->Option (AV×List Ob):=fun f _ _=>match f with
 |53=>some (.agg [.val (.int .i64 rk),.val (.int .i64 rf),.val (.int .i64 ru),.slc 9 ra,.val (.bool rr),.val (.bool re)],[])
 |_=>none
theorem Qj8(t:Txt)(hl:t.r.length<=1000000)(hu:Un t.r)(f u:Int)(h0:0<=f)(h1:f<=u)(h2:u<=t.r.length)(kind:Int)(wh:Bool) :
  BCall prog 92 [.slc 1 (Q0 t.r),.agg [.val (.int .i64 kind),.val (.int .i64 f),.val (.int .i64 u),.val (.bool wh)]] [] (.val (.string (runesBytes (Qs t f u)))) []:=by
 have cR:=Qd0 t.r hl hu f u h0 h1 h2;have jM:=Qh5 t.r f u h0 h1 h2;have hN:Qs t f u=(t.r.drop (QD t.r f u).name.from_.toNat).take ((QD t.r f u).name.to-(QD t.r f u).name.from_).toNat:=rfl;rw[hN];obtain⟨T,hT⟩:=exq (QD t.r f u);rw[<-hT]at cR jM ⊢;rw[Q8H]at cR;obtain⟨rf,vT⟩:=exq T.name.from_;obtain⟨ru,zb⟩:=exq T.name.to;rw[<-vT,<-zb]at cR jM ⊢;obtain⟨n,hn⟩:=QE t.r;have zv:ru<=n:=by have:=hn.eq;omega
 obtain⟨jK,qi,yt⟩:=jM;clear hT hN yt;refine fnN (QpG T.name.kind rf ru (Qh T.attrs) T.right T.empty) func92 rfl fun _ _=>?_
 with_reducible refine cv5 T.name.kind (Qh T.attrs) T.right T.empty (Q0 t.r) ?_
 have jE:std.len (Q0 t.r)=n:=by show((Q0 t.r).length:Int)=n;rw[Qx,hn.eq]
 have jS:std.cut (Q0 t.r) rf ru=Q0 ((t.r.drop rf.toNat).take (ru-rf).toNat):=by
  show((Q0 t.r).drop rf.toNat).take (ru-rf).toNat=_
  simp[Q0,map_drop,map_take]
 refine⟨cR,?_,?_,.pure rfl (.inl ?_)⟩
 ·show 0<=rf/\rf<=ru/\ru<=std.len (Q0 t.r)
  rw[jE];exact⟨jK,qi,zv⟩
 ·show(std.isR (std.cut (Q0 t.r) rf ru)).q
  rw[jS]
  exact fun x hx=>by
   obtain⟨y,_,rfl⟩:=List.mem_map.1 hx;exact⟨y,rfl⟩
 ·show AV.val (.string (runesBytes ((std.cut (Q0 t.r) rf ru).map intOf)))=_
  rw[jS,Q44]
theorem Q65(t:Txt)(b:List UInt8)(s:RSt)(hd:s.wr.length<=1000000)(c f u:Int)(hf:0<=f/\f<t.off.length)(hu:0<=u/\u<t.off.length) :
  BCall prog 93 [.box 0 0,.val (.int .i64 c),.val (.int .i64 f),.val (.int .i64 u)] (obR 0 t b s) (.tup []) (obR 1 t b (Q1R t c f u s)):=by
 have olen:=Q2w t.off;have af:=Q2T (l:=t.off) (i:=f) hf.1 hf.2;have au:=Q2T (l:=t.off) (i:=u) hu.1 hu.2;have dlen:=Qh1 s.wr;unfold obR Q9u;refine fnN (cs0) func93 rfl fun _ _=>?_
 with_reducible refine cv8 (Qk s.wr) (Qz s.op) (Qv s.ev) (Q2 b) (Q0 t.r) (Q9 t.off) t.kind t.bom ?_
 have ef:(Q9 t.off).getD f.toNat .dead=.val (.int .i64 (Q1s t f)):=by rw[getD_eq_getElem?_getD];exact af
 have eu:(Q9 t.off).getD u.toNat .dead=.val (.int .i64 (Q1s t u)):=by rw[getD_eq_getElem?_getD];exact au
 have hb:∀x,std.bnd (Qk s.wr) [x]:=fun x=>by show(Qk s.wr).length+1<=1000000000;omega
 have fin:∀x,x=AV.agg [.val (.int .i64 (Q1s t f)),.val (.int .i64 (Q1s t u)),.val (.int .i64 c)]->std.app (Qk s.wr) [x]=Qk (Q1R t c f u s).wr:=fun x hx=>by
  rw[hx];show Qk s.wr++_=List.map _ (_++_);rw[List.map_append];rfl
 have fin2:=fin _ (show AV.agg [.val (.int .i64 (std.int (std.nth (std.cel (std.at_ (Q9 t.off) f)) 0))),.val (.int .i64 (std.int (std.nth (std.cel (std.at_ (Q9 t.off) u)) 0))),.val (.int .i64 c)]=_ by
  show AV.agg [.val (.int .i64 (intOf ((((Q9 t.off).getD f.toNat .dead).cells).getD 0 .dead))),.val (.int .i64 (intOf ((((Q9 t.off).getD u.toNat .dead).cells).getD 0 .dead))),.val (.int .i64 c)]=_;rw[ef,eu];rfl)
 have hc:∀x:Int,(Q9 t.off).getD x.toNat .dead=.val (.int .i64 (Q1s t x))->std.all [std.hasI .i64 (std.nth (std.cel (std.at_ (Q9 t.off) x)) 0)]:=fun x hx=>by
  show(((Q9 t.off).getD x.toNat .dead).cells).getD 0 .dead=.val (.int .i64 (intOf ((((Q9 t.off).getD x.toNat .dead).cells).getD 0 .dead)))/\True
  rw[hx];exact⟨rfl,trivial⟩
 have jM:∀x:Int,0<=x/\x<t.off.length->std.inb x (std.len (Q9 t.off)):=fun x hx=>by
  show 0<=x/\x<((Q9 t.off).length:Int);rw[olen];exact hx
 refine⟨jM f hf,hc f ef,jM u hu,hc u eu,hb _,?_⟩;refine⟨[some 0,some 1,some 2,some 3],.tup [],_,rfl,rfl,le_refl _,rfl,?_,trivial⟩;simp[Qe];exact⟨rfl,rfl,fin2⟩
theorem Q5v(t:Txt)(b:List UInt8)(hs:Sml t b)(s:RSt)(hd:s.ev.length<=1000000)(kind f u:Int)(wh:Bool)(hi:InT t f u) :
  BCall prog 96 [.box 0 0,.agg [.val (.int .i64 kind),.val (.int .i64 f),.val (.int .i64 u),.val (.bool wh)]] (obR 0 t b s) (.tup []) (obR 1 t b (Q1K t b kind f u s)):=by
 obtain⟨hf,hu⟩:=hi.off hs;have olen:=Q2w t.off;have af:=Q2T (l:=t.off) (i:=f) hf.1 hf.2;have au:=Q2T (l:=t.off) (i:=u) hu.1 hu.2;have dlen:=Q6A s.ev;have hp:=Qgq hs.ok hi.h0 hi.h1 hi.h2;have q0:=hp.h0;have q1:=hp.h1;have q2:=hp.h2;have blen:=Q11 b;unfold obR Q9u;refine fnN (cs0) func96 rfl fun _ _=>?_
 with_reducible refine cv8 (Qk s.wr) (Qz s.op) (Qv s.ev) (Q2 b) (Q0 t.r) (Q9 t.off) t.kind t.bom ?_
 have ef:(Q9 t.off).getD f.toNat .dead=.val (.int .i64 (Q1s t f)):=by rw[getD_eq_getElem?_getD];exact af
 have eu:(Q9 t.off).getD u.toNat .dead=.val (.int .i64 (Q1s t u)):=by rw[getD_eq_getElem?_getD];exact au
 have hb:∀x,std.bnd (Qv s.ev) [x]:=fun x=>by show(Qv s.ev).length+1<=1000000000;omega
 have xf:std.int (std.nth (std.cel (std.at_ (Q9 t.off) f)) 0)=Q1s t f:=by
  show intOf ((((Q9 t.off).getD f.toNat .dead).cells).getD 0 .dead)=_;rw[ef];rfl
 have xu:std.int (std.nth (std.cel (std.at_ (Q9 t.off) u)) 0)=Q1s t u:=by
  show intOf ((((Q9 t.off).getD u.toNat .dead).cells).getD 0 .dead)=_;rw[eu];rfl
 have hc:∀x:Int,(Q9 t.off).getD x.toNat .dead=.val (.int .i64 (Q1s t x))->std.all [std.hasI .i64 (std.nth (std.cel (std.at_ (Q9 t.off) x)) 0)]:=fun x hx=>by
  show(((Q9 t.off).getD x.toNat .dead).cells).getD 0 .dead=.val (.int .i64 (intOf ((((Q9 t.off).getD x.toNat .dead).cells).getD 0 .dead)))/\True
  rw[hx];exact⟨rfl,trivial⟩
 have jM:∀x:Int,0<=x/\x<t.off.length->std.inb x (std.len (Q9 t.off)):=fun x hx=>by
  show 0<=x/\x<((Q9 t.off).length:Int);rw[olen];exact hx
 refine⟨jM f hf,hc f ef,jM u hu,hc u eu,?_,hb _,?_⟩
 ·show(std.cutok (std.int (std.nth (std.cel (std.at_ (Q9 t.off) f)) 0)) (std.int (std.nth (std.cel (std.at_ (Q9 t.off) u)) 0)) (std.len (Q2 b))).q
  rw[xf,xu];show 0<=Q1s t f/\Q1s t f<=Q1s t u/\Q1s t u<=((Q2 b).length:Int);rw[blen];exact⟨q0,q1,q2⟩
 refine⟨[some 0,some 1,some 2,some 3],.tup [],_,rfl,rfl,le_of_ble_eq_true rfl,rfl,?_,trivial⟩
 have e:std.cut (Q2 b) (Q1s t f) (Q1s t u)=Q2 (QU t b f u):=by
  show((Q2 b).drop _).take _=Q2 ((b.drop _).take _)
  simp[Q2,map_drop,map_take,Q1s]
 have e9:Qv s.ev++[AV.agg [.val (.int .i64 2),.val (.int .i64 kind),.slc 1 (std.cut (Q2 b) (std.int (std.nth (std.cel (std.at_ (Q9 t.off) f)) 0)) (std.int (std.nth (std.cel (std.at_ (Q9 t.off) u)) 0)))]]=Qv (Q1K t b kind f u s).ev:=by
  rw[xf,xu,e];show Qv s.ev++_=Qv (s.ev++_);rw[Q8i];rfl
 simp[Qe];exact⟨rfl,e9,rfl⟩
def QpQ(OP EV WR:List AV):Nat->List AV->List Ob->Option (AV×List Ob):=fun f _ ob=>match f with
 |93=>match ob with
  | [.box [B,K,M,R,O,.row 1 0,.row 2 0,.row 3 0],_,_,_]=>some (.tup [],[.box [B,K,M,R,O,.row 1 1,.row 2 1,.row 3 1],.row 9 1 false 1 OP,.row 107 3 false 1 EV,.row 157 3 false 1 WR])
  |_=>none
 |_=>none
theorem Qcb(t:Txt)(b:List UInt8)(s:RSt)(hd:s.wr.length<=1000000)(he:s.ev.length<=1000000)(a:Int)(ha:0<=a/\a<t.off.length)(hs:1<=s.op.length)(jT:s.op.length<=1000000) :
  BCall prog 97 [.box 0 0,.val (.int .i64 a)] (obR 0 t b s) (.tup []) (obR 1 t b (Q2h t a s)):=by
 have cW:=Q65 t b s hd 4 a a ha ha;have slen:=Q4f s.op;have elen:=Q6A s.ev;have e1:(Q1R t 4 a a s).wr=(Q2h t a s).wr:=rfl;unfold obR Q9u at cW ⊢;rw[e1]at cW;obtain⟨L,hL⟩:=QE s.op;have k5:1<=L/\L<=1000000:=by have:=hL.eq;omega
 refine fnN (QpQ (Qz s.op) (Qv s.ev) (Qk (Q2h t a s).wr)) func97 rfl fun _ _=>?_
 with_reducible refine cv9 (Qk s.wr) (Qz s.op) (Qv s.ev) (Qk (Q2h t a s).wr) (Q2 b) (Q0 t.r) (Q9 t.off) t.kind t.bom ?_
 have jE:std.len (Qz s.op)=L:=by show((Qz s.op).length:Int)=L;rw[slen,hL.eq]
 refine⟨cW,?_,?_,?_,?_⟩
 ·show(Qv s.ev).length+2<=1000000000
  omega
 ·show(-9223372036854775808:Int)<=std.len (Qz s.op)-1/\std.len (Qz s.op)-1<=(9223372036854775807:Int)
  rw[jE];omega
 ·show 0<=(0:Int)/\0<=std.len (Qz s.op)-1/\std.len (Qz s.op)-1<=std.len (Qz s.op)
  rw[jE];omega
 refine⟨[some 0,some 1,some 2,some 3],.tup [],_,rfl,rfl,le_of_ble_eq_true rfl,rfl,?_,trivial⟩
 have eo:std.cut (Qz s.op) 0 (std.len (Qz s.op)-1)=Qz (Q2h t a s).op:=by
  rw[jE];show((Qz s.op).drop 0).take (L-1-0).toNat=Qz (s.op.take (s.op.length-1))
  have:=hL.eq
  rw[List.drop_zero,show(L-1-0).toNat=s.op.length-1 by omega]
  simp[Qz,map_take]
 have ee:Qv s.ev++[AV.agg [.val (.int .i64 2),.val (.int .i64 22),.val (.slice none 0 0)],.agg [.val (.int .i64 3),.val (.int .i64 0),.val (.slice none 0 0)]]=Qv (Q2h t a s).ev:=by
  show _=Qv (s.ev++_);rw[Q8i];rfl
 simp[Qe];exact⟨eo,ee⟩
theorem QlW{op:List (List Int)}{nm:List Int}{i:Int}(h:0<=i):Q2G op nm (i+1).toNat=if op[i.toNat]?.getD []=nm then i else Q2G op nm i.toNat:=by
 rw[show(i+1).toNat=i.toNat+1 by omega]
 show(if _ then((i.toNat:Nat):Int)else _)=_
 rw[Int.toNat_of_nonneg h]
theorem QfM(t:Txt)(b:List UInt8)(s:RSt)(hw:∀x∈s.op,∀r∈x,0<Qr r)(jT:s.op.length<=1000000)(nm:List Int)(hn:∀r∈nm,0<Qr r) :
  BCall prog 141 [.box 0 0,.val (.string (runesBytes nm))] (obR 0 t b s) (.val (.int .i64 (Q2G s.op nm s.op.length))) (obR 1 t b s):=by
 have slen:=Q4f s.op;unfold obR Q9u;obtain⟨L,hL⟩:=QE s.op;have k5:0<=L/\L<=1000000:=by have:=hL.eq;omega
 obtain⟨F,hF⟩:=exq (Q2G s.op nm s.op.length);rw[<-hF];obtain⟨NS,hNS⟩:=exq (runesBytes nm);rw[<-hNS];refine fnN (cs0) func141 rfl fun _ _=>?_
 with_reducible refine cv8 (Qk s.wr) (Qz s.op) (Qv s.ev) (Q2 b) (Q0 t.r) (Q9 t.off) t.kind t.bom ?_
 have jE:std.len (Qz s.op)=L:=by show((Qz s.op).length:Int)=L;rw[slen,hL.eq]
 refine⟨?_,?_⟩
 ·show(-9223372036854775808:Int)<=std.len (Qz s.op)-1/\std.len (Qz s.op)-1<=(9223372036854775807:Int)
  rw[jE];omega
 have nM:std.sub (std.len (Qz s.op)) 1=L-1:=by rw[jE];rfl
 refine Q1h (cs0) (Int) (fun i=>⟨[(0,.box 0 0),(1,.val (.string NS)),(5,.val (.int .i64 i))],[.box [.slc 1 (Q2 b),.val (.int .i64 t.kind),.val (.int .i64 t.bom),.slc 1 (Q0 t.r),.slc 1 (Q9 t.off),.row 1 0,.row 2 0,.row 3 0],.row 9 1 false 0 (Qz s.op),.row 107 3 false 0 (Qv s.ev),.row 157 3 false 0 (Qk s.wr)]⟩) (fun i=>-1<=i/\i<=L-1/\Q2G s.op nm (i+1).toNat=F) (fun i=>(i+1).toNat) (L-1) ?_ ?_ ?_
 ·exact⟨by omega,Int.le_refl _,by have:=hL.eq;rw[hF,show(L-1+1).toNat=s.op.length by omega]⟩
 ·refine⟨[some 0,some 1,some 2,some 3],_,rfl,?_⟩
  exact eq1 nM
 ·rintro i ⟨jK,qi,yt⟩
  rcases Int.lt_or_eq_of_le jK with jA|j6
  ·have pG:0<=i:=by omega
   rw[QlW pG]at yt;have j1:i.toNat<s.op.length:=by have:=hL.eq;omega
   have hx:(Qz s.op)[i.toNat]?.getD .dead=.val (.string (runesBytes (s.op[i.toNat]?.getD []))):=by
    rw[Qz,List.getElem?_map,List.getElem?_eq_getElem j1];rfl
   have py:∀r∈s.op[i.toNat]?.getD [],0<Qr r:=by
    rw[List.getElem?_eq_getElem j1];exact hw _ (List.getElem_mem j1)
   obtain⟨X,hX⟩:=exq (s.op[i.toNat]?.getD []);rw[<-hX]at yt hx py;obtain⟨XS,hXS⟩:=exq (runesBytes X);have hE:std.eqS XS NS=decide (X=nm):=by rw[hXS,hNS];exact QlG py hn
   rw[<-hXS]at hx;clear hX hXS;with_reducible refine cv8 (Qk s.wr) (Qz s.op) (Qv s.ev) (Q2 b) (Q0 t.r) (Q9 t.off) t.kind t.bom ?_
   have yG:(Qz s.op).getD i.toNat .dead=.val (.string XS):=by rw[getD_eq_getElem?_getD];exact hx
   have hS:std.str (std.nth (std.cel (std.at_ (Qz s.op) i)) 0)=XS:=by
    show Qb2 ((((Qz s.op).getD i.toNat .dead).cells).getD 0 .dead)=_;rw[yG];rfl
   have hQ:std.hasS (std.nth (std.cel (std.at_ (Qz s.op) i)) 0):=by
    show(((Qz s.op).getD i.toNat .dead).cells).getD 0 .dead=.val (.string (Qb2 ((((Qz s.op).getD i.toNat .dead).cells).getD 0 .dead)))
    rw[yG];rfl
   refine⟨fun _=>⟨?_,⟨hQ,trivial⟩,fun j6=>?_,fun jQ=>⟨?_,i-1,⟨by omega,by omega,?_⟩,by omega,[some 0,some 1,some 2,some 3],_,rfl,?_⟩⟩,fun h=>?_⟩
   ·show 0<=i/\i<std.len (Qz s.op)
    rw[jE];omega
   ·have j6:std.eqS (std.str (std.nth (std.cel (std.at_ (Qz s.op) i)) 0)) NS=true:=j6
    rw[hS,hE]at j6;have j6:=of_decide_eq_true j6;rw[if_pos j6]at yt;rw[<-yt];refine⟨[some 0,some 1,some 2,some 3],.val (.int .i64 i),_,rfl,rfl,le_of_ble_eq_true rfl,rfl,?_,.inl rfl⟩;simp[Qe]
   ·show(-9223372036854775808:Int)<=i-1/\i-1<=(9223372036854775807:Int)
    omega
   ·have jQ:std.eqS (std.str (std.nth (std.cel (std.at_ (Qz s.op) i)) 0)) NS=false:=jQ
    rw[hS,hE]at jQ;have jQ:=of_decide_eq_false jQ;rw[if_neg jQ]at yt;rw[show(i-1+1).toNat=i.toNat by omega];exact yt
   ·simp[Qe,lk,std]
   ·have h:decide ((0:Int)<=i)=false:=h
    exact absurd pG (of_decide_eq_false h)
  ·have yt:(-1:Int)=F:=by rw[<-yt,<-j6];rfl
   rw[<-j6,<-yt];with_reducible refine cv8 (Qk s.wr) (Qz s.op) (Qv s.ev) (Q2 b) (Q0 t.r) (Q9 t.off) t.kind t.bom ?_
   refine⟨fun h=>?_,fun _=>?_⟩
   ·have h:decide ((0:Int)<=-1)=true:=h
    simp at h
   ·rw[if_pos trivial]
    with_reducible refine cv8 (Qk s.wr) (Qz s.op) (Qv s.ev) (Q2 b) (Q0 t.r) (Q9 t.off) t.kind t.bom ?_
    refine⟨[some 0,some 1,some 2,some 3],.val (.int .i64 (-1)),_,rfl,rfl,le_of_ble_eq_true rfl,rfl,?_,.inl rfl⟩;simp[Qe]
def Q8D(ob:List Ob)(OP EV WR:List AV):Option (AV×List Ob):=match ob with
 | [.box [B,K,M,R,O,.row 1 0,.row 2 0,.row 3 0],_,_,_]=>some (.tup [],[.box [B,K,M,R,O,.row 1 1,.row 2 1,.row 3 1],.row 9 1 false 1 OP,.row 107 3 false 1 EV,.row 157 3 false 1 WR])
 |_=>none
def Qo6(OP EV WR EV2:List AV):Nat->List AV->List Ob->Option (AV×List Ob):=fun f _ ob=>match f with
 |1000017=>Q8D ob OP EV WR
 |1000020=>Q8D ob OP EV2 WR
 |_=>none
def QnV(OP EV WR:List AV):Nat->List AV->List Ob->Option (AV×List Ob):=fun f _ ob=>match f with
 |1000045=>Q8D ob OP EV WR
 |_=>none
theorem Q9Q(t:Txt)(b:List UInt8)(hs:Sml t b)(s:RSt)(hd:s.wr.length<=900000)(he:s.ev.length<=900000)(jT:s.op.length<=900000)(kind f u:Int)(wh:Bool)(hi:InT t f u)(NM:ByteArray)(cX:64<=s.op.length) :
  BCall prog 94 [.box 0 0,.agg [.val (.int .i64 kind),.val (.int .i64 f),.val (.int .i64 u),.val (.bool wh)],.val (.string NM)] (obR 0 t b s) (.tup []) (obR 1 t b (Q1K t b kind f u (Q1R t 5 f u s))):=by
 obtain⟨hf,hu⟩:=hi.off hs;have cW:=Q65 t b s (by omega) 5 f u hf hu
 obtain⟨s1,jL⟩:=exq (Q1R t 5 f u s);have cL:=Q5v t b hs s1 (by rw[jL];show s.ev.length<=_;omega) kind f u wh hi
 have e1:s1.op=s.op:=by rw[jL];rfl
 have e2:s1.ev=s.ev:=by rw[jL];rfl
 have e3:(Q1K t b kind f u s1).op=s.op:=e1;have e4:(Q1K t b kind f u s1).wr=s1.wr:=rfl;have slen:=Q4f s.op;rw[<-jL]at cW ⊢;unfold obR Q9u at cW cL ⊢;rw[e1,e2]at cW cL;rw[e3,e4]at cL ⊢;obtain⟨L,hL⟩:=QE s.op;have k5:64<=L/\L<=1000000:=by have:=hL.eq;omega
 clear jL e1 e2 e3 e4;refine fnN (Qo6 (Qz s.op) (Qv s.ev) (Qk s1.wr) (Qv (Q1K t b kind f u s1).ev)) func94 rfl fun _ _=>?_
 with_reducible refine Qqc (Qk s.wr) (Qz s.op) (Qv s.ev) (Qk s1.wr) (Qv (Q1K t b kind f u s1).ev) (Q2 b) (Q0 t.r) (Q9 t.off) t.kind t.bom ?_
 have jE:std.len (Qz s.op)=L:=by show((Qz s.op).length:Int)=L;rw[slen,hL.eq]
 have jJ:std.leI 64 (std.len (Qz s.op))=true:=by rw[jE];exact decide_eq_true k5.1
 refine⟨fun _=>⟨cW,cL,[some 0,some 1,some 2,some 3],.tup [],_,rfl,rfl,le_of_ble_eq_true rfl,rfl,?_,trivial⟩,fun h=>by cases jJ.symm.trans h⟩
 simp[Qe]
theorem Qac(t:Txt)(b:List UInt8)(hs:Sml t b)(s:RSt)(hd:s.wr.length<=900000)(he:s.ev.length<=900000)(kind f u:Int)(wh:Bool)(hi:InT t f u)(nm:List Int)(cX:s.op.length<64) :
  BCall prog 94 [.box 0 0,.agg [.val (.int .i64 kind),.val (.int .i64 f),.val (.int .i64 u),.val (.bool wh)],.val (.string (runesBytes nm))] (obR 0 t b s) (.tup [])
   [.box [.slc 1 (Q2 b),.val (.int .i64 t.kind),.val (.int .i64 t.bom),.slc 1 (Q0 t.r),.slc 1 (Q9 t.off),.row 4 1,.row 2 1,.row 3 1],.row 9 1 false 1 (Qz s.op),.row 107 3 false 1 (Qv ((s.ev++[⟨1,0,none⟩])++[⟨2,kind,some (QU t b f u)⟩])),.row 157 3 false 1 (Qk s.wr),.row 9 1 false 1 (Qz (s.op++[nm]))]:=by
 obtain⟨s1,jL⟩:=exq (⟨s.op++[nm],s.ev++[⟨1,0,none⟩],s.wr⟩:RSt);have cL:=Q5v t b hs s1 (by rw[jL];show(s.ev++[_]).length<=_;simp;omega) kind f u wh hi
 have e1:s1.op=s.op++[nm]:=by rw[jL]
 have e2:s1.ev=s.ev++[⟨1,0,none⟩]:=by rw[jL]
 have e5:s1.wr=s.wr:=by rw[jL]
 have e3:(Q1K t b kind f u s1).op=s.op++[nm]:=e1;have e4:(Q1K t b kind f u s1).wr=s.wr:=e5;have e6:(Q1K t b kind f u s1).ev=(s.ev++[⟨1,0,none⟩])++[⟨2,kind,some (QU t b f u)⟩]:=by rw[<-e2];rfl
 have slen:=Q4f s.op;have elen:=Q6A s.ev;rw[<-e6];unfold obR Q9u at cL ⊢;rw[e1,e2,e5,e3,e4,Q8i,Qex]at cL;rw[Qex];obtain⟨NM,zV⟩:=exq (runesBytes nm);have eN:Qz [nm]=[.val (.string NM)]:=by rw[zV];rfl
 rw[eN]at cL ⊢;rw[<-zV];obtain⟨L,hL⟩:=QE s.op;have k5:L<64/\0<=L:=by have:=hL.eq;omega
 clear jL e1 e2 e3 e4 e5 e6 eN zV;refine fnN (QnV (Qz s.op++[.val (.string NM)]) (Qv (Q1K t b kind f u s1).ev) (Qk s.wr)) func94 rfl fun _ _=>?_
 with_reducible refine Qqc (Qk s.wr) (Qz s.op++[.val (.string NM)]) (Qz s.op) (Qv (Q1K t b kind f u s1).ev) (Qv s.ev) (Q2 b) (Q0 t.r) (Q9 t.off) t.kind t.bom ?_
 have jE:std.len (Qz s.op)=L:=by show((Qz s.op).length:Int)=L;rw[slen,hL.eq]
 have jJ:std.leI 64 (std.len (Qz s.op))=false:=by rw[jE];exact decide_eq_false (by omega)
 refine⟨fun h=>(by cases jJ.symm.trans h),fun _=>⟨?_,?_,?_,cL,[some 0,some 1,some 2,some 3,some 6],.tup [],_,rfl,rfl,le_of_ble_eq_true rfl,rfl,?_,trivial⟩⟩
 ·show(Qv s.ev).length+1<=1000000000
  omega
 ·show 0+(Qz s.op).length<=1000000000
  omega
 ·show([]++Qz s.op).length+1<=1000000000
  rw[List.nil_append];omega
 ·simp[Qe]
theorem Q9h{t:Txt}{f:Int}{k:Nat}{x:RSt}(h:k<x.op.length):Q1g t f k (x.op.length+1) x=Q1g t f k ((Q2h t f x).op.length+1) (Q2h t f x):=by
 have e:(Q2h t f x).op.length=x.op.length-1:=by show(x.op.take (x.op.length-1)).length=_;rw[length_take];omega
 rw[e];show(if k<x.op.length then _ else _)=_
 rw[if_pos h,show x.op.length-1+1=x.op.length by omega]
theorem Qad{t:Txt}{f:Int}{k:Nat}{x:RSt}(h:¬k<x.op.length):Q1g t f k (x.op.length+1) x=x:=by
 show(if k<x.op.length then _ else _)=_
 rw[if_neg h]
theorem Qb5(op:List (List Int))(nm:List Int):∀k,-1<=Q2G op nm k/\Q2G op nm k<k
 |0=>⟨Int.le_refl _,by show(-1:Int)<0;decide⟩
 |k+1=>by
  unfold Q2G;have:=Qb5 op nm k
  split
  ·omega
  ·omega
def Qgv(r:Int)(OP EV WR W1 E2 OPf EVf WRf:List AV):Nat->List AV->List Ob->Option (AV×List Ob):=fun f _ ob=>match f with
 |1000009=>(match ob with
  | [.box [B,K,M,R,O,.row 1 0,.row 2 0,.row 3 0],_,_,_]=>some (.val (.int .i64 r),[.box [B,K,M,R,O,.row 1 1,.row 2 1,.row 3 1],.row 9 1 false 1 OP,.row 107 3 false 1 EV,.row 157 3 false 1 WR])
  |_=>none)
 |1000017=>Q8D ob OP EV W1
 |1000020=>Q8D ob OP E2 W1
 |1000035=>Q8D ob OPf EVf WRf
 |_=>none
def Qo2(OP EV WR:List AV):Nat->List AV->List Ob->Option (AV×List Ob):=fun f _ ob=>match f with
 |1000032=>Q8D ob OP EV WR
 |_=>none
structure RSm (s:RSt):Prop where
 w:s.wr.length+s.op.length<=900000
 e:s.ev.length+2 * s.op.length<=900000
theorem RSm.lack{s:RSt}(h:RSm s)(t:Txt)(a:Int)(hs:1<=s.op.length):RSm (Q2h t a s):=by
 have h1:=h.w;have h2:=h.e;refine⟨?_,?_⟩
 ·show(s.wr++[_]).length+(s.op.take (s.op.length-1)).length<=_
  rw[length_append,length_take,length_singleton];omega
 ·show(s.ev++[_,_]).length+2 * (s.op.take (s.op.length-1)).length<=_
  rw[length_append,length_take,List.length_cons,length_singleton];omega
theorem QjO(t:Txt)(b:List UInt8)(hs:Sml t b)(s:RSt)(hm:RSm s)(hw:∀x∈s.op,∀r∈x,0<Qr r)(kind f u:Int)(wh:Bool)(hi:InT t f u)(qB:∀r∈Qs t f u,0<Qr r) :
  BCall prog 95 [.box 0 0,.agg [.val (.int .i64 kind),.val (.int .i64 f),.val (.int .i64 u),.val (.bool wh)],.val (.string (runesBytes (Qs t f u)))] (obR 0 t b s) (.tup []) (obR 1 t b (Qbt t b kind f u s)):=by
 obtain⟨hf,hu⟩:=hi.off hs;have hmw:=hm.w;have hme:=hm.e;have cI:=QfM t b s hw (by omega) (Qs t f u) qB
 have hr:=Qb5 s.op (Qs t f u) s.op.length;obtain⟨r,hrE⟩:=exq (Q2G s.op (Qs t f u) s.op.length);rw[<-hrE]at cI hr;obtain⟨NM,zV⟩:=exq (runesBytes (Qs t f u));rw[<-zV]at cI ⊢;have cW:=Q65 t b s (by omega) 3 f u hf hu
 obtain⟨s1,jL⟩:=exq (Q1R t 3 f u s);have cL:=Q5v t b hs s1 (by rw[jL];show s.ev.length<=_;omega) kind f u wh hi
 have e1:s1.op=s.op:=by rw[jL];rfl
 have e2:s1.ev=s.ev:=by rw[jL];rfl
 have e3:(Q1K t b kind f u s1).op=s.op:=e1;have e4:(Q1K t b kind f u s1).wr=s1.wr:=rfl;obtain⟨S1,zO⟩:=exq (Q1g t f (r.toNat+1) (s.op.length+1) s)
 have hE:Qbt t b kind f u s=if r<0 then Q1K t b kind f u s1 else⟨(Q1K t b kind f u S1).op.take r.toNat,(Q1K t b kind f u S1).ev++[⟨3,0,none⟩],(Q1K t b kind f u S1).wr⟩:=by
  rw[jL,zO,hrE];rfl
 rw[hE];rw[<-jL]at cW;clear hE hrE zV qB jL;have slen:=Q4f s.op;unfold obR Q9u at cI cW cL ⊢;rw[e1,e2]at cW cL;rw[e3,e4]at cL;obtain⟨L,hL⟩:=QE s.op;have k5:0<=L/\L<=900000:=by have:=hL.eq;omega
 have hrL:r<L:=by have:=hL.eq;omega
 refine fnN (Qgv r (Qz s.op) (Qv s.ev) (Qk s.wr) (Qk s1.wr) (Qv (Q1K t b kind f u s1).ev) (Qz S1.op) (Qv (Q1K t b kind f u S1).ev) (Qk S1.wr)) func95 rfl fun _ _=>?_
 generalize hO:Q9 t.off=O;generalize hK:t.kind=K;generalize hM:t.bom=M;with_reducible refine Qqc (Qk s.wr) (Qz s.op) (Qv s.ev) (Qk s1.wr) (Qv (Q1K t b kind f u s1).ev) (Qz S1.op) (Qv (Q1K t b kind f u S1).ev) (Qk S1.wr) (Q2 b) (Q0 t.r) ?_
 subst hO hK hM;refine⟨cI,fun jA=>?_,fun zi=>?_⟩
 ·have jA:r<0:=of_decide_eq_true jA
  rw[if_pos jA,e3,e4];refine⟨cW,cL,[some 0,some 1,some 2,some 3],.tup [],_,rfl,rfl,le_of_ble_eq_true rfl,rfl,?_,trivial⟩;simp[Qe]
 have zi:¬r<0:=of_decide_eq_false zi;rw[if_neg zi];obtain⟨k,hk⟩:=exq r.toNat;rw[<-hk]at zO ⊢;have hrk:r=(k:Int):=by omega
 clear cI cW cL;refine Q46 (cs:=(fun x:RSt=>Qo2 (Qz (Q2h t f x).op) (Qv (Q2h t f x).ev) (Qk (Q2h t f x).wr))) (ord:=fun _=>.nil) Q6k (by kernel_rfl) (by kernel_rfl) (by kernel_rfl) (X:=RSt) (fun x=>⟨[(0,.box 0 0),(4,.box 4 0),(6,.val (.int .i64 r))],[.box [.slc 1 (Q2 b),.val (.int .i64 t.kind),.val (.int .i64 t.bom),.slc 1 (Q0 t.r),.slc 1 (Q9 t.off),.row 1 1,.row 2 1,.row 3 1],.row 9 1 false 1 (Qz x.op),.row 107 3 false 1 (Qv x.ev),.row 157 3 false 1 (Qk x.wr),.box [.val (.int .i64 kind),.val (.int .i64 f),.val (.int .i64 u),.val (.bool wh)]]⟩) (fun x=>RSm x/\k+1<=x.op.length/\Q1g t f (k+1) (x.op.length+1) x=S1) (fun x=>x.op.length) s ?_ ?_ ?_
 ·exact⟨hm,by have:=hL.eq;omega,zO.symm⟩
 ·exact⟨[some 0,some 1,some 2,some 3,some 4],_,rfl,by simp[Qe,lk,std]⟩
 ·rintro x ⟨yf,yx,yj⟩
  have xw:=yf.w;have xe:=yf.e;have xlen:=Q4f x.op;obtain⟨LX,za⟩:=QE x.op;have hX1:1<=LX/\LX<=900000:=by have:=za.eq;omega
  have cK:1<=x.op.length->BCall prog 97 [.box 0 0,.val (.int .i64 f)] (obR 0 t b x) (.tup []) (obR 1 t b (Q2h t f x)):=fun h=>Qcb t b x (by omega) (by omega) f hf h (by omega)
  obtain⟨y,hy⟩:=exq (Q2h t f x);have zX:y.op.length=x.op.length-1:=by rw[hy];show(x.op.take (x.op.length-1)).length=_;rw[length_take];omega
  have zc:RSm y:=by rw[hy];exact yf.lack t f (by omega)
  have j8:k+1<x.op.length->Q1g t f (k+1) (y.op.length+1) y=S1:=fun h=>by rw[hy,<-Q9h h];exact yj
  rw[<-hy]at cK ⊢;clear hy;unfold obR Q9u at cK;generalize hM:t.bom=M;with_reducible refine Qqc (Qk x.wr) (Qz x.op) (Qv x.ev) (Qz y.op) (Qv y.ev) (Qk y.wr) (Q2 b) (Q0 t.r) (Q9 t.off) t.kind ?_
  subst hM;have zq:std.len (Qz x.op)=LX:=by show((Qz x.op).length:Int)=LX;rw[xlen,za.eq]
  refine⟨?_,fun vr=>?_,fun jJ=>?_⟩
  ·show(-9223372036854775808:Int)<=r+1/\r+1<=(9223372036854775807:Int)
   omega
  ·have vr:r+1<std.len (Qz x.op):=of_decide_eq_true vr
   rw[zq]at vr;have jU:k+1<x.op.length:=by have:=za.eq;omega
   exact⟨cK (by omega),y,⟨zc,by omega,j8 jU⟩,by omega,[some 0,some 1,some 2,some 3,some 4],_,rfl,by simp[Qe,lk,std]⟩
  ·have jJ:¬r+1<std.len (Qz x.op):=of_decide_eq_false jJ
   rw[zq]at jJ;have jU:¬k+1<x.op.length:=by have:=za.eq;omega
   have hx3:x=S1:=by rw[<-yj,Qad jU]
   have vN:x.op.length=k+1:=by omega
   have cL:=Q5v t b hs x (by omega) kind f u wh hi
   rw[<-hx3];obtain⟨z,hz⟩:=exq (Q1K t b kind f u x);have z1:z.op=x.op:=by rw[hz];rfl
   have z2:z.wr=x.wr:=by rw[hz];rfl
   have z3:z.ev.length=x.ev.length+1:=by rw[hz];show(x.ev++[_]).length=_;simp
   rw[<-hz]at cL ⊢;unfold obR Q9u at cL;rw[z1,z2]at cL ⊢;have zlen:=Q6A z.ev
   have eo:std.cut (Qz x.op) 0 r=Qz (x.op.take k):=by
    show((Qz x.op).drop 0).take (r-0).toNat=Qz (x.op.take k)
    rw[List.drop_zero,show(r-0).toNat=k by omega]
    simp[Qz,map_take]
   clear jJ zq jU yj yx j8 zX zc cK hx3 hz z1 z2 xlen;rw[if_pos trivial];with_reducible refine cv9 (Qk x.wr) (Qz x.op) (Qv x.ev) (Qv z.ev) (Q2 b) (Q0 t.r) (Q9 t.off) t.kind t.bom ?_
   refine⟨cL,?_,?_,[some 0,some 1,some 2,some 3],.tup [],_,rfl,rfl,le_of_ble_eq_true rfl,rfl,?_,trivial⟩
   ·show(Qv z.ev).length+1<=1000000000
    omega
   ·show 0<=(0:Int)/\0<=r/\r<=((Qz x.op).length:Int)
    rw[Q4f];omega
   ·simp[Qe]
    exact⟨eo,by rw[Q8i];rfl⟩
end
theorem Qb6(l:List Int):∀n k:Nat,l.length-k<=n->∀x∈Q1S l k,0<=x.from_/\x.from_<=x.to/\x.to<=l.length
 |0,k,h=>fun x hx=>by rw[Q1k (by omega)]at hx;cases hx
 |n+1,k,h=>fun x hx=>by
  by_cases hk:k<l.length
  ·obtain⟨h1,h2,h3,h4⟩:=Q9S l hk
   rw[Q1O hk]at hx;rcases List.mem_cons.1 hx with rfl|hx
   ·rw[h1,h2];omega
   ·exact Qb6 l n (Ql l k).2.1 (by omega) x hx
  ·rw[Q1k hk]at hx;cases hx
structure RB (s:RSt) (i:Nat):Prop where
 w:s.wr.length+s.op.length<=2 * i
 e:s.ev.length+2 * s.op.length<=1+4 * i
 n:∀x∈s.op,∀r∈x,0<Qr r
theorem Q9O(t:Txt)(f:Int)(k:Nat):∀(n:Nat)(s:RSt),(Q1g t f k n s).wr.length+(Q1g t f k n s).op.length<=s.wr.length+s.op.length/\(Q1g t f k n s).ev.length+2 * (Q1g t f k n s).op.length<=s.ev.length+2 * s.op.length/\∀x∈(Q1g t f k n s).op,x∈s.op
 |0,s=>⟨le_refl _,le_refl _,fun x hx=>hx⟩
 |n+1,s=>by
  unfold Q1g;split
  ·rename_i h
   obtain⟨h1,h2,h3⟩:=Q9O t f k n (Q2h t f s);have e1:(Q2h t f s).op.length=s.op.length-1:=by show(s.op.take (s.op.length-1)).length=_;rw[length_take];omega
   have e2:(Q2h t f s).wr.length=s.wr.length+1:=by show(s.wr++[_]).length=_;simp
   have e3:(Q2h t f s).ev.length=s.ev.length+2:=by show(s.ev++[_,_]).length=_;simp
   exact⟨by omega,by omega,fun x hx=>List.mem_of_mem_take (h3 x hx)⟩
  ·exact⟨le_refl _,le_refl _,fun x hx=>hx⟩
def Q9s(t:Txt)(kind f u:Int)(wh:Bool)(s:RSt):RSt:=if wh=false then Q1R t 1 f u s else if(kind=8\/kind=9\/kind=10)/\(QD t.r f u).right=false then Q1R t 2 f u s else s
theorem Qha(t:Txt)(kind f u:Int)(wh:Bool)(s:RSt):(Q9s t kind f u wh s).op=s.op/\(Q9s t kind f u wh s).ev=s.ev/\(Q9s t kind f u wh s).wr.length<=s.wr.length+1:=by
 unfold Q9s;split
 ·exact⟨rfl,rfl,by show(s.wr++[_]).length<=_;simp⟩
 ·split
  ·exact⟨rfl,rfl,by show(s.wr++[_]).length<=_;simp⟩
  ·exact⟨rfl,rfl,Nat.le_succ _⟩
theorem Qcp(t:Txt)(b:List UInt8)(kind f u:Int)(wh:Bool)(s:RSt):Q63 t b kind f u wh s=if wh=true/\kind=8/\0<(Qs t f u).length then Q4x t b kind f u (Q9s t kind f u wh s)
 else if wh=true/\kind=10 then Qbt t b kind f u (Q9s t kind f u wh s)else Q1K t b kind f u (Q9s t kind f u wh s):=rfl
theorem RB.token{s:RSt}{i:Nat}(h:RB s i)(t:Txt)(b:List UInt8)(kind:Int){f u:Int}(h0:0<=f)(h1:f<=u)(h2:u<=t.r.length)(wh:Bool):RB (Q63 t b kind f u wh s) (i+1):=by
 obtain⟨e1,e2,e3⟩:=Qha t kind f u wh s;rw[Qcp];generalize Q9s t kind f u wh s=s1 at e1 e2 e3;have hw:=h.w;have he:=h.e;have hn:=h.n;rw[<-e1,<-e2]at he;rw[<-e1]at hw hn
 have leafRB:∀(s2:RSt)(c:Nat),s2.wr.length+s2.op.length<=2 * i+c->c<=2->s2.ev.length+2 * s2.op.length<=1+4 * i+3->(∀x∈s2.op,∀r∈x,0<Qr r)->RB (Q1K t b kind f u s2) (i+1):=fun s2 c k1 kc k2 k3 =>
  ⟨by show s2.wr.length+s2.op.length<=_;omega,by show(s2.ev++[_]).length+2 * s2.op.length<=_;rw[length_append,length_singleton];omega,k3⟩
 split
 ·unfold Q4x
  split
  ·refine leafRB _ 2 ?_ (le_refl _) ?_ hn
   ·show(s1.wr++[_]).length+s1.op.length<=_
    rw[length_append,length_singleton];omega
   ·show s1.ev.length+2 * s1.op.length<=_;omega
  ·refine leafRB _ 2 ?_ (le_refl _) ?_ ?_
   ·show s1.wr.length+(s1.op++[_]).length<=_
    rw[length_append,length_singleton];omega
   ·show(s1.ev++[_]).length+2 * (s1.op++[_]).length<=_
    simp only[length_append,length_singleton];omega
   ·intro x hx
    rcases List.mem_append.1 hx with hx|hx
    ·exact hn x hx
    ·obtain rfl:x=Qs t f u:=by simpa using hx
     exact Qcf t h0 h1 h2
 ·split
  ·unfold Qbt
   split
   ·refine leafRB _ 2 ?_ (le_refl _) ?_ hn
    ·show(s1.wr++[_]).length+s1.op.length<=_
     rw[length_append,length_singleton];omega
    ·show s1.ev.length+2 * s1.op.length<=_;omega
   ·obtain⟨k1,k2,k3⟩:=Q9O t f ((Q2G s1.op (Qs t f u) s1.op.length).toNat+1) (s1.op.length+1) s1
    have jA:=Qb5 s1.op (Qs t f u) s1.op.length;have jE:=Qa8 t f ((Q2G s1.op (Qs t f u) s1.op.length).toNat+1) (s1.op.length+1) s1 (by omega) (by omega)
    generalize Q1g t f ((Q2G s1.op (Qs t f u) s1.op.length).toNat+1) (s1.op.length+1) s1=z at k1 k2 k3 jE;refine⟨?_,?_,fun x hx=>hn x (k3 x (List.mem_of_mem_take hx))⟩
    ·show z.wr.length+(z.op.take _).length<=_
     rw[length_take];omega
    ·show((z.ev++[_])++[_]).length+2 * (z.op.take _).length<=_
     rw[length_take];simp only[length_append,length_singleton];omega
  ·exact leafRB _ 1 (by omega) (by omega) (by omega) hn
def Qpf(ob:List Ob)(OP EV WR OP2:List AV):Option (AV×List Ob):=match ob with
 | [.box [B,K,M,R,O,.row 1 0,.row 2 0,.row 3 0],_,_,_]=>some (.tup [],[.box [B,K,M,R,O,.row 4 1,.row 2 1,.row 3 1],.row 9 1 false 1 OP,.row 107 3 false 1 EV,.row 157 3 false 1 WR,.row 9 1 false 1 OP2])
 |_=>none
def Qhd(push:Bool)(NM:ByteArray)(rk rf ru:Int)(ra:List AV)(rr re:Bool)(OP EV W1 OP2 EV2 W2:List AV):Nat->List AV->List Ob->Option (AV×List Ob):=fun f _ ob=>match f with
 |92=>some (.val (.string NM),[])
 |53=>some (.agg [.val (.int .i64 rk),.val (.int .i64 rf),.val (.int .i64 ru),.slc 9 ra,.val (.bool rr),.val (.bool re)],[])
 |1000032=>Q8D ob OP EV W1
 |1000060=>Q8D ob OP EV W1
 |1000075=>(match push with
  |true=>Qpf ob OP EV2 W2 OP2
  |false=>Q8D ob OP2 EV2 W2)
 |1000086=>Q8D ob OP2 EV2 W2
 |1000089=>Q8D ob OP2 EV2 W2
 |_=>none
def Qh0(t:Txt)(y:Tok)(s:RSt):Bool:=y.whole&&decide (y.kind=8)&&decide (0<(Qs t y.from_ y.to).length)&&decide (s.op.length<64)
def QlS:Tok:=⟨0,0,0,false⟩
def Qoo(t:Txt)(b:List UInt8)(toks:List Tok)(x:RSt×Int):Nat->List AV->List Ob->Option (AV×List Ob) :=
 let y:=toks[x.2.toNat]?.getD QlS
 let T:=QD t.r y.from_ y.to
 Qhd (Qh0 t y x.1) (runesBytes (Qs t y.from_ y.to)) T.name.kind T.name.from_ T.name.to (Qh T.attrs) T.right T.empty (Qz x.1.op) (Qv x.1.ev) (Qk (Q9s t y.kind y.from_ y.to y.whole x.1).wr)
  (Qz (Q64 t b x.1 y).op) (Qv (Q64 t b x.1 y).ev) (Qk (Q64 t b x.1 y).wr)
def Qdu(TK:List AV):Nat->List AV->List Ob->Option (AV×List Ob):=fun f _ _=>match f with
 |72=>some (.slc 4 TK,[])
 |_=>none
def QnS(OP EV WR:List AV):Nat->List AV->List Ob->Option (AV×List Ob):=fun f _ ob=>match f with
 |1000104=>Q8D ob OP EV WR
 |_=>none
