/- Lemmas, conditions told -/
import Derived.Test.YtnlbhaeimmenoaaGreatG25
import Derived.Test.YtnlbhaeimmenoaaGreatG26
import Derived.Test.YtnlbhaeimmenoaaGreatG27
import Derived.Test.YtnlbhaeimmenoaaGreatG28
import Derived.Test.YtnlbhaeimmenoaaGreatG29
import Derived.Test.YtnlbhaeimmenoaaGreatG30
import Derived.Test.YtnlbhaeimmenoaaGreatG31
import Derived.Test.YtnlbhaeimmenoaaGreatG21
set_option maxRecDepth 99999
set_option maxHeartbeats 0
set_option linter.unusedSimpArgs false
set_option linter.unusedVariables false
namespace Go.Proofs.YtnlbhaeimmenoaaGreat
open List(length_append length_singleton length_take append_nil length_drop length_cons)
open Go.RowKit Go.Lib
section
open Tryz
theorem QnM{L:List Int}{k:Nat}(h:Qf (L[k]?.getD 0)=false):Qk L k=0:=by
 unfold Qk;cases e:L[k]? with
 |none=>rfl
 |some c =>
  rw[e]at h;have h:Qf c=false:=h;show(if Qf c=true then _ else 0)=0
  rw[if_neg (by rw[h];decide)]
theorem QkW(l:List Int)(hl:l.length<=1000000000)(hu:Un l)(f k to:Int)(h:Rng l k to):BCall prog 88 [.slc 1 (Q0 l),.val (.int .i64 f),.val (.int .i64 k),.val (.int .i64 to)] [] (Q1T (Q12 l f k to) k) []:=by
 have e0:=Q9O (l:=l) h.h0 h.h1;have yU:∀c:Int,l[k.toNat]?.getD 0=c->Qf c=false->Qk (l.take to.toNat) k.toNat=0:=fun c e hc=>QnM (by rw[e0,e];exact hc)
 by_cases jL:l[k.toNat]?.getD 0=60
 ·by_cases vq:k=f
  ·cases hs:Q3 (l.take to.toNat) k.toNat [60,47]with
   |true=>exact Qbs l hl hu f k to h vq jL hs
   |false=>exact Qbu l hl hu f k to h vq jL hs
  ·exact Qkg l hl hu f k to h (by rw[jL];rfl) (yU 60 jL (by decide)) (by rw[jL];decide) vq jL
 ·cases j8:Qb (l[k.toNat]?.getD 0)with
  |true=>exact QfE l hl hu f k to h jL j8
  |false =>
   rcases Nat.eq_zero_or_pos (Qk (l.take to.toNat) k.toNat)with jF|jF
   ·by_cases jy:l[k.toNat]?.getD 0=61
    ·exact QmF l hl hu f k to h jL j8 jF jy
    ·by_cases q34:l[k.toNat]?.getD 0=34
     ·by_cases hv:0<Q1t (QK l k to)
      ·exact Qeh l hl hu f k to h jL j8 jF jy q34 hv
      ·exact Qf3 l hl hu f k to h jL j8 jF jy q34 hv
     ·by_cases q39:l[k.toNat]?.getD 0=39
      ·by_cases hv:0<Q1t (QK l k to)
       ·exact Qew l hl hu f k to h jL j8 jF jy q39 hv
       ·exact QdG l hl hu f k to h jL j8 jF jy q39 hv
      ·have qK:¬(l[k.toNat]?.getD 0=34\/l[k.toNat]?.getD 0=39):=fun e=>e.elim q34 q39
       by_cases j0:l[k.toNat]?.getD 0=62
       ·by_cases jT:k+1=to
        ·exact Qmp l hl hu f k to h jL j8 jF jy qK jT j0
        ·exact Qis l hl hu f k to h jL j8 jF jy qK jT j0
       ·by_cases vI:l[k.toNat]?.getD 0=47
        ·by_cases j1:k+2=to
         ·by_cases gG:l[(k+1).toNat]?.getD 0=62
          ·exact Qkm l hl hu f k to h jL j8 jF jy qK j1 vI gG
          ·exact Qi9 l hl hu f k to h jL j8 jF jy qK j1 vI gG
         ·exact Qj7 l hl hu f k to h jL j8 jF jy qK j1 vI
        ·exact Qj5 l hl hu f k to h jL j8 jF jy qK j0 vI
   ·exact Qgz l hl hu f k to h jL j8 jF
def Qqe(kd nx:Int->Int):Nat->List AV->List Ob->Option (AV×List Ob):=fun f args _=>match f,args with
 |88,[.slc 1 _,.val (.int .i64 _),.val (.int .i64 k),.val (.int .i64 _)]=>some (.agg [.val (.int .i64 (kd k)),.val (.int .i64 k),.val (.int .i64 (nx k))],[])
 |_,_=>none
theorem Q6x(l:List Int)(hl:l.length<=1000000)(hu:Un l)(from_ to:Int)(h0:0<=from_)(h1:from_<=to)(h2:to<=l.length) :
  BCall prog 39 [.slc 1 (Q0 l),.val (.int .i64 from_),.val (.int .i64 to)] [] (.slc 3 (Q7 (QT l from_ to))) []:=by
 obtain⟨n,hn⟩:=QG l;have jr:=Qx l;have pA:to<=n:=by rw[hn.eq];exact h2
 have yQ:n<=1000000:=by rw[hn.eq];omega
 obtain⟨kd,jD⟩:=exq (fun k:Int=>(Q12 l from_ k to).1:Int->Int)
 obtain⟨nx,jM⟩:=exq (fun k:Int=>k+(Q12 l from_ k to).2:Int->Int)
 have cP:∀k:Int,0<=k->k<to->BCall prog 88 [.slc 1 (Q0 l),.val (.int .i64 from_),.val (.int .i64 k),.val (.int .i64 to)] [] (.agg [.val (.int .i64 (kd k)),.val (.int .i64 k),.val (.int .i64 (nx k))]) []:=fun k k0 k1=>by
  rw[jD,jM];exact QkW l (by omega) hu from_ k to ⟨k0,k1,h2⟩
 have jb:∀k:Int,from_<=k->k<to->k<nx k/\nx k<=to/\Qt k (decide (k=from_)) (QK l k to)=⟨kd k,k,nx k⟩::Qt (nx k) (decide (nx k=from_)) (QK l (nx k) to):=fun k k0 k1=>by
  have hr:Rng l k to:=⟨by omega,k1,h2⟩
  have hp:=Q3i (QK l k to) (decide (k=from_)) hr.ne;have jH:=hr.len;have e3:=Q1J hr.ne k (decide (k=from_));obtain⟨K,hK⟩:=exq ((Qj (QK l k to) (decide (k=from_))).1);obtain⟨N,hN⟩:=exq ((Qj (QK l k to) (decide (k=from_))).2);rw[<-hK,<-hN]at e3;rw[<-hN]at hp;have e1:nx k=k+N:=by rw[jM,hN];rfl
  have e2:kd k=K:=by rw[jD,hK];rfl
  have e4:decide (k+N=from_)=false:=decide_eq_false (by omega)
  have e5:(QK l k to).drop N.toNat=QK l (k+N) to:=by
   rw[QK,QK,List.drop_drop];congr 1
   omega
  rw[e1,e2,e3,e4,e5];exact⟨by omega,by omega,rfl⟩
 clear jD jM;refine fnN (Qqe kd nx) func39 rfl fun _ _=>?_
 with_reducible refine cv1 (Q0 l) ?_
 have en:=hn.eq;have kK:(((Q0 l).length:Nat):Int)=n:=by omega
 with_reducible repeat' first|refine aU (zA kK <| zA h0 <| zA h1 pA) ?_|refine And.intro ?_ ?_|intro hb
 refine Q1h (Qqe kd nx) (List TPart×Int) (fun x=>⟨[(0,.slc 1 (Q0 l)),(1,.val (.int .i64 from_)),(2,.val (.int .i64 to)),(7,.row 0 0),(8,.val (.int .i64 x.2))],[.row 54 3 false 0 (Q7 x.1)]⟩) (fun x=>from_<=x.2/\x.2<=to/\x.1++Qt x.2 (decide (x.2=from_)) (QK l x.2 to)=QT l from_ to/\(x.1.length:Int)<=x.2) (fun x=>(to-x.2).toNat) ([],from_) ?_ ?_ ?_
 ·exact⟨by omega,h1,by simp[QT,QK],h0⟩
 ·exact⟨[none],_,rfl,by simp[Qm,lk,Q7]⟩
 ·rintro⟨out,k⟩ ⟨js,jj,j6,j2⟩
  simp only at js jj j6 j2
  have jR:=Q19 out;have n8:out.length<=1000000:=by omega
  obtain⟨q,hq⟩:=QG out;have qE:q<=k:=by rw[hq.eq];exact j2
  by_cases hk:k<to
  ·obtain⟨s1,s2,s3⟩:=jb k js hk
   have cPk:=cP k (by omega) hk
   have hG:out++[⟨kd k,k,nx k⟩]++Qt (nx k) (decide (nx k=from_)) (QK l (nx k) to)=QT l from_ to:=by
    rw[<-j6,s3];simp
   clear s3 en kK;with_reducible refine cv2 (Q0 l) (Q7 out) ?_
   have eq:=hq.eq;with_reducible repeat' first|refine aU (zA jR <| zA hk js) ?_|refine And.intro ?_ ?_|intro hb
   all_goals exact⟨(out++[⟨kd k,k,nx k⟩],nx k),⟨by simp only;omega,s2,hG,by show((out++[_]).length:Int)<=nx k;simp only[length_append,length_singleton];omega⟩,by simp only;omega,[some 0],_,rfl,by simp[Qm,lk,std,Qb7,Q7s]⟩
  ·have hG:out=QT l from_ to:=by
    have:QK l k to=[]:=List.drop_eq_nil_of_le (by rw[length_take];omega)
    rw[<-j6,this,Qt,dif_pos rfl,append_nil]
   clear en kK;with_reducible refine cv2 (Q0 l) (Q7 out) ?_
   with_reducible repeat' first|refine aU hk ?_|refine And.intro ?_ ?_|intro hb
   all_goals
    rw[if_pos trivial];with_reducible refine cv2 (Q0 l) (Q7 out) ?_
    exact .pure rfl (.inl (by rw[hG]))
def kdF(l:List TPart)(a:Int):Int:=(l[a.toNat]?.getD Qn).kind
def bkF(l:List TPart)(a:Int):Int:=if kdF l a=3 then a+1 else a
def nxF(l:List TPart)(a:Int):Int:=match Q1S l a with|some x=>x.2|none=>-1
theorem Q4h(l:List TPart)(a k:Int)(hk:k≠0):QP l a.toNat [k]=decide (kdF l a=k):=by
 rw[QP,kdF];cases e:l[a.toNat]? with
 |none =>
  rw[List.getElem?_eq_none_iff]at e;rw[List.drop_of_length_le e];show false=decide ((0:Int)=k);rw[decide_eq_false (fun h=>hk h.symm)]
 |some x =>
  obtain⟨h1,h2⟩:=List.getElem?_eq_some_iff.1 e;rw[List.drop_eq_getElem_cons h1,h2];show([x.kind] == [k])=decide (x.kind=k)
  by_cases h:x.kind=k<;>simp[h]
theorem Qi0(l:List TPart)(a:Int):Q3T l a 3=bkF l a:=by
 rw[Q3T,bkF,Q4h l a 3 (by decide)]
 simp only[decide_eq_true_eq]
theorem Q8g(l:List TPart)(a:Int):Q1S l a=if kdF l a=3/\kdF l (a+1)=2 then if kdF l (bkF l (a+2))=4 then if kdF l (bkF l (bkF l (a+2)+1))=5 then some (Q4S (l[(a+1).toNat]?.getD Qn) (l[a.toNat]?.getD Qn) (l[(bkF l (bkF l (a+2)+1)).toNat]?.getD Qn),bkF l (bkF l (a+2)+1)+1)else none else none else none:=by
 unfold Q1S;simp only[Q4h l _ 3 (by decide),Q4h l _ 2 (by decide),Q4h l _ 4 (by decide),Q4h l _ 5 (by decide),Qi0,decide_eq_true_eq,Q4S]
theorem Q9p{l:List TPart}{a k:Int}(h0:0<=a)(h:kdF l a=k)(hk:k≠0):a<l.length:=by
 by_cases h1:a<l.length
 ·exact h1
 ·rw[kdF,List.getElem?_eq_none (by omega)]at h
  exact absurd h.symm hk
theorem Q3P(l:List TPart)(hl:l.length<=1000000000)(a:Int)(h0:0<=a):BCall prog 40 [.slc 3 (Q7 l),.val (.int .i64 a)] [] (.val (.int .i64 (kdF l a))) []:=by
 obtain⟨n,hn⟩:=QG l;have jR:=Q19 l;obtain⟨K,hK⟩:=exq (kdF l a);rw[<-hK];have e1:a<n->(Q7 l)[a.toNat]?.getD .dead=(l[a.toNat]?.getD Qn).av:=fun h=>Q25 h0 (by have:=hn.eq;omega)
 have e2:¬a<n->K=0:=fun h=>by
  rw[hK,kdF,List.getElem?_eq_none (by have:=hn.eq;omega)];rfl
 by_cases jB:a<n
 ·have jX:=e1 jB
  have hK2:(l[a.toNat]?.getD Qn).kind=K:=by rw[hK];rfl
  obtain⟨x,hx⟩:=exq (l[a.toNat]?.getD Qn);rw[<-hx]at jX hK2;rw[TPart.av]at jX;clear e1 e2 hK hx;refine fnN (cs0) func40 rfl fun _ _=>?_
  with_reducible refine cv1 (Q7 l) ?_
  have jC:(((Q7 l).length:Nat):Int)=n:=by have:=hn.eq;omega
  with_reducible repeat' first|refine aU (zA jC <| zA jX <| zA h0 jB) ?_|refine And.intro ?_ ?_|intro hb
  all_goals exact .pure rfl (.inl (by simp[std,jX,AV.cells,RowKit.intOf,hK2]))
 ·have hK2:=e2 jB
  clear e1 e2 hK;refine fnN (cs0) func40 rfl fun _ _=>?_
  with_reducible refine cv1 (Q7 l) ?_
  have jC:(((Q7 l).length:Nat):Int)=n:=by have:=hn.eq;omega
  with_reducible repeat' first|refine aU (zA jC <| zA h0 jB) ?_|refine And.intro ?_ ?_|intro hb
  all_goals exact .pure rfl (.inl (by rw[hK2]))
def QqF(K:Int->Int):Nat->List AV->List Ob->Option (AV×List Ob):=fun f args _=>match f,args with
 |40,[_,.val (.int .i64 a)]=>some (.val (.int .i64 (K a)),[])
 |_,_=>none
theorem Q4k(l:List TPart)(hl:l.length<=1000000000)(a:Int)(h0:0<=a)(h1:a<=1000000000):BCall prog 42 [.slc 3 (Q7 l),.val (.int .i64 a)] [] (.val (.int .i64 (bkF l a))) []:=by
 obtain⟨K,hK⟩:=exq (kdF l);have cK:=Q3P l hl a h0;rw[<-hK]at cK;by_cases h3:K a=3
 ·have e:bkF l a=a+1:=by rw[bkF,<-hK,if_pos h3]
  rw[e];clear hK e;refine fnN (QqF K) func42 rfl fun _ _=>?_
  with_reducible refine cv1 (Q7 l) ?_
  refine⟨cK,?_⟩;with_reducible repeat' first|refine aU (zA h3 <| zA h0 h1) ?_|refine And.intro ?_ ?_|intro hb
  all_goals exact .pure rfl (.inl rfl)
 ·have e:bkF l a=a:=by rw[bkF,<-hK,if_neg h3]
  rw[e];clear hK e;refine fnN (QqF K) func42 rfl fun _ _=>?_
  with_reducible refine cv1 (Q7 l) ?_
  refine⟨cK,?_⟩;with_reducible repeat' first|refine aU (zA h3 <| zA h0 h1) ?_|refine And.intro ?_ ?_|intro hb
  all_goals exact .pure rfl (.inl rfl)
def Qe4(K B:Int->Int):Nat->List AV->List Ob->Option (AV×List Ob):=fun f args _=>match f,args with
 |40,[_,.val (.int .i64 a)]=>some (.val (.int .i64 (K a)),[])
 |42,[_,.val (.int .i64 a)]=>some (.val (.int .i64 (B a)),[])
 |_,_=>none
theorem QlB(l:List TPart)(hl:l.length<=1000000)(a:Int)(h0:0<=a)(h1:a<=1000000)(g:¬kdF l a=3):BCall prog 41 [.slc 3 (Q7 l),.val (.int .i64 a)] [] (.tup [.agg (QD l a).cs,.val (.int .i64 (nxF l a))]) []:=by
 have hR:Q1S l a=none:=by rw[Q8g,if_neg (fun e=>g e.1)]
 have e1:QD l a=tattr0:=by rw[QD,hR]
 have e2:nxF l a=-1:=by rw[nxF,hR]
 rw[e1,e2];clear e1 e2 hR;have qk:∀a,0<=a->a<=bkF l a/\bkF l a<=a+1:=fun a _=>by rw[bkF];split<;>omega
 have cK:=Q3P l (by omega)
 have cB:=Q4k l (by omega)
 obtain⟨n,hn⟩:=QG l;have jR:=Q19 l;have qG:n<=1000000:=by rw[hn.eq];omega
 obtain⟨K,hK⟩:=exq (kdF l);obtain⟨B,hB⟩:=exq (bkF l);simp only[<-hK,<-hB]at *;clear hK hB;have b1:=qk (a+2) (by omega)
 have b2:=qk (B (a+2)+1) (by omega)
 have c1:=cK a h0;have c2:=cK (a+1) (by omega)
 have c3:=cB (a+2) (by omega) (by omega)
 have c4:=cK (B (a+2)) (by omega)
 have c5:=cB (B (a+2)+1) (by omega) (by omega)
 have c6:=cK (B (B (a+2)+1)) (by omega)
 clear cK cB qk;refine fnN (Qe4 K B) func41 rfl fun _ _=>?_
 with_reducible refine cv1 (Q7 l) ?_
 have jC:(((Q7 l).length:Nat):Int)=n:=by have:=hn.eq;omega
 with_reducible repeat' first|refine aU (zA jC <| zA h0 g) ?_|refine And.intro ?_ ?_|intro hb
 all_goals first
  |exact c1
  |exact c2
  |exact c3
  |exact c4
  |exact c5
  |exact c6
  |exact .pure rfl ⟨⟨.inl rfl,.inl rfl,.inl rfl,.inl rfl,.inl rfl,.inl rfl,.inl rfl,.inl rfl,.inl rfl,trivial⟩,.inl rfl,trivial⟩
theorem QlS(l:List TPart)(hl:l.length<=1000000)(a:Int)(h0:0<=a)(h1:a<=1000000)(g3:kdF l a=3)(g:¬kdF l (a+1)=2):BCall prog 41 [.slc 3 (Q7 l),.val (.int .i64 a)] [] (.tup [.agg (QD l a).cs,.val (.int .i64 (nxF l a))]) []:=by
 have hR:Q1S l a=none:=by rw[Q8g,if_neg (fun e=>g e.2)]
 have e1:QD l a=tattr0:=by rw[QD,hR]
 have e2:nxF l a=-1:=by rw[nxF,hR]
 rw[e1,e2];clear e1 e2 hR;have qk:∀a,0<=a->a<=bkF l a/\bkF l a<=a+1:=fun a _=>by rw[bkF];split<;>omega
 have cK:=Q3P l (by omega)
 have cB:=Q4k l (by omega)
 obtain⟨n,hn⟩:=QG l;have jR:=Q19 l;have qG:n<=1000000:=by rw[hn.eq];omega
 obtain⟨K,hK⟩:=exq (kdF l);obtain⟨B,hB⟩:=exq (bkF l);simp only[<-hK,<-hB]at *;clear hK hB;have b1:=qk (a+2) (by omega)
 have b2:=qk (B (a+2)+1) (by omega)
 have c1:=cK a h0;have c2:=cK (a+1) (by omega)
 have c3:=cB (a+2) (by omega) (by omega)
 have c4:=cK (B (a+2)) (by omega)
 have c5:=cB (B (a+2)+1) (by omega) (by omega)
 have c6:=cK (B (B (a+2)+1)) (by omega)
 clear cK cB qk;refine fnN (Qe4 K B) func41 rfl fun _ _=>?_
 with_reducible refine cv1 (Q7 l) ?_
 have jC:(((Q7 l).length:Nat):Int)=n:=by have:=hn.eq;omega
 with_reducible repeat' first|refine aU (zA jC <| zA h0 <| zA g3 g) ?_|refine And.intro ?_ ?_|intro hb
 all_goals first
  |exact c1
  |exact c2
  |exact c3
  |exact c4
  |exact c5
  |exact c6
  |exact .pure rfl ⟨⟨.inl rfl,.inl rfl,.inl rfl,.inl rfl,.inl rfl,.inl rfl,.inl rfl,.inl rfl,.inl rfl,trivial⟩,.inl rfl,trivial⟩
theorem Qlj(l:List TPart)(hl:l.length<=1000000)(a:Int)(h0:0<=a)(h1:a<=1000000)(g3:kdF l a=3)(g2:kdF l (a+1)=2)(g:¬kdF l (bkF l (a+2))=4):BCall prog 41 [.slc 3 (Q7 l),.val (.int .i64 a)] [] (.tup [.agg (QD l a).cs,.val (.int .i64 (nxF l a))]) []:=by
 have hR:Q1S l a=none:=by rw[Q8g,if_pos ⟨g3,g2⟩,if_neg g]
 have e1:QD l a=tattr0:=by rw[QD,hR]
 have e2:nxF l a=-1:=by rw[nxF,hR]
 rw[e1,e2];clear e1 e2 hR;have qk:∀a,0<=a->a<=bkF l a/\bkF l a<=a+1:=fun a _=>by rw[bkF];split<;>omega
 have cK:=Q3P l (by omega)
 have cB:=Q4k l (by omega)
 obtain⟨n,hn⟩:=QG l;have jR:=Q19 l;have qG:n<=1000000:=by rw[hn.eq];omega
 obtain⟨K,hK⟩:=exq (kdF l);obtain⟨B,hB⟩:=exq (bkF l);simp only[<-hK,<-hB]at *;clear hK hB;have b1:=qk (a+2) (by omega)
 have b2:=qk (B (a+2)+1) (by omega)
 have c1:=cK a h0;have c2:=cK (a+1) (by omega)
 have c3:=cB (a+2) (by omega) (by omega)
 have c4:=cK (B (a+2)) (by omega)
 have c5:=cB (B (a+2)+1) (by omega) (by omega)
 have c6:=cK (B (B (a+2)+1)) (by omega)
 clear cK cB qk;refine fnN (Qe4 K B) func41 rfl fun _ _=>?_
 with_reducible refine cv1 (Q7 l) ?_
 have jC:(((Q7 l).length:Nat):Int)=n:=by have:=hn.eq;omega
 with_reducible repeat' first|refine aU (zA jC <| zA h0 <| zA g3 <| zA g2 g) ?_|refine And.intro ?_ ?_|intro hb
 all_goals first
  |exact c1
  |exact c2
  |exact c3
  |exact c4
  |exact c5
  |exact c6
  |exact .pure rfl ⟨⟨.inl rfl,.inl rfl,.inl rfl,.inl rfl,.inl rfl,.inl rfl,.inl rfl,.inl rfl,.inl rfl,trivial⟩,.inl rfl,trivial⟩
theorem Qlo(l:List TPart)(hl:l.length<=1000000)(a:Int)(h0:0<=a)(h1:a<=1000000)(g3:kdF l a=3)(g2:kdF l (a+1)=2)(g4:kdF l (bkF l (a+2))=4)(g:¬kdF l (bkF l (bkF l (a+2)+1))=5):BCall prog 41 [.slc 3 (Q7 l),.val (.int .i64 a)] [] (.tup [.agg (QD l a).cs,.val (.int .i64 (nxF l a))]) []:=by
 have hR:Q1S l a=none:=by rw[Q8g,if_pos ⟨g3,g2⟩,if_pos g4,if_neg g]
 have e1:QD l a=tattr0:=by rw[QD,hR]
 have e2:nxF l a=-1:=by rw[nxF,hR]
 rw[e1,e2];clear e1 e2 hR;have qk:∀a,0<=a->a<=bkF l a/\bkF l a<=a+1:=fun a _=>by rw[bkF];split<;>omega
 have cK:=Q3P l (by omega)
 have cB:=Q4k l (by omega)
 obtain⟨n,hn⟩:=QG l;have jR:=Q19 l;have qG:n<=1000000:=by rw[hn.eq];omega
 obtain⟨K,hK⟩:=exq (kdF l);obtain⟨B,hB⟩:=exq (bkF l);simp only[<-hK,<-hB]at *;clear hK hB;have b1:=qk (a+2) (by omega)
 have b2:=qk (B (a+2)+1) (by omega)
 have c1:=cK a h0;have c2:=cK (a+1) (by omega)
 have c3:=cB (a+2) (by omega) (by omega)
 have c4:=cK (B (a+2)) (by omega)
 have c5:=cB (B (a+2)+1) (by omega) (by omega)
 have c6:=cK (B (B (a+2)+1)) (by omega)
 clear cK cB qk;refine fnN (Qe4 K B) func41 rfl fun _ _=>?_
 with_reducible refine cv1 (Q7 l) ?_
 have jC:(((Q7 l).length:Nat):Int)=n:=by have:=hn.eq;omega
 with_reducible repeat' first|refine aU (zA jC <| zA h0 <| zA g3 <| zA g2 <| zA g4 g) ?_|refine And.intro ?_ ?_|intro hb
 all_goals first
  |exact c1
  |exact c2
  |exact c3
  |exact c4
  |exact c5
  |exact c6
  |exact .pure rfl ⟨⟨.inl rfl,.inl rfl,.inl rfl,.inl rfl,.inl rfl,.inl rfl,.inl rfl,.inl rfl,.inl rfl,trivial⟩,.inl rfl,trivial⟩
theorem QjQ(l:List TPart)(hl:l.length<=1000000)(a:Int)(h0:0<=a)(h1:a<=1000000)(g3:kdF l a=3)(g2:kdF l (a+1)=2)(g4:kdF l (bkF l (a+2))=4)(g5:kdF l (bkF l (bkF l (a+2)+1))=5):BCall prog 41 [.slc 3 (Q7 l),.val (.int .i64 a)] [] (.tup [.agg (QD l a).cs,.val (.int .i64 (nxF l a))]) []:=by
 have hR:Q1S l a=some (Q4S (l[(a+1).toNat]?.getD Qn) (l[a.toNat]?.getD Qn) (l[(bkF l (bkF l (a+2)+1)).toNat]?.getD Qn),bkF l (bkF l (a+2)+1)+1):=by rw[Q8g,if_pos ⟨g3,g2⟩,if_pos g4,if_pos g5]
 have e1:QD l a=Q4S (l[(a+1).toNat]?.getD Qn) (l[a.toNat]?.getD Qn) (l[(bkF l (bkF l (a+2)+1)).toNat]?.getD Qn):=by rw[QD,hR]
 have e2:nxF l a=bkF l (bkF l (a+2)+1)+1:=by rw[nxF,hR]
 rw[e1,e2];clear e1 e2 hR;have qk:∀a,0<=a->a<=bkF l a/\bkF l a<=a+1:=fun a _=>by rw[bkF];split<;>omega
 have cK:=Q3P l (by omega)
 have cB:=Q4k l (by omega)
 obtain⟨n,hn⟩:=QG l;have jR:=Q19 l;have qG:n<=1000000:=by rw[hn.eq];omega
 have lt1:a<n:=by rw[hn.eq];exact Q9p h0 g3 (by decide)
 have lt2:a+1<n:=by rw[hn.eq];exact Q9p (by omega) g2 (by decide)
 have lt3:bkF l (bkF l (a+2)+1)<n:=by
  have b1:=qk (a+2) (by omega)
  have b2:=qk (bkF l (a+2)+1) (by omega)
  rw[hn.eq];exact Q9p (by omega) g5 (by decide)
 have r1:(Q7 l)[a.toNat]?.getD .dead=(l[a.toNat]?.getD Qn).av:=Q25 h0 (by have:=hn.eq;omega)
 have r2:(Q7 l)[(a+1).toNat]?.getD .dead=(l[(a+1).toNat]?.getD Qn).av:=Q25 (by omega) (by have:=hn.eq;omega)
 have r3:(Q7 l)[(bkF l (bkF l (a+2)+1)).toNat]?.getD .dead=(l[(bkF l (bkF l (a+2)+1)).toNat]?.getD Qn).av:=Q25 (by have b1:=qk (a+2) (by omega);have b2:=qk (bkF l (a+2)+1) (by omega);omega) (by have:=hn.eq;omega)
 obtain⟨x,hx⟩:=exq (l[a.toNat]?.getD Qn);obtain⟨y,hy⟩:=exq (l[(a+1).toNat]?.getD Qn);obtain⟨q,hq⟩:=exq (l[(bkF l (bkF l (a+2)+1)).toNat]?.getD Qn);rw[<-hx]at r1;rw[<-hy]at r2;rw[<-hq]at r3;rw[<-hx,<-hy,<-hq];rw[TPart.av]at r1 r2 r3;clear hx hy hq;obtain⟨K,hK⟩:=exq (kdF l);obtain⟨B,hB⟩:=exq (bkF l);simp only[<-hK,<-hB]at *;clear hK hB;have b1:=qk (a+2) (by omega)
 have b2:=qk (B (a+2)+1) (by omega)
 have c1:=cK a h0;have c2:=cK (a+1) (by omega)
 have c3:=cB (a+2) (by omega) (by omega)
 have c4:=cK (B (a+2)) (by omega)
 have c5:=cB (B (a+2)+1) (by omega) (by omega)
 have c6:=cK (B (B (a+2)+1)) (by omega)
 clear cK cB qk;refine fnN (Qe4 K B) func41 rfl fun _ _=>?_
 with_reducible refine cv1 (Q7 l) ?_
 have jC:(((Q7 l).length:Nat):Int)=n:=by have:=hn.eq;omega
 with_reducible repeat' first|refine aU (zA jC <| zA h0 <| zA g3 <| zA g2 <| zA g4 <| zA g5 <| zA r1 <| zA r2 <| zA r3 <| zA lt1 <| zA lt2 lt3) ?_|refine And.intro ?_ ?_|intro hb
 all_goals first
  |exact c1
  |exact c2
  |exact c3
  |exact c4
  |exact c5
  |exact c6
  |(refine .pure rfl ⟨⟨.inl ?_,.inl ?_,.inl ?_,.inl ?_,.inl ?_,.inl ?_,.inl ?_,.inl ?_,.inl ?_,trivial⟩,.inl rfl,trivial⟩<;>simp[std,r1,r2,r3,AV.cells,RowKit.intOf,Q4S])
theorem QcM(l:List TPart)(hl:l.length<=1000000)(a:Int)(h0:0<=a)(h1:a<=1000000):BCall prog 41 [.slc 3 (Q7 l),.val (.int .i64 a)] [] (.tup [.agg (QD l a).cs,.val (.int .i64 (nxF l a))]) []:=by
 by_cases g3:kdF l a=3
 ·by_cases g2:kdF l (a+1)=2
  ·by_cases g4:kdF l (bkF l (a+2))=4
   ·by_cases g5:kdF l (bkF l (bkF l (a+2)+1))=5
    ·exact QjQ l hl a h0 h1 g3 g2 g4 g5
    ·exact Qlo l hl a h0 h1 g3 g2 g4 g5
   ·exact Qlj l hl a h0 h1 g3 g2 g4
  ·exact QlS l hl a h0 h1 g3 g2
 ·exact QlB l hl a h0 h1 g3
theorem QfJ{r:List Int}{b:Bool}(h:(Qj r b).1=1):(Qj r b).2=1\/(Qj r b).2=2:=by
 unfold Qj at h ⊢;split
 ·exact .inr rfl
 ·rename_i h1
  rw[if_neg h1]at h;split
  ·exact .inl rfl
  ·rename_i h2
   rw[if_neg h2]at h;repeat' split at h
   all_goals (simp only at h;omega)
theorem Qj4{l:List Int}{f u:Int}(h:kdF (QT l f u) 0=1):((QT l f u)[0]?.getD Qn).to-((QT l f u)[0]?.getD Qn).from_=1\/((QT l f u)[0]?.getD Qn).to-((QT l f u)[0]?.getD Qn).from_=2:=by
 unfold QT at h ⊢;by_cases hr:(l.take u.toNat).drop f.toNat=[]
 ·rw[hr,kdF,Qt,dif_pos rfl]at h
  exact absurd h (by decide)
 ·rw[Q1J hr]at h ⊢
  have h:(Qj ((l.take u.toNat).drop f.toNat) true).1=1:=h;have h2:=QfJ h;show f+(Qj ((l.take u.toNat).drop f.toNat) true).2-f=1\/f+(Qj ((l.take u.toNat).drop f.toNat) true).2-f=2;omega
theorem Q5F(l:List TPart):QP l 0 [1,2]=decide (kdF l 0=1/\kdF l 1=2):=by
 rw[QP,kdF,kdF];match l with
 | []=>rfl
 | [x] =>
  show([x.kind] == [1,2])=decide (x.kind=1/\(0:Int)=2)
  simp
 |x::y::r =>
  show([x.kind,y.kind] == [1,2])=decide (x.kind=1/\y.kind=2)
  by_cases h:x.kind=1<;>by_cases h2:y.kind=2<;>simp[h,h2]
theorem Qlu{l:List TPart}{a:Int}(h0:0<=a)(h1:a<=l.length):(Q1y l a=true/\a<nxF l a/\nxF l a<=l.length/\Q1M l a=nxF l a)\/(Q1y l a=false/\nxF l a=-1):=by
 cases hg:Q1S l a with
 |none=>exact .inr ⟨by rw[Q1y,hg];rfl,by rw[nxF,hg]⟩
 |some x =>
  have hr:=Qcc h0 h1 (x:=x.1) (b:=x.2) hg;exact .inl ⟨by rw[Q1y,hg];rfl,by rw[nxF,hg];exact hr.1,by rw[nxF,hg];exact hr.2,by rw[Q1M,nxF,hg]⟩
theorem Q4E{l:List Int}{f u:Int}:(QT l f u).length<=l.length:=Qax l f u
def QeN(ps:List AV)(K B:Int->Int)(ce:Int->Nat->Int)(nx:Int->Int):Nat->List AV->List Ob->Option (AV×List Ob):=fun f args _=>match f,args with
 |39,_=>some (.slc 3 ps,[])
 |40,[_,.val (.int .i64 a)]=>some (.val (.int .i64 (K a)),[])
 |42,[_,.val (.int .i64 a)]=>some (.val (.int .i64 (B a)),[])
 |41,[_,.val (.int .i64 a)]=>some (.tup [.agg [.val (.int .i64 (ce a 0)),.val (.int .i64 (ce a 1)),.val (.int .i64 (ce a 2)),.val (.int .i64 (ce a 3)),.val (.int .i64 (ce a 4)),.val (.int .i64 (ce a 5)),.val (.int .i64 (ce a 6)),.val (.int .i64 (ce a 7)),.val (.int .i64 (ce a 8))],.val (.int .i64 (nx a))],[])
 |_,_=>none
def Qay(t:TTag):AV:=.agg [.val (.int .i64 t.name.kind),.val (.int .i64 t.name.from_),.val (.int .i64 t.name.to),.slc 9 (QL t.attrs),.val (.bool t.right),.val (.bool t.empty)]
theorem Qft(l:List Int)(hl:l.length<=1000000)(hu:Un l)(from_ to:Int)(h0:0<=from_)(h1:from_<=to)(h2:to<=l.length)(ps:List TPart)(jm:ps=QT l from_ to)(k0:¬kdF ps 0=1):BCall prog 18 [.slc 1 (Q0 l),.val (.int .i64 from_),.val (.int .i64 to)] [] (Qay ⟨Qn,[],false,false⟩) []:=by
 have qX:ps.length<=1000000:=by have:=Q4E (l:=l) (f:=from_) (u:=to);rw[jm];omega
 have cP:=Q6x l hl hu from_ to h0 h1 h2;rw[<-jm]at cP;have cK0:=Q3P ps (by omega) 0 (by omega)
 have cK1:=Q3P ps (by omega) 1 (by omega)
 obtain⟨K,hK⟩:=exq (kdF ps);simp only[<-hK]at *;clear hK jm h2;rw[Qay];refine fnN (QeN (Q7 ps) K (fun _=>0) (fun _ _=>0) (fun _=>0)) func18 rfl fun _ _=>?_
 with_reducible refine cv2 (Q7 ps) (Q0 l) ?_
 with_reducible repeat' first|refine aU k0 ?_|refine And.intro ?_ ?_|intro hb
 all_goals first
  |exact cP
  |exact cK0
  |exact cK1
  |exact .pure rfl ⟨.inl rfl,.inl rfl,.inl rfl,.inr (.inl ⟨rfl,_,rfl⟩),.inl rfl,.inl rfl,trivial⟩
theorem Qe3(l:List Int)(hl:l.length<=1000000)(hu:Un l)(from_ to:Int)(h0:0<=from_)(h1:from_<=to)(h2:to<=l.length)(ps:List TPart)(jm:ps=QT l from_ to)(k0:kdF ps 0=1)(k1:¬kdF ps 1=2):BCall prog 18 [.slc 1 (Q0 l),.val (.int .i64 from_),.val (.int .i64 to)] [] (Qay ⟨Qn,[],false,false⟩) []:=by
 have qX:ps.length<=1000000:=by have:=Q4E (l:=l) (f:=from_) (u:=to);rw[jm];omega
 have cP:=Q6x l hl hu from_ to h0 h1 h2;rw[<-jm]at cP;have cK0:=Q3P ps (by omega) 0 (by omega)
 have cK1:=Q3P ps (by omega) 1 (by omega)
 obtain⟨K,hK⟩:=exq (kdF ps);simp only[<-hK]at *;clear hK jm h2;rw[Qay];refine fnN (QeN (Q7 ps) K (fun _=>0) (fun _ _=>0) (fun _=>0)) func18 rfl fun _ _=>?_
 with_reducible refine cv2 (Q7 ps) (Q0 l) ?_
 with_reducible repeat' first|refine aU (zA k0 k1) ?_|refine And.intro ?_ ?_|intro hb
 all_goals first
  |exact cP
  |exact cK0
  |exact cK1
  |exact .pure rfl ⟨.inl rfl,.inl rfl,.inl rfl,.inr (.inl ⟨rfl,_,rfl⟩),.inl rfl,.inl rfl,trivial⟩
theorem QlV(l:List Int)(hl:l.length<=1000000)(hu:Un l)(from_ to:Int)(h0:0<=from_)(h1:from_<=to)(h2:to<=l.length)(ps:List TPart)(jm:ps=QT l from_ to)(k0:kdF ps 0=1)(k1:kdF ps 1=2)(ats:List TAttr)(ae:Int)(qY:ats=(Qz ps (ps.length+1) 2).1)(vX:ae=(Qz ps (ps.length+1) 2).2)(b:Int)(hb:b=bkF ps ae)(kb:¬kdF ps b=6):BCall prog 18 [.slc 1 (Q0 l),.val (.int .i64 from_),.val (.int .i64 to)] [] (Qay (Q1f ps)) []:=by
 have qX:ps.length<=1000000:=by have:=Q4E (l:=l) (f:=from_) (u:=to);rw[jm];omega
 have cP:=Q6x l hl hu from_ to h0 h1 h2;rw[<-jm]at cP;obtain⟨n,hn⟩:=QG ps
 have qa:2<=n:=by
  have:=Q9p (by omega) k1 (by decide)
  rw[hn.eq];omega
 have qf:n<=1000000:=by rw[hn.eq];omega
 obtain⟨o,ho⟩:=exq (ps[0]?.getD Qn);obtain⟨nm,qO⟩:=exq (ps[1]?.getD Qn);have r0:(Q7 ps)[0]?.getD .dead=o.av:=by rw[ho];exact Q25 (i:=0) (by omega) (by have:=hn.eq;omega)
 have r1:(Q7 ps)[1]?.getD .dead=nm.av:=by rw[qO];exact Q25 (i:=1) (by omega) (by have:=hn.eq;omega)
 have qo:0<=ae/\ae<=n:=by
  have e:=hn.eq;have:=Q2H (l:=ps) (ps.length+1) 2 (by omega) (by omega)
  rw[<-vX]at this;omega
 have yB:0<=b/\b<=ae+1:=by
  rw[hb,bkF];split<;>omega
 have cK0:=Q3P ps (by omega) 0 (by omega)
 have cK1:=Q3P ps (by omega) 1 (by omega)
 have cB:=Q4k ps (by omega) ae qo.1 (by omega)
 rw[<-hb]at cB;have cKb:=Q3P ps (by omega) b yB.1
 have hR:Q1f ps=⟨nm,ats,false,false⟩:=by simp only[Q1f,show QP ps 0 [1,2]=true from by rw[Q5F,k0,k1];rfl,if_true,<-qY,<-vX,Qi0,<-hb,Q4h ps b 6 (by decide),<-ho,<-qO,decide_eq_true_eq];rw[if_neg (fun e=>kb e.1)]
 rw[hR,Qay];clear hR;obtain⟨K,hK⟩:=exq (kdF ps);obtain⟨B,hB⟩:=exq (bkF ps);simp only[<-hK,<-hB]at k0 k1 hb cB cK0 cK1 cKb kb ;obtain⟨ce,yR⟩:=exq (ceF ps);obtain⟨nx,jM⟩:=exq (nxF ps)
 have cA:∀a:Int,0<=a->a<=n->BCall prog 41 [.slc 3 (Q7 ps),.val (.int .i64 a)] [] (.tup [.agg [.val (.int .i64 (ce a 0)),.val (.int .i64 (ce a 1)),.val (.int .i64 (ce a 2)),.val (.int .i64 (ce a 3)),.val (.int .i64 (ce a 4)),.val (.int .i64 (ce a 5)),.val (.int .i64 (ce a 6)),.val (.int .i64 (ce a 7)),.val (.int .i64 (ce a 8))],.val (.int .i64 (nx a))]) []:=fun a h3 h4=>by
  rw[yR,jM];exact QcM ps (by omega) a h3 (by omega)
 have ga:∀a:Int,0<=a->a<=n->(Q1y ps a=true/\a<nx a/\nx a<=n/\Q1M ps a=nx a)\/(Q1y ps a=false/\nx a=-1):=fun a h3 h4=>by
  rw[jM,hn.eq];exact Qlu h3 (by rw[<-hn.eq];exact h4)
 have qm:∀a:Int,QL [QD ps a]=[.agg [.val (.int .i64 (ce a 0)),.val (.int .i64 (ce a 1)),.val (.int .i64 (ce a 2)),.val (.int .i64 (ce a 3)),.val (.int .i64 (ce a 4)),.val (.int .i64 (ce a 5)),.val (.int .i64 (ce a 6)),.val (.int .i64 (ce a 7)),.val (.int .i64 (ce a 8))]]:=fun a=>by rw[yR];rfl
 have cB:BCall prog 42 [.slc 3 (Q7 ps),.val (.int .i64 ae)] [] (.val (.int .i64 (B ae))) []:=by rw[<-hb];exact cB
 rw[hb]at cKb kb ;clear yR jM hK hB ho qO;refine fnN (QeN (Q7 ps) K B ce nx) func18 rfl fun _ _=>?_
 with_reducible refine cv2 (Q7 ps) (Q0 l) ?_
 have jC:(((Q7 ps).length:Nat):Int)=n:=by have:=hn.eq;have:=Q19 ps;omega
 repeat' first
  |(with_reducible refine And.intro (fun hx=>absurd hx (by first|(try simp[std,S1,k0,k1,jC,qa,r1,TPart.av])<;>omega|omega)) (fun _=>?_))
  |(with_reducible refine And.intro (fun _=>?_) (fun hx=>absurd hx (by first|(try simp[std,S1,k0,k1,jC,qa,r1,TPart.av])<;>omega|omega)))
  |(with_reducible refine And.intro (by first|(try simp[std,S1,k0,k1,jC,qa,r1,TPart.av])<;>omega|omega) ?_)
  |(with_reducible refine And.intro ?_ ?_)
  |(with_reducible intro hb)
 all_goals first
  |exact cP
  |exact cK0
  |exact cK1
  |skip
 refine Q1h (QeN (Q7 ps) K B ce nx) (List TAttr×Int×Int) (fun x=>⟨[(6,.box 0 0),(7,.slc 3 (Q7 ps)),(8,.box 1 0),(9,.val (.int .i64 x.2.1)),(10,.val (.int .i64 x.2.2))],[.box [.val (.int .i64 0),.val (.int .i64 0),.val (.int .i64 0),.val (.slice none 0 0),.val (.bool false),.val (.bool false)],.box [.val (.int .i64 nm.kind),.val (.int .i64 nm.from_),.val (.int .i64 nm.to),.row 2 0,.val (.bool false),.val (.bool false)],.row 105 9 false 0 (QL x.1)]⟩) (fun x=>0<=x.2.2/\2+x.2.2<=x.2.1/\x.2.1<=n/\(∃f:Nat,n-x.2.1<f/\x.1++(Qz ps f x.2.1).1=ats/\(Qz ps f x.2.1).2=ae)/\(x.1.length:Int)<=x.2.1) (fun x=>(n-x.2.1).toNat) ([],2,0) ?_ ?_ ?_
 ·exact⟨by simp,by simp,qa,⟨ps.length+1,by have:=hn.eq;simp only;omega,by rw[qY];rfl,by rw[vX]⟩,by simp⟩
 ·exact⟨[some 0,some 1,none],_,rfl,by simp[Qm,lk,std,r1,TPart.av,AV.cells,RowKit.intOf,QL]⟩
 ·rintro⟨out,a,i⟩ ⟨gb,js,jj,⟨f,j6,j2,qE⟩,hZ⟩
  simp only at gb js jj j6 j2 qE hZ
  have jR:=Q54 out;obtain⟨f,rfl⟩:∃f',f=f'+1:=⟨f-1,by omega⟩
  have cN:=cA a (by omega) jj
  have jS:i<n:=by omega
  have pb:out.length<=1000000:=by omega
  obtain⟨m,hm⟩:=QG out;rcases ga a (by omega) jj with ⟨jn,g1,g2,g3⟩|⟨jn,g1⟩
  ·rw[Qz,if_pos jn,g3]at j2 qE
   have hG:out++[QD ps a]++(Qz ps f (nx a)).1=ats:=by rw[<-j2];simp
   have zx:=qm a;have yS:n-nx a<f:=by omega
   have yT:((out++[QD ps a]).length:Int)<=nx a:=by simp only[length_append,length_singleton];omega
   have zt:¬nx a<0:=by omega
   have ha0:0<=a:=by omega
   clear jC j6 g3 hZ j2;with_reducible refine cv3 (Q7 ps) (Q0 l) (QL out) ?_
   have jC:(((Q7 ps).length:Nat):Int)=n:=by have:=hn.eq;have:=Q19 ps;omega
   with_reducible repeat' first|refine aU (zA jC <| zA jR <| zA jS <| zA zt gb) ?_|refine And.intro ?_ ?_|intro hb
   all_goals first
    |exact cN
    |skip
   refine⟨(out++[QD ps a],nx a,i+1),⟨by simp only;omega,by simp only;omega,g2,⟨f,yS,hG,qE⟩,yT⟩,by simp only;omega,[some 0,some 1,some 2],_,rfl,?_⟩
   simp[Qm,lk,std,Q4W,zx]
  ·rw[Qz,if_neg (by rw[jn];exact Bool.false_ne_true)]at j2 qE
   simp only[append_nil]at j2 qE;have zt:nx a<0:=by omega
   clear g1;rw[<-j2];rw[<-qE]at qo yB cB cKb kb ;have hJ6:a=ae:=qE;clear jC j6 qY vX j2 qE hb;with_reducible refine cv3 (Q7 ps) (Q0 l) (QL out) ?_
   have jC:(((Q7 ps).length:Nat):Int)=n:=by have:=hn.eq;have:=Q19 ps;omega
   with_reducible repeat' first|refine aU (zA jC <| zA jR <| zA jS <| zA zt gb) ?_|refine And.intro ?_ ?_|intro hb
   all_goals first
    |exact cN
    |skip
   rw[if_pos trivial];with_reducible refine cv3 (Q7 ps) (Q0 l) (QL out) ?_
   with_reducible repeat' first|refine aU (zA kb jC) ?_|refine And.intro ?_ ?_|intro hb
   all_goals first
    |exact cB
    |exact cKb
    |exact .pure rfl ⟨.inl rfl,.inl rfl,.inl rfl,.inl rfl,.inl rfl,.inl rfl,trivial⟩
theorem Qke(l:List Int)(hl:l.length<=1000000)(hu:Un l)(from_ to:Int)(h0:0<=from_)(h1:from_<=to)(h2:to<=l.length)(ps:List TPart)(jm:ps=QT l from_ to)(k0:kdF ps 0=1)(k1:kdF ps 1=2)(ats:List TAttr)(ae:Int)(qY:ats=(Qz ps (ps.length+1) 2).1)(vX:ae=(Qz ps (ps.length+1) 2).2)(b:Int)(hb:b=bkF ps ae)(kb:kdF ps b=6)(ji:¬b+1=ps.length):BCall prog 18 [.slc 1 (Q0 l),.val (.int .i64 from_),.val (.int .i64 to)] [] (Qay (Q1f ps)) []:=by
 have qX:ps.length<=1000000:=by have:=Q4E (l:=l) (f:=from_) (u:=to);rw[jm];omega
 have cP:=Q6x l hl hu from_ to h0 h1 h2;rw[<-jm]at cP;obtain⟨n,hn⟩:=QG ps
 have qa:2<=n:=by
  have:=Q9p (by omega) k1 (by decide)
  rw[hn.eq];omega
 have qf:n<=1000000:=by rw[hn.eq];omega
 obtain⟨o,ho⟩:=exq (ps[0]?.getD Qn);obtain⟨nm,qO⟩:=exq (ps[1]?.getD Qn);have r0:(Q7 ps)[0]?.getD .dead=o.av:=by rw[ho];exact Q25 (i:=0) (by omega) (by have:=hn.eq;omega)
 have r1:(Q7 ps)[1]?.getD .dead=nm.av:=by rw[qO];exact Q25 (i:=1) (by omega) (by have:=hn.eq;omega)
 have qo:0<=ae/\ae<=n:=by
  have e:=hn.eq;have:=Q2H (l:=ps) (ps.length+1) 2 (by omega) (by omega)
  rw[<-vX]at this;omega
 have yB:0<=b/\b<=ae+1:=by
  rw[hb,bkF];split<;>omega
 have cK0:=Q3P ps (by omega) 0 (by omega)
 have cK1:=Q3P ps (by omega) 1 (by omega)
 have cB:=Q4k ps (by omega) ae qo.1 (by omega)
 rw[<-hb]at cB;have cKb:=Q3P ps (by omega) b yB.1
 have hR:Q1f ps=⟨nm,ats,false,false⟩:=by simp only[Q1f,show QP ps 0 [1,2]=true from by rw[Q5F,k0,k1];rfl,if_true,<-qY,<-vX,Qi0,<-hb,Q4h ps b 6 (by decide),<-ho,<-qO,decide_eq_true_eq];rw[if_neg (fun e=>ji (by have:=Q9p yB.1 kb (by decide);omega))]
 rw[hR,Qay];clear hR;obtain⟨K,hK⟩:=exq (kdF ps);obtain⟨B,hB⟩:=exq (bkF ps);simp only[<-hK,<-hB]at k0 k1 hb cB cK0 cK1 cKb kb ;obtain⟨ce,yR⟩:=exq (ceF ps);obtain⟨nx,jM⟩:=exq (nxF ps)
 have cA:∀a:Int,0<=a->a<=n->BCall prog 41 [.slc 3 (Q7 ps),.val (.int .i64 a)] [] (.tup [.agg [.val (.int .i64 (ce a 0)),.val (.int .i64 (ce a 1)),.val (.int .i64 (ce a 2)),.val (.int .i64 (ce a 3)),.val (.int .i64 (ce a 4)),.val (.int .i64 (ce a 5)),.val (.int .i64 (ce a 6)),.val (.int .i64 (ce a 7)),.val (.int .i64 (ce a 8))],.val (.int .i64 (nx a))]) []:=fun a h3 h4=>by
  rw[yR,jM];exact QcM ps (by omega) a h3 (by omega)
 have ga:∀a:Int,0<=a->a<=n->(Q1y ps a=true/\a<nx a/\nx a<=n/\Q1M ps a=nx a)\/(Q1y ps a=false/\nx a=-1):=fun a h3 h4=>by
  rw[jM,hn.eq];exact Qlu h3 (by rw[<-hn.eq];exact h4)
 have qm:∀a:Int,QL [QD ps a]=[.agg [.val (.int .i64 (ce a 0)),.val (.int .i64 (ce a 1)),.val (.int .i64 (ce a 2)),.val (.int .i64 (ce a 3)),.val (.int .i64 (ce a 4)),.val (.int .i64 (ce a 5)),.val (.int .i64 (ce a 6)),.val (.int .i64 (ce a 7)),.val (.int .i64 (ce a 8))]]:=fun a=>by rw[yR];rfl
 have cB:BCall prog 42 [.slc 3 (Q7 ps),.val (.int .i64 ae)] [] (.val (.int .i64 (B ae))) []:=by rw[<-hb];exact cB
 rw[hb]at cKb kb ;clear yR jM hK hB ho qO;refine fnN (QeN (Q7 ps) K B ce nx) func18 rfl fun _ _=>?_
 with_reducible refine cv2 (Q7 ps) (Q0 l) ?_
 have jC:(((Q7 ps).length:Nat):Int)=n:=by have:=hn.eq;have:=Q19 ps;omega
 repeat' first
  |(with_reducible refine And.intro (fun hx=>absurd hx (by first|(try simp[std,S1,k0,k1,jC,qa,r1,TPart.av])<;>omega|omega)) (fun _=>?_))
  |(with_reducible refine And.intro (fun _=>?_) (fun hx=>absurd hx (by first|(try simp[std,S1,k0,k1,jC,qa,r1,TPart.av])<;>omega|omega)))
  |(with_reducible refine And.intro (by first|(try simp[std,S1,k0,k1,jC,qa,r1,TPart.av])<;>omega|omega) ?_)
  |(with_reducible refine And.intro ?_ ?_)
  |(with_reducible intro hb)
 all_goals first
  |exact cP
  |exact cK0
  |exact cK1
  |skip
 refine Q1h (QeN (Q7 ps) K B ce nx) (List TAttr×Int×Int) (fun x=>⟨[(6,.box 0 0),(7,.slc 3 (Q7 ps)),(8,.box 1 0),(9,.val (.int .i64 x.2.1)),(10,.val (.int .i64 x.2.2))],[.box [.val (.int .i64 0),.val (.int .i64 0),.val (.int .i64 0),.val (.slice none 0 0),.val (.bool false),.val (.bool false)],.box [.val (.int .i64 nm.kind),.val (.int .i64 nm.from_),.val (.int .i64 nm.to),.row 2 0,.val (.bool false),.val (.bool false)],.row 105 9 false 0 (QL x.1)]⟩) (fun x=>0<=x.2.2/\2+x.2.2<=x.2.1/\x.2.1<=n/\(∃f:Nat,n-x.2.1<f/\x.1++(Qz ps f x.2.1).1=ats/\(Qz ps f x.2.1).2=ae)/\(x.1.length:Int)<=x.2.1) (fun x=>(n-x.2.1).toNat) ([],2,0) ?_ ?_ ?_
 ·exact⟨by simp,by simp,qa,⟨ps.length+1,by have:=hn.eq;simp only;omega,by rw[qY];rfl,by rw[vX]⟩,by simp⟩
 ·exact⟨[some 0,some 1,none],_,rfl,by simp[Qm,lk,std,r1,TPart.av,AV.cells,RowKit.intOf,QL]⟩
 ·rintro⟨out,a,i⟩ ⟨gb,js,jj,⟨f,j6,j2,qE⟩,hZ⟩
  simp only at gb js jj j6 j2 qE hZ
  have jR:=Q54 out;obtain⟨f,rfl⟩:∃f',f=f'+1:=⟨f-1,by omega⟩
  have cN:=cA a (by omega) jj
  have jS:i<n:=by omega
  have pb:out.length<=1000000:=by omega
  obtain⟨m,hm⟩:=QG out;rcases ga a (by omega) jj with ⟨jn,g1,g2,g3⟩|⟨jn,g1⟩
  ·rw[Qz,if_pos jn,g3]at j2 qE
   have hG:out++[QD ps a]++(Qz ps f (nx a)).1=ats:=by rw[<-j2];simp
   have zx:=qm a;have yS:n-nx a<f:=by omega
   have yT:((out++[QD ps a]).length:Int)<=nx a:=by simp only[length_append,length_singleton];omega
   have zt:¬nx a<0:=by omega
   have ha0:0<=a:=by omega
   clear jC j6 g3 hZ j2;with_reducible refine cv3 (Q7 ps) (Q0 l) (QL out) ?_
   have jC:(((Q7 ps).length:Nat):Int)=n:=by have:=hn.eq;have:=Q19 ps;omega
   with_reducible repeat' first|refine aU (zA jC <| zA jR <| zA jS <| zA zt gb) ?_|refine And.intro ?_ ?_|intro hb
   all_goals first
    |exact cN
    |skip
   refine⟨(out++[QD ps a],nx a,i+1),⟨by simp only;omega,by simp only;omega,g2,⟨f,yS,hG,qE⟩,yT⟩,by simp only;omega,[some 0,some 1,some 2],_,rfl,?_⟩
   simp[Qm,lk,std,Q4W,zx]
  ·rw[Qz,if_neg (by rw[jn];exact Bool.false_ne_true)]at j2 qE
   simp only[append_nil]at j2 qE;have zt:nx a<0:=by omega
   clear g1;rw[<-j2];rw[<-qE]at qo yB cB cKb kb ;have hb9:b=B a:=by rw[qE];exact hb
   clear jC j6 qY vX j2 qE hb;with_reducible refine cv3 (Q7 ps) (Q0 l) (QL out) ?_
   have jC:(((Q7 ps).length:Nat):Int)=n:=by have:=hn.eq;have:=Q19 ps;omega
   with_reducible repeat' first|refine aU (zA jC <| zA jR <| zA jS <| zA zt gb) ?_|refine And.intro ?_ ?_|intro hb
   all_goals first
    |exact cN
    |skip
   rw[if_pos trivial];have ji:¬B a+1=n:=by rw[<-hb9,hn.eq];exact ji
   with_reducible refine cv3 (Q7 ps) (Q0 l) (QL out) ?_
   with_reducible repeat' first|refine aU (zA kb <| zA jC <| zA ji yB) ?_|refine And.intro ?_ ?_|intro hb
   all_goals first
    |exact cB
    |exact cKb
    |exact .pure rfl ⟨.inl rfl,.inl rfl,.inl rfl,.inl rfl,.inl rfl,.inl rfl,trivial⟩
theorem Qj8(l:List Int)(hl:l.length<=1000000)(hu:Un l)(from_ to:Int)(h0:0<=from_)(h1:from_<=to)(h2:to<=l.length)(ps:List TPart)(jm:ps=QT l from_ to)(k0:kdF ps 0=1)(k1:kdF ps 1=2)(ats:List TAttr)(ae:Int)(qY:ats=(Qz ps (ps.length+1) 2).1)(vX:ae=(Qz ps (ps.length+1) 2).2)(b:Int)(hb:b=bkF ps ae)(kb:kdF ps b=6)(ji:b+1=ps.length):BCall prog 18 [.slc 1 (Q0 l),.val (.int .i64 from_),.val (.int .i64 to)] [] (Qay (Q1f ps)) []:=by
 have qX:ps.length<=1000000:=by have:=Q4E (l:=l) (f:=from_) (u:=to);rw[jm];omega
 have cP:=Q6x l hl hu from_ to h0 h1 h2;rw[<-jm]at cP;obtain⟨n,hn⟩:=QG ps
 have qa:2<=n:=by
  have:=Q9p (by omega) k1 (by decide)
  rw[hn.eq];omega
 have qf:n<=1000000:=by rw[hn.eq];omega
 obtain⟨o,ho⟩:=exq (ps[0]?.getD Qn);obtain⟨nm,qO⟩:=exq (ps[1]?.getD Qn);have r0:(Q7 ps)[0]?.getD .dead=o.av:=by rw[ho];exact Q25 (i:=0) (by omega) (by have:=hn.eq;omega)
 have r1:(Q7 ps)[1]?.getD .dead=nm.av:=by rw[qO];exact Q25 (i:=1) (by omega) (by have:=hn.eq;omega)
 have qo:0<=ae/\ae<=n:=by
  have e:=hn.eq;have:=Q2H (l:=ps) (ps.length+1) 2 (by omega) (by omega)
  rw[<-vX]at this;omega
 have yB:0<=b/\b<=ae+1:=by
  rw[hb,bkF];split<;>omega
 obtain⟨q,hq⟩:=exq (ps[b.toNat]?.getD Qn);have rb:(Q7 ps)[b.toNat]?.getD .dead=q.av:=by rw[hq];exact Q25 yB.1 (Q9p yB.1 kb (by decide))
 have nE:o.to-o.from_=1\/o.to-o.from_=2:=by rw[ho,jm];exact Qj4 (by rw[<-jm];exact k0)
 have yx:Qej ps:=fun x hx=>by
  have h9:x∈Qt from_ true ((l.take to.toNat).drop from_.toNat):=by rw[jm]at hx;exact hx
  have:=Q7J ((l.take to.toNat).drop from_.toNat) _ _ from_ true (Nat.le_refl _) x h9
  rw[length_drop,length_take]at this;omega
 have so:=Q5D yx 0;have sq:=Q5D yx b.toNat;rw[<-ho]at so;rw[<-hq]at sq;clear yx;obtain⟨x,hx⟩:=exq (q.to-q.from_);obtain⟨y,hy⟩:=exq (o.to-o.from_);have cK0:=Q3P ps (by omega) 0 (by omega)
 have cK1:=Q3P ps (by omega) 1 (by omega)
 have cB:=Q4k ps (by omega) ae qo.1 (by omega)
 rw[<-hb]at cB;have cKb:=Q3P ps (by omega) b yB.1
 have hR:Q1f ps=⟨nm,ats,decide (y=1)||(decide (ats.length=0)&&!decide (x=2)),decide (x=2)&&(decide (y=1)||(decide (ats.length=0)&&!decide (x=2)))⟩:=by simp only[Q1f,show QP ps 0 [1,2]=true from by rw[Q5F,k0,k1];rfl,if_true,<-qY,<-vX,Qi0,<-hb,Q4h ps b 6 (by decide),<-ho,<-qO,decide_eq_true_eq];rw[if_pos ⟨kb,by omega⟩,<-hq,<-hx,<-hy]
 rw[hR,Qay];clear hR;obtain⟨K,hK⟩:=exq (kdF ps);obtain⟨B,hB⟩:=exq (bkF ps);simp only[<-hK,<-hB]at k0 k1 hb cB cK0 cK1 cKb kb ;obtain⟨ce,yR⟩:=exq (ceF ps);obtain⟨nx,jM⟩:=exq (nxF ps)
 have cA:∀a:Int,0<=a->a<=n->BCall prog 41 [.slc 3 (Q7 ps),.val (.int .i64 a)] [] (.tup [.agg [.val (.int .i64 (ce a 0)),.val (.int .i64 (ce a 1)),.val (.int .i64 (ce a 2)),.val (.int .i64 (ce a 3)),.val (.int .i64 (ce a 4)),.val (.int .i64 (ce a 5)),.val (.int .i64 (ce a 6)),.val (.int .i64 (ce a 7)),.val (.int .i64 (ce a 8))],.val (.int .i64 (nx a))]) []:=fun a h3 h4=>by
  rw[yR,jM];exact QcM ps (by omega) a h3 (by omega)
 have ga:∀a:Int,0<=a->a<=n->(Q1y ps a=true/\a<nx a/\nx a<=n/\Q1M ps a=nx a)\/(Q1y ps a=false/\nx a=-1):=fun a h3 h4=>by
  rw[jM,hn.eq];exact Qlu h3 (by rw[<-hn.eq];exact h4)
 have qm:∀a:Int,QL [QD ps a]=[.agg [.val (.int .i64 (ce a 0)),.val (.int .i64 (ce a 1)),.val (.int .i64 (ce a 2)),.val (.int .i64 (ce a 3)),.val (.int .i64 (ce a 4)),.val (.int .i64 (ce a 5)),.val (.int .i64 (ce a 6)),.val (.int .i64 (ce a 7)),.val (.int .i64 (ce a 8))]]:=fun a=>by rw[yR];rfl
 have cB:BCall prog 42 [.slc 3 (Q7 ps),.val (.int .i64 ae)] [] (.val (.int .i64 (B ae))) []:=by rw[<-hb];exact cB
 rw[hb]at cKb kb ;clear yR jM hK hB ho qO hq jm;refine fnN (QeN (Q7 ps) K B ce nx) func18 rfl fun _ _=>?_
 with_reducible refine cv2 (Q7 ps) (Q0 l) ?_
 have jC:(((Q7 ps).length:Nat):Int)=n:=by have:=hn.eq;have:=Q19 ps;omega
 repeat' first
  |(with_reducible refine And.intro (fun hx=>absurd hx (by first|(try simp[std,S1,k0,k1,jC,qa,r1,TPart.av])<;>omega|omega)) (fun _=>?_))
  |(with_reducible refine And.intro (fun _=>?_) (fun hx=>absurd hx (by first|(try simp[std,S1,k0,k1,jC,qa,r1,TPart.av])<;>omega|omega)))
  |(with_reducible refine And.intro (by first|(try simp[std,S1,k0,k1,jC,qa,r1,TPart.av])<;>omega|omega) ?_)
  |(with_reducible refine And.intro ?_ ?_)
  |(with_reducible intro hb)
 all_goals first
  |exact cP
  |exact cK0
  |exact cK1
  |skip
 refine Q1h (QeN (Q7 ps) K B ce nx) (List TAttr×Int×Int) (fun x=>⟨[(6,.box 0 0),(7,.slc 3 (Q7 ps)),(8,.box 1 0),(9,.val (.int .i64 x.2.1)),(10,.val (.int .i64 x.2.2))],[.box [.val (.int .i64 0),.val (.int .i64 0),.val (.int .i64 0),.val (.slice none 0 0),.val (.bool false),.val (.bool false)],.box [.val (.int .i64 nm.kind),.val (.int .i64 nm.from_),.val (.int .i64 nm.to),.row 2 0,.val (.bool false),.val (.bool false)],.row 105 9 false 0 (QL x.1)]⟩) (fun x=>0<=x.2.2/\2+x.2.2<=x.2.1/\x.2.1<=n/\(∃f:Nat,n-x.2.1<f/\x.1++(Qz ps f x.2.1).1=ats/\(Qz ps f x.2.1).2=ae)/\(x.1.length:Int)<=x.2.1) (fun x=>(n-x.2.1).toNat) ([],2,0) ?_ ?_ ?_
 ·exact⟨by simp,by simp,qa,⟨ps.length+1,by have:=hn.eq;simp only;omega,by rw[qY];rfl,by rw[vX]⟩,by simp⟩
 ·exact⟨[some 0,some 1,none],_,rfl,by simp[Qm,lk,std,r1,TPart.av,AV.cells,RowKit.intOf,QL]⟩
 ·rintro⟨out,a,i⟩ ⟨gb,js,jj,⟨f,j6,j2,qE⟩,hZ⟩
  simp only at gb js jj j6 j2 qE hZ
  have jR:=Q54 out;obtain⟨f,rfl⟩:∃f',f=f'+1:=⟨f-1,by omega⟩
  have cN:=cA a (by omega) jj
  have jS:i<n:=by omega
  have pb:out.length<=1000000:=by omega
  obtain⟨m,hm⟩:=QG out;rcases ga a (by omega) jj with ⟨jn,g1,g2,g3⟩|⟨jn,g1⟩
  ·rw[Qz,if_pos jn,g3]at j2 qE
   have hG:out++[QD ps a]++(Qz ps f (nx a)).1=ats:=by rw[<-j2];simp
   have zx:=qm a;have yS:n-nx a<f:=by omega
   have yT:((out++[QD ps a]).length:Int)<=nx a:=by simp only[length_append,length_singleton];omega
   have zt:¬nx a<0:=by omega
   have ha0:0<=a:=by omega
   clear jC j6 g3 hZ j2;with_reducible refine cv3 (Q7 ps) (Q0 l) (QL out) ?_
   have jC:(((Q7 ps).length:Nat):Int)=n:=by have:=hn.eq;have:=Q19 ps;omega
   with_reducible repeat' first|refine aU (zA jC <| zA jR <| zA jS <| zA zt gb) ?_|refine And.intro ?_ ?_|intro hb
   all_goals first
    |exact cN
    |skip
   refine⟨(out++[QD ps a],nx a,i+1),⟨by simp only;omega,by simp only;omega,g2,⟨f,yS,hG,qE⟩,yT⟩,by simp only;omega,[some 0,some 1,some 2],_,rfl,?_⟩
   simp[Qm,lk,std,Q4W,zx]
  ·rw[Qz,if_neg (by rw[jn];exact Bool.false_ne_true)]at j2 qE
   simp only[append_nil]at j2 qE;have zt:nx a<0:=by omega
   clear g1;rw[<-j2];rw[<-qE]at qo yB cB cKb kb ;have hb9:b=B a:=by rw[qE];exact hb
   clear jC j6 qY vX j2 qE hb;with_reducible refine cv3 (Q7 ps) (Q0 l) (QL out) ?_
   have jC:(((Q7 ps).length:Nat):Int)=n:=by have:=hn.eq;have:=Q19 ps;omega
   with_reducible repeat' first|refine aU (zA jC <| zA jR <| zA jS <| zA zt gb) ?_|refine And.intro ?_ ?_|intro hb
   all_goals first
    |exact cN
    |skip
   rw[if_pos trivial];have ji:B a+1=n:=by rw[<-hb9,hn.eq];exact ji
   rw[hb9]at rb;with_reducible refine cv3 (Q7 ps) (Q0 l) (QL out) ?_
   have vz:=hx.symm;have vS:=hy.symm;rw[<-hy]at nE;have ev:∀v:Int,v=2\/¬v=2:=fun v=>by omega
   have el:out.length=0\/¬out.length=0:=by omega
   rcases ev x with x2|x2
   all_goals rcases el with l0|l0
   all_goals rcases nE with y1|y1
   all_goals
    repeat' first
     |(with_reducible refine And.intro (fun hx=>absurd hx (by first|(try simp[std,S1,kb,jC,ji,yB,rb,r0,TPart.av,vz,vS,x2,y1,l0,jR])<;>omega|omega)) (fun _=>?_))
     |(with_reducible refine And.intro (fun _=>?_) (fun hx=>absurd hx (by first|(try simp[std,S1,kb,jC,ji,yB,rb,r0,TPart.av,vz,vS,x2,y1,l0,jR])<;>omega|omega)))
     |(with_reducible refine And.intro (by first|(try simp[std,S1,kb,jC,ji,yB,rb,r0,TPart.av,vz,vS,x2,y1,l0,jR])<;>omega|omega) ?_)
     |(with_reducible refine And.intro ?_ ?_)
     |(with_reducible intro hb)
   all_goals first
    |exact cB
    |exact cKb
    |(refine(Qhu _).2 ?_;simp[std,rb,r0,TPart.av,AV.cells,RowKit.intOf,vz,vS,x2,y1];done)
    |(refine(Qhu _).2 ?_;simp[std,rb,r0,TPart.av,AV.cells,RowKit.intOf,vz,vS];omega)
    |(refine .pure rfl ⟨.inl rfl,.inl rfl,.inl rfl,.inl rfl,.inl ?_,.inl ?_,trivial⟩<;>simp[std,rb,r0,TPart.av,AV.cells,RowKit.intOf,Q2o,vz,vS,x2,y1,l0,jR])
theorem QnR(l:List Int)(hl:l.length<=1000000)(hu:Un l)(from_ to:Int)(h0:0<=from_)(h1:from_<=to)(h2:to<=l.length):BCall prog 18 [.slc 1 (Q0 l),.val (.int .i64 from_),.val (.int .i64 to)] [] (Qay (QB l from_ to)) []:=by
 rw[QB];obtain⟨ps,jm⟩:=exq (QT l from_ to);rw[<-jm];by_cases k0:kdF ps 0=1
 ·by_cases k1:kdF ps 1=2
  ·by_cases kb:kdF ps (bkF ps (Qz ps (ps.length+1) 2).2)=6
   ·by_cases ji:bkF ps (Qz ps (ps.length+1) 2).2+1=ps.length
    ·exact Qj8 l hl hu from_ to h0 h1 h2 ps jm k0 k1 _ _ rfl rfl _ rfl kb ji
    ·exact Qke l hl hu from_ to h0 h1 h2 ps jm k0 k1 _ _ rfl rfl _ rfl kb ji
   ·exact QlV l hl hu from_ to h0 h1 h2 ps jm k0 k1 _ _ rfl rfl _ rfl kb
  ·have e:Q1f ps=⟨Qn,[],false,false⟩:=by
    rw[Q1f,if_neg];rw[Q5F,decide_eq_true_eq];exact fun e=>k1 e.2
   rw[e];exact Qe3 l hl hu from_ to h0 h1 h2 ps jm k0 k1
 ·have e:Q1f ps=⟨Qn,[],false,false⟩:=by
   rw[Q1f,if_neg];rw[Q5F,decide_eq_true_eq];exact fun e=>k0 e.1
  rw[e];exact Qft l hl hu from_ to h0 h1 h2 ps jm k0
theorem Qnt(q:List (Nam×Nat)){k:Int}(h0:0<=k)(h1:k<q.length):∃t:ByteArray,std.nth (std.cel (std.at_ (Q1G q) k)) 0=.val (.string t):=by
 have h:k.toNat<q.length:=by omega
 refine⟨bsB (q[k.toNat].1++(32::Q36 q[k.toNat].2)),?_⟩
 have e:(Q1G q).getD k.toNat .dead=.val (.string (bsB (q[k.toNat].1++(32::Q36 q[k.toNat].2)))):=by
  rw[List.getD_eq_getElem?_getD,Q1G,List.getElem?_map,List.getElem?_eq_getElem h];rfl
 show(((Q1G q).getD k.toNat .dead).cells).getD 0 .dead=_
 rw[e];rfl
theorem QcS:∀(l:List Nam)(n:Nat),(Q5I n l).length<=l.length
 | [],_=>Nat.le_refl _
 | [_],_=>Nat.le_refl _
 |s::t::r,n=>by
  rw[Q5I];split
  ·have:=QcS (t::r) (n+1)
   rw[length_cons];omega
  ·have:=QcS (t::r) 0
   rw[length_cons,length_cons (a:=s)];omega
theorem Q97(t:Txt):∀ts:List Tok,(QaW t ts).length<=ts.length
 | []=>Nat.le_refl _
 |x::ts=>by
  have h1:=Q97 t ts;have h2:(QcB t x).length<=1:=by unfold QcB;split<;>simp
  have h3:QaW t (x::ts)=QcB t x++QaW t ts:=by rw[QaW,List.flatMap_cons];rfl
  rw[h3,length_append,length_cons];omega
theorem QiJ(b:List UInt8)(hl:b.length<=400):BCall prog 6 [.slc 1 (Q4 b)] [] (.slc 1 (Q1G (Q3X (Q2t (Q5G b))))) []:=by
 obtain⟨h1,h2,h3,h4,h5⟩:=Q3t b;have hu:=QnN b;have cD:=Qi8 b (by omega) (by omega) (fun x hx=>by have:=h5 x hx;omega)
 have hrl:(Q6 b).r.length<=400:=by omega
 have htl:=Q7D (Q6 b).r;have hto:=QaX (Q6 b).r;refine Qkz b (Q6 b).kind (Q6 b).bom (Q9 (Q6 b).off) (Q6 b).r hrl (Q2E (Q6 b).r) hto (by omega) (fun f u=>(QB (Q6 b).r f u).name.kind) (fun f u=>QL (QB (Q6 b).r f u).attrs) (fun f u=>(QB (Q6 b).r f u).right) (fun f u=>(QB (Q6 b).r f u).empty) (QcB (Q6 b)) (fun x hx=>⟨fun h=>?_,fun h=>?_⟩) cD (QiS _ (by omega) hu) (fun f u a1 a2 a3=>QnR _ (by omega) hu f u a1 a2 a3)
 ·rw[QcB,if_neg (fun h2=>h ((Q4c _).1 h2))]
 ·have ho:=hto x hx
  have hw:=Qjy (Q6 b) ho.f0 (Int.le_of_lt ho.f1) ho.f2;have hin:=Q9M (Q6 b).r x.from_ x.to ho.f0 (Int.le_of_lt ho.f1) ho.f2;refine⟨Q3h (QC (Q6 b) x.from_ x.to),by rw[QcB,if_pos ((Q4c _).2 h)],?_,hin.1,hin.2.1,hin.2.2,?_⟩
  ·have h1:=QaS (QC (Q6 b) x.from_ x.to)
   have h2:(QC (Q6 b) x.from_ x.to).length<=(Q6 b).r.length:=by unfold QC;rw[length_take,length_drop];omega
   omega
  ·show runesBytes ((((Q0 (Q6 b).r).drop (rfF (Q6 b).r x.from_ x.to).toNat).take (rtF (Q6 b).r x.from_ x.to-rfF (Q6 b).r x.from_ x.to).toNat).map RowKit.intOf)=_
   rw[QjA];exact Qnk hw
theorem Qle(b:List UInt8)(hl:b.length<=400):BCall prog 5 [.slc 1 (Q4 b)] [] (.slc 1 (Q1G (Q3X (Q2t (QhF b))))) []:=by
 have hO:=Q8r b (by omega)
 have hN:=QdF b;have hn:=Qm1 b;have cP:=QgU b (by omega)
 have hkd:(Q6 b).kind=0\/(Q6 b).kind=1\/(Q6 b).kind=2:=Q4J b;have cC:=(QiT (Q6 b) (Qc b)).res (res':=.agg ((Cur.root (Qc b).n.length).el (Q1 (Qs (Qc b)).n))) ⟨.inr (.inr (.inl ⟨rfl,trivial⟩)),.inl rfl,.inl rfl,.inl rfl,.inl rfl,trivial⟩;have cW:=Qlf (Qs (Qc b)).n b.length 400000 hO.ar (by omega) (by omega) (.root (Qc b).n.length) hO.root 1073741824 (by omega)
 have hAt:CurB (Qs (Qc b)).n b 400000 (.root (Qc b).n.length):=⟨hO.root,[],[],by show b=[]++(pr (Qs (Qc b)).n (Qc b).n.length++[]);rw[hO.p];simp,rfl⟩
 have hAll:=Qk1 hO.ar hN hAt 1073741824;have hln:=hO.n;have har:=hO.ar;have hwn:(Q7c (Qs (Qc b)).n (.root (Qc b).n.length) 1073741824).length<=1073741824:=Qa6 _ _ _
 have hfl:((Q7c (Qs (Qc b)).n (.root (Qc b).n.length) 1073741824).flatMap (Qfs (Q6 b).kind (Qs (Qc b)).n)).length<=100000:=by
  have h1:=(QbR b (by omega)).length_eq
  have h2:(Q5G b).length<=(Q2E (Q6 b).r).length:=Q97 (Q6 b) (Q2E (Q6 b).r);have h3:=Q7D (Q6 b).r;have h4:=(Q3t b).2.2.1;show(QhF b).length<=100000
  omega
 refine QnL b (Q6 b).kind (Q6 b).bom (Qc b).n.length (Q0 (Q6 b).r) (Q9 (Q6 b).off) (Q11 (Qc b).d) (Qs (Qc b)).n _ hwn (Qfs (Q6 b).kind (Qs (Qc b)).n) hfl cP cC cW (fun c=>QlA _ c) (fun c=>QpO _ c) (fun c hc=>⟨fun h=>?_,fun h=>?_⟩)
 ·rw[Qfs,if_neg (fun h2=>h ((Q4c _).1 h2))]
 ·have hx:=hAll c hc
  have hp:=CurB.pr har (by omega) (by omega) (by omega) hx
  have hnode:Qh (Qs (Qc b)).n c.n∈(Qc b).n:=by
   have h0:=hx.1.h0;have h1:=hx.1.h1
   have hne:c.n≠(Qc b).n.length:=by
    intro e;have:QO (Qs (Qc b)).n (Qc b).n.length=20:=Q4G
    rw[e,this]at h;omega
   have hlen:(Qs (Qc b)).n.length=(Qc b).n.length+1:=by show((Qc b).n++[_]).length=_;simp
   have hlt:c.n.toNat<(Qc b).n.length:=by omega
   have e:Qh (Qs (Qc b)).n c.n=(Qc b).n[c.n.toNat]:=by
    show Qh ((Qc b).n++[_]) c.n=_;rw[Qh,if_pos ⟨h0,by simp only[length_append,length_singleton];omega⟩,List.getElem?_append_left hlt,List.getElem?_eq_getElem hlt];rfl
   rw[e];exact List.getElem_mem hlt
  have hld:Q7o (Q2i (ruN (Q6 b).kind (Qs (Qc b)).n c.n)):=by
   have h1:=hn _ hnode h
   have h2:(Qh (Qs (Qc b)).n c.n).b=pr (Qs (Qc b)).n c.n:=by
    have hR:c.n<(Qc b).n.length:=by
     have hlen:(Qs (Qc b)).n.length=(Qc b).n.length+1:=by show((Qc b).n++[_]).length=_;simp
     have h1:=hx.1.h1
     have hne:c.n≠(Qc b).n.length:=by
      intro e;have:QO (Qs (Qc b)).n (Qc b).n.length=20:=Q4G
      rw[e,this]at h;omega
     omega
    rw[Qe2 har.wf hx.1.h0 hx.1.h1];rcases Qdz b c.n hx.1.h0 hR with h3|h3
    ·have h3:QO (Qs (Qc b)).n c.n=21:=h3
     omega
    ·rw[h3];simp
   rw[h2]at h1;exact h1
  refine⟨nmB (Q6 b).kind (pr (Qs (Qc b)).n c.n),by rw[Qfs,if_pos ((Q4c _).2 h)],?_,?_⟩
  ·have h1:=QaS (Q2i (Q1K (Q6 b).kind (pr (Qs (Qc b)).n c.n)))
   have h2:(Q2i (Q1K (Q6 b).kind (pr (Qs (Qc b)).n c.n))).length<=(Q1K (Q6 b).kind (pr (Qs (Qc b)).n c.n)).length:=by
    show(((Q1K (Q6 b).kind (pr (Qs (Qc b)).n c.n)).drop _).take _).length<=_
    rw[length_take,length_drop];omega
   have h3:(Q1K (Q6 b).kind (pr (Qs (Qc b)).n c.n)).length<=(pr (Qs (Qc b)).n c.n).length:=by
    rw[Q1K,List.length_map];exact Q9T hkd _
   have h4:(pr (Qs (Qc b)).n c.n).length<=400:=by
    have a1:=hx.1.w;have a2:=har.wide c.n hx.1.h0 hx.1.h1;have a3:=hx.1.f0;omega
   show(Q3h (Q2i (Q1K (Q6 b).kind (pr (Qs (Qc b)).n c.n)))).length<=100000
   omega
  ·rcases h with h|h
   ·exact QnC (Q6 b) (Qc b) hkd c.n ⟨hp,hld⟩ h
   ·exact Qnr (Q6 b) (Qc b) hkd c.n ⟨hp,hld⟩ h
def QqO(B LN:List AV):Nat->List AV->List Ob->Option (AV×List Ob):=fun f args _=>match f,args with
 |4,[.slc 1 _]=>some (.slc 1 B,[])
 |5,[.slc 1 _]=>some (.slc 1 LN,[])
 |6,[.slc 1 _]=>some (.slc 1 LN,[])
 |7,[]=>some (.val (.bool true),[])
 |_,_=>none
theorem AuditNames_b(b0:List UInt8):BCall prog 3 [.slc 1 (Q4 b0)] [] (.val (.bool true)) []:=by
 have cS:=QnS b0;have hl:(b0.take 400).length<=400:=by rw[length_take];omega
 have c1:=Qle (b0.take 400) hl;have c2:=QiJ (b0.take 400) hl;rw[Qbx (QbR (b0.take 400) (by omega))]at c1
 have cA:=QjM;have hat:=fun k h0 h1=>Qnt (Q3X (Q2t (Q5G (b0.take 400)))) (k:=k) h0 h1
 obtain⟨n,hn⟩:=QG (Q3X (Q2t (Q5G (b0.take 400))));rw[<-hn.eq]at hat;have hll:std.len (Q1G (Q3X (Q2t (Q5G (b0.take 400)))))=n:=by show((Q1G _).length:Int)=n;rw[Qan,hn.eq]
 have hn0:0<=n:=by rw[hn.eq];omega
 have hn9:n<=1000000:=by
  have h1:=QcS (Q2t (Q5G (b0.take 400))) 0;have h2:=(Q4M (Q5G (b0.take 400))).length_eq;have h3:=Q97 (Q6 (b0.take 400)) (Q2E (Q6 (b0.take 400)).r);have h4:=Q7D (Q6 (b0.take 400)).r;have h5:=(Q3t (b0.take 400)).2.2.1;have h6:(Q3X (Q2t (Q5G (b0.take 400)))).length<=(Q2t (Q5G (b0.take 400))).length:=h1;have h7:(Q5G (b0.take 400)).length<=(Q2E (Q6 (b0.take 400)).r).length:=h3;rw[hn.eq];omega
 generalize Q1G (Q3X (Q2t (Q5G (b0.take 400))))=LN at c1 c2 hat hll;clear hn hl;refine fnN (QqO (Q4 (b0.take 400)) LN) func3 rfl fun _ _=>?_
 with_reducible refine cv2 (Q4 (b0.take 400)) (Q4 b0) ?_
 have hnn:∀a:Int,std.notB (std.eqI a a)=false:=fun a=>by show(!(a == a))=false;simp
 refine⟨cS,c1,c2,fun h=>absurd ((hnn _).symm.trans h) (by decide),fun _=>?_⟩
 refine Q1h (QqO (Q4 (b0.take 400)) LN) (Int) (fun i=>⟨[(3,.slc 1 LN),(4,.slc 1 LN),(18,.val (.int .i64 n)),(19,.val (.int .i64 i))],[]⟩) (fun i=>0<=i/\i<=n) (fun i=>(n-i).toNat) 0 ?_ ?_ ?_
 ·exact⟨Int.le_refl 0,hn0⟩
 ·refine⟨[],_,rfl,?_⟩
  exact eq1 hll
 ·rintro i ⟨hi0,hi1⟩
  have hi0:0<=i:=hi0;have hi1:i<=n:=hi1;rcases Int.lt_or_eq_of_le hi1 with hlt|heq
  ·obtain⟨q,hq⟩:=hat i hi0 hlt
   have hhs:(std.all [std.hasS (std.nth (std.cel (std.at_ LN i)) 0)]).q:=⟨by rw[hq];rfl,trivial⟩
   have hin:0<=i/\i<std.len LN:=⟨hi0,by rw[hll];exact hlt⟩
   have hne:std.notB (std.eqS (std.str (std.nth (std.cel (std.at_ LN i)) 0)) (std.str (std.nth (std.cel (std.at_ LN i)) 0)))=false:=by
    show(!(_ == _))=false
    simp
   have hr1:(std.inR .i64 (std.add i 1)).q:=by
    show -9223372036854775808<=i+1/\i+1<=9223372036854775807;omega
   have hlt2:std.ltI i n=true:=decide_eq_true hlt;clear hat hq;with_reducible refine cv1 (Q4 (b0.take 400)) ?_
   refine⟨fun _=>⟨hin,hhs,hin,hhs,fun h=>absurd (hne.symm.trans h) (by decide),fun _=>⟨hr1,i+1,⟨by omega,by omega⟩,by omega,[],_,rfl,?_⟩⟩,fun h=>absurd (hlt2.symm.trans h) (by decide)⟩
   exact eq0
  ·have hl3:std.ltI i n=false:=decide_eq_false (by omega)
   with_reducible refine cv1 (Q4 (b0.take 400)) ?_
   refine⟨fun h=>absurd (hl3.symm.trans h) (by decide),fun _=>?_⟩
   rw[if_pos trivial];with_reducible refine cv1 (Q4 (b0.take 400)) ?_
   exact⟨cA,.pure rfl (.inl rfl)⟩
