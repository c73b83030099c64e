/- Lemmas, conditions told -/
import Derived.Test.YtlaegncokadkkaaGreatG21
import Derived.Test.YtlaegncokadkkaaGreatG22
import Derived.Test.YtlaegncokadkkaaGreatG23
import Derived.Test.YtlaegncokadkkaaGreatG24
import Derived.Test.YtlaegncokadkkaaGreatG25
import Derived.Test.YtlaegncokadkkaaGreatG26
import Derived.Test.YtlaegncokadkkaaGreatG27
import Derived.Test.YtlaegncokadkkaaGreatG28
set_option maxRecDepth 99999
set_option maxHeartbeats 0
set_option linter.unusedSimpArgs false
set_option linter.unusedVariables false
namespace Go.Proofs.YtlaegncokadkkaaGreat
open List(length_append length_singleton append_nil)
open Go.RowKit Go.Lib
section
open Tryz
theorem Ql7{L:List Int}{k:Nat}(h:Qx (L[k]?.getD 0)=false):Ql L k=0:=by
 unfold Ql;cases e:L[k]? with
 |none=>rfl
 |some c =>
  rw[e]at h;have h:Qx c=false:=h;show(if Qx c=true then _ else 0)=0
  rw[if_neg (by rw[h];decide)]
theorem Qj3(l:List Int)(hl:l.length<=1000000000)(hu:Un l)(f k to:Int)(h:Rng l k to):BCall prog 54 [.slc 1 (Q0 l),.val (.int .i64 f),.val (.int .i64 k),.val (.int .i64 to)] [] (Q1k (QG l f k to) k) []:=by
 have e0:=Q8U (l:=l) h.h0 h.h1;have gf:∀c:Int,l[k.toNat]?.getD 0=c->Qx c=false->Ql (l.take to.toNat) k.toNat=0:=fun c e hc=>Ql7 (by rw[e0,e];exact hc)
 by_cases jO:l[k.toNat]?.getD 0=60
 ·by_cases zR:k=f
  ·cases hs:Q7 (l.take to.toNat) k.toNat [60,47]with
   |true=>exact QaG l hl hu f k to h zR jO hs
   |false=>exact QaJ l hl hu f k to h zR jO hs
  ·exact Qki l hl hu f k to h (by rw[jO];rfl) (gf 60 jO (by decide)) (by rw[jO];decide) zR jO
 ·cases jh:Q8 (l[k.toNat]?.getD 0)with
  |true=>exact Qd7 l hl hu f k to h jO jh
  |false =>
   rcases Nat.eq_zero_or_pos (Ql (l.take to.toNat) k.toNat)with jD|jD
   ·by_cases jq:l[k.toNat]?.getD 0=61
    ·exact Qjm l hl hu f k to h jO jh jD jq
    ·by_cases q34:l[k.toNat]?.getD 0=34
     ·by_cases hv:0<Q15 (Qu l k to)
      ·exact Qd0 l hl hu f k to h jO jh jD jq q34 hv
      ·exact QcN l hl hu f k to h jO jh jD jq q34 hv
     ·by_cases q39:l[k.toNat]?.getD 0=39
      ·by_cases hv:0<Q15 (Qu l k to)
       ·exact QcE l hl hu f k to h jO jh jD jq q39 hv
       ·exact Qdp l hl hu f k to h jO jh jD jq q39 hv
      ·have ql:¬(l[k.toNat]?.getD 0=34\/l[k.toNat]?.getD 0=39):=fun e=>e.elim q34 q39
       by_cases jv:l[k.toNat]?.getD 0=62
       ·by_cases jR:k+1=to
        ·exact Qi4 l hl hu f k to h jO jh jD jq ql jR jv
        ·exact Qhw l hl hu f k to h jO jh jD jq ql jR jv
       ·by_cases vT:l[k.toNat]?.getD 0=47
        ·by_cases qC:k+2=to
         ·by_cases zY:l[(k+1).toNat]?.getD 0=62
          ·exact QiY l hl hu f k to h jO jh jD jq ql qC vT zY
          ·exact QgT l hl hu f k to h jO jh jD jq ql qC vT zY
         ·exact Qhu l hl hu f k to h jO jh jD jq ql qC vT
        ·exact QgB l hl hu f k to h jO jh jD jq ql jv vT
   ·exact Qf3 l hl hu f k to h jO jh jD
def Qo0(kd nx:Int->Int):Nat->List AV->List Ob->Option (AV×List Ob):=fun f args _=>match f,args with
 |54,[.slc 1 _,.val (.int .i64 _),.val (.int .i64 k),.val (.int .i64 _)]=>some (.agg [.val (.int .i64 (kd k)),.val (.int .i64 k),.val (.int .i64 (nx k))],[])
 |_,_=>none
theorem Q5J(l:List Int)(hl:l.length<=1000000)(hu:Un l)(from_ to:Int)(h0:0<=from_)(h1:from_<=to)(h2:to<=l.length) :
  BCall prog 39 [.slc 1 (Q0 l),.val (.int .i64 from_),.val (.int .i64 to)] [] (.slc 3 (Q3 (QI l from_ to))) []:=by
 obtain⟨n,hn⟩:=QC l;have qt:=Q6 l;have kx:to<=n:=by rw[hn.eq];exact h2
 have zM:n<=1000000:=by rw[hn.eq];omega
 obtain⟨kd,ja⟩:=exq (fun k:Int=>(QG l from_ k to).1:Int->Int)
 obtain⟨nx,jM⟩:=exq (fun k:Int=>k+(QG l from_ k to).2:Int->Int)
 have cP:∀k:Int,0<=k->k<to->BCall prog 54 [.slc 1 (Q0 l),.val (.int .i64 from_),.val (.int .i64 k),.val (.int .i64 to)] [] (.agg [.val (.int .i64 (kd k)),.val (.int .i64 k),.val (.int .i64 (nx k))]) []:=fun k k0 k1=>by
  rw[ja,jM];exact Qj3 l (by omega) hu from_ k to ⟨k0,k1,h2⟩
 have ze:∀k:Int,from_<=k->k<to->k<nx k/\nx k<=to/\QQ k (decide (k=from_)) (Qu l k to)=⟨kd k,k,nx k⟩::QQ (nx k) (decide (nx k=from_)) (Qu l (nx k) to):=fun k k0 k1=>by
  have hr:Rng l k to:=⟨by omega,k1,h2⟩
  have hp:=Q5z (Qu l k to) (decide (k=from_)) hr.ne;have jC:=hr.len;have e3:=Q7x hr.ne k (decide (k=from_));obtain⟨K,hK⟩:=exq ((QE (Qu l k to) (decide (k=from_))).1);obtain⟨N,hN⟩:=exq ((QE (Qu l k to) (decide (k=from_))).2);rw[<-hK,<-hN]at e3;rw[<-hN]at hp;have e1:nx k=k+N:=by rw[jM,hN];rfl
  have e2:kd k=K:=by rw[ja,hK];rfl
  have e4:decide (k+N=from_)=false:=decide_eq_false (by omega)
  have e5:(Qu l k to).drop N.toNat=Qu l (k+N) to:=by
   rw[Qu,Qu,List.drop_drop];congr 1
   omega
  rw[e1,e2,e3,e4,e5];exact⟨by omega,by omega,rfl⟩
 clear ja jM;refine fnN (Qo0 kd nx) func39 rfl fun _ _=>?_
 with_reducible refine cv1 (Q0 l) ?_
 have en:=hn.eq;have gw:(((Q0 l).length:Nat):Int)=n:=by omega
 with_reducible repeat' first|refine aU (zA gw <| zA h0 <| zA h1 kx) ?_|refine And.intro ?_ ?_|intro hb
 refine Q1p (Qo0 kd nx) (List TPart×Int) (fun x=>⟨[(0,.slc 1 (Q0 l)),(1,.val (.int .i64 from_)),(2,.val (.int .i64 to)),(7,.row 0 0),(8,.val (.int .i64 x.2))],[.row 51 3 false 0 (Q3 x.1)]⟩) (fun x=>from_<=x.2/\x.2<=to/\x.1++QQ x.2 (decide (x.2=from_)) (Qu l x.2 to)=QI l from_ to/\(x.1.length:Int)<=x.2) (fun x=>(to-x.2).toNat) ([],from_) ?_ ?_ ?_
 ·exact⟨by omega,h1,by simp[QI,Qu],h0⟩
 ·exact⟨[none],_,rfl,by simp[Qf,lk,Q3]⟩
 ·rintro⟨out,k⟩ ⟨q8,qU,js,jb⟩
  simp only at q8 qU js jb
  have jP:=QK out;have pT:out.length<=1000000:=by omega
  obtain⟨q,hq⟩:=QC out;have jy:q<=k:=by rw[hq.eq];exact jb
  by_cases hk:k<to
  ·obtain⟨s1,s2,s3⟩:=ze k q8 hk
   have cPk:=cP k (by omega) hk
   have hG:out++[⟨kd k,k,nx k⟩]++QQ (nx k) (decide (nx k=from_)) (Qu l (nx k) to)=QI l from_ to:=by
    rw[<-js,s3];simp
   clear s3 en gw;with_reducible refine cv2 (Q0 l) (Q3 out) ?_
   have eq:=hq.eq;with_reducible repeat' first|refine aU (zA jP <| zA hk q8) ?_|refine And.intro ?_ ?_|intro hb
   all_goals exact⟨(out++[⟨kd k,k,nx k⟩],nx k),⟨by simp only;omega,s2,hG,by show((out++[_]).length:Int)<=nx k;simp only[length_append,length_singleton];omega⟩,by simp only;omega,[some 0],_,rfl,by simp[Qf,lk,std,Q9g,Q7c]⟩
  ·have hG:out=QI l from_ to:=by
    have:Qu l k to=[]:=List.drop_eq_nil_of_le (by rw[List.length_take];omega)
    rw[<-js,this,QQ,dif_pos rfl,append_nil]
   clear en gw;with_reducible refine cv2 (Q0 l) (Q3 out) ?_
   with_reducible repeat' first|refine aU hk ?_|refine And.intro ?_ ?_|intro hb
   all_goals
    rw[if_pos trivial];with_reducible refine cv2 (Q0 l) (Q3 out) ?_
    exact .pure rfl (.inl (by rw[hG]))
def kdF(l:List TPart)(a:Int):Int:=(l[a.toNat]?.getD Qe).kind
def bkF(l:List TPart)(a:Int):Int:=if kdF l a=3 then a+1 else a
def nxF(l:List TPart)(a:Int):Int:=match Q1b l a with|some x=>x.2|none=>-1
theorem Q3y(l:List TPart)(a k:Int)(hk:k≠0):Qz l a.toNat [k]=decide (kdF l a=k):=by
 rw[Qz,kdF];cases e:l[a.toNat]? with
 |none =>
  rw[List.getElem?_eq_none_iff]at e;rw[List.drop_of_length_le e];show false=decide ((0:Int)=k);rw[decide_eq_false (fun h=>hk h.symm)]
 |some x =>
  obtain⟨h1,h2⟩:=List.getElem?_eq_some_iff.1 e;rw[List.drop_eq_getElem_cons h1,h2];show([x.kind] == [k])=decide (x.kind=k)
  by_cases h:x.kind=k<;>simp[h]
theorem QfY(l:List TPart)(a:Int):Q35 l a 3=bkF l a:=by
 rw[Q35,bkF,Q3y l a 3 (by decide)]
 simp only[decide_eq_true_eq]
theorem Q7e(l:List TPart)(a:Int):Q1b l a=if kdF l a=3/\kdF l (a+1)=2 then if kdF l (bkF l (a+2))=4 then if kdF l (bkF l (bkF l (a+2)+1))=5 then some (Q4c (l[(a+1).toNat]?.getD Qe) (l[a.toNat]?.getD Qe) (l[(bkF l (bkF l (a+2)+1)).toNat]?.getD Qe),bkF l (bkF l (a+2)+1)+1)else none else none else none:=by
 unfold Q1b;simp only[Q3y l _ 3 (by decide),Q3y l _ 2 (by decide),Q3y l _ 4 (by decide),Q3y l _ 5 (by decide),QfY,decide_eq_true_eq,Q4c]
theorem Q8C{l:List TPart}{a k:Int}(h0:0<=a)(h:kdF l a=k)(hk:k≠0):a<l.length:=by
 by_cases h1:a<l.length
 ·exact h1
 ·rw[kdF,List.getElem?_eq_none (by omega)]at h
  exact absurd h.symm hk
theorem Q3g(l:List TPart)(hl:l.length<=1000000000)(a:Int)(h0:0<=a):BCall prog 40 [.slc 3 (Q3 l),.val (.int .i64 a)] [] (.val (.int .i64 (kdF l a))) []:=by
 obtain⟨n,hn⟩:=QC l;have jP:=QK l;obtain⟨K,hK⟩:=exq (kdF l a);rw[<-hK];have e1:a<n->(Q3 l)[a.toNat]?.getD .dead=(l[a.toNat]?.getD Qe).av:=fun h=>Q1A h0 (by have:=hn.eq;omega)
 have e2:¬a<n->K=0:=fun h=>by
  rw[hK,kdF,List.getElem?_eq_none (by have:=hn.eq;omega)];rfl
 by_cases jE:a<n
 ·have jW:=e1 jE
  have pi:(l[a.toNat]?.getD Qe).kind=K:=by rw[hK];rfl
  obtain⟨x,hx⟩:=exq (l[a.toNat]?.getD Qe);rw[<-hx]at jW pi;rw[TPart.av]at jW;clear e1 e2 hK hx;refine fnN (cs0) func40 rfl fun _ _=>?_
  with_reducible refine cv1 (Q3 l) ?_
  have jJ:(((Q3 l).length:Nat):Int)=n:=by have:=hn.eq;omega
  with_reducible repeat' first|refine aU (zA jJ <| zA jW <| zA h0 jE) ?_|refine And.intro ?_ ?_|intro hb
  all_goals exact .pure rfl (.inl (by simp[std,jW,AV.cells,intOf,pi]))
 ·have pi:=e2 jE
  clear e1 e2 hK;refine fnN (cs0) func40 rfl fun _ _=>?_
  with_reducible refine cv1 (Q3 l) ?_
  have jJ:(((Q3 l).length:Nat):Int)=n:=by have:=hn.eq;omega
  with_reducible repeat' first|refine aU (zA jJ <| zA h0 jE) ?_|refine And.intro ?_ ?_|intro hb
  all_goals exact .pure rfl (.inl (by rw[pi]))
def QnU(K:Int->Int):Nat->List AV->List Ob->Option (AV×List Ob):=fun f args _=>match f,args with
 |40,[_,.val (.int .i64 a)]=>some (.val (.int .i64 (K a)),[])
 |_,_=>none
theorem Q3D(l:List TPart)(hl:l.length<=1000000000)(a:Int)(h0:0<=a)(h1:a<=1000000000):BCall prog 42 [.slc 3 (Q3 l),.val (.int .i64 a)] [] (.val (.int .i64 (bkF l a))) []:=by
 obtain⟨K,hK⟩:=exq (kdF l);have cK:=Q3g l hl a h0;rw[<-hK]at cK;by_cases h3:K a=3
 ·have e:bkF l a=a+1:=by rw[bkF,<-hK,if_pos h3]
  rw[e];clear hK e;refine fnN (QnU K) func42 rfl fun _ _=>?_
  with_reducible refine cv1 (Q3 l) ?_
  refine⟨cK,?_⟩;with_reducible repeat' first|refine aU (zA h3 <| zA h0 h1) ?_|refine And.intro ?_ ?_|intro hb
  all_goals exact .pure rfl (.inl rfl)
 ·have e:bkF l a=a:=by rw[bkF,<-hK,if_neg h3]
  rw[e];clear hK e;refine fnN (QnU K) func42 rfl fun _ _=>?_
  with_reducible refine cv1 (Q3 l) ?_
  refine⟨cK,?_⟩;with_reducible repeat' first|refine aU (zA h3 <| zA h0 h1) ?_|refine And.intro ?_ ?_|intro hb
  all_goals exact .pure rfl (.inl rfl)
def QcO(K B:Int->Int):Nat->List AV->List Ob->Option (AV×List Ob):=fun f args _=>match f,args with
 |40,[_,.val (.int .i64 a)]=>some (.val (.int .i64 (K a)),[])
 |42,[_,.val (.int .i64 a)]=>some (.val (.int .i64 (B a)),[])
 |_,_=>none
theorem Qkv(l:List TPart)(hl:l.length<=1000000)(a:Int)(h0:0<=a)(h1:a<=1000000)(g:¬kdF l a=3):BCall prog 41 [.slc 3 (Q3 l),.val (.int .i64 a)] [] (.tup [.agg (Qq l a).cs,.val (.int .i64 (nxF l a))]) []:=by
 have hR:Q1b l a=none:=by rw[Q7e,if_neg (fun e=>g e.1)]
 have e1:Qq l a=tattr0:=by rw[Qq,hR]
 have e2:nxF l a=-1:=by rw[nxF,hR]
 rw[e1,e2];clear e1 e2 hR;have qW:∀a,0<=a->a<=bkF l a/\bkF l a<=a+1:=fun a _=>by rw[bkF];split<;>omega
 have cK:=Q3g l (by omega)
 have cB:=Q3D l (by omega)
 obtain⟨n,hn⟩:=QC l;have jP:=QK l;have vP:n<=1000000:=by rw[hn.eq];omega
 obtain⟨K,hK⟩:=exq (kdF l);obtain⟨B,hB⟩:=exq (bkF l);simp only[<-hK,<-hB]at *;clear hK hB;have b1:=qW (a+2) (by omega)
 have b2:=qW (B (a+2)+1) (by omega)
 have c1:=cK a h0;have c2:=cK (a+1) (by omega)
 have c3:=cB (a+2) (by omega) (by omega)
 have c4:=cK (B (a+2)) (by omega)
 have c5:=cB (B (a+2)+1) (by omega) (by omega)
 have c6:=cK (B (B (a+2)+1)) (by omega)
 clear cK cB qW;refine fnN (QcO K B) func41 rfl fun _ _=>?_
 with_reducible refine cv1 (Q3 l) ?_
 have jJ:(((Q3 l).length:Nat):Int)=n:=by have:=hn.eq;omega
 with_reducible repeat' first|refine aU (zA jJ <| zA h0 g) ?_|refine And.intro ?_ ?_|intro hb
 all_goals first
  |exact c1
  |exact c2
  |exact c3
  |exact c4
  |exact c5
  |exact c6
  |exact .pure rfl ⟨⟨.inl rfl,.inl rfl,.inl rfl,.inl rfl,.inl rfl,.inl rfl,.inl rfl,.inl rfl,.inl rfl,trivial⟩,.inl rfl,trivial⟩
theorem Qi3(l:List TPart)(hl:l.length<=1000000)(a:Int)(h0:0<=a)(h1:a<=1000000)(g3:kdF l a=3)(g:¬kdF l (a+1)=2):BCall prog 41 [.slc 3 (Q3 l),.val (.int .i64 a)] [] (.tup [.agg (Qq l a).cs,.val (.int .i64 (nxF l a))]) []:=by
 have hR:Q1b l a=none:=by rw[Q7e,if_neg (fun e=>g e.2)]
 have e1:Qq l a=tattr0:=by rw[Qq,hR]
 have e2:nxF l a=-1:=by rw[nxF,hR]
 rw[e1,e2];clear e1 e2 hR;have qW:∀a,0<=a->a<=bkF l a/\bkF l a<=a+1:=fun a _=>by rw[bkF];split<;>omega
 have cK:=Q3g l (by omega)
 have cB:=Q3D l (by omega)
 obtain⟨n,hn⟩:=QC l;have jP:=QK l;have vP:n<=1000000:=by rw[hn.eq];omega
 obtain⟨K,hK⟩:=exq (kdF l);obtain⟨B,hB⟩:=exq (bkF l);simp only[<-hK,<-hB]at *;clear hK hB;have b1:=qW (a+2) (by omega)
 have b2:=qW (B (a+2)+1) (by omega)
 have c1:=cK a h0;have c2:=cK (a+1) (by omega)
 have c3:=cB (a+2) (by omega) (by omega)
 have c4:=cK (B (a+2)) (by omega)
 have c5:=cB (B (a+2)+1) (by omega) (by omega)
 have c6:=cK (B (B (a+2)+1)) (by omega)
 clear cK cB qW;refine fnN (QcO K B) func41 rfl fun _ _=>?_
 with_reducible refine cv1 (Q3 l) ?_
 have jJ:(((Q3 l).length:Nat):Int)=n:=by have:=hn.eq;omega
 with_reducible repeat' first|refine aU (zA jJ <| zA h0 <| zA g3 g) ?_|refine And.intro ?_ ?_|intro hb
 all_goals first
  |exact c1
  |exact c2
  |exact c3
  |exact c4
  |exact c5
  |exact c6
  |exact .pure rfl ⟨⟨.inl rfl,.inl rfl,.inl rfl,.inl rfl,.inl rfl,.inl rfl,.inl rfl,.inl rfl,.inl rfl,trivial⟩,.inl rfl,trivial⟩
theorem Qjq(l:List TPart)(hl:l.length<=1000000)(a:Int)(h0:0<=a)(h1:a<=1000000)(g3:kdF l a=3)(g2:kdF l (a+1)=2)(g:¬kdF l (bkF l (a+2))=4):BCall prog 41 [.slc 3 (Q3 l),.val (.int .i64 a)] [] (.tup [.agg (Qq l a).cs,.val (.int .i64 (nxF l a))]) []:=by
 have hR:Q1b l a=none:=by rw[Q7e,if_pos ⟨g3,g2⟩,if_neg g]
 have e1:Qq l a=tattr0:=by rw[Qq,hR]
 have e2:nxF l a=-1:=by rw[nxF,hR]
 rw[e1,e2];clear e1 e2 hR;have qW:∀a,0<=a->a<=bkF l a/\bkF l a<=a+1:=fun a _=>by rw[bkF];split<;>omega
 have cK:=Q3g l (by omega)
 have cB:=Q3D l (by omega)
 obtain⟨n,hn⟩:=QC l;have jP:=QK l;have vP:n<=1000000:=by rw[hn.eq];omega
 obtain⟨K,hK⟩:=exq (kdF l);obtain⟨B,hB⟩:=exq (bkF l);simp only[<-hK,<-hB]at *;clear hK hB;have b1:=qW (a+2) (by omega)
 have b2:=qW (B (a+2)+1) (by omega)
 have c1:=cK a h0;have c2:=cK (a+1) (by omega)
 have c3:=cB (a+2) (by omega) (by omega)
 have c4:=cK (B (a+2)) (by omega)
 have c5:=cB (B (a+2)+1) (by omega) (by omega)
 have c6:=cK (B (B (a+2)+1)) (by omega)
 clear cK cB qW;refine fnN (QcO K B) func41 rfl fun _ _=>?_
 with_reducible refine cv1 (Q3 l) ?_
 have jJ:(((Q3 l).length:Nat):Int)=n:=by have:=hn.eq;omega
 with_reducible repeat' first|refine aU (zA jJ <| zA h0 <| zA g3 <| zA g2 g) ?_|refine And.intro ?_ ?_|intro hb
 all_goals first
  |exact c1
  |exact c2
  |exact c3
  |exact c4
  |exact c5
  |exact c6
  |exact .pure rfl ⟨⟨.inl rfl,.inl rfl,.inl rfl,.inl rfl,.inl rfl,.inl rfl,.inl rfl,.inl rfl,.inl rfl,trivial⟩,.inl rfl,trivial⟩
theorem Qig(l:List TPart)(hl:l.length<=1000000)(a:Int)(h0:0<=a)(h1:a<=1000000)(g3:kdF l a=3)(g2:kdF l (a+1)=2)(g4:kdF l (bkF l (a+2))=4)(g:¬kdF l (bkF l (bkF l (a+2)+1))=5):BCall prog 41 [.slc 3 (Q3 l),.val (.int .i64 a)] [] (.tup [.agg (Qq l a).cs,.val (.int .i64 (nxF l a))]) []:=by
 have hR:Q1b l a=none:=by rw[Q7e,if_pos ⟨g3,g2⟩,if_pos g4,if_neg g]
 have e1:Qq l a=tattr0:=by rw[Qq,hR]
 have e2:nxF l a=-1:=by rw[nxF,hR]
 rw[e1,e2];clear e1 e2 hR;have qW:∀a,0<=a->a<=bkF l a/\bkF l a<=a+1:=fun a _=>by rw[bkF];split<;>omega
 have cK:=Q3g l (by omega)
 have cB:=Q3D l (by omega)
 obtain⟨n,hn⟩:=QC l;have jP:=QK l;have vP:n<=1000000:=by rw[hn.eq];omega
 obtain⟨K,hK⟩:=exq (kdF l);obtain⟨B,hB⟩:=exq (bkF l);simp only[<-hK,<-hB]at *;clear hK hB;have b1:=qW (a+2) (by omega)
 have b2:=qW (B (a+2)+1) (by omega)
 have c1:=cK a h0;have c2:=cK (a+1) (by omega)
 have c3:=cB (a+2) (by omega) (by omega)
 have c4:=cK (B (a+2)) (by omega)
 have c5:=cB (B (a+2)+1) (by omega) (by omega)
 have c6:=cK (B (B (a+2)+1)) (by omega)
 clear cK cB qW;refine fnN (QcO K B) func41 rfl fun _ _=>?_
 with_reducible refine cv1 (Q3 l) ?_
 have jJ:(((Q3 l).length:Nat):Int)=n:=by have:=hn.eq;omega
 with_reducible repeat' first|refine aU (zA jJ <| zA h0 <| zA g3 <| zA g2 <| zA g4 g) ?_|refine And.intro ?_ ?_|intro hb
 all_goals first
  |exact c1
  |exact c2
  |exact c3
  |exact c4
  |exact c5
  |exact c6
  |exact .pure rfl ⟨⟨.inl rfl,.inl rfl,.inl rfl,.inl rfl,.inl rfl,.inl rfl,.inl rfl,.inl rfl,.inl rfl,trivial⟩,.inl rfl,trivial⟩
theorem QgR(l:List TPart)(hl:l.length<=1000000)(a:Int)(h0:0<=a)(h1:a<=1000000)(g3:kdF l a=3)(g2:kdF l (a+1)=2)(g4:kdF l (bkF l (a+2))=4)(g5:kdF l (bkF l (bkF l (a+2)+1))=5):BCall prog 41 [.slc 3 (Q3 l),.val (.int .i64 a)] [] (.tup [.agg (Qq l a).cs,.val (.int .i64 (nxF l a))]) []:=by
 have hR:Q1b l a=some (Q4c (l[(a+1).toNat]?.getD Qe) (l[a.toNat]?.getD Qe) (l[(bkF l (bkF l (a+2)+1)).toNat]?.getD Qe),bkF l (bkF l (a+2)+1)+1):=by rw[Q7e,if_pos ⟨g3,g2⟩,if_pos g4,if_pos g5]
 have e1:Qq l a=Q4c (l[(a+1).toNat]?.getD Qe) (l[a.toNat]?.getD Qe) (l[(bkF l (bkF l (a+2)+1)).toNat]?.getD Qe):=by rw[Qq,hR]
 have e2:nxF l a=bkF l (bkF l (a+2)+1)+1:=by rw[nxF,hR]
 rw[e1,e2];clear e1 e2 hR;have qW:∀a,0<=a->a<=bkF l a/\bkF l a<=a+1:=fun a _=>by rw[bkF];split<;>omega
 have cK:=Q3g l (by omega)
 have cB:=Q3D l (by omega)
 obtain⟨n,hn⟩:=QC l;have jP:=QK l;have vP:n<=1000000:=by rw[hn.eq];omega
 have lt1:a<n:=by rw[hn.eq];exact Q8C h0 g3 (by decide)
 have lt2:a+1<n:=by rw[hn.eq];exact Q8C (by omega) g2 (by decide)
 have lt3:bkF l (bkF l (a+2)+1)<n:=by
  have b1:=qW (a+2) (by omega)
  have b2:=qW (bkF l (a+2)+1) (by omega)
  rw[hn.eq];exact Q8C (by omega) g5 (by decide)
 have r1:(Q3 l)[a.toNat]?.getD .dead=(l[a.toNat]?.getD Qe).av:=Q1A h0 (by have:=hn.eq;omega)
 have r2:(Q3 l)[(a+1).toNat]?.getD .dead=(l[(a+1).toNat]?.getD Qe).av:=Q1A (by omega) (by have:=hn.eq;omega)
 have r3:(Q3 l)[(bkF l (bkF l (a+2)+1)).toNat]?.getD .dead=(l[(bkF l (bkF l (a+2)+1)).toNat]?.getD Qe).av:=Q1A (by have b1:=qW (a+2) (by omega);have b2:=qW (bkF l (a+2)+1) (by omega);omega) (by have:=hn.eq;omega)
 obtain⟨x,hx⟩:=exq (l[a.toNat]?.getD Qe);obtain⟨y,hy⟩:=exq (l[(a+1).toNat]?.getD Qe);obtain⟨q,hq⟩:=exq (l[(bkF l (bkF l (a+2)+1)).toNat]?.getD Qe);rw[<-hx]at r1;rw[<-hy]at r2;rw[<-hq]at r3;rw[<-hx,<-hy,<-hq];rw[TPart.av]at r1 r2 r3;clear hx hy hq;obtain⟨K,hK⟩:=exq (kdF l);obtain⟨B,hB⟩:=exq (bkF l);simp only[<-hK,<-hB]at *;clear hK hB;have b1:=qW (a+2) (by omega)
 have b2:=qW (B (a+2)+1) (by omega)
 have c1:=cK a h0;have c2:=cK (a+1) (by omega)
 have c3:=cB (a+2) (by omega) (by omega)
 have c4:=cK (B (a+2)) (by omega)
 have c5:=cB (B (a+2)+1) (by omega) (by omega)
 have c6:=cK (B (B (a+2)+1)) (by omega)
 clear cK cB qW;refine fnN (QcO K B) func41 rfl fun _ _=>?_
 with_reducible refine cv1 (Q3 l) ?_
 have jJ:(((Q3 l).length:Nat):Int)=n:=by have:=hn.eq;omega
 with_reducible repeat' first|refine aU (zA jJ <| zA h0 <| zA g3 <| zA g2 <| zA g4 <| zA g5 <| zA r1 <| zA r2 <| zA r3 <| zA lt1 <| zA lt2 lt3) ?_|refine And.intro ?_ ?_|intro hb
 all_goals first
  |exact c1
  |exact c2
  |exact c3
  |exact c4
  |exact c5
  |exact c6
  |(refine .pure rfl ⟨⟨.inl ?_,.inl ?_,.inl ?_,.inl ?_,.inl ?_,.inl ?_,.inl ?_,.inl ?_,.inl ?_,trivial⟩,.inl rfl,trivial⟩<;>simp[std,r1,r2,r3,AV.cells,intOf,Q4c])
theorem Qc5(l:List TPart)(hl:l.length<=1000000)(a:Int)(h0:0<=a)(h1:a<=1000000):BCall prog 41 [.slc 3 (Q3 l),.val (.int .i64 a)] [] (.tup [.agg (Qq l a).cs,.val (.int .i64 (nxF l a))]) []:=by
 by_cases g3:kdF l a=3
 ·by_cases g2:kdF l (a+1)=2
  ·by_cases g4:kdF l (bkF l (a+2))=4
   ·by_cases g5:kdF l (bkF l (bkF l (a+2)+1))=5
    ·exact QgR l hl a h0 h1 g3 g2 g4 g5
    ·exact Qig l hl a h0 h1 g3 g2 g4 g5
   ·exact Qjq l hl a h0 h1 g3 g2 g4
  ·exact Qi3 l hl a h0 h1 g3 g2
 ·exact Qkv l hl a h0 h1 g3
theorem Qer{r:List Int}{b:Bool}(h:(QE r b).1=1):(QE r b).2=1\/(QE r b).2=2:=by
 unfold QE at h ⊢;split
 ·exact .inr rfl
 ·rename_i h1
  rw[if_neg h1]at h;split
  ·exact .inl rfl
  ·rename_i h2
   rw[if_neg h2]at h;repeat' split at h
   all_goals (simp only at h;omega)
theorem Qh6{l:List Int}{f u:Int}(h:kdF (QI l f u) 0=1):((QI l f u)[0]?.getD Qe).to-((QI l f u)[0]?.getD Qe).from_=1\/((QI l f u)[0]?.getD Qe).to-((QI l f u)[0]?.getD Qe).from_=2:=by
 unfold QI at h ⊢;by_cases hr:(l.take u.toNat).drop f.toNat=[]
 ·rw[hr,kdF,QQ,dif_pos rfl]at h
  exact absurd h (by decide)
 ·rw[Q7x hr]at h ⊢
  have h:(QE ((l.take u.toNat).drop f.toNat) true).1=1:=h;have h2:=Qer h;show f+(QE ((l.take u.toNat).drop f.toNat) true).2-f=1\/f+(QE ((l.take u.toNat).drop f.toNat) true).2-f=2;omega
theorem Q4L(l:List TPart):Qz l 0 [1,2]=decide (kdF l 0=1/\kdF l 1=2):=by
 rw[Qz,kdF,kdF];match l with
 | []=>rfl
 | [x] =>
  show([x.kind] == [1,2])=decide (x.kind=1/\(0:Int)=2)
  simp
 |x::y::r =>
  show([x.kind,y.kind] == [1,2])=decide (x.kind=1/\y.kind=2)
  by_cases h:x.kind=1<;>by_cases h2:y.kind=2<;>simp[h,h2]
theorem Qkl{l:List TPart}{a:Int}(h0:0<=a)(h1:a<=l.length):(Q17 l a=true/\a<nxF l a/\nxF l a<=l.length/\Q1f l a=nxF l a)\/(Q17 l a=false/\nxF l a=-1):=by
 cases hg:Q1b l a with
 |none=>exact .inr ⟨by rw[Q17,hg];rfl,by rw[nxF,hg]⟩
 |some x =>
  have hr:=Qbe h0 h1 (x:=x.1) (b:=x.2) hg;exact .inl ⟨by rw[Q17,hg];rfl,by rw[nxF,hg];exact hr.1,by rw[nxF,hg];exact hr.2,by rw[Q1f,nxF,hg]⟩
theorem Q49{l:List Int}{f u:Int}:(QI l f u).length<=l.length:=Q9S l f u
def Qe1(ps:List AV)(K B:Int->Int)(ce:Int->Nat->Int)(nx:Int->Int):Nat->List AV->List Ob->Option (AV×List Ob):=fun f args _=>match f,args with
 |39,_=>some (.slc 3 ps,[])
 |40,[_,.val (.int .i64 a)]=>some (.val (.int .i64 (K a)),[])
 |42,[_,.val (.int .i64 a)]=>some (.val (.int .i64 (B a)),[])
 |41,[_,.val (.int .i64 a)]=>some (.tup [.agg [.val (.int .i64 (ce a 0)),.val (.int .i64 (ce a 1)),.val (.int .i64 (ce a 2)),.val (.int .i64 (ce a 3)),.val (.int .i64 (ce a 4)),.val (.int .i64 (ce a 5)),.val (.int .i64 (ce a 6)),.val (.int .i64 (ce a 7)),.val (.int .i64 (ce a 8))],.val (.int .i64 (nx a))],[])
 |_,_=>none
def Q6S(t:TTag):AV:=.agg [.val (.int .i64 t.name.kind),.val (.int .i64 t.name.from_),.val (.int .i64 t.name.to),.slc 9 (Qj t.attrs),.val (.bool t.right),.val (.bool t.empty)]
theorem QcX(l:List Int)(hl:l.length<=1000000)(hu:Un l)(from_ to:Int)(h0:0<=from_)(h1:from_<=to)(h2:to<=l.length)(ps:List TPart)(qD:ps=QI l from_ to)(k0:¬kdF ps 0=1):BCall prog 20 [.slc 1 (Q0 l),.val (.int .i64 from_),.val (.int .i64 to)] [] (Q6S ⟨Qe,[],false,false⟩) []:=by
 have jw:ps.length<=1000000:=by have:=Q49 (l:=l) (f:=from_) (u:=to);rw[qD];omega
 have cP:=Q5J l hl hu from_ to h0 h1 h2;rw[<-qD]at cP;have cK0:=Q3g ps (by omega) 0 (by omega)
 have cK1:=Q3g ps (by omega) 1 (by omega)
 obtain⟨K,hK⟩:=exq (kdF ps);simp only[<-hK]at *;clear hK qD h2;rw[Q6S];refine fnN (Qe1 (Q3 ps) K (fun _=>0) (fun _ _=>0) (fun _=>0)) func20 rfl fun _ _=>?_
 with_reducible refine cv2 (Q3 ps) (Q0 l) ?_
 with_reducible repeat' first|refine aU k0 ?_|refine And.intro ?_ ?_|intro hb
 all_goals first
  |exact cP
  |exact cK0
  |exact cK1
  |exact .pure rfl ⟨.inl rfl,.inl rfl,.inl rfl,.inr (.inl ⟨rfl,_,rfl⟩),.inl rfl,.inl rfl,trivial⟩
theorem QdC(l:List Int)(hl:l.length<=1000000)(hu:Un l)(from_ to:Int)(h0:0<=from_)(h1:from_<=to)(h2:to<=l.length)(ps:List TPart)(qD:ps=QI l from_ to)(k0:kdF ps 0=1)(k1:¬kdF ps 1=2):BCall prog 20 [.slc 1 (Q0 l),.val (.int .i64 from_),.val (.int .i64 to)] [] (Q6S ⟨Qe,[],false,false⟩) []:=by
 have jw:ps.length<=1000000:=by have:=Q49 (l:=l) (f:=from_) (u:=to);rw[qD];omega
 have cP:=Q5J l hl hu from_ to h0 h1 h2;rw[<-qD]at cP;have cK0:=Q3g ps (by omega) 0 (by omega)
 have cK1:=Q3g ps (by omega) 1 (by omega)
 obtain⟨K,hK⟩:=exq (kdF ps);simp only[<-hK]at *;clear hK qD h2;rw[Q6S];refine fnN (Qe1 (Q3 ps) K (fun _=>0) (fun _ _=>0) (fun _=>0)) func20 rfl fun _ _=>?_
 with_reducible refine cv2 (Q3 ps) (Q0 l) ?_
 with_reducible repeat' first|refine aU (zA k0 k1) ?_|refine And.intro ?_ ?_|intro hb
 all_goals first
  |exact cP
  |exact cK0
  |exact cK1
  |exact .pure rfl ⟨.inl rfl,.inl rfl,.inl rfl,.inr (.inl ⟨rfl,_,rfl⟩),.inl rfl,.inl rfl,trivial⟩
theorem QiR(l:List Int)(hl:l.length<=1000000)(hu:Un l)(from_ to:Int)(h0:0<=from_)(h1:from_<=to)(h2:to<=l.length)(ps:List TPart)(qD:ps=QI l from_ to)(k0:kdF ps 0=1)(k1:kdF ps 1=2)(ats:List TAttr)(ae:Int)(jN:ats=(Qi ps (ps.length+1) 2).1)(vC:ae=(Qi ps (ps.length+1) 2).2)(b:Int)(hb:b=bkF ps ae)(kb:¬kdF ps b=6):BCall prog 20 [.slc 1 (Q0 l),.val (.int .i64 from_),.val (.int .i64 to)] [] (Q6S (Q19 ps)) []:=by
 have jw:ps.length<=1000000:=by have:=Q49 (l:=l) (f:=from_) (u:=to);rw[qD];omega
 have cP:=Q5J l hl hu from_ to h0 h1 h2;rw[<-qD]at cP;obtain⟨n,hn⟩:=QC ps
 have qZ:2<=n:=by
  have:=Q8C (by omega) k1 (by decide)
  rw[hn.eq];omega
 have qi:n<=1000000:=by rw[hn.eq];omega
 obtain⟨o,ho⟩:=exq (ps[0]?.getD Qe);obtain⟨nm,qG⟩:=exq (ps[1]?.getD Qe);have r0:(Q3 ps)[0]?.getD .dead=o.av:=by rw[ho];exact Q1A (i:=0) (by omega) (by have:=hn.eq;omega)
 have r1:(Q3 ps)[1]?.getD .dead=nm.av:=by rw[qG];exact Q1A (i:=1) (by omega) (by have:=hn.eq;omega)
 have q6:0<=ae/\ae<=n:=by
  have e:=hn.eq;have:=Q27 (l:=ps) (ps.length+1) 2 (by omega) (by omega)
  rw[<-vC]at this;omega
 have vW:0<=b/\b<=ae+1:=by
  rw[hb,bkF];split<;>omega
 have cK0:=Q3g ps (by omega) 0 (by omega)
 have cK1:=Q3g ps (by omega) 1 (by omega)
 have cB:=Q3D ps (by omega) ae q6.1 (by omega)
 rw[<-hb]at cB;have cKb:=Q3g ps (by omega) b vW.1
 have hR:Q19 ps=⟨nm,ats,false,false⟩:=by simp only[Q19,show Qz ps 0 [1,2]=true from by rw[Q4L,k0,k1];rfl,if_true,<-jN,<-vC,QfY,<-hb,Q3y ps b 6 (by decide),<-ho,<-qG,decide_eq_true_eq];rw[if_neg (fun e=>kb e.1)]
 rw[hR,Q6S];clear hR;obtain⟨K,hK⟩:=exq (kdF ps);obtain⟨B,hB⟩:=exq (bkF ps);simp only[<-hK,<-hB]at k0 k1 hb cB cK0 cK1 cKb kb ;obtain⟨ce,vv⟩:=exq (ceF ps);obtain⟨nx,jM⟩:=exq (nxF ps)
 have cA:∀a:Int,0<=a->a<=n->BCall prog 41 [.slc 3 (Q3 ps),.val (.int .i64 a)] [] (.tup [.agg [.val (.int .i64 (ce a 0)),.val (.int .i64 (ce a 1)),.val (.int .i64 (ce a 2)),.val (.int .i64 (ce a 3)),.val (.int .i64 (ce a 4)),.val (.int .i64 (ce a 5)),.val (.int .i64 (ce a 6)),.val (.int .i64 (ce a 7)),.val (.int .i64 (ce a 8))],.val (.int .i64 (nx a))]) []:=fun a h3 h4=>by
  rw[vv,jM];exact Qc5 ps (by omega) a h3 (by omega)
 have zt:∀a:Int,0<=a->a<=n->(Q17 ps a=true/\a<nx a/\nx a<=n/\Q1f ps a=nx a)\/(Q17 ps a=false/\nx a=-1):=fun a h3 h4=>by
  rw[jM,hn.eq];exact Qkl h3 (by rw[<-hn.eq];exact h4)
 have qh:∀a:Int,Qj [Qq ps a]=[.agg [.val (.int .i64 (ce a 0)),.val (.int .i64 (ce a 1)),.val (.int .i64 (ce a 2)),.val (.int .i64 (ce a 3)),.val (.int .i64 (ce a 4)),.val (.int .i64 (ce a 5)),.val (.int .i64 (ce a 6)),.val (.int .i64 (ce a 7)),.val (.int .i64 (ce a 8))]]:=fun a=>by rw[vv];rfl
 have cB:BCall prog 42 [.slc 3 (Q3 ps),.val (.int .i64 ae)] [] (.val (.int .i64 (B ae))) []:=by rw[<-hb];exact cB
 rw[hb]at cKb kb ;clear vv jM hK hB ho qG;refine fnN (Qe1 (Q3 ps) K B ce nx) func20 rfl fun _ _=>?_
 with_reducible refine cv2 (Q3 ps) (Q0 l) ?_
 have jJ:(((Q3 ps).length:Nat):Int)=n:=by have:=hn.eq;have:=QK ps;omega
 repeat' first
  |(with_reducible refine And.intro (fun hx=>absurd hx (by first|(try simp[std,S1,k0,k1,jJ,qZ,r1,TPart.av])<;>omega|omega)) (fun _=>?_))
  |(with_reducible refine And.intro (fun _=>?_) (fun hx=>absurd hx (by first|(try simp[std,S1,k0,k1,jJ,qZ,r1,TPart.av])<;>omega|omega)))
  |(with_reducible refine And.intro (by first|(try simp[std,S1,k0,k1,jJ,qZ,r1,TPart.av])<;>omega|omega) ?_)
  |(with_reducible refine And.intro ?_ ?_)
  |(with_reducible intro hb)
 all_goals first
  |exact cP
  |exact cK0
  |exact cK1
  |skip
 refine Q1p (Qe1 (Q3 ps) K B ce nx) (List TAttr×Int×Int) (fun x=>⟨[(6,.box 0 0),(7,.slc 3 (Q3 ps)),(8,.box 1 0),(9,.val (.int .i64 x.2.1)),(10,.val (.int .i64 x.2.2))],[.box [.val (.int .i64 0),.val (.int .i64 0),.val (.int .i64 0),.val (.slice none 0 0),.val (.bool false),.val (.bool false)],.box [.val (.int .i64 nm.kind),.val (.int .i64 nm.from_),.val (.int .i64 nm.to),.row 2 0,.val (.bool false),.val (.bool false)],.row 58 9 false 0 (Qj x.1)]⟩) (fun x=>0<=x.2.2/\2+x.2.2<=x.2.1/\x.2.1<=n/\(∃f:Nat,n-x.2.1<f/\x.1++(Qi ps f x.2.1).1=ats/\(Qi ps f x.2.1).2=ae)/\(x.1.length:Int)<=x.2.1) (fun x=>(n-x.2.1).toNat) ([],2,0) ?_ ?_ ?_
 ·exact⟨by simp,by simp,qZ,⟨ps.length+1,by have:=hn.eq;simp only;omega,by rw[jN];rfl,by rw[vC]⟩,by simp⟩
 ·exact⟨[some 0,some 1,none],_,rfl,by simp[Qf,lk,std,r1,TPart.av,AV.cells,intOf,Qj]⟩
 ·rintro⟨out,a,i⟩ ⟨zu,q8,qU,⟨f,js,jb,jy⟩,zO⟩
  simp only at zu q8 qU js jb jy zO
  have jP:=Q1X out;obtain⟨f,rfl⟩:∃f',f=f'+1:=⟨f-1,by omega⟩
  have cN:=cA a (by omega) qU
  have je:i<n:=by omega
  have pa:out.length<=1000000:=by omega
  obtain⟨m,hm⟩:=QC out;rcases zt a (by omega) qU with ⟨jm,g1,g2,g3⟩|⟨jm,g1⟩
  ·rw[Qi,if_pos jm,g3]at jb jy
   have hG:out++[Qq ps a]++(Qi ps f (nx a)).1=ats:=by rw[<-jb];simp
   have zI:=qh a;have vw:n-nx a<f:=by omega
   have vy:((out++[Qq ps a]).length:Int)<=nx a:=by simp only[length_append,length_singleton];omega
   have jg:¬nx a<0:=by omega
   have zj:0<=a:=by omega
   clear jJ js g3 zO jb;with_reducible refine cv3 (Q3 ps) (Q0 l) (Qj out) ?_
   have jJ:(((Q3 ps).length:Nat):Int)=n:=by have:=hn.eq;have:=QK ps;omega
   with_reducible repeat' first|refine aU (zA jJ <| zA jP <| zA je <| zA jg zu) ?_|refine And.intro ?_ ?_|intro hb
   all_goals first
    |exact cN
    |skip
   refine⟨(out++[Qq ps a],nx a,i+1),⟨by simp only;omega,by simp only;omega,g2,⟨f,vw,hG,jy⟩,vy⟩,by simp only;omega,[some 0,some 1,some 2],_,rfl,?_⟩
   simp[Qf,lk,std,Q4a,zI]
  ·rw[Qi,if_neg (by rw[jm];exact Bool.false_ne_true)]at jb jy
   simp only[append_nil]at jb jy;have jg:nx a<0:=by omega
   clear g1;rw[<-jb];rw[<-jy]at q6 vW cB cKb kb ;have hJ6:a=ae:=jy;clear jJ js jN vC jb jy hb;with_reducible refine cv3 (Q3 ps) (Q0 l) (Qj out) ?_
   have jJ:(((Q3 ps).length:Nat):Int)=n:=by have:=hn.eq;have:=QK ps;omega
   with_reducible repeat' first|refine aU (zA jJ <| zA jP <| zA je <| zA jg zu) ?_|refine And.intro ?_ ?_|intro hb
   all_goals first
    |exact cN
    |skip
   rw[if_pos trivial];with_reducible refine cv3 (Q3 ps) (Q0 l) (Qj out) ?_
   with_reducible repeat' first|refine aU (zA kb jJ) ?_|refine And.intro ?_ ?_|intro hb
   all_goals first
    |exact cB
    |exact cKb
    |exact .pure rfl ⟨.inl rfl,.inl rfl,.inl rfl,.inl rfl,.inl rfl,.inl rfl,trivial⟩
theorem QjR(l:List Int)(hl:l.length<=1000000)(hu:Un l)(from_ to:Int)(h0:0<=from_)(h1:from_<=to)(h2:to<=l.length)(ps:List TPart)(qD:ps=QI l from_ to)(k0:kdF ps 0=1)(k1:kdF ps 1=2)(ats:List TAttr)(ae:Int)(jN:ats=(Qi ps (ps.length+1) 2).1)(vC:ae=(Qi ps (ps.length+1) 2).2)(b:Int)(hb:b=bkF ps ae)(kb:kdF ps b=6)(jo:¬b+1=ps.length):BCall prog 20 [.slc 1 (Q0 l),.val (.int .i64 from_),.val (.int .i64 to)] [] (Q6S (Q19 ps)) []:=by
 have jw:ps.length<=1000000:=by have:=Q49 (l:=l) (f:=from_) (u:=to);rw[qD];omega
 have cP:=Q5J l hl hu from_ to h0 h1 h2;rw[<-qD]at cP;obtain⟨n,hn⟩:=QC ps
 have qZ:2<=n:=by
  have:=Q8C (by omega) k1 (by decide)
  rw[hn.eq];omega
 have qi:n<=1000000:=by rw[hn.eq];omega
 obtain⟨o,ho⟩:=exq (ps[0]?.getD Qe);obtain⟨nm,qG⟩:=exq (ps[1]?.getD Qe);have r0:(Q3 ps)[0]?.getD .dead=o.av:=by rw[ho];exact Q1A (i:=0) (by omega) (by have:=hn.eq;omega)
 have r1:(Q3 ps)[1]?.getD .dead=nm.av:=by rw[qG];exact Q1A (i:=1) (by omega) (by have:=hn.eq;omega)
 have q6:0<=ae/\ae<=n:=by
  have e:=hn.eq;have:=Q27 (l:=ps) (ps.length+1) 2 (by omega) (by omega)
  rw[<-vC]at this;omega
 have vW:0<=b/\b<=ae+1:=by
  rw[hb,bkF];split<;>omega
 have cK0:=Q3g ps (by omega) 0 (by omega)
 have cK1:=Q3g ps (by omega) 1 (by omega)
 have cB:=Q3D ps (by omega) ae q6.1 (by omega)
 rw[<-hb]at cB;have cKb:=Q3g ps (by omega) b vW.1
 have hR:Q19 ps=⟨nm,ats,false,false⟩:=by simp only[Q19,show Qz ps 0 [1,2]=true from by rw[Q4L,k0,k1];rfl,if_true,<-jN,<-vC,QfY,<-hb,Q3y ps b 6 (by decide),<-ho,<-qG,decide_eq_true_eq];rw[if_neg (fun e=>jo (by have:=Q8C vW.1 kb (by decide);omega))]
 rw[hR,Q6S];clear hR;obtain⟨K,hK⟩:=exq (kdF ps);obtain⟨B,hB⟩:=exq (bkF ps);simp only[<-hK,<-hB]at k0 k1 hb cB cK0 cK1 cKb kb ;obtain⟨ce,vv⟩:=exq (ceF ps);obtain⟨nx,jM⟩:=exq (nxF ps)
 have cA:∀a:Int,0<=a->a<=n->BCall prog 41 [.slc 3 (Q3 ps),.val (.int .i64 a)] [] (.tup [.agg [.val (.int .i64 (ce a 0)),.val (.int .i64 (ce a 1)),.val (.int .i64 (ce a 2)),.val (.int .i64 (ce a 3)),.val (.int .i64 (ce a 4)),.val (.int .i64 (ce a 5)),.val (.int .i64 (ce a 6)),.val (.int .i64 (ce a 7)),.val (.int .i64 (ce a 8))],.val (.int .i64 (nx a))]) []:=fun a h3 h4=>by
  rw[vv,jM];exact Qc5 ps (by omega) a h3 (by omega)
 have zt:∀a:Int,0<=a->a<=n->(Q17 ps a=true/\a<nx a/\nx a<=n/\Q1f ps a=nx a)\/(Q17 ps a=false/\nx a=-1):=fun a h3 h4=>by
  rw[jM,hn.eq];exact Qkl h3 (by rw[<-hn.eq];exact h4)
 have qh:∀a:Int,Qj [Qq ps a]=[.agg [.val (.int .i64 (ce a 0)),.val (.int .i64 (ce a 1)),.val (.int .i64 (ce a 2)),.val (.int .i64 (ce a 3)),.val (.int .i64 (ce a 4)),.val (.int .i64 (ce a 5)),.val (.int .i64 (ce a 6)),.val (.int .i64 (ce a 7)),.val (.int .i64 (ce a 8))]]:=fun a=>by rw[vv];rfl
 have cB:BCall prog 42 [.slc 3 (Q3 ps),.val (.int .i64 ae)] [] (.val (.int .i64 (B ae))) []:=by rw[<-hb];exact cB
 rw[hb]at cKb kb ;clear vv jM hK hB ho qG;refine fnN (Qe1 (Q3 ps) K B ce nx) func20 rfl fun _ _=>?_
 with_reducible refine cv2 (Q3 ps) (Q0 l) ?_
 have jJ:(((Q3 ps).length:Nat):Int)=n:=by have:=hn.eq;have:=QK ps;omega
 repeat' first
  |(with_reducible refine And.intro (fun hx=>absurd hx (by first|(try simp[std,S1,k0,k1,jJ,qZ,r1,TPart.av])<;>omega|omega)) (fun _=>?_))
  |(with_reducible refine And.intro (fun _=>?_) (fun hx=>absurd hx (by first|(try simp[std,S1,k0,k1,jJ,qZ,r1,TPart.av])<;>omega|omega)))
  |(with_reducible refine And.intro (by first|(try simp[std,S1,k0,k1,jJ,qZ,r1,TPart.av])<;>omega|omega) ?_)
  |(with_reducible refine And.intro ?_ ?_)
  |(with_reducible intro hb)
 all_goals first
  |exact cP
  |exact cK0
  |exact cK1
  |skip
 refine Q1p (Qe1 (Q3 ps) K B ce nx) (List TAttr×Int×Int) (fun x=>⟨[(6,.box 0 0),(7,.slc 3 (Q3 ps)),(8,.box 1 0),(9,.val (.int .i64 x.2.1)),(10,.val (.int .i64 x.2.2))],[.box [.val (.int .i64 0),.val (.int .i64 0),.val (.int .i64 0),.val (.slice none 0 0),.val (.bool false),.val (.bool false)],.box [.val (.int .i64 nm.kind),.val (.int .i64 nm.from_),.val (.int .i64 nm.to),.row 2 0,.val (.bool false),.val (.bool false)],.row 58 9 false 0 (Qj x.1)]⟩) (fun x=>0<=x.2.2/\2+x.2.2<=x.2.1/\x.2.1<=n/\(∃f:Nat,n-x.2.1<f/\x.1++(Qi ps f x.2.1).1=ats/\(Qi ps f x.2.1).2=ae)/\(x.1.length:Int)<=x.2.1) (fun x=>(n-x.2.1).toNat) ([],2,0) ?_ ?_ ?_
 ·exact⟨by simp,by simp,qZ,⟨ps.length+1,by have:=hn.eq;simp only;omega,by rw[jN];rfl,by rw[vC]⟩,by simp⟩
 ·exact⟨[some 0,some 1,none],_,rfl,by simp[Qf,lk,std,r1,TPart.av,AV.cells,intOf,Qj]⟩
 ·rintro⟨out,a,i⟩ ⟨zu,q8,qU,⟨f,js,jb,jy⟩,zO⟩
  simp only at zu q8 qU js jb jy zO
  have jP:=Q1X out;obtain⟨f,rfl⟩:∃f',f=f'+1:=⟨f-1,by omega⟩
  have cN:=cA a (by omega) qU
  have je:i<n:=by omega
  have pa:out.length<=1000000:=by omega
  obtain⟨m,hm⟩:=QC out;rcases zt a (by omega) qU with ⟨jm,g1,g2,g3⟩|⟨jm,g1⟩
  ·rw[Qi,if_pos jm,g3]at jb jy
   have hG:out++[Qq ps a]++(Qi ps f (nx a)).1=ats:=by rw[<-jb];simp
   have zI:=qh a;have vw:n-nx a<f:=by omega
   have vy:((out++[Qq ps a]).length:Int)<=nx a:=by simp only[length_append,length_singleton];omega
   have jg:¬nx a<0:=by omega
   have zj:0<=a:=by omega
   clear jJ js g3 zO jb;with_reducible refine cv3 (Q3 ps) (Q0 l) (Qj out) ?_
   have jJ:(((Q3 ps).length:Nat):Int)=n:=by have:=hn.eq;have:=QK ps;omega
   with_reducible repeat' first|refine aU (zA jJ <| zA jP <| zA je <| zA jg zu) ?_|refine And.intro ?_ ?_|intro hb
   all_goals first
    |exact cN
    |skip
   refine⟨(out++[Qq ps a],nx a,i+1),⟨by simp only;omega,by simp only;omega,g2,⟨f,vw,hG,jy⟩,vy⟩,by simp only;omega,[some 0,some 1,some 2],_,rfl,?_⟩
   simp[Qf,lk,std,Q4a,zI]
  ·rw[Qi,if_neg (by rw[jm];exact Bool.false_ne_true)]at jb jy
   simp only[append_nil]at jb jy;have jg:nx a<0:=by omega
   clear g1;rw[<-jb];rw[<-jy]at q6 vW cB cKb kb ;have pj:b=B a:=by rw[jy];exact hb
   clear jJ js jN vC jb jy hb;with_reducible refine cv3 (Q3 ps) (Q0 l) (Qj out) ?_
   have jJ:(((Q3 ps).length:Nat):Int)=n:=by have:=hn.eq;have:=QK ps;omega
   with_reducible repeat' first|refine aU (zA jJ <| zA jP <| zA je <| zA jg zu) ?_|refine And.intro ?_ ?_|intro hb
   all_goals first
    |exact cN
    |skip
   rw[if_pos trivial];have jo:¬B a+1=n:=by rw[<-pj,hn.eq];exact jo
   with_reducible refine cv3 (Q3 ps) (Q0 l) (Qj out) ?_
   with_reducible repeat' first|refine aU (zA kb <| zA jJ <| zA jo vW) ?_|refine And.intro ?_ ?_|intro hb
   all_goals first
    |exact cB
    |exact cKb
    |exact .pure rfl ⟨.inl rfl,.inl rfl,.inl rfl,.inl rfl,.inl rfl,.inl rfl,trivial⟩
theorem Qhe(l:List Int)(hl:l.length<=1000000)(hu:Un l)(from_ to:Int)(h0:0<=from_)(h1:from_<=to)(h2:to<=l.length)(ps:List TPart)(qD:ps=QI l from_ to)(k0:kdF ps 0=1)(k1:kdF ps 1=2)(ats:List TAttr)(ae:Int)(jN:ats=(Qi ps (ps.length+1) 2).1)(vC:ae=(Qi ps (ps.length+1) 2).2)(b:Int)(hb:b=bkF ps ae)(kb:kdF ps b=6)(jo:b+1=ps.length):BCall prog 20 [.slc 1 (Q0 l),.val (.int .i64 from_),.val (.int .i64 to)] [] (Q6S (Q19 ps)) []:=by
 have jw:ps.length<=1000000:=by have:=Q49 (l:=l) (f:=from_) (u:=to);rw[qD];omega
 have cP:=Q5J l hl hu from_ to h0 h1 h2;rw[<-qD]at cP;obtain⟨n,hn⟩:=QC ps
 have qZ:2<=n:=by
  have:=Q8C (by omega) k1 (by decide)
  rw[hn.eq];omega
 have qi:n<=1000000:=by rw[hn.eq];omega
 obtain⟨o,ho⟩:=exq (ps[0]?.getD Qe);obtain⟨nm,qG⟩:=exq (ps[1]?.getD Qe);have r0:(Q3 ps)[0]?.getD .dead=o.av:=by rw[ho];exact Q1A (i:=0) (by omega) (by have:=hn.eq;omega)
 have r1:(Q3 ps)[1]?.getD .dead=nm.av:=by rw[qG];exact Q1A (i:=1) (by omega) (by have:=hn.eq;omega)
 have q6:0<=ae/\ae<=n:=by
  have e:=hn.eq;have:=Q27 (l:=ps) (ps.length+1) 2 (by omega) (by omega)
  rw[<-vC]at this;omega
 have vW:0<=b/\b<=ae+1:=by
  rw[hb,bkF];split<;>omega
 obtain⟨q,hq⟩:=exq (ps[b.toNat]?.getD Qe);have rb:(Q3 ps)[b.toNat]?.getD .dead=q.av:=by rw[hq];exact Q1A vW.1 (Q8C vW.1 kb (by decide))
 have pA:o.to-o.from_=1\/o.to-o.from_=2:=by rw[ho,qD];exact Qh6 (by rw[<-qD];exact k0)
 have zN:Qdr ps:=fun x hx=>by
  have h9:x∈QQ from_ true ((l.take to.toNat).drop from_.toNat):=by rw[qD]at hx;exact hx
  have:=Q51 ((l.take to.toNat).drop from_.toNat) _ _ from_ true (Nat.le_refl _) x h9
  rw[List.length_drop,List.length_take]at this;omega
 have so:=Q4U zN 0;have sq:=Q4U zN b.toNat;rw[<-ho]at so;rw[<-hq]at sq;clear zN;obtain⟨x,hx⟩:=exq (q.to-q.from_);obtain⟨y,hy⟩:=exq (o.to-o.from_);have cK0:=Q3g ps (by omega) 0 (by omega)
 have cK1:=Q3g ps (by omega) 1 (by omega)
 have cB:=Q3D ps (by omega) ae q6.1 (by omega)
 rw[<-hb]at cB;have cKb:=Q3g ps (by omega) b vW.1
 have hR:Q19 ps=⟨nm,ats,decide (y=1)||(decide (ats.length=0)&&!decide (x=2)),decide (x=2)&&(decide (y=1)||(decide (ats.length=0)&&!decide (x=2)))⟩:=by simp only[Q19,show Qz ps 0 [1,2]=true from by rw[Q4L,k0,k1];rfl,if_true,<-jN,<-vC,QfY,<-hb,Q3y ps b 6 (by decide),<-ho,<-qG,decide_eq_true_eq];rw[if_pos ⟨kb,by omega⟩,<-hq,<-hx,<-hy]
 rw[hR,Q6S];clear hR;obtain⟨K,hK⟩:=exq (kdF ps);obtain⟨B,hB⟩:=exq (bkF ps);simp only[<-hK,<-hB]at k0 k1 hb cB cK0 cK1 cKb kb ;obtain⟨ce,vv⟩:=exq (ceF ps);obtain⟨nx,jM⟩:=exq (nxF ps)
 have cA:∀a:Int,0<=a->a<=n->BCall prog 41 [.slc 3 (Q3 ps),.val (.int .i64 a)] [] (.tup [.agg [.val (.int .i64 (ce a 0)),.val (.int .i64 (ce a 1)),.val (.int .i64 (ce a 2)),.val (.int .i64 (ce a 3)),.val (.int .i64 (ce a 4)),.val (.int .i64 (ce a 5)),.val (.int .i64 (ce a 6)),.val (.int .i64 (ce a 7)),.val (.int .i64 (ce a 8))],.val (.int .i64 (nx a))]) []:=fun a h3 h4=>by
  rw[vv,jM];exact Qc5 ps (by omega) a h3 (by omega)
 have zt:∀a:Int,0<=a->a<=n->(Q17 ps a=true/\a<nx a/\nx a<=n/\Q1f ps a=nx a)\/(Q17 ps a=false/\nx a=-1):=fun a h3 h4=>by
  rw[jM,hn.eq];exact Qkl h3 (by rw[<-hn.eq];exact h4)
 have qh:∀a:Int,Qj [Qq ps a]=[.agg [.val (.int .i64 (ce a 0)),.val (.int .i64 (ce a 1)),.val (.int .i64 (ce a 2)),.val (.int .i64 (ce a 3)),.val (.int .i64 (ce a 4)),.val (.int .i64 (ce a 5)),.val (.int .i64 (ce a 6)),.val (.int .i64 (ce a 7)),.val (.int .i64 (ce a 8))]]:=fun a=>by rw[vv];rfl
 have cB:BCall prog 42 [.slc 3 (Q3 ps),.val (.int .i64 ae)] [] (.val (.int .i64 (B ae))) []:=by rw[<-hb];exact cB
 rw[hb]at cKb kb ;clear vv jM hK hB ho qG hq qD;refine fnN (Qe1 (Q3 ps) K B ce nx) func20 rfl fun _ _=>?_
 with_reducible refine cv2 (Q3 ps) (Q0 l) ?_
 have jJ:(((Q3 ps).length:Nat):Int)=n:=by have:=hn.eq;have:=QK ps;omega
 repeat' first
  |(with_reducible refine And.intro (fun hx=>absurd hx (by first|(try simp[std,S1,k0,k1,jJ,qZ,r1,TPart.av])<;>omega|omega)) (fun _=>?_))
  |(with_reducible refine And.intro (fun _=>?_) (fun hx=>absurd hx (by first|(try simp[std,S1,k0,k1,jJ,qZ,r1,TPart.av])<;>omega|omega)))
  |(with_reducible refine And.intro (by first|(try simp[std,S1,k0,k1,jJ,qZ,r1,TPart.av])<;>omega|omega) ?_)
  |(with_reducible refine And.intro ?_ ?_)
  |(with_reducible intro hb)
 all_goals first
  |exact cP
  |exact cK0
  |exact cK1
  |skip
 refine Q1p (Qe1 (Q3 ps) K B ce nx) (List TAttr×Int×Int) (fun x=>⟨[(6,.box 0 0),(7,.slc 3 (Q3 ps)),(8,.box 1 0),(9,.val (.int .i64 x.2.1)),(10,.val (.int .i64 x.2.2))],[.box [.val (.int .i64 0),.val (.int .i64 0),.val (.int .i64 0),.val (.slice none 0 0),.val (.bool false),.val (.bool false)],.box [.val (.int .i64 nm.kind),.val (.int .i64 nm.from_),.val (.int .i64 nm.to),.row 2 0,.val (.bool false),.val (.bool false)],.row 58 9 false 0 (Qj x.1)]⟩) (fun x=>0<=x.2.2/\2+x.2.2<=x.2.1/\x.2.1<=n/\(∃f:Nat,n-x.2.1<f/\x.1++(Qi ps f x.2.1).1=ats/\(Qi ps f x.2.1).2=ae)/\(x.1.length:Int)<=x.2.1) (fun x=>(n-x.2.1).toNat) ([],2,0) ?_ ?_ ?_
 ·exact⟨by simp,by simp,qZ,⟨ps.length+1,by have:=hn.eq;simp only;omega,by rw[jN];rfl,by rw[vC]⟩,by simp⟩
 ·exact⟨[some 0,some 1,none],_,rfl,by simp[Qf,lk,std,r1,TPart.av,AV.cells,intOf,Qj]⟩
 ·rintro⟨out,a,i⟩ ⟨zu,q8,qU,⟨f,js,jb,jy⟩,zO⟩
  simp only at zu q8 qU js jb jy zO
  have jP:=Q1X out;obtain⟨f,rfl⟩:∃f',f=f'+1:=⟨f-1,by omega⟩
  have cN:=cA a (by omega) qU
  have je:i<n:=by omega
  have pa:out.length<=1000000:=by omega
  obtain⟨m,hm⟩:=QC out;rcases zt a (by omega) qU with ⟨jm,g1,g2,g3⟩|⟨jm,g1⟩
  ·rw[Qi,if_pos jm,g3]at jb jy
   have hG:out++[Qq ps a]++(Qi ps f (nx a)).1=ats:=by rw[<-jb];simp
   have zI:=qh a;have vw:n-nx a<f:=by omega
   have vy:((out++[Qq ps a]).length:Int)<=nx a:=by simp only[length_append,length_singleton];omega
   have jg:¬nx a<0:=by omega
   have zj:0<=a:=by omega
   clear jJ js g3 zO jb;with_reducible refine cv3 (Q3 ps) (Q0 l) (Qj out) ?_
   have jJ:(((Q3 ps).length:Nat):Int)=n:=by have:=hn.eq;have:=QK ps;omega
   with_reducible repeat' first|refine aU (zA jJ <| zA jP <| zA je <| zA jg zu) ?_|refine And.intro ?_ ?_|intro hb
   all_goals first
    |exact cN
    |skip
   refine⟨(out++[Qq ps a],nx a,i+1),⟨by simp only;omega,by simp only;omega,g2,⟨f,vw,hG,jy⟩,vy⟩,by simp only;omega,[some 0,some 1,some 2],_,rfl,?_⟩
   simp[Qf,lk,std,Q4a,zI]
  ·rw[Qi,if_neg (by rw[jm];exact Bool.false_ne_true)]at jb jy
   simp only[append_nil]at jb jy;have jg:nx a<0:=by omega
   clear g1;rw[<-jb];rw[<-jy]at q6 vW cB cKb kb ;have pj:b=B a:=by rw[jy];exact hb
   clear jJ js jN vC jb jy hb;with_reducible refine cv3 (Q3 ps) (Q0 l) (Qj out) ?_
   have jJ:(((Q3 ps).length:Nat):Int)=n:=by have:=hn.eq;have:=QK ps;omega
   with_reducible repeat' first|refine aU (zA jJ <| zA jP <| zA je <| zA jg zu) ?_|refine And.intro ?_ ?_|intro hb
   all_goals first
    |exact cN
    |skip
   rw[if_pos trivial];have jo:B a+1=n:=by rw[<-pj,hn.eq];exact jo
   rw[pj]at rb;with_reducible refine cv3 (Q3 ps) (Q0 l) (Qj out) ?_
   have vt:=hx.symm;have vA:=hy.symm;rw[<-hy]at pA;have ev:∀v:Int,v=2\/¬v=2:=fun v=>by omega
   have el:out.length=0\/¬out.length=0:=by omega
   rcases ev x with x2|x2
   all_goals rcases el with l0|l0
   all_goals rcases pA with y1|y1
   all_goals
    repeat' first
     |(with_reducible refine And.intro (fun hx=>absurd hx (by first|(try simp[std,S1,kb,jJ,jo,vW,rb,r0,TPart.av,vt,vA,x2,y1,l0,jP])<;>omega|omega)) (fun _=>?_))
     |(with_reducible refine And.intro (fun _=>?_) (fun hx=>absurd hx (by first|(try simp[std,S1,kb,jJ,jo,vW,rb,r0,TPart.av,vt,vA,x2,y1,l0,jP])<;>omega|omega)))
     |(with_reducible refine And.intro (by first|(try simp[std,S1,kb,jJ,jo,vW,rb,r0,TPart.av,vt,vA,x2,y1,l0,jP])<;>omega|omega) ?_)
     |(with_reducible refine And.intro ?_ ?_)
     |(with_reducible intro hb)
   all_goals first
    |exact cB
    |exact cKb
    |(refine(QfM _).2 ?_;simp[std,rb,r0,TPart.av,AV.cells,intOf,vt,vA,x2,y1];done)
    |(refine(QfM _).2 ?_;simp[std,rb,r0,TPart.av,AV.cells,intOf,vt,vA];omega)
    |(refine .pure rfl ⟨.inl rfl,.inl rfl,.inl rfl,.inl rfl,.inl ?_,.inl ?_,trivial⟩<;>simp[std,rb,r0,TPart.av,AV.cells,intOf,Q3z,vt,vA,x2,y1,l0,jP])
theorem Q93(l:List Int)(hl:l.length<=1000000)(hu:Un l)(from_ to:Int)(h0:0<=from_)(h1:from_<=to)(h2:to<=l.length):BCall prog 20 [.slc 1 (Q0 l),.val (.int .i64 from_),.val (.int .i64 to)] [] (Q6S (Qa l from_ to)) []:=by
 rw[Qa];obtain⟨ps,qD⟩:=exq (QI l from_ to);rw[<-qD];by_cases k0:kdF ps 0=1
 ·by_cases k1:kdF ps 1=2
  ·by_cases kb:kdF ps (bkF ps (Qi ps (ps.length+1) 2).2)=6
   ·by_cases jo:bkF ps (Qi ps (ps.length+1) 2).2+1=ps.length
    ·exact Qhe l hl hu from_ to h0 h1 h2 ps qD k0 k1 _ _ rfl rfl _ rfl kb jo
    ·exact QjR l hl hu from_ to h0 h1 h2 ps qD k0 k1 _ _ rfl rfl _ rfl kb jo
   ·exact QiR l hl hu from_ to h0 h1 h2 ps qD k0 k1 _ _ rfl rfl _ rfl kb
  ·have e:Q19 ps=⟨Qe,[],false,false⟩:=by
    rw[Q19,if_neg];rw[Q4L,decide_eq_true_eq];exact fun e=>k1 e.2
   rw[e];exact QdC l hl hu from_ to h0 h1 h2 ps qD k0 k1
 ·have e:Q19 ps=⟨Qe,[],false,false⟩:=by
   rw[Q19,if_neg];rw[Q4L,decide_eq_true_eq];exact fun e=>k0 e.1
  rw[e];exact QcX l hl hu from_ to h0 h1 h2 ps qD k0
