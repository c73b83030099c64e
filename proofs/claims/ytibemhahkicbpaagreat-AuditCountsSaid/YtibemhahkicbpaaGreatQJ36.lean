/- Lemmas; conditions told. -/
import Derived.Test.YtibemhahkicbpaaGreatQJ35
set_option maxRecDepth 99999
set_option maxHeartbeats 0
set_option linter.unusedSimpArgs false
set_option linter.unusedVariables false
namespace Go.Proofs.YtibemhahkicbpaaGreat
open List(getD_eq_getElem?_getD length_take drop_zero)
open Go.RowKit Go.Lib
section
open Tryz
theorem QcA(r:Int):Q1Q r=true↔r≠60/\r≠38/\r≠-1:=by
 unfold Q1Q;simp only[Bool.and_eq_true,bne_iff_ne]
theorem Qii(l:List Int)(hl:l.length<=1000000000)(hu:Un l)(k:Int)(h0:0<=k)(h1:k<l.length)(hM:NoMark l k.toNat)(jQ:¬l[k.toNat]?.getD 0=60)(vY:¬l[k.toNat]?.getD 0=38)(qT:¬l[k.toNat]?.getD 0=-1):BCall prog 126 [.slc 1 (Q0 l),.val (.int .i64 k)] [] (Q1B ((Ql l k.toNat).1:Nat) k ((Ql l k.toNat).2.1:Nat) (Ql l k.toNat).2.2) []:=by
 have c1:BCall prog 151 [.slc 1 (Q0 l),.val (.int .i64 k),.val (.string ⟨#[60,33,45,45]⟩)] [] (.val (.bool false)) []:=by
  have:=Qc l hl hu.i32 k h0 (by omega) ⟨#[60,33,45,45]⟩ (by decide)
  have e:Q6 l k.toNat (⟨#[60,33,45,45]⟩:ByteArray).data.toList=false:=hM.s1;rw[e]at this;exact this
 have c2:BCall prog 151 [.slc 1 (Q0 l),.val (.int .i64 k),.val (.string ⟨#[60,33,91,67,68,65,84,65,91]⟩)] [] (.val (.bool false)) []:=by
  have:=Qc l hl hu.i32 k h0 (by omega) ⟨#[60,33,91,67,68,65,84,65,91]⟩ (by decide)
  have e:Q6 l k.toNat (⟨#[60,33,91,67,68,65,84,65,91]⟩:ByteArray).data.toList=false:=hM.s2;rw[e]at this;exact this
 have c3:BCall prog 151 [.slc 1 (Q0 l),.val (.int .i64 k),.val (.string ⟨#[60,63]⟩)] [] (.val (.bool false)) []:=by
  have:=Qc l hl hu.i32 k h0 (by omega) ⟨#[60,63]⟩ (by decide)
  have e:Q6 l k.toNat (⟨#[60,63]⟩:ByteArray).data.toList=false:=hM.s3;rw[e]at this;exact this
 have c4:BCall prog 151 [.slc 1 (Q0 l),.val (.int .i64 k),.val (.string ⟨#[60,33,68,79,67,84,89,80,69]⟩)] [] (.val (.bool false)) []:=by
  have:=Qc l hl hu.i32 k h0 (by omega) ⟨#[60,33,68,79,67,84,89,80,69]⟩ (by decide)
  have e:Q6 l k.toNat (⟨#[60,33,68,79,67,84,89,80,69]⟩:ByteArray).data.toList=false:=hM.s4;rw[e]at this;exact this
 have c5:BCall prog 151 [.slc 1 (Q0 l),.val (.int .i64 k),.val (.string ⟨#[60,47]⟩)] [] (.val (.bool false)) []:=by
  have:=Qc l hl hu.i32 k h0 (by omega) ⟨#[60,47]⟩ (by decide)
  have e:Q6 l k.toNat (⟨#[60,47]⟩:ByteArray).data.toList=false:=hM.s5;rw[e]at this;exact this
 have ak:=QJ (l:=l) (i:=k) h0 h1;obtain⟨n,hn⟩:=QE l;have jt:=Qx l;have jr:k<n:=by have:=hn.eq;omega
 have qO:n<=1000000000:=by have:=hn.eq;omega
 have e:Ql l k.toNat=(1,k.toNat+plN l k,true):=by
  rw[Ql,getD_eq_getElem?_getD,if_neg jQ,if_neg vY,if_neg qT];rfl
 rw[e];obtain⟨N,hN⟩:∃N:Int,IsN (plN l k) N:=⟨_,rfl⟩;obtain⟨t,ht⟩:=exq (k+N:Int);have yV:(((k.toNat+plN l k:Nat)):Int)=t:=by rw[ht,hN.eq];omega
 show BCall _ _ _ _ (Q1B 1 k ((k.toNat+plN l k:Nat):Int) true) _;rw[yV,Q1B];clear e yV hM;refine fnN (Q4u false false false false false true 0 0 0 true) func126 rfl fun _ _=>?_
 with_reducible refine cv1 (Q0 l) ?_
 have jC:=Q15 hn;with_reducible repeat' first|refine aU (zA jC <| zA ak <| zA jQ <| zA vY <| zA qT <| zA jr h0) ?_|refine zA ?_ ?_|intro hb
 all_goals first
  |exact c1
  |exact c2
  |exact c3
  |exact c4
  |exact c5
  |skip
 refine Q1h (Q4u false false false false false true 0 0 0 true) (Int) (fun i=>⟨[(0,.slc 1 (Q0 l)),(1,.val (.int .i64 k)),(4,.box 0 0),(5,.val (.int .i64 i))],[.box [.val (.int .i64 0),.val (.int .i64 0),.val (.int .i64 0),.val (.bool false)]]⟩) (fun i=>(k<=i/\i<=n)/\i+(plN l i:Nat)=k+N) (fun i=>(n-i).toNat) k ?_ ?_ ?_
 ·exact⟨⟨Int.le_refl _,by omega⟩,by rw[hN.eq]⟩
 ·refine⟨[some 0],_,rfl,?_⟩
  exact eq0
 ·rintro i ⟨⟨vF,vV⟩,hi⟩
  have jK:k<=i:=vF;have jR:i<=n:=vV;have hi:i+(plN l i:Nat)=k+N:=hi;clear vF vV jC ak;by_cases jA:i<n
  ·have jS:i<l.length:=by have:=hn.eq;omega
   have ai:=QJ (l:=l) (i:=i) (by omega) jS
   by_cases hp:Q1Q (l[i.toNat]?.getD 0)=true
   ·obtain⟨p1,p2,p3⟩:=(QcA _).1 hp
    have jI:=QlE (by omega) jS hp
    have hJ:i+1+(plN l (i+1):Nat)=k+N:=by omega
    clear hi jI jS hN hp;with_reducible refine cv1 (Q0 l) ?_
    have jC:=Q15 hn;with_reducible repeat' first|refine aU (zA jC <| zA ai <| zA jA <| zA jK <| zA h0 <| zA p1 <| zA p2 p3) ?_|refine zA ?_ ?_|intro hb
    all_goals
     refine⟨i+1,⟨⟨by omega,by omega⟩,hJ⟩,by omega,[some 0],_,rfl,?_⟩
     exact eq0
   ·have qu:=Qf8 (l:=l) (i:=i) (by omega) (fun _=>by simpa using hp)
    have pL:t=i:=by omega
    have ji:l[i.toNat]?.getD 0=60\/l[i.toNat]?.getD 0=38\/l[i.toNat]?.getD 0=-1:=by
     by_cases q1:l[i.toNat]?.getD 0=60
     ·exact .inl q1
     ·by_cases q2:l[i.toNat]?.getD 0=38
      ·exact .inr (.inl q2)
      ·by_cases q3:l[i.toNat]?.getD 0=-1
       ·exact .inr (.inr q3)
       ·exact absurd ((QcA _).2 ⟨q1,q2,q3⟩) hp
    clear hi jS qu hp hN ht;rcases ji with ji|ji|ji
    all_goals
     with_reducible refine cv1 (Q0 l) ?_
     have jC:=Q15 hn;with_reducible repeat' first|refine aU (zA jC <| zA ai <| zA jA <| zA jK <| zA h0 ji) ?_|refine zA ?_ ?_|intro hb
     all_goals
      rw[if_pos trivial];with_reducible refine cv1 (Q0 l) ?_
      exact .pure rfl ⟨.inl rfl,.inl rfl,.inl (by rw[pL]),.inl rfl,trivial⟩
  ·have qu:=Qf8 (l:=l) (i:=i) (by omega) (fun h=>absurd (by have:=hn.eq;omega) jA)
   have pL:t=i:=by omega
   clear hi qu hN ht;with_reducible refine cv1 (Q0 l) ?_
   have jC:=Q15 hn;with_reducible repeat' first|refine aU (zA jC <| zA jA <| zA jK h0) ?_|refine zA ?_ ?_|intro hb
   all_goals
    rw[if_pos trivial];with_reducible refine cv1 (Q0 l) ?_
    exact .pure rfl ⟨.inl rfl,.inl rfl,.inl (by rw[pL]),.inl rfl,trivial⟩
theorem Qm0(l:List Int)(hl:l.length<=1000000000)(hu:Un l)(k:Int)(h0:0<=k)(h1:k<l.length):BCall prog 126 [.slc 1 (Q0 l),.val (.int .i64 k)] [] (Q1B ((Ql l k.toNat).1:Nat) k ((Ql l k.toNat).2.1:Nat) (Ql l k.toNat).2.2) []:=by
 cases s1:Q6 l k.toNat [60,33,45,45]with
 |true=>exact Qlu l hl hu k h0 h1 s1
 |false =>
  cases s2:Q6 l k.toNat [60,33,91,67,68,65,84,65,91]with
  |true=>exact QjR l hl hu k h0 h1 s1 s2
  |false =>
   cases s3:Q6 l k.toNat [60,63]with
   |true=>exact Qk9 l hl hu k h0 h1 s1 s2 s3
   |false =>
    cases s4:Q6 l k.toNat [60,33,68,79,67,84,89,80,69]with
    |true=>exact QkS l hl hu k h0 h1 s1 s2 s3 s4
    |false =>
     cases s5:Q6 l k.toNat [60,47]with
     |true=>exact Qlx l hl hu k h0 h1 s1 s2 s3 s4 s5
     |false =>
      have hM:NoMark l k.toNat:=⟨s1,s2,s3,s4,s5⟩;by_cases jQ:l[k.toNat]?.getD 0=60
      ·by_cases jX:k+1<l.length
       ·cases ct:Qp (l[k.toNat+1]?.getD 0)with
        |true=>exact QiY l hl hu k h0 h1 hM jQ jX ct
        |false=>exact Qi8 l hl hu k h0 h1 hM jQ jX ct
       ·exact QhR l hl hu k h0 h1 hM jQ jX
      ·by_cases vY:l[k.toNat]?.getD 0=38
       ·exact Qk7 l hl hu k h0 h1 hM vY
       ·by_cases qT:l[k.toNat]?.getD 0=-1
        ·exact Qkh l hl hu k h0 h1 hM qT
        ·exact Qii l hl hu k h0 h1 hM jQ vY qT
def QiS(kd to:Int->Int)(wh:Int->Bool):Nat->List AV->List Ob->Option (AV×List Ob):=fun f args _=>match f,args with
 |126,[.slc 1 _,.val (.int .i64 k)]=>some (.agg [.val (.int .i64 (kd k)),.val (.int .i64 k),.val (.int .i64 (to k)),.val (.bool (wh k))],[])
 |_,_=>none
theorem Qcl(l:List Int)(hl:l.length<=1000000)(hu:Un l):BCall prog 72 [.slc 1 (Q0 l)] [] (.slc 4 (QA (Q1r l))) []:=by
 obtain⟨n,hn⟩:=QE l;have jt:=Qx l;obtain⟨kd,jD⟩:=exq (fun k:Int=>(((Ql l k.toNat).1:Nat):Int):Int->Int)
 obtain⟨to,gf⟩:=exq (fun k:Int=>(((Ql l k.toNat).2.1:Nat):Int):Int->Int)
 obtain⟨wh,jv⟩:=exq (fun k:Int=>(Ql l k.toNat).2.2:Int->Bool)
 have cN:∀k:Int,0<=k->k<n->BCall prog 126 [.slc 1 (Q0 l),.val (.int .i64 k)] [] (.agg [.val (.int .i64 (kd k)),.val (.int .i64 k),.val (.int .i64 (to k)),.val (.bool (wh k))]) []:=fun k k0 k1=>by
  rw[jD,gf,jv];exact Qm0 l (by omega) hu k k0 (by have:=hn.eq;omega)
 have jP:∀k:Int,0<=k->k<n->k<to k/\to k<=n/\(Q1m l k.toNat)=⟨kd k,k,to k,wh k⟩/\(to k).toNat=(Ql l k.toNat).2.1:=fun k k0 k1=>by
  have h:=Q2E l k.toNat (by have:=hn.eq;omega)
  have e:=hn.eq;rw[gf,jD,jv];refine⟨by simp only;omega,by simp only;omega,?_,by simp only;omega⟩
  simp only[Q1m,Int.toNat_of_nonneg k0]
 have qO:n<=1000000:=by have:=hn.eq;omega
 clear jD gf jv;refine fnN (QiS kd to wh) func72 rfl fun _ _=>?_
 with_reducible refine cv1 (Q0 l) ?_
 refine Q1h (QiS kd to wh) (List Tok×Int) (fun x=>⟨[(0,.slc 1 (Q0 l)),(3,.row 0 0),(4,.val (.int .i64 x.2))],[.row 153 4 false 0 (QA x.1)]⟩) (fun x=>0<=x.2/\x.2<=n/\x.1++Q1S l x.2.toNat=Q1r l/\(x.1.length:Int)<=x.2) (fun x=>(n-x.2).toNat) ([],0) ?_ ?_ ?_
 ·have:=hn.eq
  exact⟨by simp only;omega,by simp only;omega,rfl,by simp⟩
 ·exact⟨[none],_,rfl,by simp[Qe,lk,QA]⟩
 ·rintro⟨out,k⟩ ⟨js,jh,j7,j6⟩
  simp only at js jh j7 j6
  have jV:=Q5G out;have zw:out.length<=1000000:=by omega
  obtain⟨q,hq⟩:=QE out;have qI:q<=k:=by rw[hq.eq];exact j6
  by_cases hk:k<n
  ·obtain⟨s1,s2,s3,s4⟩:=jP k js hk
   have cNk:=cN k js hk
   have hG:out++[⟨kd k,k,to k,wh k⟩]++Q1S l (to k).toNat=Q1r l:=by
    have e:=hn.eq;rw[<-j7,Q1O (k:=k.toNat) (by omega),s3,s4];simp
   clear s3 s4;with_reducible refine cv2 (Q0 l) (QA out) ?_
   have eq:=hq.eq;have jC:=Q15 hn;with_reducible repeat' first|refine aU (zA jV <| zA jC <| zA hk js) ?_|refine zA ?_ ?_|intro hb
   all_goals exact⟨(out++[⟨kd k,k,to k,wh k⟩],to k),⟨by simp only;omega,s2,hG,by show((out++[_]).length:Int)<=to k;simp only[List.length_append,List.length_singleton];omega⟩,by simp only;omega,[some 0],_,rfl,by simp[Qe,lk,std,Qei,QdL]⟩
  ·have hG:out=Q1r l:=by
    have e:=hn.eq;rw[<-j7,Q1k (by omega),List.append_nil]
   with_reducible refine cv2 (Q0 l) (QA out) ?_
   have jC:=Q15 hn;with_reducible repeat' first|refine aU (zA jC hk) ?_|refine zA ?_ ?_|intro hb
   all_goals
    rw[if_pos trivial];with_reducible refine cv2 (Q0 l) (QA out) ?_
    exact .pure rfl (.inl (by rw[hG]))
theorem Q9v{l:List Int}{to i:Int}(h0:0<=i)(h1:i<to):(l.take to.toNat)[i.toNat]?.getD 0=l[i.toNat]?.getD 0:=by
 rw[List.getElem?_take,if_pos (by omega)]
theorem Qie(l:List Int)(hl:l.length<=1000000000)(k to:Int)(h0:0<=k)(h1:k<to)(h2:to<=l.length):BCall prog 189 [.slc 1 (Q0 l),.val (.int .i64 k),.val (.int .i64 to)] [] (.val (.int .i64 (QC (l.take to.toNat) k))) []:=by
 obtain⟨n,hn⟩:=QE l;obtain⟨R,hR⟩:=exq (QC (l.take to.toNat) k:Int);rw[<-hR];have jt:=Qx l;obtain⟨L,hL⟩:=exq (l.take to.toNat);have qU:(L.length:Int)=to:=by rw[hL,length_take];omega
 have pj:∀i:Int,0<=i->i<to->rAt L i=l[i.toNat]?.getD 0:=fun i i0 i1=>by rw[hL];exact Q9v i0 i1
 obtain⟨q,hq⟩:=exq (rAt L k)
 have hk:Q1a L k.toNat=Q2p L q (k+1).toNat:=by
  rw[Q1a,getD_eq_getElem?_getD,hq,rAt,show(k+1).toNat=k.toNat+1 by omega]
 rw[<-hL,QC,hk]at hR;have hqk:q=l[k.toNat]?.getD 0:=by rw[hq];exact pj k h0 h1
 have ak:=QJ (l:=l) h0 (by omega)
 have qd:to<=n:=by have:=hn.eq;omega
 have qO:n<=1000000000:=by have:=hn.eq;omega
 obtain⟨tl,gE⟩:∃tl:Int,Len L tl:=QE L;have jG:tl=to:=by rw[gE.eq,qU]
 clear hk hq hL qU h2;refine fnN (cs0) func189 rfl fun _ _=>?_
 with_reducible refine cv1 (Q0 l) ?_
 have jC:=Q15 hn;with_reducible repeat' first|refine aU (zA jC <| zA h1 qd) ?_|refine zA ?_ ?_|intro hb
 refine Q1h (cs0) (Int) (fun i=>⟨[(0,.slc 1 (Q0 l)),(1,.val (.int .i64 k)),(2,.val (.int .i64 to)),(7,.val (.int .i64 i))],[]⟩) (fun i=>k+1<=i/\i<=to/\Q2p L q i.toNat=Q2p L q (k+1).toNat) (fun i=>(to-i).toNat) (k+1) ?_ ?_ ?_
 ·exact⟨Int.le_refl _,by omega,rfl⟩
 ·refine⟨[],_,rfl,?_⟩
  exact eq0
 ·rintro i ⟨jK,jR,hi⟩
  have jK:k+1<=i:=jK;have jR:i<=to:=jR;have hi:Q2p L q i.toNat=Q2p L q (k+1).toNat:=hi;rcases Int.lt_or_eq_of_le jR with jA|jZ
  ·have ai:=QJ (l:=l) (i:=i) (by omega) (by have:=hn.eq;omega)
   have jI:=Qhy (l:=L) (q:=q) (i:=i) (by omega) (by have:=gE.eq;omega)
   rw[hi,pj i (by omega) jA]at jI
   clear jC hi;with_reducible refine cv1 (Q0 l) ?_
   have jC:=Q15 hn;with_reducible repeat' first|refine aU (zA ai <| zA ak <| zA jC <| zA jA <| zA jK qd) ?_|refine zA ?_ ?_|intro hb
   ·have j4:l[i.toNat]?.getD 0=q:=by rw[hqk];simpa[std,ai,ak,AV.cells,intOf]using hb
    have qz:R=i+1:=by rw[hR,jI,if_pos j4,if_pos rfl];show(((i+1).toNat:Nat):Int)=_;omega
    with_reducible refine cv1 (Q0 l) ?_
    refine .pure rfl (.inl ?_);rw[qz];rfl
   ·have j4:¬l[i.toNat]?.getD 0=q:=by rw[hqk];simpa[std,ai,ak,AV.cells,intOf]using hb
    rw[if_neg j4]at jI;refine⟨i+1,⟨by omega,by omega,jI.symm⟩,by omega,[],_,rfl,?_⟩
    exact eq0
  ·have yd:Q2p L q i.toNat=(L.length,false):=by rw[Q2p,dif_neg (by have:=gE.eq;omega)]
   have qz:R=-1:=by rw[hR,<-hi,yd];rfl
   rw[jZ];clear jC hi yd;with_reducible refine cv1 (Q0 l) ?_
   have jC:=Q15 hn;with_reducible repeat' first|refine aU jC ?_|refine zA ?_ ?_|intro hb
   ·rw[if_pos trivial]
    with_reducible refine cv1 (Q0 l) ?_
    refine .pure rfl (.inl ?_);rw[qz]
end
def QM(l:List Int)(k to:Int):List Int:=(l.take to.toNat).drop k.toNat
theorem QdK(L:List Int)(k:Nat)(bs:List UInt8):Q6 (L.drop k) 0 bs=Q6 L k bs:=by
 unfold Q6;rw[drop_zero]
theorem QiG(L:List Int)(k:Nat):Qj (L.drop k) 0=Qj L k:=by
 unfold Qj;rw[List.getElem?_drop,Nat.add_zero,drop_zero]
theorem Qlw(p:Int->Bool)(r:List Int):Q2X p r 0=(r.takeWhile p).length:=by
 rw[Q2X,if_neg (by omega)];rfl
theorem QdY(L:List Int)(q:Int):∀(n k:Nat),L.length-k<=n->Q2p L q k=match(L.drop k).findIdx? (· == q)with
  |some j=>(k+j+1,true)
  |none=>(L.length,false)
 |0,k,h=>by
  rw[Q3L L q k (by omega),List.drop_of_length_le (by omega)];rfl
 |n+1,k,h=>by
  by_cases hk:k<L.length
  ·rw[List.drop_eq_getElem_cons hk,List.findIdx?_cons]
   by_cases hq:L[k]=q
   ·rw[Q6C L q k hk hq,if_pos (by simpa using hq)]
   ·rw[Q5Q L q k hk hq,if_neg (by simpa using hq),QdY L q n (k+1) (by omega)]
    cases(L.drop (k+1)).findIdx? (· == q)with
    |none=>rfl
    |some j=>simp only[Option.map_some];congr 1;omega
  ·rw[Q3L L q k hk,List.drop_of_length_le (by omega)];rfl
structure Rng (l:List Int) (k to:Int):Prop where
 h0:0<=k
 h1:k<to
 h2:to<=l.length
section
variable {l:List Int}{k to:Int}
theorem Rng.len(h:Rng l k to):((QM l k to).length:Int)=to-k:=by
 have:=h.h0;have:=h.h1;have:=h.h2
 rw[QM,List.length_drop,length_take];omega
theorem Rng.ne(h:Rng l k to):QM l k to≠[]:=fun e=>by
 have h1:=h.len;have:=h.h1
 rw[e]at h1;simp at h1;omega
theorem Rng.at_(h:Rng l k to){i:Int}(i0:0<=i)(i1:k+i<to):(QM l k to).getD i.toNat 0=l[(k+i).toNat]?.getD 0:=by
 have:=h.h0
 rw[QM,getD_eq_getElem?_getD,List.getElem?_drop,List.getElem?_take,if_pos (by omega)]
 congr 2
 omega
theorem Rng.head(h:Rng l k to):(QM l k to).getD 0 0=l[k.toNat]?.getD 0:=by
 have:=h.at_ (i:=0) (Int.le_refl _) (by have:=h.h1;omega)
 rw[Int.add_zero]at this;exact this
theorem Rng.val(h:Rng l k to)(hq:l[k.toNat]?.getD 0=34\/l[k.toNat]?.getD 0=39):(0<Q1E (QM l k to)/\QC (l.take to.toNat) k=k+Q1E (QM l k to))\/(Q1E (QM l k to)=0/\QC (l.take to.toNat) k=-1):=by
 have h0:=h.h0;have h1:=h.h1
 have hqd:Q1a (l.take to.toNat) k.toNat=Q2p (l.take to.toNat) (l[k.toNat]?.getD 0) (k.toNat+1):=by
  rw[Q1a,getD_eq_getElem?_getD,Q9v h0 h1]
 have hd:(QM l k to).drop 1=(l.take to.toNat).drop (k.toNat+1):=by rw[QM,List.drop_drop]
 rw[QC,hqd,QdY _ _ _ _ (Nat.le_refl _)];unfold Q1E;rw[h.head,if_pos hq,hd];cases((l.take to.toNat).drop (k.toNat+1)).findIdx? (· == l[k.toNat]?.getD 0)with
 |none=>exact .inr ⟨rfl,rfl⟩
 |some j =>
  refine .inl ⟨by show(0:Int)<(j:Int)+2;omega,?_⟩
  show((k.toNat+1+j+1:Nat):Int)=k+((j:Int)+2)
  omega
theorem Rng.noval(h:Rng l k to)(hq:¬(l[k.toNat]?.getD 0=34\/l[k.toNat]?.getD 0=39)):Q1E (QM l k to)=0:=by
 unfold Q1E;rw[h.head,if_neg hq]
def Q6F(l:List Int)(k to:Int):Prop:=(k+1=to/\l[k.toNat]?.getD 0=62)\/(k+2=to/\l[k.toNat]?.getD 0=47/\l[(k+1).toNat]?.getD 0=62)
theorem Rng.ends(h:Rng l k to):((((QM l k to).length:Int)=2/\Q6 (QM l k to) 0 [47,62]=true)\/(((QM l k to).length:Int)=1/\(QM l k to).getD 0 0=62))↔Q6F l k to:=by
 have hl:=h.len;unfold Q6F;rw[h.head];constructor
 ·rintro(⟨e1,e2⟩|⟨e1,e2⟩)
  ·have a0:=Q7b e2 (i:=0) (by decide)
   have a1:=Q7b e2 (i:=1) (by decide)
   have b0:=h.head;have b1:=h.at_ (i:=1) (by decide) (by omega)
   rw[getD_eq_getElem?_getD]at b0 b1;have a0:(QM l k to)[0]?=some 47:=a0;have a1:(QM l k to)[1]?=some 62:=a1;rw[a0]at b0;rw[show(1:Int).toNat=1 from rfl,a1]at b1;exact .inr ⟨by omega,b0.symm,b1.symm⟩
  ·exact .inl ⟨by omega,e2⟩
 ·rintro(⟨e1,e2⟩|⟨e1,e2,e3⟩)
  ·exact .inr ⟨by omega,e2⟩
  ·refine .inl ⟨by omega,?_⟩
   have b0:=h.head;have b1:=h.at_ (i:=1) (by decide) (by omega)
   rw[e2]at b0;rw[e3]at b1;generalize QM l k to=r at *;match r,hl with
   | [x,y],_ =>
    have b0:x=47:=b0;have b1:y=62:=b1;subst b0 b1;rfl
   | [],hl=>simp at hl;omega
   | [_],hl=>simp at hl;omega
   |_::_::_::_,hl=>simp at hl;omega
end
def Q19(l:List Int)(f k to:Int):Int×Int:=Qt (QM l k to) (decide (k=f))
section
open Tryz
def Q4P(l:List Int)(k to:Int):Int×Int :=
 if 0<(Q2X Qd (QM l k to) 0:Int)then(3,(Q2X Qd (QM l k to) 0:Int))
 else if 0<(Qj (QM l k to) 0:Int)then(2,(Qj (QM l k to) 0:Int))
 else if(QM l k to).getD 0 0=61 then(4,1)
 else if 0<Q1E (QM l k to)then(5,Q1E (QM l k to))
 else if(((QM l k to).length:Int)=2/\Q6 (QM l k to) 0 [47,62]=true)\/(((QM l k to).length:Int)=1/\(QM l k to).getD 0 0=62)then(6,((QM l k to).length:Int))
 else(7,1)
theorem Rng.part_tail{l:List Int}{f k to:Int}(h:Rng l k to)(hF:¬(k=f/\l[k.toNat]?.getD 0=60)):Q19 l f k to=Q4P l k to:=by
 have n2:¬(decide (k=f)=true/\(QM l k to).getD 0 0=60):=fun e=>hF ⟨of_decide_eq_true e.1,by rw[<-h.head];exact e.2⟩
 have n1:¬(decide (k=f)=true/\Q6 (QM l k to) 0 [60,47]=true):=fun e=>n2 ⟨e.1,by rw[getD_eq_getElem?_getD];exact Q4H e.2⟩
 rw[Q19,Qt,if_neg n1,if_neg n2];rfl
def spN(l:List Int)(i to:Int):Nat:=((QM l i to).takeWhile Qd).length
theorem Qfh{l:List Int}{i to:Int}(h:Rng l i to):QM l i to=l[i.toNat]?.getD 0::QM l (i+1) to:=by
 have h0:=h.h0;have h1:=h.h1;have h2:=h.h2;have hl:i.toNat<(l.take to.toNat).length:=by rw[length_take];omega
 have e:(l.take to.toNat)[i.toNat]=l[i.toNat]?.getD 0:=by
  rw[<-Q9v h0 h1,List.getElem?_eq_getElem hl];rfl
 rw[QM,QM,List.drop_eq_getElem_cons hl,e,show(i+1).toNat=i.toNat+1 by omega]
theorem Qjs{l:List Int}{i to:Int}(h:Rng l i to)(hs:Qd (l[i.toNat]?.getD 0)=true):spN l i to=spN l (i+1) to+1:=by
 rw[spN,Qfh h,List.takeWhile_cons,if_pos hs,List.length_cons];rfl
theorem Q2c{l:List Int}{i to:Int}(h0:0<=i)(hs:i<to->Rng l i to/\Qd (l[i.toNat]?.getD 0)=false):spN l i to=0:=by
 by_cases h1:i<to
 ·obtain⟨h,hs⟩:=hs h1
  rw[spN,Qfh h,List.takeWhile_cons,if_neg (by rw[hs];decide)];rfl
 ·rw[spN,QM,List.drop_of_length_le (by rw[length_take];omega)];rfl
theorem Qoa(l:List Int)(k to:Int):(Q2X Qd (QM l k to) 0:Int)=(spN l k to:Nat):=by rw[Qlw,spN]
theorem Qku(l:List Int)(k to:Int):Qj (QM l k to) 0=Qj (l.take to.toNat) k.toNat:=by rw[QM,QiG]
theorem Qk1(l:List Int){to:Int}(h0:0<=to):std.cut (Q0 l) 0 to=Q0 (l.take to.toNat):=by
 show((Q0 l).drop (0:Int).toNat).take (to-0).toNat=_
 rw[show(0:Int).toNat=0 from rfl,drop_zero,Int.sub_zero];simp[Q0,List.map_take]
theorem Qnm{l:List Int}(h:Un l)(n:Nat):Un (l.take n):=fun x hx=>h x (List.mem_of_mem_take hx)
def Q2W(st:Bool)(sp:Int->Bool)(m F:Int):Nat->List AV->List Ob->Option (AV×List Ob):=fun f args _=>match f,args with
 |151,[.slc 1 _,.val (.int .i64 _),.val (.string _)]=>some (.val (.bool st),[])
 |187,[.val (.int .i32 r)]=>some (.val (.bool (sp r)),[])
 |188,[.slc 1 _,.val (.int .i64 _)]=>some (.val (.int .i64 m),[])
 |189,[.slc 1 _,.val (.int .i64 _),.val (.int .i64 _)]=>some (.val (.int .i64 F),[])
 |_,_=>none
def Q1V(q:Int×Int)(k:Int):AV:=.agg [.val (.int .i64 q.1),.val (.int .i64 k),.val (.int .i64 (k+q.2))]
theorem QlL(L:List Int)(k:Nat):Qj L k<=L.length-k:=by
 unfold Qj;split
 ·omega
 ·split
  ·have:=(List.takeWhile_sublist Qq (l:=L.drop k)).length_le
   rw[List.length_drop]at this;omega
  ·omega
def spI(l:List Int)(i to:Int):Int:=(spN l i to:Nat)
theorem QoN(l:List Int)(i to:Int):0<=spI l i to:=Int.natCast_nonneg _
theorem QeE{l:List Int}{i to:Int}(h:Rng l i to)(hs:Qd (l[i.toNat]?.getD 0)=true):spI l i to=spI l (i+1) to+1:=by
 rw[spI,Qjs h hs,spI];rfl
theorem Qfm{l:List Int}{i to:Int}(h0:0<=i)(hs:i<to->Rng l i to/\Qd (l[i.toNat]?.getD 0)=false):spI l i to=0:=by
 rw[spI,Q2c h0 hs];rfl
theorem Q3f{l:List Int}(hl:l.length<=1000000000)(hu:Un l){k to:Int}(h:Rng l k to):∃(n:Int) (T:List AV),T=Q0 (l.take to.toNat)/\Len l n/\0<=k/\k<to/\to<=l.length/\((l.take to.toNat).length:Int)=to /\
  BCall prog 151 [.slc 1 T,.val (.int .i64 k),.val (.string ⟨#[60,47]⟩)] [] (.val (.bool (Q6 (l.take to.toNat) k.toNat (⟨#[60,47]⟩:ByteArray).data.toList))) [] /\
  BCall prog 188 [.slc 1 T,.val (.int .i64 k)] [] (.val (.int .i64 (Qj (l.take to.toNat) k.toNat))) []/\Qj (l.take to.toNat) k.toNat<=(l.take to.toNat).length-k.toNat /\
  BCall prog 189 [.slc 1 (Q0 l),.val (.int .i64 k),.val (.int .i64 to)] [] (.val (.int .i64 (QC (l.take to.toNat) k))) []/\std.cut (Q0 l) 0 to=T /\
  Q6 (QM l k to) 0 [60,47]=Q6 (l.take to.toNat) k.toNat [60,47]/\Qj (QM l k to) 0=Qj (l.take to.toNat) k.toNat/\(Q2X Qd (QM l k to) 0:Int)=(spN l k to:Nat)/\(QM l k to).getD 0 0=l[k.toNat]?.getD 0 /\
  (Q0 l)[k.toNat]?.getD .dead=.val (.int .i32 (l[k.toNat]?.getD 0))/\(Q0 l).length=l.length/\to<=n/\n<=1000000000:=by
 have h0:=h.h0;have h1:=h.h1;have h2:=h.h2;have qU:((l.take to.toNat).length:Int)=to:=by rw[length_take];omega
 exact⟨l.length,_,rfl,rfl,h0,h1,h2,qU,Qc (l.take to.toNat) (by omega) (Qnm hu _).i32 k h0 (by omega) ⟨#[60,47]⟩ (by decide),Q4G (l.take to.toNat) (by omega) k h0 (by omega),QlL _ _,Qie l hl k to h0 h1 h2,Qk1 l (to:=to) (by omega),by rw[QM,QdK],Qku l k to,Qoa l k to,h.head,QJ (l:=l) (i:=k) h0 (by omega),Qx l,h2,by omega⟩
theorem Q4y{l:List Int}{k:Int}(ak:(Q0 l)[k.toNat]?.getD .dead=.val (.int .i32 (l[k.toNat]?.getD 0))):BCall prog 187 [.val (.int .i32 (std.int (std.nth (std.cel (std.at_ (Q0 l) k)) 0)))] [] (.val (.bool (Qd (std.int (std.nth (std.cel (std.at_ (Q0 l) k)) 0))))) []:=Qag _
