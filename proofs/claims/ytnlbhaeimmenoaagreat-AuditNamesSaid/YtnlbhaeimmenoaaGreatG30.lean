/- Lemmas, conditions told -/
import Derived.Test.YtnlbhaeimmenoaaGreatG24
set_option maxRecDepth 99999
set_option maxHeartbeats 0
set_option linter.unusedSimpArgs false
set_option linter.unusedVariables false
namespace Go.Proofs.YtnlbhaeimmenoaaGreat
open Go.RowKit Go.Lib
section
open Tryz
theorem Qkm(l:List Int)(hl:l.length<=1000000000)(hu:Un l)(f k to:Int)(h:Rng l k to)(jL:¬l[k.toNat]?.getD 0=60)(j8:Qb (l[k.toNat]?.getD 0)=false)(jF:Qk (l.take to.toNat) k.toNat=0)(jy:¬l[k.toNat]?.getD 0=61)(qK:¬(l[k.toNat]?.getD 0=34\/l[k.toNat]?.getD 0=39))(j1:k+2=to)(vI:l[k.toNat]?.getD 0=47)(j0:l[(k+1).toNat]?.getD 0=62):BCall prog 88 [.slc 1 (Q0 l),.val (.int .i64 f),.val (.int .i64 k),.val (.int .i64 to)] [] (Q1T (Q12 l f k to) k) []:=by
 obtain⟨n,T,jY,hn,h0,h1,h2,qV,cS,cL,jJ,cQ,cc,jG,je,jp,qC,ak,jr,qZ,qG⟩:=Q3g hl hu h;have hF:¬(k=f/\l[k.toNat]?.getD 0=60):=fun e=>jL e.2
 have jZ:spN l k to=0:=Q27 h0 (fun _=>⟨h,j8⟩)
 have n3:¬(0<(Q2L Qb (QK l k to) 0:Int)):=by rw[jp,jZ];decide
 obtain⟨m,hm⟩:=exq ((Qk (l.take to.toNat) k.toNat:Nat):Int);have qU:0<=m:=by omega
 have vZ:k+m<=to:=by omega
 rw[<-hm]at cL;have n4:¬(0<(Qk (QK l k to) 0:Int)):=by rw[je,jF];decide
 have vk:m=0:=by rw[hm,jF];rfl
 have qq:¬0<m:=by omega
 have n5:¬((QK l k to).getD 0 0=61):=by rw[qC];exact jy
 obtain⟨F,qc⟩:=exq (Qu (l.take to.toNat) k:Int);rw[<-qc]at cQ;have n6:¬(0<Q1t (QK l k to)):=by rw[h.noval qK];decide
 have q34:¬l[k.toNat]?.getD 0=34:=fun e=>qK (.inl e)
 have q39:¬l[k.toNat]?.getD 0=39:=fun e=>qK (.inr e)
 have ak1:=QN (l:=l) (i:=k+1) (by omega) (by omega)
 have jT:¬k+1=to:=by omega
 have hE:Q6z l k to:=.inr ⟨j1,vI,j0⟩;have hP:Q12 l f k to=(6,to-k):=by rw[h.part_tail hF,Q4T,if_neg n3,if_neg n4,if_neg n5,if_neg n6,if_pos (h.ends.2 hE),h.len]
 obtain⟨kd,jD⟩:=exq (6:Int);obtain⟨tt,jE⟩:=exq (to:Int);have jx:Q1T (Q12 l f k to) k=.agg [.val (.int .i64 kd),.val (.int .i64 k),.val (.int .i64 tt)]:=by rw[hP,jD,jE];(show AV.agg [_,_,.val (.int .i64 (k+(to-k)))]=_;rw[show k+(to-k)=to by omega])
 rw[jx];clear hP jx;have qF:Qb 47=false:=rfl;clear jG jp qC jJ cS jY qV hF je n3 n4 n5 n6 hm jF jZ vk qc hE;refine fnN (Q6m true Qb m F) func88 rfl fun _ _=>?_
 with_reducible refine cv2 (Q0 l) Qb ?_
 have jC:=QY hn;have cSp2:=Q4n ak;have cL2:BCall prog 121 [.slc 1 (std.cut (Q0 l) 0 to),.val (.int .i64 k)] [] (.val (.int .i64 m)) []:=by rw[cc];exact cL
 with_reducible repeat' first|refine aU (zA jC <| zA ak <| zA h0 <| zA h1 <| zA qZ <| zA jL <| zA j8 <| zA qq <| zA vZ <| zA jy <| zA q34 <| zA q39 <| zA jT <| zA j1 <| zA vI <| zA ak1 <| zA j0 qF) ?_|refine And.intro ?_ ?_|intro hb
 all_goals first
  |exact cSp2
  |exact cL2
  |exact cQ
  |exact .pure rfl ⟨.inl (by rw[jD]),.inl rfl,.inl (by first|(rw[jE];done)|(rw[jE];rfl)),trivial⟩
theorem Qi9(l:List Int)(hl:l.length<=1000000000)(hu:Un l)(f k to:Int)(h:Rng l k to)(jL:¬l[k.toNat]?.getD 0=60)(j8:Qb (l[k.toNat]?.getD 0)=false)(jF:Qk (l.take to.toNat) k.toNat=0)(jy:¬l[k.toNat]?.getD 0=61)(qK:¬(l[k.toNat]?.getD 0=34\/l[k.toNat]?.getD 0=39))(j1:k+2=to)(vI:l[k.toNat]?.getD 0=47)(j0:¬l[(k+1).toNat]?.getD 0=62):BCall prog 88 [.slc 1 (Q0 l),.val (.int .i64 f),.val (.int .i64 k),.val (.int .i64 to)] [] (Q1T (Q12 l f k to) k) []:=by
 obtain⟨n,T,jY,hn,h0,h1,h2,qV,cS,cL,jJ,cQ,cc,jG,je,jp,qC,ak,jr,qZ,qG⟩:=Q3g hl hu h;have hF:¬(k=f/\l[k.toNat]?.getD 0=60):=fun e=>jL e.2
 have jZ:spN l k to=0:=Q27 h0 (fun _=>⟨h,j8⟩)
 have n3:¬(0<(Q2L Qb (QK l k to) 0:Int)):=by rw[jp,jZ];decide
 obtain⟨m,hm⟩:=exq ((Qk (l.take to.toNat) k.toNat:Nat):Int);have qU:0<=m:=by omega
 have vZ:k+m<=to:=by omega
 rw[<-hm]at cL;have n4:¬(0<(Qk (QK l k to) 0:Int)):=by rw[je,jF];decide
 have vk:m=0:=by rw[hm,jF];rfl
 have qq:¬0<m:=by omega
 have n5:¬((QK l k to).getD 0 0=61):=by rw[qC];exact jy
 obtain⟨F,qc⟩:=exq (Qu (l.take to.toNat) k:Int);rw[<-qc]at cQ;have n6:¬(0<Q1t (QK l k to)):=by rw[h.noval qK];decide
 have q34:¬l[k.toNat]?.getD 0=34:=fun e=>qK (.inl e)
 have q39:¬l[k.toNat]?.getD 0=39:=fun e=>qK (.inr e)
 have ak1:=QN (l:=l) (i:=k+1) (by omega) (by omega)
 have jT:¬k+1=to:=by omega
 have hE:¬Q6z l k to:=by
  rintro(⟨e,_⟩|⟨_,_,e⟩)
  ·exact jT e
  ·exact j0 e
 have hP:Q12 l f k to=(7,1):=by rw[h.part_tail hF,Q4T,if_neg n3,if_neg n4,if_neg n5,if_neg n6,if_neg (fun e=>hE (h.ends.1 e))]
 obtain⟨kd,jD⟩:=exq (7:Int);obtain⟨tt,jE⟩:=exq (k+1:Int);have jx:Q1T (Q12 l f k to) k=.agg [.val (.int .i64 kd),.val (.int .i64 k),.val (.int .i64 tt)]:=by rw[hP,jD,jE];rfl
 rw[jx];clear hP jx;have qF:Qb 47=false:=rfl;clear jG jp qC jJ cS jY qV hF je n3 n4 n5 n6 hm jF jZ vk qc hE;refine fnN (Q6m true Qb m F) func88 rfl fun _ _=>?_
 with_reducible refine cv2 (Q0 l) Qb ?_
 have jC:=QY hn;have cSp2:=Q4n ak;have cL2:BCall prog 121 [.slc 1 (std.cut (Q0 l) 0 to),.val (.int .i64 k)] [] (.val (.int .i64 m)) []:=by rw[cc];exact cL
 with_reducible repeat' first|refine aU (zA jC <| zA ak <| zA h0 <| zA h1 <| zA qZ <| zA jL <| zA j8 <| zA qq <| zA vZ <| zA jy <| zA q34 <| zA q39 <| zA jT <| zA j1 <| zA vI <| zA ak1 <| zA j0 qF) ?_|refine And.intro ?_ ?_|intro hb
 all_goals first
  |exact cSp2
  |exact cL2
  |exact cQ
  |exact .pure rfl ⟨.inl (by rw[jD]),.inl rfl,.inl (by first|(rw[jE];done)|(rw[jE];rfl)),trivial⟩
