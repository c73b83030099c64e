/- Lemmas, conditions told -/
import Derived.Test.YtlaegncokadkkaaGreatG19
set_option maxRecDepth 99999
set_option maxHeartbeats 0
set_option linter.unusedSimpArgs false
set_option linter.unusedVariables false
namespace Go.Proofs.YtlaegncokadkkaaGreat
open Go.RowKit Go.Lib
section
open Tryz
theorem QiY(l:List Int)(hl:l.length<=1000000000)(hu:Un l)(f k to:Int)(h:Rng l k to)(jO:¬l[k.toNat]?.getD 0=60)(jh:Q8 (l[k.toNat]?.getD 0)=false)(jD:Ql (l.take to.toNat) k.toNat=0)(jq:¬l[k.toNat]?.getD 0=61)(ql:¬(l[k.toNat]?.getD 0=34\/l[k.toNat]?.getD 0=39))(qC:k+2=to)(vT:l[k.toNat]?.getD 0=47)(jv:l[(k+1).toNat]?.getD 0=62):BCall prog 54 [.slc 1 (Q0 l),.val (.int .i64 f),.val (.int .i64 k),.val (.int .i64 to)] [] (Q1k (QG l f k to) k) []:=by
 obtain⟨n,T,qk,hn,h0,h1,h2,qK,cS,cL,jF,cQ,cc,jI,jt,jk,ju,ak,qt,qM,vP⟩:=Q2H hl hu h;have hF:¬(k=f/\l[k.toNat]?.getD 0=60):=fun e=>jO e.2
 have jS:spN l k to=0:=Q1C h0 (fun _=>⟨h,jh⟩)
 have n3:¬(0<(Q1R Q8 (Qu l k to) 0:Int)):=by rw[jk,jS];decide
 obtain⟨m,hm⟩:=exq ((Ql (l.take to.toNat) k.toNat:Nat):Int);have qF:0<=m:=by omega
 have vE:k+m<=to:=by omega
 rw[<-hm]at cL;have n4:¬(0<(Ql (Qu l k to) 0:Int)):=by rw[jt,jD];decide
 have vN:m=0:=by rw[hm,jD];rfl
 have qw:¬0<m:=by omega
 have n5:¬((Qu l k to).getD 0 0=61):=by rw[ju];exact jq
 obtain⟨F,qQ⟩:=exq (Q1u (l.take to.toNat) k:Int);rw[<-qQ]at cQ;have n6:¬(0<Q15 (Qu l k to)):=by rw[h.noval ql];decide
 have q34:¬l[k.toNat]?.getD 0=34:=fun e=>ql (.inl e)
 have q39:¬l[k.toNat]?.getD 0=39:=fun e=>ql (.inr e)
 have ak1:=Q25 (l:=l) (i:=k+1) (by omega) (by omega)
 have jR:¬k+1=to:=by omega
 have hE:Q5I l k to:=.inr ⟨qC,vT,jv⟩;have hP:QG l f k to=(6,to-k):=by rw[h.part_tail hF,Q4l,if_neg n3,if_neg n4,if_neg n5,if_neg n6,if_pos (h.ends.2 hE),h.len]
 obtain⟨kd,ja⟩:=exq (6:Int);obtain⟨tt,j3⟩:=exq (to:Int);have jp:Q1k (QG l f k to) k=.agg [.val (.int .i64 kd),.val (.int .i64 k),.val (.int .i64 tt)]:=by rw[hP,ja,j3];(show AV.agg [_,_,.val (.int .i64 (k+(to-k)))]=_;rw[show k+(to-k)=to by omega])
 rw[jp];clear hP jp;have jx:Q8 47=false:=rfl;clear jI jk ju jF cS qk qK hF jt n3 n4 n5 n6 hm jD jS vN qQ hE;refine fnN (Q60 true Q8 m F) func54 rfl fun _ _=>?_
 with_reducible refine cv2 (Q0 l) Q8 ?_
 have jJ:=Q4r hn;have cSp2:=Q3Q ak;have cL2:BCall prog 87 [.slc 1 (std.cut (Q0 l) 0 to),.val (.int .i64 k)] [] (.val (.int .i64 m)) []:=by rw[cc];exact cL
 with_reducible repeat' first|refine aU (zA jJ <| zA ak <| zA h0 <| zA h1 <| zA qM <| zA jO <| zA jh <| zA qw <| zA vE <| zA jq <| zA q34 <| zA q39 <| zA jR <| zA qC <| zA vT <| zA ak1 <| zA jv jx) ?_|refine And.intro ?_ ?_|intro hb
 all_goals first
  |exact cSp2
  |exact cL2
  |exact cQ
  |exact .pure rfl ⟨.inl (by rw[ja]),.inl rfl,.inl (by first|(rw[j3];done)|(rw[j3];rfl)),trivial⟩
theorem QgT(l:List Int)(hl:l.length<=1000000000)(hu:Un l)(f k to:Int)(h:Rng l k to)(jO:¬l[k.toNat]?.getD 0=60)(jh:Q8 (l[k.toNat]?.getD 0)=false)(jD:Ql (l.take to.toNat) k.toNat=0)(jq:¬l[k.toNat]?.getD 0=61)(ql:¬(l[k.toNat]?.getD 0=34\/l[k.toNat]?.getD 0=39))(qC:k+2=to)(vT:l[k.toNat]?.getD 0=47)(jv:¬l[(k+1).toNat]?.getD 0=62):BCall prog 54 [.slc 1 (Q0 l),.val (.int .i64 f),.val (.int .i64 k),.val (.int .i64 to)] [] (Q1k (QG l f k to) k) []:=by
 obtain⟨n,T,qk,hn,h0,h1,h2,qK,cS,cL,jF,cQ,cc,jI,jt,jk,ju,ak,qt,qM,vP⟩:=Q2H hl hu h;have hF:¬(k=f/\l[k.toNat]?.getD 0=60):=fun e=>jO e.2
 have jS:spN l k to=0:=Q1C h0 (fun _=>⟨h,jh⟩)
 have n3:¬(0<(Q1R Q8 (Qu l k to) 0:Int)):=by rw[jk,jS];decide
 obtain⟨m,hm⟩:=exq ((Ql (l.take to.toNat) k.toNat:Nat):Int);have qF:0<=m:=by omega
 have vE:k+m<=to:=by omega
 rw[<-hm]at cL;have n4:¬(0<(Ql (Qu l k to) 0:Int)):=by rw[jt,jD];decide
 have vN:m=0:=by rw[hm,jD];rfl
 have qw:¬0<m:=by omega
 have n5:¬((Qu l k to).getD 0 0=61):=by rw[ju];exact jq
 obtain⟨F,qQ⟩:=exq (Q1u (l.take to.toNat) k:Int);rw[<-qQ]at cQ;have n6:¬(0<Q15 (Qu l k to)):=by rw[h.noval ql];decide
 have q34:¬l[k.toNat]?.getD 0=34:=fun e=>ql (.inl e)
 have q39:¬l[k.toNat]?.getD 0=39:=fun e=>ql (.inr e)
 have ak1:=Q25 (l:=l) (i:=k+1) (by omega) (by omega)
 have jR:¬k+1=to:=by omega
 have hE:¬Q5I l k to:=by
  rintro(⟨e,_⟩|⟨_,_,e⟩)
  ·exact jR e
  ·exact jv e
 have hP:QG l f k to=(7,1):=by rw[h.part_tail hF,Q4l,if_neg n3,if_neg n4,if_neg n5,if_neg n6,if_neg (fun e=>hE (h.ends.1 e))]
 obtain⟨kd,ja⟩:=exq (7:Int);obtain⟨tt,j3⟩:=exq (k+1:Int);have jp:Q1k (QG l f k to) k=.agg [.val (.int .i64 kd),.val (.int .i64 k),.val (.int .i64 tt)]:=by rw[hP,ja,j3];rfl
 rw[jp];clear hP jp;have jx:Q8 47=false:=rfl;clear jI jk ju jF cS qk qK hF jt n3 n4 n5 n6 hm jD jS vN qQ hE;refine fnN (Q60 true Q8 m F) func54 rfl fun _ _=>?_
 with_reducible refine cv2 (Q0 l) Q8 ?_
 have jJ:=Q4r hn;have cSp2:=Q3Q ak;have cL2:BCall prog 87 [.slc 1 (std.cut (Q0 l) 0 to),.val (.int .i64 k)] [] (.val (.int .i64 m)) []:=by rw[cc];exact cL
 with_reducible repeat' first|refine aU (zA jJ <| zA ak <| zA h0 <| zA h1 <| zA qM <| zA jO <| zA jh <| zA qw <| zA vE <| zA jq <| zA q34 <| zA q39 <| zA jR <| zA qC <| zA vT <| zA ak1 <| zA jv jx) ?_|refine And.intro ?_ ?_|intro hb
 all_goals first
  |exact cSp2
  |exact cL2
  |exact cQ
  |exact .pure rfl ⟨.inl (by rw[ja]),.inl rfl,.inl (by first|(rw[j3];done)|(rw[j3];rfl)),trivial⟩
