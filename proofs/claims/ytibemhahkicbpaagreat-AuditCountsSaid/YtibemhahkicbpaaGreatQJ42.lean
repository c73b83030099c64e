/- Lemmas; conditions told. -/
import Derived.Test.YtibemhahkicbpaaGreatQJ36
set_option maxRecDepth 99999
set_option maxHeartbeats 0
set_option linter.unusedSimpArgs false
set_option linter.unusedVariables false
namespace Go.Proofs.YtibemhahkicbpaaGreat
open Go.RowKit Go.Lib
section
open Tryz
theorem Qjt(l:List Int)(hl:l.length<=1000000000)(hu:Un l)(f k to:Int)(h:Rng l k to)(jc:Qd (l[k.toNat]?.getD 0)=false)(jF:Qj (l.take to.toNat) k.toNat=0)(jz:¬l[k.toNat]?.getD 0=61)(gP:¬k=f)(jQ:l[k.toNat]?.getD 0=60):BCall prog 147 [.slc 1 (Q0 l),.val (.int .i64 f),.val (.int .i64 k),.val (.int .i64 to)] [] (Q1V (Q19 l f k to) k) []:=by
 obtain⟨n,T,j0,hn,h0,h1,h2,qU,cS,cL,jH,cQ,cc,jI,qF,jq,qG,ak,jt,qd,qO⟩:=Q3f hl hu h;have j1:spN l k to=0:=Q2c h0 (fun _=>⟨h,jc⟩)
 have n3:¬(0<(Q2X Qd (QM l k to) 0:Int)):=by rw[jq,j1];decide
 obtain⟨m,hm⟩:=exq ((Qj (l.take to.toNat) k.toNat:Nat):Int);have q5:0<=m:=by omega
 have vX:k+m<=to:=by omega
 rw[<-hm]at cL;have n4:¬(0<(Qj (QM l k to) 0:Int)):=by rw[qF,jF];decide
 have vk:m=0:=by rw[hm,jF];rfl
 have vE:¬0<m:=by omega
 have n5:¬((QM l k to).getD 0 0=61):=by rw[qG];exact jz
 obtain⟨F,qf⟩:=exq (QC (l.take to.toNat) k:Int);rw[<-qf]at cQ;have hF:¬(k=f/\l[k.toNat]?.getD 0=60):=fun e=>gP e.1
 have n6:¬(0<Q1E (QM l k to)):=by rw[h.noval (by rw[jQ];decide)];decide
 have hE:¬Q6F l k to:=by
  rintro(⟨_,e⟩|⟨_,e,_⟩)<;>rw[jQ]at e<;>cases e
 have hP:Q19 l f k to=(7,1):=by rw[h.part_tail hF,Q4P,if_neg n3,if_neg n4,if_neg n5,if_neg n6,if_neg (fun e=>hE (h.ends.1 e))]
 obtain⟨kd,jD⟩:=exq (7:Int);obtain⟨tt,jG⟩:=exq (k+1:Int);have jy:Q1V (Q19 l f k to) k=.agg [.val (.int .i64 kd),.val (.int .i64 k),.val (.int .i64 tt)]:=by rw[hP,jD,jG];rfl
 rw[jy];clear hP jy;have qJ:Qd 60=false:=rfl;clear jI jq qG jH cS j0 qU hF qF n3 n4 n5 n6 hm jF j1 vk qf hE;refine fnN (Q2W true Qd m F) func147 rfl fun _ _=>?_
 with_reducible refine cv2 (Q0 l) Qd ?_
 have jC:=Q15 hn;have cSp2:=Q4y ak;have cL2:BCall prog 188 [.slc 1 (std.cut (Q0 l) 0 to),.val (.int .i64 k)] [] (.val (.int .i64 m)) []:=by rw[cc];exact cL
 with_reducible repeat' first|refine aU (zA jC <| zA ak <| zA h0 <| zA h1 <| zA qd <| zA gP <| zA jc <| zA vE <| zA vX <| zA jz <| zA jQ qJ) ?_|refine zA ?_ ?_|intro hb
 all_goals first
  |exact cSp2
  |exact cL2
  |exact cQ
  |exact .pure rfl ⟨.inl (by rw[jD]),.inl rfl,.inl (by first|(rw[jG];done)|(rw[jG];rfl)),trivial⟩
theorem QkX(l:List Int)(hl:l.length<=1000000000)(hu:Un l)(f k to:Int)(h:Rng l k to)(jQ:¬l[k.toNat]?.getD 0=60)(jc:Qd (l[k.toNat]?.getD 0)=false)(jF:Qj (l.take to.toNat) k.toNat=0)(jz:¬l[k.toNat]?.getD 0=61)(qV:¬(l[k.toNat]?.getD 0=34\/l[k.toNat]?.getD 0=39))(jX:k+1=to)(j5:l[k.toNat]?.getD 0=62):BCall prog 147 [.slc 1 (Q0 l),.val (.int .i64 f),.val (.int .i64 k),.val (.int .i64 to)] [] (Q1V (Q19 l f k to) k) []:=by
 obtain⟨n,T,j0,hn,h0,h1,h2,qU,cS,cL,jH,cQ,cc,jI,qF,jq,qG,ak,jt,qd,qO⟩:=Q3f hl hu h;have hF:¬(k=f/\l[k.toNat]?.getD 0=60):=fun e=>jQ e.2
 have j1:spN l k to=0:=Q2c h0 (fun _=>⟨h,jc⟩)
 have n3:¬(0<(Q2X Qd (QM l k to) 0:Int)):=by rw[jq,j1];decide
 obtain⟨m,hm⟩:=exq ((Qj (l.take to.toNat) k.toNat:Nat):Int);have q5:0<=m:=by omega
 have vX:k+m<=to:=by omega
 rw[<-hm]at cL;have n4:¬(0<(Qj (QM l k to) 0:Int)):=by rw[qF,jF];decide
 have vk:m=0:=by rw[hm,jF];rfl
 have vE:¬0<m:=by omega
 have n5:¬((QM l k to).getD 0 0=61):=by rw[qG];exact jz
 obtain⟨F,qf⟩:=exq (QC (l.take to.toNat) k:Int);rw[<-qf]at cQ;have n6:¬(0<Q1E (QM l k to)):=by rw[h.noval qV];decide
 have q34:¬l[k.toNat]?.getD 0=34:=fun e=>qV (.inl e)
 have q39:¬l[k.toNat]?.getD 0=39:=fun e=>qV (.inr e)
 have hE:Q6F l k to:=.inl ⟨jX,j5⟩;have hP:Q19 l f k to=(6,to-k):=by rw[h.part_tail hF,Q4P,if_neg n3,if_neg n4,if_neg n5,if_neg n6,if_pos (h.ends.2 hE),h.len]
 obtain⟨kd,jD⟩:=exq (6:Int);obtain⟨tt,jG⟩:=exq (to:Int);have jy:Q1V (Q19 l f k to) k=.agg [.val (.int .i64 kd),.val (.int .i64 k),.val (.int .i64 tt)]:=by rw[hP,jD,jG];(show AV.agg [_,_,.val (.int .i64 (k+(to-k)))]=_;rw[show k+(to-k)=to by omega])
 rw[jy];clear hP jy;have qJ:Qd 62=false:=rfl;clear jI jq qG jH cS j0 qU hF qF n3 n4 n5 n6 hm jF j1 vk qf hE;refine fnN (Q2W true Qd m F) func147 rfl fun _ _=>?_
 with_reducible refine cv2 (Q0 l) Qd ?_
 have jC:=Q15 hn;have cSp2:=Q4y ak;have cL2:BCall prog 188 [.slc 1 (std.cut (Q0 l) 0 to),.val (.int .i64 k)] [] (.val (.int .i64 m)) []:=by rw[cc];exact cL
 with_reducible repeat' first|refine aU (zA jC <| zA ak <| zA h0 <| zA h1 <| zA qd <| zA jQ <| zA jc <| zA vE <| zA vX <| zA jz <| zA q34 <| zA q39 <| zA jX <| zA j5 qJ) ?_|refine zA ?_ ?_|intro hb
 all_goals first
  |exact cSp2
  |exact cL2
  |exact cQ
  |exact .pure rfl ⟨.inl (by rw[jD]),.inl rfl,.inl (by first|(rw[jG];done)|(rw[jG];rfl)),trivial⟩
