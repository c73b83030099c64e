/- Lemmas, conditions told -/
import Derived.Test.YtibemhahkicbpaaGreatK21
set_option maxRecDepth 99999
set_option maxHeartbeats 0
set_option linter.unusedSimpArgs false
set_option linter.unusedVariables false
namespace Go.Proofs.YtibemhahkicbpaaGreat
open Go.RowKit Go.Lib
section
open Tryz
theorem QlT(l:List Int)(hl:l.length<=1000000000)(hu:Un l)(f k to:Int)(h:Rng l k to)(jO:¬l[k.toNat]?.getD 0=60)(ja:Qd (l[k.toNat]?.getD 0)=false)(jG:Qj (l.take to.toNat) k.toNat=0)(qB:¬l[k.toNat]?.getD 0=61)(qx:¬(l[k.toNat]?.getD 0=34\/l[k.toNat]?.getD 0=39))(jf:k+2=to)(vO:l[k.toNat]?.getD 0=47)(j3:l[(k+1).toNat]?.getD 0=62):BCall prog 147 [.slc 1 (Q0 l),.val (.int .i64 f),.val (.int .i64 k),.val (.int .i64 to)] [] (Q1V (Q19 l f k to) k) []:=by
 obtain⟨n,T,jW,hn,h0,h1,h2,qR,cS,cL,jJ,cQ,cc,jH,qF,jo,jt,ak,jq,q8,qC⟩:=Q3f hl hu h;have hF:¬(k=f/\l[k.toNat]?.getD 0=60):=fun e=>jO e.2
 have jX:spN l k to=0:=Q2c h0 (fun _=>⟨h,ja⟩)
 have n3:¬(0<(Q2X Qd (QM l k to) 0:Int)):=by rw[jo,jX];decide
 obtain⟨m,hm⟩:=exq ((Qj (l.take to.toNat) k.toNat:Nat):Int);have qO:0<=m:=by omega
 have vi:k+m<=to:=by omega
 rw[<-hm]at cL;have n4:¬(0<(Qj (QM l k to) 0:Int)):=by rw[qF,jG];decide
 have vz:m=0:=by rw[hm,jG];rfl
 have vJ:¬0<m:=by omega
 have n5:¬((QM l k to).getD 0 0=61):=by rw[jt];exact qB
 obtain⟨F,qc⟩:=exq (QC (l.take to.toNat) k:Int);rw[<-qc]at cQ;have n6:¬(0<Q1E (QM l k to)):=by rw[h.noval qx];decide
 have q34:¬l[k.toNat]?.getD 0=34:=fun e=>qx (.inl e)
 have q39:¬l[k.toNat]?.getD 0=39:=fun e=>qx (.inr e)
 have ak1:=QJ (l:=l) (i:=k+1) (by omega) (by omega)
 have jU:¬k+1=to:=by omega
 have hE:Q6F l k to:=.inr ⟨jf,vO,j3⟩;have hP:Q19 l f k to=(6,to-k):=by rw[h.part_tail hF,Q4P,if_neg n3,if_neg n4,if_neg n5,if_neg n6,if_pos (h.ends.2 hE),h.len]
 obtain⟨kd,jD⟩:=exq (6:Int);obtain⟨tt,jE⟩:=exq (to:Int);have qA:Q1V (Q19 l f k to) k=.agg [.val (.int .i64 kd),.val (.int .i64 k),.val (.int .i64 tt)]:=by rw[hP,jD,jE];(show AV.agg [_,_,.val (.int .i64 (k+(to-k)))]=_;rw[show k+(to-k)=to by omega])
 rw[qA];clear hP qA;have qK:Qd 47=false:=rfl;clear jH jo jt jJ cS jW qR hF qF n3 n4 n5 n6 hm jG jX vz qc hE;refine fnN (Q2W true Qd m F) func147 rfl fun _ _=>?_
 with_reducible refine cv2 (Q0 l) Qd ?_
 have jB:=Q15 hn;have cSp2:=Q4y ak;have cL2:BCall prog 188 [.slc 1 (std.cut (Q0 l) 0 to),.val (.int .i64 k)] [] (.val (.int .i64 m)) []:=by rw[cc];exact cL
 with_reducible repeat' first|refine aU (zA jB <| zA ak <| zA h0 <| zA h1 <| zA q8 <| zA jO <| zA ja <| zA vJ <| zA vi <| zA qB <| zA q34 <| zA q39 <| zA jU <| zA jf <| zA vO <| zA ak1 <| zA j3 qK) ?_|refine zA ?_ ?_|intro hb
 all_goals first
  |exact cSp2
  |exact cL2
  |exact cQ
  |exact .pure rfl ⟨.inl (by rw[jD]),.inl rfl,.inl (by first|(rw[jE];done)|(rw[jE];rfl)),trivial⟩
theorem Qjj(l:List Int)(hl:l.length<=1000000000)(hu:Un l)(f k to:Int)(h:Rng l k to)(jO:¬l[k.toNat]?.getD 0=60)(ja:Qd (l[k.toNat]?.getD 0)=false)(jG:Qj (l.take to.toNat) k.toNat=0)(qB:¬l[k.toNat]?.getD 0=61)(qx:¬(l[k.toNat]?.getD 0=34\/l[k.toNat]?.getD 0=39))(jf:k+2=to)(vO:l[k.toNat]?.getD 0=47)(j3:¬l[(k+1).toNat]?.getD 0=62):BCall prog 147 [.slc 1 (Q0 l),.val (.int .i64 f),.val (.int .i64 k),.val (.int .i64 to)] [] (Q1V (Q19 l f k to) k) []:=by
 obtain⟨n,T,jW,hn,h0,h1,h2,qR,cS,cL,jJ,cQ,cc,jH,qF,jo,jt,ak,jq,q8,qC⟩:=Q3f hl hu h;have hF:¬(k=f/\l[k.toNat]?.getD 0=60):=fun e=>jO e.2
 have jX:spN l k to=0:=Q2c h0 (fun _=>⟨h,ja⟩)
 have n3:¬(0<(Q2X Qd (QM l k to) 0:Int)):=by rw[jo,jX];decide
 obtain⟨m,hm⟩:=exq ((Qj (l.take to.toNat) k.toNat:Nat):Int);have qO:0<=m:=by omega
 have vi:k+m<=to:=by omega
 rw[<-hm]at cL;have n4:¬(0<(Qj (QM l k to) 0:Int)):=by rw[qF,jG];decide
 have vz:m=0:=by rw[hm,jG];rfl
 have vJ:¬0<m:=by omega
 have n5:¬((QM l k to).getD 0 0=61):=by rw[jt];exact qB
 obtain⟨F,qc⟩:=exq (QC (l.take to.toNat) k:Int);rw[<-qc]at cQ;have n6:¬(0<Q1E (QM l k to)):=by rw[h.noval qx];decide
 have q34:¬l[k.toNat]?.getD 0=34:=fun e=>qx (.inl e)
 have q39:¬l[k.toNat]?.getD 0=39:=fun e=>qx (.inr e)
 have ak1:=QJ (l:=l) (i:=k+1) (by omega) (by omega)
 have jU:¬k+1=to:=by omega
 have hE:¬Q6F l k to:=by
  rintro(⟨e,_⟩|⟨_,_,e⟩)
  ·exact jU e
  ·exact j3 e
 have hP:Q19 l f k to=(7,1):=by rw[h.part_tail hF,Q4P,if_neg n3,if_neg n4,if_neg n5,if_neg n6,if_neg (fun e=>hE (h.ends.1 e))]
 obtain⟨kd,jD⟩:=exq (7:Int);obtain⟨tt,jE⟩:=exq (k+1:Int);have qA:Q1V (Q19 l f k to) k=.agg [.val (.int .i64 kd),.val (.int .i64 k),.val (.int .i64 tt)]:=by rw[hP,jD,jE];rfl
 rw[qA];clear hP qA;have qK:Qd 47=false:=rfl;clear jH jo jt jJ cS jW qR hF qF n3 n4 n5 n6 hm jG jX vz qc hE;refine fnN (Q2W true Qd m F) func147 rfl fun _ _=>?_
 with_reducible refine cv2 (Q0 l) Qd ?_
 have jB:=Q15 hn;have cSp2:=Q4y ak;have cL2:BCall prog 188 [.slc 1 (std.cut (Q0 l) 0 to),.val (.int .i64 k)] [] (.val (.int .i64 m)) []:=by rw[cc];exact cL
 with_reducible repeat' first|refine aU (zA jB <| zA ak <| zA h0 <| zA h1 <| zA q8 <| zA jO <| zA ja <| zA vJ <| zA vi <| zA qB <| zA q34 <| zA q39 <| zA jU <| zA jf <| zA vO <| zA ak1 <| zA j3 qK) ?_|refine zA ?_ ?_|intro hb
 all_goals first
  |exact cSp2
  |exact cL2
  |exact cQ
  |exact .pure rfl ⟨.inl (by rw[jD]),.inl rfl,.inl (by first|(rw[jE];done)|(rw[jE];rfl)),trivial⟩
