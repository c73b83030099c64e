/- Lemmas, conditions told -/
import Derived.Test.YtibemhahkicbpaaGreatK21
set_option maxRecDepth 99999
set_option maxHeartbeats 0
set_option linter.unusedSimpArgs false
set_option linter.unusedVariables false
namespace Go.Proofs.YtibemhahkicbpaaGreat
open Go.RowKit Go.Lib
section
open Tryz
theorem QfK(l:List Int)(hl:l.length<=1000000000)(hu:Un l)(f k to:Int)(h:Rng l k to)(jO:¬l[k.toNat]?.getD 0=60)(ja:Qd (l[k.toNat]?.getD 0)=false)(jG:0<Qj (l.take to.toNat) k.toNat):BCall prog 147 [.slc 1 (Q0 l),.val (.int .i64 f),.val (.int .i64 k),.val (.int .i64 to)] [] (Q1V (Q19 l f k to) k) []:=by
 obtain⟨n,T,jW,hn,h0,h1,h2,qR,cS,cL,jJ,cQ,cc,jH,qF,jo,jt,ak,jq,q8,qC⟩:=Q3f hl hu h;have hF:¬(k=f/\l[k.toNat]?.getD 0=60):=fun e=>jO e.2
 have jX:spN l k to=0:=Q2c h0 (fun _=>⟨h,ja⟩)
 have n3:¬(0<(Q2X Qd (QM l k to) 0:Int)):=by rw[jo,jX];decide
 obtain⟨m,hm⟩:=exq ((Qj (l.take to.toNat) k.toNat:Nat):Int);have qO:0<=m:=by omega
 have vi:k+m<=to:=by omega
 rw[<-hm]at cL;have hP:Q19 l f k to=(2,m):=by rw[h.part_tail hF,Q4P,if_neg n3,qF,<-hm,if_pos (by omega)]
 have hmp:0<m:=by omega
 obtain⟨kd,jD⟩:=exq (2:Int);obtain⟨tt,jE⟩:=exq (k+m:Int);have qA:Q1V (Q19 l f k to) k=.agg [.val (.int .i64 kd),.val (.int .i64 k),.val (.int .i64 tt)]:=by rw[hP,jD,jE];rfl
 rw[qA];clear hP qA;clear jH jo jt jJ cS jW qR hF qF n3 hm jG cQ jX;refine fnN (Q2W true Qd m 0) func147 rfl fun _ _=>?_
 with_reducible refine cv2 (Q0 l) Qd ?_
 have jB:=Q15 hn;have cSp2:=Q4y ak;have cL2:BCall prog 188 [.slc 1 (std.cut (Q0 l) 0 to),.val (.int .i64 k)] [] (.val (.int .i64 m)) []:=by rw[cc];exact cL
 with_reducible repeat' first|refine aU (zA jB <| zA ak <| zA h0 <| zA h1 <| zA q8 <| zA jO <| zA ja <| zA hmp vi) ?_|refine zA ?_ ?_|intro hb
 all_goals first
  |exact cSp2
  |exact cL2
  |exact .pure rfl ⟨.inl (by rw[jD]),.inl rfl,.inl (by first|(rw[jE];done)|(rw[jE];rfl)),trivial⟩
theorem QlQ(l:List Int)(hl:l.length<=1000000000)(hu:Un l)(f k to:Int)(h:Rng l k to)(jO:¬l[k.toNat]?.getD 0=60)(ja:Qd (l[k.toNat]?.getD 0)=false)(jG:Qj (l.take to.toNat) k.toNat=0)(qB:l[k.toNat]?.getD 0=61):BCall prog 147 [.slc 1 (Q0 l),.val (.int .i64 f),.val (.int .i64 k),.val (.int .i64 to)] [] (Q1V (Q19 l f k to) k) []:=by
 obtain⟨n,T,jW,hn,h0,h1,h2,qR,cS,cL,jJ,cQ,cc,jH,qF,jo,jt,ak,jq,q8,qC⟩:=Q3f hl hu h;have hF:¬(k=f/\l[k.toNat]?.getD 0=60):=fun e=>jO e.2
 have jX:spN l k to=0:=Q2c h0 (fun _=>⟨h,ja⟩)
 have n3:¬(0<(Q2X Qd (QM l k to) 0:Int)):=by rw[jo,jX];decide
 obtain⟨m,hm⟩:=exq ((Qj (l.take to.toNat) k.toNat:Nat):Int);have qO:0<=m:=by omega
 have vi:k+m<=to:=by omega
 rw[<-hm]at cL;have n4:¬(0<(Qj (QM l k to) 0:Int)):=by rw[qF,jG];decide
 have vz:m=0:=by rw[hm,jG];rfl
 have vJ:¬0<m:=by omega
 have hP:Q19 l f k to=(4,1):=by rw[h.part_tail hF,Q4P,if_neg n3,if_neg n4,jt,if_pos qB]
 obtain⟨kd,jD⟩:=exq (4:Int);obtain⟨tt,jE⟩:=exq (k+1:Int);have qA:Q1V (Q19 l f k to) k=.agg [.val (.int .i64 kd),.val (.int .i64 k),.val (.int .i64 tt)]:=by rw[hP,jD,jE];rfl
 rw[qA];clear hP qA;have qK:Qd 61=false:=rfl;clear jH jo jt jJ cS jW qR hF qF n3 n4 hm jG cQ jX vz;refine fnN (Q2W true Qd m 0) func147 rfl fun _ _=>?_
 with_reducible refine cv2 (Q0 l) Qd ?_
 have jB:=Q15 hn;have cSp2:=Q4y ak;have cL2:BCall prog 188 [.slc 1 (std.cut (Q0 l) 0 to),.val (.int .i64 k)] [] (.val (.int .i64 m)) []:=by rw[cc];exact cL
 with_reducible repeat' first|refine aU (zA jB <| zA ak <| zA h0 <| zA h1 <| zA q8 <| zA jO <| zA ja <| zA vJ <| zA vi <| zA qB qK) ?_|refine zA ?_ ?_|intro hb
 all_goals first
  |exact cSp2
  |exact cL2
  |exact .pure rfl ⟨.inl (by rw[jD]),.inl rfl,.inl (by first|(rw[jE];done)|(rw[jE];rfl)),trivial⟩
