/- Lemmas, conditions told -/
import Derived.Test.YtibemhahkicbpaaGreatL23
set_option maxRecDepth 99999
set_option maxHeartbeats 0
set_option linter.unusedSimpArgs false
set_option linter.unusedVariables false
namespace Go.Proofs.YtibemhahkicbpaaGreat
open Go.RowKit Go.Lib
section
open Tryz
theorem Qe2(l:List Int)(hl:l.length<=1000000000)(hu:Un l)(f k to:Int)(h:Rng l k to)(jO:¬l[k.toNat]?.getD 0=60)(j9:Qd (l[k.toNat]?.getD 0)=false)(jF:Qj (l.take to.toNat) k.toNat=0)(jx:¬l[k.toNat]?.getD 0=61)(hq:l[k.toNat]?.getD 0=34)(hv:0<Q1E (QM l k to)):BCall prog 147 [.slc 1 (Q0 l),.val (.int .i64 f),.val (.int .i64 k),.val (.int .i64 to)] [] (Q1V (Q19 l f k to) k) []:=by
 obtain⟨n,T,jY,hn,h0,h1,h2,q4,cS,cL,jJ,cQ,cc,jI,qG,jo,qH,ak,jt,q7,qD⟩:=Q3f hl hu h;have hF:¬(k=f/\l[k.toNat]?.getD 0=60):=fun e=>jO e.2
 have jZ:spN l k to=0:=Q2c h0 (fun _=>⟨h,j9⟩)
 have n3:¬(0<(Q2X Qd (QM l k to) 0:Int)):=by rw[jo,jZ];decide
 obtain⟨m,hm⟩:=exq ((Qj (l.take to.toNat) k.toNat:Nat):Int);have qA:0<=m:=by omega
 have vg:k+m<=to:=by omega
 rw[<-hm]at cL;have n4:¬(0<(Qj (QM l k to) 0:Int)):=by rw[qG,jF];decide
 have vz:m=0:=by rw[hm,jF];rfl
 have vH:¬0<m:=by omega
 have n5:¬((QM l k to).getD 0 0=61):=by rw[qH];exact jx
 obtain⟨F,q9⟩:=exq (QC (l.take to.toNat) k:Int);rw[<-q9]at cQ
 have xl:F=k+Q1E (QM l k to):=by
  rcases h.val (.inl hq)with ⟨_,e⟩|⟨e,_⟩
  ·rw[q9];exact e
  ·omega
 have hP:Q19 l f k to=(5,Q1E (QM l k to)):=by rw[h.part_tail hF,Q4P,if_neg n3,if_neg n4,if_neg n5,if_pos hv]
 have zY:0<F:=by omega
 obtain⟨kd,jD⟩:=exq (5:Int);obtain⟨tt,jG⟩:=exq (F:Int);have jw:Q1V (Q19 l f k to) k=.agg [.val (.int .i64 kd),.val (.int .i64 k),.val (.int .i64 tt)]:=by rw[hP,jD,jG];rw[xl];rfl
 rw[jw];clear hP jw;have qK:Qd 34=false:=rfl;clear jI jo qH jJ cS jY q4 hF qG n3 n4 n5 hm jF jZ vz q9 hv xl;refine fnN (Q2W true Qd m F) func147 rfl fun _ _=>?_
 with_reducible refine cv2 (Q0 l) Qd ?_
 have jB:=Q15 hn;have cSp2:=Q4y ak;have cL2:BCall prog 188 [.slc 1 (std.cut (Q0 l) 0 to),.val (.int .i64 k)] [] (.val (.int .i64 m)) []:=by rw[cc];exact cL
 with_reducible repeat' first|refine aU (zA jB <| zA ak <| zA h0 <| zA h1 <| zA q7 <| zA jO <| zA j9 <| zA vH <| zA vg <| zA jx <| zA hq <| zA zY qK) ?_|refine zA ?_ ?_|intro hb
 all_goals first
  |exact cSp2
  |exact cL2
  |exact cQ
  |exact .pure rfl ⟨.inl (by rw[jD]),.inl rfl,.inl (by first|(rw[jG];done)|(rw[jG];rfl)),trivial⟩
theorem Qfq(l:List Int)(hl:l.length<=1000000000)(hu:Un l)(f k to:Int)(h:Rng l k to)(jO:¬l[k.toNat]?.getD 0=60)(j9:Qd (l[k.toNat]?.getD 0)=false)(jF:Qj (l.take to.toNat) k.toNat=0)(jx:¬l[k.toNat]?.getD 0=61)(hq:l[k.toNat]?.getD 0=39)(hv:0<Q1E (QM l k to)):BCall prog 147 [.slc 1 (Q0 l),.val (.int .i64 f),.val (.int .i64 k),.val (.int .i64 to)] [] (Q1V (Q19 l f k to) k) []:=by
 obtain⟨n,T,jY,hn,h0,h1,h2,q4,cS,cL,jJ,cQ,cc,jI,qG,jo,qH,ak,jt,q7,qD⟩:=Q3f hl hu h;have hF:¬(k=f/\l[k.toNat]?.getD 0=60):=fun e=>jO e.2
 have jZ:spN l k to=0:=Q2c h0 (fun _=>⟨h,j9⟩)
 have n3:¬(0<(Q2X Qd (QM l k to) 0:Int)):=by rw[jo,jZ];decide
 obtain⟨m,hm⟩:=exq ((Qj (l.take to.toNat) k.toNat:Nat):Int);have qA:0<=m:=by omega
 have vg:k+m<=to:=by omega
 rw[<-hm]at cL;have n4:¬(0<(Qj (QM l k to) 0:Int)):=by rw[qG,jF];decide
 have vz:m=0:=by rw[hm,jF];rfl
 have vH:¬0<m:=by omega
 have n5:¬((QM l k to).getD 0 0=61):=by rw[qH];exact jx
 obtain⟨F,q9⟩:=exq (QC (l.take to.toNat) k:Int);rw[<-q9]at cQ
 have xl:F=k+Q1E (QM l k to):=by
  rcases h.val (.inr hq)with ⟨_,e⟩|⟨e,_⟩
  ·rw[q9];exact e
  ·omega
 have hP:Q19 l f k to=(5,Q1E (QM l k to)):=by rw[h.part_tail hF,Q4P,if_neg n3,if_neg n4,if_neg n5,if_pos hv]
 have zY:0<F:=by omega
 obtain⟨kd,jD⟩:=exq (5:Int);obtain⟨tt,jG⟩:=exq (F:Int);have jw:Q1V (Q19 l f k to) k=.agg [.val (.int .i64 kd),.val (.int .i64 k),.val (.int .i64 tt)]:=by rw[hP,jD,jG];rw[xl];rfl
 rw[jw];clear hP jw;have qK:Qd 39=false:=rfl;clear jI jo qH jJ cS jY q4 hF qG n3 n4 n5 hm jF jZ vz q9 hv xl;refine fnN (Q2W true Qd m F) func147 rfl fun _ _=>?_
 with_reducible refine cv2 (Q0 l) Qd ?_
 have jB:=Q15 hn;have cSp2:=Q4y ak;have cL2:BCall prog 188 [.slc 1 (std.cut (Q0 l) 0 to),.val (.int .i64 k)] [] (.val (.int .i64 m)) []:=by rw[cc];exact cL
 with_reducible repeat' first|refine aU (zA jB <| zA ak <| zA h0 <| zA h1 <| zA q7 <| zA jO <| zA j9 <| zA vH <| zA vg <| zA jx <| zA hq <| zA zY qK) ?_|refine zA ?_ ?_|intro hb
 all_goals first
  |exact cSp2
  |exact cL2
  |exact cQ
  |exact .pure rfl ⟨.inl (by rw[jD]),.inl rfl,.inl (by first|(rw[jG];done)|(rw[jG];rfl)),trivial⟩
