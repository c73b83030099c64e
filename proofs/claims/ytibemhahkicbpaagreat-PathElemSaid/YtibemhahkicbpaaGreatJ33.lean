/- Lemmas, conditions told -/
import Derived.Test.YtibemhahkicbpaaGreatJ32
set_option maxRecDepth 99999
set_option maxHeartbeats 0
set_option linter.unusedSimpArgs false
set_option linter.unusedVariables false
namespace Go.Proofs.YtibemhahkicbpaaGreat
open Go.RowKit Go.Lib
section
open Tryz
theorem Qbq(l:List Int)(hl:l.length<=1000000000)(hu:Un l)(f k to:Int)(h:Rng l k to)(hZ:k=f)(jO:l[k.toNat]?.getD 0=60)(hs:Q6 (l.take to.toNat) k.toNat [60,47]=true):BCall prog 147 [.slc 1 (Q0 l),.val (.int .i64 f),.val (.int .i64 k),.val (.int .i64 to)] [] (Q1V (Q19 l f k to) k) []:=by
 obtain⟨n,T,jY,hn,h0,h1,h2,q9,cS,cL,jJ,cQ,cc,jH,qG,jp,qH,ak,jq,qd,qA⟩:=Q3f hl hu h;have hP:Q19 l f k to=(1,2):=by rw[Q19,decide_eq_true hZ,Qt,if_pos ⟨rfl,by rw[jH];exact hs⟩]
 obtain⟨kd,jD⟩:=exq (1:Int);obtain⟨tt,jF⟩:=exq (k+2:Int);have jy:Q1V (Q19 l f k to) k=.agg [.val (.int .i64 kd),.val (.int .i64 k),.val (.int .i64 tt)]:=by rw[hP,jD,jF];rfl
 rw[jy];clear hP jy
 have cS:BCall prog 151 [.slc 1 T,.val (.int .i64 k),.val (.string ⟨#[60,47]⟩)] [] (.val (.bool true)) []:=by
  have e:Q6 (l.take to.toNat) k.toNat (⟨#[60,47]⟩:ByteArray).data.toList=true:=hs;rw[e]at cS;exact cS
 clear hs jH qG jp qH jJ cL cQ jY q9;subst hZ;refine fnN (Q2W true Qd 0 0) func147 rfl fun _ _=>?_
 with_reducible refine cv2 (Q0 l) Qd ?_
 have jB:=Q15 hn;have cSp2:=Q4y ak;have cS2:BCall prog 151 [.slc 1 (std.cut (Q0 l) 0 to),.val (.int .i64 k),.val (.string ⟨#[60,47]⟩)] [] (.val (.bool true)) []:=by rw[cc];exact cS
 with_reducible repeat' first|refine aU (zA jB <| zA ak <| zA h0 <| zA h1 <| zA qd jO) ?_|refine zA ?_ ?_|intro hb
 all_goals first
  |exact cS2
  |exact cSp2
  |exact .pure rfl ⟨.inl (by rw[jD]),.inl rfl,.inl (by first|(rw[jF];done)|(rw[jF];rfl)),trivial⟩
theorem QbL(l:List Int)(hl:l.length<=1000000000)(hu:Un l)(f k to:Int)(h:Rng l k to)(hZ:k=f)(jO:l[k.toNat]?.getD 0=60)(hs:Q6 (l.take to.toNat) k.toNat [60,47]=false):BCall prog 147 [.slc 1 (Q0 l),.val (.int .i64 f),.val (.int .i64 k),.val (.int .i64 to)] [] (Q1V (Q19 l f k to) k) []:=by
 obtain⟨n,T,jY,hn,h0,h1,h2,q9,cS,cL,jJ,cQ,cc,jH,qG,jp,qH,ak,jq,qd,qA⟩:=Q3f hl hu h;have hP:Q19 l f k to=(1,1):=by rw[Q19,decide_eq_true hZ,Qt,if_neg (fun e=>by rw[jH,hs]at e;cases e.2),if_pos ⟨rfl,by rw[qH];exact jO⟩]
 obtain⟨kd,jD⟩:=exq (1:Int);obtain⟨tt,jF⟩:=exq (k+1:Int);have jy:Q1V (Q19 l f k to) k=.agg [.val (.int .i64 kd),.val (.int .i64 k),.val (.int .i64 tt)]:=by rw[hP,jD,jF];rfl
 rw[jy];clear hP jy
 have cS:BCall prog 151 [.slc 1 T,.val (.int .i64 k),.val (.string ⟨#[60,47]⟩)] [] (.val (.bool false)) []:=by
  have e:Q6 (l.take to.toNat) k.toNat (⟨#[60,47]⟩:ByteArray).data.toList=false:=hs;rw[e]at cS;exact cS
 clear hs jH qG jp qH jJ cL cQ jY q9;subst hZ;refine fnN (Q2W false Qd 0 0) func147 rfl fun _ _=>?_
 with_reducible refine cv2 (Q0 l) Qd ?_
 have jB:=Q15 hn;have cSp2:=Q4y ak;have cS2:BCall prog 151 [.slc 1 (std.cut (Q0 l) 0 to),.val (.int .i64 k),.val (.string ⟨#[60,47]⟩)] [] (.val (.bool false)) []:=by rw[cc];exact cS
 with_reducible repeat' first|refine aU (zA jB <| zA ak <| zA h0 <| zA h1 <| zA qd jO) ?_|refine zA ?_ ?_|intro hb
 all_goals first
  |exact cS2
  |exact cSp2
  |exact .pure rfl ⟨.inl (by rw[jD]),.inl rfl,.inl (by first|(rw[jF];done)|(rw[jF];rfl)),trivial⟩
