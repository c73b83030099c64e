/- Lemmas, conditions told -/
import Derived.Test.YtnlbhaeimmenoaaGreatG24
set_option maxRecDepth 99999
set_option maxHeartbeats 0
set_option linter.unusedSimpArgs false
set_option linter.unusedVariables false
namespace Go.Proofs.YtnlbhaeimmenoaaGreat
open Go.RowKit Go.Lib
section
open Tryz
theorem Qbs(l:List Int)(hl:l.length<=1000000000)(hu:Un l)(f k to:Int)(h:Rng l k to)(vq:k=f)(jL:l[k.toNat]?.getD 0=60)(hs:Q3 (l.take to.toNat) k.toNat [60,47]=true):BCall prog 88 [.slc 1 (Q0 l),.val (.int .i64 f),.val (.int .i64 k),.val (.int .i64 to)] [] (Q1T (Q12 l f k to) k) []:=by
 obtain⟨n,T,jY,hn,h0,h1,h2,qV,cS,cL,jJ,cQ,cc,jG,je,jp,qC,ak,jr,qZ,qG⟩:=Q3g hl hu h;have hP:Q12 l f k to=(1,2):=by rw[Q12,decide_eq_true vq,Qj,if_pos ⟨rfl,by rw[jG];exact hs⟩]
 obtain⟨kd,jD⟩:=exq (1:Int);obtain⟨tt,jE⟩:=exq (k+2:Int);have jx:Q1T (Q12 l f k to) k=.agg [.val (.int .i64 kd),.val (.int .i64 k),.val (.int .i64 tt)]:=by rw[hP,jD,jE];rfl
 rw[jx];clear hP jx
 have cS:BCall prog 81 [.slc 1 T,.val (.int .i64 k),.val (.string ⟨#[60,47]⟩)] [] (.val (.bool true)) []:=by
  have e:Q3 (l.take to.toNat) k.toNat (⟨#[60,47]⟩:ByteArray).data.toList=true:=hs;rw[e]at cS;exact cS
 clear hs jG je jp qC jJ cL cQ jY qV;subst vq;refine fnN (Q6m true Qb 0 0) func88 rfl fun _ _=>?_
 with_reducible refine cv2 (Q0 l) Qb ?_
 have jC:=QY hn;have cSp2:=Q4n ak;have cS2:BCall prog 81 [.slc 1 (std.cut (Q0 l) 0 to),.val (.int .i64 k),.val (.string ⟨#[60,47]⟩)] [] (.val (.bool true)) []:=by rw[cc];exact cS
 with_reducible repeat' first|refine aU (zA jC <| zA ak <| zA h0 <| zA h1 <| zA qZ jL) ?_|refine And.intro ?_ ?_|intro hb
 all_goals first
  |exact cS2
  |exact cSp2
  |exact .pure rfl ⟨.inl (by rw[jD]),.inl rfl,.inl (by first|(rw[jE];done)|(rw[jE];rfl)),trivial⟩
theorem Qbu(l:List Int)(hl:l.length<=1000000000)(hu:Un l)(f k to:Int)(h:Rng l k to)(vq:k=f)(jL:l[k.toNat]?.getD 0=60)(hs:Q3 (l.take to.toNat) k.toNat [60,47]=false):BCall prog 88 [.slc 1 (Q0 l),.val (.int .i64 f),.val (.int .i64 k),.val (.int .i64 to)] [] (Q1T (Q12 l f k to) k) []:=by
 obtain⟨n,T,jY,hn,h0,h1,h2,qV,cS,cL,jJ,cQ,cc,jG,je,jp,qC,ak,jr,qZ,qG⟩:=Q3g hl hu h;have hP:Q12 l f k to=(1,1):=by rw[Q12,decide_eq_true vq,Qj,if_neg (fun e=>by rw[jG,hs]at e;cases e.2),if_pos ⟨rfl,by rw[qC];exact jL⟩]
 obtain⟨kd,jD⟩:=exq (1:Int);obtain⟨tt,jE⟩:=exq (k+1:Int);have jx:Q1T (Q12 l f k to) k=.agg [.val (.int .i64 kd),.val (.int .i64 k),.val (.int .i64 tt)]:=by rw[hP,jD,jE];rfl
 rw[jx];clear hP jx
 have cS:BCall prog 81 [.slc 1 T,.val (.int .i64 k),.val (.string ⟨#[60,47]⟩)] [] (.val (.bool false)) []:=by
  have e:Q3 (l.take to.toNat) k.toNat (⟨#[60,47]⟩:ByteArray).data.toList=false:=hs;rw[e]at cS;exact cS
 clear hs jG je jp qC jJ cL cQ jY qV;subst vq;refine fnN (Q6m false Qb 0 0) func88 rfl fun _ _=>?_
 with_reducible refine cv2 (Q0 l) Qb ?_
 have jC:=QY hn;have cSp2:=Q4n ak;have cS2:BCall prog 81 [.slc 1 (std.cut (Q0 l) 0 to),.val (.int .i64 k),.val (.string ⟨#[60,47]⟩)] [] (.val (.bool false)) []:=by rw[cc];exact cS
 with_reducible repeat' first|refine aU (zA jC <| zA ak <| zA h0 <| zA h1 <| zA qZ jL) ?_|refine And.intro ?_ ?_|intro hb
 all_goals first
  |exact cS2
  |exact cSp2
  |exact .pure rfl ⟨.inl (by rw[jD]),.inl rfl,.inl (by first|(rw[jE];done)|(rw[jE];rfl)),trivial⟩
