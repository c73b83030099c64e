/- Lemmas, conditions told -/
import Derived.Test.YtlaegncokadkkaaGreatG19
set_option maxRecDepth 99999
set_option maxHeartbeats 0
set_option linter.unusedSimpArgs false
set_option linter.unusedVariables false
namespace Go.Proofs.YtlaegncokadkkaaGreat
open Go.RowKit Go.Lib
section
open Tryz
theorem QaG(l:List Int)(hl:l.length<=1000000000)(hu:Un l)(f k to:Int)(h:Rng l k to)(zR:k=f)(jO:l[k.toNat]?.getD 0=60)(hs:Q7 (l.take to.toNat) k.toNat [60,47]=true):BCall prog 54 [.slc 1 (Q0 l),.val (.int .i64 f),.val (.int .i64 k),.val (.int .i64 to)] [] (Q1k (QG l f k to) k) []:=by
 obtain⟨n,T,qk,hn,h0,h1,h2,qK,cS,cL,jF,cQ,cc,jI,jt,jk,ju,ak,qt,qM,vP⟩:=Q2H hl hu h;have hP:QG l f k to=(1,2):=by rw[QG,decide_eq_true zR,QE,if_pos ⟨rfl,by rw[jI];exact hs⟩]
 obtain⟨kd,ja⟩:=exq (1:Int);obtain⟨tt,j3⟩:=exq (k+2:Int);have jp:Q1k (QG l f k to) k=.agg [.val (.int .i64 kd),.val (.int .i64 k),.val (.int .i64 tt)]:=by rw[hP,ja,j3];rfl
 rw[jp];clear hP jp
 have cS:BCall prog 21 [.slc 1 T,.val (.int .i64 k),.val (.string ⟨#[60,47]⟩)] [] (.val (.bool true)) []:=by
  have e:Q7 (l.take to.toNat) k.toNat (⟨#[60,47]⟩:ByteArray).data.toList=true:=hs;rw[e]at cS;exact cS
 clear hs jI jt jk ju jF cL cQ qk qK;subst zR;refine fnN (Q60 true Q8 0 0) func54 rfl fun _ _=>?_
 with_reducible refine cv2 (Q0 l) Q8 ?_
 have jJ:=Q4r hn;have cSp2:=Q3Q ak;have cS2:BCall prog 21 [.slc 1 (std.cut (Q0 l) 0 to),.val (.int .i64 k),.val (.string ⟨#[60,47]⟩)] [] (.val (.bool true)) []:=by rw[cc];exact cS
 with_reducible repeat' first|refine aU (zA jJ <| zA ak <| zA h0 <| zA h1 <| zA qM jO) ?_|refine And.intro ?_ ?_|intro hb
 all_goals first
  |exact cS2
  |exact cSp2
  |exact .pure rfl ⟨.inl (by rw[ja]),.inl rfl,.inl (by first|(rw[j3];done)|(rw[j3];rfl)),trivial⟩
theorem QaJ(l:List Int)(hl:l.length<=1000000000)(hu:Un l)(f k to:Int)(h:Rng l k to)(zR:k=f)(jO:l[k.toNat]?.getD 0=60)(hs:Q7 (l.take to.toNat) k.toNat [60,47]=false):BCall prog 54 [.slc 1 (Q0 l),.val (.int .i64 f),.val (.int .i64 k),.val (.int .i64 to)] [] (Q1k (QG l f k to) k) []:=by
 obtain⟨n,T,qk,hn,h0,h1,h2,qK,cS,cL,jF,cQ,cc,jI,jt,jk,ju,ak,qt,qM,vP⟩:=Q2H hl hu h;have hP:QG l f k to=(1,1):=by rw[QG,decide_eq_true zR,QE,if_neg (fun e=>by rw[jI,hs]at e;cases e.2),if_pos ⟨rfl,by rw[ju];exact jO⟩]
 obtain⟨kd,ja⟩:=exq (1:Int);obtain⟨tt,j3⟩:=exq (k+1:Int);have jp:Q1k (QG l f k to) k=.agg [.val (.int .i64 kd),.val (.int .i64 k),.val (.int .i64 tt)]:=by rw[hP,ja,j3];rfl
 rw[jp];clear hP jp
 have cS:BCall prog 21 [.slc 1 T,.val (.int .i64 k),.val (.string ⟨#[60,47]⟩)] [] (.val (.bool false)) []:=by
  have e:Q7 (l.take to.toNat) k.toNat (⟨#[60,47]⟩:ByteArray).data.toList=false:=hs;rw[e]at cS;exact cS
 clear hs jI jt jk ju jF cL cQ qk qK;subst zR;refine fnN (Q60 false Q8 0 0) func54 rfl fun _ _=>?_
 with_reducible refine cv2 (Q0 l) Q8 ?_
 have jJ:=Q4r hn;have cSp2:=Q3Q ak;have cS2:BCall prog 21 [.slc 1 (std.cut (Q0 l) 0 to),.val (.int .i64 k),.val (.string ⟨#[60,47]⟩)] [] (.val (.bool false)) []:=by rw[cc];exact cS
 with_reducible repeat' first|refine aU (zA jJ <| zA ak <| zA h0 <| zA h1 <| zA qM jO) ?_|refine And.intro ?_ ?_|intro hb
 all_goals first
  |exact cS2
  |exact cSp2
  |exact .pure rfl ⟨.inl (by rw[ja]),.inl rfl,.inl (by first|(rw[j3];done)|(rw[j3];rfl)),trivial⟩
