/- Lemmas, conditions told -/
import Derived.Test.YtlaegncokadkkaaGreatG19
set_option maxRecDepth 99999
set_option maxHeartbeats 0
set_option linter.unusedSimpArgs false
set_option linter.unusedVariables false
namespace Go.Proofs.YtlaegncokadkkaaGreat
open Go.RowKit Go.Lib
section
open Tryz
theorem Qd7(l:List Int)(hl:l.length<=1000000000)(hu:Un l)(f k to:Int)(h:Rng l k to)(jO:¬l[k.toNat]?.getD 0=60)(jh:Q8 (l[k.toNat]?.getD 0)=true):BCall prog 54 [.slc 1 (Q0 l),.val (.int .i64 f),.val (.int .i64 k),.val (.int .i64 to)] [] (Q1k (QG l f k to) k) []:=by
 obtain⟨n,T,qk,hn,h0,h1,h2,qK,cS,cL,jF,cQ,cc,jI,jt,jk,ju,ak,qt,qM,vP⟩:=Q2H hl hu h;have hF:¬(k=f/\l[k.toNat]?.getD 0=60):=fun e=>jO e.2
 obtain⟨s,hs⟩:=exq (spI l k to:Int)
 have hP:QG l f k to=(3,s):=by
  have e:=QdB h jh;have e2:=QnC l (k+1) to;rw[h.part_tail hF,Q4l,jk,show((spN l k to:Nat):Int)=s from hs.symm,if_pos (by omega)]
 obtain⟨kd,ja⟩:=exq (3:Int);obtain⟨tt,j3⟩:=exq (k+s:Int);have jp:Q1k (QG l f k to) k=.agg [.val (.int .i64 kd),.val (.int .i64 k),.val (.int .i64 tt)]:=by rw[hP,ja,j3];rfl
 rw[jp];clear hP jp;clear jI jk ju jF cS cL cQ jt qk qK hF;refine fnN (Q60 true Q8 0 0) func54 rfl fun _ _=>?_
 with_reducible refine cv2 (Q0 l) Q8 ?_
 have jJ:=Q4r hn;have cSp2:=Q3Q ak;with_reducible repeat' first|refine aU (zA jJ <| zA ak <| zA h0 <| zA h1 <| zA qM <| zA jh jO) ?_|refine And.intro ?_ ?_|intro hb
 all_goals first
  |exact cSp2
  |skip
 all_goals
  refine Q1p (Q60 true Q8 0 0) (Int) (fun i=>⟨[(0,.slc 1 (Q0 l)),(1,.val (.int .i64 f)),(2,.val (.int .i64 k)),(3,.val (.int .i64 to)),(8,.box 0 0),(9,.val (.int .i64 i))],[.box [.val (.int .i64 0),.val (.int .i64 0),.val (.int .i64 0)]]⟩) (fun i=>k<=i/\i<=to/\spI l i to+(i-k)=s) (fun i=>(to-i).toNat) k ?_ ?_ ?_
  ·exact⟨Int.le_refl _,by omega,by rw[hs];omega⟩
  ·refine⟨[some 0],_,rfl,?_⟩
   exact eq0
  ·rintro i ⟨qz,je,hi⟩
   have qz:k<=i:=qz;have je:i<=to:=je;have hi:spI l i to+(i-k)=s:=hi;rcases Int.lt_or_eq_of_le je with jE|jj
   ·have hR:Rng l i to:=⟨by omega,jE,h2⟩
    have ai:=Q25 (l:=l) (i:=i) (by omega) (by omega)
    have cSi:=Q9z (l[i.toNat]?.getD 0);have e9i:(Q0 l).getD i.toNat .dead=.val (.int .i32 (l[i.toNat]?.getD 0)):=by rw[List.getD_eq_getElem?_getD];exact ai
    have eIi:std.int (std.nth (std.cel (std.at_ (Q0 l) i)) 0)=l[i.toNat]?.getD 0:=by
     show intOf ((AV.cells ((Q0 l).getD i.toNat .dead)).getD 0 .dead)=_;rw[e9i];rfl
    have cSi2:BCall prog 86 [.val (.int .i32 (std.int (std.nth (std.cel (std.at_ (Q0 l) i)) 0)))] [] (.val (.bool (Q8 (std.int (std.nth (std.cel (std.at_ (Q0 l) i)) 0))))) []:=by rw[eIi];exact cSi
    cases ph:Q8 (l[i.toNat]?.getD 0)with
    |true =>
     have jI:=QdB hR ph;have jM:spI l (i+1) to+(i+1-k)=s:=by omega
     clear jI hi hs jJ;with_reducible refine cv2 (Q0 l) Q8 ?_
     have jJ:=Q4r hn;with_reducible repeat' first|refine aU (zA jJ <| zA ai <| zA h0 <| zA qz <| zA jE <| zA qM ph) ?_|refine And.intro ?_ ?_|intro hb
     all_goals first
      |exact cSi2
      |skip
     refine⟨i+1,⟨by omega,by omega,jM⟩,by omega,[some 0],_,rfl,?_⟩
     exact eq0
    |false =>
     have jI:=QdI (l:=l) (i:=i) (to:=to) (by omega) (fun _=>⟨hR,ph⟩)
     have hti:tt=i:=by rw[j3];omega
     clear jI hi hs jJ;with_reducible refine cv2 (Q0 l) Q8 ?_
     have jJ:=Q4r hn;with_reducible repeat' first|refine aU (zA jJ <| zA ai <| zA h0 <| zA qz <| zA jE <| zA qM ph) ?_|refine And.intro ?_ ?_|intro hb
     all_goals first
      |exact cSi2
      |skip
     rw[if_pos trivial];with_reducible refine cv1 (Q0 l) ?_
     exact .pure rfl ⟨.inl (by rw[ja]),.inl rfl,.inl (by rw[hti]),trivial⟩
   ·have jI:=QdI (l:=l) (i:=i) (to:=to) (by omega) (fun h9=>absurd h9 (by omega))
    have hti:tt=i:=by rw[j3];omega
    clear jI hi hs jJ;have jE:¬i<to:=by omega
    with_reducible refine cv2 (Q0 l) Q8 ?_
    have jJ:=Q4r hn;with_reducible repeat' first|refine aU (zA jJ <| zA h0 <| zA qz <| zA jE qM) ?_|refine And.intro ?_ ?_|intro hb
    rw[if_pos trivial];with_reducible refine cv1 (Q0 l) ?_
    exact .pure rfl ⟨.inl (by rw[ja]),.inl rfl,.inl (by rw[hti]),trivial⟩
