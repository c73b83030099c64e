/- Lemmas; conditions told. -/
import Derived.Test.YtibemhahkicbpaaGreatQJ36
set_option maxRecDepth 99999
set_option maxHeartbeats 0
set_option linter.unusedSimpArgs false
set_option linter.unusedVariables false
namespace Go.Proofs.YtibemhahkicbpaaGreat
open Go.RowKit Go.Lib
section
open Tryz
theorem Qf1(l:List Int)(hl:l.length<=1000000000)(hu:Un l)(f k to:Int)(h:Rng l k to)(jQ:¬l[k.toNat]?.getD 0=60)(jc:Qd (l[k.toNat]?.getD 0)=true):BCall prog 147 [.slc 1 (Q0 l),.val (.int .i64 f),.val (.int .i64 k),.val (.int .i64 to)] [] (Q1V (Q19 l f k to) k) []:=by
 obtain⟨n,T,j0,hn,h0,h1,h2,qU,cS,cL,jH,cQ,cc,jI,qF,jq,qG,ak,jt,qd,qO⟩:=Q3f hl hu h;have hF:¬(k=f/\l[k.toNat]?.getD 0=60):=fun e=>jQ e.2
 obtain⟨s,hs⟩:=exq (spI l k to:Int)
 have hP:Q19 l f k to=(3,s):=by
  have e:=QeE h jc;have e2:=QoN l (k+1) to;rw[h.part_tail hF,Q4P,jq,show((spN l k to:Nat):Int)=s from hs.symm,if_pos (by omega)]
 obtain⟨kd,jD⟩:=exq (3:Int);obtain⟨tt,jG⟩:=exq (k+s:Int);have jy:Q1V (Q19 l f k to) k=.agg [.val (.int .i64 kd),.val (.int .i64 k),.val (.int .i64 tt)]:=by rw[hP,jD,jG];rfl
 rw[jy];clear hP jy;clear jI jq qG jH cS cL cQ qF j0 qU hF;refine fnN (Q2W true Qd 0 0) func147 rfl fun _ _=>?_
 with_reducible refine cv2 (Q0 l) Qd ?_
 have jC:=Q15 hn;have cSp2:=Q4y ak;with_reducible repeat' first|refine aU (zA jC <| zA ak <| zA h0 <| zA h1 <| zA qd <| zA jc jQ) ?_|refine zA ?_ ?_|intro hb
 all_goals first
  |exact cSp2
  |skip
 all_goals
  refine Q1h (Q2W true Qd 0 0) (Int) (fun i=>⟨[(0,.slc 1 (Q0 l)),(1,.val (.int .i64 f)),(2,.val (.int .i64 k)),(3,.val (.int .i64 to)),(8,.box 0 0),(9,.val (.int .i64 i))],[.box [.val (.int .i64 0),.val (.int .i64 0),.val (.int .i64 0)]]⟩) (fun i=>k<=i/\i<=to/\spI l i to+(i-k)=s) (fun i=>(to-i).toNat) k ?_ ?_ ?_
  ·exact⟨Int.le_refl _,by omega,by rw[hs];omega⟩
  ·refine⟨[some 0],_,rfl,?_⟩
   exact eq0
  ·rintro i ⟨jK,jR,hi⟩
   have jK:k<=i:=jK;have jR:i<=to:=jR;have hi:spI l i to+(i-k)=s:=hi;rcases Int.lt_or_eq_of_le jR with jA|jZ
   ·have hR:Rng l i to:=⟨by omega,jA,h2⟩
    have ai:=QJ (l:=l) (i:=i) (by omega) (by omega)
    have cSi:=Qag (l[i.toNat]?.getD 0);have e9i:(Q0 l).getD i.toNat .dead=.val (.int .i32 (l[i.toNat]?.getD 0)):=by rw[List.getD_eq_getElem?_getD];exact ai
    have eIi:std.int (std.nth (std.cel (std.at_ (Q0 l) i)) 0)=l[i.toNat]?.getD 0:=by
     show intOf ((AV.cells ((Q0 l).getD i.toNat .dead)).getD 0 .dead)=_;rw[e9i];rfl
    have cSi2:BCall prog 187 [.val (.int .i32 (std.int (std.nth (std.cel (std.at_ (Q0 l) i)) 0)))] [] (.val (.bool (Qd (std.int (std.nth (std.cel (std.at_ (Q0 l) i)) 0))))) []:=by rw[eIi];exact cSi
    cases hsi:Qd (l[i.toNat]?.getD 0)with
    |true =>
     have jI:=QeE hR hsi;have jO:spI l (i+1) to+(i+1-k)=s:=by omega
     clear jI hi hs jC;with_reducible refine cv2 (Q0 l) Qd ?_
     have jC:=Q15 hn;with_reducible repeat' first|refine aU (zA jC <| zA ai <| zA h0 <| zA jK <| zA jA <| zA qd hsi) ?_|refine zA ?_ ?_|intro hb
     all_goals first
      |exact cSi2
      |skip
     refine⟨i+1,⟨by omega,by omega,jO⟩,by omega,[some 0],_,rfl,?_⟩
     exact eq0
    |false =>
     have jI:=Qfm (l:=l) (i:=i) (to:=to) (by omega) (fun _=>⟨hR,hsi⟩)
     have pL:tt=i:=by rw[jG];omega
     clear jI hi hs jC;with_reducible refine cv2 (Q0 l) Qd ?_
     have jC:=Q15 hn;with_reducible repeat' first|refine aU (zA jC <| zA ai <| zA h0 <| zA jK <| zA jA <| zA qd hsi) ?_|refine zA ?_ ?_|intro hb
     all_goals first
      |exact cSi2
      |skip
     rw[if_pos trivial];with_reducible refine cv1 (Q0 l) ?_
     exact .pure rfl ⟨.inl (by rw[jD]),.inl rfl,.inl (by rw[pL]),trivial⟩
   ·have jI:=Qfm (l:=l) (i:=i) (to:=to) (by omega) (fun h9=>absurd h9 (by omega))
    have pL:tt=i:=by rw[jG];omega
    clear jI hi hs jC;have jA:¬i<to:=by omega
    with_reducible refine cv2 (Q0 l) Qd ?_
    have jC:=Q15 hn;with_reducible repeat' first|refine aU (zA jC <| zA h0 <| zA jK <| zA jA qd) ?_|refine zA ?_ ?_|intro hb
    rw[if_pos trivial];with_reducible refine cv1 (Q0 l) ?_
    exact .pure rfl ⟨.inl (by rw[jD]),.inl rfl,.inl (by rw[pL]),trivial⟩
