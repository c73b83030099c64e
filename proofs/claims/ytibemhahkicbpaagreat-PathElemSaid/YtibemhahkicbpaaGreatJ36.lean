/- Lemmas, conditions told -/
import Derived.Test.YtibemhahkicbpaaGreatJ32
set_option maxRecDepth 99999
set_option maxHeartbeats 0
set_option linter.unusedSimpArgs false
set_option linter.unusedVariables false
namespace Go.Proofs.YtibemhahkicbpaaGreat
open Go.RowKit Go.Lib
section
open Tryz
theorem Qf1(l:List Int)(hl:l.length<=1000000000)(hu:Un l)(f k to:Int)(h:Rng l k to)(jO:¬l[k.toNat]?.getD 0=60)(ja:Qd (l[k.toNat]?.getD 0)=true):BCall prog 147 [.slc 1 (Q0 l),.val (.int .i64 f),.val (.int .i64 k),.val (.int .i64 to)] [] (Q1V (Q19 l f k to) k) []:=by
 obtain⟨n,T,jY,hn,h0,h1,h2,q9,cS,cL,jJ,cQ,cc,jH,qG,jp,qH,ak,jq,qd,qA⟩:=Q3f hl hu h;have hF:¬(k=f/\l[k.toNat]?.getD 0=60):=fun e=>jO e.2
 obtain⟨s,hs⟩:=exq (spI l k to:Int)
 have hP:Q19 l f k to=(3,s):=by
  have e:=QeE h ja;have e2:=QoN l (k+1) to;rw[h.part_tail hF,Q4P,jp,show((spN l k to:Nat):Int)=s from hs.symm,if_pos (by omega)]
 obtain⟨kd,jD⟩:=exq (3:Int);obtain⟨tt,jF⟩:=exq (k+s:Int);have jy:Q1V (Q19 l f k to) k=.agg [.val (.int .i64 kd),.val (.int .i64 k),.val (.int .i64 tt)]:=by rw[hP,jD,jF];rfl
 rw[jy];clear hP jy;clear jH jp qH jJ cS cL cQ qG jY q9 hF;refine fnN (Q2W true Qd 0 0) func147 rfl fun _ _=>?_
 with_reducible refine cv2 (Q0 l) Qd ?_
 have jB:=Q15 hn;have cSp2:=Q4y ak;with_reducible repeat' first|refine aU (zA jB <| zA ak <| zA h0 <| zA h1 <| zA qd <| zA ja jO) ?_|refine zA ?_ ?_|intro hb
 all_goals first
  |exact cSp2
  |skip
 all_goals
  refine Q1h (Q2W true Qd 0 0) (Int) (fun i=>⟨[(0,.slc 1 (Q0 l)),(1,.val (.int .i64 f)),(2,.val (.int .i64 k)),(3,.val (.int .i64 to)),(8,.box 0 0),(9,.val (.int .i64 i))],[.box [.val (.int .i64 0),.val (.int .i64 0),.val (.int .i64 0)]]⟩) (fun i=>k<=i/\i<=to/\spI l i to+(i-k)=s) (fun i=>(to-i).toNat) k ?_ ?_ ?_
  ·exact⟨Int.le_refl _,by omega,by rw[hs];omega⟩
  ·refine⟨[some 0],_,rfl,?_⟩
   exact eq0
  ·rintro i ⟨jL,jK,hi⟩
   have jL:k<=i:=jL;have jK:i<=to:=jK;have hi:spI l i to+(i-k)=s:=hi;rcases Int.lt_or_eq_of_le jK with jA|j7
   ·have hR:Rng l i to:=⟨by omega,jA,h2⟩
    have ai:=QJ (l:=l) (i:=i) (by omega) (by omega)
    have cSi:=Qag (l[i.toNat]?.getD 0);have e9i:(Q0 l).getD i.toNat .dead=.val (.int .i32 (l[i.toNat]?.getD 0)):=by rw[List.getD_eq_getElem?_getD];exact ai
    have eIi:std.int (std.nth (std.cel (std.at_ (Q0 l) i)) 0)=l[i.toNat]?.getD 0:=by
     show intOf ((AV.cells ((Q0 l).getD i.toNat .dead)).getD 0 .dead)=_;rw[e9i];rfl
    have cSi2:BCall prog 187 [.val (.int .i32 (std.int (std.nth (std.cel (std.at_ (Q0 l) i)) 0)))] [] (.val (.bool (Qd (std.int (std.nth (std.cel (std.at_ (Q0 l) i)) 0))))) []:=by rw[eIi];exact cSi
    cases hsi:Qd (l[i.toNat]?.getD 0)with
    |true =>
     have jH:=QeE hR hsi;have jI:spI l (i+1) to+(i+1-k)=s:=by omega
     clear jH hi hs jB;with_reducible refine cv2 (Q0 l) Qd ?_
     have jB:=Q15 hn;with_reducible repeat' first|refine aU (zA jB <| zA ai <| zA h0 <| zA jL <| zA jA <| zA qd hsi) ?_|refine zA ?_ ?_|intro hb
     all_goals first
      |exact cSi2
      |skip
     refine⟨i+1,⟨by omega,by omega,jI⟩,by omega,[some 0],_,rfl,?_⟩
     exact eq0
    |false =>
     have jH:=Qfm (l:=l) (i:=i) (to:=to) (by omega) (fun _=>⟨hR,hsi⟩)
     have xv:tt=i:=by rw[jF];omega
     clear jH hi hs jB;with_reducible refine cv2 (Q0 l) Qd ?_
     have jB:=Q15 hn;with_reducible repeat' first|refine aU (zA jB <| zA ai <| zA h0 <| zA jL <| zA jA <| zA qd hsi) ?_|refine zA ?_ ?_|intro hb
     all_goals first
      |exact cSi2
      |skip
     rw[if_pos trivial];with_reducible refine cv1 (Q0 l) ?_
     exact .pure rfl ⟨.inl (by rw[jD]),.inl rfl,.inl (by rw[xv]),trivial⟩
   ·have jH:=Qfm (l:=l) (i:=i) (to:=to) (by omega) (fun h9=>absurd h9 (by omega))
    have xv:tt=i:=by rw[jF];omega
    clear jH hi hs jB;have jA:¬i<to:=by omega
    with_reducible refine cv2 (Q0 l) Qd ?_
    have jB:=Q15 hn;with_reducible repeat' first|refine aU (zA jB <| zA h0 <| zA jL <| zA jA qd) ?_|refine zA ?_ ?_|intro hb
    rw[if_pos trivial];with_reducible refine cv1 (Q0 l) ?_
    exact .pure rfl ⟨.inl (by rw[jD]),.inl rfl,.inl (by rw[xv]),trivial⟩
