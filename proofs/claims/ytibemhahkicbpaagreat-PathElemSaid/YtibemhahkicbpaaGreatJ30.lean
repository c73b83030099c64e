/- Lemmas, conditions told -/
import Derived.Test.YtibemhahkicbpaaGreatJ29
set_option maxRecDepth 99999
set_option maxHeartbeats 0
set_option linter.unusedSimpArgs false
set_option linter.unusedVariables false
namespace Go.Proofs.YtibemhahkicbpaaGreat
open Go.RowKit Go.Lib
section
open Tryz
theorem Qng(l:List Int)(hl:l.length<=1000000000)(hu:Un l)(k:Int)(h0:0<=k)(h1:k<l.length)(jM:Q6 l k.toNat [38,35]=true)(jT:Q6 l k.toNat [38,35,120]=true)(vV:k+1+((Qj l (k.toNat+1):Nat):Int)<l.length):BCall prog 157 [.slc 1 (Q0 l),.val (.int .i64 k)] [] (Q1B ((Q1n l k.toNat).1:Nat) k ((Q1n l k.toNat).2.1:Nat) (Q1n l k.toNat).2.2) []:=by
 have c1:BCall prog 151 [.slc 1 (Q0 l),.val (.int .i64 k),.val (.string ⟨#[38,35]⟩)] [] (.val (.bool (Q6 l k.toNat [38,35]))) []:=Qc l hl hu.i32 k h0 (by omega) ⟨#[38,35]⟩ (by decide)
 have c2:BCall prog 151 [.slc 1 (Q0 l),.val (.int .i64 k),.val (.string ⟨#[38,35,120]⟩)] [] (.val (.bool (Q6 l k.toNat [38,35,120]))) []:=Qc l hl hu.i32 k h0 (by omega) ⟨#[38,35,120]⟩ (by decide)
 have cL:=Q4G l hl (k+1) (by omega) (by omega)
 rw[show(k+1).toNat=k.toNat+1 by omega]at cL
 have jJ:Qj l (k.toNat+1)<=l.length:=by
  unfold Qj;split
  ·omega
  ·split
   ·have:=(List.takeWhile_sublist Qq (l:=l.drop (k.toNat+1))).length_le
    rw[List.length_drop]at this;omega
   ·omega
 obtain⟨n,hn⟩:=QE l;have jq:=Qx l;have jh:k<n:=by have:=hn.eq;omega
 have qA:n<=1000000000:=by have:=hn.eq;omega
 obtain⟨m,vi⟩:=exq ((Qj l (k.toNat+1):Nat):Int);have qR:0<=m:=by omega
 have vK:m<=n:=by have:=hn.eq;omega
 rw[<-vi]at cL vV;have hD:∀i:Int,0<=i->i<n->∀base,BCall prog 199 [.val (.int .i32 (l[i.toNat]?.getD 0)),.val (.int .i64 base)] [] (.val (.int .i64 (Q1t (l[i.toNat]?.getD 0) base))) []:=fun i i0 i1 base=>Q4Y _ base (hu.at_ i i0 (by have:=hn.eq;omega))
 obtain⟨kd,jD⟩:=exq (((Q1n l k.toNat).1:Nat):Int);obtain⟨tt,jF⟩:=exq (((Q1n l k.toNat).2.1:Nat):Int);obtain⟨ww,jN⟩:=exq ((Q1n l k.toNat).2.2:Bool);rw[<-jD,<-jF,<-jN,Q1B];clear jJ;have j2:=Q17 l k.toNat _ (by omega) jT
 simp only[List.length_cons,List.length_nil]at j2;obtain⟨a,ha⟩:=exq (k+3:Int);have gz:a<=n:=by have:=hn.eq;omega
 have vF:=Q9E jM 16 a (.inl ⟨jT,rfl,by omega⟩)
 rw[jM]at c1;rw[jT]at c2;obtain⟨N,hN⟩:∃N:Int,IsN (Q27 l 16 a) N:=⟨_,rfl⟩;have hN0:0<=N:=by have:=hN.eq;omega
 have ga:IsN (Qj l (k.toNat+1)) m:=vi;have nD:k<a:=by omega
 have vn:k+1+m<n:=by have:=hn.eq;omega
 have am:=QJ (l:=l) (i:=k+1+m) (by omega) vV
 clear jM jT j2 vi vV;refine fnN (Q3j true true Q1t m) func157 rfl fun _ _=>?_
 with_reducible refine cv2 (Q0 l) Q1t ?_
 have jB:=Q15 hn;with_reducible repeat' first|refine aU (zA jB <| zA h0 jh) ?_|refine zA ?_ ?_|intro hb
 refine Q1h (Q3j true true Q1t m) (Int) (fun i=>⟨[(0,.slc 1 (Q0 l)),(1,.val (.int .i64 k)),(4,.box 0 0),(5,.val (.int .i64 16)),(6,.val (.int .i64 a)),(7,.val (.int .i64 i))],[.box [.val (.int .i64 0),.val (.int .i64 0),.val (.int .i64 0),.val (.bool false)]]⟩) (fun i=>(a<=i/\i<=n)/\i+(Q27 l 16 i:Nat)=a+N) (fun i=>(n-i).toNat) a ?_ ?_ ?_
 ·exact⟨⟨Int.le_refl _,gz⟩,by rw[hN.eq]⟩
 ·have yR:std.add k 3=a:=ha.symm
  refine⟨[some 0],_,rfl,?_⟩;exact eq1 yR
 ·rintro i ⟨⟨qx,vE⟩,hi⟩
  have jL:a<=i:=qx;have jK:i<=n:=vE;have hi:i+(Q27 l 16 i:Nat)=a+N:=hi;clear qx vE jB ha;by_cases jA:i<n
  ·have j5:i<l.length:=by have:=hn.eq;omega
   have ai:=QJ (l:=l) (i:=i) (by omega) j5
   have cDi:=hD i (by omega) jA 16
   by_cases hd:0<=Q1t (l[i.toNat]?.getD 0) 16
   ·have jH:=Q6T (by omega) j5 hd
    have hJ:i+1+(Q27 l 16 (i+1):Nat)=a+N:=by omega
    clear hi jH j5 vF hN;with_reducible refine cv2 (Q0 l) Q1t ?_
    have jB:=Q15 hn;have e9:(Q0 l).getD i.toNat .dead=.val (.int .i32 (l[i.toNat]?.getD 0)):=by rw[List.getD_eq_getElem?_getD];exact ai
    have eI:std.int (std.nth (std.cel (std.at_ (Q0 l) i)) 0)=l[i.toNat]?.getD 0:=by
     show intOf ((AV.cells ((Q0 l).getD i.toNat .dead)).getD 0 .dead)=_;rw[e9];rfl
    have cDs:BCall prog 199 [.val (.int .i32 (std.int (std.nth (std.cel (std.at_ (Q0 l) i)) 0))),.val (.int .i64 16)] [] (.val (.int .i64 (Q1t (std.int (std.nth (std.cel (std.at_ (Q0 l) i)) 0)) 16))) []:=by rw[eI];exact cDi
    with_reducible repeat' first|refine aU (zA jB <| zA ai <| zA jA <| zA jL <| zA h0 hd) ?_|refine zA ?_ ?_|intro hb
    all_goals
     refine⟨i+1,⟨⟨by omega,by omega⟩,hJ⟩,by omega,[some 0],_,rfl,?_⟩
     exact eq0
   ·have vL:=Q3H (l:=l) (base:=16) (i:=i) (by omega) (fun _=>hd)
    have xr:i=a+N:=by omega
    clear hi j5 vL;with_reducible refine cv2 (Q0 l) Q1t ?_
    have jB:=Q15 hn;have e9:(Q0 l).getD i.toNat .dead=.val (.int .i32 (l[i.toNat]?.getD 0)):=by rw[List.getD_eq_getElem?_getD];exact ai
    have eI:std.int (std.nth (std.cel (std.at_ (Q0 l) i)) 0)=l[i.toNat]?.getD 0:=by
     show intOf ((AV.cells ((Q0 l).getD i.toNat .dead)).getD 0 .dead)=_;rw[e9];rfl
    have cDs:BCall prog 199 [.val (.int .i32 (std.int (std.nth (std.cel (std.at_ (Q0 l) i)) 0))),.val (.int .i64 16)] [] (.val (.int .i64 (Q1t (std.int (std.nth (std.cel (std.at_ (Q0 l) i)) 0)) 16))) []:=by rw[eI];exact cDi
    with_reducible repeat' first|refine aU (zA jB <| zA jL <| zA h0 <| zA ai <| zA jA hd) ?_|refine zA ?_ ?_|intro hb
    all_goals
     rw[if_pos trivial];with_reducible refine cv2 (Q0 l) Q1t ?_
     have jx:(((Q0 l).length:Nat):Int)=n:=by have:=hn.eq;omega
     with_reducible repeat' first|refine aU (zA jx <| zA jL <| zA h0 <| zA jh <| zA ai <| zA jA <| zA am vn) ?_|refine zA ?_ ?_|(intro hb;try simp[std,S1,jx,jL,h0,jh,ai,jA,am,vn]at hb)
     all_goals
      have zb:=hn.eq;have kD:=hN.eq;have q4:a.toNat+Q27 l 16 a=i.toNat:=by omega
      have yB:=ga.eq
      first
       |(have hT:=vF.trans (if_pos (QY.2 ⟨by omega,by rw[q4];omega,by rw[q4];first|assumption|omega⟩))
         rw[hT]at jD jF jN;have jD:kd=3:=jD;have jF:tt=i+1:=by rw[jF];show((a.toNat+Q27 l 16 a+1:Nat):Int)=_;omega
         have jN:ww=true:=jN;exact .pure rfl ⟨.inl (by rw[jD]),.inl rfl,.inl (by rw[jF];rfl),.inl (by rw[jN]),trivial⟩)
       |(have jY:=vF.trans (if_neg (fun h=>by obtain⟨e1,e2,e3⟩:=QY.1 h;rw[q4]at e2 e3;omega))
         have hT:=Q3P h0 yB (by omega) (by omega) (by first|assumption|omega)
         rw[jY,hT]at jD jF jN;have jD:kd=2:=jD;have jF:tt=k+m+2:=by rw[jF];show(((k+m+2).toNat:Nat):Int)=_;omega
         have jN:ww=true:=jN;exact .pure rfl ⟨.inl (by rw[jD]),.inl rfl,.inl (by rw[jF];rfl),.inl (by rw[jN]),trivial⟩)
       |(have jY:=vF.trans (if_neg (fun h=>by obtain⟨e1,e2,e3⟩:=QY.1 h;rw[q4]at e2 e3;omega))
         have hT:=Q2o h0 yB (fun h=>by obtain⟨e1,e2,e3⟩:=h;omega)
         rw[jY,hT]at jD jF jN;have jD:kd=11:=jD;have jF:tt=k+1:=by rw[jF];show(((k+1).toNat:Nat):Int)=_;omega
         have jN:ww=false:=jN;exact .pure rfl ⟨.inl (by rw[jD]),.inl rfl,.inl (by rw[jF];rfl),.inl (by rw[jN]),trivial⟩)
  ·have vL:=Q3H (l:=l) (base:=16) (i:=i) (by omega) (fun h=>absurd (by have:=hn.eq;omega) jA)
   have xr:i=a+N:=by omega
   clear hi vL;with_reducible refine cv2 (Q0 l) Q1t ?_
   have jB:=Q15 hn;with_reducible repeat' first|refine aU (zA jB <| zA jL <| zA h0 jA) ?_|refine zA ?_ ?_|intro hb
   all_goals
    rw[if_pos trivial];with_reducible refine cv2 (Q0 l) Q1t ?_
    have jx:(((Q0 l).length:Nat):Int)=n:=by have:=hn.eq;omega
    with_reducible repeat' first|refine aU (zA jx <| zA jL <| zA h0 <| zA jh <| zA jA <| zA am vn) ?_|refine zA ?_ ?_|(intro hb;try simp[std,S1,jx,jL,h0,jh,jA,am,vn]at hb)
    all_goals
     have zb:=hn.eq;have kD:=hN.eq;have q4:a.toNat+Q27 l 16 a=i.toNat:=by omega
     have yB:=ga.eq
     first
      |(have hT:=vF.trans (if_pos (QY.2 ⟨by omega,by rw[q4];omega,by rw[q4];first|assumption|omega⟩))
        rw[hT]at jD jF jN;have jD:kd=3:=jD;have jF:tt=i+1:=by rw[jF];show((a.toNat+Q27 l 16 a+1:Nat):Int)=_;omega
        have jN:ww=true:=jN;exact .pure rfl ⟨.inl (by rw[jD]),.inl rfl,.inl (by rw[jF];rfl),.inl (by rw[jN]),trivial⟩)
      |(have jY:=vF.trans (if_neg (fun h=>by obtain⟨e1,e2,e3⟩:=QY.1 h;rw[q4]at e2 e3;omega))
        have hT:=Q3P h0 yB (by omega) (by omega) (by first|assumption|omega)
        rw[jY,hT]at jD jF jN;have jD:kd=2:=jD;have jF:tt=k+m+2:=by rw[jF];show(((k+m+2).toNat:Nat):Int)=_;omega
        have jN:ww=true:=jN;exact .pure rfl ⟨.inl (by rw[jD]),.inl rfl,.inl (by rw[jF];rfl),.inl (by rw[jN]),trivial⟩)
      |(have jY:=vF.trans (if_neg (fun h=>by obtain⟨e1,e2,e3⟩:=QY.1 h;rw[q4]at e2 e3;omega))
        have hT:=Q2o h0 yB (fun h=>by obtain⟨e1,e2,e3⟩:=h;omega)
        rw[jY,hT]at jD jF jN;have jD:kd=11:=jD;have jF:tt=k+1:=by rw[jF];show(((k+1).toNat:Nat):Int)=_;omega
        have jN:ww=false:=jN;exact .pure rfl ⟨.inl (by rw[jD]),.inl rfl,.inl (by rw[jF];rfl),.inl (by rw[jN]),trivial⟩)
theorem Qms(l:List Int)(hl:l.length<=1000000000)(hu:Un l)(k:Int)(h0:0<=k)(h1:k<l.length)(jM:Q6 l k.toNat [38,35]=true)(jT:Q6 l k.toNat [38,35,120]=true)(vV:¬k+1+((Qj l (k.toNat+1):Nat):Int)<l.length):BCall prog 157 [.slc 1 (Q0 l),.val (.int .i64 k)] [] (Q1B ((Q1n l k.toNat).1:Nat) k ((Q1n l k.toNat).2.1:Nat) (Q1n l k.toNat).2.2) []:=by
 have c1:BCall prog 151 [.slc 1 (Q0 l),.val (.int .i64 k),.val (.string ⟨#[38,35]⟩)] [] (.val (.bool (Q6 l k.toNat [38,35]))) []:=Qc l hl hu.i32 k h0 (by omega) ⟨#[38,35]⟩ (by decide)
 have c2:BCall prog 151 [.slc 1 (Q0 l),.val (.int .i64 k),.val (.string ⟨#[38,35,120]⟩)] [] (.val (.bool (Q6 l k.toNat [38,35,120]))) []:=Qc l hl hu.i32 k h0 (by omega) ⟨#[38,35,120]⟩ (by decide)
 have cL:=Q4G l hl (k+1) (by omega) (by omega)
 rw[show(k+1).toNat=k.toNat+1 by omega]at cL
 have jJ:Qj l (k.toNat+1)<=l.length:=by
  unfold Qj;split
  ·omega
  ·split
   ·have:=(List.takeWhile_sublist Qq (l:=l.drop (k.toNat+1))).length_le
    rw[List.length_drop]at this;omega
   ·omega
 obtain⟨n,hn⟩:=QE l;have jq:=Qx l;have jh:k<n:=by have:=hn.eq;omega
 have qA:n<=1000000000:=by have:=hn.eq;omega
 obtain⟨m,vi⟩:=exq ((Qj l (k.toNat+1):Nat):Int);have qR:0<=m:=by omega
 have vK:m<=n:=by have:=hn.eq;omega
 rw[<-vi]at cL vV;have hD:∀i:Int,0<=i->i<n->∀base,BCall prog 199 [.val (.int .i32 (l[i.toNat]?.getD 0)),.val (.int .i64 base)] [] (.val (.int .i64 (Q1t (l[i.toNat]?.getD 0) base))) []:=fun i i0 i1 base=>Q4Y _ base (hu.at_ i i0 (by have:=hn.eq;omega))
 obtain⟨kd,jD⟩:=exq (((Q1n l k.toNat).1:Nat):Int);obtain⟨tt,jF⟩:=exq (((Q1n l k.toNat).2.1:Nat):Int);obtain⟨ww,jN⟩:=exq ((Q1n l k.toNat).2.2:Bool);rw[<-jD,<-jF,<-jN,Q1B];clear jJ;have j2:=Q17 l k.toNat _ (by omega) jT
 simp only[List.length_cons,List.length_nil]at j2;obtain⟨a,ha⟩:=exq (k+3:Int);have gz:a<=n:=by have:=hn.eq;omega
 have vF:=Q9E jM 16 a (.inl ⟨jT,rfl,by omega⟩)
 rw[jM]at c1;rw[jT]at c2;obtain⟨N,hN⟩:∃N:Int,IsN (Q27 l 16 a) N:=⟨_,rfl⟩;have hN0:0<=N:=by have:=hN.eq;omega
 have ga:IsN (Qj l (k.toNat+1)) m:=vi;have nD:k<a:=by omega
 have vn:¬k+1+m<n:=by have:=hn.eq;omega
 clear jM jT j2 vi vV;refine fnN (Q3j true true Q1t m) func157 rfl fun _ _=>?_
 with_reducible refine cv2 (Q0 l) Q1t ?_
 have jB:=Q15 hn;with_reducible repeat' first|refine aU (zA jB <| zA h0 jh) ?_|refine zA ?_ ?_|intro hb
 refine Q1h (Q3j true true Q1t m) (Int) (fun i=>⟨[(0,.slc 1 (Q0 l)),(1,.val (.int .i64 k)),(4,.box 0 0),(5,.val (.int .i64 16)),(6,.val (.int .i64 a)),(7,.val (.int .i64 i))],[.box [.val (.int .i64 0),.val (.int .i64 0),.val (.int .i64 0),.val (.bool false)]]⟩) (fun i=>(a<=i/\i<=n)/\i+(Q27 l 16 i:Nat)=a+N) (fun i=>(n-i).toNat) a ?_ ?_ ?_
 ·exact⟨⟨Int.le_refl _,gz⟩,by rw[hN.eq]⟩
 ·have yR:std.add k 3=a:=ha.symm
  refine⟨[some 0],_,rfl,?_⟩;exact eq1 yR
 ·rintro i ⟨⟨qx,vE⟩,hi⟩
  have jL:a<=i:=qx;have jK:i<=n:=vE;have hi:i+(Q27 l 16 i:Nat)=a+N:=hi;clear qx vE jB ha;by_cases jA:i<n
  ·have j5:i<l.length:=by have:=hn.eq;omega
   have ai:=QJ (l:=l) (i:=i) (by omega) j5
   have cDi:=hD i (by omega) jA 16
   by_cases hd:0<=Q1t (l[i.toNat]?.getD 0) 16
   ·have jH:=Q6T (by omega) j5 hd
    have hJ:i+1+(Q27 l 16 (i+1):Nat)=a+N:=by omega
    clear hi jH j5 vF hN;with_reducible refine cv2 (Q0 l) Q1t ?_
    have jB:=Q15 hn;have e9:(Q0 l).getD i.toNat .dead=.val (.int .i32 (l[i.toNat]?.getD 0)):=by rw[List.getD_eq_getElem?_getD];exact ai
    have eI:std.int (std.nth (std.cel (std.at_ (Q0 l) i)) 0)=l[i.toNat]?.getD 0:=by
     show intOf ((AV.cells ((Q0 l).getD i.toNat .dead)).getD 0 .dead)=_;rw[e9];rfl
    have cDs:BCall prog 199 [.val (.int .i32 (std.int (std.nth (std.cel (std.at_ (Q0 l) i)) 0))),.val (.int .i64 16)] [] (.val (.int .i64 (Q1t (std.int (std.nth (std.cel (std.at_ (Q0 l) i)) 0)) 16))) []:=by rw[eI];exact cDi
    with_reducible repeat' first|refine aU (zA jB <| zA ai <| zA jA <| zA jL <| zA h0 hd) ?_|refine zA ?_ ?_|intro hb
    all_goals
     refine⟨i+1,⟨⟨by omega,by omega⟩,hJ⟩,by omega,[some 0],_,rfl,?_⟩
     exact eq0
   ·have vL:=Q3H (l:=l) (base:=16) (i:=i) (by omega) (fun _=>hd)
    have xr:i=a+N:=by omega
    clear hi j5 vL;with_reducible refine cv2 (Q0 l) Q1t ?_
    have jB:=Q15 hn;have e9:(Q0 l).getD i.toNat .dead=.val (.int .i32 (l[i.toNat]?.getD 0)):=by rw[List.getD_eq_getElem?_getD];exact ai
    have eI:std.int (std.nth (std.cel (std.at_ (Q0 l) i)) 0)=l[i.toNat]?.getD 0:=by
     show intOf ((AV.cells ((Q0 l).getD i.toNat .dead)).getD 0 .dead)=_;rw[e9];rfl
    have cDs:BCall prog 199 [.val (.int .i32 (std.int (std.nth (std.cel (std.at_ (Q0 l) i)) 0))),.val (.int .i64 16)] [] (.val (.int .i64 (Q1t (std.int (std.nth (std.cel (std.at_ (Q0 l) i)) 0)) 16))) []:=by rw[eI];exact cDi
    with_reducible repeat' first|refine aU (zA jB <| zA jL <| zA h0 <| zA ai <| zA jA hd) ?_|refine zA ?_ ?_|intro hb
    all_goals
     rw[if_pos trivial];with_reducible refine cv2 (Q0 l) Q1t ?_
     have jx:(((Q0 l).length:Nat):Int)=n:=by have:=hn.eq;omega
     with_reducible repeat' first|refine aU (zA jx <| zA jL <| zA h0 <| zA jh <| zA ai <| zA jA vn) ?_|refine zA ?_ ?_|(intro hb;try simp[std,S1,jx,jL,h0,jh,ai,jA,vn]at hb)
     all_goals
      have zb:=hn.eq;have kD:=hN.eq;have q4:a.toNat+Q27 l 16 a=i.toNat:=by omega
      have yB:=ga.eq
      first
       |(have hT:=vF.trans (if_pos (QY.2 ⟨by omega,by rw[q4];omega,by rw[q4];first|assumption|omega⟩))
         rw[hT]at jD jF jN;have jD:kd=3:=jD;have jF:tt=i+1:=by rw[jF];show((a.toNat+Q27 l 16 a+1:Nat):Int)=_;omega
         have jN:ww=true:=jN;exact .pure rfl ⟨.inl (by rw[jD]),.inl rfl,.inl (by rw[jF];rfl),.inl (by rw[jN]),trivial⟩)
       |(have jY:=vF.trans (if_neg (fun h=>by obtain⟨e1,e2,e3⟩:=QY.1 h;rw[q4]at e2 e3;omega))
         have hT:=Q3P h0 yB (by omega) (by omega) (by first|assumption|omega)
         rw[jY,hT]at jD jF jN;have jD:kd=2:=jD;have jF:tt=k+m+2:=by rw[jF];show(((k+m+2).toNat:Nat):Int)=_;omega
         have jN:ww=true:=jN;exact .pure rfl ⟨.inl (by rw[jD]),.inl rfl,.inl (by rw[jF];rfl),.inl (by rw[jN]),trivial⟩)
       |(have jY:=vF.trans (if_neg (fun h=>by obtain⟨e1,e2,e3⟩:=QY.1 h;rw[q4]at e2 e3;omega))
         have hT:=Q2o h0 yB (fun h=>by obtain⟨e1,e2,e3⟩:=h;omega)
         rw[jY,hT]at jD jF jN;have jD:kd=11:=jD;have jF:tt=k+1:=by rw[jF];show(((k+1).toNat:Nat):Int)=_;omega
         have jN:ww=false:=jN;exact .pure rfl ⟨.inl (by rw[jD]),.inl rfl,.inl (by rw[jF];rfl),.inl (by rw[jN]),trivial⟩)
  ·have vL:=Q3H (l:=l) (base:=16) (i:=i) (by omega) (fun h=>absurd (by have:=hn.eq;omega) jA)
   have xr:i=a+N:=by omega
   clear hi vL;with_reducible refine cv2 (Q0 l) Q1t ?_
   have jB:=Q15 hn;with_reducible repeat' first|refine aU (zA jB <| zA jL <| zA h0 jA) ?_|refine zA ?_ ?_|intro hb
   all_goals
    rw[if_pos trivial];with_reducible refine cv2 (Q0 l) Q1t ?_
    have jx:(((Q0 l).length:Nat):Int)=n:=by have:=hn.eq;omega
    with_reducible repeat' first|refine aU (zA jx <| zA jL <| zA h0 <| zA jh <| zA jA vn) ?_|refine zA ?_ ?_|(intro hb;try simp[std,S1,jx,jL,h0,jh,jA,vn]at hb)
    all_goals
     have zb:=hn.eq;have kD:=hN.eq;have q4:a.toNat+Q27 l 16 a=i.toNat:=by omega
     have yB:=ga.eq
     first
      |(have hT:=vF.trans (if_pos (QY.2 ⟨by omega,by rw[q4];omega,by rw[q4];first|assumption|omega⟩))
        rw[hT]at jD jF jN;have jD:kd=3:=jD;have jF:tt=i+1:=by rw[jF];show((a.toNat+Q27 l 16 a+1:Nat):Int)=_;omega
        have jN:ww=true:=jN;exact .pure rfl ⟨.inl (by rw[jD]),.inl rfl,.inl (by rw[jF];rfl),.inl (by rw[jN]),trivial⟩)
      |(have jY:=vF.trans (if_neg (fun h=>by obtain⟨e1,e2,e3⟩:=QY.1 h;rw[q4]at e2 e3;omega))
        have hT:=Q3P h0 yB (by omega) (by omega) (by first|assumption|omega)
        rw[jY,hT]at jD jF jN;have jD:kd=2:=jD;have jF:tt=k+m+2:=by rw[jF];show(((k+m+2).toNat:Nat):Int)=_;omega
        have jN:ww=true:=jN;exact .pure rfl ⟨.inl (by rw[jD]),.inl rfl,.inl (by rw[jF];rfl),.inl (by rw[jN]),trivial⟩)
      |(have jY:=vF.trans (if_neg (fun h=>by obtain⟨e1,e2,e3⟩:=QY.1 h;rw[q4]at e2 e3;omega))
        have hT:=Q2o h0 yB (fun h=>by obtain⟨e1,e2,e3⟩:=h;omega)
        rw[jY,hT]at jD jF jN;have jD:kd=11:=jD;have jF:tt=k+1:=by rw[jF];show(((k+1).toNat:Nat):Int)=_;omega
        have jN:ww=false:=jN;exact .pure rfl ⟨.inl (by rw[jD]),.inl rfl,.inl (by rw[jF];rfl),.inl (by rw[jN]),trivial⟩)
