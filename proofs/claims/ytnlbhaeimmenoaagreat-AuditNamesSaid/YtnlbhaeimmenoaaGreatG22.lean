/- Lemmas, conditions told -/
import Derived.Test.YtnlbhaeimmenoaaGreatG20
set_option maxRecDepth 99999
set_option maxHeartbeats 0
set_option linter.unusedSimpArgs false
set_option linter.unusedVariables false
namespace Go.Proofs.YtnlbhaeimmenoaaGreat
open Go.RowKit Go.Lib
section
open Tryz
theorem Qoc(l:List Int)(hl:l.length<=1000000000)(hu:Un l)(k:Int)(h0:0<=k)(h1:k<l.length)(jO:Q3 l k.toNat [38,35]=true)(jV:Q3 l k.toNat [38,35,120]=true)(vP:k+1+((Qk l (k.toNat+1):Nat):Int)<l.length):BCall prog 87 [.slc 1 (Q0 l),.val (.int .i64 k)] [] (Q1r ((Q1e l k.toNat).1:Nat) k ((Q1e l k.toNat).2.1:Nat) (Q1e l k.toNat).2.2) []:=by
 have c1:BCall prog 81 [.slc 1 (Q0 l),.val (.int .i64 k),.val (.string ⟨#[38,35]⟩)] [] (.val (.bool (Q3 l k.toNat [38,35]))) []:=Qa l hl hu.i32 k h0 (by omega) ⟨#[38,35]⟩ (by decide)
 have c2:BCall prog 81 [.slc 1 (Q0 l),.val (.int .i64 k),.val (.string ⟨#[38,35,120]⟩)] [] (.val (.bool (Q3 l k.toNat [38,35,120]))) []:=Qa l hl hu.i32 k h0 (by omega) ⟨#[38,35,120]⟩ (by decide)
 have cL:=Q4w l hl (k+1) (by omega) (by omega)
 rw[show(k+1).toNat=k.toNat+1 by omega]at cL
 have jJ:Qk l (k.toNat+1)<=l.length:=by
  unfold Qk;split
  ·omega
  ·split
   ·have:=(List.takeWhile_sublist Qp (l:=l.drop (k.toNat+1))).length_le
    rw[List.length_drop]at this;omega
   ·omega
 obtain⟨n,hn⟩:=QG l;have jr:=Qx l;have jq:k<n:=by have:=hn.eq;omega
 have qG:n<=1000000000:=by have:=hn.eq;omega
 obtain⟨m,vO⟩:=exq ((Qk l (k.toNat+1):Nat):Int);have qU:0<=m:=by omega
 have qq:m<=n:=by have:=hn.eq;omega
 rw[<-vO]at cL vP;have hD:∀i:Int,0<=i->i<n->∀base,BCall prog 120 [.val (.int .i32 (l[i.toNat]?.getD 0)),.val (.int .i64 base)] [] (.val (.int .i64 (Q1j (l[i.toNat]?.getD 0) base))) []:=fun i i0 i1 base=>Q4L _ base (hu.at_ i i0 (by have:=hn.eq;omega))
 obtain⟨kd,jD⟩:=exq (((Q1e l k.toNat).1:Nat):Int);obtain⟨tt,jE⟩:=exq (((Q1e l k.toNat).2.1:Nat):Int);obtain⟨ww,jK⟩:=exq ((Q1e l k.toNat).2.2:Bool);rw[<-jD,<-jE,<-jK,Q1r];clear jJ;have j5:=Q10 l k.toNat _ (by omega) jV
 simp only[List.length_cons,List.length_nil]at j5;obtain⟨a,ha⟩:=exq (k+3:Int);have gv:a<=n:=by have:=hn.eq;omega
 have qx:=Q9w jO 16 a (.inl ⟨jV,rfl,by omega⟩)
 rw[jO]at c1;rw[jV]at c2;obtain⟨N,hN⟩:∃N:Int,IsN (Q24 l 16 a) N:=⟨_,rfl⟩;have hN0:0<=N:=by have:=hN.eq;omega
 have g7:IsN (Qk l (k.toNat+1)) m:=vO;have xE:k<a:=by omega
 have v8:k+1+m<n:=by have:=hn.eq;omega
 have am:=QN (l:=l) (i:=k+1+m) (by omega) vP
 clear jO jV j5 vO vP;refine fnN (Q9t true true Q1j m) func87 rfl fun _ _=>?_
 with_reducible refine cv2 (Q0 l) Q1j ?_
 have jC:=QY hn;with_reducible repeat' first|refine aU (zA jC <| zA h0 jq) ?_|refine And.intro ?_ ?_|intro hb
 refine Q1h (Q9t true true Q1j m) (Int) (fun i=>⟨[(0,.slc 1 (Q0 l)),(1,.val (.int .i64 k)),(4,.box 0 0),(5,.val (.int .i64 16)),(6,.val (.int .i64 a)),(7,.val (.int .i64 i))],[.box [.val (.int .i64 0),.val (.int .i64 0),.val (.int .i64 0),.val (.bool false)]]⟩) (fun i=>(a<=i/\i<=n)/\i+(Q24 l 16 i:Nat)=a+N) (fun i=>(n-i).toNat) a ?_ ?_ ?_
 ·exact⟨⟨Int.le_refl _,gv⟩,by rw[hN.eq]⟩
 ·have yI:std.add k 3=a:=ha.symm
  refine⟨[some 0],_,rfl,?_⟩;exact eq1 yI
 ·rintro i ⟨⟨vF,vY⟩,hi⟩
  have jN:a<=i:=vF;have jS:i<=n:=vY;have hi:i+(Q24 l 16 i:Nat)=a+N:=hi;clear vF vY jC ha;by_cases jB:i<n
  ·have j3:i<l.length:=by have:=hn.eq;omega
   have ai:=QN (l:=l) (i:=i) (by omega) j3
   have cDi:=hD i (by omega) jB 16
   by_cases hd:0<=Q1j (l[i.toNat]?.getD 0) 16
   ·have jG:=Q72 (by omega) j3 hd
    have hJ:i+1+(Q24 l 16 (i+1):Nat)=a+N:=by omega
    clear hi jG j3 qx hN;with_reducible refine cv2 (Q0 l) Q1j ?_
    have jC:=QY hn;have e9:(Q0 l).getD i.toNat .dead=.val (.int .i32 (l[i.toNat]?.getD 0)):=by rw[List.getD_eq_getElem?_getD];exact ai
    have eI:std.int (std.nth (std.cel (std.at_ (Q0 l) i)) 0)=l[i.toNat]?.getD 0:=by
     show RowKit.intOf ((AV.cells ((Q0 l).getD i.toNat .dead)).getD 0 .dead)=_;rw[e9];rfl
    have cDs:BCall prog 120 [.val (.int .i32 (std.int (std.nth (std.cel (std.at_ (Q0 l) i)) 0))),.val (.int .i64 16)] [] (.val (.int .i64 (Q1j (std.int (std.nth (std.cel (std.at_ (Q0 l) i)) 0)) 16))) []:=by rw[eI];exact cDi
    with_reducible repeat' first|refine aU (zA jC <| zA ai <| zA jB <| zA jN <| zA h0 hd) ?_|refine And.intro ?_ ?_|intro hb
    all_goals
     refine⟨i+1,⟨⟨by omega,by omega⟩,hJ⟩,by omega,[some 0],_,rfl,?_⟩
     exact eq0
   ·have vE:=Q3A (l:=l) (base:=16) (i:=i) (by omega) (fun _=>hd)
    have xg:i=a+N:=by omega
    clear hi j3 vE;with_reducible refine cv2 (Q0 l) Q1j ?_
    have jC:=QY hn;have e9:(Q0 l).getD i.toNat .dead=.val (.int .i32 (l[i.toNat]?.getD 0)):=by rw[List.getD_eq_getElem?_getD];exact ai
    have eI:std.int (std.nth (std.cel (std.at_ (Q0 l) i)) 0)=l[i.toNat]?.getD 0:=by
     show RowKit.intOf ((AV.cells ((Q0 l).getD i.toNat .dead)).getD 0 .dead)=_;rw[e9];rfl
    have cDs:BCall prog 120 [.val (.int .i32 (std.int (std.nth (std.cel (std.at_ (Q0 l) i)) 0))),.val (.int .i64 16)] [] (.val (.int .i64 (Q1j (std.int (std.nth (std.cel (std.at_ (Q0 l) i)) 0)) 16))) []:=by rw[eI];exact cDi
    with_reducible repeat' first|refine aU (zA jC <| zA jN <| zA h0 <| zA ai <| zA jB hd) ?_|refine And.intro ?_ ?_|intro hb
    all_goals
     rw[if_pos trivial];with_reducible refine cv2 (Q0 l) Q1j ?_
     have jw:(((Q0 l).length:Nat):Int)=n:=by have:=hn.eq;omega
     with_reducible repeat' first|refine aU (zA jw <| zA jN <| zA h0 <| zA jq <| zA ai <| zA jB <| zA am v8) ?_|refine And.intro ?_ ?_|(intro hb;try simp[std,S1,jw,jN,h0,jq,ai,jB,am,v8]at hb)
     all_goals
      have yU:=hn.eq;have cr:=hN.eq;have qP:a.toNat+Q24 l 16 a=i.toNat:=by omega
      have vj:=g7.eq
      first
       |(have hT:=qx.trans (if_pos (QU.2 ⟨by omega,by rw[qP];omega,by rw[qP];first|assumption|omega⟩))
         rw[hT]at jD jE jK;have jD:kd=3:=jD;have jE:tt=i+1:=by rw[jE];show((a.toNat+Q24 l 16 a+1:Nat):Int)=_;omega
         have jK:ww=true:=jK;exact .pure rfl ⟨.inl (by rw[jD]),.inl rfl,.inl (by rw[jE];rfl),.inl (by rw[jK]),trivial⟩)
       |(have jY:=qx.trans (if_neg (fun h=>by obtain⟨e1,e2,e3⟩:=QU.1 h;rw[qP]at e2 e3;omega))
         have hT:=Q3N h0 vj (by omega) (by omega) (by first|assumption|omega)
         rw[jY,hT]at jD jE jK;have jD:kd=2:=jD;have jE:tt=k+m+2:=by rw[jE];show(((k+m+2).toNat:Nat):Int)=_;omega
         have jK:ww=true:=jK;exact .pure rfl ⟨.inl (by rw[jD]),.inl rfl,.inl (by rw[jE];rfl),.inl (by rw[jK]),trivial⟩)
       |(have jY:=qx.trans (if_neg (fun h=>by obtain⟨e1,e2,e3⟩:=QU.1 h;rw[qP]at e2 e3;omega))
         have hT:=Q2s h0 vj (fun h=>by obtain⟨e1,e2,e3⟩:=h;omega)
         rw[jY,hT]at jD jE jK;have jD:kd=11:=jD;have jE:tt=k+1:=by rw[jE];show(((k+1).toNat:Nat):Int)=_;omega
         have jK:ww=false:=jK;exact .pure rfl ⟨.inl (by rw[jD]),.inl rfl,.inl (by rw[jE];rfl),.inl (by rw[jK]),trivial⟩)
  ·have vE:=Q3A (l:=l) (base:=16) (i:=i) (by omega) (fun h=>absurd (by have:=hn.eq;omega) jB)
   have xg:i=a+N:=by omega
   clear hi vE;with_reducible refine cv2 (Q0 l) Q1j ?_
   have jC:=QY hn;with_reducible repeat' first|refine aU (zA jC <| zA jN <| zA h0 jB) ?_|refine And.intro ?_ ?_|intro hb
   all_goals
    rw[if_pos trivial];with_reducible refine cv2 (Q0 l) Q1j ?_
    have jw:(((Q0 l).length:Nat):Int)=n:=by have:=hn.eq;omega
    with_reducible repeat' first|refine aU (zA jw <| zA jN <| zA h0 <| zA jq <| zA jB <| zA am v8) ?_|refine And.intro ?_ ?_|(intro hb;try simp[std,S1,jw,jN,h0,jq,jB,am,v8]at hb)
    all_goals
     have yU:=hn.eq;have cr:=hN.eq;have qP:a.toNat+Q24 l 16 a=i.toNat:=by omega
     have vj:=g7.eq
     first
      |(have hT:=qx.trans (if_pos (QU.2 ⟨by omega,by rw[qP];omega,by rw[qP];first|assumption|omega⟩))
        rw[hT]at jD jE jK;have jD:kd=3:=jD;have jE:tt=i+1:=by rw[jE];show((a.toNat+Q24 l 16 a+1:Nat):Int)=_;omega
        have jK:ww=true:=jK;exact .pure rfl ⟨.inl (by rw[jD]),.inl rfl,.inl (by rw[jE];rfl),.inl (by rw[jK]),trivial⟩)
      |(have jY:=qx.trans (if_neg (fun h=>by obtain⟨e1,e2,e3⟩:=QU.1 h;rw[qP]at e2 e3;omega))
        have hT:=Q3N h0 vj (by omega) (by omega) (by first|assumption|omega)
        rw[jY,hT]at jD jE jK;have jD:kd=2:=jD;have jE:tt=k+m+2:=by rw[jE];show(((k+m+2).toNat:Nat):Int)=_;omega
        have jK:ww=true:=jK;exact .pure rfl ⟨.inl (by rw[jD]),.inl rfl,.inl (by rw[jE];rfl),.inl (by rw[jK]),trivial⟩)
      |(have jY:=qx.trans (if_neg (fun h=>by obtain⟨e1,e2,e3⟩:=QU.1 h;rw[qP]at e2 e3;omega))
        have hT:=Q2s h0 vj (fun h=>by obtain⟨e1,e2,e3⟩:=h;omega)
        rw[jY,hT]at jD jE jK;have jD:kd=11:=jD;have jE:tt=k+1:=by rw[jE];show(((k+1).toNat:Nat):Int)=_;omega
        have jK:ww=false:=jK;exact .pure rfl ⟨.inl (by rw[jD]),.inl rfl,.inl (by rw[jE];rfl),.inl (by rw[jK]),trivial⟩)
theorem Qox(l:List Int)(hl:l.length<=1000000000)(hu:Un l)(k:Int)(h0:0<=k)(h1:k<l.length)(jO:Q3 l k.toNat [38,35]=true)(jV:Q3 l k.toNat [38,35,120]=true)(vP:¬k+1+((Qk l (k.toNat+1):Nat):Int)<l.length):BCall prog 87 [.slc 1 (Q0 l),.val (.int .i64 k)] [] (Q1r ((Q1e l k.toNat).1:Nat) k ((Q1e l k.toNat).2.1:Nat) (Q1e l k.toNat).2.2) []:=by
 have c1:BCall prog 81 [.slc 1 (Q0 l),.val (.int .i64 k),.val (.string ⟨#[38,35]⟩)] [] (.val (.bool (Q3 l k.toNat [38,35]))) []:=Qa l hl hu.i32 k h0 (by omega) ⟨#[38,35]⟩ (by decide)
 have c2:BCall prog 81 [.slc 1 (Q0 l),.val (.int .i64 k),.val (.string ⟨#[38,35,120]⟩)] [] (.val (.bool (Q3 l k.toNat [38,35,120]))) []:=Qa l hl hu.i32 k h0 (by omega) ⟨#[38,35,120]⟩ (by decide)
 have cL:=Q4w l hl (k+1) (by omega) (by omega)
 rw[show(k+1).toNat=k.toNat+1 by omega]at cL
 have jJ:Qk l (k.toNat+1)<=l.length:=by
  unfold Qk;split
  ·omega
  ·split
   ·have:=(List.takeWhile_sublist Qp (l:=l.drop (k.toNat+1))).length_le
    rw[List.length_drop]at this;omega
   ·omega
 obtain⟨n,hn⟩:=QG l;have jr:=Qx l;have jq:k<n:=by have:=hn.eq;omega
 have qG:n<=1000000000:=by have:=hn.eq;omega
 obtain⟨m,vO⟩:=exq ((Qk l (k.toNat+1):Nat):Int);have qU:0<=m:=by omega
 have qq:m<=n:=by have:=hn.eq;omega
 rw[<-vO]at cL vP;have hD:∀i:Int,0<=i->i<n->∀base,BCall prog 120 [.val (.int .i32 (l[i.toNat]?.getD 0)),.val (.int .i64 base)] [] (.val (.int .i64 (Q1j (l[i.toNat]?.getD 0) base))) []:=fun i i0 i1 base=>Q4L _ base (hu.at_ i i0 (by have:=hn.eq;omega))
 obtain⟨kd,jD⟩:=exq (((Q1e l k.toNat).1:Nat):Int);obtain⟨tt,jE⟩:=exq (((Q1e l k.toNat).2.1:Nat):Int);obtain⟨ww,jK⟩:=exq ((Q1e l k.toNat).2.2:Bool);rw[<-jD,<-jE,<-jK,Q1r];clear jJ;have j5:=Q10 l k.toNat _ (by omega) jV
 simp only[List.length_cons,List.length_nil]at j5;obtain⟨a,ha⟩:=exq (k+3:Int);have gv:a<=n:=by have:=hn.eq;omega
 have qx:=Q9w jO 16 a (.inl ⟨jV,rfl,by omega⟩)
 rw[jO]at c1;rw[jV]at c2;obtain⟨N,hN⟩:∃N:Int,IsN (Q24 l 16 a) N:=⟨_,rfl⟩;have hN0:0<=N:=by have:=hN.eq;omega
 have g7:IsN (Qk l (k.toNat+1)) m:=vO;have xE:k<a:=by omega
 have v8:¬k+1+m<n:=by have:=hn.eq;omega
 clear jO jV j5 vO vP;refine fnN (Q9t true true Q1j m) func87 rfl fun _ _=>?_
 with_reducible refine cv2 (Q0 l) Q1j ?_
 have jC:=QY hn;with_reducible repeat' first|refine aU (zA jC <| zA h0 jq) ?_|refine And.intro ?_ ?_|intro hb
 refine Q1h (Q9t true true Q1j m) (Int) (fun i=>⟨[(0,.slc 1 (Q0 l)),(1,.val (.int .i64 k)),(4,.box 0 0),(5,.val (.int .i64 16)),(6,.val (.int .i64 a)),(7,.val (.int .i64 i))],[.box [.val (.int .i64 0),.val (.int .i64 0),.val (.int .i64 0),.val (.bool false)]]⟩) (fun i=>(a<=i/\i<=n)/\i+(Q24 l 16 i:Nat)=a+N) (fun i=>(n-i).toNat) a ?_ ?_ ?_
 ·exact⟨⟨Int.le_refl _,gv⟩,by rw[hN.eq]⟩
 ·have yI:std.add k 3=a:=ha.symm
  refine⟨[some 0],_,rfl,?_⟩;exact eq1 yI
 ·rintro i ⟨⟨vF,vY⟩,hi⟩
  have jN:a<=i:=vF;have jS:i<=n:=vY;have hi:i+(Q24 l 16 i:Nat)=a+N:=hi;clear vF vY jC ha;by_cases jB:i<n
  ·have j3:i<l.length:=by have:=hn.eq;omega
   have ai:=QN (l:=l) (i:=i) (by omega) j3
   have cDi:=hD i (by omega) jB 16
   by_cases hd:0<=Q1j (l[i.toNat]?.getD 0) 16
   ·have jG:=Q72 (by omega) j3 hd
    have hJ:i+1+(Q24 l 16 (i+1):Nat)=a+N:=by omega
    clear hi jG j3 qx hN;with_reducible refine cv2 (Q0 l) Q1j ?_
    have jC:=QY hn;have e9:(Q0 l).getD i.toNat .dead=.val (.int .i32 (l[i.toNat]?.getD 0)):=by rw[List.getD_eq_getElem?_getD];exact ai
    have eI:std.int (std.nth (std.cel (std.at_ (Q0 l) i)) 0)=l[i.toNat]?.getD 0:=by
     show RowKit.intOf ((AV.cells ((Q0 l).getD i.toNat .dead)).getD 0 .dead)=_;rw[e9];rfl
    have cDs:BCall prog 120 [.val (.int .i32 (std.int (std.nth (std.cel (std.at_ (Q0 l) i)) 0))),.val (.int .i64 16)] [] (.val (.int .i64 (Q1j (std.int (std.nth (std.cel (std.at_ (Q0 l) i)) 0)) 16))) []:=by rw[eI];exact cDi
    with_reducible repeat' first|refine aU (zA jC <| zA ai <| zA jB <| zA jN <| zA h0 hd) ?_|refine And.intro ?_ ?_|intro hb
    all_goals
     refine⟨i+1,⟨⟨by omega,by omega⟩,hJ⟩,by omega,[some 0],_,rfl,?_⟩
     exact eq0
   ·have vE:=Q3A (l:=l) (base:=16) (i:=i) (by omega) (fun _=>hd)
    have xg:i=a+N:=by omega
    clear hi j3 vE;with_reducible refine cv2 (Q0 l) Q1j ?_
    have jC:=QY hn;have e9:(Q0 l).getD i.toNat .dead=.val (.int .i32 (l[i.toNat]?.getD 0)):=by rw[List.getD_eq_getElem?_getD];exact ai
    have eI:std.int (std.nth (std.cel (std.at_ (Q0 l) i)) 0)=l[i.toNat]?.getD 0:=by
     show RowKit.intOf ((AV.cells ((Q0 l).getD i.toNat .dead)).getD 0 .dead)=_;rw[e9];rfl
    have cDs:BCall prog 120 [.val (.int .i32 (std.int (std.nth (std.cel (std.at_ (Q0 l) i)) 0))),.val (.int .i64 16)] [] (.val (.int .i64 (Q1j (std.int (std.nth (std.cel (std.at_ (Q0 l) i)) 0)) 16))) []:=by rw[eI];exact cDi
    with_reducible repeat' first|refine aU (zA jC <| zA jN <| zA h0 <| zA ai <| zA jB hd) ?_|refine And.intro ?_ ?_|intro hb
    all_goals
     rw[if_pos trivial];with_reducible refine cv2 (Q0 l) Q1j ?_
     have jw:(((Q0 l).length:Nat):Int)=n:=by have:=hn.eq;omega
     with_reducible repeat' first|refine aU (zA jw <| zA jN <| zA h0 <| zA jq <| zA ai <| zA jB v8) ?_|refine And.intro ?_ ?_|(intro hb;try simp[std,S1,jw,jN,h0,jq,ai,jB,v8]at hb)
     all_goals
      have yU:=hn.eq;have cr:=hN.eq;have qP:a.toNat+Q24 l 16 a=i.toNat:=by omega
      have vj:=g7.eq
      first
       |(have hT:=qx.trans (if_pos (QU.2 ⟨by omega,by rw[qP];omega,by rw[qP];first|assumption|omega⟩))
         rw[hT]at jD jE jK;have jD:kd=3:=jD;have jE:tt=i+1:=by rw[jE];show((a.toNat+Q24 l 16 a+1:Nat):Int)=_;omega
         have jK:ww=true:=jK;exact .pure rfl ⟨.inl (by rw[jD]),.inl rfl,.inl (by rw[jE];rfl),.inl (by rw[jK]),trivial⟩)
       |(have jY:=qx.trans (if_neg (fun h=>by obtain⟨e1,e2,e3⟩:=QU.1 h;rw[qP]at e2 e3;omega))
         have hT:=Q3N h0 vj (by omega) (by omega) (by first|assumption|omega)
         rw[jY,hT]at jD jE jK;have jD:kd=2:=jD;have jE:tt=k+m+2:=by rw[jE];show(((k+m+2).toNat:Nat):Int)=_;omega
         have jK:ww=true:=jK;exact .pure rfl ⟨.inl (by rw[jD]),.inl rfl,.inl (by rw[jE];rfl),.inl (by rw[jK]),trivial⟩)
       |(have jY:=qx.trans (if_neg (fun h=>by obtain⟨e1,e2,e3⟩:=QU.1 h;rw[qP]at e2 e3;omega))
         have hT:=Q2s h0 vj (fun h=>by obtain⟨e1,e2,e3⟩:=h;omega)
         rw[jY,hT]at jD jE jK;have jD:kd=11:=jD;have jE:tt=k+1:=by rw[jE];show(((k+1).toNat:Nat):Int)=_;omega
         have jK:ww=false:=jK;exact .pure rfl ⟨.inl (by rw[jD]),.inl rfl,.inl (by rw[jE];rfl),.inl (by rw[jK]),trivial⟩)
  ·have vE:=Q3A (l:=l) (base:=16) (i:=i) (by omega) (fun h=>absurd (by have:=hn.eq;omega) jB)
   have xg:i=a+N:=by omega
   clear hi vE;with_reducible refine cv2 (Q0 l) Q1j ?_
   have jC:=QY hn;with_reducible repeat' first|refine aU (zA jC <| zA jN <| zA h0 jB) ?_|refine And.intro ?_ ?_|intro hb
   all_goals
    rw[if_pos trivial];with_reducible refine cv2 (Q0 l) Q1j ?_
    have jw:(((Q0 l).length:Nat):Int)=n:=by have:=hn.eq;omega
    with_reducible repeat' first|refine aU (zA jw <| zA jN <| zA h0 <| zA jq <| zA jB v8) ?_|refine And.intro ?_ ?_|(intro hb;try simp[std,S1,jw,jN,h0,jq,jB,v8]at hb)
    all_goals
     have yU:=hn.eq;have cr:=hN.eq;have qP:a.toNat+Q24 l 16 a=i.toNat:=by omega
     have vj:=g7.eq
     first
      |(have hT:=qx.trans (if_pos (QU.2 ⟨by omega,by rw[qP];omega,by rw[qP];first|assumption|omega⟩))
        rw[hT]at jD jE jK;have jD:kd=3:=jD;have jE:tt=i+1:=by rw[jE];show((a.toNat+Q24 l 16 a+1:Nat):Int)=_;omega
        have jK:ww=true:=jK;exact .pure rfl ⟨.inl (by rw[jD]),.inl rfl,.inl (by rw[jE];rfl),.inl (by rw[jK]),trivial⟩)
      |(have jY:=qx.trans (if_neg (fun h=>by obtain⟨e1,e2,e3⟩:=QU.1 h;rw[qP]at e2 e3;omega))
        have hT:=Q3N h0 vj (by omega) (by omega) (by first|assumption|omega)
        rw[jY,hT]at jD jE jK;have jD:kd=2:=jD;have jE:tt=k+m+2:=by rw[jE];show(((k+m+2).toNat:Nat):Int)=_;omega
        have jK:ww=true:=jK;exact .pure rfl ⟨.inl (by rw[jD]),.inl rfl,.inl (by rw[jE];rfl),.inl (by rw[jK]),trivial⟩)
      |(have jY:=qx.trans (if_neg (fun h=>by obtain⟨e1,e2,e3⟩:=QU.1 h;rw[qP]at e2 e3;omega))
        have hT:=Q2s h0 vj (fun h=>by obtain⟨e1,e2,e3⟩:=h;omega)
        rw[jY,hT]at jD jE jK;have jD:kd=11:=jD;have jE:tt=k+1:=by rw[jE];show(((k+1).toNat:Nat):Int)=_;omega
        have jK:ww=false:=jK;exact .pure rfl ⟨.inl (by rw[jD]),.inl rfl,.inl (by rw[jE];rfl),.inl (by rw[jK]),trivial⟩)
