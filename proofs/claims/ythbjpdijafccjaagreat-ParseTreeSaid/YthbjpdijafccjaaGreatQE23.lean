/-
  Parts of the proof, joined: Vg. Conditions: as each theorem says.
-/
import Derived.Test.YthbjpdijafccjaaGreatQE21
set_option maxRecDepth 100000
set_option maxHeartbeats 8000000
namespace Go.Proofs.YthbjpdijafccjaaGreat
open Go.RowKit Go.Lib Tryz
theorem QkI (l:List Int)(hl:l.length≤1000000000)(hu:Un l)(k:Int)(h0:0≤k)(h1:k<l.length)(hs1:Q3 l k.toNat [38,35]=true)(hs2:Q3 l k.toNat [38,35,120]=true)(hfar:k+1+((Qg l (k.toNat+1):Nat):Int)<l.length):BCall prog 91 [.slc 1 (Q0 l),.val (.int .i64 k)] [] (Q1t ((Q1h l k.toNat).1:Nat) k ((Q1h l k.toNat).2.1:Nat) (Q1h l k.toNat).2.2) []:=by
 have c1:BCall prog 85 [.slc 1 (Q0 l),.val (.int .i64 k),.val (.string ⟨#[38,35]⟩)] [] (.val (.bool (Q3 l k.toNat [38,35]))) []:=Qa l hl hu.i32 k h0 (by omega) ⟨#[38,35]⟩ (by decide)
 have c2:BCall prog 85 [.slc 1 (Q0 l),.val (.int .i64 k),.val (.string ⟨#[38,35,120]⟩)] [] (.val (.bool (Q3 l k.toNat [38,35,120]))) []:=Qa l hl hu.i32 k h0 (by omega) ⟨#[38,35,120]⟩ (by decide)
 have cL:=Q1a l hl (k+1) (by omega) (by omega)
 rw[show (k+1).toNat=k.toNat+1 by omega] at cL
 have hle:Qg l (k.toNat+1)≤l.length:=by
  unfold Qg
  split
  ·omega
  ·split
   ·have:=(List.takeWhile_sublist Qs (l:=l.drop (k.toNat+1))).length_le
    rw[List.length_drop] at this
    omega
   ·omega
 obtain⟨n,hn⟩:=Qy l
 have hxl:=Qi l
 have hkn:k<n:=by have:=hn.eq;omega
 have hn9:n≤1000000000:=by have:=hn.eq;omega
 obtain⟨m,hm9⟩:=exq ((Qg l (k.toNat+1):Nat):Int)
 have hm0:0≤m:=by omega
 have hmn:m≤n:=by have:=hn.eq;omega
 rw[←hm9] at cL hfar
 have hD:∀ i:Int,0≤i→i<n→∀ base,BCall prog 115 [.val (.int .i32 (l[i.toNat]?.getD 0)),.val (.int .i64 base)] [] (.val (.int .i64 (Q1m (l[i.toNat]?.getD 0) base))) []:=fun i i0 i1 base=>Q4J _ base (hu.at_ i i0 (by have:=hn.eq;omega))
 obtain⟨kd,hkd⟩:=exq (((Q1h l k.toNat).1:Nat):Int)
 obtain⟨tt,htt⟩:=exq (((Q1h l k.toNat).2.1:Nat):Int)
 obtain⟨ww,hww⟩:=exq ((Q1h l k.toNat).2.2:Bool)
 rw[←hkd,←htt,←hww,Q1t]
 clear hle
 have hfit:=QX l k.toNat _ (by omega) hs2
 simp only[List.length_cons,List.length_nil] at hfit
 obtain⟨a,ha⟩:=exq (k+3:Int)
 have hfn:a≤n:=by have:=hn.eq;omega
 have hT8:=Q8J hs1 16 a (.inl ⟨hs2,rfl,by omega⟩)
 rw[hs1] at c1
 rw[hs2] at c2
 obtain⟨N,hN⟩:∃ N:Int,IsN (Q23 l 16 a) N:=⟨_,rfl⟩
 have hN0:0≤N:=by have:=hN.eq;omega
 have hmm:IsN (Qg l (k.toNat+1)) m:=hm9
 have hka:k<a:=by omega
 have h2m:k+1+m<n:=by have:=hn.eq;omega
 have am:=Qv (l:=l) (i:=k+1+m) (by omega) hfar
 clear hs1 hs2 hfit hm9 hfar
 refine fnN (cs:=Q35 true true Q1m m) func91 rfl (by kernel_rfl) ?_
 intro w0 g0
 generalize hp:std=p,hrx:Q0 l=rx,hdg:Q1m=dg
 generalize hT:Q5 p tys (Q35 true true dg m) _ _ _ _=T
 cbv at hT
 subst hT
 simp only[Tree.ok,Q1,S0]
 subst hp hrx hdg
 have hxn:=QV hn
 repeat' first
  |(with_reducible refine And.intro (fun hx=>absurd hx (by first|(try simp[std,S1,hxn,h0,hkn])<;>omega|omega)) (fun _=>?_))
  |(with_reducible refine And.intro (fun _=>?_) (fun hx=>absurd hx (by first|(try simp[std,S1,hxn,h0,hkn])<;>omega|omega)))
  |(with_reducible refine And.intro (by first|(try simp[std,S1,hxn,h0,hkn])<;>omega|omega) ?_)
  |(with_reducible refine And.intro ?_ ?_)
  |(with_reducible intro hb)
 refine Q1r (cs:=Q35 true true Q1m m) (by kernel_rfl) (X:=Int) (fun i=>⟨[(0,.slc 1 (Q0 l)),(1,.val (.int .i64 k)),(4,.box 0 0),(5,.val (.int .i64 16)),(6,.val (.int .i64 a)),(7,.val (.int .i64 i))],[.box [.val (.int .i64 0),.val (.int .i64 0),.val (.int .i64 0),.val (.bool false)]]⟩) (fun i=>(a≤i∧i≤n)∧i+(Q23 l 16 i:Nat)=a+N) (fun i=>(n-i).toNat) a ?_ ?_ ?_
 ·exact⟨⟨Int.le_refl _,hfn⟩,by rw[hN.eq]⟩
 ·have ha2:std.add k 3=a:=ha.symm
  refine⟨[some 0],_,rfl,?_⟩
  repeat first
   |exact trivial
   |refine⟨rfl,?_⟩
   |refine⟨ha2,?_⟩
   |refine⟨gI (ha2),?_⟩
   |refine⟨gA (ha2),?_⟩
   |refine⟨gB (ha2),?_⟩
   |refine⟨gR (ha2),?_⟩
   |refine⟨gT (ha2),?_⟩
 ·rintro i ⟨⟨hq0,hqn⟩,hi⟩
  have hi0:a≤i:=hq0
  have hin:i≤n:=hqn
  have hi:i+(Q23 l 16 i:Nat)=a+N:=hi
  clear hq0 hqn hxn ha
  by_cases hlt:i<n
  ·have hil:i<l.length:=by have:=hn.eq;omega
   have ai:=Qv (l:=l) (i:=i) (by omega) hil
   have cDi:=hD i (by omega) hlt 16
   by_cases hd:0≤Q1m (l[i.toNat]?.getD 0) 16
   ·have hst:=Q6p (by omega) hil hd
    have hJ:i+1+(Q23 l 16 (i+1):Nat)=a+N:=by omega
    clear hi hst hil hT8 hN
    generalize hp:std=p,hrx:Q0 l=rx,hdg:Q1m=dg
    generalize hT:Q5 p tys (Q35 true true dg m) _ _ _ _=T
    cbv at hT
    subst hT
    simp only[Tree.ok,Q1,S0]
    subst hp hrx hdg
    have hxn:=QV hn
    have e9:(Q0 l).getD i.toNat .dead=.val (.int .i32 (l[i.toNat]?.getD 0)):=by rw[List.getD_eq_getElem?_getD];exact ai
    have eI:std.int (std.nth (std.cel (std.at_ (Q0 l) i)) 0)=l[i.toNat]?.getD 0:=by
     show intOf ((AV.cells ((Q0 l).getD i.toNat .dead)).getD 0 .dead)=_
     rw[e9];rfl
    have cDs:BCall prog 115 [.val (.int .i32 (std.int (std.nth (std.cel (std.at_ (Q0 l) i)) 0))),.val (.int .i64 16)] [] (.val (.int .i64 (Q1m (std.int (std.nth (std.cel (std.at_ (Q0 l) i)) 0)) 16))) []:=by rw[eI];exact cDi
    repeat' first
     |(with_reducible refine And.intro (fun hx=>absurd hx (by first|(try simp[std,S1,hxn,ai,hlt,hi0,h0,hd])<;>omega|omega)) (fun _=>?_))
     |(with_reducible refine And.intro (fun _=>?_) (fun hx=>absurd hx (by first|(try simp[std,S1,hxn,ai,hlt,hi0,h0,hd])<;>omega|omega)))
     |(with_reducible refine And.intro (by first|(try simp[std,S1,hxn,ai,hlt,hi0,h0,hd])<;>omega|omega) ?_)
     |(with_reducible refine And.intro ?_ ?_)
     |(with_reducible intro hb)
    all_goals
     refine⟨i+1,⟨⟨by omega,by omega⟩,hJ⟩,by omega,[some 0],_,rfl,?_⟩
     repeat first
      |exact trivial
      |refine⟨rfl,?_⟩
   ·have hn1:=Q3h (l:=l) (base:=16) (i:=i) (by omega) (fun _=>hd)
    have hiN:i=a+N:=by omega
    clear hi hil hn1
    generalize hp:std=p,hrx:Q0 l=rx,hdg:Q1m=dg
    generalize hT:Q5 p tys (Q35 true true dg m) _ _ _ _=T
    cbv at hT
    subst hT
    simp only[Tree.ok,Q1,S0]
    subst hp hrx hdg
    have hxn:=QV hn
    have e9:(Q0 l).getD i.toNat .dead=.val (.int .i32 (l[i.toNat]?.getD 0)):=by rw[List.getD_eq_getElem?_getD];exact ai
    have eI:std.int (std.nth (std.cel (std.at_ (Q0 l) i)) 0)=l[i.toNat]?.getD 0:=by
     show intOf ((AV.cells ((Q0 l).getD i.toNat .dead)).getD 0 .dead)=_
     rw[e9];rfl
    have cDs:BCall prog 115 [.val (.int .i32 (std.int (std.nth (std.cel (std.at_ (Q0 l) i)) 0))),.val (.int .i64 16)] [] (.val (.int .i64 (Q1m (std.int (std.nth (std.cel (std.at_ (Q0 l) i)) 0)) 16))) []:=by rw[eI];exact cDi
    repeat' first
     |(with_reducible refine And.intro (fun hx=>absurd hx (by first|(try simp[std,S1,hxn,hi0,h0,ai,hlt,hd])<;>omega|omega)) (fun _=>?_))
     |(with_reducible refine And.intro (fun _=>?_) (fun hx=>absurd hx (by first|(try simp[std,S1,hxn,hi0,h0,ai,hlt,hd])<;>omega|omega)))
     |(with_reducible refine And.intro (by first|(try simp[std,S1,hxn,hi0,h0,ai,hlt,hd])<;>omega|omega) ?_)
     |(with_reducible refine And.intro ?_ ?_)
     |(with_reducible intro hb)
    all_goals
     rw[if_pos trivial]
     generalize hp:std=p,hrx:Q0 l=rx,hdg:Q1m=dg
     generalize hT:Q5 p tys _ _ _ _ _=T
     cbv at hT
     subst hT
     simp only[Tree.ok,Q1,S0]
     subst hp hrx hdg
     have hxn2:(((Q0 l).length:Nat):Int)=n:=by have:=hn.eq;omega
     repeat' first
      |(with_reducible refine And.intro (fun hx=>absurd hx (by first|(try simp[std,S1,hxn2,hi0,h0,hkn,ai,hlt,am,h2m])<;>omega|omega)) (fun _=>?_))
      |(with_reducible refine And.intro (fun _=>?_) (fun hx=>absurd hx (by first|(try simp[std,S1,hxn2,hi0,h0,hkn,ai,hlt,am,h2m])<;>omega|omega)))
      |(with_reducible refine And.intro (by first|(try simp[std,S1,hxn2,hi0,h0,hkn,ai,hlt,am,h2m])<;>omega|omega) ?_)
      |(with_reducible refine And.intro ?_ ?_)
      |(with_reducible intro hb;try simp[std,S1,hxn2,hi0,h0,hkn,ai,hlt,am,h2m] at hb)
     all_goals
      have hnl:=hn.eq
      have hN2:=hN.eq
      have hpm:a.toNat+Q23 l 16 a=i.toNat:=by omega
      have hm8:=hmm.eq
      first
       |(have hT:=hT8.trans (if_pos (QS.2 ⟨by omega,by rw[hpm];omega,by rw[hpm];first|assumption|omega⟩))
         rw[hT] at hkd htt hww
         have hkd:kd=3:=hkd
         have htt:tt=i+1:=by rw[htt];show ((a.toNat+Q23 l 16 a+1:Nat):Int)=_;omega
         have hww:ww=true:=hww
         exact .pure rfl ⟨.inl (by rw[hkd]),.inl rfl,.inl (by rw[htt];rfl),.inl (by rw[hww]),trivial⟩)
       |(have hT9:=hT8.trans (if_neg (fun h=>by obtain⟨e1,e2,e3⟩:=QS.1 h;rw[hpm] at e2 e3;omega))
         have hT:=Q3H h0 hm8 (by omega) (by omega) (by first|assumption|omega)
         rw[hT9,hT] at hkd htt hww
         have hkd:kd=2:=hkd
         have htt:tt=k+m+2:=by rw[htt];show (((k+m+2).toNat:Nat):Int)=_;omega
         have hww:ww=true:=hww
         exact .pure rfl ⟨.inl (by rw[hkd]),.inl rfl,.inl (by rw[htt];rfl),.inl (by rw[hww]),trivial⟩)
       |(have hT9:=hT8.trans (if_neg (fun h=>by obtain⟨e1,e2,e3⟩:=QS.1 h;rw[hpm] at e2 e3;omega))
         have hT:=Q2k h0 hm8 (fun h=>by obtain⟨e1,e2,e3⟩:=h;omega)
         rw[hT9,hT] at hkd htt hww
         have hkd:kd=11:=hkd
         have htt:tt=k+1:=by rw[htt];show (((k+1).toNat:Nat):Int)=_;omega
         have hww:ww=false:=hww
         exact .pure rfl ⟨.inl (by rw[hkd]),.inl rfl,.inl (by rw[htt];rfl),.inl (by rw[hww]),trivial⟩)
  ·have hn1:=Q3h (l:=l) (base:=16) (i:=i) (by omega) (fun h=>absurd (by have:=hn.eq;omega) hlt)
   have hiN:i=a+N:=by omega
   clear hi hn1
   generalize hp:std=p,hrx:Q0 l=rx,hdg:Q1m=dg
   generalize hT:Q5 p tys (Q35 true true dg m) _ _ _ _=T
   cbv at hT
   subst hT
   simp only[Tree.ok,Q1,S0]
   subst hp hrx hdg
   have hxn:=QV hn
   repeat' first
    |(with_reducible refine And.intro (fun hx=>absurd hx (by first|(try simp[std,S1,hxn,hi0,h0,hlt])<;>omega|omega)) (fun _=>?_))
    |(with_reducible refine And.intro (fun _=>?_) (fun hx=>absurd hx (by first|(try simp[std,S1,hxn,hi0,h0,hlt])<;>omega|omega)))
    |(with_reducible refine And.intro (by first|(try simp[std,S1,hxn,hi0,h0,hlt])<;>omega|omega) ?_)
    |(with_reducible refine And.intro ?_ ?_)
    |(with_reducible intro hb)
   all_goals
    rw[if_pos trivial]
    generalize hp:std=p,hrx:Q0 l=rx,hdg:Q1m=dg
    generalize hT:Q5 p tys _ _ _ _ _=T
    cbv at hT
    subst hT
    simp only[Tree.ok,Q1,S0]
    subst hp hrx hdg
    have hxn2:(((Q0 l).length:Nat):Int)=n:=by have:=hn.eq;omega
    repeat' first
     |(with_reducible refine And.intro (fun hx=>absurd hx (by first|(try simp[std,S1,hxn2,hi0,h0,hkn,hlt,am,h2m])<;>omega|omega)) (fun _=>?_))
     |(with_reducible refine And.intro (fun _=>?_) (fun hx=>absurd hx (by first|(try simp[std,S1,hxn2,hi0,h0,hkn,hlt,am,h2m])<;>omega|omega)))
     |(with_reducible refine And.intro (by first|(try simp[std,S1,hxn2,hi0,h0,hkn,hlt,am,h2m])<;>omega|omega) ?_)
     |(with_reducible refine And.intro ?_ ?_)
     |(with_reducible intro hb;try simp[std,S1,hxn2,hi0,h0,hkn,hlt,am,h2m] at hb)
    all_goals
     have hnl:=hn.eq
     have hN2:=hN.eq
     have hpm:a.toNat+Q23 l 16 a=i.toNat:=by omega
     have hm8:=hmm.eq
     first
      |(have hT:=hT8.trans (if_pos (QS.2 ⟨by omega,by rw[hpm];omega,by rw[hpm];first|assumption|omega⟩))
        rw[hT] at hkd htt hww
        have hkd:kd=3:=hkd
        have htt:tt=i+1:=by rw[htt];show ((a.toNat+Q23 l 16 a+1:Nat):Int)=_;omega
        have hww:ww=true:=hww
        exact .pure rfl ⟨.inl (by rw[hkd]),.inl rfl,.inl (by rw[htt];rfl),.inl (by rw[hww]),trivial⟩)
      |(have hT9:=hT8.trans (if_neg (fun h=>by obtain⟨e1,e2,e3⟩:=QS.1 h;rw[hpm] at e2 e3;omega))
        have hT:=Q3H h0 hm8 (by omega) (by omega) (by first|assumption|omega)
        rw[hT9,hT] at hkd htt hww
        have hkd:kd=2:=hkd
        have htt:tt=k+m+2:=by rw[htt];show (((k+m+2).toNat:Nat):Int)=_;omega
        have hww:ww=true:=hww
        exact .pure rfl ⟨.inl (by rw[hkd]),.inl rfl,.inl (by rw[htt];rfl),.inl (by rw[hww]),trivial⟩)
      |(have hT9:=hT8.trans (if_neg (fun h=>by obtain⟨e1,e2,e3⟩:=QS.1 h;rw[hpm] at e2 e3;omega))
        have hT:=Q2k h0 hm8 (fun h=>by obtain⟨e1,e2,e3⟩:=h;omega)
        rw[hT9,hT] at hkd htt hww
        have hkd:kd=11:=hkd
        have htt:tt=k+1:=by rw[htt];show (((k+1).toNat:Nat):Int)=_;omega
        have hww:ww=false:=hww
        exact .pure rfl ⟨.inl (by rw[hkd]),.inl rfl,.inl (by rw[htt];rfl),.inl (by rw[hww]),trivial⟩)
theorem QkM (l:List Int)(hl:l.length≤1000000000)(hu:Un l)(k:Int)(h0:0≤k)(h1:k<l.length)(hs1:Q3 l k.toNat [38,35]=true)(hs2:Q3 l k.toNat [38,35,120]=true)(hfar:¬ k+1+((Qg l (k.toNat+1):Nat):Int)<l.length):BCall prog 91 [.slc 1 (Q0 l),.val (.int .i64 k)] [] (Q1t ((Q1h l k.toNat).1:Nat) k ((Q1h l k.toNat).2.1:Nat) (Q1h l k.toNat).2.2) []:=by
 have c1:BCall prog 85 [.slc 1 (Q0 l),.val (.int .i64 k),.val (.string ⟨#[38,35]⟩)] [] (.val (.bool (Q3 l k.toNat [38,35]))) []:=Qa l hl hu.i32 k h0 (by omega) ⟨#[38,35]⟩ (by decide)
 have c2:BCall prog 85 [.slc 1 (Q0 l),.val (.int .i64 k),.val (.string ⟨#[38,35,120]⟩)] [] (.val (.bool (Q3 l k.toNat [38,35,120]))) []:=Qa l hl hu.i32 k h0 (by omega) ⟨#[38,35,120]⟩ (by decide)
 have cL:=Q1a l hl (k+1) (by omega) (by omega)
 rw[show (k+1).toNat=k.toNat+1 by omega] at cL
 have hle:Qg l (k.toNat+1)≤l.length:=by
  unfold Qg
  split
  ·omega
  ·split
   ·have:=(List.takeWhile_sublist Qs (l:=l.drop (k.toNat+1))).length_le
    rw[List.length_drop] at this
    omega
   ·omega
 obtain⟨n,hn⟩:=Qy l
 have hxl:=Qi l
 have hkn:k<n:=by have:=hn.eq;omega
 have hn9:n≤1000000000:=by have:=hn.eq;omega
 obtain⟨m,hm9⟩:=exq ((Qg l (k.toNat+1):Nat):Int)
 have hm0:0≤m:=by omega
 have hmn:m≤n:=by have:=hn.eq;omega
 rw[←hm9] at cL hfar
 have hD:∀ i:Int,0≤i→i<n→∀ base,BCall prog 115 [.val (.int .i32 (l[i.toNat]?.getD 0)),.val (.int .i64 base)] [] (.val (.int .i64 (Q1m (l[i.toNat]?.getD 0) base))) []:=fun i i0 i1 base=>Q4J _ base (hu.at_ i i0 (by have:=hn.eq;omega))
 obtain⟨kd,hkd⟩:=exq (((Q1h l k.toNat).1:Nat):Int)
 obtain⟨tt,htt⟩:=exq (((Q1h l k.toNat).2.1:Nat):Int)
 obtain⟨ww,hww⟩:=exq ((Q1h l k.toNat).2.2:Bool)
 rw[←hkd,←htt,←hww,Q1t]
 clear hle
 have hfit:=QX l k.toNat _ (by omega) hs2
 simp only[List.length_cons,List.length_nil] at hfit
 obtain⟨a,ha⟩:=exq (k+3:Int)
 have hfn:a≤n:=by have:=hn.eq;omega
 have hT8:=Q8J hs1 16 a (.inl ⟨hs2,rfl,by omega⟩)
 rw[hs1] at c1
 rw[hs2] at c2
 obtain⟨N,hN⟩:∃ N:Int,IsN (Q23 l 16 a) N:=⟨_,rfl⟩
 have hN0:0≤N:=by have:=hN.eq;omega
 have hmm:IsN (Qg l (k.toNat+1)) m:=hm9
 have hka:k<a:=by omega
 have h2m:¬ k+1+m<n:=by have:=hn.eq;omega
 clear hs1 hs2 hfit hm9 hfar
 refine fnN (cs:=Q35 true true Q1m m) func91 rfl (by kernel_rfl) ?_
 intro w0 g0
 generalize hp:std=p,hrx:Q0 l=rx,hdg:Q1m=dg
 generalize hT:Q5 p tys (Q35 true true dg m) _ _ _ _=T
 cbv at hT
 subst hT
 simp only[Tree.ok,Q1,S0]
 subst hp hrx hdg
 have hxn:=QV hn
 repeat' first
  |(with_reducible refine And.intro (fun hx=>absurd hx (by first|(try simp[std,S1,hxn,h0,hkn])<;>omega|omega)) (fun _=>?_))
  |(with_reducible refine And.intro (fun _=>?_) (fun hx=>absurd hx (by first|(try simp[std,S1,hxn,h0,hkn])<;>omega|omega)))
  |(with_reducible refine And.intro (by first|(try simp[std,S1,hxn,h0,hkn])<;>omega|omega) ?_)
  |(with_reducible refine And.intro ?_ ?_)
  |(with_reducible intro hb)
 refine Q1r (cs:=Q35 true true Q1m m) (by kernel_rfl) (X:=Int) (fun i=>⟨[(0,.slc 1 (Q0 l)),(1,.val (.int .i64 k)),(4,.box 0 0),(5,.val (.int .i64 16)),(6,.val (.int .i64 a)),(7,.val (.int .i64 i))],[.box [.val (.int .i64 0),.val (.int .i64 0),.val (.int .i64 0),.val (.bool false)]]⟩) (fun i=>(a≤i∧i≤n)∧i+(Q23 l 16 i:Nat)=a+N) (fun i=>(n-i).toNat) a ?_ ?_ ?_
 ·exact⟨⟨Int.le_refl _,hfn⟩,by rw[hN.eq]⟩
 ·have ha2:std.add k 3=a:=ha.symm
  refine⟨[some 0],_,rfl,?_⟩
  repeat first
   |exact trivial
   |refine⟨rfl,?_⟩
   |refine⟨ha2,?_⟩
   |refine⟨gI (ha2),?_⟩
   |refine⟨gA (ha2),?_⟩
   |refine⟨gB (ha2),?_⟩
   |refine⟨gR (ha2),?_⟩
   |refine⟨gT (ha2),?_⟩
 ·rintro i ⟨⟨hq0,hqn⟩,hi⟩
  have hi0:a≤i:=hq0
  have hin:i≤n:=hqn
  have hi:i+(Q23 l 16 i:Nat)=a+N:=hi
  clear hq0 hqn hxn ha
  by_cases hlt:i<n
  ·have hil:i<l.length:=by have:=hn.eq;omega
   have ai:=Qv (l:=l) (i:=i) (by omega) hil
   have cDi:=hD i (by omega) hlt 16
   by_cases hd:0≤Q1m (l[i.toNat]?.getD 0) 16
   ·have hst:=Q6p (by omega) hil hd
    have hJ:i+1+(Q23 l 16 (i+1):Nat)=a+N:=by omega
    clear hi hst hil hT8 hN
    generalize hp:std=p,hrx:Q0 l=rx,hdg:Q1m=dg
    generalize hT:Q5 p tys (Q35 true true dg m) _ _ _ _=T
    cbv at hT
    subst hT
    simp only[Tree.ok,Q1,S0]
    subst hp hrx hdg
    have hxn:=QV hn
    have e9:(Q0 l).getD i.toNat .dead=.val (.int .i32 (l[i.toNat]?.getD 0)):=by rw[List.getD_eq_getElem?_getD];exact ai
    have eI:std.int (std.nth (std.cel (std.at_ (Q0 l) i)) 0)=l[i.toNat]?.getD 0:=by
     show intOf ((AV.cells ((Q0 l).getD i.toNat .dead)).getD 0 .dead)=_
     rw[e9];rfl
    have cDs:BCall prog 115 [.val (.int .i32 (std.int (std.nth (std.cel (std.at_ (Q0 l) i)) 0))),.val (.int .i64 16)] [] (.val (.int .i64 (Q1m (std.int (std.nth (std.cel (std.at_ (Q0 l) i)) 0)) 16))) []:=by rw[eI];exact cDi
    repeat' first
     |(with_reducible refine And.intro (fun hx=>absurd hx (by first|(try simp[std,S1,hxn,ai,hlt,hi0,h0,hd])<;>omega|omega)) (fun _=>?_))
     |(with_reducible refine And.intro (fun _=>?_) (fun hx=>absurd hx (by first|(try simp[std,S1,hxn,ai,hlt,hi0,h0,hd])<;>omega|omega)))
     |(with_reducible refine And.intro (by first|(try simp[std,S1,hxn,ai,hlt,hi0,h0,hd])<;>omega|omega) ?_)
     |(with_reducible refine And.intro ?_ ?_)
     |(with_reducible intro hb)
    all_goals
     refine⟨i+1,⟨⟨by omega,by omega⟩,hJ⟩,by omega,[some 0],_,rfl,?_⟩
     repeat first
      |exact trivial
      |refine⟨rfl,?_⟩
   ·have hn1:=Q3h (l:=l) (base:=16) (i:=i) (by omega) (fun _=>hd)
    have hiN:i=a+N:=by omega
    clear hi hil hn1
    generalize hp:std=p,hrx:Q0 l=rx,hdg:Q1m=dg
    generalize hT:Q5 p tys (Q35 true true dg m) _ _ _ _=T
    cbv at hT
    subst hT
    simp only[Tree.ok,Q1,S0]
    subst hp hrx hdg
    have hxn:=QV hn
    have e9:(Q0 l).getD i.toNat .dead=.val (.int .i32 (l[i.toNat]?.getD 0)):=by rw[List.getD_eq_getElem?_getD];exact ai
    have eI:std.int (std.nth (std.cel (std.at_ (Q0 l) i)) 0)=l[i.toNat]?.getD 0:=by
     show intOf ((AV.cells ((Q0 l).getD i.toNat .dead)).getD 0 .dead)=_
     rw[e9];rfl
    have cDs:BCall prog 115 [.val (.int .i32 (std.int (std.nth (std.cel (std.at_ (Q0 l) i)) 0))),.val (.int .i64 16)] [] (.val (.int .i64 (Q1m (std.int (std.nth (std.cel (std.at_ (Q0 l) i)) 0)) 16))) []:=by rw[eI];exact cDi
    repeat' first
     |(with_reducible refine And.intro (fun hx=>absurd hx (by first|(try simp[std,S1,hxn,hi0,h0,ai,hlt,hd])<;>omega|omega)) (fun _=>?_))
     |(with_reducible refine And.intro (fun _=>?_) (fun hx=>absurd hx (by first|(try simp[std,S1,hxn,hi0,h0,ai,hlt,hd])<;>omega|omega)))
     |(with_reducible refine And.intro (by first|(try simp[std,S1,hxn,hi0,h0,ai,hlt,hd])<;>omega|omega) ?_)
     |(with_reducible refine And.intro ?_ ?_)
     |(with_reducible intro hb)
    all_goals
     rw[if_pos trivial]
     generalize hp:std=p,hrx:Q0 l=rx,hdg:Q1m=dg
     generalize hT:Q5 p tys _ _ _ _ _=T
     cbv at hT
     subst hT
     simp only[Tree.ok,Q1,S0]
     subst hp hrx hdg
     have hxn2:(((Q0 l).length:Nat):Int)=n:=by have:=hn.eq;omega
     repeat' first
      |(with_reducible refine And.intro (fun hx=>absurd hx (by first|(try simp[std,S1,hxn2,hi0,h0,hkn,ai,hlt,h2m])<;>omega|omega)) (fun _=>?_))
      |(with_reducible refine And.intro (fun _=>?_) (fun hx=>absurd hx (by first|(try simp[std,S1,hxn2,hi0,h0,hkn,ai,hlt,h2m])<;>omega|omega)))
      |(with_reducible refine And.intro (by first|(try simp[std,S1,hxn2,hi0,h0,hkn,ai,hlt,h2m])<;>omega|omega) ?_)
      |(with_reducible refine And.intro ?_ ?_)
      |(with_reducible intro hb;try simp[std,S1,hxn2,hi0,h0,hkn,ai,hlt,h2m] at hb)
     all_goals
      have hnl:=hn.eq
      have hN2:=hN.eq
      have hpm:a.toNat+Q23 l 16 a=i.toNat:=by omega
      have hm8:=hmm.eq
      first
       |(have hT:=hT8.trans (if_pos (QS.2 ⟨by omega,by rw[hpm];omega,by rw[hpm];first|assumption|omega⟩))
         rw[hT] at hkd htt hww
         have hkd:kd=3:=hkd
         have htt:tt=i+1:=by rw[htt];show ((a.toNat+Q23 l 16 a+1:Nat):Int)=_;omega
         have hww:ww=true:=hww
         exact .pure rfl ⟨.inl (by rw[hkd]),.inl rfl,.inl (by rw[htt];rfl),.inl (by rw[hww]),trivial⟩)
       |(have hT9:=hT8.trans (if_neg (fun h=>by obtain⟨e1,e2,e3⟩:=QS.1 h;rw[hpm] at e2 e3;omega))
         have hT:=Q3H h0 hm8 (by omega) (by omega) (by first|assumption|omega)
         rw[hT9,hT] at hkd htt hww
         have hkd:kd=2:=hkd
         have htt:tt=k+m+2:=by rw[htt];show (((k+m+2).toNat:Nat):Int)=_;omega
         have hww:ww=true:=hww
         exact .pure rfl ⟨.inl (by rw[hkd]),.inl rfl,.inl (by rw[htt];rfl),.inl (by rw[hww]),trivial⟩)
       |(have hT9:=hT8.trans (if_neg (fun h=>by obtain⟨e1,e2,e3⟩:=QS.1 h;rw[hpm] at e2 e3;omega))
         have hT:=Q2k h0 hm8 (fun h=>by obtain⟨e1,e2,e3⟩:=h;omega)
         rw[hT9,hT] at hkd htt hww
         have hkd:kd=11:=hkd
         have htt:tt=k+1:=by rw[htt];show (((k+1).toNat:Nat):Int)=_;omega
         have hww:ww=false:=hww
         exact .pure rfl ⟨.inl (by rw[hkd]),.inl rfl,.inl (by rw[htt];rfl),.inl (by rw[hww]),trivial⟩)
  ·have hn1:=Q3h (l:=l) (base:=16) (i:=i) (by omega) (fun h=>absurd (by have:=hn.eq;omega) hlt)
   have hiN:i=a+N:=by omega
   clear hi hn1
   generalize hp:std=p,hrx:Q0 l=rx,hdg:Q1m=dg
   generalize hT:Q5 p tys (Q35 true true dg m) _ _ _ _=T
   cbv at hT
   subst hT
   simp only[Tree.ok,Q1,S0]
   subst hp hrx hdg
   have hxn:=QV hn
   repeat' first
    |(with_reducible refine And.intro (fun hx=>absurd hx (by first|(try simp[std,S1,hxn,hi0,h0,hlt])<;>omega|omega)) (fun _=>?_))
    |(with_reducible refine And.intro (fun _=>?_) (fun hx=>absurd hx (by first|(try simp[std,S1,hxn,hi0,h0,hlt])<;>omega|omega)))
    |(with_reducible refine And.intro (by first|(try simp[std,S1,hxn,hi0,h0,hlt])<;>omega|omega) ?_)
    |(with_reducible refine And.intro ?_ ?_)
    |(with_reducible intro hb)
   all_goals
    rw[if_pos trivial]
    generalize hp:std=p,hrx:Q0 l=rx,hdg:Q1m=dg
    generalize hT:Q5 p tys _ _ _ _ _=T
    cbv at hT
    subst hT
    simp only[Tree.ok,Q1,S0]
    subst hp hrx hdg
    have hxn2:(((Q0 l).length:Nat):Int)=n:=by have:=hn.eq;omega
    repeat' first
     |(with_reducible refine And.intro (fun hx=>absurd hx (by first|(try simp[std,S1,hxn2,hi0,h0,hkn,hlt,h2m])<;>omega|omega)) (fun _=>?_))
     |(with_reducible refine And.intro (fun _=>?_) (fun hx=>absurd hx (by first|(try simp[std,S1,hxn2,hi0,h0,hkn,hlt,h2m])<;>omega|omega)))
     |(with_reducible refine And.intro (by first|(try simp[std,S1,hxn2,hi0,h0,hkn,hlt,h2m])<;>omega|omega) ?_)
     |(with_reducible refine And.intro ?_ ?_)
     |(with_reducible intro hb;try simp[std,S1,hxn2,hi0,h0,hkn,hlt,h2m] at hb)
    all_goals
     have hnl:=hn.eq
     have hN2:=hN.eq
     have hpm:a.toNat+Q23 l 16 a=i.toNat:=by omega
     have hm8:=hmm.eq
     first
      |(have hT:=hT8.trans (if_pos (QS.2 ⟨by omega,by rw[hpm];omega,by rw[hpm];first|assumption|omega⟩))
        rw[hT] at hkd htt hww
        have hkd:kd=3:=hkd
        have htt:tt=i+1:=by rw[htt];show ((a.toNat+Q23 l 16 a+1:Nat):Int)=_;omega
        have hww:ww=true:=hww
        exact .pure rfl ⟨.inl (by rw[hkd]),.inl rfl,.inl (by rw[htt];rfl),.inl (by rw[hww]),trivial⟩)
      |(have hT9:=hT8.trans (if_neg (fun h=>by obtain⟨e1,e2,e3⟩:=QS.1 h;rw[hpm] at e2 e3;omega))
        have hT:=Q3H h0 hm8 (by omega) (by omega) (by first|assumption|omega)
        rw[hT9,hT] at hkd htt hww
        have hkd:kd=2:=hkd
        have htt:tt=k+m+2:=by rw[htt];show (((k+m+2).toNat:Nat):Int)=_;omega
        have hww:ww=true:=hww
        exact .pure rfl ⟨.inl (by rw[hkd]),.inl rfl,.inl (by rw[htt];rfl),.inl (by rw[hww]),trivial⟩)
      |(have hT9:=hT8.trans (if_neg (fun h=>by obtain⟨e1,e2,e3⟩:=QS.1 h;rw[hpm] at e2 e3;omega))
        have hT:=Q2k h0 hm8 (fun h=>by obtain⟨e1,e2,e3⟩:=h;omega)
        rw[hT9,hT] at hkd htt hww
        have hkd:kd=11:=hkd
        have htt:tt=k+1:=by rw[htt];show (((k+1).toNat:Nat):Int)=_;omega
        have hww:ww=false:=hww
        exact .pure rfl ⟨.inl (by rw[hkd]),.inl rfl,.inl (by rw[htt];rfl),.inl (by rw[hww]),trivial⟩)
end Go.Proofs.YthbjpdijafccjaaGreat
