/-
  Parts of the proof, joined: Wg. Conditions: as each theorem says.
-/
import Derived.Test.YthbjpdijafccjaaGreatQE29
set_option maxRecDepth 100000
set_option maxHeartbeats 8000000
namespace Go.Proofs.YthbjpdijafccjaaGreat
open Go.RowKit Go.Lib Tryz
theorem QdD (l:List Int)(hl:l.length≤1000000000)(hu:Un l)(f k to:Int)(h:Rng l k to)(h60:¬ l[k.toNat]?.getD 0=60)(hsp:Qc (l[k.toNat]?.getD 0)=true):BCall prog 92 [.slc 1 (Q0 l),.val (.int .i64 f),.val (.int .i64 k),.val (.int .i64 to)] [] (Q1Q (QZ l f k to) k) []:=by
 obtain⟨n,T,hT9,hn,h0,h1,h2,hLl,cS,cL,hle,cQ,cc,hst,hld,hrs,hhd,ak,hxl,htn,hn9⟩:=Qn8 hl hu h
 have hF:¬ (k=f∧l[k.toNat]?.getD 0=60):=fun e=>h60 e.2
 obtain⟨s,hs⟩:=exq (spI l k to:Int)
 have hP:QZ l f k to=(3,s):=by
  have e:=QcR h hsp
  have e2:=QlL l (k+1) to
  rw[h.part_tail hF,Q4t,hrs,show ((spN l k to:Nat):Int)=s from hs.symm,if_pos (by omega)]
 obtain⟨kd,hkd⟩:=exq (3:Int)
 obtain⟨tt,htt⟩:=exq (k+s:Int)
 have hP3:Q1Q (QZ l f k to) k=.agg [.val (.int .i64 kd),.val (.int .i64 k),.val (.int .i64 tt)]:=by rw[hP,hkd,htt];rfl
 rw[hP3]
 clear hP hP3
 clear hst hrs hhd hle cS cL cQ hld hT9 hLl hF
 refine fnN (cs:=Q2L true Qc 0 0) func92 rfl (by kernel_rfl) ?_
 intro w0 g0
 generalize hp:std=p,hrx:Q0 l=rx,hsp:Qc=sp
 generalize hT:Q5 p tys (Q2L true sp 0 0) _ _ _ _=T
 cbv at hT
 subst hT
 simp only[Tree.ok,Q1,S0]
 subst hp hrx hsp
 have hxn:=QV hn
 have cSp2:=Qn9 ak
 repeat' first
  |(with_reducible refine And.intro (fun hx=>absurd hx (by first|(try simp[std,S1,hxn,ak,h0,h1,htn,hsp,h60])<;>omega|omega)) (fun _=>?_))
  |(with_reducible refine And.intro (fun _=>?_) (fun hx=>absurd hx (by first|(try simp[std,S1,hxn,ak,h0,h1,htn,hsp,h60])<;>omega|omega)))
  |(with_reducible refine And.intro (by first|(try simp[std,S1,hxn,ak,h0,h1,htn,hsp,h60])<;>omega|omega) ?_)
  |(with_reducible refine And.intro ?_ ?_)
  |(with_reducible intro hb)
 all_goals first
  |exact cSp2
  |skip
 all_goals
  refine Q1r (cs:=Q2L true Qc 0 0) (by kernel_rfl) (X:=Int) (fun i=>⟨[(0,.slc 1 (Q0 l)),(1,.val (.int .i64 f)),(2,.val (.int .i64 k)),(3,.val (.int .i64 to)),(8,.box 0 0),(9,.val (.int .i64 i))],[.box [.val (.int .i64 0),.val (.int .i64 0),.val (.int .i64 0)]]⟩) (fun i=>k≤i∧i≤to∧spI l i to+(i-k)=s) (fun i=>(to-i).toNat) k ?_ ?_ ?_
  ·exact⟨Int.le_refl _,by omega,by rw[hs];omega⟩
  ·refine⟨[some 0],_,rfl,?_⟩
   repeat first
    |exact trivial
    |refine⟨rfl,?_⟩
  ·rintro i ⟨hi0,hin,hi⟩
   have hi0:k≤i:=hi0
   have hin:i≤to:=hin
   have hi:spI l i to+(i-k)=s:=hi
   rcases Int.lt_or_eq_of_le hin with hlt|heq
   ·have hR:Rng l i to:=⟨by omega,hlt,h2⟩
    have ai:=Qv (l:=l) (i:=i) (by omega) (by omega)
    have cSi:=Q1f (l[i.toNat]?.getD 0)
    have e9i:(Q0 l).getD i.toNat .dead=.val (.int .i32 (l[i.toNat]?.getD 0)):=by rw[List.getD_eq_getElem?_getD];exact ai
    have eIi:std.int (std.nth (std.cel (std.at_ (Q0 l) i)) 0)=l[i.toNat]?.getD 0:=by
     show intOf ((AV.cells ((Q0 l).getD i.toNat .dead)).getD 0 .dead)=_
     rw[e9i];rfl
    have cSi2:BCall prog 117 [.val (.int .i32 (std.int (std.nth (std.cel (std.at_ (Q0 l) i)) 0)))] [] (.val (.bool (Qc (std.int (std.nth (std.cel (std.at_ (Q0 l) i)) 0))))) []:=by rw[eIi];exact cSi
    cases hsi:Qc (l[i.toNat]?.getD 0) with
    |true =>
     have hst:=QcR hR hsi
     have hnx:spI l (i+1) to+(i+1-k)=s:=by omega
     clear hst hi hs hxn
     generalize hp:std=p,hrx:Q0 l=rx,hsp:Qc=sp
     generalize hT:Q5 p tys (Q2L true sp 0 0) _ _ _ _=T
     cbv at hT
     subst hT
     simp only[Tree.ok,Q1,S0]
     subst hp hrx hsp
     have hxn:=QV hn
     repeat' first
      |(with_reducible refine And.intro (fun hx=>absurd hx (by first|(try simp[std,S1,hxn,ai,h0,hi0,hlt,htn,hsi])<;>omega|omega)) (fun _=>?_))
      |(with_reducible refine And.intro (fun _=>?_) (fun hx=>absurd hx (by first|(try simp[std,S1,hxn,ai,h0,hi0,hlt,htn,hsi])<;>omega|omega)))
      |(with_reducible refine And.intro (by first|(try simp[std,S1,hxn,ai,h0,hi0,hlt,htn,hsi])<;>omega|omega) ?_)
      |(with_reducible refine And.intro ?_ ?_)
      |(with_reducible intro hb)
     all_goals first
      |exact cSi2
      |skip
     refine⟨i+1,⟨by omega,by omega,hnx⟩,by omega,[some 0],_,rfl,?_⟩
     repeat first
      |exact trivial
      |refine⟨rfl,?_⟩
    |false =>
     have hst:=Qcz (l:=l) (i:=i) (to:=to) (by omega) (fun _=>⟨hR,hsi⟩)
     have hti:tt=i:=by rw[htt];omega
     clear hst hi hs hxn
     generalize hp:std=p,hrx:Q0 l=rx,hsp:Qc=sp
     generalize hT:Q5 p tys (Q2L true sp 0 0) _ _ _ _=T
     cbv at hT
     subst hT
     simp only[Tree.ok,Q1,S0]
     subst hp hrx hsp
     have hxn:=QV hn
     repeat' first
      |(with_reducible refine And.intro (fun hx=>absurd hx (by first|(try simp[std,S1,hxn,ai,h0,hi0,hlt,htn,hsi])<;>omega|omega)) (fun _=>?_))
      |(with_reducible refine And.intro (fun _=>?_) (fun hx=>absurd hx (by first|(try simp[std,S1,hxn,ai,h0,hi0,hlt,htn,hsi])<;>omega|omega)))
      |(with_reducible refine And.intro (by first|(try simp[std,S1,hxn,ai,h0,hi0,hlt,htn,hsi])<;>omega|omega) ?_)
      |(with_reducible refine And.intro ?_ ?_)
      |(with_reducible intro hb)
     all_goals first
      |exact cSi2
      |skip
     rw[if_pos trivial]
     generalize hp:std=p,hrx:Q0 l=rx
     generalize hT:Q5 p tys _ _ _ _ _=T
     cbv at hT
     subst hT
     simp only[Tree.ok,Q1,S0]
     subst hp hrx
     exact .pure rfl ⟨.inl (by rw[hkd]),.inl rfl,.inl (by rw[hti]),trivial⟩
   ·have hst:=Qcz (l:=l) (i:=i) (to:=to) (by omega) (fun h9=>absurd h9 (by omega))
    have hti:tt=i:=by rw[htt];omega
    clear hst hi hs hxn
    have hlt:¬ i<to:=by omega
    generalize hp:std=p,hrx:Q0 l=rx,hsp:Qc=sp
    generalize hT:Q5 p tys (Q2L true sp 0 0) _ _ _ _=T
    cbv at hT
    subst hT
    simp only[Tree.ok,Q1,S0]
    subst hp hrx hsp
    have hxn:=QV hn
    repeat' first
     |(with_reducible refine And.intro (fun hx=>absurd hx (by first|(try simp[std,S1,hxn,h0,hi0,hlt,htn])<;>omega|omega)) (fun _=>?_))
     |(with_reducible refine And.intro (fun _=>?_) (fun hx=>absurd hx (by first|(try simp[std,S1,hxn,h0,hi0,hlt,htn])<;>omega|omega)))
     |(with_reducible refine And.intro (by first|(try simp[std,S1,hxn,h0,hi0,hlt,htn])<;>omega|omega) ?_)
     |(with_reducible refine And.intro ?_ ?_)
     |(with_reducible intro hb)
    rw[if_pos trivial]
    generalize hp:std=p,hrx:Q0 l=rx
    generalize hT:Q5 p tys _ _ _ _ _=T
    cbv at hT
    subst hT
    simp only[Tree.ok,Q1,S0]
    subst hp hrx
    exact .pure rfl ⟨.inl (by rw[hkd]),.inl rfl,.inl (by rw[hti]),trivial⟩
end Go.Proofs.YthbjpdijafccjaaGreat
