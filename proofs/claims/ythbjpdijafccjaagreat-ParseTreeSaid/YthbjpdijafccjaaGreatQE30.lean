/-
  Parts of the proof, joined: Wd. Conditions: as each theorem says.
-/
import Derived.Test.YthbjpdijafccjaaGreatQE29
set_option maxRecDepth 100000
set_option maxHeartbeats 8000000
namespace Go.Proofs.YthbjpdijafccjaaGreat
open Go.RowKit Go.Lib Tryz
theorem Qaj (l:List Int)(hl:l.length≤1000000000)(hu:Un l)(f k to:Int)(h:Rng l k to)(hkf:k=f)(h60:l[k.toNat]?.getD 0=60)(hs:Q3 (l.take to.toNat) k.toNat [60,47]=true):BCall prog 92 [.slc 1 (Q0 l),.val (.int .i64 f),.val (.int .i64 k),.val (.int .i64 to)] [] (Q1Q (QZ l f k to) k) []:=by
 obtain⟨n,T,hT9,hn,h0,h1,h2,hLl,cS,cL,hle,cQ,cc,hst,hld,hrs,hhd,ak,hxl,htn,hn9⟩:=Qn8 hl hu h
 have hP:QZ l f k to=(1,2):=by rw[QZ,decide_eq_true hkf,Qp,if_pos ⟨rfl,by rw[hst];exact hs⟩]
 obtain⟨kd,hkd⟩:=exq (1:Int)
 obtain⟨tt,htt⟩:=exq (k+2:Int)
 have hP3:Q1Q (QZ l f k to) k=.agg [.val (.int .i64 kd),.val (.int .i64 k),.val (.int .i64 tt)]:=by rw[hP,hkd,htt];rfl
 rw[hP3]
 clear hP hP3
 have cS:BCall prog 85 [.slc 1 T,.val (.int .i64 k),.val (.string ⟨#[60,47]⟩)] [] (.val (.bool true)) []:=by
  have e:Q3 (l.take to.toNat) k.toNat (⟨#[60,47]⟩:ByteArray).data.toList=true:=hs
  rw[e] at cS;exact cS
 clear hs hst hld hrs hhd hle cL cQ hT9 hLl
 subst hkf
 refine fnN (cs:=Q2L true Qc 0 0) func92 rfl (by kernel_rfl) ?_
 intro w0 g0
 generalize hp:std=p,hrx:Q0 l=rx,hsp:Qc=sp
 generalize hT:Q5 p tys (Q2L true sp 0 0) _ _ _ _=T
 cbv at hT
 subst hT
 simp only[Tree.ok,Q1,S0]
 subst hp hrx hsp
 have hxn:=QV hn
 have cSp2:=Qn9 ak
 have cS2:BCall prog 85 [.slc 1 (std.cut (Q0 l) 0 to),.val (.int .i64 k),.val (.string ⟨#[60,47]⟩)] [] (.val (.bool true)) []:=by rw[cc];exact cS
 repeat' first
  |(with_reducible refine And.intro (fun hx=>absurd hx (by first|(try simp[std,S1,hxn,ak,h0,h1,htn,h60])<;>omega|omega)) (fun _=>?_))
  |(with_reducible refine And.intro (fun _=>?_) (fun hx=>absurd hx (by first|(try simp[std,S1,hxn,ak,h0,h1,htn,h60])<;>omega|omega)))
  |(with_reducible refine And.intro (by first|(try simp[std,S1,hxn,ak,h0,h1,htn,h60])<;>omega|omega) ?_)
  |(with_reducible refine And.intro ?_ ?_)
  |(with_reducible intro hb)
 all_goals first
  |exact cS2
  |exact cSp2
  |exact .pure rfl ⟨.inl (by rw[hkd]),.inl rfl,.inl (by first|(rw[htt];done)|(rw[htt];rfl)),trivial⟩
theorem Qab (l:List Int)(hl:l.length≤1000000000)(hu:Un l)(f k to:Int)(h:Rng l k to)(hkf:k=f)(h60:l[k.toNat]?.getD 0=60)(hs:Q3 (l.take to.toNat) k.toNat [60,47]=false):BCall prog 92 [.slc 1 (Q0 l),.val (.int .i64 f),.val (.int .i64 k),.val (.int .i64 to)] [] (Q1Q (QZ l f k to) k) []:=by
 obtain⟨n,T,hT9,hn,h0,h1,h2,hLl,cS,cL,hle,cQ,cc,hst,hld,hrs,hhd,ak,hxl,htn,hn9⟩:=Qn8 hl hu h
 have hP:QZ l f k to=(1,1):=by rw[QZ,decide_eq_true hkf,Qp,if_neg (fun e=>by rw[hst,hs] at e;cases e.2),if_pos ⟨rfl,by rw[hhd];exact h60⟩]
 obtain⟨kd,hkd⟩:=exq (1:Int)
 obtain⟨tt,htt⟩:=exq (k+1:Int)
 have hP3:Q1Q (QZ l f k to) k=.agg [.val (.int .i64 kd),.val (.int .i64 k),.val (.int .i64 tt)]:=by rw[hP,hkd,htt];rfl
 rw[hP3]
 clear hP hP3
 have cS:BCall prog 85 [.slc 1 T,.val (.int .i64 k),.val (.string ⟨#[60,47]⟩)] [] (.val (.bool false)) []:=by
  have e:Q3 (l.take to.toNat) k.toNat (⟨#[60,47]⟩:ByteArray).data.toList=false:=hs
  rw[e] at cS;exact cS
 clear hs hst hld hrs hhd hle cL cQ hT9 hLl
 subst hkf
 refine fnN (cs:=Q2L false Qc 0 0) func92 rfl (by kernel_rfl) ?_
 intro w0 g0
 generalize hp:std=p,hrx:Q0 l=rx,hsp:Qc=sp
 generalize hT:Q5 p tys (Q2L false sp 0 0) _ _ _ _=T
 cbv at hT
 subst hT
 simp only[Tree.ok,Q1,S0]
 subst hp hrx hsp
 have hxn:=QV hn
 have cSp2:=Qn9 ak
 have cS2:BCall prog 85 [.slc 1 (std.cut (Q0 l) 0 to),.val (.int .i64 k),.val (.string ⟨#[60,47]⟩)] [] (.val (.bool false)) []:=by rw[cc];exact cS
 repeat' first
  |(with_reducible refine And.intro (fun hx=>absurd hx (by first|(try simp[std,S1,hxn,ak,h0,h1,htn,h60])<;>omega|omega)) (fun _=>?_))
  |(with_reducible refine And.intro (fun _=>?_) (fun hx=>absurd hx (by first|(try simp[std,S1,hxn,ak,h0,h1,htn,h60])<;>omega|omega)))
  |(with_reducible refine And.intro (by first|(try simp[std,S1,hxn,ak,h0,h1,htn,h60])<;>omega|omega) ?_)
  |(with_reducible refine And.intro ?_ ?_)
  |(with_reducible intro hb)
 all_goals first
  |exact cS2
  |exact cSp2
  |exact .pure rfl ⟨.inl (by rw[hkd]),.inl rfl,.inl (by first|(rw[htt];done)|(rw[htt];rfl)),trivial⟩
end Go.Proofs.YthbjpdijafccjaaGreat
