/-
  Parts of the proof, joined: Wj. Conditions: as each theorem says.
-/
import Derived.Test.YthbjpdijafccjaaGreatQE29
set_option maxRecDepth 100000
set_option maxHeartbeats 8000000
namespace Go.Proofs.YthbjpdijafccjaaGreat
open Go.RowKit Go.Lib Tryz
theorem QhP (l:List Int)(hl:l.length≤1000000000)(hu:Un l)(f k to:Int)(h:Rng l k to)(h60:¬ l[k.toNat]?.getD 0=60)(hsp:Qc (l[k.toNat]?.getD 0)=false)(hlead:Qg (l.take to.toNat) k.toNat=0)(h61:¬ l[k.toNat]?.getD 0=61)(hnq:¬ (l[k.toNat]?.getD 0=34∨l[k.toNat]?.getD 0=39))(hk2:k+2=to)(h47:l[k.toNat]?.getD 0=47)(h62:l[(k+1).toNat]?.getD 0=62):BCall prog 92 [.slc 1 (Q0 l),.val (.int .i64 f),.val (.int .i64 k),.val (.int .i64 to)] [] (Q1Q (QZ l f k to) k) []:=by
 obtain⟨n,T,hT9,hn,h0,h1,h2,hLl,cS,cL,hle,cQ,cc,hst,hld,hrs,hhd,ak,hxl,htn,hn9⟩:=Qn8 hl hu h
 have hF:¬ (k=f∧l[k.toNat]?.getD 0=60):=fun e=>h60 e.2
 have hsp0:spN l k to=0:=Q27 h0 (fun _=>⟨h,hsp⟩)
 have n3:¬ (0<(Q2Q Qc (QB l k to) 0:Int)):=by rw[hrs,hsp0];decide
 obtain⟨m,hm⟩:=exq ((Qg (l.take to.toNat) k.toNat:Nat):Int)
 have hm0:0≤m:=by omega
 have hmt:k+m≤to:=by omega
 rw[←hm] at cL
 have n4:¬ (0<(Qg (QB l k to) 0:Int)):=by rw[hld,hlead];decide
 have hmz:m=0:=by rw[hm,hlead];rfl
 have hmn:¬ 0<m:=by omega
 have n5:¬ ((QB l k to).getD 0 0=61):=by rw[hhd];exact h61
 obtain⟨F,hFq⟩:=exq (Qx (l.take to.toNat) k:Int)
 rw[←hFq] at cQ
 have n6:¬ (0<Q1v (QB l k to)):=by rw[h.noval hnq];decide
 have q34:¬ l[k.toNat]?.getD 0=34:=fun e=>hnq (.inl e)
 have q39:¬ l[k.toNat]?.getD 0=39:=fun e=>hnq (.inr e)
 have ak1:=Qv (l:=l) (i:=k+1) (by omega) (by omega)
 have hk1:¬ k+1=to:=by omega
 have hE:Q68 l k to:=.inr ⟨hk2,h47,h62⟩
 have hP:QZ l f k to=(6,to-k):=by rw[h.part_tail hF,Q4t,if_neg n3,if_neg n4,if_neg n5,if_neg n6,if_pos (h.ends.2 hE),h.len]
 obtain⟨kd,hkd⟩:=exq (6:Int)
 obtain⟨tt,htt⟩:=exq (to:Int)
 have hP3:Q1Q (QZ l f k to) k=.agg [.val (.int .i64 kd),.val (.int .i64 k),.val (.int .i64 tt)]:=by rw[hP,hkd,htt];(show AV.agg [_,_,.val (.int .i64 (k+(to-k)))]=_;rw[show k+(to-k)=to by omega])
 rw[hP3]
 clear hP hP3
 have hsp9:Qc 47=false:=rfl
 clear hst hrs hhd hle cS hT9 hLl hF hld n3 n4 n5 n6 hm hlead hsp0 hmz hFq hE
 refine fnN (cs:=Q2L true Qc m F) func92 rfl (by kernel_rfl) ?_
 intro w0 g0
 generalize hp:std=p,hrx:Q0 l=rx,hsp:Qc=sp
 generalize hT:Q5 p tys (Q2L true sp m F) _ _ _ _=T
 cbv at hT
 subst hT
 simp only[Tree.ok,Q1,S0]
 subst hp hrx hsp
 have hxn:=QV hn
 have cSp2:=Qn9 ak
 have cL2:BCall prog 116 [.slc 1 (std.cut (Q0 l) 0 to),.val (.int .i64 k)] [] (.val (.int .i64 m)) []:=by rw[cc];exact cL
 repeat' first
  |(with_reducible refine And.intro (fun hx=>absurd hx (by first|(try simp[std,S1,hxn,ak,h0,h1,htn,h60,hsp,hmn,hmt,h61,q34,q39,hk1,hk2,h47,ak1,h62,hsp9])<;>omega|omega)) (fun _=>?_))
  |(with_reducible refine And.intro (fun _=>?_) (fun hx=>absurd hx (by first|(try simp[std,S1,hxn,ak,h0,h1,htn,h60,hsp,hmn,hmt,h61,q34,q39,hk1,hk2,h47,ak1,h62,hsp9])<;>omega|omega)))
  |(with_reducible refine And.intro (by first|(try simp[std,S1,hxn,ak,h0,h1,htn,h60,hsp,hmn,hmt,h61,q34,q39,hk1,hk2,h47,ak1,h62,hsp9])<;>omega|omega) ?_)
  |(with_reducible refine And.intro ?_ ?_)
  |(with_reducible intro hb)
 all_goals first
  |exact cSp2
  |exact cL2
  |exact cQ
  |exact .pure rfl ⟨.inl (by rw[hkd]),.inl rfl,.inl (by first|(rw[htt];done)|(rw[htt];rfl)),trivial⟩
theorem Qga (l:List Int)(hl:l.length≤1000000000)(hu:Un l)(f k to:Int)(h:Rng l k to)(h60:¬ l[k.toNat]?.getD 0=60)(hsp:Qc (l[k.toNat]?.getD 0)=false)(hlead:Qg (l.take to.toNat) k.toNat=0)(h61:¬ l[k.toNat]?.getD 0=61)(hnq:¬ (l[k.toNat]?.getD 0=34∨l[k.toNat]?.getD 0=39))(hk2:k+2=to)(h47:l[k.toNat]?.getD 0=47)(h62:¬ l[(k+1).toNat]?.getD 0=62):BCall prog 92 [.slc 1 (Q0 l),.val (.int .i64 f),.val (.int .i64 k),.val (.int .i64 to)] [] (Q1Q (QZ l f k to) k) []:=by
 obtain⟨n,T,hT9,hn,h0,h1,h2,hLl,cS,cL,hle,cQ,cc,hst,hld,hrs,hhd,ak,hxl,htn,hn9⟩:=Qn8 hl hu h
 have hF:¬ (k=f∧l[k.toNat]?.getD 0=60):=fun e=>h60 e.2
 have hsp0:spN l k to=0:=Q27 h0 (fun _=>⟨h,hsp⟩)
 have n3:¬ (0<(Q2Q Qc (QB l k to) 0:Int)):=by rw[hrs,hsp0];decide
 obtain⟨m,hm⟩:=exq ((Qg (l.take to.toNat) k.toNat:Nat):Int)
 have hm0:0≤m:=by omega
 have hmt:k+m≤to:=by omega
 rw[←hm] at cL
 have n4:¬ (0<(Qg (QB l k to) 0:Int)):=by rw[hld,hlead];decide
 have hmz:m=0:=by rw[hm,hlead];rfl
 have hmn:¬ 0<m:=by omega
 have n5:¬ ((QB l k to).getD 0 0=61):=by rw[hhd];exact h61
 obtain⟨F,hFq⟩:=exq (Qx (l.take to.toNat) k:Int)
 rw[←hFq] at cQ
 have n6:¬ (0<Q1v (QB l k to)):=by rw[h.noval hnq];decide
 have q34:¬ l[k.toNat]?.getD 0=34:=fun e=>hnq (.inl e)
 have q39:¬ l[k.toNat]?.getD 0=39:=fun e=>hnq (.inr e)
 have ak1:=Qv (l:=l) (i:=k+1) (by omega) (by omega)
 have hk1:¬ k+1=to:=by omega
 have hE:¬ Q68 l k to:=by
  rintro (⟨e,_⟩|⟨_,_,e⟩)
  ·exact hk1 e
  ·exact h62 e
 have hP:QZ l f k to=(7,1):=by rw[h.part_tail hF,Q4t,if_neg n3,if_neg n4,if_neg n5,if_neg n6,if_neg (fun e=>hE (h.ends.1 e))]
 obtain⟨kd,hkd⟩:=exq (7:Int)
 obtain⟨tt,htt⟩:=exq (k+1:Int)
 have hP3:Q1Q (QZ l f k to) k=.agg [.val (.int .i64 kd),.val (.int .i64 k),.val (.int .i64 tt)]:=by rw[hP,hkd,htt];rfl
 rw[hP3]
 clear hP hP3
 have hsp9:Qc 47=false:=rfl
 clear hst hrs hhd hle cS hT9 hLl hF hld n3 n4 n5 n6 hm hlead hsp0 hmz hFq hE
 refine fnN (cs:=Q2L true Qc m F) func92 rfl (by kernel_rfl) ?_
 intro w0 g0
 generalize hp:std=p,hrx:Q0 l=rx,hsp:Qc=sp
 generalize hT:Q5 p tys (Q2L true sp m F) _ _ _ _=T
 cbv at hT
 subst hT
 simp only[Tree.ok,Q1,S0]
 subst hp hrx hsp
 have hxn:=QV hn
 have cSp2:=Qn9 ak
 have cL2:BCall prog 116 [.slc 1 (std.cut (Q0 l) 0 to),.val (.int .i64 k)] [] (.val (.int .i64 m)) []:=by rw[cc];exact cL
 repeat' first
  |(with_reducible refine And.intro (fun hx=>absurd hx (by first|(try simp[std,S1,hxn,ak,h0,h1,htn,h60,hsp,hmn,hmt,h61,q34,q39,hk1,hk2,h47,ak1,h62,hsp9])<;>omega|omega)) (fun _=>?_))
  |(with_reducible refine And.intro (fun _=>?_) (fun hx=>absurd hx (by first|(try simp[std,S1,hxn,ak,h0,h1,htn,h60,hsp,hmn,hmt,h61,q34,q39,hk1,hk2,h47,ak1,h62,hsp9])<;>omega|omega)))
  |(with_reducible refine And.intro (by first|(try simp[std,S1,hxn,ak,h0,h1,htn,h60,hsp,hmn,hmt,h61,q34,q39,hk1,hk2,h47,ak1,h62,hsp9])<;>omega|omega) ?_)
  |(with_reducible refine And.intro ?_ ?_)
  |(with_reducible intro hb)
 all_goals first
  |exact cSp2
  |exact cL2
  |exact cQ
  |exact .pure rfl ⟨.inl (by rw[hkd]),.inl rfl,.inl (by first|(rw[htt];done)|(rw[htt];rfl)),trivial⟩
end Go.Proofs.YthbjpdijafccjaaGreat
