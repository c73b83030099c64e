/-
  Parts of the proof, joined: Vj. Conditions: as each theorem says.
-/
import Derived.Test.YthbjpdijafccjaaGreatQE25
set_option maxRecDepth 100000
set_option maxHeartbeats 8000000
namespace Go.Proofs.YthbjpdijafccjaaGreat
open Go.RowKit Go.Lib Tryz
theorem Q9e {l:List Int}{k:Nat}:0<Qg l k↔k<l.length∧Qn (l[k]?.getD 0)=true:=by
 unfold Qg
 by_cases h:k<l.length
 ·rw[List.getElem?_eq_getElem h]
  show 0<(if Qn l[k]=true then ((l.drop k).takeWhile Qs).length else 0)↔k<l.length∧Qn l[k]=true
  by_cases hs:Qn l[k]=true
  ·rw[if_pos hs,List.drop_eq_getElem_cons h,List.takeWhile_cons,if_pos (Q9X _ hs),List.length_cons]
   exact⟨fun _=>⟨h,hs⟩,fun _=>by omega⟩
  ·rw[if_neg hs]
   exact⟨fun h2=>by omega,fun h2=>absurd h2.2 hs⟩
 ·rw[List.getElem?_eq_none (by omega)]
  exact⟨fun h2=>absurd h2 (Nat.lt_irrefl 0),fun h2=>absurd h2.1 h⟩
structure NoMark (l:List Int) (k:Nat):Prop where
 s1:Q3 l k [60,33,45,45]=false
 s2:Q3 l k [60,33,91,67,68,65,84,65,91]=false
 s3:Q3 l k [60,63]=false
 s4:Q3 l k [60,33,68,79,67,84,89,80,69]=false
 s5:Q3 l k [60,47]=false
theorem NoMark.markup {l:List Int}{k:Nat}(h:NoMark l k):Q1D l k=if 0<Qg l (k+1) then Q1A l k else (11,k+1,false):=by
 rw[Q1D,h.s1,h.s2,h.s3,h.s4,h.s5];rfl
def plN (l:List Int)(i:Int):Nat:=((l.drop i.toNat).takeWhile Q1M).length
theorem Qj2 {l:List Int}{i:Int}(h0:0≤i)(h1:i<l.length)(h:Q1M (l[i.toNat]?.getD 0)=true):plN l i=plN l (i+1)+1:=by
 obtain⟨hl,e⟩:=Q56 h0 h1
 rw[e] at h
 rw[plN,plN,List.drop_eq_getElem_cons hl,List.takeWhile_cons,if_pos h,List.length_cons,show (i+1).toNat=i.toNat+1 by omega]
theorem Qd3 {l:List Int}{i:Int}(h0:0≤i)(h:i<l.length→Q1M (l[i.toNat]?.getD 0)=false):plN l i=0:=by
 by_cases h1:i<l.length
 ·obtain⟨hl,e⟩:=Q56 h0 h1
  have h:=h h1
  rw[e] at h
  rw[plN,List.drop_eq_getElem_cons hl,List.takeWhile_cons,if_neg (by rw[h];decide)];rfl
 ·rw[plN,List.drop_of_length_le (by omega)];rfl
theorem QfW (l:List Int)(hl:l.length≤1000000000)(hu:Un l)(k:Int)(h0:0≤k)(h1:k<l.length)(hM:NoMark l k.toNat)(h60:l[k.toNat]?.getD 0=60)(hk1:k+1<l.length)(hns:Qn (l[k.toNat+1]?.getD 0)=true):BCall prog 64 [.slc 1 (Q0 l),.val (.int .i64 k)] [] (Q1t ((Qk l k.toNat).1:Nat) k ((Qk l k.toNat).2.1:Nat) (Qk l k.toNat).2.2) []:=by
 have c1:BCall prog 85 [.slc 1 (Q0 l),.val (.int .i64 k),.val (.string ⟨#[60,33,45,45]⟩)] [] (.val (.bool false)) []:=by
  have:=Qa l hl hu.i32 k h0 (by omega) ⟨#[60,33,45,45]⟩ (by decide)
  have e:Q3 l k.toNat (⟨#[60,33,45,45]⟩:ByteArray).data.toList=false:=hM.s1
  rw[e] at this
  exact this
 have c2:BCall prog 85 [.slc 1 (Q0 l),.val (.int .i64 k),.val (.string ⟨#[60,33,91,67,68,65,84,65,91]⟩)] [] (.val (.bool false)) []:=by
  have:=Qa l hl hu.i32 k h0 (by omega) ⟨#[60,33,91,67,68,65,84,65,91]⟩ (by decide)
  have e:Q3 l k.toNat (⟨#[60,33,91,67,68,65,84,65,91]⟩:ByteArray).data.toList=false:=hM.s2
  rw[e] at this
  exact this
 have c3:BCall prog 85 [.slc 1 (Q0 l),.val (.int .i64 k),.val (.string ⟨#[60,63]⟩)] [] (.val (.bool false)) []:=by
  have:=Qa l hl hu.i32 k h0 (by omega) ⟨#[60,63]⟩ (by decide)
  have e:Q3 l k.toNat (⟨#[60,63]⟩:ByteArray).data.toList=false:=hM.s3
  rw[e] at this
  exact this
 have c4:BCall prog 85 [.slc 1 (Q0 l),.val (.int .i64 k),.val (.string ⟨#[60,33,68,79,67,84,89,80,69]⟩)] [] (.val (.bool false)) []:=by
  have:=Qa l hl hu.i32 k h0 (by omega) ⟨#[60,33,68,79,67,84,89,80,69]⟩ (by decide)
  have e:Q3 l k.toNat (⟨#[60,33,68,79,67,84,89,80,69]⟩:ByteArray).data.toList=false:=hM.s4
  rw[e] at this
  exact this
 have c5:BCall prog 85 [.slc 1 (Q0 l),.val (.int .i64 k),.val (.string ⟨#[60,47]⟩)] [] (.val (.bool false)) []:=by
  have:=Qa l hl hu.i32 k h0 (by omega) ⟨#[60,47]⟩ (by decide)
  have e:Q3 l k.toNat (⟨#[60,47]⟩:ByteArray).data.toList=false:=hM.s5
  rw[e] at this
  exact this
 have ak:=Qv (l:=l) (i:=k) h0 h1
 obtain⟨n,hn⟩:=Qy l
 have hxl:=Qi l
 have hkn:k<n:=by have:=hn.eq;omega
 have hn9:n≤1000000000:=by have:=hn.eq;omega
 have an:=Qv (l:=l) (i:=k+1) (by omega) hk1
 have hkn1:k+1<n:=by have:=hn.eq;omega
 have cN:=Q5U (l[(k+1).toNat]?.getD 0)
 have hk2:(k+1).toNat=k.toNat+1:=by omega
 rw[show Qn (l[(k+1).toNat]?.getD 0)=true by rw[hk2];exact hns] at cN
 rw[Q4T h60,hM.markup,if_pos (Q9e.2 ⟨by omega,hns⟩)]
 have cT:=Qhc l hl k h0 h1
 obtain⟨kd,hkd⟩:=exq ((((Q1A l k.toNat).1:Nat):Int):Int)
 obtain⟨t,ht⟩:=exq ((((Q1A l k.toNat).2.1:Nat):Int):Int)
 obtain⟨w,hw⟩:=exq ((Q1A l k.toNat).2.2:Bool)
 rw[←hkd,←ht,←hw] at cT ⊢
 rw[Q1t] at cT ⊢
 clear hkd ht hw hM hk1 hk2 hns
 refine fnN (cs:=Q3W false false false false false true kd k t w) func64 rfl (by kernel_rfl) ?_
 intro w0 g0
 generalize hp:std=p,hrx:Q0 l=rx
 generalize hT:Q5 p tys (Q3W false false false false false true kd k t w) _ _ _ _=T
 cbv at hT
 subst hT
 simp only[Tree.ok,Q1,S0]
 subst hp hrx
 have hxn:=QV hn
 have eN:std.int (std.nth (std.cel (std.at_ (Q0 l) (std.add k 1))) 0)=l[(k+1).toNat]?.getD 0:=by
  have e9:(Q0 l).getD (k+1).toNat .dead=.val (.int .i32 (l[(k+1).toNat]?.getD 0)):=by rw[List.getD_eq_getElem?_getD];exact an
  show intOf ((AV.cells ((Q0 l).getD (k+1).toNat .dead)).getD 0 .dead)=_
  rw[e9];rfl
 have cNs:BCall prog 89 [.val (.int .i32 (std.int (std.nth (std.cel (std.at_ (Q0 l) (std.add k 1))) 0)))] [] (.val (.bool true)) []:=by rw[eN];exact cN
 repeat' first
  |(with_reducible refine And.intro (fun hx=>absurd hx (by first|(try simp[std,S1,hxn,ak,an,h60,hkn,hkn1,h0])<;>omega|omega)) (fun _=>?_))
  |(with_reducible refine And.intro (fun _=>?_) (fun hx=>absurd hx (by first|(try simp[std,S1,hxn,ak,an,h60,hkn,hkn1,h0])<;>omega|omega)))
  |(with_reducible refine And.intro (by first|(try simp[std,S1,hxn,ak,an,h60,hkn,hkn1,h0])<;>omega|omega) ?_)
  |(with_reducible refine And.intro ?_ ?_)
  |(with_reducible intro hb)
 all_goals first
  |exact c1
  |exact c2
  |exact c3
  |exact c4
  |exact c5
  |exact cNs
  |exact cT
  |exact .pure rfl ⟨.inl rfl,.inl rfl,.inl rfl,.inl rfl,trivial⟩
theorem Qg4 (l:List Int)(hl:l.length≤1000000000)(hu:Un l)(k:Int)(h0:0≤k)(h1:k<l.length)(hM:NoMark l k.toNat)(h60:l[k.toNat]?.getD 0=60)(hk1:k+1<l.length)(hns:Qn (l[k.toNat+1]?.getD 0)=false):BCall prog 64 [.slc 1 (Q0 l),.val (.int .i64 k)] [] (Q1t ((Qk l k.toNat).1:Nat) k ((Qk l k.toNat).2.1:Nat) (Qk l k.toNat).2.2) []:=by
 have c1:BCall prog 85 [.slc 1 (Q0 l),.val (.int .i64 k),.val (.string ⟨#[60,33,45,45]⟩)] [] (.val (.bool false)) []:=by
  have:=Qa l hl hu.i32 k h0 (by omega) ⟨#[60,33,45,45]⟩ (by decide)
  have e:Q3 l k.toNat (⟨#[60,33,45,45]⟩:ByteArray).data.toList=false:=hM.s1
  rw[e] at this
  exact this
 have c2:BCall prog 85 [.slc 1 (Q0 l),.val (.int .i64 k),.val (.string ⟨#[60,33,91,67,68,65,84,65,91]⟩)] [] (.val (.bool false)) []:=by
  have:=Qa l hl hu.i32 k h0 (by omega) ⟨#[60,33,91,67,68,65,84,65,91]⟩ (by decide)
  have e:Q3 l k.toNat (⟨#[60,33,91,67,68,65,84,65,91]⟩:ByteArray).data.toList=false:=hM.s2
  rw[e] at this
  exact this
 have c3:BCall prog 85 [.slc 1 (Q0 l),.val (.int .i64 k),.val (.string ⟨#[60,63]⟩)] [] (.val (.bool false)) []:=by
  have:=Qa l hl hu.i32 k h0 (by omega) ⟨#[60,63]⟩ (by decide)
  have e:Q3 l k.toNat (⟨#[60,63]⟩:ByteArray).data.toList=false:=hM.s3
  rw[e] at this
  exact this
 have c4:BCall prog 85 [.slc 1 (Q0 l),.val (.int .i64 k),.val (.string ⟨#[60,33,68,79,67,84,89,80,69]⟩)] [] (.val (.bool false)) []:=by
  have:=Qa l hl hu.i32 k h0 (by omega) ⟨#[60,33,68,79,67,84,89,80,69]⟩ (by decide)
  have e:Q3 l k.toNat (⟨#[60,33,68,79,67,84,89,80,69]⟩:ByteArray).data.toList=false:=hM.s4
  rw[e] at this
  exact this
 have c5:BCall prog 85 [.slc 1 (Q0 l),.val (.int .i64 k),.val (.string ⟨#[60,47]⟩)] [] (.val (.bool false)) []:=by
  have:=Qa l hl hu.i32 k h0 (by omega) ⟨#[60,47]⟩ (by decide)
  have e:Q3 l k.toNat (⟨#[60,47]⟩:ByteArray).data.toList=false:=hM.s5
  rw[e] at this
  exact this
 have ak:=Qv (l:=l) (i:=k) h0 h1
 obtain⟨n,hn⟩:=Qy l
 have hxl:=Qi l
 have hkn:k<n:=by have:=hn.eq;omega
 have hn9:n≤1000000000:=by have:=hn.eq;omega
 have an:=Qv (l:=l) (i:=k+1) (by omega) hk1
 have hkn1:k+1<n:=by have:=hn.eq;omega
 have cN:=Q5U (l[(k+1).toNat]?.getD 0)
 have hk2:(k+1).toNat=k.toNat+1:=by omega
 rw[show Qn (l[(k+1).toNat]?.getD 0)=false by rw[hk2];exact hns] at cN
 rw[Q4T h60,hM.markup,if_neg (fun h=>by have:=(Q9e.1 h).2;rw[hns] at this;cases this)]
 obtain⟨kd,hkd⟩:=exq ((((((11,k.toNat+1,false):Nat×Nat×Bool)).1:Nat):Int):Int)
 obtain⟨t,ht⟩:=exq ((((((11,k.toNat+1,false):Nat×Nat×Bool)).2.1:Nat):Int):Int)
 obtain⟨w,hw⟩:=exq ((((11,k.toNat+1,false):Nat×Nat×Bool)).2.2:Bool)
 rw[←hkd,←ht,←hw,Q1t]
 have hkd:kd=11:=hkd
 have ht:t=k+1:=by rw[ht];show ((k.toNat+1:Nat):Int)=_;omega
 have hw:w=false:=hw
 clear hM hk1 hk2 hns
 refine fnN (cs:=Q3W false false false false false false 0 0 0 true) func64 rfl (by kernel_rfl) ?_
 intro w0 g0
 generalize hp:std=p,hrx:Q0 l=rx
 generalize hT:Q5 p tys (Q3W false false false false false false 0 0 0 true) _ _ _ _=T
 cbv at hT
 subst hT
 simp only[Tree.ok,Q1,S0]
 subst hp hrx
 have hxn:=QV hn
 have eN:std.int (std.nth (std.cel (std.at_ (Q0 l) (std.add k 1))) 0)=l[(k+1).toNat]?.getD 0:=by
  have e9:(Q0 l).getD (k+1).toNat .dead=.val (.int .i32 (l[(k+1).toNat]?.getD 0)):=by rw[List.getD_eq_getElem?_getD];exact an
  show intOf ((AV.cells ((Q0 l).getD (k+1).toNat .dead)).getD 0 .dead)=_
  rw[e9];rfl
 have cNs:BCall prog 89 [.val (.int .i32 (std.int (std.nth (std.cel (std.at_ (Q0 l) (std.add k 1))) 0)))] [] (.val (.bool false)) []:=by rw[eN];exact cN
 repeat' first
  |(with_reducible refine And.intro (fun hx=>absurd hx (by first|(try simp[std,S1,hxn,ak,an,h60,hkn,hkn1,h0])<;>omega|omega)) (fun _=>?_))
  |(with_reducible refine And.intro (fun _=>?_) (fun hx=>absurd hx (by first|(try simp[std,S1,hxn,ak,an,h60,hkn,hkn1,h0])<;>omega|omega)))
  |(with_reducible refine And.intro (by first|(try simp[std,S1,hxn,ak,an,h60,hkn,hkn1,h0])<;>omega|omega) ?_)
  |(with_reducible refine And.intro ?_ ?_)
  |(with_reducible intro hb)
 all_goals first
  |exact c1
  |exact c2
  |exact c3
  |exact c4
  |exact c5
  |exact cNs
  |exact .pure rfl ⟨.inl (by rw[hkd]),.inl rfl,.inl (by rw[ht];rfl),.inl (by rw[hw]),trivial⟩
theorem Qgl (l:List Int)(hl:l.length≤1000000000)(hu:Un l)(k:Int)(h0:0≤k)(h1:k<l.length)(hM:NoMark l k.toNat)(h60:l[k.toNat]?.getD 0=60)(hk1:¬ k+1<l.length):BCall prog 64 [.slc 1 (Q0 l),.val (.int .i64 k)] [] (Q1t ((Qk l k.toNat).1:Nat) k ((Qk l k.toNat).2.1:Nat) (Qk l k.toNat).2.2) []:=by
 have c1:BCall prog 85 [.slc 1 (Q0 l),.val (.int .i64 k),.val (.string ⟨#[60,33,45,45]⟩)] [] (.val (.bool false)) []:=by
  have:=Qa l hl hu.i32 k h0 (by omega) ⟨#[60,33,45,45]⟩ (by decide)
  have e:Q3 l k.toNat (⟨#[60,33,45,45]⟩:ByteArray).data.toList=false:=hM.s1
  rw[e] at this
  exact this
 have c2:BCall prog 85 [.slc 1 (Q0 l),.val (.int .i64 k),.val (.string ⟨#[60,33,91,67,68,65,84,65,91]⟩)] [] (.val (.bool false)) []:=by
  have:=Qa l hl hu.i32 k h0 (by omega) ⟨#[60,33,91,67,68,65,84,65,91]⟩ (by decide)
  have e:Q3 l k.toNat (⟨#[60,33,91,67,68,65,84,65,91]⟩:ByteArray).data.toList=false:=hM.s2
  rw[e] at this
  exact this
 have c3:BCall prog 85 [.slc 1 (Q0 l),.val (.int .i64 k),.val (.string ⟨#[60,63]⟩)] [] (.val (.bool false)) []:=by
  have:=Qa l hl hu.i32 k h0 (by omega) ⟨#[60,63]⟩ (by decide)
  have e:Q3 l k.toNat (⟨#[60,63]⟩:ByteArray).data.toList=false:=hM.s3
  rw[e] at this
  exact this
 have c4:BCall prog 85 [.slc 1 (Q0 l),.val (.int .i64 k),.val (.string ⟨#[60,33,68,79,67,84,89,80,69]⟩)] [] (.val (.bool false)) []:=by
  have:=Qa l hl hu.i32 k h0 (by omega) ⟨#[60,33,68,79,67,84,89,80,69]⟩ (by decide)
  have e:Q3 l k.toNat (⟨#[60,33,68,79,67,84,89,80,69]⟩:ByteArray).data.toList=false:=hM.s4
  rw[e] at this
  exact this
 have c5:BCall prog 85 [.slc 1 (Q0 l),.val (.int .i64 k),.val (.string ⟨#[60,47]⟩)] [] (.val (.bool false)) []:=by
  have:=Qa l hl hu.i32 k h0 (by omega) ⟨#[60,47]⟩ (by decide)
  have e:Q3 l k.toNat (⟨#[60,47]⟩:ByteArray).data.toList=false:=hM.s5
  rw[e] at this
  exact this
 have ak:=Qv (l:=l) (i:=k) h0 h1
 obtain⟨n,hn⟩:=Qy l
 have hxl:=Qi l
 have hkn:k<n:=by have:=hn.eq;omega
 have hn9:n≤1000000000:=by have:=hn.eq;omega
 have hkn1:¬ k+1<n:=by have:=hn.eq;omega
 rw[Q4T h60,hM.markup,if_neg (fun h=>hk1 (by have:=(Q9e.1 h).1;omega))]
 obtain⟨kd,hkd⟩:=exq ((((((11,k.toNat+1,false):Nat×Nat×Bool)).1:Nat):Int):Int)
 obtain⟨t,ht⟩:=exq ((((((11,k.toNat+1,false):Nat×Nat×Bool)).2.1:Nat):Int):Int)
 obtain⟨w,hw⟩:=exq ((((11,k.toNat+1,false):Nat×Nat×Bool)).2.2:Bool)
 rw[←hkd,←ht,←hw,Q1t]
 have hkd:kd=11:=hkd
 have ht:t=k+1:=by rw[ht];show ((k.toNat+1:Nat):Int)=_;omega
 have hw:w=false:=hw
 clear hM hk1
 refine fnN (cs:=Q3W false false false false false false 0 0 0 true) func64 rfl (by kernel_rfl) ?_
 intro w0 g0
 generalize hp:std=p,hrx:Q0 l=rx
 generalize hT:Q5 p tys (Q3W false false false false false false 0 0 0 true) _ _ _ _=T
 cbv at hT
 subst hT
 simp only[Tree.ok,Q1,S0]
 subst hp hrx
 have hxn:=QV hn
 repeat' first
  |(with_reducible refine And.intro (fun hx=>absurd hx (by first|(try simp[std,S1,hxn,ak,h60,hkn,hkn1,h0])<;>omega|omega)) (fun _=>?_))
  |(with_reducible refine And.intro (fun _=>?_) (fun hx=>absurd hx (by first|(try simp[std,S1,hxn,ak,h60,hkn,hkn1,h0])<;>omega|omega)))
  |(with_reducible refine And.intro (by first|(try simp[std,S1,hxn,ak,h60,hkn,hkn1,h0])<;>omega|omega) ?_)
  |(with_reducible refine And.intro ?_ ?_)
  |(with_reducible intro hb)
 all_goals first
  |exact c1
  |exact c2
  |exact c3
  |exact c4
  |exact c5
  |exact .pure rfl ⟨.inl (by rw[hkd]),.inl rfl,.inl (by rw[ht];rfl),.inl (by rw[hw]),trivial⟩
theorem QiA (l:List Int)(hl:l.length≤1000000000)(hu:Un l)(k:Int)(h0:0≤k)(h1:k<l.length)(hM:NoMark l k.toNat)(h38:l[k.toNat]?.getD 0=38):BCall prog 64 [.slc 1 (Q0 l),.val (.int .i64 k)] [] (Q1t ((Qk l k.toNat).1:Nat) k ((Qk l k.toNat).2.1:Nat) (Qk l k.toNat).2.2) []:=by
 have c1:BCall prog 85 [.slc 1 (Q0 l),.val (.int .i64 k),.val (.string ⟨#[60,33,45,45]⟩)] [] (.val (.bool false)) []:=by
  have:=Qa l hl hu.i32 k h0 (by omega) ⟨#[60,33,45,45]⟩ (by decide)
  have e:Q3 l k.toNat (⟨#[60,33,45,45]⟩:ByteArray).data.toList=false:=hM.s1
  rw[e] at this
  exact this
 have c2:BCall prog 85 [.slc 1 (Q0 l),.val (.int .i64 k),.val (.string ⟨#[60,33,91,67,68,65,84,65,91]⟩)] [] (.val (.bool false)) []:=by
  have:=Qa l hl hu.i32 k h0 (by omega) ⟨#[60,33,91,67,68,65,84,65,91]⟩ (by decide)
  have e:Q3 l k.toNat (⟨#[60,33,91,67,68,65,84,65,91]⟩:ByteArray).data.toList=false:=hM.s2
  rw[e] at this
  exact this
 have c3:BCall prog 85 [.slc 1 (Q0 l),.val (.int .i64 k),.val (.string ⟨#[60,63]⟩)] [] (.val (.bool false)) []:=by
  have:=Qa l hl hu.i32 k h0 (by omega) ⟨#[60,63]⟩ (by decide)
  have e:Q3 l k.toNat (⟨#[60,63]⟩:ByteArray).data.toList=false:=hM.s3
  rw[e] at this
  exact this
 have c4:BCall prog 85 [.slc 1 (Q0 l),.val (.int .i64 k),.val (.string ⟨#[60,33,68,79,67,84,89,80,69]⟩)] [] (.val (.bool false)) []:=by
  have:=Qa l hl hu.i32 k h0 (by omega) ⟨#[60,33,68,79,67,84,89,80,69]⟩ (by decide)
  have e:Q3 l k.toNat (⟨#[60,33,68,79,67,84,89,80,69]⟩:ByteArray).data.toList=false:=hM.s4
  rw[e] at this
  exact this
 have c5:BCall prog 85 [.slc 1 (Q0 l),.val (.int .i64 k),.val (.string ⟨#[60,47]⟩)] [] (.val (.bool false)) []:=by
  have:=Qa l hl hu.i32 k h0 (by omega) ⟨#[60,47]⟩ (by decide)
  have e:Q3 l k.toNat (⟨#[60,47]⟩:ByteArray).data.toList=false:=hM.s5
  rw[e] at this
  exact this
 have ak:=Qv (l:=l) (i:=k) h0 h1
 obtain⟨n,hn⟩:=Qy l
 have hxl:=Qi l
 have hkn:k<n:=by have:=hn.eq;omega
 have hn9:n≤1000000000:=by have:=hn.eq;omega
 have e:Qk l k.toNat=Q1h l k.toNat:=by
  rw[Qk,List.getD_eq_getElem?_getD,if_neg (by rw[h38];decide),if_pos h38]
 rw[e]
 have cT:=Qls l hl hu k h0 h1
 obtain⟨kd,hkd⟩:=exq ((((Q1h l k.toNat).1:Nat):Int):Int)
 obtain⟨t,ht⟩:=exq ((((Q1h l k.toNat).2.1:Nat):Int):Int)
 obtain⟨w,hw⟩:=exq ((Q1h l k.toNat).2.2:Bool)
 rw[←hkd,←ht,←hw] at cT ⊢
 rw[Q1t] at cT ⊢
 clear hkd ht hw hM e
 refine fnN (cs:=Q3W false false false false false true kd k t w) func64 rfl (by kernel_rfl) ?_
 intro w0 g0
 generalize hp:std=p,hrx:Q0 l=rx
 generalize hT:Q5 p tys (Q3W false false false false false true kd k t w) _ _ _ _=T
 cbv at hT
 subst hT
 simp only[Tree.ok,Q1,S0]
 subst hp hrx
 have hxn:=QV hn
 repeat' first
  |(with_reducible refine And.intro (fun hx=>absurd hx (by first|(try simp[std,S1,hxn,ak,h38,hkn,h0])<;>omega|omega)) (fun _=>?_))
  |(with_reducible refine And.intro (fun _=>?_) (fun hx=>absurd hx (by first|(try simp[std,S1,hxn,ak,h38,hkn,h0])<;>omega|omega)))
  |(with_reducible refine And.intro (by first|(try simp[std,S1,hxn,ak,h38,hkn,h0])<;>omega|omega) ?_)
  |(with_reducible refine And.intro ?_ ?_)
  |(with_reducible intro hb)
 all_goals first
  |exact c1
  |exact c2
  |exact c3
  |exact c4
  |exact c5
  |exact cT
  |exact .pure rfl ⟨.inl rfl,.inl rfl,.inl rfl,.inl rfl,trivial⟩
theorem Qig (l:List Int)(hl:l.length≤1000000000)(hu:Un l)(k:Int)(h0:0≤k)(h1:k<l.length)(hM:NoMark l k.toNat)(hm1:l[k.toNat]?.getD 0=-1):BCall prog 64 [.slc 1 (Q0 l),.val (.int .i64 k)] [] (Q1t ((Qk l k.toNat).1:Nat) k ((Qk l k.toNat).2.1:Nat) (Qk l k.toNat).2.2) []:=by
 have c1:BCall prog 85 [.slc 1 (Q0 l),.val (.int .i64 k),.val (.string ⟨#[60,33,45,45]⟩)] [] (.val (.bool false)) []:=by
  have:=Qa l hl hu.i32 k h0 (by omega) ⟨#[60,33,45,45]⟩ (by decide)
  have e:Q3 l k.toNat (⟨#[60,33,45,45]⟩:ByteArray).data.toList=false:=hM.s1
  rw[e] at this
  exact this
 have c2:BCall prog 85 [.slc 1 (Q0 l),.val (.int .i64 k),.val (.string ⟨#[60,33,91,67,68,65,84,65,91]⟩)] [] (.val (.bool false)) []:=by
  have:=Qa l hl hu.i32 k h0 (by omega) ⟨#[60,33,91,67,68,65,84,65,91]⟩ (by decide)
  have e:Q3 l k.toNat (⟨#[60,33,91,67,68,65,84,65,91]⟩:ByteArray).data.toList=false:=hM.s2
  rw[e] at this
  exact this
 have c3:BCall prog 85 [.slc 1 (Q0 l),.val (.int .i64 k),.val (.string ⟨#[60,63]⟩)] [] (.val (.bool false)) []:=by
  have:=Qa l hl hu.i32 k h0 (by omega) ⟨#[60,63]⟩ (by decide)
  have e:Q3 l k.toNat (⟨#[60,63]⟩:ByteArray).data.toList=false:=hM.s3
  rw[e] at this
  exact this
 have c4:BCall prog 85 [.slc 1 (Q0 l),.val (.int .i64 k),.val (.string ⟨#[60,33,68,79,67,84,89,80,69]⟩)] [] (.val (.bool false)) []:=by
  have:=Qa l hl hu.i32 k h0 (by omega) ⟨#[60,33,68,79,67,84,89,80,69]⟩ (by decide)
  have e:Q3 l k.toNat (⟨#[60,33,68,79,67,84,89,80,69]⟩:ByteArray).data.toList=false:=hM.s4
  rw[e] at this
  exact this
 have c5:BCall prog 85 [.slc 1 (Q0 l),.val (.int .i64 k),.val (.string ⟨#[60,47]⟩)] [] (.val (.bool false)) []:=by
  have:=Qa l hl hu.i32 k h0 (by omega) ⟨#[60,47]⟩ (by decide)
  have e:Q3 l k.toNat (⟨#[60,47]⟩:ByteArray).data.toList=false:=hM.s5
  rw[e] at this
  exact this
 have ak:=Qv (l:=l) (i:=k) h0 h1
 obtain⟨n,hn⟩:=Qy l
 have hxl:=Qi l
 have hkn:k<n:=by have:=hn.eq;omega
 have hn9:n≤1000000000:=by have:=hn.eq;omega
 have e:Qk l k.toNat=(11,k.toNat+1,false):=by
  rw[Qk,List.getD_eq_getElem?_getD,if_neg (by rw[hm1];decide),if_neg (by rw[hm1];decide),if_pos hm1]
 rw[e]
 obtain⟨kd,hkd⟩:=exq ((((((11,k.toNat+1,false):Nat×Nat×Bool)).1:Nat):Int):Int)
 obtain⟨t,ht⟩:=exq ((((((11,k.toNat+1,false):Nat×Nat×Bool)).2.1:Nat):Int):Int)
 obtain⟨w,hw⟩:=exq ((((11,k.toNat+1,false):Nat×Nat×Bool)).2.2:Bool)
 rw[←hkd,←ht,←hw,Q1t]
 have hkd:kd=11:=hkd
 have ht:t=k+1:=by rw[ht];show ((k.toNat+1:Nat):Int)=_;omega
 have hw:w=false:=hw
 clear hM e
 refine fnN (cs:=Q3W false false false false false false 0 0 0 true) func64 rfl (by kernel_rfl) ?_
 intro w0 g0
 generalize hp:std=p,hrx:Q0 l=rx
 generalize hT:Q5 p tys (Q3W false false false false false false 0 0 0 true) _ _ _ _=T
 cbv at hT
 subst hT
 simp only[Tree.ok,Q1,S0]
 subst hp hrx
 have hxn:=QV hn
 repeat' first
  |(with_reducible refine And.intro (fun hx=>absurd hx (by first|(try simp[std,S1,hxn,ak,hm1,hkn,h0])<;>omega|omega)) (fun _=>?_))
  |(with_reducible refine And.intro (fun _=>?_) (fun hx=>absurd hx (by first|(try simp[std,S1,hxn,ak,hm1,hkn,h0])<;>omega|omega)))
  |(with_reducible refine And.intro (by first|(try simp[std,S1,hxn,ak,hm1,hkn,h0])<;>omega|omega) ?_)
  |(with_reducible refine And.intro ?_ ?_)
  |(with_reducible intro hb)
 all_goals first
  |exact c1
  |exact c2
  |exact c3
  |exact c4
  |exact c5
  |exact .pure rfl ⟨.inl (by rw[hkd]),.inl rfl,.inl (by rw[ht];rfl),.inl (by rw[hw]),trivial⟩
end Go.Proofs.YthbjpdijafccjaaGreat
