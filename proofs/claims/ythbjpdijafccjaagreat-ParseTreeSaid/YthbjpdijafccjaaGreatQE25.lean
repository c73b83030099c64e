/-
  Parts of the proof, joined: Vi. Conditions: as each theorem says.
-/
import Derived.Test.YthbjpdijafccjaaGreatQE23
import Derived.Test.YthbjpdijafccjaaGreatQE24
set_option maxRecDepth 100000
set_option maxHeartbeats 8000000
namespace Go.Proofs.YthbjpdijafccjaaGreat
open Go.RowKit Go.Lib Tryz
theorem Qls (l:List Int)(hl:l.length≤1000000000)(hu:Un l)(k:Int)(h0:0≤k)(h1:k<l.length):BCall prog 91 [.slc 1 (Q0 l),.val (.int .i64 k)] [] (Q1t ((Q1h l k.toNat).1:Nat) k ((Q1h l k.toNat).2.1:Nat) (Q1h l k.toNat).2.2) []:=by
 cases hs1:Q3 l k.toNat [38,35] with
 |false=>exact QjU l hl hu k h0 h1 hs1
 |true =>
  by_cases hf:k+1+((Qg l (k.toNat+1):Nat):Int)<l.length
  ·cases hs2:Q3 l k.toNat [38,35,120] with
   |true=>exact QkI l hl hu k h0 h1 hs1 hs2 hf
   |false=>exact QkJ l hl hu k h0 h1 hs1 hs2 hf
  ·cases hs2:Q3 l k.toNat [38,35,120] with
   |true=>exact QkM l hl hu k h0 h1 hs1 hs2 hf
   |false=>exact QkB l hl hu k h0 h1 hs1 hs2 hf
def Q3W (s1 s2 s3 s4 s5 ns:Bool)(kd k t:Int)(w:Bool):Nat→List AV→List Ob→Option (AV×List Ob):=fun f args _=>match f,args with
 |1000009,_=>some (.val (.bool s1),[])
 |1000016,_=>some (.val (.bool s2),[])
 |1000023,_=>some (.val (.bool s3),[])
 |1000030,_=>some (.val (.bool s4),[])
 |1000037,_=>some (.val (.bool s5),[])
 |89,[.val (.int .i32 _)]=>some (.val (.bool ns),[])
 |86,[.slc 1 _,.val (.int .i64 _),.val (.int .i64 _),.val (.int .i64 _),.val (.string _)]=>some (.agg [.val (.int .i64 kd),.val (.int .i64 k),.val (.int .i64 t),.val (.bool w)],[])
 |87,[.slc 1 _,.val (.int .i64 _)]=>some (.agg [.val (.int .i64 kd),.val (.int .i64 k),.val (.int .i64 t),.val (.bool w)],[])
 |88,[.slc 1 _,.val (.int .i64 _)]=>some (.agg [.val (.int .i64 kd),.val (.int .i64 k),.val (.int .i64 t),.val (.bool w)],[])
 |90,[.slc 1 _,.val (.int .i64 _)]=>some (.agg [.val (.int .i64 kd),.val (.int .i64 k),.val (.int .i64 t),.val (.bool w)],[])
 |91,[.slc 1 _,.val (.int .i64 _)]=>some (.agg [.val (.int .i64 kd),.val (.int .i64 k),.val (.int .i64 t),.val (.bool w)],[])
 |_,_=>none
theorem Q4T {l:List Int}{k:Nat}(h:l[k]?.getD 0=60):Qk l k=Q1D l k:=by
 rw[Qk,if_pos (by rw[List.getD_eq_getElem?_getD];exact h)]
theorem Q4m {l:List Int}{k:Nat}{bs:List UInt8}(h:Q3 l k (60::bs)=true):l[k]?.getD 0=60:=by
 have:=Q6C h (i:=0) (by simp)
 rw[Nat.add_zero] at this
 rw[this];rfl
theorem QiG (l:List Int)(hl:l.length≤1000000000)(hu:Un l)(k:Int)(h0:0≤k)(h1:k<l.length)(hs1:Q3 l k.toNat [60,33,45,45]=true):BCall prog 64 [.slc 1 (Q0 l),.val (.int .i64 k)] [] (Q1t ((Qk l k.toNat).1:Nat) k ((Qk l k.toNat).2.1:Nat) (Qk l k.toNat).2.2) []:=by
 have c1:BCall prog 85 [.slc 1 (Q0 l),.val (.int .i64 k),.val (.string ⟨#[60,33,45,45]⟩)] [] (.val (.bool true)) []:=by
  have:=Qa l hl hu.i32 k h0 (by omega) ⟨#[60,33,45,45]⟩ (by decide)
  have e:Q3 l k.toNat (⟨#[60,33,45,45]⟩:ByteArray).data.toList=true:=hs1
  rw[e] at this
  exact this
 have hm:=Q4T (Q4m hs1)
 have hfit:=QX l k.toNat _ (by omega) hs1
 simp only[List.length_cons,List.length_nil] at hfit
 have hkk:((k.toNat:Nat):Int)=k:=Int.toNat_of_nonneg h0
 rw[Q1D,if_pos hs1] at hm
 rw[hm]
 obtain⟨u1,u2,u3⟩:=Q5c l 4 k.toNat 4 [45,45,62] (by omega)
 rw[hkk] at u2 u3
 have u2:((Q17 l 4 k.toNat 4 [45,45,62]).2.1:Int)=Q3l l (k+4) [45,45,62]:=u2
 have u3:(Q17 l 4 k.toNat 4 [45,45,62]).2.2=Q3j l (k+4) [45,45,62]:=u3
 have cT:BCall prog 86 [.slc 1 (Q0 l),.val (.int .i64 4),.val (.int .i64 k),.val (.int .i64 4),.val (.string ⟨#[45,45,62]⟩)] [] (Q1t 4 k (Q3l l (k+4) [45,45,62]) (Q3j l (k+4) [45,45,62])) []:=Q7Q l hl hu.i32 4 k 4 h0 (by decide) (by omega) ⟨#[45,45,62]⟩ (by decide)
 rw[u1,u2,u3]
 generalize Q3l l (k+4) [45,45,62]=t at cT ⊢
 generalize Q3j l (k+4) [45,45,62]=w at cT ⊢
 show BCall _ _ _ _ (Q1t 4 k t w) _
 rw[Q1t] at cT ⊢
 obtain⟨kd,hkd⟩:=exq (4:Int)
 have cT:BCall prog 86 [.slc 1 (Q0 l),.val (.int .i64 4),.val (.int .i64 k),.val (.int .i64 4),.val (.string ⟨#[45,45,62]⟩)] [] (.agg [.val (.int .i64 kd),.val (.int .i64 k),.val (.int .i64 t),.val (.bool w)]) []:=by rw[hkd];exact cT
 rw[←hkd]
 clear u1 u2 u3 hkd
 clear hm hfit hkk
 refine fnN (cs:=Q3W true true true true true true kd k t w) func64 rfl (by kernel_rfl) ?_
 intro w0 g0
 generalize hp:std=p,hrx:Q0 l=rx
 generalize hT:Q5 p tys (Q3W true true true true true true kd k t w) _ _ _ _=T
 cbv at hT
 subst hT
 simp only[Tree.ok,Q1,S0]
 subst hp hrx
 repeat' (with_reducible apply And.intro)
 all_goals first
  |exact c1
  |exact cT
  |exact .pure rfl ⟨.inl rfl,.inl rfl,.inl rfl,.inl rfl,trivial⟩
theorem Qj7 (l:List Int)(hl:l.length≤1000000000)(hu:Un l)(k:Int)(h0:0≤k)(h1:k<l.length)(hs1:Q3 l k.toNat [60,33,45,45]=false)(hs2:Q3 l k.toNat [60,33,91,67,68,65,84,65,91]=true):BCall prog 64 [.slc 1 (Q0 l),.val (.int .i64 k)] [] (Q1t ((Qk l k.toNat).1:Nat) k ((Qk l k.toNat).2.1:Nat) (Qk l k.toNat).2.2) []:=by
 have c1:BCall prog 85 [.slc 1 (Q0 l),.val (.int .i64 k),.val (.string ⟨#[60,33,45,45]⟩)] [] (.val (.bool false)) []:=by
  have:=Qa l hl hu.i32 k h0 (by omega) ⟨#[60,33,45,45]⟩ (by decide)
  have e:Q3 l k.toNat (⟨#[60,33,45,45]⟩:ByteArray).data.toList=false:=hs1
  rw[e] at this
  exact this
 have c2:BCall prog 85 [.slc 1 (Q0 l),.val (.int .i64 k),.val (.string ⟨#[60,33,91,67,68,65,84,65,91]⟩)] [] (.val (.bool true)) []:=by
  have:=Qa l hl hu.i32 k h0 (by omega) ⟨#[60,33,91,67,68,65,84,65,91]⟩ (by decide)
  have e:Q3 l k.toNat (⟨#[60,33,91,67,68,65,84,65,91]⟩:ByteArray).data.toList=true:=hs2
  rw[e] at this
  exact this
 have hm:=Q4T (Q4m hs2)
 have hfit:=QX l k.toNat _ (by omega) hs2
 simp only[List.length_cons,List.length_nil] at hfit
 have hkk:((k.toNat:Nat):Int)=k:=Int.toNat_of_nonneg h0
 rw[Q1D,if_neg (show ¬ Q3 l k.toNat [60,33,45,45]=true by rw[hs1];decide),if_pos hs2] at hm
 rw[hm]
 obtain⟨u1,u2,u3⟩:=Q5c l 6 k.toNat 9 [93,93,62] (by omega)
 rw[hkk] at u2 u3
 have u2:((Q17 l 6 k.toNat 9 [93,93,62]).2.1:Int)=Q3l l (k+9) [93,93,62]:=u2
 have u3:(Q17 l 6 k.toNat 9 [93,93,62]).2.2=Q3j l (k+9) [93,93,62]:=u3
 have cT:BCall prog 86 [.slc 1 (Q0 l),.val (.int .i64 6),.val (.int .i64 k),.val (.int .i64 9),.val (.string ⟨#[93,93,62]⟩)] [] (Q1t 6 k (Q3l l (k+9) [93,93,62]) (Q3j l (k+9) [93,93,62])) []:=Q7Q l hl hu.i32 6 k 9 h0 (by decide) (by omega) ⟨#[93,93,62]⟩ (by decide)
 rw[u1,u2,u3]
 generalize Q3l l (k+9) [93,93,62]=t at cT ⊢
 generalize Q3j l (k+9) [93,93,62]=w at cT ⊢
 show BCall _ _ _ _ (Q1t 6 k t w) _
 rw[Q1t] at cT ⊢
 obtain⟨kd,hkd⟩:=exq (6:Int)
 have cT:BCall prog 86 [.slc 1 (Q0 l),.val (.int .i64 6),.val (.int .i64 k),.val (.int .i64 9),.val (.string ⟨#[93,93,62]⟩)] [] (.agg [.val (.int .i64 kd),.val (.int .i64 k),.val (.int .i64 t),.val (.bool w)]) []:=by rw[hkd];exact cT
 rw[←hkd]
 clear u1 u2 u3 hkd
 clear hm hfit hkk
 refine fnN (cs:=Q3W false true true true true true kd k t w) func64 rfl (by kernel_rfl) ?_
 intro w0 g0
 generalize hp:std=p,hrx:Q0 l=rx
 generalize hT:Q5 p tys (Q3W false true true true true true kd k t w) _ _ _ _=T
 cbv at hT
 subst hT
 simp only[Tree.ok,Q1,S0]
 subst hp hrx
 repeat' (with_reducible apply And.intro)
 all_goals first
  |exact c1
  |exact c2
  |exact cT
  |exact .pure rfl ⟨.inl rfl,.inl rfl,.inl rfl,.inl rfl,trivial⟩
theorem QhL (l:List Int)(hl:l.length≤1000000000)(hu:Un l)(k:Int)(h0:0≤k)(h1:k<l.length)(hs1:Q3 l k.toNat [60,33,45,45]=false)(hs2:Q3 l k.toNat [60,33,91,67,68,65,84,65,91]=false)(hs3:Q3 l k.toNat [60,63]=true):BCall prog 64 [.slc 1 (Q0 l),.val (.int .i64 k)] [] (Q1t ((Qk l k.toNat).1:Nat) k ((Qk l k.toNat).2.1:Nat) (Qk l k.toNat).2.2) []:=by
 have c1:BCall prog 85 [.slc 1 (Q0 l),.val (.int .i64 k),.val (.string ⟨#[60,33,45,45]⟩)] [] (.val (.bool false)) []:=by
  have:=Qa l hl hu.i32 k h0 (by omega) ⟨#[60,33,45,45]⟩ (by decide)
  have e:Q3 l k.toNat (⟨#[60,33,45,45]⟩:ByteArray).data.toList=false:=hs1
  rw[e] at this
  exact this
 have c2:BCall prog 85 [.slc 1 (Q0 l),.val (.int .i64 k),.val (.string ⟨#[60,33,91,67,68,65,84,65,91]⟩)] [] (.val (.bool false)) []:=by
  have:=Qa l hl hu.i32 k h0 (by omega) ⟨#[60,33,91,67,68,65,84,65,91]⟩ (by decide)
  have e:Q3 l k.toNat (⟨#[60,33,91,67,68,65,84,65,91]⟩:ByteArray).data.toList=false:=hs2
  rw[e] at this
  exact this
 have c3:BCall prog 85 [.slc 1 (Q0 l),.val (.int .i64 k),.val (.string ⟨#[60,63]⟩)] [] (.val (.bool true)) []:=by
  have:=Qa l hl hu.i32 k h0 (by omega) ⟨#[60,63]⟩ (by decide)
  have e:Q3 l k.toNat (⟨#[60,63]⟩:ByteArray).data.toList=true:=hs3
  rw[e] at this
  exact this
 have hm:=Q4T (Q4m hs3)
 have hfit:=QX l k.toNat _ (by omega) hs3
 simp only[List.length_cons,List.length_nil] at hfit
 have hkk:((k.toNat:Nat):Int)=k:=Int.toNat_of_nonneg h0
 rw[Q1D,if_neg (show ¬ Q3 l k.toNat [60,33,45,45]=true by rw[hs1];decide),if_neg (show ¬ Q3 l k.toNat [60,33,91,67,68,65,84,65,91]=true by rw[hs2];decide),if_pos hs3] at hm
 rw[hm]
 obtain⟨u1,u2,u3⟩:=Q5c l 5 k.toNat 2 [63,62] (by omega)
 rw[hkk] at u2 u3
 have u2:((Q17 l 5 k.toNat 2 [63,62]).2.1:Int)=Q3l l (k+2) [63,62]:=u2
 have u3:(Q17 l 5 k.toNat 2 [63,62]).2.2=Q3j l (k+2) [63,62]:=u3
 have cT:BCall prog 86 [.slc 1 (Q0 l),.val (.int .i64 5),.val (.int .i64 k),.val (.int .i64 2),.val (.string ⟨#[63,62]⟩)] [] (Q1t 5 k (Q3l l (k+2) [63,62]) (Q3j l (k+2) [63,62])) []:=Q7Q l hl hu.i32 5 k 2 h0 (by decide) (by omega) ⟨#[63,62]⟩ (by decide)
 rw[u1,u2,u3]
 generalize Q3l l (k+2) [63,62]=t at cT ⊢
 generalize Q3j l (k+2) [63,62]=w at cT ⊢
 show BCall _ _ _ _ (Q1t 5 k t w) _
 rw[Q1t] at cT ⊢
 obtain⟨kd,hkd⟩:=exq (5:Int)
 have cT:BCall prog 86 [.slc 1 (Q0 l),.val (.int .i64 5),.val (.int .i64 k),.val (.int .i64 2),.val (.string ⟨#[63,62]⟩)] [] (.agg [.val (.int .i64 kd),.val (.int .i64 k),.val (.int .i64 t),.val (.bool w)]) []:=by rw[hkd];exact cT
 rw[←hkd]
 clear u1 u2 u3 hkd
 clear hm hfit hkk
 refine fnN (cs:=Q3W false false true true true true kd k t w) func64 rfl (by kernel_rfl) ?_
 intro w0 g0
 generalize hp:std=p,hrx:Q0 l=rx
 generalize hT:Q5 p tys (Q3W false false true true true true kd k t w) _ _ _ _=T
 cbv at hT
 subst hT
 simp only[Tree.ok,Q1,S0]
 subst hp hrx
 repeat' (with_reducible apply And.intro)
 all_goals first
  |exact c1
  |exact c2
  |exact c3
  |exact cT
  |exact .pure rfl ⟨.inl rfl,.inl rfl,.inl rfl,.inl rfl,trivial⟩
theorem QiD (l:List Int)(hl:l.length≤1000000000)(hu:Un l)(k:Int)(h0:0≤k)(h1:k<l.length)(hs1:Q3 l k.toNat [60,33,45,45]=false)(hs2:Q3 l k.toNat [60,33,91,67,68,65,84,65,91]=false)(hs3:Q3 l k.toNat [60,63]=false)(hs4:Q3 l k.toNat [60,33,68,79,67,84,89,80,69]=true):BCall prog 64 [.slc 1 (Q0 l),.val (.int .i64 k)] [] (Q1t ((Qk l k.toNat).1:Nat) k ((Qk l k.toNat).2.1:Nat) (Qk l k.toNat).2.2) []:=by
 have c1:BCall prog 85 [.slc 1 (Q0 l),.val (.int .i64 k),.val (.string ⟨#[60,33,45,45]⟩)] [] (.val (.bool false)) []:=by
  have:=Qa l hl hu.i32 k h0 (by omega) ⟨#[60,33,45,45]⟩ (by decide)
  have e:Q3 l k.toNat (⟨#[60,33,45,45]⟩:ByteArray).data.toList=false:=hs1
  rw[e] at this
  exact this
 have c2:BCall prog 85 [.slc 1 (Q0 l),.val (.int .i64 k),.val (.string ⟨#[60,33,91,67,68,65,84,65,91]⟩)] [] (.val (.bool false)) []:=by
  have:=Qa l hl hu.i32 k h0 (by omega) ⟨#[60,33,91,67,68,65,84,65,91]⟩ (by decide)
  have e:Q3 l k.toNat (⟨#[60,33,91,67,68,65,84,65,91]⟩:ByteArray).data.toList=false:=hs2
  rw[e] at this
  exact this
 have c3:BCall prog 85 [.slc 1 (Q0 l),.val (.int .i64 k),.val (.string ⟨#[60,63]⟩)] [] (.val (.bool false)) []:=by
  have:=Qa l hl hu.i32 k h0 (by omega) ⟨#[60,63]⟩ (by decide)
  have e:Q3 l k.toNat (⟨#[60,63]⟩:ByteArray).data.toList=false:=hs3
  rw[e] at this
  exact this
 have c4:BCall prog 85 [.slc 1 (Q0 l),.val (.int .i64 k),.val (.string ⟨#[60,33,68,79,67,84,89,80,69]⟩)] [] (.val (.bool true)) []:=by
  have:=Qa l hl hu.i32 k h0 (by omega) ⟨#[60,33,68,79,67,84,89,80,69]⟩ (by decide)
  have e:Q3 l k.toNat (⟨#[60,33,68,79,67,84,89,80,69]⟩:ByteArray).data.toList=true:=hs4
  rw[e] at this
  exact this
 have hm:=Q4T (Q4m hs4)
 have hfit:=QX l k.toNat _ (by omega) hs4
 simp only[List.length_cons,List.length_nil] at hfit
 have hkk:((k.toNat:Nat):Int)=k:=Int.toNat_of_nonneg h0
 rw[Q1D,if_neg (show ¬ Q3 l k.toNat [60,33,45,45]=true by rw[hs1];decide),if_neg (show ¬ Q3 l k.toNat [60,33,91,67,68,65,84,65,91]=true by rw[hs2];decide),if_neg (show ¬ Q3 l k.toNat [60,63]=true by rw[hs3];decide),if_pos hs4] at hm
 rw[hm]
 have cT:=Qe7 l hl hu.i32 k h0 (by omega)
 have hkd9:(((Q3G l k.toNat).1:Nat):Int)=7:=rfl
 rw[hkd9]
 obtain⟨t,ht⟩:=exq (((Q3G l k.toNat).2.1:Nat):Int)
 obtain⟨w,hw⟩:=exq ((Q3G l k.toNat).2.2:Bool)
 rw[←ht,←hw] at cT ⊢
 rw[Q1t] at cT ⊢
 obtain⟨kd,hkd⟩:=exq (7:Int)
 have cT:BCall prog 87 [.slc 1 (Q0 l),.val (.int .i64 k)] [] (.agg [.val (.int .i64 kd),.val (.int .i64 k),.val (.int .i64 t),.val (.bool w)]) []:=by rw[hkd];exact cT
 rw[←hkd]
 clear ht hw hkd hkd9
 clear hm hfit hkk
 refine fnN (cs:=Q3W false false false true true true kd k t w) func64 rfl (by kernel_rfl) ?_
 intro w0 g0
 generalize hp:std=p,hrx:Q0 l=rx
 generalize hT:Q5 p tys (Q3W false false false true true true kd k t w) _ _ _ _=T
 cbv at hT
 subst hT
 simp only[Tree.ok,Q1,S0]
 subst hp hrx
 repeat' (with_reducible apply And.intro)
 all_goals first
  |exact c1
  |exact c2
  |exact c3
  |exact c4
  |exact cT
  |exact .pure rfl ⟨.inl rfl,.inl rfl,.inl rfl,.inl rfl,trivial⟩
theorem Qit (l:List Int)(hl:l.length≤1000000000)(hu:Un l)(k:Int)(h0:0≤k)(h1:k<l.length)(hs1:Q3 l k.toNat [60,33,45,45]=false)(hs2:Q3 l k.toNat [60,33,91,67,68,65,84,65,91]=false)(hs3:Q3 l k.toNat [60,63]=false)(hs4:Q3 l k.toNat [60,33,68,79,67,84,89,80,69]=false)(hs5:Q3 l k.toNat [60,47]=true):BCall prog 64 [.slc 1 (Q0 l),.val (.int .i64 k)] [] (Q1t ((Qk l k.toNat).1:Nat) k ((Qk l k.toNat).2.1:Nat) (Qk l k.toNat).2.2) []:=by
 have c1:BCall prog 85 [.slc 1 (Q0 l),.val (.int .i64 k),.val (.string ⟨#[60,33,45,45]⟩)] [] (.val (.bool false)) []:=by
  have:=Qa l hl hu.i32 k h0 (by omega) ⟨#[60,33,45,45]⟩ (by decide)
  have e:Q3 l k.toNat (⟨#[60,33,45,45]⟩:ByteArray).data.toList=false:=hs1
  rw[e] at this
  exact this
 have c2:BCall prog 85 [.slc 1 (Q0 l),.val (.int .i64 k),.val (.string ⟨#[60,33,91,67,68,65,84,65,91]⟩)] [] (.val (.bool false)) []:=by
  have:=Qa l hl hu.i32 k h0 (by omega) ⟨#[60,33,91,67,68,65,84,65,91]⟩ (by decide)
  have e:Q3 l k.toNat (⟨#[60,33,91,67,68,65,84,65,91]⟩:ByteArray).data.toList=false:=hs2
  rw[e] at this
  exact this
 have c3:BCall prog 85 [.slc 1 (Q0 l),.val (.int .i64 k),.val (.string ⟨#[60,63]⟩)] [] (.val (.bool false)) []:=by
  have:=Qa l hl hu.i32 k h0 (by omega) ⟨#[60,63]⟩ (by decide)
  have e:Q3 l k.toNat (⟨#[60,63]⟩:ByteArray).data.toList=false:=hs3
  rw[e] at this
  exact this
 have c4:BCall prog 85 [.slc 1 (Q0 l),.val (.int .i64 k),.val (.string ⟨#[60,33,68,79,67,84,89,80,69]⟩)] [] (.val (.bool false)) []:=by
  have:=Qa l hl hu.i32 k h0 (by omega) ⟨#[60,33,68,79,67,84,89,80,69]⟩ (by decide)
  have e:Q3 l k.toNat (⟨#[60,33,68,79,67,84,89,80,69]⟩:ByteArray).data.toList=false:=hs4
  rw[e] at this
  exact this
 have c5:BCall prog 85 [.slc 1 (Q0 l),.val (.int .i64 k),.val (.string ⟨#[60,47]⟩)] [] (.val (.bool true)) []:=by
  have:=Qa l hl hu.i32 k h0 (by omega) ⟨#[60,47]⟩ (by decide)
  have e:Q3 l k.toNat (⟨#[60,47]⟩:ByteArray).data.toList=true:=hs5
  rw[e] at this
  exact this
 have hm:=Q4T (Q4m hs5)
 have hfit:=QX l k.toNat _ (by omega) hs5
 simp only[List.length_cons,List.length_nil] at hfit
 have hkk:((k.toNat:Nat):Int)=k:=Int.toNat_of_nonneg h0
 rw[Q1D,if_neg (show ¬ Q3 l k.toNat [60,33,45,45]=true by rw[hs1];decide),if_neg (show ¬ Q3 l k.toNat [60,33,91,67,68,65,84,65,91]=true by rw[hs2];decide),if_neg (show ¬ Q3 l k.toNat [60,63]=true by rw[hs3];decide),if_neg (show ¬ Q3 l k.toNat [60,33,68,79,67,84,89,80,69]=true by rw[hs4];decide),if_pos hs5] at hm
 rw[hm]
 have cT:=QlO l hl k h0 (by omega)
 have hkd9:(((Q3m l k.toNat).1:Nat):Int)=10:=rfl
 rw[hkd9]
 obtain⟨t,ht⟩:=exq (((Q3m l k.toNat).2.1:Nat):Int)
 obtain⟨w,hw⟩:=exq ((Q3m l k.toNat).2.2:Bool)
 rw[←ht,←hw] at cT ⊢
 rw[Q1t] at cT ⊢
 obtain⟨kd,hkd⟩:=exq (10:Int)
 have cT:BCall prog 88 [.slc 1 (Q0 l),.val (.int .i64 k)] [] (.agg [.val (.int .i64 kd),.val (.int .i64 k),.val (.int .i64 t),.val (.bool w)]) []:=by rw[hkd];exact cT
 rw[←hkd]
 clear ht hw hkd hkd9
 clear hm hfit hkk
 refine fnN (cs:=Q3W false false false false true true kd k t w) func64 rfl (by kernel_rfl) ?_
 intro w0 g0
 generalize hp:std=p,hrx:Q0 l=rx
 generalize hT:Q5 p tys (Q3W false false false false true true kd k t w) _ _ _ _=T
 cbv at hT
 subst hT
 simp only[Tree.ok,Q1,S0]
 subst hp hrx
 repeat' (with_reducible apply And.intro)
 all_goals first
  |exact c1
  |exact c2
  |exact c3
  |exact c4
  |exact c5
  |exact cT
  |exact .pure rfl ⟨.inl rfl,.inl rfl,.inl rfl,.inl rfl,trivial⟩
end Go.Proofs.YthbjpdijafccjaaGreat
