/- Lemmas, conditions told -/
import Derived.Test.YtibemhahkicbpaaGreatK20
set_option maxRecDepth 99999
set_option maxHeartbeats 0
set_option linter.unusedSimpArgs false
set_option linter.unusedVariables false
namespace Go.Proofs.YtibemhahkicbpaaGreat
open List(getD_eq_getElem?_getD length_cons length_nil drop_eq_getElem_cons takeWhile_cons drop_of_length_le length_append length_take drop_zero length_drop map_take)
open Nat(le_trans)
open Int(toNat_of_nonneg le_refl)
open Go.RowKit Go.Lib
section
open Tryz
theorem Qoc(l:List Int)(hl:l.length<=1000000000)(hu:Un l)(k:Int)(h0:0<=k)(h1:k<l.length):BCall prog 157 [.slc 1 (Q0 l),.val (.int .i64 k)] [] (Q1B ((Q1n l k.toNat).1:Nat) k ((Q1n l k.toNat).2.1:Nat) (Q1n l k.toNat).2.2) []:=by
 cases jM:Q6 l k.toNat [38,35]with
 |false=>exact QmU l hl hu k h0 h1 jM
 |true =>
  by_cases hf:k+1+((Qj l (k.toNat+1):Nat):Int)<l.length
  ·cases jT:Q6 l k.toNat [38,35,120]with
   |true=>exact Qng l hl hu k h0 h1 jM jT hf
   |false=>exact Qm2 l hl hu k h0 h1 jM jT hf
  ·cases jT:Q6 l k.toNat [38,35,120]with
   |true=>exact Qms l hl hu k h0 h1 jM jT hf
   |false=>exact Qnz l hl hu k h0 h1 jM jT hf
def Q4u(s1 s2 s3 s4 s5 ns:Bool)(kd k t:Int)(w:Bool):Nat->List AV->List Ob->Option (AV×List Ob):=fun f args _=>match f,args with
 |1000009,_=>some (.val (.bool s1),[])
 |1000016,_=>some (.val (.bool s2),[])
 |1000023,_=>some (.val (.bool s3),[])
 |1000030,_=>some (.val (.bool s4),[])
 |1000037,_=>some (.val (.bool s5),[])
 |155,[.val (.int .i32 _)]=>some (.val (.bool ns),[])
 |152,[.slc 1 _,.val (.int .i64 _),.val (.int .i64 _),.val (.int .i64 _),.val (.string _)]=>some (.agg [.val (.int .i64 kd),.val (.int .i64 k),.val (.int .i64 t),.val (.bool w)],[])
 |153,[.slc 1 _,.val (.int .i64 _)]=>some (.agg [.val (.int .i64 kd),.val (.int .i64 k),.val (.int .i64 t),.val (.bool w)],[])
 |154,[.slc 1 _,.val (.int .i64 _)]=>some (.agg [.val (.int .i64 kd),.val (.int .i64 k),.val (.int .i64 t),.val (.bool w)],[])
 |156,[.slc 1 _,.val (.int .i64 _)]=>some (.agg [.val (.int .i64 kd),.val (.int .i64 k),.val (.int .i64 t),.val (.bool w)],[])
 |157,[.slc 1 _,.val (.int .i64 _)]=>some (.agg [.val (.int .i64 kd),.val (.int .i64 k),.val (.int .i64 t),.val (.bool w)],[])
 |_,_=>none
theorem Q5d{l:List Int}{k:Nat}(h:l[k]?.getD 0=60):Ql l k=Q1H l k:=by
 rw[Ql,if_pos (by rw[getD_eq_getElem?_getD];exact h)]
theorem Q4H{l:List Int}{k:Nat}{bs:List UInt8}(h:Q6 l k (60::bs)=true):l[k]?.getD 0=60:=by
 have:=Q7b h (i:=0) (by simp)
 rw[Nat.add_zero]at this;rw[this];rfl
theorem Qlu(l:List Int)(hl:l.length<=1000000000)(hu:Un l)(k:Int)(h0:0<=k)(h1:k<l.length)(jM:Q6 l k.toNat [60,33,45,45]=true):BCall prog 126 [.slc 1 (Q0 l),.val (.int .i64 k)] [] (Q1B ((Ql l k.toNat).1:Nat) k ((Ql l k.toNat).2.1:Nat) (Ql l k.toNat).2.2) []:=by
 have c1:BCall prog 151 [.slc 1 (Q0 l),.val (.int .i64 k),.val (.string ⟨#[60,33,45,45]⟩)] [] (.val (.bool true)) []:=by
  have:=Qc l hl hu.i32 k h0 (by omega) ⟨#[60,33,45,45]⟩ (by decide)
  have e:Q6 l k.toNat (⟨#[60,33,45,45]⟩:ByteArray).data.toList=true:=jM;rw[e]at this;exact this
 have hm:=Q5d (Q4H jM);have jZ:=Q17 l k.toNat _ (by omega) jM
 simp only[length_cons,length_nil]at jZ;have vm:((k.toNat:Nat):Int)=k:=toNat_of_nonneg h0;rw[Q1H,if_pos jM]at hm;rw[hm];obtain⟨u1,u2,u3⟩:=Q5L l 4 k.toNat 4 [45,45,62] (by omega)
 rw[vm]at u2 u3;have u2:((Q14 l 4 k.toNat 4 [45,45,62]).2.1:Int)=Q3C l (k+4) [45,45,62]:=u2;have u3:(Q14 l 4 k.toNat 4 [45,45,62]).2.2=Q3F l (k+4) [45,45,62]:=u3;have cT:BCall prog 152 [.slc 1 (Q0 l),.val (.int .i64 4),.val (.int .i64 k),.val (.int .i64 4),.val (.string ⟨#[45,45,62]⟩)] [] (Q1B 4 k (Q3C l (k+4) [45,45,62]) (Q3F l (k+4) [45,45,62])) []:=Q8v l hl hu.i32 4 k 4 h0 (by decide) (by omega) ⟨#[45,45,62]⟩ (by decide)
 rw[u1,u2,u3];generalize Q3C l (k+4) [45,45,62]=t at cT ⊢;generalize Q3F l (k+4) [45,45,62]=w at cT ⊢;show BCall _ _ _ _ (Q1B 4 k t w) _;rw[Q1B]at cT ⊢;obtain⟨kd,jD⟩:=exq (4:Int);have cT:BCall prog 152 [.slc 1 (Q0 l),.val (.int .i64 4),.val (.int .i64 k),.val (.int .i64 4),.val (.string ⟨#[45,45,62]⟩)] [] (.agg [.val (.int .i64 kd),.val (.int .i64 k),.val (.int .i64 t),.val (.bool w)]) []:=by rw[jD];exact cT
 rw[<-jD];clear u1 u2 u3 jD;clear hm jZ vm;refine fnN (Q4u true true true true true true kd k t w) func126 rfl fun _ _=>?_
 with_reducible refine cv1 (Q0 l) ?_
 repeat' (with_reducible apply And.intro)
 all_goals first
  |exact c1
  |exact cT
  |exact .pure rfl ⟨.inl rfl,.inl rfl,.inl rfl,.inl rfl,trivial⟩
theorem QjR(l:List Int)(hl:l.length<=1000000000)(hu:Un l)(k:Int)(h0:0<=k)(h1:k<l.length)(jM:Q6 l k.toNat [60,33,45,45]=false)(jT:Q6 l k.toNat [60,33,91,67,68,65,84,65,91]=true):BCall prog 126 [.slc 1 (Q0 l),.val (.int .i64 k)] [] (Q1B ((Ql l k.toNat).1:Nat) k ((Ql l k.toNat).2.1:Nat) (Ql l k.toNat).2.2) []:=by
 have c1:BCall prog 151 [.slc 1 (Q0 l),.val (.int .i64 k),.val (.string ⟨#[60,33,45,45]⟩)] [] (.val (.bool false)) []:=by
  have:=Qc l hl hu.i32 k h0 (by omega) ⟨#[60,33,45,45]⟩ (by decide)
  have e:Q6 l k.toNat (⟨#[60,33,45,45]⟩:ByteArray).data.toList=false:=jM;rw[e]at this;exact this
 have c2:BCall prog 151 [.slc 1 (Q0 l),.val (.int .i64 k),.val (.string ⟨#[60,33,91,67,68,65,84,65,91]⟩)] [] (.val (.bool true)) []:=by
  have:=Qc l hl hu.i32 k h0 (by omega) ⟨#[60,33,91,67,68,65,84,65,91]⟩ (by decide)
  have e:Q6 l k.toNat (⟨#[60,33,91,67,68,65,84,65,91]⟩:ByteArray).data.toList=true:=jT;rw[e]at this;exact this
 have hm:=Q5d (Q4H jT);have jZ:=Q17 l k.toNat _ (by omega) jT
 simp only[length_cons,length_nil]at jZ;have vm:((k.toNat:Nat):Int)=k:=toNat_of_nonneg h0;rw[Q1H,if_neg (show ¬Q6 l k.toNat [60,33,45,45]=true by rw[jM];decide),if_pos jT]at hm
 rw[hm];obtain⟨u1,u2,u3⟩:=Q5L l 6 k.toNat 9 [93,93,62] (by omega)
 rw[vm]at u2 u3;have u2:((Q14 l 6 k.toNat 9 [93,93,62]).2.1:Int)=Q3C l (k+9) [93,93,62]:=u2;have u3:(Q14 l 6 k.toNat 9 [93,93,62]).2.2=Q3F l (k+9) [93,93,62]:=u3;have cT:BCall prog 152 [.slc 1 (Q0 l),.val (.int .i64 6),.val (.int .i64 k),.val (.int .i64 9),.val (.string ⟨#[93,93,62]⟩)] [] (Q1B 6 k (Q3C l (k+9) [93,93,62]) (Q3F l (k+9) [93,93,62])) []:=Q8v l hl hu.i32 6 k 9 h0 (by decide) (by omega) ⟨#[93,93,62]⟩ (by decide)
 rw[u1,u2,u3];generalize Q3C l (k+9) [93,93,62]=t at cT ⊢;generalize Q3F l (k+9) [93,93,62]=w at cT ⊢;show BCall _ _ _ _ (Q1B 6 k t w) _;rw[Q1B]at cT ⊢;obtain⟨kd,jD⟩:=exq (6:Int);have cT:BCall prog 152 [.slc 1 (Q0 l),.val (.int .i64 6),.val (.int .i64 k),.val (.int .i64 9),.val (.string ⟨#[93,93,62]⟩)] [] (.agg [.val (.int .i64 kd),.val (.int .i64 k),.val (.int .i64 t),.val (.bool w)]) []:=by rw[jD];exact cT
 rw[<-jD];clear u1 u2 u3 jD;clear hm jZ vm;refine fnN (Q4u false true true true true true kd k t w) func126 rfl fun _ _=>?_
 with_reducible refine cv1 (Q0 l) ?_
 repeat' (with_reducible apply And.intro)
 all_goals first
  |exact c1
  |exact c2
  |exact cT
  |exact .pure rfl ⟨.inl rfl,.inl rfl,.inl rfl,.inl rfl,trivial⟩
theorem Qk9(l:List Int)(hl:l.length<=1000000000)(hu:Un l)(k:Int)(h0:0<=k)(h1:k<l.length)(jM:Q6 l k.toNat [60,33,45,45]=false)(jT:Q6 l k.toNat [60,33,91,67,68,65,84,65,91]=false)(zJ:Q6 l k.toNat [60,63]=true):BCall prog 126 [.slc 1 (Q0 l),.val (.int .i64 k)] [] (Q1B ((Ql l k.toNat).1:Nat) k ((Ql l k.toNat).2.1:Nat) (Ql l k.toNat).2.2) []:=by
 have c1:BCall prog 151 [.slc 1 (Q0 l),.val (.int .i64 k),.val (.string ⟨#[60,33,45,45]⟩)] [] (.val (.bool false)) []:=by
  have:=Qc l hl hu.i32 k h0 (by omega) ⟨#[60,33,45,45]⟩ (by decide)
  have e:Q6 l k.toNat (⟨#[60,33,45,45]⟩:ByteArray).data.toList=false:=jM;rw[e]at this;exact this
 have c2:BCall prog 151 [.slc 1 (Q0 l),.val (.int .i64 k),.val (.string ⟨#[60,33,91,67,68,65,84,65,91]⟩)] [] (.val (.bool false)) []:=by
  have:=Qc l hl hu.i32 k h0 (by omega) ⟨#[60,33,91,67,68,65,84,65,91]⟩ (by decide)
  have e:Q6 l k.toNat (⟨#[60,33,91,67,68,65,84,65,91]⟩:ByteArray).data.toList=false:=jT;rw[e]at this;exact this
 have c3:BCall prog 151 [.slc 1 (Q0 l),.val (.int .i64 k),.val (.string ⟨#[60,63]⟩)] [] (.val (.bool true)) []:=by
  have:=Qc l hl hu.i32 k h0 (by omega) ⟨#[60,63]⟩ (by decide)
  have e:Q6 l k.toNat (⟨#[60,63]⟩:ByteArray).data.toList=true:=zJ;rw[e]at this;exact this
 have hm:=Q5d (Q4H zJ);have jZ:=Q17 l k.toNat _ (by omega) zJ
 simp only[length_cons,length_nil]at jZ;have vm:((k.toNat:Nat):Int)=k:=toNat_of_nonneg h0;rw[Q1H,if_neg (show ¬Q6 l k.toNat [60,33,45,45]=true by rw[jM];decide),if_neg (show ¬Q6 l k.toNat [60,33,91,67,68,65,84,65,91]=true by rw[jT];decide),if_pos zJ]at hm
 rw[hm];obtain⟨u1,u2,u3⟩:=Q5L l 5 k.toNat 2 [63,62] (by omega)
 rw[vm]at u2 u3;have u2:((Q14 l 5 k.toNat 2 [63,62]).2.1:Int)=Q3C l (k+2) [63,62]:=u2;have u3:(Q14 l 5 k.toNat 2 [63,62]).2.2=Q3F l (k+2) [63,62]:=u3;have cT:BCall prog 152 [.slc 1 (Q0 l),.val (.int .i64 5),.val (.int .i64 k),.val (.int .i64 2),.val (.string ⟨#[63,62]⟩)] [] (Q1B 5 k (Q3C l (k+2) [63,62]) (Q3F l (k+2) [63,62])) []:=Q8v l hl hu.i32 5 k 2 h0 (by decide) (by omega) ⟨#[63,62]⟩ (by decide)
 rw[u1,u2,u3];generalize Q3C l (k+2) [63,62]=t at cT ⊢;generalize Q3F l (k+2) [63,62]=w at cT ⊢;show BCall _ _ _ _ (Q1B 5 k t w) _;rw[Q1B]at cT ⊢;obtain⟨kd,jD⟩:=exq (5:Int);have cT:BCall prog 152 [.slc 1 (Q0 l),.val (.int .i64 5),.val (.int .i64 k),.val (.int .i64 2),.val (.string ⟨#[63,62]⟩)] [] (.agg [.val (.int .i64 kd),.val (.int .i64 k),.val (.int .i64 t),.val (.bool w)]) []:=by rw[jD];exact cT
 rw[<-jD];clear u1 u2 u3 jD;clear hm jZ vm;refine fnN (Q4u false false true true true true kd k t w) func126 rfl fun _ _=>?_
 with_reducible refine cv1 (Q0 l) ?_
 repeat' (with_reducible apply And.intro)
 all_goals first
  |exact c1
  |exact c2
  |exact c3
  |exact cT
  |exact .pure rfl ⟨.inl rfl,.inl rfl,.inl rfl,.inl rfl,trivial⟩
theorem QkS(l:List Int)(hl:l.length<=1000000000)(hu:Un l)(k:Int)(h0:0<=k)(h1:k<l.length)(jM:Q6 l k.toNat [60,33,45,45]=false)(jT:Q6 l k.toNat [60,33,91,67,68,65,84,65,91]=false)(zJ:Q6 l k.toNat [60,63]=false)(xq:Q6 l k.toNat [60,33,68,79,67,84,89,80,69]=true):BCall prog 126 [.slc 1 (Q0 l),.val (.int .i64 k)] [] (Q1B ((Ql l k.toNat).1:Nat) k ((Ql l k.toNat).2.1:Nat) (Ql l k.toNat).2.2) []:=by
 have c1:BCall prog 151 [.slc 1 (Q0 l),.val (.int .i64 k),.val (.string ⟨#[60,33,45,45]⟩)] [] (.val (.bool false)) []:=by
  have:=Qc l hl hu.i32 k h0 (by omega) ⟨#[60,33,45,45]⟩ (by decide)
  have e:Q6 l k.toNat (⟨#[60,33,45,45]⟩:ByteArray).data.toList=false:=jM;rw[e]at this;exact this
 have c2:BCall prog 151 [.slc 1 (Q0 l),.val (.int .i64 k),.val (.string ⟨#[60,33,91,67,68,65,84,65,91]⟩)] [] (.val (.bool false)) []:=by
  have:=Qc l hl hu.i32 k h0 (by omega) ⟨#[60,33,91,67,68,65,84,65,91]⟩ (by decide)
  have e:Q6 l k.toNat (⟨#[60,33,91,67,68,65,84,65,91]⟩:ByteArray).data.toList=false:=jT;rw[e]at this;exact this
 have c3:BCall prog 151 [.slc 1 (Q0 l),.val (.int .i64 k),.val (.string ⟨#[60,63]⟩)] [] (.val (.bool false)) []:=by
  have:=Qc l hl hu.i32 k h0 (by omega) ⟨#[60,63]⟩ (by decide)
  have e:Q6 l k.toNat (⟨#[60,63]⟩:ByteArray).data.toList=false:=zJ;rw[e]at this;exact this
 have c4:BCall prog 151 [.slc 1 (Q0 l),.val (.int .i64 k),.val (.string ⟨#[60,33,68,79,67,84,89,80,69]⟩)] [] (.val (.bool true)) []:=by
  have:=Qc l hl hu.i32 k h0 (by omega) ⟨#[60,33,68,79,67,84,89,80,69]⟩ (by decide)
  have e:Q6 l k.toNat (⟨#[60,33,68,79,67,84,89,80,69]⟩:ByteArray).data.toList=true:=xq;rw[e]at this;exact this
 have hm:=Q5d (Q4H xq);have jZ:=Q17 l k.toNat _ (by omega) xq
 simp only[length_cons,length_nil]at jZ;have vm:((k.toNat:Nat):Int)=k:=toNat_of_nonneg h0;rw[Q1H,if_neg (show ¬Q6 l k.toNat [60,33,45,45]=true by rw[jM];decide),if_neg (show ¬Q6 l k.toNat [60,33,91,67,68,65,84,65,91]=true by rw[jT];decide),if_neg (show ¬Q6 l k.toNat [60,63]=true by rw[zJ];decide),if_pos xq]at hm
 rw[hm];have cT:=QfX l hl hu.i32 k h0 (by omega)
 have ga:(((Q3E l k.toNat).1:Nat):Int)=7:=rfl;rw[ga];obtain⟨t,ht⟩:=exq (((Q3E l k.toNat).2.1:Nat):Int);obtain⟨w,hw⟩:=exq ((Q3E l k.toNat).2.2:Bool);rw[<-ht,<-hw]at cT ⊢;rw[Q1B]at cT ⊢;obtain⟨kd,jD⟩:=exq (7:Int);have cT:BCall prog 153 [.slc 1 (Q0 l),.val (.int .i64 k)] [] (.agg [.val (.int .i64 kd),.val (.int .i64 k),.val (.int .i64 t),.val (.bool w)]) []:=by rw[jD];exact cT
 rw[<-jD];clear ht hw jD ga;clear hm jZ vm;refine fnN (Q4u false false false true true true kd k t w) func126 rfl fun _ _=>?_
 with_reducible refine cv1 (Q0 l) ?_
 repeat' (with_reducible apply And.intro)
 all_goals first
  |exact c1
  |exact c2
  |exact c3
  |exact c4
  |exact cT
  |exact .pure rfl ⟨.inl rfl,.inl rfl,.inl rfl,.inl rfl,trivial⟩
theorem Qlx(l:List Int)(hl:l.length<=1000000000)(hu:Un l)(k:Int)(h0:0<=k)(h1:k<l.length)(jM:Q6 l k.toNat [60,33,45,45]=false)(jT:Q6 l k.toNat [60,33,91,67,68,65,84,65,91]=false)(zJ:Q6 l k.toNat [60,63]=false)(xq:Q6 l k.toNat [60,33,68,79,67,84,89,80,69]=false)(hs5:Q6 l k.toNat [60,47]=true):BCall prog 126 [.slc 1 (Q0 l),.val (.int .i64 k)] [] (Q1B ((Ql l k.toNat).1:Nat) k ((Ql l k.toNat).2.1:Nat) (Ql l k.toNat).2.2) []:=by
 have c1:BCall prog 151 [.slc 1 (Q0 l),.val (.int .i64 k),.val (.string ⟨#[60,33,45,45]⟩)] [] (.val (.bool false)) []:=by
  have:=Qc l hl hu.i32 k h0 (by omega) ⟨#[60,33,45,45]⟩ (by decide)
  have e:Q6 l k.toNat (⟨#[60,33,45,45]⟩:ByteArray).data.toList=false:=jM;rw[e]at this;exact this
 have c2:BCall prog 151 [.slc 1 (Q0 l),.val (.int .i64 k),.val (.string ⟨#[60,33,91,67,68,65,84,65,91]⟩)] [] (.val (.bool false)) []:=by
  have:=Qc l hl hu.i32 k h0 (by omega) ⟨#[60,33,91,67,68,65,84,65,91]⟩ (by decide)
  have e:Q6 l k.toNat (⟨#[60,33,91,67,68,65,84,65,91]⟩:ByteArray).data.toList=false:=jT;rw[e]at this;exact this
 have c3:BCall prog 151 [.slc 1 (Q0 l),.val (.int .i64 k),.val (.string ⟨#[60,63]⟩)] [] (.val (.bool false)) []:=by
  have:=Qc l hl hu.i32 k h0 (by omega) ⟨#[60,63]⟩ (by decide)
  have e:Q6 l k.toNat (⟨#[60,63]⟩:ByteArray).data.toList=false:=zJ;rw[e]at this;exact this
 have c4:BCall prog 151 [.slc 1 (Q0 l),.val (.int .i64 k),.val (.string ⟨#[60,33,68,79,67,84,89,80,69]⟩)] [] (.val (.bool false)) []:=by
  have:=Qc l hl hu.i32 k h0 (by omega) ⟨#[60,33,68,79,67,84,89,80,69]⟩ (by decide)
  have e:Q6 l k.toNat (⟨#[60,33,68,79,67,84,89,80,69]⟩:ByteArray).data.toList=false:=xq;rw[e]at this;exact this
 have c5:BCall prog 151 [.slc 1 (Q0 l),.val (.int .i64 k),.val (.string ⟨#[60,47]⟩)] [] (.val (.bool true)) []:=by
  have:=Qc l hl hu.i32 k h0 (by omega) ⟨#[60,47]⟩ (by decide)
  have e:Q6 l k.toNat (⟨#[60,47]⟩:ByteArray).data.toList=true:=hs5;rw[e]at this;exact this
 have hm:=Q5d (Q4H hs5);have jZ:=Q17 l k.toNat _ (by omega) hs5
 simp only[length_cons,length_nil]at jZ;have vm:((k.toNat:Nat):Int)=k:=toNat_of_nonneg h0;rw[Q1H,if_neg (show ¬Q6 l k.toNat [60,33,45,45]=true by rw[jM];decide),if_neg (show ¬Q6 l k.toNat [60,33,91,67,68,65,84,65,91]=true by rw[jT];decide),if_neg (show ¬Q6 l k.toNat [60,63]=true by rw[zJ];decide),if_neg (show ¬Q6 l k.toNat [60,33,68,79,67,84,89,80,69]=true by rw[xq];decide),if_pos hs5]at hm
 rw[hm];have cT:=Qoz l hl k h0 (by omega)
 have ga:(((Q3h l k.toNat).1:Nat):Int)=10:=rfl;rw[ga];obtain⟨t,ht⟩:=exq (((Q3h l k.toNat).2.1:Nat):Int);obtain⟨w,hw⟩:=exq ((Q3h l k.toNat).2.2:Bool);rw[<-ht,<-hw]at cT ⊢;rw[Q1B]at cT ⊢;obtain⟨kd,jD⟩:=exq (10:Int);have cT:BCall prog 154 [.slc 1 (Q0 l),.val (.int .i64 k)] [] (.agg [.val (.int .i64 kd),.val (.int .i64 k),.val (.int .i64 t),.val (.bool w)]) []:=by rw[jD];exact cT
 rw[<-jD];clear ht hw jD ga;clear hm jZ vm;refine fnN (Q4u false false false false true true kd k t w) func126 rfl fun _ _=>?_
 with_reducible refine cv1 (Q0 l) ?_
 repeat' (with_reducible apply And.intro)
 all_goals first
  |exact c1
  |exact c2
  |exact c3
  |exact c4
  |exact c5
  |exact cT
  |exact .pure rfl ⟨.inl rfl,.inl rfl,.inl rfl,.inl rfl,trivial⟩
theorem Qap{l:List Int}{k:Nat}:0<Qj l k↔k<l.length/\Qp (l[k]?.getD 0)=true:=by
 unfold Qj;by_cases h:k<l.length
 ·rw[List.getElem?_eq_getElem h]
  show 0<(if Qp l[k]=true then((l.drop k).takeWhile Qq).length else 0)↔k<l.length/\Qp l[k]=true;by_cases hs:Qp l[k]=true
  ·rw[if_pos hs,drop_eq_getElem_cons h,takeWhile_cons,if_pos (Qa3 _ hs),length_cons]
   exact⟨fun _=>⟨h,hs⟩,fun _=>by omega⟩
  ·rw[if_neg hs]
   exact⟨fun h2=>by omega,fun h2=>absurd h2.2 hs⟩
 ·rw[List.getElem?_eq_none (by omega)]
  exact⟨fun h2=>absurd h2 (Nat.lt_irrefl 0),fun h2=>absurd h2.1 h⟩
structure NoMark (l:List Int) (k:Nat):Prop where
 s1:Q6 l k [60,33,45,45]=false
 s2:Q6 l k [60,33,91,67,68,65,84,65,91]=false
 s3:Q6 l k [60,63]=false
 s4:Q6 l k [60,33,68,79,67,84,89,80,69]=false
 s5:Q6 l k [60,47]=false
theorem NoMark.markup{l:List Int}{k:Nat}(h:NoMark l k):Q1H l k=if 0<Qj l (k+1)then Q1D l k else(11,k+1,false):=by
 rw[Q1H,h.s1,h.s2,h.s3,h.s4,h.s5];rfl
def plN(l:List Int)(i:Int):Nat:=((l.drop i.toNat).takeWhile Q1Q).length
theorem QlE{l:List Int}{i:Int}(h0:0<=i)(h1:i<l.length)(h:Q1Q (l[i.toNat]?.getD 0)=true):plN l i=plN l (i+1)+1:=by
 obtain⟨hl,e⟩:=Q5r h0 h1;rw[e]at h;rw[plN,plN,drop_eq_getElem_cons hl,takeWhile_cons,if_pos h,length_cons,show(i+1).toNat=i.toNat+1 by omega]
theorem Qf8{l:List Int}{i:Int}(h0:0<=i)(h:i<l.length->Q1Q (l[i.toNat]?.getD 0)=false):plN l i=0:=by
 by_cases h1:i<l.length
 ·obtain⟨hl,e⟩:=Q5r h0 h1
  have h:=h h1;rw[e]at h;rw[plN,drop_eq_getElem_cons hl,takeWhile_cons,if_neg (by rw[h];decide)];rfl
 ·rw[plN,drop_of_length_le (by omega)];rfl
theorem QiY(l:List Int)(hl:l.length<=1000000000)(hu:Un l)(k:Int)(h0:0<=k)(h1:k<l.length)(hM:NoMark l k.toNat)(jO:l[k.toNat]?.getD 0=60)(jU:k+1<l.length)(gt:Qp (l[k.toNat+1]?.getD 0)=true):BCall prog 126 [.slc 1 (Q0 l),.val (.int .i64 k)] [] (Q1B ((Ql l k.toNat).1:Nat) k ((Ql l k.toNat).2.1:Nat) (Ql l k.toNat).2.2) []:=by
 have c1:BCall prog 151 [.slc 1 (Q0 l),.val (.int .i64 k),.val (.string ⟨#[60,33,45,45]⟩)] [] (.val (.bool false)) []:=by
  have:=Qc l hl hu.i32 k h0 (by omega) ⟨#[60,33,45,45]⟩ (by decide)
  have e:Q6 l k.toNat (⟨#[60,33,45,45]⟩:ByteArray).data.toList=false:=hM.s1;rw[e]at this;exact this
 have c2:BCall prog 151 [.slc 1 (Q0 l),.val (.int .i64 k),.val (.string ⟨#[60,33,91,67,68,65,84,65,91]⟩)] [] (.val (.bool false)) []:=by
  have:=Qc l hl hu.i32 k h0 (by omega) ⟨#[60,33,91,67,68,65,84,65,91]⟩ (by decide)
  have e:Q6 l k.toNat (⟨#[60,33,91,67,68,65,84,65,91]⟩:ByteArray).data.toList=false:=hM.s2;rw[e]at this;exact this
 have c3:BCall prog 151 [.slc 1 (Q0 l),.val (.int .i64 k),.val (.string ⟨#[60,63]⟩)] [] (.val (.bool false)) []:=by
  have:=Qc l hl hu.i32 k h0 (by omega) ⟨#[60,63]⟩ (by decide)
  have e:Q6 l k.toNat (⟨#[60,63]⟩:ByteArray).data.toList=false:=hM.s3;rw[e]at this;exact this
 have c4:BCall prog 151 [.slc 1 (Q0 l),.val (.int .i64 k),.val (.string ⟨#[60,33,68,79,67,84,89,80,69]⟩)] [] (.val (.bool false)) []:=by
  have:=Qc l hl hu.i32 k h0 (by omega) ⟨#[60,33,68,79,67,84,89,80,69]⟩ (by decide)
  have e:Q6 l k.toNat (⟨#[60,33,68,79,67,84,89,80,69]⟩:ByteArray).data.toList=false:=hM.s4;rw[e]at this;exact this
 have c5:BCall prog 151 [.slc 1 (Q0 l),.val (.int .i64 k),.val (.string ⟨#[60,47]⟩)] [] (.val (.bool false)) []:=by
  have:=Qc l hl hu.i32 k h0 (by omega) ⟨#[60,47]⟩ (by decide)
  have e:Q6 l k.toNat (⟨#[60,47]⟩:ByteArray).data.toList=false:=hM.s5;rw[e]at this;exact this
 have ak:=QJ (l:=l) (i:=k) h0 h1;obtain⟨n,hn⟩:=QE l;have jq:=Qx l;have jc:k<n:=by have:=hn.eq;omega
 have qC:n<=1000000000:=by have:=hn.eq;omega
 have an:=QJ (l:=l) (i:=k+1) (by omega) jU
 have gb:k+1<n:=by have:=hn.eq;omega
 have cN:=Q6j (l[(k+1).toNat]?.getD 0);have jf:(k+1).toNat=k.toNat+1:=by omega
 rw[show Qp (l[(k+1).toNat]?.getD 0)=true by rw[jf];exact gt]at cN
 rw[Q5d jO,hM.markup,if_pos (Qap.2 ⟨by omega,gt⟩)]
 have cT:=Qi7 l hl k h0 h1;obtain⟨kd,jD⟩:=exq ((((Q1D l k.toNat).1:Nat):Int):Int);obtain⟨t,ht⟩:=exq ((((Q1D l k.toNat).2.1:Nat):Int):Int);obtain⟨w,hw⟩:=exq ((Q1D l k.toNat).2.2:Bool);rw[<-jD,<-ht,<-hw]at cT ⊢;rw[Q1B]at cT ⊢;clear jD ht hw hM jU jf gt;refine fnN (Q4u false false false false false true kd k t w) func126 rfl fun _ _=>?_
 with_reducible refine cv1 (Q0 l) ?_
 have jB:=Q15 hn
 have eN:std.int (std.nth (std.cel (std.at_ (Q0 l) (std.add k 1))) 0)=l[(k+1).toNat]?.getD 0:=by
  have e9:(Q0 l).getD (k+1).toNat .dead=.val (.int .i32 (l[(k+1).toNat]?.getD 0)):=by rw[getD_eq_getElem?_getD];exact an
  show intOf ((AV.cells ((Q0 l).getD (k+1).toNat .dead)).getD 0 .dead)=_;rw[e9];rfl
 have cNs:BCall prog 155 [.val (.int .i32 (std.int (std.nth (std.cel (std.at_ (Q0 l) (std.add k 1))) 0)))] [] (.val (.bool true)) []:=by rw[eN];exact cN
 with_reducible repeat' first|refine aU (zA jB <| zA ak <| zA an <| zA jO <| zA jc <| zA gb h0) ?_|refine zA ?_ ?_|intro hb
 all_goals first
  |exact c1
  |exact c2
  |exact c3
  |exact c4
  |exact c5
  |exact cNs
  |exact cT
  |exact .pure rfl ⟨.inl rfl,.inl rfl,.inl rfl,.inl rfl,trivial⟩
theorem Qi8(l:List Int)(hl:l.length<=1000000000)(hu:Un l)(k:Int)(h0:0<=k)(h1:k<l.length)(hM:NoMark l k.toNat)(jO:l[k.toNat]?.getD 0=60)(jU:k+1<l.length)(gt:Qp (l[k.toNat+1]?.getD 0)=false):BCall prog 126 [.slc 1 (Q0 l),.val (.int .i64 k)] [] (Q1B ((Ql l k.toNat).1:Nat) k ((Ql l k.toNat).2.1:Nat) (Ql l k.toNat).2.2) []:=by
 have c1:BCall prog 151 [.slc 1 (Q0 l),.val (.int .i64 k),.val (.string ⟨#[60,33,45,45]⟩)] [] (.val (.bool false)) []:=by
  have:=Qc l hl hu.i32 k h0 (by omega) ⟨#[60,33,45,45]⟩ (by decide)
  have e:Q6 l k.toNat (⟨#[60,33,45,45]⟩:ByteArray).data.toList=false:=hM.s1;rw[e]at this;exact this
 have c2:BCall prog 151 [.slc 1 (Q0 l),.val (.int .i64 k),.val (.string ⟨#[60,33,91,67,68,65,84,65,91]⟩)] [] (.val (.bool false)) []:=by
  have:=Qc l hl hu.i32 k h0 (by omega) ⟨#[60,33,91,67,68,65,84,65,91]⟩ (by decide)
  have e:Q6 l k.toNat (⟨#[60,33,91,67,68,65,84,65,91]⟩:ByteArray).data.toList=false:=hM.s2;rw[e]at this;exact this
 have c3:BCall prog 151 [.slc 1 (Q0 l),.val (.int .i64 k),.val (.string ⟨#[60,63]⟩)] [] (.val (.bool false)) []:=by
  have:=Qc l hl hu.i32 k h0 (by omega) ⟨#[60,63]⟩ (by decide)
  have e:Q6 l k.toNat (⟨#[60,63]⟩:ByteArray).data.toList=false:=hM.s3;rw[e]at this;exact this
 have c4:BCall prog 151 [.slc 1 (Q0 l),.val (.int .i64 k),.val (.string ⟨#[60,33,68,79,67,84,89,80,69]⟩)] [] (.val (.bool false)) []:=by
  have:=Qc l hl hu.i32 k h0 (by omega) ⟨#[60,33,68,79,67,84,89,80,69]⟩ (by decide)
  have e:Q6 l k.toNat (⟨#[60,33,68,79,67,84,89,80,69]⟩:ByteArray).data.toList=false:=hM.s4;rw[e]at this;exact this
 have c5:BCall prog 151 [.slc 1 (Q0 l),.val (.int .i64 k),.val (.string ⟨#[60,47]⟩)] [] (.val (.bool false)) []:=by
  have:=Qc l hl hu.i32 k h0 (by omega) ⟨#[60,47]⟩ (by decide)
  have e:Q6 l k.toNat (⟨#[60,47]⟩:ByteArray).data.toList=false:=hM.s5;rw[e]at this;exact this
 have ak:=QJ (l:=l) (i:=k) h0 h1;obtain⟨n,hn⟩:=QE l;have jq:=Qx l;have jc:k<n:=by have:=hn.eq;omega
 have qC:n<=1000000000:=by have:=hn.eq;omega
 have an:=QJ (l:=l) (i:=k+1) (by omega) jU
 have gb:k+1<n:=by have:=hn.eq;omega
 have cN:=Q6j (l[(k+1).toNat]?.getD 0);have jf:(k+1).toNat=k.toNat+1:=by omega
 rw[show Qp (l[(k+1).toNat]?.getD 0)=false by rw[jf];exact gt]at cN
 rw[Q5d jO,hM.markup,if_neg (fun h=>by have:=(Qap.1 h).2;rw[gt]at this;cases this)]
 obtain⟨kd,jD⟩:=exq ((((((11,k.toNat+1,false):Nat×Nat×Bool)).1:Nat):Int):Int);obtain⟨t,ht⟩:=exq ((((((11,k.toNat+1,false):Nat×Nat×Bool)).2.1:Nat):Int):Int);obtain⟨w,hw⟩:=exq ((((11,k.toNat+1,false):Nat×Nat×Bool)).2.2:Bool);rw[<-jD,<-ht,<-hw,Q1B];have jD:kd=11:=jD;have ht:t=k+1:=by rw[ht];show((k.toNat+1:Nat):Int)=_;omega
 have hw:w=false:=hw;clear hM jU jf gt;refine fnN (Q4u false false false false false false 0 0 0 true) func126 rfl fun _ _=>?_
 with_reducible refine cv1 (Q0 l) ?_
 have jB:=Q15 hn
 have eN:std.int (std.nth (std.cel (std.at_ (Q0 l) (std.add k 1))) 0)=l[(k+1).toNat]?.getD 0:=by
  have e9:(Q0 l).getD (k+1).toNat .dead=.val (.int .i32 (l[(k+1).toNat]?.getD 0)):=by rw[getD_eq_getElem?_getD];exact an
  show intOf ((AV.cells ((Q0 l).getD (k+1).toNat .dead)).getD 0 .dead)=_;rw[e9];rfl
 have cNs:BCall prog 155 [.val (.int .i32 (std.int (std.nth (std.cel (std.at_ (Q0 l) (std.add k 1))) 0)))] [] (.val (.bool false)) []:=by rw[eN];exact cN
 with_reducible repeat' first|refine aU (zA jB <| zA ak <| zA an <| zA jO <| zA jc <| zA gb h0) ?_|refine zA ?_ ?_|intro hb
 all_goals first
  |exact c1
  |exact c2
  |exact c3
  |exact c4
  |exact c5
  |exact cNs
  |exact .pure rfl ⟨.inl (by rw[jD]),.inl rfl,.inl (by rw[ht];rfl),.inl (by rw[hw]),trivial⟩
theorem QhR(l:List Int)(hl:l.length<=1000000000)(hu:Un l)(k:Int)(h0:0<=k)(h1:k<l.length)(hM:NoMark l k.toNat)(jO:l[k.toNat]?.getD 0=60)(jU:¬k+1<l.length):BCall prog 126 [.slc 1 (Q0 l),.val (.int .i64 k)] [] (Q1B ((Ql l k.toNat).1:Nat) k ((Ql l k.toNat).2.1:Nat) (Ql l k.toNat).2.2) []:=by
 have c1:BCall prog 151 [.slc 1 (Q0 l),.val (.int .i64 k),.val (.string ⟨#[60,33,45,45]⟩)] [] (.val (.bool false)) []:=by
  have:=Qc l hl hu.i32 k h0 (by omega) ⟨#[60,33,45,45]⟩ (by decide)
  have e:Q6 l k.toNat (⟨#[60,33,45,45]⟩:ByteArray).data.toList=false:=hM.s1;rw[e]at this;exact this
 have c2:BCall prog 151 [.slc 1 (Q0 l),.val (.int .i64 k),.val (.string ⟨#[60,33,91,67,68,65,84,65,91]⟩)] [] (.val (.bool false)) []:=by
  have:=Qc l hl hu.i32 k h0 (by omega) ⟨#[60,33,91,67,68,65,84,65,91]⟩ (by decide)
  have e:Q6 l k.toNat (⟨#[60,33,91,67,68,65,84,65,91]⟩:ByteArray).data.toList=false:=hM.s2;rw[e]at this;exact this
 have c3:BCall prog 151 [.slc 1 (Q0 l),.val (.int .i64 k),.val (.string ⟨#[60,63]⟩)] [] (.val (.bool false)) []:=by
  have:=Qc l hl hu.i32 k h0 (by omega) ⟨#[60,63]⟩ (by decide)
  have e:Q6 l k.toNat (⟨#[60,63]⟩:ByteArray).data.toList=false:=hM.s3;rw[e]at this;exact this
 have c4:BCall prog 151 [.slc 1 (Q0 l),.val (.int .i64 k),.val (.string ⟨#[60,33,68,79,67,84,89,80,69]⟩)] [] (.val (.bool false)) []:=by
  have:=Qc l hl hu.i32 k h0 (by omega) ⟨#[60,33,68,79,67,84,89,80,69]⟩ (by decide)
  have e:Q6 l k.toNat (⟨#[60,33,68,79,67,84,89,80,69]⟩:ByteArray).data.toList=false:=hM.s4;rw[e]at this;exact this
 have c5:BCall prog 151 [.slc 1 (Q0 l),.val (.int .i64 k),.val (.string ⟨#[60,47]⟩)] [] (.val (.bool false)) []:=by
  have:=Qc l hl hu.i32 k h0 (by omega) ⟨#[60,47]⟩ (by decide)
  have e:Q6 l k.toNat (⟨#[60,47]⟩:ByteArray).data.toList=false:=hM.s5;rw[e]at this;exact this
 have ak:=QJ (l:=l) (i:=k) h0 h1;obtain⟨n,hn⟩:=QE l;have jq:=Qx l;have jc:k<n:=by have:=hn.eq;omega
 have qC:n<=1000000000:=by have:=hn.eq;omega
 have gb:¬k+1<n:=by have:=hn.eq;omega
 rw[Q5d jO,hM.markup,if_neg (fun h=>jU (by have:=(Qap.1 h).1;omega))]
 obtain⟨kd,jD⟩:=exq ((((((11,k.toNat+1,false):Nat×Nat×Bool)).1:Nat):Int):Int);obtain⟨t,ht⟩:=exq ((((((11,k.toNat+1,false):Nat×Nat×Bool)).2.1:Nat):Int):Int);obtain⟨w,hw⟩:=exq ((((11,k.toNat+1,false):Nat×Nat×Bool)).2.2:Bool);rw[<-jD,<-ht,<-hw,Q1B];have jD:kd=11:=jD;have ht:t=k+1:=by rw[ht];show((k.toNat+1:Nat):Int)=_;omega
 have hw:w=false:=hw;clear hM jU;refine fnN (Q4u false false false false false false 0 0 0 true) func126 rfl fun _ _=>?_
 with_reducible refine cv1 (Q0 l) ?_
 have jB:=Q15 hn;with_reducible repeat' first|refine aU (zA jB <| zA ak <| zA jO <| zA jc <| zA gb h0) ?_|refine zA ?_ ?_|intro hb
 all_goals first
  |exact c1
  |exact c2
  |exact c3
  |exact c4
  |exact c5
  |exact .pure rfl ⟨.inl (by rw[jD]),.inl rfl,.inl (by rw[ht];rfl),.inl (by rw[hw]),trivial⟩
theorem Qk7(l:List Int)(hl:l.length<=1000000000)(hu:Un l)(k:Int)(h0:0<=k)(h1:k<l.length)(hM:NoMark l k.toNat)(vk:l[k.toNat]?.getD 0=38):BCall prog 126 [.slc 1 (Q0 l),.val (.int .i64 k)] [] (Q1B ((Ql l k.toNat).1:Nat) k ((Ql l k.toNat).2.1:Nat) (Ql l k.toNat).2.2) []:=by
 have c1:BCall prog 151 [.slc 1 (Q0 l),.val (.int .i64 k),.val (.string ⟨#[60,33,45,45]⟩)] [] (.val (.bool false)) []:=by
  have:=Qc l hl hu.i32 k h0 (by omega) ⟨#[60,33,45,45]⟩ (by decide)
  have e:Q6 l k.toNat (⟨#[60,33,45,45]⟩:ByteArray).data.toList=false:=hM.s1;rw[e]at this;exact this
 have c2:BCall prog 151 [.slc 1 (Q0 l),.val (.int .i64 k),.val (.string ⟨#[60,33,91,67,68,65,84,65,91]⟩)] [] (.val (.bool false)) []:=by
  have:=Qc l hl hu.i32 k h0 (by omega) ⟨#[60,33,91,67,68,65,84,65,91]⟩ (by decide)
  have e:Q6 l k.toNat (⟨#[60,33,91,67,68,65,84,65,91]⟩:ByteArray).data.toList=false:=hM.s2;rw[e]at this;exact this
 have c3:BCall prog 151 [.slc 1 (Q0 l),.val (.int .i64 k),.val (.string ⟨#[60,63]⟩)] [] (.val (.bool false)) []:=by
  have:=Qc l hl hu.i32 k h0 (by omega) ⟨#[60,63]⟩ (by decide)
  have e:Q6 l k.toNat (⟨#[60,63]⟩:ByteArray).data.toList=false:=hM.s3;rw[e]at this;exact this
 have c4:BCall prog 151 [.slc 1 (Q0 l),.val (.int .i64 k),.val (.string ⟨#[60,33,68,79,67,84,89,80,69]⟩)] [] (.val (.bool false)) []:=by
  have:=Qc l hl hu.i32 k h0 (by omega) ⟨#[60,33,68,79,67,84,89,80,69]⟩ (by decide)
  have e:Q6 l k.toNat (⟨#[60,33,68,79,67,84,89,80,69]⟩:ByteArray).data.toList=false:=hM.s4;rw[e]at this;exact this
 have c5:BCall prog 151 [.slc 1 (Q0 l),.val (.int .i64 k),.val (.string ⟨#[60,47]⟩)] [] (.val (.bool false)) []:=by
  have:=Qc l hl hu.i32 k h0 (by omega) ⟨#[60,47]⟩ (by decide)
  have e:Q6 l k.toNat (⟨#[60,47]⟩:ByteArray).data.toList=false:=hM.s5;rw[e]at this;exact this
 have ak:=QJ (l:=l) (i:=k) h0 h1;obtain⟨n,hn⟩:=QE l;have jq:=Qx l;have jc:k<n:=by have:=hn.eq;omega
 have qC:n<=1000000000:=by have:=hn.eq;omega
 have e:Ql l k.toNat=Q1n l k.toNat:=by
  rw[Ql,getD_eq_getElem?_getD,if_neg (by rw[vk];decide),if_pos vk]
 rw[e];have cT:=Qoc l hl hu k h0 h1;obtain⟨kd,jD⟩:=exq ((((Q1n l k.toNat).1:Nat):Int):Int);obtain⟨t,ht⟩:=exq ((((Q1n l k.toNat).2.1:Nat):Int):Int);obtain⟨w,hw⟩:=exq ((Q1n l k.toNat).2.2:Bool);rw[<-jD,<-ht,<-hw]at cT ⊢;rw[Q1B]at cT ⊢;clear jD ht hw hM e;refine fnN (Q4u false false false false false true kd k t w) func126 rfl fun _ _=>?_
 with_reducible refine cv1 (Q0 l) ?_
 have jB:=Q15 hn;with_reducible repeat' first|refine aU (zA jB <| zA ak <| zA vk <| zA jc h0) ?_|refine zA ?_ ?_|intro hb
 all_goals first
  |exact c1
  |exact c2
  |exact c3
  |exact c4
  |exact c5
  |exact cT
  |exact .pure rfl ⟨.inl rfl,.inl rfl,.inl rfl,.inl rfl,trivial⟩
theorem Qkh(l:List Int)(hl:l.length<=1000000000)(hu:Un l)(k:Int)(h0:0<=k)(h1:k<l.length)(hM:NoMark l k.toNat)(jx:l[k.toNat]?.getD 0=-1):BCall prog 126 [.slc 1 (Q0 l),.val (.int .i64 k)] [] (Q1B ((Ql l k.toNat).1:Nat) k ((Ql l k.toNat).2.1:Nat) (Ql l k.toNat).2.2) []:=by
 have c1:BCall prog 151 [.slc 1 (Q0 l),.val (.int .i64 k),.val (.string ⟨#[60,33,45,45]⟩)] [] (.val (.bool false)) []:=by
  have:=Qc l hl hu.i32 k h0 (by omega) ⟨#[60,33,45,45]⟩ (by decide)
  have e:Q6 l k.toNat (⟨#[60,33,45,45]⟩:ByteArray).data.toList=false:=hM.s1;rw[e]at this;exact this
 have c2:BCall prog 151 [.slc 1 (Q0 l),.val (.int .i64 k),.val (.string ⟨#[60,33,91,67,68,65,84,65,91]⟩)] [] (.val (.bool false)) []:=by
  have:=Qc l hl hu.i32 k h0 (by omega) ⟨#[60,33,91,67,68,65,84,65,91]⟩ (by decide)
  have e:Q6 l k.toNat (⟨#[60,33,91,67,68,65,84,65,91]⟩:ByteArray).data.toList=false:=hM.s2;rw[e]at this;exact this
 have c3:BCall prog 151 [.slc 1 (Q0 l),.val (.int .i64 k),.val (.string ⟨#[60,63]⟩)] [] (.val (.bool false)) []:=by
  have:=Qc l hl hu.i32 k h0 (by omega) ⟨#[60,63]⟩ (by decide)
  have e:Q6 l k.toNat (⟨#[60,63]⟩:ByteArray).data.toList=false:=hM.s3;rw[e]at this;exact this
 have c4:BCall prog 151 [.slc 1 (Q0 l),.val (.int .i64 k),.val (.string ⟨#[60,33,68,79,67,84,89,80,69]⟩)] [] (.val (.bool false)) []:=by
  have:=Qc l hl hu.i32 k h0 (by omega) ⟨#[60,33,68,79,67,84,89,80,69]⟩ (by decide)
  have e:Q6 l k.toNat (⟨#[60,33,68,79,67,84,89,80,69]⟩:ByteArray).data.toList=false:=hM.s4;rw[e]at this;exact this
 have c5:BCall prog 151 [.slc 1 (Q0 l),.val (.int .i64 k),.val (.string ⟨#[60,47]⟩)] [] (.val (.bool false)) []:=by
  have:=Qc l hl hu.i32 k h0 (by omega) ⟨#[60,47]⟩ (by decide)
  have e:Q6 l k.toNat (⟨#[60,47]⟩:ByteArray).data.toList=false:=hM.s5;rw[e]at this;exact this
 have ak:=QJ (l:=l) (i:=k) h0 h1;obtain⟨n,hn⟩:=QE l;have jq:=Qx l;have jc:k<n:=by have:=hn.eq;omega
 have qC:n<=1000000000:=by have:=hn.eq;omega
 have e:Ql l k.toNat=(11,k.toNat+1,false):=by
  rw[Ql,getD_eq_getElem?_getD,if_neg (by rw[jx];decide),if_neg (by rw[jx];decide),if_pos jx]
 rw[e];obtain⟨kd,jD⟩:=exq ((((((11,k.toNat+1,false):Nat×Nat×Bool)).1:Nat):Int):Int);obtain⟨t,ht⟩:=exq ((((((11,k.toNat+1,false):Nat×Nat×Bool)).2.1:Nat):Int):Int);obtain⟨w,hw⟩:=exq ((((11,k.toNat+1,false):Nat×Nat×Bool)).2.2:Bool);rw[<-jD,<-ht,<-hw,Q1B];have jD:kd=11:=jD;have ht:t=k+1:=by rw[ht];show((k.toNat+1:Nat):Int)=_;omega
 have hw:w=false:=hw;clear hM e;refine fnN (Q4u false false false false false false 0 0 0 true) func126 rfl fun _ _=>?_
 with_reducible refine cv1 (Q0 l) ?_
 have jB:=Q15 hn;with_reducible repeat' first|refine aU (zA jB <| zA ak <| zA jx <| zA jc h0) ?_|refine zA ?_ ?_|intro hb
 all_goals first
  |exact c1
  |exact c2
  |exact c3
  |exact c4
  |exact c5
  |exact .pure rfl ⟨.inl (by rw[jD]),.inl rfl,.inl (by rw[ht];rfl),.inl (by rw[hw]),trivial⟩
theorem QcA(r:Int):Q1Q r=true↔r≠60/\r≠38/\r≠-1:=by
 unfold Q1Q;simp only[Bool.and_eq_true,bne_iff_ne]
theorem Qii(l:List Int)(hl:l.length<=1000000000)(hu:Un l)(k:Int)(h0:0<=k)(h1:k<l.length)(hM:NoMark l k.toNat)(jO:¬l[k.toNat]?.getD 0=60)(vk:¬l[k.toNat]?.getD 0=38)(jx:¬l[k.toNat]?.getD 0=-1):BCall prog 126 [.slc 1 (Q0 l),.val (.int .i64 k)] [] (Q1B ((Ql l k.toNat).1:Nat) k ((Ql l k.toNat).2.1:Nat) (Ql l k.toNat).2.2) []:=by
 have c1:BCall prog 151 [.slc 1 (Q0 l),.val (.int .i64 k),.val (.string ⟨#[60,33,45,45]⟩)] [] (.val (.bool false)) []:=by
  have:=Qc l hl hu.i32 k h0 (by omega) ⟨#[60,33,45,45]⟩ (by decide)
  have e:Q6 l k.toNat (⟨#[60,33,45,45]⟩:ByteArray).data.toList=false:=hM.s1;rw[e]at this;exact this
 have c2:BCall prog 151 [.slc 1 (Q0 l),.val (.int .i64 k),.val (.string ⟨#[60,33,91,67,68,65,84,65,91]⟩)] [] (.val (.bool false)) []:=by
  have:=Qc l hl hu.i32 k h0 (by omega) ⟨#[60,33,91,67,68,65,84,65,91]⟩ (by decide)
  have e:Q6 l k.toNat (⟨#[60,33,91,67,68,65,84,65,91]⟩:ByteArray).data.toList=false:=hM.s2;rw[e]at this;exact this
 have c3:BCall prog 151 [.slc 1 (Q0 l),.val (.int .i64 k),.val (.string ⟨#[60,63]⟩)] [] (.val (.bool false)) []:=by
  have:=Qc l hl hu.i32 k h0 (by omega) ⟨#[60,63]⟩ (by decide)
  have e:Q6 l k.toNat (⟨#[60,63]⟩:ByteArray).data.toList=false:=hM.s3;rw[e]at this;exact this
 have c4:BCall prog 151 [.slc 1 (Q0 l),.val (.int .i64 k),.val (.string ⟨#[60,33,68,79,67,84,89,80,69]⟩)] [] (.val (.bool false)) []:=by
  have:=Qc l hl hu.i32 k h0 (by omega) ⟨#[60,33,68,79,67,84,89,80,69]⟩ (by decide)
  have e:Q6 l k.toNat (⟨#[60,33,68,79,67,84,89,80,69]⟩:ByteArray).data.toList=false:=hM.s4;rw[e]at this;exact this
 have c5:BCall prog 151 [.slc 1 (Q0 l),.val (.int .i64 k),.val (.string ⟨#[60,47]⟩)] [] (.val (.bool false)) []:=by
  have:=Qc l hl hu.i32 k h0 (by omega) ⟨#[60,47]⟩ (by decide)
  have e:Q6 l k.toNat (⟨#[60,47]⟩:ByteArray).data.toList=false:=hM.s5;rw[e]at this;exact this
 have ak:=QJ (l:=l) (i:=k) h0 h1;obtain⟨n,hn⟩:=QE l;have jq:=Qx l;have jc:k<n:=by have:=hn.eq;omega
 have qC:n<=1000000000:=by have:=hn.eq;omega
 have e:Ql l k.toNat=(1,k.toNat+plN l k,true):=by
  rw[Ql,getD_eq_getElem?_getD,if_neg jO,if_neg vk,if_neg jx];rfl
 rw[e];obtain⟨N,hN⟩:∃N:Int,IsN (plN l k) N:=⟨_,rfl⟩;obtain⟨t,ht⟩:=exq (k+N:Int);have zB:(((k.toNat+plN l k:Nat)):Int)=t:=by rw[ht,hN.eq];omega
 show BCall _ _ _ _ (Q1B 1 k ((k.toNat+plN l k:Nat):Int) true) _;rw[zB,Q1B];clear e zB hM;refine fnN (Q4u false false false false false true 0 0 0 true) func126 rfl fun _ _=>?_
 with_reducible refine cv1 (Q0 l) ?_
 have jB:=Q15 hn;with_reducible repeat' first|refine aU (zA jB <| zA ak <| zA jO <| zA vk <| zA jx <| zA jc h0) ?_|refine zA ?_ ?_|intro hb
 all_goals first
  |exact c1
  |exact c2
  |exact c3
  |exact c4
  |exact c5
  |skip
 refine Q1h (Q4u false false false false false true 0 0 0 true) (Int) (fun i=>⟨[(0,.slc 1 (Q0 l)),(1,.val (.int .i64 k)),(4,.box 0 0),(5,.val (.int .i64 i))],[.box [.val (.int .i64 0),.val (.int .i64 0),.val (.int .i64 0),.val (.bool false)]]⟩) (fun i=>(k<=i/\i<=n)/\i+(plN l i:Nat)=k+N) (fun i=>(n-i).toNat) k ?_ ?_ ?_
 ·exact⟨⟨le_refl _,by omega⟩,by rw[hN.eq]⟩
 ·refine⟨[some 0],_,rfl,?_⟩
  exact eq0
 ·rintro i ⟨⟨vL,vg⟩,hi⟩
  have jK:k<=i:=vL;have jL:i<=n:=vg;have hi:i+(plN l i:Nat)=k+N:=hi;clear vL vg jB ak;by_cases jA:i<n
  ·have j4:i<l.length:=by have:=hn.eq;omega
   have ai:=QJ (l:=l) (i:=i) (by omega) j4
   by_cases hp:Q1Q (l[i.toNat]?.getD 0)=true
   ·obtain⟨p1,p2,p3⟩:=(QcA _).1 hp
    have jH:=QlE (by omega) j4 hp
    have hJ:i+1+(plN l (i+1):Nat)=k+N:=by omega
    clear hi jH j4 hN hp;with_reducible refine cv1 (Q0 l) ?_
    have jB:=Q15 hn;with_reducible repeat' first|refine aU (zA jB <| zA ai <| zA jA <| zA jK <| zA h0 <| zA p1 <| zA p2 p3) ?_|refine zA ?_ ?_|intro hb
    all_goals
     refine⟨i+1,⟨⟨by omega,by omega⟩,hJ⟩,by omega,[some 0],_,rfl,?_⟩
     exact eq0
   ·have vK:=Qf8 (l:=l) (i:=i) (by omega) (fun _=>by simpa using hp)
    have xr:t=i:=by omega
    have jr:l[i.toNat]?.getD 0=60\/l[i.toNat]?.getD 0=38\/l[i.toNat]?.getD 0=-1:=by
     by_cases q1:l[i.toNat]?.getD 0=60
     ·exact .inl q1
     ·by_cases q2:l[i.toNat]?.getD 0=38
      ·exact .inr (.inl q2)
      ·by_cases q3:l[i.toNat]?.getD 0=-1
       ·exact .inr (.inr q3)
       ·exact absurd ((QcA _).2 ⟨q1,q2,q3⟩) hp
    clear hi j4 vK hp hN ht;rcases jr with jr|jr|jr
    all_goals
     with_reducible refine cv1 (Q0 l) ?_
     have jB:=Q15 hn;with_reducible repeat' first|refine aU (zA jB <| zA ai <| zA jA <| zA jK <| zA h0 jr) ?_|refine zA ?_ ?_|intro hb
     all_goals
      rw[if_pos trivial];with_reducible refine cv1 (Q0 l) ?_
      exact .pure rfl ⟨.inl rfl,.inl rfl,.inl (by rw[xr]),.inl rfl,trivial⟩
  ·have vK:=Qf8 (l:=l) (i:=i) (by omega) (fun h=>absurd (by have:=hn.eq;omega) jA)
   have xr:t=i:=by omega
   clear hi vK hN ht;with_reducible refine cv1 (Q0 l) ?_
   have jB:=Q15 hn;with_reducible repeat' first|refine aU (zA jB <| zA jA <| zA jK h0) ?_|refine zA ?_ ?_|intro hb
   all_goals
    rw[if_pos trivial];with_reducible refine cv1 (Q0 l) ?_
    exact .pure rfl ⟨.inl rfl,.inl rfl,.inl (by rw[xr]),.inl rfl,trivial⟩
theorem Qm0(l:List Int)(hl:l.length<=1000000000)(hu:Un l)(k:Int)(h0:0<=k)(h1:k<l.length):BCall prog 126 [.slc 1 (Q0 l),.val (.int .i64 k)] [] (Q1B ((Ql l k.toNat).1:Nat) k ((Ql l k.toNat).2.1:Nat) (Ql l k.toNat).2.2) []:=by
 cases s1:Q6 l k.toNat [60,33,45,45]with
 |true=>exact Qlu l hl hu k h0 h1 s1
 |false =>
  cases s2:Q6 l k.toNat [60,33,91,67,68,65,84,65,91]with
  |true=>exact QjR l hl hu k h0 h1 s1 s2
  |false =>
   cases s3:Q6 l k.toNat [60,63]with
   |true=>exact Qk9 l hl hu k h0 h1 s1 s2 s3
   |false =>
    cases s4:Q6 l k.toNat [60,33,68,79,67,84,89,80,69]with
    |true=>exact QkS l hl hu k h0 h1 s1 s2 s3 s4
    |false =>
     cases s5:Q6 l k.toNat [60,47]with
     |true=>exact Qlx l hl hu k h0 h1 s1 s2 s3 s4 s5
     |false =>
      have hM:NoMark l k.toNat:=⟨s1,s2,s3,s4,s5⟩;by_cases jO:l[k.toNat]?.getD 0=60
      ·by_cases jU:k+1<l.length
       ·cases gt:Qp (l[k.toNat+1]?.getD 0)with
        |true=>exact QiY l hl hu k h0 h1 hM jO jU gt
        |false=>exact Qi8 l hl hu k h0 h1 hM jO jU gt
       ·exact QhR l hl hu k h0 h1 hM jO jU
      ·by_cases vk:l[k.toNat]?.getD 0=38
       ·exact Qk7 l hl hu k h0 h1 hM vk
       ·by_cases jx:l[k.toNat]?.getD 0=-1
        ·exact Qkh l hl hu k h0 h1 hM jx
        ·exact Qii l hl hu k h0 h1 hM jO vk jx
def QiS(kd to:Int->Int)(wh:Int->Bool):Nat->List AV->List Ob->Option (AV×List Ob):=fun f args _=>match f,args with
 |126,[.slc 1 _,.val (.int .i64 k)]=>some (.agg [.val (.int .i64 (kd k)),.val (.int .i64 k),.val (.int .i64 (to k)),.val (.bool (wh k))],[])
 |_,_=>none
theorem Qcl(l:List Int)(hl:l.length<=1000000)(hu:Un l):BCall prog 72 [.slc 1 (Q0 l)] [] (.slc 4 (QA (Q1r l))) []:=by
 obtain⟨n,hn⟩:=QE l;have jq:=Qx l;obtain⟨kd,jD⟩:=exq (fun k:Int=>(((Ql l k.toNat).1:Nat):Int):Int->Int)
 obtain⟨to,gP⟩:=exq (fun k:Int=>(((Ql l k.toNat).2.1:Nat):Int):Int->Int)
 obtain⟨wh,jw⟩:=exq (fun k:Int=>(Ql l k.toNat).2.2:Int->Bool)
 have cN:∀k:Int,0<=k->k<n->BCall prog 126 [.slc 1 (Q0 l),.val (.int .i64 k)] [] (.agg [.val (.int .i64 (kd k)),.val (.int .i64 k),.val (.int .i64 (to k)),.val (.bool (wh k))]) []:=fun k k0 k1=>by
  rw[jD,gP,jw];exact Qm0 l (by omega) hu k k0 (by have:=hn.eq;omega)
 have jp:∀k:Int,0<=k->k<n->k<to k/\to k<=n/\(Q1m l k.toNat)=⟨kd k,k,to k,wh k⟩/\(to k).toNat=(Ql l k.toNat).2.1:=fun k k0 k1=>by
  have h:=Q2E l k.toNat (by have:=hn.eq;omega)
  have e:=hn.eq;rw[gP,jD,jw];refine⟨by simp only;omega,by simp only;omega,?_,by simp only;omega⟩
  simp only[Q1m,toNat_of_nonneg k0]
 have qC:n<=1000000:=by have:=hn.eq;omega
 clear jD gP jw;refine fnN (QiS kd to wh) func72 rfl fun _ _=>?_
 with_reducible refine cv1 (Q0 l) ?_
 refine Q1h (QiS kd to wh) (List Tok×Int) (fun x=>⟨[(0,.slc 1 (Q0 l)),(3,.row 0 0),(4,.val (.int .i64 x.2))],[.row 153 4 false 0 (QA x.1)]⟩) (fun x=>0<=x.2/\x.2<=n/\x.1++Q1S l x.2.toNat=Q1r l/\(x.1.length:Int)<=x.2) (fun x=>(n-x.2).toNat) ([],0) ?_ ?_ ?_
 ·have:=hn.eq
  exact⟨by simp only;omega,by simp only;omega,rfl,by simp⟩
 ·exact⟨[none],_,rfl,by simp[Qe,lk,QA]⟩
 ·rintro⟨out,k⟩ ⟨js,qT,j9,j7⟩
  simp only at js qT j9 j7
  have jR:=Q5G out;have cd:out.length<=1000000:=by omega
  obtain⟨q,hq⟩:=QE out;have qH:q<=k:=by rw[hq.eq];exact j7
  by_cases hk:k<n
  ·obtain⟨s1,s2,s3,s4⟩:=jp k js hk
   have cNk:=cN k js hk
   have hG:out++[⟨kd k,k,to k,wh k⟩]++Q1S l (to k).toNat=Q1r l:=by
    have e:=hn.eq;rw[<-j9,Q1O (k:=k.toNat) (by omega),s3,s4];simp
   clear s3 s4;with_reducible refine cv2 (Q0 l) (QA out) ?_
   have eq:=hq.eq;have jB:=Q15 hn;with_reducible repeat' first|refine aU (zA jR <| zA jB <| zA hk js) ?_|refine zA ?_ ?_|intro hb
   all_goals exact⟨(out++[⟨kd k,k,to k,wh k⟩],to k),⟨by simp only;omega,s2,hG,by show((out++[_]).length:Int)<=to k;simp only[length_append,List.length_singleton];omega⟩,by simp only;omega,[some 0],_,rfl,by simp[Qe,lk,std,Qei,QdL]⟩
  ·have hG:out=Q1r l:=by
    have e:=hn.eq;rw[<-j9,Q1k (by omega),List.append_nil]
   with_reducible refine cv2 (Q0 l) (QA out) ?_
   have jB:=Q15 hn;with_reducible repeat' first|refine aU (zA jB hk) ?_|refine zA ?_ ?_|intro hb
   all_goals
    rw[if_pos trivial];with_reducible refine cv2 (Q0 l) (QA out) ?_
    exact .pure rfl (.inl (by rw[hG]))
theorem Q9v{l:List Int}{to i:Int}(h0:0<=i)(h1:i<to):(l.take to.toNat)[i.toNat]?.getD 0=l[i.toNat]?.getD 0:=by
 rw[List.getElem?_take,if_pos (by omega)]
theorem Qie(l:List Int)(hl:l.length<=1000000000)(k to:Int)(h0:0<=k)(h1:k<to)(h2:to<=l.length):BCall prog 189 [.slc 1 (Q0 l),.val (.int .i64 k),.val (.int .i64 to)] [] (.val (.int .i64 (QC (l.take to.toNat) k))) []:=by
 obtain⟨n,hn⟩:=QE l;obtain⟨R,hR⟩:=exq (QC (l.take to.toNat) k:Int);rw[<-hR];have jq:=Qx l;obtain⟨L,hL⟩:=exq (l.take to.toNat);have qR:(L.length:Int)=to:=by rw[hL,length_take];omega
 have hLa:∀i:Int,0<=i->i<to->rAt L i=l[i.toNat]?.getD 0:=fun i i0 i1=>by rw[hL];exact Q9v i0 i1
 obtain⟨q,hq⟩:=exq (rAt L k)
 have hk:Q1a L k.toNat=Q2p L q (k+1).toNat:=by
  rw[Q1a,getD_eq_getElem?_getD,hq,rAt,show(k+1).toNat=k.toNat+1 by omega]
 rw[<-hL,QC,hk]at hR;have hqk:q=l[k.toNat]?.getD 0:=by rw[hq];exact hLa k h0 h1
 have ak:=QJ (l:=l) h0 (by omega)
 have q8:to<=n:=by have:=hn.eq;omega
 have qC:n<=1000000000:=by have:=hn.eq;omega
 obtain⟨tl,kh⟩:∃tl:Int,Len L tl:=QE L;have jE:tl=to:=by rw[kh.eq,qR]
 clear hk hq hL qR h2;refine fnN (cs0) func189 rfl fun _ _=>?_
 with_reducible refine cv1 (Q0 l) ?_
 have jB:=Q15 hn;with_reducible repeat' first|refine aU (zA jB <| zA h1 q8) ?_|refine zA ?_ ?_|intro hb
 refine Q1h (cs0) (Int) (fun i=>⟨[(0,.slc 1 (Q0 l)),(1,.val (.int .i64 k)),(2,.val (.int .i64 to)),(7,.val (.int .i64 i))],[]⟩) (fun i=>k+1<=i/\i<=to/\Q2p L q i.toNat=Q2p L q (k+1).toNat) (fun i=>(to-i).toNat) (k+1) ?_ ?_ ?_
 ·exact⟨le_refl _,by omega,rfl⟩
 ·refine⟨[],_,rfl,?_⟩
  exact eq0
 ·rintro i ⟨jK,jL,hi⟩
  have jK:k+1<=i:=jK;have jL:i<=to:=jL;have hi:Q2p L q i.toNat=Q2p L q (k+1).toNat:=hi;rcases Int.lt_or_eq_of_le jL with jA|j6
  ·have ai:=QJ (l:=l) (i:=i) (by omega) (by have:=hn.eq;omega)
   have jH:=Qhy (l:=L) (q:=q) (i:=i) (by omega) (by have:=kh.eq;omega)
   rw[hi,hLa i (by omega) jA]at jH
   clear jB hi;with_reducible refine cv1 (Q0 l) ?_
   have jB:=Q15 hn;with_reducible repeat' first|refine aU (zA ai <| zA ak <| zA jB <| zA jA <| zA jK q8) ?_|refine zA ?_ ?_|intro hb
   ·have j8:l[i.toNat]?.getD 0=q:=by rw[hqk];simpa[std,ai,ak,AV.cells,intOf]using hb
    have vF:R=i+1:=by rw[hR,jH,if_pos j8,if_pos rfl];show(((i+1).toNat:Nat):Int)=_;omega
    with_reducible refine cv1 (Q0 l) ?_
    refine .pure rfl (.inl ?_);rw[vF];rfl
   ·have j8:¬l[i.toNat]?.getD 0=q:=by rw[hqk];simpa[std,ai,ak,AV.cells,intOf]using hb
    rw[if_neg j8]at jH;refine⟨i+1,⟨by omega,by omega,jH.symm⟩,by omega,[],_,rfl,?_⟩
    exact eq0
  ·have vq:Q2p L q i.toNat=(L.length,false):=by rw[Q2p,dif_neg (by have:=kh.eq;omega)]
   have vF:R=-1:=by rw[hR,<-hi,vq];rfl
   rw[j6];clear jB hi vq;with_reducible refine cv1 (Q0 l) ?_
   have jB:=Q15 hn;with_reducible repeat' first|refine aU jB ?_|refine zA ?_ ?_|intro hb
   ·rw[if_pos trivial]
    with_reducible refine cv1 (Q0 l) ?_
    refine .pure rfl (.inl ?_);rw[vF]
end
def QM(l:List Int)(k to:Int):List Int:=(l.take to.toNat).drop k.toNat
theorem QdK(L:List Int)(k:Nat)(bs:List UInt8):Q6 (L.drop k) 0 bs=Q6 L k bs:=by
 unfold Q6;rw[drop_zero]
theorem QiG(L:List Int)(k:Nat):Qj (L.drop k) 0=Qj L k:=by
 unfold Qj;rw[List.getElem?_drop,Nat.add_zero,drop_zero]
theorem Qlw(p:Int->Bool)(r:List Int):Q2X p r 0=(r.takeWhile p).length:=by
 rw[Q2X,if_neg (by omega)];rfl
theorem QdY(L:List Int)(q:Int):∀(n k:Nat),L.length-k<=n->Q2p L q k=match(L.drop k).findIdx? (· == q)with
  |some j=>(k+j+1,true)
  |none=>(L.length,false)
 |0,k,h=>by
  rw[Q3L L q k (by omega),drop_of_length_le (by omega)];rfl
 |n+1,k,h=>by
  by_cases hk:k<L.length
  ·rw[drop_eq_getElem_cons hk,List.findIdx?_cons]
   by_cases hq:L[k]=q
   ·rw[Q6C L q k hk hq,if_pos (by simpa using hq)]
   ·rw[Q5Q L q k hk hq,if_neg (by simpa using hq),QdY L q n (k+1) (by omega)]
    cases(L.drop (k+1)).findIdx? (· == q)with
    |none=>rfl
    |some j=>simp only[Option.map_some];congr 1;omega
  ·rw[Q3L L q k hk,drop_of_length_le (by omega)];rfl
structure Rng (l:List Int) (k to:Int):Prop where
 h0:0<=k
 h1:k<to
 h2:to<=l.length
section
variable {l:List Int}{k to:Int}
theorem Rng.len(h:Rng l k to):((QM l k to).length:Int)=to-k:=by
 have:=h.h0;have:=h.h1;have:=h.h2
 rw[QM,length_drop,length_take];omega
theorem Rng.ne(h:Rng l k to):QM l k to≠[]:=fun e=>by
 have h1:=h.len;have:=h.h1
 rw[e]at h1;simp at h1;omega
theorem Rng.at_(h:Rng l k to){i:Int}(i0:0<=i)(i1:k+i<to):(QM l k to).getD i.toNat 0=l[(k+i).toNat]?.getD 0:=by
 have:=h.h0
 rw[QM,getD_eq_getElem?_getD,List.getElem?_drop,List.getElem?_take,if_pos (by omega)]
 congr 2
 omega
theorem Rng.head(h:Rng l k to):(QM l k to).getD 0 0=l[k.toNat]?.getD 0:=by
 have:=h.at_ (i:=0) (le_refl _) (by have:=h.h1;omega)
 rw[Int.add_zero]at this;exact this
theorem Rng.val(h:Rng l k to)(hq:l[k.toNat]?.getD 0=34\/l[k.toNat]?.getD 0=39):(0<Q1E (QM l k to)/\QC (l.take to.toNat) k=k+Q1E (QM l k to))\/(Q1E (QM l k to)=0/\QC (l.take to.toNat) k=-1):=by
 have h0:=h.h0;have h1:=h.h1
 have hqd:Q1a (l.take to.toNat) k.toNat=Q2p (l.take to.toNat) (l[k.toNat]?.getD 0) (k.toNat+1):=by
  rw[Q1a,getD_eq_getElem?_getD,Q9v h0 h1]
 have hd:(QM l k to).drop 1=(l.take to.toNat).drop (k.toNat+1):=by rw[QM,List.drop_drop]
 rw[QC,hqd,QdY _ _ _ _ (Nat.le_refl _)];unfold Q1E;rw[h.head,if_pos hq,hd];cases((l.take to.toNat).drop (k.toNat+1)).findIdx? (· == l[k.toNat]?.getD 0)with
 |none=>exact .inr ⟨rfl,rfl⟩
 |some j =>
  refine .inl ⟨by show(0:Int)<(j:Int)+2;omega,?_⟩
  show((k.toNat+1+j+1:Nat):Int)=k+((j:Int)+2)
  omega
theorem Rng.noval(h:Rng l k to)(hq:¬(l[k.toNat]?.getD 0=34\/l[k.toNat]?.getD 0=39)):Q1E (QM l k to)=0:=by
 unfold Q1E;rw[h.head,if_neg hq]
def Q6F(l:List Int)(k to:Int):Prop:=(k+1=to/\l[k.toNat]?.getD 0=62)\/(k+2=to/\l[k.toNat]?.getD 0=47/\l[(k+1).toNat]?.getD 0=62)
theorem Rng.ends(h:Rng l k to):((((QM l k to).length:Int)=2/\Q6 (QM l k to) 0 [47,62]=true)\/(((QM l k to).length:Int)=1/\(QM l k to).getD 0 0=62))↔Q6F l k to:=by
 have hl:=h.len;unfold Q6F;rw[h.head];constructor
 ·rintro(⟨e1,e2⟩|⟨e1,e2⟩)
  ·have a0:=Q7b e2 (i:=0) (by decide)
   have a1:=Q7b e2 (i:=1) (by decide)
   have b0:=h.head;have b1:=h.at_ (i:=1) (by decide) (by omega)
   rw[getD_eq_getElem?_getD]at b0 b1;have a0:(QM l k to)[0]?=some 47:=a0;have a1:(QM l k to)[1]?=some 62:=a1;rw[a0]at b0;rw[show(1:Int).toNat=1 from rfl,a1]at b1;exact .inr ⟨by omega,b0.symm,b1.symm⟩
  ·exact .inl ⟨by omega,e2⟩
 ·rintro(⟨e1,e2⟩|⟨e1,e2,e3⟩)
  ·exact .inr ⟨by omega,e2⟩
  ·refine .inl ⟨by omega,?_⟩
   have b0:=h.head;have b1:=h.at_ (i:=1) (by decide) (by omega)
   rw[e2]at b0;rw[e3]at b1;generalize QM l k to=r at *;match r,hl with
   | [x,y],_ =>
    have b0:x=47:=b0;have b1:y=62:=b1;subst b0 b1;rfl
   | [],hl=>simp at hl;omega
   | [_],hl=>simp at hl;omega
   |_::_::_::_,hl=>simp at hl;omega
end
def Q19(l:List Int)(f k to:Int):Int×Int:=Qt (QM l k to) (decide (k=f))
section
open Tryz
def Q4P(l:List Int)(k to:Int):Int×Int :=
 if 0<(Q2X Qd (QM l k to) 0:Int)then(3,(Q2X Qd (QM l k to) 0:Int))
 else if 0<(Qj (QM l k to) 0:Int)then(2,(Qj (QM l k to) 0:Int))
 else if(QM l k to).getD 0 0=61 then(4,1)
 else if 0<Q1E (QM l k to)then(5,Q1E (QM l k to))
 else if(((QM l k to).length:Int)=2/\Q6 (QM l k to) 0 [47,62]=true)\/(((QM l k to).length:Int)=1/\(QM l k to).getD 0 0=62)then(6,((QM l k to).length:Int))
 else(7,1)
theorem Rng.part_tail{l:List Int}{f k to:Int}(h:Rng l k to)(hF:¬(k=f/\l[k.toNat]?.getD 0=60)):Q19 l f k to=Q4P l k to:=by
 have n2:¬(decide (k=f)=true/\(QM l k to).getD 0 0=60):=fun e=>hF ⟨of_decide_eq_true e.1,by rw[<-h.head];exact e.2⟩
 have n1:¬(decide (k=f)=true/\Q6 (QM l k to) 0 [60,47]=true):=fun e=>n2 ⟨e.1,by rw[getD_eq_getElem?_getD];exact Q4H e.2⟩
 rw[Q19,Qt,if_neg n1,if_neg n2];rfl
def spN(l:List Int)(i to:Int):Nat:=((QM l i to).takeWhile Qd).length
theorem Qfh{l:List Int}{i to:Int}(h:Rng l i to):QM l i to=l[i.toNat]?.getD 0::QM l (i+1) to:=by
 have h0:=h.h0;have h1:=h.h1;have h2:=h.h2;have hl:i.toNat<(l.take to.toNat).length:=by rw[length_take];omega
 have e:(l.take to.toNat)[i.toNat]=l[i.toNat]?.getD 0:=by
  rw[<-Q9v h0 h1,List.getElem?_eq_getElem hl];rfl
 rw[QM,QM,drop_eq_getElem_cons hl,e,show(i+1).toNat=i.toNat+1 by omega]
theorem Qjs{l:List Int}{i to:Int}(h:Rng l i to)(hs:Qd (l[i.toNat]?.getD 0)=true):spN l i to=spN l (i+1) to+1:=by
 rw[spN,Qfh h,takeWhile_cons,if_pos hs,length_cons];rfl
theorem Q2c{l:List Int}{i to:Int}(h0:0<=i)(hs:i<to->Rng l i to/\Qd (l[i.toNat]?.getD 0)=false):spN l i to=0:=by
 by_cases h1:i<to
 ·obtain⟨h,hs⟩:=hs h1
  rw[spN,Qfh h,takeWhile_cons,if_neg (by rw[hs];decide)];rfl
 ·rw[spN,QM,drop_of_length_le (by rw[length_take];omega)];rfl
theorem Qoa(l:List Int)(k to:Int):(Q2X Qd (QM l k to) 0:Int)=(spN l k to:Nat):=by rw[Qlw,spN]
theorem Qku(l:List Int)(k to:Int):Qj (QM l k to) 0=Qj (l.take to.toNat) k.toNat:=by rw[QM,QiG]
theorem Qk1(l:List Int){to:Int}(h0:0<=to):std.cut (Q0 l) 0 to=Q0 (l.take to.toNat):=by
 show((Q0 l).drop (0:Int).toNat).take (to-0).toNat=_
 rw[show(0:Int).toNat=0 from rfl,drop_zero,Int.sub_zero];simp[Q0,map_take]
theorem Qnm{l:List Int}(h:Un l)(n:Nat):Un (l.take n):=fun x hx=>h x (List.mem_of_mem_take hx)
def Q2W(st:Bool)(sp:Int->Bool)(m F:Int):Nat->List AV->List Ob->Option (AV×List Ob):=fun f args _=>match f,args with
 |151,[.slc 1 _,.val (.int .i64 _),.val (.string _)]=>some (.val (.bool st),[])
 |187,[.val (.int .i32 r)]=>some (.val (.bool (sp r)),[])
 |188,[.slc 1 _,.val (.int .i64 _)]=>some (.val (.int .i64 m),[])
 |189,[.slc 1 _,.val (.int .i64 _),.val (.int .i64 _)]=>some (.val (.int .i64 F),[])
 |_,_=>none
def Q1V(q:Int×Int)(k:Int):AV:=.agg [.val (.int .i64 q.1),.val (.int .i64 k),.val (.int .i64 (k+q.2))]
theorem QlL(L:List Int)(k:Nat):Qj L k<=L.length-k:=by
 unfold Qj;split
 ·omega
 ·split
  ·have:=(List.takeWhile_sublist Qq (l:=L.drop k)).length_le
   rw[length_drop]at this;omega
  ·omega
def spI(l:List Int)(i to:Int):Int:=(spN l i to:Nat)
theorem QoN(l:List Int)(i to:Int):0<=spI l i to:=Int.natCast_nonneg _
theorem QeE{l:List Int}{i to:Int}(h:Rng l i to)(hs:Qd (l[i.toNat]?.getD 0)=true):spI l i to=spI l (i+1) to+1:=by
 rw[spI,Qjs h hs,spI];rfl
theorem Qfm{l:List Int}{i to:Int}(h0:0<=i)(hs:i<to->Rng l i to/\Qd (l[i.toNat]?.getD 0)=false):spI l i to=0:=by
 rw[spI,Q2c h0 hs];rfl
theorem Q3f{l:List Int}(hl:l.length<=1000000000)(hu:Un l){k to:Int}(h:Rng l k to):∃(n:Int) (T:List AV),T=Q0 (l.take to.toNat)/\Len l n/\0<=k/\k<to/\to<=l.length/\((l.take to.toNat).length:Int)=to /\
  BCall prog 151 [.slc 1 T,.val (.int .i64 k),.val (.string ⟨#[60,47]⟩)] [] (.val (.bool (Q6 (l.take to.toNat) k.toNat (⟨#[60,47]⟩:ByteArray).data.toList))) [] /\
  BCall prog 188 [.slc 1 T,.val (.int .i64 k)] [] (.val (.int .i64 (Qj (l.take to.toNat) k.toNat))) []/\Qj (l.take to.toNat) k.toNat<=(l.take to.toNat).length-k.toNat /\
  BCall prog 189 [.slc 1 (Q0 l),.val (.int .i64 k),.val (.int .i64 to)] [] (.val (.int .i64 (QC (l.take to.toNat) k))) []/\std.cut (Q0 l) 0 to=T /\
  Q6 (QM l k to) 0 [60,47]=Q6 (l.take to.toNat) k.toNat [60,47]/\Qj (QM l k to) 0=Qj (l.take to.toNat) k.toNat/\(Q2X Qd (QM l k to) 0:Int)=(spN l k to:Nat)/\(QM l k to).getD 0 0=l[k.toNat]?.getD 0 /\
  (Q0 l)[k.toNat]?.getD .dead=.val (.int .i32 (l[k.toNat]?.getD 0))/\(Q0 l).length=l.length/\to<=n/\n<=1000000000:=by
 have h0:=h.h0;have h1:=h.h1;have h2:=h.h2;have qR:((l.take to.toNat).length:Int)=to:=by rw[length_take];omega
 exact⟨l.length,_,rfl,rfl,h0,h1,h2,qR,Qc (l.take to.toNat) (by omega) (Qnm hu _).i32 k h0 (by omega) ⟨#[60,47]⟩ (by decide),Q4G (l.take to.toNat) (by omega) k h0 (by omega),QlL _ _,Qie l hl k to h0 h1 h2,Qk1 l (to:=to) (by omega),by rw[QM,QdK],Qku l k to,Qoa l k to,h.head,QJ (l:=l) (i:=k) h0 (by omega),Qx l,h2,by omega⟩
theorem Q4y{l:List Int}{k:Int}(ak:(Q0 l)[k.toNat]?.getD .dead=.val (.int .i32 (l[k.toNat]?.getD 0))):BCall prog 187 [.val (.int .i32 (std.int (std.nth (std.cel (std.at_ (Q0 l) k)) 0)))] [] (.val (.bool (Qd (std.int (std.nth (std.cel (std.at_ (Q0 l) k)) 0))))) []:=Qag _
theorem Qbq(l:List Int)(hl:l.length<=1000000000)(hu:Un l)(f k to:Int)(h:Rng l k to)(zz:k=f)(jO:l[k.toNat]?.getD 0=60)(hs:Q6 (l.take to.toNat) k.toNat [60,47]=true):BCall prog 147 [.slc 1 (Q0 l),.val (.int .i64 f),.val (.int .i64 k),.val (.int .i64 to)] [] (Q1V (Q19 l f k to) k) []:=by
 obtain⟨n,T,jW,hn,h0,h1,h2,qR,cS,cL,jJ,cQ,cc,jH,qF,jo,jt,ak,jq,q8,qC⟩:=Q3f hl hu h;have hP:Q19 l f k to=(1,2):=by rw[Q19,decide_eq_true zz,Qt,if_pos ⟨rfl,by rw[jH];exact hs⟩]
 obtain⟨kd,jD⟩:=exq (1:Int);obtain⟨tt,jE⟩:=exq (k+2:Int);have qA:Q1V (Q19 l f k to) k=.agg [.val (.int .i64 kd),.val (.int .i64 k),.val (.int .i64 tt)]:=by rw[hP,jD,jE];rfl
 rw[qA];clear hP qA
 have cS:BCall prog 151 [.slc 1 T,.val (.int .i64 k),.val (.string ⟨#[60,47]⟩)] [] (.val (.bool true)) []:=by
  have e:Q6 (l.take to.toNat) k.toNat (⟨#[60,47]⟩:ByteArray).data.toList=true:=hs;rw[e]at cS;exact cS
 clear hs jH qF jo jt jJ cL cQ jW qR;subst zz;refine fnN (Q2W true Qd 0 0) func147 rfl fun _ _=>?_
 with_reducible refine cv2 (Q0 l) Qd ?_
 have jB:=Q15 hn;have cSp2:=Q4y ak;have cS2:BCall prog 151 [.slc 1 (std.cut (Q0 l) 0 to),.val (.int .i64 k),.val (.string ⟨#[60,47]⟩)] [] (.val (.bool true)) []:=by rw[cc];exact cS
 with_reducible repeat' first|refine aU (zA jB <| zA ak <| zA h0 <| zA h1 <| zA q8 jO) ?_|refine zA ?_ ?_|intro hb
 all_goals first
  |exact cS2
  |exact cSp2
  |exact .pure rfl ⟨.inl (by rw[jD]),.inl rfl,.inl (by first|(rw[jE];done)|(rw[jE];rfl)),trivial⟩
theorem QbL(l:List Int)(hl:l.length<=1000000000)(hu:Un l)(f k to:Int)(h:Rng l k to)(zz:k=f)(jO:l[k.toNat]?.getD 0=60)(hs:Q6 (l.take to.toNat) k.toNat [60,47]=false):BCall prog 147 [.slc 1 (Q0 l),.val (.int .i64 f),.val (.int .i64 k),.val (.int .i64 to)] [] (Q1V (Q19 l f k to) k) []:=by
 obtain⟨n,T,jW,hn,h0,h1,h2,qR,cS,cL,jJ,cQ,cc,jH,qF,jo,jt,ak,jq,q8,qC⟩:=Q3f hl hu h;have hP:Q19 l f k to=(1,1):=by rw[Q19,decide_eq_true zz,Qt,if_neg (fun e=>by rw[jH,hs]at e;cases e.2),if_pos ⟨rfl,by rw[jt];exact jO⟩]
 obtain⟨kd,jD⟩:=exq (1:Int);obtain⟨tt,jE⟩:=exq (k+1:Int);have qA:Q1V (Q19 l f k to) k=.agg [.val (.int .i64 kd),.val (.int .i64 k),.val (.int .i64 tt)]:=by rw[hP,jD,jE];rfl
 rw[qA];clear hP qA
 have cS:BCall prog 151 [.slc 1 T,.val (.int .i64 k),.val (.string ⟨#[60,47]⟩)] [] (.val (.bool false)) []:=by
  have e:Q6 (l.take to.toNat) k.toNat (⟨#[60,47]⟩:ByteArray).data.toList=false:=hs;rw[e]at cS;exact cS
 clear hs jH qF jo jt jJ cL cQ jW qR;subst zz;refine fnN (Q2W false Qd 0 0) func147 rfl fun _ _=>?_
 with_reducible refine cv2 (Q0 l) Qd ?_
 have jB:=Q15 hn;have cSp2:=Q4y ak;have cS2:BCall prog 151 [.slc 1 (std.cut (Q0 l) 0 to),.val (.int .i64 k),.val (.string ⟨#[60,47]⟩)] [] (.val (.bool false)) []:=by rw[cc];exact cS
 with_reducible repeat' first|refine aU (zA jB <| zA ak <| zA h0 <| zA h1 <| zA q8 jO) ?_|refine zA ?_ ?_|intro hb
 all_goals first
  |exact cS2
  |exact cSp2
  |exact .pure rfl ⟨.inl (by rw[jD]),.inl rfl,.inl (by first|(rw[jE];done)|(rw[jE];rfl)),trivial⟩
theorem Qf1(l:List Int)(hl:l.length<=1000000000)(hu:Un l)(f k to:Int)(h:Rng l k to)(jO:¬l[k.toNat]?.getD 0=60)(ja:Qd (l[k.toNat]?.getD 0)=true):BCall prog 147 [.slc 1 (Q0 l),.val (.int .i64 f),.val (.int .i64 k),.val (.int .i64 to)] [] (Q1V (Q19 l f k to) k) []:=by
 obtain⟨n,T,jW,hn,h0,h1,h2,qR,cS,cL,jJ,cQ,cc,jH,qF,jo,jt,ak,jq,q8,qC⟩:=Q3f hl hu h;have hF:¬(k=f/\l[k.toNat]?.getD 0=60):=fun e=>jO e.2
 obtain⟨s,hs⟩:=exq (spI l k to:Int)
 have hP:Q19 l f k to=(3,s):=by
  have e:=QeE h ja;have e2:=QoN l (k+1) to;rw[h.part_tail hF,Q4P,jo,show((spN l k to:Nat):Int)=s from hs.symm,if_pos (by omega)]
 obtain⟨kd,jD⟩:=exq (3:Int);obtain⟨tt,jE⟩:=exq (k+s:Int);have qA:Q1V (Q19 l f k to) k=.agg [.val (.int .i64 kd),.val (.int .i64 k),.val (.int .i64 tt)]:=by rw[hP,jD,jE];rfl
 rw[qA];clear hP qA;clear jH jo jt jJ cS cL cQ qF jW qR hF;refine fnN (Q2W true Qd 0 0) func147 rfl fun _ _=>?_
 with_reducible refine cv2 (Q0 l) Qd ?_
 have jB:=Q15 hn;have cSp2:=Q4y ak;with_reducible repeat' first|refine aU (zA jB <| zA ak <| zA h0 <| zA h1 <| zA q8 <| zA ja jO) ?_|refine zA ?_ ?_|intro hb
 all_goals first
  |exact cSp2
  |skip
 all_goals
  refine Q1h (Q2W true Qd 0 0) (Int) (fun i=>⟨[(0,.slc 1 (Q0 l)),(1,.val (.int .i64 f)),(2,.val (.int .i64 k)),(3,.val (.int .i64 to)),(8,.box 0 0),(9,.val (.int .i64 i))],[.box [.val (.int .i64 0),.val (.int .i64 0),.val (.int .i64 0)]]⟩) (fun i=>k<=i/\i<=to/\spI l i to+(i-k)=s) (fun i=>(to-i).toNat) k ?_ ?_ ?_
  ·exact⟨le_refl _,by omega,by rw[hs];omega⟩
  ·refine⟨[some 0],_,rfl,?_⟩
   exact eq0
  ·rintro i ⟨jK,jL,hi⟩
   have jK:k<=i:=jK;have jL:i<=to:=jL;have hi:spI l i to+(i-k)=s:=hi;rcases Int.lt_or_eq_of_le jL with jA|j6
   ·have hR:Rng l i to:=⟨by omega,jA,h2⟩
    have ai:=QJ (l:=l) (i:=i) (by omega) (by omega)
    have cSi:=Qag (l[i.toNat]?.getD 0);have e9i:(Q0 l).getD i.toNat .dead=.val (.int .i32 (l[i.toNat]?.getD 0)):=by rw[getD_eq_getElem?_getD];exact ai
    have eIi:std.int (std.nth (std.cel (std.at_ (Q0 l) i)) 0)=l[i.toNat]?.getD 0:=by
     show intOf ((AV.cells ((Q0 l).getD i.toNat .dead)).getD 0 .dead)=_;rw[e9i];rfl
    have cSi2:BCall prog 187 [.val (.int .i32 (std.int (std.nth (std.cel (std.at_ (Q0 l) i)) 0)))] [] (.val (.bool (Qd (std.int (std.nth (std.cel (std.at_ (Q0 l) i)) 0))))) []:=by rw[eIi];exact cSi
    cases hsi:Qd (l[i.toNat]?.getD 0)with
    |true =>
     have jH:=QeE hR hsi;have jI:spI l (i+1) to+(i+1-k)=s:=by omega
     clear jH hi hs jB;with_reducible refine cv2 (Q0 l) Qd ?_
     have jB:=Q15 hn;with_reducible repeat' first|refine aU (zA jB <| zA ai <| zA h0 <| zA jK <| zA jA <| zA q8 hsi) ?_|refine zA ?_ ?_|intro hb
     all_goals first
      |exact cSi2
      |skip
     refine⟨i+1,⟨by omega,by omega,jI⟩,by omega,[some 0],_,rfl,?_⟩
     exact eq0
    |false =>
     have jH:=Qfm (l:=l) (i:=i) (to:=to) (by omega) (fun _=>⟨hR,hsi⟩)
     have xr:tt=i:=by rw[jE];omega
     clear jH hi hs jB;with_reducible refine cv2 (Q0 l) Qd ?_
     have jB:=Q15 hn;with_reducible repeat' first|refine aU (zA jB <| zA ai <| zA h0 <| zA jK <| zA jA <| zA q8 hsi) ?_|refine zA ?_ ?_|intro hb
     all_goals first
      |exact cSi2
      |skip
     rw[if_pos trivial];with_reducible refine cv1 (Q0 l) ?_
     exact .pure rfl ⟨.inl (by rw[jD]),.inl rfl,.inl (by rw[xr]),trivial⟩
   ·have jH:=Qfm (l:=l) (i:=i) (to:=to) (by omega) (fun h9=>absurd h9 (by omega))
    have xr:tt=i:=by rw[jE];omega
    clear jH hi hs jB;have jA:¬i<to:=by omega
    with_reducible refine cv2 (Q0 l) Qd ?_
    have jB:=Q15 hn;with_reducible repeat' first|refine aU (zA jB <| zA h0 <| zA jK <| zA jA q8) ?_|refine zA ?_ ?_|intro hb
    rw[if_pos trivial];with_reducible refine cv1 (Q0 l) ?_
    exact .pure rfl ⟨.inl (by rw[jD]),.inl rfl,.inl (by rw[xr]),trivial⟩
theorem QiO(l:List Int)(hl:l.length<=1000000000)(hu:Un l)(f k to:Int)(h:Rng l k to)(jO:¬l[k.toNat]?.getD 0=60)(ja:Qd (l[k.toNat]?.getD 0)=false)(jG:Qj (l.take to.toNat) k.toNat=0)(qB:¬l[k.toNat]?.getD 0=61)(qx:¬(l[k.toNat]?.getD 0=34\/l[k.toNat]?.getD 0=39))(j3:¬l[k.toNat]?.getD 0=62)(vO:¬l[k.toNat]?.getD 0=47):BCall prog 147 [.slc 1 (Q0 l),.val (.int .i64 f),.val (.int .i64 k),.val (.int .i64 to)] [] (Q1V (Q19 l f k to) k) []:=by
 obtain⟨n,T,jW,hn,h0,h1,h2,qR,cS,cL,jJ,cQ,cc,jH,qF,jo,jt,ak,jq,q8,qC⟩:=Q3f hl hu h;have hF:¬(k=f/\l[k.toNat]?.getD 0=60):=fun e=>jO e.2
 have jX:spN l k to=0:=Q2c h0 (fun _=>⟨h,ja⟩)
 have n3:¬(0<(Q2X Qd (QM l k to) 0:Int)):=by rw[jo,jX];decide
 obtain⟨m,hm⟩:=exq ((Qj (l.take to.toNat) k.toNat:Nat):Int);have qO:0<=m:=by omega
 have vi:k+m<=to:=by omega
 rw[<-hm]at cL;have n4:¬(0<(Qj (QM l k to) 0:Int)):=by rw[qF,jG];decide
 have vz:m=0:=by rw[hm,jG];rfl
 have vJ:¬0<m:=by omega
 have n5:¬((QM l k to).getD 0 0=61):=by rw[jt];exact qB
 obtain⟨F,qc⟩:=exq (QC (l.take to.toNat) k:Int);rw[<-qc]at cQ;have n6:¬(0<Q1E (QM l k to)):=by rw[h.noval qx];decide
 have q34:¬l[k.toNat]?.getD 0=34:=fun e=>qx (.inl e)
 have q39:¬l[k.toNat]?.getD 0=39:=fun e=>qx (.inr e)
 have hE:¬Q6F l k to:=by
  rintro(⟨_,e⟩|⟨_,e,_⟩)
  ·exact j3 e
  ·exact vO e
 have hP:Q19 l f k to=(7,1):=by rw[h.part_tail hF,Q4P,if_neg n3,if_neg n4,if_neg n5,if_neg n6,if_neg (fun e=>hE (h.ends.1 e))]
 obtain⟨kd,jD⟩:=exq (7:Int);obtain⟨tt,jE⟩:=exq (k+1:Int);have qA:Q1V (Q19 l f k to) k=.agg [.val (.int .i64 kd),.val (.int .i64 k),.val (.int .i64 tt)]:=by rw[hP,jD,jE];rfl
 rw[qA];clear hP qA;clear jH jo jt jJ cS jW qR hF qF n3 n4 n5 n6 hm jG jX vz qc hE;refine fnN (Q2W true Qd m F) func147 rfl fun _ _=>?_
 with_reducible refine cv2 (Q0 l) Qd ?_
 have jB:=Q15 hn;have cSp2:=Q4y ak;have cL2:BCall prog 188 [.slc 1 (std.cut (Q0 l) 0 to),.val (.int .i64 k)] [] (.val (.int .i64 m)) []:=by rw[cc];exact cL
 with_reducible repeat' first|refine aU (zA jB <| zA ak <| zA h0 <| zA h1 <| zA q8 <| zA jO <| zA ja <| zA vJ <| zA vi <| zA qB <| zA q34 <| zA q39 <| zA j3 vO) ?_|refine zA ?_ ?_|intro hb
 all_goals first
  |exact cSp2
  |exact cL2
  |exact cQ
  |exact .pure rfl ⟨.inl (by rw[jD]),.inl rfl,.inl (by first|(rw[jE];done)|(rw[jE];rfl)),trivial⟩
theorem QiJ(b:List UInt8)(hb:b.length<=100000000):BCall prog 51 [.slc 1 (Q2 b)] [] (.slc 3 (QP (Q4w b))) []:=by
 refine BCall.hand (enters_of func51 (by kernel_rfl) rfl) fun w g vs M hL=>?_
 obtain⟨v1,vs1,rfl,h1,hL⟩:=Q13 hL;obtain rfl:=Q2A hL;obtain⟨A,c,rfl,hr⟩:=Qef h1 M;refine(Qau _ A _ c b w hr (by omega)).mono fun e w' ⟨v,h,⟨n',ho⟩,zK⟩=>⟨v,h,zK,?_⟩
 have hn:n'=(QP (Q4w b)).length:=by
  have:=ho.1
  rw[Q2j]at this;rw[Q3m,Q4w,List.length_map];omega
 refine QhA (A':=(g.imm w w').A) ho (by decide) ?_ hn (fun x hx=>?_) (fun b o h1 h2=>.inr ⟨h1,h2⟩)
 ·rw[Q4w,QaV]
  refine Qb8 fun u hu=>?_
  obtain⟨x,_,hx⟩:=List.mem_flatMap.1 hu;simp only[List.mem_cons,List.not_mem_nil,or_false]at hx;rcases hx with rfl|rfl|rfl<;>rfl
 ·obtain⟨y,_,rfl⟩:=List.mem_map.1 hx
  rfl
def QmN(f8:List AV)(fw:Bool->List AV):Nat->List AV->List Ob->Option (AV×List Ob):=fun f args _=>match f,args with
 |51,[.slc 1 _]=>some (.slc 3 f8,[])
 |52,[.slc 1 _,.val (.bool b)]=>some (.slc 3 (fw b),[])
 |_,_=>none
theorem Qiv(kind:Int)(b:List UInt8)(hb:b.length<=100000000)(hk:kind=0\/kind=1\/kind=2):BCall prog 18 [.slc 1 (Q2 b),.val (.int .i64 kind)] [] (.slc 3 (QP (Q4B kind b))) []:=by
 have c8:=QiJ b hb;obtain⟨fw,xS⟩:=exq (fun big=>QP (Q1x big 0 b))
 have cw:∀big,BCall prog 52 [.slc 1 (Q2 b),.val (.bool big)] [] (.slc 3 (fw big)) []:=fun big=>by rw[xS];exact QhN big b (by omega)
 obtain⟨f8,pK⟩:=exq (QP (Q4w b));rw[<-pK]at c8;obtain⟨R,hR⟩:=exq (QP (Q4B kind b));rw[<-hR]
 have vF:R=if kind=0 then f8 else fw (decide (kind=1)):=by
  rw[hR,Q4B,pK,xS];rcases hk with h|h|h
  ·rw[if_pos h,if_pos h]
  ·rw[if_neg (by omega),if_pos h,if_neg (by omega),decide_eq_true h]
  ·rw[if_neg (by omega),if_neg (by omega),if_pos h,if_neg (by omega),decide_eq_false (by omega)]
 clear hR xS pK;by_cases h0:kind=0
 ·rw[if_pos h0]at vF
  rw[vF];clear vF;refine fnN (QmN f8 fw) func18 rfl fun _ _=>?_
  with_reducible refine cv1 (Q2 b) ?_
  with_reducible repeat' first|refine aU h0 ?_|refine zA ?_ ?_|intro hb
  all_goals first
   |exact c8
   |exact .pure rfl (.inl rfl)
 ·rw[if_neg h0]at vF
  rw[vF];clear vF;refine fnN (QmN f8 fw) func18 rfl fun _ _=>?_
  with_reducible refine cv1 (Q2 b) ?_
  with_reducible repeat' first|refine aU h0 ?_|refine zA ?_ ?_|intro hb
  all_goals first
   |exact cw _
   |(refine .pure rfl (.inl ?_);rfl)
def Qcs(k bom:Int)(pc:List AV):Nat->List AV->List Ob->Option (AV×List Ob):=fun f args _=>match f,args with
 |91,_=>some (.tup [.val (.int .i64 k),.val (.int .i64 bom)],[])
 |18,[.slc 1 _,.val (.int .i64 _)]=>some (.slc 3 pc,[])
 |_,_=>none
theorem Qc6(b:List UInt8)(hb:b.length<=1000000)(jr:(Q2V b).length<=1000000)(qQ:∀x∈Q2V b,0<=x.off/\x.off<=1000000) :
  BCall prog 45 [.slc 1 (Q2 b)] [] (.agg (Qb b).cs) []:=by
 have yJ:=Q4h b;have cK:=Qj1 b;have k8:=Q54 b;obtain⟨k,hk⟩:=exq ((QX b).1);obtain⟨bom,vt⟩:=exq ((QX b).2);obtain⟨ps,yW⟩:=exq (Q2V b);have hT:Qb b=⟨k,bom,ps.map Itm.r,ps.map (fun x=>x.off+bom)++[(b.length:Int)]⟩:=by rw[hk,vt,yW];rfl
 have hpb:ps=Q4B k (b.drop bom.toNat):=by rw[hk,vt,yW];rfl
 rw[hT];rw[<-yW]at jr qQ;rw[<-hk,<-vt]at cK;rw[<-vt]at yJ;rw[<-hk]at k8;clear hT hk vt yW
 have jS:std.cut (Q2 b) bom (std.len (Q2 b))=Q2 (b.drop bom.toNat):=by
  show((Q2 b).drop bom.toNat).take ((Q2 b).length-bom:Int).toNat=_
  rw[Q2,Q2,List.map_drop,List.take_of_length_le (by simp;omega)]
 have cP:BCall prog 18 [.slc 1 (std.cut (Q2 b) bom (std.len (Q2 b))),.val (.int .i64 k)] [] (.slc 3 (QP ps)) []:=by
  rw[jS,hpb];exact Qiv k _ (by rw[length_drop];omega) k8
 obtain⟨nb,vu⟩:=QE b;obtain⟨n,hn⟩:=QE ps;have nA:bom<=nb:=by rw[vu.eq];exact yJ.2
 have pW:=yJ.1;clear yJ;refine fnN (Qcs k bom (QP ps)) func45 rfl fun _ _=>?_
 with_reducible refine cv2 (Q2 b) (QP ps) ?_
 have enb:=vu.eq;have en:=hn.eq;have jV:=Q11 b;refine⟨cK,?_,cP,?_⟩
 ·simp only[std,jV];omega
 have ju:std.len (QP ps)=n:=by simp only[std,Q3m];omega
 refine Q1h (Qcs k bom (QP ps)) (Int) (fun i=>⟨[(0,.slc 1 (Q2 b)),(2,.box 0 0),(4,.val (.int .i64 bom)),(5,.box 1 0),(20,.slc 3 (QP ps)),(21,.val (.int .i64 n)),(22,.val (.int .i64 i))],[.box [.val (.int .i64 0),.val (.int .i64 0),.val (.slice none 0 0),.val (.slice none 0 0)],.box [.val (.int .i64 k),.val (.int .i64 bom),.row 2 0,.row 3 0],.row 21 1 false 0 (Q0 ((ps.take i.toNat).map Itm.r)),.row 3 1 false 0 (Q9 ((ps.take i.toNat).map fun x=>x.off+bom))]⟩) (fun i=>0<=i/\i<=n) (fun i=>(n-i).toNat) 0 ?_ ?_ ?_
 ·omega
 ·refine⟨[some 0,some 1,none,none],_,rfl,?_⟩
  simp only[Int.toNat_zero,List.take_zero,List.map_nil]
  repeat first
   |exact trivial
   |refine⟨gI ju,?_⟩
   |refine⟨rfl,?_⟩
 ·rintro i ⟨jK,jL⟩
  have j4:=Q3m ps;rcases Int.lt_or_eq_of_le jL with jA|j6
  ·have j5:(QP ps)[i.toNat]?.getD .dead=(ps[i.toNat]?.getD ⟨0,0,0⟩).av:=QdT Itm.av jK (by omega) ⟨0,0,0⟩
   have yX:i.toNat<ps.length:=by omega
   have hx:=qQ (ps[i.toNat]?.getD ⟨0,0,0⟩) (by simp[yX])
   have ht:ps.take (i+1).toNat=ps.take i.toNat++[ps[i.toNat]?.getD ⟨0,0,0⟩]:=by
    rw[show(i+1).toNat=i.toNat+1 by omega,List.take_add_one]
    simp[yX]
   have yk:Q0 ((ps.take (i+1).toNat).map Itm.r)=Q0 ((ps.take i.toNat).map Itm.r)++[.val (.int .i32 (ps[i.toNat]?.getD ⟨0,0,0⟩).r)]:=by
    rw[ht,List.map_append,Q95];rfl
   have vH:Q9 ((ps.take (i+1).toNat).map fun x=>x.off+bom)=Q9 ((ps.take i.toNat).map fun x=>x.off+bom)++[.val (.int .i64 (bom+(ps[i.toNat]?.getD ⟨0,0,0⟩).off))]:=by
    rw[ht,List.map_append,Q4T,Int.add_comm bom];rfl
   have ye:(Q0 ((ps.take i.toNat).map Itm.r)).length<=1000000:=by simp[Q0];omega
   have z4:(Q9 ((ps.take i.toNat).map fun x=>x.off+bom)).length<=1000000:=by simp[Q9];omega
   obtain⟨x,hxE⟩:=exq (ps[i.toNat]?.getD ⟨0,0,0⟩);rw[<-hxE]at j5 hx yk vH;obtain⟨R,hR⟩:=exq (Q0 ((ps.take i.toNat).map Itm.r));obtain⟨O,hO⟩:=exq (Q9 ((ps.take i.toNat).map fun x=>x.off+bom))
   rw[<-hR]at yk ye ⊢;rw[<-hO]at vH z4 ⊢;clear en enb ht;with_reducible refine cv2 (Q2 b) (QP ps) ?_
   have en:=hn.eq;have enb:=vu.eq
   repeat' first
    |(with_reducible refine And.intro (fun hx=>absurd hx (by first|(try simp[std,S1,j5,Itm.av,j4,jA,jK])<;>omega|omega)) (fun _=>?_))
    |(with_reducible refine And.intro (fun _=>?_) (fun hx=>absurd hx (by first|(try simp[std,S1,j5,Itm.av,j4,jA,jK])<;>omega|omega)))
    |(with_reducible refine And.intro (by first|(try simp[std,S1,j5,Itm.av,j4,jA,jK])<;>omega|omega) ?_)
    |(with_reducible refine zA ?_ ?_)
    |(with_reducible intro hb)
   exact⟨i+1,⟨by omega,by omega⟩,by omega,[some 0,some 1,some 2,some 3],_,rfl,by simp[-map_take,Qe,lk,std,j5,j4,Itm.av,AV.cells,intOf,yk,vH]⟩
  ·have ht:ps.take i.toNat=ps:=List.take_of_length_le (by omega)
   rw[ht];have z4:(Q9 (ps.map fun x=>x.off+bom)).length<=1000000:=by simp[Q9];omega
   have hf:Q9 (ps.map (fun x=>x.off+bom)++[(b.length:Int)])=Q9 (ps.map fun x=>x.off+bom)++[.val (.int .i64 nb)]:=by
    rw[Q4T,vu.eq];rfl
   have gN:std.len (Q2 b)=nb:=by rw[enb];simp only[std,jV]
   obtain⟨R,hR⟩:=exq (Q0 (ps.map Itm.r));obtain⟨O,hO⟩:=exq (Q9 (ps.map fun x=>x.off+bom))
   rw[<-hO]at z4 hf
   have hcs:(Txt.mk k bom (ps.map Itm.r) (ps.map (fun x=>x.off+bom)++[(b.length:Int)])).cs=[.val (.int .i64 k),.val (.int .i64 bom),.slc 1 R,.slc 1 (O++[.val (.int .i64 nb)])]:=by
    rw[Txt.cs,hf,hR]
   rw[hcs,<-hR,<-hO];clear en enb ht hcs;with_reducible refine cv2 (Q2 b) (QP ps) ?_
   with_reducible repeat' first|refine aU j6 ?_|refine zA ?_ ?_|intro hb
   rw[if_pos trivial];with_reducible refine cv2 (Q2 b) (QP ps) ?_
   refine⟨?_,.pure rfl ?_⟩
   ·simp[std];omega
   ·refine⟨.inl rfl,.inl rfl,.inl rfl,.inl ?_,trivial⟩
    show AV.slc 1 (std.app O [.val (.int .i64 (std.len (Q2 b)))])=_;rw[gN];rfl
end
theorem Qvn(l:List Int)(k:Nat):(Q1n l k).1≠8:=by
 unfold Q1n;repeat' split
 all_goals (intro h;simp at h)
theorem Qvr(l:List Int){k:Nat}(hk:k<l.length)(h:(Ql l k).1=8)(hw:(Ql l k).2.2=true):k+2<=(Ql l k).2.1:=by
 unfold Ql at h hw ⊢;split at h
 ·rename_i h1
  rw[if_pos h1]at hw ⊢;unfold Q1H at h hw ⊢;split at h
  ·rw[Q7E]at h;exact absurd h (by decide)
  ·rename_i g1
   rw[if_neg g1]at hw ⊢;split at h
   ·rw[Q7E]at h;exact absurd h (by decide)
   ·rename_i g2
    rw[if_neg g2]at hw ⊢;split at h
    ·rw[Q7E]at h;exact absurd h (by decide)
    ·rename_i g3
     rw[if_neg g3]at hw ⊢;split at h
     ·exact absurd h (by decide:(7:Nat)≠8)
     ·rename_i g4
      rw[if_neg g4]at hw ⊢;split at h
      ·exact absurd h (by decide:(10:Nat)≠8)
      ·rename_i g5
       rw[if_neg g5]at hw ⊢;split at h
       ·rename_i g6
        rw[if_pos g6]at hw ⊢;have hr:=(Q38 l true l.length (k+1) (by omega) (by omega)).1
        unfold Q1D at h hw ⊢;split at h
        ·rename_i g7
         rw[if_pos g7]at hw;exact absurd hw Bool.false_ne_true
        ·rename_i g7
         rw[if_neg g7]at hw ⊢;split at h
         ·exact absurd h (by decide:(9:Nat)≠8)
         ·rename_i g8
          rw[if_neg g8];show k+2<=(QN l true (k+1)).1+1;omega
       ·exact absurd h (by decide:(11:Nat)≠8)
 ·split at h
  ·exact absurd h (Qvn l k)
  ·split at h
   ·exact absurd h (by decide:(11:Nat)≠8)
   ·exact absurd h (by decide:(1:Nat)≠8)
section
variable {m:Mk}{X:List UInt8}{B D S:Nat}
theorem Qvk(hc:2 * sz m<=S)(t:Txt)(b:List UInt8)(kind f u:Int):2 * sz (lkF t b kind f u m)<=S+2:=by
 show 2 * ((m.n++[_]).length+2 * (Q2k _ m.s).length)<=_;unfold sz at hc;rw[QaB];simp only[length_append,List.length_singleton];omega
end
theorem QuX(t:Txt)(f:Int)(k:Nat){X:List UInt8}{B D:Nat}:∀(n:Nat)(m:Mk),MkI m X B D->k+1<=m.s.length->m.s.length<=n+k+1->sz (missGo t f k n m)=sz m
 |0,m,_,_,_=>rfl
 |n+1,m,h,h1,h2=>by
  show sz (if _ then _ else _)=_;split
  ·have h3:=Q5D h.i (by omega) t f
   have ih:=QuX t f k n _ (h.miss (by omega) t f) (by omega) (by omega)
   have e:sz (Q3l t f m)=sz m:=QqA _ (by show 1<=m.s.length;omega) 22 []
   rw[ih];exact e
  ·rfl
section
variable {m:Mk}{X:List UInt8}{B D S:Nat}
theorem Qvl(h:MkI m X B D)(hc:2 * sz m<=S)(t:Txt)(b:List UInt8){kind:Int}(f u:Int)(h1:f<u)(wh:Bool)(h8:kind=8->wh=true->f+2<=u):2 * sz (Q26 t b kind f u wh m)<=S+3 * (u-f).toNat:=by
 unfold Q26;simp only
 generalize jx:(if wh=false then QV t 1 f u m else if(kind=8\/kind=9\/kind=10)/\(QD t.r f u).right=false then QV t 2 f u m else m)=m1
 have h3:∃D',MkI m1 X B D':=by
  rw[<-jx];split
  ·exact⟨_,h.wrong t 1 f u⟩
  ·split
   ·exact⟨_,h.wrong t 2 f u⟩
   ·exact⟨_,h⟩
 have qz:2 * sz m1<=S:=by
  rw[<-jx];split
  ·exact hc
  ·split<;>exact hc
 obtain⟨D',h3⟩:=h3;split
 ·rename_i hs
  obtain⟨hw,rfl,_⟩:=hs;have h2:=h8 rfl hw;unfold Q1G;split
  ·exact le_trans (Qvk (m:=QV t 5 f u m1) qz t b 8 f u) (by omega)
  ·show 2 * ((m1.n++[_]).length+2 * (Q2k _ (m1.s++[_])).length)<=_
   unfold sz at qz;rw[QaB];simp only[length_append,List.length_singleton];omega
 ·split
  ·rename_i hs
   obtain⟨_,rfl⟩:=hs;unfold Q2Y;have jM:=h3.i.s1;have jJ:=Q61 m1.s (Qs t f u) (m1.s.length-1);simp only
   split
   ·exact le_trans (Qvk (m:=QV t 3 f u m1) qz t b 10 f u) (by omega)
   ·rename_i qS
    obtain⟨k,hk⟩:=exq (Q2g m1.s (Qs t f u) (m1.s.length-1));rw[<-hk]at qS jJ ⊢;obtain⟨h5,h6⟩:=MkI.missGo t f k m1.s.length m1 h3 (by omega) (by omega)
    have h7:=QuX t f k m1.s.length m1 h3 (by omega) (by omega)
    obtain⟨m2,qe⟩:=exq (missGo t f k m1.s.length m1);rw[<-qe]at h6 h7 ⊢;have e:sz (Q22 m2.n.length (Q2n t b 10 f u m2))=sz m2:=QqA _ (by omega) 10 _
    rw[e,h7];omega
  ·exact le_trans (Qvk qz t b kind f u) (by omega)
end
theorem Qvf{b:List UInt8}(hb:b.length<=1000000):∀(n k:Nat)(m:Mk)(B D S:Nat),(Qb b).r.length-k<=n->k<=(Qb b).r.length->MkI m (Q6y (Qb b) b k) B D->2 * sz m<=S ->
  2 * sz ((Q1S (Qb b).r k).foldl (Q7k (Qb b) b) m)<=S+3 * ((Qb b).r.length-k)
 |0,k,m,B,D,S,h,hk,hi,hc=>by
  rw[Q1k (by omega)];exact le_trans hc (by omega)
 |n+1,k,m,B,D,S,h,hk,hi,hc=>by
  have ok:=(Q3N b).1;have hr:(Qb b).r.length<=1000000:=le_trans (Q3N b).2.2.1 hb;by_cases jA:k<(Qb b).r.length
  ·obtain⟨h1,h2,h3,h4⟩:=Q9S (Qb b).r jA
   rw[Q1O jA,List.foldl_cons];have:=hi.token (Qb b) b hr (Q1m (Qb b).r k).kind (Q1m (Qb b).r k).from_ (Q1m (Qb b).r k).to (Q1m (Qb b).r k).whole
   rw[h1,h2,Q7B ok (by omega) (by omega) (by omega)]at this
   have yP:=Qvl hi hc (Qb b) b (kind:=(Q1m (Qb b).r k).kind) k ((Ql (Qb b).r k).2.1:Nat) (by omega) (Q1m (Qb b).r k).whole (fun e8 ew=>by
    have e8:(((Ql (Qb b).r k).1:Nat):Int)=8:=e8;have:=Qvr (Qb b).r jA (by omega) ew
    omega)
   have h5:=Qvf hb n (Ql (Qb b).r k).2.1 _ (B+3) (D+3) _ (by omega) h4 this yP
   exact le_trans h5 (by omega)
  ·rw[Q1k jA];exact le_trans hc (by omega)
theorem Qvm(b:List UInt8):2 * sz (Q3s b)<=6:=by
 unfold Q3s;split
 ·show 2 * (1+2 * 1)<=6;decide
 ·show 2 * (0+2 * 1)<=6;decide
theorem Qvp(b:List UInt8)(hb:b.length<=100000):2 * co (QL (Qu b)).n (Qu b).n.length<=4+3 * b.length:=by
 have hs:=Q6r b hb;have hr:=(Q3N b).2.2.1;have hi:=Q6Y b;have h1:=QaO hs.ok hs.hr (Qb b).r.length 0 _ _ _ (by omega) (by omega) hi
 have c1:=Qvf (b:=b) (by omega) (Qb b).r.length 0 _ _ _ 6 (by omega) (by omega) hi (Qvm b)
 have h2:=h1.i.s1;have c2:=QuX (Qb b) (Qb b).r.length 0 _ _ h1 (by omega) (Nat.le_succ _)
 rw[<-c2]at c1;have c1:2 * sz (Qu b)<=6+3 * ((Qb b).r.length-0):=c1;obtain⟨h3,h4⟩:=Qda hs.ok hs.hr hi;have h3:MkI (Qu b) b (3+3 * (Qb b).r.length) (2+3 * (Qb b).r.length):=h3;have h4:(Qu b).s.length=1:=h4;obtain⟨k1,k2,k3,k4⟩:=Qe5 h3 h4;unfold sz at c1;rw[h4]at c1;omega
