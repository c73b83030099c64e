/- Lemmas; conditions told. -/
import Derived.Test.YtibemhahkicbpaaGreatQJ31
import Derived.Test.YtibemhahkicbpaaGreatQJ32
set_option maxRecDepth 99999
set_option maxHeartbeats 0
set_option linter.unusedSimpArgs false
set_option linter.unusedVariables false
namespace Go.Proofs.YtibemhahkicbpaaGreat
open List(length_cons length_nil)
open Go.RowKit Go.Lib
section
open Tryz
theorem Qoc(l:List Int)(hl:l.length<=1000000000)(hu:Un l)(k:Int)(h0:0<=k)(h1:k<l.length):BCall prog 157 [.slc 1 (Q0 l),.val (.int .i64 k)] [] (Q1B ((Q1n l k.toNat).1:Nat) k ((Q1n l k.toNat).2.1:Nat) (Q1n l k.toNat).2.2) []:=by
 cases jL:Q6 l k.toNat [38,35]with
 |false=>exact QmU l hl hu k h0 h1 jL
 |true =>
  by_cases hf:k+1+((Qj l (k.toNat+1):Nat):Int)<l.length
  ·cases jW:Q6 l k.toNat [38,35,120]with
   |true=>exact Qng l hl hu k h0 h1 jL jW hf
   |false=>exact Qm2 l hl hu k h0 h1 jL jW hf
  ·cases jW:Q6 l k.toNat [38,35,120]with
   |true=>exact Qms l hl hu k h0 h1 jL jW hf
   |false=>exact Qnz l hl hu k h0 h1 jL jW hf
def Q4u(s1 s2 s3 s4 s5 ns:Bool)(kd k t:Int)(w:Bool):Nat->List AV->List Ob->Option (AV×List Ob):=fun f args _=>match f,args with
 |1000009,_=>some (.val (.bool s1),[])
 |1000016,_=>some (.val (.bool s2),[])
 |1000023,_=>some (.val (.bool s3),[])
 |1000030,_=>some (.val (.bool s4),[])
 |1000037,_=>some (.val (.bool s5),[])
 |155,[.val (.int .i32 _)]=>some (.val (.bool ns),[])
 |152,[.slc 1 _,.val (.int .i64 _),.val (.int .i64 _),.val (.int .i64 _),.val (.string _)]=>some (.agg [.val (.int .i64 kd),.val (.int .i64 k),.val (.int .i64 t),.val (.bool w)],[])
 |153,[.slc 1 _,.val (.int .i64 _)]=>some (.agg [.val (.int .i64 kd),.val (.int .i64 k),.val (.int .i64 t),.val (.bool w)],[])
 |154,[.slc 1 _,.val (.int .i64 _)]=>some (.agg [.val (.int .i64 kd),.val (.int .i64 k),.val (.int .i64 t),.val (.bool w)],[])
 |156,[.slc 1 _,.val (.int .i64 _)]=>some (.agg [.val (.int .i64 kd),.val (.int .i64 k),.val (.int .i64 t),.val (.bool w)],[])
 |157,[.slc 1 _,.val (.int .i64 _)]=>some (.agg [.val (.int .i64 kd),.val (.int .i64 k),.val (.int .i64 t),.val (.bool w)],[])
 |_,_=>none
theorem Q5d{l:List Int}{k:Nat}(h:l[k]?.getD 0=60):Ql l k=Q1H l k:=by
 rw[Ql,if_pos (by rw[List.getD_eq_getElem?_getD];exact h)]
theorem Q4H{l:List Int}{k:Nat}{bs:List UInt8}(h:Q6 l k (60::bs)=true):l[k]?.getD 0=60:=by
 have:=Q7b h (i:=0) (by simp)
 rw[Nat.add_zero]at this;rw[this];rfl
theorem Qlu(l:List Int)(hl:l.length<=1000000000)(hu:Un l)(k:Int)(h0:0<=k)(h1:k<l.length)(jL:Q6 l k.toNat [60,33,45,45]=true):BCall prog 126 [.slc 1 (Q0 l),.val (.int .i64 k)] [] (Q1B ((Ql l k.toNat).1:Nat) k ((Ql l k.toNat).2.1:Nat) (Ql l k.toNat).2.2) []:=by
 have c1:BCall prog 151 [.slc 1 (Q0 l),.val (.int .i64 k),.val (.string ⟨#[60,33,45,45]⟩)] [] (.val (.bool true)) []:=by
  have:=Qc l hl hu.i32 k h0 (by omega) ⟨#[60,33,45,45]⟩ (by decide)
  have e:Q6 l k.toNat (⟨#[60,33,45,45]⟩:ByteArray).data.toList=true:=jL;rw[e]at this;exact this
 have hm:=Q5d (Q4H jL);have j8:=Q17 l k.toNat _ (by omega) jL
 simp only[length_cons,length_nil]at j8;have yW:((k.toNat:Nat):Int)=k:=Int.toNat_of_nonneg h0;rw[Q1H,if_pos jL]at hm;rw[hm];obtain⟨u1,u2,u3⟩:=Q5L l 4 k.toNat 4 [45,45,62] (by omega)
 rw[yW]at u2 u3;have u2:((Q14 l 4 k.toNat 4 [45,45,62]).2.1:Int)=Q3C l (k+4) [45,45,62]:=u2;have u3:(Q14 l 4 k.toNat 4 [45,45,62]).2.2=Q3F l (k+4) [45,45,62]:=u3;have cT:BCall prog 152 [.slc 1 (Q0 l),.val (.int .i64 4),.val (.int .i64 k),.val (.int .i64 4),.val (.string ⟨#[45,45,62]⟩)] [] (Q1B 4 k (Q3C l (k+4) [45,45,62]) (Q3F l (k+4) [45,45,62])) []:=Q8v l hl hu.i32 4 k 4 h0 (by decide) (by omega) ⟨#[45,45,62]⟩ (by decide)
 rw[u1,u2,u3];generalize Q3C l (k+4) [45,45,62]=t at cT ⊢;generalize Q3F l (k+4) [45,45,62]=w at cT ⊢;show BCall _ _ _ _ (Q1B 4 k t w) _;rw[Q1B]at cT ⊢;obtain⟨kd,jD⟩:=exq (4:Int);have cT:BCall prog 152 [.slc 1 (Q0 l),.val (.int .i64 4),.val (.int .i64 k),.val (.int .i64 4),.val (.string ⟨#[45,45,62]⟩)] [] (.agg [.val (.int .i64 kd),.val (.int .i64 k),.val (.int .i64 t),.val (.bool w)]) []:=by rw[jD];exact cT
 rw[<-jD];clear u1 u2 u3 jD;clear hm j8 yW;refine fnN (Q4u true true true true true true kd k t w) func126 rfl fun _ _=>?_
 with_reducible refine cv1 (Q0 l) ?_
 repeat' (with_reducible apply And.intro)
 all_goals first
  |exact c1
  |exact cT
  |exact .pure rfl ⟨.inl rfl,.inl rfl,.inl rfl,.inl rfl,trivial⟩
theorem QjR(l:List Int)(hl:l.length<=1000000000)(hu:Un l)(k:Int)(h0:0<=k)(h1:k<l.length)(jL:Q6 l k.toNat [60,33,45,45]=false)(jW:Q6 l k.toNat [60,33,91,67,68,65,84,65,91]=true):BCall prog 126 [.slc 1 (Q0 l),.val (.int .i64 k)] [] (Q1B ((Ql l k.toNat).1:Nat) k ((Ql l k.toNat).2.1:Nat) (Ql l k.toNat).2.2) []:=by
 have c1:BCall prog 151 [.slc 1 (Q0 l),.val (.int .i64 k),.val (.string ⟨#[60,33,45,45]⟩)] [] (.val (.bool false)) []:=by
  have:=Qc l hl hu.i32 k h0 (by omega) ⟨#[60,33,45,45]⟩ (by decide)
  have e:Q6 l k.toNat (⟨#[60,33,45,45]⟩:ByteArray).data.toList=false:=jL;rw[e]at this;exact this
 have c2:BCall prog 151 [.slc 1 (Q0 l),.val (.int .i64 k),.val (.string ⟨#[60,33,91,67,68,65,84,65,91]⟩)] [] (.val (.bool true)) []:=by
  have:=Qc l hl hu.i32 k h0 (by omega) ⟨#[60,33,91,67,68,65,84,65,91]⟩ (by decide)
  have e:Q6 l k.toNat (⟨#[60,33,91,67,68,65,84,65,91]⟩:ByteArray).data.toList=true:=jW;rw[e]at this;exact this
 have hm:=Q5d (Q4H jW);have j8:=Q17 l k.toNat _ (by omega) jW
 simp only[length_cons,length_nil]at j8;have yW:((k.toNat:Nat):Int)=k:=Int.toNat_of_nonneg h0;rw[Q1H,if_neg (show ¬Q6 l k.toNat [60,33,45,45]=true by rw[jL];decide),if_pos jW]at hm
 rw[hm];obtain⟨u1,u2,u3⟩:=Q5L l 6 k.toNat 9 [93,93,62] (by omega)
 rw[yW]at u2 u3;have u2:((Q14 l 6 k.toNat 9 [93,93,62]).2.1:Int)=Q3C l (k+9) [93,93,62]:=u2;have u3:(Q14 l 6 k.toNat 9 [93,93,62]).2.2=Q3F l (k+9) [93,93,62]:=u3;have cT:BCall prog 152 [.slc 1 (Q0 l),.val (.int .i64 6),.val (.int .i64 k),.val (.int .i64 9),.val (.string ⟨#[93,93,62]⟩)] [] (Q1B 6 k (Q3C l (k+9) [93,93,62]) (Q3F l (k+9) [93,93,62])) []:=Q8v l hl hu.i32 6 k 9 h0 (by decide) (by omega) ⟨#[93,93,62]⟩ (by decide)
 rw[u1,u2,u3];generalize Q3C l (k+9) [93,93,62]=t at cT ⊢;generalize Q3F l (k+9) [93,93,62]=w at cT ⊢;show BCall _ _ _ _ (Q1B 6 k t w) _;rw[Q1B]at cT ⊢;obtain⟨kd,jD⟩:=exq (6:Int);have cT:BCall prog 152 [.slc 1 (Q0 l),.val (.int .i64 6),.val (.int .i64 k),.val (.int .i64 9),.val (.string ⟨#[93,93,62]⟩)] [] (.agg [.val (.int .i64 kd),.val (.int .i64 k),.val (.int .i64 t),.val (.bool w)]) []:=by rw[jD];exact cT
 rw[<-jD];clear u1 u2 u3 jD;clear hm j8 yW;refine fnN (Q4u false true true true true true kd k t w) func126 rfl fun _ _=>?_
 with_reducible refine cv1 (Q0 l) ?_
 repeat' (with_reducible apply And.intro)
 all_goals first
  |exact c1
  |exact c2
  |exact cT
  |exact .pure rfl ⟨.inl rfl,.inl rfl,.inl rfl,.inl rfl,trivial⟩
theorem Qk9(l:List Int)(hl:l.length<=1000000000)(hu:Un l)(k:Int)(h0:0<=k)(h1:k<l.length)(jL:Q6 l k.toNat [60,33,45,45]=false)(jW:Q6 l k.toNat [60,33,91,67,68,65,84,65,91]=false)(zN:Q6 l k.toNat [60,63]=true):BCall prog 126 [.slc 1 (Q0 l),.val (.int .i64 k)] [] (Q1B ((Ql l k.toNat).1:Nat) k ((Ql l k.toNat).2.1:Nat) (Ql l k.toNat).2.2) []:=by
 have c1:BCall prog 151 [.slc 1 (Q0 l),.val (.int .i64 k),.val (.string ⟨#[60,33,45,45]⟩)] [] (.val (.bool false)) []:=by
  have:=Qc l hl hu.i32 k h0 (by omega) ⟨#[60,33,45,45]⟩ (by decide)
  have e:Q6 l k.toNat (⟨#[60,33,45,45]⟩:ByteArray).data.toList=false:=jL;rw[e]at this;exact this
 have c2:BCall prog 151 [.slc 1 (Q0 l),.val (.int .i64 k),.val (.string ⟨#[60,33,91,67,68,65,84,65,91]⟩)] [] (.val (.bool false)) []:=by
  have:=Qc l hl hu.i32 k h0 (by omega) ⟨#[60,33,91,67,68,65,84,65,91]⟩ (by decide)
  have e:Q6 l k.toNat (⟨#[60,33,91,67,68,65,84,65,91]⟩:ByteArray).data.toList=false:=jW;rw[e]at this;exact this
 have c3:BCall prog 151 [.slc 1 (Q0 l),.val (.int .i64 k),.val (.string ⟨#[60,63]⟩)] [] (.val (.bool true)) []:=by
  have:=Qc l hl hu.i32 k h0 (by omega) ⟨#[60,63]⟩ (by decide)
  have e:Q6 l k.toNat (⟨#[60,63]⟩:ByteArray).data.toList=true:=zN;rw[e]at this;exact this
 have hm:=Q5d (Q4H zN);have j8:=Q17 l k.toNat _ (by omega) zN
 simp only[length_cons,length_nil]at j8;have yW:((k.toNat:Nat):Int)=k:=Int.toNat_of_nonneg h0;rw[Q1H,if_neg (show ¬Q6 l k.toNat [60,33,45,45]=true by rw[jL];decide),if_neg (show ¬Q6 l k.toNat [60,33,91,67,68,65,84,65,91]=true by rw[jW];decide),if_pos zN]at hm
 rw[hm];obtain⟨u1,u2,u3⟩:=Q5L l 5 k.toNat 2 [63,62] (by omega)
 rw[yW]at u2 u3;have u2:((Q14 l 5 k.toNat 2 [63,62]).2.1:Int)=Q3C l (k+2) [63,62]:=u2;have u3:(Q14 l 5 k.toNat 2 [63,62]).2.2=Q3F l (k+2) [63,62]:=u3;have cT:BCall prog 152 [.slc 1 (Q0 l),.val (.int .i64 5),.val (.int .i64 k),.val (.int .i64 2),.val (.string ⟨#[63,62]⟩)] [] (Q1B 5 k (Q3C l (k+2) [63,62]) (Q3F l (k+2) [63,62])) []:=Q8v l hl hu.i32 5 k 2 h0 (by decide) (by omega) ⟨#[63,62]⟩ (by decide)
 rw[u1,u2,u3];generalize Q3C l (k+2) [63,62]=t at cT ⊢;generalize Q3F l (k+2) [63,62]=w at cT ⊢;show BCall _ _ _ _ (Q1B 5 k t w) _;rw[Q1B]at cT ⊢;obtain⟨kd,jD⟩:=exq (5:Int);have cT:BCall prog 152 [.slc 1 (Q0 l),.val (.int .i64 5),.val (.int .i64 k),.val (.int .i64 2),.val (.string ⟨#[63,62]⟩)] [] (.agg [.val (.int .i64 kd),.val (.int .i64 k),.val (.int .i64 t),.val (.bool w)]) []:=by rw[jD];exact cT
 rw[<-jD];clear u1 u2 u3 jD;clear hm j8 yW;refine fnN (Q4u false false true true true true kd k t w) func126 rfl fun _ _=>?_
 with_reducible refine cv1 (Q0 l) ?_
 repeat' (with_reducible apply And.intro)
 all_goals first
  |exact c1
  |exact c2
  |exact c3
  |exact cT
  |exact .pure rfl ⟨.inl rfl,.inl rfl,.inl rfl,.inl rfl,trivial⟩
theorem QkS(l:List Int)(hl:l.length<=1000000000)(hu:Un l)(k:Int)(h0:0<=k)(h1:k<l.length)(jL:Q6 l k.toNat [60,33,45,45]=false)(jW:Q6 l k.toNat [60,33,91,67,68,65,84,65,91]=false)(zN:Q6 l k.toNat [60,63]=false)(pK:Q6 l k.toNat [60,33,68,79,67,84,89,80,69]=true):BCall prog 126 [.slc 1 (Q0 l),.val (.int .i64 k)] [] (Q1B ((Ql l k.toNat).1:Nat) k ((Ql l k.toNat).2.1:Nat) (Ql l k.toNat).2.2) []:=by
 have c1:BCall prog 151 [.slc 1 (Q0 l),.val (.int .i64 k),.val (.string ⟨#[60,33,45,45]⟩)] [] (.val (.bool false)) []:=by
  have:=Qc l hl hu.i32 k h0 (by omega) ⟨#[60,33,45,45]⟩ (by decide)
  have e:Q6 l k.toNat (⟨#[60,33,45,45]⟩:ByteArray).data.toList=false:=jL;rw[e]at this;exact this
 have c2:BCall prog 151 [.slc 1 (Q0 l),.val (.int .i64 k),.val (.string ⟨#[60,33,91,67,68,65,84,65,91]⟩)] [] (.val (.bool false)) []:=by
  have:=Qc l hl hu.i32 k h0 (by omega) ⟨#[60,33,91,67,68,65,84,65,91]⟩ (by decide)
  have e:Q6 l k.toNat (⟨#[60,33,91,67,68,65,84,65,91]⟩:ByteArray).data.toList=false:=jW;rw[e]at this;exact this
 have c3:BCall prog 151 [.slc 1 (Q0 l),.val (.int .i64 k),.val (.string ⟨#[60,63]⟩)] [] (.val (.bool false)) []:=by
  have:=Qc l hl hu.i32 k h0 (by omega) ⟨#[60,63]⟩ (by decide)
  have e:Q6 l k.toNat (⟨#[60,63]⟩:ByteArray).data.toList=false:=zN;rw[e]at this;exact this
 have c4:BCall prog 151 [.slc 1 (Q0 l),.val (.int .i64 k),.val (.string ⟨#[60,33,68,79,67,84,89,80,69]⟩)] [] (.val (.bool true)) []:=by
  have:=Qc l hl hu.i32 k h0 (by omega) ⟨#[60,33,68,79,67,84,89,80,69]⟩ (by decide)
  have e:Q6 l k.toNat (⟨#[60,33,68,79,67,84,89,80,69]⟩:ByteArray).data.toList=true:=pK;rw[e]at this;exact this
 have hm:=Q5d (Q4H pK);have j8:=Q17 l k.toNat _ (by omega) pK
 simp only[length_cons,length_nil]at j8;have yW:((k.toNat:Nat):Int)=k:=Int.toNat_of_nonneg h0;rw[Q1H,if_neg (show ¬Q6 l k.toNat [60,33,45,45]=true by rw[jL];decide),if_neg (show ¬Q6 l k.toNat [60,33,91,67,68,65,84,65,91]=true by rw[jW];decide),if_neg (show ¬Q6 l k.toNat [60,63]=true by rw[zN];decide),if_pos pK]at hm
 rw[hm];have cT:=QfX l hl hu.i32 k h0 (by omega)
 have gr:(((Q3E l k.toNat).1:Nat):Int)=7:=rfl;rw[gr];obtain⟨t,ht⟩:=exq (((Q3E l k.toNat).2.1:Nat):Int);obtain⟨w,hw⟩:=exq ((Q3E l k.toNat).2.2:Bool);rw[<-ht,<-hw]at cT ⊢;rw[Q1B]at cT ⊢;obtain⟨kd,jD⟩:=exq (7:Int);have cT:BCall prog 153 [.slc 1 (Q0 l),.val (.int .i64 k)] [] (.agg [.val (.int .i64 kd),.val (.int .i64 k),.val (.int .i64 t),.val (.bool w)]) []:=by rw[jD];exact cT
 rw[<-jD];clear ht hw jD gr;clear hm j8 yW;refine fnN (Q4u false false false true true true kd k t w) func126 rfl fun _ _=>?_
 with_reducible refine cv1 (Q0 l) ?_
 repeat' (with_reducible apply And.intro)
 all_goals first
  |exact c1
  |exact c2
  |exact c3
  |exact c4
  |exact cT
  |exact .pure rfl ⟨.inl rfl,.inl rfl,.inl rfl,.inl rfl,trivial⟩
theorem Qlx(l:List Int)(hl:l.length<=1000000000)(hu:Un l)(k:Int)(h0:0<=k)(h1:k<l.length)(jL:Q6 l k.toNat [60,33,45,45]=false)(jW:Q6 l k.toNat [60,33,91,67,68,65,84,65,91]=false)(zN:Q6 l k.toNat [60,63]=false)(pK:Q6 l k.toNat [60,33,68,79,67,84,89,80,69]=false)(hs5:Q6 l k.toNat [60,47]=true):BCall prog 126 [.slc 1 (Q0 l),.val (.int .i64 k)] [] (Q1B ((Ql l k.toNat).1:Nat) k ((Ql l k.toNat).2.1:Nat) (Ql l k.toNat).2.2) []:=by
 have c1:BCall prog 151 [.slc 1 (Q0 l),.val (.int .i64 k),.val (.string ⟨#[60,33,45,45]⟩)] [] (.val (.bool false)) []:=by
  have:=Qc l hl hu.i32 k h0 (by omega) ⟨#[60,33,45,45]⟩ (by decide)
  have e:Q6 l k.toNat (⟨#[60,33,45,45]⟩:ByteArray).data.toList=false:=jL;rw[e]at this;exact this
 have c2:BCall prog 151 [.slc 1 (Q0 l),.val (.int .i64 k),.val (.string ⟨#[60,33,91,67,68,65,84,65,91]⟩)] [] (.val (.bool false)) []:=by
  have:=Qc l hl hu.i32 k h0 (by omega) ⟨#[60,33,91,67,68,65,84,65,91]⟩ (by decide)
  have e:Q6 l k.toNat (⟨#[60,33,91,67,68,65,84,65,91]⟩:ByteArray).data.toList=false:=jW;rw[e]at this;exact this
 have c3:BCall prog 151 [.slc 1 (Q0 l),.val (.int .i64 k),.val (.string ⟨#[60,63]⟩)] [] (.val (.bool false)) []:=by
  have:=Qc l hl hu.i32 k h0 (by omega) ⟨#[60,63]⟩ (by decide)
  have e:Q6 l k.toNat (⟨#[60,63]⟩:ByteArray).data.toList=false:=zN;rw[e]at this;exact this
 have c4:BCall prog 151 [.slc 1 (Q0 l),.val (.int .i64 k),.val (.string ⟨#[60,33,68,79,67,84,89,80,69]⟩)] [] (.val (.bool false)) []:=by
  have:=Qc l hl hu.i32 k h0 (by omega) ⟨#[60,33,68,79,67,84,89,80,69]⟩ (by decide)
  have e:Q6 l k.toNat (⟨#[60,33,68,79,67,84,89,80,69]⟩:ByteArray).data.toList=false:=pK;rw[e]at this;exact this
 have c5:BCall prog 151 [.slc 1 (Q0 l),.val (.int .i64 k),.val (.string ⟨#[60,47]⟩)] [] (.val (.bool true)) []:=by
  have:=Qc l hl hu.i32 k h0 (by omega) ⟨#[60,47]⟩ (by decide)
  have e:Q6 l k.toNat (⟨#[60,47]⟩:ByteArray).data.toList=true:=hs5;rw[e]at this;exact this
 have hm:=Q5d (Q4H hs5);have j8:=Q17 l k.toNat _ (by omega) hs5
 simp only[length_cons,length_nil]at j8;have yW:((k.toNat:Nat):Int)=k:=Int.toNat_of_nonneg h0;rw[Q1H,if_neg (show ¬Q6 l k.toNat [60,33,45,45]=true by rw[jL];decide),if_neg (show ¬Q6 l k.toNat [60,33,91,67,68,65,84,65,91]=true by rw[jW];decide),if_neg (show ¬Q6 l k.toNat [60,63]=true by rw[zN];decide),if_neg (show ¬Q6 l k.toNat [60,33,68,79,67,84,89,80,69]=true by rw[pK];decide),if_pos hs5]at hm
 rw[hm];have cT:=Qoz l hl k h0 (by omega)
 have gr:(((Q3h l k.toNat).1:Nat):Int)=10:=rfl;rw[gr];obtain⟨t,ht⟩:=exq (((Q3h l k.toNat).2.1:Nat):Int);obtain⟨w,hw⟩:=exq ((Q3h l k.toNat).2.2:Bool);rw[<-ht,<-hw]at cT ⊢;rw[Q1B]at cT ⊢;obtain⟨kd,jD⟩:=exq (10:Int);have cT:BCall prog 154 [.slc 1 (Q0 l),.val (.int .i64 k)] [] (.agg [.val (.int .i64 kd),.val (.int .i64 k),.val (.int .i64 t),.val (.bool w)]) []:=by rw[jD];exact cT
 rw[<-jD];clear ht hw jD gr;clear hm j8 yW;refine fnN (Q4u false false false false true true kd k t w) func126 rfl fun _ _=>?_
 with_reducible refine cv1 (Q0 l) ?_
 repeat' (with_reducible apply And.intro)
 all_goals first
  |exact c1
  |exact c2
  |exact c3
  |exact c4
  |exact c5
  |exact cT
  |exact .pure rfl ⟨.inl rfl,.inl rfl,.inl rfl,.inl rfl,trivial⟩
