/- Lemmas, conditions told -/
import Derived.Test.YtibemhahkicbpaaGreatL21
set_option maxRecDepth 99999
set_option maxHeartbeats 0
set_option linter.unusedSimpArgs false
set_option linter.unusedVariables false
namespace Go.Proofs.YtibemhahkicbpaaGreat
open List(getD_eq_getElem?_getD length_cons length_nil drop_eq_getElem_cons takeWhile_cons drop_of_length_le length_take drop_zero length_drop map_take mem_append_left)
open Int(toNat_of_nonneg le_refl)
open Go.RowKit Go.Lib
section
open Tryz
theorem Qoc(l:List Int)(hl:l.length<=1000000000)(hu:Un l)(k:Int)(h0:0<=k)(h1:k<l.length):BCall prog 157 [.slc 1 (Q0 l),.val (.int .i64 k)] [] (Q1B ((Q1n l k.toNat).1:Nat) k ((Q1n l k.toNat).2.1:Nat) (Q1n l k.toNat).2.2) []:=by
 cases jL:Q6 l k.toNat [38,35]with
 |false=>exact QmU l hl hu k h0 h1 jL
 |true =>
  by_cases hf:k+1+((Qj l (k.toNat+1):Nat):Int)<l.length
  ·cases jT:Q6 l k.toNat [38,35,120]with
   |true=>exact Qng l hl hu k h0 h1 jL jT hf
   |false=>exact Qm2 l hl hu k h0 h1 jL jT hf
  ·cases jT:Q6 l k.toNat [38,35,120]with
   |true=>exact Qms l hl hu k h0 h1 jL jT hf
   |false=>exact Qnz l hl hu k h0 h1 jL jT hf
def Q4u(s1 s2 s3 s4 s5 ns:Bool)(kd k t:Int)(w:Bool):Nat->List AV->List Ob->Option (AV×List Ob):=fun f args _=>match f,args with
 |1000009,_=>some (.val (.bool s1),[])
 |1000016,_=>some (.val (.bool s2),[])
 |1000023,_=>some (.val (.bool s3),[])
 |1000030,_=>some (.val (.bool s4),[])
 |1000037,_=>some (.val (.bool s5),[])
 |155,[.val (.int .i32 _)]=>some (.val (.bool ns),[])
 |152,[.slc 1 _,.val (.int .i64 _),.val (.int .i64 _),.val (.int .i64 _),.val (.string _)]=>some (.agg [.val (.int .i64 kd),.val (.int .i64 k),.val (.int .i64 t),.val (.bool w)],[])
 |153,[.slc 1 _,.val (.int .i64 _)]=>some (.agg [.val (.int .i64 kd),.val (.int .i64 k),.val (.int .i64 t),.val (.bool w)],[])
 |154,[.slc 1 _,.val (.int .i64 _)]=>some (.agg [.val (.int .i64 kd),.val (.int .i64 k),.val (.int .i64 t),.val (.bool w)],[])
 |156,[.slc 1 _,.val (.int .i64 _)]=>some (.agg [.val (.int .i64 kd),.val (.int .i64 k),.val (.int .i64 t),.val (.bool w)],[])
 |157,[.slc 1 _,.val (.int .i64 _)]=>some (.agg [.val (.int .i64 kd),.val (.int .i64 k),.val (.int .i64 t),.val (.bool w)],[])
 |_,_=>none
theorem Q5d{l:List Int}{k:Nat}(h:l[k]?.getD 0=60):Ql l k=Q1H l k:=by
 rw[Ql,if_pos (by rw[getD_eq_getElem?_getD];exact h)]
theorem Q4H{l:List Int}{k:Nat}{bs:List UInt8}(h:Q6 l k (60::bs)=true):l[k]?.getD 0=60:=by
 have:=Q7b h (i:=0) (by simp)
 rw[Nat.add_zero]at this;rw[this];rfl
theorem Qlu(l:List Int)(hl:l.length<=1000000000)(hu:Un l)(k:Int)(h0:0<=k)(h1:k<l.length)(jL:Q6 l k.toNat [60,33,45,45]=true):BCall prog 126 [.slc 1 (Q0 l),.val (.int .i64 k)] [] (Q1B ((Ql l k.toNat).1:Nat) k ((Ql l k.toNat).2.1:Nat) (Ql l k.toNat).2.2) []:=by
 have c1:BCall prog 151 [.slc 1 (Q0 l),.val (.int .i64 k),.val (.string ⟨#[60,33,45,45]⟩)] [] (.val (.bool true)) []:=by
  have:=Qc l hl hu.i32 k h0 (by omega) ⟨#[60,33,45,45]⟩ (by decide)
  have e:Q6 l k.toNat (⟨#[60,33,45,45]⟩:ByteArray).data.toList=true:=jL;rw[e]at this;exact this
 have hm:=Q5d (Q4H jL);have j2:=Q17 l k.toNat _ (by omega) jL
 simp only[length_cons,length_nil]at j2;have yc:((k.toNat:Nat):Int)=k:=toNat_of_nonneg h0;rw[Q1H,if_pos jL]at hm;rw[hm];obtain⟨u1,u2,u3⟩:=Q5L l 4 k.toNat 4 [45,45,62] (by omega)
 rw[yc]at u2 u3;have u2:((Q14 l 4 k.toNat 4 [45,45,62]).2.1:Int)=Q3C l (k+4) [45,45,62]:=u2;have u3:(Q14 l 4 k.toNat 4 [45,45,62]).2.2=Q3F l (k+4) [45,45,62]:=u3;have cT:BCall prog 152 [.slc 1 (Q0 l),.val (.int .i64 4),.val (.int .i64 k),.val (.int .i64 4),.val (.string ⟨#[45,45,62]⟩)] [] (Q1B 4 k (Q3C l (k+4) [45,45,62]) (Q3F l (k+4) [45,45,62])) []:=Q8v l hl hu.i32 4 k 4 h0 (by decide) (by omega) ⟨#[45,45,62]⟩ (by decide)
 rw[u1,u2,u3];generalize Q3C l (k+4) [45,45,62]=t at cT ⊢;generalize Q3F l (k+4) [45,45,62]=w at cT ⊢;show BCall _ _ _ _ (Q1B 4 k t w) _;rw[Q1B]at cT ⊢;obtain⟨kd,jD⟩:=exq (4:Int);have cT:BCall prog 152 [.slc 1 (Q0 l),.val (.int .i64 4),.val (.int .i64 k),.val (.int .i64 4),.val (.string ⟨#[45,45,62]⟩)] [] (.agg [.val (.int .i64 kd),.val (.int .i64 k),.val (.int .i64 t),.val (.bool w)]) []:=by rw[jD];exact cT
 rw[<-jD];clear u1 u2 u3 jD;clear hm j2 yc;refine fnN (Q4u true true true true true true kd k t w) func126 rfl fun _ _=>?_
 with_reducible refine cv1 (Q0 l) ?_
 repeat' (with_reducible apply And.intro)
 all_goals first
  |exact c1
  |exact cT
  |exact .pure rfl ⟨.inl rfl,.inl rfl,.inl rfl,.inl rfl,trivial⟩
theorem QjR(l:List Int)(hl:l.length<=1000000000)(hu:Un l)(k:Int)(h0:0<=k)(h1:k<l.length)(jL:Q6 l k.toNat [60,33,45,45]=false)(jT:Q6 l k.toNat [60,33,91,67,68,65,84,65,91]=true):BCall prog 126 [.slc 1 (Q0 l),.val (.int .i64 k)] [] (Q1B ((Ql l k.toNat).1:Nat) k ((Ql l k.toNat).2.1:Nat) (Ql l k.toNat).2.2) []:=by
 have c1:BCall prog 151 [.slc 1 (Q0 l),.val (.int .i64 k),.val (.string ⟨#[60,33,45,45]⟩)] [] (.val (.bool false)) []:=by
  have:=Qc l hl hu.i32 k h0 (by omega) ⟨#[60,33,45,45]⟩ (by decide)
  have e:Q6 l k.toNat (⟨#[60,33,45,45]⟩:ByteArray).data.toList=false:=jL;rw[e]at this;exact this
 have c2:BCall prog 151 [.slc 1 (Q0 l),.val (.int .i64 k),.val (.string ⟨#[60,33,91,67,68,65,84,65,91]⟩)] [] (.val (.bool true)) []:=by
  have:=Qc l hl hu.i32 k h0 (by omega) ⟨#[60,33,91,67,68,65,84,65,91]⟩ (by decide)
  have e:Q6 l k.toNat (⟨#[60,33,91,67,68,65,84,65,91]⟩:ByteArray).data.toList=true:=jT;rw[e]at this;exact this
 have hm:=Q5d (Q4H jT);have j2:=Q17 l k.toNat _ (by omega) jT
 simp only[length_cons,length_nil]at j2;have yc:((k.toNat:Nat):Int)=k:=toNat_of_nonneg h0;rw[Q1H,if_neg (show ¬Q6 l k.toNat [60,33,45,45]=true by rw[jL];decide),if_pos jT]at hm
 rw[hm];obtain⟨u1,u2,u3⟩:=Q5L l 6 k.toNat 9 [93,93,62] (by omega)
 rw[yc]at u2 u3;have u2:((Q14 l 6 k.toNat 9 [93,93,62]).2.1:Int)=Q3C l (k+9) [93,93,62]:=u2;have u3:(Q14 l 6 k.toNat 9 [93,93,62]).2.2=Q3F l (k+9) [93,93,62]:=u3;have cT:BCall prog 152 [.slc 1 (Q0 l),.val (.int .i64 6),.val (.int .i64 k),.val (.int .i64 9),.val (.string ⟨#[93,93,62]⟩)] [] (Q1B 6 k (Q3C l (k+9) [93,93,62]) (Q3F l (k+9) [93,93,62])) []:=Q8v l hl hu.i32 6 k 9 h0 (by decide) (by omega) ⟨#[93,93,62]⟩ (by decide)
 rw[u1,u2,u3];generalize Q3C l (k+9) [93,93,62]=t at cT ⊢;generalize Q3F l (k+9) [93,93,62]=w at cT ⊢;show BCall _ _ _ _ (Q1B 6 k t w) _;rw[Q1B]at cT ⊢;obtain⟨kd,jD⟩:=exq (6:Int);have cT:BCall prog 152 [.slc 1 (Q0 l),.val (.int .i64 6),.val (.int .i64 k),.val (.int .i64 9),.val (.string ⟨#[93,93,62]⟩)] [] (.agg [.val (.int .i64 kd),.val (.int .i64 k),.val (.int .i64 t),.val (.bool w)]) []:=by rw[jD];exact cT
 rw[<-jD];clear u1 u2 u3 jD;clear hm j2 yc;refine fnN (Q4u false true true true true true kd k t w) func126 rfl fun _ _=>?_
 with_reducible refine cv1 (Q0 l) ?_
 repeat' (with_reducible apply And.intro)
 all_goals first
  |exact c1
  |exact c2
  |exact cT
  |exact .pure rfl ⟨.inl rfl,.inl rfl,.inl rfl,.inl rfl,trivial⟩
theorem Qk9(l:List Int)(hl:l.length<=1000000000)(hu:Un l)(k:Int)(h0:0<=k)(h1:k<l.length)(jL:Q6 l k.toNat [60,33,45,45]=false)(jT:Q6 l k.toNat [60,33,91,67,68,65,84,65,91]=false)(zP:Q6 l k.toNat [60,63]=true):BCall prog 126 [.slc 1 (Q0 l),.val (.int .i64 k)] [] (Q1B ((Ql l k.toNat).1:Nat) k ((Ql l k.toNat).2.1:Nat) (Ql l k.toNat).2.2) []:=by
 have c1:BCall prog 151 [.slc 1 (Q0 l),.val (.int .i64 k),.val (.string ⟨#[60,33,45,45]⟩)] [] (.val (.bool false)) []:=by
  have:=Qc l hl hu.i32 k h0 (by omega) ⟨#[60,33,45,45]⟩ (by decide)
  have e:Q6 l k.toNat (⟨#[60,33,45,45]⟩:ByteArray).data.toList=false:=jL;rw[e]at this;exact this
 have c2:BCall prog 151 [.slc 1 (Q0 l),.val (.int .i64 k),.val (.string ⟨#[60,33,91,67,68,65,84,65,91]⟩)] [] (.val (.bool false)) []:=by
  have:=Qc l hl hu.i32 k h0 (by omega) ⟨#[60,33,91,67,68,65,84,65,91]⟩ (by decide)
  have e:Q6 l k.toNat (⟨#[60,33,91,67,68,65,84,65,91]⟩:ByteArray).data.toList=false:=jT;rw[e]at this;exact this
 have c3:BCall prog 151 [.slc 1 (Q0 l),.val (.int .i64 k),.val (.string ⟨#[60,63]⟩)] [] (.val (.bool true)) []:=by
  have:=Qc l hl hu.i32 k h0 (by omega) ⟨#[60,63]⟩ (by decide)
  have e:Q6 l k.toNat (⟨#[60,63]⟩:ByteArray).data.toList=true:=zP;rw[e]at this;exact this
 have hm:=Q5d (Q4H zP);have j2:=Q17 l k.toNat _ (by omega) zP
 simp only[length_cons,length_nil]at j2;have yc:((k.toNat:Nat):Int)=k:=toNat_of_nonneg h0;rw[Q1H,if_neg (show ¬Q6 l k.toNat [60,33,45,45]=true by rw[jL];decide),if_neg (show ¬Q6 l k.toNat [60,33,91,67,68,65,84,65,91]=true by rw[jT];decide),if_pos zP]at hm
 rw[hm];obtain⟨u1,u2,u3⟩:=Q5L l 5 k.toNat 2 [63,62] (by omega)
 rw[yc]at u2 u3;have u2:((Q14 l 5 k.toNat 2 [63,62]).2.1:Int)=Q3C l (k+2) [63,62]:=u2;have u3:(Q14 l 5 k.toNat 2 [63,62]).2.2=Q3F l (k+2) [63,62]:=u3;have cT:BCall prog 152 [.slc 1 (Q0 l),.val (.int .i64 5),.val (.int .i64 k),.val (.int .i64 2),.val (.string ⟨#[63,62]⟩)] [] (Q1B 5 k (Q3C l (k+2) [63,62]) (Q3F l (k+2) [63,62])) []:=Q8v l hl hu.i32 5 k 2 h0 (by decide) (by omega) ⟨#[63,62]⟩ (by decide)
 rw[u1,u2,u3];generalize Q3C l (k+2) [63,62]=t at cT ⊢;generalize Q3F l (k+2) [63,62]=w at cT ⊢;show BCall _ _ _ _ (Q1B 5 k t w) _;rw[Q1B]at cT ⊢;obtain⟨kd,jD⟩:=exq (5:Int);have cT:BCall prog 152 [.slc 1 (Q0 l),.val (.int .i64 5),.val (.int .i64 k),.val (.int .i64 2),.val (.string ⟨#[63,62]⟩)] [] (.agg [.val (.int .i64 kd),.val (.int .i64 k),.val (.int .i64 t),.val (.bool w)]) []:=by rw[jD];exact cT
 rw[<-jD];clear u1 u2 u3 jD;clear hm j2 yc;refine fnN (Q4u false false true true true true kd k t w) func126 rfl fun _ _=>?_
 with_reducible refine cv1 (Q0 l) ?_
 repeat' (with_reducible apply And.intro)
 all_goals first
  |exact c1
  |exact c2
  |exact c3
  |exact cT
  |exact .pure rfl ⟨.inl rfl,.inl rfl,.inl rfl,.inl rfl,trivial⟩
theorem QkS(l:List Int)(hl:l.length<=1000000000)(hu:Un l)(k:Int)(h0:0<=k)(h1:k<l.length)(jL:Q6 l k.toNat [60,33,45,45]=false)(jT:Q6 l k.toNat [60,33,91,67,68,65,84,65,91]=false)(zP:Q6 l k.toNat [60,63]=false)(xj:Q6 l k.toNat [60,33,68,79,67,84,89,80,69]=true):BCall prog 126 [.slc 1 (Q0 l),.val (.int .i64 k)] [] (Q1B ((Ql l k.toNat).1:Nat) k ((Ql l k.toNat).2.1:Nat) (Ql l k.toNat).2.2) []:=by
 have c1:BCall prog 151 [.slc 1 (Q0 l),.val (.int .i64 k),.val (.string ⟨#[60,33,45,45]⟩)] [] (.val (.bool false)) []:=by
  have:=Qc l hl hu.i32 k h0 (by omega) ⟨#[60,33,45,45]⟩ (by decide)
  have e:Q6 l k.toNat (⟨#[60,33,45,45]⟩:ByteArray).data.toList=false:=jL;rw[e]at this;exact this
 have c2:BCall prog 151 [.slc 1 (Q0 l),.val (.int .i64 k),.val (.string ⟨#[60,33,91,67,68,65,84,65,91]⟩)] [] (.val (.bool false)) []:=by
  have:=Qc l hl hu.i32 k h0 (by omega) ⟨#[60,33,91,67,68,65,84,65,91]⟩ (by decide)
  have e:Q6 l k.toNat (⟨#[60,33,91,67,68,65,84,65,91]⟩:ByteArray).data.toList=false:=jT;rw[e]at this;exact this
 have c3:BCall prog 151 [.slc 1 (Q0 l),.val (.int .i64 k),.val (.string ⟨#[60,63]⟩)] [] (.val (.bool false)) []:=by
  have:=Qc l hl hu.i32 k h0 (by omega) ⟨#[60,63]⟩ (by decide)
  have e:Q6 l k.toNat (⟨#[60,63]⟩:ByteArray).data.toList=false:=zP;rw[e]at this;exact this
 have c4:BCall prog 151 [.slc 1 (Q0 l),.val (.int .i64 k),.val (.string ⟨#[60,33,68,79,67,84,89,80,69]⟩)] [] (.val (.bool true)) []:=by
  have:=Qc l hl hu.i32 k h0 (by omega) ⟨#[60,33,68,79,67,84,89,80,69]⟩ (by decide)
  have e:Q6 l k.toNat (⟨#[60,33,68,79,67,84,89,80,69]⟩:ByteArray).data.toList=true:=xj;rw[e]at this;exact this
 have hm:=Q5d (Q4H xj);have j2:=Q17 l k.toNat _ (by omega) xj
 simp only[length_cons,length_nil]at j2;have yc:((k.toNat:Nat):Int)=k:=toNat_of_nonneg h0;rw[Q1H,if_neg (show ¬Q6 l k.toNat [60,33,45,45]=true by rw[jL];decide),if_neg (show ¬Q6 l k.toNat [60,33,91,67,68,65,84,65,91]=true by rw[jT];decide),if_neg (show ¬Q6 l k.toNat [60,63]=true by rw[zP];decide),if_pos xj]at hm
 rw[hm];have cT:=QfX l hl hu.i32 k h0 (by omega)
 have gg:(((Q3E l k.toNat).1:Nat):Int)=7:=rfl;rw[gg];obtain⟨t,ht⟩:=exq (((Q3E l k.toNat).2.1:Nat):Int);obtain⟨w,hw⟩:=exq ((Q3E l k.toNat).2.2:Bool);rw[<-ht,<-hw]at cT ⊢;rw[Q1B]at cT ⊢;obtain⟨kd,jD⟩:=exq (7:Int);have cT:BCall prog 153 [.slc 1 (Q0 l),.val (.int .i64 k)] [] (.agg [.val (.int .i64 kd),.val (.int .i64 k),.val (.int .i64 t),.val (.bool w)]) []:=by rw[jD];exact cT
 rw[<-jD];clear ht hw jD gg;clear hm j2 yc;refine fnN (Q4u false false false true true true kd k t w) func126 rfl fun _ _=>?_
 with_reducible refine cv1 (Q0 l) ?_
 repeat' (with_reducible apply And.intro)
 all_goals first
  |exact c1
  |exact c2
  |exact c3
  |exact c4
  |exact cT
  |exact .pure rfl ⟨.inl rfl,.inl rfl,.inl rfl,.inl rfl,trivial⟩
theorem Qlx(l:List Int)(hl:l.length<=1000000000)(hu:Un l)(k:Int)(h0:0<=k)(h1:k<l.length)(jL:Q6 l k.toNat [60,33,45,45]=false)(jT:Q6 l k.toNat [60,33,91,67,68,65,84,65,91]=false)(zP:Q6 l k.toNat [60,63]=false)(xj:Q6 l k.toNat [60,33,68,79,67,84,89,80,69]=false)(hs5:Q6 l k.toNat [60,47]=true):BCall prog 126 [.slc 1 (Q0 l),.val (.int .i64 k)] [] (Q1B ((Ql l k.toNat).1:Nat) k ((Ql l k.toNat).2.1:Nat) (Ql l k.toNat).2.2) []:=by
 have c1:BCall prog 151 [.slc 1 (Q0 l),.val (.int .i64 k),.val (.string ⟨#[60,33,45,45]⟩)] [] (.val (.bool false)) []:=by
  have:=Qc l hl hu.i32 k h0 (by omega) ⟨#[60,33,45,45]⟩ (by decide)
  have e:Q6 l k.toNat (⟨#[60,33,45,45]⟩:ByteArray).data.toList=false:=jL;rw[e]at this;exact this
 have c2:BCall prog 151 [.slc 1 (Q0 l),.val (.int .i64 k),.val (.string ⟨#[60,33,91,67,68,65,84,65,91]⟩)] [] (.val (.bool false)) []:=by
  have:=Qc l hl hu.i32 k h0 (by omega) ⟨#[60,33,91,67,68,65,84,65,91]⟩ (by decide)
  have e:Q6 l k.toNat (⟨#[60,33,91,67,68,65,84,65,91]⟩:ByteArray).data.toList=false:=jT;rw[e]at this;exact this
 have c3:BCall prog 151 [.slc 1 (Q0 l),.val (.int .i64 k),.val (.string ⟨#[60,63]⟩)] [] (.val (.bool false)) []:=by
  have:=Qc l hl hu.i32 k h0 (by omega) ⟨#[60,63]⟩ (by decide)
  have e:Q6 l k.toNat (⟨#[60,63]⟩:ByteArray).data.toList=false:=zP;rw[e]at this;exact this
 have c4:BCall prog 151 [.slc 1 (Q0 l),.val (.int .i64 k),.val (.string ⟨#[60,33,68,79,67,84,89,80,69]⟩)] [] (.val (.bool false)) []:=by
  have:=Qc l hl hu.i32 k h0 (by omega) ⟨#[60,33,68,79,67,84,89,80,69]⟩ (by decide)
  have e:Q6 l k.toNat (⟨#[60,33,68,79,67,84,89,80,69]⟩:ByteArray).data.toList=false:=xj;rw[e]at this;exact this
 have c5:BCall prog 151 [.slc 1 (Q0 l),.val (.int .i64 k),.val (.string ⟨#[60,47]⟩)] [] (.val (.bool true)) []:=by
  have:=Qc l hl hu.i32 k h0 (by omega) ⟨#[60,47]⟩ (by decide)
  have e:Q6 l k.toNat (⟨#[60,47]⟩:ByteArray).data.toList=true:=hs5;rw[e]at this;exact this
 have hm:=Q5d (Q4H hs5);have j2:=Q17 l k.toNat _ (by omega) hs5
 simp only[length_cons,length_nil]at j2;have yc:((k.toNat:Nat):Int)=k:=toNat_of_nonneg h0;rw[Q1H,if_neg (show ¬Q6 l k.toNat [60,33,45,45]=true by rw[jL];decide),if_neg (show ¬Q6 l k.toNat [60,33,91,67,68,65,84,65,91]=true by rw[jT];decide),if_neg (show ¬Q6 l k.toNat [60,63]=true by rw[zP];decide),if_neg (show ¬Q6 l k.toNat [60,33,68,79,67,84,89,80,69]=true by rw[xj];decide),if_pos hs5]at hm
 rw[hm];have cT:=Qoz l hl k h0 (by omega)
 have gg:(((Q3h l k.toNat).1:Nat):Int)=10:=rfl;rw[gg];obtain⟨t,ht⟩:=exq (((Q3h l k.toNat).2.1:Nat):Int);obtain⟨w,hw⟩:=exq ((Q3h l k.toNat).2.2:Bool);rw[<-ht,<-hw]at cT ⊢;rw[Q1B]at cT ⊢;obtain⟨kd,jD⟩:=exq (10:Int);have cT:BCall prog 154 [.slc 1 (Q0 l),.val (.int .i64 k)] [] (.agg [.val (.int .i64 kd),.val (.int .i64 k),.val (.int .i64 t),.val (.bool w)]) []:=by rw[jD];exact cT
 rw[<-jD];clear ht hw jD gg;clear hm j2 yc;refine fnN (Q4u false false false false true true kd k t w) func126 rfl fun _ _=>?_
 with_reducible refine cv1 (Q0 l) ?_
 repeat' (with_reducible apply And.intro)
 all_goals first
  |exact c1
  |exact c2
  |exact c3
  |exact c4
  |exact c5
  |exact cT
  |exact .pure rfl ⟨.inl rfl,.inl rfl,.inl rfl,.inl rfl,trivial⟩
theorem Qap{l:List Int}{k:Nat}:0<Qj l k↔k<l.length/\Qp (l[k]?.getD 0)=true:=by
 unfold Qj;by_cases h:k<l.length
 ·rw[List.getElem?_eq_getElem h]
  show 0<(if Qp l[k]=true then((l.drop k).takeWhile Qq).length else 0)↔k<l.length/\Qp l[k]=true;by_cases hs:Qp l[k]=true
  ·rw[if_pos hs,drop_eq_getElem_cons h,takeWhile_cons,if_pos (Qa3 _ hs),length_cons]
   exact⟨fun _=>⟨h,hs⟩,fun _=>by omega⟩
  ·rw[if_neg hs]
   exact⟨fun h2=>by omega,fun h2=>absurd h2.2 hs⟩
 ·rw[List.getElem?_eq_none (by omega)]
  exact⟨fun h2=>absurd h2 (Nat.lt_irrefl 0),fun h2=>absurd h2.1 h⟩
structure NoMark (l:List Int) (k:Nat):Prop where
 s1:Q6 l k [60,33,45,45]=false
 s2:Q6 l k [60,33,91,67,68,65,84,65,91]=false
 s3:Q6 l k [60,63]=false
 s4:Q6 l k [60,33,68,79,67,84,89,80,69]=false
 s5:Q6 l k [60,47]=false
theorem NoMark.markup{l:List Int}{k:Nat}(h:NoMark l k):Q1H l k=if 0<Qj l (k+1)then Q1D l k else(11,k+1,false):=by
 rw[Q1H,h.s1,h.s2,h.s3,h.s4,h.s5];rfl
def plN(l:List Int)(i:Int):Nat:=((l.drop i.toNat).takeWhile Q1Q).length
theorem QlE{l:List Int}{i:Int}(h0:0<=i)(h1:i<l.length)(h:Q1Q (l[i.toNat]?.getD 0)=true):plN l i=plN l (i+1)+1:=by
 obtain⟨hl,e⟩:=Q5r h0 h1;rw[e]at h;rw[plN,plN,drop_eq_getElem_cons hl,takeWhile_cons,if_pos h,length_cons,show(i+1).toNat=i.toNat+1 by omega]
theorem Qf8{l:List Int}{i:Int}(h0:0<=i)(h:i<l.length->Q1Q (l[i.toNat]?.getD 0)=false):plN l i=0:=by
 by_cases h1:i<l.length
 ·obtain⟨hl,e⟩:=Q5r h0 h1
  have h:=h h1;rw[e]at h;rw[plN,drop_eq_getElem_cons hl,takeWhile_cons,if_neg (by rw[h];decide)];rfl
 ·rw[plN,drop_of_length_le (by omega)];rfl
theorem QiY(l:List Int)(hl:l.length<=1000000000)(hu:Un l)(k:Int)(h0:0<=k)(h1:k<l.length)(hM:NoMark l k.toNat)(jO:l[k.toNat]?.getD 0=60)(jU:k+1<l.length)(cV:Qp (l[k.toNat+1]?.getD 0)=true):BCall prog 126 [.slc 1 (Q0 l),.val (.int .i64 k)] [] (Q1B ((Ql l k.toNat).1:Nat) k ((Ql l k.toNat).2.1:Nat) (Ql l k.toNat).2.2) []:=by
 have c1:BCall prog 151 [.slc 1 (Q0 l),.val (.int .i64 k),.val (.string ⟨#[60,33,45,45]⟩)] [] (.val (.bool false)) []:=by
  have:=Qc l hl hu.i32 k h0 (by omega) ⟨#[60,33,45,45]⟩ (by decide)
  have e:Q6 l k.toNat (⟨#[60,33,45,45]⟩:ByteArray).data.toList=false:=hM.s1;rw[e]at this;exact this
 have c2:BCall prog 151 [.slc 1 (Q0 l),.val (.int .i64 k),.val (.string ⟨#[60,33,91,67,68,65,84,65,91]⟩)] [] (.val (.bool false)) []:=by
  have:=Qc l hl hu.i32 k h0 (by omega) ⟨#[60,33,91,67,68,65,84,65,91]⟩ (by decide)
  have e:Q6 l k.toNat (⟨#[60,33,91,67,68,65,84,65,91]⟩:ByteArray).data.toList=false:=hM.s2;rw[e]at this;exact this
 have c3:BCall prog 151 [.slc 1 (Q0 l),.val (.int .i64 k),.val (.string ⟨#[60,63]⟩)] [] (.val (.bool false)) []:=by
  have:=Qc l hl hu.i32 k h0 (by omega) ⟨#[60,63]⟩ (by decide)
  have e:Q6 l k.toNat (⟨#[60,63]⟩:ByteArray).data.toList=false:=hM.s3;rw[e]at this;exact this
 have c4:BCall prog 151 [.slc 1 (Q0 l),.val (.int .i64 k),.val (.string ⟨#[60,33,68,79,67,84,89,80,69]⟩)] [] (.val (.bool false)) []:=by
  have:=Qc l hl hu.i32 k h0 (by omega) ⟨#[60,33,68,79,67,84,89,80,69]⟩ (by decide)
  have e:Q6 l k.toNat (⟨#[60,33,68,79,67,84,89,80,69]⟩:ByteArray).data.toList=false:=hM.s4;rw[e]at this;exact this
 have c5:BCall prog 151 [.slc 1 (Q0 l),.val (.int .i64 k),.val (.string ⟨#[60,47]⟩)] [] (.val (.bool false)) []:=by
  have:=Qc l hl hu.i32 k h0 (by omega) ⟨#[60,47]⟩ (by decide)
  have e:Q6 l k.toNat (⟨#[60,47]⟩:ByteArray).data.toList=false:=hM.s5;rw[e]at this;exact this
 have ak:=QJ (l:=l) (i:=k) h0 h1;obtain⟨n,hn⟩:=QE l;have jt:=Qx l;have ji:k<n:=by have:=hn.eq;omega
 have qD:n<=1000000000:=by have:=hn.eq;omega
 have an:=QJ (l:=l) (i:=k+1) (by omega) jU
 have gh:k+1<n:=by have:=hn.eq;omega
 have cN:=Q6j (l[(k+1).toNat]?.getD 0);have jn:(k+1).toNat=k.toNat+1:=by omega
 rw[show Qp (l[(k+1).toNat]?.getD 0)=true by rw[jn];exact cV]at cN
 rw[Q5d jO,hM.markup,if_pos (Qap.2 ⟨by omega,cV⟩)]
 have cT:=Qi7 l hl k h0 h1;obtain⟨kd,jD⟩:=exq ((((Q1D l k.toNat).1:Nat):Int):Int);obtain⟨t,ht⟩:=exq ((((Q1D l k.toNat).2.1:Nat):Int):Int);obtain⟨w,hw⟩:=exq ((Q1D l k.toNat).2.2:Bool);rw[<-jD,<-ht,<-hw]at cT ⊢;rw[Q1B]at cT ⊢;clear jD ht hw hM jU jn cV;refine fnN (Q4u false false false false false true kd k t w) func126 rfl fun _ _=>?_
 with_reducible refine cv1 (Q0 l) ?_
 have jB:=Q15 hn
 have eN:std.int (std.nth (std.cel (std.at_ (Q0 l) (std.add k 1))) 0)=l[(k+1).toNat]?.getD 0:=by
  have e9:(Q0 l).getD (k+1).toNat .dead=.val (.int .i32 (l[(k+1).toNat]?.getD 0)):=by rw[getD_eq_getElem?_getD];exact an
  show intOf ((AV.cells ((Q0 l).getD (k+1).toNat .dead)).getD 0 .dead)=_;rw[e9];rfl
 have cNs:BCall prog 155 [.val (.int .i32 (std.int (std.nth (std.cel (std.at_ (Q0 l) (std.add k 1))) 0)))] [] (.val (.bool true)) []:=by rw[eN];exact cN
 with_reducible repeat' first|refine aU (zA jB <| zA ak <| zA an <| zA jO <| zA ji <| zA gh h0) ?_|refine zA ?_ ?_|intro hb
 all_goals first
  |exact c1
  |exact c2
  |exact c3
  |exact c4
  |exact c5
  |exact cNs
  |exact cT
  |exact .pure rfl ⟨.inl rfl,.inl rfl,.inl rfl,.inl rfl,trivial⟩
theorem Qi8(l:List Int)(hl:l.length<=1000000000)(hu:Un l)(k:Int)(h0:0<=k)(h1:k<l.length)(hM:NoMark l k.toNat)(jO:l[k.toNat]?.getD 0=60)(jU:k+1<l.length)(cV:Qp (l[k.toNat+1]?.getD 0)=false):BCall prog 126 [.slc 1 (Q0 l),.val (.int .i64 k)] [] (Q1B ((Ql l k.toNat).1:Nat) k ((Ql l k.toNat).2.1:Nat) (Ql l k.toNat).2.2) []:=by
 have c1:BCall prog 151 [.slc 1 (Q0 l),.val (.int .i64 k),.val (.string ⟨#[60,33,45,45]⟩)] [] (.val (.bool false)) []:=by
  have:=Qc l hl hu.i32 k h0 (by omega) ⟨#[60,33,45,45]⟩ (by decide)
  have e:Q6 l k.toNat (⟨#[60,33,45,45]⟩:ByteArray).data.toList=false:=hM.s1;rw[e]at this;exact this
 have c2:BCall prog 151 [.slc 1 (Q0 l),.val (.int .i64 k),.val (.string ⟨#[60,33,91,67,68,65,84,65,91]⟩)] [] (.val (.bool false)) []:=by
  have:=Qc l hl hu.i32 k h0 (by omega) ⟨#[60,33,91,67,68,65,84,65,91]⟩ (by decide)
  have e:Q6 l k.toNat (⟨#[60,33,91,67,68,65,84,65,91]⟩:ByteArray).data.toList=false:=hM.s2;rw[e]at this;exact this
 have c3:BCall prog 151 [.slc 1 (Q0 l),.val (.int .i64 k),.val (.string ⟨#[60,63]⟩)] [] (.val (.bool false)) []:=by
  have:=Qc l hl hu.i32 k h0 (by omega) ⟨#[60,63]⟩ (by decide)
  have e:Q6 l k.toNat (⟨#[60,63]⟩:ByteArray).data.toList=false:=hM.s3;rw[e]at this;exact this
 have c4:BCall prog 151 [.slc 1 (Q0 l),.val (.int .i64 k),.val (.string ⟨#[60,33,68,79,67,84,89,80,69]⟩)] [] (.val (.bool false)) []:=by
  have:=Qc l hl hu.i32 k h0 (by omega) ⟨#[60,33,68,79,67,84,89,80,69]⟩ (by decide)
  have e:Q6 l k.toNat (⟨#[60,33,68,79,67,84,89,80,69]⟩:ByteArray).data.toList=false:=hM.s4;rw[e]at this;exact this
 have c5:BCall prog 151 [.slc 1 (Q0 l),.val (.int .i64 k),.val (.string ⟨#[60,47]⟩)] [] (.val (.bool false)) []:=by
  have:=Qc l hl hu.i32 k h0 (by omega) ⟨#[60,47]⟩ (by decide)
  have e:Q6 l k.toNat (⟨#[60,47]⟩:ByteArray).data.toList=false:=hM.s5;rw[e]at this;exact this
 have ak:=QJ (l:=l) (i:=k) h0 h1;obtain⟨n,hn⟩:=QE l;have jt:=Qx l;have ji:k<n:=by have:=hn.eq;omega
 have qD:n<=1000000000:=by have:=hn.eq;omega
 have an:=QJ (l:=l) (i:=k+1) (by omega) jU
 have gh:k+1<n:=by have:=hn.eq;omega
 have cN:=Q6j (l[(k+1).toNat]?.getD 0);have jn:(k+1).toNat=k.toNat+1:=by omega
 rw[show Qp (l[(k+1).toNat]?.getD 0)=false by rw[jn];exact cV]at cN
 rw[Q5d jO,hM.markup,if_neg (fun h=>by have:=(Qap.1 h).2;rw[cV]at this;cases this)]
 obtain⟨kd,jD⟩:=exq ((((((11,k.toNat+1,false):Nat×Nat×Bool)).1:Nat):Int):Int);obtain⟨t,ht⟩:=exq ((((((11,k.toNat+1,false):Nat×Nat×Bool)).2.1:Nat):Int):Int);obtain⟨w,hw⟩:=exq ((((11,k.toNat+1,false):Nat×Nat×Bool)).2.2:Bool);rw[<-jD,<-ht,<-hw,Q1B];have jD:kd=11:=jD;have ht:t=k+1:=by rw[ht];show((k.toNat+1:Nat):Int)=_;omega
 have hw:w=false:=hw;clear hM jU jn cV;refine fnN (Q4u false false false false false false 0 0 0 true) func126 rfl fun _ _=>?_
 with_reducible refine cv1 (Q0 l) ?_
 have jB:=Q15 hn
 have eN:std.int (std.nth (std.cel (std.at_ (Q0 l) (std.add k 1))) 0)=l[(k+1).toNat]?.getD 0:=by
  have e9:(Q0 l).getD (k+1).toNat .dead=.val (.int .i32 (l[(k+1).toNat]?.getD 0)):=by rw[getD_eq_getElem?_getD];exact an
  show intOf ((AV.cells ((Q0 l).getD (k+1).toNat .dead)).getD 0 .dead)=_;rw[e9];rfl
 have cNs:BCall prog 155 [.val (.int .i32 (std.int (std.nth (std.cel (std.at_ (Q0 l) (std.add k 1))) 0)))] [] (.val (.bool false)) []:=by rw[eN];exact cN
 with_reducible repeat' first|refine aU (zA jB <| zA ak <| zA an <| zA jO <| zA ji <| zA gh h0) ?_|refine zA ?_ ?_|intro hb
 all_goals first
  |exact c1
  |exact c2
  |exact c3
  |exact c4
  |exact c5
  |exact cNs
  |exact .pure rfl ⟨.inl (by rw[jD]),.inl rfl,.inl (by rw[ht];rfl),.inl (by rw[hw]),trivial⟩
theorem QhR(l:List Int)(hl:l.length<=1000000000)(hu:Un l)(k:Int)(h0:0<=k)(h1:k<l.length)(hM:NoMark l k.toNat)(jO:l[k.toNat]?.getD 0=60)(jU:¬k+1<l.length):BCall prog 126 [.slc 1 (Q0 l),.val (.int .i64 k)] [] (Q1B ((Ql l k.toNat).1:Nat) k ((Ql l k.toNat).2.1:Nat) (Ql l k.toNat).2.2) []:=by
 have c1:BCall prog 151 [.slc 1 (Q0 l),.val (.int .i64 k),.val (.string ⟨#[60,33,45,45]⟩)] [] (.val (.bool false)) []:=by
  have:=Qc l hl hu.i32 k h0 (by omega) ⟨#[60,33,45,45]⟩ (by decide)
  have e:Q6 l k.toNat (⟨#[60,33,45,45]⟩:ByteArray).data.toList=false:=hM.s1;rw[e]at this;exact this
 have c2:BCall prog 151 [.slc 1 (Q0 l),.val (.int .i64 k),.val (.string ⟨#[60,33,91,67,68,65,84,65,91]⟩)] [] (.val (.bool false)) []:=by
  have:=Qc l hl hu.i32 k h0 (by omega) ⟨#[60,33,91,67,68,65,84,65,91]⟩ (by decide)
  have e:Q6 l k.toNat (⟨#[60,33,91,67,68,65,84,65,91]⟩:ByteArray).data.toList=false:=hM.s2;rw[e]at this;exact this
 have c3:BCall prog 151 [.slc 1 (Q0 l),.val (.int .i64 k),.val (.string ⟨#[60,63]⟩)] [] (.val (.bool false)) []:=by
  have:=Qc l hl hu.i32 k h0 (by omega) ⟨#[60,63]⟩ (by decide)
  have e:Q6 l k.toNat (⟨#[60,63]⟩:ByteArray).data.toList=false:=hM.s3;rw[e]at this;exact this
 have c4:BCall prog 151 [.slc 1 (Q0 l),.val (.int .i64 k),.val (.string ⟨#[60,33,68,79,67,84,89,80,69]⟩)] [] (.val (.bool false)) []:=by
  have:=Qc l hl hu.i32 k h0 (by omega) ⟨#[60,33,68,79,67,84,89,80,69]⟩ (by decide)
  have e:Q6 l k.toNat (⟨#[60,33,68,79,67,84,89,80,69]⟩:ByteArray).data.toList=false:=hM.s4;rw[e]at this;exact this
 have c5:BCall prog 151 [.slc 1 (Q0 l),.val (.int .i64 k),.val (.string ⟨#[60,47]⟩)] [] (.val (.bool false)) []:=by
  have:=Qc l hl hu.i32 k h0 (by omega) ⟨#[60,47]⟩ (by decide)
  have e:Q6 l k.toNat (⟨#[60,47]⟩:ByteArray).data.toList=false:=hM.s5;rw[e]at this;exact this
 have ak:=QJ (l:=l) (i:=k) h0 h1;obtain⟨n,hn⟩:=QE l;have jt:=Qx l;have ji:k<n:=by have:=hn.eq;omega
 have qD:n<=1000000000:=by have:=hn.eq;omega
 have gh:¬k+1<n:=by have:=hn.eq;omega
 rw[Q5d jO,hM.markup,if_neg (fun h=>jU (by have:=(Qap.1 h).1;omega))]
 obtain⟨kd,jD⟩:=exq ((((((11,k.toNat+1,false):Nat×Nat×Bool)).1:Nat):Int):Int);obtain⟨t,ht⟩:=exq ((((((11,k.toNat+1,false):Nat×Nat×Bool)).2.1:Nat):Int):Int);obtain⟨w,hw⟩:=exq ((((11,k.toNat+1,false):Nat×Nat×Bool)).2.2:Bool);rw[<-jD,<-ht,<-hw,Q1B];have jD:kd=11:=jD;have ht:t=k+1:=by rw[ht];show((k.toNat+1:Nat):Int)=_;omega
 have hw:w=false:=hw;clear hM jU;refine fnN (Q4u false false false false false false 0 0 0 true) func126 rfl fun _ _=>?_
 with_reducible refine cv1 (Q0 l) ?_
 have jB:=Q15 hn;with_reducible repeat' first|refine aU (zA jB <| zA ak <| zA jO <| zA ji <| zA gh h0) ?_|refine zA ?_ ?_|intro hb
 all_goals first
  |exact c1
  |exact c2
  |exact c3
  |exact c4
  |exact c5
  |exact .pure rfl ⟨.inl (by rw[jD]),.inl rfl,.inl (by rw[ht];rfl),.inl (by rw[hw]),trivial⟩
theorem Qk7(l:List Int)(hl:l.length<=1000000000)(hu:Un l)(k:Int)(h0:0<=k)(h1:k<l.length)(hM:NoMark l k.toNat)(vi:l[k.toNat]?.getD 0=38):BCall prog 126 [.slc 1 (Q0 l),.val (.int .i64 k)] [] (Q1B ((Ql l k.toNat).1:Nat) k ((Ql l k.toNat).2.1:Nat) (Ql l k.toNat).2.2) []:=by
 have c1:BCall prog 151 [.slc 1 (Q0 l),.val (.int .i64 k),.val (.string ⟨#[60,33,45,45]⟩)] [] (.val (.bool false)) []:=by
  have:=Qc l hl hu.i32 k h0 (by omega) ⟨#[60,33,45,45]⟩ (by decide)
  have e:Q6 l k.toNat (⟨#[60,33,45,45]⟩:ByteArray).data.toList=false:=hM.s1;rw[e]at this;exact this
 have c2:BCall prog 151 [.slc 1 (Q0 l),.val (.int .i64 k),.val (.string ⟨#[60,33,91,67,68,65,84,65,91]⟩)] [] (.val (.bool false)) []:=by
  have:=Qc l hl hu.i32 k h0 (by omega) ⟨#[60,33,91,67,68,65,84,65,91]⟩ (by decide)
  have e:Q6 l k.toNat (⟨#[60,33,91,67,68,65,84,65,91]⟩:ByteArray).data.toList=false:=hM.s2;rw[e]at this;exact this
 have c3:BCall prog 151 [.slc 1 (Q0 l),.val (.int .i64 k),.val (.string ⟨#[60,63]⟩)] [] (.val (.bool false)) []:=by
  have:=Qc l hl hu.i32 k h0 (by omega) ⟨#[60,63]⟩ (by decide)
  have e:Q6 l k.toNat (⟨#[60,63]⟩:ByteArray).data.toList=false:=hM.s3;rw[e]at this;exact this
 have c4:BCall prog 151 [.slc 1 (Q0 l),.val (.int .i64 k),.val (.string ⟨#[60,33,68,79,67,84,89,80,69]⟩)] [] (.val (.bool false)) []:=by
  have:=Qc l hl hu.i32 k h0 (by omega) ⟨#[60,33,68,79,67,84,89,80,69]⟩ (by decide)
  have e:Q6 l k.toNat (⟨#[60,33,68,79,67,84,89,80,69]⟩:ByteArray).data.toList=false:=hM.s4;rw[e]at this;exact this
 have c5:BCall prog 151 [.slc 1 (Q0 l),.val (.int .i64 k),.val (.string ⟨#[60,47]⟩)] [] (.val (.bool false)) []:=by
  have:=Qc l hl hu.i32 k h0 (by omega) ⟨#[60,47]⟩ (by decide)
  have e:Q6 l k.toNat (⟨#[60,47]⟩:ByteArray).data.toList=false:=hM.s5;rw[e]at this;exact this
 have ak:=QJ (l:=l) (i:=k) h0 h1;obtain⟨n,hn⟩:=QE l;have jt:=Qx l;have ji:k<n:=by have:=hn.eq;omega
 have qD:n<=1000000000:=by have:=hn.eq;omega
 have e:Ql l k.toNat=Q1n l k.toNat:=by
  rw[Ql,getD_eq_getElem?_getD,if_neg (by rw[vi];decide),if_pos vi]
 rw[e];have cT:=Qoc l hl hu k h0 h1;obtain⟨kd,jD⟩:=exq ((((Q1n l k.toNat).1:Nat):Int):Int);obtain⟨t,ht⟩:=exq ((((Q1n l k.toNat).2.1:Nat):Int):Int);obtain⟨w,hw⟩:=exq ((Q1n l k.toNat).2.2:Bool);rw[<-jD,<-ht,<-hw]at cT ⊢;rw[Q1B]at cT ⊢;clear jD ht hw hM e;refine fnN (Q4u false false false false false true kd k t w) func126 rfl fun _ _=>?_
 with_reducible refine cv1 (Q0 l) ?_
 have jB:=Q15 hn;with_reducible repeat' first|refine aU (zA jB <| zA ak <| zA vi <| zA ji h0) ?_|refine zA ?_ ?_|intro hb
 all_goals first
  |exact c1
  |exact c2
  |exact c3
  |exact c4
  |exact c5
  |exact cT
  |exact .pure rfl ⟨.inl rfl,.inl rfl,.inl rfl,.inl rfl,trivial⟩
theorem Qkh(l:List Int)(hl:l.length<=1000000000)(hu:Un l)(k:Int)(h0:0<=k)(h1:k<l.length)(hM:NoMark l k.toNat)(qF:l[k.toNat]?.getD 0=-1):BCall prog 126 [.slc 1 (Q0 l),.val (.int .i64 k)] [] (Q1B ((Ql l k.toNat).1:Nat) k ((Ql l k.toNat).2.1:Nat) (Ql l k.toNat).2.2) []:=by
 have c1:BCall prog 151 [.slc 1 (Q0 l),.val (.int .i64 k),.val (.string ⟨#[60,33,45,45]⟩)] [] (.val (.bool false)) []:=by
  have:=Qc l hl hu.i32 k h0 (by omega) ⟨#[60,33,45,45]⟩ (by decide)
  have e:Q6 l k.toNat (⟨#[60,33,45,45]⟩:ByteArray).data.toList=false:=hM.s1;rw[e]at this;exact this
 have c2:BCall prog 151 [.slc 1 (Q0 l),.val (.int .i64 k),.val (.string ⟨#[60,33,91,67,68,65,84,65,91]⟩)] [] (.val (.bool false)) []:=by
  have:=Qc l hl hu.i32 k h0 (by omega) ⟨#[60,33,91,67,68,65,84,65,91]⟩ (by decide)
  have e:Q6 l k.toNat (⟨#[60,33,91,67,68,65,84,65,91]⟩:ByteArray).data.toList=false:=hM.s2;rw[e]at this;exact this
 have c3:BCall prog 151 [.slc 1 (Q0 l),.val (.int .i64 k),.val (.string ⟨#[60,63]⟩)] [] (.val (.bool false)) []:=by
  have:=Qc l hl hu.i32 k h0 (by omega) ⟨#[60,63]⟩ (by decide)
  have e:Q6 l k.toNat (⟨#[60,63]⟩:ByteArray).data.toList=false:=hM.s3;rw[e]at this;exact this
 have c4:BCall prog 151 [.slc 1 (Q0 l),.val (.int .i64 k),.val (.string ⟨#[60,33,68,79,67,84,89,80,69]⟩)] [] (.val (.bool false)) []:=by
  have:=Qc l hl hu.i32 k h0 (by omega) ⟨#[60,33,68,79,67,84,89,80,69]⟩ (by decide)
  have e:Q6 l k.toNat (⟨#[60,33,68,79,67,84,89,80,69]⟩:ByteArray).data.toList=false:=hM.s4;rw[e]at this;exact this
 have c5:BCall prog 151 [.slc 1 (Q0 l),.val (.int .i64 k),.val (.string ⟨#[60,47]⟩)] [] (.val (.bool false)) []:=by
  have:=Qc l hl hu.i32 k h0 (by omega) ⟨#[60,47]⟩ (by decide)
  have e:Q6 l k.toNat (⟨#[60,47]⟩:ByteArray).data.toList=false:=hM.s5;rw[e]at this;exact this
 have ak:=QJ (l:=l) (i:=k) h0 h1;obtain⟨n,hn⟩:=QE l;have jt:=Qx l;have ji:k<n:=by have:=hn.eq;omega
 have qD:n<=1000000000:=by have:=hn.eq;omega
 have e:Ql l k.toNat=(11,k.toNat+1,false):=by
  rw[Ql,getD_eq_getElem?_getD,if_neg (by rw[qF];decide),if_neg (by rw[qF];decide),if_pos qF]
 rw[e];obtain⟨kd,jD⟩:=exq ((((((11,k.toNat+1,false):Nat×Nat×Bool)).1:Nat):Int):Int);obtain⟨t,ht⟩:=exq ((((((11,k.toNat+1,false):Nat×Nat×Bool)).2.1:Nat):Int):Int);obtain⟨w,hw⟩:=exq ((((11,k.toNat+1,false):Nat×Nat×Bool)).2.2:Bool);rw[<-jD,<-ht,<-hw,Q1B];have jD:kd=11:=jD;have ht:t=k+1:=by rw[ht];show((k.toNat+1:Nat):Int)=_;omega
 have hw:w=false:=hw;clear hM e;refine fnN (Q4u false false false false false false 0 0 0 true) func126 rfl fun _ _=>?_
 with_reducible refine cv1 (Q0 l) ?_
 have jB:=Q15 hn;with_reducible repeat' first|refine aU (zA jB <| zA ak <| zA qF <| zA ji h0) ?_|refine zA ?_ ?_|intro hb
 all_goals first
  |exact c1
  |exact c2
  |exact c3
  |exact c4
  |exact c5
  |exact .pure rfl ⟨.inl (by rw[jD]),.inl rfl,.inl (by rw[ht];rfl),.inl (by rw[hw]),trivial⟩
theorem QcA(r:Int):Q1Q r=true↔r≠60/\r≠38/\r≠-1:=by
 unfold Q1Q;simp only[Bool.and_eq_true,bne_iff_ne]
theorem Qii(l:List Int)(hl:l.length<=1000000000)(hu:Un l)(k:Int)(h0:0<=k)(h1:k<l.length)(hM:NoMark l k.toNat)(jO:¬l[k.toNat]?.getD 0=60)(vi:¬l[k.toNat]?.getD 0=38)(qF:¬l[k.toNat]?.getD 0=-1):BCall prog 126 [.slc 1 (Q0 l),.val (.int .i64 k)] [] (Q1B ((Ql l k.toNat).1:Nat) k ((Ql l k.toNat).2.1:Nat) (Ql l k.toNat).2.2) []:=by
 have c1:BCall prog 151 [.slc 1 (Q0 l),.val (.int .i64 k),.val (.string ⟨#[60,33,45,45]⟩)] [] (.val (.bool false)) []:=by
  have:=Qc l hl hu.i32 k h0 (by omega) ⟨#[60,33,45,45]⟩ (by decide)
  have e:Q6 l k.toNat (⟨#[60,33,45,45]⟩:ByteArray).data.toList=false:=hM.s1;rw[e]at this;exact this
 have c2:BCall prog 151 [.slc 1 (Q0 l),.val (.int .i64 k),.val (.string ⟨#[60,33,91,67,68,65,84,65,91]⟩)] [] (.val (.bool false)) []:=by
  have:=Qc l hl hu.i32 k h0 (by omega) ⟨#[60,33,91,67,68,65,84,65,91]⟩ (by decide)
  have e:Q6 l k.toNat (⟨#[60,33,91,67,68,65,84,65,91]⟩:ByteArray).data.toList=false:=hM.s2;rw[e]at this;exact this
 have c3:BCall prog 151 [.slc 1 (Q0 l),.val (.int .i64 k),.val (.string ⟨#[60,63]⟩)] [] (.val (.bool false)) []:=by
  have:=Qc l hl hu.i32 k h0 (by omega) ⟨#[60,63]⟩ (by decide)
  have e:Q6 l k.toNat (⟨#[60,63]⟩:ByteArray).data.toList=false:=hM.s3;rw[e]at this;exact this
 have c4:BCall prog 151 [.slc 1 (Q0 l),.val (.int .i64 k),.val (.string ⟨#[60,33,68,79,67,84,89,80,69]⟩)] [] (.val (.bool false)) []:=by
  have:=Qc l hl hu.i32 k h0 (by omega) ⟨#[60,33,68,79,67,84,89,80,69]⟩ (by decide)
  have e:Q6 l k.toNat (⟨#[60,33,68,79,67,84,89,80,69]⟩:ByteArray).data.toList=false:=hM.s4;rw[e]at this;exact this
 have c5:BCall prog 151 [.slc 1 (Q0 l),.val (.int .i64 k),.val (.string ⟨#[60,47]⟩)] [] (.val (.bool false)) []:=by
  have:=Qc l hl hu.i32 k h0 (by omega) ⟨#[60,47]⟩ (by decide)
  have e:Q6 l k.toNat (⟨#[60,47]⟩:ByteArray).data.toList=false:=hM.s5;rw[e]at this;exact this
 have ak:=QJ (l:=l) (i:=k) h0 h1;obtain⟨n,hn⟩:=QE l;have jt:=Qx l;have ji:k<n:=by have:=hn.eq;omega
 have qD:n<=1000000000:=by have:=hn.eq;omega
 have e:Ql l k.toNat=(1,k.toNat+plN l k,true):=by
  rw[Ql,getD_eq_getElem?_getD,if_neg jO,if_neg vi,if_neg qF];rfl
 rw[e];obtain⟨N,hN⟩:∃N:Int,IsN (plN l k) N:=⟨_,rfl⟩;obtain⟨t,ht⟩:=exq (k+N:Int);have yb:(((k.toNat+plN l k:Nat)):Int)=t:=by rw[ht,hN.eq];omega
 show BCall _ _ _ _ (Q1B 1 k ((k.toNat+plN l k:Nat):Int) true) _;rw[yb,Q1B];clear e yb hM;refine fnN (Q4u false false false false false true 0 0 0 true) func126 rfl fun _ _=>?_
 with_reducible refine cv1 (Q0 l) ?_
 have jB:=Q15 hn;with_reducible repeat' first|refine aU (zA jB <| zA ak <| zA jO <| zA vi <| zA qF <| zA ji h0) ?_|refine zA ?_ ?_|intro hb
 all_goals first
  |exact c1
  |exact c2
  |exact c3
  |exact c4
  |exact c5
  |skip
 refine Q1h (Q4u false false false false false true 0 0 0 true) (Int) (fun i=>⟨[(0,.slc 1 (Q0 l)),(1,.val (.int .i64 k)),(4,.box 0 0),(5,.val (.int .i64 i))],[.box [.val (.int .i64 0),.val (.int .i64 0),.val (.int .i64 0),.val (.bool false)]]⟩) (fun i=>(k<=i/\i<=n)/\i+(plN l i:Nat)=k+N) (fun i=>(n-i).toNat) k ?_ ?_ ?_
 ·exact⟨⟨le_refl _,by omega⟩,by rw[hN.eq]⟩
 ·refine⟨[some 0],_,rfl,?_⟩
  exact eq0
 ·rintro i ⟨⟨vJ,v8⟩,hi⟩
  have jK:k<=i:=vJ;have jM:i<=n:=v8;have hi:i+(plN l i:Nat)=k+N:=hi;clear vJ v8 jB ak;by_cases jA:i<n
  ·have j1:i<l.length:=by have:=hn.eq;omega
   have ai:=QJ (l:=l) (i:=i) (by omega) j1
   by_cases hp:Q1Q (l[i.toNat]?.getD 0)=true
   ·obtain⟨p1,p2,p3⟩:=(QcA _).1 hp
    have jI:=QlE (by omega) j1 hp
    have hJ:i+1+(plN l (i+1):Nat)=k+N:=by omega
    clear hi jI j1 hN hp;with_reducible refine cv1 (Q0 l) ?_
    have jB:=Q15 hn;with_reducible repeat' first|refine aU (zA jB <| zA ai <| zA jA <| zA jK <| zA h0 <| zA p1 <| zA p2 p3) ?_|refine zA ?_ ?_|intro hb
    all_goals
     refine⟨i+1,⟨⟨by omega,by omega⟩,hJ⟩,by omega,[some 0],_,rfl,?_⟩
     exact eq0
   ·have vI:=Qf8 (l:=l) (i:=i) (by omega) (fun _=>by simpa using hp)
    have xk:t=i:=by omega
    have jp:l[i.toNat]?.getD 0=60\/l[i.toNat]?.getD 0=38\/l[i.toNat]?.getD 0=-1:=by
     by_cases q1:l[i.toNat]?.getD 0=60
     ·exact .inl q1
     ·by_cases q2:l[i.toNat]?.getD 0=38
      ·exact .inr (.inl q2)
      ·by_cases q3:l[i.toNat]?.getD 0=-1
       ·exact .inr (.inr q3)
       ·exact absurd ((QcA _).2 ⟨q1,q2,q3⟩) hp
    clear hi j1 vI hp hN ht;rcases jp with jp|jp|jp
    all_goals
     with_reducible refine cv1 (Q0 l) ?_
     have jB:=Q15 hn;with_reducible repeat' first|refine aU (zA jB <| zA ai <| zA jA <| zA jK <| zA h0 jp) ?_|refine zA ?_ ?_|intro hb
     all_goals
      rw[if_pos trivial];with_reducible refine cv1 (Q0 l) ?_
      exact .pure rfl ⟨.inl rfl,.inl rfl,.inl (by rw[xk]),.inl rfl,trivial⟩
  ·have vI:=Qf8 (l:=l) (i:=i) (by omega) (fun h=>absurd (by have:=hn.eq;omega) jA)
   have xk:t=i:=by omega
   clear hi vI hN ht;with_reducible refine cv1 (Q0 l) ?_
   have jB:=Q15 hn;with_reducible repeat' first|refine aU (zA jB <| zA jA <| zA jK h0) ?_|refine zA ?_ ?_|intro hb
   all_goals
    rw[if_pos trivial];with_reducible refine cv1 (Q0 l) ?_
    exact .pure rfl ⟨.inl rfl,.inl rfl,.inl (by rw[xk]),.inl rfl,trivial⟩
theorem Qm0(l:List Int)(hl:l.length<=1000000000)(hu:Un l)(k:Int)(h0:0<=k)(h1:k<l.length):BCall prog 126 [.slc 1 (Q0 l),.val (.int .i64 k)] [] (Q1B ((Ql l k.toNat).1:Nat) k ((Ql l k.toNat).2.1:Nat) (Ql l k.toNat).2.2) []:=by
 cases s1:Q6 l k.toNat [60,33,45,45]with
 |true=>exact Qlu l hl hu k h0 h1 s1
 |false =>
  cases s2:Q6 l k.toNat [60,33,91,67,68,65,84,65,91]with
  |true=>exact QjR l hl hu k h0 h1 s1 s2
  |false =>
   cases s3:Q6 l k.toNat [60,63]with
   |true=>exact Qk9 l hl hu k h0 h1 s1 s2 s3
   |false =>
    cases s4:Q6 l k.toNat [60,33,68,79,67,84,89,80,69]with
    |true=>exact QkS l hl hu k h0 h1 s1 s2 s3 s4
    |false =>
     cases s5:Q6 l k.toNat [60,47]with
     |true=>exact Qlx l hl hu k h0 h1 s1 s2 s3 s4 s5
     |false =>
      have hM:NoMark l k.toNat:=⟨s1,s2,s3,s4,s5⟩;by_cases jO:l[k.toNat]?.getD 0=60
      ·by_cases jU:k+1<l.length
       ·cases cV:Qp (l[k.toNat+1]?.getD 0)with
        |true=>exact QiY l hl hu k h0 h1 hM jO jU cV
        |false=>exact Qi8 l hl hu k h0 h1 hM jO jU cV
       ·exact QhR l hl hu k h0 h1 hM jO jU
      ·by_cases vi:l[k.toNat]?.getD 0=38
       ·exact Qk7 l hl hu k h0 h1 hM vi
       ·by_cases qF:l[k.toNat]?.getD 0=-1
        ·exact Qkh l hl hu k h0 h1 hM qF
        ·exact Qii l hl hu k h0 h1 hM jO vi qF
def QiS(kd to:Int->Int)(wh:Int->Bool):Nat->List AV->List Ob->Option (AV×List Ob):=fun f args _=>match f,args with
 |126,[.slc 1 _,.val (.int .i64 k)]=>some (.agg [.val (.int .i64 (kd k)),.val (.int .i64 k),.val (.int .i64 (to k)),.val (.bool (wh k))],[])
 |_,_=>none
theorem Qcl(l:List Int)(hl:l.length<=1000000)(hu:Un l):BCall prog 72 [.slc 1 (Q0 l)] [] (.slc 4 (QA (Q1r l))) []:=by
 obtain⟨n,hn⟩:=QE l;have jt:=Qx l;obtain⟨kd,jD⟩:=exq (fun k:Int=>(((Ql l k.toNat).1:Nat):Int):Int->Int)
 obtain⟨to,gZ⟩:=exq (fun k:Int=>(((Ql l k.toNat).2.1:Nat):Int):Int->Int)
 obtain⟨wh,ju⟩:=exq (fun k:Int=>(Ql l k.toNat).2.2:Int->Bool)
 have cN:∀k:Int,0<=k->k<n->BCall prog 126 [.slc 1 (Q0 l),.val (.int .i64 k)] [] (.agg [.val (.int .i64 (kd k)),.val (.int .i64 k),.val (.int .i64 (to k)),.val (.bool (wh k))]) []:=fun k k0 k1=>by
  rw[jD,gZ,ju];exact Qm0 l (by omega) hu k k0 (by have:=hn.eq;omega)
 have j8:∀k:Int,0<=k->k<n->k<to k/\to k<=n/\(Q1m l k.toNat)=⟨kd k,k,to k,wh k⟩/\(to k).toNat=(Ql l k.toNat).2.1:=fun k k0 k1=>by
  have h:=Q2E l k.toNat (by have:=hn.eq;omega)
  have e:=hn.eq;rw[gZ,jD,ju];refine⟨by simp only;omega,by simp only;omega,?_,by simp only;omega⟩
  simp only[Q1m,toNat_of_nonneg k0]
 have qD:n<=1000000:=by have:=hn.eq;omega
 clear jD gZ ju;refine fnN (QiS kd to wh) func72 rfl fun _ _=>?_
 with_reducible refine cv1 (Q0 l) ?_
 refine Q1h (QiS kd to wh) (List Tok×Int) (fun x=>⟨[(0,.slc 1 (Q0 l)),(3,.row 0 0),(4,.val (.int .i64 x.2))],[.row 153 4 false 0 (QA x.1)]⟩) (fun x=>0<=x.2/\x.2<=n/\x.1++Q1S l x.2.toNat=Q1r l/\(x.1.length:Int)<=x.2) (fun x=>(n-x.2).toNat) ([],0) ?_ ?_ ?_
 ·have:=hn.eq
  exact⟨by simp only;omega,by simp only;omega,rfl,by simp⟩
 ·exact⟨[none],_,rfl,by simp[Qe,lk,QA]⟩
 ·rintro⟨out,k⟩ ⟨jq,qE,jb,j5⟩
  simp only at jq qE jb j5
  have jR:=Q5G out;have hbd:out.length<=1000000:=by omega
  obtain⟨q,hq⟩:=QE out;have qJ:q<=k:=by rw[hq.eq];exact j5
  by_cases hk:k<n
  ·obtain⟨s1,s2,s3,s4⟩:=j8 k jq hk
   have cNk:=cN k jq hk
   have hG:out++[⟨kd k,k,to k,wh k⟩]++Q1S l (to k).toNat=Q1r l:=by
    have e:=hn.eq;rw[<-jb,Q1O (k:=k.toNat) (by omega),s3,s4];simp
   clear s3 s4;with_reducible refine cv2 (Q0 l) (QA out) ?_
   have eq:=hq.eq;have jB:=Q15 hn;with_reducible repeat' first|refine aU (zA jR <| zA jB <| zA hk jq) ?_|refine zA ?_ ?_|intro hb
   all_goals exact⟨(out++[⟨kd k,k,to k,wh k⟩],to k),⟨by simp only;omega,s2,hG,by show((out++[_]).length:Int)<=to k;simp only[List.length_append,List.length_singleton];omega⟩,by simp only;omega,[some 0],_,rfl,by simp[Qe,lk,std,Qei,QdL]⟩
  ·have hG:out=Q1r l:=by
    have e:=hn.eq;rw[<-jb,Q1k (by omega),List.append_nil]
   with_reducible refine cv2 (Q0 l) (QA out) ?_
   have jB:=Q15 hn;with_reducible repeat' first|refine aU (zA jB hk) ?_|refine zA ?_ ?_|intro hb
   all_goals
    rw[if_pos trivial];with_reducible refine cv2 (Q0 l) (QA out) ?_
    exact .pure rfl (.inl (by rw[hG]))
theorem Q9v{l:List Int}{to i:Int}(h0:0<=i)(h1:i<to):(l.take to.toNat)[i.toNat]?.getD 0=l[i.toNat]?.getD 0:=by
 rw[List.getElem?_take,if_pos (by omega)]
theorem Qie(l:List Int)(hl:l.length<=1000000000)(k to:Int)(h0:0<=k)(h1:k<to)(h2:to<=l.length):BCall prog 189 [.slc 1 (Q0 l),.val (.int .i64 k),.val (.int .i64 to)] [] (.val (.int .i64 (QC (l.take to.toNat) k))) []:=by
 obtain⟨n,hn⟩:=QE l;obtain⟨R,hR⟩:=exq (QC (l.take to.toNat) k:Int);rw[<-hR];have jt:=Qx l;obtain⟨L,hL⟩:=exq (l.take to.toNat);have q4:(L.length:Int)=to:=by rw[hL,length_take];omega
 have hLa:∀i:Int,0<=i->i<to->rAt L i=l[i.toNat]?.getD 0:=fun i i0 i1=>by rw[hL];exact Q9v i0 i1
 obtain⟨q,hq⟩:=exq (rAt L k)
 have hk:Q1a L k.toNat=Q2p L q (k+1).toNat:=by
  rw[Q1a,getD_eq_getElem?_getD,hq,rAt,show(k+1).toNat=k.toNat+1 by omega]
 rw[<-hL,QC,hk]at hR;have hqk:q=l[k.toNat]?.getD 0:=by rw[hq];exact hLa k h0 h1
 have ak:=QJ (l:=l) h0 (by omega)
 have q7:to<=n:=by have:=hn.eq;omega
 have qD:n<=1000000000:=by have:=hn.eq;omega
 obtain⟨tl,ko⟩:∃tl:Int,Len L tl:=QE L;have jG:tl=to:=by rw[ko.eq,q4]
 clear hk hq hL q4 h2;refine fnN (cs0) func189 rfl fun _ _=>?_
 with_reducible refine cv1 (Q0 l) ?_
 have jB:=Q15 hn;with_reducible repeat' first|refine aU (zA jB <| zA h1 q7) ?_|refine zA ?_ ?_|intro hb
 refine Q1h (cs0) (Int) (fun i=>⟨[(0,.slc 1 (Q0 l)),(1,.val (.int .i64 k)),(2,.val (.int .i64 to)),(7,.val (.int .i64 i))],[]⟩) (fun i=>k+1<=i/\i<=to/\Q2p L q i.toNat=Q2p L q (k+1).toNat) (fun i=>(to-i).toNat) (k+1) ?_ ?_ ?_
 ·exact⟨le_refl _,by omega,rfl⟩
 ·refine⟨[],_,rfl,?_⟩
  exact eq0
 ·rintro i ⟨jK,jM,hi⟩
  have jK:k+1<=i:=jK;have jM:i<=to:=jM;have hi:Q2p L q i.toNat=Q2p L q (k+1).toNat:=hi;rcases Int.lt_or_eq_of_le jM with jA|j6
  ·have ai:=QJ (l:=l) (i:=i) (by omega) (by have:=hn.eq;omega)
   have jI:=Qhy (l:=L) (q:=q) (i:=i) (by omega) (by have:=ko.eq;omega)
   rw[hi,hLa i (by omega) jA]at jI
   clear jB hi;with_reducible refine cv1 (Q0 l) ?_
   have jB:=Q15 hn;with_reducible repeat' first|refine aU (zA ai <| zA ak <| zA jB <| zA jA <| zA jK q7) ?_|refine zA ?_ ?_|intro hb
   ·have j7:l[i.toNat]?.getD 0=q:=by rw[hqk];simpa[std,ai,ak,AV.cells,intOf]using hb
    have vX:R=i+1:=by rw[hR,jI,if_pos j7,if_pos rfl];show(((i+1).toNat:Nat):Int)=_;omega
    with_reducible refine cv1 (Q0 l) ?_
    refine .pure rfl (.inl ?_);rw[vX];rfl
   ·have j7:¬l[i.toNat]?.getD 0=q:=by rw[hqk];simpa[std,ai,ak,AV.cells,intOf]using hb
    rw[if_neg j7]at jI;refine⟨i+1,⟨by omega,by omega,jI.symm⟩,by omega,[],_,rfl,?_⟩
    exact eq0
  ·have vo:Q2p L q i.toNat=(L.length,false):=by rw[Q2p,dif_neg (by have:=ko.eq;omega)]
   have vX:R=-1:=by rw[hR,<-hi,vo];rfl
   rw[j6];clear jB hi vo;with_reducible refine cv1 (Q0 l) ?_
   have jB:=Q15 hn;with_reducible repeat' first|refine aU jB ?_|refine zA ?_ ?_|intro hb
   ·rw[if_pos trivial]
    with_reducible refine cv1 (Q0 l) ?_
    refine .pure rfl (.inl ?_);rw[vX]
end
def QM(l:List Int)(k to:Int):List Int:=(l.take to.toNat).drop k.toNat
theorem QdK(L:List Int)(k:Nat)(bs:List UInt8):Q6 (L.drop k) 0 bs=Q6 L k bs:=by
 unfold Q6;rw[drop_zero]
theorem QiG(L:List Int)(k:Nat):Qj (L.drop k) 0=Qj L k:=by
 unfold Qj;rw[List.getElem?_drop,Nat.add_zero,drop_zero]
theorem Qlw(p:Int->Bool)(r:List Int):Q2X p r 0=(r.takeWhile p).length:=by
 rw[Q2X,if_neg (by omega)];rfl
theorem QdY(L:List Int)(q:Int):∀(n k:Nat),L.length-k<=n->Q2p L q k=match(L.drop k).findIdx? (· == q)with
  |some j=>(k+j+1,true)
  |none=>(L.length,false)
 |0,k,h=>by
  rw[Q3L L q k (by omega),drop_of_length_le (by omega)];rfl
 |n+1,k,h=>by
  by_cases hk:k<L.length
  ·rw[drop_eq_getElem_cons hk,List.findIdx?_cons]
   by_cases hq:L[k]=q
   ·rw[Q6C L q k hk hq,if_pos (by simpa using hq)]
   ·rw[Q5Q L q k hk hq,if_neg (by simpa using hq),QdY L q n (k+1) (by omega)]
    cases(L.drop (k+1)).findIdx? (· == q)with
    |none=>rfl
    |some j=>simp only[Option.map_some];congr 1;omega
  ·rw[Q3L L q k hk,drop_of_length_le (by omega)];rfl
structure Rng (l:List Int) (k to:Int):Prop where
 h0:0<=k
 h1:k<to
 h2:to<=l.length
section
variable {l:List Int}{k to:Int}
theorem Rng.len(h:Rng l k to):((QM l k to).length:Int)=to-k:=by
 have:=h.h0;have:=h.h1;have:=h.h2
 rw[QM,length_drop,length_take];omega
theorem Rng.ne(h:Rng l k to):QM l k to≠[]:=fun e=>by
 have h1:=h.len;have:=h.h1
 rw[e]at h1;simp at h1;omega
theorem Rng.at_(h:Rng l k to){i:Int}(i0:0<=i)(i1:k+i<to):(QM l k to).getD i.toNat 0=l[(k+i).toNat]?.getD 0:=by
 have:=h.h0
 rw[QM,getD_eq_getElem?_getD,List.getElem?_drop,List.getElem?_take,if_pos (by omega)]
 congr 2
 omega
theorem Rng.head(h:Rng l k to):(QM l k to).getD 0 0=l[k.toNat]?.getD 0:=by
 have:=h.at_ (i:=0) (le_refl _) (by have:=h.h1;omega)
 rw[Int.add_zero]at this;exact this
theorem Rng.val(h:Rng l k to)(hq:l[k.toNat]?.getD 0=34\/l[k.toNat]?.getD 0=39):(0<Q1E (QM l k to)/\QC (l.take to.toNat) k=k+Q1E (QM l k to))\/(Q1E (QM l k to)=0/\QC (l.take to.toNat) k=-1):=by
 have h0:=h.h0;have h1:=h.h1
 have hqd:Q1a (l.take to.toNat) k.toNat=Q2p (l.take to.toNat) (l[k.toNat]?.getD 0) (k.toNat+1):=by
  rw[Q1a,getD_eq_getElem?_getD,Q9v h0 h1]
 have hd:(QM l k to).drop 1=(l.take to.toNat).drop (k.toNat+1):=by rw[QM,List.drop_drop]
 rw[QC,hqd,QdY _ _ _ _ (Nat.le_refl _)];unfold Q1E;rw[h.head,if_pos hq,hd];cases((l.take to.toNat).drop (k.toNat+1)).findIdx? (· == l[k.toNat]?.getD 0)with
 |none=>exact .inr ⟨rfl,rfl⟩
 |some j =>
  refine .inl ⟨by show(0:Int)<(j:Int)+2;omega,?_⟩
  show((k.toNat+1+j+1:Nat):Int)=k+((j:Int)+2)
  omega
theorem Rng.noval(h:Rng l k to)(hq:¬(l[k.toNat]?.getD 0=34\/l[k.toNat]?.getD 0=39)):Q1E (QM l k to)=0:=by
 unfold Q1E;rw[h.head,if_neg hq]
def Q6F(l:List Int)(k to:Int):Prop:=(k+1=to/\l[k.toNat]?.getD 0=62)\/(k+2=to/\l[k.toNat]?.getD 0=47/\l[(k+1).toNat]?.getD 0=62)
theorem Rng.ends(h:Rng l k to):((((QM l k to).length:Int)=2/\Q6 (QM l k to) 0 [47,62]=true)\/(((QM l k to).length:Int)=1/\(QM l k to).getD 0 0=62))↔Q6F l k to:=by
 have hl:=h.len;unfold Q6F;rw[h.head];constructor
 ·rintro(⟨e1,e2⟩|⟨e1,e2⟩)
  ·have a0:=Q7b e2 (i:=0) (by decide)
   have a1:=Q7b e2 (i:=1) (by decide)
   have b0:=h.head;have b1:=h.at_ (i:=1) (by decide) (by omega)
   rw[getD_eq_getElem?_getD]at b0 b1;have a0:(QM l k to)[0]?=some 47:=a0;have a1:(QM l k to)[1]?=some 62:=a1;rw[a0]at b0;rw[show(1:Int).toNat=1 from rfl,a1]at b1;exact .inr ⟨by omega,b0.symm,b1.symm⟩
  ·exact .inl ⟨by omega,e2⟩
 ·rintro(⟨e1,e2⟩|⟨e1,e2,e3⟩)
  ·exact .inr ⟨by omega,e2⟩
  ·refine .inl ⟨by omega,?_⟩
   have b0:=h.head;have b1:=h.at_ (i:=1) (by decide) (by omega)
   rw[e2]at b0;rw[e3]at b1;generalize QM l k to=r at *;match r,hl with
   | [x,y],_ =>
    have b0:x=47:=b0;have b1:y=62:=b1;subst b0 b1;rfl
   | [],hl=>simp at hl;omega
   | [_],hl=>simp at hl;omega
   |_::_::_::_,hl=>simp at hl;omega
end
def Q19(l:List Int)(f k to:Int):Int×Int:=Qt (QM l k to) (decide (k=f))
section
open Tryz
def Q4P(l:List Int)(k to:Int):Int×Int :=
 if 0<(Q2X Qd (QM l k to) 0:Int)then(3,(Q2X Qd (QM l k to) 0:Int))
 else if 0<(Qj (QM l k to) 0:Int)then(2,(Qj (QM l k to) 0:Int))
 else if(QM l k to).getD 0 0=61 then(4,1)
 else if 0<Q1E (QM l k to)then(5,Q1E (QM l k to))
 else if(((QM l k to).length:Int)=2/\Q6 (QM l k to) 0 [47,62]=true)\/(((QM l k to).length:Int)=1/\(QM l k to).getD 0 0=62)then(6,((QM l k to).length:Int))
 else(7,1)
theorem Rng.part_tail{l:List Int}{f k to:Int}(h:Rng l k to)(hF:¬(k=f/\l[k.toNat]?.getD 0=60)):Q19 l f k to=Q4P l k to:=by
 have n2:¬(decide (k=f)=true/\(QM l k to).getD 0 0=60):=fun e=>hF ⟨of_decide_eq_true e.1,by rw[<-h.head];exact e.2⟩
 have n1:¬(decide (k=f)=true/\Q6 (QM l k to) 0 [60,47]=true):=fun e=>n2 ⟨e.1,by rw[getD_eq_getElem?_getD];exact Q4H e.2⟩
 rw[Q19,Qt,if_neg n1,if_neg n2];rfl
def spN(l:List Int)(i to:Int):Nat:=((QM l i to).takeWhile Qd).length
theorem Qfh{l:List Int}{i to:Int}(h:Rng l i to):QM l i to=l[i.toNat]?.getD 0::QM l (i+1) to:=by
 have h0:=h.h0;have h1:=h.h1;have h2:=h.h2;have hl:i.toNat<(l.take to.toNat).length:=by rw[length_take];omega
 have e:(l.take to.toNat)[i.toNat]=l[i.toNat]?.getD 0:=by
  rw[<-Q9v h0 h1,List.getElem?_eq_getElem hl];rfl
 rw[QM,QM,drop_eq_getElem_cons hl,e,show(i+1).toNat=i.toNat+1 by omega]
theorem Qjs{l:List Int}{i to:Int}(h:Rng l i to)(hs:Qd (l[i.toNat]?.getD 0)=true):spN l i to=spN l (i+1) to+1:=by
 rw[spN,Qfh h,takeWhile_cons,if_pos hs,length_cons];rfl
theorem Q2c{l:List Int}{i to:Int}(h0:0<=i)(hs:i<to->Rng l i to/\Qd (l[i.toNat]?.getD 0)=false):spN l i to=0:=by
 by_cases h1:i<to
 ·obtain⟨h,hs⟩:=hs h1
  rw[spN,Qfh h,takeWhile_cons,if_neg (by rw[hs];decide)];rfl
 ·rw[spN,QM,drop_of_length_le (by rw[length_take];omega)];rfl
theorem Qoa(l:List Int)(k to:Int):(Q2X Qd (QM l k to) 0:Int)=(spN l k to:Nat):=by rw[Qlw,spN]
theorem Qku(l:List Int)(k to:Int):Qj (QM l k to) 0=Qj (l.take to.toNat) k.toNat:=by rw[QM,QiG]
theorem Qk1(l:List Int){to:Int}(h0:0<=to):std.cut (Q0 l) 0 to=Q0 (l.take to.toNat):=by
 show((Q0 l).drop (0:Int).toNat).take (to-0).toNat=_
 rw[show(0:Int).toNat=0 from rfl,drop_zero,Int.sub_zero];simp[Q0,map_take]
theorem Qnm{l:List Int}(h:Un l)(n:Nat):Un (l.take n):=fun x hx=>h x (List.mem_of_mem_take hx)
def Q2W(st:Bool)(sp:Int->Bool)(m F:Int):Nat->List AV->List Ob->Option (AV×List Ob):=fun f args _=>match f,args with
 |151,[.slc 1 _,.val (.int .i64 _),.val (.string _)]=>some (.val (.bool st),[])
 |187,[.val (.int .i32 r)]=>some (.val (.bool (sp r)),[])
 |188,[.slc 1 _,.val (.int .i64 _)]=>some (.val (.int .i64 m),[])
 |189,[.slc 1 _,.val (.int .i64 _),.val (.int .i64 _)]=>some (.val (.int .i64 F),[])
 |_,_=>none
def Q1V(q:Int×Int)(k:Int):AV:=.agg [.val (.int .i64 q.1),.val (.int .i64 k),.val (.int .i64 (k+q.2))]
theorem QlL(L:List Int)(k:Nat):Qj L k<=L.length-k:=by
 unfold Qj;split
 ·omega
 ·split
  ·have:=(List.takeWhile_sublist Qq (l:=L.drop k)).length_le
   rw[length_drop]at this;omega
  ·omega
def spI(l:List Int)(i to:Int):Int:=(spN l i to:Nat)
theorem QoN(l:List Int)(i to:Int):0<=spI l i to:=Int.natCast_nonneg _
theorem QeE{l:List Int}{i to:Int}(h:Rng l i to)(hs:Qd (l[i.toNat]?.getD 0)=true):spI l i to=spI l (i+1) to+1:=by
 rw[spI,Qjs h hs,spI];rfl
theorem Qfm{l:List Int}{i to:Int}(h0:0<=i)(hs:i<to->Rng l i to/\Qd (l[i.toNat]?.getD 0)=false):spI l i to=0:=by
 rw[spI,Q2c h0 hs];rfl
theorem Q3f{l:List Int}(hl:l.length<=1000000000)(hu:Un l){k to:Int}(h:Rng l k to):∃(n:Int) (T:List AV),T=Q0 (l.take to.toNat)/\Len l n/\0<=k/\k<to/\to<=l.length/\((l.take to.toNat).length:Int)=to /\
  BCall prog 151 [.slc 1 T,.val (.int .i64 k),.val (.string ⟨#[60,47]⟩)] [] (.val (.bool (Q6 (l.take to.toNat) k.toNat (⟨#[60,47]⟩:ByteArray).data.toList))) [] /\
  BCall prog 188 [.slc 1 T,.val (.int .i64 k)] [] (.val (.int .i64 (Qj (l.take to.toNat) k.toNat))) []/\Qj (l.take to.toNat) k.toNat<=(l.take to.toNat).length-k.toNat /\
  BCall prog 189 [.slc 1 (Q0 l),.val (.int .i64 k),.val (.int .i64 to)] [] (.val (.int .i64 (QC (l.take to.toNat) k))) []/\std.cut (Q0 l) 0 to=T /\
  Q6 (QM l k to) 0 [60,47]=Q6 (l.take to.toNat) k.toNat [60,47]/\Qj (QM l k to) 0=Qj (l.take to.toNat) k.toNat/\(Q2X Qd (QM l k to) 0:Int)=(spN l k to:Nat)/\(QM l k to).getD 0 0=l[k.toNat]?.getD 0 /\
  (Q0 l)[k.toNat]?.getD .dead=.val (.int .i32 (l[k.toNat]?.getD 0))/\(Q0 l).length=l.length/\to<=n/\n<=1000000000:=by
 have h0:=h.h0;have h1:=h.h1;have h2:=h.h2;have q4:((l.take to.toNat).length:Int)=to:=by rw[length_take];omega
 exact⟨l.length,_,rfl,rfl,h0,h1,h2,q4,Qc (l.take to.toNat) (by omega) (Qnm hu _).i32 k h0 (by omega) ⟨#[60,47]⟩ (by decide),Q4G (l.take to.toNat) (by omega) k h0 (by omega),QlL _ _,Qie l hl k to h0 h1 h2,Qk1 l (to:=to) (by omega),by rw[QM,QdK],Qku l k to,Qoa l k to,h.head,QJ (l:=l) (i:=k) h0 (by omega),Qx l,h2,by omega⟩
theorem Q4y{l:List Int}{k:Int}(ak:(Q0 l)[k.toNat]?.getD .dead=.val (.int .i32 (l[k.toNat]?.getD 0))):BCall prog 187 [.val (.int .i32 (std.int (std.nth (std.cel (std.at_ (Q0 l) k)) 0)))] [] (.val (.bool (Qd (std.int (std.nth (std.cel (std.at_ (Q0 l) k)) 0))))) []:=Qag _
theorem Qbq(l:List Int)(hl:l.length<=1000000000)(hu:Un l)(f k to:Int)(h:Rng l k to)(gG:k=f)(jO:l[k.toNat]?.getD 0=60)(hs:Q6 (l.take to.toNat) k.toNat [60,47]=true):BCall prog 147 [.slc 1 (Q0 l),.val (.int .i64 f),.val (.int .i64 k),.val (.int .i64 to)] [] (Q1V (Q19 l f k to) k) []:=by
 obtain⟨n,T,jY,hn,h0,h1,h2,q4,cS,cL,jJ,cQ,cc,jI,qG,jo,qH,ak,jt,q7,qD⟩:=Q3f hl hu h;have hP:Q19 l f k to=(1,2):=by rw[Q19,decide_eq_true gG,Qt,if_pos ⟨rfl,by rw[jI];exact hs⟩]
 obtain⟨kd,jD⟩:=exq (1:Int);obtain⟨tt,jG⟩:=exq (k+2:Int);have jw:Q1V (Q19 l f k to) k=.agg [.val (.int .i64 kd),.val (.int .i64 k),.val (.int .i64 tt)]:=by rw[hP,jD,jG];rfl
 rw[jw];clear hP jw
 have cS:BCall prog 151 [.slc 1 T,.val (.int .i64 k),.val (.string ⟨#[60,47]⟩)] [] (.val (.bool true)) []:=by
  have e:Q6 (l.take to.toNat) k.toNat (⟨#[60,47]⟩:ByteArray).data.toList=true:=hs;rw[e]at cS;exact cS
 clear hs jI qG jo qH jJ cL cQ jY q4;subst gG;refine fnN (Q2W true Qd 0 0) func147 rfl fun _ _=>?_
 with_reducible refine cv2 (Q0 l) Qd ?_
 have jB:=Q15 hn;have cSp2:=Q4y ak;have cS2:BCall prog 151 [.slc 1 (std.cut (Q0 l) 0 to),.val (.int .i64 k),.val (.string ⟨#[60,47]⟩)] [] (.val (.bool true)) []:=by rw[cc];exact cS
 with_reducible repeat' first|refine aU (zA jB <| zA ak <| zA h0 <| zA h1 <| zA q7 jO) ?_|refine zA ?_ ?_|intro hb
 all_goals first
  |exact cS2
  |exact cSp2
  |exact .pure rfl ⟨.inl (by rw[jD]),.inl rfl,.inl (by first|(rw[jG];done)|(rw[jG];rfl)),trivial⟩
theorem QbL(l:List Int)(hl:l.length<=1000000000)(hu:Un l)(f k to:Int)(h:Rng l k to)(gG:k=f)(jO:l[k.toNat]?.getD 0=60)(hs:Q6 (l.take to.toNat) k.toNat [60,47]=false):BCall prog 147 [.slc 1 (Q0 l),.val (.int .i64 f),.val (.int .i64 k),.val (.int .i64 to)] [] (Q1V (Q19 l f k to) k) []:=by
 obtain⟨n,T,jY,hn,h0,h1,h2,q4,cS,cL,jJ,cQ,cc,jI,qG,jo,qH,ak,jt,q7,qD⟩:=Q3f hl hu h;have hP:Q19 l f k to=(1,1):=by rw[Q19,decide_eq_true gG,Qt,if_neg (fun e=>by rw[jI,hs]at e;cases e.2),if_pos ⟨rfl,by rw[qH];exact jO⟩]
 obtain⟨kd,jD⟩:=exq (1:Int);obtain⟨tt,jG⟩:=exq (k+1:Int);have jw:Q1V (Q19 l f k to) k=.agg [.val (.int .i64 kd),.val (.int .i64 k),.val (.int .i64 tt)]:=by rw[hP,jD,jG];rfl
 rw[jw];clear hP jw
 have cS:BCall prog 151 [.slc 1 T,.val (.int .i64 k),.val (.string ⟨#[60,47]⟩)] [] (.val (.bool false)) []:=by
  have e:Q6 (l.take to.toNat) k.toNat (⟨#[60,47]⟩:ByteArray).data.toList=false:=hs;rw[e]at cS;exact cS
 clear hs jI qG jo qH jJ cL cQ jY q4;subst gG;refine fnN (Q2W false Qd 0 0) func147 rfl fun _ _=>?_
 with_reducible refine cv2 (Q0 l) Qd ?_
 have jB:=Q15 hn;have cSp2:=Q4y ak;have cS2:BCall prog 151 [.slc 1 (std.cut (Q0 l) 0 to),.val (.int .i64 k),.val (.string ⟨#[60,47]⟩)] [] (.val (.bool false)) []:=by rw[cc];exact cS
 with_reducible repeat' first|refine aU (zA jB <| zA ak <| zA h0 <| zA h1 <| zA q7 jO) ?_|refine zA ?_ ?_|intro hb
 all_goals first
  |exact cS2
  |exact cSp2
  |exact .pure rfl ⟨.inl (by rw[jD]),.inl rfl,.inl (by first|(rw[jG];done)|(rw[jG];rfl)),trivial⟩
theorem Qf1(l:List Int)(hl:l.length<=1000000000)(hu:Un l)(f k to:Int)(h:Rng l k to)(jO:¬l[k.toNat]?.getD 0=60)(j9:Qd (l[k.toNat]?.getD 0)=true):BCall prog 147 [.slc 1 (Q0 l),.val (.int .i64 f),.val (.int .i64 k),.val (.int .i64 to)] [] (Q1V (Q19 l f k to) k) []:=by
 obtain⟨n,T,jY,hn,h0,h1,h2,q4,cS,cL,jJ,cQ,cc,jI,qG,jo,qH,ak,jt,q7,qD⟩:=Q3f hl hu h;have hF:¬(k=f/\l[k.toNat]?.getD 0=60):=fun e=>jO e.2
 obtain⟨s,hs⟩:=exq (spI l k to:Int)
 have hP:Q19 l f k to=(3,s):=by
  have e:=QeE h j9;have e2:=QoN l (k+1) to;rw[h.part_tail hF,Q4P,jo,show((spN l k to:Nat):Int)=s from hs.symm,if_pos (by omega)]
 obtain⟨kd,jD⟩:=exq (3:Int);obtain⟨tt,jG⟩:=exq (k+s:Int);have jw:Q1V (Q19 l f k to) k=.agg [.val (.int .i64 kd),.val (.int .i64 k),.val (.int .i64 tt)]:=by rw[hP,jD,jG];rfl
 rw[jw];clear hP jw;clear jI jo qH jJ cS cL cQ qG jY q4 hF;refine fnN (Q2W true Qd 0 0) func147 rfl fun _ _=>?_
 with_reducible refine cv2 (Q0 l) Qd ?_
 have jB:=Q15 hn;have cSp2:=Q4y ak;with_reducible repeat' first|refine aU (zA jB <| zA ak <| zA h0 <| zA h1 <| zA q7 <| zA j9 jO) ?_|refine zA ?_ ?_|intro hb
 all_goals first
  |exact cSp2
  |skip
 all_goals
  refine Q1h (Q2W true Qd 0 0) (Int) (fun i=>⟨[(0,.slc 1 (Q0 l)),(1,.val (.int .i64 f)),(2,.val (.int .i64 k)),(3,.val (.int .i64 to)),(8,.box 0 0),(9,.val (.int .i64 i))],[.box [.val (.int .i64 0),.val (.int .i64 0),.val (.int .i64 0)]]⟩) (fun i=>k<=i/\i<=to/\spI l i to+(i-k)=s) (fun i=>(to-i).toNat) k ?_ ?_ ?_
  ·exact⟨le_refl _,by omega,by rw[hs];omega⟩
  ·refine⟨[some 0],_,rfl,?_⟩
   exact eq0
  ·rintro i ⟨jK,jM,hi⟩
   have jK:k<=i:=jK;have jM:i<=to:=jM;have hi:spI l i to+(i-k)=s:=hi;rcases Int.lt_or_eq_of_le jM with jA|j6
   ·have hR:Rng l i to:=⟨by omega,jA,h2⟩
    have ai:=QJ (l:=l) (i:=i) (by omega) (by omega)
    have cSi:=Qag (l[i.toNat]?.getD 0);have e9i:(Q0 l).getD i.toNat .dead=.val (.int .i32 (l[i.toNat]?.getD 0)):=by rw[getD_eq_getElem?_getD];exact ai
    have eIi:std.int (std.nth (std.cel (std.at_ (Q0 l) i)) 0)=l[i.toNat]?.getD 0:=by
     show intOf ((AV.cells ((Q0 l).getD i.toNat .dead)).getD 0 .dead)=_;rw[e9i];rfl
    have cSi2:BCall prog 187 [.val (.int .i32 (std.int (std.nth (std.cel (std.at_ (Q0 l) i)) 0)))] [] (.val (.bool (Qd (std.int (std.nth (std.cel (std.at_ (Q0 l) i)) 0))))) []:=by rw[eIi];exact cSi
    cases hsi:Qd (l[i.toNat]?.getD 0)with
    |true =>
     have jI:=QeE hR hsi;have jH:spI l (i+1) to+(i+1-k)=s:=by omega
     clear jI hi hs jB;with_reducible refine cv2 (Q0 l) Qd ?_
     have jB:=Q15 hn;with_reducible repeat' first|refine aU (zA jB <| zA ai <| zA h0 <| zA jK <| zA jA <| zA q7 hsi) ?_|refine zA ?_ ?_|intro hb
     all_goals first
      |exact cSi2
      |skip
     refine⟨i+1,⟨by omega,by omega,jH⟩,by omega,[some 0],_,rfl,?_⟩
     exact eq0
    |false =>
     have jI:=Qfm (l:=l) (i:=i) (to:=to) (by omega) (fun _=>⟨hR,hsi⟩)
     have xk:tt=i:=by rw[jG];omega
     clear jI hi hs jB;with_reducible refine cv2 (Q0 l) Qd ?_
     have jB:=Q15 hn;with_reducible repeat' first|refine aU (zA jB <| zA ai <| zA h0 <| zA jK <| zA jA <| zA q7 hsi) ?_|refine zA ?_ ?_|intro hb
     all_goals first
      |exact cSi2
      |skip
     rw[if_pos trivial];with_reducible refine cv1 (Q0 l) ?_
     exact .pure rfl ⟨.inl (by rw[jD]),.inl rfl,.inl (by rw[xk]),trivial⟩
   ·have jI:=Qfm (l:=l) (i:=i) (to:=to) (by omega) (fun h9=>absurd h9 (by omega))
    have xk:tt=i:=by rw[jG];omega
    clear jI hi hs jB;have jA:¬i<to:=by omega
    with_reducible refine cv2 (Q0 l) Qd ?_
    have jB:=Q15 hn;with_reducible repeat' first|refine aU (zA jB <| zA h0 <| zA jK <| zA jA q7) ?_|refine zA ?_ ?_|intro hb
    rw[if_pos trivial];with_reducible refine cv1 (Q0 l) ?_
    exact .pure rfl ⟨.inl (by rw[jD]),.inl rfl,.inl (by rw[xk]),trivial⟩
theorem QiO(l:List Int)(hl:l.length<=1000000000)(hu:Un l)(f k to:Int)(h:Rng l k to)(jO:¬l[k.toNat]?.getD 0=60)(j9:Qd (l[k.toNat]?.getD 0)=false)(jF:Qj (l.take to.toNat) k.toNat=0)(jx:¬l[k.toNat]?.getD 0=61)(qT:¬(l[k.toNat]?.getD 0=34\/l[k.toNat]?.getD 0=39))(j4:¬l[k.toNat]?.getD 0=62)(vM:¬l[k.toNat]?.getD 0=47):BCall prog 147 [.slc 1 (Q0 l),.val (.int .i64 f),.val (.int .i64 k),.val (.int .i64 to)] [] (Q1V (Q19 l f k to) k) []:=by
 obtain⟨n,T,jY,hn,h0,h1,h2,q4,cS,cL,jJ,cQ,cc,jI,qG,jo,qH,ak,jt,q7,qD⟩:=Q3f hl hu h;have hF:¬(k=f/\l[k.toNat]?.getD 0=60):=fun e=>jO e.2
 have jZ:spN l k to=0:=Q2c h0 (fun _=>⟨h,j9⟩)
 have n3:¬(0<(Q2X Qd (QM l k to) 0:Int)):=by rw[jo,jZ];decide
 obtain⟨m,hm⟩:=exq ((Qj (l.take to.toNat) k.toNat:Nat):Int);have qA:0<=m:=by omega
 have vg:k+m<=to:=by omega
 rw[<-hm]at cL;have n4:¬(0<(Qj (QM l k to) 0:Int)):=by rw[qG,jF];decide
 have vz:m=0:=by rw[hm,jF];rfl
 have vH:¬0<m:=by omega
 have n5:¬((QM l k to).getD 0 0=61):=by rw[qH];exact jx
 obtain⟨F,q9⟩:=exq (QC (l.take to.toNat) k:Int);rw[<-q9]at cQ;have n6:¬(0<Q1E (QM l k to)):=by rw[h.noval qT];decide
 have q34:¬l[k.toNat]?.getD 0=34:=fun e=>qT (.inl e)
 have q39:¬l[k.toNat]?.getD 0=39:=fun e=>qT (.inr e)
 have hE:¬Q6F l k to:=by
  rintro(⟨_,e⟩|⟨_,e,_⟩)
  ·exact j4 e
  ·exact vM e
 have hP:Q19 l f k to=(7,1):=by rw[h.part_tail hF,Q4P,if_neg n3,if_neg n4,if_neg n5,if_neg n6,if_neg (fun e=>hE (h.ends.1 e))]
 obtain⟨kd,jD⟩:=exq (7:Int);obtain⟨tt,jG⟩:=exq (k+1:Int);have jw:Q1V (Q19 l f k to) k=.agg [.val (.int .i64 kd),.val (.int .i64 k),.val (.int .i64 tt)]:=by rw[hP,jD,jG];rfl
 rw[jw];clear hP jw;clear jI jo qH jJ cS jY q4 hF qG n3 n4 n5 n6 hm jF jZ vz q9 hE;refine fnN (Q2W true Qd m F) func147 rfl fun _ _=>?_
 with_reducible refine cv2 (Q0 l) Qd ?_
 have jB:=Q15 hn;have cSp2:=Q4y ak;have cL2:BCall prog 188 [.slc 1 (std.cut (Q0 l) 0 to),.val (.int .i64 k)] [] (.val (.int .i64 m)) []:=by rw[cc];exact cL
 with_reducible repeat' first|refine aU (zA jB <| zA ak <| zA h0 <| zA h1 <| zA q7 <| zA jO <| zA j9 <| zA vH <| zA vg <| zA jx <| zA q34 <| zA q39 <| zA j4 vM) ?_|refine zA ?_ ?_|intro hb
 all_goals first
  |exact cSp2
  |exact cL2
  |exact cQ
  |exact .pure rfl ⟨.inl (by rw[jD]),.inl rfl,.inl (by first|(rw[jG];done)|(rw[jG];rfl)),trivial⟩
theorem QiJ(b:List UInt8)(hb:b.length<=100000000):BCall prog 51 [.slc 1 (Q2 b)] [] (.slc 3 (QP (Q4w b))) []:=by
 refine BCall.hand (enters_of func51 (by kernel_rfl) rfl) fun w g vs M hL=>?_
 obtain⟨v1,vs1,rfl,h1,hL⟩:=Q13 hL;obtain rfl:=Q2A hL;obtain⟨A,c,rfl,hr⟩:=Qef h1 M;refine(Qau _ A _ c b w hr (by omega)).mono fun e w' ⟨v,h,⟨n',ho⟩,zQ⟩=>⟨v,h,zQ,?_⟩
 have hn:n'=(QP (Q4w b)).length:=by
  have:=ho.1
  rw[Q2j]at this;rw[Q3m,Q4w,List.length_map];omega
 refine QhA (A':=(g.imm w w').A) ho (by decide) ?_ hn (fun x hx=>?_) (fun b o h1 h2=>.inr ⟨h1,h2⟩)
 ·rw[Q4w,QaV]
  refine Qb8 fun u hu=>?_
  obtain⟨x,_,hx⟩:=List.mem_flatMap.1 hu;simp only[List.mem_cons,List.not_mem_nil,or_false]at hx;rcases hx with rfl|rfl|rfl<;>rfl
 ·obtain⟨y,_,rfl⟩:=List.mem_map.1 hx
  rfl
def QmN(f8:List AV)(fw:Bool->List AV):Nat->List AV->List Ob->Option (AV×List Ob):=fun f args _=>match f,args with
 |51,[.slc 1 _]=>some (.slc 3 f8,[])
 |52,[.slc 1 _,.val (.bool b)]=>some (.slc 3 (fw b),[])
 |_,_=>none
theorem Qiv(kind:Int)(b:List UInt8)(hb:b.length<=100000000)(hk:kind=0\/kind=1\/kind=2):BCall prog 18 [.slc 1 (Q2 b),.val (.int .i64 kind)] [] (.slc 3 (QP (Q4B kind b))) []:=by
 have c8:=QiJ b hb;obtain⟨fw,xR⟩:=exq (fun big=>QP (Q1x big 0 b))
 have cw:∀big,BCall prog 52 [.slc 1 (Q2 b),.val (.bool big)] [] (.slc 3 (fw big)) []:=fun big=>by rw[xR];exact QhN big b (by omega)
 obtain⟨f8,pC⟩:=exq (QP (Q4w b));rw[<-pC]at c8;obtain⟨R,hR⟩:=exq (QP (Q4B kind b));rw[<-hR]
 have vX:R=if kind=0 then f8 else fw (decide (kind=1)):=by
  rw[hR,Q4B,pC,xR];rcases hk with h|h|h
  ·rw[if_pos h,if_pos h]
  ·rw[if_neg (by omega),if_pos h,if_neg (by omega),decide_eq_true h]
  ·rw[if_neg (by omega),if_neg (by omega),if_pos h,if_neg (by omega),decide_eq_false (by omega)]
 clear hR xR pC;by_cases h0:kind=0
 ·rw[if_pos h0]at vX
  rw[vX];clear vX;refine fnN (QmN f8 fw) func18 rfl fun _ _=>?_
  with_reducible refine cv1 (Q2 b) ?_
  with_reducible repeat' first|refine aU h0 ?_|refine zA ?_ ?_|intro hb
  all_goals first
   |exact c8
   |exact .pure rfl (.inl rfl)
 ·rw[if_neg h0]at vX
  rw[vX];clear vX;refine fnN (QmN f8 fw) func18 rfl fun _ _=>?_
  with_reducible refine cv1 (Q2 b) ?_
  with_reducible repeat' first|refine aU h0 ?_|refine zA ?_ ?_|intro hb
  all_goals first
   |exact cw _
   |(refine .pure rfl (.inl ?_);rfl)
def Qcs(k bom:Int)(pc:List AV):Nat->List AV->List Ob->Option (AV×List Ob):=fun f args _=>match f,args with
 |91,_=>some (.tup [.val (.int .i64 k),.val (.int .i64 bom)],[])
 |18,[.slc 1 _,.val (.int .i64 _)]=>some (.slc 3 pc,[])
 |_,_=>none
theorem Qc6(b:List UInt8)(hb:b.length<=1000000)(jp:(Q2V b).length<=1000000)(qQ:∀x∈Q2V b,0<=x.off/\x.off<=1000000) :
  BCall prog 45 [.slc 1 (Q2 b)] [] (.agg (Qb b).cs) []:=by
 have yV:=Q4h b;have cK:=Qj1 b;have yJ:=Q54 b;obtain⟨k,hk⟩:=exq ((QX b).1);obtain⟨bom,vt⟩:=exq ((QX b).2);obtain⟨ps,yW⟩:=exq (Q2V b);have hT:Qb b=⟨k,bom,ps.map Itm.r,ps.map (fun x=>x.off+bom)++[(b.length:Int)]⟩:=by rw[hk,vt,yW];rfl
 have nw:ps=Q4B k (b.drop bom.toNat):=by rw[hk,vt,yW];rfl
 rw[hT];rw[<-yW]at jp qQ;rw[<-hk,<-vt]at cK;rw[<-vt]at yV;rw[<-hk]at yJ;clear hT hk vt yW
 have jS:std.cut (Q2 b) bom (std.len (Q2 b))=Q2 (b.drop bom.toNat):=by
  show((Q2 b).drop bom.toNat).take ((Q2 b).length-bom:Int).toNat=_
  rw[Q2,Q2,List.map_drop,List.take_of_length_le (by simp;omega)]
 have cP:BCall prog 18 [.slc 1 (std.cut (Q2 b) bom (std.len (Q2 b))),.val (.int .i64 k)] [] (.slc 3 (QP ps)) []:=by
  rw[jS,nw];exact Qiv k _ (by rw[length_drop];omega) yJ
 obtain⟨nb,vu⟩:=QE b;obtain⟨n,hn⟩:=QE ps;have pq:bom<=nb:=by rw[vu.eq];exact yV.2
 have pP:=yV.1;clear yV;refine fnN (Qcs k bom (QP ps)) func45 rfl fun _ _=>?_
 with_reducible refine cv2 (Q2 b) (QP ps) ?_
 have enb:=vu.eq;have en:=hn.eq;have jW:=Q11 b;refine⟨cK,?_,cP,?_⟩
 ·simp only[std,jW];omega
 have qB:std.len (QP ps)=n:=by simp only[std,Q3m];omega
 refine Q1h (Qcs k bom (QP ps)) (Int) (fun i=>⟨[(0,.slc 1 (Q2 b)),(2,.box 0 0),(4,.val (.int .i64 bom)),(5,.box 1 0),(20,.slc 3 (QP ps)),(21,.val (.int .i64 n)),(22,.val (.int .i64 i))],[.box [.val (.int .i64 0),.val (.int .i64 0),.val (.slice none 0 0),.val (.slice none 0 0)],.box [.val (.int .i64 k),.val (.int .i64 bom),.row 2 0,.row 3 0],.row 21 1 false 0 (Q0 ((ps.take i.toNat).map Itm.r)),.row 3 1 false 0 (Q9 ((ps.take i.toNat).map fun x=>x.off+bom))]⟩) (fun i=>0<=i/\i<=n) (fun i=>(n-i).toNat) 0 ?_ ?_ ?_
 ·omega
 ·refine⟨[some 0,some 1,none,none],_,rfl,?_⟩
  simp only[Int.toNat_zero,List.take_zero,List.map_nil]
  repeat first
   |exact trivial
   |refine⟨gI qB,?_⟩
   |refine⟨rfl,?_⟩
 ·rintro i ⟨jK,jM⟩
  have j1:=Q3m ps;rcases Int.lt_or_eq_of_le jM with jA|j6
  ·have jV:(QP ps)[i.toNat]?.getD .dead=(ps[i.toNat]?.getD ⟨0,0,0⟩).av:=QdT Itm.av jK (by omega) ⟨0,0,0⟩
   have vB:i.toNat<ps.length:=by omega
   have hx:=qQ (ps[i.toNat]?.getD ⟨0,0,0⟩) (by simp[vB])
   have ht:ps.take (i+1).toNat=ps.take i.toNat++[ps[i.toNat]?.getD ⟨0,0,0⟩]:=by
    rw[show(i+1).toNat=i.toNat+1 by omega,List.take_add_one]
    simp[vB]
   have yp:Q0 ((ps.take (i+1).toNat).map Itm.r)=Q0 ((ps.take i.toNat).map Itm.r)++[.val (.int .i32 (ps[i.toNat]?.getD ⟨0,0,0⟩).r)]:=by
    rw[ht,List.map_append,Q95];rfl
   have vF:Q9 ((ps.take (i+1).toNat).map fun x=>x.off+bom)=Q9 ((ps.take i.toNat).map fun x=>x.off+bom)++[.val (.int .i64 (bom+(ps[i.toNat]?.getD ⟨0,0,0⟩).off))]:=by
    rw[ht,List.map_append,Q4T,Int.add_comm bom];rfl
   have yi:(Q0 ((ps.take i.toNat).map Itm.r)).length<=1000000:=by simp[Q0];omega
   have z6:(Q9 ((ps.take i.toNat).map fun x=>x.off+bom)).length<=1000000:=by simp[Q9];omega
   obtain⟨x,hxE⟩:=exq (ps[i.toNat]?.getD ⟨0,0,0⟩);rw[<-hxE]at jV hx yp vF;obtain⟨R,hR⟩:=exq (Q0 ((ps.take i.toNat).map Itm.r));obtain⟨O,hO⟩:=exq (Q9 ((ps.take i.toNat).map fun x=>x.off+bom))
   rw[<-hR]at yp yi ⊢;rw[<-hO]at vF z6 ⊢;clear en enb ht;with_reducible refine cv2 (Q2 b) (QP ps) ?_
   have en:=hn.eq;have enb:=vu.eq
   repeat' first
    |(with_reducible refine And.intro (fun hx=>absurd hx (by first|(try simp[std,S1,jV,Itm.av,j1,jA,jK])<;>omega|omega)) (fun _=>?_))
    |(with_reducible refine And.intro (fun _=>?_) (fun hx=>absurd hx (by first|(try simp[std,S1,jV,Itm.av,j1,jA,jK])<;>omega|omega)))
    |(with_reducible refine And.intro (by first|(try simp[std,S1,jV,Itm.av,j1,jA,jK])<;>omega|omega) ?_)
    |(with_reducible refine zA ?_ ?_)
    |(with_reducible intro hb)
   exact⟨i+1,⟨by omega,by omega⟩,by omega,[some 0,some 1,some 2,some 3],_,rfl,by simp[-map_take,Qe,lk,std,jV,j1,Itm.av,AV.cells,intOf,yp,vF]⟩
  ·have ht:ps.take i.toNat=ps:=List.take_of_length_le (by omega)
   rw[ht];have z6:(Q9 (ps.map fun x=>x.off+bom)).length<=1000000:=by simp[Q9];omega
   have hf:Q9 (ps.map (fun x=>x.off+bom)++[(b.length:Int)])=Q9 (ps.map fun x=>x.off+bom)++[.val (.int .i64 nb)]:=by
    rw[Q4T,vu.eq];rfl
   have xS:std.len (Q2 b)=nb:=by rw[enb];simp only[std,jW]
   obtain⟨R,hR⟩:=exq (Q0 (ps.map Itm.r));obtain⟨O,hO⟩:=exq (Q9 (ps.map fun x=>x.off+bom))
   rw[<-hO]at z6 hf
   have hcs:(Txt.mk k bom (ps.map Itm.r) (ps.map (fun x=>x.off+bom)++[(b.length:Int)])).cs=[.val (.int .i64 k),.val (.int .i64 bom),.slc 1 R,.slc 1 (O++[.val (.int .i64 nb)])]:=by
    rw[Txt.cs,hf,hR]
   rw[hcs,<-hR,<-hO];clear en enb ht hcs;with_reducible refine cv2 (Q2 b) (QP ps) ?_
   with_reducible repeat' first|refine aU j6 ?_|refine zA ?_ ?_|intro hb
   rw[if_pos trivial];with_reducible refine cv2 (Q2 b) (QP ps) ?_
   refine⟨?_,.pure rfl ?_⟩
   ·simp[std];omega
   ·refine⟨.inl rfl,.inl rfl,.inl rfl,.inl ?_,trivial⟩
    show AV.slc 1 (std.app O [.val (.int .i64 (std.len (Q2 b)))])=_;rw[xS];rfl
end
def Qr5(l:List Node):List Int->Int
 | []=>0
 |x::r=>(if QqN l x=true then 1 else 0)+Qr5 l r
def QrD(l:List Node):Cur->List Int->Option (List Int×Int×Int)
 |.root _,_=>none
 |.kid _ _ k u,o=>if Q1f l u.n=21 then QrD l u (o++[Qr5 l ((Qg l u).take k.toNat)])else some (o.reverse,Qr5 l ((Qg l u).take k.toNat),u.n)
def Qra:Cur->List Int
 |.root _=>[]
 |.kid _ _ k u=>Qra u++[k]
def Qrr(l:List Node)(rt:Int)(c:Cur)(p:List Int):Bool:=match QqO l (QqQ l (.root rt) 0) p with
 |none=>false
 |some d=>d.n == c.n&&decide (Qra d=Qra c)
def ofO(l:List Node)(rt:Int)(c:Cur):List Int×Bool :=
 if QqN l c.n=true then(match QrD l c []with
  |none=>([],false)
  |some (o,n,u)=>(o,decide (n=0)&&(decide (u=rt)&&Qrr l rt c o)))
 else([],false)
theorem Qsh{l:List Node}:∀(ks:List Int)(n i k:Int),QqT l ks n i=some k->Qr5 l (ks.take (k-i).toNat)=n
 | [],_,_,_,h=>by cases h
 |x::r,n,i,k,h=>by
  have hr:=QqW _ _ _ _ h;rw[QqT]at h;by_cases hx:QqN l x=true
  ·rw[if_pos hx]at h
   by_cases hn:n=0
   ·rw[if_pos hn]at h
    obtain rfl:i=k:=by simpa using h
    rw[Int.sub_self,hn];rfl
   ·rw[if_neg hn]at h
    have h2:=QqW _ _ _ _ h;have ih:=Qsh r (n-1) (i+1) k h;rw[show(k-i).toNat=(k-(i+1)).toNat+1 by omega,List.take_succ_cons,Qr5,if_pos hx,ih];omega
  ·rw[if_neg hx]at h
   have h2:=QqW _ _ _ _ h;have ih:=Qsh r n (i+1) k h;rw[show(k-i).toNat=(k-(i+1)).toNat+1 by omega,List.take_succ_cons,Qr5,if_neg hx,ih];omega
theorem Qrn{l:List Node}{c0 c1:Cur}{x:Int}(h:QqQ l c0 x=some c1):∃k:Int,0<=k/\k<(Qg l c0).length/\c1=Q34 l c0 k/\Qr5 l ((Qg l c0).take k.toNat)=x/\QqN l c1.n=true:=by
 obtain⟨k,h1,rfl⟩:=Option.map_eq_some_iff.1 h;obtain⟨h2,h3,h4⟩:=QqW _ _ _ _ h1;have h5:=Qsh _ _ _ _ h1;rw[Int.sub_zero]at h4 h5;exact⟨k,h2,by omega,rfl,h5,h4⟩
theorem Qu4{l:List Node}(qg:∀n,Q1f l n=9->(Qn l n).kids=[]){c:Cur}(he:QqN l c.n=true){k:Int}(h0:0<=k)(h1:k<(Qg l c).length):Q1f l c.n=21:=by
 have h2:Q1f l c.n=21\/Q1f l c.n=9:=by simpa[QqN]using he
 rcases h2 with h2|h2
 ·exact h2
 ·have:Qg l c=[]:=qg _ h2
  rw[this]at h1;have:k<0:=h1
  omega
theorem Qud{l:List Node}(qg:∀n,Q1f l n=9->(Qn l n).kids=[]):∀(ls:List Int)(c0 c:Cur),QqN l c0.n=true->QqO l (some c0) ls=some c->QqN l c.n=true/\∀o,QrD l c o=QrD l c0 (o++ls.reverse)
 | [],c0,c,he,h=>by
  obtain rfl:c0=c:=by simpa[QqO]using h
  exact⟨he,fun o=>by simp⟩
 |x::r,c0,c,he,h=>by
  rw[QqO]at h;split at h
  ·cases h
  ·cases hs:QqQ l c0 x with
   |none=>rw[hs,QqU]at h;cases h
   |some c1 =>
    rw[hs]at h;obtain⟨k,k0,k1,rfl,hc,he1⟩:=Qrn hs;obtain⟨h1,h2⟩:=Qud qg r _ c he1 h;refine⟨h1,fun o=>?_⟩
    rw[h2];show(if Q1f l c0.n=21 then QrD l c0 (o++r.reverse++[Qr5 l ((Qg l c0).take k.toNat)])else _)=_
    rw[if_pos (Qu4 qg he k0 k1),hc,List.reverse_cons,List.append_assoc]
theorem Qu6{l:List Node}(qg:∀n,Q1f l n=9->(Qn l n).kids=[]){rt:Int}(yI:Q1f l rt≠21){ls:List Int}{c:Cur}(h:QqO l (QqQ l (.root rt) 0) ls=some c):QqN l c.n=true/\ofO l rt c=(ls,true):=by
 cases hs:QqQ l (.root rt) 0 with
 |none=>rw[hs,QqU]at h;cases h
 |some c0 =>
  have h':=h;rw[hs]at h';obtain⟨k,k0,k1,e1,hc,he1⟩:=Qrn hs;obtain⟨h1,h2⟩:=Qud qg ls c0 c he1 h'
  have e2:QrD l c0 (([]:List Int)++ls.reverse)=some (ls,0,rt):=by
   rw[e1];show(if Q1f l rt=21 then _ else some ((([]:List Int)++ls.reverse).reverse,Qr5 l ((Qg l (.root rt)).take k.toNat),rt))=_
   rw[if_neg yI,hc];simp
  refine⟨h1,?_⟩;rw[ofO,if_pos h1,h2,e2];show(ls,(true&&(decide (rt=rt)&&Qrr l rt c ls)))=_
  rw[Qrr,h];simp
def QuK(l:List Node)(rt:Int):Prop:=∀n:Int,n≠rt->(Qn l n).kids≠[]->Q1f l n=21
def hd0:List Int->List (List Int)
 |0::s=>[s]
 |_=>[]
def ElS(l:List Node)(n:Int):Prop:=Q1f l n=21->∃k0 r kl,(Qn l n).kids=k0::(r++[kl])/\Q1f l k0=8/\(Q1f l kl=22\/Q1f l kl=10)
def StS(l:List Node)(y:Opn):Prop:=∃k0 r,y.kids=k0::r/\Q1f l k0=8
theorem StS.old{l:List Node}{y:Opn}(hr:InR l y.kids)(hs:StS l y)(x:Node):StS (l++[x]) y:=by
 obtain⟨k0,r,hk,h8⟩:=hs;have:=hr k0 (by rw[hk];simp)
 exact⟨k0,r,hk,by rw[Qqd this.1 this.2];exact h8⟩
theorem Qrz{l:List Node}(h:Wf l)(he:∀n:Int,0<=n->n<l.length->ElS l n){x:Node}(hx:ElS (l++[x]) l.length):∀n:Int,0<=n->n<(l++[x]).length->ElS (l++[x]) n:=fun n h0 h1=>by
 simp only[List.length_append,List.length_singleton]at h1;by_cases h2:n<l.length
 ·intro hk
  rw[Qqd h0 h2]at hk;obtain⟨k0,r,kl,e1,e2,e3⟩:=he n h0 h2 hk;have hr:∀k∈(Qn l n).kids,0<=k/\k<l.length:=fun k hk=>by have:=h n h0 h2 k hk;omega
  have q1:=hr k0 (by rw[e1];simp)
  have q2:=hr kl (by rw[e1];simp)
  rw[Q43 h0 h2];exact⟨k0,r,kl,e1,by rw[Qqd q1.1 q1.2];exact e2,by rw[Qqd q2.1 q2.2];exact e3⟩
 ·obtain rfl:n=l.length:=by omega
  exact hx
theorem QrI{l:List Node}{x:Node}(hk:x.kind≠21):ElS (l++[x]) l.length:=fun h=>by
 rw[Qfc]at h;exact absurd h hk
structure ShM (m:Mk):Prop where
 el:∀n:Int,0<=n->n<m.n.length->ElS m.n n
 st:∀y∈m.s.drop 1,StS m.n y
section
variable {m:Mk}{X:List UInt8}{B D:Nat}
theorem ShM.wrong(h:ShM m)(t:Txt)(d f u:Int):ShM (QV t d f u m):=⟨h.el,h.st⟩
theorem ShM.leaf(h:MkInv m X B D)(hc:ShM m){kind:Int}(hk:kind≠21)(bs:List UInt8):ShM (Q3g m.n.length (Q20 (QI kind bs) m)):=by
 obtain⟨s0,q8⟩:=Q2r h.s1;generalize QZ m.s=y at q8;have hr:=h.rng;have jI:=hc.st;rw[q8]at hr jI;refine⟨Qrz h.ar.wf hc.el (QrI hk),?_⟩;show ∀z∈(Q2k m.n.length m.s).drop 1,StS (m.n++[QI kind bs]) z;rw[q8,Q2D];intro z hz;rcases Qqa.1 hz with hz|⟨jQ,rfl⟩
 ·exact(jI z (Qqa.2 (.inl hz))).old (hr z (mem_append_left _ (List.mem_of_mem_drop hz))) _
 ·obtain⟨k0,r,e1,e2⟩:=(jI y (Qqa.2 (.inr ⟨jQ,rfl⟩))).old (hr y (by simp)) (QI kind bs)
  exact⟨k0,r++[(m.n.length:Int)],by show y.kids++_=_;rw[e1];rfl,e2⟩
theorem ShM.push(h:MkInv m X B D)(hc:ShM m)(bs:List UInt8)(nm:List Int):ShM (Q3g m.n.length (Q20 (QI 8 bs) { m with s:=m.s++[⟨nm,[]⟩] })):=by
 refine⟨Qrz h.ar.wf hc.el (QrI (by show(8:Int)≠21;decide)),?_⟩
 show ∀z∈(Q2k m.n.length (m.s++[⟨nm,[]⟩])).drop 1,StS (m.n++[QI 8 bs]) z;rw[Q2D];intro z hz;rcases Qqa.1 hz with hz|⟨jQ,rfl⟩
 ·exact(hc.st z hz).old (h.rng z (List.mem_of_mem_drop hz)) _
 ·exact⟨m.n.length,[],rfl,Qfc⟩
theorem ShM.shut(h:MkInv m X B D)(hc:ShM m)(hs:2<=m.s.length){kind:Int}(bs:List UInt8)(hk:kind=22\/kind=10):ShM (Q22 m.n.length (Q20 (QI kind bs) m)):=by
 obtain⟨s0,y,jL⟩:=QhW hs;generalize QZ m.s=x at jL;obtain⟨en,es⟩:=QmK jL kind bs;obtain⟨qw,_⟩:=Q4A h.ar kind bs;have hr:=h.rng;have jI:=hc.st;rw[jL]at hr jI;have vj:∀z∈s0,InR m.n z.kids:=fun z hz=>hr z (mem_append_left _ (mem_append_left _ hz))
 have ya:InR m.n y.kids:=hr y (mem_append_left _ (by simp))
 have g8:InR m.n x.kids:=hr x (by simp)
 obtain⟨k0,r,e1,e2⟩:=(jI x (Qqa.2 (.inr ⟨by simp,rfl⟩))).old g8 (QI kind bs)
 have nP:=Qrz h.ar.wf hc.el (x:=QI kind bs) (QrI (by show kind≠21;omega))
 have nQ:Q1f (m.n++[QI kind bs]) m.n.length=kind:=Qfc;have qO:0<=k0/\k0<m.n.length:=g8 k0 (by rw[e1];simp)
 obtain⟨l1,hl⟩:=exq (m.n++[QI kind bs]);have yi:(l1.length:Int)=m.n.length+1:=by rw[hl];simp
 rw[<-hl]at qw e2 nP en es nQ;obtain⟨z,hz⟩:=exq (Q1i l1 21 (x.kids++[(m.n.length:Int)]));rw[<-hz]at en;have hzk:z.kids=x.kids++[(m.n.length:Int)]:=by rw[hz];rfl
 refine⟨?_,?_⟩
 ·rw[en]
  refine Qrz qw.wf nP (fun _=>⟨k0,r,m.n.length,?_,?_,?_⟩)
  ·rw[Q36,hzk,e1];rfl
  ·rw[Qqd qO.1 (by omega)];exact e2
  ·rw[Qqd (by omega) (by omega),nQ];exact hk
 ·rw[en,es]
  intro q hq;rcases Qqa.1 hq with hq|⟨jQ,rfl⟩
  ·have hqr:=vj q (List.mem_of_mem_drop hq)
   have vo:=(jI q (Qqa.2 (.inl (Qqa.2 (.inl hq))))).old hqr (QI kind bs);rw[<-hl]at vo;exact vo.old (by rw[hl];exact hqr.more _) z
  ·have vo:=(jI y (Qqa.2 (.inl (Qqa.2 (.inr ⟨jQ,rfl⟩))))).old ya (QI kind bs)
   rw[<-hl]at vo;obtain⟨q0,qr,f1,f2⟩:=vo.old (by rw[hl];exact ya.more _) z
   exact⟨q0,qr++[(l1.length:Int)],by show y.kids++_=_;rw[f1];rfl,f2⟩
end
theorem ShM.missGo(t:Txt)(f:Int)(k:Nat){X:List UInt8}{B D:Nat}:∀(n:Nat)(m:Mk),MkI m X B D->ShM m->k+1<=m.s.length->m.s.length<=n+k+1->ShM (missGo t f k n m)
 |0,m,_,hc,_,_=>hc
 |n+1,m,h,hc,h1,h2=>by
  show ShM (if _ then _ else _);split
  ·have h3:=Q5D h.i (by omega) t f
   exact ShM.missGo t f k n _ (h.miss (by omega) t f) (ShM.shut (h.wrong t 4 f f).i (hc.wrong t 4 f f) (by show 2<=m.s.length;omega) (kind:=22) [] (.inl rfl)) (by omega) (by omega)
  ·exact hc
section
variable {m:Mk}{X:List UInt8}{B D:Nat}
theorem ShM.token(h:MkI m X B D)(hc:ShM m)(t:Txt)(b:List UInt8){kind:Int}(hk:kind≠21)(f u:Int)(wh:Bool):ShM (Q26 t b kind f u wh m):=by
 unfold Q26;simp only
 generalize qF:(if wh=false then QV t 1 f u m else if(kind=8\/kind=9\/kind=10)/\(QD t.r f u).right=false then QV t 2 f u m else m)=m1
 have h3:∃D',MkI m1 X B D':=by
  rw[<-qF];split
  ·exact⟨_,h.wrong t 1 f u⟩
  ·split
   ·exact⟨_,h.wrong t 2 f u⟩
   ·exact⟨_,h⟩
 have vU:ShM m1:=by
  rw[<-qF];split
  ·exact hc.wrong t _ _ _
  ·split
   ·exact hc.wrong t _ _ _
   ·exact hc
 obtain⟨D',h3⟩:=h3;split
 ·rename_i hs
  obtain⟨_,rfl,_⟩:=hs;unfold Q1G;split
  ·exact ShM.leaf (h3.wrong t 5 f u).i (vU.wrong t 5 f u) (kind:=8) (by decide) (QU t b f u)
  ·exact ShM.push h3.i vU (QU t b f u) _
 ·split
  ·rename_i hs
   obtain⟨_,rfl⟩:=hs;unfold Q2Y;have jL:=h3.i.s1;have jJ:=Q61 m1.s (Qs t f u) (m1.s.length-1);simp only
   split
   ·exact ShM.leaf (h3.wrong t 3 f u).i (vU.wrong t 3 f u) (kind:=10) (by decide) (QU t b f u)
   ·rename_i qO
    obtain⟨k,hk⟩:=exq (Q2g m1.s (Qs t f u) (m1.s.length-1));rw[<-hk]at qO jJ ⊢;obtain⟨h5,h6⟩:=MkI.missGo t f k m1.s.length m1 h3 (by omega) (by omega)
    have h7:=ShM.missGo t f k m1.s.length m1 h3 vU (by omega) (by omega)
    exact ShM.shut h5.i h7 (by omega) (kind:=10) (QU t b f u) (.inr rfl)
  ·exact ShM.leaf h3.i vU hk (QU t b f u)
end
theorem ShM.toks{b:List UInt8}(hb:b.length<=1000000):∀(n k:Nat)(m:Mk)(B D:Nat),(Qb b).r.length-k<=n->k<=(Qb b).r.length->MkI m (Q6y (Qb b) b k) B D->ShM m ->
  ShM ((Q1S (Qb b).r k).foldl (Q7k (Qb b) b) m)
 |0,k,m,B,D,h,hk,hi,hc=>by
  rw[Q1k (by omega)];exact hc
 |n+1,k,m,B,D,h,hk,hi,hc=>by
  have ok:=(Q3N b).1;have hr:(Qb b).r.length<=1000000:=Nat.le_trans (Q3N b).2.2.1 hb;by_cases jA:k<(Qb b).r.length
  ·obtain⟨h1,h2,h3,h4⟩:=Q9S (Qb b).r jA
   rw[Q1O jA,List.foldl_cons];have:=hi.token (Qb b) b hr (Q1m (Qb b).r k).kind (Q1m (Qb b).r k).from_ (Q1m (Qb b).r k).to (Q1m (Qb b).r k).whole
   rw[h1,h2,Q7B ok (by omega) (by omega) (by omega)]at this
   have jD:(Q1m (Qb b).r k).kind≠21:=by
    show(((Ql (Qb b).r k).1:Nat):Int)≠21
    have:=Qf9 (Qb b).r k
    omega
   have yO:=ShM.token hi hc (Qb b) b jD k ((Ql (Qb b).r k).2.1:Nat) (Q1m (Qb b).r k).whole;exact ShM.toks hb n (Ql (Qb b).r k).2.1 _ (B+3) (D+3) (by omega) h4 this yO
  ·rw[Q1k jA];exact hc
theorem QtO(b:List UInt8):ShM (Q3s b):=by
 have h0:ShM mk0:=⟨fun n h0 h1=>by have h1:n<(0:Int):=h1;omega,fun y hy=>by cases hy⟩
 unfold Q3s;split
 ·exact ShM.leaf mk0_inv.i h0 (by decide) _
 ·exact h0
theorem Qtn(b:List UInt8)(hb:b.length<=100000):∀n:Int,0<=n->n<(QL (Qu b)).n.length->ElS (QL (Qu b)).n n:=by
 have hs:=Q6r b hb;have hi:=Q6Y b;have h1:=QaO hs.ok hs.hr (Qb b).r.length 0 _ _ _ (by omega) (by omega) hi
 have c1:=ShM.toks (b:=b) (by omega) (Qb b).r.length 0 _ _ _ (by omega) (by omega) hi (QtO b)
 have h2:=h1.i.s1;have c2:=ShM.missGo (Qb b) (Qb b).r.length 0 _ _ h1 c1 (by omega) (Nat.le_succ _)
 have c2:ShM (Qu b):=c2;obtain⟨h3,h4⟩:=Qda hs.ok hs.hr hi;have h3:MkI (Qu b) b (3+3 * (Qb b).r.length) (2+3 * (Qb b).r.length):=h3;exact Qrz h3.i.ar.wf c2.el (QrI (by show(20:Int)≠21;decide))
def QrY(l:List Node)(b:List UInt8)(C:Nat):Cur->Prop
 |.root _=>True
 |.kid _ _ k u=>0<=k/\k<(Qg l u).length/\QuV l b C u/\QrY l b C u
section
open Tryz
def Qst(kd:Int->Int)(se:Int->Int->Int)(p0:Int->AV)(n0 f0 k0:Int->Int)(u0:Int->AV)(ok:Int->Bool)(nx:Int->Int):Nat->List AV->List Ob->Option (AV×List Ob):=fun g args _=>match g,args with
 |55,[.agg [_,.val (.int .i64 n),_,_,_]]=>some (.val (.int .i64 (kd n)),[])
 |23,[.agg [_,.val (.int .i64 n),.val (.int .i64 f),_,_]]=>some (.agg [.val (.int .i64 f),.val (.int .i64 (se n f))],[])
 |56,[.agg _,.val (.int .i64 k)]=>some (.tup [.agg [.opt (p0 k),.val (.int .i64 (n0 k)),.val (.int .i64 (f0 k)),.val (.int .i64 (k0 k)),.opt (u0 k)],.val (.bool (ok k))],[])
 |57,[.agg [_,_,_,.val (.int .i64 k),_]]=>some (.tup [.agg [.opt (p0 (nx k)),.val (.int .i64 (n0 (nx k))),.val (.int .i64 (f0 (nx k))),.val (.int .i64 (k0 (nx k))),.opt (u0 (nx k))],.val (.bool (ok (nx k)))],[])
 |_,_=>none
def Qrf(l:List Node)(n f:Int):Int:=f+Q1c l n
theorem QuB(l:List Node)(c:Cur)(hk:Q1f l c.n=9):BCall prog 21 [.agg (c.el (Q3 l))] [] (.tup [.agg (c.el (Q3 l)),.val (.bool true)]) []:=by
 have cK:=Qrc l c;obtain⟨cn,vl⟩:=exq c.n;obtain⟨cf,vm⟩:=exq c.f;obtain⟨ck,vq⟩:=exq c.k;simp only[Cur.el]at cK ⊢;rw[<-vl,<-vm,<-vq]at cK ⊢;rw[<-vl]at hk;refine fnN (Qst (Q1f l) (Qrf l) (pE l c) (nE l c) (fE l c) (kE l c) (uE l c) (dOk l c) nxt) func21 rfl fun _ _=>?_
 generalize hU:upO (Q3 l) c=U;with_reducible refine Qqc (Q1f l) (Qrf l) (pE l c) (nE l c) (fE l c) (kE l c) (uE l c) (dOk l c) nxt (Q3 l) ?_
 subst hU;refine⟨cK,fun h=>?_,fun h=>?_⟩
 ·exact .pure rfl ⟨⟨.inl rfl,.inl rfl,.inl rfl,.inl rfl,.inl rfl,trivial⟩,.inl rfl,trivial⟩
 ·have h:(Q1f l cn == 9)=false:=h
  rw[hk]at h;exact absurd h (by decide)
theorem QuI(l:List Node)(b:List UInt8)(C:Nat)(ha:Ar l)(hb:b.length<=1000000)(hC:C<=1000000)(c:Cur)(hc:QuV l b C c)(hk:Q1f l c.n=21):BCall prog 21 [.agg (c.el (Q3 l))] [] (.tup [.agg (dE l c 0),.val (.bool (dOk l c 0))]) []:=by
 have cK:=Qrc l c;have cD:=Qsl l c 0 ha.ok.w (hc.1.ok ha (by omega) hC)
 obtain⟨cn,vl⟩:=exq c.n;obtain⟨cf,vm⟩:=exq c.f;obtain⟨ck,vq⟩:=exq c.k;simp only[Cur.el,dE]at cK cD ⊢;rw[<-vl,<-vm,<-vq]at cK cD ⊢;rw[<-vl]at hk;refine fnN (Qst (Q1f l) (Qrf l) (pE l c) (nE l c) (fE l c) (kE l c) (uE l c) (dOk l c) nxt) func21 rfl fun _ _=>?_
 generalize hU:upO (Q3 l) c=U;with_reducible refine Qqc (Q1f l) (Qrf l) (pE l c) (nE l c) (fE l c) (kE l c) (uE l c) (dOk l c) nxt (Q3 l) ?_
 subst hU;refine⟨cK,fun h=>?_,fun h=>⟨fun h2=>⟨cD,?_⟩,fun h2=>?_⟩⟩
 ·have h:(Q1f l cn == 9)=true:=h
  rw[hk]at h;exact absurd h (by decide)
 ·exact .pure rfl ⟨⟨.inl rfl,.inl rfl,.inl rfl,.inl rfl,.inl rfl,trivial⟩,.inl rfl,trivial⟩
 ·have h2:(Q1f l cn == 21)=false:=h2
  rw[hk]at h2;exact absurd h2 (by decide)
