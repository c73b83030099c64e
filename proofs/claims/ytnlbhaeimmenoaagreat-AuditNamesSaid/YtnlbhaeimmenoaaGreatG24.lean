/- Lemmas, conditions told -/
import Derived.Test.YtnlbhaeimmenoaaGreatG22
import Derived.Test.YtnlbhaeimmenoaaGreatG23
set_option maxRecDepth 99999
set_option maxHeartbeats 0
set_option linter.unusedSimpArgs false
set_option linter.unusedVariables false
namespace Go.Proofs.YtnlbhaeimmenoaaGreat
open List(getD_eq_getElem?_getD length_cons length_nil drop_eq_getElem_cons takeWhile_cons drop_of_length_le length_take drop_zero)
open Int(toNat_of_nonneg le_refl)
open Go.RowKit Go.Lib
section
open Tryz
theorem Qpj(l:List Int)(hl:l.length<=1000000000)(hu:Un l)(k:Int)(h0:0<=k)(h1:k<l.length):BCall prog 87 [.slc 1 (Q0 l),.val (.int .i64 k)] [] (Q1r ((Q1e l k.toNat).1:Nat) k ((Q1e l k.toNat).2.1:Nat) (Q1e l k.toNat).2.2) []:=by
 cases jO:Q3 l k.toNat [38,35]with
 |false=>exact Qo2 l hl hu k h0 h1 jO
 |true =>
  by_cases hf:k+1+((Qk l (k.toNat+1):Nat):Int)<l.length
  ·cases jV:Q3 l k.toNat [38,35,120]with
   |true=>exact Qoc l hl hu k h0 h1 jO jV hf
   |false=>exact Qoa l hl hu k h0 h1 jO jV hf
  ·cases jV:Q3 l k.toNat [38,35,120]with
   |true=>exact Qox l hl hu k h0 h1 jO jV hf
   |false=>exact QnZ l hl hu k h0 h1 jO jV hf
def Q9s(s1 s2 s3 s4 s5 ns:Bool)(kd k t:Int)(w:Bool):Nat->List AV->List Ob->Option (AV×List Ob):=fun f args _=>match f,args with
 |1000009,_=>some (.val (.bool s1),[])
 |1000016,_=>some (.val (.bool s2),[])
 |1000023,_=>some (.val (.bool s3),[])
 |1000030,_=>some (.val (.bool s4),[])
 |1000037,_=>some (.val (.bool s5),[])
 |85,[.val (.int .i32 _)]=>some (.val (.bool ns),[])
 |82,[.slc 1 _,.val (.int .i64 _),.val (.int .i64 _),.val (.int .i64 _),.val (.string _)]=>some (.agg [.val (.int .i64 kd),.val (.int .i64 k),.val (.int .i64 t),.val (.bool w)],[])
 |83,[.slc 1 _,.val (.int .i64 _)]=>some (.agg [.val (.int .i64 kd),.val (.int .i64 k),.val (.int .i64 t),.val (.bool w)],[])
 |84,[.slc 1 _,.val (.int .i64 _)]=>some (.agg [.val (.int .i64 kd),.val (.int .i64 k),.val (.int .i64 t),.val (.bool w)],[])
 |86,[.slc 1 _,.val (.int .i64 _)]=>some (.agg [.val (.int .i64 kd),.val (.int .i64 k),.val (.int .i64 t),.val (.bool w)],[])
 |87,[.slc 1 _,.val (.int .i64 _)]=>some (.agg [.val (.int .i64 kd),.val (.int .i64 k),.val (.int .i64 t),.val (.bool w)],[])
 |_,_=>none
theorem Q56{l:List Int}{k:Nat}(h:l[k]?.getD 0=60):Qd l k=Q1s l k:=by
 rw[Qd,if_pos (by rw[getD_eq_getElem?_getD];exact h)]
theorem Q4A{l:List Int}{k:Nat}{bs:List UInt8}(h:Q3 l k (60::bs)=true):l[k]?.getD 0=60:=by
 have:=Q6G h (i:=0) (by simp)
 rw[Nat.add_zero]at this;rw[this];rfl
theorem Qlh(l:List Int)(hl:l.length<=1000000000)(hu:Un l)(k:Int)(h0:0<=k)(h1:k<l.length)(jO:Q3 l k.toNat [60,33,45,45]=true):BCall prog 38 [.slc 1 (Q0 l),.val (.int .i64 k)] [] (Q1r ((Qd l k.toNat).1:Nat) k ((Qd l k.toNat).2.1:Nat) (Qd l k.toNat).2.2) []:=by
 have c1:BCall prog 81 [.slc 1 (Q0 l),.val (.int .i64 k),.val (.string ⟨#[60,33,45,45]⟩)] [] (.val (.bool true)) []:=by
  have:=Qa l hl hu.i32 k h0 (by omega) ⟨#[60,33,45,45]⟩ (by decide)
  have e:Q3 l k.toNat (⟨#[60,33,45,45]⟩:ByteArray).data.toList=true:=jO;rw[e]at this;exact this
 have hm:=Q56 (Q4A jO);have j5:=Q10 l k.toNat _ (by omega) jO
 simp only[length_cons,length_nil]at j5;have vw:((k.toNat:Nat):Int)=k:=toNat_of_nonneg h0;rw[Q1s,if_pos jO]at hm;rw[hm];obtain⟨u1,u2,u3⟩:=Q5x l 4 k.toNat 4 [45,45,62] (by omega)
 rw[vw]at u2 u3;have u2:((QW l 4 k.toNat 4 [45,45,62]).2.1:Int)=Q3E l (k+4) [45,45,62]:=u2;have u3:(QW l 4 k.toNat 4 [45,45,62]).2.2=Q3D l (k+4) [45,45,62]:=u3;have cT:BCall prog 82 [.slc 1 (Q0 l),.val (.int .i64 4),.val (.int .i64 k),.val (.int .i64 4),.val (.string ⟨#[45,45,62]⟩)] [] (Q1r 4 k (Q3E l (k+4) [45,45,62]) (Q3D l (k+4) [45,45,62])) []:=Q8d l hl hu.i32 4 k 4 h0 (by decide) (by omega) ⟨#[45,45,62]⟩ (by decide)
 rw[u1,u2,u3];generalize Q3E l (k+4) [45,45,62]=t at cT ⊢;generalize Q3D l (k+4) [45,45,62]=w at cT ⊢;show BCall _ _ _ _ (Q1r 4 k t w) _;rw[Q1r]at cT ⊢;obtain⟨kd,jD⟩:=exq (4:Int);have cT:BCall prog 82 [.slc 1 (Q0 l),.val (.int .i64 4),.val (.int .i64 k),.val (.int .i64 4),.val (.string ⟨#[45,45,62]⟩)] [] (.agg [.val (.int .i64 kd),.val (.int .i64 k),.val (.int .i64 t),.val (.bool w)]) []:=by rw[jD];exact cT
 rw[<-jD];clear u1 u2 u3 jD;clear hm j5 vw;refine fnN (Q9s true true true true true true kd k t w) func38 rfl fun _ _=>?_
 with_reducible refine cv1 (Q0 l) ?_
 repeat' (with_reducible apply And.intro)
 all_goals first
  |exact c1
  |exact cT
  |exact .pure rfl ⟨.inl rfl,.inl rfl,.inl rfl,.inl rfl,trivial⟩
theorem QkY(l:List Int)(hl:l.length<=1000000000)(hu:Un l)(k:Int)(h0:0<=k)(h1:k<l.length)(jO:Q3 l k.toNat [60,33,45,45]=false)(jV:Q3 l k.toNat [60,33,91,67,68,65,84,65,91]=true):BCall prog 38 [.slc 1 (Q0 l),.val (.int .i64 k)] [] (Q1r ((Qd l k.toNat).1:Nat) k ((Qd l k.toNat).2.1:Nat) (Qd l k.toNat).2.2) []:=by
 have c1:BCall prog 81 [.slc 1 (Q0 l),.val (.int .i64 k),.val (.string ⟨#[60,33,45,45]⟩)] [] (.val (.bool false)) []:=by
  have:=Qa l hl hu.i32 k h0 (by omega) ⟨#[60,33,45,45]⟩ (by decide)
  have e:Q3 l k.toNat (⟨#[60,33,45,45]⟩:ByteArray).data.toList=false:=jO;rw[e]at this;exact this
 have c2:BCall prog 81 [.slc 1 (Q0 l),.val (.int .i64 k),.val (.string ⟨#[60,33,91,67,68,65,84,65,91]⟩)] [] (.val (.bool true)) []:=by
  have:=Qa l hl hu.i32 k h0 (by omega) ⟨#[60,33,91,67,68,65,84,65,91]⟩ (by decide)
  have e:Q3 l k.toNat (⟨#[60,33,91,67,68,65,84,65,91]⟩:ByteArray).data.toList=true:=jV;rw[e]at this;exact this
 have hm:=Q56 (Q4A jV);have j5:=Q10 l k.toNat _ (by omega) jV
 simp only[length_cons,length_nil]at j5;have vw:((k.toNat:Nat):Int)=k:=toNat_of_nonneg h0;rw[Q1s,if_neg (show ¬Q3 l k.toNat [60,33,45,45]=true by rw[jO];decide),if_pos jV]at hm
 rw[hm];obtain⟨u1,u2,u3⟩:=Q5x l 6 k.toNat 9 [93,93,62] (by omega)
 rw[vw]at u2 u3;have u2:((QW l 6 k.toNat 9 [93,93,62]).2.1:Int)=Q3E l (k+9) [93,93,62]:=u2;have u3:(QW l 6 k.toNat 9 [93,93,62]).2.2=Q3D l (k+9) [93,93,62]:=u3;have cT:BCall prog 82 [.slc 1 (Q0 l),.val (.int .i64 6),.val (.int .i64 k),.val (.int .i64 9),.val (.string ⟨#[93,93,62]⟩)] [] (Q1r 6 k (Q3E l (k+9) [93,93,62]) (Q3D l (k+9) [93,93,62])) []:=Q8d l hl hu.i32 6 k 9 h0 (by decide) (by omega) ⟨#[93,93,62]⟩ (by decide)
 rw[u1,u2,u3];generalize Q3E l (k+9) [93,93,62]=t at cT ⊢;generalize Q3D l (k+9) [93,93,62]=w at cT ⊢;show BCall _ _ _ _ (Q1r 6 k t w) _;rw[Q1r]at cT ⊢;obtain⟨kd,jD⟩:=exq (6:Int);have cT:BCall prog 82 [.slc 1 (Q0 l),.val (.int .i64 6),.val (.int .i64 k),.val (.int .i64 9),.val (.string ⟨#[93,93,62]⟩)] [] (.agg [.val (.int .i64 kd),.val (.int .i64 k),.val (.int .i64 t),.val (.bool w)]) []:=by rw[jD];exact cT
 rw[<-jD];clear u1 u2 u3 jD;clear hm j5 vw;refine fnN (Q9s false true true true true true kd k t w) func38 rfl fun _ _=>?_
 with_reducible refine cv1 (Q0 l) ?_
 repeat' (with_reducible apply And.intro)
 all_goals first
  |exact c1
  |exact c2
  |exact cT
  |exact .pure rfl ⟨.inl rfl,.inl rfl,.inl rfl,.inl rfl,trivial⟩
theorem QlH(l:List Int)(hl:l.length<=1000000000)(hu:Un l)(k:Int)(h0:0<=k)(h1:k<l.length)(jO:Q3 l k.toNat [60,33,45,45]=false)(jV:Q3 l k.toNat [60,33,91,67,68,65,84,65,91]=false)(zG:Q3 l k.toNat [60,63]=true):BCall prog 38 [.slc 1 (Q0 l),.val (.int .i64 k)] [] (Q1r ((Qd l k.toNat).1:Nat) k ((Qd l k.toNat).2.1:Nat) (Qd l k.toNat).2.2) []:=by
 have c1:BCall prog 81 [.slc 1 (Q0 l),.val (.int .i64 k),.val (.string ⟨#[60,33,45,45]⟩)] [] (.val (.bool false)) []:=by
  have:=Qa l hl hu.i32 k h0 (by omega) ⟨#[60,33,45,45]⟩ (by decide)
  have e:Q3 l k.toNat (⟨#[60,33,45,45]⟩:ByteArray).data.toList=false:=jO;rw[e]at this;exact this
 have c2:BCall prog 81 [.slc 1 (Q0 l),.val (.int .i64 k),.val (.string ⟨#[60,33,91,67,68,65,84,65,91]⟩)] [] (.val (.bool false)) []:=by
  have:=Qa l hl hu.i32 k h0 (by omega) ⟨#[60,33,91,67,68,65,84,65,91]⟩ (by decide)
  have e:Q3 l k.toNat (⟨#[60,33,91,67,68,65,84,65,91]⟩:ByteArray).data.toList=false:=jV;rw[e]at this;exact this
 have c3:BCall prog 81 [.slc 1 (Q0 l),.val (.int .i64 k),.val (.string ⟨#[60,63]⟩)] [] (.val (.bool true)) []:=by
  have:=Qa l hl hu.i32 k h0 (by omega) ⟨#[60,63]⟩ (by decide)
  have e:Q3 l k.toNat (⟨#[60,63]⟩:ByteArray).data.toList=true:=zG;rw[e]at this;exact this
 have hm:=Q56 (Q4A zG);have j5:=Q10 l k.toNat _ (by omega) zG
 simp only[length_cons,length_nil]at j5;have vw:((k.toNat:Nat):Int)=k:=toNat_of_nonneg h0;rw[Q1s,if_neg (show ¬Q3 l k.toNat [60,33,45,45]=true by rw[jO];decide),if_neg (show ¬Q3 l k.toNat [60,33,91,67,68,65,84,65,91]=true by rw[jV];decide),if_pos zG]at hm
 rw[hm];obtain⟨u1,u2,u3⟩:=Q5x l 5 k.toNat 2 [63,62] (by omega)
 rw[vw]at u2 u3;have u2:((QW l 5 k.toNat 2 [63,62]).2.1:Int)=Q3E l (k+2) [63,62]:=u2;have u3:(QW l 5 k.toNat 2 [63,62]).2.2=Q3D l (k+2) [63,62]:=u3;have cT:BCall prog 82 [.slc 1 (Q0 l),.val (.int .i64 5),.val (.int .i64 k),.val (.int .i64 2),.val (.string ⟨#[63,62]⟩)] [] (Q1r 5 k (Q3E l (k+2) [63,62]) (Q3D l (k+2) [63,62])) []:=Q8d l hl hu.i32 5 k 2 h0 (by decide) (by omega) ⟨#[63,62]⟩ (by decide)
 rw[u1,u2,u3];generalize Q3E l (k+2) [63,62]=t at cT ⊢;generalize Q3D l (k+2) [63,62]=w at cT ⊢;show BCall _ _ _ _ (Q1r 5 k t w) _;rw[Q1r]at cT ⊢;obtain⟨kd,jD⟩:=exq (5:Int);have cT:BCall prog 82 [.slc 1 (Q0 l),.val (.int .i64 5),.val (.int .i64 k),.val (.int .i64 2),.val (.string ⟨#[63,62]⟩)] [] (.agg [.val (.int .i64 kd),.val (.int .i64 k),.val (.int .i64 t),.val (.bool w)]) []:=by rw[jD];exact cT
 rw[<-jD];clear u1 u2 u3 jD;clear hm j5 vw;refine fnN (Q9s false false true true true true kd k t w) func38 rfl fun _ _=>?_
 with_reducible refine cv1 (Q0 l) ?_
 repeat' (with_reducible apply And.intro)
 all_goals first
  |exact c1
  |exact c2
  |exact c3
  |exact cT
  |exact .pure rfl ⟨.inl rfl,.inl rfl,.inl rfl,.inl rfl,trivial⟩
theorem Qkf(l:List Int)(hl:l.length<=1000000000)(hu:Un l)(k:Int)(h0:0<=k)(h1:k<l.length)(jO:Q3 l k.toNat [60,33,45,45]=false)(jV:Q3 l k.toNat [60,33,91,67,68,65,84,65,91]=false)(zG:Q3 l k.toNat [60,63]=false)(xh:Q3 l k.toNat [60,33,68,79,67,84,89,80,69]=true):BCall prog 38 [.slc 1 (Q0 l),.val (.int .i64 k)] [] (Q1r ((Qd l k.toNat).1:Nat) k ((Qd l k.toNat).2.1:Nat) (Qd l k.toNat).2.2) []:=by
 have c1:BCall prog 81 [.slc 1 (Q0 l),.val (.int .i64 k),.val (.string ⟨#[60,33,45,45]⟩)] [] (.val (.bool false)) []:=by
  have:=Qa l hl hu.i32 k h0 (by omega) ⟨#[60,33,45,45]⟩ (by decide)
  have e:Q3 l k.toNat (⟨#[60,33,45,45]⟩:ByteArray).data.toList=false:=jO;rw[e]at this;exact this
 have c2:BCall prog 81 [.slc 1 (Q0 l),.val (.int .i64 k),.val (.string ⟨#[60,33,91,67,68,65,84,65,91]⟩)] [] (.val (.bool false)) []:=by
  have:=Qa l hl hu.i32 k h0 (by omega) ⟨#[60,33,91,67,68,65,84,65,91]⟩ (by decide)
  have e:Q3 l k.toNat (⟨#[60,33,91,67,68,65,84,65,91]⟩:ByteArray).data.toList=false:=jV;rw[e]at this;exact this
 have c3:BCall prog 81 [.slc 1 (Q0 l),.val (.int .i64 k),.val (.string ⟨#[60,63]⟩)] [] (.val (.bool false)) []:=by
  have:=Qa l hl hu.i32 k h0 (by omega) ⟨#[60,63]⟩ (by decide)
  have e:Q3 l k.toNat (⟨#[60,63]⟩:ByteArray).data.toList=false:=zG;rw[e]at this;exact this
 have c4:BCall prog 81 [.slc 1 (Q0 l),.val (.int .i64 k),.val (.string ⟨#[60,33,68,79,67,84,89,80,69]⟩)] [] (.val (.bool true)) []:=by
  have:=Qa l hl hu.i32 k h0 (by omega) ⟨#[60,33,68,79,67,84,89,80,69]⟩ (by decide)
  have e:Q3 l k.toNat (⟨#[60,33,68,79,67,84,89,80,69]⟩:ByteArray).data.toList=true:=xh;rw[e]at this;exact this
 have hm:=Q56 (Q4A xh);have j5:=Q10 l k.toNat _ (by omega) xh
 simp only[length_cons,length_nil]at j5;have vw:((k.toNat:Nat):Int)=k:=toNat_of_nonneg h0;rw[Q1s,if_neg (show ¬Q3 l k.toNat [60,33,45,45]=true by rw[jO];decide),if_neg (show ¬Q3 l k.toNat [60,33,91,67,68,65,84,65,91]=true by rw[jV];decide),if_neg (show ¬Q3 l k.toNat [60,63]=true by rw[zG];decide),if_pos xh]at hm
 rw[hm];have cT:=QfG l hl hu.i32 k h0 (by omega)
 have g8:(((Q3F l k.toNat).1:Nat):Int)=7:=rfl;rw[g8];obtain⟨t,ht⟩:=exq (((Q3F l k.toNat).2.1:Nat):Int);obtain⟨w,hw⟩:=exq ((Q3F l k.toNat).2.2:Bool);rw[<-ht,<-hw]at cT ⊢;rw[Q1r]at cT ⊢;obtain⟨kd,jD⟩:=exq (7:Int);have cT:BCall prog 83 [.slc 1 (Q0 l),.val (.int .i64 k)] [] (.agg [.val (.int .i64 kd),.val (.int .i64 k),.val (.int .i64 t),.val (.bool w)]) []:=by rw[jD];exact cT
 rw[<-jD];clear ht hw jD g8;clear hm j5 vw;refine fnN (Q9s false false false true true true kd k t w) func38 rfl fun _ _=>?_
 with_reducible refine cv1 (Q0 l) ?_
 repeat' (with_reducible apply And.intro)
 all_goals first
  |exact c1
  |exact c2
  |exact c3
  |exact c4
  |exact cT
  |exact .pure rfl ⟨.inl rfl,.inl rfl,.inl rfl,.inl rfl,trivial⟩
theorem QmB(l:List Int)(hl:l.length<=1000000000)(hu:Un l)(k:Int)(h0:0<=k)(h1:k<l.length)(jO:Q3 l k.toNat [60,33,45,45]=false)(jV:Q3 l k.toNat [60,33,91,67,68,65,84,65,91]=false)(zG:Q3 l k.toNat [60,63]=false)(xh:Q3 l k.toNat [60,33,68,79,67,84,89,80,69]=false)(nv:Q3 l k.toNat [60,47]=true):BCall prog 38 [.slc 1 (Q0 l),.val (.int .i64 k)] [] (Q1r ((Qd l k.toNat).1:Nat) k ((Qd l k.toNat).2.1:Nat) (Qd l k.toNat).2.2) []:=by
 have c1:BCall prog 81 [.slc 1 (Q0 l),.val (.int .i64 k),.val (.string ⟨#[60,33,45,45]⟩)] [] (.val (.bool false)) []:=by
  have:=Qa l hl hu.i32 k h0 (by omega) ⟨#[60,33,45,45]⟩ (by decide)
  have e:Q3 l k.toNat (⟨#[60,33,45,45]⟩:ByteArray).data.toList=false:=jO;rw[e]at this;exact this
 have c2:BCall prog 81 [.slc 1 (Q0 l),.val (.int .i64 k),.val (.string ⟨#[60,33,91,67,68,65,84,65,91]⟩)] [] (.val (.bool false)) []:=by
  have:=Qa l hl hu.i32 k h0 (by omega) ⟨#[60,33,91,67,68,65,84,65,91]⟩ (by decide)
  have e:Q3 l k.toNat (⟨#[60,33,91,67,68,65,84,65,91]⟩:ByteArray).data.toList=false:=jV;rw[e]at this;exact this
 have c3:BCall prog 81 [.slc 1 (Q0 l),.val (.int .i64 k),.val (.string ⟨#[60,63]⟩)] [] (.val (.bool false)) []:=by
  have:=Qa l hl hu.i32 k h0 (by omega) ⟨#[60,63]⟩ (by decide)
  have e:Q3 l k.toNat (⟨#[60,63]⟩:ByteArray).data.toList=false:=zG;rw[e]at this;exact this
 have c4:BCall prog 81 [.slc 1 (Q0 l),.val (.int .i64 k),.val (.string ⟨#[60,33,68,79,67,84,89,80,69]⟩)] [] (.val (.bool false)) []:=by
  have:=Qa l hl hu.i32 k h0 (by omega) ⟨#[60,33,68,79,67,84,89,80,69]⟩ (by decide)
  have e:Q3 l k.toNat (⟨#[60,33,68,79,67,84,89,80,69]⟩:ByteArray).data.toList=false:=xh;rw[e]at this;exact this
 have c5:BCall prog 81 [.slc 1 (Q0 l),.val (.int .i64 k),.val (.string ⟨#[60,47]⟩)] [] (.val (.bool true)) []:=by
  have:=Qa l hl hu.i32 k h0 (by omega) ⟨#[60,47]⟩ (by decide)
  have e:Q3 l k.toNat (⟨#[60,47]⟩:ByteArray).data.toList=true:=nv;rw[e]at this;exact this
 have hm:=Q56 (Q4A nv);have j5:=Q10 l k.toNat _ (by omega) nv
 simp only[length_cons,length_nil]at j5;have vw:((k.toNat:Nat):Int)=k:=toNat_of_nonneg h0;rw[Q1s,if_neg (show ¬Q3 l k.toNat [60,33,45,45]=true by rw[jO];decide),if_neg (show ¬Q3 l k.toNat [60,33,91,67,68,65,84,65,91]=true by rw[jV];decide),if_neg (show ¬Q3 l k.toNat [60,63]=true by rw[zG];decide),if_neg (show ¬Q3 l k.toNat [60,33,68,79,67,84,89,80,69]=true by rw[xh];decide),if_pos nv]at hm
 rw[hm];have cT:=Qpm l hl k h0 (by omega)
 have g8:(((Q3l l k.toNat).1:Nat):Int)=10:=rfl;rw[g8];obtain⟨t,ht⟩:=exq (((Q3l l k.toNat).2.1:Nat):Int);obtain⟨w,hw⟩:=exq ((Q3l l k.toNat).2.2:Bool);rw[<-ht,<-hw]at cT ⊢;rw[Q1r]at cT ⊢;obtain⟨kd,jD⟩:=exq (10:Int);have cT:BCall prog 84 [.slc 1 (Q0 l),.val (.int .i64 k)] [] (.agg [.val (.int .i64 kd),.val (.int .i64 k),.val (.int .i64 t),.val (.bool w)]) []:=by rw[jD];exact cT
 rw[<-jD];clear ht hw jD g8;clear hm j5 vw;refine fnN (Q9s false false false false true true kd k t w) func38 rfl fun _ _=>?_
 with_reducible refine cv1 (Q0 l) ?_
 repeat' (with_reducible apply And.intro)
 all_goals first
  |exact c1
  |exact c2
  |exact c3
  |exact c4
  |exact c5
  |exact cT
  |exact .pure rfl ⟨.inl rfl,.inl rfl,.inl rfl,.inl rfl,trivial⟩
theorem Qad{l:List Int}{k:Nat}:0<Qk l k↔k<l.length/\Qf (l[k]?.getD 0)=true:=by
 unfold Qk;by_cases h:k<l.length
 ·rw[List.getElem?_eq_getElem h]
  show 0<(if Qf l[k]=true then((l.drop k).takeWhile Qp).length else 0)↔k<l.length/\Qf l[k]=true;by_cases hs:Qf l[k]=true
  ·rw[if_pos hs,drop_eq_getElem_cons h,takeWhile_cons,if_pos (Q7z _ hs),length_cons]
   exact⟨fun _=>⟨h,hs⟩,fun _=>by omega⟩
  ·rw[if_neg hs]
   exact⟨fun h2=>by omega,fun h2=>absurd h2.2 hs⟩
 ·rw[List.getElem?_eq_none (by omega)]
  exact⟨fun h2=>absurd h2 (Nat.lt_irrefl 0),fun h2=>absurd h2.1 h⟩
structure NoMark (l:List Int) (k:Nat):Prop where
 s1:Q3 l k [60,33,45,45]=false
 s2:Q3 l k [60,33,91,67,68,65,84,65,91]=false
 s3:Q3 l k [60,63]=false
 s4:Q3 l k [60,33,68,79,67,84,89,80,69]=false
 s5:Q3 l k [60,47]=false
theorem NoMark.markup{l:List Int}{k:Nat}(h:NoMark l k):Q1s l k=if 0<Qk l (k+1)then Q1m l k else(11,k+1,false):=by
 rw[Q1s,h.s1,h.s2,h.s3,h.s4,h.s5];rfl
def plN(l:List Int)(i:Int):Nat:=((l.drop i.toNat).takeWhile Q1O).length
theorem Qm6{l:List Int}{i:Int}(h0:0<=i)(h1:i<l.length)(h:Q1O (l[i.toNat]?.getD 0)=true):plN l i=plN l (i+1)+1:=by
 obtain⟨hl,e⟩:=Q5o h0 h1;rw[e]at h;rw[plN,plN,drop_eq_getElem_cons hl,takeWhile_cons,if_pos h,length_cons,show(i+1).toNat=i.toNat+1 by omega]
theorem QeC{l:List Int}{i:Int}(h0:0<=i)(h:i<l.length->Q1O (l[i.toNat]?.getD 0)=false):plN l i=0:=by
 by_cases h1:i<l.length
 ·obtain⟨hl,e⟩:=Q5o h0 h1
  have h:=h h1;rw[e]at h;rw[plN,drop_eq_getElem_cons hl,takeWhile_cons,if_neg (by rw[h];decide)];rfl
 ·rw[plN,drop_of_length_le (by omega)];rfl
theorem Qjc(l:List Int)(hl:l.length<=1000000000)(hu:Un l)(k:Int)(h0:0<=k)(h1:k<l.length)(hM:NoMark l k.toNat)(jL:l[k.toNat]?.getD 0=60)(jT:k+1<l.length)(yh:Qf (l[k.toNat+1]?.getD 0)=true):BCall prog 38 [.slc 1 (Q0 l),.val (.int .i64 k)] [] (Q1r ((Qd l k.toNat).1:Nat) k ((Qd l k.toNat).2.1:Nat) (Qd l k.toNat).2.2) []:=by
 have c1:BCall prog 81 [.slc 1 (Q0 l),.val (.int .i64 k),.val (.string ⟨#[60,33,45,45]⟩)] [] (.val (.bool false)) []:=by
  have:=Qa l hl hu.i32 k h0 (by omega) ⟨#[60,33,45,45]⟩ (by decide)
  have e:Q3 l k.toNat (⟨#[60,33,45,45]⟩:ByteArray).data.toList=false:=hM.s1;rw[e]at this;exact this
 have c2:BCall prog 81 [.slc 1 (Q0 l),.val (.int .i64 k),.val (.string ⟨#[60,33,91,67,68,65,84,65,91]⟩)] [] (.val (.bool false)) []:=by
  have:=Qa l hl hu.i32 k h0 (by omega) ⟨#[60,33,91,67,68,65,84,65,91]⟩ (by decide)
  have e:Q3 l k.toNat (⟨#[60,33,91,67,68,65,84,65,91]⟩:ByteArray).data.toList=false:=hM.s2;rw[e]at this;exact this
 have c3:BCall prog 81 [.slc 1 (Q0 l),.val (.int .i64 k),.val (.string ⟨#[60,63]⟩)] [] (.val (.bool false)) []:=by
  have:=Qa l hl hu.i32 k h0 (by omega) ⟨#[60,63]⟩ (by decide)
  have e:Q3 l k.toNat (⟨#[60,63]⟩:ByteArray).data.toList=false:=hM.s3;rw[e]at this;exact this
 have c4:BCall prog 81 [.slc 1 (Q0 l),.val (.int .i64 k),.val (.string ⟨#[60,33,68,79,67,84,89,80,69]⟩)] [] (.val (.bool false)) []:=by
  have:=Qa l hl hu.i32 k h0 (by omega) ⟨#[60,33,68,79,67,84,89,80,69]⟩ (by decide)
  have e:Q3 l k.toNat (⟨#[60,33,68,79,67,84,89,80,69]⟩:ByteArray).data.toList=false:=hM.s4;rw[e]at this;exact this
 have c5:BCall prog 81 [.slc 1 (Q0 l),.val (.int .i64 k),.val (.string ⟨#[60,47]⟩)] [] (.val (.bool false)) []:=by
  have:=Qa l hl hu.i32 k h0 (by omega) ⟨#[60,47]⟩ (by decide)
  have e:Q3 l k.toNat (⟨#[60,47]⟩:ByteArray).data.toList=false:=hM.s5;rw[e]at this;exact this
 have ak:=QN (l:=l) (i:=k) h0 h1;obtain⟨n,hn⟩:=QG l;have jr:=Qx l;have jq:k<n:=by have:=hn.eq;omega
 have qG:n<=1000000000:=by have:=hn.eq;omega
 have an:=QN (l:=l) (i:=k+1) (by omega) jT
 have g9:k+1<n:=by have:=hn.eq;omega
 have cN:=Q6h (l[(k+1).toNat]?.getD 0);have j1:(k+1).toNat=k.toNat+1:=by omega
 rw[show Qf (l[(k+1).toNat]?.getD 0)=true by rw[j1];exact yh]at cN
 rw[Q56 jL,hM.markup,if_pos (Qad.2 ⟨by omega,yh⟩)]
 have cT:=QiC l hl k h0 h1;obtain⟨kd,jD⟩:=exq ((((Q1m l k.toNat).1:Nat):Int):Int);obtain⟨t,ht⟩:=exq ((((Q1m l k.toNat).2.1:Nat):Int):Int);obtain⟨w,hw⟩:=exq ((Q1m l k.toNat).2.2:Bool);rw[<-jD,<-ht,<-hw]at cT ⊢;rw[Q1r]at cT ⊢;clear jD ht hw hM jT j1 yh;refine fnN (Q9s false false false false false true kd k t w) func38 rfl fun _ _=>?_
 with_reducible refine cv1 (Q0 l) ?_
 have jC:=QY hn
 have eN:std.int (std.nth (std.cel (std.at_ (Q0 l) (std.add k 1))) 0)=l[(k+1).toNat]?.getD 0:=by
  have e9:(Q0 l).getD (k+1).toNat .dead=.val (.int .i32 (l[(k+1).toNat]?.getD 0)):=by rw[getD_eq_getElem?_getD];exact an
  show RowKit.intOf ((AV.cells ((Q0 l).getD (k+1).toNat .dead)).getD 0 .dead)=_;rw[e9];rfl
 have cNs:BCall prog 85 [.val (.int .i32 (std.int (std.nth (std.cel (std.at_ (Q0 l) (std.add k 1))) 0)))] [] (.val (.bool true)) []:=by rw[eN];exact cN
 with_reducible repeat' first|refine aU (zA jC <| zA ak <| zA an <| zA jL <| zA jq <| zA g9 h0) ?_|refine And.intro ?_ ?_|intro hb
 all_goals first
  |exact c1
  |exact c2
  |exact c3
  |exact c4
  |exact c5
  |exact cNs
  |exact cT
  |exact .pure rfl ⟨.inl rfl,.inl rfl,.inl rfl,.inl rfl,trivial⟩
theorem Qjz(l:List Int)(hl:l.length<=1000000000)(hu:Un l)(k:Int)(h0:0<=k)(h1:k<l.length)(hM:NoMark l k.toNat)(jL:l[k.toNat]?.getD 0=60)(jT:k+1<l.length)(yh:Qf (l[k.toNat+1]?.getD 0)=false):BCall prog 38 [.slc 1 (Q0 l),.val (.int .i64 k)] [] (Q1r ((Qd l k.toNat).1:Nat) k ((Qd l k.toNat).2.1:Nat) (Qd l k.toNat).2.2) []:=by
 have c1:BCall prog 81 [.slc 1 (Q0 l),.val (.int .i64 k),.val (.string ⟨#[60,33,45,45]⟩)] [] (.val (.bool false)) []:=by
  have:=Qa l hl hu.i32 k h0 (by omega) ⟨#[60,33,45,45]⟩ (by decide)
  have e:Q3 l k.toNat (⟨#[60,33,45,45]⟩:ByteArray).data.toList=false:=hM.s1;rw[e]at this;exact this
 have c2:BCall prog 81 [.slc 1 (Q0 l),.val (.int .i64 k),.val (.string ⟨#[60,33,91,67,68,65,84,65,91]⟩)] [] (.val (.bool false)) []:=by
  have:=Qa l hl hu.i32 k h0 (by omega) ⟨#[60,33,91,67,68,65,84,65,91]⟩ (by decide)
  have e:Q3 l k.toNat (⟨#[60,33,91,67,68,65,84,65,91]⟩:ByteArray).data.toList=false:=hM.s2;rw[e]at this;exact this
 have c3:BCall prog 81 [.slc 1 (Q0 l),.val (.int .i64 k),.val (.string ⟨#[60,63]⟩)] [] (.val (.bool false)) []:=by
  have:=Qa l hl hu.i32 k h0 (by omega) ⟨#[60,63]⟩ (by decide)
  have e:Q3 l k.toNat (⟨#[60,63]⟩:ByteArray).data.toList=false:=hM.s3;rw[e]at this;exact this
 have c4:BCall prog 81 [.slc 1 (Q0 l),.val (.int .i64 k),.val (.string ⟨#[60,33,68,79,67,84,89,80,69]⟩)] [] (.val (.bool false)) []:=by
  have:=Qa l hl hu.i32 k h0 (by omega) ⟨#[60,33,68,79,67,84,89,80,69]⟩ (by decide)
  have e:Q3 l k.toNat (⟨#[60,33,68,79,67,84,89,80,69]⟩:ByteArray).data.toList=false:=hM.s4;rw[e]at this;exact this
 have c5:BCall prog 81 [.slc 1 (Q0 l),.val (.int .i64 k),.val (.string ⟨#[60,47]⟩)] [] (.val (.bool false)) []:=by
  have:=Qa l hl hu.i32 k h0 (by omega) ⟨#[60,47]⟩ (by decide)
  have e:Q3 l k.toNat (⟨#[60,47]⟩:ByteArray).data.toList=false:=hM.s5;rw[e]at this;exact this
 have ak:=QN (l:=l) (i:=k) h0 h1;obtain⟨n,hn⟩:=QG l;have jr:=Qx l;have jq:k<n:=by have:=hn.eq;omega
 have qG:n<=1000000000:=by have:=hn.eq;omega
 have an:=QN (l:=l) (i:=k+1) (by omega) jT
 have g9:k+1<n:=by have:=hn.eq;omega
 have cN:=Q6h (l[(k+1).toNat]?.getD 0);have j1:(k+1).toNat=k.toNat+1:=by omega
 rw[show Qf (l[(k+1).toNat]?.getD 0)=false by rw[j1];exact yh]at cN
 rw[Q56 jL,hM.markup,if_neg (fun h=>by have:=(Qad.1 h).2;rw[yh]at this;cases this)]
 obtain⟨kd,jD⟩:=exq ((((((11,k.toNat+1,false):Nat×Nat×Bool)).1:Nat):Int):Int);obtain⟨t,ht⟩:=exq ((((((11,k.toNat+1,false):Nat×Nat×Bool)).2.1:Nat):Int):Int);obtain⟨w,hw⟩:=exq ((((11,k.toNat+1,false):Nat×Nat×Bool)).2.2:Bool);rw[<-jD,<-ht,<-hw,Q1r];have jD:kd=11:=jD;have ht:t=k+1:=by rw[ht];show((k.toNat+1:Nat):Int)=_;omega
 have hw:w=false:=hw;clear hM jT j1 yh;refine fnN (Q9s false false false false false false 0 0 0 true) func38 rfl fun _ _=>?_
 with_reducible refine cv1 (Q0 l) ?_
 have jC:=QY hn
 have eN:std.int (std.nth (std.cel (std.at_ (Q0 l) (std.add k 1))) 0)=l[(k+1).toNat]?.getD 0:=by
  have e9:(Q0 l).getD (k+1).toNat .dead=.val (.int .i32 (l[(k+1).toNat]?.getD 0)):=by rw[getD_eq_getElem?_getD];exact an
  show RowKit.intOf ((AV.cells ((Q0 l).getD (k+1).toNat .dead)).getD 0 .dead)=_;rw[e9];rfl
 have cNs:BCall prog 85 [.val (.int .i32 (std.int (std.nth (std.cel (std.at_ (Q0 l) (std.add k 1))) 0)))] [] (.val (.bool false)) []:=by rw[eN];exact cN
 with_reducible repeat' first|refine aU (zA jC <| zA ak <| zA an <| zA jL <| zA jq <| zA g9 h0) ?_|refine And.intro ?_ ?_|intro hb
 all_goals first
  |exact c1
  |exact c2
  |exact c3
  |exact c4
  |exact c5
  |exact cNs
  |exact .pure rfl ⟨.inl (by rw[jD]),.inl rfl,.inl (by rw[ht];rfl),.inl (by rw[hw]),trivial⟩
theorem Qjo(l:List Int)(hl:l.length<=1000000000)(hu:Un l)(k:Int)(h0:0<=k)(h1:k<l.length)(hM:NoMark l k.toNat)(jL:l[k.toNat]?.getD 0=60)(jT:¬k+1<l.length):BCall prog 38 [.slc 1 (Q0 l),.val (.int .i64 k)] [] (Q1r ((Qd l k.toNat).1:Nat) k ((Qd l k.toNat).2.1:Nat) (Qd l k.toNat).2.2) []:=by
 have c1:BCall prog 81 [.slc 1 (Q0 l),.val (.int .i64 k),.val (.string ⟨#[60,33,45,45]⟩)] [] (.val (.bool false)) []:=by
  have:=Qa l hl hu.i32 k h0 (by omega) ⟨#[60,33,45,45]⟩ (by decide)
  have e:Q3 l k.toNat (⟨#[60,33,45,45]⟩:ByteArray).data.toList=false:=hM.s1;rw[e]at this;exact this
 have c2:BCall prog 81 [.slc 1 (Q0 l),.val (.int .i64 k),.val (.string ⟨#[60,33,91,67,68,65,84,65,91]⟩)] [] (.val (.bool false)) []:=by
  have:=Qa l hl hu.i32 k h0 (by omega) ⟨#[60,33,91,67,68,65,84,65,91]⟩ (by decide)
  have e:Q3 l k.toNat (⟨#[60,33,91,67,68,65,84,65,91]⟩:ByteArray).data.toList=false:=hM.s2;rw[e]at this;exact this
 have c3:BCall prog 81 [.slc 1 (Q0 l),.val (.int .i64 k),.val (.string ⟨#[60,63]⟩)] [] (.val (.bool false)) []:=by
  have:=Qa l hl hu.i32 k h0 (by omega) ⟨#[60,63]⟩ (by decide)
  have e:Q3 l k.toNat (⟨#[60,63]⟩:ByteArray).data.toList=false:=hM.s3;rw[e]at this;exact this
 have c4:BCall prog 81 [.slc 1 (Q0 l),.val (.int .i64 k),.val (.string ⟨#[60,33,68,79,67,84,89,80,69]⟩)] [] (.val (.bool false)) []:=by
  have:=Qa l hl hu.i32 k h0 (by omega) ⟨#[60,33,68,79,67,84,89,80,69]⟩ (by decide)
  have e:Q3 l k.toNat (⟨#[60,33,68,79,67,84,89,80,69]⟩:ByteArray).data.toList=false:=hM.s4;rw[e]at this;exact this
 have c5:BCall prog 81 [.slc 1 (Q0 l),.val (.int .i64 k),.val (.string ⟨#[60,47]⟩)] [] (.val (.bool false)) []:=by
  have:=Qa l hl hu.i32 k h0 (by omega) ⟨#[60,47]⟩ (by decide)
  have e:Q3 l k.toNat (⟨#[60,47]⟩:ByteArray).data.toList=false:=hM.s5;rw[e]at this;exact this
 have ak:=QN (l:=l) (i:=k) h0 h1;obtain⟨n,hn⟩:=QG l;have jr:=Qx l;have jq:k<n:=by have:=hn.eq;omega
 have qG:n<=1000000000:=by have:=hn.eq;omega
 have g9:¬k+1<n:=by have:=hn.eq;omega
 rw[Q56 jL,hM.markup,if_neg (fun h=>jT (by have:=(Qad.1 h).1;omega))]
 obtain⟨kd,jD⟩:=exq ((((((11,k.toNat+1,false):Nat×Nat×Bool)).1:Nat):Int):Int);obtain⟨t,ht⟩:=exq ((((((11,k.toNat+1,false):Nat×Nat×Bool)).2.1:Nat):Int):Int);obtain⟨w,hw⟩:=exq ((((11,k.toNat+1,false):Nat×Nat×Bool)).2.2:Bool);rw[<-jD,<-ht,<-hw,Q1r];have jD:kd=11:=jD;have ht:t=k+1:=by rw[ht];show((k.toNat+1:Nat):Int)=_;omega
 have hw:w=false:=hw;clear hM jT;refine fnN (Q9s false false false false false false 0 0 0 true) func38 rfl fun _ _=>?_
 with_reducible refine cv1 (Q0 l) ?_
 have jC:=QY hn;with_reducible repeat' first|refine aU (zA jC <| zA ak <| zA jL <| zA jq <| zA g9 h0) ?_|refine And.intro ?_ ?_|intro hb
 all_goals first
  |exact c1
  |exact c2
  |exact c3
  |exact c4
  |exact c5
  |exact .pure rfl ⟨.inl (by rw[jD]),.inl rfl,.inl (by rw[ht];rfl),.inl (by rw[hw]),trivial⟩
theorem QlX(l:List Int)(hl:l.length<=1000000000)(hu:Un l)(k:Int)(h0:0<=k)(h1:k<l.length)(hM:NoMark l k.toNat)(v6:l[k.toNat]?.getD 0=38):BCall prog 38 [.slc 1 (Q0 l),.val (.int .i64 k)] [] (Q1r ((Qd l k.toNat).1:Nat) k ((Qd l k.toNat).2.1:Nat) (Qd l k.toNat).2.2) []:=by
 have c1:BCall prog 81 [.slc 1 (Q0 l),.val (.int .i64 k),.val (.string ⟨#[60,33,45,45]⟩)] [] (.val (.bool false)) []:=by
  have:=Qa l hl hu.i32 k h0 (by omega) ⟨#[60,33,45,45]⟩ (by decide)
  have e:Q3 l k.toNat (⟨#[60,33,45,45]⟩:ByteArray).data.toList=false:=hM.s1;rw[e]at this;exact this
 have c2:BCall prog 81 [.slc 1 (Q0 l),.val (.int .i64 k),.val (.string ⟨#[60,33,91,67,68,65,84,65,91]⟩)] [] (.val (.bool false)) []:=by
  have:=Qa l hl hu.i32 k h0 (by omega) ⟨#[60,33,91,67,68,65,84,65,91]⟩ (by decide)
  have e:Q3 l k.toNat (⟨#[60,33,91,67,68,65,84,65,91]⟩:ByteArray).data.toList=false:=hM.s2;rw[e]at this;exact this
 have c3:BCall prog 81 [.slc 1 (Q0 l),.val (.int .i64 k),.val (.string ⟨#[60,63]⟩)] [] (.val (.bool false)) []:=by
  have:=Qa l hl hu.i32 k h0 (by omega) ⟨#[60,63]⟩ (by decide)
  have e:Q3 l k.toNat (⟨#[60,63]⟩:ByteArray).data.toList=false:=hM.s3;rw[e]at this;exact this
 have c4:BCall prog 81 [.slc 1 (Q0 l),.val (.int .i64 k),.val (.string ⟨#[60,33,68,79,67,84,89,80,69]⟩)] [] (.val (.bool false)) []:=by
  have:=Qa l hl hu.i32 k h0 (by omega) ⟨#[60,33,68,79,67,84,89,80,69]⟩ (by decide)
  have e:Q3 l k.toNat (⟨#[60,33,68,79,67,84,89,80,69]⟩:ByteArray).data.toList=false:=hM.s4;rw[e]at this;exact this
 have c5:BCall prog 81 [.slc 1 (Q0 l),.val (.int .i64 k),.val (.string ⟨#[60,47]⟩)] [] (.val (.bool false)) []:=by
  have:=Qa l hl hu.i32 k h0 (by omega) ⟨#[60,47]⟩ (by decide)
  have e:Q3 l k.toNat (⟨#[60,47]⟩:ByteArray).data.toList=false:=hM.s5;rw[e]at this;exact this
 have ak:=QN (l:=l) (i:=k) h0 h1;obtain⟨n,hn⟩:=QG l;have jr:=Qx l;have jq:k<n:=by have:=hn.eq;omega
 have qG:n<=1000000000:=by have:=hn.eq;omega
 have e:Qd l k.toNat=Q1e l k.toNat:=by
  rw[Qd,getD_eq_getElem?_getD,if_neg (by rw[v6];decide),if_pos v6]
 rw[e];have cT:=Qpj l hl hu k h0 h1;obtain⟨kd,jD⟩:=exq ((((Q1e l k.toNat).1:Nat):Int):Int);obtain⟨t,ht⟩:=exq ((((Q1e l k.toNat).2.1:Nat):Int):Int);obtain⟨w,hw⟩:=exq ((Q1e l k.toNat).2.2:Bool);rw[<-jD,<-ht,<-hw]at cT ⊢;rw[Q1r]at cT ⊢;clear jD ht hw hM e;refine fnN (Q9s false false false false false true kd k t w) func38 rfl fun _ _=>?_
 with_reducible refine cv1 (Q0 l) ?_
 have jC:=QY hn;with_reducible repeat' first|refine aU (zA jC <| zA ak <| zA v6 <| zA jq h0) ?_|refine And.intro ?_ ?_|intro hb
 all_goals first
  |exact c1
  |exact c2
  |exact c3
  |exact c4
  |exact c5
  |exact cT
  |exact .pure rfl ⟨.inl rfl,.inl rfl,.inl rfl,.inl rfl,trivial⟩
theorem QmJ(l:List Int)(hl:l.length<=1000000000)(hu:Un l)(k:Int)(h0:0<=k)(h1:k<l.length)(hM:NoMark l k.toNat)(jo:l[k.toNat]?.getD 0=-1):BCall prog 38 [.slc 1 (Q0 l),.val (.int .i64 k)] [] (Q1r ((Qd l k.toNat).1:Nat) k ((Qd l k.toNat).2.1:Nat) (Qd l k.toNat).2.2) []:=by
 have c1:BCall prog 81 [.slc 1 (Q0 l),.val (.int .i64 k),.val (.string ⟨#[60,33,45,45]⟩)] [] (.val (.bool false)) []:=by
  have:=Qa l hl hu.i32 k h0 (by omega) ⟨#[60,33,45,45]⟩ (by decide)
  have e:Q3 l k.toNat (⟨#[60,33,45,45]⟩:ByteArray).data.toList=false:=hM.s1;rw[e]at this;exact this
 have c2:BCall prog 81 [.slc 1 (Q0 l),.val (.int .i64 k),.val (.string ⟨#[60,33,91,67,68,65,84,65,91]⟩)] [] (.val (.bool false)) []:=by
  have:=Qa l hl hu.i32 k h0 (by omega) ⟨#[60,33,91,67,68,65,84,65,91]⟩ (by decide)
  have e:Q3 l k.toNat (⟨#[60,33,91,67,68,65,84,65,91]⟩:ByteArray).data.toList=false:=hM.s2;rw[e]at this;exact this
 have c3:BCall prog 81 [.slc 1 (Q0 l),.val (.int .i64 k),.val (.string ⟨#[60,63]⟩)] [] (.val (.bool false)) []:=by
  have:=Qa l hl hu.i32 k h0 (by omega) ⟨#[60,63]⟩ (by decide)
  have e:Q3 l k.toNat (⟨#[60,63]⟩:ByteArray).data.toList=false:=hM.s3;rw[e]at this;exact this
 have c4:BCall prog 81 [.slc 1 (Q0 l),.val (.int .i64 k),.val (.string ⟨#[60,33,68,79,67,84,89,80,69]⟩)] [] (.val (.bool false)) []:=by
  have:=Qa l hl hu.i32 k h0 (by omega) ⟨#[60,33,68,79,67,84,89,80,69]⟩ (by decide)
  have e:Q3 l k.toNat (⟨#[60,33,68,79,67,84,89,80,69]⟩:ByteArray).data.toList=false:=hM.s4;rw[e]at this;exact this
 have c5:BCall prog 81 [.slc 1 (Q0 l),.val (.int .i64 k),.val (.string ⟨#[60,47]⟩)] [] (.val (.bool false)) []:=by
  have:=Qa l hl hu.i32 k h0 (by omega) ⟨#[60,47]⟩ (by decide)
  have e:Q3 l k.toNat (⟨#[60,47]⟩:ByteArray).data.toList=false:=hM.s5;rw[e]at this;exact this
 have ak:=QN (l:=l) (i:=k) h0 h1;obtain⟨n,hn⟩:=QG l;have jr:=Qx l;have jq:k<n:=by have:=hn.eq;omega
 have qG:n<=1000000000:=by have:=hn.eq;omega
 have e:Qd l k.toNat=(11,k.toNat+1,false):=by
  rw[Qd,getD_eq_getElem?_getD,if_neg (by rw[jo];decide),if_neg (by rw[jo];decide),if_pos jo]
 rw[e];obtain⟨kd,jD⟩:=exq ((((((11,k.toNat+1,false):Nat×Nat×Bool)).1:Nat):Int):Int);obtain⟨t,ht⟩:=exq ((((((11,k.toNat+1,false):Nat×Nat×Bool)).2.1:Nat):Int):Int);obtain⟨w,hw⟩:=exq ((((11,k.toNat+1,false):Nat×Nat×Bool)).2.2:Bool);rw[<-jD,<-ht,<-hw,Q1r];have jD:kd=11:=jD;have ht:t=k+1:=by rw[ht];show((k.toNat+1:Nat):Int)=_;omega
 have hw:w=false:=hw;clear hM e;refine fnN (Q9s false false false false false false 0 0 0 true) func38 rfl fun _ _=>?_
 with_reducible refine cv1 (Q0 l) ?_
 have jC:=QY hn;with_reducible repeat' first|refine aU (zA jC <| zA ak <| zA jo <| zA jq h0) ?_|refine And.intro ?_ ?_|intro hb
 all_goals first
  |exact c1
  |exact c2
  |exact c3
  |exact c4
  |exact c5
  |exact .pure rfl ⟨.inl (by rw[jD]),.inl rfl,.inl (by rw[ht];rfl),.inl (by rw[hw]),trivial⟩
theorem Qcz(r:Int):Q1O r=true↔r≠60/\r≠38/\r≠-1:=by
 unfold Q1O;simp only[Bool.and_eq_true,bne_iff_ne]
theorem Qic(l:List Int)(hl:l.length<=1000000000)(hu:Un l)(k:Int)(h0:0<=k)(h1:k<l.length)(hM:NoMark l k.toNat)(jL:¬l[k.toNat]?.getD 0=60)(v6:¬l[k.toNat]?.getD 0=38)(jo:¬l[k.toNat]?.getD 0=-1):BCall prog 38 [.slc 1 (Q0 l),.val (.int .i64 k)] [] (Q1r ((Qd l k.toNat).1:Nat) k ((Qd l k.toNat).2.1:Nat) (Qd l k.toNat).2.2) []:=by
 have c1:BCall prog 81 [.slc 1 (Q0 l),.val (.int .i64 k),.val (.string ⟨#[60,33,45,45]⟩)] [] (.val (.bool false)) []:=by
  have:=Qa l hl hu.i32 k h0 (by omega) ⟨#[60,33,45,45]⟩ (by decide)
  have e:Q3 l k.toNat (⟨#[60,33,45,45]⟩:ByteArray).data.toList=false:=hM.s1;rw[e]at this;exact this
 have c2:BCall prog 81 [.slc 1 (Q0 l),.val (.int .i64 k),.val (.string ⟨#[60,33,91,67,68,65,84,65,91]⟩)] [] (.val (.bool false)) []:=by
  have:=Qa l hl hu.i32 k h0 (by omega) ⟨#[60,33,91,67,68,65,84,65,91]⟩ (by decide)
  have e:Q3 l k.toNat (⟨#[60,33,91,67,68,65,84,65,91]⟩:ByteArray).data.toList=false:=hM.s2;rw[e]at this;exact this
 have c3:BCall prog 81 [.slc 1 (Q0 l),.val (.int .i64 k),.val (.string ⟨#[60,63]⟩)] [] (.val (.bool false)) []:=by
  have:=Qa l hl hu.i32 k h0 (by omega) ⟨#[60,63]⟩ (by decide)
  have e:Q3 l k.toNat (⟨#[60,63]⟩:ByteArray).data.toList=false:=hM.s3;rw[e]at this;exact this
 have c4:BCall prog 81 [.slc 1 (Q0 l),.val (.int .i64 k),.val (.string ⟨#[60,33,68,79,67,84,89,80,69]⟩)] [] (.val (.bool false)) []:=by
  have:=Qa l hl hu.i32 k h0 (by omega) ⟨#[60,33,68,79,67,84,89,80,69]⟩ (by decide)
  have e:Q3 l k.toNat (⟨#[60,33,68,79,67,84,89,80,69]⟩:ByteArray).data.toList=false:=hM.s4;rw[e]at this;exact this
 have c5:BCall prog 81 [.slc 1 (Q0 l),.val (.int .i64 k),.val (.string ⟨#[60,47]⟩)] [] (.val (.bool false)) []:=by
  have:=Qa l hl hu.i32 k h0 (by omega) ⟨#[60,47]⟩ (by decide)
  have e:Q3 l k.toNat (⟨#[60,47]⟩:ByteArray).data.toList=false:=hM.s5;rw[e]at this;exact this
 have ak:=QN (l:=l) (i:=k) h0 h1;obtain⟨n,hn⟩:=QG l;have jr:=Qx l;have jq:k<n:=by have:=hn.eq;omega
 have qG:n<=1000000000:=by have:=hn.eq;omega
 have e:Qd l k.toNat=(1,k.toNat+plN l k,true):=by
  rw[Qd,getD_eq_getElem?_getD,if_neg jL,if_neg v6,if_neg jo];rfl
 rw[e];obtain⟨N,hN⟩:∃N:Int,IsN (plN l k) N:=⟨_,rfl⟩;obtain⟨t,ht⟩:=exq (k+N:Int);have yW:(((k.toNat+plN l k:Nat)):Int)=t:=by rw[ht,hN.eq];omega
 show BCall _ _ _ _ (Q1r 1 k ((k.toNat+plN l k:Nat):Int) true) _;rw[yW,Q1r];clear e yW hM;refine fnN (Q9s false false false false false true 0 0 0 true) func38 rfl fun _ _=>?_
 with_reducible refine cv1 (Q0 l) ?_
 have jC:=QY hn;with_reducible repeat' first|refine aU (zA jC <| zA ak <| zA jL <| zA v6 <| zA jo <| zA jq h0) ?_|refine And.intro ?_ ?_|intro hb
 all_goals first
  |exact c1
  |exact c2
  |exact c3
  |exact c4
  |exact c5
  |skip
 refine Q1h (Q9s false false false false false true 0 0 0 true) (Int) (fun i=>⟨[(0,.slc 1 (Q0 l)),(1,.val (.int .i64 k)),(4,.box 0 0),(5,.val (.int .i64 i))],[.box [.val (.int .i64 0),.val (.int .i64 0),.val (.int .i64 0),.val (.bool false)]]⟩) (fun i=>(k<=i/\i<=n)/\i+(plN l i:Nat)=k+N) (fun i=>(n-i).toNat) k ?_ ?_ ?_
 ·exact⟨⟨le_refl _,by omega⟩,by rw[hN.eq]⟩
 ·refine⟨[some 0],_,rfl,?_⟩
  exact eq0
 ·rintro i ⟨⟨vF,vY⟩,hi⟩
  have jN:k<=i:=vF;have jS:i<=n:=vY;have hi:i+(plN l i:Nat)=k+N:=hi;clear vF vY jC ak;by_cases jB:i<n
  ·have j3:i<l.length:=by have:=hn.eq;omega
   have ai:=QN (l:=l) (i:=i) (by omega) j3
   by_cases hp:Q1O (l[i.toNat]?.getD 0)=true
   ·obtain⟨p1,p2,p3⟩:=(Qcz _).1 hp
    have jG:=Qm6 (by omega) j3 hp
    have hJ:i+1+(plN l (i+1):Nat)=k+N:=by omega
    clear hi jG j3 hN hp;with_reducible refine cv1 (Q0 l) ?_
    have jC:=QY hn;with_reducible repeat' first|refine aU (zA jC <| zA ai <| zA jB <| zA jN <| zA h0 <| zA p1 <| zA p2 p3) ?_|refine And.intro ?_ ?_|intro hb
    all_goals
     refine⟨i+1,⟨⟨by omega,by omega⟩,hJ⟩,by omega,[some 0],_,rfl,?_⟩
     exact eq0
   ·have vE:=QeC (l:=l) (i:=i) (by omega) (fun _=>by simpa using hp)
    have xi:t=i:=by omega
    have jm:l[i.toNat]?.getD 0=60\/l[i.toNat]?.getD 0=38\/l[i.toNat]?.getD 0=-1:=by
     by_cases q1:l[i.toNat]?.getD 0=60
     ·exact .inl q1
     ·by_cases q2:l[i.toNat]?.getD 0=38
      ·exact .inr (.inl q2)
      ·by_cases q3:l[i.toNat]?.getD 0=-1
       ·exact .inr (.inr q3)
       ·exact absurd ((Qcz _).2 ⟨q1,q2,q3⟩) hp
    clear hi j3 vE hp hN ht;rcases jm with jm|jm|jm
    all_goals
     with_reducible refine cv1 (Q0 l) ?_
     have jC:=QY hn;with_reducible repeat' first|refine aU (zA jC <| zA ai <| zA jB <| zA jN <| zA h0 jm) ?_|refine And.intro ?_ ?_|intro hb
     all_goals
      rw[if_pos trivial];with_reducible refine cv1 (Q0 l) ?_
      exact .pure rfl ⟨.inl rfl,.inl rfl,.inl (by rw[xi]),.inl rfl,trivial⟩
  ·have vE:=QeC (l:=l) (i:=i) (by omega) (fun h=>absurd (by have:=hn.eq;omega) jB)
   have xi:t=i:=by omega
   clear hi vE hN ht;with_reducible refine cv1 (Q0 l) ?_
   have jC:=QY hn;with_reducible repeat' first|refine aU (zA jC <| zA jB <| zA jN h0) ?_|refine And.intro ?_ ?_|intro hb
   all_goals
    rw[if_pos trivial];with_reducible refine cv1 (Q0 l) ?_
    exact .pure rfl ⟨.inl rfl,.inl rfl,.inl (by rw[xi]),.inl rfl,trivial⟩
theorem Qoj(l:List Int)(hl:l.length<=1000000000)(hu:Un l)(k:Int)(h0:0<=k)(h1:k<l.length):BCall prog 38 [.slc 1 (Q0 l),.val (.int .i64 k)] [] (Q1r ((Qd l k.toNat).1:Nat) k ((Qd l k.toNat).2.1:Nat) (Qd l k.toNat).2.2) []:=by
 cases s1:Q3 l k.toNat [60,33,45,45]with
 |true=>exact Qlh l hl hu k h0 h1 s1
 |false =>
  cases s2:Q3 l k.toNat [60,33,91,67,68,65,84,65,91]with
  |true=>exact QkY l hl hu k h0 h1 s1 s2
  |false =>
   cases s3:Q3 l k.toNat [60,63]with
   |true=>exact QlH l hl hu k h0 h1 s1 s2 s3
   |false =>
    cases s4:Q3 l k.toNat [60,33,68,79,67,84,89,80,69]with
    |true=>exact Qkf l hl hu k h0 h1 s1 s2 s3 s4
    |false =>
     cases s5:Q3 l k.toNat [60,47]with
     |true=>exact QmB l hl hu k h0 h1 s1 s2 s3 s4 s5
     |false =>
      have hM:NoMark l k.toNat:=⟨s1,s2,s3,s4,s5⟩;by_cases jL:l[k.toNat]?.getD 0=60
      ·by_cases jT:k+1<l.length
       ·cases yh:Qf (l[k.toNat+1]?.getD 0)with
        |true=>exact Qjc l hl hu k h0 h1 hM jL jT yh
        |false=>exact Qjz l hl hu k h0 h1 hM jL jT yh
       ·exact Qjo l hl hu k h0 h1 hM jL jT
      ·by_cases v6:l[k.toNat]?.getD 0=38
       ·exact QlX l hl hu k h0 h1 hM v6
       ·by_cases jo:l[k.toNat]?.getD 0=-1
        ·exact QmJ l hl hu k h0 h1 hM jo
        ·exact Qic l hl hu k h0 h1 hM jL v6 jo
def Qqq(kd to:Int->Int)(wh:Int->Bool):Nat->List AV->List Ob->Option (AV×List Ob):=fun f args _=>match f,args with
 |38,[.slc 1 _,.val (.int .i64 k)]=>some (.agg [.val (.int .i64 (kd k)),.val (.int .i64 k),.val (.int .i64 (to k)),.val (.bool (wh k))],[])
 |_,_=>none
theorem QiS(l:List Int)(hl:l.length<=1000000)(hu:Un l):BCall prog 17 [.slc 1 (Q0 l)] [] (.slc 4 (QS (Q2E l))) []:=by
 obtain⟨n,hn⟩:=QG l;have jr:=Qx l;obtain⟨kd,jD⟩:=exq (fun k:Int=>(((Qd l k.toNat).1:Nat):Int):Int->Int)
 obtain⟨to,zN⟩:=exq (fun k:Int=>(((Qd l k.toNat).2.1:Nat):Int):Int->Int)
 obtain⟨wh,xO⟩:=exq (fun k:Int=>(Qd l k.toNat).2.2:Int->Bool)
 have cN:∀k:Int,0<=k->k<n->BCall prog 38 [.slc 1 (Q0 l),.val (.int .i64 k)] [] (.agg [.val (.int .i64 (kd k)),.val (.int .i64 k),.val (.int .i64 (to k)),.val (.bool (wh k))]) []:=fun k k0 k1=>by
  rw[jD,zN,xO];exact Qoj l (by omega) hu k k0 (by have:=hn.eq;omega)
 have jb:∀k:Int,0<=k->k<n->k<to k/\to k<=n/\(Q13 l k.toNat)=⟨kd k,k,to k,wh k⟩/\(to k).toNat=(Qd l k.toNat).2.1:=fun k k0 k1=>by
  have h:=Q2a l k.toNat (by have:=hn.eq;omega)
  have e:=hn.eq;rw[zN,jD,xO];refine⟨by simp only;omega,by simp only;omega,?_,by simp only;omega⟩
  simp only[Q13,toNat_of_nonneg k0]
 have qG:n<=1000000:=by have:=hn.eq;omega
 clear jD zN xO;refine fnN (Qqq kd to wh) func17 rfl fun _ _=>?_
 with_reducible refine cv1 (Q0 l) ?_
 refine Q1h (Qqq kd to wh) (List Tok×Int) (fun x=>⟨[(0,.slc 1 (Q0 l)),(3,.row 0 0),(4,.val (.int .i64 x.2))],[.row 52 4 false 0 (QS x.1)]⟩) (fun x=>0<=x.2/\x.2<=n/\x.1++Q1L l x.2.toNat=Q2E l/\(x.1.length:Int)<=x.2) (fun x=>(n-x.2).toNat) ([],0) ?_ ?_ ?_
 ·have:=hn.eq
  exact⟨by simp only;omega,by simp only;omega,rfl,by simp⟩
 ·exact⟨[none],_,rfl,by simp[Qm,lk,QS]⟩
 ·rintro⟨out,k⟩ ⟨js,jj,j6,j2⟩
  simp only at js jj j6 j2
  have jR:=Q7L out;have n8:out.length<=1000000:=by omega
  obtain⟨q,hq⟩:=QG out;have qE:q<=k:=by rw[hq.eq];exact j2
  by_cases hk:k<n
  ·obtain⟨s1,s2,s3,s4⟩:=jb k js hk
   have cNk:=cN k js hk
   have hG:out++[⟨kd k,k,to k,wh k⟩]++Q1L l (to k).toNat=Q2E l:=by
    have e:=hn.eq;rw[<-j6,Q1w (k:=k.toNat) (by omega),s3,s4];simp
   clear s3 s4;with_reducible refine cv2 (Q0 l) (QS out) ?_
   have eq:=hq.eq;have jC:=QY hn;with_reducible repeat' first|refine aU (zA jR <| zA jC <| zA hk js) ?_|refine And.intro ?_ ?_|intro hb
   all_goals exact⟨(out++[⟨kd k,k,to k,wh k⟩],to k),⟨by simp only;omega,s2,hG,by show((out++[_]).length:Int)<=to k;simp only[List.length_append,List.length_singleton];omega⟩,by simp only;omega,[some 0],_,rfl,by simp[Qm,lk,std,Qf8,QdT]⟩
  ·have hG:out=Q2E l:=by
    have e:=hn.eq;rw[<-j6,Q1a (by omega),List.append_nil]
   with_reducible refine cv2 (Q0 l) (QS out) ?_
   have jC:=QY hn;with_reducible repeat' first|refine aU (zA jC hk) ?_|refine And.intro ?_ ?_|intro hb
   all_goals
    rw[if_pos trivial];with_reducible refine cv2 (Q0 l) (QS out) ?_
    exact .pure rfl (.inl (by rw[hG]))
theorem Q9O{l:List Int}{to i:Int}(h0:0<=i)(h1:i<to):(l.take to.toNat)[i.toNat]?.getD 0=l[i.toNat]?.getD 0:=by
 rw[List.getElem?_take,if_pos (by omega)]
theorem QiN(l:List Int)(hl:l.length<=1000000000)(k to:Int)(h0:0<=k)(h1:k<to)(h2:to<=l.length):BCall prog 123 [.slc 1 (Q0 l),.val (.int .i64 k),.val (.int .i64 to)] [] (.val (.int .i64 (Qu (l.take to.toNat) k))) []:=by
 obtain⟨n,hn⟩:=QG l;obtain⟨R,hR⟩:=exq (Qu (l.take to.toNat) k:Int);rw[<-hR];have jr:=Qx l;obtain⟨L,hL⟩:=exq (l.take to.toNat);have qV:(L.length:Int)=to:=by rw[hL,length_take];omega
 have hLa:∀i:Int,0<=i->i<to->rAt L i=l[i.toNat]?.getD 0:=fun i i0 i1=>by rw[hL];exact Q9O i0 i1
 obtain⟨q,hq⟩:=exq (rAt L k)
 have hk:Q16 L k.toNat=Q2p L q (k+1).toNat:=by
  rw[Q16,getD_eq_getElem?_getD,hq,rAt,show(k+1).toNat=k.toNat+1 by omega]
 rw[<-hL,Qu,hk]at hR;have hqk:q=l[k.toNat]?.getD 0:=by rw[hq];exact hLa k h0 h1
 have ak:=QN (l:=l) h0 (by omega)
 have qZ:to<=n:=by have:=hn.eq;omega
 have qG:n<=1000000000:=by have:=hn.eq;omega
 obtain⟨tl,cG⟩:∃tl:Int,Len L tl:=QG L;have jE:tl=to:=by rw[cG.eq,qV]
 clear hk hq hL qV h2;refine fnN (cs0) func123 rfl fun _ _=>?_
 with_reducible refine cv1 (Q0 l) ?_
 have jC:=QY hn;with_reducible repeat' first|refine aU (zA jC <| zA h1 qZ) ?_|refine And.intro ?_ ?_|intro hb
 refine Q1h (cs0) (Int) (fun i=>⟨[(0,.slc 1 (Q0 l)),(1,.val (.int .i64 k)),(2,.val (.int .i64 to)),(7,.val (.int .i64 i))],[]⟩) (fun i=>k+1<=i/\i<=to/\Q2p L q i.toNat=Q2p L q (k+1).toNat) (fun i=>(to-i).toNat) (k+1) ?_ ?_ ?_
 ·exact⟨le_refl _,by omega,rfl⟩
 ·refine⟨[],_,rfl,?_⟩
  exact eq0
 ·rintro i ⟨jN,jS,hi⟩
  have jN:k+1<=i:=jN;have jS:i<=to:=jS;have hi:Q2p L q i.toNat=Q2p L q (k+1).toNat:=hi;rcases Int.lt_or_eq_of_le jS with jB|j4
  ·have ai:=QN (l:=l) (i:=i) (by omega) (by have:=hn.eq;omega)
   have jG:=Qh2 (l:=L) (q:=q) (i:=i) (by omega) (by have:=cG.eq;omega)
   rw[hi,hLa i (by omega) jB]at jG
   clear jC hi;with_reducible refine cv1 (Q0 l) ?_
   have jC:=QY hn;with_reducible repeat' first|refine aU (zA ai <| zA ak <| zA jC <| zA jB <| zA jN qZ) ?_|refine And.intro ?_ ?_|intro hb
   ·have j9:l[i.toNat]?.getD 0=q:=by rw[hqk];simpa[std,ai,ak,AV.cells,RowKit.intOf]using hb
    have qz:R=i+1:=by rw[hR,jG,if_pos j9,if_pos rfl];show(((i+1).toNat:Nat):Int)=_;omega
    with_reducible refine cv1 (Q0 l) ?_
    refine .pure rfl (.inl ?_);rw[qz];rfl
   ·have j9:¬l[i.toNat]?.getD 0=q:=by rw[hqk];simpa[std,ai,ak,AV.cells,RowKit.intOf]using hb
    rw[if_neg j9]at jG;refine⟨i+1,⟨by omega,by omega,jG.symm⟩,by omega,[],_,rfl,?_⟩
    exact eq0
  ·have vh:Q2p L q i.toNat=(L.length,false):=by rw[Q2p,dif_neg (by have:=cG.eq;omega)]
   have qz:R=-1:=by rw[hR,<-hi,vh];rfl
   rw[j4];clear jC hi vh;with_reducible refine cv1 (Q0 l) ?_
   have jC:=QY hn;with_reducible repeat' first|refine aU jC ?_|refine And.intro ?_ ?_|intro hb
   ·rw[if_pos trivial]
    with_reducible refine cv1 (Q0 l) ?_
    refine .pure rfl (.inl ?_);rw[qz]
end
def QK(l:List Int)(k to:Int):List Int:=(l.take to.toNat).drop k.toNat
theorem Qfe(L:List Int)(k:Nat)(bs:List UInt8):Q3 (L.drop k) 0 bs=Q3 L k bs:=by
 unfold Q3;rw[drop_zero]
theorem Qii(L:List Int)(k:Nat):Qk (L.drop k) 0=Qk L k:=by
 unfold Qk;rw[List.getElem?_drop,Nat.add_zero,drop_zero]
theorem QlL(p:Int->Bool)(r:List Int):Q2L p r 0=(r.takeWhile p).length:=by
 rw[Q2L,if_neg (by omega)];rfl
theorem Qfn(L:List Int)(q:Int):∀(n k:Nat),L.length-k<=n->Q2p L q k=match(L.drop k).findIdx? (· == q)with
  |some j=>(k+j+1,true)
  |none=>(L.length,false)
 |0,k,h=>by
  rw[Q3O L q k (by omega),drop_of_length_le (by omega)];rfl
 |n+1,k,h=>by
  by_cases hk:k<L.length
  ·rw[drop_eq_getElem_cons hk,List.findIdx?_cons]
   by_cases hq:L[k]=q
   ·rw[Q6q L q k hk hq,if_pos (by simpa using hq)]
   ·rw[Q5J L q k hk hq,if_neg (by simpa using hq),Qfn L q n (k+1) (by omega)]
    cases(L.drop (k+1)).findIdx? (· == q)with
    |none=>rfl
    |some j=>simp only[Option.map_some];congr 1;omega
  ·rw[Q3O L q k hk,drop_of_length_le (by omega)];rfl
structure Rng (l:List Int) (k to:Int):Prop where
 h0:0<=k
 h1:k<to
 h2:to<=l.length
section
variable {l:List Int}{k to:Int}
theorem Rng.len(h:Rng l k to):((QK l k to).length:Int)=to-k:=by
 have:=h.h0;have:=h.h1;have:=h.h2
 rw[QK,List.length_drop,length_take];omega
theorem Rng.ne(h:Rng l k to):QK l k to≠[]:=fun e=>by
 have h1:=h.len;have:=h.h1
 rw[e]at h1;simp at h1;omega
theorem Rng.at_(h:Rng l k to){i:Int}(i0:0<=i)(i1:k+i<to):(QK l k to).getD i.toNat 0=l[(k+i).toNat]?.getD 0:=by
 have:=h.h0
 rw[QK,getD_eq_getElem?_getD,List.getElem?_drop,List.getElem?_take,if_pos (by omega)]
 congr 2
 omega
theorem Rng.head(h:Rng l k to):(QK l k to).getD 0 0=l[k.toNat]?.getD 0:=by
 have:=h.at_ (i:=0) (le_refl _) (by have:=h.h1;omega)
 rw[Int.add_zero]at this;exact this
theorem Rng.val(h:Rng l k to)(hq:l[k.toNat]?.getD 0=34\/l[k.toNat]?.getD 0=39):(0<Q1t (QK l k to)/\Qu (l.take to.toNat) k=k+Q1t (QK l k to))\/(Q1t (QK l k to)=0/\Qu (l.take to.toNat) k=-1):=by
 have h0:=h.h0;have h1:=h.h1
 have hqd:Q16 (l.take to.toNat) k.toNat=Q2p (l.take to.toNat) (l[k.toNat]?.getD 0) (k.toNat+1):=by
  rw[Q16,getD_eq_getElem?_getD,Q9O h0 h1]
 have hd:(QK l k to).drop 1=(l.take to.toNat).drop (k.toNat+1):=by rw[QK,List.drop_drop]
 rw[Qu,hqd,Qfn _ _ _ _ (Nat.le_refl _)];unfold Q1t;rw[h.head,if_pos hq,hd];cases((l.take to.toNat).drop (k.toNat+1)).findIdx? (· == l[k.toNat]?.getD 0)with
 |none=>exact .inr ⟨rfl,rfl⟩
 |some j =>
  refine .inl ⟨by show(0:Int)<(j:Int)+2;omega,?_⟩
  show((k.toNat+1+j+1:Nat):Int)=k+((j:Int)+2)
  omega
theorem Rng.noval(h:Rng l k to)(hq:¬(l[k.toNat]?.getD 0=34\/l[k.toNat]?.getD 0=39)):Q1t (QK l k to)=0:=by
 unfold Q1t;rw[h.head,if_neg hq]
def Q6z(l:List Int)(k to:Int):Prop:=(k+1=to/\l[k.toNat]?.getD 0=62)\/(k+2=to/\l[k.toNat]?.getD 0=47/\l[(k+1).toNat]?.getD 0=62)
theorem Rng.ends(h:Rng l k to):((((QK l k to).length:Int)=2/\Q3 (QK l k to) 0 [47,62]=true)\/(((QK l k to).length:Int)=1/\(QK l k to).getD 0 0=62))↔Q6z l k to:=by
 have hl:=h.len;unfold Q6z;rw[h.head];constructor
 ·rintro(⟨e1,e2⟩|⟨e1,e2⟩)
  ·have a0:=Q6G e2 (i:=0) (by decide)
   have a1:=Q6G e2 (i:=1) (by decide)
   have b0:=h.head;have b1:=h.at_ (i:=1) (by decide) (by omega)
   rw[getD_eq_getElem?_getD]at b0 b1;have a0:(QK l k to)[0]?=some 47:=a0;have a1:(QK l k to)[1]?=some 62:=a1;rw[a0]at b0;rw[show(1:Int).toNat=1 from rfl,a1]at b1;exact .inr ⟨by omega,b0.symm,b1.symm⟩
  ·exact .inl ⟨by omega,e2⟩
 ·rintro(⟨e1,e2⟩|⟨e1,e2,e3⟩)
  ·exact .inr ⟨by omega,e2⟩
  ·refine .inl ⟨by omega,?_⟩
   have b0:=h.head;have b1:=h.at_ (i:=1) (by decide) (by omega)
   rw[e2]at b0;rw[e3]at b1;generalize QK l k to=r at *;match r,hl with
   | [x,y],_ =>
    have b0:x=47:=b0;have b1:y=62:=b1;subst b0 b1;rfl
   | [],hl=>simp at hl;omega
   | [_],hl=>simp at hl;omega
   |_::_::_::_,hl=>simp at hl;omega
end
def Q12(l:List Int)(f k to:Int):Int×Int:=Qj (QK l k to) (decide (k=f))
section
open Tryz
def Q4T(l:List Int)(k to:Int):Int×Int :=
 if 0<(Q2L Qb (QK l k to) 0:Int)then(3,(Q2L Qb (QK l k to) 0:Int))
 else if 0<(Qk (QK l k to) 0:Int)then(2,(Qk (QK l k to) 0:Int))
 else if(QK l k to).getD 0 0=61 then(4,1)
 else if 0<Q1t (QK l k to)then(5,Q1t (QK l k to))
 else if(((QK l k to).length:Int)=2/\Q3 (QK l k to) 0 [47,62]=true)\/(((QK l k to).length:Int)=1/\(QK l k to).getD 0 0=62)then(6,((QK l k to).length:Int))
 else(7,1)
theorem Rng.part_tail{l:List Int}{f k to:Int}(h:Rng l k to)(hF:¬(k=f/\l[k.toNat]?.getD 0=60)):Q12 l f k to=Q4T l k to:=by
 have n2:¬(decide (k=f)=true/\(QK l k to).getD 0 0=60):=fun e=>hF ⟨of_decide_eq_true e.1,by rw[<-h.head];exact e.2⟩
 have n1:¬(decide (k=f)=true/\Q3 (QK l k to) 0 [60,47]=true):=fun e=>n2 ⟨e.1,by rw[getD_eq_getElem?_getD];exact Q4A e.2⟩
 rw[Q12,Qj,if_neg n1,if_neg n2];rfl
def spN(l:List Int)(i to:Int):Nat:=((QK l i to).takeWhile Qb).length
theorem Qfv{l:List Int}{i to:Int}(h:Rng l i to):QK l i to=l[i.toNat]?.getD 0::QK l (i+1) to:=by
 have h0:=h.h0;have h1:=h.h1;have h2:=h.h2;have hl:i.toNat<(l.take to.toNat).length:=by rw[length_take];omega
 have e:(l.take to.toNat)[i.toNat]=l[i.toNat]?.getD 0:=by
  rw[<-Q9O h0 h1,List.getElem?_eq_getElem hl];rfl
 rw[QK,QK,drop_eq_getElem_cons hl,e,show(i+1).toNat=i.toNat+1 by omega]
theorem QlE{l:List Int}{i to:Int}(h:Rng l i to)(hs:Qb (l[i.toNat]?.getD 0)=true):spN l i to=spN l (i+1) to+1:=by
 rw[spN,Qfv h,takeWhile_cons,if_pos hs,length_cons];rfl
theorem Q27{l:List Int}{i to:Int}(h0:0<=i)(hs:i<to->Rng l i to/\Qb (l[i.toNat]?.getD 0)=false):spN l i to=0:=by
 by_cases h1:i<to
 ·obtain⟨h,hs⟩:=hs h1
  rw[spN,Qfv h,takeWhile_cons,if_neg (by rw[hs];decide)];rfl
 ·rw[spN,QK,drop_of_length_le (by rw[length_take];omega)];rfl
theorem Qp5(l:List Int)(k to:Int):(Q2L Qb (QK l k to) 0:Int)=(spN l k to:Nat):=by rw[QlL,spN]
theorem QkB(l:List Int)(k to:Int):Qk (QK l k to) 0=Qk (l.take to.toNat) k.toNat:=by rw[QK,Qii]
theorem Qly(l:List Int){to:Int}(h0:0<=to):std.cut (Q0 l) 0 to=Q0 (l.take to.toNat):=by
 show((Q0 l).drop (0:Int).toNat).take (to-0).toNat=_
 rw[show(0:Int).toNat=0 from rfl,drop_zero,Int.sub_zero];simp[Q0,List.map_take]
theorem Qn2{l:List Int}(h:Un l)(n:Nat):Un (l.take n):=fun x hx=>h x (List.mem_of_mem_take hx)
def Q6m(st:Bool)(sp:Int->Bool)(m F:Int):Nat->List AV->List Ob->Option (AV×List Ob):=fun f args _=>match f,args with
 |81,[.slc 1 _,.val (.int .i64 _),.val (.string _)]=>some (.val (.bool st),[])
 |122,[.val (.int .i32 r)]=>some (.val (.bool (sp r)),[])
 |121,[.slc 1 _,.val (.int .i64 _)]=>some (.val (.int .i64 m),[])
 |123,[.slc 1 _,.val (.int .i64 _),.val (.int .i64 _)]=>some (.val (.int .i64 F),[])
 |_,_=>none
def Q1T(q:Int×Int)(k:Int):AV:=.agg [.val (.int .i64 q.1),.val (.int .i64 k),.val (.int .i64 (k+q.2))]
theorem QmE(L:List Int)(k:Nat):Qk L k<=L.length-k:=by
 unfold Qk;split
 ·omega
 ·split
  ·have:=(List.takeWhile_sublist Qp (l:=L.drop k)).length_le
   rw[List.length_drop]at this;omega
  ·omega
def spI(l:List Int)(i to:Int):Int:=(spN l i to:Nat)
theorem QpV(l:List Int)(i to:Int):0<=spI l i to:=Int.natCast_nonneg _
theorem Qe6{l:List Int}{i to:Int}(h:Rng l i to)(hs:Qb (l[i.toNat]?.getD 0)=true):spI l i to=spI l (i+1) to+1:=by
 rw[spI,QlE h hs,spI];rfl
theorem Qec{l:List Int}{i to:Int}(h0:0<=i)(hs:i<to->Rng l i to/\Qb (l[i.toNat]?.getD 0)=false):spI l i to=0:=by
 rw[spI,Q27 h0 hs];rfl
theorem Q3g{l:List Int}(hl:l.length<=1000000000)(hu:Un l){k to:Int}(h:Rng l k to):∃(n:Int) (T:List AV),T=Q0 (l.take to.toNat)/\Len l n/\0<=k/\k<to/\to<=l.length/\((l.take to.toNat).length:Int)=to /\
  BCall prog 81 [.slc 1 T,.val (.int .i64 k),.val (.string ⟨#[60,47]⟩)] [] (.val (.bool (Q3 (l.take to.toNat) k.toNat (⟨#[60,47]⟩:ByteArray).data.toList))) [] /\
  BCall prog 121 [.slc 1 T,.val (.int .i64 k)] [] (.val (.int .i64 (Qk (l.take to.toNat) k.toNat))) []/\Qk (l.take to.toNat) k.toNat<=(l.take to.toNat).length-k.toNat /\
  BCall prog 123 [.slc 1 (Q0 l),.val (.int .i64 k),.val (.int .i64 to)] [] (.val (.int .i64 (Qu (l.take to.toNat) k))) []/\std.cut (Q0 l) 0 to=T /\
  Q3 (QK l k to) 0 [60,47]=Q3 (l.take to.toNat) k.toNat [60,47]/\Qk (QK l k to) 0=Qk (l.take to.toNat) k.toNat/\(Q2L Qb (QK l k to) 0:Int)=(spN l k to:Nat)/\(QK l k to).getD 0 0=l[k.toNat]?.getD 0 /\
  (Q0 l)[k.toNat]?.getD .dead=.val (.int .i32 (l[k.toNat]?.getD 0))/\(Q0 l).length=l.length/\to<=n/\n<=1000000000:=by
 have h0:=h.h0;have h1:=h.h1;have h2:=h.h2;have qV:((l.take to.toNat).length:Int)=to:=by rw[length_take];omega
 exact⟨l.length,_,rfl,rfl,h0,h1,h2,qV,Qa (l.take to.toNat) (by omega) (Qn2 hu _).i32 k h0 (by omega) ⟨#[60,47]⟩ (by decide),Q4w (l.take to.toNat) (by omega) k h0 (by omega),QmE _ _,QiN l hl k to h0 h1 h2,Qly l (to:=to) (by omega),by rw[QK,Qfe],QkB l k to,Qp5 l k to,h.head,QN (l:=l) (i:=k) h0 (by omega),Qx l,h2,by omega⟩
theorem Q4n{l:List Int}{k:Int}(ak:(Q0 l)[k.toNat]?.getD .dead=.val (.int .i32 (l[k.toNat]?.getD 0))):BCall prog 122 [.val (.int .i32 (std.int (std.nth (std.cel (std.at_ (Q0 l) k)) 0)))] [] (.val (.bool (Qb (std.int (std.nth (std.cel (std.at_ (Q0 l) k)) 0))))) []:=Q9X _
theorem QfE(l:List Int)(hl:l.length<=1000000000)(hu:Un l)(f k to:Int)(h:Rng l k to)(jL:¬l[k.toNat]?.getD 0=60)(j8:Qb (l[k.toNat]?.getD 0)=true):BCall prog 88 [.slc 1 (Q0 l),.val (.int .i64 f),.val (.int .i64 k),.val (.int .i64 to)] [] (Q1T (Q12 l f k to) k) []:=by
 obtain⟨n,T,jY,hn,h0,h1,h2,qV,cS,cL,jJ,cQ,cc,jG,je,jp,qC,ak,jr,qZ,qG⟩:=Q3g hl hu h;have hF:¬(k=f/\l[k.toNat]?.getD 0=60):=fun e=>jL e.2
 obtain⟨s,hs⟩:=exq (spI l k to:Int)
 have hP:Q12 l f k to=(3,s):=by
  have e:=Qe6 h j8;have e2:=QpV l (k+1) to;rw[h.part_tail hF,Q4T,jp,show((spN l k to:Nat):Int)=s from hs.symm,if_pos (by omega)]
 obtain⟨kd,jD⟩:=exq (3:Int);obtain⟨tt,jE⟩:=exq (k+s:Int);have jx:Q1T (Q12 l f k to) k=.agg [.val (.int .i64 kd),.val (.int .i64 k),.val (.int .i64 tt)]:=by rw[hP,jD,jE];rfl
 rw[jx];clear hP jx;clear jG jp qC jJ cS cL cQ je jY qV hF;refine fnN (Q6m true Qb 0 0) func88 rfl fun _ _=>?_
 with_reducible refine cv2 (Q0 l) Qb ?_
 have jC:=QY hn;have cSp2:=Q4n ak;with_reducible repeat' first|refine aU (zA jC <| zA ak <| zA h0 <| zA h1 <| zA qZ <| zA j8 jL) ?_|refine And.intro ?_ ?_|intro hb
 all_goals first
  |exact cSp2
  |skip
 all_goals
  refine Q1h (Q6m true Qb 0 0) (Int) (fun i=>⟨[(0,.slc 1 (Q0 l)),(1,.val (.int .i64 f)),(2,.val (.int .i64 k)),(3,.val (.int .i64 to)),(8,.box 0 0),(9,.val (.int .i64 i))],[.box [.val (.int .i64 0),.val (.int .i64 0),.val (.int .i64 0)]]⟩) (fun i=>k<=i/\i<=to/\spI l i to+(i-k)=s) (fun i=>(to-i).toNat) k ?_ ?_ ?_
  ·exact⟨le_refl _,by omega,by rw[hs];omega⟩
  ·refine⟨[some 0],_,rfl,?_⟩
   exact eq0
  ·rintro i ⟨jN,jS,hi⟩
   have jN:k<=i:=jN;have jS:i<=to:=jS;have hi:spI l i to+(i-k)=s:=hi;rcases Int.lt_or_eq_of_le jS with jB|j4
   ·have hR:Rng l i to:=⟨by omega,jB,h2⟩
    have ai:=QN (l:=l) (i:=i) (by omega) (by omega)
    have cSi:=Q9X (l[i.toNat]?.getD 0);have e9i:(Q0 l).getD i.toNat .dead=.val (.int .i32 (l[i.toNat]?.getD 0)):=by rw[getD_eq_getElem?_getD];exact ai
    have eIi:std.int (std.nth (std.cel (std.at_ (Q0 l) i)) 0)=l[i.toNat]?.getD 0:=by
     show RowKit.intOf ((AV.cells ((Q0 l).getD i.toNat .dead)).getD 0 .dead)=_;rw[e9i];rfl
    have cSi2:BCall prog 122 [.val (.int .i32 (std.int (std.nth (std.cel (std.at_ (Q0 l) i)) 0)))] [] (.val (.bool (Qb (std.int (std.nth (std.cel (std.at_ (Q0 l) i)) 0))))) []:=by rw[eIi];exact cSi
    cases ny:Qb (l[i.toNat]?.getD 0)with
    |true =>
     have jG:=Qe6 hR ny;have jM:spI l (i+1) to+(i+1-k)=s:=by omega
     clear jG hi hs jC;with_reducible refine cv2 (Q0 l) Qb ?_
     have jC:=QY hn;with_reducible repeat' first|refine aU (zA jC <| zA ai <| zA h0 <| zA jN <| zA jB <| zA qZ ny) ?_|refine And.intro ?_ ?_|intro hb
     all_goals first
      |exact cSi2
      |skip
     refine⟨i+1,⟨by omega,by omega,jM⟩,by omega,[some 0],_,rfl,?_⟩
     exact eq0
    |false =>
     have jG:=Qec (l:=l) (i:=i) (to:=to) (by omega) (fun _=>⟨hR,ny⟩)
     have xi:tt=i:=by rw[jE];omega
     clear jG hi hs jC;with_reducible refine cv2 (Q0 l) Qb ?_
     have jC:=QY hn;with_reducible repeat' first|refine aU (zA jC <| zA ai <| zA h0 <| zA jN <| zA jB <| zA qZ ny) ?_|refine And.intro ?_ ?_|intro hb
     all_goals first
      |exact cSi2
      |skip
     rw[if_pos trivial];with_reducible refine cv1 (Q0 l) ?_
     exact .pure rfl ⟨.inl (by rw[jD]),.inl rfl,.inl (by rw[xi]),trivial⟩
   ·have jG:=Qec (l:=l) (i:=i) (to:=to) (by omega) (fun h9=>absurd h9 (by omega))
    have xi:tt=i:=by rw[jE];omega
    clear jG hi hs jC;have jB:¬i<to:=by omega
    with_reducible refine cv2 (Q0 l) Qb ?_
    have jC:=QY hn;with_reducible repeat' first|refine aU (zA jC <| zA h0 <| zA jN <| zA jB qZ) ?_|refine And.intro ?_ ?_|intro hb
    rw[if_pos trivial];with_reducible refine cv1 (Q0 l) ?_
    exact .pure rfl ⟨.inl (by rw[jD]),.inl rfl,.inl (by rw[xi]),trivial⟩
theorem Qj5(l:List Int)(hl:l.length<=1000000000)(hu:Un l)(f k to:Int)(h:Rng l k to)(jL:¬l[k.toNat]?.getD 0=60)(j8:Qb (l[k.toNat]?.getD 0)=false)(jF:Qk (l.take to.toNat) k.toNat=0)(jy:¬l[k.toNat]?.getD 0=61)(qK:¬(l[k.toNat]?.getD 0=34\/l[k.toNat]?.getD 0=39))(j0:¬l[k.toNat]?.getD 0=62)(vI:¬l[k.toNat]?.getD 0=47):BCall prog 88 [.slc 1 (Q0 l),.val (.int .i64 f),.val (.int .i64 k),.val (.int .i64 to)] [] (Q1T (Q12 l f k to) k) []:=by
 obtain⟨n,T,jY,hn,h0,h1,h2,qV,cS,cL,jJ,cQ,cc,jG,je,jp,qC,ak,jr,qZ,qG⟩:=Q3g hl hu h;have hF:¬(k=f/\l[k.toNat]?.getD 0=60):=fun e=>jL e.2
 have jZ:spN l k to=0:=Q27 h0 (fun _=>⟨h,j8⟩)
 have n3:¬(0<(Q2L Qb (QK l k to) 0:Int)):=by rw[jp,jZ];decide
 obtain⟨m,hm⟩:=exq ((Qk (l.take to.toNat) k.toNat:Nat):Int);have qU:0<=m:=by omega
 have vZ:k+m<=to:=by omega
 rw[<-hm]at cL;have n4:¬(0<(Qk (QK l k to) 0:Int)):=by rw[je,jF];decide
 have vk:m=0:=by rw[hm,jF];rfl
 have qq:¬0<m:=by omega
 have n5:¬((QK l k to).getD 0 0=61):=by rw[qC];exact jy
 obtain⟨F,qc⟩:=exq (Qu (l.take to.toNat) k:Int);rw[<-qc]at cQ;have n6:¬(0<Q1t (QK l k to)):=by rw[h.noval qK];decide
 have q34:¬l[k.toNat]?.getD 0=34:=fun e=>qK (.inl e)
 have q39:¬l[k.toNat]?.getD 0=39:=fun e=>qK (.inr e)
 have hE:¬Q6z l k to:=by
  rintro(⟨_,e⟩|⟨_,e,_⟩)
  ·exact j0 e
  ·exact vI e
 have hP:Q12 l f k to=(7,1):=by rw[h.part_tail hF,Q4T,if_neg n3,if_neg n4,if_neg n5,if_neg n6,if_neg (fun e=>hE (h.ends.1 e))]
 obtain⟨kd,jD⟩:=exq (7:Int);obtain⟨tt,jE⟩:=exq (k+1:Int);have jx:Q1T (Q12 l f k to) k=.agg [.val (.int .i64 kd),.val (.int .i64 k),.val (.int .i64 tt)]:=by rw[hP,jD,jE];rfl
 rw[jx];clear hP jx;clear jG jp qC jJ cS jY qV hF je n3 n4 n5 n6 hm jF jZ vk qc hE;refine fnN (Q6m true Qb m F) func88 rfl fun _ _=>?_
 with_reducible refine cv2 (Q0 l) Qb ?_
 have jC:=QY hn;have cSp2:=Q4n ak;have cL2:BCall prog 121 [.slc 1 (std.cut (Q0 l) 0 to),.val (.int .i64 k)] [] (.val (.int .i64 m)) []:=by rw[cc];exact cL
 with_reducible repeat' first|refine aU (zA jC <| zA ak <| zA h0 <| zA h1 <| zA qZ <| zA jL <| zA j8 <| zA qq <| zA vZ <| zA jy <| zA q34 <| zA q39 <| zA j0 vI) ?_|refine And.intro ?_ ?_|intro hb
 all_goals first
  |exact cSp2
  |exact cL2
  |exact cQ
  |exact .pure rfl ⟨.inl (by rw[jD]),.inl rfl,.inl (by first|(rw[jE];done)|(rw[jE];rfl)),trivial⟩
