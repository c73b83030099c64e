/- Lemmas; conditions told. -/
import Derived.Test.YtibemhahkicbpaaGreatQJ34
set_option maxRecDepth 99999
set_option maxHeartbeats 0
set_option linter.unusedSimpArgs false
set_option linter.unusedVariables false
namespace Go.Proofs.YtibemhahkicbpaaGreat
open Go.RowKit Go.Lib
section
open Tryz
theorem Qap{l:List Int}{k:Nat}:0<Qj l k↔k<l.length/\Qp (l[k]?.getD 0)=true:=by
 unfold Qj;by_cases h:k<l.length
 ·rw[List.getElem?_eq_getElem h]
  show 0<(if Qp l[k]=true then((l.drop k).takeWhile Qq).length else 0)↔k<l.length/\Qp l[k]=true;by_cases hs:Qp l[k]=true
  ·rw[if_pos hs,List.drop_eq_getElem_cons h,List.takeWhile_cons,if_pos (Qa3 _ hs),List.length_cons]
   exact⟨fun _=>⟨h,hs⟩,fun _=>by omega⟩
  ·rw[if_neg hs]
   exact⟨fun h2=>by omega,fun h2=>absurd h2.2 hs⟩
 ·rw[List.getElem?_eq_none (by omega)]
  exact⟨fun h2=>absurd h2 (Nat.lt_irrefl 0),fun h2=>absurd h2.1 h⟩
structure NoMark (l:List Int) (k:Nat):Prop where
 s1:Q6 l k [60,33,45,45]=false
 s2:Q6 l k [60,33,91,67,68,65,84,65,91]=false
 s3:Q6 l k [60,63]=false
 s4:Q6 l k [60,33,68,79,67,84,89,80,69]=false
 s5:Q6 l k [60,47]=false
theorem NoMark.markup{l:List Int}{k:Nat}(h:NoMark l k):Q1H l k=if 0<Qj l (k+1)then Q1D l k else(11,k+1,false):=by
 rw[Q1H,h.s1,h.s2,h.s3,h.s4,h.s5];rfl
def plN(l:List Int)(i:Int):Nat:=((l.drop i.toNat).takeWhile Q1Q).length
theorem QlE{l:List Int}{i:Int}(h0:0<=i)(h1:i<l.length)(h:Q1Q (l[i.toNat]?.getD 0)=true):plN l i=plN l (i+1)+1:=by
 obtain⟨hl,e⟩:=Q5r h0 h1;rw[e]at h;rw[plN,plN,List.drop_eq_getElem_cons hl,List.takeWhile_cons,if_pos h,List.length_cons,show(i+1).toNat=i.toNat+1 by omega]
theorem Qf8{l:List Int}{i:Int}(h0:0<=i)(h:i<l.length->Q1Q (l[i.toNat]?.getD 0)=false):plN l i=0:=by
 by_cases h1:i<l.length
 ·obtain⟨hl,e⟩:=Q5r h0 h1
  have h:=h h1;rw[e]at h;rw[plN,List.drop_eq_getElem_cons hl,List.takeWhile_cons,if_neg (by rw[h];decide)];rfl
 ·rw[plN,List.drop_of_length_le (by omega)];rfl
theorem QiY(l:List Int)(hl:l.length<=1000000000)(hu:Un l)(k:Int)(h0:0<=k)(h1:k<l.length)(hM:NoMark l k.toNat)(jQ:l[k.toNat]?.getD 0=60)(jX:k+1<l.length)(ct:Qp (l[k.toNat+1]?.getD 0)=true):BCall prog 126 [.slc 1 (Q0 l),.val (.int .i64 k)] [] (Q1B ((Ql l k.toNat).1:Nat) k ((Ql l k.toNat).2.1:Nat) (Ql l k.toNat).2.2) []:=by
 have c1:BCall prog 151 [.slc 1 (Q0 l),.val (.int .i64 k),.val (.string ⟨#[60,33,45,45]⟩)] [] (.val (.bool false)) []:=by
  have:=Qc l hl hu.i32 k h0 (by omega) ⟨#[60,33,45,45]⟩ (by decide)
  have e:Q6 l k.toNat (⟨#[60,33,45,45]⟩:ByteArray).data.toList=false:=hM.s1;rw[e]at this;exact this
 have c2:BCall prog 151 [.slc 1 (Q0 l),.val (.int .i64 k),.val (.string ⟨#[60,33,91,67,68,65,84,65,91]⟩)] [] (.val (.bool false)) []:=by
  have:=Qc l hl hu.i32 k h0 (by omega) ⟨#[60,33,91,67,68,65,84,65,91]⟩ (by decide)
  have e:Q6 l k.toNat (⟨#[60,33,91,67,68,65,84,65,91]⟩:ByteArray).data.toList=false:=hM.s2;rw[e]at this;exact this
 have c3:BCall prog 151 [.slc 1 (Q0 l),.val (.int .i64 k),.val (.string ⟨#[60,63]⟩)] [] (.val (.bool false)) []:=by
  have:=Qc l hl hu.i32 k h0 (by omega) ⟨#[60,63]⟩ (by decide)
  have e:Q6 l k.toNat (⟨#[60,63]⟩:ByteArray).data.toList=false:=hM.s3;rw[e]at this;exact this
 have c4:BCall prog 151 [.slc 1 (Q0 l),.val (.int .i64 k),.val (.string ⟨#[60,33,68,79,67,84,89,80,69]⟩)] [] (.val (.bool false)) []:=by
  have:=Qc l hl hu.i32 k h0 (by omega) ⟨#[60,33,68,79,67,84,89,80,69]⟩ (by decide)
  have e:Q6 l k.toNat (⟨#[60,33,68,79,67,84,89,80,69]⟩:ByteArray).data.toList=false:=hM.s4;rw[e]at this;exact this
 have c5:BCall prog 151 [.slc 1 (Q0 l),.val (.int .i64 k),.val (.string ⟨#[60,47]⟩)] [] (.val (.bool false)) []:=by
  have:=Qc l hl hu.i32 k h0 (by omega) ⟨#[60,47]⟩ (by decide)
  have e:Q6 l k.toNat (⟨#[60,47]⟩:ByteArray).data.toList=false:=hM.s5;rw[e]at this;exact this
 have ak:=QJ (l:=l) (i:=k) h0 h1;obtain⟨n,hn⟩:=QE l;have jt:=Qx l;have jr:k<n:=by have:=hn.eq;omega
 have qO:n<=1000000000:=by have:=hn.eq;omega
 have an:=QJ (l:=l) (i:=k+1) (by omega) jX
 have gt:k+1<n:=by have:=hn.eq;omega
 have cN:=Q6j (l[(k+1).toNat]?.getD 0);have jm:(k+1).toNat=k.toNat+1:=by omega
 rw[show Qp (l[(k+1).toNat]?.getD 0)=true by rw[jm];exact ct]at cN
 rw[Q5d jQ,hM.markup,if_pos (Qap.2 ⟨by omega,ct⟩)]
 have cT:=Qi7 l hl k h0 h1;obtain⟨kd,jD⟩:=exq ((((Q1D l k.toNat).1:Nat):Int):Int);obtain⟨t,ht⟩:=exq ((((Q1D l k.toNat).2.1:Nat):Int):Int);obtain⟨w,hw⟩:=exq ((Q1D l k.toNat).2.2:Bool);rw[<-jD,<-ht,<-hw]at cT ⊢;rw[Q1B]at cT ⊢;clear jD ht hw hM jX jm ct;refine fnN (Q4u false false false false false true kd k t w) func126 rfl fun _ _=>?_
 with_reducible refine cv1 (Q0 l) ?_
 have jC:=Q15 hn
 have eN:std.int (std.nth (std.cel (std.at_ (Q0 l) (std.add k 1))) 0)=l[(k+1).toNat]?.getD 0:=by
  have e9:(Q0 l).getD (k+1).toNat .dead=.val (.int .i32 (l[(k+1).toNat]?.getD 0)):=by rw[List.getD_eq_getElem?_getD];exact an
  show intOf ((AV.cells ((Q0 l).getD (k+1).toNat .dead)).getD 0 .dead)=_;rw[e9];rfl
 have cNs:BCall prog 155 [.val (.int .i32 (std.int (std.nth (std.cel (std.at_ (Q0 l) (std.add k 1))) 0)))] [] (.val (.bool true)) []:=by rw[eN];exact cN
 with_reducible repeat' first|refine aU (zA jC <| zA ak <| zA an <| zA jQ <| zA jr <| zA gt h0) ?_|refine zA ?_ ?_|intro hb
 all_goals first
  |exact c1
  |exact c2
  |exact c3
  |exact c4
  |exact c5
  |exact cNs
  |exact cT
  |exact .pure rfl ⟨.inl rfl,.inl rfl,.inl rfl,.inl rfl,trivial⟩
theorem Qi8(l:List Int)(hl:l.length<=1000000000)(hu:Un l)(k:Int)(h0:0<=k)(h1:k<l.length)(hM:NoMark l k.toNat)(jQ:l[k.toNat]?.getD 0=60)(jX:k+1<l.length)(ct:Qp (l[k.toNat+1]?.getD 0)=false):BCall prog 126 [.slc 1 (Q0 l),.val (.int .i64 k)] [] (Q1B ((Ql l k.toNat).1:Nat) k ((Ql l k.toNat).2.1:Nat) (Ql l k.toNat).2.2) []:=by
 have c1:BCall prog 151 [.slc 1 (Q0 l),.val (.int .i64 k),.val (.string ⟨#[60,33,45,45]⟩)] [] (.val (.bool false)) []:=by
  have:=Qc l hl hu.i32 k h0 (by omega) ⟨#[60,33,45,45]⟩ (by decide)
  have e:Q6 l k.toNat (⟨#[60,33,45,45]⟩:ByteArray).data.toList=false:=hM.s1;rw[e]at this;exact this
 have c2:BCall prog 151 [.slc 1 (Q0 l),.val (.int .i64 k),.val (.string ⟨#[60,33,91,67,68,65,84,65,91]⟩)] [] (.val (.bool false)) []:=by
  have:=Qc l hl hu.i32 k h0 (by omega) ⟨#[60,33,91,67,68,65,84,65,91]⟩ (by decide)
  have e:Q6 l k.toNat (⟨#[60,33,91,67,68,65,84,65,91]⟩:ByteArray).data.toList=false:=hM.s2;rw[e]at this;exact this
 have c3:BCall prog 151 [.slc 1 (Q0 l),.val (.int .i64 k),.val (.string ⟨#[60,63]⟩)] [] (.val (.bool false)) []:=by
  have:=Qc l hl hu.i32 k h0 (by omega) ⟨#[60,63]⟩ (by decide)
  have e:Q6 l k.toNat (⟨#[60,63]⟩:ByteArray).data.toList=false:=hM.s3;rw[e]at this;exact this
 have c4:BCall prog 151 [.slc 1 (Q0 l),.val (.int .i64 k),.val (.string ⟨#[60,33,68,79,67,84,89,80,69]⟩)] [] (.val (.bool false)) []:=by
  have:=Qc l hl hu.i32 k h0 (by omega) ⟨#[60,33,68,79,67,84,89,80,69]⟩ (by decide)
  have e:Q6 l k.toNat (⟨#[60,33,68,79,67,84,89,80,69]⟩:ByteArray).data.toList=false:=hM.s4;rw[e]at this;exact this
 have c5:BCall prog 151 [.slc 1 (Q0 l),.val (.int .i64 k),.val (.string ⟨#[60,47]⟩)] [] (.val (.bool false)) []:=by
  have:=Qc l hl hu.i32 k h0 (by omega) ⟨#[60,47]⟩ (by decide)
  have e:Q6 l k.toNat (⟨#[60,47]⟩:ByteArray).data.toList=false:=hM.s5;rw[e]at this;exact this
 have ak:=QJ (l:=l) (i:=k) h0 h1;obtain⟨n,hn⟩:=QE l;have jt:=Qx l;have jr:k<n:=by have:=hn.eq;omega
 have qO:n<=1000000000:=by have:=hn.eq;omega
 have an:=QJ (l:=l) (i:=k+1) (by omega) jX
 have gt:k+1<n:=by have:=hn.eq;omega
 have cN:=Q6j (l[(k+1).toNat]?.getD 0);have jm:(k+1).toNat=k.toNat+1:=by omega
 rw[show Qp (l[(k+1).toNat]?.getD 0)=false by rw[jm];exact ct]at cN
 rw[Q5d jQ,hM.markup,if_neg (fun h=>by have:=(Qap.1 h).2;rw[ct]at this;cases this)]
 obtain⟨kd,jD⟩:=exq ((((((11,k.toNat+1,false):Nat×Nat×Bool)).1:Nat):Int):Int);obtain⟨t,ht⟩:=exq ((((((11,k.toNat+1,false):Nat×Nat×Bool)).2.1:Nat):Int):Int);obtain⟨w,hw⟩:=exq ((((11,k.toNat+1,false):Nat×Nat×Bool)).2.2:Bool);rw[<-jD,<-ht,<-hw,Q1B];have jD:kd=11:=jD;have ht:t=k+1:=by rw[ht];show((k.toNat+1:Nat):Int)=_;omega
 have hw:w=false:=hw;clear hM jX jm ct;refine fnN (Q4u false false false false false false 0 0 0 true) func126 rfl fun _ _=>?_
 with_reducible refine cv1 (Q0 l) ?_
 have jC:=Q15 hn
 have eN:std.int (std.nth (std.cel (std.at_ (Q0 l) (std.add k 1))) 0)=l[(k+1).toNat]?.getD 0:=by
  have e9:(Q0 l).getD (k+1).toNat .dead=.val (.int .i32 (l[(k+1).toNat]?.getD 0)):=by rw[List.getD_eq_getElem?_getD];exact an
  show intOf ((AV.cells ((Q0 l).getD (k+1).toNat .dead)).getD 0 .dead)=_;rw[e9];rfl
 have cNs:BCall prog 155 [.val (.int .i32 (std.int (std.nth (std.cel (std.at_ (Q0 l) (std.add k 1))) 0)))] [] (.val (.bool false)) []:=by rw[eN];exact cN
 with_reducible repeat' first|refine aU (zA jC <| zA ak <| zA an <| zA jQ <| zA jr <| zA gt h0) ?_|refine zA ?_ ?_|intro hb
 all_goals first
  |exact c1
  |exact c2
  |exact c3
  |exact c4
  |exact c5
  |exact cNs
  |exact .pure rfl ⟨.inl (by rw[jD]),.inl rfl,.inl (by rw[ht];rfl),.inl (by rw[hw]),trivial⟩
theorem QhR(l:List Int)(hl:l.length<=1000000000)(hu:Un l)(k:Int)(h0:0<=k)(h1:k<l.length)(hM:NoMark l k.toNat)(jQ:l[k.toNat]?.getD 0=60)(jX:¬k+1<l.length):BCall prog 126 [.slc 1 (Q0 l),.val (.int .i64 k)] [] (Q1B ((Ql l k.toNat).1:Nat) k ((Ql l k.toNat).2.1:Nat) (Ql l k.toNat).2.2) []:=by
 have c1:BCall prog 151 [.slc 1 (Q0 l),.val (.int .i64 k),.val (.string ⟨#[60,33,45,45]⟩)] [] (.val (.bool false)) []:=by
  have:=Qc l hl hu.i32 k h0 (by omega) ⟨#[60,33,45,45]⟩ (by decide)
  have e:Q6 l k.toNat (⟨#[60,33,45,45]⟩:ByteArray).data.toList=false:=hM.s1;rw[e]at this;exact this
 have c2:BCall prog 151 [.slc 1 (Q0 l),.val (.int .i64 k),.val (.string ⟨#[60,33,91,67,68,65,84,65,91]⟩)] [] (.val (.bool false)) []:=by
  have:=Qc l hl hu.i32 k h0 (by omega) ⟨#[60,33,91,67,68,65,84,65,91]⟩ (by decide)
  have e:Q6 l k.toNat (⟨#[60,33,91,67,68,65,84,65,91]⟩:ByteArray).data.toList=false:=hM.s2;rw[e]at this;exact this
 have c3:BCall prog 151 [.slc 1 (Q0 l),.val (.int .i64 k),.val (.string ⟨#[60,63]⟩)] [] (.val (.bool false)) []:=by
  have:=Qc l hl hu.i32 k h0 (by omega) ⟨#[60,63]⟩ (by decide)
  have e:Q6 l k.toNat (⟨#[60,63]⟩:ByteArray).data.toList=false:=hM.s3;rw[e]at this;exact this
 have c4:BCall prog 151 [.slc 1 (Q0 l),.val (.int .i64 k),.val (.string ⟨#[60,33,68,79,67,84,89,80,69]⟩)] [] (.val (.bool false)) []:=by
  have:=Qc l hl hu.i32 k h0 (by omega) ⟨#[60,33,68,79,67,84,89,80,69]⟩ (by decide)
  have e:Q6 l k.toNat (⟨#[60,33,68,79,67,84,89,80,69]⟩:ByteArray).data.toList=false:=hM.s4;rw[e]at this;exact this
 have c5:BCall prog 151 [.slc 1 (Q0 l),.val (.int .i64 k),.val (.string ⟨#[60,47]⟩)] [] (.val (.bool false)) []:=by
  have:=Qc l hl hu.i32 k h0 (by omega) ⟨#[60,47]⟩ (by decide)
  have e:Q6 l k.toNat (⟨#[60,47]⟩:ByteArray).data.toList=false:=hM.s5;rw[e]at this;exact this
 have ak:=QJ (l:=l) (i:=k) h0 h1;obtain⟨n,hn⟩:=QE l;have jt:=Qx l;have jr:k<n:=by have:=hn.eq;omega
 have qO:n<=1000000000:=by have:=hn.eq;omega
 have gt:¬k+1<n:=by have:=hn.eq;omega
 rw[Q5d jQ,hM.markup,if_neg (fun h=>jX (by have:=(Qap.1 h).1;omega))]
 obtain⟨kd,jD⟩:=exq ((((((11,k.toNat+1,false):Nat×Nat×Bool)).1:Nat):Int):Int);obtain⟨t,ht⟩:=exq ((((((11,k.toNat+1,false):Nat×Nat×Bool)).2.1:Nat):Int):Int);obtain⟨w,hw⟩:=exq ((((11,k.toNat+1,false):Nat×Nat×Bool)).2.2:Bool);rw[<-jD,<-ht,<-hw,Q1B];have jD:kd=11:=jD;have ht:t=k+1:=by rw[ht];show((k.toNat+1:Nat):Int)=_;omega
 have hw:w=false:=hw;clear hM jX;refine fnN (Q4u false false false false false false 0 0 0 true) func126 rfl fun _ _=>?_
 with_reducible refine cv1 (Q0 l) ?_
 have jC:=Q15 hn;with_reducible repeat' first|refine aU (zA jC <| zA ak <| zA jQ <| zA jr <| zA gt h0) ?_|refine zA ?_ ?_|intro hb
 all_goals first
  |exact c1
  |exact c2
  |exact c3
  |exact c4
  |exact c5
  |exact .pure rfl ⟨.inl (by rw[jD]),.inl rfl,.inl (by rw[ht];rfl),.inl (by rw[hw]),trivial⟩
theorem Qk7(l:List Int)(hl:l.length<=1000000000)(hu:Un l)(k:Int)(h0:0<=k)(h1:k<l.length)(hM:NoMark l k.toNat)(vY:l[k.toNat]?.getD 0=38):BCall prog 126 [.slc 1 (Q0 l),.val (.int .i64 k)] [] (Q1B ((Ql l k.toNat).1:Nat) k ((Ql l k.toNat).2.1:Nat) (Ql l k.toNat).2.2) []:=by
 have c1:BCall prog 151 [.slc 1 (Q0 l),.val (.int .i64 k),.val (.string ⟨#[60,33,45,45]⟩)] [] (.val (.bool false)) []:=by
  have:=Qc l hl hu.i32 k h0 (by omega) ⟨#[60,33,45,45]⟩ (by decide)
  have e:Q6 l k.toNat (⟨#[60,33,45,45]⟩:ByteArray).data.toList=false:=hM.s1;rw[e]at this;exact this
 have c2:BCall prog 151 [.slc 1 (Q0 l),.val (.int .i64 k),.val (.string ⟨#[60,33,91,67,68,65,84,65,91]⟩)] [] (.val (.bool false)) []:=by
  have:=Qc l hl hu.i32 k h0 (by omega) ⟨#[60,33,91,67,68,65,84,65,91]⟩ (by decide)
  have e:Q6 l k.toNat (⟨#[60,33,91,67,68,65,84,65,91]⟩:ByteArray).data.toList=false:=hM.s2;rw[e]at this;exact this
 have c3:BCall prog 151 [.slc 1 (Q0 l),.val (.int .i64 k),.val (.string ⟨#[60,63]⟩)] [] (.val (.bool false)) []:=by
  have:=Qc l hl hu.i32 k h0 (by omega) ⟨#[60,63]⟩ (by decide)
  have e:Q6 l k.toNat (⟨#[60,63]⟩:ByteArray).data.toList=false:=hM.s3;rw[e]at this;exact this
 have c4:BCall prog 151 [.slc 1 (Q0 l),.val (.int .i64 k),.val (.string ⟨#[60,33,68,79,67,84,89,80,69]⟩)] [] (.val (.bool false)) []:=by
  have:=Qc l hl hu.i32 k h0 (by omega) ⟨#[60,33,68,79,67,84,89,80,69]⟩ (by decide)
  have e:Q6 l k.toNat (⟨#[60,33,68,79,67,84,89,80,69]⟩:ByteArray).data.toList=false:=hM.s4;rw[e]at this;exact this
 have c5:BCall prog 151 [.slc 1 (Q0 l),.val (.int .i64 k),.val (.string ⟨#[60,47]⟩)] [] (.val (.bool false)) []:=by
  have:=Qc l hl hu.i32 k h0 (by omega) ⟨#[60,47]⟩ (by decide)
  have e:Q6 l k.toNat (⟨#[60,47]⟩:ByteArray).data.toList=false:=hM.s5;rw[e]at this;exact this
 have ak:=QJ (l:=l) (i:=k) h0 h1;obtain⟨n,hn⟩:=QE l;have jt:=Qx l;have jr:k<n:=by have:=hn.eq;omega
 have qO:n<=1000000000:=by have:=hn.eq;omega
 have e:Ql l k.toNat=Q1n l k.toNat:=by
  rw[Ql,List.getD_eq_getElem?_getD,if_neg (by rw[vY];decide),if_pos vY]
 rw[e];have cT:=Qoc l hl hu k h0 h1;obtain⟨kd,jD⟩:=exq ((((Q1n l k.toNat).1:Nat):Int):Int);obtain⟨t,ht⟩:=exq ((((Q1n l k.toNat).2.1:Nat):Int):Int);obtain⟨w,hw⟩:=exq ((Q1n l k.toNat).2.2:Bool);rw[<-jD,<-ht,<-hw]at cT ⊢;rw[Q1B]at cT ⊢;clear jD ht hw hM e;refine fnN (Q4u false false false false false true kd k t w) func126 rfl fun _ _=>?_
 with_reducible refine cv1 (Q0 l) ?_
 have jC:=Q15 hn;with_reducible repeat' first|refine aU (zA jC <| zA ak <| zA vY <| zA jr h0) ?_|refine zA ?_ ?_|intro hb
 all_goals first
  |exact c1
  |exact c2
  |exact c3
  |exact c4
  |exact c5
  |exact cT
  |exact .pure rfl ⟨.inl rfl,.inl rfl,.inl rfl,.inl rfl,trivial⟩
theorem Qkh(l:List Int)(hl:l.length<=1000000000)(hu:Un l)(k:Int)(h0:0<=k)(h1:k<l.length)(hM:NoMark l k.toNat)(qT:l[k.toNat]?.getD 0=-1):BCall prog 126 [.slc 1 (Q0 l),.val (.int .i64 k)] [] (Q1B ((Ql l k.toNat).1:Nat) k ((Ql l k.toNat).2.1:Nat) (Ql l k.toNat).2.2) []:=by
 have c1:BCall prog 151 [.slc 1 (Q0 l),.val (.int .i64 k),.val (.string ⟨#[60,33,45,45]⟩)] [] (.val (.bool false)) []:=by
  have:=Qc l hl hu.i32 k h0 (by omega) ⟨#[60,33,45,45]⟩ (by decide)
  have e:Q6 l k.toNat (⟨#[60,33,45,45]⟩:ByteArray).data.toList=false:=hM.s1;rw[e]at this;exact this
 have c2:BCall prog 151 [.slc 1 (Q0 l),.val (.int .i64 k),.val (.string ⟨#[60,33,91,67,68,65,84,65,91]⟩)] [] (.val (.bool false)) []:=by
  have:=Qc l hl hu.i32 k h0 (by omega) ⟨#[60,33,91,67,68,65,84,65,91]⟩ (by decide)
  have e:Q6 l k.toNat (⟨#[60,33,91,67,68,65,84,65,91]⟩:ByteArray).data.toList=false:=hM.s2;rw[e]at this;exact this
 have c3:BCall prog 151 [.slc 1 (Q0 l),.val (.int .i64 k),.val (.string ⟨#[60,63]⟩)] [] (.val (.bool false)) []:=by
  have:=Qc l hl hu.i32 k h0 (by omega) ⟨#[60,63]⟩ (by decide)
  have e:Q6 l k.toNat (⟨#[60,63]⟩:ByteArray).data.toList=false:=hM.s3;rw[e]at this;exact this
 have c4:BCall prog 151 [.slc 1 (Q0 l),.val (.int .i64 k),.val (.string ⟨#[60,33,68,79,67,84,89,80,69]⟩)] [] (.val (.bool false)) []:=by
  have:=Qc l hl hu.i32 k h0 (by omega) ⟨#[60,33,68,79,67,84,89,80,69]⟩ (by decide)
  have e:Q6 l k.toNat (⟨#[60,33,68,79,67,84,89,80,69]⟩:ByteArray).data.toList=false:=hM.s4;rw[e]at this;exact this
 have c5:BCall prog 151 [.slc 1 (Q0 l),.val (.int .i64 k),.val (.string ⟨#[60,47]⟩)] [] (.val (.bool false)) []:=by
  have:=Qc l hl hu.i32 k h0 (by omega) ⟨#[60,47]⟩ (by decide)
  have e:Q6 l k.toNat (⟨#[60,47]⟩:ByteArray).data.toList=false:=hM.s5;rw[e]at this;exact this
 have ak:=QJ (l:=l) (i:=k) h0 h1;obtain⟨n,hn⟩:=QE l;have jt:=Qx l;have jr:k<n:=by have:=hn.eq;omega
 have qO:n<=1000000000:=by have:=hn.eq;omega
 have e:Ql l k.toNat=(11,k.toNat+1,false):=by
  rw[Ql,List.getD_eq_getElem?_getD,if_neg (by rw[qT];decide),if_neg (by rw[qT];decide),if_pos qT]
 rw[e];obtain⟨kd,jD⟩:=exq ((((((11,k.toNat+1,false):Nat×Nat×Bool)).1:Nat):Int):Int);obtain⟨t,ht⟩:=exq ((((((11,k.toNat+1,false):Nat×Nat×Bool)).2.1:Nat):Int):Int);obtain⟨w,hw⟩:=exq ((((11,k.toNat+1,false):Nat×Nat×Bool)).2.2:Bool);rw[<-jD,<-ht,<-hw,Q1B];have jD:kd=11:=jD;have ht:t=k+1:=by rw[ht];show((k.toNat+1:Nat):Int)=_;omega
 have hw:w=false:=hw;clear hM e;refine fnN (Q4u false false false false false false 0 0 0 true) func126 rfl fun _ _=>?_
 with_reducible refine cv1 (Q0 l) ?_
 have jC:=Q15 hn;with_reducible repeat' first|refine aU (zA jC <| zA ak <| zA qT <| zA jr h0) ?_|refine zA ?_ ?_|intro hb
 all_goals first
  |exact c1
  |exact c2
  |exact c3
  |exact c4
  |exact c5
  |exact .pure rfl ⟨.inl (by rw[jD]),.inl rfl,.inl (by rw[ht];rfl),.inl (by rw[hw]),trivial⟩
