/- Lemmas; conditions told. -/
import Derived.Test.YtibemhahkicbpaaGreatQJ47
import Derived.Test.YtibemhahkicbpaaGreatQJ28
set_option maxRecDepth 99999
set_option maxHeartbeats 0
set_option linter.unusedSimpArgs false
set_option linter.unusedVariables false
namespace Go.Proofs.YtibemhahkicbpaaGreat
open Go.RowKit Go.Lib
section
open Tryz
theorem Qdt(t:Txt)(b:List UInt8)(hs:Sml t b)(hu:Un t.r)(hr:t.r.length<=200000) :
  BCall prog 46 [.box 0 0] [.box [.slc 1 (Q2 b),.val (.int .i64 t.kind),.val (.int .i64 t.bom),.slc 1 (Q0 t.r),.slc 1 (Q9 t.off),.val (.slice none 0 0),.val (.slice none 0 0),.val (.slice none 0 0)]] (.box 0 0)
   [.box [.slc 1 (Q2 b),.val (.int .i64 t.kind),.val (.int .i64 t.bom),.slc 1 (Q0 t.r),.slc 1 (Q9 t.off),.row 2 1,.row 1 1,.row 3 1],.row 107 3 false 1 (Qv (QcN t b ⟨[],[],[]⟩).ev),.row 9 1 false 1 (Qz (QcN t b ⟨[],[],[]⟩).op),.row 157 3 false 1 (Qk (QcN t b ⟨[],[],[]⟩).wr)]:=by
 have h:=Q9m t b hs hu [] (by simp) hr
 exact h.tell [some 0,none] [some 0,some 1,some 2,some 3] rfl rfl rfl (Nat.le_of_ble_eq_true rfl) rfl (by simp[Qe,Qv]) (res':=.box 0 0) rfl (by simp[Qe]) (.inl rfl)
def QlA(kd bm:Int)(R O OP EV WR:List AV):Nat->List AV->List Ob->Option (AV×List Ob):=fun f _ ob=>match f with
 |45=>some (.agg [.val (.int .i64 kd),.val (.int .i64 bm),.slc 1 R,.slc 1 O],[])
 |46=>(match ob with
  | [.box [B,K,M,R',O',.val (.slice none 0 0),.row 1 0,.val (.slice none 0 0)],_]=>some (.box 0 0,[.box [B,K,M,R',O',.row 2 1,.row 1 1,.row 3 1],.row 107 3 false 1 EV,.row 9 1 false 1 OP,.row 157 3 false 1 WR])
  | [.box [B,K,M,R',O',.val (.slice none 0 0),.val (.slice none 0 0),.val (.slice none 0 0)]]=>some (.box 0 0,[.box [B,K,M,R',O',.row 2 1,.row 1 1,.row 3 1],.row 107 3 false 1 EV,.row 9 1 false 1 OP,.row 157 3 false 1 WR])
  |_=>none)
 |_=>none
theorem Qg2(b:List UInt8)(hb:b.length<=100000):BCall prog 14 [.slc 1 (Q2 b)] []
  (.ref [.slc 1 (Q2 b),.val (.int .i64 (Qb b).kind),.val (.int .i64 (Qb b).bom),.slc 1 (Q0 (Qb b).r),.slc 1 (Q9 (Qb b).off),.slc 1 (Qz (Q1b b).op),.slc 3 (Qv (Q1b b).ev),.slc 3 (Qk (Q1b b).wr)]) []:=by
 obtain⟨h1,h2,h3,h4,h5⟩:=Q3N b;have hs:=Q6r b hb;have hu:=QgK b;have yO:=Q4h b;have cD:=Qc6 b (by omega) (by omega) (fun x hx=>by have:=h5 x hx;omega)
 have c1:=Q9m (Qb b) b hs hu [⟨2,23,some (b.take (QX b).2.toNat)⟩] (by simp) (by omega)
 have c0:=Qdt (Qb b) b hs hu (by omega)
 have hP:Q1b b=QcN (Qb b) b (Q2N b):=rfl;obtain⟨X,hX⟩:=exq (Q1b b);rw[<-hX]at hP ⊢;obtain⟨t,ht⟩:=exq (Qb b);have pg:t.bom=(QX b).2:=by rw[ht];rfl
 rw[<-ht]at cD c0 c1 hP ⊢;rw[<-pg]at c1 yO;have hf:Q2N b=⟨[],if 0<t.bom then [⟨2,23,some (b.take t.bom.toNat)⟩]else [],[]⟩:=by rw[pg];rfl
 rw[hf]at hP;obtain⟨nb,q6⟩:=QE b;have kN:t.bom<=nb:=by rw[q6.eq];exact yO.2
 have pq:=yO.1
 have jT:std.cut (Q2 b) 0 t.bom=Q2 (b.take t.bom.toNat):=by
  show((Q2 b).drop (0:Int).toNat).take (t.bom-0).toNat=_
  simp[Q2,List.map_take]
 have jY:=Q11 b;clear h1 h2 h3 h4 h5 yO hX ht pg hf;refine fnN (QlA t.kind t.bom (Q0 t.r) (Q9 t.off) (Qz X.op) (Qv X.ev) (Qk X.wr)) func14 rfl fun _ _=>?_
 with_reducible refine cv8 t.kind t.bom (Q0 t.r) (Q9 t.off) (Qz X.op) (Qv X.ev) (Qk X.wr) (Q2 b) ?_
 refine⟨cD,fun h=>⟨?_,?_,?_,.pure rfl (.inl rfl)⟩,fun h=>⟨?_,.pure rfl (.inl rfl)⟩⟩
 ·show 0<=(0:Int)/\0<=t.bom/\t.bom<=((Q2 b).length:Int)
  have:=q6.eq
  rw[jY];omega
 ·exact Nat.le_of_ble_eq_true rfl
 ·have h:0<t.bom:=of_decide_eq_true h
  rw[if_pos h]at hP;rw[<-hP]at c1;show BCall _ _ [.box 0 0] [.box [_,_,_,_,_,_,_,_],.row _ _ _ _ [.agg [_,_,.slc 1 (std.cut (Q2 b) 0 t.bom)]]] _ _;rw[jT];exact c1
 ·have h:¬0<t.bom:=of_decide_eq_false h
  rw[if_neg h]at hP;rw[<-hP]at c0;exact c0
