/- Lemmas, conditions told -/
import Derived.Test.YtibemhahkicbpaaGreatJ18
import Derived.Test.YtibemhahkicbpaaGreatJ23
set_option maxRecDepth 99999
set_option maxHeartbeats 0
set_option linter.unusedSimpArgs false
set_option linter.unusedVariables false
namespace Go.Proofs.YtibemhahkicbpaaGreat
open Go.RowKit Go.Lib
section
open Tryz
theorem QiJ(b:List UInt8)(hb:b.length<=100000000):BCall prog 51 [.slc 1 (Q2 b)] [] (.slc 3 (QP (Q4w b))) []:=by
 refine BCall.hand (enters_of func51 (by kernel_rfl) rfl) fun w g vs M hL=>?_
 obtain⟨v1,vs1,rfl,h1,hL⟩:=Q13 hL;obtain rfl:=Q2A hL;obtain⟨A,c,rfl,hr⟩:=Qef h1 M;refine(Qau _ A _ c b w hr (by omega)).mono fun e w' ⟨v,h,⟨n',ho⟩,zO⟩=>⟨v,h,zO,?_⟩
 have hn:n'=(QP (Q4w b)).length:=by
  have:=ho.1
  rw[Q2j]at this;rw[Q3m,Q4w,List.length_map];omega
 refine QhA (A':=(g.imm w w').A) ho (by decide) ?_ hn (fun x hx=>?_) (fun b o h1 h2=>.inr ⟨h1,h2⟩)
 ·rw[Q4w,QaV]
  refine Qb8 fun u hu=>?_
  obtain⟨x,_,hx⟩:=List.mem_flatMap.1 hu;simp only[List.mem_cons,List.not_mem_nil,or_false]at hx;rcases hx with rfl|rfl|rfl<;>rfl
 ·obtain⟨y,_,rfl⟩:=List.mem_map.1 hx
  rfl
def QmN(f8:List AV)(fw:Bool->List AV):Nat->List AV->List Ob->Option (AV×List Ob):=fun f args _=>match f,args with
 |51,[.slc 1 _]=>some (.slc 3 f8,[])
 |52,[.slc 1 _,.val (.bool b)]=>some (.slc 3 (fw b),[])
 |_,_=>none
theorem Qiv(kind:Int)(b:List UInt8)(hb:b.length<=100000000)(hk:kind=0\/kind=1\/kind=2):BCall prog 18 [.slc 1 (Q2 b),.val (.int .i64 kind)] [] (.slc 3 (QP (Q4B kind b))) []:=by
 have c8:=QiJ b hb;obtain⟨fw,xh⟩:=exq (fun big=>QP (Q1x big 0 b))
 have cw:∀big,BCall prog 52 [.slc 1 (Q2 b),.val (.bool big)] [] (.slc 3 (fw big)) []:=fun big=>by rw[xh];exact QhN big b (by omega)
 obtain⟨f8,pO⟩:=exq (QP (Q4w b));rw[<-pO]at c8;obtain⟨R,hR⟩:=exq (QP (Q4B kind b));rw[<-hR]
 have v4:R=if kind=0 then f8 else fw (decide (kind=1)):=by
  rw[hR,Q4B,pO,xh];rcases hk with h|h|h
  ·rw[if_pos h,if_pos h]
  ·rw[if_neg (by omega),if_pos h,if_neg (by omega),decide_eq_true h]
  ·rw[if_neg (by omega),if_neg (by omega),if_pos h,if_neg (by omega),decide_eq_false (by omega)]
 clear hR xh pO;by_cases h0:kind=0
 ·rw[if_pos h0]at v4
  rw[v4];clear v4;refine fnN (QmN f8 fw) func18 rfl fun _ _=>?_
  with_reducible refine cv1 (Q2 b) ?_
  with_reducible repeat' first|refine aU h0 ?_|refine zA ?_ ?_|intro hb
  all_goals first
   |exact c8
   |exact .pure rfl (.inl rfl)
 ·rw[if_neg h0]at v4
  rw[v4];clear v4;refine fnN (QmN f8 fw) func18 rfl fun _ _=>?_
  with_reducible refine cv1 (Q2 b) ?_
  with_reducible repeat' first|refine aU h0 ?_|refine zA ?_ ?_|intro hb
  all_goals first
   |exact cw _
   |(refine .pure rfl (.inl ?_);rfl)
def Qcs(k bom:Int)(pc:List AV):Nat->List AV->List Ob->Option (AV×List Ob):=fun f args _=>match f,args with
 |91,_=>some (.tup [.val (.int .i64 k),.val (.int .i64 bom)],[])
 |18,[.slc 1 _,.val (.int .i64 _)]=>some (.slc 3 pc,[])
 |_,_=>none
theorem Qc6(b:List UInt8)(hb:b.length<=1000000)(jr:(Q2V b).length<=1000000)(qS:∀x∈Q2V b,0<=x.off/\x.off<=1000000) :
  BCall prog 45 [.slc 1 (Q2 b)] [] (.agg (Qb b).cs) []:=by
 have yX:=Q4h b;have cK:=Qj1 b;have km:=Q54 b;obtain⟨k,hk⟩:=exq ((QX b).1);obtain⟨bom,vw⟩:=exq ((QX b).2);obtain⟨ps,yY⟩:=exq (Q2V b);have hT:Qb b=⟨k,bom,ps.map Itm.r,ps.map (fun x=>x.off+bom)++[(b.length:Int)]⟩:=by rw[hk,vw,yY];rfl
 have hpb:ps=Q4B k (b.drop bom.toNat):=by rw[hk,vw,yY];rfl
 rw[hT];rw[<-yY]at jr qS;rw[<-hk,<-vw]at cK;rw[<-vw]at yX;rw[<-hk]at km;clear hT hk vw yY
 have jS:std.cut (Q2 b) bom (std.len (Q2 b))=Q2 (b.drop bom.toNat):=by
  show((Q2 b).drop bom.toNat).take ((Q2 b).length-bom:Int).toNat=_
  rw[Q2,Q2,List.map_drop,List.take_of_length_le (by simp;omega)]
 have cP:BCall prog 18 [.slc 1 (std.cut (Q2 b) bom (std.len (Q2 b))),.val (.int .i64 k)] [] (.slc 3 (QP ps)) []:=by
  rw[jS,hpb];exact Qiv k _ (by rw[List.length_drop];omega) km
 obtain⟨nb,vy⟩:=QE b;obtain⟨n,hn⟩:=QE ps;have nC:bom<=nb:=by rw[vy.eq];exact yX.2
 have p5:=yX.1;clear yX;refine fnN (Qcs k bom (QP ps)) func45 rfl fun _ _=>?_
 with_reducible refine cv2 (Q2 b) (QP ps) ?_
 have enb:=vy.eq;have en:=hn.eq;have jV:=Q11 b;refine⟨cK,?_,cP,?_⟩
 ·simp only[std,jV];omega
 have ju:std.len (QP ps)=n:=by simp only[std,Q3m];omega
 refine Q1h (Qcs k bom (QP ps)) (Int) (fun i=>⟨[(0,.slc 1 (Q2 b)),(2,.box 0 0),(4,.val (.int .i64 bom)),(5,.box 1 0),(20,.slc 3 (QP ps)),(21,.val (.int .i64 n)),(22,.val (.int .i64 i))],[.box [.val (.int .i64 0),.val (.int .i64 0),.val (.slice none 0 0),.val (.slice none 0 0)],.box [.val (.int .i64 k),.val (.int .i64 bom),.row 2 0,.row 3 0],.row 21 1 false 0 (Q0 ((ps.take i.toNat).map Itm.r)),.row 3 1 false 0 (Q9 ((ps.take i.toNat).map fun x=>x.off+bom))]⟩) (fun i=>0<=i/\i<=n) (fun i=>(n-i).toNat) 0 ?_ ?_ ?_
 ·omega
 ·refine⟨[some 0,some 1,none,none],_,rfl,?_⟩
  simp only[Int.toNat_zero,List.take_zero,List.map_nil]
  repeat first
   |exact trivial
   |refine⟨gI ju,?_⟩
   |refine⟨rfl,?_⟩
 ·rintro i ⟨jL,jK⟩
  have j5:=Q3m ps;rcases Int.lt_or_eq_of_le jK with jA|j7
  ·have jX:(QP ps)[i.toNat]?.getD .dead=(ps[i.toNat]?.getD ⟨0,0,0⟩).av:=QdT Itm.av jL (by omega) ⟨0,0,0⟩
   have vI:i.toNat<ps.length:=by omega
   have hx:=qS (ps[i.toNat]?.getD ⟨0,0,0⟩) (by simp[vI])
   have ht:ps.take (i+1).toNat=ps.take i.toNat++[ps[i.toNat]?.getD ⟨0,0,0⟩]:=by
    rw[show(i+1).toNat=i.toNat+1 by omega,List.take_add_one]
    simp[vI]
   have yk:Q0 ((ps.take (i+1).toNat).map Itm.r)=Q0 ((ps.take i.toNat).map Itm.r)++[.val (.int .i32 (ps[i.toNat]?.getD ⟨0,0,0⟩).r)]:=by
    rw[ht,List.map_append,Q95];rfl
   have vH:Q9 ((ps.take (i+1).toNat).map fun x=>x.off+bom)=Q9 ((ps.take i.toNat).map fun x=>x.off+bom)++[.val (.int .i64 (bom+(ps[i.toNat]?.getD ⟨0,0,0⟩).off))]:=by
    rw[ht,List.map_append,Q4T,Int.add_comm bom];rfl
   have yf:(Q0 ((ps.take i.toNat).map Itm.r)).length<=1000000:=by simp[Q0];omega
   have z8:(Q9 ((ps.take i.toNat).map fun x=>x.off+bom)).length<=1000000:=by simp[Q9];omega
   obtain⟨x,hxE⟩:=exq (ps[i.toNat]?.getD ⟨0,0,0⟩);rw[<-hxE]at jX hx yk vH;obtain⟨R,hR⟩:=exq (Q0 ((ps.take i.toNat).map Itm.r));obtain⟨O,hO⟩:=exq (Q9 ((ps.take i.toNat).map fun x=>x.off+bom))
   rw[<-hR]at yk yf ⊢;rw[<-hO]at vH z8 ⊢;clear en enb ht;with_reducible refine cv2 (Q2 b) (QP ps) ?_
   have en:=hn.eq;have enb:=vy.eq
   repeat' first
    |(with_reducible refine And.intro (fun hx=>absurd hx (by first|(try simp[std,S1,jX,Itm.av,j5,jA,jL])<;>omega|omega)) (fun _=>?_))
    |(with_reducible refine And.intro (fun _=>?_) (fun hx=>absurd hx (by first|(try simp[std,S1,jX,Itm.av,j5,jA,jL])<;>omega|omega)))
    |(with_reducible refine And.intro (by first|(try simp[std,S1,jX,Itm.av,j5,jA,jL])<;>omega|omega) ?_)
    |(with_reducible refine zA ?_ ?_)
    |(with_reducible intro hb)
   exact⟨i+1,⟨by omega,by omega⟩,by omega,[some 0,some 1,some 2,some 3],_,rfl,by simp[-List.map_take,Qe,lk,std,jX,j5,Itm.av,AV.cells,intOf,yk,vH]⟩
  ·have ht:ps.take i.toNat=ps:=List.take_of_length_le (by omega)
   rw[ht];have z8:(Q9 (ps.map fun x=>x.off+bom)).length<=1000000:=by simp[Q9];omega
   have hf:Q9 (ps.map (fun x=>x.off+bom)++[(b.length:Int)])=Q9 (ps.map fun x=>x.off+bom)++[.val (.int .i64 nb)]:=by
    rw[Q4T,vy.eq];rfl
   have gU:std.len (Q2 b)=nb:=by rw[enb];simp only[std,jV]
   obtain⟨R,hR⟩:=exq (Q0 (ps.map Itm.r));obtain⟨O,hO⟩:=exq (Q9 (ps.map fun x=>x.off+bom))
   rw[<-hO]at z8 hf
   have hcs:(Txt.mk k bom (ps.map Itm.r) (ps.map (fun x=>x.off+bom)++[(b.length:Int)])).cs=[.val (.int .i64 k),.val (.int .i64 bom),.slc 1 R,.slc 1 (O++[.val (.int .i64 nb)])]:=by
    rw[Txt.cs,hf,hR]
   rw[hcs,<-hR,<-hO];clear en enb ht hcs;with_reducible refine cv2 (Q2 b) (QP ps) ?_
   with_reducible repeat' first|refine aU j7 ?_|refine zA ?_ ?_|intro hb
   rw[if_pos trivial];with_reducible refine cv2 (Q2 b) (QP ps) ?_
   refine⟨?_,.pure rfl ?_⟩
   ·simp[std];omega
   ·refine⟨.inl rfl,.inl rfl,.inl rfl,.inl ?_,trivial⟩
    show AV.slc 1 (std.app O [.val (.int .i64 (std.len (Q2 b)))])=_;rw[gU];rfl
