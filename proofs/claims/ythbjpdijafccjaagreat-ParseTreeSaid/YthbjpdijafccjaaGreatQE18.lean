/-
  Parts of the proof, joined: Yc. Conditions: as each theorem says.
-/
import Derived.Test.YthbjpdijafccjaaGreatQE11
import Derived.Test.YthbjpdijafccjaaGreatQE07
import Derived.Test.YthbjpdijafccjaaGreatQE01
import Derived.Test.YthbjpdijafccjaaGreatQE15
set_option maxRecDepth 100000
set_option maxHeartbeats 8000000
namespace Go.Proofs.YthbjpdijafccjaaGreat
open Go.RowKit Go.Lib Tryz
theorem QgE (b:List UInt8)(hb:b.length≤100000000):BCall prog 62 [.slc 1 (Q2 b)] [] (.slc 3 (QW (Q4b b))) []:=by
 refine BCall.hand (enters_of func62 (by kernel_rfl) rfl) fun w g vs M hL=>?_
 obtain⟨v1,vs1,rfl,h1,hL⟩:=Q1d hL
 obtain rfl:=Q3c hL
 obtain⟨A,c,rfl,hr⟩:=Qcp h1 M
 refine (Qec _ A _ c b w hr (by omega)).mono fun e w' ⟨v,h,⟨n',ho⟩,hbel⟩=>⟨v,h,hbel,?_⟩
 have hn:n'=(QW (Q4b b)).length:=by
  have:=ho.1
  rw[Q3T] at this
  rw[Q3F,Q4b,List.length_map];omega
 refine QeS (A':=(g.imm w w').A) ho (by decide) ?_ hn (fun x hx=>?_) (fun b o h1 h2=>.inr ⟨h1,h2⟩)
 ·rw[Q4b,Q9O]
  refine Q9j fun u hu=>?_
  obtain⟨x,_,hx⟩:=List.mem_flatMap.1 hu
  simp only[List.mem_cons,List.not_mem_nil,or_false] at hx
  rcases hx with rfl|rfl|rfl<;>rfl
 ·obtain⟨y,_,rfl⟩:=List.mem_map.1 hx
  rfl
def Qkc (f8:List AV)(fw:Bool→List AV):Nat→List AV→List Ob→Option (AV×List Ob):=fun f args _=>match f,args with
 |62,[.slc 1 _]=>some (.slc 3 f8,[])
 |63,[.slc 1 _,.val (.bool b)]=>some (.slc 3 (fw b),[])
 |_,_=>none
theorem QgW (kind:Int)(b:List UInt8)(hb:b.length≤100000000)(hk:kind=0∨kind=1∨kind=2):BCall prog 34 [.slc 1 (Q2 b),.val (.int .i64 kind)] [] (.slc 3 (QW (Q5F kind b))) []:=by
 have c8:=QgE b hb
 obtain⟨fw,hfw⟩:=exq (fun big=>QW (Q1o big 0 b))
 have cw:∀ big,BCall prog 63 [.slc 1 (Q2 b),.val (.bool big)] [] (.slc 3 (fw big)) []:=fun big=>by rw[hfw];exact QgS big b (by omega)
 obtain⟨f8,hf8⟩:=exq (QW (Q4b b))
 rw[←hf8] at c8
 obtain⟨R,hR⟩:=exq (QW (Q5F kind b))
 rw[←hR]
 have hR2:R=if kind=0 then f8 else fw (decide (kind=1)):=by
  rw[hR,Q5F,hf8,hfw]
  rcases hk with h|h|h
  ·rw[if_pos h,if_pos h]
  ·rw[if_neg (by omega),if_pos h,if_neg (by omega),decide_eq_true h]
  ·rw[if_neg (by omega),if_neg (by omega),if_pos h,if_neg (by omega),decide_eq_false (by omega)]
 clear hR hfw hf8
 by_cases h0:kind=0
 ·rw[if_pos h0] at hR2
  rw[hR2]
  clear hR2
  refine fnN (cs:=Qkc f8 fw) func34 rfl (by kernel_rfl) ?_
  intro w0 g0
  generalize hp:std=p,hbs:Q2 b=bs
  generalize hT:Q5 p tys (Qkc f8 fw) _ _ _ _=T
  cbv at hT
  subst hT
  simp only[Tree.ok,Q1,S0]
  subst hp hbs
  repeat' first
   |(with_reducible refine And.intro (fun hx=>absurd hx (by first|(try simp[std,S1,h0])<;>omega|omega)) (fun _=>?_))
   |(with_reducible refine And.intro (fun _=>?_) (fun hx=>absurd hx (by first|(try simp[std,S1,h0])<;>omega|omega)))
   |(with_reducible refine And.intro (by first|(try simp[std,S1,h0])<;>omega|omega) ?_)
   |(with_reducible refine And.intro ?_ ?_)
   |(with_reducible intro hb)
  all_goals first
   |exact c8
   |exact .pure rfl (.inl rfl)
 ·rw[if_neg h0] at hR2
  rw[hR2]
  clear hR2
  refine fnN (cs:=Qkc f8 fw) func34 rfl (by kernel_rfl) ?_
  intro w0 g0
  generalize hp:std=p,hbs:Q2 b=bs
  generalize hT:Q5 p tys (Qkc f8 fw) _ _ _ _=T
  cbv at hT
  subst hT
  simp only[Tree.ok,Q1,S0]
  subst hp hbs
  repeat' first
   |(with_reducible refine And.intro (fun hx=>absurd hx (by first|(try simp[std,S1,h0])<;>omega|omega)) (fun _=>?_))
   |(with_reducible refine And.intro (fun _=>?_) (fun hx=>absurd hx (by first|(try simp[std,S1,h0])<;>omega|omega)))
   |(with_reducible refine And.intro (by first|(try simp[std,S1,h0])<;>omega|omega) ?_)
   |(with_reducible refine And.intro ?_ ?_)
   |(with_reducible intro hb)
  all_goals first
   |exact cw _
   |(refine .pure rfl (.inl ?_);rfl)
def QaH (k bom:Int)(pc:List AV):Nat→List AV→List Ob→Option (AV×List Ob):=fun f args _=>match f,args with
 |33,_=>some (.tup [.val (.int .i64 k),.val (.int .i64 bom)],[])
 |34,[.slc 1 _,.val (.int .i64 _)]=>some (.slc 3 pc,[])
 |_,_=>none
theorem QgL (b:List UInt8)(hb:b.length≤1000000)(hps:(Q2H b).length≤1000000)(hoff:∀ x∈Q2H b,0≤x.off∧x.off≤1000000) :
  BCall prog 16 [.slc 1 (Q2 b)] [] (.agg (Qd b).cs) []:=by
 have hkb:=Q48 b
 have cK:=QfQ b
 have hk012:=Q5t b
 obtain⟨k,hk⟩:=exq ((QQ b).1)
 obtain⟨bom,hbom⟩:=exq ((QQ b).2)
 obtain⟨ps,hpsE⟩:=exq (Q2H b)
 have hT:Qd b=⟨k,bom,ps.map Itm.r,ps.map (fun x=>x.off+bom)++[(b.length:Int)]⟩:=by rw[hk,hbom,hpsE];rfl
 have hpb:ps=Q5F k (b.drop bom.toNat):=by rw[hk,hbom,hpsE];rfl
 rw[hT]
 rw[←hpsE] at hps hoff
 rw[←hk,←hbom] at cK
 rw[←hbom] at hkb
 rw[←hk] at hk012
 clear hT hk hbom hpsE
 have hcut:std.cut (Q2 b) bom (std.len (Q2 b))=Q2 (b.drop bom.toNat):=by
  show ((Q2 b).drop bom.toNat).take ((Q2 b).length-bom:Int).toNat=_
  rw[Q2,Q2,List.map_drop,List.take_of_length_le (by simp;omega)]
 have cP:BCall prog 34 [.slc 1 (std.cut (Q2 b) bom (std.len (Q2 b))),.val (.int .i64 k)] [] (.slc 3 (QW ps)) []:=by
  rw[hcut,hpb];exact QgW k _ (by rw[List.length_drop];omega) hk012
 obtain⟨nb,hnb⟩:=Qy b
 obtain⟨n,hn⟩:=Qy ps
 have hbn:bom≤nb:=by rw[hnb.eq];exact hkb.2
 have hb0:=hkb.1
 clear hkb
 refine fnN (cs:=QaH k bom (QW ps)) func16 rfl (by kernel_rfl) ?_
 intro w0 g0
 generalize hp:std=p,hbs:Q2 b=bs,hpc:QW ps=pc
 generalize hT:Q5 p tys (QaH k bom pc) _ _ _ _=T
 cbv at hT
 subst hT
 simp only[Tree.ok,Q1,S0]
 subst hp hbs hpc
 have enb:=hnb.eq
 have en:=hn.eq
 have hbl:=Q10 b
 refine⟨cK,?_,cP,?_⟩
 ·simp only[std,hbl];omega
 have hnm:std.len (QW ps)=n:=by simp only[std,Q3F];omega
 refine Q1r (cs:=QaH k bom (QW ps)) (by kernel_rfl) (X:=Int) (fun i=>⟨[(0,.slc 1 (Q2 b)),(2,.box 0 0),(4,.val (.int .i64 bom)),(5,.box 1 0),(20,.slc 3 (QW ps)),(21,.val (.int .i64 n)),(22,.val (.int .i64 i))],[.box [.val (.int .i64 0),.val (.int .i64 0),.val (.slice none 0 0),.val (.slice none 0 0)],.box [.val (.int .i64 k),.val (.int .i64 bom),.row 2 0,.row 3 0],.row 21 1 false 0 (Q0 ((ps.take i.toNat).map Itm.r)),.row 3 1 false 0 (Q8 ((ps.take i.toNat).map fun x=>x.off+bom))]⟩) (fun i=>0≤i∧i≤n) (fun i=>(n-i).toNat) 0 ?_ ?_ ?_
 ·omega
 ·refine⟨[some 0,some 1,none,none],_,rfl,?_⟩
  simp only[Int.toNat_zero,List.take_zero,List.map_nil]
  repeat first
   |exact trivial
   |refine⟨gI hnm,?_⟩
   |refine⟨rfl,?_⟩
 ·rintro i ⟨hi0,hin⟩
  have hil:=Q3F ps
  rcases Int.lt_or_eq_of_le hin with hlt|heq
  ·have hat:(QW ps)[i.toNat]?.getD .dead=(ps[i.toNat]?.getD ⟨0,0,0⟩).av:=QdA Itm.av hi0 (by omega) ⟨0,0,0⟩
   have hil2:i.toNat<ps.length:=by omega
   have hx:=hoff (ps[i.toNat]?.getD ⟨0,0,0⟩) (by simp[hil2])
   have ht:ps.take (i+1).toNat=ps.take i.toNat++[ps[i.toNat]?.getD ⟨0,0,0⟩]:=by
    rw[show (i+1).toNat=i.toNat+1 by omega,List.take_add_one]
    simp[hil2]
   have hr1:Q0 ((ps.take (i+1).toNat).map Itm.r)=Q0 ((ps.take i.toNat).map Itm.r)++[.val (.int .i32 (ps[i.toNat]?.getD ⟨0,0,0⟩).r)]:=by
    rw[ht,List.map_append,Qbd];rfl
   have hr2:Q8 ((ps.take (i+1).toNat).map fun x=>x.off+bom)=Q8 ((ps.take i.toNat).map fun x=>x.off+bom)++[.val (.int .i64 (bom+(ps[i.toNat]?.getD ⟨0,0,0⟩).off))]:=by
    rw[ht,List.map_append,Q4s,Int.add_comm bom];rfl
   have hl1:(Q0 ((ps.take i.toNat).map Itm.r)).length≤1000000:=by simp[Q0];omega
   have hl2:(Q8 ((ps.take i.toNat).map fun x=>x.off+bom)).length≤1000000:=by simp[Q8];omega
   obtain⟨x,hxE⟩:=exq (ps[i.toNat]?.getD ⟨0,0,0⟩)
   rw[←hxE] at hat hx hr1 hr2
   obtain⟨R,hR⟩:=exq (Q0 ((ps.take i.toNat).map Itm.r))
   obtain⟨O,hO⟩:=exq (Q8 ((ps.take i.toNat).map fun x=>x.off+bom))
   rw[←hR] at hr1 hl1 ⊢
   rw[←hO] at hr2 hl2 ⊢
   clear en enb ht
   generalize hp:std=p,hbs:Q2 b=bs,hpc:QW ps=pc
   generalize hT:Q5 p tys (QaH k bom pc) _ _ _ _=T
   cbv at hT
   subst hT
   simp only[Tree.ok,Q1,S0]
   subst hp hbs hpc
   have en:=hn.eq
   have enb:=hnb.eq
   repeat' first
    |(with_reducible refine And.intro (fun hx=>absurd hx (by first|(try simp[std,S1,hat,Itm.av,hil,hlt,hi0])<;>omega|omega)) (fun _=>?_))
    |(with_reducible refine And.intro (fun _=>?_) (fun hx=>absurd hx (by first|(try simp[std,S1,hat,Itm.av,hil,hlt,hi0])<;>omega|omega)))
    |(with_reducible refine And.intro (by first|(try simp[std,S1,hat,Itm.av,hil,hlt,hi0])<;>omega|omega) ?_)
    |(with_reducible refine And.intro ?_ ?_)
    |(with_reducible intro hb)
   exact⟨i+1,⟨by omega,by omega⟩,by omega,[some 0,some 1,some 2,some 3],_,rfl,by simp[-List.map_take,Qe,lk,std,hat,hil,Itm.av,AV.cells,intOf,hr1,hr2]⟩
  ·have ht:ps.take i.toNat=ps:=List.take_of_length_le (by omega)
   rw[ht]
   have hl2:(Q8 (ps.map fun x=>x.off+bom)).length≤1000000:=by simp[Q8];omega
   have hf:Q8 (ps.map (fun x=>x.off+bom)++[(b.length:Int)])=Q8 (ps.map fun x=>x.off+bom)++[.val (.int .i64 nb)]:=by
    rw[Q4s,hnb.eq];rfl
   have hlb:std.len (Q2 b)=nb:=by rw[enb];simp only[std,hbl]
   obtain⟨R,hR⟩:=exq (Q0 (ps.map Itm.r))
   obtain⟨O,hO⟩:=exq (Q8 (ps.map fun x=>x.off+bom))
   rw[←hO] at hl2 hf
   have hcs:(Txt.mk k bom (ps.map Itm.r) (ps.map (fun x=>x.off+bom)++[(b.length:Int)])).cs=[.val (.int .i64 k),.val (.int .i64 bom),.slc 1 R,.slc 1 (O++[.val (.int .i64 nb)])]:=by
    rw[Txt.cs,hf,hR]
   rw[hcs,←hR,←hO]
   clear en enb ht hcs
   generalize hp:std=p,hbs:Q2 b=bs,hpc:QW ps=pc
   generalize hT:Q5 p tys (QaH k bom pc) _ _ _ _=T
   cbv at hT
   subst hT
   simp only[Tree.ok,Q1,S0]
   subst hp hbs hpc
   repeat' first
    |(with_reducible refine And.intro (fun hx=>absurd hx (by first|(try simp[std,S1,heq])<;>omega|omega)) (fun _=>?_))
    |(with_reducible refine And.intro (fun _=>?_) (fun hx=>absurd hx (by first|(try simp[std,S1,heq])<;>omega|omega)))
    |(with_reducible refine And.intro (by first|(try simp[std,S1,heq])<;>omega|omega) ?_)
    |(with_reducible refine And.intro ?_ ?_)
    |(with_reducible intro hb)
   rw[if_pos trivial]
   generalize hp:std=p,hbs:Q2 b=bs,hpc:QW ps=pc
   generalize hT:Q5 p tys (QaH k bom pc) _ _ _ _=T
   cbv at hT
   subst hT
   simp only[Tree.ok,Q1,S0]
   subst hp hbs hpc
   refine⟨?_,.pure rfl ?_⟩
   ·simp[std];omega
   ·refine⟨.inl rfl,.inl rfl,.inl rfl,.inl ?_,trivial⟩
    show AV.slc 1 (std.app O [.val (.int .i64 (std.len (Q2 b)))])=_
    rw[hlb];rfl
end Go.Proofs.YthbjpdijafccjaaGreat
