/-
  Parts of the proof, joined: Wc. Conditions: as each theorem says.
-/
import Derived.Test.YthbjpdijafccjaaGreatQE28
set_option maxRecDepth 100000
set_option maxHeartbeats 8000000
namespace Go.Proofs.YthbjpdijafccjaaGreat
open Go.RowKit Go.Lib Tryz
def Q4t (l:List Int)(k to:Int):Int×Int :=
 if 0<(Q2Q Qc (QB l k to) 0:Int) then (3,(Q2Q Qc (QB l k to) 0:Int))
 else if 0<(Qg (QB l k to) 0:Int) then (2,(Qg (QB l k to) 0:Int))
 else if (QB l k to).getD 0 0=61 then (4,1)
 else if 0<Q1v (QB l k to) then (5,Q1v (QB l k to))
 else if (((QB l k to).length:Int)=2∧Q3 (QB l k to) 0 [47,62]=true)∨(((QB l k to).length:Int)=1∧(QB l k to).getD 0 0=62) then (6,((QB l k to).length:Int))
 else (7,1)
theorem Rng.part_tail {l:List Int}{f k to:Int}(h:Rng l k to)(hF:¬ (k=f∧l[k.toNat]?.getD 0=60)):QZ l f k to=Q4t l k to:=by
 have n2:¬ (decide (k=f)=true∧(QB l k to).getD 0 0=60):=fun e=>hF ⟨of_decide_eq_true e.1,by rw[←h.head];exact e.2⟩
 have n1:¬ (decide (k=f)=true∧Q3 (QB l k to) 0 [60,47]=true):=fun e=>n2 ⟨e.1,by rw[List.getD_eq_getElem?_getD];exact Q4m e.2⟩
 rw[QZ,Qp,if_neg n1,if_neg n2]
 rfl
def spN (l:List Int)(i to:Int):Nat:=((QB l i to).takeWhile Qc).length
theorem Qdd {l:List Int}{i to:Int}(h:Rng l i to):QB l i to=l[i.toNat]?.getD 0::QB l (i+1) to:=by
 have h0:=h.h0;have h1:=h.h1;have h2:=h.h2
 have hl:i.toNat<(l.take to.toNat).length:=by rw[List.length_take];omega
 have e:(l.take to.toNat)[i.toNat]=l[i.toNat]?.getD 0:=by
  rw[←Q8Q h0 h1,List.getElem?_eq_getElem hl];rfl
 rw[QB,QB,List.drop_eq_getElem_cons hl,e,show (i+1).toNat=i.toNat+1 by omega]
theorem Qhz {l:List Int}{i to:Int}(h:Rng l i to)(hs:Qc (l[i.toNat]?.getD 0)=true):spN l i to=spN l (i+1) to+1:=by
 rw[spN,Qdd h,List.takeWhile_cons,if_pos hs,List.length_cons];rfl
theorem Q27 {l:List Int}{i to:Int}(h0:0≤i)(hs:i<to→Rng l i to∧Qc (l[i.toNat]?.getD 0)=false):spN l i to=0:=by
 by_cases h1:i<to
 ·obtain⟨h,hs⟩:=hs h1
  rw[spN,Qdd h,List.takeWhile_cons,if_neg (by rw[hs];decide)];rfl
 ·rw[spN,QB,List.drop_of_length_le (by rw[List.length_take];omega)];rfl
theorem Q33 (l:List Int)(k to:Int):(Q2Q Qc (QB l k to) 0:Int)=(spN l k to:Nat):=by rw[QhK,spN]
theorem Q1R (l:List Int)(k to:Int):Qg (QB l k to) 0=Qg (l.take to.toNat) k.toNat:=by rw[QB,Qh1]
theorem Q1O (l:List Int){to:Int}(h0:0≤to):std.cut (Q0 l) 0 to=Q0 (l.take to.toNat):=by
 show ((Q0 l).drop (0:Int).toNat).take (to-0).toNat=_
 rw[show (0:Int).toNat=0 from rfl,List.drop_zero,Int.sub_zero]
 simp[Q0,List.map_take]
theorem Q2c {l:List Int}(h:Un l)(n:Nat):Un (l.take n):=fun x hx=>h x (List.mem_of_mem_take hx)
def Q2L (st:Bool)(sp:Int→Bool)(m F:Int):Nat→List AV→List Ob→Option (AV×List Ob):=fun f args _=>match f,args with
 |85,[.slc 1 _,.val (.int .i64 _),.val (.string _)]=>some (.val (.bool st),[])
 |117,[.val (.int .i32 r)]=>some (.val (.bool (sp r)),[])
 |116,[.slc 1 _,.val (.int .i64 _)]=>some (.val (.int .i64 m),[])
 |118,[.slc 1 _,.val (.int .i64 _),.val (.int .i64 _)]=>some (.val (.int .i64 F),[])
 |_,_=>none
def Q1Q (q:Int×Int)(k:Int):AV:=.agg [.val (.int .i64 q.1),.val (.int .i64 k),.val (.int .i64 (k+q.2))]
theorem Q1P (L:List Int)(k:Nat):Qg L k≤L.length-k:=by
 unfold Qg
 split
 ·omega
 ·split
  ·have:=(List.takeWhile_sublist Qs (l:=L.drop k)).length_le
   rw[List.length_drop] at this
   omega
  ·omega
def spI (l:List Int)(i to:Int):Int:=(spN l i to:Nat)
theorem QlL (l:List Int)(i to:Int):0≤spI l i to:=Int.natCast_nonneg _
theorem QcR {l:List Int}{i to:Int}(h:Rng l i to)(hs:Qc (l[i.toNat]?.getD 0)=true):spI l i to=spI l (i+1) to+1:=by
 rw[spI,Qhz h hs,spI];rfl
theorem Qcz {l:List Int}{i to:Int}(h0:0≤i)(hs:i<to→Rng l i to∧Qc (l[i.toNat]?.getD 0)=false):spI l i to=0:=by
 rw[spI,Q27 h0 hs];rfl
theorem Qn8 {l:List Int}(hl:l.length≤1000000000)(hu:Un l){k to:Int}(h:Rng l k to):∃ (n:Int) (T:List AV),T=Q0 (l.take to.toNat)∧Len l n∧0≤k∧k<to∧to≤l.length∧((l.take to.toNat).length:Int)=to ∧
  BCall prog 85 [.slc 1 T,.val (.int .i64 k),.val (.string ⟨#[60,47]⟩)] [] (.val (.bool (Q3 (l.take to.toNat) k.toNat (⟨#[60,47]⟩:ByteArray).data.toList))) [] ∧
  BCall prog 116 [.slc 1 T,.val (.int .i64 k)] [] (.val (.int .i64 (Qg (l.take to.toNat) k.toNat))) []∧Qg (l.take to.toNat) k.toNat≤(l.take to.toNat).length-k.toNat ∧
  BCall prog 118 [.slc 1 (Q0 l),.val (.int .i64 k),.val (.int .i64 to)] [] (.val (.int .i64 (Qx (l.take to.toNat) k))) []∧std.cut (Q0 l) 0 to=T ∧
  Q3 (QB l k to) 0 [60,47]=Q3 (l.take to.toNat) k.toNat [60,47]∧Qg (QB l k to) 0=Qg (l.take to.toNat) k.toNat∧(Q2Q Qc (QB l k to) 0:Int)=(spN l k to:Nat)∧(QB l k to).getD 0 0=l[k.toNat]?.getD 0 ∧
  (Q0 l)[k.toNat]?.getD .dead=.val (.int .i32 (l[k.toNat]?.getD 0))∧(Q0 l).length=l.length∧to≤n∧n≤1000000000:=by
 have h0:=h.h0
 have h1:=h.h1
 have h2:=h.h2
 have hLl:((l.take to.toNat).length:Int)=to:=by rw[List.length_take];omega
 exact⟨l.length,_,rfl,rfl,h0,h1,h2,hLl,Qa (l.take to.toNat) (by omega) (Q2c hu _).i32 k h0 (by omega) ⟨#[60,47]⟩ (by decide),Q1a (l.take to.toNat) (by omega) k h0 (by omega),Q1P _ _,Q1w l hl k to h0 h1 h2,Q1O l (to:=to) (by omega),by rw[QB,Q1b],Q1R l k to,Q33 l k to,h.head,Qv (l:=l) (i:=k) h0 (by omega),Qi l,h2,by omega⟩
theorem Qn9 {l:List Int}{k:Int}(ak:(Q0 l)[k.toNat]?.getD .dead=.val (.int .i32 (l[k.toNat]?.getD 0))):BCall prog 117 [.val (.int .i32 (std.int (std.nth (std.cel (std.at_ (Q0 l) k)) 0)))] [] (.val (.bool (Qc (std.int (std.nth (std.cel (std.at_ (Q0 l) k)) 0))))) []:=Q1f _
end Go.Proofs.YthbjpdijafccjaaGreat
