/- Lemmas, conditions told -/
import Derived.Lib.Split
import Derived.Test.YtibemhahkicbpaaGreatJ10
import Derived.Laws.StructEq
import Derived.WideShapes
set_option maxRecDepth 99999
set_option maxHeartbeats 0
set_option linter.unusedSimpArgs false
set_option linter.unusedVariables false
namespace Go.Proofs.YtibemhahkicbpaaGreat
open List(map_cons mem_map length_take drop_zero map_take take_of_length_le drop_succ_cons find?_cons getElem_drop getD_eq_getElem?_getD getElem?_eq_getElem getElem?_take length_map length_drop ext_getElem? getElem?_eq_none take_add_one map_append getElem?_map length_set)
open Nat(le_refl add_assoc)
open Go.RowKit Go.Lib
section
open Tryz
def Q1T(s t:ByteArray):Bool:=decide (t.size<=s.size)&&(s.data.toList.take t.size == t.data.toList)
theorem Qhh{s t:ByteArray}(h:t.size<=s.size):std.eqS (std.cutS s 0 (std.szS t)) t=Q1T s t:=by
 simp only[std,Q1T,h,decide_true,Bool.true_and,ByteArray.toList_eq];rw[show(0:Int).toNat=0 from rfl,Int.toNat_natCast,extract_from_zero]
theorem QnX(s t:ByteArray):BCall prog 173 [.val (.string s),.val (.string t)] [] (.val (.bool (Q1T s t))) []:=by
 refine fnN (cs0) func173 rfl fun _ _=>?_
 with_reducible refine cv0 ?_
 refine⟨fun h=>⟨?_,.pure rfl (.inl ?_)⟩,fun h=>.pure rfl (.inl ?_)⟩
 ·have h:t.size<=s.size:=by simpa[std]using h
  simp[std];omega
 ·have h:t.size<=s.size:=by simpa[std]using h
  show AV.val (.bool (std.eqS (std.cutS s 0 (std.szS t)) t))=_;rw[Qhh h]
 ·have h:¬t.size<=s.size:=by simpa[std]using h
  simp[Q1T,h]
def Q6b(pre:ByteArray->ByteArray->Bool):Nat->List AV->List Ob->Option (AV×List Ob):=fun f args _=>match f,args with
 |173,[.val (.string s),.val (.string t)]=>some (.val (.bool (pre s t)),[])
 |132,[.val (.string s),.val (.string t)]=>some (.val (.bool (pre s t)),[])
 |_,_=>none
theorem QkP(s t:ByteArray):BCall prog 132 [.val (.string s),.val (.string t)] [] (.val (.bool (Q1T s t))) []:=by
 refine fnN (Q6b Q1T) func132 rfl fun _ _=>?_
 with_reducible refine cv1 Q1T ?_
 exact⟨QnX s t,.pure rfl (.inl rfl)⟩
def signsL:List (List UInt8×Int×Int):=[([254,255],1,2),([255,254],2,2),([239,187,191],0,3),([0,60,0,63],1,0),([60,0,63,0],2,0)]
def kR(pre:List UInt8->Bool)(k:Nat):Int×Int:=match(signsL.drop k).find? (fun x=>pre x.1)with
 |some x=>x.2
 |none=>(0,0)
def QX(b:List UInt8):Int×Int:=kR (fun t=>t.isPrefixOf b) 0
theorem Q3u(l:List UInt8):(Q2 l).map Q35=l:=by
 induction l with
 |nil=>rfl
 |cons x r ih=>rw[Q2,map_cons,map_cons];rw[Q2]at ih;rw[ih];simp[Q6g,Q35]
theorem QaC(l:List UInt8):std.isB (Q2 l):=fun x hx=>by
 obtain⟨n,_,rfl⟩:=mem_map.1 hx;exact⟨n,rfl⟩
theorem Qkd(b t:List UInt8)(h:t.length<=4):Q1T ⟨(b.take 4).toArray⟩ ⟨t.toArray⟩=t.isPrefixOf b:=by
 have e:Q1T ⟨(b.take 4).toArray⟩ ⟨t.toArray⟩=(decide (t.length<=(b.take 4).length)&&((b.take 4).take t.length == t)):=rfl;rw[e,Bool.eq_iff_iff,List.isPrefixOf_iff_prefix,List.prefix_iff_eq_take];simp only[List.take_take,length_take,Bool.and_eq_true,decide_eq_true_eq,beq_iff_eq,Nat.min_eq_left h];constructor
 ·exact fun h=>h.2.symm
 ·intro h1
  have:t.length<=b.length:=by
   have:=congrArg List.length h1
   rw[length_take]at this;omega
  exact⟨by omega,h1.symm⟩
theorem Qmc(b:List UInt8):BCall prog 84 [.slc 1 (Q2 b)] [] (.tup [.val (.int .i64 (QX b).1),.val (.int .i64 (QX b).2)]) []:=by
 refine fnN (Q6b Q1T) func84 rfl fun _ _=>?_
 with_reducible refine cv2 Q1T (Q2 b) ?_
 have jV:=Q11 b;have yr:std.minI (std.len (Q2 b)) 4=if 4<(b.length:Int)then 4 else(b.length:Int):=by simp only[std,jV]
 have jS:std.cut (Q2 b) 0 (std.minI (std.len (Q2 b)) 4)=Q2 (b.take 4):=by
  rw[yr];show((Q2 b).drop (0:Int).toNat).take _=_
  rw[show(0:Int).toNat=0 from rfl,drop_zero,Q2,Q2,map_take];split
  ·rfl
  ·have:b.length<=4:=by omega
   rw[take_of_length_le (by simp),take_of_length_le (by simpa using this)]
 refine⟨?_,?_,?_⟩
 ·simp only[std,jV]
  split<;>omega
 ·show std.isB (std.cut (Q2 b) 0 (std.minI (std.len (Q2 b)) 4))
  rw[jS];exact QaC _
 have nB:std.strB (std.cut (Q2 b) 0 (std.minI (std.len (Q2 b)) 4))=⟨(b.take 4).toArray⟩:=by
  rw[jS];show(⟨((Q2 (b.take 4)).map Q35).toArray⟩:ByteArray)=_
  rw[Q3u]
 obtain⟨s,hs⟩:=exq (⟨(b.take 4).toArray⟩:ByteArray);have zp:∀t:List UInt8,t.length<=4->t.isPrefixOf b=Q1T s ⟨t.toArray⟩:=fun t h=>by rw[hs,Qkd b t h]
 have hR:QX b=kR (fun t=>Q1T s ⟨t.toArray⟩) 0:=by
  simp[QX,kR,signsL,List.find?,zp [254,255] (by decide),zp [255,254] (by decide),zp [239,187,191] (by decide),zp [0,60,0,63] (by decide),zp [60,0,63,0] (by decide)]
 rw[hR];obtain⟨R,hRE⟩:=exq (kR (fun t=>Q1T s ⟨t.toArray⟩) 0)
 rw[<-hRE];obtain⟨R1,R2⟩:=R;refine Q1h (Q6b Q1T) (Int) (fun k=>⟨[(5,.val (.string s)),(20,.agg [.val (.string ⟨#[254,255]⟩),.val (.int .i64 1),.val (.int .i64 2),.val (.string ⟨#[255,254]⟩),.val (.int .i64 2),.val (.int .i64 2),.val (.string ⟨#[239,187,191]⟩),.val (.int .i64 0),.val (.int .i64 3),.val (.string ⟨#[0,60,0,63]⟩),.val (.int .i64 1),.val (.int .i64 0),.val (.string ⟨#[60,0,63,0]⟩),.val (.int .i64 2),.val (.int .i64 0)]),(21,.val (.int .i64 k))],[]⟩) (fun k=>0<=k/\k<=5/\(R1,R2)=kR (fun t=>Q1T s ⟨t.toArray⟩) k.toNat) (fun k=>(5-k).toNat) 0 ?_ ?_ ?_
 ·exact⟨by omega,by omega,hRE⟩
 ·refine⟨[],_,rfl,?_,?_⟩
  ·show AV.val (.string (std.strB (std.cut (Q2 b) 0 (std.minI (std.len (Q2 b)) 4))))=.val (.string s)
   rw[nB,<-hs]
  ·repeat first|exact trivial|refine⟨rfl,?_⟩
 ·rintro k ⟨qB,hk5,hk⟩
  have hcs:k=0\/k=1\/k=2\/k=3\/k=4\/k=5:=by omega
  clear hR zp hRE nB jS jV hs yr;rcases hcs with rfl|rfl|rfl|rfl|rfl|rfl
  ·with_reducible refine cv1 Q1T ?_
   with_reducible repeat' first|refine aU hk ?_|refine zA ?_ ?_|intro hb
   ·exact QkP _ _
   ·with_reducible refine cv1 Q1T ?_
    simp[kR,signsL,List.find?,hb]at hk;exact .pure rfl ⟨.inl (by rw[hk.1]),.inl (by rw[hk.2]),trivial⟩
   ·refine⟨1,⟨by omega,by omega,?_⟩,by omega,[],_,rfl,?_⟩
    ·rw[hk]
     simp only[kR,signsL,Int.reduceToNat,drop_succ_cons,drop_zero,find?_cons,hb]
    ·simp[Qe,lk,std]
  ·with_reducible refine cv1 Q1T ?_
   with_reducible repeat' first|refine aU hk ?_|refine zA ?_ ?_|intro hb
   ·exact QkP _ _
   ·with_reducible refine cv1 Q1T ?_
    simp[kR,signsL,List.find?,hb]at hk;exact .pure rfl ⟨.inl (by rw[hk.1]),.inl (by rw[hk.2]),trivial⟩
   ·refine⟨2,⟨by omega,by omega,?_⟩,by omega,[],_,rfl,?_⟩
    ·rw[hk]
     simp only[kR,signsL,Int.reduceToNat,drop_succ_cons,drop_zero,find?_cons,hb]
    ·simp[Qe,lk,std]
  ·with_reducible refine cv1 Q1T ?_
   with_reducible repeat' first|refine aU hk ?_|refine zA ?_ ?_|intro hb
   ·exact QkP _ _
   ·with_reducible refine cv1 Q1T ?_
    simp[kR,signsL,List.find?,hb]at hk;exact .pure rfl ⟨.inl (by rw[hk.1]),.inl (by rw[hk.2]),trivial⟩
   ·refine⟨3,⟨by omega,by omega,?_⟩,by omega,[],_,rfl,?_⟩
    ·rw[hk]
     simp only[kR,signsL,Int.reduceToNat,drop_succ_cons,drop_zero,find?_cons,hb]
    ·simp[Qe,lk,std]
  ·with_reducible refine cv1 Q1T ?_
   with_reducible repeat' first|refine aU hk ?_|refine zA ?_ ?_|intro hb
   ·exact QkP _ _
   ·with_reducible refine cv1 Q1T ?_
    simp[kR,signsL,List.find?,hb]at hk;exact .pure rfl ⟨.inl (by rw[hk.1]),.inl (by rw[hk.2]),trivial⟩
   ·refine⟨4,⟨by omega,by omega,?_⟩,by omega,[],_,rfl,?_⟩
    ·rw[hk]
     simp only[kR,signsL,Int.reduceToNat,drop_succ_cons,drop_zero,find?_cons,hb]
    ·simp[Qe,lk,std]
  ·with_reducible refine cv1 Q1T ?_
   with_reducible repeat' first|refine aU hk ?_|refine zA ?_ ?_|intro hb
   ·exact QkP _ _
   ·with_reducible refine cv1 Q1T ?_
    simp[kR,signsL,List.find?,hb]at hk;exact .pure rfl ⟨.inl (by rw[hk.1]),.inl (by rw[hk.2]),trivial⟩
   ·refine⟨5,⟨by omega,by omega,?_⟩,by omega,[],_,rfl,?_⟩
    ·rw[hk]
     simp only[kR,signsL,Int.reduceToNat,drop_succ_cons,drop_zero,find?_cons,hb]
    ·simp[Qe,lk,std]
  ·with_reducible refine cv1 Q1T ?_
   with_reducible repeat' first|refine aU hk ?_|refine zA ?_ ?_|intro hb
   rw[if_pos trivial];with_reducible refine cv1 Q1T ?_
   simp[kR,signsL]at hk;exact .pure rfl ⟨.inl (by rw[hk.1]),.inl (by rw[hk.2]),trivial⟩
def Q1E(l:List Int):Int:=if l.getD 0 0=34\/l.getD 0 0=39 then(match(l.drop 1).findIdx? (· == l.getD 0 0)with|some k=>k+2|none=>0)else 0
theorem QhC{l:List Int}{i:Int}(hq:l.getD 0 0=34\/l.getD 0 0=39)(h1:1<=i)(h2:i<l.length)(h3:∀j:Int,1<=j->j<i->l.getD j.toNat 0≠l.getD 0 0)(h4:l.getD i.toNat 0=l.getD 0 0):Q1E l=i+1:=by
 have hk:i.toNat-1<(l.drop 1).length:=by simp;omega
 have e:(l.drop 1).findIdx? (· == l.getD 0 0)=some (i.toNat-1):=by
  rw[List.findIdx?_eq_some_iff_getElem];refine⟨hk,?_,fun j hj=>?_⟩
  ·have h5:1+(i.toNat-1)=i.toNat:=by omega
   have h6:i.toNat<l.length:=by omega
   simp only[getElem_drop,h5,beq_iff_eq];rw[<-h4,getD_eq_getElem?_getD,getElem?_eq_getElem h6];rfl
  ·have h6:j+1<l.length:=by omega
   have h7:=h3 ((j+1:Nat):Int) (by omega) (by omega)
   rw[Int.toNat_natCast,getD_eq_getElem?_getD,getElem?_eq_getElem h6]at h7;simpa[getElem_drop]using h7
 simp only[Q1E,if_pos hq,e];omega
theorem Qgl{l:List Int}(h3:∀j:Int,1<=j->j<l.length->l.getD j.toNat 0≠l.getD 0 0):Q1E l=0:=by
 have e:(l.drop 1).findIdx? (· == l.getD 0 0)=none:=by
  rw[List.findIdx?_eq_none_iff];intro x hx;obtain⟨j,hj,rfl⟩:=List.mem_iff_getElem.1 hx;have h6:j+1<l.length:=by simp at hj;omega
  have h7:=h3 ((j+1:Nat):Int) (by omega) (by omega)
  rw[Int.toNat_natCast,getD_eq_getElem?_getD,getElem?_eq_getElem h6]at h7;simpa[getElem_drop]using h7
 simp only[Q1E,e];split<;>rfl
theorem Qns(l:List Int)(hl:l≠[])(xj:l.length<=1000000000):BCall prog 184 [.slc 1 (Q0 l)] [] (.val (.int .i64 (Q1E l))) []:=by
 refine QlH (cs:=cs0) (ord:=fun _=>.nil) Q6k (by kernel_rfl) func184 rfl (enters_of func184 (by kernel_rfl) rfl) (Nat.le_of_ble_eq_true rfl) (by kernel_rfl) (by kernel_rfl) ?_
 intro w0 g0;generalize hp:std=p;generalize hx:Q0 l=xs;generalize hT:Q4 p tys cs0 _ _ _ _=T;cbv at hT;subst hT;simp only[Tree.ok];subst hp hx;have jf:0<l.length:=List.length_pos_iff.2 hl;have jE:=Qx l;have a0:(Q0 l)[0]?.getD .dead=.val (.int .i32 (l[0]?.getD 0)):=QJ (i:=0) (Int.le_refl 0) (by omega)
 refine⟨?_,?_,fun h1=>⟨?_,?_,fun h2=>.pure rfl (.inl ?_),fun h2=>?_⟩,fun h1=>?_⟩
 ·simp[std,jE,jf]
 ·simp[std,Q3t,a0,AV.cells,intOf]
 ·simp[std,jE,jf]
 ·simp[std,Q3t,a0,AV.cells,intOf]
 ·simp[std,a0,AV.cells,intOf]at h1 h2
  simp[Q1E,h1,h2]
 all_goals
  have hq:l.getD 0 0=34\/l.getD 0 0=39:=by
   first
    |(simp[std,a0,AV.cells,intOf]at h2;exact .inr h2)
    |(simp[std,a0,AV.cells,intOf]at h1;exact .inl h1)
  refine Qcq (cs:=cs0) (ord:=fun _=>.nil) Q6k (by kernel_rfl) (by kernel_rfl) (by kernel_rfl) (X:=Int) (fun i=>⟨[(0,.slc 1 (Q0 l)),(3,.val (.int .i64 i))],[]⟩)
   (fun i=>1<=i/\i<=l.length/\∀j:Int,1<=j->j<i->l.getD j.toNat 0≠l.getD 0 0) (fun i=>(l.length-i).toNat) 1 ⟨by omega,by omega,fun j h1 h2=>by omega⟩ ⟨[],_,rfl,?_⟩ ?_
  ·exact⟨rfl,rfl,trivial⟩
  ·rintro i ⟨vA,yo,pR⟩
   clear h1;generalize hp:std=p;generalize hx:Q0 l=xs;generalize hT:Q4 p tys cs0 _ _ _ _=T;cbv at hT;subst hT;simp only[Tree.ok,Q1];subst hp hx;refine⟨fun h1=>?_,fun h1=>?_⟩
   ·have h1:i<l.length:=by simpa[std,jE]using h1
    have ai:=QJ (l:=l) (i:=i) (by omega) h1
    refine⟨?_,?_,?_,?_,fun h2=>⟨?_,?_⟩,fun h2=>⟨?_,i+1,⟨?_,?_,fun j h3 h4=>?_⟩,?_,[],_,rfl,?_⟩⟩
    ·simp[std,jE];omega
    ·simp[std,Q3t,ai,AV.cells,intOf]
    ·simp[std,jE,jf]
    ·simp[std,Q3t,a0,AV.cells,intOf]
    ·show(-9223372036854775808:Int)<=_/\_<=(9223372036854775807:Int)
     simp[std];omega
    ·generalize hp:std=p
     generalize hx:Q0 l=xs;generalize hT:Q53 p tys _ _ _ _=T;cbv at hT;subst hT;subst hp hx;refine FinOk.pure rfl (.inl ?_);have e:l.getD i.toNat 0=l.getD 0 0:=by simpa[std,ai,a0,AV.cells,intOf]using h2
     rw[QhC hq vA h1 pR e];rfl
    ·show(-9223372036854775808:Int)<=_/\_<=(9223372036854775807:Int)
     simp[std];omega
    ·show(1:Int)<=i+1
     omega
    ·show i+1<=(l.length:Int)
     omega
    ·by_cases qo:j=i
     ·subst qo
      simpa[std,ai,a0,AV.cells,intOf]using h2
     ·exact pR j h3 (by omega)
    ·show((l.length:Int)-(i+1)).toNat<((l.length:Int)-i).toNat
     omega
    ·exact⟨rfl,rfl,trivial⟩
   ·have h1:¬i<l.length:=by simpa[std,jE]using h1
    generalize hp:std=p;generalize hx:Q0 l=xs;generalize hT:Q4 p tys cs0 _ _ _ _=T;cbv at hT;subst hT hp hx;rw[if_pos trivial];refine FinOk.pure rfl (.inl ?_);rw[Qgl (l:=l) (fun j h3 h4=>pR j h3 (Int.lt_of_lt_of_le h4 (Int.not_lt.1 h1)))]
structure TPart where
 kind:Int
 from_:Int
 to:Int
 deriving Inhabited
def TPart.av(x:TPart):AV:=.agg [.val (.int .i64 x.kind),.val (.int .i64 x.from_),.val (.int .i64 x.to)]
def Q8(l:List TPart):List AV:=l.map TPart.av
def Qm:TPart:=⟨0,0,0⟩
theorem Q1d(l:List TPart):(Q8 l).length=l.length:=by simp[Q8]
theorem QaN(a b:List TPart):Q8 (a++b)=Q8 a++Q8 b:=by simp[Q8]
theorem Q7O(x:TPart):Q8 [x]=[.agg [.val (.int .i64 x.kind),.val (.int .i64 x.from_),.val (.int .i64 x.to)]]:=rfl
theorem Q2a{l:List TPart}{i:Int}(h0:0<=i)(h1:i<l.length):(Q8 l)[i.toNat]?.getD .dead=(l[i.toNat]?.getD Qm).av:=QdT TPart.av h0 h1 Qm
def QO(l:List TPart)(a:Nat)(ks:List Int):Bool:=((l.drop a).take ks.length).map TPart.kind == ks
theorem Q29{l:List TPart}{a:Nat}{ks:List Int}(ha:a<=l.length):QO l a ks=true↔(a+ks.length<=l.length/\∀j,j<ks.length->(l[a+j]?.getD Qm).kind=ks[j]?.getD 0):=by
 have at_:a+ks.length<=l.length->∀j,j<ks.length->(((l.drop a).take ks.length).map TPart.kind)[j]?=some (l[a+j]?.getD Qm).kind:=fun h j hj=>by
  have h1:a+j<l.length:=by omega
  simp[getElem?_take,List.getElem?_drop,hj,h1]
 rw[QO,beq_iff_eq];constructor
 ·intro h
  have h1:a+ks.length<=l.length:=by
   have:=congrArg List.length h
   simp only[length_map,length_take,length_drop]at this;omega
  refine⟨h1,fun j hj=>?_⟩
  have h2:=at_ h1 j hj;rw[h]at h2;rw[h2];rfl
 ·rintro⟨h1,h2⟩
  refine ext_getElem? fun j=>?_
  by_cases hj:j<ks.length
  ·rw[at_ h1 j hj,h2 j hj,getElem?_eq_getElem hj];rfl
  ·rw[getElem?_eq_none (by simp;omega),getElem?_eq_none (by omega)]
theorem Q6V(l:List TPart)(hl:l.length<=1000000000)(a:Int)(h0:0<=a)(h1:a<=l.length)(ks:List Int)(hk:ks.length<=10)(res:AV)(a':Int)
  (hhit:QO l a.toNat ks=true->res=.slc 3 (Q8 ((l.drop a.toNat).take ks.length))/\a'=a+ks.length) (yl:QO l a.toNat ks=false->res=.val (.slice none 0 0)/\a'=a) :
  BCall prog 101 [.box 0 0,.slc 1 (Q9 ks)] [.box [.slc 3 (Q8 l),.val (.int .i64 a)]] res [.box [.slc 3 (Q8 l),.val (.int .i64 a')]]:=by
 obtain⟨n,hn⟩:=QE l;obtain⟨m,hm⟩:=QE ks;refine fnN (cs0) func101 rfl fun _ _=>?_
 have jv:=Q1d l;have qY:=Q2w ks;have xk:=Q29 (l:=l) (a:=a.toNat) (ks:=ks) (by omega)
 with_reducible refine cv2 (Q8 l) (Q9 ks) ?_
 have en:=hn.eq;have em:=hm.eq;replace h1:a<=(l.length:Int):=h1;refine⟨?_,fun h=>?_,fun h=>?_⟩
 ·refine(Qhr _).2 ?_
  simp only[std,jv];omega
 ·have h:(l.length:Int)-a<ks.length:=by simpa[std,jv,qY]using h
  obtain⟨rfl,rfl⟩:=yl (by
   rw[Bool.eq_false_iff];intro h2;have:=(xk.1 h2).1
   omega)
  exact⟨[some 0],.val (.slice none 0 0),_,rfl,rfl,le_refl _,rfl,by simp[Qe],.inl rfl⟩
 ·have h:¬(l.length:Int)-a<ks.length:=by simpa[std,jv,qY]using h
  refine Q1h (cs0) (Int) (fun i=>⟨[(0,.box 0 0),(1,.slc 1 (Q9 ks)),(21,.slc 1 (Q9 ks)),(22,.val (.int .i64 m)),(23,.val (.int .i64 i))],[.box [.slc 3 (Q8 l),.val (.int .i64 a)]]⟩) (fun i=>0<=i/\i<=m/\∀j:Nat,(j:Int)<i->(l[a.toNat+j]?.getD Qm).kind=ks[j]?.getD 0) (fun i=>(m-i).toNat) 0 ?_ ?_ ?_
  ·exact⟨by omega,by omega,fun j hj=>by omega⟩
  ·refine⟨[some 0],_,rfl,?_⟩
   simp[Qe,lk,std,qY,em]
  ·have vK:a+m<=n:=by omega
   clear h;rintro i ⟨jL,him,hi⟩;rcases Int.lt_or_eq_of_le him with jA|j7
   ·have jX:=Q2T (l:=ks) jL (by omega)
    have pS:=Q2a (l:=l) (i:=a+i) (by omega) (by omega)
    have pT:(a+i).toNat=a.toNat+i.toNat:=by omega
    rw[pT]at pS;have cj:∀j:Nat,j<i.toNat->(l[a.toNat+j]?.getD Qm).kind=ks[j]?.getD 0:=fun j hj=>hi j (by omega)
    clear hi;clear en em;with_reducible refine cv2 (Q8 l) (Q9 ks) ?_
    have en:=hn.eq;have em:=hm.eq;have hib:a+i<(l.length:Int):=by omega
    repeat' first
     |(with_reducible refine And.intro (fun hx=>absurd hx (by first|(try simp[std,S1,jX,pS,pT,TPart.av,jv,qY,jA,jL,hib])<;>omega|omega)) (fun _=>?_))
     |(with_reducible refine And.intro (fun _=>?_) (fun hx=>absurd hx (by first|(try simp[std,S1,jX,pS,pT,TPart.av,jv,qY,jA,jL,hib])<;>omega|omega)))
     |(with_reducible refine And.intro (by first|(try simp[std,S1,jX,pS,pT,TPart.av,jv,qY,jA,jL,hib])<;>omega|omega) ?_)
     |(with_reducible refine zA ?_ ?_)
     |(with_reducible intro hb)
    ·have jQ:¬(l[a.toNat+i.toNat]?.getD Qm).kind=ks[i.toNat]?.getD 0:=by
      simpa[std,jX,pS,pT,TPart.av,AV.cells,intOf]using hb
     obtain⟨rfl,rfl⟩:=yl (by
      rw[Bool.eq_false_iff];intro h2;exact jQ ((xk.1 h2).2 i.toNat (by omega)))
     with_reducible refine cv2 (Q8 l) (Q9 ks) ?_
     exact⟨[some 0],.val (.slice none 0 0),_,rfl,rfl,le_refl _,rfl,by simp[Qe],.inl rfl⟩
    ·have he:(l[a.toNat+i.toNat]?.getD Qm).kind=ks[i.toNat]?.getD 0:=by
      simpa[std,jX,pS,pT,TPart.av,AV.cells,intOf]using hb
     refine⟨i+1,⟨by omega,by omega,fun j hj=>?_⟩,by omega,[some 0],_,rfl,by simp[Qe,lk,std]⟩
     have hj:(j:Int)<i+1:=hj;by_cases qo:j<i.toNat
     ·exact cj j qo
     ·obtain rfl:j=i.toNat:=by omega
      exact he
   ·obtain⟨rfl,rfl⟩:=hhit (xk.2 ⟨by omega,fun j hj=>hi j (by omega)⟩)
    have jS:std.cut (Q8 l) a (a+m)=Q8 ((l.drop a.toNat).take ks.length):=by
     show((Q8 l).drop a.toNat).take (a+m-a).toNat=_
     rw[show(a+m-a).toNat=ks.length by omega,Q8,Q8,map_take,List.map_drop]
    have ky:std.len (Q9 ks)=m:=by simp only[std,qY,em]
    have nD:a+(ks.length:Int)=a+m:=by omega
    rw[nD,<-jS];clear en em hi;with_reducible refine cv2 (Q8 l) (Q9 ks) ?_
    with_reducible repeat' first|refine aU j7 ?_|refine zA ?_ ?_|intro hb
    rw[if_pos trivial];with_reducible refine cv2 (Q8 l) (Q9 ks) ?_
    have en:=hn.eq;have em:=hm.eq
    repeat' first
     |(with_reducible refine And.intro (fun hx=>absurd hx (by first|(try simp[std,S1,ky,jv,qY,<-em])<;>omega|omega)) (fun _=>?_))
     |(with_reducible refine And.intro (fun _=>?_) (fun hx=>absurd hx (by first|(try simp[std,S1,ky,jv,qY,<-em])<;>omega|omega)))
     |(with_reducible refine And.intro (by first|(try simp[std,S1,ky,jv,qY,<-em])<;>omega|omega) ?_)
     |(with_reducible refine zA ?_ ?_)
     |(with_reducible intro hb)
    have zq:std.add a (std.len (Q9 ks))=a+m:=by rw[ky];rfl
    refine⟨[some 0],.slc 3 (std.cut (Q8 l) a (a+m)),_,rfl,rfl,le_refl _,rfl,⟨?_,rfl,?_,trivial⟩,.inl rfl⟩
    ·show AV.slc 3 (std.cut (Q8 l) a (std.add a (std.len (Q9 ks))))=_
     rw[zq]
    ·show AV.val (.int .i64 (std.add a (std.len (Q9 ks))))=_
     rw[zq]
end
theorem Qom{α:Type}(f:α->AV){l:List α}{i:Int}(h0:0<=i)(h1:i<l.length)(d:α):std.at_ (l.map f) i=f (l[i.toNat]?.getD d):=by
 show(l.map f).getD i.toNat .dead=_
 rw[getD_eq_getElem?_getD];exact QdT f h0 h1 d
theorem QdH{l:List Int}{i:Int}(h0:0<=i)(h1:i<l.length):std.nth (std.cel (std.at_ (Q9 l) i)) 0=.val (.int .i64 (l[i.toNat]?.getD 0)):=by rw[Q9,Qom Qgf h0 h1 0];rfl
theorem QmM{x:AV}{n:Int}{k:IntKind}(h:x=.val (.int k n)):std.hasI k x:=by subst h;rfl
theorem Ql3{x:AV}{n:Int}{k:IntKind}(h:x=.val (.int k n)):std.int x=n:=by subst h;rfl
section
open Tryz
inductive Cur where
 |root (n:Int)
 |kid (n f k:Int) (up:Cur)
 deriving Inhabited
def Cur.n:Cur->Int
 |.root n=>n
 |.kid n _ _ _=>n
def Cur.f:Cur->Int
 |.root _=>0
 |.kid _ f _ _=>f
def Cur.k:Cur->Int
 |.root _=>0
 |.kid _ _ k _=>k
def upO(N:List AV):Cur->AV
 |.root _=>.val (.pointer none)
 |.kid _ _ _ up=>.ref [.ref [.slc 6 N],.val (.int .i64 up.n),.val (.int .i64 up.f),.val (.int .i64 up.k),.opt (upO N up)]
def Cur.cs(N:List AV)(c:Cur):List AV:=[.ref [.slc 6 N],.val (.int .i64 c.n),.val (.int .i64 c.f),.val (.int .i64 c.k),.opt (upO N c)]
def QpK:List AV:=[.val (.pointer none),.val (.int .i64 0),.val (.int .i64 0),.val (.int .i64 0),.val (.pointer none)]
theorem QcJ(N:List AV)(c:Cur):Q56 (upO N c):=by cases c<;>trivial
def Qg(l:List Node)(c:Cur):List Int:=(Qn l c.n).kids
def Q34(l:List Node)(c:Cur)(k:Int):Cur:=.kid ((Qg l c)[k.toNat]?.getD 0) (c.f+Q1Z l ((Qg l c).take k.toNat)) k c
def Qpw(len:List AV->Int):Nat->List AV->List Ob->Option (AV×List Ob):=fun f args _=>match f,args with
 |118,[.ref [.slc 6 xs]]=>some (.val (.int .i64 (len xs)),[])
 |_,_=>none
theorem QoT(l:List Node)(n:Int)(h0:0<=n)(h1:n<l.length):BCall prog 67 [.ref [.slc 6 (Q3 l)],.val (.int .i64 n)] [] (.tup [.agg ((Cur.root n).cs (Q3 l)),.val (.int .i64 0)]) []:=by
 have cL:=QbT l;have jE:Q5p (Q3 l)=l.length:=by rw[Q5p,Q1o]
 refine fnN (Qpw Q5p) func67 rfl fun _ _=>?_
 with_reducible refine cv2 Q5p (Q3 l) ?_
 refine⟨fun h=>?_,fun _=>⟨cL,fun h=>?_,fun _=>.pure rfl ⟨⟨.inl rfl,.inl rfl,.inl rfl,.inl rfl,.inr (.inr (.inl ⟨rfl,trivial⟩)),trivial⟩,.inl rfl,trivial⟩⟩⟩
 ·have h:n<0:=of_decide_eq_true h
  omega
 ·have h:Q5p (Q3 l)<=n:=of_decide_eq_true h
  omega
def QiF(kd:Int->List AV)(w:Int->Int):Nat->List AV->List Ob->Option (AV×List Ob):=fun f args _=>match f,args with
 |68,[.ref [.slc 6 _],.val (.int .i64 n)]=>some (.slc 1 (kd n),[])
 |58,[.ref [.slc 6 _],.val (.int .i64 n)]=>some (.val (.int .i64 (w n)),[])
 |_,_=>none
theorem QtS(l:List Node)(c:Cur)(k:Int)(hk:¬(0<=k/\k<(Qg l c).length))(hn:(Qg l c).length<=1000000):BCall prog 56 [.agg (c.cs (Q3 l)),.val (.int .i64 k)] [] (.tup [.agg QpK,.val (.bool false)]) []:=by
 have cK:=QlB l c.n (by show(Qg l c).length<=_;omega)
 obtain⟨m,hm⟩:=QE (Qg l c);have jE:=Q2w (Qg l c);have hk:¬(0<=k/\k<m):=by rw[hm.eq];exact hk
 rename ¬(0<=k/\k<((Qg l c).length:Int))=>qB
 clear qB;obtain⟨cn,qK⟩:=exq c.n;obtain⟨cf,qe⟩:=exq c.f;obtain⟨ck,qW⟩:=exq c.k;have nN:Q23 l cn=Q9 (Qg l c):=by rw[qK];rfl
 rw[Cur.cs,<-qK,<-qe,<-qW];rw[<-qK]at cK;have cK:BCall prog 68 [.ref [.slc 6 (Q3 l)],.val (.int .i64 cn)] [] (.slc 1 (Q23 l cn)) []:=cK;refine fnN (QiF (Q23 l) (Q1c l)) func56 rfl fun _ _=>?_
 with_reducible refine cv4 (Q23 l) (Q1c l) (upO (Q3 l) c) (Q3 l) ?_
 have qY:std.len (Q23 l cn)=m:=by show((Q23 l cn).length:Int)=_;rw[nN,jE,hm.eq]
 refine⟨cK,fun _=>.pure rfl ⟨⟨.inl rfl,.inl rfl,.inl rfl,.inl rfl,.inl rfl,trivial⟩,.inl rfl,trivial⟩,fun h=>⟨fun _=>.pure rfl ⟨⟨.inl rfl,.inl rfl,.inl rfl,.inl rfl,.inl rfl,trivial⟩,.inl rfl,trivial⟩,fun h2=>?_⟩⟩
 have h:¬k<0:=of_decide_eq_false h;have h2:¬std.len (Q23 l cn)<=k:=of_decide_eq_false h2;rw[qY]at h2;omega
theorem QnI(l:List Node)(c:Cur)(k:Int)(h0:0<=k)(h1:k<(Qg l c).length)(hn:(Qg l c).length<=1000000)(hw:∀n,0<=Q1c l n)(hs:Q1Z l (Qg l c)<=2147483647)(qh:0<=c.f)(qt:c.f<=2147483647) :
  BCall prog 56 [.agg (c.cs (Q3 l)),.val (.int .i64 k)] [] (.tup [.agg ((Q34 l c k).cs (Q3 l)),.val (.bool true)]) []:=by
 have cK:=QlB l c.n (by show(Qg l c).length<=_;omega)
 have cW:=fun n=>Qn0 l n
 obtain⟨cn,qK⟩:=exq c.n;obtain⟨cf,qe⟩:=exq c.f;obtain⟨ck,qW⟩:=exq c.k;obtain⟨ks,yN⟩:=exq (Qg l c);obtain⟨m,hm⟩:=QE ks;have nN:Q23 l cn=Q9 ks:=by rw[qK,yN];rfl
 rw[<-yN]at h1 hn hs;rw[<-qe]at qh qt;have gy:k<m:=by rw[hm.eq];exact h1
 have jE:=Q2w ks;have qY:std.len (Q23 l cn)=m:=by show((Q23 l cn).length:Int)=_;rw[nN,jE,hm.eq]
 have hE:(Q34 l c k).cs (Q3 l)=[.ref [.slc 6 (Q3 l)],.val (.int .i64 (ks[k.toNat]?.getD 0)),.val (.int .i64 (cf+Q1Z l (ks.take k.toNat))),.val (.int .i64 k),.opt (.ref [.ref [.slc 6 (Q3 l)],.val (.int .i64 cn),.val (.int .i64 cf),.val (.int .i64 ck),.opt (upO (Q3 l) c)])]:=by
  rw[yN,qe,qK,qW];rfl
 rw[hE,Cur.cs,<-qK,<-qe,<-qW];rw[<-qK]at cK;have cK:BCall prog 68 [.ref [.slc 6 (Q3 l)],.val (.int .i64 cn)] [] (.slc 1 (Q23 l cn)) []:=cK;have jX:=Q2T (l:=ks) h0 h1
 have jS:std.cut (Q9 ks) 0 k=Q9 (ks.take k.toNat):=by
  show((Q9 ks).drop (0:Int).toNat).take (k-0).toNat=_
  simp[Q9,map_take]
 clear h1 hE;refine fnN (QiF (Q23 l) (Q1c l)) func56 rfl fun _ _=>?_
 with_reducible refine cv4 (Q23 l) (Q1c l) (upO (Q3 l) c) (Q3 l) ?_
 refine⟨cK,fun h=>?_,fun _=>⟨fun h=>?_,fun _=>⟨?_,?_⟩⟩⟩
 ·have h:k<0:=of_decide_eq_true h
  omega
 ·have h:std.len (Q23 l cn)<=k:=of_decide_eq_true h
  rw[qY]at h;omega
 ·show std.cutok 0 k (std.len (Q23 l cn))
  rw[qY];exact⟨Int.le_refl _,h0,by omega⟩
 have qn:std.len (Q9 (ks.take k.toNat))=k:=by
  show((Q9 (ks.take k.toNat)).length:Int)=k
  have:=hm.eq
  rw[Q2w,length_take];omega
 rw[<-nN]at jS;obtain⟨aw,pV⟩:=exq (fun i=>cf+Q1Z l (ks.take i.toNat):Int->Int)
 have ke:cf+Q1Z l (ks.take k.toNat)=aw k:=by rw[pV]
 rw[ke];have kJ:std.len (std.cut (Q23 l cn) 0 k)=k:=by rw[jS,qn]
 refine Q1h (QiF (Q23 l) (Q1c l)) (Int) (fun i=>⟨[(1,.val (.int .i64 k)),(2,.box 0 0),(4,.box 1 0),(6,.slc 1 (Q9 ks)),(7,.val (.int .i64 (aw i))),(28,.slc 1 (Q9 (ks.take k.toNat))),(29,.val (.int .i64 k)),(30,.val (.int .i64 i))],[.box [.ref [.slc 6 (Q3 l)],.val (.int .i64 cn),.val (.int .i64 cf),.val (.int .i64 ck),.opt (upO (Q3 l) c)],.box QpK]⟩) (fun i=>0<=i/\i<=k) (fun i=>(k-i).toNat) 0 ?_ ?_ ?_
 ·exact⟨Int.le_refl _,h0⟩
 ·refine⟨[some 0,some 1],_,rfl,?_⟩
  have cd:cf=aw 0:=by rw[pV];simp[Q1Z]
  repeat first
   |exact trivial
   |refine⟨gA nN,?_⟩
   |refine⟨gA jS,?_⟩
   |refine⟨gI kJ,?_⟩
   |refine⟨gI cd,?_⟩
   |refine⟨rfl,?_⟩
 ·rintro i ⟨jL,vA⟩
  have z9:=Q5P hw (ks.take i.toNat);have gZ:=Q9y hw ks i.toNat;rcases Int.lt_or_eq_of_le vA with jA|j7
  ·have qF:=hm.eq
   have j5:i.toNat<ks.length:=by omega
   have hx:(Q9 (ks.take k.toNat))[i.toNat]?.getD .dead=.val (.int .i64 (ks[i.toNat]?.getD 0)):=by
    have:=Q2T (l:=ks.take k.toNat) (i:=i) jL (by rw[length_take];omega)
    rw[this,getElem?_take,if_pos (by omega)]
   have hxc:=QdH (l:=ks.take k.toNat) (i:=i) jL (by rw[length_take];omega)
   rw[getElem?_take,if_pos (by omega)]at hxc
   have jI:Q1Z l (ks.take (i+1).toNat)=Q1Z l (ks.take i.toNat)+Q1c l (ks[i.toNat]?.getD 0):=by
    rw[show(i+1).toNat=i.toNat+1 by omega,take_add_one,getElem?_eq_getElem j5]
    show(((ks.take i.toNat)++[ks[i.toNat]]).map (Q1c l)).sum=_
    rw[map_append,List.sum_append];simp[Q1Z]
   have zQ:=Q9y hw ks (i+1).toNat;rw[jI]at zQ;have hw4:=hw (ks[i.toNat]?.getD 0);have nO:aw (i+1)=aw i+Q1c l (ks[i.toNat]?.getD 0):=by rw[pV];simp only[jI];omega
   have hawi:aw i=cf+Q1Z l (ks.take i.toNat):=by rw[pV]
   have yk:0<=aw i+Q1c l (ks[i.toNat]?.getD 0)/\aw i+Q1c l (ks[i.toNat]?.getD 0)<=4294967294:=by omega
   obtain⟨y,hy⟩:=exq (ks[i.toNat]?.getD 0);rw[<-hy]at hx hxc nO yk;clear qF z9 gZ zQ jI hw4 hawi pV ke;have hlt':=jA;with_reducible refine cv6 (Q23 l) (Q1c l) (upO (Q3 l) c) (Q3 l) (Q9 ks) (Q9 (ks.take k.toNat)) ?_
   have hy3:=hxc;have zd:=Ql3 hxc;have e1:aw i+Q1c l y=aw (i+1):=nO.symm;refine⟨fun _=>⟨?_,⟨?_,trivial⟩,cW _,?_,?_,i+1,⟨by omega,by omega⟩,by omega,[some 0,some 1],_,rfl,?_⟩,fun h=>?_⟩
   ·show 0<=i/\i<std.len (Q9 (ks.take k.toNat))
    rw[qn];omega
   ·show std.nth (std.cel (std.at_ (Q9 (ks.take k.toNat)) i)) 0=.val (.int .i64 (std.int (std.nth (std.cel (std.at_ (Q9 (ks.take k.toNat)) i)) 0)))
    rw[zd,hy3]
   ·show(-9223372036854775808:Int)<=aw i+Q1c l (std.int (std.nth (std.cel (std.at_ (Q9 (ks.take k.toNat)) i)) 0))/\aw i+Q1c l (std.int (std.nth (std.cel (std.at_ (Q9 (ks.take k.toNat)) i)) 0))<=(9223372036854775807:Int)
    rw[zd];omega
   ·show(-9223372036854775808:Int)<=i+1/\i+1<=(9223372036854775807:Int)
    have:=hm.eq
    omega
   ·have e2:std.add (aw i) (Q1c l (std.int (std.nth (std.cel (std.at_ (Q9 (ks.take k.toNat)) i)) 0)))=aw (i+1):=by rw[zd];exact e1
    exact eq1 e2
   ·have h:¬i<k:=of_decide_eq_false h
    omega
  ·rw[j7]
   clear z9 gZ pV ke;with_reducible refine cv6 (Q23 l) (Q1c l) (upO (Q3 l) c) (Q3 l) (Q9 ks) (Q9 (ks.take k.toNat)) ?_
   refine⟨fun h=>?_,fun _=>?_⟩
   ·have h:k<k:=of_decide_eq_true h
    omega
   rw[if_pos trivial];with_reducible refine cv6 (Q23 l) (Q1c l) (upO (Q3 l) c) (Q3 l) (Q9 ks) (Q9 (ks.take k.toNat)) ?_
   have hkm:=hm.eq;have hcl3:std.len (Q9 ks)=m:=by show((Q9 ks).length:Int)=m;rw[Q2w,hm.eq]
   have hc:=QdH (l:=ks) h0 (by omega)
   refine⟨?_,⟨QmM hc,trivial⟩,.pure rfl ⟨⟨.inl rfl,.inl (gI (Ql3 hc)),.inl rfl,.inl rfl,.inr (.inr (.inl ⟨rfl,trivial⟩)),trivial⟩,.inl rfl,trivial⟩⟩;show 0<=k/\k<std.len (Q9 ks);rw[hcl3];omega
def QpN(k:Int->Int):Nat->List AV->List Ob->Option (AV×List Ob):=fun f args _=>match f,args with
 |115,[.ref [.slc 6 _],.val (.int .i64 n)]=>some (.val (.int .i64 (k n)),[])
 |_,_=>none
theorem Qm8(l:List Node)(c:Cur):BCall prog 55 [.agg (c.cs (Q3 l))] [] (.val (.int .i64 (Qn l c.n).kind)) []:=by
 have cK:=QoJ l c.n;rw[Cur.cs];obtain⟨cn,qK⟩:=exq c.n;obtain⟨cf,qe⟩:=exq c.f;obtain⟨ck,qW⟩:=exq c.k;rw[<-qK]at cK ⊢;rw[<-qe,<-qW];refine fnN (QpN (Q1f l)) func55 rfl fun _ _=>?_
 with_reducible refine cv3 (Q1f l) (upO (Q3 l) c) (Q3 l) ?_
 exact⟨cK,.pure rfl (.inl rfl)⟩
structure CurOk (l:List Node) (c:Cur):Prop where
 n:(Qg l c).length<=1000000
 s:Q1Z l (Qg l c)<=2147483647
 f0:0<=c.f
 f1:c.f<=2147483647
end
def Qc2(g:Nat->Option (List Srt))(ty:Tys):Nat->List Field->Option (List Srt)
 |_,[]=>some []
 | off, f :: r => if f.name ≠ "_" ∧ f.offset = off ∧ (Q5 f.type ty).ok = true then
   (match g f.type,Qc2 g ty (off+(Q5 f.type ty).size) r with
   |some s,some q=>if s.length=(Q5 f.type ty).size then some (s++q)else none
   |_,_=>none)else none
def Qdf(P:Program)(ty:Tys):Nat->Nat->Option (List Srt)
 |0,_=>none
 |d+1,t=>match P.underlying t with
  |some (.struct fs)=>if P.stoodInHeld t=false then Qc2 (Qdf P ty d) ty 0 fs.toList else none
  |some .bool=>some [.boo]
  |some .string=>some [.str]
  |some (.int k)=>some [.int k]
  |_=>none
section
variable {P:Program}{ty:Tys}
def mkV(ty:Tys)(t:Nat)(xs:List Value):Value:=if(Q5 t ty).agg=true then .agg xs.toArray else xs.headD undef
def Q6u(xs ys:List Value):Bool:=(xs.zip ys).all fun q=>eqV q.1 q.2
theorem Qly{a b c d:List Value}(h:a.length=c.length):Q6u (a++b) (c++d)=(Q6u a c&&Q6u b d):=by
 unfold Q6u;rw[List.zip_append h,List.all_append]
theorem Q9B{xs:List Value}{sh:List Srt}(h:xs.map Q3z=sh.map some):xs.length=sh.length:=by
 have:=congrArg List.length h
 simpa using this
theorem Q6U{xs:List Value}{s:Srt}(h:xs.map Q3z=[s].map some):∃x,xs=[x]/\Q3z x=some s:=by
 cases xs with
 |nil=>cases h
 |cons x t =>
  obtain⟨h1,h2⟩:=List.cons.inj h;obtain rfl:t=[]:=by simpa using h2
  exact⟨x,rfl,h1⟩
theorem Q7S(hT:TyOk P ty){t:Nat}(hk:(Q5 t ty).ok=true){d:TypeDesc}(h:P.underlying t=some d):(Q5 t ty).agg=(Q2B d).1:=by
 obtain⟨d',h1,h2⟩:=(Q2S hT hk).u;rw[h]at h1;cases h1;rw[h2]
theorem Qhq(hT:TyOk P ty){t:Nat}(hk:(Q5 t ty).ok=true)(xs:List Value)(off:Nat)(hl:off+(Q5 t ty).size<=xs.length)(W:World) :
  (part t xs.toArray off).run P W=.ok (mkV ty t ((xs.drop off).take (Q5 t ty).size)) W:=by
 have ti:=Q2S hT hk;unfold part mkV;rw[Sem.run_bind,ti.isAgg W];simp only[Result.andThen_ok];by_cases hg:(Q5 t ty).agg=true
 ·rw[if_pos hg,if_pos hg,Sem.run_bind,ti.size W]
  simp only[Result.andThen_ok,Sem.run_pure];congr 2
  apply Array.toList_inj.1;simp[List.take_drop]
 ·rw[if_neg hg,if_neg hg]
  have h1:=ti.one (by simpa using hg)
  rw[h1];have h2:off<xs.length:=by omega
  have:xs.toArray[off]?=some xs[off]:=by simp[h2]
  rw[this,List.drop_eq_getElem_cons h2];rfl
theorem Qa1(hT:TyOk P ty){g:Nat->Option (List Srt)}{n:Nat}
  (ih:∀t sh,g t=some sh->(Q5 t ty).ok=true->∀(xs ys:List Value)(W:World),xs.map Q3z=sh.map some->ys.map Q3z=sh.map some->(Op.equalIn n t (mkV ty t xs) (mkV ty t ys)).run P W=.ok (Q6u xs ys) W) :
  ∀(fs:List Field)(off:Nat)(sh:List Srt),Qc2 g ty off fs=some sh->∀(xs ys:List Value)(W:World),off<=xs.length->off<=ys.length->(xs.drop off).map Q3z=sh.map some->(ys.drop off).map Q3z=sh.map some ->
   (Op.eqFields n xs.toArray ys.toArray fs).run P W=.ok (Q6u (xs.drop off) (ys.drop off)) W
 | [],off,sh,h,xs,ys,W,_,_,hx,hy=>by
  obtain rfl:[]=sh:=by simpa[Qc2]using h
  have hx:xs.drop off=[]:=by simpa using hx
  have hy:ys.drop off=[]:=by simpa using hy
  rw[hx,hy];rfl
 |f::r,off,sh,h,xs,ys,W,hox,hoy,hx,hy=>by
  simp only[Qc2]at h;split at h
  ·rename_i hf
   obtain⟨hn,ho,hk⟩:=hf;split at h
   ·rename_i s q hs hq
    split at h
    ·rename_i hl
     obtain rfl:s++q=sh:=by simpa using h
     have lx:=Q9B hx;have ly:=Q9B hy;rw[length_drop,List.length_append]at lx ly;have ex:xs.drop off=(xs.drop off).take s.length++xs.drop (off+s.length):=by rw[<-List.drop_drop,List.take_append_drop]
     have ey:ys.drop off=(ys.drop off).take s.length++ys.drop (off+s.length):=by rw[<-List.drop_drop,List.take_append_drop]
     have lxt:((xs.drop off).take s.length).length=s.length:=by rw[length_take,length_drop];omega
     have lyt:((ys.drop off).take s.length).length=s.length:=by rw[length_take,length_drop];omega
     rw[ex,map_append,map_append]at hx;rw[ey,map_append,map_append]at hy;obtain⟨vr,yg⟩:=List.append_inj hx (by simp only[length_map];exact lxt)
     obtain⟨zW,zd⟩:=List.append_inj hy (by simp only[length_map];exact lyt)
     have rc:=Qa1 hT ih r (off+(Q5 f.type ty).size) q hq xs ys;rw[<-hl]at rc;have one:=ih f.type s hs hk _ _ W vr zW;rw[ex,ey,Qly (by rw[lxt,lyt])]
     simp only[Op.eqFields];rw[if_pos hn,Sem.run_bind,ho,Qhq hT hk xs off (by omega) W]
     simp only[Result.andThen_ok];rw[Sem.run_bind,Qhq hT hk ys off (by omega) W]
     simp only[Result.andThen_ok];rw[Sem.run_bind,<-hl,one];simp only[Result.andThen_ok];cases hb:Q6u ((xs.drop off).take s.length) ((ys.drop off).take s.length)with
     |false=>simp
     |true=>simpa using rc W (by omega) (by omega) yg zd
    ·cases h
   ·cases h
  ·cases h
theorem Qc5(hT:TyOk P ty):∀(d e t:Nat)(sh:List Srt),Qdf P ty d t=some sh->(Q5 t ty).ok=true->∀(xs ys:List Value)(W:World),xs.map Q3z=sh.map some->ys.map Q3z=sh.map some ->
  (Op.equalIn (e+d) t (mkV ty t xs) (mkV ty t ys)).run P W=.ok (Q6u xs ys) W
 |0,_,_,_,h,_,_,_,_,_,_=>by cases h
 |d+1,e,t,sh,h,hk,xs,ys,W,hx,hy=>by
  simp only[Qdf]at h;split at h
  ·rename_i fs hu
   split at h
   ·rename_i hp
    have hg:(Q5 t ty).agg=true:=Q7S hT hk hu
    have hS:P.underlying t=some (.struct (P.fieldsOf t)):=by
     rw[hu];simp[Program.fieldsOf,hu]
    have hF:P.fieldsOf t=fs:=by simp[Program.fieldsOf,hu]
    unfold mkV;rw[if_pos hg,if_pos hg,<-add_assoc,run_equalIn_agg W _ _ _ _ hS hp,hF];exact Qa1 hT (fun t sh h hk xs ys W hx hy=>Qc5 hT d e t sh h hk xs ys W hx hy) fs.toList 0 sh h xs ys W (Nat.zero_le _) (Nat.zero_le _) hx hy
   ·cases h
  ·rename_i hu
   have hg:(Q5 t ty).agg=false:=Q7S hT hk hu;obtain rfl:[Srt.boo]=sh:=by simpa using h
   obtain⟨x,rfl,vr⟩:=Q6U hx;obtain⟨y,rfl,zW⟩:=Q6U hy;cases x<;>simp only[Q3z,Option.some.injEq,reduceCtorEq]at vr
   cases y<;>simp only[Q3z,Option.some.injEq,reduceCtorEq]at zW
   unfold mkV;rw[if_neg (by rw[hg];decide),if_neg (by rw[hg];decide)]
   rw[<-add_assoc];refine(run_equalIn_bool' W _ _ _ _ hu).trans ?_;simp[Q6u,eqV]
  ·rename_i hu
   have hg:(Q5 t ty).agg=false:=Q7S hT hk hu;obtain rfl:[Srt.str]=sh:=by simpa using h
   obtain⟨x,rfl,vr⟩:=Q6U hx;obtain⟨y,rfl,zW⟩:=Q6U hy;cases x<;>simp only[Q3z,Option.some.injEq,reduceCtorEq]at vr
   cases y<;>simp only[Q3z,Option.some.injEq,reduceCtorEq]at zW
   unfold mkV;rw[if_neg (by rw[hg];decide),if_neg (by rw[hg];decide)]
   rw[<-add_assoc];refine(run_equalIn_string W _ _ _ _ hu).trans ?_;simp[Q6u,eqV]
  ·rename_i k hu
   have hg:(Q5 t ty).agg=false:=Q7S hT hk hu;obtain rfl:[Srt.int k]=sh:=by simpa using h
   obtain⟨x,rfl,vr⟩:=Q6U hx;obtain⟨y,rfl,zW⟩:=Q6U hy;cases x<;>simp only[Q3z,Option.some.injEq,Srt.int.injEq,reduceCtorEq]at vr
   cases y<;>simp only[Q3z,Option.some.injEq,Srt.int.injEq,reduceCtorEq]at zW
   subst vr zW;unfold mkV;rw[if_neg (by rw[hg];decide),if_neg (by rw[hg];decide)]
   rw[<-add_assoc];refine(run_equalIn_int W _ _ _ _ _ _ hu).trans ?_;simp[Q6u,eqV]
  ·cases h
theorem EqOk.plan(hT:TyOk P ty){T:Nat}{sh:List Srt}(h:Qdf P ty 8 T=some sh)(hk:(Q5 T ty).ok=true)(ha:(Q5 T ty).agg=true)(hg:P.eqGuardType P.depth T=false):EqOk P T sh:=by
 intro xs ys x y W hx hy;have key:=Qc5 hT 8 9992 T sh h hk xs ys W hx hy;unfold mkV at key;rw[if_pos ha,if_pos ha]at key;refine⟨run_eqGuard_agg W _ _ _ _ _ _ hg,run_eqGuard_agg W _ _ _ _ _ _ hg,?_,?_⟩
 ·rw[run_eql_struct]
  rw[show(10000:Nat)=9992+8 from rfl,key];rfl
 ·rw[run_neq_struct]
  rw[show(10000:Nat)=9992+8 from rfl,key];rfl
end
def gl(w:World):Gh:=⟨fun b _=>b<w.heap.size,fun _=>none,fun _=>0,fun _=>false⟩
theorem QqG(w:World):Mem w (gl w) [] :=
 ⟨(fun id cs h=>by simp at h),(fun id cs h=>by simp at h),(fun id s p h=>by simp at h),(fun b id h=>by cases h),(fun b o h=>⟨h,fun id h2=>by cases h2⟩),(fun id et sz fz e xs h=>by simp at h),(fun b h=>by cases h),(fun b b' id h=>by cases h)⟩
theorem BCall.law{P:Program}{f:Nat}{vs:List Value}{args:List AV}{res:Value}(h:BCall P f args [] (.val res) [])(w:World)(hL:Q4X w (gl w) [] vs args) :
  Calls P f vs.toArray w fun e w'=>e=.returned res/\Below w.heap.size w w' :=
 (h.2 w (gl w) vs (QqG w) hL).mono fun e w' ⟨v,g',k1,k2,k3,k4⟩=>by
  have hv:v=res:=ARel.valEq (g:=g') (w:=w') (ob:=[]) k3;subst hv;exact⟨k1,k4.os,k4.tape,k4.output,k4.size,fun b hb=>k4.keep b hb rfl⟩
theorem argL_nil{w:World}{g:Gh}{ob:List Ob}:Q4X w g ob [] []:=⟨rfl,fun j v x h=>by simp at h⟩
theorem argL_cons{w:World}{g:Gh}{ob:List Ob}{v:Value}{x:AV}{vs:List Value}{xs:List AV}(h:ARel1 w g ob v x)(hr:Q4X w g ob vs xs):Q4X w g ob (v::vs) (x::xs):=by
 refine⟨by simp[hr.1],fun j u y hu hy=>?_⟩
 cases j with
 |zero =>
  obtain rfl:v=u:=by simpa using hu
  obtain rfl:x=y:=by simpa using hy
  exact h
 |succ j=>exact hr.2 j u y (by simpa using hu) (by simpa using hy)
theorem okWide_spot{P:Program}{W:World}{r:Reach}{base:Nat}{t e:TypeId}{x:Addr}{l c:Nat}(ht:P.underlying t=some (.slice e))(h:Value.okWide P W r base t (.slice (some x) l c)):x.spot=none:=by
 simp only[Value.okWide,ht,Cell.okWide,Cell.ok]at h;exact h.2.2.2.1
def QqE(k:IntKind)(w:World)(a:Option Addr)(len cap:Nat)(zs:List Int):Prop :=
 (a=none/\len=0/\cap=0/\zs=[]) \/
 ∃x,a=some x/\len<=cap/\cap<=maxLen/\zs.length=cap/\(∀i,i<zs.length->w.cell? (x.add i)=some (.int k (zs.getD i 0)))/\∀n∈zs,(Lit.int k n).wf=true
theorem QqC{k:IntKind}{w:World}{a:Option Addr}{len cap:Nat}{zs:List Int}(h:QqE k w a len cap zs)(hs:∀x,a=some x->x.spot=none) :
  ARel1 w (gl w) [] (.slice a len cap) (.slc 1 ((zs.take len).map fun n=>.val (.int k n))):=by
 have hr:=(Qqo h).1
 have hl:len=((zs.take len).map fun n=>AV.val (.int k n)).length:=by
  rcases h with ⟨_,rfl,_,rfl⟩|⟨x,_,h1,_,h2,_⟩
  ·rfl
  ·simp;omega
 refine Qln hr (fun b o hb=>hb) hl (fun x hx=>by obtain⟨n,_,rfl⟩:=mem_map.1 hx;rfl) (fun x hx=>?_) ?_
 ·obtain⟨b,o,s⟩:=x
  exact⟨b,o,by rw[show s=none from hs _ hx]⟩
 ·have:QQ ((zs.take len).map fun n=>AV.val (.int k n))=((zs.take len).map (Value.int k)).map .val:=by
   generalize zs.take len=l;induction l with
   |nil=>rfl
   |cons n r ih=>simp only[map_cons,QQ,List.flatMap_cons]at ih ⊢;rw[ih];rfl
  rw[this];refine⟨by simp,fun j y u hy hu=>?_⟩
  rw[getElem?_map,hy]at hu;obtain rfl:AV.val y=u:=by simpa using hu
  obtain⟨n,_,rfl⟩:=mem_map.1 (List.mem_of_getElem? hy);exact PRel.val _ rfl
theorem QqK{n:Int}(h:(Lit.int .u8 n).wf=true):((UInt8.ofNat n.toNat).toNat:Int)=n:=by
 have h:0<=n/\n<=255:=by simpa[Lit.wf,IntKind.min,IntKind.max,IntKind.signed,IntKind.bits]using h
 rw[UInt8.toNat_ofNat'];omega
theorem arg_bytes{w:World}{a:Option Addr}{len cap:Nat}{zs:List Int}(h:QqE .u8 w a len cap zs)(hs:∀x,a=some x->x.spot=none) :
  ARel1 w (gl w) [] (.slice a len cap) (.slc 1 (Q2 ((zs.take len).map fun n=>UInt8.ofNat n.toNat))):=by
 have h1:=QqC h hs;have h2:=(Qqo h).2
 have e:Q2 ((zs.take len).map fun n=>UInt8.ofNat n.toNat)=(zs.take len).map fun n=>.val (.int .u8 n):=by
  rw[Q2,List.map_map];refine List.map_congr_left fun n hn=>?_
  show AV.val (.int .u8 ((UInt8.ofNat n.toNat).toNat:Int))=_;rw[QqK (h2 n hn)]
 rw[e];exact h1
theorem arg_intsL{w:World}{a:Option Addr}{len cap:Nat}{zs:List Int}(h:QqE .i64 w a len cap zs)(hs:∀x,a=some x->x.spot=none) :
  ARel1 w (gl w) [] (.slice a len cap) (.slc 1 (Q9 (zs.take len))):=QqC h hs
section
open Tryz
theorem Qut(l:List Int)(k:Int)(hl:l.length<=1000000):BCall prog 66 [.slc 1 (Q9 l),.val (.int .i64 k)] [] (.slc 1 (Q9 (l++[k]))) []:=by
 have e:Q9 (l++[k])=std.app (std.app [] (Q9 l)) [.val (.int .i64 k)]:=by rw[Q4T];rfl
 have j5:=Q2w l;rw[e];refine fnN (cs0) func66 rfl fun _ _=>?_
 with_reducible refine cv1 (Q9 l) ?_
 refine⟨?_,?_,.pure rfl (.inl rfl)⟩
 ·show 0+(Q9 l).length<=1000000000
  omega
 ·show([]++Q9 l).length+1<=1000000000
  rw[List.nil_append];omega
theorem Qsc{a b:List Int}{i:Nat}(ha:i<a.length)(hb:i<b.length)(h:a.take i=b.take i):a.take (i+1)=b.take (i+1)↔a[i]?.getD 0=b[i]?.getD 0:=by
 rw[take_add_one,take_add_one (l:=b),h,getElem?_eq_getElem ha,getElem?_eq_getElem hb,List.append_cancel_left_eq];simp
theorem Qtl(a b:List Int)(ha:a.length<=1000000)(hb:b.length<=1000000):BCall prog 26 [.slc 1 (Q9 a),.slc 1 (Q9 b)] [] (.val (.bool (decide (a=b)))) []:=by
 obtain⟨n,hn⟩:=QE a;obtain⟨m,hm⟩:=QE b;have kK:std.len (Q9 a)=n:=by show((Q9 a).length:Int)=n;rw[Q2w,hn.eq]
 have gU:std.len (Q9 b)=m:=by show((Q9 b).length:Int)=m;rw[Q2w,hm.eq]
 have qA:0<=n/\n<=1000000:=by rw[hn.eq];omega
 have ju:n=m↔a.length=b.length:=by rw[hn.eq,hm.eq];omega
 have jX:∀i:Int,0<=i->i<n->std.nth (std.cel (std.at_ (Q9 a) i)) 0=.val (.int .i64 (a[i.toNat]?.getD 0)):=fun i h0 h1=>QdH h0 (by rw[<-hn.eq];exact h1)
 have hbt:∀i:Int,0<=i->i<m->std.nth (std.cel (std.at_ (Q9 b) i)) 0=.val (.int .i64 (b[i.toNat]?.getD 0)):=fun i h0 h1=>QdH h0 (by rw[<-hm.eq];exact h1)
 have jH:∀i:Int,0<=i->i<n->n=m->a.take i.toNat=b.take i.toNat->(a.take (i+1).toNat=b.take (i+1).toNat↔a[i.toNat]?.getD 0=b[i.toNat]?.getD 0):=fun i h0 h1 h2 h3=>by
  have e1:=hn.eq;have e2:=hm.eq;rw[show(i+1).toNat=i.toNat+1 by omega]
  exact Qsc (by omega) (by omega) h3
 have qp:n=m->a.take n.toNat=b.take n.toNat->a=b:=fun h h2=>by
  have e1:=hn.eq;have e2:=hm.eq;rwa [take_of_length_le (by omega),take_of_length_le (by omega)]at h2
 obtain⟨R,hR⟩:=exq (decide (a=b));rw[<-hR];have hT:a=b->R=true:=fun h=>by rw[hR,h];simp
 have hF:¬a=b->R=false:=fun h=>by rw[hR];exact decide_eq_false h
 clear hR ha hb;refine fnN (cs0) func26 rfl fun _ _=>?_
 with_reducible refine cv2 (Q9 a) (Q9 b) ?_
 refine⟨fun h=>?_,fun h=>?_⟩
 ·have h:(!(std.len (Q9 a) == std.len (Q9 b)))=true:=h
  rw[kK,gU]at h;rw[hF (fun e=>by have:=ju.2 (congrArg List.length e);simp[this]at h)]
  exact .pure rfl (.inl rfl)
 ·have h:(!(std.len (Q9 a) == std.len (Q9 b)))=false:=h
  rw[kK,gU]at h;have ju:n=m:=by simpa using h
  refine Q1h (cs0) (Int) (fun i=>⟨[(0,.slc 1 (Q9 a)),(1,.slc 1 (Q9 b)),(12,.val (.int .i64 n)),(13,.val (.int .i64 i))],[]⟩) (fun i=>0<=i/\i<=n/\a.take i.toNat=b.take i.toNat) (fun i=>(n-i).toNat) 0 ?_ ?_ ?_
  ·exact⟨Int.le_refl 0,qA.1,by simp⟩
  ·refine⟨[],_,rfl,?_⟩
   exact eq1 kK
  ·rintro i ⟨jL,vA,hi⟩
   have jL:0<=i:=jL;have vA:i<=n:=vA;have hi:a.take i.toNat=b.take i.toNat:=hi;with_reducible refine cv2 (Q9 a) (Q9 b) ?_
   refine⟨fun h2=>?_,fun h2=>?_⟩
   ·have jK:i<n:=of_decide_eq_true h2
    have hx:=jX i jL jK;have hy:=hbt i jL (ju ▸ jK);have hs:=jH i jL jK ju hi;refine⟨⟨jL,by show i<std.len (Q9 a);rw[kK];exact jK⟩,⟨QmM hx,trivial⟩,⟨jL,by show i<std.len (Q9 b);rw[gU,<-ju];exact jK⟩,⟨QmM hy,trivial⟩,fun h3=>?_,fun h3=>?_⟩
    ·have h3:(!(std.int (std.nth (std.cel (std.at_ (Q9 a) i)) 0) == std.int (std.nth (std.cel (std.at_ (Q9 b) i)) 0)))=true:=h3
     rw[Ql3 hx,Ql3 hy]at h3;rw[hF (fun e=>by rw[e]at h3;simp at h3)]
     with_reducible refine cv2 (Q9 a) (Q9 b) ?_
     exact .pure rfl (.inl rfl)
    ·have h3:(!(std.int (std.nth (std.cel (std.at_ (Q9 a) i)) 0) == std.int (std.nth (std.cel (std.at_ (Q9 b) i)) 0)))=false:=h3
     rw[Ql3 hx,Ql3 hy]at h3;refine⟨?_,i+1,⟨by omega,by omega,hs.2 (by simpa using h3)⟩,by omega,[],_,rfl,?_⟩
     ·show std.inR .i64 (i+1)
      rw[Qhr];omega
     ·exact eq0
   ·have jK:i=n:=by
     have h2:¬i<n:=of_decide_eq_false h2;omega
    rw[jK]at hi;rw[hT (qp ju hi),if_pos trivial];with_reducible refine cv2 (Q9 a) (Q9 b) ?_
    exact .pure rfl (.inl rfl)
def rvF(xs:List Int)(i:Nat):List Int:=(List.range xs.length).map fun k=>if k<i\/xs.length-i<=k then xs[xs.length-1-k]?.getD 0 else xs[k]?.getD 0
theorem Qre(xs:List Int)(i:Nat):(rvF xs i).length=xs.length:=by simp[rvF]
theorem QrZ(xs:List Int)(i:Nat){k:Nat}(hk:k<xs.length):(rvF xs i)[k]?=some (if k<i\/xs.length-i<=k then xs[xs.length-1-k]?.getD 0 else xs[k]?.getD 0):=by
 rw[rvF,getElem?_map,List.getElem?_range hk];rfl
theorem QtY(xs:List Int):rvF xs 0=xs:=by
 refine ext_getElem? fun k=>?_
 by_cases hk:k<xs.length
 ·rw[QrZ xs 0 hk,if_neg (by omega),getElem?_eq_getElem hk];rfl
 ·rw[getElem?_eq_none (by rw[Qre];omega),getElem?_eq_none (by omega)]
theorem Qup(xs:List Int){i:Nat}(h:xs.length<=2 * i+1):rvF xs i=xs.reverse:=by
 refine ext_getElem? fun k=>?_
 by_cases hk:k<xs.length
 ·rw[QrZ xs i hk,List.getElem?_reverse hk]
  by_cases h2:k<i\/xs.length-i<=k
  ·rw[if_pos h2,getElem?_eq_getElem (by omega)];rfl
  ·rw[if_neg h2,show xs.length-1-k=k by omega,getElem?_eq_getElem hk];rfl
 ·rw[getElem?_eq_none (by rw[Qre];omega),getElem?_eq_none (by rw[List.length_reverse];omega)]
theorem QtT(xs:List Int){i:Nat}(h:2 * i+1<xs.length):((rvF xs i).set i ((rvF xs i)[xs.length-1-i]?.getD 0)).set (xs.length-1-i) ((rvF xs i)[i]?.getD 0)=rvF xs (i+1):=by
 refine ext_getElem? fun k=>?_
 by_cases hk:k<xs.length
 ·rw[QrZ xs (i+1) hk,QrZ xs i (by omega:i<xs.length),QrZ xs i (by omega:xs.length-1-i<xs.length),if_neg (by omega),if_neg (by omega)]
  by_cases h1:k=xs.length-1-i
  ·subst h1
   rw[List.getElem?_set_self (by rw[length_set,Qre];omega),if_pos (by omega),show xs.length-1-(xs.length-1-i)=i by omega];rfl
  ·rw[List.getElem?_set_ne (Ne.symm h1)]
   by_cases h2:k=i
   ·subst h2
    rw[List.getElem?_set_self (by rw[Qre];omega),if_pos (by omega)];rfl
   ·rw[List.getElem?_set_ne (Ne.symm h2),QrZ xs i hk]
    by_cases h3:k<i\/xs.length-i<=k
    ·rw[if_pos h3,if_pos (by omega)]
    ·rw[if_neg h3,if_neg (by omega)]
 ·rw[getElem?_eq_none (by rw[length_set,length_set,Qre];omega),getElem?_eq_none (by rw[Qre];omega)]
theorem Qtq(l:List Int)(k:Nat)(v:Int):Q9 (l.set k v)=(Q9 l).set k (.val (.int .i64 v)):=by rw[Q9,Q9,List.map_set];rfl
theorem QrP(l:List Int)(i:Int)(v:Int):std.setx (Q9 l) i 0 [.val (.int .i64 v)]=Q9 (l.set i.toNat v):=by
 rw[Qtq];show(Q9 l).set i.toNat (Qti ((Q9 l).getD i.toNat .dead) 0 [.val (.int .i64 v)])=_
 congr 1
 rw[getD_eq_getElem?_getD,Q9,getElem?_map];cases l[i.toNat]?<;>rfl
def rvA(xs:List Int)(i:Int):List AV:=Q9 (rvF xs i.toNat)
theorem Qs0(xs:List Int)(hl:xs.length<=1000000):BCall prog 63 [.row 0 0] [.row 3 1 false 0 (Q9 xs)] (.tup []) [.row 3 1 false 0 (Q9 xs.reverse)]:=by
 obtain⟨n,hn⟩:=QE xs;have jt:0<=n/\n<=1000000:=by rw[hn.eq];omega
 have e0:Q9 xs=rvA xs 0:=by rw[rvA,show(0:Int).toNat=0 from rfl,QtY]
 have e1:∀i:Int,0<=i->¬i<n-1-i->rvA xs i=Q9 xs.reverse:=fun i h0 h1=>by
  have:=hn.eq
  rw[rvA,Qup xs (by omega)]
 have elen:∀i,std.len (rvA xs i)=n:=fun i=>by
  show((Q9 _).length:Int)=n
  rw[Q2w,Qre,hn.eq]
 have jX:∀i k:Int,0<=k->k<n->std.nth (std.cel (std.at_ (rvA xs i) k)) 0=.val (.int .i64 ((rvF xs i.toNat)[k.toNat]?.getD 0)):=fun i k h0 h1=>QdH h0 (by rw[Qre,<-hn.eq];exact h1)
 have jH:∀i:Int,0<=i->i<n-1-i->std.setx (std.setx (rvA xs i) i 0 [.val (.int .i64 ((rvF xs i.toNat)[(n-1-i).toNat]?.getD 0))]) (n-1-i) 0 [.val (.int .i64 ((rvF xs i.toNat)[i.toNat]?.getD 0))]=rvA xs (i+1):=fun i h0 h1=>by
  have e:=hn.eq;have h3:=QtT xs (i:=i.toNat) (by omega)
  rw[rvA,QrP,QrP,rvA,show(i+1).toNat=i.toNat+1 by omega,<-h3,show(n-1-i).toNat=xs.length-1-i.toNat by omega]
 rw[e0];refine fnN (cs0) func63 rfl fun _ _=>?_
 with_reducible refine cv1 (rvA xs 0) ?_
 refine⟨?_,?_⟩
 ·show -9223372036854775808<=std.len (rvA xs 0)-1/\std.len (rvA xs 0)-1<=9223372036854775807
  rw[elen];omega
 refine Q1h (cs0) (Int) (fun i=>⟨[(0,.row 0 0),(2,.val (.int .i64 i)),(3,.val (.int .i64 (n-1-i)))],[.row 3 1 false 0 (rvA xs i)]⟩) (fun i=>0<=i/\i<=n) (fun i=>(n-i).toNat) 0 ?_ ?_ ?_
 ·exact⟨Int.le_refl 0,jt.1⟩
 ·refine⟨[some 0],_,rfl,?_⟩
  have e2:std.len (rvA xs 0)-1=n-1-0:=by rw[elen];omega
  exact eq1 e2
 ·rintro i ⟨jL,vA⟩
  obtain⟨j,hj⟩:=exq (n-1-i);rw[<-hj];with_reducible refine cv1 (rvA xs i) ?_
  refine⟨fun h=>?_,fun h=>?_⟩
  ·have xI:i<j:=of_decide_eq_true h
   have hx:=jX i j (by omega) (by omega)
   have hy:=jX i i jL (by omega)
   have hs:=jH i jL (by omega)
   rw[<-hj]at hs
   have z4:∀(I:List AV)(v:List AV),std.len (std.setx I i 0 v)=std.len I:=fun I v=>by
    show((Qr8 I i.toNat 0 v).length:Int)=I.length
    rw[Qr0]
   refine⟨⟨by omega,by show j<std.len (rvA xs i);rw[elen];omega⟩,⟨QmM hx,trivial⟩,⟨jL,by show i<std.len (rvA xs i);rw[elen];omega⟩,⟨QmM hy,trivial⟩,⟨jL,by show i<std.len (rvA xs i);rw[elen];omega⟩,⟨by omega,?_⟩,?_,?_,i+1,⟨by omega,by omega⟩,by omega,[some 0],_,rfl,?_⟩
   ·show j<std.len (std.setx (rvA xs i) i 0 _)
    rw[z4,elen];omega
   ·show std.inR .i64 (i+1)
    rw[Qhr];omega
   ·show std.inR .i64 (j-1)
    rw[Qhr];omega
   ·have e2:std.setx (std.setx (rvA xs i) i 0 [.val (.int .i64 (std.int (std.nth (std.cel (std.at_ (rvA xs i) j)) 0)))]) j 0 [.val (.int .i64 (std.int (std.nth (std.cel (std.at_ (rvA xs i) i)) 0)))]=rvA xs (i+1):=by
     rw[Ql3 hx,Ql3 hy];exact hs
    have e3:j-1=n-1-(i+1):=by omega
    exact eq2 e2 e3
  ·have xI:¬i<j:=of_decide_eq_false h
   have e2:=e1 i jL (by omega)
   rw[if_pos trivial];with_reducible refine cv1 (rvA xs i) ?_
   rw[e2];refine⟨[some 0],.tup [],_,rfl,rfl,le_refl _,rfl,?_,trivial⟩;exact eq0
