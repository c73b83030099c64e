/- Lemmas, conditions told -/
import Derived.Test.YtlaegncokadkkaaGreatG16
set_option maxRecDepth 99999
set_option maxHeartbeats 0
set_option linter.unusedSimpArgs false
set_option linter.unusedVariables false
namespace Go.Proofs.YtlaegncokadkkaaGreat
open List(getElem?_map getElem?_eq_getElem take_add_one length_append length_take length_cons take_of_length_le cons_append append_assoc mem_map length_map)
open Int(le_refl natCast_nonneg)
open Go.RowKit Go.Lib
section
open Tryz
def sgA(s:ByteArray):List AV:=s.data.toList.map fun b=>.val (.int .i32 b.toNat)
def Qoa(k3:List AV->List AV->List AV->List AV):Nat->List AV->List Ob->Option (AV×List Ob):=fun f args _=>match f,args with
 |34,[.val (.string _)]=>some (.slc 1 [.val (.int .i32 60),.val (.int .i32 47)],[])
 |17,[.slc 1 [.slc 1 a,.slc 1 b,.slc 1 c]]=>some (.slc 1 (k3 a b c),[])
 |_,_=>none
theorem Qj2(name:List Int)(hn:name.length<=1000000):BCall prog 35 [.slc 1 (Q0 name)] [] (.slc 1 (Q0 ([60,47]++(name++[62])))) []:=by
 have cC:=Qnz [60,47] name [62] (by simp;omega)
 have eC:=Ql6 [60,47] name [62];rw[<-eC];refine fnN (Qoa k3) func35 rfl fun _ _=>?_
 with_reducible refine cv2 k3 (Q0 name) ?_
 exact⟨QdM,cC,.pure rfl (.inl rfl)⟩
def Qot(RU:ByteArray->List AV)(EN:List AV->List AV)(k2:List AV->List AV->List AV):Nat->List AV->List Ob->Option (AV×List Ob):=fun f args _=>match f,args with
 |34,[.val (.string s)]=>some (.slc 1 (RU s),[])
 |35,[.slc 1 x]=>some (.slc 1 (EN x),[])
 |17,[.slc 1 [.slc 1 a,.slc 1 b]]=>some (.slc 1 (k2 a b),[])
 |_,_=>none
def enA(name:List Int)(_:List AV):List AV:=Q0 ([60,47]++(name++[62]))
theorem Qnw(c:Cf)(name:List Int)(hn:name.length<=1000000)(em pr:Bool)(hc:0<=c.e):BCall prog 14 [c.av,.slc 1 (Q0 name),.val (.bool em),.val (.bool pr)] [] (.slc 1 (Q0 (Q2j c name (em||(pr&&decide (0<c.e)))))) []:=by
 have cE:=Qj2 name hn;have cC:=Qlk [62] ([60,47]++(name++[62])) (by simp;omega)
 have eC:=Qia [62] ([60,47]++(name++[62]));have s1:BCall prog 34 [.val (.string ⟨⟨[32,47,62]⟩⟩)] [] (.slc 1 (sgA ⟨⟨[32,47,62]⟩⟩)) []:=QcU;have s2:BCall prog 34 [.val (.string ⟨⟨[47,62]⟩⟩)] [] (.slc 1 (sgA ⟨⟨[47,62]⟩⟩)) []:=QgP;have cE:BCall prog 35 [.slc 1 (Q0 name)] [] (.slc 1 (enA name (Q0 name))) []:=cE;have cC:BCall prog 17 [.slc 1 [.slc 1 [.val (.int .i32 62)],.slc 1 (enA name (Q0 name))]] [] (.slc 1 (k2 [.val (.int .i32 62)] (enA name (Q0 name)))) []:=cC;obtain⟨i,w,q,e,n,tabs,wrap⟩:=c;unfold Cf.av;have hc:0<=e:=hc;refine fnN (Qot sgA (enA name) k2) func14 rfl fun _ _=>?_
 with_reducible refine cv4 sgA (enA name) k2 (Q0 name) ?_
 repeat' first
  |(with_reducible refine And.intro ?_ ?_)
  |intro hb
 all_goals first
  |(refine .pure rfl (.inl ?_)
    rw[show decide (0<e)=!decide (e=0) by by_cases h:e=0<;>simp[h];omega]
    clear cE cC s1 s2;simp_all [std,Q2j,enA,sgA,Q0,Q5U,k2]
    done)
  |(with_reducible exact s1)
  |(with_reducible exact s2)
  |(with_reducible exact cE)
  |(with_reducible exact cC)
def QnL(k2:List AV->List AV->List AV)(k3:List AV->List AV->List AV->List AV):Nat->List AV->List Ob->Option (AV×List Ob):=fun f args _=>match f,args with
 |17,[.slc 1 [.slc 1 a,.slc 1 b]]=>some (.slc 1 (k2 a b),[])
 |17,[.slc 1 [.slc 1 a,.slc 1 b,.slc 1 c]]=>some (.slc 1 (k3 a b c),[])
 |_,_=>none
def Qd(l:List (List Int)):List AV:=l.map fun x=>.slc 1 (Q0 x)
theorem Q2l(l:List (List Int)):(Qd l).length=l.length:=by simp[Qd]
theorem Q44(a b:List (List Int)):Qd (a++b)=Qd a++Qd b:=by simp[Qd]
theorem QbK{l:List (List Int)}{k:Int}(h0:0<=k)(h1:k<l.length):std.nth (std.cel (std.at_ (Qd l) k)) 0=.slc 1 (Q0 (l[k.toNat]?.getD [])):=by
 have hk:k.toNat<l.length:=by omega
 have jW:std.at_ (Qd l) k=.slc 1 (Q0 (l[k.toNat]?.getD [])):=by
  show(Qd l).getD k.toNat .dead=_
  rw[List.getD_eq_getElem?_getD,Qd,getElem?_map,getElem?_eq_getElem hk];rfl
 rw[jW];rfl
theorem Q2o{l:List (List Int)}{k:Int}(h0:0<=k)(h1:k<l.length):l.take (k+1).toNat=l.take k.toNat++[l[k.toNat]?.getD []]:=by
 have hk:k.toNat<l.length:=by omega
 rw[show(k+1).toNat=k.toNat+1 by omega,take_add_one,getElem?_eq_getElem hk];rfl
def jnF(name:List Int)(attrs:List (List Int))(ahead:List Int)(k:Int):List Int:=60::name++(attrs.take k.toNat).flatMap (ahead++·)
theorem Qld{name:List Int}{attrs:List (List Int)}{ahead:List Int}{k:Int}(hn:name.length<=1000000)(ha:ahead.length<=10000)(hl:attrs.length<=1000)(hx:∀x∈attrs,x.length<=10000):(jnF name attrs ahead k).length<=21000001:=by
 have h:=Q2b (ahead++·) 20000 (attrs.take k.toNat) fun x h=>by
  have:=hx x (List.mem_of_mem_take h)
  rw[length_append];omega
 have h2:(attrs.take k.toNat).length<=1000:=by rw[length_take];omega
 have h3:20000 * (attrs.take k.toNat).length<=20000 * 1000:=Nat.mul_le_mul_left _ h2;rw[jnF,length_append,length_cons];omega
theorem QdE(name:List Int)(attrs:List (List Int))(ahead e:List Int)(hn:name.length<=1000000)(ha:ahead.length<=10000)(he:e.length<=1000000)(hl:attrs.length<=1000)(hx:∀x∈attrs,x.length<=10000) :
  BCall prog 15 [.slc 1 (Q0 name),.slc 1 (Qd attrs),.slc 1 (Q0 ahead),.slc 1 (Q0 e)] [] (.slc 1 (Q0 (QF name attrs ahead e))) []:=by
 obtain⟨m,hm⟩:=QC attrs;have jC:std.len (Qd attrs)=m:=by show((Qd attrs).length:Int)=m;rw[Q2l,hm.eq]
 have c0:=Qlk [60] name (by simp;omega)
 have e0:k2 (Q0 [60]) (Q0 name)=Q0 (jnF name attrs ahead 0):=by rw[Qia];simp[jnF]
 refine fnN (QnL k2 k3) func15 rfl fun _ _=>?_
 with_reducible refine cv6 k2 k3 (Q0 name) (Qd attrs) (Q0 ahead) (Q0 e) ?_
 refine⟨c0,?_⟩;refine Q1p (QnL k2 k3) (Int) (fun k=>⟨[(2,.slc 1 (Q0 ahead)),(3,.slc 1 (Q0 e)),(9,.slc 1 (Q0 (jnF name attrs ahead k))),(16,.slc 1 (Qd attrs)),(17,.val (.int .i64 m)),(18,.val (.int .i64 k))],[]⟩) (fun k=>0<=k/\k<=m) (fun k=>(m-k).toNat) 0 ?_ ?_ ?_
 ·exact⟨le_refl 0,by have:=hm.eq;omega⟩
 ·refine⟨[],_,rfl,?_⟩
  exact eq2 (gA e0) (gI jC)
 ·rintro k ⟨jl,jR⟩
  have jl:0<=k:=jl;have jR:k<=m:=jR;have hB:=Qld (k:=k) hn ha hl hx;have cE:=Qlk (jnF name attrs ahead k) e (by omega)
  have eE:=Qia (jnF name attrs ahead k) e;with_reducible refine cv6 k2 k3 (Qd attrs) (Q0 ahead) (Q0 e) (Q0 (jnF name attrs ahead k)) ?_
  refine⟨fun h=>?_,fun h=>?_⟩
  ·have h:k<m:=of_decide_eq_true h
   have hk:k<attrs.length:=by have:=hm.eq;omega
   have hw:=QbK jl hk
   have cY:(attrs[k.toNat]?.getD []).length<=10000:=by
    rw[getElem?_eq_getElem (by omega)]
    exact hx _ (List.getElem_mem _)
   obtain⟨x,zi⟩:=exq (attrs[k.toNat]?.getD []);rw[<-zi]at hw cY;have hL:std.lst (std.nth (std.cel (std.at_ (Qd attrs) k)) 0)=Q0 x:=by rw[hw];rfl
   have cX:=Qnz (jnF name attrs ahead k) ahead x (by omega)
   have eX:k3 (Q0 (jnF name attrs ahead k)) (Q0 ahead) (Q0 x)=Q0 (jnF name attrs ahead (k+1)):=by
    rw[Ql6,jnF,jnF,Q2o jl hk,<-zi];simp
   rw[<-hL]at cX eX;refine⟨?_,?_,cX,?_,k+1,⟨by omega,by omega⟩,by omega,[],_,rfl,?_⟩
   ·show 0<=k/\k<std.len (Qd attrs)
    rw[jC];omega
   ·exact(show(std.all [std.hasL 1 (std.nth (std.cel (std.at_ (Qd attrs) k)) 0)]).q from⟨by rw[hw];exact .inl rfl,trivial⟩)
   ·show(-9223372036854775808:Int)<=k+1/\k+1<=(9223372036854775807:Int)
    have:=hm.eq;omega
   ·exact eq1 (gA eX)
  ·have h:¬k<m:=of_decide_eq_false h
   have hk:attrs.take k.toNat=attrs:=take_of_length_le (by have:=hm.eq;omega)
   have eR:Q0 (QF name attrs ahead e)=k2 (Q0 (jnF name attrs ahead k)) (Q0 e):=by
    rw[eE,jnF,hk];rfl
   rw[eR];rw[if_pos trivial];with_reducible refine cv6 k2 k3 (Qd attrs) (Q0 ahead) (Q0 e) (Q0 (jnF name attrs ahead k)) ?_
   exact⟨cE,.pure rfl (.inl rfl)⟩
theorem Q8l(d:Int)(hd:-9223372036854775808<=d):BCall prog 27 [.val (.int .i64 d)] [] (.val (.int .i64 (QP d))) []:=by
 unfold QP;refine fnN (cs0) func27 rfl fun _ _=>?_
 with_reducible refine cv0 ?_
 refine⟨fun h=>.pure rfl (.inl ?_),fun h=>⟨?_,.pure rfl (.inl ?_)⟩⟩
 ·have h:1000<d:=of_decide_eq_true h
  rw[if_pos h]
 ·have h:¬1000<d:=of_decide_eq_false h
  show(-9223372036854775808:Int)<=d+1/\d+1<=(9223372036854775807:Int)
  omega
 ·have h:¬1000<d:=of_decide_eq_false h
  rw[if_neg h];rfl
theorem Q3W{l:List (List Int)}(hl:l.length<=1000)(hx:∀x∈l,x.length<=100000)(k:Nat):(l.take k).flatten.length<=100000000:=by
 have h:=Q2b (fun x=>x) 100000 (l.take k) fun x h=>hx x (List.mem_of_mem_take h)
 have h2:(l.take k).length<=1000:=by rw[length_take];omega
 have h3:100000 * (l.take k).length<=100000 * 1000:=Nat.mul_le_mul_left _ h2;have e:(l.take k).flatMap (fun x=>x)=(l.take k).flatten:=by rw[List.flatMap_def,List.map_id']
 rw[e]at h;omega
theorem QkN(l:List (List Int))(hl:l.length<=1000)(hx:∀x∈l,x.length<=100000):BCall prog 23 [.slc 1 (Qd l)] [] (.slc 1 (Q0 l.flatten)) []:=by
 obtain⟨m,hm⟩:=QC l;have jC:std.len (Qd l)=m:=by show((Qd l).length:Int)=m;rw[Q2l,hm.eq]
 refine fnN (cs0) func23 rfl fun _ _=>?_
 with_reducible refine cv1 (Qd l) ?_
 refine Q1p (cs0) (Int) (fun k=>⟨[(3,.row 0 0),(6,.slc 1 (Qd l)),(7,.val (.int .i64 m)),(8,.val (.int .i64 k))],[.row 21 1 false 0 (Q0 (l.take k.toNat).flatten)]⟩) (fun k=>0<=k/\k<=m) (fun k=>(m-k).toNat) 0 ?_ ?_ ?_
 ·exact⟨le_refl 0,by have:=hm.eq;omega⟩
 ·refine⟨[none],_,rfl,?_⟩
  have e1:Q0 (l.take (0:Int).toNat).flatten=[]:=rfl;rw[e1];exact eq1 (gI jC)
 ·rintro k ⟨jl,jR⟩
  have jl:0<=k:=jl;have jR:k<=m:=jR;have hB:=Q3W hl hx k.toNat;with_reducible refine cv2 (Qd l) (Q0 (l.take k.toNat).flatten) ?_
  refine⟨fun h=>?_,fun h=>?_⟩
  ·have h:k<m:=of_decide_eq_true h
   have hk:k<l.length:=by have:=hm.eq;omega
   have hw:=QbK jl hk;have gi:=Q3W hl hx (k+1).toNat;rw[Q2o jl hk]at gi;obtain⟨x,zi⟩:=exq (l[k.toNat]?.getD []);rw[<-zi]at hw gi;have hL:std.lst (std.nth (std.cel (std.at_ (Qd l) k)) 0)=Q0 x:=by rw[hw];rfl
   have eX:std.app (Q0 (l.take k.toNat).flatten) (std.lst (std.nth (std.cel (std.at_ (Qd l) k)) 0))=Q0 (l.take (k+1).toNat).flatten:=by
    rw[hL,Q2o jl hk,<-zi,List.flatten_append,Qy];show _++Q0 x=_++Q0 [x].flatten;simp
   refine⟨?_,(show(std.all [std.hasL 1 (std.nth (std.cel (std.at_ (Qd l) k)) 0)]).q from⟨by rw[hw];exact .inl rfl,trivial⟩),?_,?_,k+1,⟨by omega,by omega⟩,by omega,[some 0],_,rfl,?_⟩
   ·show 0<=k/\k<std.len (Qd l)
    rw[jC];omega
   ·show(Q0 (l.take k.toNat).flatten).length+(std.lst (std.nth (std.cel (std.at_ (Qd l) k)) 0)).length<=1000000000
    rw[hL,Q6,Q6];rw[List.flatten_append,length_append]at gi;simp at gi;simp
    omega
   ·show(-9223372036854775808:Int)<=k+1/\k+1<=(9223372036854775807:Int)
    have:=hm.eq;omega
   ·exact eq1 eX
  ·have h:¬k<m:=of_decide_eq_false h
   rw[if_pos trivial,show l.take k.toNat=l from take_of_length_le (by have:=hm.eq;omega)]
   with_reducible refine cv2 (Qd l) (Q0 l.flatten) ?_
   exact .pure rfl (.inl rfl)
def QoL(J:List AV->List AV):Nat->List AV->List Ob->Option (AV×List Ob):=fun f args _=>match f,args with
 |23,[.slc 1 x]=>some (.slc 1 (J x),[])
 |_,_=>none
def reA(name:List Int)(_:List AV):List AV:=Q0 [[62,60,47],name,[62]].flatten
theorem QeW(c:Cf)(name:List Int)(hn:name.length<=100000)(s:Bool):BCall prog 22 [c.av,.slc 1 (Q0 name),.val (.bool s)] [] (.slc 1 (Q0 (Q2j c name s))) []:=by
 have cJ:=QkN [[62,60,47],name,[62]] (by simp) (by
  intro x hx;simp only[List.mem_cons,List.not_mem_nil,or_false]at hx;rcases hx with rfl|rfl|rfl
  ·decide
  ·exact hn
  ·decide)
 have cJ:BCall prog 23 [.slc 1 [.slc 1 [.val (.int .i32 62),.val (.int .i32 60),.val (.int .i32 47)],.slc 1 (Q0 name),.slc 1 [.val (.int .i32 62)]]] [] (.slc 1 (reA name [.slc 1 [.val (.int .i32 62),.val (.int .i32 60),.val (.int .i32 47)],.slc 1 (Q0 name),.slc 1 [.val (.int .i32 62)]])) []:=cJ;obtain⟨i,w,q,e,n,tabs,wrap⟩:=c;unfold Cf.av;refine fnN (QoL (reA name)) func22 rfl fun _ _=>?_
 with_reducible refine cv2 (reA name) (Q0 name) ?_
 repeat' first
  |(with_reducible refine And.intro ?_ ?_)
  |intro hb
 all_goals first
  |(refine .pure rfl (.inl ?_)
    clear cJ;simp_all [std,Q2j,reA,Q0,Q5U]
    done)
  |(with_reducible exact cJ)
def gAt(l:List Int)(i:Int):Int:=l[i.toNat]?.getD 0
theorem Qcg(c:Cf)(r:Int):BCall prog 52 [c.av,.val (.int .i32 r)] [] (.val (.int .i32 (Q59 c.q r))) []:=by
 obtain⟨i,w,q,e,n,tabs,wrap⟩:=c;unfold Cf.av Q59;refine fnN (cs0) func52 rfl fun _ _=>?_
 with_reducible refine cv0 ?_
 refine⟨fun h1=>.pure rfl (.inl ?_),fun h1=>⟨fun h2=>.pure rfl (.inl ?_),fun h2=>.pure rfl (.inl ?_)⟩⟩
 ·have h1:q=1:=of_decide_eq_true h1
  rw[if_pos h1]
 ·have h1:¬q=1:=of_decide_eq_false h1
  have h2:q=2:=of_decide_eq_true h2;rw[if_neg h1,if_pos h2]
 ·have h1:¬q=1:=of_decide_eq_false h1
  have h2:¬q=2:=of_decide_eq_false h2;rw[if_neg h1,if_neg h2]
def Qlj(C:List AV)(T:Int):Nat->List AV->List Ob->Option (AV×List Ob):=fun f args _=>match f,args with
 |9,[_]=>some (.agg C,[])
 |12,[.slc 1 x]=>some (.slc 1 x,[])
 |52,[_,_]=>some (.val (.int .i32 T),[])
 |_,_=>none
def voO:Nat->OT:=fun id=>match id with
 |2=>.of [0,1,2,3,4,5,6,7,8,9,10,11,12,13,14,15,16,17,18,19,20,21,22,23,24,25,27,28,29,31,32,33,26,30,34,35]
 |4=>.of [0,2,3,4,1,5,6]
 |_=>.nil
theorem Q6z{l:List Int}{i:Int}(h0:0<=i)(h1:i<l.length):std.int (std.nth (std.cel (std.at_ (Q0 l) i)) 0)=gAt l i/\std.hasI .i32 (std.nth (std.cel (std.at_ (Q0 l) i)) 0):=by
 have hk:i.toNat<l.length:=by omega
 have jW:std.at_ (Q0 l) i=.val (.int .i32 (gAt l i)):=by
  show(Q0 l).getD i.toNat .dead=_
  rw[List.getD_eq_getElem?_getD];exact Q25 h0 h1
 rw[jW];exact⟨rfl,rfl⟩
theorem Qh5(c:Cf)(l:List Int)(hl:l.length<=1000000)(h:l.length<2\/2<=l.length/\(gAt l 0≠gAt l (l.length-1)\/(gAt l 0≠34/\gAt l 0≠39)\/Q59 (wI c.q 0 2) (gAt l 0)=gAt l 0)) :
  BCall prog 33 [c.av,.slc 1 (Q0 l)] [] (.slc 1 (Q0 l)) []:=by
 have cC:=Q5k c;have cA:=Qcg c.clamp (gAt l 0);have cL:=QcV (Q0 l) (by rw[Q6];omega)
 obtain⟨n,hn⟩:=QC l;obtain⟨T,hT⟩:=exq (Q59 c.clamp.q (gAt l 0));have vH:Q59 (wI c.q 0 2) (gAt l 0)=T:=hT.symm;rw[<-hT]at cA;rw[vH]at h;clear hT vH;generalize c.clamp=k at cC cA;obtain⟨i2,w2,q2,e2,m2,t2,u2⟩:=k;obtain⟨i,w,q,e,m,tabs,wrap⟩:=c;unfold Cf.av at cC cA ⊢;have yB:=hn.eq;have jC:std.len (Q0 l)=n:=by show((Q0 l).length:Int)=n;rw[Q6,hn.eq]
 rcases h with h|⟨h2,h⟩
 ·have h2:n<2:=by omega
  clear h yB;refine fnO false (Qlj [.val (.int .i64 i2),.val (.int .i64 w2),.val (.int .i64 q2),.val (.int .i64 e2),.val (.int .i64 m2),.val (.bool t2),.val (.bool u2)] T) voO func33 rfl fun _ _=>?_
  with_reducible refine cv1 (Q0 l) ?_
  refine⟨?_,fun _=>⟨cL,.pure rfl (.inl rfl)⟩,fun hb=>?_⟩
  ·show(-9223372036854775808:Int)<=std.len (Q0 l)-1/\std.len (Q0 l)-1<=9223372036854775807
   rw[jC];have:=hn.eq;omega
  ·exfalso
   have hb:decide (std.len (Q0 l)-1<1)=false:=hb;rw[jC,decide_eq_false_iff_not]at hb;omega
 ·have e0:=Q6z (l:=l) (i:=0) (by omega) (by omega)
  have en:=Q6z (l:=l) (i:=n-1) (by omega) (by omega)
  rw[show(l.length:Int)-1=n-1 by omega]at h
  have jg:std.sub (std.len (Q0 l)) 1=n-1:=by show std.len (Q0 l)-1=n-1;rw[jC]
  rw[<-jg]at en;have h2:2<=n:=by omega
  clear yB
  have I0:(std.inb 0 (std.len (Q0 l))).q:=by
   show 0<=(0:Int)/\0<std.len (Q0 l);rw[jC];omega
  have In:(std.inb (std.sub (std.len (Q0 l)) 1) (std.len (Q0 l))).q:=by
   show 0<=std.sub (std.len (Q0 l)) 1/\std.sub (std.len (Q0 l)) 1<std.len (Q0 l);rw[jg,jC];omega
  have H0:(std.all [std.hasI .i32 (std.nth (std.cel (std.at_ (Q0 l) 0)) 0)]).q:=⟨e0.2,trivial⟩;have Hn:(std.all [std.hasI .i32 (std.nth (std.cel (std.at_ (Q0 l) (std.sub (std.len (Q0 l)) 1))) 0)]).q:=⟨en.2,trivial⟩
  have IR:(std.inR .i64 (std.sub (std.len (Q0 l)) 1)).q:=by
   show(-9223372036854775808:Int)<=std.sub (std.len (Q0 l)) 1/\std.sub (std.len (Q0 l)) 1<=9223372036854775807
   rw[jg];have:=hn.eq;omega
  rw[<-e0.1]at cA;refine fnO false (Qlj [.val (.int .i64 i2),.val (.int .i64 w2),.val (.int .i64 q2),.val (.int .i64 e2),.val (.int .i64 m2),.val (.bool t2),.val (.bool u2)] T) voO func33 rfl fun _ _=>?_
  with_reducible refine cv1 (Q0 l) ?_
  have xE:∀b,std.notB (std.eqI (std.int (std.nth (std.cel (std.at_ (Q0 l) 0)) 0)) (std.int (std.nth (std.cel (std.at_ (Q0 l) (std.sub (std.len (Q0 l)) 1))) 0)))=b->decide (gAt l 0=gAt l (n-1))=!b:=fun b hb=>by
   have hb:(!decide (_=_))=b:=hb;rw[e0.1,en.1,jg]at hb;rw[<-hb,Bool.not_not]
  have vV:∀(x:Int) b,std.notB (std.eqI (std.int (std.nth (std.cel (std.at_ (Q0 l) 0)) 0)) x)=b->decide (gAt l 0=x)=!b:=fun x b hb=>by
   have hb:(!decide (_=_))=b:=hb;rw[e0.1]at hb;rw[<-hb,Bool.not_not]
  have xF:∀b,std.eqI T (std.int (std.nth (std.cel (std.at_ (Q0 l) 0)) 0))=b->decide (T=gAt l 0)=b:=fun b hb=>by
   have hb:decide (_=_)=b:=hb;rw[e0.1]at hb;exact hb
  refine⟨IR,fun _=>⟨cL,.pure rfl (.inl rfl)⟩,fun _=>⟨I0,H0,In,Hn,fun _=>⟨cL,.pure rfl (.inl rfl)⟩,fun hz=>⟨I0,H0,fun _=>⟨I0,H0,fun _=>⟨cL,.pure rfl (.inl rfl)⟩,fun pf=>⟨I0,H0,I0,H0,cC,cA,fun _=>⟨cL,.pure rfl (.inl rfl)⟩,fun ht=>?_⟩⟩,fun kg=>⟨I0,H0,I0,H0,cC,cA,fun _=>⟨cL,.pure rfl (.inl rfl)⟩,fun ht=>?_⟩⟩⟩⟩
  ·exfalso
   have a1:=of_decide_eq_true (xE _ hz);have a2:=of_decide_eq_true (vV _ _ pf);have a3:=of_decide_eq_false (xF _ ht);rcases h with h|h|h
   ·exact h a1
   ·exact h.2 a2
   ·exact a3 h
  ·exfalso
   have a1:=of_decide_eq_true (xE _ hz);have a2:=of_decide_eq_true (vV _ _ kg);have a3:=of_decide_eq_false (xF _ ht);rcases h with h|h|h
   ·exact h a1
   ·exact h.1 a2
   ·exact a3 h
theorem Q1I(l:List Int)(f u:Int):std.cut (Q0 l) f u=Q0 (cutL l f u):=by
 show((Q0 l).drop f.toNat).take (u-f).toNat=_
 simp[Q0,cutL,List.map_drop,List.map_take]
theorem Q7K{l:List Int}{k:Int}(t:Int)(h0:0<=k)(h1:k<l.length):QN t (l.take (k+1).toNat)=QN t (l.take k.toNat)++Q81 t (gAt l k):=by
 have hk:k.toNat<l.length:=by omega
 rw[show(k+1).toNat=k.toNat+1 by omega,take_add_one,getElem?_eq_getElem hk]
 show List.flatMap _ (_++[l[k.toNat]])=_;rw[List.flatMap_append,gAt,getElem?_eq_getElem hk];simp[QN]
def sg39:ByteArray:=⟨⟨[38,97,112,111,115,59]⟩⟩
def sg34:ByteArray:=⟨⟨[38,113,117,111,116,59]⟩⟩
theorem Qmv(s:ByteArray)(X:List Int)(h:(Nat.beq s.size 6&&(List.range 6).all fun p=>(std.itr s p == X[p]?.getD 0)&&Nat.beq (std.itp s p) (p+1))=true):s.size=6/\∀p,p<6->std.itr s p=X[p]?.getD 0/\std.itp s p=p+1:=by
 rw[Bool.and_eq_true]at h;refine⟨Nat.eq_of_beq_eq_true h.1,fun p hp=>?_⟩
 have h4:=List.all_eq_true.1 h.2 p (List.mem_range.2 hp);rw[Bool.and_eq_true]at h4;exact⟨eq_of_beq h4.1,Nat.eq_of_beq_eq_true h4.2⟩
theorem QeV(c:Cf)(l:List Int)(hl:l.length<=1000000)(h2:2<=l.length)(jZ:gAt l 0=gAt l (l.length-1))(ha:gAt l 0=34)(xz:Q59 (wI c.q 0 2) (gAt l 0)=39) :
  BCall prog 33 [c.av,.slc 1 (Q0 l)] [] (.slc 1 (Q0 (39::QN 39 (cutL l 1 (l.length-1))++[39]))) []:=by
 have cC:=Q5k c;have cA:=Qcg c.clamp (gAt l 0);obtain⟨n,hn⟩:=QC l;obtain⟨T,hT⟩:=exq (Q59 c.clamp.q (gAt l 0));have vH:T=39:=hT.trans xz;rw[<-hT]at cA;clear hT xz;generalize c.clamp=k at cC cA;obtain⟨i2,w2,q2,e2,m2,t2,u2⟩:=k;obtain⟨i,w,q,e,m,tabs,wrap⟩:=c;unfold Cf.av at cC cA ⊢;have yB:=hn.eq;have jC:std.len (Q0 l)=n:=by show((Q0 l).length:Int)=n;rw[Q6,hn.eq]
 have e0:=Q6z (l:=l) (i:=0) (by omega) (by omega)
 have en:=Q6z (l:=l) (i:=n-1) (by omega) (by omega)
 rw[show(l.length:Int)-1=n-1 by omega]at jZ ⊢
 have jg:std.sub (std.len (Q0 l)) 1=n-1:=by show std.len (Q0 l)-1=n-1;rw[jC]
 rw[<-jg]at en;have h2:2<=n:=by omega
 have jH:std.cut (Q0 l) 1 (std.sub (std.len (Q0 l)) 1)=Q0 (cutL l 1 (n-1)):=by rw[jg,Q1I]
 have qY:=QT l 1 (n-1);rw[<-vH];obtain⟨mid,vI⟩:=exq (cutL l 1 (n-1));rw[<-vI]at jH qY ⊢;clear vI;obtain⟨mm,vJ⟩:=QC mid;have qA:std.len (Q0 mid)=mm:=by show((Q0 mid).length:Int)=mm;rw[Q6,vJ.eq]
 obtain⟨SG,zF⟩:=exq sg39;obtain⟨hS6,kh⟩:=Qmv sg39 (Q2M 39) (by kernel_rfl)
 rw[<-zF]at hS6 kh;rw[<-vH]at kh;clear yB
 have I0:(std.inb 0 (std.len (Q0 l))).q:=by
  show 0<=(0:Int)/\0<std.len (Q0 l);rw[jC];omega
 have In:(std.inb (std.sub (std.len (Q0 l)) 1) (std.len (Q0 l))).q:=by
  show 0<=std.sub (std.len (Q0 l)) 1/\std.sub (std.len (Q0 l)) 1<std.len (Q0 l);rw[jg,jC];omega
 have H0:(std.all [std.hasI .i32 (std.nth (std.cel (std.at_ (Q0 l) 0)) 0)]).q:=⟨e0.2,trivial⟩;have Hn:(std.all [std.hasI .i32 (std.nth (std.cel (std.at_ (Q0 l) (std.sub (std.len (Q0 l)) 1))) 0)]).q:=⟨en.2,trivial⟩
 have IR:(std.inR .i64 (std.sub (std.len (Q0 l)) 1)).q:=by
  show(-9223372036854775808:Int)<=std.sub (std.len (Q0 l)) 1/\std.sub (std.len (Q0 l)) 1<=9223372036854775807
  rw[jg];have:=hn.eq;omega
 rw[<-e0.1]at cA;refine fnO false (Qlj [.val (.int .i64 i2),.val (.int .i64 w2),.val (.int .i64 q2),.val (.int .i64 e2),.val (.int .i64 m2),.val (.bool t2),.val (.bool u2)] T) voO func33 rfl fun _ _=>?_
 with_reducible refine cv1 (Q0 l) ?_
 have xE:∀b,std.notB (std.eqI (std.int (std.nth (std.cel (std.at_ (Q0 l) 0)) 0)) (std.int (std.nth (std.cel (std.at_ (Q0 l) (std.sub (std.len (Q0 l)) 1))) 0)))=b->decide (gAt l 0=gAt l (n-1))=!b:=fun b hb=>by
  have hb:(!decide (_=_))=b:=hb;rw[e0.1,en.1,jg]at hb;rw[<-hb,Bool.not_not]
 have vV:∀(x:Int) b,std.notB (std.eqI (std.int (std.nth (std.cel (std.at_ (Q0 l) 0)) 0)) x)=b->decide (gAt l 0=x)=!b:=fun x b hb=>by
  have hb:(!decide (_=_))=b:=hb;rw[e0.1]at hb;rw[<-hb,Bool.not_not]
 have xF:∀b,std.eqI T (std.int (std.nth (std.cel (std.at_ (Q0 l) 0)) 0))=b->decide (T=gAt l 0)=b:=fun b hb=>by
  have hb:decide (_=_)=b:=hb;rw[e0.1]at hb;exact hb
 refine⟨IR,fun hb=>?_,fun _=>⟨I0,H0,In,Hn,fun hz=>?_,fun hz=>⟨I0,H0,fun kg=>?_,fun kg=>⟨I0,H0,I0,H0,cC,cA,fun ht=>?_,fun ht=>⟨I0,H0,cC,cA,fun hs=>⟨?_,?_⟩,fun hs=>?_⟩⟩⟩⟩⟩
 ·exfalso
  have hb:decide (std.sub (std.len (Q0 l)) 1<1)=true:=hb;rw[jg,decide_eq_true_eq]at hb;omega
 ·exact absurd jZ (of_decide_eq_false (xE _ hz))
 ·exact absurd ha (of_decide_eq_false (vV _ _ kg))
 ·exact absurd (of_decide_eq_true (xF _ ht)) (by rw[vH,ha];decide)
 ·show 0<=(1:Int)/\1<=std.sub (std.len (Q0 l)) 1/\std.sub (std.len (Q0 l)) 1<=std.len (Q0 l)
  rw[jg,jC];omega
 ·refine Q1p (cs0) (Int) (fun k=>⟨[(6,.val (.int .i32 T)),(7,.val (.string SG)),(8,.row 0 0),(66,.slc 1 (Q0 mid)),(67,.val (.int .i64 mm)),(68,.val (.int .i64 k))],[.row 21 1 false 0 (Q0 (T::QN T (mid.take k.toNat)))]⟩) (fun k=>0<=k/\k<=mm) (fun k=>(mm-k).toNat) 0 ?_ ?_ ?_
  ·exact⟨le_refl 0,by have:=vJ.eq;omega⟩
  ·refine⟨[some 1],_,rfl,?_⟩
   have e1:([.val (.int .i32 T)]:List AV)=Q0 (T::QN T (mid.take (0:Int).toNat)):=rfl;have e2:std.len (std.cut (Q0 l) 1 (std.sub (std.len (Q0 l)) 1))=mm:=by rw[jH];exact qA
   have e3:(⟨⟨[38,97,112,111,115,59]⟩⟩:ByteArray)=SG:=by rw[zF];rfl
   exact eq4 e1 (gA jH) (gI e2) (gT e3)
  ·rintro k ⟨jl,jR⟩
   have jl:0<=k:=jl;have jR:k<=mm:=jR;have j5:=Q4N T (mid.take k.toNat)
   have hX:(Q0 (T::QN T (mid.take k.toNat))).length<=7000000:=by
    rw[Q6,length_cons];have:(mid.take k.toNat).length<=mid.length:=by rw[length_take];omega
    omega
   with_reducible refine cv2 (Q0 mid) (Q0 (T::QN T (mid.take k.toNat))) ?_
   refine⟨fun h=>?_,fun h=>?_⟩
   ·have h:k<mm:=of_decide_eq_true h
    have qE:k<mid.length:=by have:=vJ.eq;omega
    have qO:=Q7K (l:=mid) T jl qE;have jW:=Q6z (l:=mid) jl qE
    have kj:(std.inb k (std.len (Q0 mid))).q:=by
     show 0<=k/\k<std.len (Q0 mid);rw[qA];omega
    have vK:(std.inR .i64 (std.add k 1)).q:=by
     show(-9223372036854775808:Int)<=k+1/\k+1<=(9223372036854775807:Int)
     have:=vJ.eq;omega
    refine⟨kj,⟨jW.2,trivial⟩,fun hb=>?_,fun hb=>?_⟩
    ·have hb:(!decide (std.int (std.nth (std.cel (std.at_ (Q0 mid) k)) 0)=T))=true:=hb
     rw[jW.1,Bool.not_eq_true',decide_eq_false_iff_not]at hb;rw[Q81,if_neg hb,<-jW.1]at qO;refine⟨?_,vK,k+1,⟨by omega,by omega⟩,by omega,[some 0],_,rfl,?_⟩
     ·show(Q0 (T::QN T (mid.take k.toNat))).length+1<=1000000000
      omega
     ·have e1:std.app (Q0 (T::QN T (mid.take k.toNat))) [.val (.int .i32 (std.int (std.nth (std.cel (std.at_ (Q0 mid) k)) 0)))]=Q0 (T::QN T (mid.take (k+1).toNat)):=by
       rw[qO,<-cons_append,Qy];rfl
      exact eq1 e1
    ·have hb:(!decide (std.int (std.nth (std.cel (std.at_ (Q0 mid) k)) 0)=T))=false:=hb
     rw[jW.1,Bool.not_eq_false',decide_eq_true_eq]at hb;rw[Q81,if_pos hb]at qO;have hX6:(Q2M T).length=6:=by rw[vH];rfl
     refine Q1p (cs0) (Nat) (fun p=>⟨[(6,.val (.int .i32 T)),(7,.val (.string SG)),(8,.row 0 0),(66,.slc 1 (Q0 mid)),(67,.val (.int .i64 mm)),(68,.val (.int .i64 k)),(80,.iter 1)],[.row 21 1 false 0 (Q0 (T::QN T (mid.take k.toNat)++(Q2M T).take p)),.iter (.str SG p)]⟩) (fun p=>p<=6) (fun p=>6-p) 0 ?_ ?_ ?_
     ·exact Nat.zero_le 6
     ·refine⟨[some 0,some 1],_,rfl,?_⟩
      have e1:Q0 (T::QN T (mid.take k.toNat))=Q0 (T::QN T (mid.take k.toNat)++(Q2M T).take 0):=by simp
      exact eq1 e1
     ·intro p hp
      have hp:p<=6:=hp
      have hY:(Q0 (T::QN T (mid.take k.toNat)++(Q2M T).take p)).length<=8000000:=by
       rw[Qy,length_append,Q6 (l:=(Q2M T).take p),length_take];omega
      with_reducible refine cv2 (Q0 mid) (Q0 (T::QN T (mid.take k.toNat)++(Q2M T).take p)) ?_
      refine⟨fun h=>?_,fun h=>?_⟩
      ·have h:p<SG.size:=of_decide_eq_true h
       obtain⟨h1,h2⟩:=kh p (by omega)
       have e1:Q0 (T::QN T (mid.take k.toNat)++(Q2M T).take (p+1))=Q0 (T::QN T (mid.take k.toNat)++(Q2M T).take p)++[.val (.int .i32 ((Q2M T)[p]?.getD 0))]:=by
        rw[take_add_one,<-append_assoc,Qy,getElem?_eq_getElem (by omega)];rfl
       rw[<-h1]at e1;refine⟨?_,p+1,by omega,by omega,[some 0,some 1],_,rfl,?_⟩
       ·show(Q0 (T::QN T (mid.take k.toNat)++(Q2M T).take p)).length+1<=1000000000
        omega
       ·rw[e1,<-h2]
        exact eq0
      ·have h:¬p<SG.size:=of_decide_eq_false h
       have ep:(Q2M T).take p=Q2M T:=take_of_length_le (by omega)
       have ep2:Q0 (T::QN T (mid.take k.toNat)++Q2M T)=Q0 (T::QN T (mid.take (k+1).toNat)):=by rw[cons_append,qO]
       rw[ep,ep2];rw[if_pos trivial];with_reducible refine cv2 (Q0 mid) (Q0 (T::QN T (mid.take (k+1).toNat))) ?_
       refine⟨vK,k+1,⟨by omega,by omega⟩,by omega,[some 0],_,rfl,?_⟩
       exact eq0
   ·have h:¬k<mm:=of_decide_eq_false h
    rw[if_pos trivial];rw[show mid.take k.toNat=mid from take_of_length_le (by have:=vJ.eq;omega)]at hX ⊢
    with_reducible refine cv2 (Q0 mid) (Q0 (T::QN T mid)) ?_
    refine⟨?_,.pure rfl (.inl ?_)⟩
    ·show(Q0 (T::QN T mid)).length+1<=1000000000
     omega
    ·rw[Qy];rfl
 ·exact absurd hs (by rw[vH];decide)
theorem Qfg(c:Cf)(l:List Int)(hl:l.length<=1000000)(h2:2<=l.length)(jZ:gAt l 0=gAt l (l.length-1))(ha:gAt l 0=39)(xz:Q59 (wI c.q 0 2) (gAt l 0)=34) :
  BCall prog 33 [c.av,.slc 1 (Q0 l)] [] (.slc 1 (Q0 (34::QN 34 (cutL l 1 (l.length-1))++[34]))) []:=by
 have cC:=Q5k c;have cA:=Qcg c.clamp (gAt l 0);obtain⟨n,hn⟩:=QC l;obtain⟨T,hT⟩:=exq (Q59 c.clamp.q (gAt l 0));have vH:T=34:=hT.trans xz;rw[<-hT]at cA;clear hT xz;generalize c.clamp=k at cC cA;obtain⟨i2,w2,q2,e2,m2,t2,u2⟩:=k;obtain⟨i,w,q,e,m,tabs,wrap⟩:=c;unfold Cf.av at cC cA ⊢;have yB:=hn.eq;have jC:std.len (Q0 l)=n:=by show((Q0 l).length:Int)=n;rw[Q6,hn.eq]
 have e0:=Q6z (l:=l) (i:=0) (by omega) (by omega)
 have en:=Q6z (l:=l) (i:=n-1) (by omega) (by omega)
 rw[show(l.length:Int)-1=n-1 by omega]at jZ ⊢
 have jg:std.sub (std.len (Q0 l)) 1=n-1:=by show std.len (Q0 l)-1=n-1;rw[jC]
 rw[<-jg]at en;have h2:2<=n:=by omega
 have jH:std.cut (Q0 l) 1 (std.sub (std.len (Q0 l)) 1)=Q0 (cutL l 1 (n-1)):=by rw[jg,Q1I]
 have qY:=QT l 1 (n-1);rw[<-vH];obtain⟨mid,vI⟩:=exq (cutL l 1 (n-1));rw[<-vI]at jH qY ⊢;clear vI;obtain⟨mm,vJ⟩:=QC mid;have qA:std.len (Q0 mid)=mm:=by show((Q0 mid).length:Int)=mm;rw[Q6,vJ.eq]
 obtain⟨SG,zF⟩:=exq sg34;obtain⟨hS6,kh⟩:=Qmv sg34 (Q2M 34) (by kernel_rfl)
 rw[<-zF]at hS6 kh;rw[<-vH]at kh;clear yB
 have I0:(std.inb 0 (std.len (Q0 l))).q:=by
  show 0<=(0:Int)/\0<std.len (Q0 l);rw[jC];omega
 have In:(std.inb (std.sub (std.len (Q0 l)) 1) (std.len (Q0 l))).q:=by
  show 0<=std.sub (std.len (Q0 l)) 1/\std.sub (std.len (Q0 l)) 1<std.len (Q0 l);rw[jg,jC];omega
 have H0:(std.all [std.hasI .i32 (std.nth (std.cel (std.at_ (Q0 l) 0)) 0)]).q:=⟨e0.2,trivial⟩;have Hn:(std.all [std.hasI .i32 (std.nth (std.cel (std.at_ (Q0 l) (std.sub (std.len (Q0 l)) 1))) 0)]).q:=⟨en.2,trivial⟩
 have IR:(std.inR .i64 (std.sub (std.len (Q0 l)) 1)).q:=by
  show(-9223372036854775808:Int)<=std.sub (std.len (Q0 l)) 1/\std.sub (std.len (Q0 l)) 1<=9223372036854775807
  rw[jg];have:=hn.eq;omega
 rw[<-e0.1]at cA;refine fnO false (Qlj [.val (.int .i64 i2),.val (.int .i64 w2),.val (.int .i64 q2),.val (.int .i64 e2),.val (.int .i64 m2),.val (.bool t2),.val (.bool u2)] T) voO func33 rfl fun _ _=>?_
 with_reducible refine cv1 (Q0 l) ?_
 have xE:∀b,std.notB (std.eqI (std.int (std.nth (std.cel (std.at_ (Q0 l) 0)) 0)) (std.int (std.nth (std.cel (std.at_ (Q0 l) (std.sub (std.len (Q0 l)) 1))) 0)))=b->decide (gAt l 0=gAt l (n-1))=!b:=fun b hb=>by
  have hb:(!decide (_=_))=b:=hb;rw[e0.1,en.1,jg]at hb;rw[<-hb,Bool.not_not]
 have vV:∀(x:Int) b,std.notB (std.eqI (std.int (std.nth (std.cel (std.at_ (Q0 l) 0)) 0)) x)=b->decide (gAt l 0=x)=!b:=fun x b hb=>by
  have hb:(!decide (_=_))=b:=hb;rw[e0.1]at hb;rw[<-hb,Bool.not_not]
 have xF:∀b,std.eqI T (std.int (std.nth (std.cel (std.at_ (Q0 l) 0)) 0))=b->decide (T=gAt l 0)=b:=fun b hb=>by
  have hb:decide (_=_)=b:=hb;rw[e0.1]at hb;exact hb
 refine⟨IR,fun hb=>?_,fun _=>⟨I0,H0,In,Hn,fun hz=>?_,fun hz=>⟨I0,H0,fun kg=>⟨I0,H0,fun pf=>?_,fun pf=>⟨I0,H0,I0,H0,cC,cA,fun ht=>?_,fun ht=>⟨I0,H0,cC,cA,fun hs=>?_,fun hs=>⟨?_,?_⟩⟩⟩⟩,fun kg=>?_⟩⟩⟩
 ·exfalso
  have hb:decide (std.sub (std.len (Q0 l)) 1<1)=true:=hb;rw[jg,decide_eq_true_eq]at hb;omega
 ·exact absurd jZ (of_decide_eq_false (xE _ hz))
 ·exact absurd ha (of_decide_eq_false (vV _ _ pf))
 ·exact absurd (of_decide_eq_true (xF _ ht)) (by rw[vH,ha];decide)
 ·exact absurd hs (by rw[vH];decide)
 ·show 0<=(1:Int)/\1<=std.sub (std.len (Q0 l)) 1/\std.sub (std.len (Q0 l)) 1<=std.len (Q0 l)
  rw[jg,jC];omega
 ·refine Q1p (cs0) (Int) (fun k=>⟨[(6,.val (.int .i32 T)),(7,.val (.string SG)),(8,.row 0 0),(66,.slc 1 (Q0 mid)),(67,.val (.int .i64 mm)),(68,.val (.int .i64 k))],[.row 21 1 false 0 (Q0 (T::QN T (mid.take k.toNat)))]⟩) (fun k=>0<=k/\k<=mm) (fun k=>(mm-k).toNat) 0 ?_ ?_ ?_
  ·exact⟨le_refl 0,by have:=vJ.eq;omega⟩
  ·refine⟨[some 1],_,rfl,?_⟩
   have e1:([.val (.int .i32 T)]:List AV)=Q0 (T::QN T (mid.take (0:Int).toNat)):=rfl;have e2:std.len (std.cut (Q0 l) 1 (std.sub (std.len (Q0 l)) 1))=mm:=by rw[jH];exact qA
   have e3:(⟨⟨[38,113,117,111,116,59]⟩⟩:ByteArray)=SG:=by rw[zF];rfl
   exact eq4 e1 (gA jH) (gI e2) (gT e3)
  ·rintro k ⟨jl,jR⟩
   have jl:0<=k:=jl;have jR:k<=mm:=jR;have j5:=Q4N T (mid.take k.toNat)
   have hX:(Q0 (T::QN T (mid.take k.toNat))).length<=7000000:=by
    rw[Q6,length_cons];have:(mid.take k.toNat).length<=mid.length:=by rw[length_take];omega
    omega
   with_reducible refine cv2 (Q0 mid) (Q0 (T::QN T (mid.take k.toNat))) ?_
   refine⟨fun h=>?_,fun h=>?_⟩
   ·have h:k<mm:=of_decide_eq_true h
    have qE:k<mid.length:=by have:=vJ.eq;omega
    have qO:=Q7K (l:=mid) T jl qE;have jW:=Q6z (l:=mid) jl qE
    have kj:(std.inb k (std.len (Q0 mid))).q:=by
     show 0<=k/\k<std.len (Q0 mid);rw[qA];omega
    have vK:(std.inR .i64 (std.add k 1)).q:=by
     show(-9223372036854775808:Int)<=k+1/\k+1<=(9223372036854775807:Int)
     have:=vJ.eq;omega
    refine⟨kj,⟨jW.2,trivial⟩,fun hb=>?_,fun hb=>?_⟩
    ·have hb:(!decide (std.int (std.nth (std.cel (std.at_ (Q0 mid) k)) 0)=T))=true:=hb
     rw[jW.1,Bool.not_eq_true',decide_eq_false_iff_not]at hb;rw[Q81,if_neg hb,<-jW.1]at qO;refine⟨?_,vK,k+1,⟨by omega,by omega⟩,by omega,[some 0],_,rfl,?_⟩
     ·show(Q0 (T::QN T (mid.take k.toNat))).length+1<=1000000000
      omega
     ·have e1:std.app (Q0 (T::QN T (mid.take k.toNat))) [.val (.int .i32 (std.int (std.nth (std.cel (std.at_ (Q0 mid) k)) 0)))]=Q0 (T::QN T (mid.take (k+1).toNat)):=by
       rw[qO,<-cons_append,Qy];rfl
      exact eq1 e1
    ·have hb:(!decide (std.int (std.nth (std.cel (std.at_ (Q0 mid) k)) 0)=T))=false:=hb
     rw[jW.1,Bool.not_eq_false',decide_eq_true_eq]at hb;rw[Q81,if_pos hb]at qO;have hX6:(Q2M T).length=6:=by rw[vH];rfl
     refine Q1p (cs0) (Nat) (fun p=>⟨[(6,.val (.int .i32 T)),(7,.val (.string SG)),(8,.row 0 0),(66,.slc 1 (Q0 mid)),(67,.val (.int .i64 mm)),(68,.val (.int .i64 k)),(80,.iter 1)],[.row 21 1 false 0 (Q0 (T::QN T (mid.take k.toNat)++(Q2M T).take p)),.iter (.str SG p)]⟩) (fun p=>p<=6) (fun p=>6-p) 0 ?_ ?_ ?_
     ·exact Nat.zero_le 6
     ·refine⟨[some 0,some 1],_,rfl,?_⟩
      have e1:Q0 (T::QN T (mid.take k.toNat))=Q0 (T::QN T (mid.take k.toNat)++(Q2M T).take 0):=by simp
      exact eq1 e1
     ·intro p hp
      have hp:p<=6:=hp
      have hY:(Q0 (T::QN T (mid.take k.toNat)++(Q2M T).take p)).length<=8000000:=by
       rw[Qy,length_append,Q6 (l:=(Q2M T).take p),length_take];omega
      with_reducible refine cv2 (Q0 mid) (Q0 (T::QN T (mid.take k.toNat)++(Q2M T).take p)) ?_
      refine⟨fun h=>?_,fun h=>?_⟩
      ·have h:p<SG.size:=of_decide_eq_true h
       obtain⟨h1,h2⟩:=kh p (by omega)
       have e1:Q0 (T::QN T (mid.take k.toNat)++(Q2M T).take (p+1))=Q0 (T::QN T (mid.take k.toNat)++(Q2M T).take p)++[.val (.int .i32 ((Q2M T)[p]?.getD 0))]:=by
        rw[take_add_one,<-append_assoc,Qy,getElem?_eq_getElem (by omega)];rfl
       rw[<-h1]at e1;refine⟨?_,p+1,by omega,by omega,[some 0,some 1],_,rfl,?_⟩
       ·show(Q0 (T::QN T (mid.take k.toNat)++(Q2M T).take p)).length+1<=1000000000
        omega
       ·rw[e1,<-h2]
        exact eq0
      ·have h:¬p<SG.size:=of_decide_eq_false h
       have ep:(Q2M T).take p=Q2M T:=take_of_length_le (by omega)
       have ep2:Q0 (T::QN T (mid.take k.toNat)++Q2M T)=Q0 (T::QN T (mid.take (k+1).toNat)):=by rw[cons_append,qO]
       rw[ep,ep2];rw[if_pos trivial];with_reducible refine cv2 (Q0 mid) (Q0 (T::QN T (mid.take (k+1).toNat))) ?_
       refine⟨vK,k+1,⟨by omega,by omega⟩,by omega,[some 0],_,rfl,?_⟩
       exact eq0
   ·have h:¬k<mm:=of_decide_eq_false h
    rw[if_pos trivial];rw[show mid.take k.toNat=mid from take_of_length_le (by have:=vJ.eq;omega)]at hX ⊢
    with_reducible refine cv2 (Q0 mid) (Q0 (T::QN T mid)) ?_
    refine⟨?_,.pure rfl (.inl ?_)⟩
    ·show(Q0 (T::QN T mid)).length+1<=1000000000
     omega
    ·rw[Qy];rfl
 ·exact absurd (of_decide_eq_true (vV _ _ kg)) (by rw[ha];decide)
def Qhi(c:Cf)(l:List Int):Prop:=l.length<2\/2<=l.length/\(gAt l 0≠gAt l (l.length-1)\/(gAt l 0≠34/\gAt l 0≠39)\/Q59 (wI c.q 0 2) (gAt l 0)=gAt l 0)
theorem QdD{l:List Int}(h:2<=l.length):gAt l (l.length-1)=l[l.length-1]?.getD 0:=by
 rw[gAt,show((l.length:Int)-1).toNat=l.length-1 by omega]
theorem Qde{c:Cf}{l:List Int}(h:Qhi c l):Q4k c l=l:=by
 unfold Q4k;rcases h with h|⟨h2,h⟩
 ·exact if_pos (.inl h)
 ·rw[QdD h2]at h
  exact if_pos (.inr h)
theorem QfC{c:Cf}{l:List Int}(h:¬Qhi c l):∃T,T=Q59 (wI c.q 0 2) (gAt l 0)/\Q4k c l=T::QN T (cutL l 1 (l.length-1))++[T]/\2<=l.length/\gAt l 0=gAt l (l.length-1)/\((T=39/\gAt l 0=34/\wI c.q 0 2=2)\/(T=34/\gAt l 0=39/\wI c.q 0 2=1)):=by
 have h2:2<=l.length:=by
  apply Decidable.byContradiction;intro hn;exact h (.inl (by omega))
 have h3:¬(gAt l 0≠gAt l (l.length-1)\/(gAt l 0≠34/\gAt l 0≠39)\/Q59 (wI c.q 0 2) (gAt l 0)=gAt l 0):=fun x=>h (.inr ⟨h2,x⟩)
 have hz:gAt l 0=gAt l (l.length-1):=Decidable.byContradiction fun x=>h3 (.inl x)
 have hq:gAt l 0=34\/gAt l 0=39:=by
  apply Decidable.byContradiction;intro x;exact h3 (.inr (.inl ⟨fun y=>x (.inl y),fun y=>x (.inr y)⟩))
 have ht:¬Q59 (wI c.q 0 2) (gAt l 0)=gAt l 0:=fun x=>h3 (.inr (.inr x))
 refine⟨_,rfl,?_,h2,hz,?_⟩
 ·have e:(l.drop 1).take (l.length-2)=cutL l 1 (l.length-1):=by
   rw[cutL,show((l.length:Int)-1-1).toNat=l.length-2 by omega];rfl
  unfold Q4k
  have h4:¬(l.length<2\/gAt l 0≠l[l.length-1]?.getD 0\/(gAt l 0≠34/\gAt l 0≠39)\/Q59 (wI c.q 0 2) (gAt l 0)=gAt l 0):=by
   rw[<-QdD h2];rintro(x|x)
   ·omega
   ·exact h3 x
  rw[<-e];exact if_neg h4
 ·unfold Q59 at ht ⊢
  split at ht
  ·rename_i h1
   rw[if_pos h1];rcases hq with hq|hq
   ·exact absurd hq.symm ht
   ·exact .inr ⟨rfl,hq,h1⟩
  ·rename_i h1
   split at ht
   ·rename_i h5
    rw[if_neg h1,if_pos h5];rcases hq with hq|hq
    ·exact .inl ⟨rfl,hq,h5⟩
    ·exact absurd hq.symm ht
   ·exact absurd rfl ht
theorem QlV(c:Cf)(l:List Int)(hl:l.length<=1000000):BCall prog 33 [c.av,.slc 1 (Q0 l)] [] (.slc 1 (Q0 (Q4k c l))) []:=by
 by_cases h:Qhi c l
 ·rw[Qde h]
  exact Qh5 c l hl h
 ·obtain⟨T,hT,hv,h2,hz,hc⟩:=QfC h
  rw[hv];rcases hc with ⟨rfl,ha,_⟩|⟨rfl,ha,_⟩
  ·exact QeV c l hl h2 hz ha hT.symm
  ·exact Qfg c l hl h2 hz ha hT.symm
theorem Qks(s:ByteArray)(hs:s.size<=300000000):BCall prog 43 [.val (.string s)] [] (.slc 1 (Q0 (Q1x s.data.toList))) []:=by
 refine BCall.hand (enters_of func43 (by kernel_rfl) rfl) fun w g vs M hL=>?_
 obtain⟨v1,vs1,rfl,k1,hL⟩:=Qt hL;obtain rfl:=Q1i hL;obtain rfl:=Q1G k1;refine(QeK s w hs).mono fun e w' ⟨v,h,⟨n',ho⟩,qv⟩=>⟨v,h,qv,?_⟩
 have hn:n'=(Q0 (Q1x s.data.toList)).length:=by
  have:=ho.1
  rw[Q6];simpa[rc]using this.symm
 refine Q7r (A':=(g.imm w w').A) ho (by decide) ?_ hn (fun x hx=>by obtain⟨y,_,rfl⟩:=mem_map.1 hx;rfl) (fun b o h1 h2=>.inr ⟨h1,h2⟩)
 have e:Q0 (Q1x s.data.toList)=(rc (Q1x s.data.toList)).map .val:=by simp[Q0,rc,Q5U]
 rw[e,Q4d];refine Q4h fun u hu=>?_
 obtain⟨x,_,rfl⟩:=mem_map.1 hu;rfl
def QgA(C:List AV)(S:ByteArray->List AV):Nat->List AV->List Ob->Option (AV×List Ob):=fun f args _=>match f,args with
 |19,[_]=>some (.agg C,[])
 |43,[.val (.string s)]=>some (.slc 1 (S s),[])
 |_,_=>none
theorem QeR(c:Cf)(l:List Int)(hl:l.length<=1000000)(h:Qhi c l) :
  BCall prog 24 [c.av,.slc 1 (Q0 l)] [] (.slc 1 (Q0 l)) []:=by
 have cC:=Q3f c;obtain⟨n,hn⟩:=QC l;unfold Qhi at h;have gD:c.clamp.q=wI c.q 0 2:=rfl;have pg:=Q48 (n:=c.q) (lo:=0) (hi:=2) (by decide)
 rw[<-gD]at h pg;clear gD;generalize c.clamp=k at cC h pg;obtain⟨i2,w2,q2,e2,m2,t2,u2⟩:=k;obtain⟨i,w,q,e,m,tabs,wrap⟩:=c;unfold Cf.av at cC ⊢;have pg:0<=q2/\q2<=2:=pg;have yB:=hn.eq;have jC:std.len (Q0 l)=n:=by show((Q0 l).length:Int)=n;rw[Q6,hn.eq]
 rcases h with h|⟨h2,h⟩
 ·have h2:n<2:=by omega
  clear h yB;refine fnO false (QgA [.val (.int .i64 i2),.val (.int .i64 w2),.val (.int .i64 q2),.val (.int .i64 e2),.val (.int .i64 m2),.val (.bool t2),.val (.bool u2)] sgA) (fun id=>match id with|2=>.of (List.range 27)|_=>.nil) func24 rfl fun _ _=>?_
  with_reducible refine cv2 (Q0 l) sgA ?_
  refine⟨cC,fun _=>.pure rfl (.inl rfl),fun hb=>?_⟩
  exfalso;have hb:decide (std.len (Q0 l)<2)=false:=hb;rw[jC,decide_eq_false_iff_not]at hb;omega
 ·have e0:=Q6z (l:=l) (i:=0) (by omega) (by omega)
  have en:=Q6z (l:=l) (i:=n-1) (by omega) (by omega)
  rw[show(l.length:Int)-1=n-1 by omega]at h
  have jg:std.sub (std.len (Q0 l)) 1=n-1:=by show std.len (Q0 l)-1=n-1;rw[jC]
  rw[<-jg]at en;have h2:2<=n:=by omega
  have h':gAt l 0≠gAt l (n-1)\/(gAt l 0≠34/\gAt l 0≠39)\/(q2=1/\gAt l 0=34)\/(q2=2/\gAt l 0=39)\/(q2≠1/\q2≠2):=by
   rcases h with h|h|h
   ·exact .inl h
   ·exact .inr (.inl h)
   ·have h:Q59 q2 (gAt l 0)=gAt l 0:=h
    unfold Q59 at h;split at h
    ·rename_i h1;exact .inr (.inr (.inl ⟨h1,h.symm⟩))
    ·split at h
     ·rename_i h1;exact .inr (.inr (.inr (.inl ⟨h1,h.symm⟩)))
     ·rename_i h3 h4;exact .inr (.inr (.inr (.inr ⟨h3,h4⟩)))
  clear yB h
  have I0:(std.inb 0 (std.len (Q0 l))).q:=by
   show 0<=(0:Int)/\0<std.len (Q0 l);rw[jC];omega
  have In:(std.inb (std.sub (std.len (Q0 l)) 1) (std.len (Q0 l))).q:=by
   show 0<=std.sub (std.len (Q0 l)) 1/\std.sub (std.len (Q0 l)) 1<std.len (Q0 l);rw[jg,jC];omega
  have H0:(std.all [std.hasI .i32 (std.nth (std.cel (std.at_ (Q0 l) 0)) 0)]).q:=⟨e0.2,trivial⟩;have Hn:(std.all [std.hasI .i32 (std.nth (std.cel (std.at_ (Q0 l) (std.sub (std.len (Q0 l)) 1))) 0)]).q:=⟨en.2,trivial⟩
  have IR:(std.inR .i64 (std.sub (std.len (Q0 l)) 1)).q:=by
   show(-9223372036854775808:Int)<=std.sub (std.len (Q0 l)) 1/\std.sub (std.len (Q0 l)) 1<=9223372036854775807
   rw[jg];have:=hn.eq;omega
  have vL:∀{x:Int},std.notB (std.eqI (std.int (std.nth (std.cel (std.at_ (Q0 l) 0)) 0)) x)=true->gAt l 0≠x:=fun {x} hb=>by
   have hb:(!decide (std.int (std.nth (std.cel (std.at_ (Q0 l) 0)) 0)=x))=true:=hb;rw[e0.1,Bool.not_eq_true',decide_eq_false_iff_not]at hb;exact hb
  have yG:∀{x:Int},std.notB (std.eqI (std.int (std.nth (std.cel (std.at_ (Q0 l) 0)) 0)) x)=false->gAt l 0=x:=fun {x} hb=>by
   have hb:(!decide (std.int (std.nth (std.cel (std.at_ (Q0 l) 0)) 0)=x))=false:=hb;rw[e0.1,Bool.not_eq_false',decide_eq_true_eq]at hb;exact hb
  have gF:∀{x:Int},std.eqI (std.int (std.nth (std.cel (std.at_ (Q0 l) 0)) 0)) x=true->gAt l 0=x:=fun {x} hb=>by
   have hb:decide (std.int (std.nth (std.cel (std.at_ (Q0 l) 0)) 0)=x)=true:=hb;rw[e0.1,decide_eq_true_eq]at hb;exact hb
  have ya:∀{x:Int},std.eqI (std.int (std.nth (std.cel (std.at_ (Q0 l) 0)) 0)) x=false->gAt l 0≠x:=fun {x} hb=>by
   have hb:decide (std.int (std.nth (std.cel (std.at_ (Q0 l) 0)) 0)=x)=false:=hb;rw[e0.1,decide_eq_false_iff_not]at hb;exact hb
  have j7:std.notB (std.eqI (std.int (std.nth (std.cel (std.at_ (Q0 l) 0)) 0)) (std.int (std.nth (std.cel (std.at_ (Q0 l) (std.sub (std.len (Q0 l)) 1))) 0)))=true->gAt l 0≠gAt l (n-1):=fun hb=>by
   have hb:=vL hb;rw[en.1,jg]at hb;exact hb
  have j8:std.notB (std.eqI (std.int (std.nth (std.cel (std.at_ (Q0 l) 0)) 0)) (std.int (std.nth (std.cel (std.at_ (Q0 l) (std.sub (std.len (Q0 l)) 1))) 0)))=false->gAt l 0=gAt l (n-1):=fun hb=>by
   have hb:=yG hb;rw[en.1,jg]at hb;exact hb
  have jR:∀{x:Int},std.eqI q2 x=true->q2=x:=fun hb=>of_decide_eq_true hb
  have qC:∀{x:Int},std.eqI q2 x=false->q2≠x:=fun hb=>of_decide_eq_false hb
  have vu:std.ltI (std.len (Q0 l)) 2=true->False:=fun hb=>by
   have hb:decide (std.len (Q0 l)<2)=true:=hb;rw[jC,decide_eq_true_eq]at hb;omega
  have IC:(std.cutok 1 (std.sub (std.len (Q0 l)) 1) (std.len (Q0 l))).q:=by
   show 0<=(1:Int)/\1<=std.sub (std.len (Q0 l)) 1/\std.sub (std.len (Q0 l)) 1<=std.len (Q0 l);rw[jg,jC];omega
  refine fnO false (QgA [.val (.int .i64 i2),.val (.int .i64 w2),.val (.int .i64 q2),.val (.int .i64 e2),.val (.int .i64 m2),.val (.bool t2),.val (.bool u2)] sgA) (fun id=>match id with|2=>.of (List.range 27)|_=>.nil) func24 rfl fun _ _=>?_
  with_reducible refine cv2 (Q0 l) sgA ?_
  repeat' first
   |(with_reducible exact I0)
   |(with_reducible exact H0)
   |(with_reducible exact IR)
   |(with_reducible exact In)
   |(with_reducible exact Hn)
   |(with_reducible exact IC)
   |(with_reducible exact cC)
   |(with_reducible refine And.intro ?_ ?_)
   |(intro hb
     first
      |have hb:=j7 hb
      |have hb:=j8 hb
      |have hb:=vL hb
      |have hb:=yG hb
      |have hb:=gF hb
      |have hb:=ya hb
      |have hb:=jR hb
      |have hb:=qC hb
      |skip)
  all_goals first
   |(exact .pure rfl (.inl rfl))
   |(exfalso;clear cC e0 en I0 In H0 Hn IR IC vL yG gF ya j7 j8 jR qC vu;omega)
noncomputable def Im_tab:List (Nat×FnI):=[
 (18,⟨f18,f18.body.getD .skip,fun _=>.nil⟩)]
theorem Q83:Qb5 Im_tab:=by
 unfold Im_tab;refine⟨⟨Nat.le_of_ble_eq_true rfl,func18,rfl,by kernel_rfl⟩,?_⟩
 exact trivial
def clB(f:Nat)(a:List AV)(o:List Ob):Option (AV×List Ob):=match o with
 | []=>if f=9 then(match a with
  | [.agg [.val (.int .i64 i),.val (.int .i64 w),.val (.int .i64 q),.val (.int .i64 e),.val (.int .i64 (.ofNat n)),.val (.bool t),.val (.bool u)]]=>some ((Cf.clamp ⟨i,w,q,e,n,t,u⟩).av,[])
  |_=>none)else none
 |_=>none
theorem Qeb(f:Nat)(a:List AV)(o:List Ob)(r:AV)(o':List Ob)(h:clB f a o=some (r,o')):f<1000000/\BCall prog f a o r o':=by
 unfold clB at h;split at h
 ·split at h
  ·rename_i e;subst e
   split at h
   ·cases h
    exact⟨by decide,Q5k ⟨_,_,_,_,_,_,_⟩⟩
   ·cases h
  ·cases h
 ·cases h
theorem Qlo(c:Cf)(hn:c.n=0\/c.n=1\/c.n=2):BCall prog 18 [c.av] [] (.slc 1 (Q0 (QY c))) []:=by
 obtain⟨i,w,q,e,n,t,u⟩:=c;rcases hn with h|h|h
 ·have h:n=0:=h
  subst h;exact(Q2k (lf:=100) (Q5g Q83) Qeb (ask:=Q61) Q1K 60 _ [(Cf.mk i w q e 0 t u).av] [] (.slc 1 (Q0 [10])) [] (by kernel_rfl)).2
 ·have h:n=1:=h
  subst h;exact(Q2k (lf:=100) (Q5g Q83) Qeb (ask:=Q61) Q1K 60 _ [(Cf.mk i w q e 1 t u).av] [] (.slc 1 (Q0 [13,10])) [] (by kernel_rfl)).2
 ·have h:n=2:=h
  subst h;exact(Q2k (lf:=100) (Q5g Q83) Qeb (ask:=Q61) Q1K 60 _ [(Cf.mk i w q e 2 t u).av] [] (.slc 1 (Q0 [13])) [] (by kernel_rfl)).2
def QoE(C:List AV):Nat->List AV->List Ob->Option (AV×List Ob):=fun f args _=>match f,args with
 |19,[_]=>some (.agg C,[])
 |_,_=>none
theorem Qam(c:Cf):BCall prog 25 [c.av] [] (.slc 1 (Q0 (QY c))) []:=by
 have cC:=Q3f c;obtain⟨i,w,q,e,n,t,u⟩:=c;unfold Cf.clamp Cf.av at cC;unfold Cf.av;have eB:QY ⟨i,w,q,e,n,t,u⟩=if wI n 0 2=1 then [13,10]else if wI n 0 2=2 then [13]else [10]:=rfl;rw[eB];simp only at cC
 generalize wI n 0 2=m at cC ⊢;refine fnN (QoE [.val (.int .i64 (wI i 0 8)),.val (.int .i64 (wI w 20 200)),.val (.int .i64 (wI q 0 2)),.val (.int .i64 (wI e 0 3)),.val (.int .i64 m),.val (.bool t),.val (.bool u)]) func25 rfl fun _ _=>?_
 with_reducible refine cv1 wI ?_
 refine⟨cC,fun h1=>.pure rfl (.inl ?_),fun h1=>⟨fun h2=>.pure rfl (.inl ?_),fun h2=>.pure rfl (.inl ?_)⟩⟩
 ·have h1:m=1:=of_decide_eq_true h1
  rw[if_pos h1];rfl
 ·have h1:¬m=1:=of_decide_eq_false h1
  have h2:m=2:=of_decide_eq_true h2;rw[if_neg h1,if_pos h2];rfl
 ·have h1:¬m=1:=of_decide_eq_false h1
  have h2:¬m=2:=of_decide_eq_false h2;rw[if_neg h1,if_neg h2];rfl
def QnP(W:Int->Int->Int->Int)(C:List AV):Nat->List AV->List Ob->Option (AV×List Ob):=fun f args _=>match f,args with
 |38,[.val (.int .i64 n),.val (.int .i64 lo),.val (.int .i64 hi)]=>some (.val (.int .i64 (W n lo hi)),[])
 |19,[_]=>some (.agg C,[])
 |_,_=>none
theorem Qdm{k:Int}(h0:0<=k)(r:Int):Q0 (List.replicate (k+1).toNat r)=Q0 (List.replicate k.toNat r)++[.val (.int .i32 r)]:=by
 rw[show(k+1).toNat=k.toNat+1 by omega,List.replicate_succ',Qy];rfl
theorem QeE(c:Cf)(d:Int):BCall prog 26 [c.av,.val (.int .i64 d)] [] (.slc 1 (Q0 (QL c d))) []:=by
 have cC:=Q3f c;have hd:=Q48 (n:=d) (lo:=0) (hi:=200) (by decide)
 have hi:=Q48 (n:=c.i) (lo:=0) (hi:=8) (by decide)
 obtain⟨i,w,q,e,n,tabs,wrap⟩:=c;unfold Cf.clamp Cf.av at cC;unfold Cf.av;obtain⟨a0,zj⟩:=exq (wI i 0 8);have hi:0<=a0/\a0<=8:=by rw[zj];exact hi
 simp only[<-zj]at cC;have eP:QL ⟨i,w,q,e,n,tabs,wrap⟩ d=if tabs then List.replicate (wI d 0 200).toNat 9 else List.replicate (wI d 0 200 * a0).toNat 32:=by rw[zj];rfl
 rw[eP];clear zj eP;have cN:=Q8o d 0 200 (by decide)
 obtain⟨D,hD⟩:=exq (wI d 0 200);rw[<-hD]at hd cN ⊢;have qF:0<=D * a0:=Int.mul_nonneg hd.1 hi.1;have qp:D * a0<=200 * 8:=Int.mul_le_mul hd.2 hi.2 hi.1 (by decide)
 obtain⟨m,hm⟩:=exq (D * a0);have hM:std.mul D a0=m:=hm.symm;rw[<-hm]at qF qp ⊢;clear hm;refine fnN (QnP (fun _ _ _=>D) [.val (.int .i64 a0),.val (.int .i64 (wI w 20 200)),.val (.int .i64 (wI q 0 2)),.val (.int .i64 (wI e 0 3)),.val (.int .i64 (wI n 0 2)),.val (.bool tabs),.val (.bool wrap)]) func26 rfl fun _ _=>?_
 with_reducible refine cv1 wI ?_
 refine⟨cN,fun ht=>⟨cC,?_,?_⟩,fun ht=>?_⟩
 ·show(-9223372036854775808:Int)<=std.mul D a0/\std.mul D a0<=9223372036854775807
  rw[hM];omega
 ·refine Q1p (cs0) (Int) (fun k=>⟨[(5,.val (.int .i64 m)),(6,.val (.int .i32 32)),(7,.row 0 0),(8,.val (.int .i64 k))],[.row 21 1 false 0 (Q0 (List.replicate k.toNat 32))]⟩) (fun k=>0<=k/\k<=m) (fun k=>(m-k).toNat) 0 ?_ ?_ ?_
  ·exact⟨le_refl 0,qF⟩
  ·refine⟨[none],_,rfl,?_⟩
   have e1:Q0 (List.replicate (0:Int).toNat 32)=[]:=rfl;rw[e1];exact eq1 (gI hM)
  ·rintro k ⟨h0,h1⟩
   have h0:0<=k:=h0;have h1:k<=m:=h1;have hS:=Qdm h0 32;have hL:(Q0 (List.replicate k.toNat 32)).length<=2000:=by rw[Q6,List.length_replicate];omega
   with_reducible refine cv1 (Q0 (List.replicate k.toNat 32)) ?_
   refine⟨fun h=>?_,fun h=>?_⟩
   ·have h:k<m:=of_decide_eq_true h
    refine⟨?_,?_,k+1,⟨by omega,by omega⟩,by omega,[some 0],_,rfl,?_⟩
    ·show(Q0 (List.replicate k.toNat 32)).length+1<=1000000000
     omega
    ·show(-9223372036854775808:Int)<=k+1/\k+1<=(9223372036854775807:Int)
     omega
    ·have e1:std.app (Q0 (List.replicate k.toNat 32)) [.val (.int .i32 32)]=Q0 (List.replicate (k+1).toNat 32):=hS.symm
     exact eq1 e1
   ·have h:¬k<m:=of_decide_eq_false h
    rw[if_pos trivial,show k=m by omega]
    with_reducible refine cv2 wI (Q0 (List.replicate m.toNat 32)) ?_
    refine .pure rfl (.inl ?_)
    have ht:tabs=false:=by
     cases tabs with
     |false=>rfl
     |true=>cases ht
    rw[ht];rfl
 ·refine Q1p (cs0) (Int) (fun k=>⟨[(5,.val (.int .i64 D)),(6,.val (.int .i32 9)),(7,.row 0 0),(8,.val (.int .i64 k))],[.row 21 1 false 0 (Q0 (List.replicate k.toNat 9))]⟩) (fun k=>0<=k/\k<=D) (fun k=>(D-k).toNat) 0 ?_ ?_ ?_
  ·exact⟨le_refl 0,hd.1⟩
  ·refine⟨[none],_,rfl,?_⟩
   have e1:Q0 (List.replicate (0:Int).toNat 9)=[]:=rfl;rw[e1];exact eq0
  ·rintro k ⟨h0,h1⟩
   have h0:0<=k:=h0;have h1:k<=D:=h1;have hS:=Qdm h0 9;have hL:(Q0 (List.replicate k.toNat 9)).length<=2000:=by rw[Q6,List.length_replicate];omega
   with_reducible refine cv1 (Q0 (List.replicate k.toNat 9)) ?_
   refine⟨fun h=>?_,fun h=>?_⟩
   ·have h:k<D:=of_decide_eq_true h
    refine⟨?_,?_,k+1,⟨by omega,by omega⟩,by omega,[some 0],_,rfl,?_⟩
    ·show(Q0 (List.replicate k.toNat 9)).length+1<=1000000000
     omega
    ·show(-9223372036854775808:Int)<=k+1/\k+1<=(9223372036854775807:Int)
     omega
    ·have e1:std.app (Q0 (List.replicate k.toNat 9)) [.val (.int .i32 9)]=Q0 (List.replicate (k+1).toNat 9):=hS.symm
     exact eq1 e1
   ·have h:¬k<D:=of_decide_eq_false h
    rw[if_pos trivial,show k=D by omega]
    with_reducible refine cv2 wI (Q0 (List.replicate D.toNat 9)) ?_
    refine .pure rfl (.inl ?_)
    have ht:tabs=true:=by
     cases tabs with
     |true=>rfl
     |false=>cases ht
    rw[ht];rfl
def Qoc(VA:List AV->List AV)(k3:List AV->List AV->List AV->List AV):Nat->List AV->List Ob->Option (AV×List Ob):=fun f args _=>match f,args with
 |33,[_,.slc 1 x]=>some (.slc 1 (VA x),[])
 |17,[.slc 1 [.slc 1 a,.slc 1 b,.slc 1 c]]=>some (.slc 1 (k3 a b c),[])
 |_,_=>none
def Q5v(c:Cf)(x:List AV):List AV:=Q0 (Q4k c (x.map std.int))
theorem Q4j(c:Cf)(x:List Int):Q5v c (Q0 x)=Q0 (Q4k c x):=by
 have e:(Q0 x).map std.int=x:=QbD x;rw[Q5v,e]
theorem QlK(c:Cf)(l:List Int)(hl:l.length<=1000000)(a:TAttr)(hn:PIn l a.name)(hv:PIn l a.value):BCall prog 13 [c.av,.slc 1 (Q0 l),a.av] [] (.slc 1 (Q0 (Q1q c l a))) []:=by
 have cV:=QlV c (cutL l a.value.from_ a.value.to) (by have:=QT l a.value.from_ a.value.to;omega)
 rw[<-Q1I,<-Q4j,<-Q1I]at cV;have h1:=Q5Z c (cutL l a.value.from_ a.value.to);have h2:=QT l a.value.from_ a.value.to;have h3:=QT l a.name.from_ a.name.to;have cC:=Qnz (cutL l a.name.from_ a.name.to) [61] (Q4k c (cutL l a.value.from_ a.value.to)) (by simp;omega)
 have eC:=Ql6 (cutL l a.name.from_ a.name.to) [61] (Q4k c (cutL l a.value.from_ a.value.to));rw[<-Q1I,<-Q4j,<-Q1I]at cC eC;have eT:Q0 (Q1q c l a)=Q0 (cutL l a.name.from_ a.name.to++([61]++Q4k c (cutL l a.value.from_ a.value.to))):=by rw[Q1q,append_assoc]
 rw[eT,<-eC];obtain⟨⟨k0,f0,u0⟩,⟨k1,f1,u1⟩,⟨k2,f2,u2⟩⟩:=a;obtain⟨VA,zk⟩:=exq (Q5v c);rw[<-zk]at cV cC ⊢;obtain⟨i,w,q,e,n,tabs,wrap⟩:=c;unfold Cf.av at cV ⊢;unfold TAttr.av TAttr.cs;have jC:std.len (Q0 l)=l.length:=by show((Q0 l).length:Int)=_;rw[Q6]
 clear zk eT eC;refine fnO false (Qoc VA k3) (fun id=>match id with|1=>.th [0,1,2,3,4,5,6,7,9,10,11,12,13,14,15,16,17] (.fork (.of [8,18,19,20,21]) (.of [18,8,19,20,21]))|_=>.nil) func13 rfl fun _ _=>?_
 with_reducible refine cv2 k3 (Q0 l) ?_
 have hN:(std.cutok f0 u0 (std.len (Q0 l))).q:=by
  show 0<=f0/\f0<=u0/\u0<=std.len (Q0 l);rw[jC];exact⟨hn.a,hn.b,hn.c⟩
 have hV:(std.cutok f1 u1 (std.len (Q0 l))).q:=by
  show 0<=f1/\f1<=u1/\u1<=std.len (Q0 l);rw[jC];exact⟨hv.a,hv.b,hv.c⟩
 exact⟨hN,hV,⟨cV,cC,.pure rfl (.inl rfl)⟩,cV,cC,.pure rfl (.inl rfl)⟩
def Qfd(x:List AV):TAttr:=⟨⟨std.int (x.getD 0 .dead),std.int (x.getD 1 .dead),std.int (x.getD 2 .dead)⟩,⟨std.int (x.getD 3 .dead),std.int (x.getD 4 .dead),std.int (x.getD 5 .dead)⟩,⟨std.int (x.getD 6 .dead),std.int (x.getD 7 .dead),std.int (x.getD 8 .dead)⟩⟩
theorem Qgy(a:TAttr):Qfd a.cs=a:=rfl
def tgO:Nat->OT:=fun id=>match id with
 |14=>.of [0,1,2,3,4,5,6,7,8,9,10,11,15,16,12,13,14,17,18]
 |15=>.of [0,1,2,4,5,6,7,11,3,8,9,10,12,13]
 |_=>.nil
def QmQ(C AT:List AV)(rk rf ru:Int)(rr re st:Bool)(AF:List AV->List AV)(EN:List AV)(JO:List AV->List AV->List AV)(PA:Int->List AV)(BR:List AV)(k2:List AV->List AV->List AV):Nat->List AV->List Ob->Option (AV×List Ob):=fun f args _=>match f,args with
 |9,[_]=>some (.agg C,[])
 |10,[_,_,_]=>some (.agg [.val (.int .i64 rk),.val (.int .i64 rf),.val (.int .i64 ru),.slc 9 AT,.val (.bool rr),.val (.bool re)],[])
 |11,[_,_,_]=>some (.val (.bool st),[])
 |12,[.slc 1 x]=>some (.slc 1 x,[])
 |13,[_,_,.agg x]=>some (.slc 1 (AF x),[])
 |14,[_,_,_,_]=>some (.slc 1 EN,[])
 |15,[_,.slc 1 a,.slc 1 b,_]=>some (.slc 1 (JO a b),[])
 |16,[_,.val (.int .i64 d)]=>some (.slc 1 (PA d),[])
 |18,[_]=>some (.slc 1 BR,[])
 |17,[.slc 1 [.slc 1 a,.slc 1 b]]=>some (.slc 1 (k2 a b),[])
 |_,_=>none
theorem QfO(c:Cf)(l:List Int)(hl:l.length<=200)(d:Int)(p:Bool)(h:(Qa l 0 l.length).right=false\/(Qa l 0 l.length).right=true/\Q7 l 0 [60,47]=true) :
  BCall prog 5 [c.av,.slc 1 (Q0 l),.val (.int .i64 d),.val (.bool p)] [] (.slc 1 (Q0 l)) []:=by
 have cC:=Q5k c;have jC:std.len (Q0 l)=l.length:=by show((Q0 l).length:Int)=_;rw[Q6]
 have cR:=Qc6 l (by omega) 0 l.length (le_refl 0) (natCast_nonneg _) (le_refl _)
 have cS:=Q7O l (by omega) 0 (le_refl 0) (natCast_nonneg _) ⟨⟨[60,47]⟩⟩ (by decide)
 have cL:=QcV (Q0 l) (by rw[Q6];omega)
 rw[<-jC]at cR;change BCall _ _ _ _ (.val (.bool (Q7 l 0 [60,47]))) _ at cS;obtain⟨i,w,q,e,n,tabs,wrap⟩:=c;unfold Cf.clamp Cf.av at cC;unfold Cf.av;obtain⟨AT,vz⟩:=exq (Qj (Qa l 0 (std.len (Q0 l))).attrs);rw[<-vz]at cR;rw[<-jC]at h;generalize (Qa l 0 (std.len (Q0 l))).name.kind=rk at cR;generalize (Qa l 0 (std.len (Q0 l))).name.from_=rf at cR;generalize (Qa l 0 (std.len (Q0 l))).name.to=ru at cR;generalize (Qa l 0 (std.len (Q0 l))).right=rr at cR h;generalize (Qa l 0 (std.len (Q0 l))).empty=re at cR;generalize Q7 l 0 [60,47]=st at cS h;refine fnO false (QmQ [.val (.int .i64 (wI i 0 8)),.val (.int .i64 (wI w 20 200)),.val (.int .i64 (wI q 0 2)),.val (.int .i64 (wI e 0 3)),.val (.int .i64 (wI n 0 2)),.val (.bool tabs),.val (.bool wrap)] AT rk rf ru rr re st (fun _=>[]) [] (fun _ _=>[]) (fun _=>[]) [] k2) tgO func5 rfl fun _ _=>?_
 with_reducible refine cv3 wI k2 (Q0 l) ?_
 refine⟨cC,cR,fun hb=>⟨cL,.pure rfl (.inl rfl)⟩,fun hr=>⟨cS,fun hs=>⟨cL,.pure rfl (.inl rfl)⟩,fun hs=>?_⟩⟩
 exfalso
 have hr:rr=true:=by
  cases rr with
  |true=>rfl
  |false=>cases hr
 rcases h with h|⟨_,h⟩
 ·rw[hr]at h;cases h
 ·rw[h]at hs;cases hs
def joA(name e:List Int)(a b:List AV):List AV:=Q0 (QF name (a.map rwA) (b.map std.int) e)
theorem QjN(name e:List Int)(a:List (List Int))(b:List Int):joA name e (Qd a) (Q0 b)=Q0 (QF name a b e):=by
 have h1:(Qd a).map rwA=a:=by
  rw[Qd,List.map_map];conv=>rhs;rw[<-List.map_id a]
  exact List.map_congr_left fun x _=>QbD x
 have h2:(Q0 b).map std.int=b:=QbD b;rw[joA,h1,h2]
def atA(c:Cf)(l:List Int)(x:List AV):List AV:=Q0 (Q1q c l (Qfd x))
def paA(c:Cf)(d:Int):List AV:=Q0 (QL c d)
theorem Q7z{l:List TAttr}{j:Int}(h0:0<=j)(h1:j<l.length):std.cel (std.at_ (Qj l) j)=(l[j.toNat]?.getD tattr0).cs:=by
 have hk:j.toNat<l.length:=by omega
 have jW:std.at_ (Qj l) j=(l[j.toNat]?.getD tattr0).av:=by
  show(Qj l).getD j.toNat .dead=_
  rw[List.getD_eq_getElem?_getD,Qj,getElem?_map,getElem?_eq_getElem hk];rfl
 rw[jW];rfl
theorem Qn7(c:Cf)(l:List Int)(hl:l.length<=200)(d:Int)(hd:-9223372036854775808<=d)(p:Bool)(h1:(Qa l 0 l.length).right=true)(h2:Q7 l 0 [60,47]=false) :
  BCall prog 5 [c.av,.slc 1 (Q0 l),.val (.int .i64 d),.val (.bool p)] [] (.slc 1 (Q0 (Q3j c l d p))) []:=by
 have cC:=Q5k c;have jC:std.len (Q0 l)=l.length:=by show((Q0 l).length:Int)=_;rw[Q6]
 have cR:=Qc6 l (by omega) 0 l.length (le_refl 0) (natCast_nonneg _) (le_refl _)
 have cS:=Q7O l (by omega) 0 (le_refl 0) (natCast_nonneg _) ⟨⟨[60,47]⟩⟩ (by decide)
 change BCall _ _ _ _ (.val (.bool (Q7 l 0 [60,47]))) _ at cS;obtain⟨je,yj⟩:=Q8Y l;have qi:=Q7p l 0 l.length (le_refl 0) (natCast_nonneg _) (le_refl _);have zm:=Q48 (n:=c.e) (lo:=0) (hi:=3) (by decide)
 have vL:=Q48 (n:=c.n) (lo:=0) (hi:=2) (by decide)
 have eT:Q3j c l d p=if c.clamp.wrap=true/\0<((Qa l 0 l.length).attrs.map (Q1q c.clamp l)).length/\((QF (cutL l (Qa l 0 l.length).name.from_ (Qa l 0 l.length).name.to) ((Qa l 0 l.length).attrs.map (Q1q c.clamp l)) [32] (Q2j c.clamp (cutL l (Qa l 0 l.length).name.from_ (Qa l 0 l.length).name.to) ((Qa l 0 l.length).empty||(p&&decide (0<c.clamp.e))))).length:Int)+(QL c.clamp d).length > c.clamp.w then QF (cutL l (Qa l 0 l.length).name.from_ (Qa l 0 l.length).name.to) ((Qa l 0 l.length).attrs.map (Q1q c.clamp l)) (QY c.clamp++QL c.clamp (QP d)) (Q2j c.clamp (cutL l (Qa l 0 l.length).name.from_ (Qa l 0 l.length).name.to) ((Qa l 0 l.length).empty||(p&&decide (0<c.clamp.e))))else QF (cutL l (Qa l 0 l.length).name.from_ (Qa l 0 l.length).name.to) ((Qa l 0 l.length).attrs.map (Q1q c.clamp l)) [32] (Q2j c.clamp (cutL l (Qa l 0 l.length).name.from_ (Qa l 0 l.length).name.to) ((Qa l 0 l.length).empty||(p&&decide (0<c.clamp.e)))):=by
  unfold Q3j;simp only[h1,h2,Bool.false_eq_true,Bool.true_eq_false,or_self,if_false]
 rw[eT];clear eT;have ya:0<=c.clamp.e:=zm.1;have yw:0<=c.clamp.n/\c.clamp.n<=2:=vL;rw[h1]at cR;rw[h2]at cS;generalize c.clamp=k at *;obtain⟨at',jW⟩:=exq ((Qa l 0 l.length).attrs);rw[<-jW]at cR je yj ⊢;clear jW;generalize (Qa l 0 l.length).name.kind=rk at *;generalize (Qa l 0 l.length).name.from_=rf at *;generalize (Qa l 0 l.length).name.to=ru at *;generalize (Qa l 0 l.length).empty=re at *;clear h1 h2 zm vL;obtain⟨m,hm⟩:=QC at';have qo:std.len (Qj at')=m:=by show((Qj at').length:Int)=m;rw[Q1X,hm.eq]
 have cF:∀x∈at',BCall prog 13 [k.av,.slc 1 (Q0 l),x.av] [] (.slc 1 (atA k l x.cs)) []:=fun x hx=>QlK k l (by omega) x (je x hx).1 (je x hx).2
 obtain⟨name,jc⟩:=exq (cutL l rf ru);have gf:name.length<=200:=by rw[jc];have:=QT l rf ru;omega
 have jH:std.cut (Q0 l) rf ru=Q0 name:=by rw[jc,Q1I]
 rw[<-jc];have cE:=Qnw k name (by omega) re p ya
 obtain⟨e,he⟩:=exq (Q2j k name (re||(p&&decide (0<k.e))))
 have j5:e.length<=204:=by rw[he];have:=Q6r k name (re||(p&&decide (0<k.e)));omega
 rw[<-he]at cE ⊢;obtain⟨ats,jN⟩:=exq (at'.map (Q1q k l));have jT:ats.length<=201:=by rw[jN,length_map];omega
 have yI:∀x∈ats,x.length<=1403:=fun x hx=>by
  rw[jN]at hx;obtain⟨a,_,rfl⟩:=mem_map.1 hx;have:=Q7m k l a
  omega
 rw[<-jN];have cJ1:=QdE name ats [32] e (by omega) (by decide) (by omega) (by omega) fun x hx=>by have:=yI x hx;omega
 have jw:=Q7u k;have jV:=Q7N k;have cJ2:=QdE name ats (QY k++QL k (QP d)) e (by omega) (by rw[length_append];have:=jw (QP d);omega) (by omega) (by omega) fun x hx=>by have:=yI x hx;omega
 have cP:∀x,BCall prog 16 [k.av,.val (.int .i64 x)] [] (.slc 1 (paA k x)) []:=fun x=>Qo3 k x
 have cB:=Qlo k (by omega)
 have c2:=Qlk (QY k) (QL k (QP d)) (by have:=jw (QP d);omega)
 have e2:k2 (Q0 (QY k)) (paA k (QP d))=Q0 (QY k++QL k (QP d)):=Qia _ _
 have vY:(QF name ats [32] e).length<=300000:=by
  have h:=Q2b ([32]++·) 1404 ats fun x h=>by
   have:=yI x h
   rw[length_append,List.length_singleton];omega
  have h3:1404 * ats.length<=1404 * 201:=Nat.mul_le_mul_left _ jT;rw[QF,length_append,length_append,length_cons];omega
 rw[<-QjN]at cJ1 cJ2;have j1:=QjN name e ats [32];have j2:=QjN name e ats (QY k++QL k (QP d));have hpf:paA k ((if 1073741824<d then 1073741824 else d)+1)=paA k (QP d):=by rw[paA,Ql0];rfl
 have kl:(std.cutok rf ru (std.len (Q0 l))).q:=by
  show 0<=rf/\rf<=ru/\ru<=std.len (Q0 l);rw[jC];exact qi
 rw[<-jC]at cR;have cat:∀x,atA k l x=Q0 (Q1q k l (Qfd x)):=fun _=>rfl
 have qI:∀x,(paA k x).length=(QL k x).length:=fun x=>Q6 _
 obtain⟨AF,hAF⟩:=exq (atA k l);obtain⟨JO,hJO⟩:=exq (joA name e);obtain⟨PA,zP⟩:=exq (paA k);obtain⟨BR,zQ⟩:=exq (Q0 (QY k));obtain⟨EN,zn⟩:=exq (Q0 e);have c2n:BCall prog 17 [.slc 1 [.slc 1 BR,.slc 1 (PA (QP d))]] [] (.slc 1 (k2 BR (PA (QP d)))) []:=by rw[zQ,zP];exact c2
 rw[<-e2]at cJ2 j2;simp only[<-hAF,<-hJO,<-zP,<-zQ,<-zn]at cF cJ1 cJ2 cP cB cE j1 j2 hpf cat qI e2;obtain⟨i2,w2,q2,e2',n2,t2,u2⟩:=k;obtain⟨i,w,q,e',n,tabs,wrap⟩:=c;unfold Cf.av at cC cF cE cP cB ⊢;obtain⟨AT,vz⟩:=exq (Qj at');rw[<-vz]at cR qo;have yk:∀{j:Int},0<=j->j<at'.length->std.cel (std.at_ AT j)=(at'[j.toNat]?.getD tattr0).cs:=fun h0 h1=>by rw[vz];exact Q7z h0 h1
 clear hAF hJO zP zQ zn vz he jc;refine fnO false (QmQ [.val (.int .i64 i2),.val (.int .i64 w2),.val (.int .i64 q2),.val (.int .i64 e2'),.val (.int .i64 n2),.val (.bool t2),.val (.bool u2)] AT rk rf ru true re false AF EN JO PA BR k2) tgO func5 rfl fun _ _=>?_
 with_reducible refine cv2 k2 (Q0 l) ?_
 refine⟨cC,cR,fun hb=>absurd hb (by decide),fun _=>⟨cS,kl,?_⟩⟩
 refine Qgj (QmQ [.val (.int .i64 i2),.val (.int .i64 w2),.val (.int .i64 q2),.val (.int .i64 e2'),.val (.int .i64 n2),.val (.bool t2),.val (.bool u2)] AT rk rf ru true re false AF EN JO PA BR k2) (fun id=>match id with|14=> tgO 14|15=> tgO 15|_=>.nil) (Int) (fun j=>⟨[(1,.slc 1 (Q0 l)),(2,.val (.int .i64 d)),(3,.val (.bool p)),(4,.box 0 0),(9,.box 1 0),(10,.slc 1 (Q0 name)),(11,.row 2 0),(40,.slc 9 AT),(41,.val (.int .i64 m)),(42,.val (.int .i64 j))],[.box [.val (.int .i64 i2),.val (.int .i64 w2),.val (.int .i64 q2),.val (.int .i64 e2'),.val (.int .i64 n2),.val (.bool t2),.val (.bool u2)],.box [.val (.int .i64 rk),.val (.int .i64 rf),.val (.int .i64 ru),.slc 9 AT,.val (.bool true),.val (.bool re)],.row 24 1 false 0 (Qd (ats.take j.toNat))]⟩) (fun j=>0<=j/\j<=m) (fun j=>(m-j).toNat) 0 ?_ ?_ ?_
 ·exact⟨le_refl 0,by have:=hm.eq;omega⟩
 ·refine⟨[some 0,some 1,none],_,rfl,?_⟩
  have e1:Qd (ats.take (0:Int).toNat)=[]:=rfl;rw[e1];exact eq2 (gA jH) (gI qo)
 ·rintro j ⟨yA,vO⟩
  have yA:0<=j:=yA;have vO:j<=m:=vO;with_reducible refine cv4 k2 (Q0 l) (Q0 name) (Qd (ats.take j.toNat)) ?_
  refine⟨fun h=>?_,fun h=>?_⟩
  ·have h:j<m:=of_decide_eq_true h
   have vM:j<at'.length:=by have:=hm.eq;omega
   have hX:=yk yA vM
   have zG:at'[j.toNat]?.getD tattr0∈at':=by
    rw[getElem?_eq_getElem (by omega)]
    exact List.getElem_mem _
   have jY:ats[j.toNat]?.getD []=Q1q ⟨i2,w2,q2,e2',n2,t2,u2⟩ l (at'[j.toNat]?.getD tattr0):=by
    rw[jN,getElem?_map,getElem?_eq_getElem (by omega)];rfl
   have zW:j<ats.length:=by rw[jN,length_map];exact vM
   have zo:=Q2o yA zW;rw[jY]at zo;have cFx:=cF _ zG;have hAx:=cat (at'[j.toNat]?.getD tattr0).cs;rw[Qgy]at hAx;generalize at'[j.toNat]?.getD tattr0=x at *;have hcs:([.val (.int .i64 (std.int (std.nth (std.cel (std.at_ AT j)) 0))),.val (.int .i64 (std.int (std.nth (std.cel (std.at_ AT j)) 1))),.val (.int .i64 (std.int (std.nth (std.cel (std.at_ AT j)) 2))),.val (.int .i64 (std.int (std.nth (std.cel (std.at_ AT j)) 3))),.val (.int .i64 (std.int (std.nth (std.cel (std.at_ AT j)) 4))),.val (.int .i64 (std.int (std.nth (std.cel (std.at_ AT j)) 5))),.val (.int .i64 (std.int (std.nth (std.cel (std.at_ AT j)) 6))),.val (.int .i64 (std.int (std.nth (std.cel (std.at_ AT j)) 7))),.val (.int .i64 (std.int (std.nth (std.cel (std.at_ AT j)) 8)))]:List AV)=x.cs:=by rw[hX];rfl
   rw[show x.av=.agg x.cs from rfl,<-hcs]at cFx;rw[<-hcs]at hAx;refine⟨?_,?_,cFx,?_,?_,j+1,⟨by omega,by omega⟩,by omega,[some 0,some 1,some 2],_,rfl,?_⟩
   ·show 0<=j/\j<std.len AT
    rw[qo];omega
   ·show(std.all [std.hasI .i64 (std.nth (std.cel (std.at_ AT j)) 0),std.hasI .i64 (std.nth (std.cel (std.at_ AT j)) 1),std.hasI .i64 (std.nth (std.cel (std.at_ AT j)) 2),std.hasI .i64 (std.nth (std.cel (std.at_ AT j)) 3),std.hasI .i64 (std.nth (std.cel (std.at_ AT j)) 4),std.hasI .i64 (std.nth (std.cel (std.at_ AT j)) 5),std.hasI .i64 (std.nth (std.cel (std.at_ AT j)) 6),std.hasI .i64 (std.nth (std.cel (std.at_ AT j)) 7),std.hasI .i64 (std.nth (std.cel (std.at_ AT j)) 8)]).q
    rw[hX];exact⟨rfl,rfl,rfl,rfl,rfl,rfl,rfl,rfl,rfl,trivial⟩
   ·show(Qd (ats.take j.toNat)).length+1<=1000000000
    rw[Q2l,length_take];omega
   ·show(-9223372036854775808:Int)<=j+1/\j+1<=(9223372036854775807:Int)
    have:=hm.eq;omega
   ·have e1:std.app (Qd (ats.take j.toNat)) [.slc 1 (AF [.val (.int .i64 (std.int (std.nth (std.cel (std.at_ AT j)) 0))),.val (.int .i64 (std.int (std.nth (std.cel (std.at_ AT j)) 1))),.val (.int .i64 (std.int (std.nth (std.cel (std.at_ AT j)) 2))),.val (.int .i64 (std.int (std.nth (std.cel (std.at_ AT j)) 3))),.val (.int .i64 (std.int (std.nth (std.cel (std.at_ AT j)) 4))),.val (.int .i64 (std.int (std.nth (std.cel (std.at_ AT j)) 5))),.val (.int .i64 (std.int (std.nth (std.cel (std.at_ AT j)) 6))),.val (.int .i64 (std.int (std.nth (std.cel (std.at_ AT j)) 7))),.val (.int .i64 (std.int (std.nth (std.cel (std.at_ AT j)) 8)))])]=Qd (ats.take (j+1).toNat):=by
     rw[zo,Q44,hAx];rfl
    exact eq1 e1
  ·have h:¬j<m:=of_decide_eq_false h
   rw[if_pos trivial];rw[show ats.take j.toNat=ats from take_of_length_le (by rw[jN,length_map];have:=hm.eq;omega)]
   with_reducible refine cv4 k2 (Q0 l) (Q0 name) (Qd ats) ?_
   have zp:std.len (JO (Qd ats) [.val (.int .i32 32)])=((QF name ats [32] e).length:Int):=by
    show((JO (Qd ats) (Q0 [32])).length:Int)=_
    rw[j1,Q6]
   have zq:std.len (PA d)=((QL ⟨i2,w2,q2,e2',n2,t2,u2⟩ d).length:Int):=by
    show((PA d).length:Int)=_
    rw[qI]
   have hpm:PA (std.add (std.minI d 1073741824) 1)=PA (QP d):=hpf;have hpd:=jw d;have fin1:AV.slc 1 (JO (Qd ats) [.val (.int .i32 32)])=.slc 1 (Q0 (QF name ats [32] e)):=congrArg _ j1
   have yq:∀b,std.ltI w2 (std.add (std.len (JO (Qd ats) [.val (.int .i32 32)])) (std.len (PA d)))=b->decide (w2<((QF name ats [32] e).length:Int)+(QL ⟨i2,w2,q2,e2',n2,t2,u2⟩ d).length)=b:=fun b hb=>by
    have hb:decide (w2<std.len (JO (Qd ats) [.val (.int .i32 32)])+std.len (PA d))=b:=hb;rw[zp,zq]at hb;exact hb
   have zr:∀b,std.ltI 0 (std.len (Qd ats))=b->decide (0<ats.length)=b:=fun b hb=>by
    have hb:decide (0<((Qd ats).length:Int))=b:=hb;rw[Q2l]at hb;rw[<-hb];exact decide_eq_decide.2 (by omega)
   refine⟨cE,cJ1,fun hu=>⟨fun hp=>⟨cP d,?_,fun hw=>⟨?_,cB,?_,?_,?_,.pure rfl (.inl ?_)⟩,fun hw=>.pure rfl (.inl ?_)⟩,fun hp=>.pure rfl (.inl ?_)⟩,fun hu=>.pure rfl (.inl ?_)⟩
   ·show(-9223372036854775808:Int)<=std.len (JO (Qd ats) [.val (.int .i32 32)])+std.len (PA d)/\std.len (JO (Qd ats) [.val (.int .i32 32)])+std.len (PA d)<=9223372036854775807
    rw[zp,zq];omega
   ·show(-9223372036854775808:Int)<=(if 1073741824<d then 1073741824 else d)+1/\(if 1073741824<d then 1073741824 else d)+1<=9223372036854775807
    split<;>omega
   ·exact cP _
   ·rw[hpm];exact c2n
   ·rw[hpm];exact cJ2
   ·rw[hpm,j2,if_pos ⟨hu,of_decide_eq_true (zr _ hp),of_decide_eq_true (yq _ hw)⟩]
   ·rw[fin1,if_neg fun hx=>of_decide_eq_false (yq _ hw) hx.2.2]
   ·rw[fin1,if_neg fun hx=>of_decide_eq_false (zr _ hp) hx.2.1]
   ·rw[fin1,if_neg fun hx=>Bool.false_ne_true (hu.symm.trans hx.1)]
theorem QnN(c:Cf)(l:List Int)(hl:l.length<=200)(d:Int)(hd:-9223372036854775808<=d)(p:Bool) :
  BCall prog 5 [c.av,.slc 1 (Q0 l),.val (.int .i64 d),.val (.bool p)] [] (.slc 1 (Q0 (Q3j c l d p))) []:=by
 cases h1:(Qa l 0 l.length).right with
 |false =>
  have e:Q3j c l d p=l:=by
   unfold Q3j;simp only[h1,true_or,if_true]
  rw[e];exact QfO c l hl d p (.inl h1)
 |true =>
  cases h2:Q7 l 0 [60,47]with
  |false=>exact Qn7 c l hl d hd p h1 h2
  |true =>
   have e:Q3j c l d p=l:=by
    unfold Q3j;simp only[h2,or_true,if_true]
   rw[e];exact QfO c l hl d p (.inr ⟨h1,h2⟩)
theorem QdX(c:Cf)(l:List Int)(hl:l.length<=1000000)(h2:2<=l.length)(jZ:gAt l 0=gAt l (l.length-1))(ha:gAt l 0=34)(hQ:wI c.q 0 2=2) :
  BCall prog 24 [c.av,.slc 1 (Q0 l)] [] (.slc 1 (Q0 (39::QN 39 (cutL l 1 (l.length-1))++[39]))) []:=by
 have cC:=Q3f c;obtain⟨n,hn⟩:=QC l;have gD:c.clamp.q=wI c.q 0 2:=rfl;rw[<-gD]at hQ;clear gD;generalize c.clamp=k at cC hQ;obtain⟨i2,w2,q2,e2,m2,t2,u2⟩:=k;obtain⟨i,w,q,e,m,tabs,wrap⟩:=c;unfold Cf.av at cC ⊢;have hQ:q2=2:=hQ;have yB:=hn.eq;have jC:std.len (Q0 l)=n:=by show((Q0 l).length:Int)=n;rw[Q6,hn.eq]
 have e0:=Q6z (l:=l) (i:=0) (by omega) (by omega)
 have en:=Q6z (l:=l) (i:=n-1) (by omega) (by omega)
 rw[show(l.length:Int)-1=n-1 by omega]at jZ ⊢
 have jg:std.sub (std.len (Q0 l)) 1=n-1:=by show std.len (Q0 l)-1=n-1;rw[jC]
 rw[<-jg]at en;have h2:2<=n:=by omega
 have jH:std.cut (Q0 l) 1 (std.sub (std.len (Q0 l)) 1)=Q0 (cutL l 1 (n-1)):=by rw[jg,Q1I]
 have qY:=QT l 1 (n-1);obtain⟨T,vH⟩:=exq (39:Int);rw[<-vH];obtain⟨mid,vI⟩:=exq (cutL l 1 (n-1));rw[<-vI]at jH qY ⊢;clear vI;obtain⟨mm,vJ⟩:=QC mid;have qA:std.len (Q0 mid)=mm:=by show((Q0 mid).length:Int)=mm;rw[Q6,vJ.eq]
 have gj:sgA sg39=Q0 (Q2M 39):=by kernel_rfl
 have cR:=Qks sg39 (by decide)
 have yP:Q0 (Q1x sg39.data.toList)=sgA sg39:=by kernel_rfl
 rw[yP]at cR;obtain⟨SG,zF⟩:=exq sg39;rw[<-zF]at gj cR;rw[<-vH]at gj;clear yB yP
 have I0:(std.inb 0 (std.len (Q0 l))).q:=by
  show 0<=(0:Int)/\0<std.len (Q0 l);rw[jC];omega
 have In:(std.inb (std.sub (std.len (Q0 l)) 1) (std.len (Q0 l))).q:=by
  show 0<=std.sub (std.len (Q0 l)) 1/\std.sub (std.len (Q0 l)) 1<std.len (Q0 l);rw[jg,jC];omega
 have H0:(std.all [std.hasI .i32 (std.nth (std.cel (std.at_ (Q0 l) 0)) 0)]).q:=⟨e0.2,trivial⟩;have Hn:(std.all [std.hasI .i32 (std.nth (std.cel (std.at_ (Q0 l) (std.sub (std.len (Q0 l)) 1))) 0)]).q:=⟨en.2,trivial⟩
 have IR:(std.inR .i64 (std.sub (std.len (Q0 l)) 1)).q:=by
  show(-9223372036854775808:Int)<=std.sub (std.len (Q0 l)) 1/\std.sub (std.len (Q0 l)) 1<=9223372036854775807
  rw[jg];have:=hn.eq;omega
 have vL:∀{x:Int},std.notB (std.eqI (std.int (std.nth (std.cel (std.at_ (Q0 l) 0)) 0)) x)=true->gAt l 0≠x:=fun {x} hb=>by
  have hb:(!decide (std.int (std.nth (std.cel (std.at_ (Q0 l) 0)) 0)=x))=true:=hb;rw[e0.1,Bool.not_eq_true',decide_eq_false_iff_not]at hb;exact hb
 have yG:∀{x:Int},std.notB (std.eqI (std.int (std.nth (std.cel (std.at_ (Q0 l) 0)) 0)) x)=false->gAt l 0=x:=fun {x} hb=>by
  have hb:(!decide (std.int (std.nth (std.cel (std.at_ (Q0 l) 0)) 0)=x))=false:=hb;rw[e0.1,Bool.not_eq_false',decide_eq_true_eq]at hb;exact hb
 have gF:∀{x:Int},std.eqI (std.int (std.nth (std.cel (std.at_ (Q0 l) 0)) 0)) x=true->gAt l 0=x:=fun {x} hb=>by
  have hb:decide (std.int (std.nth (std.cel (std.at_ (Q0 l) 0)) 0)=x)=true:=hb;rw[e0.1,decide_eq_true_eq]at hb;exact hb
 have ya:∀{x:Int},std.eqI (std.int (std.nth (std.cel (std.at_ (Q0 l) 0)) 0)) x=false->gAt l 0≠x:=fun {x} hb=>by
  have hb:decide (std.int (std.nth (std.cel (std.at_ (Q0 l) 0)) 0)=x)=false:=hb;rw[e0.1,decide_eq_false_iff_not]at hb;exact hb
 have j7:std.notB (std.eqI (std.int (std.nth (std.cel (std.at_ (Q0 l) 0)) 0)) (std.int (std.nth (std.cel (std.at_ (Q0 l) (std.sub (std.len (Q0 l)) 1))) 0)))=true->gAt l 0≠gAt l (n-1):=fun hb=>by
  have hb:=vL hb;rw[en.1,jg]at hb;exact hb
 have j8:std.notB (std.eqI (std.int (std.nth (std.cel (std.at_ (Q0 l) 0)) 0)) (std.int (std.nth (std.cel (std.at_ (Q0 l) (std.sub (std.len (Q0 l)) 1))) 0)))=false->gAt l 0=gAt l (n-1):=fun hb=>by
  have hb:=yG hb;rw[en.1,jg]at hb;exact hb
 have jR:∀{x:Int},std.eqI q2 x=true->q2=x:=fun hb=>of_decide_eq_true hb
 have qC:∀{x:Int},std.eqI q2 x=false->q2≠x:=fun hb=>of_decide_eq_false hb
 have vu:std.ltI (std.len (Q0 l)) 2=true->False:=fun hb=>by
  have hb:decide (std.len (Q0 l)<2)=true:=hb;rw[jC,decide_eq_true_eq]at hb;omega
 have IC:(std.cutok 1 (std.sub (std.len (Q0 l)) 1) (std.len (Q0 l))).q:=by
  show 0<=(1:Int)/\1<=std.sub (std.len (Q0 l)) 1/\std.sub (std.len (Q0 l)) 1<=std.len (Q0 l);rw[jg,jC];omega
 refine fnO false (QgA [.val (.int .i64 i2),.val (.int .i64 w2),.val (.int .i64 q2),.val (.int .i64 e2),.val (.int .i64 m2),.val (.bool t2),.val (.bool u2)] sgA) (fun id=>match id with|2=>.of (List.range 27)|_=>.nil) func24 rfl fun _ _=>?_
 with_reducible refine cv2 (Q0 l) sgA ?_
 repeat' first
  |(with_reducible exact I0)
  |(with_reducible exact H0)
  |(with_reducible exact IR)
  |(with_reducible exact In)
  |(with_reducible exact Hn)
  |(with_reducible exact IC)
  |(with_reducible exact cC)
  |(with_reducible refine And.intro ?_ ?_)
  |(with_reducible intro hb
    first
     |have hb:=j7 hb
     |have hb:=j8 hb
     |have hb:=vL hb
     |have hb:=yG hb
     |have hb:=gF hb
     |have hb:=ya hb
     |have hb:=jR hb
     |have hb:=qC hb
     |skip)
 all_goals first
  |(exfalso;clear cC cR e0 en I0 In H0 Hn IR IC vL yG gF ya j7 j8 jR qC jH qA gj;first|omega|(rename_i hb;exact vu hb))
  |skip
 refine Q1p (QgA [] sgA) (Int) (fun k=>⟨[(6,.val (.int .i32 T)),(7,.val (.string SG)),(8,.row 0 0),(73,.slc 1 (Q0 mid)),(74,.val (.int .i64 mm)),(75,.val (.int .i64 k))],[.row 21 1 false 0 (Q0 (T::QN T (mid.take k.toNat)))]⟩) (fun k=>0<=k/\k<=mm) (fun k=>(mm-k).toNat) 0 ?_ ?_ ?_
 ·exact⟨le_refl 0,by have:=vJ.eq;omega⟩
 ·refine⟨[some 1],_,rfl,?_⟩
  have e1:([.val (.int .i32 39)]:List AV)=Q0 (T::QN T (mid.take (0:Int).toNat)):=by rw[vH];rfl
  have e2:std.len (std.cut (Q0 l) 1 (std.sub (std.len (Q0 l)) 1))=mm:=by rw[jH];exact qA
  have e3:(⟨⟨[38,97,112,111,115,59]⟩⟩:ByteArray)=SG:=by rw[zF];rfl
  have e4:(39:Int)=T:=vH.symm;exact eq5 e1 (gA jH) (gI e2) (gT e3) (gR e4)
 ·rintro k ⟨jl,jR⟩
  have jl:0<=k:=jl;have jR:k<=mm:=jR;have j5:=Q4N T (mid.take k.toNat)
  have hX:(Q0 (T::QN T (mid.take k.toNat))).length<=7000000:=by
   rw[Q6,length_cons];have:(mid.take k.toNat).length<=mid.length:=by rw[length_take];omega
   omega
  with_reducible refine cv3 sgA (Q0 mid) (Q0 (T::QN T (mid.take k.toNat))) ?_
  refine⟨fun h=>?_,fun h=>?_⟩
  ·have h:k<mm:=of_decide_eq_true h
   have qE:k<mid.length:=by have:=vJ.eq;omega
   have qO:=Q7K (l:=mid) T jl qE;have jW:=Q6z (l:=mid) jl qE
   have kj:(std.inb k (std.len (Q0 mid))).q:=by
    show 0<=k/\k<std.len (Q0 mid);rw[qA];omega
   have vK:(std.inR .i64 (std.add k 1)).q:=by
    show(-9223372036854775808:Int)<=k+1/\k+1<=(9223372036854775807:Int)
    have:=vJ.eq;omega
   refine⟨kj,⟨jW.2,trivial⟩,fun hb=>?_,fun hb=>?_⟩
   ·have hb:decide (std.int (std.nth (std.cel (std.at_ (Q0 mid) k)) 0)=T)=true:=hb
    rw[jW.1,decide_eq_true_eq]at hb;rw[Q81,if_pos hb]at qO;refine⟨cR,?_,vK,k+1,⟨by omega,by omega⟩,by omega,[some 0],_,rfl,?_⟩
    ·show(Q0 (T::QN T (mid.take k.toNat))).length+(sgA SG).length<=1000000000
     have:(sgA SG).length=6:=by rw[zF];rfl
     omega
    ·have e1:std.app (Q0 (T::QN T (mid.take k.toNat))) (sgA SG)=Q0 (T::QN T (mid.take (k+1).toNat)):=by
      rw[qO,<-cons_append,Qy,gj];rfl
     exact eq1 e1
   ·have hb:decide (std.int (std.nth (std.cel (std.at_ (Q0 mid) k)) 0)=T)=false:=hb
    rw[jW.1,decide_eq_false_iff_not]at hb;rw[Q81,if_neg hb,<-jW.1]at qO;refine⟨?_,vK,k+1,⟨by omega,by omega⟩,by omega,[some 0],_,rfl,?_⟩
    ·show(Q0 (T::QN T (mid.take k.toNat))).length+1<=1000000000
     omega
    ·have e1:std.app (Q0 (T::QN T (mid.take k.toNat))) [.val (.int .i32 (std.int (std.nth (std.cel (std.at_ (Q0 mid) k)) 0)))]=Q0 (T::QN T (mid.take (k+1).toNat)):=by
      rw[qO,<-cons_append,Qy];rfl
     exact eq1 e1
  ·have h:¬k<mm:=of_decide_eq_false h
   rw[if_pos trivial];rw[show mid.take k.toNat=mid from take_of_length_le (by have:=vJ.eq;omega)]at hX ⊢
   with_reducible refine cv3 sgA (Q0 mid) (Q0 (T::QN T mid)) ?_
   refine⟨?_,.pure rfl (.inl ?_)⟩
   ·show(Q0 (T::QN T mid)).length+1<=1000000000
    omega
   ·rw[Qy];rfl
theorem Qd2(c:Cf)(l:List Int)(hl:l.length<=1000000)(h2:2<=l.length)(jZ:gAt l 0=gAt l (l.length-1))(ha:gAt l 0=39)(hQ:wI c.q 0 2=1) :
  BCall prog 24 [c.av,.slc 1 (Q0 l)] [] (.slc 1 (Q0 (34::QN 34 (cutL l 1 (l.length-1))++[34]))) []:=by
 have cC:=Q3f c;obtain⟨n,hn⟩:=QC l;have gD:c.clamp.q=wI c.q 0 2:=rfl;rw[<-gD]at hQ;clear gD;generalize c.clamp=k at cC hQ;obtain⟨i2,w2,q2,e2,m2,t2,u2⟩:=k;obtain⟨i,w,q,e,m,tabs,wrap⟩:=c;unfold Cf.av at cC ⊢;have hQ:q2=1:=hQ;have yB:=hn.eq;have jC:std.len (Q0 l)=n:=by show((Q0 l).length:Int)=n;rw[Q6,hn.eq]
 have e0:=Q6z (l:=l) (i:=0) (by omega) (by omega)
 have en:=Q6z (l:=l) (i:=n-1) (by omega) (by omega)
 rw[show(l.length:Int)-1=n-1 by omega]at jZ ⊢
 have jg:std.sub (std.len (Q0 l)) 1=n-1:=by show std.len (Q0 l)-1=n-1;rw[jC]
 rw[<-jg]at en;have h2:2<=n:=by omega
 have jH:std.cut (Q0 l) 1 (std.sub (std.len (Q0 l)) 1)=Q0 (cutL l 1 (n-1)):=by rw[jg,Q1I]
 have qY:=QT l 1 (n-1);obtain⟨T,vH⟩:=exq (34:Int);rw[<-vH];obtain⟨mid,vI⟩:=exq (cutL l 1 (n-1));rw[<-vI]at jH qY ⊢;clear vI;obtain⟨mm,vJ⟩:=QC mid;have qA:std.len (Q0 mid)=mm:=by show((Q0 mid).length:Int)=mm;rw[Q6,vJ.eq]
 have gj:sgA sg34=Q0 (Q2M 34):=by kernel_rfl
 have cR:=Qks sg34 (by decide)
 have yP:Q0 (Q1x sg34.data.toList)=sgA sg34:=by kernel_rfl
 rw[yP]at cR;obtain⟨SG,zF⟩:=exq sg34;rw[<-zF]at gj cR;rw[<-vH]at gj;clear yB yP
 have I0:(std.inb 0 (std.len (Q0 l))).q:=by
  show 0<=(0:Int)/\0<std.len (Q0 l);rw[jC];omega
 have In:(std.inb (std.sub (std.len (Q0 l)) 1) (std.len (Q0 l))).q:=by
  show 0<=std.sub (std.len (Q0 l)) 1/\std.sub (std.len (Q0 l)) 1<std.len (Q0 l);rw[jg,jC];omega
 have H0:(std.all [std.hasI .i32 (std.nth (std.cel (std.at_ (Q0 l) 0)) 0)]).q:=⟨e0.2,trivial⟩;have Hn:(std.all [std.hasI .i32 (std.nth (std.cel (std.at_ (Q0 l) (std.sub (std.len (Q0 l)) 1))) 0)]).q:=⟨en.2,trivial⟩
 have IR:(std.inR .i64 (std.sub (std.len (Q0 l)) 1)).q:=by
  show(-9223372036854775808:Int)<=std.sub (std.len (Q0 l)) 1/\std.sub (std.len (Q0 l)) 1<=9223372036854775807
  rw[jg];have:=hn.eq;omega
 have vL:∀{x:Int},std.notB (std.eqI (std.int (std.nth (std.cel (std.at_ (Q0 l) 0)) 0)) x)=true->gAt l 0≠x:=fun {x} hb=>by
  have hb:(!decide (std.int (std.nth (std.cel (std.at_ (Q0 l) 0)) 0)=x))=true:=hb;rw[e0.1,Bool.not_eq_true',decide_eq_false_iff_not]at hb;exact hb
 have yG:∀{x:Int},std.notB (std.eqI (std.int (std.nth (std.cel (std.at_ (Q0 l) 0)) 0)) x)=false->gAt l 0=x:=fun {x} hb=>by
  have hb:(!decide (std.int (std.nth (std.cel (std.at_ (Q0 l) 0)) 0)=x))=false:=hb;rw[e0.1,Bool.not_eq_false',decide_eq_true_eq]at hb;exact hb
 have gF:∀{x:Int},std.eqI (std.int (std.nth (std.cel (std.at_ (Q0 l) 0)) 0)) x=true->gAt l 0=x:=fun {x} hb=>by
  have hb:decide (std.int (std.nth (std.cel (std.at_ (Q0 l) 0)) 0)=x)=true:=hb;rw[e0.1,decide_eq_true_eq]at hb;exact hb
 have ya:∀{x:Int},std.eqI (std.int (std.nth (std.cel (std.at_ (Q0 l) 0)) 0)) x=false->gAt l 0≠x:=fun {x} hb=>by
  have hb:decide (std.int (std.nth (std.cel (std.at_ (Q0 l) 0)) 0)=x)=false:=hb;rw[e0.1,decide_eq_false_iff_not]at hb;exact hb
 have j7:std.notB (std.eqI (std.int (std.nth (std.cel (std.at_ (Q0 l) 0)) 0)) (std.int (std.nth (std.cel (std.at_ (Q0 l) (std.sub (std.len (Q0 l)) 1))) 0)))=true->gAt l 0≠gAt l (n-1):=fun hb=>by
  have hb:=vL hb;rw[en.1,jg]at hb;exact hb
 have j8:std.notB (std.eqI (std.int (std.nth (std.cel (std.at_ (Q0 l) 0)) 0)) (std.int (std.nth (std.cel (std.at_ (Q0 l) (std.sub (std.len (Q0 l)) 1))) 0)))=false->gAt l 0=gAt l (n-1):=fun hb=>by
  have hb:=yG hb;rw[en.1,jg]at hb;exact hb
 have jR:∀{x:Int},std.eqI q2 x=true->q2=x:=fun hb=>of_decide_eq_true hb
 have qC:∀{x:Int},std.eqI q2 x=false->q2≠x:=fun hb=>of_decide_eq_false hb
 have vu:std.ltI (std.len (Q0 l)) 2=true->False:=fun hb=>by
  have hb:decide (std.len (Q0 l)<2)=true:=hb;rw[jC,decide_eq_true_eq]at hb;omega
 have IC:(std.cutok 1 (std.sub (std.len (Q0 l)) 1) (std.len (Q0 l))).q:=by
  show 0<=(1:Int)/\1<=std.sub (std.len (Q0 l)) 1/\std.sub (std.len (Q0 l)) 1<=std.len (Q0 l);rw[jg,jC];omega
 refine fnO false (QgA [.val (.int .i64 i2),.val (.int .i64 w2),.val (.int .i64 q2),.val (.int .i64 e2),.val (.int .i64 m2),.val (.bool t2),.val (.bool u2)] sgA) (fun id=>match id with|2=>.of (List.range 27)|_=>.nil) func24 rfl fun _ _=>?_
 with_reducible refine cv2 (Q0 l) sgA ?_
 repeat' first
  |(with_reducible exact I0)
  |(with_reducible exact H0)
  |(with_reducible exact IR)
  |(with_reducible exact In)
  |(with_reducible exact Hn)
  |(with_reducible exact IC)
  |(with_reducible exact cC)
  |(with_reducible refine And.intro ?_ ?_)
  |(with_reducible intro hb
    first
     |have hb:=j7 hb
     |have hb:=j8 hb
     |have hb:=vL hb
     |have hb:=yG hb
     |have hb:=gF hb
     |have hb:=ya hb
     |have hb:=jR hb
     |have hb:=qC hb
     |skip)
 all_goals first
  |(exfalso;clear cC cR e0 en I0 In H0 Hn IR IC vL yG gF ya j7 j8 jR qC jH qA gj;first|omega|(rename_i hb;exact vu hb))
  |skip
 refine Q1p (QgA [] sgA) (Int) (fun k=>⟨[(6,.val (.int .i32 T)),(7,.val (.string SG)),(8,.row 0 0),(73,.slc 1 (Q0 mid)),(74,.val (.int .i64 mm)),(75,.val (.int .i64 k))],[.row 21 1 false 0 (Q0 (T::QN T (mid.take k.toNat)))]⟩) (fun k=>0<=k/\k<=mm) (fun k=>(mm-k).toNat) 0 ?_ ?_ ?_
 ·exact⟨le_refl 0,by have:=vJ.eq;omega⟩
 ·refine⟨[some 1],_,rfl,?_⟩
  have e1:([.val (.int .i32 34)]:List AV)=Q0 (T::QN T (mid.take (0:Int).toNat)):=by rw[vH];rfl
  have e2:std.len (std.cut (Q0 l) 1 (std.sub (std.len (Q0 l)) 1))=mm:=by rw[jH];exact qA
  have e3:(⟨⟨[38,113,117,111,116,59]⟩⟩:ByteArray)=SG:=by rw[zF];rfl
  have e4:(34:Int)=T:=vH.symm;exact eq5 e1 (gA jH) (gI e2) (gT e3) (gR e4)
 ·rintro k ⟨jl,jR⟩
  have jl:0<=k:=jl;have jR:k<=mm:=jR;have j5:=Q4N T (mid.take k.toNat)
  have hX:(Q0 (T::QN T (mid.take k.toNat))).length<=7000000:=by
   rw[Q6,length_cons];have:(mid.take k.toNat).length<=mid.length:=by rw[length_take];omega
   omega
  with_reducible refine cv3 sgA (Q0 mid) (Q0 (T::QN T (mid.take k.toNat))) ?_
  refine⟨fun h=>?_,fun h=>?_⟩
  ·have h:k<mm:=of_decide_eq_true h
   have qE:k<mid.length:=by have:=vJ.eq;omega
   have qO:=Q7K (l:=mid) T jl qE;have jW:=Q6z (l:=mid) jl qE
   have kj:(std.inb k (std.len (Q0 mid))).q:=by
    show 0<=k/\k<std.len (Q0 mid);rw[qA];omega
   have vK:(std.inR .i64 (std.add k 1)).q:=by
    show(-9223372036854775808:Int)<=k+1/\k+1<=(9223372036854775807:Int)
    have:=vJ.eq;omega
   refine⟨kj,⟨jW.2,trivial⟩,fun hb=>?_,fun hb=>?_⟩
   ·have hb:decide (std.int (std.nth (std.cel (std.at_ (Q0 mid) k)) 0)=T)=true:=hb
    rw[jW.1,decide_eq_true_eq]at hb;rw[Q81,if_pos hb]at qO;refine⟨cR,?_,vK,k+1,⟨by omega,by omega⟩,by omega,[some 0],_,rfl,?_⟩
    ·show(Q0 (T::QN T (mid.take k.toNat))).length+(sgA SG).length<=1000000000
     have:(sgA SG).length=6:=by rw[zF];rfl
     omega
    ·have e1:std.app (Q0 (T::QN T (mid.take k.toNat))) (sgA SG)=Q0 (T::QN T (mid.take (k+1).toNat)):=by
      rw[qO,<-cons_append,Qy,gj];rfl
     exact eq1 e1
   ·have hb:decide (std.int (std.nth (std.cel (std.at_ (Q0 mid) k)) 0)=T)=false:=hb
    rw[jW.1,decide_eq_false_iff_not]at hb;rw[Q81,if_neg hb,<-jW.1]at qO;refine⟨?_,vK,k+1,⟨by omega,by omega⟩,by omega,[some 0],_,rfl,?_⟩
    ·show(Q0 (T::QN T (mid.take k.toNat))).length+1<=1000000000
     omega
    ·have e1:std.app (Q0 (T::QN T (mid.take k.toNat))) [.val (.int .i32 (std.int (std.nth (std.cel (std.at_ (Q0 mid) k)) 0)))]=Q0 (T::QN T (mid.take (k+1).toNat)):=by
      rw[qO,<-cons_append,Qy];rfl
     exact eq1 e1
  ·have h:¬k<mm:=of_decide_eq_false h
   rw[if_pos trivial];rw[show mid.take k.toNat=mid from take_of_length_le (by have:=vJ.eq;omega)]at hX ⊢
   with_reducible refine cv3 sgA (Q0 mid) (Q0 (T::QN T mid)) ?_
   refine⟨?_,.pure rfl (.inl ?_)⟩
   ·show(Q0 (T::QN T mid)).length+1<=1000000000
    omega
   ·rw[Qy];rfl
theorem Qad(c:Cf)(l:List Int)(hl:l.length<=1000000):BCall prog 24 [c.av,.slc 1 (Q0 l)] [] (.slc 1 (Q0 (Q4k c l))) []:=by
 by_cases h:Qhi c l
 ·rw[Qde h]
  exact QeR c l hl h
 ·obtain⟨T,hT,hv,h2,hz,hc⟩:=QfC h
  rw[hv];rcases hc with ⟨rfl,ha,hq⟩|⟨rfl,ha,hq⟩
  ·exact QdX c l hl h2 hz ha hq
  ·exact Qd2 c l hl h2 hz ha hq
