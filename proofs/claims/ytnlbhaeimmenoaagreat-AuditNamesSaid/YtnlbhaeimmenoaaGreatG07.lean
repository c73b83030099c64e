/- Lemmas, conditions told -/
import Derived.Test.YtnlbhaeimmenoaaGreatG06
import Derived.Laws.StructEq
import Derived.Maps.RangeRun
set_option maxRecDepth 99999
set_option maxHeartbeats 0
set_option linter.unusedSimpArgs false
set_option linter.unusedVariables false
namespace Go.Proofs.YtnlbhaeimmenoaaGreat
open List(mem_cons_self length_set getD_eq_getElem?_getD getElem?_eq_getElem length_append getElem?_set_ne getElem?_set_self all_eq_true map_cons mem_of_getElem? getElem?_map)
open Nat(le_refl)
open Option(map_eq_some_iff map_some)
open Go.RowKit Go.Lib
theorem Qbb{x:AV}{off sz:Nat}{new:List AV}(hx:x.cells.length=sz)(hn:new.length≠0)(h1:∀u∈new,u.cells=[u])(hl:off+new.length<=sz):(Qq9 x off new).cells=setCells x.cells off new:=by
 cases x with
 |agg cs=>rfl
 |_ =>
  obtain rfl:1=sz:=hx;obtain rfl:off=0:=by omega
  obtain⟨u,rfl⟩:∃u,new=[u]:=List.length_eq_one_iff.1 (by omega)
  exact h1 u mem_cons_self
theorem Qds{a r new:List AV}{off:Nat}(h:off+new.length<=a.length):setCells (a++r) off new=setCells a off new++r:=by
 unfold setCells;rw[List.take_append_of_le_length (by omega),List.drop_append_of_le_length h]
 simp
theorem Q9U{a r new:List AV}{off:Nat}:setCells (a++r) (a.length+off) new=a++setCells r off new:=by
 unfold setCells;rw[List.take_length_add_append,Nat.add_assoc,List.drop_length_add_append];simp
theorem Q6W(x:AV)(r:List AV):QF (x::r)=x.cells++QF r:=List.flatMap_cons
theorem Qgl(cur vs:List Value)(o n:Nat)(h:o+vs.length<=n)(hn:n<=cur.length):(cur.take o++(vs++cur.drop (o+vs.length))).take n=(cur.take n).take o++vs++(cur.take n).drop (o+vs.length):=by
 have hx:(cur.take o).length=o:=by rw[List.length_take];omega
 rw[List.take_take,Nat.min_eq_left (by omega),List.drop_take,List.take_append,hx,List.take_append,List.take_of_length_le (l:=cur.take o) (by omega),List.take_of_length_le (l:=vs) (by omega),List.append_assoc,Nat.sub_sub]
theorem Qcj{sz off:Nat}{new:List AV}(hn:new.length≠0)(h1:∀u∈new,u.cells=[u])(hl:off+new.length<=sz):∀(xs:List AV)(i:Nat),(∀x∈xs,x.cells.length=sz)->i<xs.length ->
  QF (Q7M xs i off new)=setCells (QF xs) (i * sz+off) new
 | [],_,_,h=>by cases h
 |x::r,0,hw,_=>by
  have hx:=hw x mem_cons_self;show QF (Qq9 x off new::r)=_;rw[Q6W,Q6W,Qbb hx hn h1 hl,Nat.zero_mul,Nat.zero_add,Qds (by omega)]
 |x::r,i+1,hw,hi=>by
  have hx:=hw x mem_cons_self;have ih:=Qcj hn h1 hl r i (fun y hy=>hw y (List.mem_cons_of_mem _ hy)) (by simpa using hi)
  show QF (x::Q7M r i off new)=_;rw[Q6W,Q6W,show(i+1) * sz+off=x.cells.length+(i * sz+off) by rw[hx,Nat.succ_mul];omega,Q9U]
  exact congrArg _ ih
theorem Qcb(xs:List AV)(i off:Nat)(new:List AV):(Q7M xs i off new).length=xs.length:=length_set
theorem Qhv{sz off i:Nat}{new xs:List AV}(hn:new.length≠0)(h1:∀u∈new,u.cells=[u])(hl:off+new.length<=sz)(hw:∀x∈xs,x.cells.length=sz)(hi:i<xs.length):∀x∈Q7M xs i off new,x.cells.length=sz:=by
 intro x hx;rcases List.mem_or_eq_of_mem_set hx with h|rfl
 ·exact hw x h
 ·have h2:(xs.getD i .dead).cells.length=sz:=hw _ (by rw[getD_eq_getElem?_getD,getElem?_eq_getElem hi];exact List.getElem_mem hi)
  rw[Qbb h2 hn h1 hl];unfold setCells;rw[length_append,length_append,List.length_take,List.length_drop];omega
section
variable {w:World}{g:Gh}{ob:List Ob}
theorem Qq0(M:Mem w g ob){id et sz e b:Nat}{xs:List AV}(h:ob[id]?=some (.row et sz false e xs))(hG:g.G b=some id)(hs:g.sub b=false){b' o:Nat}(hA:g.A b' o):b'≠b:=by
 rintro rfl;obtain⟨_,_,_,_,h1,_⟩:=(M.imm _ _ hA).2 id hG hs;rw[h]at h1;cases h1
theorem Qmo(M:Mem w g ob){id et sz e b c i off:Nat}{xs us:List AV}{vs:List Value}(h:ob[id]?=some (.row et sz false e xs))(he:et≠Q4K)(hv:RowV w g id et sz (.slice (some ⟨b,0,none⟩) xs.length c) xs)
  (hi:i<xs.length) (j7:Alike w g.A vs us) (hn:us.length≠0) (h1:∀u∈us,u.cells=[u]) (hl:off+us.length<=sz) :
  g.G b=some id/\(∃cur,w.heap[b]?=some (.cells cur et (0,0))/\i * sz+off+us.length<=cur.size)/\Ext w g ob (w.setCells b (i * sz+off) vs) g (ob.set id (.row et sz false e (Q7M xs i off us)))/\Mem (w.setCells b (i * sz+off) vs) g (ob.set id (.row et sz false e (Q7M xs i off us))):=by
 have hid:=Q8 h;have hw:=(M.roww _ _ _ _ _ _ h).2;obtain⟨ys,⟨hyl,ho⟩,hG,pY,_,vL⟩:=hv;have qJ:=hG b rfl;have qu:=vL.1 b rfl;obtain⟨hv,_⟩|⟨b',cap,cur,hv,_,hh,hcap,_,hcs,zj⟩:=ho
 ·cases hv
 obtain⟨rfl,rfl⟩:b=b'/\c=cap:=by simpa using hv
 have ko:(i+1) * sz<=xs.length * sz:=Nat.mul_le_mul_right _ hi;rw[Nat.succ_mul]at ko;have hmul2:xs.length * sz<=c * sz:=Nat.mul_le_mul_right _ hcap;have jS:i * sz+off+us.length<=cur.size:=by omega
 have hcell:∀b' o,g.A b' o->(w.setCells b (i * sz+off) vs).cell? ⟨b',o,none⟩=w.cell? ⟨b',o,none⟩:=fun b' o hA=>World.cell?_of_block (w:=w) (Q14 (k:=0) (Qq0 M h qJ qu hA))
 have hA:∀b' o,g.A b' o->g.A b' o/\(w.setCells b (i * sz+off) vs).cell? ⟨b',o,none⟩=w.cell? ⟨b',o,none⟩:=fun b' o h=>⟨h,hcell b' o h⟩
 have ne:∀{b' k:Nat},g.G b'=some k->k≠id->b'≠b:=by
  rintro b' k vT jI rfl;rw[qJ]at vT;exact jI (by simpa using vT.symm)
 have st:Qlg w (w.setCells b (i * sz+off) vs) g.A et sz b (Q7M xs i off us):=by
  refine⟨cur,_,hh,Q2z (W:=w) vs (i * sz+off) w cur hh (by rw[j7.1];exact jS),?_,?_⟩
  ·simp[j7.1];omega
  ·rw[Qcb,Qcj hn h1 hl xs i hw hi]
   have e1:((cur.toList.take (i * sz+off)++(vs++cur.toList.drop (i * sz+off+vs.length))).toArray.toList.take (xs.length * sz))=ys.take (i * sz+off)++vs++ys.drop (i * sz+off+us.length):=by
    rw[<-zj,<-j7.1];have qW:cur.toList.length=c * sz:=(Array.length_toList).trans hcs;exact Qgl _ _ _ _ (by rw[j7.1];omega) (by rw[qW];omega)
   rw[e1];unfold setCells;exact(((pY.keep hA).take _).append (j7.keep hA)).append ((pY.keep hA).drop _)
 have E:Ext w g ob (w.setCells b (i * sz+off) vs) g (ob.set id (.row et sz false e (Q7M xs i off us))):=by
  refine⟨hA,fun _ _=>rfl,fun k hk=>?_,fun k hk=>?_,fun k et' sz' fz2 e2 xs2 hk=>?_,fun _ _ _ _=>⟨rfl,fun _ _ h=>h⟩⟩
  ·have:k≠id:=by rintro rfl;rw[h]at hk;exact hk
   rw[getElem?_set_ne (Ne.symm this)];exact hk
  ·have:k≠id:=by rintro rfl;rw[h]at hk;exact hk
   rw[getElem?_set_ne (Ne.symm this)];exact hk
  ·by_cases e':k=id
   ·subst e'
    rw[h]at hk;cases hk;refine⟨false,e,_,getElem?_set_self hid,le_refl _,fun _=>.inr ⟨he,Qcb _ _ _ _,Qhv hn h1 hl hw hi,fun b' vT=>⟨vT,fun jd=>?_⟩⟩⟩
    obtain rfl:b=b':=M.uniq _ _ _ qJ vT qu jd;exact st
   ·exact⟨fz2,e2,xs2,by rw[getElem?_set_ne (Ne.symm e')];exact hk,le_refl _,fun _=>.inl ⟨rfl,fun b' vT=>⟨vT,Q14 (k:=0) (ne vT e')⟩⟩⟩
 refine⟨qJ,⟨cur,hh,jS⟩,E,fun k cs hk=>?_,fun k cs hk j u hj=>?_,fun k y hk=>?_,fun b' k vT=>⟨by rw[Q1W];exact(M.own b' k vT).1,by rw[length_set];exact(M.own b' k vT).2⟩,fun b' o zz=>⟨by rw[Q1W];exact(M.imm b' o zz).1,fun k xw hs=>?_⟩,fun k et' sz' fz2 e2 xs2 hk=>?_,fun b' hs=>?_,M.uniq⟩
 ·have e':k≠id:=by rintro rfl;rw[getElem?_set_self hid]at hk;cases hk
  rw[getElem?_set_ne (Ne.symm e')]at hk;obtain⟨h3,cur',T,h4,h5⟩:=M.box k cs hk;exact⟨h3,cur',T,by rw[Q14 (k:=0) (ne h3 e')];exact h4,h5.ext E⟩
 ·have e':k≠id:=by rintro rfl;rw[getElem?_set_self hid]at hk;cases hk
  rw[getElem?_set_ne (Ne.symm e')]at hk;obtain⟨h3,y,h4,h5⟩:=M.fbox k cs hk j u hj;exact⟨h3,y,by rw[hcell _ _ h3];exact h4,h5.keep hA⟩
 ·have e':k≠id:=by rintro rfl;rw[getElem?_set_self hid]at hk;cases hk
  rw[getElem?_set_ne (Ne.symm e')]at hk;obtain⟨h3,h4⟩:=M.iter k y hk;exact⟨h3,h4.at E.A E.loc (by simp) (Q14 (k:=0) (ne h3 e'))⟩
 ·obtain⟨et',sz',e2,xs2,h3,h4⟩:=(M.imm b' o zz).2 k xw hs
  have e':k≠id:=by rintro rfl;rw[h]at h3;cases h3
  exact⟨et',sz',e2,xs2,by rw[getElem?_set_ne (Ne.symm e')];exact h3,h4⟩
 ·by_cases e':k=id
  ·subst e'
   rw[getElem?_set_self hid]at hk;cases hk;exact⟨(M.roww _ _ _ _ _ _ h).1,Qhv hn h1 hl hw hi⟩
  ·rw[getElem?_set_ne (Ne.symm e')]at hk
   exact M.roww k _ _ _ _ _ hk
 ·obtain⟨k,et',sz',fz2,e2,xs2,h3,h4⟩:=M.nsub b' hs
  by_cases e':k=id
  ·subst e'
   exact⟨k,_,_,_,_,_,h3,getElem?_set_self hid⟩
  ·exact⟨k,et',sz',fz2,e2,xs2,h3,by rw[getElem?_set_ne (Ne.symm e')];exact h4⟩
end
section
variable {P:Program}{ty:Tys}{w0:World}{g0:Gh}{o0:List Ob}{N:Nat}{Q:Ex->St->Prop}
theorem QjI{x:AV}(h:x.pur=true):∀u∈x.cells,u.cells=[u]:=by
 cases x with
 |agg cs =>
  intro u hu;have:=all_eq_true.1 h u hu
  cases u<;>first|rfl|cases this
 |_=>intro u hu;rw[List.mem_singleton.1 hu];rfl
theorem QiL(hT:TyOk P ty){K:St->Tree}{o:Oper}{s:St}{a:Act}{w:World}{R:Exit->Act->World->Prop}(hs:Sim w0 g0 o0 N s a w)(hd:∀t,o.dst=some t->t<N)
  {T:Nat} {x y:Operand} (ho:o.op=.store T x y) {id ep off et sz e:Nat} {i:Int} {xs:List AV} (hx:ev s x=.rptr id ep i off) (hb:s.ob[id]?=some (.row et sz false e xs)) (ql:e=ep) (xu:et≠Q4K) (hp:(ev s y).pur=true) (hk:(Q2 T ty).ok=true)
  (jh:(ev s y).cells.length=(Q2 T ty).size) (hn:(ev s y).cells.length≠0) (jJ:off+(ev s y).cells.length<=sz)
  (jA:(K (St.put ⟨s.tm,s.ob.set id (.row et sz false e (std.setx xs i off (ev s y).cells))⟩ o.dst .dead)).ok P w0 g0 o0 N Q):o.wp P a w (Q3U ty P w0 g0 o0 N Q K o.op w) R:=by
 obtain⟨g,M,hS,h0⟩:=hs.rel;have hl:(ev s y).live=true:=by cases hh:ev s y<;>rw[hh]at hp<;>first|rfl|cases hp
 have j7:=Qc3 (vs:=[]) ((QE hS y).to1 hl) hp;have jk:=QE hS x;rw[hx]at jk;obtain⟨_,et',sz',fz',e',xs',vu,_,h3⟩:=jk;rw[hb]at vu;cases vu;obtain⟨b,c,hv,h4,h5,h6⟩:=h3 ql;have hi:i.toNat<xs.length:=by omega
 obtain⟨hG,⟨cur,hh,jS⟩,E,M'⟩:=Qmo M hb xu h6 hi j7 hn (QjI hp) jJ;have jH:(a.eval y).cells.size=(ev s y).cells.length:=by simpa using j7.1
 have jG:=run_storeCells_cells (P:=P) b (i.toNat * sz+off) (a.eval y).cells.toList 0 w (fun j hj=>by
   have:i.toNat * sz+off+j<cur.size:=by simp at hj;omega
   simp[World.cell?,hh,this]) (fun j hj=>by simp[World.frozen?,hh]) j7.one
 rw[Nat.add_zero]at jG;have xr:=(Q2v hT hk).size w
 have hr:(execOp a.eval o).run P w=.ok .skip (w.setCells b (i.toNat * sz+off) (a.eval y).cells.toList):=by
  have jI:¬((a.eval y).cells.size≠(Q2 T ty).size):=by omega
  simp only[execOp,ho,Instr.storeAt,hv,Instr.sureAddr,storeVar,Sem.run_bind,Sem.run_pure,Result.andThen_ok,xr,jI,if_false,jG]
 unfold Oper.wp;rw[hr];show Q3U ty P w0 g0 o0 N Q K o.op w (a.put o.dst undef) _;refine⟨fun h=>by simp[ho,Q3f]at h,_,Q1z hs hS h0 M' ⟨(Q1V _ _ _ _).1,(Q1V _ _ _ _).2.1,(Q1V _ _ _ _).2.2,by rw[Q1W];exact le_refl _,fun b' _ vT=>?_,fun b' k vT=>.inl ⟨k,vT⟩,fun b' o h=>.inl h,E,by simp⟩ hd (v:=undef) (x:=.dead) trivial,jA⟩
 exact Q14 (k:=0) (fun e=>by rw[e,hG]at vT;cases vT)
end
section
variable {P:Program}{ty:Tys}{w0:World}{g0:Gh}{o0:List Ob}{N:Nat}{Q:Ex->St->Prop}
theorem Qgj{K:St->Tree}{o:Oper}{s:St}{a:Act}{w:World}{R:Exit->Act->World->Prop}(hs:Sim w0 g0 o0 N s a w)(hd:∀t,o.dst=some t->t<N)
  {T:Nat} (ho:o.op=.makeMap T none) (jA:(K (St.put ⟨s.tm,s.ob++[.iter (.map [])]⟩ o.dst (.iter s.ob.length))).ok P w0 g0 o0 N Q):o.wp P a w (Q3U ty P w0 g0 o0 N Q K o.op w) R:=by
 obtain⟨g,M,hS,h0⟩:=hs.rel
 have hr:(execOp a.eval o).run P w=.ok (.value (.map (some w.heap.size))) (w.alloc (.map #[] 0)):=by
  simp only[execOp,ho];refine Q1v ?_;simp only[Option.map_none,Instr.makeMap,Sem.run_bind,Sem.run_pure,Result.andThen_ok,run_newObj];rfl
 have M':=M.new (.map #[] 0) (.iter (.map [])) (fun cs h=>by cases h) (fun cs h=>by cases h) (fun y h=>by cases h;exact⟨#[],rfl,rfl,fun j e q h=>by simp at h⟩) (fun et sz fz e xs h=>by cases h)
 refine Q49 hr ⟨fun _=>(Below.refl _ w).alloc (le_refl _) _,_,Q1z hs hS h0 M' (Step.new M _ _) hd ?_,jA⟩
 refine⟨true,by simp[Gh.new,Qbi],?_⟩
 rw[Q3q];rfl
theorem Q6S{w:World}{g:Gh}{ob:List Ob}:∀{cs:List AV}{vs:List Value},Q79 cs=some vs->ARelC w g ob vs cs
 | [],vs,h=>by
  obtain rfl:[]=vs:=by simpa[Q79]using h
  exact⟨rfl,fun j v u h=>by simp at h⟩
 |x::r,vs,h=>by
  cases x with
  |val v =>
   simp only[Q79]at h;split at h
   ·rename_i hv
    obtain⟨us,hu,rfl⟩:=map_eq_some_iff.1 h;have ih:=Q6S (w:=w) (g:=g) (ob:=ob) hu;refine⟨by simp[ih.1],fun j y u hy ja=>?_⟩
    cases j with
    |zero =>
     obtain rfl:v=y:=by simpa using hy
     obtain rfl:AV.val v=u:=by simpa using ja
     exact⟨PRel.val _ hv,hv⟩
    |succ j=>exact ih.2 j y u (by simpa using hy) (by simpa using ja)
   ·cases h
  |_=>simp[Q79]at h
def QqX:Value->List Value
 |.agg cs=>cs.toList
 |v=>[v]
theorem QjT{w:World}{g:Gh}{ob:List Ob}{x:AV}{v:Value}(h:QeG x=some v):ARelC w g ob (QqX v) x.cells/\(Q9r x=true↔∃vs:Array Value,v=.agg vs):=by
 cases x with
 |agg cs =>
  obtain⟨vs,h1,rfl⟩:=map_eq_some_iff.1 h;exact⟨Q6S h1,by simp[Q9r]⟩
 |val u =>
  simp only[QeG]at h;split at h
  ·rename_i hu
   obtain rfl:u=v:=by simpa using h
   have hn:∀vs:Array Value,u≠.agg vs:=fun vs e=>by rw[e]at hu;cases hu
   have hc:QqX u=[u]:=by
    cases u<;>first|rfl|exact absurd rfl (hn _)
   refine⟨⟨by rw[hc];rfl,fun j y z hy hz=>?_⟩,by simp only[Q9r];exact⟨fun h=>(by cases h),fun⟨vs,e⟩=>absurd e (hn vs)⟩⟩
   rw[hc]at hy;cases j with
   |zero =>
    obtain rfl:u=y:=by simpa using hy
    obtain rfl:AV.val u=z:=by simpa[AV.cells]using hz
    exact⟨PRel.val _ hu,hu⟩
   |succ j=>simp at hy
  ·cases h
 |_=>cases h
theorem QcI{w:World}{g:Gh}{ob:List Ob}:∀{cs:List AV}{us:List Value}{sh:List Srt},shA cs=some sh->ARelC w g ob us cs->us.map Q4b=sh.map some
 | [],us,sh,h,hu=>by
  obtain rfl:[]=sh:=by simpa[shA]using h
  obtain rfl:us=[]:=List.eq_nil_of_length_eq_zero hu.1;rfl
 |x::r,us,sh,h,hu=>by
  simp only[shA]at h;split at h
  ·rename_i s ss h1 h2
   obtain rfl:s::ss=sh:=by simpa using h
   cases us with
   |nil=>exact absurd hu.1 (by simp)
   |cons u us =>
    have ih:=QcI (w:=w) (g:=g) (ob:=ob) h2 (us:=us) ⟨by simpa using hu.1,fun j y z hy hz=>hu.2 (j+1) y z (by simpa using hy) (by simpa using hz)⟩
    have h3:=(hu.2 0 u x rfl rfl).1
    have h4:Q4b u=some s:=by
     cases x with
     |val v =>
      obtain rfl:u=v:=by have h3:PRel w g.A u (.val v):=h3;cases h3;rfl
      cases u<;>simp[Qo8]at h1<;>simp[Q4b,h1]
     |_=>simp[Qo8]at h1
    rw[map_cons,map_cons,h4,ih]
  ·cases h
theorem Qf2{w:World}{g:Gh}{ob:List Ob}:∀{cs:List AV}{us:List Value}{sh:List Srt},shA cs=some sh->ARelC w g ob us cs->Q79 cs=some us
 | [],us,sh,h,hu=>by
  obtain rfl:us=[]:=List.eq_nil_of_length_eq_zero hu.1;rfl
 |x::r,us,sh,h,hu=>by
  simp only[shA]at h;split at h
  ·rename_i s ss h1 h2
   cases us with
   |nil=>exact absurd hu.1 (by simp)
   |cons u us =>
    have ih:=Qf2 (w:=w) (g:=g) (ob:=ob) h2 (us:=us) ⟨by simpa using hu.1,fun j y z hy hz=>hu.2 (j+1) y z (by simpa using hy) (by simpa using hz)⟩
    have h3:=(hu.2 0 u x rfl rfl).1;cases x with
    |val v =>
     obtain rfl:u=v:=by have h3:PRel w g.A u (.val v):=h3;cases h3;rfl
     simp only[Q79];rw[if_pos (hu.2 0 u _ rfl rfl).2,ih];rfl
    |_=>simp[Qo8]at h1
  ·cases h
theorem Qek{a b:List Srt}(h:a.map some=b.map some):a=b:=by
 have:=congrArg (List.filterMap id) h
 simpa using this
theorem Qfu{a b:ByteArray}(h:(a.toList == b.toList)=true):a=b:=by
 have h:=eq_of_beq h;rw[ByteArray.toList_eq,ByteArray.toList_eq]at h;exact ByteArray.ext (Array.toList_inj.1 h)
theorem QgJ(a:ByteArray):(a == a)=true:=by rw[beq_toListBytes];simp
theorem Qpd{a b:Value}{s:Srt}(ha:Q4b a=some s)(hb:Q4b b=some s)(h:eqV a b=true):a=b:=by
 cases a<;>simp[Q4b]at ha<;>subst ha<;>cases b<;>simp[Q4b]at hb
 ·simp only[eqV,beq_iff_eq]at h;rw[h]
 ·obtain rfl:=hb
  simp only[eqV,beq_iff_eq]at h;rw[h]
 ·rw[Qfu h]
theorem QgW:∀{sh:List Srt}{us vs:List Value},us.map Q4b=sh.map some->vs.map Q4b=sh.map some->((us.zip vs).all fun q=>eqV q.1 q.2)=true->us=vs
 | [],us,vs,h1,h2,_=>by
  obtain rfl:us=[]:=by simpa using h1
  obtain rfl:vs=[]:=by simpa using h2
  rfl
 |s::sh,us,vs,h1,h2,h3=>by
  cases us with
  |nil=>cases h1
  |cons u us =>
   cases vs with
   |nil=>cases h2
   |cons v vs =>
    simp only[map_cons,List.cons.injEq]at h1 h2;simp only[List.zip_cons_cons,List.all_cons,Bool.and_eq_true]at h3;rw[Qpd h1.1 h2.1 h3.1,QgW h1.2 h2.2 h3.2]
theorem Q95{n:Nat}{v:Value}{s:Srt}(h:Q4b v=some s):Instr.sameBits n v v=true:=by
 cases v<;>simp[Q4b]at h<;>cases n<;>simp[Instr.sameBits,QgJ]
theorem Qb4{α:Type}:∀{l:List α}{x y:α},(x,y)∈l.zip l->x=y/\x∈l
 |a::r,x,y,h=>by
  rcases List.mem_cons.1 (by simpa using h:(x,y)∈(a,a)::r.zip r)with h|h
  ·cases h;exact⟨rfl,mem_cons_self⟩
  ·exact⟨(Qb4 h).1,List.mem_cons_of_mem _ (Qb4 h).2⟩
theorem QlY{n:Nat}{vs:Array Value}{sh:List Srt}(h:vs.toList.map Q4b=sh.map some):Instr.sameBits (n+1) (.agg vs) (.agg vs)=true:=by
 simp only[Instr.sameBits,beq_self_eq_true,Bool.true_and,all_eq_true];rintro⟨x,y⟩ hm;obtain⟨rfl,hx⟩:=Qb4 hm;have:Q4b x∈sh.map some:=h ▸ List.mem_map_of_mem hx
 obtain⟨s,_,hs⟩:=List.mem_map.1 this;exact Q95 hs.symm
def Fnd(P:Program)(w0:World)(g0:Gh)(o0:List Ob)(N:Nat)(Q:Ex->St->Prop)(w:World)(A:Nat->Nat->Prop)(j:Nat)(l:List MapEntry)(kv:Value)(f:Nat->AV->Tree)(n:Tree)(r:Option (Nat×Value)):Prop :=
 (∃m e u,r=some (m,e.val)/\j<=m/\l[m-j]?=some e/\e.key=kv/\PRel1 w A e.val u/\(f m u).ok P w0 g0 o0 N Q)\/(r=none/\n.ok P w0 g0 o0 N Q)
theorem Fnd.up{w:World}{A:Nat->Nat->Prop}{j:Nat}{x:MapEntry}{l:List MapEntry}{kv:Value}{f:Nat->AV->Tree}{n:Tree}{r:Option (Nat×Value)}(h:Fnd P w0 g0 o0 N Q w A (j+1) l kv f n r):Fnd P w0 g0 o0 N Q w A j (x::l) kv f n r:=by
 rcases h with ⟨m,e,u,h1,h2,h3,h4⟩|h
 ·exact .inl ⟨m,e,u,h1,by omega,by rw[show m-j=(m-(j+1))+1 by omega];simpa using h3,h4⟩
 ·exact .inr h
theorem Qp0{w:World}{g:Gh}{K:Nat}{cs:List AV}{us:List Value}(hu:Q79 cs=some us){sh:List Srt}(yE:shA cs=some sh)(hK:Q9o P K sh){f:Nat->AV->Tree}{n:Tree} :
  ∀(es:List (AV×AV)) (l:List MapEntry) (j:Nat),l.length=es.length->(∀(i:Nat) e q,l[i]?=some e->es[i]?=some q->QjH w g.A e q)->(Q8u std (.agg cs) f n j es).ok P w0 g0 o0 N Q ->
   ∃r,(∀W,(Instr.findAsking K (.agg us.toArray) l j).run P W=.ok r W)/\Fnd P w0 g0 o0 N Q w g.A j l (.agg us.toArray) f n r
 | [],l,j,hl,_,jA=>by
  obtain rfl:l=[]:=List.eq_nil_of_length_eq_zero hl;exact⟨none,fun W=>rfl,.inr ⟨rfl,jA⟩⟩
 |(k,v)::r,l,j,hl,hE,jA=>by
  cases l with
  |nil=>cases hl
  |cons e l =>
   simp only[Q8u]at jA;split at jA
   ·rename_i hg
    obtain⟨hk,hv⟩:=hE 0 e (k,v) rfl rfl;obtain⟨pZ,xE⟩:=QjT (w:=w) (g:=g) (ob:=[]) hk;obtain⟨vs,cX⟩:=xE.1 hg;split at jA
    ·rename_i sh' b hb
     rw[cX]at pZ;have h0:=Q6S (w:=w) (g:=g) (ob:=[]) hu;obtain⟨e1,e2,e3⟩:=Q8Q _ _ us vs.toList sh' b hb h0 pZ;have e4:=QcI yE h0;obtain rfl:sh'=sh:=Qek (e1.symm.trans e4)
     have hq:∀W,(Op.equal K (.agg us.toArray) e.key).run P W=.ok b W:=fun W=>by
      rw[cX,e3,<-hK.2 us vs.toList W e1 e2]
     cases b with
     |true =>
      have hkv:e.key=.agg us.toArray:=by
       have e6:=QgW e1 e2 e3.symm;rw[cX,e6]
      refine⟨some (j,e.val),fun W=>?_,.inl ⟨j,e,v,rfl,le_refl _,by simp,hkv,hv,jA.1 rfl⟩⟩
      rw[Instr.findAsking,Sem.run_bind,hq W];rfl
     |false =>
      obtain⟨q,h1,h2⟩:=Qp0 hu yE hK r l (j+1) (by simpa using hl) (fun i e q h3 h4=>hE (i+1) e q (by simpa using h3) (by simpa using h4)) (jA.2 rfl)
      refine⟨q,fun W=>?_,h2.up⟩
      rw[Instr.findAsking,Sem.run_bind,hq W];exact h1 W
    ·exact jA.elim
   ·exact jA.elim
theorem QmW{d:TypeDesc}{v0 u:Value}{s:Srt}{b:Bool}(hd:(d=.string/\∃s,v0=.string s)\/(∃k k' m,d=.int k/\v0=.int k' m))(h:eqC std (.val v0) (.val u)=some (s,b)):Instr.sameNow d v0 u=some b:=by
 rcases hd with ⟨rfl,a,rfl⟩|⟨k,k',m,rfl,rfl⟩
 ·cases u<;>simp[eqC]at h
  rename_i c;rw[<-h.2];show some (a == c)=some (a.toList == c.toList);rw[beq_toListBytes]
 ·cases u<;>simp[eqC]at h
  rename_i k2 m2;obtain⟨rfl,_,h2⟩:=h;rw[<-h2];show(if k'=k' then some (m == m2)else none)=some (m == m2)
  rw[if_pos rfl]
theorem Qq1{d:TypeDesc}{v0 u:Value}(hd:(d=.string/\∃s,v0=.string s)\/(∃k k' m,d=.int k/\v0=.int k' m))(h:Instr.sameNow d v0 u=some true):u=v0:=by
 rcases hd with ⟨rfl,a,rfl⟩|⟨k,k',m,rfl,rfl⟩
 ·cases u<;>simp[Instr.sameNow]at h
  exact congrArg Value.string (Qfu (by rw[<-beq_toListBytes];exact h)).symm
 ·cases u<;>simp[Instr.sameNow]at h
  rw[h.1,h.2]
theorem Qk7{w:World}{g:Gh}{d:TypeDesc}{v0:Value}(zS:v0.oneCell'=true)(hd:(d=.string/\∃s,v0=.string s)\/(∃k k' m,d=.int k/\v0=.int k' m)){f:Nat->AV->Tree}{n:Tree} :
  ∀(es:List (AV×AV)) (l:List MapEntry) (j:Nat),l.length=es.length->(∀(i:Nat) e q,l[i]?=some e->es[i]?=some q->QjH w g.A e q)->(Q8u std (.val v0) f n j es).ok P w0 g0 o0 N Q ->
   ∃r,Instr.findNow d v0 l j=some r/\Fnd P w0 g0 o0 N Q w g.A j l v0 f n r
 | [],l,j,hl,_,jA=>by
  obtain rfl:l=[]:=List.eq_nil_of_length_eq_zero hl;exact⟨none,rfl,.inr ⟨rfl,jA⟩⟩
 |(k,v)::r,l,j,hl,hE,jA=>by
  cases l with
  |nil=>cases hl
  |cons e l =>
   simp only[Q8u]at jA;split at jA
   ·rename_i hg
    obtain⟨hk,hv⟩:=hE 0 e (k,v) rfl rfl;cases k with
    |val u =>
     simp only[QeG]at hk;split at hk
     ·obtain rfl:u=e.key:=by simpa using hk
      split at jA
      ·rename_i sh' b hb
       have hq:Instr.sameNow d v0 e.key=some b:=by
        simp only[AV.cells,Qb1]at hb;split at hb
        ·rename_i s a ss a2 h1 h2
         obtain⟨rfl,rfl⟩:ss=[]/\a2=true:=by simpa using h2.symm
         have hb:a=b:=by have:=(Prod.mk.inj (Option.some.inj hb)).2;simpa[std]using this
         rw[<-hb];exact QmW hd h1
        ·cases hb
       cases b with
       |true=>exact⟨some (j,e.val),by rw[Instr.findNow,hq],.inl ⟨j,e,v,rfl,le_refl _,by simp,Qq1 hd hq,hv,jA.1 rfl⟩⟩
       |false =>
        obtain⟨q,h1,h2⟩:=Qk7 zS hd r l (j+1) (by simpa using hl) (fun i e q h3 h4=>hE (i+1) e q (by simpa using h3) (by simpa using h4)) (jA.2 rfl)
        exact⟨q,by rw[Instr.findNow,hq];exact h1,h2.up⟩
      ·exact jA.elim
     ·cases hk
    |agg cs=>exact absurd hg (by simp[Q9r])
    |_=>cases hk
   ·exact jA.elim
theorem QkH(hT:TyOk P ty){s:St}{a:Act}{w:World}{g:Gh}(hS:Q1q w g s a){KT:Nat}(hKT:(Q2 KT ty).ok=true){i:Operand}{f:Nat->AV->Tree}{n:Tree}{es:List (AV×AV)}{l:List MapEntry}(hl:l.length=es.length)
  (hE:∀(j:Nat) e q,l[j]?=some e->es[j]?=some q->QjH w g.A e q) (jA:(Qde ty KT (ev s i) (Q8u std (ev s i) f n 0 es)).ok P w0 g0 o0 N Q) :
  ∃kv,QeG (ev s i)=some kv/\a.eval i=kv/\(∀b W,(Instr.checkKey b 10000 KT kv).run P W=.ok () W)/\(∀m,Instr.sameBits (m+1) kv kv=true)/\∃r,(∀W,(Instr.findKey KT kv l).run P W=.ok r W)/\Fnd P w0 g0 o0 N Q w g.A 0 l kv f n r:=by
 have hr:=QE hS i;have ti:=Q2v hT hKT;unfold Qde at jA;split at jA
 ·rename_i cs hx
  rw[hx]at hr jA;split at jA
  ·rename_i sh yE
   split at jA
   ·rename_i jD
    obtain⟨hK,jA⟩:=jA;obtain⟨us,hu,cY⟩:=hr;obtain⟨fs,jG,_⟩:=ti.strct jD;have zS:Q79 cs=some us.toList:=Qf2 yE cY;have e1:=QcI yE cY;refine⟨.agg us,by rw[hx];simp[QeG,zS],hu,fun b W=>?_,fun m=>QlY e1,?_⟩
    ·exact hK.1 us.toList b W e1
    ·obtain⟨r,h1,h2⟩:=Qp0 zS yE hK es l 0 hl hE jA
     refine⟨r,fun W=>?_,h2⟩
     have h1:=h1 W;cases l with
     |nil =>
      unfold Instr.findKey;rw[Sem.run_bind,run_underlying jG];simp only[Result.andThen_ok,Instr.findNow];simpa[Instr.findAsking]using h1
     |cons e l =>
      unfold Instr.findKey;rw[Sem.run_bind,run_underlying jG];simp only[Result.andThen_ok,Instr.findNow,Instr.sameNow];exact h1
   ·exact jA.elim
  ·exact jA.elim
 ·rename_i b hx
  rw[hx]at hr jA;split at jA
  ·rename_i jD
   have jG:=ti.str jD;obtain⟨r,h1,h2⟩:=Qk7 (d:=.string) (v0:=.string b) rfl (.inl ⟨rfl,b,rfl⟩) es l 0 hl hE jA;refine⟨.string b,by rw[hx];rfl,hr.valEq,fun c W=>?_,fun m=>Q95 (s:=.str) rfl,r,fun W=>?_,h2⟩
   ·show(Instr.checkKey c (9999+1) KT _).run P W=_
    unfold Instr.checkKey;rw[Sem.run_bind,run_underlying jG];rfl
   ·unfold Instr.findKey
    rw[Sem.run_bind,run_underlying jG];simp only[Result.andThen_ok,h1];rfl
  ·exact jA.elim
 ·rename_i k m hx
  rw[hx]at hr jA;split at jA
  ·rename_i jD
   obtain⟨k2,jG⟩:∃k2,P.underlying KT=some (.int k2):=by
    obtain⟨d,h1,h2⟩:=ti.u;cases d<;>simp[Q2k]at h2<;>first|(simp_all;done)|omega|exact⟨_,h1⟩
   obtain⟨r,h1,h2⟩:=Qk7 (d:=.int k2) (v0:=.int k m) rfl (.inr ⟨k2,k,m,rfl,rfl⟩) es l 0 hl hE jA;refine⟨.int k m,by rw[hx];rfl,hr.valEq,fun c W=>?_,fun m=>Q95 (s:=.int k) rfl,r,fun W=>?_,h2⟩
   ·show(Instr.checkKey c (9999+1) KT _).run P W=_
    unfold Instr.checkKey;rw[Sem.run_bind,run_underlying jG];rfl
   ·unfold Instr.findKey
    rw[Sem.run_bind,run_underlying jG];simp only[Result.andThen_ok,h1];rfl
  ·exact jA.elim
 ·exact jA.elim
theorem QjW{w:World}{g:Gh}{ob:List Ob}{v:Value}{x:AV}(h:ARel w g ob v x)(hp:x.pur=true):PRel1 w g.A v x:=by
 have h0:∀{y:Value}{u:AV},u.pur0=true->ARel0 w g ob y u->PRel w g.A y u:=fun {y u} hu h=>by
  cases u<;>first|exact h|cases hu
 cases x with
 |agg cs =>
  obtain⟨vs,rfl,h1,h2⟩:=h;exact⟨vs,rfl,h1,fun j y u hy hu=>h0 (all_eq_true.1 hp u (mem_of_getElem? hu)) (h2 j y u hy hu).1⟩
 |val a=>exact h0 (u:=.val a) hp h
 |slc a b=>exact h0 (u:=.slc a b) hp h
 |ref a=>exact h0 (u:=.ref a) hp h
 |opt a=>exact h0 (u:=.opt a) hp h
 |_=>cases hp
theorem QcV{w:World}{g:Gh}{ob:List Ob}{v:Value}{x:AV}(h:PRel1 w g.A v x)(hl:x.live=true):ARel1 w g ob v x:=by
 cases x with
 |agg cs=>obtain⟨vs,rfl,h1,h2⟩:=h;exact⟨vs,rfl,h1,fun j y u hy hu=>⟨(h2 j y u hy hu).to0,(h2 j y u hy hu).one⟩⟩
 |dead=>cases hl
 |tup _=>cases hl
 |val a=>exact PRel.to0 (ob:=ob) (x:=.val a) h
 |slc a b=>exact PRel.to0 (ob:=ob) (x:=.slc a b) h
 |ref a=>exact PRel.to0 (ob:=ob) (x:=.ref a) h
 |opt a=>exact PRel.to0 (ob:=ob) (x:=.opt a) h
 |box a b=>exact PRel.to0 (ob:=ob) (x:=.box a b) h
 |row a b=>exact PRel.to0 (ob:=ob) (x:=.row a b) h
 |rowk a b c=>exact PRel.to0 (ob:=ob) (x:=.rowk a b c) h
 |rptr a b c d=>exact PRel.to0 (ob:=ob) (x:=.rptr a b c d) h
 |kb a=>exact PRel.to0 (ob:=ob) (x:=.kb a) h
 |iter a=>exact PRel.to0 (ob:=ob) (x:=.iter a) h
theorem Q8J{w:World}{A:Nat->Nat->Prop}{v:Value}{x:AV}(h:PRel1 w A v x):x.live=true:=by
 cases x<;>first|rfl|(exfalso;cases(show PRel w A v _ from h))
theorem Qkl{w:World}{g:Gh}{ob:List Ob}{v:Value}{u:AV}{c b:Bool}(h:PRel1 w g.A v u):ARel w g ob (if c then .tuple #[v,.bool b]else v) (QeA c u b):=by
 have h1:ARel1 w g ob v u:=QcV h (Q8J h);cases c with
 |true =>
  refine⟨#[v,.bool b],rfl,rfl,fun j y z hy hz=>?_⟩
  match j,hy,hz with
  |0,hy,hz=>cases hy;cases hz;exact h1
  |1,hy,hz=>cases hy;cases hz;exact PRel.val _ rfl
  |j+2,hy,hz=>simp at hy
 |false=>exact h1.to
def Qag(K E:TypeId)(ents:Array MapEntry)(kv:Value)(c:Bool):Sem Value:=do
 Instr.checkKey ents.isEmpty 10000 K kv
 let (v,ok) <-match <-Instr.findKey K kv ents.toList with
  |some (_,v)=>pure (v,true)
  |none=>pure (<-zeroValue E,false)
 pure (if c then .tuple #[v,.bool ok]else v)
theorem Qh6(kc:AV)(f:Nat->AV->Tree)(n:Tree):∀(es:List (AV×AV)) (j:Nat),(match Qah kc j es with
  |some (some (i,v))=>(f i v).ok P w0 g0 o0 N Q
  |some none=>n.ok P w0 g0 o0 N Q
  |none=>False)->(Q8u std kc f n j es).ok P w0 g0 o0 N Q
 | [],j,h=>h
 |(k,v)::r,j,h=>by
  rw[Qah]at h;rw[Q8u];split
  ·rename_i hg
   rw[if_pos hg]at h;split
   ·rename_i sh b hb
    rw[hb]at h;cases b with
    |true=>exact⟨fun _=>h,fun e=>(nomatch e)⟩
    |false=>exact⟨fun e=>(nomatch e),fun _=>Qh6 kc f n r (j+1) h⟩
   ·rename_i hb
    rw[hb]at h;exact h.elim
  ·rename_i hg
   rw[if_neg hg]at h;exact h.elim
theorem Ql4{kc:AV}{f:Nat->AV->Tree}{n:Tree}{es:List (AV×AV)}(h:(Tree.look kc es f n).ok P w0 g0 o0 N Q):(Q8u std kc f n 0 es).ok P w0 g0 o0 N Q:=by
 unfold Tree.ok at h;refine Qh6 kc f n es 0 ?_;split at h
 ·rename_i h1;rw[h1];exact h
 ·rename_i h1;rw[h1];exact h
 ·exact h.elim
theorem QbV{KT:Nat}{k:AV}{t t':Tree}(h:t.ok P w0 g0 o0 N Q->t'.ok P w0 g0 o0 N Q)(hk:(Qde ty KT k t).ok P w0 g0 o0 N Q):(Qde ty KT k t').ok P w0 g0 o0 N Q:=by
 unfold Qde at hk ⊢;split
 ·split
  ·split
   ·rename_i h1 h2
    simp only[h1]at hk;rw[if_pos h2]at hk;exact⟨hk.1,h hk.2⟩
   ·rename_i h1 h2
    simp only[h1]at hk;rw[if_neg h2]at hk;exact hk
  ·rename_i h1
   simp only[h1]at hk;exact hk
 ·split
  ·rename_i h2
   simp only at hk
   rw[if_pos h2]at hk;exact h hk
  ·rename_i h2
   simp only at hk
   rw[if_neg h2]at hk;exact hk
 ·split
  ·rename_i h2
   simp only at hk
   rw[if_pos h2]at hk;exact h hk
  ·rename_i h2
   simp only at hk
   rw[if_neg h2]at hk;exact hk
 ·rename_i h1 h2 h3
  split at hk
  ·exact absurd rfl (h1 _)
  ·exact absurd rfl (h2 _)
  ·exact absurd rfl (h3 _ _)
  ·exact hk
theorem Qn1(hT:TyOk P ty){K:St->Tree}{o:Oper}{s:St}{a:Act}{w:World}{R:Exit->Act->World->Prop}(hs:Sim w0 g0 o0 N s a w)(hd:∀t,o.dst=some t->t<N)
  {T:Nat} {x i:Operand} {c:Bool} (ho:o.op=.lookup T x i c) (jA:(Q7S ty K o s T x i c).ok P w0 g0 o0 N Q):o.wp P a w (Q3U ty P w0 g0 o0 N Q K o.op w) R:=by
 obtain⟨g,M,hS,h0⟩:=hs.rel;unfold Q7S at jA;split at jA
 ·rename_i es hm
  split at jA
  ·rename_i hk
   obtain⟨jT,j1,zY,hk4⟩:=hk;have jA:=QbV Ql4 jA;have jG:=(Q2v hT jT).mapT j1;have jk:=QE hS x
   have hmap:∃ents:Array MapEntry,ents.size=es.length/\(∀(j:Nat) e q,ents[j]?=some e->es[j]?=some q->QjH w g.A e q) /\
     ∀kv V,(Qag (Qc8 ty T) (Q2 T ty).elem ents kv c).run P w=.ok V w->(Instr.lookup T (a.eval x) kv c).run P w=.ok V w:=by
    unfold QoV at hm;split at hm
    ·rename_i hx
     rw[hx]at jk;obtain rfl:[]=es:=by simpa using hm
     refine⟨#[],rfl,fun j e q h=>by simp at h,fun kv V h=>?_⟩
     rw[jk.valEq];unfold Instr.lookup;rw[Sem.run_bind,run_underlying jG];simp only[Result.andThen_ok];rw[Sem.run_bind,Sem.run_pure];exact h
    ·rename_i id hx
     rw[hx]at jk;split at hm
     ·rename_i es' jQ
      obtain rfl:es'=es:=by simpa using hm
      obtain⟨hG,ents,h1,h2,h3⟩:=M.iter id _ jQ;obtain⟨k,h4,h5⟩:=jk;rw[jQ]at h5;obtain rfl:k=true:=h5;refine⟨ents,h2,fun j e q he hq=>(h3 j e q he hq).1,fun kv V h=>?_⟩
      have vv:(getObj (g.loc id)).run P w=.ok (.map ents es'.length) w:=by simp[getObj,Sem.run,h1]
      rw[h4];unfold Instr.lookup Qbi;rw[Sem.run_bind,run_underlying jG];simp only[Result.andThen_ok];rw[Sem.run_bind,vv];simp only[Result.andThen_ok];rw[Sem.run_bind,Sem.run_pure];exact h
     ·cases hm
    ·cases hm
   obtain⟨ents,e1,e2,e3⟩:=hmap;obtain⟨kv,q1,q2,q3,_,r,q4,hF⟩:=QkH hT hS hk4 (l:=ents.toList) (by simpa using e1) (fun j e q h1 h2=>e2 j e q (by simpa using h1) h2) jA
   have fin:∀(V:Value)(u:AV)(b:Bool),PRel1 w g.A V u->(Instr.lookup T (a.eval x) (a.eval i) c).run P w=.ok (if c then .tuple #[V,.bool b]else V) w->(K (St.put s o.dst (QeA c u b))).ok P w0 g0 o0 N Q->o.wp P a w (Q3U ty P w0 g0 o0 N Q K o.op w) R:=fun V u b hV jc jA=>by
    have hr:(execOp a.eval o).run P w=.ok (.value (if c then .tuple #[V,.bool b]else V)) w:=by
     simp only[execOp,ho];exact Q1v jc
    exact Q49 hr ⟨fun _=>Below.refl _ w,_,Q1z hs hS h0 M Step.refl hd (Qkl hV),jA⟩
   rcases hF with ⟨m,e,u,rfl,_,_,_,hV,jA⟩|⟨rfl,jA⟩
   ·refine fin e.val u true hV ?_ jA
    rw[q2];refine e3 kv _ ?_;unfold Qag;rw[Sem.run_bind,q3];simp only[Result.andThen_ok];rw[Sem.run_bind,q4];simp only[Result.andThen_ok,Sem.run_bind,Sem.run_pure]
   ·have te:=Q2v hT zY
    obtain⟨z,z1,zA,z2⟩:=te.zeroV
    have fin2:∀Z:AV,PRel1 w g.A z Z->(K (St.put s o.dst (QeA c Z false))).ok P w0 g0 o0 N Q->o.wp P a w (Q3U ty P w0 g0 o0 N Q K o.op w) R:=fun Z hzr jA=>by
     refine fin z Z false hzr ?_ jA;rw[q2];refine e3 kv _ ?_;unfold Qag;rw[Sem.run_bind,q3];simp only[Result.andThen_ok];rw[Sem.run_bind,q4];simp only[Result.andThen_ok];rw[Sem.run_bind,z2];simp only[Result.andThen_ok,Sem.run_bind,Sem.run_pure]
    unfold Qpp at jA;split at jA
    ·rename_i hz
     have hzz:∃zs:Array Value,z=.agg zs:=by
      have jh:z.cells.size=(Q2 (Q2 T ty).elem ty).size:=by rw[<-te.zl,<-z1];simp
      cases z<;>first|exact⟨_,rfl⟩|exact absurd jh.symm hz.2
     obtain⟨zs,rfl⟩:=hzz;refine fin2 (.agg ((Q2 (Q2 T ty).elem ty).zero.map .val)) ⟨zs,rfl,?_⟩ jA;have e4:zs.toList=(Q2 (Q2 T ty).elem ty).zero:=z1;rw[e4];refine⟨by simp,fun j y u hy hu=>?_⟩
     rw[getElem?_map,hy]at hu;obtain rfl:AV.val y=u:=by simpa using hu
     exact PRel.val _ (all_eq_true.1 te.zone y (mem_of_getElem? hy))
    ·split at jA
     ·rename_i ha
      rw[ha]at zA;have hc:z.cells=#[z]:=by cases z<;>first|rfl|cases zA
      rw[hc]at z1;have h1:(Q2 (Q2 T ty).elem ty).zero.headD QkO=z:=by rw[<-z1];rfl
      rw[h1]at jA;exact fin2 (.val z) (PRel.val _ (all_eq_true.1 te.zone z (by rw[<-z1];simp))) jA
     ·exact jA.elim
  ·exact jA.elim
 ·exact jA.elim
def QqA(b:Nat)(ents:Array MapEntry)(clock:Nat)(kv v:Value)(r:Option (Nat×Value)):Sem Unit :=
 match r with
 |some (i,_)=>do
  let key <-Instr.keyThatStays (((ents[i]?).map (·.key)).getD kv) kv
  setObj b (.map (ents.modify i fun e=>{ e with key,val:=v }) clock)
 |none=>setObj b (.map (ents.push { key:=kv,val:=v,born:=clock }) (clock+1))
theorem Qia(hT:TyOk P ty){K:St->Tree}{o:Oper}{s:St}{a:Act}{w:World}{R:Exit->Act->World->Prop}(hs:Sim w0 g0 o0 N s a w)(hd:∀t,o.dst=some t->t<N)
  {T:Nat} {m i x:Operand} (ho:o.op=.mapUpdate T m i x) (jA:(Q9Y std ty K o s T m i x).ok P w0 g0 o0 N Q):o.wp P a w (Q3U ty P w0 g0 o0 N Q K o.op w) R:=by
 obtain⟨g,M,hS,h0⟩:=hs.rel;unfold Q9Y at jA;split at jA
 ·rename_i id hm
  split at jA
  ·rename_i es jQ
   split at jA
   ·rename_i hk
    obtain⟨jT,j1,zY,hk4⟩:=hk;have jA:=QbV Ql4 jA;have jG:=(Q2v hT jT).mapT j1;have hmr:=QE hS m;rw[hm]at hmr;obtain⟨hG,ents,h1,h2,h3⟩:=M.iter id _ jQ;obtain⟨k,h4,h5⟩:=hmr;rw[jQ]at h5;obtain rfl:k=true:=h5;obtain⟨kv,q1,q2,q3,q5,r,q4,hF⟩:=QkH hT hS zY (l:=ents.toList) (by simpa using h2) (fun j e q h6 h7=>(h3 j e q (by simpa using h6) h7).1) jA
    have vv:(getObj (g.loc id)).run P w=.ok (.map ents es.length) w:=by simp[getObj,Sem.run,h1]
    have fin:∀(es':List (AV×AV)) (o':Obj),ItRel w g.A g.loc s.ob.length (.map es') (some o') ->
      ((QqA (g.loc id) ents es.length kv (a.eval x) r).run P w=(setObj (g.loc id) o').run P w) ->
      (K (St.put ⟨s.tm,s.ob.set id (.iter (.map es'))⟩ o.dst .dead)).ok P w0 g0 o0 N Q->o.wp P a w (Q3U ty P w0 g0 o0 N Q K o.op w) R:=fun es' o' hI jc jA=>by
     have vy:(setObj (g.loc id) o').run P w=.ok () { w with heap:=w.heap.setIfInBounds (g.loc id) o' }:=by
      simp only[setObj,Sem.run,h1]
     obtain⟨M',S'⟩:=Q9R M (x':=.map es') (o':=o') jQ (fun h=>h) hI
     have hr:(execOp a.eval o).run P w=.ok .skip { w with heap:=w.heap.setIfInBounds (g.loc id) o' }:=by
      simp only[execOp,ho,h4,q2]
      have jc:(Instr.mapUpdate T (Qbi true (g.loc id)) kv (a.eval x)).run P w=.ok () { w with heap:=w.heap.setIfInBounds (g.loc id) o' }:=by
       unfold Instr.mapUpdate Qbi;rw[Sem.run_bind,run_underlying jG];simp only[Result.andThen_ok];rw[Sem.run_bind,vv];simp only[Result.andThen_ok];rw[show(Q2 T ty).key=Qc8 ty T from rfl,Sem.run_bind,q3 false w];simp only[Result.andThen_ok];rw[Sem.run_bind,q4 w];simp only[Result.andThen_ok];refine Eq.trans ?_ (jc.trans vy);cases r with
       |none=>rfl
       |some q=>rfl
      rw[Sem.run_bind,jc];rfl
     unfold Oper.wp;rw[hr];exact⟨fun h=>by simp[ho,Q3f]at h,_,Q1z hs hS h0 M' S' hd (v:=undef) (x:=.dead) trivial,jA⟩
    have hpx:=QjW (QE hS x) hk4;rcases hF with ⟨m,e,u,rfl,_,hm,hkey,_,jA⟩|⟨rfl,jA⟩
    ·rw[Nat.sub_zero]at hm
     have hm:ents[m]?=some e:=by simpa using hm
     have zT:m<ents.size:=(Array.getElem?_eq_some_iff.1 hm).1;refine fin (es.set m (ev s i,ev s x)) (.map (ents.modify m fun e=>{ e with key:=kv,val:=a.eval x }) es.length) ⟨_,by rw[length_set],by simp[h2],fun j e' q h6 h7=>?_⟩ ?_ jA
     ·rw[Array.getElem?_modify]at h6
      by_cases hj:m=j
      ·subst hj
       rw[if_pos rfl,hm]at h6;rw[getElem?_set_self (by omega)]at h7
       obtain rfl:({ e with key:=kv,val:=a.eval x }:MapEntry)=e':=by simpa using h6
       obtain rfl:(ev s i,ev s x)=q:=by simpa using h7
       obtain⟨q',gk⟩:∃q',es[m]?=some q':=⟨es[m],getElem?_eq_getElem (by omega)⟩
       exact⟨⟨q1,hpx⟩,(h3 m e q' hm gk).2⟩
      ·rw[if_neg hj]at h6
       rw[getElem?_set_ne hj]at h7;exact h3 j e' q h6 h7
     ·have jV:(Instr.keyThatStays (((ents[m]?).map (·.key)).getD kv) kv).run P w=.ok kv w:=by
       rw[hm];simp only[map_some,Option.getD_some,hkey];unfold Instr.keyThatStays;rw[if_pos (q5 9999)];rfl
      unfold QqA;simp only
      rw[Sem.run_bind,jV];rfl
    ·refine fin (es++[(ev s i,ev s x)]) (.map (ents.push { key:=kv,val:=a.eval x,born:=es.length }) (es.length+1)) ⟨ents.push { key:=kv,val:=a.eval x,born:=es.length },by rw[length_append];rfl,by simp[h2],fun j e q h6 h7=>?_⟩ rfl jA
     by_cases hj:j<es.length
     ·rw[Array.getElem?_push,if_neg (by omega)]at h6
      rw[List.getElem?_append_left hj]at h7;exact h3 j e q h6 h7
     ·have hje:j=es.length:=by have:=Q8 h7;simp at this;omega
      subst hje;rw[Array.getElem?_push,if_pos h2.symm]at h6;rw[List.getElem?_append_right (le_refl _)]at h7;simp at h6 h7;subst h6 h7;exact⟨⟨q1,hpx⟩,rfl⟩
   ·exact jA.elim
  ·exact jA.elim
 ·exact jA.elim
theorem Qio(hT:TyOk P ty){K:St->Tree}{o:Oper}{s:St}{a:Act}{w:World}{R:Exit->Act->World->Prop}(hs:Sim w0 g0 o0 N s a w)(hd:∀t,o.dst=some t->t<N)
  {T:Nat} {x:Operand} (ho:o.op=.range T x) {id:Nat} (hx:ev s x=.iter id) {es:List (AV×AV)} (jQ:s.ob[id]?=some (.iter (.map es))) (h1:(Q2 T ty).kd=8)
  (jA:(K (St.put ⟨s.tm,s.ob++[.iter (.mit id es [] none)]⟩ o.dst (.iter s.ob.length))).ok P w0 g0 o0 N Q):o.wp P a w (Q3U ty P w0 g0 o0 N Q K o.op w) R:=by
 obtain⟨g,M,hS,h0⟩:=hs.rel;have jk:=QE hS x;rw[hx]at jk;have jG:=(Q4N hT h1 (by decide)).mapT h1
 obtain⟨hG,ents,h2,h3,h4⟩:=M.iter id _ jQ;obtain⟨k,h5,h6⟩:=jk;rw[jQ]at h6;obtain rfl:k=true:=h6
 have hr:(execOp a.eval o).run P w=.ok (.value (.pointer (some ⟨w.heap.size,0,none⟩))) (w.alloc (.mapIter (some (g.loc id)) es.length #[] es.length)):=by
  simp only[execOp,ho,h5];exact Q1v (run_range_map w T _ _ _ ents es.length jG h2)
 have M':=M.new (.mapIter (some (g.loc id)) es.length #[] es.length) (.iter (.mit id es [] none)) (fun cs h=>by cases h) (fun cs h=>by cases h) (fun y h=>by cases h;exact⟨Q8 jQ,#[],rfl,rfl,fun _ _ h=>by cases h⟩) (fun et sz fz e xs h=>by cases h)
 refine Q49 hr ⟨fun _=>(Below.refl _ w).alloc (le_refl _) _,_,Q1z hs hS h0 M' (Step.new M _ _) hd ?_,jA⟩
 refine⟨false,by simp[Gh.new,Qbi],?_⟩
 rw[Q3q];rfl
theorem Qkr{w:World}{g:Gh}{ob:List Ob}{x:AV}{v:Value}(h:QeG x=some v):ARel1 w g ob v x:=by
 cases x with
 |agg cs =>
  obtain⟨vs,h1,rfl⟩:=map_eq_some_iff.1 h;exact⟨_,rfl,Q6S h1⟩
 |val u =>
  simp only[QeG]at h;split at h
  ·rename_i hu
   obtain rfl:u=v:=by simpa using h
   exact PRel.val _ hu
  ·cases h
 |_=>cases h
theorem QkK{K:St->Tree}{o:Oper}{s:St}{a:Act}{w:World}{R:Exit->Act->World->Prop}(hs:Sim w0 g0 o0 N s a w)(hd:∀t,o.dst=some t->t<N)
  {it:Operand} (ho:o.op=.next it false) {id:Nat} (hi:ev s it=.iter id) {m:Nat} {es es2:List (AV×AV)} {seen:List Nat} {cur:Option (Nat×(AV×AV))} (jQ:s.ob[id]?=some (.iter (.mit m es seen cur))) (xF:s.ob[m]?=some (.iter (.map es2)))
  (jH:std.samE es es2)
  (ht:∀j q,es2[j]?=some q->j ∉ seen->(K (St.put ⟨s.tm,s.ob.set id (.iter (.mit m es (std.appN seen j) (some (j,q))))⟩ o.dst (.tup [.kb true,q.1,q.2]))).ok P w0 g0 o0 N Q)
  (hf:(∀j,j<es2.length->j∈seen)->(K (St.put s o.dst (.tup [.kb false]))).ok P w0 g0 o0 N Q):o.wp P a w (Q3U ty P w0 g0 o0 N Q K o.op w) R:=by
 obtain⟨g,M,hS,h0⟩:=hs.rel;have jH:es.length=es2.length:=jH;have gK:=QE hS it;rw[hi]at gK
 have hv:a.eval it=.pointer (some ⟨g.loc id,0,none⟩):=by
  obtain⟨k,h1,h2⟩:=gK;rw[jQ]at h2;obtain rfl:k=false:=h2;exact h1
 obtain⟨hG,qq,sn,hh,nJ,_⟩:=M.iter id _ jQ;obtain⟨hGm,ents,jo,q7,kJ⟩:=M.iter m _ xF
 have get:∀e∈ents.toList,∃j q,ents[j]?=some e/\es2[j]?=some q/\e.born=j/\QjH w g.A e q:=fun e he=>by
  obtain⟨j,hj,rfl⟩:=List.mem_iff_getElem.1 he;have zE:j<es2.length:=by simpa[q7]using hj
  have h1:ents[j]?=some ents.toList[j]:=by rw[<-Array.getElem?_toList];exact getElem?_eq_getElem hj
  have h2:=getElem?_eq_getElem zE;exact⟨j,_,h1,h2,(kJ j _ _ h1 h2).2,(kJ j _ _ h1 h2).1⟩
 rcases run_next_at (P:=P) w o.type (g.loc id) (g.loc m) es.length es.length sn ents es2.length hh jo (fun x hx=>by
   obtain⟨j,q,_,h2,h3,_⟩:=get x hx;have:=Q8 h2
   omega) (le_refl _)with ⟨hl,jc⟩|⟨e,he,w1,yv,jc⟩
 ·have hr:(execOp a.eval o).run P w=.ok (.value (.tuple #[.bool false])) w:=by
   simp only[execOp,ho,hv];exact Q1v jc
  refine Q49 hr ⟨fun h=>by simp[ho,Q3f]at h,_,Q1z hs hS h0 M Step.refl hd (x:=.tup [.kb false]) ?_,hf fun j hj=>?_⟩
  ·refine⟨_,rfl,rfl,fun j y u hy hu=>?_⟩
   match j,hy,hu with
   |0,hy,hu =>
    obtain rfl:Value.bool false=y:=by simpa using hy
    obtain rfl:AV.kb false=u:=by simpa using hu
    exact(rfl:Value.bool false=.bool false)
   |j+1,hy,_=>simp at hy
  ·have zE:j<ents.size:=by omega
   have h1:=Array.getElem?_eq_getElem zE;have h2:=getElem?_eq_getElem hj;have hb:=(kJ j _ _ h1 h2).2;refine Classical.byContradiction fun yh=>?_
   have:ents[j]∈leftOf ents sn:=by
    unfold leftOf;rw[Array.mem_filter];refine⟨Array.getElem_mem zE,?_⟩;rw[hb];simp only[Bool.not_eq_true',Bool.eq_false_iff,ne_eq,Array.contains_iff_mem];intro h;exact yh (by rw[<-nJ];simpa using h)
   have h0:=Array.eq_empty_of_size_eq_zero hl;rw[h0]at this;simp at this
 ·have hef:e∈ents.toList/\e.born ∉ seen:=by
   unfold leftOf at he;rw[Array.mem_toList_iff,Array.mem_filter]at he;refine⟨by simpa using he.1,fun h=>?_⟩
   have:=he.2
   simp only[Bool.not_eq_true',Bool.eq_false_iff,ne_eq,Array.contains_iff_mem]at this;exact this (by rw[<-nJ]at h;simpa using h)
  obtain⟨j,q,h1,h2,h3,h4⟩:=get e hef.1;rw[h3]at jc hef
  have hb:Below w.heap.size w w1:=by
   rcases yv with rfl|rfl
   ·exact Below.refl _ _
   ·exact(Below.refl _ w).drew
  have M1:=M.immNew hb;have hI:ItRel w1 (g.imm w w1).A (g.imm w w1).loc s.ob.length (.mit m es (seen++[j]) (some (j,q))) (some (.mapIter (some (g.loc m)) es.length (sn.push j) es2.length)):=⟨qq,sn.push j,by rw[jH];rfl,by simp[nJ],fun j' q' h=>by cases h;exact⟨sn,rfl⟩⟩
  obtain⟨M',S'⟩:=Q9R M1 (x':=.mit m es (seen++[j]) (some (j,q))) (o':=.mapIter (some (g.loc m)) es.length (sn.push j) es2.length) jQ (fun h=>h) hI
  have S2:=(Step.immNew M hb).trans S'
  have hr:(execOp a.eval o).run P w=.ok (.value (.tuple #[.bool true,e.key,e.val])) { w1 with heap:=w1.heap.setIfInBounds ((g.imm w w1).loc id) (.mapIter (some (g.loc m)) es.length (sn.push j) es2.length) }:=by
   simp only[execOp,ho,hv];exact Q1v jc
  refine Q49 hr ⟨fun h=>by simp[ho,Q3f]at h,_,Q1z hs hS h0 M' S2 hd (x:=.tup [.kb true,q.1,q.2]) ?_,ht j q h2 hef.2⟩
  refine⟨_,rfl,rfl,fun j y u hy hu=>?_⟩
  match j,hy,hu with
  |0,hy,hu =>
   obtain rfl:Value.bool true=y:=by simpa using hy
   obtain rfl:AV.kb true=u:=by simpa using hu
   exact(rfl:Value.bool true=.bool true)
  |1,hy,hu =>
   obtain rfl:e.key=y:=by simpa using hy
   obtain rfl:q.1=u:=by simpa using hu
   exact Qkr h4.1
  |2,hy,hu =>
   obtain rfl:e.val=y:=by simpa using hy
   obtain rfl:q.2=u:=by simpa using hu
   have h5:=h4.2.keep S2.ext.A;exact QcV h5 (Q8J h5)
  |j+3,hy,_=>simp at hy
theorem QiD{K:St->Tree}{o:Oper}{s:St}{a:Act}{w:World}{R:Exit->Act->World->Prop}(hs:Sim w0 g0 o0 N s a w)(hd:∀t,o.dst=some t->t<N)
  {it:Operand} (ho:o.op=.entry it) {id:Nat} (hi:ev s it=.iter id) {m:Nat} {es es2:List (AV×AV)} {seen:List Nat} {j:Nat} {q:AV×AV} (jQ:s.ob[id]?=some (.iter (.mit m es seen (some (j,q))))) (xF:s.ob[m]?=some (.iter (.map es2)))
  (jH:std.samE es es2) (hq:std.isE es2 j q) (jA:(K (St.put s o.dst (.tup [q.1,q.2]))).ok P w0 g0 o0 N Q):o.wp P a w (Q3U ty P w0 g0 o0 N Q K o.op w) R:=by
 obtain⟨g,M,hS,h0⟩:=hs.rel;have jH:es.length=es2.length:=jH;have hq:es2[j]?=some q:=hq;have gK:=QE hS it;rw[hi]at gK
 have hv:a.eval it=.pointer (some ⟨g.loc id,0,none⟩):=by
  obtain⟨k,h1,h2⟩:=gK;rw[jQ]at h2;obtain rfl:k=false:=h2;exact h1
 obtain⟨hG,qq,sn,hh,nJ,ku⟩:=M.iter id _ jQ;obtain⟨sp,rfl⟩:=ku j q rfl;obtain⟨hGm,ents,jo,q7,kJ⟩:=M.iter m _ xF;have zE:j<es2.length:=Q8 hq;have hje:j<ents.size:=by omega
 have he1:=Array.getElem?_eq_getElem hje;obtain⟨h4,hb⟩:=kJ j _ q he1 hq
 have hn:(ents.toList.map (·.born)).Nodup:=by
  have:ents.toList.map (·.born)=List.range ents.size:=by
   refine List.ext_getElem (by simp) fun i h1 h2=>?_
   have h3:i<ents.size:=by simpa using h1
   have h5:i<es2.length:=by omega
   have:=(kJ i _ _ (Array.getElem?_eq_getElem h3) (getElem?_eq_getElem h5)).2
   simp[this]
  rw[this];exact List.nodup_range
 have hr:(execOp a.eval o).run P w=.ok (.value (.tuple #[ents[j].key,ents[j].val])) w:=by
  simp only[execOp,ho,hv];rw[jH]at hh;rw[<-hb]at hh;exact Q1v (run_entry_at w (g.loc id) (g.loc m) es2.length sp ents es2.length ents[j] hh jo (by simp) hn)
 refine Q49 hr ⟨fun _=>Below.refl _ w,_,Q1z hs hS h0 M Step.refl hd (x:=.tup [q.1,q.2]) ?_,jA⟩
 refine⟨_,rfl,rfl,fun i y u hy hu=>?_⟩
 match i,hy,hu with
 |0,hy,hu =>
  obtain rfl:ents[j].key=y:=by simpa using hy
  obtain rfl:q.1=u:=by simpa using hu
  exact Qkr h4.1
 |1,hy,hu =>
  obtain rfl:ents[j].val=y:=by simpa using hy
  obtain rfl:q.2=u:=by simpa using hu
  exact QcV h4.2 (Q8J h4.2)
 |i+2,hy,_=>simp at hy
end
abbrev Eqs:=List (AV×AV)
def both:Option Eqs->Option Eqs->Option Eqs
 |some a,some b=>some (a++b)
 |_,_=>none
def Q5w(ob ob':List Ob)(ρ:List (Option Nat))(x x':AV):Option Eqs :=
 match x' with
 |.dead=>some []
 |.box j off=>match ρ[j]? with
  |some (some i)=>some [(x,.box i off)]
  |_=>none
 |.iter j=>match ρ[j]? with
  |some (some i)=>some [(x,.iter i)]
  |_=>none
 |.row j e'=>match ob'[j]? with
  |some (.row _ _ _ e2 xs)=>if e2=e' then(match ρ[j]? with
   |some (some i)=>(match ob[i]? with
    |some (.row _ _ _ e _)=>some [(x,.row i e)]
    |_=>none)
   |some none=>some [(x,.val (.slice none 0 0)),(.slc 0 xs,.slc 0 [])]
   |none=>none)else none
  |_=>none
 |.val (.bool b)=>match x with
  |.kb c=>some [(.kb c,.kb b)]
  |_=>some [(x,.val (.bool b))]
 |.val v=>some [(x,.val v)]
 |.slc sz xs=>some [(x,.slc sz xs)]
 |.ref cs=>some [(x,.ref cs)]
 |.opt y=>some [(x,.opt y)]
 |.kb b=>some [(x,.kb b)]
 |_=>none
def QcK(ob ob':List Ob)(ρ:List (Option Nat)):List AV->List AV->Option Eqs
 | [],[]=>some []
 |x::r,x'::r'=>both (Q5w ob ob' ρ x x') (QcK ob ob' ρ r r')
 |_,_=>none
def QaG(ob ob':List Ob)(ρ:List (Option Nat))(x x':AV):Option Eqs :=
 match x' with
 |.agg cs'=>match x with
  |.agg cs=>QcK ob ob' ρ cs cs'
  |_=>none
 |_=>Q5w ob ob' ρ x x'
def Qpq(s s':St)(ρ:List (Option Nat)):List (Nat×AV)->Option Eqs
 | []=>some []
 |(t,x')::r=>both (QaG s.ob s'.ob ρ (lk t s.tm) x') (Qpq s s' ρ r)
def Q5h:List (AV×AV)->List AV
 | []=>[]
 |(a,b)::r=>a::b::Q5h r
theorem Q6N:∀{l m:List (AV×AV)},Q5h l=Q5h m->l=m
 | [],[],_=>rfl
 | [],(_,_)::_,h=>by cases h
 |(_,_)::_,[],h=>by cases h
 |(a,b)::r,(c,d)::q,h=>by
  simp only[Q5h,List.cons.injEq]at h;rw[h.1,h.2.1,Q6N h.2.2]
theorem QbO:∀{l m:List Nat},l.map (AV.box 0)=m.map (AV.box 0)->l=m
 | [],[],_=>rfl
 | [],_::_,h=>by cases h
 |_::_,[],h=>by cases h
 |a::r,b::q,h=>by
  simp only[map_cons,List.cons.injEq,AV.box.injEq]at h;rw[h.1.2,QbO h.2]
def Q3y(ob ob':List Ob)(ρ:List (Option Nat))(i:Option Nat)(o':Ob):Option Eqs :=
 match i with
 |some i=>match o',ob[i]? with
  |.box cs',some (.box cs)=>QcK ob ob' ρ cs cs'
  |.fbox cs',some (.fbox cs)=>some [(.slc 0 cs,.slc 0 cs')]
  |.row et sz fz _ xs',some (.row et2 sz2 fz2 _ xs)=>if et=et2/\sz=sz2/\(fz2=true->fz=true)then some [(.slc 0 xs,.slc 0 xs')]else none
  |.iter (.str b p),some (.iter (.str b2 p2))=>some [(.val (.string b2),.val (.string b)),(.box 0 p2,.box 0 p)]
  |.iter (.map es),some (.iter (.map es2))=>some [(.tup (Q5h es2),.tup (Q5h es))]
  |.iter (.mit m es sn none),some (.iter (.mit m2 es2 sn2 _))=>if ρ[m]?=some (some m2)then some [(.tup (Q5h es2),.tup (Q5h es)),(.tup (sn2.map (AV.box 0)),.tup (sn.map (AV.box 0)))]else none
  |_,_=>none
 |none=>match o' with
  |.row _ sz fz _ xs=>if 0<sz/\fz=false then some [(.slc 0 xs,.slc 0 [])]else none
  |_=>none
def Q87(ob ob':List Ob)(ρ:List (Option Nat)):List (Option Nat)->List Ob->Option Eqs
 | [],[]=>some []
 |i::r,o::r'=>both (Q3y ob ob' ρ i o) (Q87 ob ob' ρ r r')
 |_,_=>none
def QeO(o0 ob ob':List Ob)(ρ:List (Option Nat)):Bool:=(List.range o0.length).all fun j=>ρ[j]? == some (some j)&&(match o0[j]?,ob[j]?,ob'[j]? with
 |some (.row _ _ _ e0 _),some (.row _ _ _ e _),some (.row _ _ _ e' _)=>e == e'||decide (e0<e')
 |_,_,_=>true)
def seen(o0:List Ob)(ρ:List (Option Nat))(s s':St):Option Eqs :=
 if Q2w ρ=true/\QeO o0 s.ob s'.ob ρ=true/\o0.length<=ρ.length then both (Qpq s s' ρ s'.tm) (Q87 s.ob s'.ob ρ ρ s'.ob)else none
def Qm:Eqs->Prop
 | []=>True
 |(a,b)::r=>a=b/\Qm r
theorem Q3M{a b:Eqs}:Qm (a++b)↔Qm a/\Qm b:=by
 induction a with
 |nil=>simp[Qm]
 |cons x r ih=>obtain⟨u,v⟩:=x;simp[Qm,ih,and_assoc]
theorem Q35{x y:Option Eqs}{l:Eqs}(h:both x y=some l)(hl:Qm l):(∃a,x=some a/\Qm a)/\∃b,y=some b/\Qm b:=by
 cases x with
 |none=>cases h
 |some a =>
  cases y with
  |none=>cases h
  |some b =>
   obtain rfl:a++b=l:=by simpa[both]using h
   exact⟨⟨a,rfl,(Q3M.1 hl).1⟩,b,rfl,(Q3M.1 hl).2⟩
def Gh.ren(g:Gh)(ρ:List (Option Nat)):Gh:=⟨g.A,fun b=>(g.G b).bind (Qjj ρ),fun j=>match ρ[j]? with|some (some i)=>g.loc i|_=>0,fun b=>g.sub b&&((g.G b).bind (Qjj ρ)).isSome⟩
section
variable {w:World}{g:Gh}{ob ob':List Ob}{ρ:List (Option Nat)}
theorem QdD{i j:Nat}(h:Qjj ρ i=some j):ρ[j]?=some (some i):=by
 have:=List.find?_some h
 simpa using this
theorem Q6I(h:Q2w ρ=true){i j:Nat}(hj:ρ[j]?=some (some i)):Qjj ρ i=some j:=by
 have:=all_eq_true.1 h j (List.mem_range.2 (Q8 hj))
 rw[hj]at this;simpa using this
theorem Q29{i j:Nat}(hj:ρ[j]?=some (some i)):(g.ren ρ).loc j=g.loc i:=by simp[Gh.ren,hj]
theorem Q5B(h:Q2w ρ=true){i j b:Nat}(hj:ρ[j]?=some (some i))(hG:g.G b=some i):(g.ren ρ).G b=some j:=by
 simp[Gh.ren,hG,Q6I h hj]
theorem Q33{j b:Nat}(hG:(g.ren ρ).G b=some j):∃i,ρ[j]?=some (some i)/\g.G b=some i:=by
 simp only[Gh.ren,Option.bind_eq_some_iff]at hG;obtain⟨i,h1,h2⟩:=hG;exact⟨i,QdD h2,h1⟩
theorem Q3R(h:Q2w ρ=true){i j b:Nat}(hj:ρ[j]?=some (some i))(hG:g.G b=some i):(g.ren ρ).sub b=g.sub b:=by
 simp[Gh.ren,hG,Q6I h hj]
theorem Q4y:∀(r:List (Option Nat)) (os:List Ob) (l:Eqs),Q87 ob ob' ρ r os=some l->Qm l->r.length=os.length/\∀(j:Nat) i o,r[j]?=some i->os[j]?=some o->∃l,Q3y ob ob' ρ i o=some l/\Qm l
 | [],[],_,_,_=>⟨rfl,fun j i o h=>by simp at h⟩
 | [],_::_,_,h,_=>by cases h
 |_::_,[],_,h,_=>by cases h
 |i::r,o::os,l,h,hl=>by
  obtain⟨h1,b,h2,hb⟩:=Q35 h hl;obtain⟨hn,ih⟩:=Q4y r os b h2 hb;refine⟨by simp[hn],fun j i' o' hi ho=>?_⟩
  cases j with
  |zero =>
   obtain rfl:i=i':=by simpa using hi
   obtain rfl:o=o':=by simpa using ho
   exact h1
  |succ j=>exact ih j i' o' (by simpa using hi) (by simpa using ho)
theorem QeI:∀(r r':List AV)(l:Eqs),QcK ob ob' ρ r r'=some l->Qm l->r.length=r'.length/\∀(j:Nat) x x',r[j]?=some x->r'[j]?=some x'->∃l,Q5w ob ob' ρ x x'=some l/\Qm l
 | [],[],_,_,_=>⟨rfl,fun j i o h=>by simp at h⟩
 | [],_::_,_,h,_=>by cases h
 |_::_,[],_,h,_=>by cases h
 |i::r,o::os,l,h,hl=>by
  obtain⟨h1,b,h2,hb⟩:=Q35 h hl;obtain⟨hn,ih⟩:=QeI r os b h2 hb;refine⟨by simp[hn],fun j i' o' hi ho=>?_⟩
  cases j with
  |zero =>
   obtain rfl:i=i':=by simpa using hi
   obtain rfl:o=o':=by simpa using ho
   exact h1
  |succ j=>exact ih j i' o' (by simpa using hi) (by simpa using ho)
def Fits(ob ob':List Ob)(ρ:List (Option Nat)):Prop:=ρ.length=ob'.length/\∀(j:Nat) i o,ρ[j]?=some i->ob'[j]?=some o->∃l,Q3y ob ob' ρ i o=some l/\Qm l
theorem Fits.at_(h:Fits ob ob' ρ){i j:Nat}(hj:ρ[j]?=some (some i)):∃o,ob'[j]?=some o/\∃l,Q3y ob ob' ρ (some i) o=some l/\Qm l:=by
 have hl:j<ob'.length:=h.1 ▸ Q8 hj;exact⟨_,getElem?_eq_getElem hl,h.2 j _ _ hj (getElem?_eq_getElem hl)⟩
theorem Fits.isB(h:Fits ob ob' ρ){i j:Nat}(hj:ρ[j]?=some (some i))(hb:Q6p ob[i]?):Q6p ob'[j]?:=by
 obtain⟨o,yK,l,h1,_⟩:=h.at_ hj;rw[yK];cases jQ:ob[i]? with
 |none=>rw[jQ]at hb;exact hb.elim
 |some q =>
  rw[jQ]at hb;cases q<;>first|exact hb.elim|(cases o<;>first|trivial|(simp[Q3y,jQ]at h1;done))
theorem Fits.isI(h:Fits ob ob' ρ){k:Bool}{i j:Nat}(hj:ρ[j]?=some (some i))(hb:Q8w k ob[i]?):Q8w k ob'[j]?:=by
 obtain⟨o,yK,l,h1,_⟩:=h.at_ hj;rw[yK];cases jQ:ob[i]? with
 |none=>rw[jQ]at hb;exact hb.elim
 |some q =>
  rw[jQ]at hb;cases q with
  |iter y=>cases y<;>(cases o with
   |iter z=>cases z<;>first|exact hb|(simp[Q3y,jQ]at h1;done)
   |_=>simp[Q3y,jQ]at h1)
  |_=>exact hb.elim
theorem Fits.row(h:Fits ob ob' ρ){i j et sz e:Nat}{fz:Bool}{xs:List AV}(hj:ρ[j]?=some (some i))(hb:ob[i]?=some (.row et sz fz e xs)):∃fz' e',ob'[j]?=some (.row et sz fz' e' xs)/\(fz=true->fz'=true):=by
 have hl:j<ob'.length:=h.1 ▸ Q8 hj;obtain⟨l,h1,h2⟩:=h.2 j _ _ hj (getElem?_eq_getElem hl);rw[getElem?_eq_getElem hl];cases ho:ob'[j]with
 |row et' sz' fz' e' xs' =>
  simp only[Q3y,ho,hb]at h1;split at h1
  ·rename_i hk
   obtain⟨rfl,rfl,hk⟩:=hk;cases h1;obtain⟨h3,_⟩:=h2;cases h3;exact⟨fz',e',rfl,hk⟩
  ·cases h1
 |_=>simp[Q3y,ho,hb]at h1
theorem QeX(hF:Fits ob ob' ρ)(ho:Q2w ρ=true){v:Value}{x x':AV}{l:Eqs}(h:ARel0 w g ob v x)(he:Q5w ob ob' ρ x x'=some l)(hl:Qm l):ARel0 w (g.ren ρ) ob' v x':=by
 have one:∀y,some [(x,y)]=some l->x=y:=fun y hy=>by cases hy;exact hl.1
 cases x' with
 |dead=>trivial
 |box j off =>
  simp only[Q5w]at he;split at he
  ·rename_i i hj
   cases one _ he;exact⟨by rw[Q29 hj];exact h.1,hF.isB hj h.2⟩
  ·cases he
 |iter j =>
  simp only[Q5w]at he;split at he
  ·rename_i i hj
   cases one _ he;obtain⟨k,h1,h2⟩:=h;exact⟨k,by rw[Q29 hj];exact h1,hF.isI hj h2⟩
  ·cases he
 |row j e' =>
  simp only[Q5w]at he;split at he
  ·rename_i et' sz' fz' e2 xs' yO
   split at he
   ·rename_i ql
    subst ql;split at he
    ·rename_i i hj
     split at he
     ·rename_i et sz fz e xs jQ
      cases one _ he;obtain⟨h1,et3,sz3,fz3,e3,xs3,h2,h3,h4⟩:=h;rw[jQ]at h2;cases h2;obtain⟨fz4,e4,h5,h6⟩:=hF.row hj jQ;rw[yO]at h5;cases h5;refine⟨h1,_,_,_,_,_,yO,le_refl _,fun _=>?_⟩
      obtain⟨ys,h7,h8,h9,q9,vn⟩:=h4 rfl;exact⟨ys,h7,fun b hb=>Q5B ho hj (h8 b hb),h9,q9,vn.ext h8 fun b hb=>⟨Q5B ho hj hb,Q3R ho hj hb,fun _=>⟨rfl,fun _ h=>h⟩⟩⟩
     ·cases he
    ·rename_i hj
     cases he;obtain⟨h1,h2,_⟩:=hl;subst h1;cases h2;cases(show v=_ from ARel.valEq (g:=g) (w:=w) (ob:=ob) h)
     refine⟨rfl,_,_,_,_,_,yO,le_refl _,fun _=>⟨[],World.ownsRow_nil _ _ _ _,(fun b h=>by cases h),Alike.nil,(fun x h=>by cases h),(fun b h=>by cases h),(fun _ j y h=>by simp at h)⟩⟩
    ·cases he
   ·cases he
  ·cases he
 |val u =>
  have gen:x=.val u->ARel0 w (g.ren ρ) ob' v (.val u):=fun e=>by subst e;exact h
  cases u with
  |bool b =>
   simp only[Q5w]at he;split at he
   ·rename_i c
    cases he;obtain⟨h1,_⟩:=hl;cases h1;have e:v=.bool b:=h;subst e;exact PRel.val _ rfl
   ·exact gen (one _ he)
  |_=>exact gen (one _ he)
 |slc sz xs=>cases one _ he;exact h
 |ref cs=>cases one _ he;exact h
 |opt y=>cases one _ he;exact h
 |kb b=>cases one _ he;exact h
 |_=>cases he
theorem QdC(hF:Fits ob ob' ρ)(ho:Q2w ρ=true){vs:List Value}{cs cs':List AV}{l:Eqs}(h:ARelC w g ob vs cs)(he:QcK ob ob' ρ cs cs'=some l)(hl:Qm l):ARelC w (g.ren ρ) ob' vs cs':=by
 obtain⟨hn,hg⟩:=QeI _ _ _ he hl;refine⟨by rw[h.1,hn],fun j y u hy hu=>?_⟩
 have hj:j<cs.length:=by rw[hn];exact Q8 hu
 obtain⟨l',h1,h2⟩:=hg j _ _ (getElem?_eq_getElem hj) hu;obtain⟨h3,h4⟩:=h.2 j y _ hy (getElem?_eq_getElem hj);exact⟨QeX hF ho h3 h1 h2,h4⟩
theorem Qjn{x x':AV}{l:Eqs}(he:Q5w ob ob' ρ x x'=some l)(hl:Qm l):x'=.dead\/((∀cs,x≠.agg cs)/\∀cs,x≠.tup cs):=by
 have one:∀y,some [(x,y)]=some l->x=y:=fun y hy=>by cases hy;exact hl.1
 have fin:∀y,x=y->((∀cs,y≠.agg cs)/\∀cs,y≠.tup cs)->x'=.dead\/((∀cs,x≠.agg cs)/\∀cs,x≠.tup cs):=fun y h hy=>.inr (h ▸ hy)
 cases x' with
 |dead=>exact .inl rfl
 |box j off =>
  simp only[Q5w]at he;split at he
  ·exact fin _ (one _ he) ⟨(fun cs h=>by cases h),(fun cs h=>by cases h)⟩
  ·cases he
 |iter j =>
  simp only[Q5w]at he;split at he
  ·exact fin _ (one _ he) ⟨(fun cs h=>by cases h),(fun cs h=>by cases h)⟩
  ·cases he
 |row j e' =>
  simp only[Q5w]at he;split at he
  ·split at he
   ·split at he
    ·split at he
     ·exact fin _ (one _ he) ⟨(fun cs h=>by cases h),(fun cs h=>by cases h)⟩
     ·cases he
    ·cases he
     exact fin _ hl.1 ⟨(fun cs h=>by cases h),(fun cs h=>by cases h)⟩
    ·cases he
   ·cases he
  ·cases he
 |val u =>
  cases u with
  |bool b =>
   simp only[Q5w]at he;split at he
   ·exact .inr ⟨(fun cs h=>by cases h),(fun cs h=>by cases h)⟩
   ·exact fin _ (one _ he) ⟨(fun cs h=>by cases h),(fun cs h=>by cases h)⟩
  |_=>exact fin _ (one _ he) ⟨(fun cs h=>by cases h),(fun cs h=>by cases h)⟩
 |slc sz xs=>exact fin _ (one _ he) ⟨(fun cs h=>by cases h),(fun cs h=>by cases h)⟩
 |ref cs=>exact fin _ (one _ he) ⟨(fun cs h=>by cases h),(fun cs h=>by cases h)⟩
 |opt y=>exact fin _ (one _ he) ⟨(fun cs h=>by cases h),(fun cs h=>by cases h)⟩
 |kb b=>exact fin _ (one _ he) ⟨(fun cs h=>by cases h),(fun cs h=>by cases h)⟩
 |_=>cases he
theorem Q8k(hF:Fits ob ob' ρ)(ho:Q2w ρ=true){v:Value}{x x':AV}{l:Eqs}(h:ARel w g ob v x)(he:QaG ob ob' ρ x x'=some l)(hl:Qm l):ARel w (g.ren ρ) ob' v x':=by
 have gen:Q5w ob ob' ρ x x'=some l->ARel w (g.ren ρ) ob' v x':=fun he=>by
  have hx:ARel0 w g ob v x\/x'=.dead:=by
   rcases Qjn he hl with h1|⟨h1,h2⟩
   ·exact .inr h1
   ·left
    cases x<;>first|exact h|exact absurd rfl (h1 _)|exact absurd rfl (h2 _)
  rcases hx with hx|rfl
  ·exact(QeX hF ho hx he hl).to
  ·trivial
 cases x' with
 |agg cs' =>
  simp only[QaG]at he;split at he
  ·obtain⟨vs,rfl,hc⟩:=h
   exact⟨vs,rfl,QdC hF ho hc he hl⟩
  ·cases he
 |_=>exact gen he
theorem Mem.ren(M:Mem w g ob)(hF:Fits ob ob' ρ)(ho:Q2w ρ=true):Mem w (g.ren ρ) ob':=by
 have get:∀(j:Nat) o,ob'[j]?=some o->∃i,ρ[j]?=some i/\∃l,Q3y ob ob' ρ i o=some l/\Qm l:=fun j o h=>by
  have hj:j<ρ.length:=hF.1 ▸ Q8 h;exact⟨_,getElem?_eq_getElem hj,hF.2 j _ o (getElem?_eq_getElem hj) h⟩
 refine⟨fun j cs' h=>?_,fun j cs' h k u hk=>?_,fun j y h=>?_,fun b j h=>?_,fun b o hA=>⟨(M.imm b o hA).1,fun j h hs=>?_⟩,fun j et sz fz e xs h=>?_,fun b hs=>?_,fun b b' j h1 h2 hs jd=>?_⟩
 ·obtain⟨i,hi,l,h1,h2⟩:=get j _ h
  cases i with
  |none=>cases h1
  |some i =>
   simp only[Q3y]at h1;split at h1<;>first|(rename_i j4 _;cases j4;done)|skip
   ·rename_i cs2 cs j4 jQ
    cases j4;obtain⟨hG,cur,T,h3,h4⟩:=M.box i cs jQ;exact⟨by rw[Q29 hi];exact Q5B ho hi hG,cur,T,by rw[Q29 hi];exact h3,QdC hF ho h4 h1 h2⟩
   ·cases h1
 ·obtain⟨i,hi,l,h1,h2⟩:=get j _ h
  cases i with
  |none=>cases h1
  |some i =>
   simp only[Q3y]at h1;split at h1<;>first|(rename_i j4 _;cases j4;done)|skip
   ·rename_i cs2 cs j4 jQ
    cases j4;cases h1;obtain⟨h3,_⟩:=h2;cases h3;have:=M.fbox i _ jQ k u hk
    rw[Q29 hi];exact this
   ·cases h1
 ·obtain⟨i,hi,l,h1,h2⟩:=get j _ h
  cases i with
  |none=>cases h1
  |some i =>
   simp only[Q3y]at h1;split at h1<;>first|(rename_i j4 _;cases j4;done)|skip
   ·rename_i j4 jQ
    cases j4;cases h1;obtain⟨h3,h4,_⟩:=h2;cases h3;cases h4;obtain⟨hG,h5⟩:=M.iter i _ jQ;exact⟨by rw[Q29 hi];exact Q5B ho hi hG,by rw[Q29 hi];exact h5⟩
   ·rename_i j4 jQ
    cases j4;cases h1;obtain⟨h3,_⟩:=h2;obtain rfl:=Q6N (AV.tup.inj h3);obtain⟨hG,h5⟩:=M.iter i _ jQ;exact⟨by rw[Q29 hi];exact Q5B ho hi hG,by rw[Q29 hi];exact h5⟩
   ·rename_i j4 jQ
    cases j4;split at h1
    ·rename_i hm
     cases h1;obtain⟨h3,h4,_⟩:=h2;obtain rfl:=Q6N (AV.tup.inj h3);obtain rfl:=QbO (AV.tup.inj h4);obtain⟨hG,h5,sn',h6,h7,_⟩:=M.iter i _ jQ;exact⟨by rw[Q29 hi];exact Q5B ho hi hG,hF.1 ▸ Q8 hm,sn',by rw[Q29 hi,Q29 hm];exact h6,h7,fun _ _ h=>by cases h⟩
    ·cases h1
   ·cases h1
 ·obtain⟨i,hi,hG⟩:=Q33 h
  exact⟨(M.own b i hG).1,hF.1 ▸ Q8 hi⟩
 ·obtain⟨i,hi,hG⟩:=Q33 h
  obtain⟨et,sz,e,xs,h1,h2⟩:=(M.imm b o hA).2 i hG (by rw[<-Q3R ho hi hG];exact hs)
  obtain⟨fz',e',h3,h4⟩:=hF.row hi h1;obtain rfl:=h4 rfl;exact⟨et,sz,e',xs,h3,h2⟩
 ·obtain⟨i,hi,l,h1,h2⟩:=get j _ h
  cases i with
  |none =>
   simp only[Q3y]at h1;split at h1
   ·rename_i hk
    cases h1;obtain⟨h3,_⟩:=h2;cases h3;exact⟨hk.1,fun x h=>by cases h⟩
   ·cases h1
  |some i =>
   simp only[Q3y]at h1;split at h1<;>first|(rename_i j4 _;cases j4;done)|skip
   ·rename_i j4 jQ
    cases j4;split at h1
    ·rename_i hk
     obtain⟨rfl,rfl,_⟩:=hk;cases h1;obtain⟨h3,_⟩:=h2;cases h3;exact M.roww i _ _ _ _ _ jQ
    ·cases h1
   ·cases h1
 ·simp only[Gh.ren,Bool.and_eq_true]at hs
  obtain⟨j,hj⟩:=Option.isSome_iff_exists.1 hs.2;obtain⟨i,et,sz,fz,e,xs,h1,h2⟩:=M.nsub b hs.1;obtain⟨i',hi,hG⟩:=Q33 (g:=g) (ρ:=ρ) hj;rw[h1]at hG;obtain rfl:i=i':=by simpa using hG
  obtain⟨fz',e',h3,_⟩:=hF.row hi h2;exact⟨j,_,_,_,_,_,hj,h3⟩
 ·obtain⟨i,hi,hG⟩:=Q33 h1
  obtain⟨i',c7,vT⟩:=Q33 h2
  obtain rfl:i=i':=by
   have:=hi.symm.trans c7
   simpa using this
  exact M.uniq b b' i hG vT (by rw[<-Q3R ho hi hG];exact hs) (by rw[<-Q3R ho c7 vT];exact jd)
end
theorem Q1P{i:Nat}:∀{ρ:List Nat}{j:Nat},Q1R i ρ=some j->ρ[j]?=some i
 | [],j,h=>by cases h
 |k::r,j,h=>by
  simp only[Q1R]at h;split at h
  ·rename_i e
   cases h;subst e;rfl
  ·obtain⟨j',h1,rfl⟩:=map_eq_some_iff.1 h
   simpa using Q1P h1
theorem Q7y{i:Nat}:∀{ρ:List Nat}{j:Nat},ρ[j]?=some i->∃j',Q1R i ρ=some j'
 | [],j,h=>by simp at h
 |k::r,j,h=>by
  simp only[Q1R];split
  ·exact⟨0,rfl⟩
  ·rename_i jI
   cases j with
   |zero=>exact absurd (by simpa using h.symm) jI
   |succ j =>
    obtain⟨j',h1⟩:=Q7y (ρ:=r) (j:=j) (by simpa using h)
    exact⟨j'+1,by rw[h1];rfl⟩
section
variable {ob:List Ob}{ρ:List Nat}
theorem Q3s{j i:Nat}(h:ρ[j]?=some i):(ρ.map some)[j]?=some (some i):=by rw[getElem?_map,h];rfl
theorem Qni{j i:Nat}(h:(ρ.map some)[j]?=some (some i)):ρ[j]?=some i:=by
 rw[getElem?_map,map_eq_some_iff]at h;obtain⟨k,h1,h2⟩:=h;cases h2;exact h1
theorem Q4H(h:Q2w (ρ.map some)=true){i j:Nat}(hj:ρ[j]?=some i):Q1R i ρ=some j:=by
 obtain⟨j',hH⟩:=Q7y hj;have h1:=Q6I h (Q3s hj);have h2:=Q6I h (Q3s (Q1P hH));rw[h1]at h2;cases h2;exact hH
abbrev Q4p(ob:List Ob)(ρ:List Nat):List Ob:=ρ.map fun i=>inO ob ρ (ob.getD i .gone)
theorem Q6E{i j:Nat}(hj:ρ[j]?=some i):(Q4p ob ρ)[j]?=some (inO ob ρ (ob.getD i .gone)):=by
 simp only[Q4p,getElem?_map,hj,map_some]
theorem Q6Z{i:Nat}{o:Ob}(h:ob[i]?=some o):ob.getD i .gone=o:=by rw[getD_eq_getElem?_getD,h];rfl
theorem Q4t(x:AV):∃l,Q5w ob (Q4p ob ρ) (ρ.map some) x (inC ob ρ x)=some l/\Qm l:=by
 have dead:∃l,Q5w ob (Q4p ob ρ) (ρ.map some) x .dead=some l/\Qm l:=⟨[],rfl,trivial⟩;cases x with
 |val v=>cases v<;>exact⟨_,rfl,rfl,trivial⟩
 |slc sz xs=>exact⟨_,rfl,rfl,trivial⟩
 |ref cs=>exact⟨_,rfl,rfl,trivial⟩
 |opt y=>exact⟨_,rfl,rfl,trivial⟩
 |kb b=>exact⟨_,rfl,rfl,trivial⟩
 |box i o =>
  simp only[inC];split
  ·rename_i j hj
   exact⟨[(.box i o,.box i o)],by simp only[Q5w,Q3s (Q1P hj)],rfl,trivial⟩
  ·exact dead
 |iter i =>
  simp only[inC];split
  ·rename_i j hj
   exact⟨[(.iter i,.iter i)],by simp only[Q5w,Q3s (Q1P hj)],rfl,trivial⟩
  ·exact dead
 |row i e =>
  simp only[inC];split
  ·rename_i j hj
   split
   ·rename_i et sz fz e2 xs jQ
    split
    ·rename_i he
     subst he;refine⟨[(.row i e2,.row i e2)],?_,rfl,trivial⟩;have h1:=Q6E (ob:=ob) (Q1P hj);rw[Q6Z jQ]at h1;simp only[Q5w,h1,inO,if_true,Q3s (Q1P hj),jQ]
    ·exact dead
   ·exact dead
  ·exact dead
 |_=>exact dead
theorem Qd9:∀(xs:List AV),∃l,QcK ob (Q4p ob ρ) (ρ.map some) xs (xs.map (inC ob ρ))=some l/\Qm l
 | []=>⟨[],rfl,trivial⟩
 |x::r=>by
  obtain⟨l1,h1,h2⟩:=Q4t (ob:=ob) (ρ:=ρ) x;obtain⟨l2,h3,h4⟩:=Qd9 r;exact⟨l1++l2,by simp only[map_cons,QcK,h1,h3,both],Q3M.2 ⟨h2,h4⟩⟩
theorem QoN(x:AV):∃l,QaG ob (Q4p ob ρ) (ρ.map some) x (inA ob ρ x)=some l/\Qm l:=by
 cases x with
 |agg cs=>exact Qd9 cs
 |val v=>exact Q4t (ob:=ob) (ρ:=ρ) (.val v)
 |slc sz xs=>exact Q4t (ob:=ob) (ρ:=ρ) (.slc sz xs)
 |ref cs=>exact Q4t (ob:=ob) (ρ:=ρ) (.ref cs)
 |opt y=>exact Q4t (ob:=ob) (ρ:=ρ) (.opt y)
 |kb b=>exact Q4t (ob:=ob) (ρ:=ρ) (.kb b)
 |box i o =>
  obtain⟨l,h1,h2⟩:=Q4t (ob:=ob) (ρ:=ρ) (.box i o);refine⟨l,?_,h2⟩;show QaG _ _ _ _ (inC ob ρ (.box i o))=_;revert h1;simp only[inC];split<;>exact id
 |iter i =>
  obtain⟨l,h1,h2⟩:=Q4t (ob:=ob) (ρ:=ρ) (.iter i);refine⟨l,?_,h2⟩;show QaG _ _ _ _ (inC ob ρ (.iter i))=_;revert h1;simp only[inC];split<;>exact id
 |row i e =>
  obtain⟨l,h1,h2⟩:=Q4t (ob:=ob) (ρ:=ρ) (.row i e);refine⟨l,?_,h2⟩;show QaG _ _ _ _ (inC ob ρ (.row i e))=_;revert h1;simp only[inC];split<;>(try split)<;>(try split)<;>exact id
 |_=>exact⟨[],rfl,trivial⟩
theorem Q9D(ht:there ob ρ=true):Fits ob (Q4p ob ρ) (ρ.map some):=by
 refine⟨by simp,fun j i o hi ho=>?_⟩
 rw[getElem?_map,map_eq_some_iff]at hi;obtain⟨k,hk,rfl⟩:=hi;rw[Q6E hk]at ho;cases ho;have h:=all_eq_true.1 ht k (mem_of_getElem? hk);cases jQ:ob[k]? with
 |none=>rw[jQ]at h;cases h
 |some q =>
  rw[Q6Z jQ];cases q with
  |gone=>rw[jQ]at h;cases h
  |box cs=>simp only[inO,Q3y,jQ];exact Qd9 cs
  |fbox cs=>exact⟨[(.slc 0 cs,.slc 0 cs)],by simp only[inO,Q3y,jQ],rfl,trivial⟩
  |row et sz fz e xs=>exact⟨[(.slc 0 xs,.slc 0 xs)],by simp only[inO,Q3y,jQ];simp,rfl,trivial⟩
  |iter y =>
   cases y with
   |str s p=>exact⟨[(.val (.string s),.val (.string s)),(.box 0 p,.box 0 p)],by simp only[inO,Q3y,jQ],rfl,rfl,trivial⟩
   |map es=>exact⟨[(.tup (Q5h es),.tup (Q5h es))],by simp only[inO,Q3y,jQ],rfl,trivial⟩
   |mit m es sn c=>rw[jQ]at h;cases h
theorem Qdu{w:World}{g:Gh}(ho:Q2w (ρ.map some)=true)(ht:there ob ρ=true){v:Value}{x:AV}(h:ARel w g ob v x):ARel w (g.ren (ρ.map some)) (Q4p ob ρ) v (inA ob ρ x):=by
 obtain⟨l,h1,h2⟩:=QoN (ob:=ob) (ρ:=ρ) x;exact Q8k (Q9D ht) ho h h1 h2
theorem QfL{w:World}{g:Gh}(M:Mem w g ob)(ho:Q2w (ρ.map some)=true)(ht:there ob ρ=true):Mem w (g.ren (ρ.map some)) (Q4p ob ρ):=M.ren (Q9D ht) ho
end
def Gh.out(g g':Gh)(ρ:List Nat)(n:Nat):Gh where
 A:=g'.A
 G b:=match g'.G b with
  |some j=>some (Q3d ρ n j)
  |none=>match g.G b with
   |some id=>match Q1R id ρ with
    |some _=>none
    |none=>some id
   |none=>none
 loc id:=match Q1R id ρ with
  |some j=>g'.loc j
  |none=>if id<n then g.loc id else g'.loc (ρ.length+(id-n))
 sub b:=match g'.G b with
  |some _=>g'.sub b
  |none=>match g.G b with
   |some id=>match Q1R id ρ with
    |some _=>false
    |none=>g.sub b
   |none=>false
section
variable {w w':World}{g g':Gh}{ob ob':List Ob}{ρ:List Nat}
structure CallAt (w:World) (g:Gh) (ob:List Ob) (ρ:List Nat) (w':World) (g':Gh) (ob':List Ob):Prop where
 once:Q2w (ρ.map some)=true
 there:there ob ρ=true
 len:ρ.length<=ob'.length
 m:Mem w g ob
 m':Mem w' g' ob'
 st:Step w (g.ren (ρ.map some)) (Q4p ob ρ) w' g' ob'
theorem CallAt.lt(C:CallAt w g ob ρ w' g' ob'){i j:Nat}(hj:ρ[j]?=some i):i<ob.length:=by
 have h:=all_eq_true.1 C.there i (mem_of_getElem? hj);cases jQ:ob[i]? with
 |none=>rw[jQ]at h;cases h
 |some _=>exact Q8 jQ
theorem CallAt.outI_lt(C:CallAt w g ob ρ w' g' ob'){j:Nat}(hj:j<ob'.length):Q3d ρ ob.length j<ob.length+(ob'.length-ρ.length):=by
 unfold Q3d;split
 ·rename_i h
  have h1:ρ[j]?=some (ρ.getD j 0):=by rw[getD_eq_getElem?_getD,getElem?_eq_getElem h];rfl
  have:=C.lt h1
  omega
 ·have:=C.len;omega
theorem CallAt.outI_at(C:CallAt w g ob ρ w' g' ob')(j:Nat):(j<ρ.length/\ρ[j]?=some (Q3d ρ ob.length j)/\Q3d ρ ob.length j<ob.length)\/(ρ.length<=j/\Q3d ρ ob.length j=ob.length+(j-ρ.length)):=by
 unfold Q3d;split
 ·rename_i h
  have h1:ρ[j]?=some (ρ.getD j 0):=by rw[getD_eq_getElem?_getD,getElem?_eq_getElem h];rfl
  exact .inl ⟨h,h1,C.lt h1⟩
 ·exact .inr ⟨by omega,rfl⟩
theorem CallAt.outI_inj(C:CallAt w g ob ρ w' g' ob'){j j':Nat}(h:Q3d ρ ob.length j=Q3d ρ ob.length j'):j=j':=by
 rcases C.outI_at j with ⟨h1,h2,h3⟩|⟨h1,h2⟩<;>rcases C.outI_at j' with ⟨h4,h5,h6⟩|⟨h4,h5⟩
 ·rw[h]at h2
  have:=(Q4H C.once h2).symm.trans (Q4H C.once h5)
  exact Option.some.inj this
 ·omega
 ·omega
 ·omega
theorem CallAt.outI_not(C:CallAt w g ob ρ w' g' ob'){j:Nat}(hp:Q1R (Q3d ρ ob.length j) ρ=none)(hl:Q3d ρ ob.length j<ob.length):False:=by
 rcases C.outI_at j with ⟨h1,h2,h3⟩|⟨h1,h2⟩
 ·rw[Q4H C.once h2]at hp;cases hp
 ·omega
theorem CallAt.back_len(C:CallAt w g ob ρ w' g' ob'):(Q5j ob ρ ob').length=ob.length+(ob'.length-ρ.length):=by simp[Q5j]
theorem CallAt.back_out(C:CallAt w g ob ρ w' g' ob'){j:Nat}{o:Ob}(hj:ob'[j]?=some o):(Q5j ob ρ ob')[Q3d ρ ob.length j]?=some (Qgg ob ρ j o):=by
 have hl:=Q8 hj;have h1:=C.outI_lt hl;simp only[Q5j,getElem?_map,List.getElem?_range h1,map_some];unfold Q3d;by_cases h:j<ρ.length
 ·rw[if_pos h]
  have h2:ρ[j]?=some (ρ.getD j 0):=by rw[getD_eq_getElem?_getD,getElem?_eq_getElem h];rfl
  simp only[Q4H C.once h2,Q6Z hj]
 ·rw[if_neg h]
  have h2:Q1R (ob.length+(j-ρ.length)) ρ=none:=by
   cases hp:Q1R (ob.length+(j-ρ.length)) ρ with
   |none=>rfl
   |some k=>have:=C.lt (Q1P hp);omega
  have h3:¬(ob.length+(j-ρ.length)<ob.length):=by omega
  have h4:ρ.length+(ob.length+(j-ρ.length)-ob.length)=j:=by omega
  simp only[h2,h3,if_false,h4,Q6Z hj]
theorem CallAt.back_own(C:CallAt w g ob ρ w' g' ob'){id:Nat}(hid:id<ob.length)(hp:Q1R id ρ=none):(Q5j ob ρ ob')[id]?=ob[id]?:=by
 have h1:id<ob.length+(ob'.length-ρ.length):=by omega
 simp only[Q5j,getElem?_map,List.getElem?_range h1,map_some,hp,hid,if_true];rw[getElem?_eq_getElem hid,getD_eq_getElem?_getD,getElem?_eq_getElem hid];rfl
theorem CallAt.back_cases(C:CallAt w g ob ρ w' g' ob'){id:Nat}{o:Ob}(h:(Q5j ob ρ ob')[id]?=some o) :
  (∃j o',ob'[j]?=some o'/\id=Q3d ρ ob.length j/\o=Qgg ob ρ j o')\/(id<ob.length/\Q1R id ρ=none/\ob[id]?=some o):=by
 have jB:=Q8 h;rw[C.back_len]at jB;cases hp:Q1R id ρ with
 |some j =>
  left
  have hj:=Q1P hp;have hl:j<ob'.length:=Nat.lt_of_lt_of_le (Q8 hj) C.len
  have e:Q3d ρ ob.length j=id:=by
   unfold Q3d;rw[if_pos (Q8 hj),getD_eq_getElem?_getD,hj];rfl
  refine⟨j,_,getElem?_eq_getElem hl,e.symm,?_⟩;have h2:=C.back_out (getElem?_eq_getElem hl);rw[e,h]at h2;exact Option.some.inj h2
 |none =>
  by_cases hid:id<ob.length
  ·rw[C.back_own hid hp]at h
   exact .inr ⟨hid,rfl,h⟩
  ·left
   have hl:ρ.length+(id-ob.length)<ob'.length:=by have:=C.len;omega
   have e:Q3d ρ ob.length (ρ.length+(id-ob.length))=id:=by
    unfold Q3d;rw[if_neg (by omega)];omega
   refine⟨_,_,getElem?_eq_getElem hl,e.symm,?_⟩;have h2:=C.back_out (getElem?_eq_getElem hl);rw[e,h]at h2;exact Option.some.inj h2
theorem CallAt.loc_out(C:CallAt w g ob ρ w' g' ob'){j:Nat}:(g.out g' ρ ob.length).loc (Q3d ρ ob.length j)=g'.loc j:=by
 unfold Q3d;by_cases h:j<ρ.length
 ·rw[if_pos h]
  have h2:ρ[j]?=some (ρ.getD j 0):=by rw[getD_eq_getElem?_getD,getElem?_eq_getElem h];rfl
  simp only[Gh.out,Q4H C.once h2]
 ·rw[if_neg h]
  have h2:Q1R (ob.length+(j-ρ.length)) ρ=none:=by
   cases hp:Q1R (ob.length+(j-ρ.length)) ρ with
   |none=>rfl
   |some k=>have:=C.lt (Q1P hp);omega
  have h3:¬(ob.length+(j-ρ.length)<ob.length):=by omega
  have h4:ρ.length+(ob.length+(j-ρ.length)-ob.length)=j:=by omega
  simp only[Gh.out,h2,h3,if_false,h4]
theorem Q70{j b:Nat}(h:g'.G b=some j):(g.out g' ρ ob.length).sub b=g'.sub b:=by simp only[Gh.out,h]
theorem Q6i{id b:Nat}(h:g'.G b=none)(h1:g.G b=some id)(hp:Q1R id ρ=none):(g.out g' ρ ob.length).sub b=g.sub b:=by simp only[Gh.out,h,h1,hp]
theorem Q9i{j b:Nat}(h:g'.G b=some j):(g.out g' ρ ob.length).G b=some (Q3d ρ ob.length j):=by simp only[Gh.out,h]
theorem CallAt.own_G(C:CallAt w g ob ρ w' g' ob'){b id:Nat}(h:g.G b=some id)(hp:Q1R id ρ=none) :
  (g.ren (ρ.map some)).G b=none/\g'.G b=none/\(g.out g' ρ ob.length).G b=some id/\w'.heap[b]?=w.heap[b]?:=by
 have h1:(g.ren (ρ.map some)).G b=none:=by
  cases hr:(g.ren (ρ.map some)).G b with
  |none=>rfl
  |some j =>
   obtain⟨i,hi,hG⟩:=Q33 hr;rw[h]at hG;cases hG;obtain⟨j',hH⟩:=Q7y (Qni hi);rw[hp]at hH;cases hH
 have hb:=(C.m.own b id h).1
 have h2:g'.G b=none:=by
  cases hr:g'.G b with
  |none=>rfl
  |some j =>
   rcases C.st.own b j hr with ⟨k,hk⟩|hk
   ·rw[h1]at hk;cases hk
   ·omega
 exact⟨h1,h2,by simp only[Gh.out,h2,h,hp],C.st.keep b hb h1⟩
theorem CallAt.G_cases(C:CallAt w g ob ρ w' g' ob'){b id:Nat}(h:(g.out g' ρ ob.length).G b=some id) :
  (∃j,g'.G b=some j/\id=Q3d ρ ob.length j)\/(g'.G b=none/\g.G b=some id/\Q1R id ρ=none):=by
 simp only[Gh.out]at h;cases h1:g'.G b with
 |some j=>rw[h1]at h;exact .inl ⟨j,rfl,(Option.some.inj h).symm⟩
 |none =>
  rw[h1]at h;cases h2:g.G b with
  |none=>rw[h2]at h;cases h
  |some k =>
   rw[h2]at h;cases h3:Q1R k ρ with
   |some _=>simp only[h3]at h;cases h
   |none=>simp only[h3]at h;cases h;exact .inr ⟨rfl,rfl,h3⟩
theorem Qme{j:Nat}{o:Ob}(h:Q6p (some o)):Q6p (some (Qgg ob ρ j o)):=by cases o<;>first|exact h.elim|trivial
theorem QnY{k:Bool}{j:Nat}{o:Ob}(h:Q8w k (some o)):Q8w k (some (Qgg ob ρ j o)):=by rcases o with _|_|_|(_|_|_)|_<;>first|exact h.elim|exact h
theorem CallAt.isb_out(C:CallAt w g ob ρ w' g' ob'){j:Nat}(h:Q6p ob'[j]?):Q6p (Q5j ob ρ ob')[Q3d ρ ob.length j]?:=by
 have hl:=Q4j h;rw[getElem?_eq_getElem hl]at h;rw[C.back_out (getElem?_eq_getElem hl)];exact Qme h
theorem CallAt.isi_out(C:CallAt w g ob ρ w' g' ob'){k:Bool}{j:Nat}(h:Q8w k ob'[j]?):Q8w k (Q5j ob ρ ob')[Q3d ρ ob.length j]?:=by
 have hl:=Q5b h;rw[getElem?_eq_getElem hl]at h;rw[C.back_out (getElem?_eq_getElem hl)];exact QnY h
theorem Q8e{i j:Nat}(hj:ρ[j]?=some i)(n:Nat):Q3d ρ n j=i:=by
 unfold Q3d;rw[if_pos (Q8 hj),getD_eq_getElem?_getD,hj];rfl
theorem CallAt.ext(C:CallAt w g ob ρ w' g' ob'):Ext w g ob w' (g.out g' ρ ob.length) (Q5j ob ρ ob'):=by
 refine⟨C.st.ext.A,fun id hid=>?_,fun id hb=>?_,fun id hb=>?_,fun id et sz fz e xs hr=>?_,fun b id hG hs=>?_⟩
 rotate_right
 ·obtain⟨et,sz,fz,fz',e,xs,xs',h1,h2⟩:=hs
  cases hp:Q1R id ρ with
  |none =>
   obtain⟨h3,h4,h5,h6⟩:=C.own_G hG hp;refine⟨Q6i h4 hG hp,fun _ o hA=>?_⟩
   rcases C.st.imm b o hA with h7|⟨k,h7⟩|h7
   ·exact h7
   ·rw[h3]at h7;cases h7
   ·have:=(C.m.own b id hG).1;omega
  |some j =>
   have hj:=Q1P hp;have h3:(Q4p ob ρ)[j]?=some (.row et sz fz 0 xs):=by rw[Q6E hj,Q6Z h1];rfl
   obtain⟨fz2,e2,xs2,h4,_,h5⟩:=C.st.ext.row j _ _ _ _ _ h3;have h6:=C.back_out h4;rw[Q8e hj,h2]at h6;have h7:Q9u ob ρ j=e:=by simp only[Q9u,hj,Qp2,h1]
   simp only[Qgg,h7]at h6
   have h8:e2=0:=by
    have h9:e=e+e2:=by injection h6 with h6;injection h6
    omega
   subst h8;have p4:=Q5B (g:=g) C.once (Q3s hj) hG;obtain⟨h9,q9⟩:=C.st.ext.sub b j p4 ⟨_,_,_,_,_,_,_,h3,h4⟩;have jV:=Q3R (g:=g) C.once (Q3s hj) hG;refine⟨(Q70 ((h5 rfl).G p4)).trans (h9.trans jV),fun qu o hA=>q9 (jV.trans qu) o hA⟩
 ·cases hp:Q1R id ρ with
  |none=>simp only[Gh.out,hp,hid,if_true]
  |some j =>
   have hj:=Q1P hp;simp only[Gh.out,hp];rw[C.st.ext.loc j (by simpa using Q8 hj),Q29 (Q3s hj)]
 ·cases hp:Q1R id ρ with
  |none=>rw[C.back_own (Q4j hb) hp];exact hb
  |some j =>
   have hj:=Q1P hp;have:=C.isb_out (C.st.ext.isb j ((Q9D C.there).isB (Q3s hj) hb))
   rw[Q8e hj]at this;exact this
 ·cases hp:Q1R id ρ with
  |none=>rw[C.back_own (Q5b hb) hp];exact hb
  |some j =>
   have hj:=Q1P hp;have:=C.isi_out (C.st.ext.isi j ((Q9D C.there).isI (Q3s hj) hb))
   rw[Q8e hj]at this;exact this
 ·cases hp:Q1R id ρ with
  |none =>
   refine⟨fz,e,xs,by rw[C.back_own (Q8 hr) hp];exact hr,le_refl _,fun _=>.inl ⟨rfl,fun b hb=>?_⟩⟩
   obtain⟨_,_,h3,h4⟩:=C.own_G hb hp;exact⟨h3,h4⟩
  |some j =>
   have hj:=Q1P hp;have h1:(Q4p ob ρ)[j]?=some (.row et sz fz 0 xs):=by rw[Q6E hj,Q6Z hr];rfl
   obtain⟨fz',e',xs',h2,h3,h4⟩:=C.st.ext.row j _ _ _ _ _ h1;have h5:=C.back_out h2;rw[Q8e hj]at h5;have h6:Q9u ob ρ j=e:=by simp only[Q9u,hj,Qp2,hr]
   refine⟨fz',e+e',xs',by rw[h5,<-h6];rfl,by omega,fun he=>?_⟩
   refine(h4 (by omega)).turn (fun b hb=>⟨Q5B C.once (Q3s hj) hb,Q3R C.once (Q3s hj) hb⟩) (fun b _ h9=>?_) rfl
   rw[Q9i h9,Q8e hj]
theorem CallAt.row_out(C:CallAt w g ob ρ w' g' ob'){j et sz:Nat}{v:Value}{xs:List AV}(h:RowV w' g' j et sz v xs):RowV w' (g.out g' ρ ob.length) (Q3d ρ ob.length j) et sz v xs:=by
 obtain⟨ys,h1,h2,h3,h4,h5⟩:=h;exact⟨ys,h1,fun b hb=>Q9i (h2 b hb),h3,h4,h5.ext h2 fun b hb=>⟨Q9i hb,Q70 hb,fun _=>⟨rfl,fun _ h=>h⟩⟩⟩
theorem CallAt.rel0(C:CallAt w g ob ρ w' g' ob'){v:Value}{x:AV}(h:ARel0 w' g' ob' v x):ARel0 w' (g.out g' ρ ob.length) (Q5j ob ρ ob') v (Qlc ob ρ x):=by
 cases x with
 |box j o=>exact⟨by rw[C.loc_out];exact h.1,C.isb_out h.2⟩
 |iter j=>obtain⟨k,h1,h2⟩:=h;exact⟨k,by rw[C.loc_out];exact h1,C.isi_out h2⟩
 |row j e =>
  obtain⟨h0,et,sz,fz,e',xs,h1,h2,h3⟩:=h;refine⟨h0,et,sz,fz,Q9u ob ρ j+e',xs,C.back_out h1,by omega,fun he=>C.row_out (h3 (by omega))⟩
 |rowk j e k =>
  obtain⟨h0,et,sz,fz,e',xs,h1,h2,h3⟩:=h;refine⟨h0,et,sz,fz,Q9u ob ρ j+e',xs,C.back_out h1,by omega,fun he=>?_⟩
  obtain⟨h4,h5,h6⟩:=h3 (by omega)
  exact⟨h4,h5,C.row_out h6⟩
 |rptr j e i o =>
  obtain⟨h0,et,sz,fz,e',xs,h1,h2,h3⟩:=h;refine⟨h0,et,sz,fz,Q9u ob ρ j+e',xs,C.back_out h1,by omega,fun he=>?_⟩
  obtain⟨b,c,h4,h5,h6,h7⟩:=h3 (by omega)
  exact⟨b,c,h4,h5,h6,C.row_out h7⟩
 |_=>exact h
theorem CallAt.relC(C:CallAt w g ob ρ w' g' ob'){vs:List Value}{cs:List AV}(h:ARelC w' g' ob' vs cs):ARelC w' (g.out g' ρ ob.length) (Q5j ob ρ ob') vs (cs.map (Qlc ob ρ)):=by
 refine⟨by simp[h.1],fun j y u hy hu=>?_⟩
 rw[getElem?_map,map_eq_some_iff]at hu;obtain⟨u',h1,rfl⟩:=hu;exact⟨C.rel0 (h.2 j y u' hy h1).1,(h.2 j y u' hy h1).2⟩
theorem CallAt.rel1(C:CallAt w g ob ρ w' g' ob'){v:Value}{x:AV}(h:ARel1 w' g' ob' v x):ARel1 w' (g.out g' ρ ob.length) (Q5j ob ρ ob') v (Qmk ob ρ x):=by
 cases x with
 |agg cs=>obtain⟨vs,rfl,h⟩:=h;exact⟨vs,rfl,C.relC h⟩
 |tup _=>exact(show False from h).elim
 |val a=>exact C.rel0 (x:=.val a) h
 |slc a b=>exact C.rel0 (x:=.slc a b) h
 |ref a=>exact C.rel0 (x:=.ref a) h
 |opt a=>exact C.rel0 (x:=.opt a) h
 |box a b=>exact C.rel0 (x:=.box a b) h
 |row a b=>exact C.rel0 (x:=.row a b) h
 |rowk a b c=>exact C.rel0 (x:=.rowk a b c) h
 |rptr a b c d=>exact C.rel0 (x:=.rptr a b c d) h
 |kb a=>exact C.rel0 (x:=.kb a) h
 |iter a=>exact C.rel0 (x:=.iter a) h
 |dead=>trivial
theorem CallAt.rel(C:CallAt w g ob ρ w' g' ob'){v:Value}{x:AV}(h:ARel w' g' ob' v x):ARel w' (g.out g' ρ ob.length) (Q5j ob ρ ob') v (QlP ob ρ x):=by
 cases x with
 |tup xs =>
  obtain⟨vs,rfl,h1,h2⟩:=h;refine⟨vs,rfl,by simp[h1],fun j y u hy hu=>?_⟩
  rw[getElem?_map,map_eq_some_iff]at hu;obtain⟨u',h3,rfl⟩:=hu;exact C.rel1 (h2 j y u' hy h3)
 |agg cs=>exact(C.rel1 (x:=.agg cs) h).to
 |val a=>exact(C.rel1 (x:=.val a) h).to
 |slc a b=>exact(C.rel1 (x:=.slc a b) h).to
 |ref a=>exact(C.rel1 (x:=.ref a) h).to
 |opt a=>exact(C.rel1 (x:=.opt a) h).to
 |box a b=>exact(C.rel1 (x:=.box a b) h).to
 |row a b=>exact(C.rel1 (x:=.row a b) h).to
 |rowk a b c=>exact(C.rel1 (x:=.rowk a b c) h).to
 |rptr a b c d=>exact(C.rel1 (x:=.rptr a b c d) h).to
 |kb a=>exact(C.rel1 (x:=.kb a) h).to
 |iter a=>exact(C.rel1 (x:=.iter a) h).to
 |dead=>trivial
theorem CallAt.mem(C:CallAt w g ob ρ w' g' ob'):Mem w' (g.out g' ρ ob.length) (Q5j ob ρ ob'):=by
 have E:=C.ext;refine⟨fun id cs h=>?_,fun id cs h k u hk=>?_,fun id y h=>?_,fun b id h=>?_,fun b o hA=>?_,fun id et sz fz e xs h=>?_,fun b hs=>?_,fun b b' id h1 h2 hs jd=>?_⟩
 ·rcases C.back_cases h with ⟨j,o',h1,rfl,h2⟩|⟨hid,hp,h1⟩
  ·rcases o' with _|_|_|(_|_|_)|_<;>cases h2
   rename_i cs';obtain⟨hG,cur,T,h3,h4⟩:=C.m'.box j cs' h1;exact⟨by rw[C.loc_out];exact Q9i hG,cur,T,by rw[C.loc_out];exact h3,C.relC h4⟩
  ·obtain⟨hG,cur,T,h3,h4⟩:=C.m.box id cs h1
   obtain⟨_,_,h5,h6⟩:=C.own_G hG hp;have hl:(g.out g' ρ ob.length).loc id=g.loc id:=E.loc id hid;exact⟨by rw[hl];exact h5,cur,T,by rw[hl,h6];exact h3,h4.ext E⟩
 ·rcases C.back_cases h with ⟨j,o',h1,rfl,h2⟩|⟨hid,hp,h1⟩
  ·rcases o' with _|_|_|(_|_|_)|_<;>cases h2
   rw[C.loc_out];exact C.m'.fbox j _ h1 k u hk
  ·obtain⟨hA,y,h3,h4⟩:=C.m.fbox id cs h1 k u hk
   have hl:(g.out g' ρ ob.length).loc id=g.loc id:=E.loc id hid;rw[hl];exact⟨(E.A _ _ hA).1,y,by rw[(E.A _ _ hA).2];exact h3,h4.keep E.A⟩
 ·rcases C.back_cases h with ⟨j,o',h1,rfl,h2⟩|⟨hid,hp,h1⟩
  ·rcases o' with _|_|_|(_|_|_)|_<;>cases h2
   ·obtain⟨hG,h3⟩:=C.m'.iter j _ h1
    exact⟨by rw[C.loc_out];exact Q9i hG,by rw[C.loc_out];exact h3⟩
   ·obtain⟨hG,h3⟩:=C.m'.iter j _ h1
    exact⟨by rw[C.loc_out];exact Q9i hG,by rw[C.loc_out];exact h3⟩
   ·obtain⟨hG,h3,sn',h4,h5⟩:=C.m'.iter j _ h1
    exact⟨by rw[C.loc_out];exact Q9i hG,by rw[C.back_len];exact C.outI_lt h3,sn',by rw[C.loc_out,C.loc_out];exact h4,h5⟩
  ·obtain⟨hG,h3⟩:=C.m.iter id y h1
   obtain⟨_,_,h5,h6⟩:=C.own_G hG hp;have hl:(g.out g' ρ ob.length).loc id=g.loc id:=E.loc id hid;exact⟨by rw[hl];exact h5,h3.at E.A E.loc (by rw[C.back_len];omega) (by rw[hl,h6])⟩
 ·rw[C.back_len]
  rcases C.G_cases h with ⟨j,hj,rfl⟩|⟨_,h1,_⟩
  ·exact⟨(C.m'.own b j hj).1,C.outI_lt (C.m'.own b j hj).2⟩
  ·have:=C.m.own b id h1
   exact⟨Nat.lt_of_lt_of_le this.1 C.st.size,by omega⟩
 ·refine⟨(C.m'.imm b o hA).1,fun id h hs=>?_⟩
  rcases C.G_cases h with ⟨j,hj,rfl⟩|⟨h0,h1,hp⟩
  ·obtain⟨et,sz,e,xs,h2,h3⟩:=(C.m'.imm b o hA).2 j hj ((Q70 hj).symm.trans hs)
   exact⟨et,sz,Q9u ob ρ j+e,xs,C.back_out h2,h3⟩
  ·obtain⟨h4,_,_,_⟩:=C.own_G h1 hp
   rcases C.st.imm b o hA with h5|⟨k,h5⟩|h5
   ·obtain⟨et,sz,e,xs,h2,h3⟩:=(C.m.imm b o h5).2 id h1 ((Q6i h0 h1 hp).symm.trans hs)
    exact⟨et,sz,e,xs,by rw[C.back_own (Q8 h2) hp];exact h2,h3⟩
   ·rw[h4]at h5;cases h5
   ·have:=(C.m.own b id h1).1;omega
 ·rcases C.back_cases h with ⟨j,o',h1,rfl,h2⟩|⟨hid,hp,h1⟩
  ·rcases o' with _|_|_|(_|_|_)|_<;>cases h2
   exact C.m'.roww j _ _ _ _ _ h1
  ·exact C.m.roww id _ _ _ _ _ h1
 ·cases h1:g'.G b with
  |some j =>
   obtain⟨j',et,sz,fz,e,xs,h2,h3⟩:=C.m'.nsub b ((Q70 h1).symm.trans hs);exact⟨_,_,_,_,_,_,Q9i h2,C.back_out h3⟩
  |none =>
   cases h2:g.G b with
   |none=>simp only[Gh.out,h1,h2]at hs;cases hs
   |some id =>
    cases hp:Q1R id ρ with
    |some k=>simp only[Gh.out,h1,h2,hp]at hs;cases hs
    |none =>
     obtain⟨id',et,sz,fz,e,xs,h3,h4⟩:=C.m.nsub b ((Q6i h1 h2 hp).symm.trans hs);rw[h2]at h3;obtain rfl:id=id':=by simpa using h3
     exact⟨id,et,sz,fz,e,xs,(C.own_G h2 hp).2.2.1,by rw[C.back_own (Q8 h4) hp];exact h4⟩
 ·rcases C.G_cases h1 with ⟨j,hj,rfl⟩|⟨h0,h3,hp⟩
  ·rcases C.G_cases h2 with ⟨j',hH,he⟩|⟨h0',h4,hp'⟩
   ·obtain rfl:=C.outI_inj he
    exact C.m'.uniq b b' j hj hH ((Q70 hj).symm.trans hs) ((Q70 hH).symm.trans jd)
   ·exact(C.outI_not hp' (C.m.own b' _ h4).2).elim
  ·rcases C.G_cases h2 with ⟨j',hH,he⟩|⟨h0',h4,hp'⟩
   ·subst he
    exact(C.outI_not hp (C.m.own b _ h3).2).elim
   ·exact C.m.uniq b b' id h3 h4 ((Q6i h0 h3 hp).symm.trans hs) ((Q6i h0' h4 hp').symm.trans jd)
theorem CallAt.step(C:CallAt w g ob ρ w' g' ob'):Step w g ob w' (g.out g' ρ ob.length) (Q5j ob ρ ob'):=by
 have none_in:∀b,g.G b=none->(g.ren (ρ.map some)).G b=none:=fun b h=>by simp[Gh.ren,h]
 have some_in:∀b k,(g.ren (ρ.map some)).G b=some k->∃id,g.G b=some id:=fun b k h=>by
  obtain⟨i,_,hG⟩:=Q33 h;exact⟨i,hG⟩
 refine⟨C.st.os,C.st.tape,C.st.output,C.st.size,fun b hb hG=>C.st.keep b hb (none_in b hG),fun b id h=>?_,fun b o hA=>?_,C.ext,?_⟩
 ·rcases C.G_cases h with ⟨j,hj,rfl⟩|⟨_,h1,_⟩
  ·rcases C.st.own b j hj with ⟨k,hk⟩|hk
   ·exact .inl (some_in b k hk)
   ·exact .inr hk
  ·exact .inl ⟨id,h1⟩
 ·rcases C.st.imm b o hA with h|⟨k,h⟩|h
  ·exact .inl h
  ·exact .inr (.inl (some_in b k h))
  ·exact .inr (.inr h)
 ·rw[C.back_len];omega
end
