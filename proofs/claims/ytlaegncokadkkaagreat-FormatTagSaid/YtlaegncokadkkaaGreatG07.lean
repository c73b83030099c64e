/- Lemmas, conditions told -/
import Derived.Test.YtlaegncokadkkaaGreatG06
import Derived.Laws.StructEq
import Derived.Maps.RangeRun
set_option maxRecDepth 99999
set_option maxHeartbeats 0
set_option linter.unusedSimpArgs false
set_option linter.unusedVariables false
namespace Go.Proofs.YtlaegncokadkkaaGreat
open List(mem_map getElem?_map getElem?_set_ne getElem?_set_self length_set mem_cons_self getD_eq_getElem?_getD getElem?_eq_getElem length_append all_eq_true map_cons mem_of_getElem?)
open Nat(le_refl)
open Option(map_eq_some_iff map_some)
open Go.RowKit Go.Lib
section
variable {P:Program}{ty:Tys}{Df:List Deferred}{w0:World}{g0:Gh}{o0:List Ob}{N:Nat}{Q:Ex->St->Prop}{w w':World}{g g':Gh}{ob ob':List Ob}
theorem Qka(hT:TyOk P ty){K:St->Tree}{o:Oper}{s:St}{a:Act}{w:World}{R:Exit->Act->World->Prop}(hs:Sim Df w0 g0 o0 N s a w)(hd:∀t,o.dst=some t->t<N)
  {src dst:Nat} {x:Operand} (ho:o.op=.convert src dst x) {b:ByteArray} (hx:ev s x=.val (.string b)) (h1:(Q1 src ty).kd=6) (h2:(Q1 dst ty).sl=true) (h3:(Q1 (Q1 dst ty).elem ty).kind=some .u8) (hb:b.size<=1000000000)
  (jB:(K (St.put s o.dst (.slc 1 (std.bytesS b)))).ok Df P w0 g0 o0 N Q):o.wp P a w (Q30 Df ty P w0 g0 o0 N Q K o.op w) R:=by
 obtain⟨g,M,hS,h0⟩:=hs.rel;have jn:=Qo hS x;rw[hx]at jn;have jr:=(Q3N hT h1 (by decide)).str h1
 have qN:=(Q9R hT h2).slice h2;have gM:=(Q7F hT h3).int h3;have gL:=grownCap_ge w b.size 0 (Q1 dst ty).elem;have qT:=grownCap_le_maxLen w b.size 0 (Q1 dst ty).elem (by unfold maxLen;omega)
 have hr:=run_bytes_of_string (P:=P) w src dst _ b jr qN gM;generalize hC:bytesRow b (grownCap w b.size 0 (Q1 dst ty).elem)=C at hr;generalize grownCap w b.size 0 (Q1 dst ty).elem=c at *;have qv:Below w.heap.size w (w.drew.alloc (.cells C (Q1 dst ty).elem (C.size,C.size+1))):=(Below.refl _ w).drew.alloc (le_refl _) _;have M':=M.immNew qv
 have jQ:(execOp a.eval o).run P w=.ok (.value (.slice (some ⟨w.heap.size,0,none⟩) b.size c)) (w.drew.alloc (.cells C (Q1 dst ty).elem (C.size,C.size+1))):=by
  simp only[execOp,ho,jn.valEq];exact Q11 hr
 have hl:(std.bytesS b).length=b.size:=by show(b.data.toList.map _).length=_;simp
 have kp:std.isB (std.bytesS b):=fun x hx=>by
  obtain⟨n,_,rfl⟩:=mem_map.1 (show x∈b.data.toList.map _ from hx);exact⟨n,rfl⟩
 have hcell:∀(j:Nat) u,(Qp (std.bytesS b))[j]?=some u->∃n:UInt8,C[j]?=some (.int .u8 n.toNat)/\u=.val (.int .u8 n.toNat):=fun j u hu=>by
  rw[Q9P kp]at hu;have hu:(b.data.toList.map fun x=>AV.val (.int .u8 x.toNat))[j]?=some u:=hu
  rw[getElem?_map,map_eq_some_iff]at hu;obtain⟨n,hn,rfl⟩:=hu;have hj:=Q4 hn;refine⟨n,?_,rfl⟩;rw[<-hC,bytesRow,Array.getElem?_append_left (by simpa using hj)]
  rw[Array.getElem?_map,<-Array.getElem?_toList,hn];rfl
 have hA:∀j,(g.imm w (w.drew.alloc (.cells C (Q1 dst ty).elem (C.size,C.size+1)))).A w.heap.size j:=fun j=>.inr ⟨le_refl _,by simp⟩
 refine Q3k jQ ⟨fun _=>qv,_,Q12 hs hS h0 M' (Step.immNew M qv) hd ?_,jB⟩
 have:=PRel.slc (w:=w.drew.alloc (.cells C (Q1 dst ty).elem (C.size,C.size+1))) (A:=(g.imm w (w.drew.alloc (.cells C (Q1 dst ty).elem (C.size,C.size+1)))).A) w.heap.size 0 c 1 (std.bytesS b) (fun j=>(C[j]?).getD undef) (by rw[hl];exact gL) qT
  (fun x hx=>by obtain⟨n,rfl⟩:=kp x hx;rfl) (fun j u hu=>by
   obtain⟨n,h4,_⟩:=hcell j u hu;refine⟨hA _,?_⟩;rw[Nat.zero_add,h4];exact(World.cell?_alloc_mark w.drew C _ _ j).trans h4) (fun j u hu=>by
   obtain⟨n,h4,rfl⟩:=hcell j u hu;simp only[h4];exact PRel.val _ rfl)
 rw[hl]at this;exact this
theorem Q6p{b b' n:Nat}(h:b'≠b):(w.freeze ⟨b,n,none⟩ 1).heap[b']?=w.heap[b']?:=by
 unfold World.freeze;rw[if_neg (by decide)]
 simp only[Array.getElem?_modify];rw[if_neg (by omega)]
theorem Q7V{b n:Nat}(p:Addr):(w.freeze ⟨b,n,none⟩ 1).cell? p=w.cell? p:=by
 unfold World.freeze;rw[if_neg (by decide)]
 unfold World.cell?;simp only[Array.getElem?_modify];by_cases hb:b=p.block
 ·rw[if_pos hb]
  cases w.heap[p.block]? with
  |none=>rfl
  |some o=>cases o<;>rfl
 ·rw[if_neg hb]
theorem Qir(M:Mem w g ob){id et sz e b:Nat}{fz:Bool}{xs:List AV}(h:ob[id]?=some (.row et sz fz e xs))(hG:g.G b=some id)(n:Nat) :
  Mem (w.freeze ⟨b,n,none⟩ 1) g (ob.set id (.row et sz fz (e+1) xs))/\Step w g ob (w.freeze ⟨b,n,none⟩ 1) g (ob.set id (.row et sz fz (e+1) xs)):=by
 have hid:=Q4 h
 have j6:(w.freeze ⟨b,n,none⟩ 1).heap.size=w.heap.size:=by
  unfold World.freeze;rw[if_neg (by decide)]
  simp
 have E:Ext w g ob (w.freeze ⟨b,n,none⟩ 1) g (ob.set id (.row et sz fz (e+1) xs)):=by
  refine⟨fun b o h=>⟨h,Q7V _⟩,fun _ _=>rfl,fun i hi=>?_,fun i hi=>?_,fun i et' sz' fz2 e2 xs2 hi=>?_,fun b' i _ _=>⟨rfl,fun _ _ h=>h⟩⟩
  ·have:i≠id:=by rintro rfl;rw[h]at hi;exact hi
   rw[getElem?_set_ne (Ne.symm this)];exact hi
  ·have:i≠id:=by rintro rfl;rw[h]at hi;exact hi
   rw[getElem?_set_ne (Ne.symm this)];exact hi
  ·by_cases e':i=id
   ·subst e'
    rw[h]at hi;obtain⟨rfl,rfl,rfl,rfl,rfl⟩:et=et'/\sz=sz'/\fz=fz2/\e=e2/\xs=xs2:=by simpa using hi
    exact⟨fz,e+1,xs,getElem?_set_self hid,by omega,fun he=>by omega⟩
   ·refine⟨fz2,e2,xs2,by rw[getElem?_set_ne (Ne.symm e')];exact hi,le_refl _,fun _=>.inl ⟨rfl,fun b' vB=>⟨vB,Q6p ?_⟩⟩⟩
    rintro rfl;rw[hG]at vB;exact e' (by simpa using vB.symm)
 refine⟨⟨fun i cs hi=>?_,fun i cs hi j u hj=>?_,fun i y hi=>?_,fun b i hG=>⟨by rw[j6];exact(M.own b i hG).1,by rw[length_set];exact(M.own b i hG).2⟩,fun b' o hA=>⟨by rw[j6];exact(M.imm b' o hA).1,fun i vo hs=>?_⟩,fun i et' sz' fz2 e2 xs2 hi=>?_,fun b' hs=>?_,M.uniq⟩,
  ⟨rfl,rfl,rfl,by rw[j6];exact le_refl _,fun b' _ hN=>Q6p (by rintro rfl;rw[hG]at hN;cases hN),fun b' i h=>.inl ⟨i,h⟩,fun b' o h=>.inl h,E,by simp⟩⟩
 ·have e':i≠id:=by rintro rfl;rw[getElem?_set_self hid]at hi;cases hi
  rw[getElem?_set_ne (Ne.symm e')]at hi;obtain⟨h1,cur,T,h2,h3⟩:=M.box i cs hi;refine⟨h1,cur,T,?_,h3.ext E⟩;rw[Q6p]
  ·exact h2
  ·intro hb
   rw[hb,hG]at h1;exact e' (by simpa using h1.symm)
 ·have e':i≠id:=by rintro rfl;rw[getElem?_set_self hid]at hi;cases hi
  rw[getElem?_set_ne (Ne.symm e')]at hi;obtain⟨h1,y,h2,h3⟩:=M.fbox i cs hi j u hj;exact⟨h1,y,by rw[Q7V];exact h2,h3.keep E.A⟩
 ·have e':i≠id:=by rintro rfl;rw[getElem?_set_self hid]at hi;cases hi
  rw[getElem?_set_ne (Ne.symm e')]at hi;obtain⟨h1,h2⟩:=M.iter i y hi;refine⟨h1,h2.at E.A E.loc (by simp) ?_⟩
  rw[Q6p]
  ·intro hb
   rw[hb,hG]at h1;exact e' (by simpa using h1.symm)
 ·obtain⟨et',sz',e2,xs2,h3,h4⟩:=(M.imm b' o hA).2 i vo hs
  by_cases e':i=id
  ·subst e'
   rw[h]at h3;obtain⟨rfl,rfl,rfl,rfl,rfl⟩:et=et'/\sz=sz'/\fz=true/\e=e2/\xs=xs2:=by simpa using h3
   exact⟨et,sz,e+1,xs,getElem?_set_self hid,h4⟩
  ·exact⟨et',sz',e2,xs2,by rw[getElem?_set_ne (Ne.symm e')];exact h3,h4⟩
 ·by_cases e':i=id
  ·subst e'
   rw[getElem?_set_self hid]at hi;cases hi;exact M.roww _ _ _ _ _ _ h
  ·rw[getElem?_set_ne (Ne.symm e')]at hi
   exact M.roww i _ _ _ _ _ hi
 ·obtain⟨i,et',sz',fz2,e2,xs2,h3,h4⟩:=M.nsub b' hs
  by_cases e':i=id
  ·subst e'
   exact⟨i,_,_,_,_,_,h3,getElem?_set_self hid⟩
  ·exact⟨i,et',sz',fz2,e2,xs2,h3,by rw[getElem?_set_ne (Ne.symm e')];exact h4⟩
theorem QkC(hT:TyOk P ty){K:St->Tree}{o:Oper}{s:St}{a:Act}{w:World}{R:Exit->Act->World->Prop}(hs:Sim Df w0 g0 o0 N s a w)(hd:∀t,o.dst=some t->t<N)
  {src:Nat} {x:Operand} (ho:o.op=.convert src src x) {id et e:Nat} {xs:List AV} (hx:ev s x=.row id e) (jK:s.ob[id]?=some (.row et 1 false e xs)) (h2:(Q1 src ty).sl=true) (h3:(Q1 (Q1 src ty).elem ty).kind=some .u8) (hm:xs≠[])
  (jB:(K (St.put ⟨s.tm,s.ob.set id (.row et 1 true (e+1) xs)⟩ o.dst (.slc 1 xs))).ok Df P w0 g0 o0 N Q):o.wp P a w (Q30 Df ty P w0 g0 o0 N Q K o.op w) R:=by
 obtain⟨g,M,hS,h0⟩:=hs.rel;have jn:=Qo hS x;rw[hx]at jn;obtain⟨_,et',sz',fz',e',xs',h4,_,h5⟩:=jn;rw[jK]at h4;cases h4;have jY:=h5 rfl;obtain⟨ys,jG,hG,jT,hw,qu⟩:=h5 rfl;have qN:=(Q9R hT h2).slice h2;have gM:=(Q7F hT h3).int h3;obtain⟨g1,M1,E1,zU,hL1⟩:=Q71 M jK jY (le_refl _);obtain⟨jC,na|⟨b,cap,cur,hv,jF,xX,zV⟩⟩:=jG
 ·exfalso
  apply hm;exact List.eq_nil_of_length_eq_zero na.2
 have qR:g.G b=some id:=hG b (by rw[hv];rfl)
 have hG1:g1.G b=some id:=by
  have:=(E1.row id et 1 false e xs jK)
  obtain⟨fz1,e1,xs1,k1,k2,k3⟩:=this;rw[getElem?_set_self (Q4 jK)]at k1;obtain⟨rfl,rfl,rfl⟩:true=fz1/\e=e1/\xs=xs1:=by simpa using k1
  exact(k3 rfl).G qR
 have nc:(s.ob.set id (.row et 1 true e xs))[id]?=some (.row et 1 true e xs):=getElem?_set_self (Q4 jK);obtain⟨M2,S2⟩:=Qir M1 nc hG1 cur.size;rw[List.set_set]at M2 S2
 have jQ:(execOp a.eval o).run P w=.ok (.value (a.eval x)) (w.freeze ⟨b,cur.size,none⟩ 1):=by
  simp only[execOp,ho,hv];refine Q11 ?_;have v7:w.shape? b=some (et,cur.size):=by unfold World.shape?;rw[xX]
  simp[convert,run_underlying qN,run_underlying gM,markStringish,v7]
 have jI:=(Step.ghost (ob':=s.ob.set id (.row et 1 true e xs)) E1 hL1).trans S2;refine Q3k jQ ⟨fun hq=>?_,_,Q12 (g':=g1) hs hS h0 M2 jI hd ?_,jB⟩
 ·simp[ho,Q2m,h2]at hq
 ·have:PRel (w.freeze ⟨b,cur.size,none⟩ 1) g1.A (a.eval x) (.slc 1 xs):=zU.keep fun b' o' h=>⟨h,Q7V _⟩
  exact this
theorem Qid(hT:TyOk P ty){K:St->Tree}{o:Oper}{s:St}{a:Act}{w:World}{R:Exit->Act->World->Prop}(hs:Sim Df w0 g0 o0 N s a w)(hd:∀t,o.dst=some t->t<N)
  {T:Nat} {x:Operand} (ho:o.op=.range T x) {b:ByteArray} (hx:ev s x=.val (.string b)) (h1:(Q1 T ty).kd=6)
  (jB:(K (St.put ⟨s.tm,s.ob++[.iter (.str b 0)]⟩ o.dst (.iter s.ob.length))).ok Df P w0 g0 o0 N Q):o.wp P a w (Q30 Df ty P w0 g0 o0 N Q K o.op w) R:=by
 obtain⟨g,M,hS,h0⟩:=hs.rel;have jn:=Qo hS x;rw[hx]at jn;have jr:=(Q3N hT h1 (by decide)).str h1
 have hr:(execOp a.eval o).run P w=.ok (.value (.pointer (some ⟨w.heap.size,0,none⟩))) (w.alloc (.stringIter b 0)):=by
  simp only[execOp,ho,jn.valEq];refine Q11 ?_;simp only[Instr.range,Sem.run_bind,run_underlying jr,Result.andThen_ok,Sem.run_pure,run_newObj];rfl
 have M':=M.new (.stringIter b 0) (.iter (.str b 0)) (fun cs h=>by cases h) (fun cs h=>by cases h) (fun y h=>by cases h;rfl) (fun et sz fz e xs h=>by cases h)
 refine Q3k hr ⟨fun _=>(Below.refl _ w).alloc (le_refl _) _,_,Q12 hs hS h0 M' (Step.new M _ _) hd ?_,jB⟩
 refine⟨false,by simp[Gh.new,Q9L],?_⟩
 rw[Q2p];rfl
theorem Q9Y(M:Mem w g ob){id:Nat}{x x':It}{o':Obj}(h:ob[id]?=some (.iter x))(hkk:∀{k:Bool},Q8T k (some (.iter x))->Q8T k (some (.iter x')))(hI:ItRel w g.A g.loc ob.length x' (some o')) :
  Mem { w with heap:=w.heap.setIfInBounds (g.loc id) o' } g (ob.set id (.iter x'))/\Step w g ob { w with heap:=w.heap.setIfInBounds (g.loc id) o' } g (ob.set id (.iter x')):=by
 have hid:=Q4 h;obtain⟨hG,hh⟩:=M.iter id x h;have jE:=(M.own _ _ hG).1
 have other:∀{k:Nat},k≠g.loc id->({ w with heap:=w.heap.setIfInBounds (g.loc id) o' }:World).heap[k]?=w.heap[k]?:=fun hk=>by
  show(w.heap.setIfInBounds _ _)[_]?=_
  rw[Array.getElem?_setIfInBounds_ne (Ne.symm hk)]
 have ne:∀{k i:Nat},g.G k=some i->i≠id->k≠g.loc id:=by
  rintro k i h1 h2 rfl;rw[hG]at h1;exact h2 (by simpa using h1.symm)
 have hA:∀k o,g.A k o->k≠g.loc id:=by
  rintro k o h1 rfl;obtain⟨et,sz,e,xs,h2,_⟩:=(M.imm _ _ h1).2 id hG (M.nosub hG fun _ _ _ _ _ h3=>by rw[h]at h3;cases h3)
  rw[h]at h2;cases h2
 have E:Ext w g ob { w with heap:=w.heap.setIfInBounds (g.loc id) o' } g (ob.set id (.iter x')):=by
  refine⟨fun k o h1=>⟨h1,World.cell?_of_block (w:=w) (other (hA k o h1))⟩,fun _ _=>rfl,fun i hi=>?_,fun i hi=>?_,fun i et sz fz e xs hi=>?_,fun _ _ _ _=>⟨rfl,fun _ _ h=>h⟩⟩
  ·have:i≠id:=by rintro rfl;rw[h]at hi;exact hi
   rw[getElem?_set_ne (Ne.symm this)];exact hi
  ·by_cases e:i=id
   ·subst e;rw[getElem?_set_self hid];rw[h]at hi;exact hkk hi
   ·rw[getElem?_set_ne (Ne.symm e)];exact hi
  ·have:i≠id:=by rintro rfl;rw[h]at hi;cases hi
   exact⟨fz,e,xs,by rw[getElem?_set_ne (Ne.symm this)];exact hi,le_refl _,fun _=>.inl ⟨rfl,fun k hk=>⟨hk,other (ne hk this)⟩⟩⟩
 have j6:({ w with heap:=w.heap.setIfInBounds (g.loc id) o' }:World).heap.size=w.heap.size:=by show(w.heap.setIfInBounds _ _).size=_;simp
 refine⟨⟨fun i cs hi=>?_,fun i cs hi j u hj=>?_,fun i y hi=>?_,fun k i hk=>by rw[j6,length_set];exact M.own k i hk,fun k o h1=>?_,fun i et sz fz e xs hi=>?_,fun b hs=>?_,M.uniq⟩,
  ⟨rfl,rfl,rfl,by rw[j6];exact le_refl _,fun k _ hk=>other (fun e=>by rw[e,hG]at hk;cases hk),fun k i hk=>.inl ⟨i,hk⟩,fun _ _ h=>.inl h,E,by simp⟩⟩
 ·have e':i≠id:=by rintro rfl;rw[getElem?_set_self hid]at hi;cases hi
  rw[getElem?_set_ne (Ne.symm e')]at hi;obtain⟨h1,cur,T,h2,h3⟩:=M.box i cs hi;exact⟨h1,cur,T,(other (ne h1 e')).trans h2,h3.ext E⟩
 ·have e':i≠id:=by rintro rfl;rw[getElem?_set_self hid]at hi;cases hi
  rw[getElem?_set_ne (Ne.symm e')]at hi;obtain⟨h1,y,h2,h3⟩:=M.fbox i cs hi j u hj;exact⟨h1,y,(E.A _ _ h1).2.trans h2,h3.keep E.A⟩
 ·by_cases e':i=id
  ·subst e'
   rw[getElem?_set_self hid]at hi;obtain rfl:x'=y:=by simpa using hi
   exact⟨hG,hI.at E.A (fun _ _=>rfl) (by simp) (by show(w.heap.setIfInBounds _ _)[_]?=_;rw[Array.getElem?_setIfInBounds_self,if_pos jE])⟩
  ·rw[getElem?_set_ne (Ne.symm e')]at hi
   obtain⟨h1,h2⟩:=M.iter i y hi;exact⟨h1,h2.at E.A (fun _ _=>rfl) (by simp) (other (ne h1 e'))⟩
 ·obtain⟨h2,h3⟩:=M.imm k o h1
  refine⟨by rw[j6];exact h2,fun i hk hs=>?_⟩
  obtain⟨et,sz,e,xs,h4,h5⟩:=h3 i hk hs;have e':i≠id:=by rintro rfl;rw[h]at h4;cases h4
  exact⟨et,sz,e,xs,by rw[getElem?_set_ne (Ne.symm e')];exact h4,h5⟩
 ·have e':i≠id:=by rintro rfl;rw[getElem?_set_self hid]at hi;cases hi
  rw[getElem?_set_ne (Ne.symm e')]at hi;exact M.roww i et sz fz e xs hi
 ·obtain⟨i,et,sz,fz,e,xs,h3,h4⟩:=M.nsub b hs
  have e':i≠id:=by rintro rfl;rw[h]at h4;cases h4
  exact⟨i,et,sz,fz,e,xs,h3,by rw[getElem?_set_ne (Ne.symm e')];exact h4⟩
theorem Qmd{K:St->Tree}{o:Oper}{s:St}{a:Act}{w:World}{R:Exit->Act->World->Prop}(hs:Sim Df w0 g0 o0 N s a w)(hd:∀t,o.dst=some t->t<N)
  {it:Operand} (ho:o.op=.next it true) {id:Nat} (hi:ev s it=.iter id) {b:ByteArray} {pos:Nat} (jK:s.ob[id]?=some (.iter (.str b pos)))
  (ht:std.itmore b pos=true->(K (St.put ⟨s.tm,s.ob.set id (.iter (.str b (std.itp b pos)))⟩ o.dst (.tup [.kb true,.val (.int .i64 (std.toI pos)),.val (.int .i32 (std.itr b pos))]))).ok Df P w0 g0 o0 N Q)
  (hf:std.itmore b pos=false->(K (St.put s o.dst (.tup [.kb false]))).ok Df P w0 g0 o0 N Q):o.wp P a w (Q30 Df ty P w0 g0 o0 N Q K o.op w) R:=by
 obtain⟨g,M,hS,h0⟩:=hs.rel;have z4:=Qo hS it;rw[hi]at z4
 have hv:a.eval it=.pointer (some ⟨g.loc id,0,none⟩):=by
  obtain⟨k,h1,h2⟩:=z4;rw[jK]at h2;obtain rfl:k=false:=h2;exact h1
 obtain⟨hG,hh⟩:=M.iter id _ jK;have hh:w.heap[g.loc id]?=some (.stringIter b pos):=hh;have vU:(getObj (g.loc id)).run P w=.ok (.stringIter b pos) w:=by simp[getObj,Sem.run,hh]
 by_cases jE:pos<b.size
 ·obtain⟨M',S'⟩:=Q9Y M (x':=.str b (std.itp b pos)) (o':=.stringIter b (std.itp b pos)) jK (fun h=>h) rfl
  have hr:(execOp a.eval o).run P w=.ok (.value (.tuple #[.bool true,.int .i64 pos,.int .i32 ((Utf8.decode b pos).1:Int)])) { w with heap:=w.heap.setIfInBounds (g.loc id) (.stringIter b (std.itp b pos)) }:=by
   simp only[execOp,ho,hv];refine Q11 ?_
   have yf:(setObj (g.loc id) (.stringIter b (pos+(Utf8.decode b pos).2))).run P w=.ok () { w with heap:=w.heap.setIfInBounds (g.loc id) (.stringIter b (std.itp b pos)) }:=by
    simp only[setObj,Sem.run,hh];rfl
   simp only[Instr.next,Sem.run_bind,vU,Result.andThen_ok,jE,if_true,yf,Sem.run_pure,goInt]
  refine Q3k hr ⟨fun h=>by simp[ho,Q2m]at h,_,Q12 hs hS h0 M' S' hd ?_,ht (by show decide (pos<b.size)=true;simp[jE])⟩
  refine⟨_,rfl,rfl,fun j y u hy hu=>?_⟩
  match j,hy,hu with
  |0,hy,hu =>
   obtain rfl:Value.bool true=y:=by simpa using hy
   obtain rfl:AV.kb true=u:=by simpa using hu
   exact(rfl:Value.bool true=.bool true)
  |1,hy,hu =>
   obtain rfl:Value.int .i64 pos=y:=by simpa using hy
   obtain rfl:AV.val (.int .i64 (std.toI pos))=u:=by simpa using hu
   exact PRel.val _ rfl
  |2,hy,hu =>
   obtain rfl:Value.int .i32 ((Utf8.decode b pos).1:Int)=y:=by simpa using hy
   obtain rfl:AV.val (.int .i32 (std.itr b pos))=u:=by simpa using hu
   exact PRel.val _ rfl
  |j+3,hy,_=>simp at hy
 ·have hr:(execOp a.eval o).run P w=.ok (.value (.tuple #[.bool false])) w:=by
   simp only[execOp,ho,hv];refine Q11 ?_;simp only[Instr.next,Sem.run_bind,vU,Result.andThen_ok,jE,if_false,Sem.run_pure]
  refine Q3k hr ⟨fun h=>by simp[ho,Q2m]at h,_,Q12 hs hS h0 M Step.refl hd (x:=.tup [.kb false]) ?_,hf (by show decide (pos<b.size)=false;simp[jE])⟩
  refine⟨_,rfl,rfl,fun j y u hy hu=>?_⟩
  match j,hy,hu with
  |0,hy,hu =>
   obtain rfl:Value.bool false=y:=by simpa using hy
   obtain rfl:AV.kb false=u:=by simpa using hu
   exact(rfl:Value.bool false=.bool false)
  |j+1,hy,_=>simp at hy
end
theorem Qak{x:AV}{off sz:Nat}{new:List AV}(hx:x.cells.length=sz)(hn:new.length≠0)(h1:∀u∈new,u.cells=[u])(hl:off+new.length<=sz):(Qmx x off new).cells=setCells x.cells off new:=by
 cases x with
 |agg cs=>rfl
 |_ =>
  obtain rfl:1=sz:=hx;obtain rfl:off=0:=by omega
  obtain⟨u,rfl⟩:∃u,new=[u]:=List.length_eq_one_iff.1 (by omega)
  exact h1 u mem_cons_self
theorem Qch{a r new:List AV}{off:Nat}(h:off+new.length<=a.length):setCells (a++r) off new=setCells a off new++r:=by
 unfold setCells;rw[List.take_append_of_le_length (by omega),List.drop_append_of_le_length h]
 simp
theorem Qaf{a r new:List AV}{off:Nat}:setCells (a++r) (a.length+off) new=a++setCells r off new:=by
 unfold setCells;rw[List.take_length_add_append,Nat.add_assoc,List.drop_length_add_append];simp
theorem Q6t(x:AV)(r:List AV):Qp (x::r)=x.cells++Qp r:=List.flatMap_cons
theorem Qfj(cur vs:List Value)(o n:Nat)(h:o+vs.length<=n)(hn:n<=cur.length):(cur.take o++(vs++cur.drop (o+vs.length))).take n=(cur.take n).take o++vs++(cur.take n).drop (o+vs.length):=by
 have hx:(cur.take o).length=o:=by rw[List.length_take];omega
 rw[List.take_take,Nat.min_eq_left (by omega),List.drop_take,List.take_append,hx,List.take_append,List.take_of_length_le (l:=cur.take o) (by omega),List.take_of_length_le (l:=vs) (by omega),List.append_assoc,Nat.sub_sub]
theorem QaR{sz off:Nat}{new:List AV}(hn:new.length≠0)(h1:∀u∈new,u.cells=[u])(hl:off+new.length<=sz):∀(xs:List AV)(i:Nat),(∀x∈xs,x.cells.length=sz)->i<xs.length ->
  Qp (Q7w xs i off new)=setCells (Qp xs) (i * sz+off) new
 | [],_,_,h=>by cases h
 |x::r,0,hw,_=>by
  have hx:=hw x mem_cons_self;show Qp (Qmx x off new::r)=_;rw[Q6t,Q6t,Qak hx hn h1 hl,Nat.zero_mul,Nat.zero_add,Qch (by omega)]
 |x::r,i+1,hw,hi=>by
  have hx:=hw x mem_cons_self;have ih:=QaR hn h1 hl r i (fun y hy=>hw y (List.mem_cons_of_mem _ hy)) (by simpa using hi)
  show Qp (x::Q7w r i off new)=_;rw[Q6t,Q6t,show(i+1) * sz+off=x.cells.length+(i * sz+off) by rw[hx,Nat.succ_mul];omega,Qaf]
  exact congrArg _ ih
theorem QaS(xs:List AV)(i off:Nat)(new:List AV):(Q7w xs i off new).length=xs.length:=length_set
theorem Qfz{sz off i:Nat}{new xs:List AV}(hn:new.length≠0)(h1:∀u∈new,u.cells=[u])(hl:off+new.length<=sz)(hw:∀x∈xs,x.cells.length=sz)(hi:i<xs.length):∀x∈Q7w xs i off new,x.cells.length=sz:=by
 intro x hx;rcases List.mem_or_eq_of_mem_set hx with h|rfl
 ·exact hw x h
 ·have h2:(xs.getD i .dead).cells.length=sz:=hw _ (by rw[getD_eq_getElem?_getD,getElem?_eq_getElem hi];exact List.getElem_mem hi)
  rw[Qak h2 hn h1 hl];unfold setCells;rw[length_append,length_append,List.length_take,List.length_drop];omega
section
variable {w:World}{g:Gh}{ob:List Ob}
theorem QnE(M:Mem w g ob){id et sz e b:Nat}{xs:List AV}(h:ob[id]?=some (.row et sz false e xs))(hG:g.G b=some id)(hs:g.sub b=false){b' o:Nat}(hA:g.A b' o):b'≠b:=by
 rintro rfl;obtain⟨_,_,_,_,h1,_⟩:=(M.imm _ _ hA).2 id hG hs;rw[h]at h1;cases h1
theorem Qkb(M:Mem w g ob){id et sz e b c i off:Nat}{xs us:List AV}{vs:List Value}(h:ob[id]?=some (.row et sz false e xs))(he:et≠Q4e)(hv:RowV w g id et sz (.slice (some ⟨b,0,none⟩) xs.length c) xs)
  (hi:i<xs.length) (jT:Alike w g.A vs us) (hn:us.length≠0) (h1:∀u∈us,u.cells=[u]) (hl:off+us.length<=sz) :
  g.G b=some id/\(∃cur,w.heap[b]?=some (.cells cur et (0,0))/\i * sz+off+us.length<=cur.size)/\Ext w g ob (w.setCells b (i * sz+off) vs) g (ob.set id (.row et sz false e (Q7w xs i off us)))/\Mem (w.setCells b (i * sz+off) vs) g (ob.set id (.row et sz false e (Q7w xs i off us))):=by
 have hid:=Q4 h;have hw:=(M.roww _ _ _ _ _ _ h).2;obtain⟨ys,⟨n7,ho⟩,hG,xY,_,qu⟩:=hv;have qR:=hG b rfl;have vj:=qu.1 b rfl;obtain⟨hv,_⟩|⟨b',cap,cur,hv,_,hh,nf,_,hcs,yx⟩:=ho
 ·cases hv
 obtain⟨rfl,rfl⟩:b=b'/\c=cap:=by simpa using hv
 have kH:(i+1) * sz<=xs.length * sz:=Nat.mul_le_mul_right _ hi;rw[Nat.succ_mul]at kH;have hmul2:xs.length * sz<=c * sz:=Nat.mul_le_mul_right _ nf;have je:i * sz+off+us.length<=cur.size:=by omega
 have hcell:∀b' o,g.A b' o->(w.setCells b (i * sz+off) vs).cell? ⟨b',o,none⟩=w.cell? ⟨b',o,none⟩:=fun b' o hA=>World.cell?_of_block (w:=w) (QH (k:=0) (QnE M h qR vj hA))
 have hA:∀b' o,g.A b' o->g.A b' o/\(w.setCells b (i * sz+off) vs).cell? ⟨b',o,none⟩=w.cell? ⟨b',o,none⟩:=fun b' o h=>⟨h,hcell b' o h⟩
 have ne:∀{b' k:Nat},g.G b'=some k->k≠id->b'≠b:=by
  rintro b' k vB jL rfl;rw[qR]at vB;exact jL (by simpa using vB.symm)
 have st:Qkm w (w.setCells b (i * sz+off) vs) g.A et sz b (Q7w xs i off us):=by
  refine⟨cur,_,hh,Q1V (W:=w) vs (i * sz+off) w cur hh (by rw[jT.1];exact je),?_,?_⟩
  ·simp[jT.1];omega
  ·rw[QaS,QaR hn h1 hl xs i hw hi]
   have e1:((cur.toList.take (i * sz+off)++(vs++cur.toList.drop (i * sz+off+vs.length))).toArray.toList.take (xs.length * sz))=ys.take (i * sz+off)++vs++ys.drop (i * sz+off+us.length):=by
    rw[<-yx,<-jT.1];have qY:cur.toList.length=c * sz:=(Array.length_toList).trans hcs;exact Qfj _ _ _ _ (by rw[jT.1];omega) (by rw[qY];omega)
   rw[e1];unfold setCells;exact(((xY.keep hA).take _).append (jT.keep hA)).append ((xY.keep hA).drop _)
 have E:Ext w g ob (w.setCells b (i * sz+off) vs) g (ob.set id (.row et sz false e (Q7w xs i off us))):=by
  refine⟨hA,fun _ _=>rfl,fun k hk=>?_,fun k hk=>?_,fun k et' sz' fz2 e2 xs2 hk=>?_,fun _ _ _ _=>⟨rfl,fun _ _ h=>h⟩⟩
  ·have:k≠id:=by rintro rfl;rw[h]at hk;exact hk
   rw[getElem?_set_ne (Ne.symm this)];exact hk
  ·have:k≠id:=by rintro rfl;rw[h]at hk;exact hk
   rw[getElem?_set_ne (Ne.symm this)];exact hk
  ·by_cases e':k=id
   ·subst e'
    rw[h]at hk;cases hk;refine⟨false,e,_,getElem?_set_self hid,le_refl _,fun _=>.inr ⟨he,QaS _ _ _ _,Qfz hn h1 hl hw hi,fun b' vB=>⟨vB,fun jf=>?_⟩⟩⟩
    obtain rfl:b=b':=M.uniq _ _ _ qR vB vj jf;exact st
   ·exact⟨fz2,e2,xs2,by rw[getElem?_set_ne (Ne.symm e')];exact hk,le_refl _,fun _=>.inl ⟨rfl,fun b' vB=>⟨vB,QH (k:=0) (ne vB e')⟩⟩⟩
 refine⟨qR,⟨cur,hh,je⟩,E,fun k cs hk=>?_,fun k cs hk j u hj=>?_,fun k y hk=>?_,fun b' k vB=>⟨by rw[Q1o];exact(M.own b' k vB).1,by rw[length_set];exact(M.own b' k vB).2⟩,fun b' o zJ=>⟨by rw[Q1o];exact(M.imm b' o zJ).1,fun k ku hs=>?_⟩,fun k et' sz' fz2 e2 xs2 hk=>?_,fun b' hs=>?_,M.uniq⟩
 ·have e':k≠id:=by rintro rfl;rw[getElem?_set_self hid]at hk;cases hk
  rw[getElem?_set_ne (Ne.symm e')]at hk;obtain⟨h3,cur',T,h4,h5⟩:=M.box k cs hk;exact⟨h3,cur',T,by rw[QH (k:=0) (ne h3 e')];exact h4,h5.ext E⟩
 ·have e':k≠id:=by rintro rfl;rw[getElem?_set_self hid]at hk;cases hk
  rw[getElem?_set_ne (Ne.symm e')]at hk;obtain⟨h3,y,h4,h5⟩:=M.fbox k cs hk j u hj;exact⟨h3,y,by rw[hcell _ _ h3];exact h4,h5.keep hA⟩
 ·have e':k≠id:=by rintro rfl;rw[getElem?_set_self hid]at hk;cases hk
  rw[getElem?_set_ne (Ne.symm e')]at hk;obtain⟨h3,h4⟩:=M.iter k y hk;exact⟨h3,h4.at E.A E.loc (by simp) (QH (k:=0) (ne h3 e'))⟩
 ·obtain⟨et',sz',e2,xs2,h3,h4⟩:=(M.imm b' o zJ).2 k ku hs
  have e':k≠id:=by rintro rfl;rw[h]at h3;cases h3
  exact⟨et',sz',e2,xs2,by rw[getElem?_set_ne (Ne.symm e')];exact h3,h4⟩
 ·by_cases e':k=id
  ·subst e'
   rw[getElem?_set_self hid]at hk;cases hk;exact⟨(M.roww _ _ _ _ _ _ h).1,Qfz hn h1 hl hw hi⟩
  ·rw[getElem?_set_ne (Ne.symm e')]at hk
   exact M.roww k _ _ _ _ _ hk
 ·obtain⟨k,et',sz',fz2,e2,xs2,h3,h4⟩:=M.nsub b' hs
  by_cases e':k=id
  ·subst e'
   exact⟨k,_,_,_,_,_,h3,getElem?_set_self hid⟩
  ·exact⟨k,et',sz',fz2,e2,xs2,h3,by rw[getElem?_set_ne (Ne.symm e')];exact h4⟩
end
section
variable {P:Program}{ty:Tys}{Df:List Deferred}{w0:World}{g0:Gh}{o0:List Ob}{N:Nat}{Q:Ex->St->Prop}
theorem QgY{x:AV}(h:x.pur=true):∀u∈x.cells,u.cells=[u]:=by
 cases x with
 |agg cs =>
  intro u hu;have:=all_eq_true.1 h u hu
  cases u<;>first|rfl|cases this
 |_=>intro u hu;rw[List.mem_singleton.1 hu];rfl
theorem QgV(hT:TyOk P ty){K:St->Tree}{o:Oper}{s:St}{a:Act}{w:World}{R:Exit->Act->World->Prop}(hs:Sim Df w0 g0 o0 N s a w)(hd:∀t,o.dst=some t->t<N)
  {T:Nat} {x y:Operand} (ho:o.op=.store T x y) {id ep off et sz e:Nat} {i:Int} {xs:List AV} (hx:ev s x=.rptr id ep i off) (hb:s.ob[id]?=some (.row et sz false e xs)) (qS:e=ep) (kt:et≠Q4e) (hp:(ev s y).pur=true) (hk:(Q1 T ty).ok=true)
  (j6:(ev s y).cells.length=(Q1 T ty).size) (hn:(ev s y).cells.length≠0) (jF:off+(ev s y).cells.length<=sz)
  (jB:(K (St.put ⟨s.tm,s.ob.set id (.row et sz false e (std.setx xs i off (ev s y).cells))⟩ o.dst .dead)).ok Df P w0 g0 o0 N Q):o.wp P a w (Q30 Df ty P w0 g0 o0 N Q K o.op w) R:=by
 obtain⟨g,M,hS,h0⟩:=hs.rel;have hl:(ev s y).live=true:=by cases hh:ev s y<;>rw[hh]at hp<;>first|rfl|cases hp
 have jT:=Qbo (vs:=[]) ((Qo hS y).to1 hl) hp;have jn:=Qo hS x;rw[hx]at jn;obtain⟨_,et',sz',fz',e',xs',vl,_,h3⟩:=jn;rw[hb]at vl;cases vl;obtain⟨b,c,hv,h4,h5,h6⟩:=h3 qS;have hi:i.toNat<xs.length:=by omega
 obtain⟨hG,⟨cur,hh,je⟩,E,M'⟩:=Qkb M hb kt h6 hi jT hn (QgY hp) jF;have jC:(a.eval y).cells.size=(ev s y).cells.length:=by simpa using jT.1
 have jI:=run_storeCells_cells (P:=P) b (i.toNat * sz+off) (a.eval y).cells.toList 0 w (fun j hj=>by
   have:i.toNat * sz+off+j<cur.size:=by simp at hj;omega
   simp[World.cell?,hh,this]) (fun j hj=>by simp[World.frozen?,hh]) jT.one
 rw[Nat.add_zero]at jI;have kr:=(Q1S hT hk).size w
 have hr:(execOp a.eval o).run P w=.ok .skip (w.setCells b (i.toNat * sz+off) (a.eval y).cells.toList):=by
  have jL:¬((a.eval y).cells.size≠(Q1 T ty).size):=by omega
  simp only[execOp,ho,Instr.storeAt,hv,Instr.sureAddr,storeVar,Sem.run_bind,Sem.run_pure,Result.andThen_ok,kr,jL,if_false,jI]
 unfold Oper.wp;rw[hr];show Q30 Df ty P w0 g0 o0 N Q K o.op w (a.put o.dst undef) _;refine⟨fun h=>by simp[ho,Q2m]at h,_,Q12 hs hS h0 M' ⟨(Q1n _ _ _ _).1,(Q1n _ _ _ _).2.1,(Q1n _ _ _ _).2.2,by rw[Q1o];exact le_refl _,fun b' _ vB=>?_,fun b' k vB=>.inl ⟨k,vB⟩,fun b' o h=>.inl h,E,by simp⟩ hd (v:=undef) (x:=.dead) trivial,jB⟩
 exact QH (k:=0) (fun e=>by rw[e,hG]at vB;cases vB)
end
section
variable {P:Program}{ty:Tys}{Df:List Deferred}{w0:World}{g0:Gh}{o0:List Ob}{N:Nat}{Q:Ex->St->Prop}
theorem Qfa{K:St->Tree}{o:Oper}{s:St}{a:Act}{w:World}{R:Exit->Act->World->Prop}(hs:Sim Df w0 g0 o0 N s a w)(hd:∀t,o.dst=some t->t<N)
  {T:Nat} (ho:o.op=.makeMap T none) (jB:(K (St.put ⟨s.tm,s.ob++[.iter (.map [])]⟩ o.dst (.iter s.ob.length))).ok Df P w0 g0 o0 N Q):o.wp P a w (Q30 Df ty P w0 g0 o0 N Q K o.op w) R:=by
 obtain⟨g,M,hS,h0⟩:=hs.rel
 have hr:(execOp a.eval o).run P w=.ok (.value (.map (some w.heap.size))) (w.alloc (.map #[] 0)):=by
  simp only[execOp,ho];refine Q11 ?_;simp only[Option.map_none,Instr.makeMap,Sem.run_bind,Sem.run_pure,Result.andThen_ok,run_newObj];rfl
 have M':=M.new (.map #[] 0) (.iter (.map [])) (fun cs h=>by cases h) (fun cs h=>by cases h) (fun y h=>by cases h;exact⟨#[],rfl,rfl,fun j e q h=>by simp at h⟩) (fun et sz fz e xs h=>by cases h)
 refine Q3k hr ⟨fun _=>(Below.refl _ w).alloc (le_refl _) _,_,Q12 hs hS h0 M' (Step.new M _ _) hd ?_,jB⟩
 refine⟨true,by simp[Gh.new,Q9L],?_⟩
 rw[Q2p];rfl
theorem Q69{w:World}{g:Gh}{ob:List Ob}:∀{cs:List AV}{vs:List Value},Q6J cs=some vs->ARelC w g ob vs cs
 | [],vs,h=>by
  obtain rfl:[]=vs:=by simpa[Q6J]using h
  exact⟨rfl,fun j v u h=>by simp at h⟩
 |x::r,vs,h=>by
  cases x with
  |val v =>
   simp only[Q6J]at h;split at h
   ·rename_i hv
    obtain⟨us,hu,rfl⟩:=map_eq_some_iff.1 h;have ih:=Q69 (w:=w) (g:=g) (ob:=ob) hu;refine⟨by simp[ih.1],fun j y u hy j0=>?_⟩
    cases j with
    |zero =>
     obtain rfl:v=y:=by simpa using hy
     obtain rfl:AV.val v=u:=by simpa using j0
     exact⟨PRel.val _ hv,hv⟩
    |succ j=>exact ih.2 j y u (by simpa using hy) (by simpa using j0)
   ·cases h
  |_=>simp[Q6J]at h
def QnS:Value->List Value
 |.agg cs=>cs.toList
 |v=>[v]
theorem Qku{w:World}{g:Gh}{ob:List Ob}{x:AV}{v:Value}(h:QcZ x=some v):ARelC w g ob (QnS v) x.cells/\(Qd5 x=true↔∃vs:Array Value,v=.agg vs):=by
 cases x with
 |agg cs =>
  obtain⟨vs,h1,rfl⟩:=map_eq_some_iff.1 h;exact⟨Q69 h1,by simp[Qd5]⟩
 |val u =>
  simp only[QcZ]at h;split at h
  ·rename_i hu
   obtain rfl:u=v:=by simpa using h
   have hn:∀vs:Array Value,u≠.agg vs:=fun vs e=>by rw[e]at hu;cases hu
   have hc:QnS u=[u]:=by
    cases u<;>first|rfl|exact absurd rfl (hn _)
   refine⟨⟨by rw[hc];rfl,fun j y z hy hz=>?_⟩,by simp only[Qd5];exact⟨fun h=>(by cases h),fun⟨vs,e⟩=>absurd e (hn vs)⟩⟩
   rw[hc]at hy;cases j with
   |zero =>
    obtain rfl:u=y:=by simpa using hy
    obtain rfl:AV.val u=z:=by simpa[AV.cells]using hz
    exact⟨PRel.val _ hu,hu⟩
   |succ j=>simp at hy
  ·cases h
 |_=>cases h
theorem Qcs{w:World}{g:Gh}{ob:List Ob}:∀{cs:List AV}{us:List Value}{sh:List Srt},shA cs=some sh->ARelC w g ob us cs->us.map Q3B=sh.map some
 | [],us,sh,h,hu=>by
  obtain rfl:[]=sh:=by simpa[shA]using h
  obtain rfl:us=[]:=List.eq_nil_of_length_eq_zero hu.1;rfl
 |x::r,us,sh,h,hu=>by
  simp only[shA]at h;split at h
  ·rename_i s ss h1 h2
   obtain rfl:s::ss=sh:=by simpa using h
   cases us with
   |nil=>exact absurd hu.1 (by simp)
   |cons u us =>
    have ih:=Qcs (w:=w) (g:=g) (ob:=ob) h2 (us:=us) ⟨by simpa using hu.1,fun j y z hy hz=>hu.2 (j+1) y z (by simpa using hy) (by simpa using hz)⟩
    have h3:=(hu.2 0 u x rfl rfl).1
    have h4:Q3B u=some s:=by
     cases x with
     |val v =>
      obtain rfl:u=v:=by have h3:PRel w g.A u (.val v):=h3;cases h3;rfl
      cases u<;>simp[QlH]at h1<;>simp[Q3B,h1]
     |_=>simp[QlH]at h1
    rw[map_cons,map_cons,h4,ih]
  ·cases h
theorem Qdz{w:World}{g:Gh}{ob:List Ob}:∀{cs:List AV}{us:List Value}{sh:List Srt},shA cs=some sh->ARelC w g ob us cs->Q6J cs=some us
 | [],us,sh,h,hu=>by
  obtain rfl:us=[]:=List.eq_nil_of_length_eq_zero hu.1;rfl
 |x::r,us,sh,h,hu=>by
  simp only[shA]at h;split at h
  ·rename_i s ss h1 h2
   cases us with
   |nil=>exact absurd hu.1 (by simp)
   |cons u us =>
    have ih:=Qdz (w:=w) (g:=g) (ob:=ob) h2 (us:=us) ⟨by simpa using hu.1,fun j y z hy hz=>hu.2 (j+1) y z (by simpa using hy) (by simpa using hz)⟩
    have h3:=(hu.2 0 u x rfl rfl).1;cases x with
    |val v =>
     obtain rfl:u=v:=by have h3:PRel w g.A u (.val v):=h3;cases h3;rfl
     simp only[Q6J];rw[if_pos (hu.2 0 u _ rfl rfl).2,ih];rfl
    |_=>simp[QlH]at h1
  ·cases h
theorem Qe0{a b:List Srt}(h:a.map some=b.map some):a=b:=by
 have:=congrArg (List.filterMap id) h
 simpa using this
theorem Qdd{a b:ByteArray}(h:(a.toList == b.toList)=true):a=b:=by
 have h:=eq_of_beq h;rw[ByteArray.toList_eq,ByteArray.toList_eq]at h;exact ByteArray.ext (Array.toList_inj.1 h)
theorem Qfi(a:ByteArray):(a == a)=true:=by rw[beq_toListBytes];simp
theorem Qmz{a b:Value}{s:Srt}(ha:Q3B a=some s)(hb:Q3B b=some s)(h:eqV a b=true):a=b:=by
 cases a<;>simp[Q3B]at ha<;>subst ha<;>cases b<;>simp[Q3B]at hb
 ·simp only[eqV,beq_iff_eq]at h;rw[h]
 ·obtain rfl:=hb
  simp only[eqV,beq_iff_eq]at h;rw[h]
 ·rw[Qdd h]
theorem QfG:∀{sh:List Srt}{us vs:List Value},us.map Q3B=sh.map some->vs.map Q3B=sh.map some->((us.zip vs).all fun q=>eqV q.1 q.2)=true->us=vs
 | [],us,vs,h1,h2,_=>by
  obtain rfl:us=[]:=by simpa using h1
  obtain rfl:vs=[]:=by simpa using h2
  rfl
 |s::sh,us,vs,h1,h2,h3=>by
  cases us with
  |nil=>cases h1
  |cons u us =>
   cases vs with
   |nil=>cases h2
   |cons v vs =>
    simp only[map_cons,List.cons.injEq]at h1 h2;simp only[List.zip_cons_cons,List.all_cons,Bool.and_eq_true]at h3;rw[Qmz h1.1 h2.1 h3.1,QfG h1.2 h2.2 h3.2]
theorem Q7W{n:Nat}{v:Value}{s:Srt}(h:Q3B v=some s):Instr.sameBits n v v=true:=by
 cases v<;>simp[Q3B]at h<;>cases n<;>simp[Instr.sameBits,Qfi]
theorem Q9J{α:Type}:∀{l:List α}{x y:α},(x,y)∈l.zip l->x=y/\x∈l
 |a::r,x,y,h=>by
  rcases List.mem_cons.1 (by simpa using h:(x,y)∈(a,a)::r.zip r)with h|h
  ·cases h;exact⟨rfl,mem_cons_self⟩
  ·exact⟨(Q9J h).1,List.mem_cons_of_mem _ (Q9J h).2⟩
theorem Qja{n:Nat}{vs:Array Value}{sh:List Srt}(h:vs.toList.map Q3B=sh.map some):Instr.sameBits (n+1) (.agg vs) (.agg vs)=true:=by
 simp only[Instr.sameBits,beq_self_eq_true,Bool.true_and,all_eq_true];rintro⟨x,y⟩ hm;obtain⟨rfl,hx⟩:=Q9J hm;have:Q3B x∈sh.map some:=h ▸ List.mem_map_of_mem hx
 obtain⟨s,_,hs⟩:=mem_map.1 this;exact Q7W hs.symm
def Fnd(Df:List Deferred)(P:Program)(w0:World)(g0:Gh)(o0:List Ob)(N:Nat)(Q:Ex->St->Prop)(w:World)(A:Nat->Nat->Prop)(j:Nat)(l:List MapEntry)(kv:Value)(f:Nat->AV->Tree)(n:Tree)(r:Option (Nat×Value)):Prop :=
 (∃m e u,r=some (m,e.val)/\j<=m/\l[m-j]?=some e/\e.key=kv/\PRel1 w A e.val u/\(f m u).ok Df P w0 g0 o0 N Q)\/(r=none/\n.ok Df P w0 g0 o0 N Q)
theorem Fnd.up{w:World}{A:Nat->Nat->Prop}{j:Nat}{x:MapEntry}{l:List MapEntry}{kv:Value}{f:Nat->AV->Tree}{n:Tree}{r:Option (Nat×Value)}(h:Fnd Df P w0 g0 o0 N Q w A (j+1) l kv f n r):Fnd Df P w0 g0 o0 N Q w A j (x::l) kv f n r:=by
 rcases h with ⟨m,e,u,h1,h2,h3,h4⟩|h
 ·exact .inl ⟨m,e,u,h1,by omega,by rw[show m-j=(m-(j+1))+1 by omega];simpa using h3,h4⟩
 ·exact .inr h
theorem Qmi{w:World}{g:Gh}{K:Nat}{cs:List AV}{us:List Value}(hu:Q6J cs=some us){sh:List Srt}(v7:shA cs=some sh)(hK:Q7l P K sh){f:Nat->AV->Tree}{n:Tree} :
  ∀(es:List (AV×AV)) (l:List MapEntry) (j:Nat),l.length=es.length->(∀(i:Nat) e q,l[i]?=some e->es[i]?=some q->Qhy w g.A e q)->(Q7q std (.agg cs) f n j es).ok Df P w0 g0 o0 N Q ->
   ∃r,(∀W,(Instr.findAsking K (.agg us.toArray) l j).run P W=.ok r W)/\Fnd Df P w0 g0 o0 N Q w g.A j l (.agg us.toArray) f n r
 | [],l,j,hl,_,jB=>by
  obtain rfl:l=[]:=List.eq_nil_of_length_eq_zero hl;exact⟨none,fun W=>rfl,.inr ⟨rfl,jB⟩⟩
 |(k,v)::r,l,j,hl,hE,jB=>by
  cases l with
  |nil=>cases hl
  |cons e l =>
   simp only[Q7q]at jB;split at jB
   ·rename_i hg
    obtain⟨hk,hv⟩:=hE 0 e (k,v) rfl rfl;obtain⟨xZ,ng⟩:=Qku (w:=w) (g:=g) (ob:=[]) hk;obtain⟨vs,gW⟩:=ng.1 hg;split at jB
    ·rename_i sh' b hb
     rw[gW]at xZ;have h0:=Q69 (w:=w) (g:=g) (ob:=[]) hu;obtain⟨e1,e2,e3⟩:=Q8k _ _ us vs.toList sh' b hb h0 xZ;have e4:=Qcs v7 h0;obtain rfl:sh'=sh:=Qe0 (e1.symm.trans e4)
     have hq:∀W,(Op.equal K (.agg us.toArray) e.key).run P W=.ok b W:=fun W=>by
      rw[gW,e3,<-hK.2 us vs.toList W e1 e2]
     cases b with
     |true =>
      have hkv:e.key=.agg us.toArray:=by
       have e6:=QfG e1 e2 e3.symm;rw[gW,e6]
      refine⟨some (j,e.val),fun W=>?_,.inl ⟨j,e,v,rfl,le_refl _,by simp,hkv,hv,jB.1 rfl⟩⟩
      rw[Instr.findAsking,Sem.run_bind,hq W];rfl
     |false =>
      obtain⟨q,h1,h2⟩:=Qmi hu v7 hK r l (j+1) (by simpa using hl) (fun i e q h3 h4=>hE (i+1) e q (by simpa using h3) (by simpa using h4)) (jB.2 rfl)
      refine⟨q,fun W=>?_,h2.up⟩
      rw[Instr.findAsking,Sem.run_bind,hq W];exact h1 W
    ·exact jB.elim
   ·exact jB.elim
theorem QlZ{d:TypeDesc}{v0 u:Value}{s:Srt}{b:Bool}(hd:(d=.string/\∃s,v0=.string s)\/(∃k k' m,d=.int k/\v0=.int k' m))(h:eqC std (.val v0) (.val u)=some (s,b)):Instr.sameNow d v0 u=some b:=by
 rcases hd with ⟨rfl,a,rfl⟩|⟨k,k',m,rfl,rfl⟩
 ·cases u<;>simp[eqC]at h
  rename_i c;rw[<-h.2];show some (a == c)=some (a.toList == c.toList);rw[beq_toListBytes]
 ·cases u<;>simp[eqC]at h
  rename_i k2 m2;obtain⟨rfl,_,h2⟩:=h;rw[<-h2];show(if k'=k' then some (m == m2)else none)=some (m == m2)
  rw[if_pos rfl]
theorem Qnm{d:TypeDesc}{v0 u:Value}(hd:(d=.string/\∃s,v0=.string s)\/(∃k k' m,d=.int k/\v0=.int k' m))(h:Instr.sameNow d v0 u=some true):u=v0:=by
 rcases hd with ⟨rfl,a,rfl⟩|⟨k,k',m,rfl,rfl⟩
 ·cases u<;>simp[Instr.sameNow]at h
  exact congrArg Value.string (Qdd (by rw[<-beq_toListBytes];exact h)).symm
 ·cases u<;>simp[Instr.sameNow]at h
  rw[h.1,h.2]
theorem QiQ{w:World}{g:Gh}{d:TypeDesc}{v0:Value}(ym:v0.oneCell'=true)(hd:(d=.string/\∃s,v0=.string s)\/(∃k k' m,d=.int k/\v0=.int k' m)){f:Nat->AV->Tree}{n:Tree} :
  ∀(es:List (AV×AV)) (l:List MapEntry) (j:Nat),l.length=es.length->(∀(i:Nat) e q,l[i]?=some e->es[i]?=some q->Qhy w g.A e q)->(Q7q std (.val v0) f n j es).ok Df P w0 g0 o0 N Q ->
   ∃r,Instr.findNow d v0 l j=some r/\Fnd Df P w0 g0 o0 N Q w g.A j l v0 f n r
 | [],l,j,hl,_,jB=>by
  obtain rfl:l=[]:=List.eq_nil_of_length_eq_zero hl;exact⟨none,rfl,.inr ⟨rfl,jB⟩⟩
 |(k,v)::r,l,j,hl,hE,jB=>by
  cases l with
  |nil=>cases hl
  |cons e l =>
   simp only[Q7q]at jB;split at jB
   ·rename_i hg
    obtain⟨hk,hv⟩:=hE 0 e (k,v) rfl rfl;cases k with
    |val u =>
     simp only[QcZ]at hk;split at hk
     ·obtain rfl:u=e.key:=by simpa using hk
      split at jB
      ·rename_i sh' b hb
       have hq:Instr.sameNow d v0 e.key=some b:=by
        simp only[AV.cells,QcS]at hb;split at hb
        ·rename_i s a ss a2 h1 h2
         obtain⟨rfl,rfl⟩:ss=[]/\a2=true:=by simpa using h2.symm
         have hb:a=b:=by have:=(Prod.mk.inj (Option.some.inj hb)).2;simpa[std]using this
         rw[<-hb];exact QlZ hd h1
        ·cases hb
       cases b with
       |true=>exact⟨some (j,e.val),by rw[Instr.findNow,hq],.inl ⟨j,e,v,rfl,le_refl _,by simp,Qnm hd hq,hv,jB.1 rfl⟩⟩
       |false =>
        obtain⟨q,h1,h2⟩:=QiQ ym hd r l (j+1) (by simpa using hl) (fun i e q h3 h4=>hE (i+1) e q (by simpa using h3) (by simpa using h4)) (jB.2 rfl)
        exact⟨q,by rw[Instr.findNow,hq];exact h1,h2.up⟩
      ·exact jB.elim
     ·cases hk
    |agg cs=>exact absurd hg (by simp[Qd5])
    |_=>cases hk
   ·exact jB.elim
theorem Qjh(hT:TyOk P ty){s:St}{a:Act}{w:World}{g:Gh}(hS:QW w g s a){KT:Nat}(hKT:(Q1 KT ty).ok=true){i:Operand}{f:Nat->AV->Tree}{n:Tree}{es:List (AV×AV)}{l:List MapEntry}(hl:l.length=es.length)
  (hE:∀(j:Nat) e q,l[j]?=some e->es[j]?=some q->Qhy w g.A e q) (jB:(QbR ty KT (ev s i) (Q7q std (ev s i) f n 0 es)).ok Df P w0 g0 o0 N Q) :
  ∃kv,QcZ (ev s i)=some kv/\a.eval i=kv/\(∀b W,(Instr.checkKey b 10000 KT kv).run P W=.ok () W)/\(∀m,Instr.sameBits (m+1) kv kv=true)/\∃r,(∀W,(Instr.findKey KT kv l).run P W=.ok r W)/\Fnd Df P w0 g0 o0 N Q w g.A 0 l kv f n r:=by
 have hr:=Qo hS i;have ti:=Q1S hT hKT;unfold QbR at jB;split at jB
 ·rename_i cs hx
  rw[hx]at hr jB;split at jB
  ·rename_i sh v7
   split at jB
   ·rename_i ja
    obtain⟨hK,jB⟩:=jB;obtain⟨us,hu,cM⟩:=hr;obtain⟨fs,jI,_⟩:=ti.strct ja;have ym:Q6J cs=some us.toList:=Qdz v7 cM;have e1:=Qcs v7 cM;refine⟨.agg us,by rw[hx];simp[QcZ,ym],hu,fun b W=>?_,fun m=>Qja e1,?_⟩
    ·exact hK.1 us.toList b W e1
    ·obtain⟨r,h1,h2⟩:=Qmi ym v7 hK es l 0 hl hE jB
     refine⟨r,fun W=>?_,h2⟩
     have h1:=h1 W;cases l with
     |nil =>
      unfold Instr.findKey;rw[Sem.run_bind,run_underlying jI];simp only[Result.andThen_ok,Instr.findNow];simpa[Instr.findAsking]using h1
     |cons e l =>
      unfold Instr.findKey;rw[Sem.run_bind,run_underlying jI];simp only[Result.andThen_ok,Instr.findNow,Instr.sameNow];exact h1
   ·exact jB.elim
  ·exact jB.elim
 ·rename_i b hx
  rw[hx]at hr jB;split at jB
  ·rename_i ja
   have jI:=ti.str ja;obtain⟨r,h1,h2⟩:=QiQ (d:=.string) (v0:=.string b) rfl (.inl ⟨rfl,b,rfl⟩) es l 0 hl hE jB;refine⟨.string b,by rw[hx];rfl,hr.valEq,fun c W=>?_,fun m=>Q7W (s:=.str) rfl,r,fun W=>?_,h2⟩
   ·show(Instr.checkKey c (9999+1) KT _).run P W=_
    unfold Instr.checkKey;rw[Sem.run_bind,run_underlying jI];rfl
   ·unfold Instr.findKey
    rw[Sem.run_bind,run_underlying jI];simp only[Result.andThen_ok,h1];rfl
  ·exact jB.elim
 ·rename_i k m hx
  rw[hx]at hr jB;split at jB
  ·rename_i ja
   obtain⟨k2,jI⟩:∃k2,P.underlying KT=some (.int k2):=by
    obtain⟨d,h1,h2⟩:=ti.u;cases d<;>simp[Q1E]at h2<;>first|(simp_all;done)|omega|exact⟨_,h1⟩
   obtain⟨r,h1,h2⟩:=QiQ (d:=.int k2) (v0:=.int k m) rfl (.inr ⟨k2,k,m,rfl,rfl⟩) es l 0 hl hE jB;refine⟨.int k m,by rw[hx];rfl,hr.valEq,fun c W=>?_,fun m=>Q7W (s:=.int k) rfl,r,fun W=>?_,h2⟩
   ·show(Instr.checkKey c (9999+1) KT _).run P W=_
    unfold Instr.checkKey;rw[Sem.run_bind,run_underlying jI];rfl
   ·unfold Instr.findKey
    rw[Sem.run_bind,run_underlying jI];simp only[Result.andThen_ok,h1];rfl
  ·exact jB.elim
 ·exact jB.elim
theorem QiG{w:World}{g:Gh}{ob:List Ob}{v:Value}{x:AV}(h:ARel w g ob v x)(hp:x.pur=true):PRel1 w g.A v x:=by
 have h0:∀{y:Value}{u:AV},u.pur0=true->ARel0 w g ob y u->PRel w g.A y u:=fun {y u} hu h=>by
  cases u<;>first|exact h|cases hu
 cases x with
 |agg cs =>
  obtain⟨vs,rfl,h1,h2⟩:=h;exact⟨vs,rfl,h1,fun j y u hy hu=>h0 (all_eq_true.1 hp u (mem_of_getElem? hu)) (h2 j y u hy hu).1⟩
 |val a=>exact h0 (u:=.val a) hp h
 |slc a b=>exact h0 (u:=.slc a b) hp h
 |ref a=>exact h0 (u:=.ref a) hp h
 |opt a=>exact h0 (u:=.opt a) hp h
 |_=>cases hp
theorem Qc7{w:World}{g:Gh}{ob:List Ob}{v:Value}{x:AV}(h:PRel1 w g.A v x)(hl:x.live=true):ARel1 w g ob v x:=by
 cases x with
 |agg cs=>obtain⟨vs,rfl,h1,h2⟩:=h;exact⟨vs,rfl,h1,fun j y u hy hu=>⟨(h2 j y u hy hu).to0,(h2 j y u hy hu).one⟩⟩
 |dead=>cases hl
 |tup _=>cases hl
 |val a=>exact PRel.to0 (ob:=ob) (x:=.val a) h
 |slc a b=>exact PRel.to0 (ob:=ob) (x:=.slc a b) h
 |ref a=>exact PRel.to0 (ob:=ob) (x:=.ref a) h
 |opt a=>exact PRel.to0 (ob:=ob) (x:=.opt a) h
 |box a b=>exact PRel.to0 (ob:=ob) (x:=.box a b) h
 |row a b=>exact PRel.to0 (ob:=ob) (x:=.row a b) h
 |rowk a b c=>exact PRel.to0 (ob:=ob) (x:=.rowk a b c) h
 |rptr a b c d=>exact PRel.to0 (ob:=ob) (x:=.rptr a b c d) h
 |kb a=>exact PRel.to0 (ob:=ob) (x:=.kb a) h
 |iter a=>exact PRel.to0 (ob:=ob) (x:=.iter a) h
 |clo a b c d=>exact PRel.to0 (ob:=ob) (x:=.clo a b c d) h
theorem Q88{w:World}{A:Nat->Nat->Prop}{v:Value}{x:AV}(h:PRel1 w A v x):x.live=true:=by
 cases x<;>first|rfl|(exfalso;cases(show PRel w A v _ from h))
theorem Qj5{w:World}{g:Gh}{ob:List Ob}{v:Value}{u:AV}{c b:Bool}(h:PRel1 w g.A v u):ARel w g ob (if c then .tuple #[v,.bool b]else v) (QdN c u b):=by
 have h1:ARel1 w g ob v u:=Qc7 h (Q88 h);cases c with
 |true =>
  refine⟨#[v,.bool b],rfl,rfl,fun j y z hy hz=>?_⟩
  match j,hy,hz with
  |0,hy,hz=>cases hy;cases hz;exact h1
  |1,hy,hz=>cases hy;cases hz;exact PRel.val _ rfl
  |j+2,hy,hz=>simp at hy
 |false=>exact h1.to
def Qaa(K E:TypeId)(ents:Array MapEntry)(kv:Value)(c:Bool):Sem Value:=do
 Instr.checkKey ents.isEmpty 10000 K kv
 let (v,ok) <-match <-Instr.findKey K kv ents.toList with
  |some (_,v)=>pure (v,true)
  |none=>pure (<-zeroValue E,false)
 pure (if c then .tuple #[v,.bool ok]else v)
theorem QfQ(kc:AV)(f:Nat->AV->Tree)(n:Tree):∀(es:List (AV×AV)) (j:Nat),(match Qbt kc j es with
  |some (some (i,v))=>(f i v).ok Df P w0 g0 o0 N Q
  |some none=>n.ok Df P w0 g0 o0 N Q
  |none=>False)->(Q7q std kc f n j es).ok Df P w0 g0 o0 N Q
 | [],j,h=>h
 |(k,v)::r,j,h=>by
  rw[Qbt]at h;rw[Q7q];split
  ·rename_i hg
   rw[if_pos hg]at h;split
   ·rename_i sh b hb
    rw[hb]at h;cases b with
    |true=>exact⟨fun _=>h,fun e=>(nomatch e)⟩
    |false=>exact⟨fun e=>(nomatch e),fun _=>QfQ kc f n r (j+1) h⟩
   ·rename_i hb
    rw[hb]at h;exact h.elim
  ·rename_i hg
   rw[if_neg hg]at h;exact h.elim
theorem QjO{kc:AV}{f:Nat->AV->Tree}{n:Tree}{es:List (AV×AV)}(h:(Tree.look kc es f n).ok Df P w0 g0 o0 N Q):(Q7q std kc f n 0 es).ok Df P w0 g0 o0 N Q:=by
 unfold Tree.ok at h;refine QfQ kc f n es 0 ?_;split at h
 ·rename_i h1;rw[h1];exact h
 ·rename_i h1;rw[h1];exact h
 ·exact h.elim
theorem Qbc{KT:Nat}{k:AV}{t t':Tree}(h:t.ok Df P w0 g0 o0 N Q->t'.ok Df P w0 g0 o0 N Q)(hk:(QbR ty KT k t).ok Df P w0 g0 o0 N Q):(QbR ty KT k t').ok Df P w0 g0 o0 N Q:=by
 unfold QbR at hk ⊢;split
 ·split
  ·split
   ·rename_i h1 h2
    simp only[h1]at hk;rw[if_pos h2]at hk;exact⟨hk.1,h hk.2⟩
   ·rename_i h1 h2
    simp only[h1]at hk;rw[if_neg h2]at hk;exact hk
  ·rename_i h1
   simp only[h1]at hk;exact hk
 ·split
  ·rename_i h2
   simp only at hk
   rw[if_pos h2]at hk;exact h hk
  ·rename_i h2
   simp only at hk
   rw[if_neg h2]at hk;exact hk
 ·split
  ·rename_i h2
   simp only at hk
   rw[if_pos h2]at hk;exact h hk
  ·rename_i h2
   simp only at hk
   rw[if_neg h2]at hk;exact hk
 ·rename_i h1 h2 h3
  split at hk
  ·exact absurd rfl (h1 _)
  ·exact absurd rfl (h2 _)
  ·exact absurd rfl (h3 _ _)
  ·exact hk
theorem QkM(hT:TyOk P ty){K:St->Tree}{o:Oper}{s:St}{a:Act}{w:World}{R:Exit->Act->World->Prop}(hs:Sim Df w0 g0 o0 N s a w)(hd:∀t,o.dst=some t->t<N)
  {T:Nat} {x i:Operand} {c:Bool} (ho:o.op=.lookup T x i c) (jB:(Q7R ty K o s T x i c).ok Df P w0 g0 o0 N Q):o.wp P a w (Q30 Df ty P w0 g0 o0 N Q K o.op w) R:=by
 obtain⟨g,M,hS,h0⟩:=hs.rel;unfold Q7R at jB;split at jB
 ·rename_i es hm
  split at jB
  ·rename_i hk
   obtain⟨jR,qC,yp,nh⟩:=hk;have jB:=Qbc QjO jB;have jI:=(Q1S hT jR).mapT qC;have jn:=Qo hS x
   have ni:∃ents:Array MapEntry,ents.size=es.length/\(∀(j:Nat) e q,ents[j]?=some e->es[j]?=some q->Qhy w g.A e q) /\
     ∀kv V,(Qaa (Qbw ty T) (Q1 T ty).elem ents kv c).run P w=.ok V w->(Instr.lookup T (a.eval x) kv c).run P w=.ok V w:=by
    unfold Qmj at hm;split at hm
    ·rename_i hx
     rw[hx]at jn;obtain rfl:[]=es:=by simpa using hm
     refine⟨#[],rfl,fun j e q h=>by simp at h,fun kv V h=>?_⟩
     rw[jn.valEq];unfold Instr.lookup;rw[Sem.run_bind,run_underlying jI];simp only[Result.andThen_ok];rw[Sem.run_bind,Sem.run_pure];exact h
    ·rename_i id hx
     rw[hx]at jn;split at hm
     ·rename_i es' jK
      obtain rfl:es'=es:=by simpa using hm
      obtain⟨hG,ents,h1,h2,h3⟩:=M.iter id _ jK;obtain⟨k,h4,h5⟩:=jn;rw[jK]at h5;obtain rfl:k=true:=h5;refine⟨ents,h2,fun j e q he hq=>(h3 j e q he hq).1,fun kv V h=>?_⟩
      have vU:(getObj (g.loc id)).run P w=.ok (.map ents es'.length) w:=by simp[getObj,Sem.run,h1]
      rw[h4];unfold Instr.lookup Q9L;rw[Sem.run_bind,run_underlying jI];simp only[Result.andThen_ok];rw[Sem.run_bind,vU];simp only[Result.andThen_ok];rw[Sem.run_bind,Sem.run_pure];exact h
     ·cases hm
    ·cases hm
   obtain⟨ents,e1,e2,e3⟩:=ni;obtain⟨kv,q1,q2,q3,_,r,q4,hF⟩:=Qjh hT hS nh (l:=ents.toList) (by simpa using e1) (fun j e q h1 h2=>e2 j e q (by simpa using h1) h2) jB
   have fin:∀(V:Value)(u:AV)(b:Bool),PRel1 w g.A V u->(Instr.lookup T (a.eval x) (a.eval i) c).run P w=.ok (if c then .tuple #[V,.bool b]else V) w->(K (St.put s o.dst (QdN c u b))).ok Df P w0 g0 o0 N Q->o.wp P a w (Q30 Df ty P w0 g0 o0 N Q K o.op w) R:=fun V u b hV jQ jB=>by
    have hr:(execOp a.eval o).run P w=.ok (.value (if c then .tuple #[V,.bool b]else V)) w:=by
     simp only[execOp,ho];exact Q11 jQ
    exact Q3k hr ⟨fun _=>Below.refl _ w,_,Q12 hs hS h0 M Step.refl hd (Qj5 hV),jB⟩
   rcases hF with ⟨m,e,u,rfl,_,_,_,hV,jB⟩|⟨rfl,jB⟩
   ·refine fin e.val u true hV ?_ jB
    rw[q2];refine e3 kv _ ?_;unfold Qaa;rw[Sem.run_bind,q3];simp only[Result.andThen_ok];rw[Sem.run_bind,q4];simp only[Result.andThen_ok,Sem.run_bind,Sem.run_pure]
   ·have te:=Q1S hT yp
    obtain⟨z,z1,zA,z2⟩:=te.zeroV
    have fin2:∀Z:AV,PRel1 w g.A z Z->(K (St.put s o.dst (QdN c Z false))).ok Df P w0 g0 o0 N Q->o.wp P a w (Q30 Df ty P w0 g0 o0 N Q K o.op w) R:=fun Z nX jB=>by
     refine fin z Z false nX ?_ jB;rw[q2];refine e3 kv _ ?_;unfold Qaa;rw[Sem.run_bind,q3];simp only[Result.andThen_ok];rw[Sem.run_bind,q4];simp only[Result.andThen_ok];rw[Sem.run_bind,z2];simp only[Result.andThen_ok,Sem.run_bind,Sem.run_pure]
    unfold QmZ at jB;split at jB
    ·rename_i hz
     have hzz:∃zs:Array Value,z=.agg zs:=by
      have j6:z.cells.size=(Q1 (Q1 T ty).elem ty).size:=by rw[<-te.zl,<-z1];simp
      cases z<;>first|exact⟨_,rfl⟩|exact absurd j6.symm hz.2
     obtain⟨zs,rfl⟩:=hzz;refine fin2 (.agg ((Q1 (Q1 T ty).elem ty).zero.map .val)) ⟨zs,rfl,?_⟩ jB;have e4:zs.toList=(Q1 (Q1 T ty).elem ty).zero:=z1;rw[e4];refine⟨by simp,fun j y u hy hu=>?_⟩
     rw[getElem?_map,hy]at hu;obtain rfl:AV.val y=u:=by simpa using hu
     exact PRel.val _ (all_eq_true.1 te.zone y (mem_of_getElem? hy))
    ·split at jB
     ·rename_i ha
      rw[ha]at zA;have hc:z.cells=#[z]:=by cases z<;>first|rfl|cases zA
      rw[hc]at z1;have h1:(Q1 (Q1 T ty).elem ty).zero.headD QjF=z:=by rw[<-z1];rfl
      rw[h1]at jB;exact fin2 (.val z) (PRel.val _ (all_eq_true.1 te.zone z (by rw[<-z1];simp))) jB
     ·exact jB.elim
  ·exact jB.elim
 ·exact jB.elim
def Qoh(b:Nat)(ents:Array MapEntry)(clock:Nat)(kv v:Value)(r:Option (Nat×Value)):Sem Unit :=
 match r with
 |some (i,_)=>do
  let key <-Instr.keyThatStays (((ents[i]?).map (·.key)).getD kv) kv
  setObj b (.map (ents.modify i fun e=>{ e with key,val:=v }) clock)
 |none=>setObj b (.map (ents.push { key:=kv,val:=v,born:=clock }) (clock+1))
theorem Qh2(hT:TyOk P ty){K:St->Tree}{o:Oper}{s:St}{a:Act}{w:World}{R:Exit->Act->World->Prop}(hs:Sim Df w0 g0 o0 N s a w)(hd:∀t,o.dst=some t->t<N)
  {T:Nat} {m i x:Operand} (ho:o.op=.mapUpdate T m i x) (jB:(Qah std ty K o s T m i x).ok Df P w0 g0 o0 N Q):o.wp P a w (Q30 Df ty P w0 g0 o0 N Q K o.op w) R:=by
 obtain⟨g,M,hS,h0⟩:=hs.rel;unfold Qah at jB;split at jB
 ·rename_i id hm
  split at jB
  ·rename_i es jK
   split at jB
   ·rename_i hk
    obtain⟨jR,qC,yp,nh⟩:=hk;have jB:=Qbc QjO jB;have jI:=(Q1S hT jR).mapT qC;have hmr:=Qo hS m;rw[hm]at hmr;obtain⟨hG,ents,h1,h2,h3⟩:=M.iter id _ jK;obtain⟨k,h4,h5⟩:=hmr;rw[jK]at h5;obtain rfl:k=true:=h5;obtain⟨kv,q1,q2,q3,q5,r,q4,hF⟩:=Qjh hT hS yp (l:=ents.toList) (by simpa using h2) (fun j e q h6 h7=>(h3 j e q (by simpa using h6) h7).1) jB
    have vU:(getObj (g.loc id)).run P w=.ok (.map ents es.length) w:=by simp[getObj,Sem.run,h1]
    have fin:∀(es':List (AV×AV)) (o':Obj),ItRel w g.A g.loc s.ob.length (.map es') (some o') ->
      ((Qoh (g.loc id) ents es.length kv (a.eval x) r).run P w=(setObj (g.loc id) o').run P w) ->
      (K (St.put ⟨s.tm,s.ob.set id (.iter (.map es'))⟩ o.dst .dead)).ok Df P w0 g0 o0 N Q->o.wp P a w (Q30 Df ty P w0 g0 o0 N Q K o.op w) R:=fun es' o' hI jQ jB=>by
     have yf:(setObj (g.loc id) o').run P w=.ok () { w with heap:=w.heap.setIfInBounds (g.loc id) o' }:=by
      simp only[setObj,Sem.run,h1]
     obtain⟨M',S'⟩:=Q9Y M (x':=.map es') (o':=o') jK (fun h=>h) hI
     have hr:(execOp a.eval o).run P w=.ok .skip { w with heap:=w.heap.setIfInBounds (g.loc id) o' }:=by
      simp only[execOp,ho,h4,q2]
      have jQ:(Instr.mapUpdate T (Q9L true (g.loc id)) kv (a.eval x)).run P w=.ok () { w with heap:=w.heap.setIfInBounds (g.loc id) o' }:=by
       unfold Instr.mapUpdate Q9L;rw[Sem.run_bind,run_underlying jI];simp only[Result.andThen_ok];rw[Sem.run_bind,vU];simp only[Result.andThen_ok];rw[show(Q1 T ty).key=Qbw ty T from rfl,Sem.run_bind,q3 false w];simp only[Result.andThen_ok];rw[Sem.run_bind,q4 w];simp only[Result.andThen_ok];refine Eq.trans ?_ (jQ.trans yf);cases r with
       |none=>rfl
       |some q=>rfl
      rw[Sem.run_bind,jQ];rfl
     unfold Oper.wp;rw[hr];exact⟨fun h=>by simp[ho,Q2m]at h,_,Q12 hs hS h0 M' S' hd (v:=undef) (x:=.dead) trivial,jB⟩
    have hpx:=QiG (Qo hS x) nh;rcases hF with ⟨m,e,u,rfl,_,hm,nj,_,jB⟩|⟨rfl,jB⟩
    ·rw[Nat.sub_zero]at hm
     have hm:ents[m]?=some e:=by simpa using hm
     have qo:m<ents.size:=(Array.getElem?_eq_some_iff.1 hm).1;refine fin (es.set m (ev s i,ev s x)) (.map (ents.modify m fun e=>{ e with key:=kv,val:=a.eval x }) es.length) ⟨_,by rw[length_set],by simp[h2],fun j e' q h6 h7=>?_⟩ ?_ jB
     ·rw[Array.getElem?_modify]at h6
      by_cases hj:m=j
      ·subst hj
       rw[if_pos rfl,hm]at h6;rw[getElem?_set_self (by omega)]at h7
       obtain rfl:({ e with key:=kv,val:=a.eval x }:MapEntry)=e':=by simpa using h6
       obtain rfl:(ev s i,ev s x)=q:=by simpa using h7
       obtain⟨q',vV⟩:∃q',es[m]?=some q':=⟨es[m],getElem?_eq_getElem (by omega)⟩
       exact⟨⟨q1,hpx⟩,(h3 m e q' hm vV).2⟩
      ·rw[if_neg hj]at h6
       rw[getElem?_set_ne hj]at h7;exact h3 j e' q h6 h7
     ·have qN:(Instr.keyThatStays (((ents[m]?).map (·.key)).getD kv) kv).run P w=.ok kv w:=by
       rw[hm];simp only[map_some,Option.getD_some,nj];unfold Instr.keyThatStays;rw[if_pos (q5 9999)];rfl
      unfold Qoh;simp only
      rw[Sem.run_bind,qN];rfl
    ·refine fin (es++[(ev s i,ev s x)]) (.map (ents.push { key:=kv,val:=a.eval x,born:=es.length }) (es.length+1)) ⟨ents.push { key:=kv,val:=a.eval x,born:=es.length },by rw[length_append];rfl,by simp[h2],fun j e q h6 h7=>?_⟩ rfl jB
     by_cases hj:j<es.length
     ·rw[Array.getElem?_push,if_neg (by omega)]at h6
      rw[List.getElem?_append_left hj]at h7;exact h3 j e q h6 h7
     ·have nk:j=es.length:=by have:=Q4 h7;simp at this;omega
      subst nk;rw[Array.getElem?_push,if_pos h2.symm]at h6;rw[List.getElem?_append_right (le_refl _)]at h7;simp at h6 h7;subst h6 h7;exact⟨⟨q1,hpx⟩,rfl⟩
   ·exact jB.elim
  ·exact jB.elim
 ·exact jB.elim
theorem QgK(hT:TyOk P ty){K:St->Tree}{o:Oper}{s:St}{a:Act}{w:World}{R:Exit->Act->World->Prop}(hs:Sim Df w0 g0 o0 N s a w)(hd:∀t,o.dst=some t->t<N)
  {T:Nat} {x:Operand} (ho:o.op=.range T x) {id:Nat} (hx:ev s x=.iter id) {es:List (AV×AV)} (jK:s.ob[id]?=some (.iter (.map es))) (h1:(Q1 T ty).kd=8)
  (jB:(K (St.put ⟨s.tm,s.ob++[.iter (.mit id es [] none)]⟩ o.dst (.iter s.ob.length))).ok Df P w0 g0 o0 N Q):o.wp P a w (Q30 Df ty P w0 g0 o0 N Q K o.op w) R:=by
 obtain⟨g,M,hS,h0⟩:=hs.rel;have jn:=Qo hS x;rw[hx]at jn;have jI:=(Q3N hT h1 (by decide)).mapT h1
 obtain⟨hG,ents,h2,h3,h4⟩:=M.iter id _ jK;obtain⟨k,h5,h6⟩:=jn;rw[jK]at h6;obtain rfl:k=true:=h6
 have hr:(execOp a.eval o).run P w=.ok (.value (.pointer (some ⟨w.heap.size,0,none⟩))) (w.alloc (.mapIter (some (g.loc id)) es.length #[] es.length)):=by
  simp only[execOp,ho,h5];exact Q11 (run_range_map w T _ _ _ ents es.length jI h2)
 have M':=M.new (.mapIter (some (g.loc id)) es.length #[] es.length) (.iter (.mit id es [] none)) (fun cs h=>by cases h) (fun cs h=>by cases h) (fun y h=>by cases h;exact⟨Q4 jK,#[],rfl,rfl,fun _ _ h=>by cases h⟩) (fun et sz fz e xs h=>by cases h)
 refine Q3k hr ⟨fun _=>(Below.refl _ w).alloc (le_refl _) _,_,Q12 hs hS h0 M' (Step.new M _ _) hd ?_,jB⟩
 refine⟨false,by simp[Gh.new,Q9L],?_⟩
 rw[Q2p];rfl
theorem Qk9{w:World}{g:Gh}{ob:List Ob}{x:AV}{v:Value}(h:QcZ x=some v):ARel1 w g ob v x:=by
 cases x with
 |agg cs =>
  obtain⟨vs,h1,rfl⟩:=map_eq_some_iff.1 h;exact⟨_,rfl,Q69 h1⟩
 |val u =>
  simp only[QcZ]at h;split at h
  ·rename_i hu
   obtain rfl:u=v:=by simpa using h
   exact PRel.val _ hu
  ·cases h
 |_=>cases h
theorem QiK{K:St->Tree}{o:Oper}{s:St}{a:Act}{w:World}{R:Exit->Act->World->Prop}(hs:Sim Df w0 g0 o0 N s a w)(hd:∀t,o.dst=some t->t<N)
  {it:Operand} (ho:o.op=.next it false) {id:Nat} (hi:ev s it=.iter id) {m:Nat} {es es2:List (AV×AV)} {seen:List Nat} {cur:Option (Nat×(AV×AV))} (jK:s.ob[id]?=some (.iter (.mit m es seen cur))) (kV:s.ob[m]?=some (.iter (.map es2)))
  (jC:std.samE es es2)
  (ht:∀j q,es2[j]?=some q->j ∉ seen->(K (St.put ⟨s.tm,s.ob.set id (.iter (.mit m es (std.appN seen j) (some (j,q))))⟩ o.dst (.tup [.kb true,q.1,q.2]))).ok Df P w0 g0 o0 N Q)
  (hf:(∀j,j<es2.length->j∈seen)->(K (St.put s o.dst (.tup [.kb false]))).ok Df P w0 g0 o0 N Q):o.wp P a w (Q30 Df ty P w0 g0 o0 N Q K o.op w) R:=by
 obtain⟨g,M,hS,h0⟩:=hs.rel;have jC:es.length=es2.length:=jC;have z4:=Qo hS it;rw[hi]at z4
 have hv:a.eval it=.pointer (some ⟨g.loc id,0,none⟩):=by
  obtain⟨k,h1,h2⟩:=z4;rw[jK]at h2;obtain rfl:k=false:=h2;exact h1
 obtain⟨hG,qw,sn,hh,pQ,_⟩:=M.iter id _ jK;obtain⟨hGm,ents,qp,qL,gu⟩:=M.iter m _ kV
 have get:∀e∈ents.toList,∃j q,ents[j]?=some e/\es2[j]?=some q/\e.born=j/\Qhy w g.A e q:=fun e he=>by
  obtain⟨j,hj,rfl⟩:=List.mem_iff_getElem.1 he;have yb:j<es2.length:=by simpa[qL]using hj
  have h1:ents[j]?=some ents.toList[j]:=by rw[<-Array.getElem?_toList];exact getElem?_eq_getElem hj
  have h2:=getElem?_eq_getElem yb;exact⟨j,_,h1,h2,(gu j _ _ h1 h2).2,(gu j _ _ h1 h2).1⟩
 rcases Go.run_next_at (P:=P) w o.type (g.loc id) (g.loc m) es.length es.length sn ents es2.length hh qp (fun x hx=>by
   obtain⟨j,q,_,h2,h3,_⟩:=get x hx;have:=Q4 h2
   omega) (le_refl _)with ⟨hl,jQ⟩|⟨e,he,w1,zB,jQ⟩
 ·have hr:(execOp a.eval o).run P w=.ok (.value (.tuple #[.bool false])) w:=by
   simp only[execOp,ho,hv];exact Q11 jQ
  refine Q3k hr ⟨fun h=>by simp[ho,Q2m]at h,_,Q12 hs hS h0 M Step.refl hd (x:=.tup [.kb false]) ?_,hf fun j hj=>?_⟩
  ·refine⟨_,rfl,rfl,fun j y u hy hu=>?_⟩
   match j,hy,hu with
   |0,hy,hu =>
    obtain rfl:Value.bool false=y:=by simpa using hy
    obtain rfl:AV.kb false=u:=by simpa using hu
    exact(rfl:Value.bool false=.bool false)
   |j+1,hy,_=>simp at hy
  ·have yb:j<ents.size:=by omega
   have h1:=Array.getElem?_eq_getElem yb;have h2:=getElem?_eq_getElem hj;have hb:=(gu j _ _ h1 h2).2;refine Classical.byContradiction fun hns=>?_
   have:ents[j]∈leftOf ents sn:=by
    unfold leftOf;rw[Array.mem_filter];refine⟨Array.getElem_mem yb,?_⟩;rw[hb];simp only[Bool.not_eq_true',Bool.eq_false_iff,ne_eq,Array.contains_iff_mem];intro h;exact hns (by rw[<-pQ];simpa using h)
   have h0:=Array.eq_empty_of_size_eq_zero hl;rw[h0]at this;simp at this
 ·have nl:e∈ents.toList/\e.born ∉ seen:=by
   unfold leftOf at he;rw[Array.mem_toList_iff,Array.mem_filter]at he;refine⟨by simpa using he.1,fun h=>?_⟩
   have:=he.2
   simp only[Bool.not_eq_true',Bool.eq_false_iff,ne_eq,Array.contains_iff_mem]at this;exact this (by rw[<-pQ]at h;simpa using h)
  obtain⟨j,q,h1,h2,h3,h4⟩:=get e nl.1;rw[h3]at jQ nl
  have hb:Below w.heap.size w w1:=by
   rcases zB with rfl|rfl
   ·exact Below.refl _ _
   ·exact(Below.refl _ w).drew
  have M1:=M.immNew hb;have hI:ItRel w1 (g.imm w w1).A (g.imm w w1).loc s.ob.length (.mit m es (seen++[j]) (some (j,q))) (some (.mapIter (some (g.loc m)) es.length (sn.push j) es2.length)):=⟨qw,sn.push j,by rw[jC];rfl,by simp[pQ],fun j' q' h=>by cases h;exact⟨sn,rfl⟩⟩
  obtain⟨M',S'⟩:=Q9Y M1 (x':=.mit m es (seen++[j]) (some (j,q))) (o':=.mapIter (some (g.loc m)) es.length (sn.push j) es2.length) jK (fun h=>h) hI
  have S2:=(Step.immNew M hb).trans S'
  have hr:(execOp a.eval o).run P w=.ok (.value (.tuple #[.bool true,e.key,e.val])) { w1 with heap:=w1.heap.setIfInBounds ((g.imm w w1).loc id) (.mapIter (some (g.loc m)) es.length (sn.push j) es2.length) }:=by
   simp only[execOp,ho,hv];exact Q11 jQ
  refine Q3k hr ⟨fun h=>by simp[ho,Q2m]at h,_,Q12 hs hS h0 M' S2 hd (x:=.tup [.kb true,q.1,q.2]) ?_,ht j q h2 nl.2⟩
  refine⟨_,rfl,rfl,fun j y u hy hu=>?_⟩
  match j,hy,hu with
  |0,hy,hu =>
   obtain rfl:Value.bool true=y:=by simpa using hy
   obtain rfl:AV.kb true=u:=by simpa using hu
   exact(rfl:Value.bool true=.bool true)
  |1,hy,hu =>
   obtain rfl:e.key=y:=by simpa using hy
   obtain rfl:q.1=u:=by simpa using hu
   exact Qk9 h4.1
  |2,hy,hu =>
   obtain rfl:e.val=y:=by simpa using hy
   obtain rfl:q.2=u:=by simpa using hu
   have h5:=h4.2.keep S2.ext.A;exact Qc7 h5 (Q88 h5)
  |j+3,hy,_=>simp at hy
theorem QhG{K:St->Tree}{o:Oper}{s:St}{a:Act}{w:World}{R:Exit->Act->World->Prop}(hs:Sim Df w0 g0 o0 N s a w)(hd:∀t,o.dst=some t->t<N)
  {it:Operand} (ho:o.op=.entry it) {id:Nat} (hi:ev s it=.iter id) {m:Nat} {es es2:List (AV×AV)} {seen:List Nat} {j:Nat} {q:AV×AV} (jK:s.ob[id]?=some (.iter (.mit m es seen (some (j,q))))) (kV:s.ob[m]?=some (.iter (.map es2)))
  (jC:std.samE es es2) (hq:std.isE es2 j q) (jB:(K (St.put s o.dst (.tup [q.1,q.2]))).ok Df P w0 g0 o0 N Q):o.wp P a w (Q30 Df ty P w0 g0 o0 N Q K o.op w) R:=by
 obtain⟨g,M,hS,h0⟩:=hs.rel;have jC:es.length=es2.length:=jC;have hq:es2[j]?=some q:=hq;have z4:=Qo hS it;rw[hi]at z4
 have hv:a.eval it=.pointer (some ⟨g.loc id,0,none⟩):=by
  obtain⟨k,h1,h2⟩:=z4;rw[jK]at h2;obtain rfl:k=false:=h2;exact h1
 obtain⟨hG,qw,sn,hh,pQ,kM⟩:=M.iter id _ jK;obtain⟨sp,rfl⟩:=kM j q rfl;obtain⟨hGm,ents,qp,qL,gu⟩:=M.iter m _ kV;have yb:j<es2.length:=Q4 hq;have nk:j<ents.size:=by omega
 have gF:=Array.getElem?_eq_getElem nk;obtain⟨h4,hb⟩:=gu j _ q gF hq
 have hn:(ents.toList.map (·.born)).Nodup:=by
  have:ents.toList.map (·.born)=List.range ents.size:=by
   refine List.ext_getElem (by simp) fun i h1 h2=>?_
   have h3:i<ents.size:=by simpa using h1
   have h5:i<es2.length:=by omega
   have:=(gu i _ _ (Array.getElem?_eq_getElem h3) (getElem?_eq_getElem h5)).2
   simp[this]
  rw[this];exact List.nodup_range
 have hr:(execOp a.eval o).run P w=.ok (.value (.tuple #[ents[j].key,ents[j].val])) w:=by
  simp only[execOp,ho,hv];rw[jC]at hh;rw[<-hb]at hh;exact Q11 (run_entry_at w (g.loc id) (g.loc m) es2.length sp ents es2.length ents[j] hh qp (by simp) hn)
 refine Q3k hr ⟨fun _=>Below.refl _ w,_,Q12 hs hS h0 M Step.refl hd (x:=.tup [q.1,q.2]) ?_,jB⟩
 refine⟨_,rfl,rfl,fun i y u hy hu=>?_⟩
 match i,hy,hu with
 |0,hy,hu =>
  obtain rfl:ents[j].key=y:=by simpa using hy
  obtain rfl:q.1=u:=by simpa using hu
  exact Qk9 h4.1
 |1,hy,hu =>
  obtain rfl:ents[j].val=y:=by simpa using hy
  obtain rfl:q.2=u:=by simpa using hu
  exact Qc7 h4.2 (Q88 h4.2)
 |i+2,hy,_=>simp at hy
end
theorem Q1a{i:Nat}:∀{ρ:List Nat}{j:Nat},Q1c i ρ=some j->ρ[j]?=some i
 | [],j,h=>by cases h
 |k::r,j,h=>by
  simp only[Q1c]at h;split at h
  ·rename_i e
   cases h;subst e;rfl
  ·obtain⟨j',h1,rfl⟩:=map_eq_some_iff.1 h
   simpa using Q1a h1
theorem Q6Z{i:Nat}:∀{ρ:List Nat}{j:Nat},ρ[j]?=some i->∃j',Q1c i ρ=some j'
 | [],j,h=>by simp at h
 |k::r,j,h=>by
  simp only[Q1c];split
  ·exact⟨0,rfl⟩
  ·rename_i jL
   cases j with
   |zero=>exact absurd (by simpa using h.symm) jL
   |succ j =>
    obtain⟨j',h1⟩:=Q6Z (ρ:=r) (j:=j) (by simpa using h)
    exact⟨j'+1,by rw[h1];rfl⟩
section
variable {ob:List Ob}{ρ:List Nat}
theorem Q2r{j i:Nat}(h:ρ[j]?=some i):(ρ.map some)[j]?=some (some i):=by rw[getElem?_map,h];rfl
theorem Qlf{j i:Nat}(h:(ρ.map some)[j]?=some (some i)):ρ[j]?=some i:=by
 rw[getElem?_map,map_eq_some_iff]at h;obtain⟨k,h1,h2⟩:=h;cases h2;exact h1
theorem Q4i(h:Q1N (ρ.map some)=true){i j:Nat}(hj:ρ[j]?=some i):Q1c i ρ=some j:=by
 obtain⟨j',zK⟩:=Q6Z hj;have h1:=Q66 h (Q2r hj);have h2:=Q66 h (Q2r (Q1a zK));rw[h1]at h2;cases h2;exact zK
abbrev Q3L(ob:List Ob)(ρ:List Nat):List Ob:=ρ.map fun i=>inO ob ρ (ob.getD i .gone)
theorem Q6e{i j:Nat}(hj:ρ[j]?=some i):(Q3L ob ρ)[j]?=some (inO ob ρ (ob.getD i .gone)):=by
 simp only[Q3L,getElem?_map,hj,map_some]
theorem Q6g{i:Nat}{o:Ob}(h:ob[i]?=some o):ob.getD i .gone=o:=by rw[getD_eq_getElem?_getD,h];rfl
theorem Q3t(x:AV):∃l,Q4g ob (Q3L ob ρ) (ρ.map some) x (inC ob ρ x)=some l/\Qf l:=by
 have dead:∃l,Q4g ob (Q3L ob ρ) (ρ.map some) x .dead=some l/\Qf l:=⟨[],rfl,trivial⟩;cases x with
 |val v=>cases v<;>exact⟨_,rfl,rfl,trivial⟩
 |slc sz xs=>exact⟨_,rfl,rfl,trivial⟩
 |ref cs=>exact⟨_,rfl,rfl,trivial⟩
 |opt y=>exact⟨_,rfl,rfl,trivial⟩
 |kb b=>exact⟨_,rfl,rfl,trivial⟩
 |box i o =>
  simp only[inC];split
  ·rename_i j hj
   exact⟨[(.box i o,.box i o)],by simp only[Q4g,Q2r (Q1a hj)],rfl,trivial⟩
  ·exact dead
 |iter i =>
  simp only[inC];split
  ·rename_i j hj
   exact⟨[(.iter i,.iter i)],by simp only[Q4g,Q2r (Q1a hj)],rfl,trivial⟩
  ·exact dead
 |clo f i o t =>
  simp only[inC];split
  ·rename_i j hj
   exact⟨[(.clo f i o t,.clo f i o t)],by simp only[Q4g,Q2r (Q1a hj)],rfl,trivial⟩
  ·exact dead
 |row i e =>
  simp only[inC];split
  ·rename_i j hj
   split
   ·rename_i et sz fz e2 xs jK
    split
    ·rename_i he
     subst he;refine⟨[(.row i e2,.row i e2)],?_,rfl,trivial⟩;have h1:=Q6e (ob:=ob) (Q1a hj);rw[Q6g jK]at h1;simp only[Q4g,h1,inO,if_true,Q2r (Q1a hj),jK]
    ·exact dead
   ·exact dead
  ·exact dead
 |_=>exact dead
theorem Qcu:∀(xs:List AV),∃l,QbH ob (Q3L ob ρ) (ρ.map some) xs (xs.map (inC ob ρ))=some l/\Qf l
 | []=>⟨[],rfl,trivial⟩
 |x::r=>by
  obtain⟨l1,h1,h2⟩:=Q3t (ob:=ob) (ρ:=ρ) x;obtain⟨l2,h3,h4⟩:=Qcu r;exact⟨l1++l2,by simp only[map_cons,QbH,h1,h3,both],Q3c.2 ⟨h2,h4⟩⟩
theorem Qlt(x:AV):∃l,Q8R ob (Q3L ob ρ) (ρ.map some) x (inA ob ρ x)=some l/\Qf l:=by
 cases x with
 |agg cs=>exact Qcu cs
 |val v=>exact Q3t (ob:=ob) (ρ:=ρ) (.val v)
 |slc sz xs=>exact Q3t (ob:=ob) (ρ:=ρ) (.slc sz xs)
 |ref cs=>exact Q3t (ob:=ob) (ρ:=ρ) (.ref cs)
 |opt y=>exact Q3t (ob:=ob) (ρ:=ρ) (.opt y)
 |kb b=>exact Q3t (ob:=ob) (ρ:=ρ) (.kb b)
 |box i o =>
  obtain⟨l,h1,h2⟩:=Q3t (ob:=ob) (ρ:=ρ) (.box i o);refine⟨l,?_,h2⟩;show Q8R _ _ _ _ (inC ob ρ (.box i o))=_;revert h1;simp only[inC];split<;>exact id
 |iter i =>
  obtain⟨l,h1,h2⟩:=Q3t (ob:=ob) (ρ:=ρ) (.iter i);refine⟨l,?_,h2⟩;show Q8R _ _ _ _ (inC ob ρ (.iter i))=_;revert h1;simp only[inC];split<;>exact id
 |clo f i o t =>
  obtain⟨l,h1,h2⟩:=Q3t (ob:=ob) (ρ:=ρ) (.clo f i o t);refine⟨l,?_,h2⟩;show Q8R _ _ _ _ (inC ob ρ (.clo f i o t))=_;revert h1;simp only[inC];split<;>exact id
 |row i e =>
  obtain⟨l,h1,h2⟩:=Q3t (ob:=ob) (ρ:=ρ) (.row i e);refine⟨l,?_,h2⟩;show Q8R _ _ _ _ (inC ob ρ (.row i e))=_;revert h1;simp only[inC];split<;>(try split)<;>(try split)<;>exact id
 |_=>exact⟨[],rfl,trivial⟩
theorem Q91(ht:there ob ρ=true):Fits ob (Q3L ob ρ) (ρ.map some):=by
 refine⟨by simp,fun j i o hi ho=>?_⟩
 rw[getElem?_map,map_eq_some_iff]at hi;obtain⟨k,hk,rfl⟩:=hi;rw[Q6e hk]at ho;cases ho;have h:=all_eq_true.1 ht k (mem_of_getElem? hk);cases jK:ob[k]? with
 |none=>rw[jK]at h;cases h
 |some q =>
  rw[Q6g jK];cases q with
  |gone=>rw[jK]at h;cases h
  |box cs=>simp only[inO,Q2X,jK];exact Qcu cs
  |fbox cs=>exact⟨[(.slc 0 cs,.slc 0 cs)],by simp only[inO,Q2X,jK],rfl,trivial⟩
  |row et sz fz e xs=>exact⟨[(.slc 0 xs,.slc 0 xs)],by simp only[inO,Q2X,jK];simp,rfl,trivial⟩
  |iter y =>
   cases y with
   |str s p=>exact⟨[(.val (.string s),.val (.string s)),(.box 0 p,.box 0 p)],by simp only[inO,Q2X,jK],rfl,rfl,trivial⟩
   |map es=>exact⟨[(.tup (Q5s es),.tup (Q5s es))],by simp only[inO,Q2X,jK],rfl,trivial⟩
   |mit m es sn c=>rw[jK]at h;cases h
theorem Qcv{w:World}{g:Gh}(ho:Q1N (ρ.map some)=true)(ht:there ob ρ=true){v:Value}{x:AV}(h:ARel w g ob v x):ARel w (g.ren (ρ.map some)) (Q3L ob ρ) v (inA ob ρ x):=by
 obtain⟨l,h1,h2⟩:=Qlt (ob:=ob) (ρ:=ρ) x;exact Q7D (Q91 ht) ho h h1 h2
theorem Qf8{w:World}{g:Gh}(M:Mem w g ob)(ho:Q1N (ρ.map some)=true)(ht:there ob ρ=true):Mem w (g.ren (ρ.map some)) (Q3L ob ρ):=M.ren (Q91 ht) ho
end
def Gh.out(g g':Gh)(ρ:List Nat)(n:Nat):Gh where
 A:=g'.A
 G b:=match g'.G b with
  |some j=>some (Q2t ρ n j)
  |none=>match g.G b with
   |some id=>match Q1c id ρ with
    |some _=>none
    |none=>some id
   |none=>none
 loc id:=match Q1c id ρ with
  |some j=>g'.loc j
  |none=>if id<n then g.loc id else g'.loc (ρ.length+(id-n))
 sub b:=match g'.G b with
  |some _=>g'.sub b
  |none=>match g.G b with
   |some id=>match Q1c id ρ with
    |some _=>false
    |none=>g.sub b
   |none=>false
section
variable {w w':World}{g g':Gh}{ob ob':List Ob}{ρ:List Nat}
structure CallAt (w:World) (g:Gh) (ob:List Ob) (ρ:List Nat) (w':World) (g':Gh) (ob':List Ob):Prop where
 once:Q1N (ρ.map some)=true
 there:there ob ρ=true
 len:ρ.length<=ob'.length
 m:Mem w g ob
 m':Mem w' g' ob'
 st:Step w (g.ren (ρ.map some)) (Q3L ob ρ) w' g' ob'
theorem CallAt.lt(C:CallAt w g ob ρ w' g' ob'){i j:Nat}(hj:ρ[j]?=some i):i<ob.length:=by
 have h:=all_eq_true.1 C.there i (mem_of_getElem? hj);cases jK:ob[i]? with
 |none=>rw[jK]at h;cases h
 |some _=>exact Q4 jK
theorem CallAt.outI_lt(C:CallAt w g ob ρ w' g' ob'){j:Nat}(hj:j<ob'.length):Q2t ρ ob.length j<ob.length+(ob'.length-ρ.length):=by
 unfold Q2t;split
 ·rename_i h
  have h1:ρ[j]?=some (ρ.getD j 0):=by rw[getD_eq_getElem?_getD,getElem?_eq_getElem h];rfl
  have:=C.lt h1
  omega
 ·have:=C.len;omega
theorem CallAt.outI_at(C:CallAt w g ob ρ w' g' ob')(j:Nat):(j<ρ.length/\ρ[j]?=some (Q2t ρ ob.length j)/\Q2t ρ ob.length j<ob.length)\/(ρ.length<=j/\Q2t ρ ob.length j=ob.length+(j-ρ.length)):=by
 unfold Q2t;split
 ·rename_i h
  have h1:ρ[j]?=some (ρ.getD j 0):=by rw[getD_eq_getElem?_getD,getElem?_eq_getElem h];rfl
  exact .inl ⟨h,h1,C.lt h1⟩
 ·exact .inr ⟨by omega,rfl⟩
theorem CallAt.outI_inj(C:CallAt w g ob ρ w' g' ob'){j j':Nat}(h:Q2t ρ ob.length j=Q2t ρ ob.length j'):j=j':=by
 rcases C.outI_at j with ⟨h1,h2,h3⟩|⟨h1,h2⟩<;>rcases C.outI_at j' with ⟨h4,h5,h6⟩|⟨h4,h5⟩
 ·rw[h]at h2
  have:=(Q4i C.once h2).symm.trans (Q4i C.once h5)
  exact Option.some.inj this
 ·omega
 ·omega
 ·omega
theorem CallAt.outI_not(C:CallAt w g ob ρ w' g' ob'){j:Nat}(hp:Q1c (Q2t ρ ob.length j) ρ=none)(hl:Q2t ρ ob.length j<ob.length):False:=by
 rcases C.outI_at j with ⟨h1,h2,h3⟩|⟨h1,h2⟩
 ·rw[Q4i C.once h2]at hp;cases hp
 ·omega
theorem CallAt.back_len(C:CallAt w g ob ρ w' g' ob'):(Q4t ob ρ ob').length=ob.length+(ob'.length-ρ.length):=by simp[Q4t]
theorem CallAt.back_out(C:CallAt w g ob ρ w' g' ob'){j:Nat}{o:Ob}(hj:ob'[j]?=some o):(Q4t ob ρ ob')[Q2t ρ ob.length j]?=some (Qex ob ρ j o):=by
 have hl:=Q4 hj;have h1:=C.outI_lt hl;simp only[Q4t,getElem?_map,List.getElem?_range h1,map_some];unfold Q2t;by_cases h:j<ρ.length
 ·rw[if_pos h]
  have h2:ρ[j]?=some (ρ.getD j 0):=by rw[getD_eq_getElem?_getD,getElem?_eq_getElem h];rfl
  simp only[Q4i C.once h2,Q6g hj]
 ·rw[if_neg h]
  have h2:Q1c (ob.length+(j-ρ.length)) ρ=none:=by
   cases hp:Q1c (ob.length+(j-ρ.length)) ρ with
   |none=>rfl
   |some k=>have:=C.lt (Q1a hp);omega
  have h3:¬(ob.length+(j-ρ.length)<ob.length):=by omega
  have h4:ρ.length+(ob.length+(j-ρ.length)-ob.length)=j:=by omega
  simp only[h2,h3,if_false,h4,Q6g hj]
theorem CallAt.back_own(C:CallAt w g ob ρ w' g' ob'){id:Nat}(hid:id<ob.length)(hp:Q1c id ρ=none):(Q4t ob ρ ob')[id]?=ob[id]?:=by
 have h1:id<ob.length+(ob'.length-ρ.length):=by omega
 simp only[Q4t,getElem?_map,List.getElem?_range h1,map_some,hp,hid,if_true];rw[getElem?_eq_getElem hid,getD_eq_getElem?_getD,getElem?_eq_getElem hid];rfl
theorem CallAt.back_cases(C:CallAt w g ob ρ w' g' ob'){id:Nat}{o:Ob}(h:(Q4t ob ρ ob')[id]?=some o) :
  (∃j o',ob'[j]?=some o'/\id=Q2t ρ ob.length j/\o=Qex ob ρ j o')\/(id<ob.length/\Q1c id ρ=none/\ob[id]?=some o):=by
 have jE:=Q4 h;rw[C.back_len]at jE;cases hp:Q1c id ρ with
 |some j =>
  left
  have hj:=Q1a hp;have hl:j<ob'.length:=Nat.lt_of_lt_of_le (Q4 hj) C.len
  have e:Q2t ρ ob.length j=id:=by
   unfold Q2t;rw[if_pos (Q4 hj),getD_eq_getElem?_getD,hj];rfl
  refine⟨j,_,getElem?_eq_getElem hl,e.symm,?_⟩;have h2:=C.back_out (getElem?_eq_getElem hl);rw[e,h]at h2;exact Option.some.inj h2
 |none =>
  by_cases hid:id<ob.length
  ·rw[C.back_own hid hp]at h
   exact .inr ⟨hid,rfl,h⟩
  ·left
   have hl:ρ.length+(id-ob.length)<ob'.length:=by have:=C.len;omega
   have e:Q2t ρ ob.length (ρ.length+(id-ob.length))=id:=by
    unfold Q2t;rw[if_neg (by omega)];omega
   refine⟨_,_,getElem?_eq_getElem hl,e.symm,?_⟩;have h2:=C.back_out (getElem?_eq_getElem hl);rw[e,h]at h2;exact Option.some.inj h2
theorem CallAt.loc_out(C:CallAt w g ob ρ w' g' ob'){j:Nat}:(g.out g' ρ ob.length).loc (Q2t ρ ob.length j)=g'.loc j:=by
 unfold Q2t;by_cases h:j<ρ.length
 ·rw[if_pos h]
  have h2:ρ[j]?=some (ρ.getD j 0):=by rw[getD_eq_getElem?_getD,getElem?_eq_getElem h];rfl
  simp only[Gh.out,Q4i C.once h2]
 ·rw[if_neg h]
  have h2:Q1c (ob.length+(j-ρ.length)) ρ=none:=by
   cases hp:Q1c (ob.length+(j-ρ.length)) ρ with
   |none=>rfl
   |some k=>have:=C.lt (Q1a hp);omega
  have h3:¬(ob.length+(j-ρ.length)<ob.length):=by omega
  have h4:ρ.length+(ob.length+(j-ρ.length)-ob.length)=j:=by omega
  simp only[Gh.out,h2,h3,if_false,h4]
theorem Q65{j b:Nat}(h:g'.G b=some j):(g.out g' ρ ob.length).sub b=g'.sub b:=by simp only[Gh.out,h]
theorem Q5V{id b:Nat}(h:g'.G b=none)(h1:g.G b=some id)(hp:Q1c id ρ=none):(g.out g' ρ ob.length).sub b=g.sub b:=by simp only[Gh.out,h,h1,hp]
theorem Q8v{j b:Nat}(h:g'.G b=some j):(g.out g' ρ ob.length).G b=some (Q2t ρ ob.length j):=by simp only[Gh.out,h]
theorem CallAt.own_G(C:CallAt w g ob ρ w' g' ob'){b id:Nat}(h:g.G b=some id)(hp:Q1c id ρ=none) :
  (g.ren (ρ.map some)).G b=none/\g'.G b=none/\(g.out g' ρ ob.length).G b=some id/\w'.heap[b]?=w.heap[b]?:=by
 have h1:(g.ren (ρ.map some)).G b=none:=by
  cases hr:(g.ren (ρ.map some)).G b with
  |none=>rfl
  |some j =>
   obtain⟨i,hi,hG⟩:=Q2E hr;rw[h]at hG;cases hG;obtain⟨j',zK⟩:=Q6Z (Qlf hi);rw[hp]at zK;cases zK
 have hb:=(C.m.own b id h).1
 have h2:g'.G b=none:=by
  cases hr:g'.G b with
  |none=>rfl
  |some j =>
   rcases C.st.own b j hr with ⟨k,hk⟩|hk
   ·rw[h1]at hk;cases hk
   ·omega
 exact⟨h1,h2,by simp only[Gh.out,h2,h,hp],C.st.keep b hb h1⟩
theorem CallAt.G_cases(C:CallAt w g ob ρ w' g' ob'){b id:Nat}(h:(g.out g' ρ ob.length).G b=some id) :
  (∃j,g'.G b=some j/\id=Q2t ρ ob.length j)\/(g'.G b=none/\g.G b=some id/\Q1c id ρ=none):=by
 simp only[Gh.out]at h;cases h1:g'.G b with
 |some j=>rw[h1]at h;exact .inl ⟨j,rfl,(Option.some.inj h).symm⟩
 |none =>
  rw[h1]at h;cases h2:g.G b with
  |none=>rw[h2]at h;cases h
  |some k =>
   rw[h2]at h;cases h3:Q1c k ρ with
   |some _=>simp only[h3]at h;cases h
   |none=>simp only[h3]at h;cases h;exact .inr ⟨rfl,rfl,h3⟩
theorem QjV{j:Nat}{o:Ob}(h:Q5r (some o)):Q5r (some (Qex ob ρ j o)):=by cases o<;>first|exact h.elim|trivial
theorem Qma{k:Bool}{j:Nat}{o:Ob}(h:Q8T k (some o)):Q8T k (some (Qex ob ρ j o)):=by rcases o with _|_|_|(_|_|_)|_<;>first|exact h.elim|exact h
theorem CallAt.isb_out(C:CallAt w g ob ρ w' g' ob'){j:Nat}(h:Q5r ob'[j]?):Q5r (Q4t ob ρ ob')[Q2t ρ ob.length j]?:=by
 have hl:=Q2O h;rw[getElem?_eq_getElem hl]at h;rw[C.back_out (getElem?_eq_getElem hl)];exact QjV h
theorem CallAt.isi_out(C:CallAt w g ob ρ w' g' ob'){k:Bool}{j:Nat}(h:Q8T k ob'[j]?):Q8T k (Q4t ob ρ ob')[Q2t ρ ob.length j]?:=by
 have hl:=Q3X h;rw[getElem?_eq_getElem hl]at h;rw[C.back_out (getElem?_eq_getElem hl)];exact Qma h
theorem Q7v{i j:Nat}(hj:ρ[j]?=some i)(n:Nat):Q2t ρ n j=i:=by
 unfold Q2t;rw[if_pos (Q4 hj),getD_eq_getElem?_getD,hj];rfl
theorem CallAt.ext(C:CallAt w g ob ρ w' g' ob'):Ext w g ob w' (g.out g' ρ ob.length) (Q4t ob ρ ob'):=by
 refine⟨C.st.ext.A,fun id hid=>?_,fun id hb=>?_,fun id hb=>?_,fun id et sz fz e xs hr=>?_,fun b id hG hs=>?_⟩
 rotate_right
 ·obtain⟨et,sz,fz,fz',e,xs,xs',h1,h2⟩:=hs
  cases hp:Q1c id ρ with
  |none =>
   obtain⟨h3,h4,h5,h6⟩:=C.own_G hG hp;refine⟨Q5V h4 hG hp,fun _ o hA=>?_⟩
   rcases C.st.imm b o hA with h7|⟨k,h7⟩|h7
   ·exact h7
   ·rw[h3]at h7;cases h7
   ·have:=(C.m.own b id hG).1;omega
  |some j =>
   have hj:=Q1a hp;have h3:(Q3L ob ρ)[j]?=some (.row et sz fz 0 xs):=by rw[Q6e hj,Q6g h1];rfl
   obtain⟨fz2,e2,xs2,h4,_,h5⟩:=C.st.ext.row j _ _ _ _ _ h3;have h6:=C.back_out h4;rw[Q7v hj,h2]at h6;have h7:Q8Q ob ρ j=e:=by simp only[Q8Q,hj,Qn2,h1]
   simp only[Qex,h7]at h6
   have h8:e2=0:=by
    have h9:e=e+e2:=by injection h6 with h6;injection h6
    omega
   subst h8;have xg:=Q4Y (g:=g) C.once (Q2r hj) hG;obtain⟨h9,qX⟩:=C.st.ext.sub b j xg ⟨_,_,_,_,_,_,_,h3,h4⟩;have qN:=Q3a (g:=g) C.once (Q2r hj) hG;refine⟨(Q65 ((h5 rfl).G xg)).trans (h9.trans qN),fun vj o hA=>qX (qN.trans vj) o hA⟩
 ·cases hp:Q1c id ρ with
  |none=>simp only[Gh.out,hp,hid,if_true]
  |some j =>
   have hj:=Q1a hp;simp only[Gh.out,hp];rw[C.st.ext.loc j (by simpa using Q4 hj),Q1v (Q2r hj)]
 ·cases hp:Q1c id ρ with
  |none=>rw[C.back_own (Q2O hb) hp];exact hb
  |some j =>
   have hj:=Q1a hp;have:=C.isb_out (C.st.ext.isb j ((Q91 C.there).isB (Q2r hj) hb))
   rw[Q7v hj]at this;exact this
 ·cases hp:Q1c id ρ with
  |none=>rw[C.back_own (Q3X hb) hp];exact hb
  |some j =>
   have hj:=Q1a hp;have:=C.isi_out (C.st.ext.isi j ((Q91 C.there).isI (Q2r hj) hb))
   rw[Q7v hj]at this;exact this
 ·cases hp:Q1c id ρ with
  |none =>
   refine⟨fz,e,xs,by rw[C.back_own (Q4 hr) hp];exact hr,le_refl _,fun _=>.inl ⟨rfl,fun b hb=>?_⟩⟩
   obtain⟨_,_,h3,h4⟩:=C.own_G hb hp;exact⟨h3,h4⟩
  |some j =>
   have hj:=Q1a hp;have h1:(Q3L ob ρ)[j]?=some (.row et sz fz 0 xs):=by rw[Q6e hj,Q6g hr];rfl
   obtain⟨fz',e',xs',h2,h3,h4⟩:=C.st.ext.row j _ _ _ _ _ h1;have h5:=C.back_out h2;rw[Q7v hj]at h5;have h6:Q8Q ob ρ j=e:=by simp only[Q8Q,hj,Qn2,hr]
   refine⟨fz',e+e',xs',by rw[h5,<-h6];rfl,by omega,fun he=>?_⟩
   refine(h4 (by omega)).turn (fun b hb=>⟨Q4Y C.once (Q2r hj) hb,Q3a C.once (Q2r hj) hb⟩) (fun b _ h9=>?_) rfl
   rw[Q8v h9,Q7v hj]
theorem CallAt.row_out(C:CallAt w g ob ρ w' g' ob'){j et sz:Nat}{v:Value}{xs:List AV}(h:RowV w' g' j et sz v xs):RowV w' (g.out g' ρ ob.length) (Q2t ρ ob.length j) et sz v xs:=by
 obtain⟨ys,h1,h2,h3,h4,h5⟩:=h;exact⟨ys,h1,fun b hb=>Q8v (h2 b hb),h3,h4,h5.ext h2 fun b hb=>⟨Q8v hb,Q65 hb,fun _=>⟨rfl,fun _ h=>h⟩⟩⟩
theorem CallAt.rel0(C:CallAt w g ob ρ w' g' ob'){v:Value}{x:AV}(h:ARel0 w' g' ob' v x):ARel0 w' (g.out g' ρ ob.length) (Q4t ob ρ ob') v (QjH ob ρ x):=by
 cases x with
 |box j o=>exact⟨by rw[C.loc_out];exact h.1,C.isb_out h.2⟩
 |iter j=>obtain⟨k,h1,h2⟩:=h;exact⟨k,by rw[C.loc_out];exact h1,C.isi_out h2⟩
 |clo f j o t=>exact⟨by rw[C.loc_out];exact h.1,C.isb_out h.2⟩
 |row j e =>
  obtain⟨h0,et,sz,fz,e',xs,h1,h2,h3⟩:=h;refine⟨h0,et,sz,fz,Q8Q ob ρ j+e',xs,C.back_out h1,by omega,fun he=>C.row_out (h3 (by omega))⟩
 |rowk j e k =>
  obtain⟨h0,et,sz,fz,e',xs,h1,h2,h3⟩:=h;refine⟨h0,et,sz,fz,Q8Q ob ρ j+e',xs,C.back_out h1,by omega,fun he=>?_⟩
  obtain⟨h4,h5,h6⟩:=h3 (by omega)
  exact⟨h4,h5,C.row_out h6⟩
 |rptr j e i o =>
  obtain⟨h0,et,sz,fz,e',xs,h1,h2,h3⟩:=h;refine⟨h0,et,sz,fz,Q8Q ob ρ j+e',xs,C.back_out h1,by omega,fun he=>?_⟩
  obtain⟨b,c,h4,h5,h6,h7⟩:=h3 (by omega)
  exact⟨b,c,h4,h5,h6,C.row_out h7⟩
 |_=>exact h
theorem CallAt.relC(C:CallAt w g ob ρ w' g' ob'){vs:List Value}{cs:List AV}(h:ARelC w' g' ob' vs cs):ARelC w' (g.out g' ρ ob.length) (Q4t ob ρ ob') vs (cs.map (QjH ob ρ)):=by
 refine⟨by simp[h.1],fun j y u hy hu=>?_⟩
 rw[getElem?_map,map_eq_some_iff]at hu;obtain⟨u',h1,rfl⟩:=hu;exact⟨C.rel0 (h.2 j y u' hy h1).1,(h.2 j y u' hy h1).2⟩
theorem CallAt.rel1(C:CallAt w g ob ρ w' g' ob'){v:Value}{x:AV}(h:ARel1 w' g' ob' v x):ARel1 w' (g.out g' ρ ob.length) (Q4t ob ρ ob') v (Qkx ob ρ x):=by
 cases x with
 |agg cs=>obtain⟨vs,rfl,h⟩:=h;exact⟨vs,rfl,C.relC h⟩
 |tup _=>exact(show False from h).elim
 |val a=>exact C.rel0 (x:=.val a) h
 |slc a b=>exact C.rel0 (x:=.slc a b) h
 |ref a=>exact C.rel0 (x:=.ref a) h
 |opt a=>exact C.rel0 (x:=.opt a) h
 |box a b=>exact C.rel0 (x:=.box a b) h
 |row a b=>exact C.rel0 (x:=.row a b) h
 |rowk a b c=>exact C.rel0 (x:=.rowk a b c) h
 |rptr a b c d=>exact C.rel0 (x:=.rptr a b c d) h
 |kb a=>exact C.rel0 (x:=.kb a) h
 |iter a=>exact C.rel0 (x:=.iter a) h
 |clo a b c d=>exact C.rel0 (x:=.clo a b c d) h
 |dead=>trivial
theorem CallAt.rel(C:CallAt w g ob ρ w' g' ob'){v:Value}{x:AV}(h:ARel w' g' ob' v x):ARel w' (g.out g' ρ ob.length) (Q4t ob ρ ob') v (Qgz ob ρ x):=by
 cases x with
 |tup xs =>
  obtain⟨vs,rfl,h1,h2⟩:=h;refine⟨vs,rfl,by simp[h1],fun j y u hy hu=>?_⟩
  rw[getElem?_map,map_eq_some_iff]at hu;obtain⟨u',h3,rfl⟩:=hu;exact C.rel1 (h2 j y u' hy h3)
 |agg cs=>exact(C.rel1 (x:=.agg cs) h).to
 |val a=>exact(C.rel1 (x:=.val a) h).to
 |slc a b=>exact(C.rel1 (x:=.slc a b) h).to
 |ref a=>exact(C.rel1 (x:=.ref a) h).to
 |opt a=>exact(C.rel1 (x:=.opt a) h).to
 |box a b=>exact(C.rel1 (x:=.box a b) h).to
 |row a b=>exact(C.rel1 (x:=.row a b) h).to
 |rowk a b c=>exact(C.rel1 (x:=.rowk a b c) h).to
 |rptr a b c d=>exact(C.rel1 (x:=.rptr a b c d) h).to
 |kb a=>exact(C.rel1 (x:=.kb a) h).to
 |iter a=>exact(C.rel1 (x:=.iter a) h).to
 |clo a b c d=>exact(C.rel1 (x:=.clo a b c d) h).to
 |dead=>trivial
theorem CallAt.mem(C:CallAt w g ob ρ w' g' ob'):Mem w' (g.out g' ρ ob.length) (Q4t ob ρ ob'):=by
 have E:=C.ext;refine⟨fun id cs h=>?_,fun id cs h k u hk=>?_,fun id y h=>?_,fun b id h=>?_,fun b o hA=>?_,fun id et sz fz e xs h=>?_,fun b hs=>?_,fun b b' id h1 h2 hs jf=>?_⟩
 ·rcases C.back_cases h with ⟨j,o',h1,rfl,h2⟩|⟨hid,hp,h1⟩
  ·rcases o' with _|_|_|(_|_|_)|_<;>cases h2
   rename_i cs';obtain⟨hG,cur,T,h3,h4⟩:=C.m'.box j cs' h1;exact⟨by rw[C.loc_out];exact Q8v hG,cur,T,by rw[C.loc_out];exact h3,C.relC h4⟩
  ·obtain⟨hG,cur,T,h3,h4⟩:=C.m.box id cs h1
   obtain⟨_,_,h5,h6⟩:=C.own_G hG hp;have hl:(g.out g' ρ ob.length).loc id=g.loc id:=E.loc id hid;exact⟨by rw[hl];exact h5,cur,T,by rw[hl,h6];exact h3,h4.ext E⟩
 ·rcases C.back_cases h with ⟨j,o',h1,rfl,h2⟩|⟨hid,hp,h1⟩
  ·rcases o' with _|_|_|(_|_|_)|_<;>cases h2
   rw[C.loc_out];exact C.m'.fbox j _ h1 k u hk
  ·obtain⟨hA,y,h3,h4⟩:=C.m.fbox id cs h1 k u hk
   have hl:(g.out g' ρ ob.length).loc id=g.loc id:=E.loc id hid;rw[hl];exact⟨(E.A _ _ hA).1,y,by rw[(E.A _ _ hA).2];exact h3,h4.keep E.A⟩
 ·rcases C.back_cases h with ⟨j,o',h1,rfl,h2⟩|⟨hid,hp,h1⟩
  ·rcases o' with _|_|_|(_|_|_)|_<;>cases h2
   ·obtain⟨hG,h3⟩:=C.m'.iter j _ h1
    exact⟨by rw[C.loc_out];exact Q8v hG,by rw[C.loc_out];exact h3⟩
   ·obtain⟨hG,h3⟩:=C.m'.iter j _ h1
    exact⟨by rw[C.loc_out];exact Q8v hG,by rw[C.loc_out];exact h3⟩
   ·obtain⟨hG,h3,sn',h4,h5⟩:=C.m'.iter j _ h1
    exact⟨by rw[C.loc_out];exact Q8v hG,by rw[C.back_len];exact C.outI_lt h3,sn',by rw[C.loc_out,C.loc_out];exact h4,h5⟩
  ·obtain⟨hG,h3⟩:=C.m.iter id y h1
   obtain⟨_,_,h5,h6⟩:=C.own_G hG hp;have hl:(g.out g' ρ ob.length).loc id=g.loc id:=E.loc id hid;exact⟨by rw[hl];exact h5,h3.at E.A E.loc (by rw[C.back_len];omega) (by rw[hl,h6])⟩
 ·rw[C.back_len]
  rcases C.G_cases h with ⟨j,hj,rfl⟩|⟨_,h1,_⟩
  ·exact⟨(C.m'.own b j hj).1,C.outI_lt (C.m'.own b j hj).2⟩
  ·have:=C.m.own b id h1
   exact⟨Nat.lt_of_lt_of_le this.1 C.st.size,by omega⟩
 ·refine⟨(C.m'.imm b o hA).1,fun id h hs=>?_⟩
  rcases C.G_cases h with ⟨j,hj,rfl⟩|⟨h0,h1,hp⟩
  ·obtain⟨et,sz,e,xs,h2,h3⟩:=(C.m'.imm b o hA).2 j hj ((Q65 hj).symm.trans hs)
   exact⟨et,sz,Q8Q ob ρ j+e,xs,C.back_out h2,h3⟩
  ·obtain⟨h4,_,_,_⟩:=C.own_G h1 hp
   rcases C.st.imm b o hA with h5|⟨k,h5⟩|h5
   ·obtain⟨et,sz,e,xs,h2,h3⟩:=(C.m.imm b o h5).2 id h1 ((Q5V h0 h1 hp).symm.trans hs)
    exact⟨et,sz,e,xs,by rw[C.back_own (Q4 h2) hp];exact h2,h3⟩
   ·rw[h4]at h5;cases h5
   ·have:=(C.m.own b id h1).1;omega
 ·rcases C.back_cases h with ⟨j,o',h1,rfl,h2⟩|⟨hid,hp,h1⟩
  ·rcases o' with _|_|_|(_|_|_)|_<;>cases h2
   exact C.m'.roww j _ _ _ _ _ h1
  ·exact C.m.roww id _ _ _ _ _ h1
 ·cases h1:g'.G b with
  |some j =>
   obtain⟨j',et,sz,fz,e,xs,h2,h3⟩:=C.m'.nsub b ((Q65 h1).symm.trans hs);exact⟨_,_,_,_,_,_,Q8v h2,C.back_out h3⟩
  |none =>
   cases h2:g.G b with
   |none=>simp only[Gh.out,h1,h2]at hs;cases hs
   |some id =>
    cases hp:Q1c id ρ with
    |some k=>simp only[Gh.out,h1,h2,hp]at hs;cases hs
    |none =>
     obtain⟨id',et,sz,fz,e,xs,h3,h4⟩:=C.m.nsub b ((Q5V h1 h2 hp).symm.trans hs);rw[h2]at h3;obtain rfl:id=id':=by simpa using h3
     exact⟨id,et,sz,fz,e,xs,(C.own_G h2 hp).2.2.1,by rw[C.back_own (Q4 h4) hp];exact h4⟩
 ·rcases C.G_cases h1 with ⟨j,hj,rfl⟩|⟨h0,h3,hp⟩
  ·rcases C.G_cases h2 with ⟨j',zK,he⟩|⟨pM,h4,np⟩
   ·obtain rfl:=C.outI_inj he
    exact C.m'.uniq b b' j hj zK ((Q65 hj).symm.trans hs) ((Q65 zK).symm.trans jf)
   ·exact(C.outI_not np (C.m.own b' _ h4).2).elim
  ·rcases C.G_cases h2 with ⟨j',zK,he⟩|⟨pM,h4,np⟩
   ·subst he
    exact(C.outI_not hp (C.m.own b _ h3).2).elim
   ·exact C.m.uniq b b' id h3 h4 ((Q5V h0 h3 hp).symm.trans hs) ((Q5V pM h4 np).symm.trans jf)
theorem CallAt.step(C:CallAt w g ob ρ w' g' ob'):Step w g ob w' (g.out g' ρ ob.length) (Q4t ob ρ ob'):=by
 have none_in:∀b,g.G b=none->(g.ren (ρ.map some)).G b=none:=fun b h=>by simp[Gh.ren,h]
 have some_in:∀b k,(g.ren (ρ.map some)).G b=some k->∃id,g.G b=some id:=fun b k h=>by
  obtain⟨i,_,hG⟩:=Q2E h;exact⟨i,hG⟩
 refine⟨C.st.os,C.st.tape,C.st.output,C.st.size,fun b hb hG=>C.st.keep b hb (none_in b hG),fun b id h=>?_,fun b o hA=>?_,C.ext,?_⟩
 ·rcases C.G_cases h with ⟨j,hj,rfl⟩|⟨_,h1,_⟩
  ·rcases C.st.own b j hj with ⟨k,hk⟩|hk
   ·exact .inl (some_in b k hk)
   ·exact .inr hk
  ·exact .inl ⟨id,h1⟩
 ·rcases C.st.imm b o hA with h|⟨k,h⟩|h
  ·exact .inl h
  ·exact .inr (.inl (some_in b k h))
  ·exact .inr (.inr h)
 ·rw[C.back_len];omega
end
