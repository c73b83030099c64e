/- Lemmas, conditions told -/
import Derived.Test.YtibemhahkicbpaaGreatL06
set_option maxRecDepth 99999
set_option maxHeartbeats 0
set_option linter.unusedSimpArgs false
set_option linter.unusedVariables false
namespace Go.Proofs.YtibemhahkicbpaaGreat
open List(mem_map getElem?_map getElem?_set_ne getElem?_set_self length_set mem_cons_self getD_eq_getElem?_getD getElem?_eq_getElem all_eq_true mem_singleton)
open Nat(le_refl not_lt)
open Option(map_eq_some_iff map_some)
open Go.RowKit Go.Lib
section
variable {P:Program}{ty:Tys}{w0:World}{g0:Gh}{o0:List Ob}{N:Nat}{Q:Ex->St->Prop}{w w':World}{g g':Gh}{ob ob':List Ob}
theorem Qlp(hT:TyOk P ty){K:St->Tree}{o:Oper}{s:St}{a:Act}{w:World}{R:Exit->Act->World->Prop}(hs:Sim w0 g0 o0 N s a w)(hd:∀t,o.dst=some t->t<N)
  {src dst:Nat} {x:Operand} (ho:o.op=.convert src dst x) {b:ByteArray} (hx:ev s x=.val (.string b)) (h1:(Q5 src ty).kd=6) (h2:(Q5 dst ty).sl=true) (h3:(Q5 (Q5 dst ty).elem ty).kind=some .u8) (hb:b.size<=1000000000)
  (jC:(K (St.put s o.dst (.slc 1 (std.bytesS b)))).ok P w0 g0 o0 N Q):o.wp P a w (Q7j ty P w0 g0 o0 N Q K o.op w) R:=by
 obtain⟨g,M,hS,h0⟩:=hs.rel;have qS:=QT hS x;rw[hx]at qS;have jL:=(Q5b hT h1 (by decide)).str h1
 have jT:=(Qae hT h2).slice h2;have zP:=(Q8t hT h3).int h3;have zi:=grownCap_ge w b.size 0 (Q5 dst ty).elem;have qc:=grownCap_le_maxLen w b.size 0 (Q5 dst ty).elem (by unfold maxLen;omega)
 have hr:=run_bytes_of_string (P:=P) w src dst _ b jL jT zP;generalize hC:bytesRow b (grownCap w b.size 0 (Q5 dst ty).elem)=C at hr;generalize grownCap w b.size 0 (Q5 dst ty).elem=c at *;have zQ:Below w.heap.size w (w.drew.alloc (.cells C (Q5 dst ty).elem (C.size,C.size+1))):=(Below.refl _ w).drew.alloc (le_refl _) _;have M':=M.immNew zQ
 have q5:(execOp a.eval o).run P w=.ok (.value (.slice (some ⟨w.heap.size,0,none⟩) b.size c)) (w.drew.alloc (.cells C (Q5 dst ty).elem (C.size,C.size+1))):=by
  simp only[execOp,ho,qS.valEq];exact Q2t hr
 have hl:(std.bytesS b).length=b.size:=by show(b.data.toList.map _).length=_;simp
 have xy:std.isB (std.bytesS b):=fun x hx=>by
  obtain⟨n,_,rfl⟩:=mem_map.1 (show x∈b.data.toList.map _ from hx);exact⟨n,rfl⟩
 have hcell:∀(j:Nat) u,(QQ (std.bytesS b))[j]?=some u->∃n:UInt8,C[j]?=some (.int .u8 n.toNat)/\u=.val (.int .u8 n.toNat):=fun j u hu=>by
  rw[Qaw xy]at hu;have hu:(b.data.toList.map fun x=>AV.val (.int .u8 x.toNat))[j]?=some u:=hu
  rw[getElem?_map,map_eq_some_iff]at hu;obtain⟨n,hn,rfl⟩:=hu;have hj:=Qa hn;refine⟨n,?_,rfl⟩;rw[<-hC,bytesRow,Array.getElem?_append_left (by simpa using hj)]
  rw[Array.getElem?_map,<-Array.getElem?_toList,hn];rfl
 have hA:∀j,(g.imm w (w.drew.alloc (.cells C (Q5 dst ty).elem (C.size,C.size+1)))).A w.heap.size j:=fun j=>.inr ⟨le_refl _,by simp⟩
 refine Q6x q5 ⟨fun _=>zQ,_,Q2R hs hS h0 M' (Step.immNew M zQ) hd ?_,jC⟩
 have:=PRel.slc (w:=w.drew.alloc (.cells C (Q5 dst ty).elem (C.size,C.size+1))) (A:=(g.imm w (w.drew.alloc (.cells C (Q5 dst ty).elem (C.size,C.size+1)))).A) w.heap.size 0 c 1 (std.bytesS b) (fun j=>(C[j]?).getD undef) (by rw[hl];exact zi) qc
  (fun x hx=>by obtain⟨n,rfl⟩:=xy x hx;rfl) (fun j u hu=>by
   obtain⟨n,h4,_⟩:=hcell j u hu;refine⟨hA _,?_⟩;rw[Nat.zero_add,h4];exact(World.cell?_alloc_mark w.drew C _ _ j).trans h4) (fun j u hu=>by
   obtain⟨n,h4,rfl⟩:=hcell j u hu;simp only[h4];exact PRel.val _ rfl)
 rw[hl]at this;exact this
theorem Q73{b b' n:Nat}(h:b'≠b):(w.freeze ⟨b,n,none⟩ 1).heap[b']?=w.heap[b']?:=by
 unfold World.freeze;rw[if_neg (by decide)]
 simp only[Array.getElem?_modify];rw[if_neg (by omega)]
theorem Q96{b n:Nat}(p:Addr):(w.freeze ⟨b,n,none⟩ 1).cell? p=w.cell? p:=by
 unfold World.freeze;rw[if_neg (by decide)]
 unfold World.cell?;simp only[Array.getElem?_modify];by_cases hb:b=p.block
 ·rw[if_pos hb]
  cases w.heap[p.block]? with
  |none=>rfl
  |some o=>cases o<;>rfl
 ·rw[if_neg hb]
theorem QjY(M:Mem w g ob){id et sz e b:Nat}{fz:Bool}{xs:List AV}(h:ob[id]?=some (.row et sz fz e xs))(hG:g.G b=some id)(n:Nat) :
  Mem (w.freeze ⟨b,n,none⟩ 1) g (ob.set id (.row et sz fz (e+1) xs))/\Step w g ob (w.freeze ⟨b,n,none⟩ 1) g (ob.set id (.row et sz fz (e+1) xs)):=by
 have hid:=Qa h
 have jh:(w.freeze ⟨b,n,none⟩ 1).heap.size=w.heap.size:=by
  unfold World.freeze;rw[if_neg (by decide)]
  simp
 have E:Ext w g ob (w.freeze ⟨b,n,none⟩ 1) g (ob.set id (.row et sz fz (e+1) xs)):=by
  refine⟨fun b o h=>⟨h,Q96 _⟩,fun _ _=>rfl,fun i hi=>?_,fun i hi=>?_,fun i et' sz' fz2 e2 xs2 hi=>?_,fun b' i _ _=>⟨rfl,fun _ _ h=>h⟩⟩
  ·have:i≠id:=by rintro rfl;rw[h]at hi;exact hi
   rw[getElem?_set_ne (Ne.symm this)];exact hi
  ·have:i≠id:=by rintro rfl;rw[h]at hi;exact hi
   rw[getElem?_set_ne (Ne.symm this)];exact hi
  ·by_cases e':i=id
   ·subst e'
    rw[h]at hi;obtain⟨rfl,rfl,rfl,rfl,rfl⟩:et=et'/\sz=sz'/\fz=fz2/\e=e2/\xs=xs2:=by simpa using hi
    exact⟨fz,e+1,xs,getElem?_set_self hid,by omega,fun he=>by omega⟩
   ·refine⟨fz2,e2,xs2,by rw[getElem?_set_ne (Ne.symm e')];exact hi,le_refl _,fun _=>.inl ⟨rfl,fun b' v4=>⟨v4,Q73 ?_⟩⟩⟩
    rintro rfl;rw[hG]at v4;exact e' (by simpa using v4.symm)
 refine⟨⟨fun i cs hi=>?_,fun i cs hi j u hj=>?_,fun i s p hi=>?_,fun b i hG=>⟨by rw[jh];exact(M.own b i hG).1,by rw[length_set];exact(M.own b i hG).2⟩,fun b' o hA=>⟨by rw[jh];exact(M.imm b' o hA).1,fun i yR hs=>?_⟩,fun i et' sz' fz2 e2 xs2 hi=>?_,fun b' hs=>?_,M.uniq⟩,
  ⟨rfl,rfl,rfl,by rw[jh];exact le_refl _,fun b' _ hN=>Q73 (by rintro rfl;rw[hG]at hN;cases hN),fun b' i h=>.inl ⟨i,h⟩,fun b' o h=>.inl h,E,by simp⟩⟩
 ·have e':i≠id:=by rintro rfl;rw[getElem?_set_self hid]at hi;cases hi
  rw[getElem?_set_ne (Ne.symm e')]at hi;obtain⟨h1,cur,T,h2,h3⟩:=M.box i cs hi;refine⟨h1,cur,T,?_,h3.ext E⟩;rw[Q73]
  ·exact h2
  ·intro hb
   rw[hb,hG]at h1;exact e' (by simpa using h1.symm)
 ·have e':i≠id:=by rintro rfl;rw[getElem?_set_self hid]at hi;cases hi
  rw[getElem?_set_ne (Ne.symm e')]at hi;obtain⟨h1,y,h2,h3⟩:=M.fbox i cs hi j u hj;exact⟨h1,y,by rw[Q96];exact h2,h3.keep E.A⟩
 ·have e':i≠id:=by rintro rfl;rw[getElem?_set_self hid]at hi;cases hi
  rw[getElem?_set_ne (Ne.symm e')]at hi;obtain⟨h1,h2⟩:=M.iter i s p hi;refine⟨h1,?_⟩;rw[Q73]
  ·exact h2
  ·intro hb
   rw[hb,hG]at h1;exact e' (by simpa using h1.symm)
 ·obtain⟨et',sz',e2,xs2,h3,h4⟩:=(M.imm b' o hA).2 i yR hs
  by_cases e':i=id
  ·subst e'
   rw[h]at h3;obtain⟨rfl,rfl,rfl,rfl,rfl⟩:et=et'/\sz=sz'/\fz=true/\e=e2/\xs=xs2:=by simpa using h3
   exact⟨et,sz,e+1,xs,getElem?_set_self hid,h4⟩
  ·exact⟨et',sz',e2,xs2,by rw[getElem?_set_ne (Ne.symm e')];exact h3,h4⟩
 ·by_cases e':i=id
  ·subst e'
   rw[getElem?_set_self hid]at hi;cases hi;exact M.roww _ _ _ _ _ _ h
  ·rw[getElem?_set_ne (Ne.symm e')]at hi
   exact M.roww i _ _ _ _ _ hi
 ·obtain⟨i,et',sz',fz2,e2,xs2,h3,h4⟩:=M.nsub b' hs
  by_cases e':i=id
  ·subst e'
   exact⟨i,_,_,_,_,_,h3,getElem?_set_self hid⟩
  ·exact⟨i,et',sz',fz2,e2,xs2,h3,by rw[getElem?_set_ne (Ne.symm e')];exact h4⟩
theorem Qm1(hT:TyOk P ty){K:St->Tree}{o:Oper}{s:St}{a:Act}{w:World}{R:Exit->Act->World->Prop}(hs:Sim w0 g0 o0 N s a w)(hd:∀t,o.dst=some t->t<N)
  {src:Nat} {x:Operand} (ho:o.op=.convert src src x) {id et e:Nat} {xs:List AV} (hx:ev s x=.row id e) (j0:s.ob[id]?=some (.row et 1 false e xs)) (h2:(Q5 src ty).sl=true) (h3:(Q5 (Q5 src ty).elem ty).kind=some .u8) (hm:xs≠[])
  (jC:(K (St.put ⟨s.tm,s.ob.set id (.row et 1 true (e+1) xs)⟩ o.dst (.slc 1 xs))).ok P w0 g0 o0 N Q):o.wp P a w (Q7j ty P w0 g0 o0 N Q K o.op w) R:=by
 obtain⟨g,M,hS,h0⟩:=hs.rel;have qS:=QT hS x;rw[hx]at qS;obtain⟨_,et',sz',fz',e',xs',h4,_,h5⟩:=qS;rw[j0]at h4;cases h4;have jk:=h5 rfl;obtain⟨ys,jP,hG,jX,hw,vP⟩:=h5 rfl;have jT:=(Qae hT h2).slice h2;have zP:=(Q8t hT h3).int h3;obtain⟨g1,M1,E1,yp,k5⟩:=Q7z M j0 jk (le_refl _);obtain⟨jE,hnil|⟨b,cap,cur,hv,jJ,p9,gJ⟩⟩:=jP
 ·exfalso
  apply hm;exact List.eq_nil_of_length_eq_zero hnil.2
 have qe:g.G b=some id:=hG b (by rw[hv];rfl)
 have hG1:g1.G b=some id:=by
  have:=(E1.row id et 1 false e xs j0)
  obtain⟨fz1,e1,xs1,k1,k2,k3⟩:=this;rw[getElem?_set_self (Qa j0)]at k1;obtain⟨rfl,rfl,rfl⟩:true=fz1/\e=e1/\xs=xs1:=by simpa using k1
  exact(k3 rfl).G qe
 have hob1:(s.ob.set id (.row et 1 true e xs))[id]?=some (.row et 1 true e xs):=getElem?_set_self (Qa j0);obtain⟨M2,S2⟩:=QjY M1 hob1 hG1 cur.size;rw[List.set_set]at M2 S2
 have q5:(execOp a.eval o).run P w=.ok (.value (a.eval x)) (w.freeze ⟨b,cur.size,none⟩ 1):=by
  simp only[execOp,ho,hv];refine Q2t ?_;have zh:w.shape? b=some (et,cur.size):=by unfold World.shape?;rw[p9]
  simp[convert,run_underlying jT,run_underlying zP,markStringish,zh]
 have jI:=(Step.ghost (ob':=s.ob.set id (.row et 1 true e xs)) E1 k5).trans S2;refine Q6x q5 ⟨fun hq=>?_,_,Q2R (g':=g1) hs hS h0 M2 jI hd ?_,jC⟩
 ·simp[ho,Q4W,h2]at hq
 ·have:PRel (w.freeze ⟨b,cur.size,none⟩ 1) g1.A (a.eval x) (.slc 1 xs):=yp.keep fun b' o' h=>⟨h,Q96 _⟩
  exact this
theorem QlM(hT:TyOk P ty){K:St->Tree}{o:Oper}{s:St}{a:Act}{w:World}{R:Exit->Act->World->Prop}(hs:Sim w0 g0 o0 N s a w)(hd:∀t,o.dst=some t->t<N)
  {T:Nat} {x:Operand} (ho:o.op=.range T x) {b:ByteArray} (hx:ev s x=.val (.string b)) (h1:(Q5 T ty).kd=6)
  (jC:(K (St.put ⟨s.tm,s.ob++[.iter b 0]⟩ o.dst (.iter s.ob.length))).ok P w0 g0 o0 N Q):o.wp P a w (Q7j ty P w0 g0 o0 N Q K o.op w) R:=by
 obtain⟨g,M,hS,h0⟩:=hs.rel;have qS:=QT hS x;rw[hx]at qS;have jL:=(Q5b hT h1 (by decide)).str h1
 have hr:(execOp a.eval o).run P w=.ok (.value (.pointer (some ⟨w.heap.size,0,none⟩))) (w.alloc (.stringIter b 0)):=by
  simp only[execOp,ho,qS.valEq];refine Q2t ?_;simp only[Instr.range,Sem.run_bind,run_underlying jL,Result.andThen_ok,Sem.run_pure,run_newObj];rfl
 have M':=M.new (.stringIter b 0) (.iter b 0) (fun cs h=>by cases h) (fun cs h=>by cases h) (fun s p h=>by cases h;rfl) (fun et sz fz e xs h=>by cases h)
 refine Q6x hr ⟨fun _=>(Below.refl _ w).alloc (le_refl _) _,_,Q2R hs hS h0 M' (Step.new M _ _) hd ?_,jC⟩
 refine⟨by simp[Gh.new],?_⟩
 rw[Q4b];trivial
theorem Qle(M:Mem w g ob){id:Nat}{b:ByteArray}{p p':Nat}(h:ob[id]?=some (.iter b p)) :
  Mem { w with heap:=w.heap.setIfInBounds (g.loc id) (.stringIter b p') } g (ob.set id (.iter b p'))/\Step w g ob { w with heap:=w.heap.setIfInBounds (g.loc id) (.stringIter b p') } g (ob.set id (.iter b p')):=by
 have hid:=Qa h;obtain⟨hG,hh⟩:=M.iter id b p h;have jA:=(M.own _ _ hG).1
 have other:∀{k:Nat},k≠g.loc id->({ w with heap:=w.heap.setIfInBounds (g.loc id) (.stringIter b p') }:World).heap[k]?=w.heap[k]?:=fun hk=>by
  show(w.heap.setIfInBounds _ _)[_]?=_
  rw[Array.getElem?_setIfInBounds_ne (Ne.symm hk)]
 have ne:∀{k i:Nat},g.G k=some i->i≠id->k≠g.loc id:=by
  rintro k i h1 h2 rfl;rw[hG]at h1;exact h2 (by simpa using h1.symm)
 have hA:∀k o,g.A k o->k≠g.loc id:=by
  rintro k o h1 rfl;obtain⟨et,sz,e,xs,h2,_⟩:=(M.imm _ _ h1).2 id hG (M.nosub hG fun _ _ _ _ _ h3=>by rw[h]at h3;cases h3)
  rw[h]at h2;cases h2
 have E:Ext w g ob { w with heap:=w.heap.setIfInBounds (g.loc id) (.stringIter b p') } g (ob.set id (.iter b p')):=by
  refine⟨fun k o h1=>⟨h1,World.cell?_of_block (w:=w) (other (hA k o h1))⟩,fun _ _=>rfl,fun i hi=>?_,fun i hi=>?_,fun i et sz fz e xs hi=>?_,fun _ _ _ _=>⟨rfl,fun _ _ h=>h⟩⟩
  ·have:i≠id:=by rintro rfl;rw[h]at hi;exact hi
   rw[getElem?_set_ne (Ne.symm this)];exact hi
  ·by_cases e:i=id
   ·subst e;rw[getElem?_set_self hid];trivial
   ·rw[getElem?_set_ne (Ne.symm e)];exact hi
  ·have:i≠id:=by rintro rfl;rw[h]at hi;cases hi
   exact⟨fz,e,xs,by rw[getElem?_set_ne (Ne.symm this)];exact hi,le_refl _,fun _=>.inl ⟨rfl,fun k hk=>⟨hk,other (ne hk this)⟩⟩⟩
 have jh:({ w with heap:=w.heap.setIfInBounds (g.loc id) (.stringIter b p') }:World).heap.size=w.heap.size:=by show(w.heap.setIfInBounds _ _).size=_;simp
 refine⟨⟨fun i cs hi=>?_,fun i cs hi j u hj=>?_,fun i s q hi=>?_,fun k i hk=>by rw[jh,length_set];exact M.own k i hk,fun k o h1=>?_,fun i et sz fz e xs hi=>?_,fun b hs=>?_,M.uniq⟩,
  ⟨rfl,rfl,rfl,by rw[jh];exact le_refl _,fun k _ hk=>other (fun e=>by rw[e,hG]at hk;cases hk),fun k i hk=>.inl ⟨i,hk⟩,fun _ _ h=>.inl h,E,by simp⟩⟩
 ·have e':i≠id:=by rintro rfl;rw[getElem?_set_self hid]at hi;cases hi
  rw[getElem?_set_ne (Ne.symm e')]at hi;obtain⟨h1,cur,T,h2,h3⟩:=M.box i cs hi;exact⟨h1,cur,T,(other (ne h1 e')).trans h2,h3.ext E⟩
 ·have e':i≠id:=by rintro rfl;rw[getElem?_set_self hid]at hi;cases hi
  rw[getElem?_set_ne (Ne.symm e')]at hi;obtain⟨h1,y,h2,h3⟩:=M.fbox i cs hi j u hj;exact⟨h1,y,(E.A _ _ h1).2.trans h2,h3.keep E.A⟩
 ·by_cases e':i=id
  ·subst e'
   rw[getElem?_set_self hid]at hi;obtain⟨rfl,rfl⟩:b=s/\p'=q:=by simpa using hi
   exact⟨hG,by show(w.heap.setIfInBounds _ _)[_]?=_;rw[Array.getElem?_setIfInBounds_self,if_pos jA]⟩
  ·rw[getElem?_set_ne (Ne.symm e')]at hi
   obtain⟨h1,h2⟩:=M.iter i s q hi;exact⟨h1,(other (ne h1 e')).trans h2⟩
 ·obtain⟨h2,h3⟩:=M.imm k o h1
  refine⟨by rw[jh];exact h2,fun i hk hs=>?_⟩
  obtain⟨et,sz,e,xs,h4,h5⟩:=h3 i hk hs;have e':i≠id:=by rintro rfl;rw[h]at h4;cases h4
  exact⟨et,sz,e,xs,by rw[getElem?_set_ne (Ne.symm e')];exact h4,h5⟩
 ·have e':i≠id:=by rintro rfl;rw[getElem?_set_self hid]at hi;cases hi
  rw[getElem?_set_ne (Ne.symm e')]at hi;exact M.roww i et sz fz e xs hi
 ·obtain⟨i,et,sz,fz,e,xs,h3,h4⟩:=M.nsub b hs
  have e':i≠id:=by rintro rfl;rw[h]at h4;cases h4
  exact⟨i,et,sz,fz,e,xs,h3,by rw[getElem?_set_ne (Ne.symm e')];exact h4⟩
theorem Qmh{K:St->Tree}{o:Oper}{s:St}{a:Act}{w:World}{R:Exit->Act->World->Prop}(hs:Sim w0 g0 o0 N s a w)(hd:∀t,o.dst=some t->t<N)
  {it:Operand} (ho:o.op=.next it true) {id:Nat} (hi:ev s it=.iter id) {b:ByteArray} {pos:Nat} (j0:s.ob[id]?=some (.iter b pos))
  (ht:std.itmore b pos=true->(K (St.put ⟨s.tm,s.ob.set id (.iter b (std.itp b pos))⟩ o.dst (.tup [.kb true,.val (.int .i64 (std.toI pos)),.val (.int .i32 (std.itr b pos))]))).ok P w0 g0 o0 N Q)
  (hf:std.itmore b pos=false->(K (St.put s o.dst (.tup [.kb false]))).ok P w0 g0 o0 N Q):o.wp P a w (Q7j ty P w0 g0 o0 N Q K o.op w) R:=by
 obtain⟨g,M,hS,h0⟩:=hs.rel;have pX:=QT hS it;rw[hi]at pX;have hv:a.eval it=.pointer (some ⟨g.loc id,0,none⟩):=pX.1;obtain⟨hG,hh⟩:=M.iter id b pos j0;have zo:(getObj (g.loc id)).run P w=.ok (.stringIter b pos) w:=by simp[getObj,Sem.run,hh]
 by_cases jA:pos<b.size
 ·obtain⟨M',S'⟩:=Qle M (p':=std.itp b pos) j0
  have hr:(execOp a.eval o).run P w=.ok (.value (.tuple #[.bool true,.int .i64 pos,.int .i32 ((Utf8.decode b pos).1:Int)])) { w with heap:=w.heap.setIfInBounds (g.loc id) (.stringIter b (std.itp b pos)) }:=by
   simp only[execOp,ho,hv];refine Q2t ?_
   have gS:(setObj (g.loc id) (.stringIter b (pos+(Utf8.decode b pos).2))).run P w=.ok () { w with heap:=w.heap.setIfInBounds (g.loc id) (.stringIter b (std.itp b pos)) }:=by
    simp only[setObj,Sem.run,hh];rfl
   simp only[Instr.next,Sem.run_bind,zo,Result.andThen_ok,jA,if_true,gS,Sem.run_pure,goInt]
  refine Q6x hr ⟨fun h=>by simp[ho,Q4W]at h,_,Q2R hs hS h0 M' S' hd ?_,ht (by show decide (pos<b.size)=true;simp[jA])⟩
  refine⟨_,rfl,rfl,fun j y u hy hu=>?_⟩
  match j,hy,hu with
  |0,hy,hu =>
   obtain rfl:Value.bool true=y:=by simpa using hy
   obtain rfl:AV.kb true=u:=by simpa using hu
   exact(rfl:Value.bool true=.bool true)
  |1,hy,hu =>
   obtain rfl:Value.int .i64 pos=y:=by simpa using hy
   obtain rfl:AV.val (.int .i64 (std.toI pos))=u:=by simpa using hu
   exact PRel.val _ rfl
  |2,hy,hu =>
   obtain rfl:Value.int .i32 ((Utf8.decode b pos).1:Int)=y:=by simpa using hy
   obtain rfl:AV.val (.int .i32 (std.itr b pos))=u:=by simpa using hu
   exact PRel.val _ rfl
  |j+3,hy,_=>simp at hy
 ·have hr:(execOp a.eval o).run P w=.ok (.value (.tuple #[.bool false])) w:=by
   simp only[execOp,ho,hv];refine Q2t ?_;simp only[Instr.next,Sem.run_bind,zo,Result.andThen_ok,jA,if_false,Sem.run_pure]
  refine Q6x hr ⟨fun h=>by simp[ho,Q4W]at h,_,Q2R hs hS h0 M Step.refl hd (x:=.tup [.kb false]) ?_,hf (by show decide (pos<b.size)=false;simp[jA])⟩
  refine⟨_,rfl,rfl,fun j y u hy hu=>?_⟩
  match j,hy,hu with
  |0,hy,hu =>
   obtain rfl:Value.bool false=y:=by simpa using hy
   obtain rfl:AV.kb false=u:=by simpa using hu
   exact(rfl:Value.bool false=.bool false)
  |j+1,hy,_=>simp at hy
end
theorem QrV{x:AV}{off sz:Nat}{new:List AV}(hx:x.cells.length=sz)(hn:new.length≠0)(h1:∀u∈new,u.cells=[u])(hl:off+new.length<=sz):(Qti x off new).cells=setCells x.cells off new:=by
 cases x with
 |agg cs=>rfl
 |_ =>
  obtain rfl:1=sz:=hx;obtain rfl:off=0:=by omega
  obtain⟨u,rfl⟩:∃u,new=[u]:=List.length_eq_one_iff.1 (by omega)
  exact h1 u mem_cons_self
theorem Qse{a r new:List AV}{off:Nat}(h:off+new.length<=a.length):setCells (a++r) off new=setCells a off new++r:=by
 unfold setCells;rw[List.take_append_of_le_length (by omega),List.drop_append_of_le_length h]
 simp
theorem QrQ{a r new:List AV}{off:Nat}:setCells (a++r) (a.length+off) new=a++setCells r off new:=by
 unfold setCells;rw[List.take_length_add_append,Nat.add_assoc,List.drop_length_add_append];simp
theorem Qri(x:AV)(r:List AV):QQ (x::r)=x.cells++QQ r:=List.flatMap_cons
theorem QsH(cur vs:List Value)(o n:Nat)(h:o+vs.length<=n)(hn:n<=cur.length):(cur.take o++(vs++cur.drop (o+vs.length))).take n=(cur.take n).take o++vs++(cur.take n).drop (o+vs.length):=by
 have hx:(cur.take o).length=o:=by rw[List.length_take];omega
 rw[List.take_take,Nat.min_eq_left (by omega),List.drop_take,List.take_append,hx,List.take_append,List.take_of_length_le (l:=cur.take o) (by omega),List.take_of_length_le (l:=vs) (by omega),List.append_assoc,Nat.sub_sub]
theorem Qs4{sz off:Nat}{new:List AV}(hn:new.length≠0)(h1:∀u∈new,u.cells=[u])(hl:off+new.length<=sz):∀(xs:List AV)(i:Nat),(∀x∈xs,x.cells.length=sz)->i<xs.length ->
  QQ (Qr8 xs i off new)=setCells (QQ xs) (i * sz+off) new
 | [],_,_,h=>by cases h
 |x::r,0,hw,_=>by
  have hx:=hw x mem_cons_self;show QQ (Qti x off new::r)=_;rw[Qri,Qri,QrV hx hn h1 hl,Nat.zero_mul,Nat.zero_add,Qse (by omega)]
 |x::r,i+1,hw,hi=>by
  have hx:=hw x mem_cons_self;have ih:=Qs4 hn h1 hl r i (fun y hy=>hw y (List.mem_cons_of_mem _ hy)) (by simpa using hi)
  show QQ (x::Qr8 r i off new)=_;rw[Qri,Qri,show(i+1) * sz+off=x.cells.length+(i * sz+off) by rw[hx,Nat.succ_mul];omega,QrQ]
  exact congrArg _ ih
theorem Qr0(xs:List AV)(i off:Nat)(new:List AV):(Qr8 xs i off new).length=xs.length:=length_set
theorem QsQ{sz off i:Nat}{new xs:List AV}(hn:new.length≠0)(h1:∀u∈new,u.cells=[u])(hl:off+new.length<=sz)(hw:∀x∈xs,x.cells.length=sz)(hi:i<xs.length):∀x∈Qr8 xs i off new,x.cells.length=sz:=by
 intro x hx;rcases List.mem_or_eq_of_mem_set hx with h|rfl
 ·exact hw x h
 ·have h2:(xs.getD i .dead).cells.length=sz:=hw _ (by rw[getD_eq_getElem?_getD,getElem?_eq_getElem hi];exact List.getElem_mem hi)
  rw[QrV h2 hn h1 hl];unfold setCells;rw[List.length_append,List.length_append,List.length_take,List.length_drop];omega
section
variable {w:World}{g:Gh}{ob:List Ob}
theorem Quo(M:Mem w g ob){id et sz e b:Nat}{xs:List AV}(h:ob[id]?=some (.row et sz false e xs))(hG:g.G b=some id)(hs:g.sub b=false){b' o:Nat}(hA:g.A b' o):b'≠b:=by
 rintro rfl;obtain⟨_,_,_,_,h1,_⟩:=(M.imm _ _ hA).2 id hG hs;rw[h]at h1;cases h1
theorem QtJ(M:Mem w g ob){id et sz e b c i off:Nat}{xs us:List AV}{vs:List Value}(h:ob[id]?=some (.row et sz false e xs))(he:et≠Q5U)(hv:RowV w g id et sz (.slice (some ⟨b,0,none⟩) xs.length c) xs)
  (hi:i<xs.length) (jX:Alike w g.A vs us) (hn:us.length≠0) (h1:∀u∈us,u.cells=[u]) (hl:off+us.length<=sz) :
  g.G b=some id/\(∃cur,w.heap[b]?=some (.cells cur et (0,0))/\i * sz+off+us.length<=cur.size)/\Ext w g ob (w.setCells b (i * sz+off) vs) g (ob.set id (.row et sz false e (Qr8 xs i off us)))/\Mem (w.setCells b (i * sz+off) vs) g (ob.set id (.row et sz false e (Qr8 xs i off us))):=by
 have hid:=Qa h;have hw:=(M.roww _ _ _ _ _ _ h).2;obtain⟨ys,⟨hyl,ho⟩,hG,pb,_,vP⟩:=hv;have qe:=hG b rfl;have vK:=vP.1 b rfl;obtain⟨hv,_⟩|⟨b',cap,cur,hv,_,hh,hcap,_,hcs,zn⟩:=ho
 ·cases hv
 obtain⟨rfl,rfl⟩:b=b'/\c=cap:=by simpa using hv
 have xC:(i+1) * sz<=xs.length * sz:=Nat.mul_le_mul_right _ hi;rw[Nat.succ_mul]at xC;have hmul2:xs.length * sz<=c * sz:=Nat.mul_le_mul_right _ hcap;have jM:i * sz+off+us.length<=cur.size:=by omega
 have hcell:∀b' o,g.A b' o->(w.setCells b (i * sz+off) vs).cell? ⟨b',o,none⟩=w.cell? ⟨b',o,none⟩:=fun b' o hA=>World.cell?_of_block (w:=w) (Q1N (k:=0) (Quo M h qe vK hA))
 have hA:∀b' o,g.A b' o->g.A b' o/\(w.setCells b (i * sz+off) vs).cell? ⟨b',o,none⟩=w.cell? ⟨b',o,none⟩:=fun b' o h=>⟨h,hcell b' o h⟩
 have ne:∀{b' k:Nat},g.G b'=some k->k≠id->b'≠b:=by
  rintro b' k v4 jQ rfl;rw[qe]at v4;exact jQ (by simpa using v4.symm)
 have st:Qtm w (w.setCells b (i * sz+off) vs) g.A et sz b (Qr8 xs i off us):=by
  refine⟨cur,_,hh,Q3x (W:=w) vs (i * sz+off) w cur hh (by rw[jX.1];exact jM),?_,?_⟩
  ·simp[jX.1];omega
  ·rw[Qr0,Qs4 hn h1 hl xs i hw hi]
   have e1:((cur.toList.take (i * sz+off)++(vs++cur.toList.drop (i * sz+off+vs.length))).toArray.toList.take (xs.length * sz))=ys.take (i * sz+off)++vs++ys.drop (i * sz+off+us.length):=by
    rw[<-zn,<-jX.1];have qu:cur.toList.length=c * sz:=(Array.length_toList).trans hcs;exact QsH _ _ _ _ (by rw[jX.1];omega) (by rw[qu];omega)
   rw[e1];unfold setCells;exact(((pb.keep hA).take _).append (jX.keep hA)).append ((pb.keep hA).drop _)
 have E:Ext w g ob (w.setCells b (i * sz+off) vs) g (ob.set id (.row et sz false e (Qr8 xs i off us))):=by
  refine⟨hA,fun _ _=>rfl,fun k hk=>?_,fun k hk=>?_,fun k et' sz' fz2 e2 xs2 hk=>?_,fun _ _ _ _=>⟨rfl,fun _ _ h=>h⟩⟩
  ·have:k≠id:=by rintro rfl;rw[h]at hk;exact hk
   rw[getElem?_set_ne (Ne.symm this)];exact hk
  ·have:k≠id:=by rintro rfl;rw[h]at hk;exact hk
   rw[getElem?_set_ne (Ne.symm this)];exact hk
  ·by_cases e':k=id
   ·subst e'
    rw[h]at hk;cases hk;refine⟨false,e,_,getElem?_set_self hid,le_refl _,fun _=>.inr ⟨he,Qr0 _ _ _ _,QsQ hn h1 hl hw hi,fun b' v4=>⟨v4,fun jf=>?_⟩⟩⟩
    obtain rfl:b=b':=M.uniq _ _ _ qe v4 vK jf;exact st
   ·exact⟨fz2,e2,xs2,by rw[getElem?_set_ne (Ne.symm e')];exact hk,le_refl _,fun _=>.inl ⟨rfl,fun b' v4=>⟨v4,Q1N (k:=0) (ne v4 e')⟩⟩⟩
 refine⟨qe,⟨cur,hh,jM⟩,E,fun k cs hk=>?_,fun k cs hk j u hj=>?_,fun k s p hk=>?_,fun b' k v4=>⟨by rw[Q3o];exact(M.own b' k v4).1,by rw[length_set];exact(M.own b' k v4).2⟩,fun b' o hH=>⟨by rw[Q3o];exact(M.imm b' o hH).1,fun k xz hs=>?_⟩,fun k et' sz' fz2 e2 xs2 hk=>?_,fun b' hs=>?_,M.uniq⟩
 ·have e':k≠id:=by rintro rfl;rw[getElem?_set_self hid]at hk;cases hk
  rw[getElem?_set_ne (Ne.symm e')]at hk;obtain⟨h3,cur',T,h4,h5⟩:=M.box k cs hk;exact⟨h3,cur',T,by rw[Q1N (k:=0) (ne h3 e')];exact h4,h5.ext E⟩
 ·have e':k≠id:=by rintro rfl;rw[getElem?_set_self hid]at hk;cases hk
  rw[getElem?_set_ne (Ne.symm e')]at hk;obtain⟨h3,y,h4,h5⟩:=M.fbox k cs hk j u hj;exact⟨h3,y,by rw[hcell _ _ h3];exact h4,h5.keep hA⟩
 ·have e':k≠id:=by rintro rfl;rw[getElem?_set_self hid]at hk;cases hk
  rw[getElem?_set_ne (Ne.symm e')]at hk;obtain⟨h3,h4⟩:=M.iter k s p hk;exact⟨h3,by rw[Q1N (k:=0) (ne h3 e')];exact h4⟩
 ·obtain⟨et',sz',e2,xs2,h3,h4⟩:=(M.imm b' o hH).2 k xz hs
  have e':k≠id:=by rintro rfl;rw[h]at h3;cases h3
  exact⟨et',sz',e2,xs2,by rw[getElem?_set_ne (Ne.symm e')];exact h3,h4⟩
 ·by_cases e':k=id
  ·subst e'
   rw[getElem?_set_self hid]at hk;cases hk;exact⟨(M.roww _ _ _ _ _ _ h).1,QsQ hn h1 hl hw hi⟩
  ·rw[getElem?_set_ne (Ne.symm e')]at hk
   exact M.roww k _ _ _ _ _ hk
 ·obtain⟨k,et',sz',fz2,e2,xs2,h3,h4⟩:=M.nsub b' hs
  by_cases e':k=id
  ·subst e'
   exact⟨k,_,_,_,_,_,h3,getElem?_set_self hid⟩
  ·exact⟨k,et',sz',fz2,e2,xs2,h3,by rw[getElem?_set_ne (Ne.symm e')];exact h4⟩
end
section
variable {P:Program}{ty:Tys}{w0:World}{g0:Gh}{o0:List Ob}{N:Nat}{Q:Ex->St->Prop}
theorem Qtf{x:AV}(h:x.pur=true):∀u∈x.cells,u.cells=[u]:=by
 cases x with
 |agg cs =>
  intro u hu;have:=all_eq_true.1 h u hu
  cases u<;>first|rfl|cases this
 |_=>intro u hu;rw[mem_singleton.1 hu];rfl
theorem Qta(hT:TyOk P ty){K:St->Tree}{o:Oper}{s:St}{a:Act}{w:World}{R:Exit->Act->World->Prop}(hs:Sim w0 g0 o0 N s a w)(hd:∀t,o.dst=some t->t<N)
  {T:Nat} {x y:Operand} (ho:o.op=.store T x y) {id ep off et sz e:Nat} {i:Int} {xs:List AV} (hx:ev s x=.rptr id ep i off) (hb:s.ob[id]?=some (.row et sz false e xs)) (qq:e=ep) (xv:et≠Q5U) (hp:(ev s y).pur=true) (hk:(Q5 T ty).ok=true)
  (jh:(ev s y).cells.length=(Q5 T ty).size) (hn:(ev s y).cells.length≠0) (jJ:off+(ev s y).cells.length<=sz)
  (jC:(K (St.put ⟨s.tm,s.ob.set id (.row et sz false e (std.setx xs i off (ev s y).cells))⟩ o.dst .dead)).ok P w0 g0 o0 N Q):o.wp P a w (Q7j ty P w0 g0 o0 N Q K o.op w) R:=by
 obtain⟨g,M,hS,h0⟩:=hs.rel;have hl:(ev s y).live=true:=by cases hh:ev s y<;>rw[hh]at hp<;>first|rfl|cases hp
 have jX:=Qim (vs:=[]) ((QT hS y).to1 hl) hp;have qS:=QT hS x;rw[hx]at qS;obtain⟨_,et',sz',fz',e',xs',yC,_,h3⟩:=qS;rw[hb]at yC;cases yC;obtain⟨b,c,hv,h4,h5,h6⟩:=h3 qq;have hi:i.toNat<xs.length:=by omega
 obtain⟨hG,⟨cur,hh,jM⟩,E,M'⟩:=QtJ M hb xv h6 hi jX hn (Qtf hp) jJ;have jE:(a.eval y).cells.size=(ev s y).cells.length:=by simpa using jX.1
 have jI:=run_storeCells_cells (P:=P) b (i.toNat * sz+off) (a.eval y).cells.toList 0 w (fun j hj=>by
   have:i.toNat * sz+off+j<cur.size:=by simp at hj;omega
   simp[World.cell?,hh,this]) (fun j hj=>by simp[World.frozen?,hh]) jX.one
 rw[Nat.add_zero]at jI;have xq:=(Q2S hT hk).size w
 have hr:(execOp a.eval o).run P w=.ok .skip (w.setCells b (i.toNat * sz+off) (a.eval y).cells.toList):=by
  have jQ:¬((a.eval y).cells.size≠(Q5 T ty).size):=by omega
  simp only[execOp,ho,Instr.storeAt,hv,Instr.sureAddr,storeVar,Sem.run_bind,Sem.run_pure,Result.andThen_ok,xq,jQ,if_false,jI]
 unfold Oper.wp;rw[hr];show Q7j ty P w0 g0 o0 N Q K o.op w (a.put o.dst undef) _;refine⟨fun h=>by simp[ho,Q4W]at h,_,Q2R hs hS h0 M' ⟨(Q3i _ _ _ _).1,(Q3i _ _ _ _).2.1,(Q3i _ _ _ _).2.2,by rw[Q3o];exact le_refl _,fun b' _ v4=>?_,fun b' k v4=>.inl ⟨k,v4⟩,fun b' o h=>.inl h,E,by simp⟩ hd (v:=undef) (x:=.dead) trivial,jC⟩
 exact Q1N (k:=0) (fun e=>by rw[e,hG]at v4;cases v4)
end
theorem Q1Y{i:Nat}:∀{ρ:List Nat}{j:Nat},Q1X i ρ=some j->ρ[j]?=some i
 | [],j,h=>by cases h
 |k::r,j,h=>by
  simp only[Q1X]at h;split at h
  ·rename_i e
   cases h;subst e;rfl
  ·obtain⟨j',h1,rfl⟩:=map_eq_some_iff.1 h
   simpa using Q1Y h1
theorem Q7W{i:Nat}:∀{ρ:List Nat}{j:Nat},ρ[j]?=some i->∃j',Q1X i ρ=some j'
 | [],j,h=>by simp at h
 |k::r,j,h=>by
  simp only[Q1X];split
  ·exact⟨0,rfl⟩
  ·rename_i jQ
   cases j with
   |zero=>exact absurd (by simpa using h.symm) jQ
   |succ j =>
    obtain⟨j',h1⟩:=Q7W (ρ:=r) (j:=j) (by simpa using h)
    exact⟨j'+1,by rw[h1];rfl⟩
section
variable {ob:List Ob}{ρ:List Nat}
theorem Q4a{j i:Nat}(h:ρ[j]?=some i):(ρ.map some)[j]?=some (some i):=by rw[getElem?_map,h];rfl
theorem Qnu{j i:Nat}(h:(ρ.map some)[j]?=some (some i)):ρ[j]?=some i:=by
 rw[getElem?_map,map_eq_some_iff]at h;obtain⟨k,h1,h2⟩:=h;cases h2;exact h1
theorem Q4U(h:Q32 (ρ.map some)=true){i j:Nat}(hj:ρ[j]?=some i):Q1X i ρ=some j:=by
 obtain⟨j',hZ⟩:=Q7W hj;have h1:=Q7a h (Q4a hj);have h2:=Q7a h (Q4a (Q1Y hZ));rw[h1]at h2;cases h2;exact hZ
abbrev Q5R(ob:List Ob)(ρ:List Nat):List Ob:=ρ.map fun i=>inO ob ρ (ob.getD i .gone)
theorem Q6W{i j:Nat}(hj:ρ[j]?=some i):(Q5R ob ρ)[j]?=some (inO ob ρ (ob.getD i .gone)):=by
 simp only[Q5R,getElem?_map,hj,map_some]
theorem Q75{i:Nat}{o:Ob}(h:ob[i]?=some o):ob.getD i .gone=o:=by rw[getD_eq_getElem?_getD,h];rfl
theorem Q5e(x:AV):∃l,Q5Z ob (Q5R ob ρ) (ρ.map some) x (inC ob ρ x)=some l/\Qe l:=by
 have dead:∃l,Q5Z ob (Q5R ob ρ) (ρ.map some) x .dead=some l/\Qe l:=⟨[],rfl,trivial⟩;cases x with
 |val v=>cases v<;>exact⟨_,rfl,rfl,trivial⟩
 |slc sz xs=>exact⟨_,rfl,rfl,trivial⟩
 |ref cs=>exact⟨_,rfl,rfl,trivial⟩
 |opt y=>exact⟨_,rfl,rfl,trivial⟩
 |kb b=>exact⟨_,rfl,rfl,trivial⟩
 |box i o =>
  simp only[inC];split
  ·rename_i j hj
   exact⟨[(.box i o,.box i o)],by simp only[Q5Z,Q4a (Q1Y hj)],rfl,trivial⟩
  ·exact dead
 |row i e =>
  simp only[inC];split
  ·rename_i j hj
   split
   ·rename_i et sz fz e2 xs j0
    split
    ·rename_i he
     subst he;refine⟨[(.row i e2,.row i e2)],?_,rfl,trivial⟩;have h1:=Q6W (ob:=ob) (Q1Y hj);rw[Q75 j0]at h1;simp only[Q5Z,h1,inO,if_true,Q4a (Q1Y hj),j0]
    ·exact dead
   ·exact dead
  ·exact dead
 |_=>exact dead
theorem QcQ:∀(xs:List AV),∃l,Qdq ob (Q5R ob ρ) (ρ.map some) xs (xs.map (inC ob ρ))=some l/\Qe l
 | []=>⟨[],rfl,trivial⟩
 |x::r=>by
  obtain⟨l1,h1,h2⟩:=Q5e (ob:=ob) (ρ:=ρ) x;obtain⟨l2,h3,h4⟩:=QcQ r;exact⟨l1++l2,by simp only[List.map_cons,Qdq,h1,h3,both],Q3T.2 ⟨h2,h4⟩⟩
theorem Qn9(x:AV):∃l,QbM ob (Q5R ob ρ) (ρ.map some) x (inA ob ρ x)=some l/\Qe l:=by
 cases x with
 |agg cs=>exact QcQ cs
 |val v=>exact Q5e (ob:=ob) (ρ:=ρ) (.val v)
 |slc sz xs=>exact Q5e (ob:=ob) (ρ:=ρ) (.slc sz xs)
 |ref cs=>exact Q5e (ob:=ob) (ρ:=ρ) (.ref cs)
 |opt y=>exact Q5e (ob:=ob) (ρ:=ρ) (.opt y)
 |kb b=>exact Q5e (ob:=ob) (ρ:=ρ) (.kb b)
 |box i o =>
  obtain⟨l,h1,h2⟩:=Q5e (ob:=ob) (ρ:=ρ) (.box i o);refine⟨l,?_,h2⟩;show QbM _ _ _ _ (inC ob ρ (.box i o))=_;revert h1;simp only[inC];split<;>exact id
 |row i e =>
  obtain⟨l,h1,h2⟩:=Q5e (ob:=ob) (ρ:=ρ) (.row i e);refine⟨l,?_,h2⟩;show QbM _ _ _ _ (inC ob ρ (.row i e))=_;revert h1;simp only[inC];split<;>(try split)<;>(try split)<;>exact id
 |_=>exact⟨[],rfl,trivial⟩
theorem Q9z(ht:there ob ρ=true):Fits ob (Q5R ob ρ) (ρ.map some):=by
 refine⟨by simp,fun j i o hi ho=>?_⟩
 rw[getElem?_map,map_eq_some_iff]at hi;obtain⟨k,hk,rfl⟩:=hi;rw[Q6W hk]at ho;cases ho;have h:=all_eq_true.1 ht k (List.mem_of_getElem? hk);cases j0:ob[k]? with
 |none=>rw[j0]at h;cases h
 |some q =>
  rw[Q75 j0];cases q with
  |gone=>rw[j0]at h;cases h
  |box cs=>simp only[inO,Q41,j0];exact QcQ cs
  |fbox cs=>exact⟨[(.slc 0 cs,.slc 0 cs)],by simp only[inO,Q41,j0],rfl,trivial⟩
  |row et sz fz e xs=>exact⟨[(.slc 0 xs,.slc 0 xs)],by simp only[inO,Q41,j0];simp,rfl,trivial⟩
  |iter s p=>exact⟨[(.val (.string s),.val (.string s)),(.box 0 p,.box 0 p)],by simp only[inO,Q41,j0],rfl,rfl,trivial⟩
theorem QmY{w:World}{g:Gh}(ho:Q32 (ρ.map some)=true)(ht:there ob ρ=true){v:Value}{x:AV}(h:ARel w g ob v x):ARel w (g.ren (ρ.map some)) (Q5R ob ρ) v (inA ob ρ x):=by
 obtain⟨l,h1,h2⟩:=Qn9 (ob:=ob) (ρ:=ρ) x;exact Q88 (Q9z ht) ho h h1 h2
theorem Qp2{w:World}{g:Gh}(M:Mem w g ob)(ho:Q32 (ρ.map some)=true)(ht:there ob ρ=true):Mem w (g.ren (ρ.map some)) (Q5R ob ρ):=M.ren (Q9z ht) ho
end
def Gh.out(g g':Gh)(ρ:List Nat)(n:Nat):Gh where
 A:=g'.A
 G b:=match g'.G b with
  |some j=>some (Q3p ρ n j)
  |none=>match g.G b with
   |some id=>match Q1X id ρ with
    |some _=>none
    |none=>some id
   |none=>none
 loc id:=match Q1X id ρ with
  |some j=>g'.loc j
  |none=>if id<n then g.loc id else g'.loc (ρ.length+(id-n))
 sub b:=match g'.G b with
  |some _=>g'.sub b
  |none=>match g.G b with
   |some id=>match Q1X id ρ with
    |some _=>false
    |none=>g.sub b
   |none=>false
section
variable {w w':World}{g g':Gh}{ob ob':List Ob}{ρ:List Nat}
structure CallAt (w:World) (g:Gh) (ob:List Ob) (ρ:List Nat) (w':World) (g':Gh) (ob':List Ob):Prop where
 once:Q32 (ρ.map some)=true
 there:there ob ρ=true
 len:ρ.length<=ob'.length
 m:Mem w g ob
 m':Mem w' g' ob'
 st:Step w (g.ren (ρ.map some)) (Q5R ob ρ) w' g' ob'
theorem CallAt.lt(C:CallAt w g ob ρ w' g' ob'){i j:Nat}(hj:ρ[j]?=some i):i<ob.length:=by
 have h:=all_eq_true.1 C.there i (List.mem_of_getElem? hj);cases j0:ob[i]? with
 |none=>rw[j0]at h;cases h
 |some _=>exact Qa j0
theorem CallAt.outI_lt(C:CallAt w g ob ρ w' g' ob'){j:Nat}(hj:j<ob'.length):Q3p ρ ob.length j<ob.length+(ob'.length-ρ.length):=by
 unfold Q3p;split
 ·rename_i h
  have h1:ρ[j]?=some (ρ.getD j 0):=by rw[getD_eq_getElem?_getD,getElem?_eq_getElem h];rfl
  have:=C.lt h1
  omega
 ·have:=C.len;omega
theorem CallAt.outI_at(C:CallAt w g ob ρ w' g' ob')(j:Nat):(j<ρ.length/\ρ[j]?=some (Q3p ρ ob.length j)/\Q3p ρ ob.length j<ob.length)\/(ρ.length<=j/\Q3p ρ ob.length j=ob.length+(j-ρ.length)):=by
 unfold Q3p;split
 ·rename_i h
  have h1:ρ[j]?=some (ρ.getD j 0):=by rw[getD_eq_getElem?_getD,getElem?_eq_getElem h];rfl
  exact .inl ⟨h,h1,C.lt h1⟩
 ·exact .inr ⟨by omega,rfl⟩
theorem CallAt.outI_inj(C:CallAt w g ob ρ w' g' ob'){j j':Nat}(h:Q3p ρ ob.length j=Q3p ρ ob.length j'):j=j':=by
 rcases C.outI_at j with ⟨h1,h2,h3⟩|⟨h1,h2⟩<;>rcases C.outI_at j' with ⟨h4,h5,h6⟩|⟨h4,h5⟩
 ·rw[h]at h2
  have:=(Q4U C.once h2).symm.trans (Q4U C.once h5)
  exact Option.some.inj this
 ·omega
 ·omega
 ·omega
theorem CallAt.outI_not(C:CallAt w g ob ρ w' g' ob'){j:Nat}(hp:Q1X (Q3p ρ ob.length j) ρ=none)(hl:Q3p ρ ob.length j<ob.length):False:=by
 rcases C.outI_at j with ⟨h1,h2,h3⟩|⟨h1,h2⟩
 ·rw[Q4U C.once h2]at hp;cases hp
 ·omega
theorem CallAt.back_len(C:CallAt w g ob ρ w' g' ob'):(Q6h ob ρ ob').length=ob.length+(ob'.length-ρ.length):=by simp[Q6h]
theorem CallAt.back_out(C:CallAt w g ob ρ w' g' ob'){j:Nat}{o:Ob}(hj:ob'[j]?=some o):(Q6h ob ρ ob')[Q3p ρ ob.length j]?=some (Qgb ob ρ j o):=by
 have hl:=Qa hj;have h1:=C.outI_lt hl;simp only[Q6h,getElem?_map,List.getElem?_range h1,map_some];unfold Q3p;by_cases h:j<ρ.length
 ·rw[if_pos h]
  have h2:ρ[j]?=some (ρ.getD j 0):=by rw[getD_eq_getElem?_getD,getElem?_eq_getElem h];rfl
  simp only[Q4U C.once h2,Q75 hj]
 ·rw[if_neg h]
  have h2:Q1X (ob.length+(j-ρ.length)) ρ=none:=by
   cases hp:Q1X (ob.length+(j-ρ.length)) ρ with
   |none=>rfl
   |some k=>have:=C.lt (Q1Y hp);omega
  have h3:¬(ob.length+(j-ρ.length)<ob.length):=by omega
  have h4:ρ.length+(ob.length+(j-ρ.length)-ob.length)=j:=by omega
  simp only[h2,h3,if_false,h4,Q75 hj]
theorem CallAt.back_own(C:CallAt w g ob ρ w' g' ob'){id:Nat}(hid:id<ob.length)(hp:Q1X id ρ=none):(Q6h ob ρ ob')[id]?=ob[id]?:=by
 have h1:id<ob.length+(ob'.length-ρ.length):=by omega
 simp only[Q6h,getElem?_map,List.getElem?_range h1,map_some,hp,hid,if_true];rw[getElem?_eq_getElem hid,getD_eq_getElem?_getD,getElem?_eq_getElem hid];rfl
theorem CallAt.back_cases(C:CallAt w g ob ρ w' g' ob'){id:Nat}{o:Ob}(h:(Q6h ob ρ ob')[id]?=some o) :
  (∃j o',ob'[j]?=some o'/\id=Q3p ρ ob.length j/\o=Qgb ob ρ j o')\/(id<ob.length/\Q1X id ρ=none/\ob[id]?=some o):=by
 have jA:=Qa h;rw[C.back_len]at jA;cases hp:Q1X id ρ with
 |some j =>
  left
  have hj:=Q1Y hp;have hl:j<ob'.length:=Nat.lt_of_lt_of_le (Qa hj) C.len
  have e:Q3p ρ ob.length j=id:=by
   unfold Q3p;rw[if_pos (Qa hj),getD_eq_getElem?_getD,hj];rfl
  refine⟨j,_,getElem?_eq_getElem hl,e.symm,?_⟩;have h2:=C.back_out (getElem?_eq_getElem hl);rw[e,h]at h2;exact Option.some.inj h2
 |none =>
  by_cases hid:id<ob.length
  ·rw[C.back_own hid hp]at h
   exact .inr ⟨hid,rfl,h⟩
  ·left
   have hl:ρ.length+(id-ob.length)<ob'.length:=by have:=C.len;omega
   have e:Q3p ρ ob.length (ρ.length+(id-ob.length))=id:=by
    unfold Q3p;rw[if_neg (by omega)];omega
   refine⟨_,_,getElem?_eq_getElem hl,e.symm,?_⟩;have h2:=C.back_out (getElem?_eq_getElem hl);rw[e,h]at h2;exact Option.some.inj h2
theorem CallAt.loc_out(C:CallAt w g ob ρ w' g' ob'){j:Nat}:(g.out g' ρ ob.length).loc (Q3p ρ ob.length j)=g'.loc j:=by
 unfold Q3p;by_cases h:j<ρ.length
 ·rw[if_pos h]
  have h2:ρ[j]?=some (ρ.getD j 0):=by rw[getD_eq_getElem?_getD,getElem?_eq_getElem h];rfl
  simp only[Gh.out,Q4U C.once h2]
 ·rw[if_neg h]
  have h2:Q1X (ob.length+(j-ρ.length)) ρ=none:=by
   cases hp:Q1X (ob.length+(j-ρ.length)) ρ with
   |none=>rfl
   |some k=>have:=C.lt (Q1Y hp);omega
  have h3:¬(ob.length+(j-ρ.length)<ob.length):=by omega
  have h4:ρ.length+(ob.length+(j-ρ.length)-ob.length)=j:=by omega
  simp only[Gh.out,h2,h3,if_false,h4]
theorem Q6R{j b:Nat}(h:g'.G b=some j):(g.out g' ρ ob.length).sub b=g'.sub b:=by simp only[Gh.out,h]
theorem Q6G{id b:Nat}(h:g'.G b=none)(h1:g.G b=some id)(hp:Q1X id ρ=none):(g.out g' ρ ob.length).sub b=g.sub b:=by simp only[Gh.out,h,h1,hp]
theorem Qci{j b:Nat}(h:g'.G b=some j):(g.out g' ρ ob.length).G b=some (Q3p ρ ob.length j):=by simp only[Gh.out,h]
theorem CallAt.own_G(C:CallAt w g ob ρ w' g' ob'){b id:Nat}(h:g.G b=some id)(hp:Q1X id ρ=none) :
  (g.ren (ρ.map some)).G b=none/\g'.G b=none/\(g.out g' ρ ob.length).G b=some id/\w'.heap[b]?=w.heap[b]?:=by
 have h1:(g.ren (ρ.map some)).G b=none:=by
  cases hr:(g.ren (ρ.map some)).G b with
  |none=>rfl
  |some j =>
   obtain⟨i,hi,hG⟩:=Q39 hr;rw[h]at hG;cases hG;obtain⟨j',hZ⟩:=Q7W (Qnu hi);rw[hp]at hZ;cases hZ
 have hb:=(C.m.own b id h).1
 have h2:g'.G b=none:=by
  cases hr:g'.G b with
  |none=>rfl
  |some j =>
   rcases C.st.own b j hr with ⟨k,hk⟩|hk
   ·rw[h1]at hk;cases hk
   ·omega
 exact⟨h1,h2,by simp only[Gh.out,h2,h,hp],C.st.keep b hb h1⟩
theorem CallAt.G_cases(C:CallAt w g ob ρ w' g' ob'){b id:Nat}(h:(g.out g' ρ ob.length).G b=some id) :
  (∃j,g'.G b=some j/\id=Q3p ρ ob.length j)\/(g'.G b=none/\g.G b=some id/\Q1X id ρ=none):=by
 simp only[Gh.out]at h;cases h1:g'.G b with
 |some j=>rw[h1]at h;exact .inl ⟨j,rfl,(Option.some.inj h).symm⟩
 |none =>
  rw[h1]at h;cases h2:g.G b with
  |none=>rw[h2]at h;cases h
  |some k =>
   rw[h2]at h;cases h3:Q1X k ρ with
   |some _=>simp only[h3]at h;cases h
   |none=>simp only[h3]at h;cases h;exact .inr ⟨rfl,rfl,h3⟩
theorem QlO{j:Nat}{o:Ob}(h:Q7m (some o)):Q7m (some (Qgb ob ρ j o)):=by cases o<;>first|exact h.elim|trivial
theorem Qmm{j:Nat}{o:Ob}(h:Qbp (some o)):Qbp (some (Qgb ob ρ j o)):=by cases o<;>first|exact h.elim|trivial
theorem CallAt.isb_out(C:CallAt w g ob ρ w' g' ob'){j:Nat}(h:Q7m ob'[j]?):Q7m (Q6h ob ρ ob')[Q3p ρ ob.length j]?:=by
 have hl:=Q4o h;rw[getElem?_eq_getElem hl]at h;rw[C.back_out (getElem?_eq_getElem hl)];exact QlO h
theorem CallAt.isi_out(C:CallAt w g ob ρ w' g' ob'){j:Nat}(h:Qbp ob'[j]?):Qbp (Q6h ob ρ ob')[Q3p ρ ob.length j]?:=by
 have hl:=Q5g h;rw[getElem?_eq_getElem hl]at h;rw[C.back_out (getElem?_eq_getElem hl)];exact Qmm h
theorem Q84{i j:Nat}(hj:ρ[j]?=some i)(n:Nat):Q3p ρ n j=i:=by
 unfold Q3p;rw[if_pos (Qa hj),getD_eq_getElem?_getD,hj];rfl
theorem CallAt.ext(C:CallAt w g ob ρ w' g' ob'):Ext w g ob w' (g.out g' ρ ob.length) (Q6h ob ρ ob'):=by
 refine⟨C.st.ext.A,fun id hid=>?_,fun id hb=>?_,fun id hb=>?_,fun id et sz fz e xs hr=>?_,fun b id hG hs=>?_⟩
 rotate_right
 ·obtain⟨et,sz,fz,fz',e,xs,xs',h1,h2⟩:=hs
  cases hp:Q1X id ρ with
  |none =>
   obtain⟨h3,h4,h5,h6⟩:=C.own_G hG hp;refine⟨Q6G h4 hG hp,fun _ o hA=>?_⟩
   rcases C.st.imm b o hA with h7|⟨k,h7⟩|h7
   ·exact h7
   ·rw[h3]at h7;cases h7
   ·have:=(C.m.own b id hG).1;omega
  |some j =>
   have hj:=Q1Y hp;have h3:(Q5R ob ρ)[j]?=some (.row et sz fz 0 xs):=by rw[Q6W hj,Q75 h1];rfl
   obtain⟨fz2,e2,xs2,h4,_,h5⟩:=C.st.ext.row j _ _ _ _ _ h3;have h6:=C.back_out h4;rw[Q84 hj,h2]at h6;have h7:Q9r ob ρ j=e:=by simp only[Q9r,hj,QoA,h1]
   simp only[Qgb,h7]at h6
   have h8:e2=0:=by
    have h9:e=e+e2:=by injection h6 with h6;injection h6
    omega
   subst h8;have pd:=Q6i (g:=g) C.once (Q4a hj) hG;obtain⟨h9,qh⟩:=C.st.ext.sub b j pd ⟨_,_,_,_,_,_,_,h3,h4⟩;have jT:=Q4F (g:=g) C.once (Q4a hj) hG;refine⟨(Q6R ((h5 rfl).G pd)).trans (h9.trans jT),fun vK o hA=>qh (jT.trans vK) o hA⟩
 ·cases hp:Q1X id ρ with
  |none=>simp only[Gh.out,hp,hid,if_true]
  |some j =>
   have hj:=Q1Y hp;simp only[Gh.out,hp];rw[C.st.ext.loc j (by simpa using Qa hj),Q3r (Q4a hj)]
 ·cases hp:Q1X id ρ with
  |none=>rw[C.back_own (Q4o hb) hp];exact hb
  |some j =>
   have hj:=Q1Y hp;have:=C.isb_out (C.st.ext.isb j ((Q9z C.there).isB (Q4a hj) hb))
   rw[Q84 hj]at this;exact this
 ·cases hp:Q1X id ρ with
  |none=>rw[C.back_own (Q5g hb) hp];exact hb
  |some j =>
   have hj:=Q1Y hp;have:=C.isi_out (C.st.ext.isi j ((Q9z C.there).isI (Q4a hj) hb))
   rw[Q84 hj]at this;exact this
 ·cases hp:Q1X id ρ with
  |none =>
   refine⟨fz,e,xs,by rw[C.back_own (Qa hr) hp];exact hr,le_refl _,fun _=>.inl ⟨rfl,fun b hb=>?_⟩⟩
   obtain⟨_,_,h3,h4⟩:=C.own_G hb hp;exact⟨h3,h4⟩
  |some j =>
   have hj:=Q1Y hp;have h1:(Q5R ob ρ)[j]?=some (.row et sz fz 0 xs):=by rw[Q6W hj,Q75 hr];rfl
   obtain⟨fz',e',xs',h2,h3,h4⟩:=C.st.ext.row j _ _ _ _ _ h1;have h5:=C.back_out h2;rw[Q84 hj]at h5;have h6:Q9r ob ρ j=e:=by simp only[Q9r,hj,QoA,hr]
   refine⟨fz',e+e',xs',by rw[h5,<-h6];rfl,by omega,fun he=>?_⟩
   refine(h4 (by omega)).turn (fun b hb=>⟨Q6i C.once (Q4a hj) hb,Q4F C.once (Q4a hj) hb⟩) (fun b _ h9=>?_) rfl
   rw[Qci h9,Q84 hj]
theorem CallAt.row_out(C:CallAt w g ob ρ w' g' ob'){j et sz:Nat}{v:Value}{xs:List AV}(h:RowV w' g' j et sz v xs):RowV w' (g.out g' ρ ob.length) (Q3p ρ ob.length j) et sz v xs:=by
 obtain⟨ys,h1,h2,h3,h4,h5⟩:=h;exact⟨ys,h1,fun b hb=>Qci (h2 b hb),h3,h4,h5.ext h2 fun b hb=>⟨Qci hb,Q6R hb,fun _=>⟨rfl,fun _ h=>h⟩⟩⟩
theorem CallAt.rel0(C:CallAt w g ob ρ w' g' ob'){v:Value}{x:AV}(h:ARel0 w' g' ob' v x):ARel0 w' (g.out g' ρ ob.length) (Q6h ob ρ ob') v (QjX ob ρ x):=by
 cases x with
 |box j o=>exact⟨by rw[C.loc_out];exact h.1,C.isb_out h.2⟩
 |iter j=>exact⟨by rw[C.loc_out];exact h.1,C.isi_out h.2⟩
 |row j e =>
  obtain⟨h0,et,sz,fz,e',xs,h1,h2,h3⟩:=h;refine⟨h0,et,sz,fz,Q9r ob ρ j+e',xs,C.back_out h1,by omega,fun he=>C.row_out (h3 (by omega))⟩
 |rowk j e k =>
  obtain⟨h0,et,sz,fz,e',xs,h1,h2,h3⟩:=h;refine⟨h0,et,sz,fz,Q9r ob ρ j+e',xs,C.back_out h1,by omega,fun he=>?_⟩
  obtain⟨h4,h5,h6⟩:=h3 (by omega)
  exact⟨h4,h5,C.row_out h6⟩
 |rptr j e i o =>
  obtain⟨h0,et,sz,fz,e',xs,h1,h2,h3⟩:=h;refine⟨h0,et,sz,fz,Q9r ob ρ j+e',xs,C.back_out h1,by omega,fun he=>?_⟩
  obtain⟨b,c,h4,h5,h6,h7⟩:=h3 (by omega)
  exact⟨b,c,h4,h5,h6,C.row_out h7⟩
 |_=>exact h
theorem CallAt.relC(C:CallAt w g ob ρ w' g' ob'){vs:List Value}{cs:List AV}(h:ARelC w' g' ob' vs cs):ARelC w' (g.out g' ρ ob.length) (Q6h ob ρ ob') vs (cs.map (QjX ob ρ)):=by
 refine⟨by simp[h.1],fun j y u hy hu=>?_⟩
 rw[getElem?_map,map_eq_some_iff]at hu;obtain⟨u',h1,rfl⟩:=hu;exact⟨C.rel0 (h.2 j y u' hy h1).1,(h.2 j y u' hy h1).2⟩
theorem CallAt.rel1(C:CallAt w g ob ρ w' g' ob'){v:Value}{x:AV}(h:ARel1 w' g' ob' v x):ARel1 w' (g.out g' ρ ob.length) (Q6h ob ρ ob') v (Qkx ob ρ x):=by
 cases x with
 |agg cs=>obtain⟨vs,rfl,h⟩:=h;exact⟨vs,rfl,C.relC h⟩
 |tup _=>exact(show False from h).elim
 |val a=>exact C.rel0 (x:=.val a) h
 |slc a b=>exact C.rel0 (x:=.slc a b) h
 |ref a=>exact C.rel0 (x:=.ref a) h
 |opt a=>exact C.rel0 (x:=.opt a) h
 |box a b=>exact C.rel0 (x:=.box a b) h
 |row a b=>exact C.rel0 (x:=.row a b) h
 |rowk a b c=>exact C.rel0 (x:=.rowk a b c) h
 |rptr a b c d=>exact C.rel0 (x:=.rptr a b c d) h
 |kb a=>exact C.rel0 (x:=.kb a) h
 |iter a=>exact C.rel0 (x:=.iter a) h
 |dead=>trivial
theorem CallAt.rel(C:CallAt w g ob ρ w' g' ob'){v:Value}{x:AV}(h:ARel w' g' ob' v x):ARel w' (g.out g' ρ ob.length) (Q6h ob ρ ob') v (Qoe ob ρ x):=by
 cases x with
 |tup xs =>
  obtain⟨vs,rfl,h1,h2⟩:=h;refine⟨vs,rfl,by simp[h1],fun j y u hy hu=>?_⟩
  rw[getElem?_map,map_eq_some_iff]at hu;obtain⟨u',h3,rfl⟩:=hu;exact C.rel1 (h2 j y u' hy h3)
 |agg cs=>exact(C.rel1 (x:=.agg cs) h).to
 |val a=>exact(C.rel1 (x:=.val a) h).to
 |slc a b=>exact(C.rel1 (x:=.slc a b) h).to
 |ref a=>exact(C.rel1 (x:=.ref a) h).to
 |opt a=>exact(C.rel1 (x:=.opt a) h).to
 |box a b=>exact(C.rel1 (x:=.box a b) h).to
 |row a b=>exact(C.rel1 (x:=.row a b) h).to
 |rowk a b c=>exact(C.rel1 (x:=.rowk a b c) h).to
 |rptr a b c d=>exact(C.rel1 (x:=.rptr a b c d) h).to
 |kb a=>exact(C.rel1 (x:=.kb a) h).to
 |iter a=>exact(C.rel1 (x:=.iter a) h).to
 |dead=>trivial
theorem CallAt.mem(C:CallAt w g ob ρ w' g' ob'):Mem w' (g.out g' ρ ob.length) (Q6h ob ρ ob'):=by
 have E:=C.ext;refine⟨fun id cs h=>?_,fun id cs h k u hk=>?_,fun id s pos h=>?_,fun b id h=>?_,fun b o hA=>?_,fun id et sz fz e xs h=>?_,fun b hs=>?_,fun b b' id h1 h2 hs jf=>?_⟩
 ·rcases C.back_cases h with ⟨j,o',h1,rfl,h2⟩|⟨hid,hp,h1⟩
  ·cases o'<;>cases h2
   rename_i cs';obtain⟨hG,cur,T,h3,h4⟩:=C.m'.box j cs' h1;exact⟨by rw[C.loc_out];exact Qci hG,cur,T,by rw[C.loc_out];exact h3,C.relC h4⟩
  ·obtain⟨hG,cur,T,h3,h4⟩:=C.m.box id cs h1
   obtain⟨_,_,h5,h6⟩:=C.own_G hG hp;have hl:(g.out g' ρ ob.length).loc id=g.loc id:=E.loc id hid;exact⟨by rw[hl];exact h5,cur,T,by rw[hl,h6];exact h3,h4.ext E⟩
 ·rcases C.back_cases h with ⟨j,o',h1,rfl,h2⟩|⟨hid,hp,h1⟩
  ·cases o'<;>cases h2
   rw[C.loc_out];exact C.m'.fbox j _ h1 k u hk
  ·obtain⟨hA,y,h3,h4⟩:=C.m.fbox id cs h1 k u hk
   have hl:(g.out g' ρ ob.length).loc id=g.loc id:=E.loc id hid;rw[hl];exact⟨(E.A _ _ hA).1,y,by rw[(E.A _ _ hA).2];exact h3,h4.keep E.A⟩
 ·rcases C.back_cases h with ⟨j,o',h1,rfl,h2⟩|⟨hid,hp,h1⟩
  ·cases o'<;>cases h2
   obtain⟨hG,h3⟩:=C.m'.iter j _ _ h1;exact⟨by rw[C.loc_out];exact Qci hG,by rw[C.loc_out];exact h3⟩
  ·obtain⟨hG,h3⟩:=C.m.iter id s pos h1
   obtain⟨_,_,h5,h6⟩:=C.own_G hG hp;have hl:(g.out g' ρ ob.length).loc id=g.loc id:=E.loc id hid;exact⟨by rw[hl];exact h5,by rw[hl,h6];exact h3⟩
 ·rw[C.back_len]
  rcases C.G_cases h with ⟨j,hj,rfl⟩|⟨_,h1,_⟩
  ·exact⟨(C.m'.own b j hj).1,C.outI_lt (C.m'.own b j hj).2⟩
  ·have:=C.m.own b id h1
   exact⟨Nat.lt_of_lt_of_le this.1 C.st.size,by omega⟩
 ·refine⟨(C.m'.imm b o hA).1,fun id h hs=>?_⟩
  rcases C.G_cases h with ⟨j,hj,rfl⟩|⟨h0,h1,hp⟩
  ·obtain⟨et,sz,e,xs,h2,h3⟩:=(C.m'.imm b o hA).2 j hj ((Q6R hj).symm.trans hs)
   exact⟨et,sz,Q9r ob ρ j+e,xs,C.back_out h2,h3⟩
  ·obtain⟨h4,_,_,_⟩:=C.own_G h1 hp
   rcases C.st.imm b o hA with h5|⟨k,h5⟩|h5
   ·obtain⟨et,sz,e,xs,h2,h3⟩:=(C.m.imm b o h5).2 id h1 ((Q6G h0 h1 hp).symm.trans hs)
    exact⟨et,sz,e,xs,by rw[C.back_own (Qa h2) hp];exact h2,h3⟩
   ·rw[h4]at h5;cases h5
   ·have:=(C.m.own b id h1).1;omega
 ·rcases C.back_cases h with ⟨j,o',h1,rfl,h2⟩|⟨hid,hp,h1⟩
  ·cases o'<;>cases h2
   exact C.m'.roww j _ _ _ _ _ h1
  ·exact C.m.roww id _ _ _ _ _ h1
 ·cases h1:g'.G b with
  |some j =>
   obtain⟨j',et,sz,fz,e,xs,h2,h3⟩:=C.m'.nsub b ((Q6R h1).symm.trans hs);exact⟨_,_,_,_,_,_,Qci h2,C.back_out h3⟩
  |none =>
   cases h2:g.G b with
   |none=>simp only[Gh.out,h1,h2]at hs;cases hs
   |some id =>
    cases hp:Q1X id ρ with
    |some k=>simp only[Gh.out,h1,h2,hp]at hs;cases hs
    |none =>
     obtain⟨id',et,sz,fz,e,xs,h3,h4⟩:=C.m.nsub b ((Q6G h1 h2 hp).symm.trans hs);rw[h2]at h3;obtain rfl:id=id':=by simpa using h3
     exact⟨id,et,sz,fz,e,xs,(C.own_G h2 hp).2.2.1,by rw[C.back_own (Qa h4) hp];exact h4⟩
 ·rcases C.G_cases h1 with ⟨j,hj,rfl⟩|⟨h0,h3,hp⟩
  ·rcases C.G_cases h2 with ⟨j',hZ,he⟩|⟨h0',h4,hp'⟩
   ·obtain rfl:=C.outI_inj he
    exact C.m'.uniq b b' j hj hZ ((Q6R hj).symm.trans hs) ((Q6R hZ).symm.trans jf)
   ·exact(C.outI_not hp' (C.m.own b' _ h4).2).elim
  ·rcases C.G_cases h2 with ⟨j',hZ,he⟩|⟨h0',h4,hp'⟩
   ·subst he
    exact(C.outI_not hp (C.m.own b _ h3).2).elim
   ·exact C.m.uniq b b' id h3 h4 ((Q6G h0 h3 hp).symm.trans hs) ((Q6G h0' h4 hp').symm.trans jf)
theorem CallAt.step(C:CallAt w g ob ρ w' g' ob'):Step w g ob w' (g.out g' ρ ob.length) (Q6h ob ρ ob'):=by
 have none_in:∀b,g.G b=none->(g.ren (ρ.map some)).G b=none:=fun b h=>by simp[Gh.ren,h]
 have some_in:∀b k,(g.ren (ρ.map some)).G b=some k->∃id,g.G b=some id:=fun b k h=>by
  obtain⟨i,_,hG⟩:=Q39 h;exact⟨i,hG⟩
 refine⟨C.st.os,C.st.tape,C.st.output,C.st.size,fun b hb hG=>C.st.keep b hb (none_in b hG),fun b id h=>?_,fun b o hA=>?_,C.ext,?_⟩
 ·rcases C.G_cases h with ⟨j,hj,rfl⟩|⟨_,h1,_⟩
  ·rcases C.st.own b j hj with ⟨k,hk⟩|hk
   ·exact .inl (some_in b k hk)
   ·exact .inr hk
  ·exact .inl ⟨id,h1⟩
 ·rcases C.st.imm b o hA with h|⟨k,h⟩|h
  ·exact .inl h
  ·exact .inr (.inl (some_in b k h))
  ·exact .inr (.inr h)
 ·rw[C.back_len];omega
end
section
variable {P:Program}{ty:Tys}{w0:World}{g0:Gh}{o0:List Ob}{N:Nat}{Q:Ex->St->Prop}{w w':World}{g g':Gh}{ob ob':List Ob}
theorem ARel.to1'{v:Value}{x:AV}(h:ARel w g ob v x)(hl:∀xs,x≠.tup xs):ARel1 w g ob v x:=by cases x<;>first|exact h|exact absurd rfl (hl _)
theorem Qfz{o:Oper}{a:Act}{w:World}{f:Operand}{args:Array Operand}{tys:Array TypeId}{h:Nat}(ho:o.op=.call { callee:=.value f,args:=args,argTypes:=tys })(hf:a.eval f=.func (.func h) #[] #[])
  (he:∀vs w,(callFunc h vs).run P w=.ok (.enter h vs) w):(execOp a.eval o).run P w=.ok (.enter h (args.map a.eval)) w:=by
 simp only[execOp,ho,resolve,hf,Deferred.ofValue,Sem.run_bind,Sem.run_pure,Result.andThen_ok,invoke];rw[he];simp
theorem Qsx{f:Operand}{xs vs:List AV}{ob ob':List Ob}(h:Qt4 std f ob xs=some (vs,ob')):(∀x∈xs,x.live=true) /\
  ∀(w:World)(g:Gh)(us:List Value),Mem w g ob->Q4X w g ob us xs->∃g',Mem w g' ob'/\Ext w g ob w g' ob'/\Q4X w g' ob' us vs/\GhLe g g' ob ob':=by
 unfold Qt4 at h;split at h
 ·split at h
  ·rename_i hl
   obtain⟨rfl,rfl⟩:xs=vs/\ob=ob':=by simpa using h
   exact⟨fun x hx=>all_eq_true.1 hl x hx,fun w g us M L=>⟨g,M,Ext.refl,L,GhLe.refl⟩⟩
  ·cases h
 ·exact⟨Q74 _ _ _ _ h,fun w g us M L=>Qmd _ _ g ob vs ob' M L h⟩
theorem Qnh{K:St->Tree}{o:Oper}{s:St}{a:Act}{w:World}{R:Exit->Act->World->Prop}(hs:Sim w0 g0 o0 N s a w)(hd:∀t,o.dst=some t->t<N)
  {f:Operand} {args:Array Operand} {tys:Array TypeId} {h:Nat} (ho:o.op=.call { callee:=.value f,args:=args,argTypes:=tys }) (hf:ev s f=.val (.func (.func h) #[] #[]))
  {vs:List AV} {ob:List Ob} (he:Qt4 std f s.ob (args.toList.map (ev s))=some (vs,ob)) {ρ:List Nat} (pe:Q32 (ρ.map some)=true) (gx:there ob ρ=true)
  (hq:QtW f=true\/tys.toList.any (QoV ty)=true\/ρ.isEmpty=true) {res:AV} {ob':List Ob} (jE:ρ.length<=ob'.length) (hc:BCall P h (vs.map (inA ob ρ)) (Q5R ob ρ) res ob')
  (jC:(K (St.put ⟨s.tm,Q6h ob ρ ob'⟩ o.dst (Qoe ob ρ res))).ok P w0 g0 o0 N Q):o.wp P a w (Q7j ty P w0 g0 o0 N Q K o.op w) R:=by
 obtain⟨g,M,hS,h0⟩:=hs.rel;have vO:=QT hS f;rw[hf]at vO
 have hL:Q4X w g s.ob (args.toList.map a.eval) (args.toList.map (ev s)):=by
  refine⟨by simp,fun j v x hv hx=>?_⟩
  rw[getElem?_map,map_eq_some_iff]at hv hx;obtain⟨q,hq,rfl⟩:=hv;obtain⟨q',p8,rfl⟩:=hx;rw[hq]at p8;cases p8;exact(QT hS q).to1 ((Qsx he).1 _ (mem_map.2 ⟨q,List.mem_of_getElem? hq,rfl⟩))
 obtain⟨g1,M1,E1,L1,G1⟩:=(Qsx he).2 w g _ M hL;have q5:=Qfz (P:=P) (w:=w) ho vO.valEq hc.1;unfold Oper.wp;rw[q5];show Calls P h (args.map a.eval) w _;have hargs:args.map a.eval=(args.toList.map a.eval).toArray:=by apply Array.ext';simp
 rw[hargs];refine(hc.2 w (g1.ren (ρ.map some)) _ (Qp2 M1 pe gx) ⟨by simp[L1.1],fun j v x hv hx=>?_⟩).mono ?_
 ·rw[getElem?_map,map_eq_some_iff]at hx
  obtain⟨x',yG,rfl⟩:=hx;have h1:=L1.2 j v x' hv yG;have h2:=QmY pe gx h1.to;cases x' with
  |agg cs=>exact h2
  |tup _=>exact(show False from h1).elim
  |box i o=>exact h2.to1' (by simp only[inA,inC];split<;>simp)
  |row i e=>exact h2.to1' (by simp only[inA,inC];split<;>(try split)<;>(try split)<;>simp)
  |_=>exact h2
 rintro e w' ⟨v,g2,rfl,M2,R2,S2⟩;have C:CallAt w g1 ob ρ w' g2 ob':=⟨pe,gx,jE,M1,M2,S2⟩;have zO:Q1A w g1 ⟨s.tm,ob⟩ a:=fun t=>(hS t).ext E1
 have jL:Sim w0 g0 o0 N ⟨s.tm,ob⟩ a w:=⟨hs.defers,hs.size,g1,M1,zO,h0.trans (Step.ghost E1 G1)⟩;refine⟨fun hqu=>?_,_,Q2R (s:=⟨s.tm,ob⟩) jL zO (h0.trans (Step.ghost E1 G1)) C.mem C.step hd (C.rel R2),jC⟩
 rcases hq with hq|hq|hq
 ·simp[ho,Q4W,hq]at hqu
 ·simp[ho,Q4W,hq]at hqu
 ·have hr:ρ=[]:=by simpa using hq
  subst hr
  exact⟨S2.os,S2.tape,S2.output,S2.size,fun b hb=>S2.keep b hb (by
   cases hx:(g1.ren (([]:List Nat).map some)).G b with
   |none=>rfl
   |some j =>
    obtain⟨i,hi,_⟩:=Q39 hx;simp at hi)⟩
theorem QeF(hT:TyOk P ty){cs:Nat->List AV->List Ob->Option (AV×List Ob)}{K:St->Tree}{o:Oper}{s:St}{a:Act}{w:World}{R:Exit->Act->World->Prop}(hs:Sim w0 g0 o0 N s a w)(hd:∀t,o.dst=some t->t<N)
  (jC:(aop std ty cs K o s).ok P w0 g0 o0 N Q):o.wp P a w (Q7j ty P w0 g0 o0 N Q K o.op w) R:=by
 have still:∀{s:St},Sim w0 g0 o0 N s a w->∀{q:Option DP}{v:AV},Q2O std ty s o.op=some (q,v)->(∀r,q=some r->r)->(K (St.put s o.dst v)).ok P w0 g0 o0 N Q->o.wp P a w (Q7j ty P w0 g0 o0 N Q K o.op w) R :=
  fun hs _ _ h hq hk=>Qfd hs hd (fun g M hS=>Q7F hT hS M h hq) hk
 -- what stands behind 'aval'
 have rest0:∀{s:St},Sim w0 g0 o0 N s a w->(Q3X std ty K o s o.op).ok P w0 g0 o0 N Q->o.wp P a w (Q7j ty P w0 g0 o0 N Q K o.op w) R:=by
  intro s hs h;unfold Q3X at h;split at h
  ·rename_i v hv
   exact still hs hv (fun r h=>by cases h) h
  ·rename_i q v hv
   exact still hs hv (fun r hr=>by cases hr;exact h.1) h.2
  ·split at h
   ·rename_i src dst x ho
    split at h
    ·rename_i b hb
     split at h
     ·rename_i hk
      exact Qlp hT hs hd ho hb hk.1 hk.2.1 hk.2.2 h.1 h.2
     ·exact h.elim
    ·rename_i id ep hx
     split at h
     ·rename_i et sz e xs j0
      split at h
      ·rename_i hk
       obtain⟨rfl,rfl,rfl,jU,jn⟩:=hk;exact Qm1 hT hs hd ho hx j0 jU jn h.1 h.2
      ·exact h.elim
     ·exact h.elim
    ·exact h.elim
   ·exact h.elim
 have rest:(Q3X std ty K o s o.op).ok P w0 g0 o0 N Q->o.wp P a w (Q7j ty P w0 g0 o0 N Q K o.op w) R:=rest0 hs;obtain⟨op,ho⟩:∃op,o.op=op:=⟨_,rfl⟩;cases op with
 |binOp op T x y T' =>
  rcases QgD (w:=w) (a:=a) hT ho jC with h|⟨z,h1,h2⟩
  ·exact rest h
  ·exact Qfd hs hd (fun g M hS=>h2 g _ hS) h1
 |assign x =>
  simp only[aop,ho]at jC;exact rest0 (Q7x x hs) (by rw[ho];exact jC)
 |slice T x lo hi m =>
  cases lo with
  |none=>exact rest (by rw[ho];simpa only[aop,ho]using jC)
  |some l =>
   simp only[aop,ho]at jC;exact rest0 (QdN x hs) (by rw[ho];exact jC)
 |alloc T =>
  simp only[aop,ho]at jC;split at jC
  ·rename_i hk;exact QlN hT hs hd ho hk jC
  ·exact jC.elim
 |box T x =>
  simp only[aop,ho]at jC;split at jC
  ·rename_i hk;exact Qof hs hd ho hk jC
  ·exact jC.elim
 |store T x y =>
  simp only[aop,ho]at jC;have hs:=Q7x y hs;generalize Qas std s y=s1 at jC hs;unfold QeZ at jC;split at jC
  ·rename_i id off hx
   split at jC
   ·rename_i c hb
    split at jC
    ·rename_i hk
     exact QkC hT hs hd ho hx hb hk.1 hk.2.1 hk.2.2.1 hk.2.2.2 jC
    ·exact jC.elim
   ·exact jC.elim
  ·rename_i id ep i off hx
   split at jC
   ·rename_i et sz e xs hb
    split at jC
    ·rename_i hk
     exact Qta hT hs hd ho hx hb hk.1 hk.2.1 hk.2.2.1 hk.2.2.2.1 hk.2.2.2.2.1 hk.2.2.2.2.2.1 hk.2.2.2.2.2.2 jC
    ·exact jC.elim
   ·exact jC.elim
  ·exact jC.elim
 |buildSlice T len parts =>
  simp only[aop,ho]at jC;split at jC
  ·rename_i xs ob he
   split at jC
   ·rename_i hk
    exact QbA hT hs hd ho he hk.1 hk.2.1 hk.2.2.1 hk.2.2.2.1 hk.2.2.2.2.1 hk.2.2.2.2.2.1 hk.2.2.2.2.2.2 jC
   ·exact jC.elim
  ·exact jC.elim
 |range T x =>
  simp only[aop,ho]at jC;split at jC
  ·rename_i b hb
   split at jC
   ·rename_i hk;exact QlM hT hs hd ho hb hk jC
   ·exact jC.elim
  ·exact jC.elim
 |next it b =>
  cases b with
  |false=>simp[aop,ho,Q3X,Q2O,Tree.ok]at jC
  |true =>
   simp only[aop,ho]at jC;split at jC
   ·rename_i id hi
    split at jC
    ·rename_i b pos j0
     exact Qmh hs hd ho hi j0 jC.1 jC.2
    ·exact jC.elim
   ·exact jC.elim
 |call c =>
  obtain⟨callee,args,tys⟩:=c;cases callee with
  |builtin b =>
   cases b with
   |append =>
    simp only[aop,ho]at jC;split at jC
    ·rename_i x y T U ha ht
     split at jC
     ·rename_i sz news zp
      split at jC
      ·rename_i jc
       obtain⟨gU,jc⟩:=jc;have je:0<sz:=by obtain⟨e,_,_,_,_,h⟩:=Q4R hT jc;exact h
       split at jC
       ·rename_i hx
        have jE:s.ob.length=s.ob.length:=rfl
        have gS:(s.ob++[Ob.row (Q5 T ty).elem sz false 0 []]).set s.ob.length (.row (Q5 T ty).elem sz false (0+1) (std.app [] news))=s.ob++[.row (Q5 T ty).elem sz false 1 (std.app [] news)]:=by
         rw[List.set_append_right _ _ (le_refl _),Nat.sub_self];rfl
        refine Q5q hT hs hd ho ha ht (ob:=s.ob++[.row (Q5 T ty).elem sz false 0 []]) (fun g M=>⟨M.addRow je,Ext.addRow _,Step.addRow _⟩) (id:=s.ob.length) Q4b (xs':=[]) (fun g M hS=>?_) (fun h=>by cases h) jc rfl zp gU jC.1 ?_
        ·have qS:=QT hS x
         rw[hx]at qS;rw[qS.valEq];refine⟨[],World.ownsRow_nil _ _ _ _,?_,Alike.nil,?_,?_,?_⟩
         ·intro b h;cases h
         ·intro x h;cases h
         ·intro b h;cases h
         ·intro _ j y h;simp at h
        ·rw[gS];exact jC.2
       ·rename_i id ep hx
        split at jC
        ·rename_i et sz' fz e xs j0
         split at jC
         ·rename_i hk
          obtain⟨rfl,rfl,rfl⟩:=hk;refine Q5q hT hs hd ho ha ht (ob:=s.ob) (fun g M=>⟨M,Ext.refl,Step.refl⟩) j0 (fun g M hS=>?_) (fun _=>rfl) jc rfl zp gU jC.1 jC.2
          have qS:=QT hS x;rw[hx]at qS;obtain⟨_,et,sz,fz,e,xs,h1,h2,h3⟩:=qS;rw[j0]at h1;cases h1;exact h3 rfl
         ·exact jC.elim
        ·exact jC.elim
       ·rename_i id ep k hx
        split at jC
        ·rename_i et sz' e xs j0
         split at jC
         ·rename_i hk
          obtain⟨rfl,rfl,rfl⟩:=hk;refine Q5q hT hs hd ho ha ht (ob:=s.ob) (fun g M=>⟨M,Ext.refl,Step.refl⟩) j0 (xs':=std.cut xs 0 k) (fun g M hS=>?_) (fun h=>by cases h) jc rfl zp gU jC.1 jC.2
          have qS:=QT hS x;rw[hx]at qS;obtain⟨_,et,sz,fz,e,xs,h1,h2,h3⟩:=qS;rw[j0]at h1;cases h1;have e:std.cut xs 0 k=xs.take k.toNat:=by simp[std]
          rw[e];exact(h3 rfl).2.2
         ·exact jC.elim
        ·exact jC.elim
       ·exact jC.elim
      ·exact jC.elim
     ·exact jC.elim
    ·exact jC.elim
   |_=>exact rest (by rw[ho];simpa only[aop,ho]using jC)
  |invoke _ _=>exact rest (by rw[ho];simpa only[aop,ho]using jC)
  |value f =>
   simp only[aop,ho]at jC;split at jC
   ·rename_i h ca cb hf
    split at jC
    ·rename_i hab
     obtain rfl:ca=#[]:=Array.eq_empty_of_size_eq_zero hab.1;obtain rfl:cb=#[]:=Array.eq_empty_of_size_eq_zero hab.2;split at jC
     ·rename_i vs ob he
      split at jC
      ·rename_i hk
       split at jC
       ·rename_i res ob' hcs
        split at jC
        ·rename_i jE
         exact Qnh hs hd ho hf he hk.1 hk.2.1 hk.2.2 jE jC.1 jC.2
        ·exact jC.elim
       ·exact jC.elim
      ·exact jC.elim
     ·exact jC.elim
    ·exact jC.elim
   ·exact jC.elim
 |_=>exact rest (by rw[ho];simpa only[aop,ho]using jC)
end
section
variable {P:Program}{ops:Array Oper}{Q:Exit->Act->World->Prop}{md:Region.Mode}{late:Nat->Bool}
def wpR(P:Program)(md:Region.Mode)(ops:Array Oper)(late:Nat->Bool)(Q:Exit->Act->World->Prop):Nat->Array Bool->Act->World->Prop
 |0,listed,a,w=>Region.ready md ops listed=[]/\Q .normal a w
 |n+1,listed,a,w=>(Region.ready md ops listed=[]->Q .normal a w) /\
   ∀i∈Region.ready md ops listed,wpOp P ops Q i (fun a' w'=>(late i=false->LeB w w')/\wpR P md ops late Q n (listed.setIfInBounds i true) a' w') a w
theorem Qaa:∀(n:Nat)(listed:Array Bool)(a:Act)(w:World),wpR P md ops late Q n listed a w->wpAny P md ops Q n listed a w
 |0,_,_,_,h=>h
 |n+1,_,_,_,h=>⟨h.1,fun i hi=>wpOp_mono (fun a' w' h'=>Qaa n _ a' w' h'.2) (h.2 i hi)⟩
def Closed(md:Region.Mode)(ops:Array Oper)(listed:Array Bool):Prop :=
 ∀(j:Nat) oj,ops[j]?=some oj->listed.getD j true=true->∀e∈oj.after,Region.binds md e=true->listed.getD e.on true=true
def anc(md:Region.Mode)(ops:Array Oper)(i:Nat):Nat->Nat->Bool
 |0,_=>false
 |n+1,j=>match ops[j]? with
  |some oj=>oj.after.any fun e=>Region.binds md e&&(e.on == i||anc md ops i n e.on)
  |none=>false
theorem Q8X{listed:Array Bool}{k:Nat}(h:listed.getD k false=true):listed.getD k true=true:=by
 rcases Nat.lt_or_ge k listed.size with h'|h'
 ·simp[h']at h ⊢;exact h
 ·simp[not_lt.2 h']at h ⊢
theorem Closed.set{listed:Array Bool}(h:Closed md ops listed){j:Nat}(hr:j∈Region.ready md ops listed):Closed md ops (listed.setIfInBounds j true):=by
 have up:∀k,listed.getD k true=true->(listed.setIfInBounds j true).getD k true=true:=fun k hk=>by
  by_cases e:j=k
  ·subst e
   rcases Nat.lt_or_ge j listed.size with h'|h'
   ·simp[h']
   ·simp[not_lt.2 h']
  ·rw[getD_set_ne true e];exact hk
 intro k ok hk hl e he hb;by_cases zE:j=k
 ·subst zE
  obtain⟨_,o,ho,vD⟩:=mem_ready.1 hr;rw[hk]at ho;cases ho;exact up _ (Q8X (vD e he hb))
 ·rw[getD_set_ne true zE]at hl
  exact up _ (h k ok hk hl e he hb)
theorem QgX{listed:Array Bool}(h:Closed md ops listed){i:Nat}(hi:listed.getD i true=false):∀(n j:Nat),anc md ops i n j=true->∀oj,ops[j]?=some oj ->
  ¬(∀e∈oj.after,Region.binds md e=true->listed.getD e.on true=true)
 |0,_,h0,_,_,_=>by cases h0
 |n+1,j,h0,oj,hj,vD=>by
  simp only[anc,hj]at h0;obtain⟨e,he,hb⟩:=Array.any_eq_true'.1 h0;simp only[Bool.and_eq_true,Bool.or_eq_true,beq_iff_eq]at hb;obtain⟨hb,h1|h1⟩:=hb
  ·have:=vD e he hb
   rw[h1,hi]at this;cases this
  ·have hl:=vD e he hb
   cases hk:ops[e.on]? with
   |none =>
    cases n<;>simp[anc,hk]at h1
   |some ok=>exact QgX h hi n e.on h1 ok hk (h e.on ok hk hl)
theorem QbW{i:Nat}{oi:Oper}{v:Value}{rd:Bool}(hi:ops[i]?=some oi)
  (gH:∀(j:Nat)(o:Oper) cs b,ops[j]?=some o->o.op≠.select cs b)
  (hQ:∀c a w,Q (.panic c) (a.put oi.dst v) w->Q (.panic c) a w) (hli:late i=false) :
  ∀(n:Nat)(listed:Array Bool)(a:Act)(w:World),Closed md ops listed->(rd=true->∀j oj,ops[j]?=some oj->late j=true->listed.getD j true=false->anc md ops i ops.size j=true) ->
   (∀j oj,ops[j]?=some oj->j≠i->listed.getD j true=false->(∀e∈oj.after,Region.binds md e=true->e.on≠i)->oi.apart ops oj=true) ->
   i∈Region.ready md ops listed->YieldsIf P ops (fun W=>rd=true->LeB w W) oi v a ->
   wpR P md ops late Q n (listed.setIfInBounds i true) (a.put oi.dst v) w->wpR P md ops late Q (n+1) listed a w:=by
 intro n;induction n with
 |zero =>
  intro listed a w hC _ _ hr hy H;refine⟨fun h=>(by rw[h]at hr;cases hr),fun j hj=>?_⟩
  by_cases ql:j=i
  ·subst ql;exact hy.wpOp hi (fun _=>LeB.refl w) ⟨fun _=>LeB.refl w,H⟩
  ·have:=ready_mono hj ql
   rw[H.1]at this;cases this
 |succ n ih =>
  intro listed a w hC yv ym hr hy H;refine⟨fun h=>(by rw[h]at hr;cases hr),fun j hj=>?_⟩
  by_cases ql:j=i
  ·subst ql;exact hy.wpOp hi (fun _=>LeB.refl w) ⟨fun _=>LeB.refl w,H⟩
  ·have h1:=H.2 j (ready_mono hj ql)
   obtain⟨zJ,oj,c9,vD⟩:=mem_ready.1 hj;have yn:=(mem_ready.1 hr).1
   have vE:∀e∈oj.after,Region.binds md e=true->e.on≠i:=fun e he hb j6=>by
    have h1:=vD e he hb;rw[j6]at h1;have:=Q8X h1
    rw[yn]at this;cases this
   have h2:=wpOp_putIf (S:=fun W=>rd=true->LeB w W) c9 (ym j oj c9 ql zJ vE) (fun cs b=>gH i oi cs b hi) (fun cs b=>gH j oj cs b c9) hQ hy h1
   have zK:∀k ok,ops[k]?=some ok->k≠i->(listed.setIfInBounds j true).getD k true=false ->
     (∀e∈ok.after,Region.binds md e=true->e.on≠i)->oi.apart ops ok=true:=fun k ok hk kj yn yK=>by
    refine ym k ok hk kj ?_ yK;by_cases zE:j=k
    ·subst zE;exact zJ
    ·rw[getD_set_ne true zE]at yn;exact yn
   refine wpOp_mono (fun a' w' h3=>?_) h2
   obtain⟨h3,h4,h5⟩:=h3;-- what is read stays
   have jJ:rd=true->LeB w w':=fun zj=>by
    refine h4 ?_;cases nX:late j with
    |false=>rfl
    |true=>exact(QgX hC yn _ _ (yv zj j oj c9 nX zJ) oj c9 (fun e he hb=>Q8X (vD e he hb))).elim
   have xM:rd=true->∀k ok,ops[k]?=some ok->late k=true->(listed.setIfInBounds j true).getD k true=false->anc md ops i ops.size k=true:=fun zj k ok hk hl yn=>by
    refine yv zj k ok hk hl ?_;by_cases zE:j=k
    ·subst zE;exact zJ
    ·rw[getD_set_ne true zE]at yn;exact yn
   refine⟨h4,ih (listed.setIfInBounds j true) a' w' (hC.set hj) xM zK (ready_mono hr (Ne.symm ql)) (YieldsIf.weaken h3 fun V hV zj=>LeB.trans _ _ _ (jJ zj) (hV zj)) ?_⟩
   rw[Array.setIfInBounds_comm _ _ ql];exact h5
end
def Q3J(ty:Tys):Op->Bool
 |.alloc _|.box _ _|.store _ _ _|.buildSlice _ _ _|.range _ _|.next _ _=>false
 |.call { callee:=.builtin .append,.. }|.call { callee:=.value _,.. }=>false
 |.convert _ dst _=>!(Q5 dst ty).sl
 |_=>true
def Q5C(ty:Tys)(ops:Array Oper)(j:Nat):Bool:=match ops[j]? with
 |some o=>!Q4W ty o.op
 |none=>false
def OT.heads:OT->List Nat
 |.nil=>[]
 |.cons i _=>[i]
 |.fork a b=>a.heads++b.heads
def Q3O(md:Region.Mode)(ty:Tys)(ops:Array Oper):OT->Nat->Array Bool->Bool->Bool
 |.nil,n,listed,among=>n == 0&&!among&&(Region.ready md ops listed).isEmpty
 |.cons i rest,n,listed,among=>n != 0&&(match ops[i]? with
   |some o=>(if among then(Region.ready md ops listed).contains i else Region.ready md ops listed == [i]||(Q3J ty o.op&&(Region.ready md ops listed).contains i&&Region.free md ops listed i &&
     (!Q91 o.op||(List.range ops.size).all fun j=>!Q5C ty ops j||(listed.getD j true||anc md ops i ops.size j))))
   |none=>false)&&Q3O md ty ops rest (n-1) (listed.setIfInBounds i true) false
 |.fork a b,n,listed,among=>(among||(!(Region.ready md ops listed).isEmpty&&(Region.ready md ops listed).all fun i=>(OT.fork a b).heads.contains i)) &&
   Q3O md ty ops a n listed true&&Q3O md ty ops b n listed true
def Q40(md:Region.Mode)(ty:Tys)(ord:Nat->OT):Code->Bool
 |.region id ops draw=>if draw then Region.noSelect ops&&Q3O md ty ops ((ord id).or ops.size) ops.size (Array.replicate ops.size false) false else true
 |.seq a b=>Q40 md ty ord a&&Q40 md ty ord b
 |.cond _ a b=>Q40 md ty ord a&&Q40 md ty ord b
 |.block _ c=>Q40 md ty ord c
 |.loop c=>Q40 md ty ord c
 |_=>true
def Q4p(N:Nat):Code->Bool
 |.region _ ops _=>ops.all fun o=>match o.dst with|some d=>decide (d<N)|none=>true
 |.seq a b=>Q4p N a&&Q4p N b
 |.cond _ a b=>Q4p N a&&Q4p N b
 |.block _ c=>Q4p N c
 |.loop c=>Q4p N c
 |_=>true
section
variable {P:Program}{ty:Tys}{w0:World}{g0:Gh}{o0:List Ob}{N:Nat}{Q:Ex->St->Prop}
theorem Qfp(hT:TyOk P ty){cs:Nat->List AV->List Ob->Option (AV×List Ob)}{K:St->Tree}{o:Oper}{s:St}{a:Act}{w:World}(jI:Q3J ty o.op=true)
  (jC:(aop std ty cs K o s).ok P w0 g0 o0 N Q):∃s1 x,(∀a w,Sim w0 g0 o0 N s a w->Sim w0 g0 o0 N s1 a w)/\(K (St.put s1 o.dst x)).ok P w0 g0 o0 N Q/\∀g,Mem w g s1.ob->Q1A w g s1 a->Yld P w g s1 a o (Q91 o.op) x:=by
 have rest0:∀s1,(∀a w,Sim w0 g0 o0 N s a w->Sim w0 g0 o0 N s1 a w)->(Q3X std ty K o s1 o.op).ok P w0 g0 o0 N Q->∃s1 x,(∀a w,Sim w0 g0 o0 N s a w->Sim w0 g0 o0 N s1 a w)/\(K (St.put s1 o.dst x)).ok P w0 g0 o0 N Q/\∀g,Mem w g s1.ob->Q1A w g s1 a->Yld P w g s1 a o (Q91 o.op) x:=by
  intro s1 h1 h;unfold Q3X at h;split at h
  ·rename_i v hv
   exact⟨s1,v,h1,h,fun g M hS=>Q7F hT hS M hv (fun r h=>by cases h)⟩
  ·rename_i q v hv
   exact⟨s1,v,h1,h.2,fun g M hS=>Q7F hT hS M hv (fun r hr=>by cases hr;exact h.1)⟩
  ·split at h
   ·rename_i src dst x ho
    rw[ho]at jI;simp only[Q3J,Bool.not_eq_true']at jI;split at h
    ·split at h
     ·rename_i hk
      rw[hk.2.1]at jI;cases jI
     ·exact h.elim
    ·split at h
     ·split at h
      ·rename_i hk
       rw[<-hk.2.1,hk.2.2.2.1]at jI;cases jI
      ·exact h.elim
     ·exact h.elim
    ·exact h.elim
   ·exact h.elim
 have rest:=rest0 s (fun _ _ h=>h)
 obtain⟨op,ho⟩:∃op,o.op=op:=⟨_,rfl⟩;cases op with
 |assign x =>
  simp only[aop,ho]at jC;exact rest0 _ (fun a w h=>Q7x x h) (by rw[ho];exact jC)
 |slice T x lo hi m =>
  cases lo with
  |none=>exact rest (by rw[ho];simpa only[aop,ho]using jC)
  |some l =>
   simp only[aop,ho]at jC;exact rest0 _ (fun a w h=>QdN x h) (by rw[ho];exact jC)
 |binOp op T x y T' =>
  rcases QgD (w:=w) (a:=a) hT ho jC with h|⟨z,h1,h2⟩
  ·exact rest h
  ·exact⟨s,z,fun _ _ h=>h,h1,fun g _ hS=>h2 g _ hS⟩
 |alloc T=>simp[ho,Q3J]at jI
 |box T x=>simp[ho,Q3J]at jI
 |store T x y=>simp[ho,Q3J]at jI
 |buildSlice T len parts=>simp[ho,Q3J]at jI
 |range T x=>simp[ho,Q3J]at jI
 |next it b=>simp[ho,Q3J]at jI
 |call c =>
  obtain⟨callee,args,tys⟩:=c;cases callee with
  |builtin b =>
   cases b with
   |append=>simp[ho,Q3J]at jI
   |_=>exact rest (by rw[ho];simpa only[aop,ho]using jC)
  |invoke _ _=>exact rest (by rw[ho];simpa only[aop,ho]using jC)
  |value f=>simp[ho,Q3J]at jI
 |_=>exact rest (by rw[ho];simpa only[aop,ho]using jC)
end
section
variable {P:Program}{ty:Tys}{w0:World}{g0:Gh}{o0:List Ob}{N:Nat}{Q:Ex->St->Prop}{w:World}{a:Act}{s:St}
theorem Q4N(hs:Sim w0 g0 o0 N s a w){d:Nat}{b:Bool}(hv:lk d s.tm=.val (.bool b))(c:Bool)(hc:b=c):Sim w0 g0 o0 N (s.put (some d) (.kb c)) a w:=by
 subst hc;obtain⟨g,M,hS,h0⟩:=hs.rel;refine⟨hs.defers,hs.size,g,M,fun t=>?_,h0⟩
 show ARel w g s.ob _ (if t=d then .kb b else lk t s.tm);by_cases e:t=d
 ·subst e
  rw[if_pos rfl];have h:=hS t;rw[hv]at h;exact h.valEq
 ·rw[if_neg e];exact hS t
theorem Q90(hs:Sim w0 g0 o0 N s a w){d:Option Nat}(hd:∀t,d=some t->t<N):Sim w0 g0 o0 N (s.put d (.tup [])) (a.put d undef) w:=by
 obtain⟨g,M,hS,h0⟩:=hs.rel;exact Q2R (s:=s) (ob':=s.ob) hs hS h0 M Step.refl hd (v:=undef) (x:=.tup []) ⟨#[],rfl,rfl,fun j y u h=>by simp at h⟩
theorem Q6L(hs:Sim w0 g0 o0 N s a w){d:Nat}{b:Bool}(hv:lk d s.tm=.kb b):a.tmps.getD d undef=.bool b:=by
 obtain⟨g,M,hS,h0⟩:=hs.rel;have h:=hS d;rw[hv]at h;exact h
theorem Q8a{ops:Array Oper}(hs:Sim w0 g0 o0 N s a w){o:Oper}{j d:Nat}{b want:Bool}(hg:o.guard=some (j,want))(hd:(ops[j]?).bind (·.dst)=some d)(hv:lk d s.tm=.kb b) :
  Region.wanted o (yielded ops a.tmps)=(b == want):=by
 have h:=Q6L hs hv
 have h1:a.tmps[d]?=some (.bool b):=by
  rw[Array.getD_eq_getD_getElem?]at h;cases hx:a.tmps[d]? with
  |none=>rw[hx]at h;cases h
  |some x=>rw[hx]at h;exact congrArg some h
 simp only[Region.wanted,hg,yielded,hd,Option.bind_some,h1];cases b<;>cases want<;>rfl
theorem Q6s{cs:Nat->List AV->List Ob->Option (AV×List Ob)}{ops:Array Oper}{K:St->Tree}{i:Nat}{rest:OT}{o:Oper}(ho:ops[i]?=some o)(hs:Sim w0 g0 o0 N s a w)
  (jC:(Q5H std ty cs ops.toList K (.cons i rest) s).ok P w0 g0 o0 N Q) :
  (Region.wanted o (yielded ops a.tmps)=true/\∃s',Sim w0 g0 o0 N s' a w/\(aop std ty cs (Q5H std ty cs ops.toList K rest) o s').ok P w0 g0 o0 N Q) \/
  (Region.wanted o (yielded ops a.tmps)=false/\∃s',Sim w0 g0 o0 N s' a w/\(Q5H std ty cs ops.toList K rest (s'.put o.dst (.tup []))).ok P w0 g0 o0 N Q):=by
 simp only[Q5H,Array.getElem?_toList,ho]at jC;split at jC
 ·rename_i hg
  exact .inl ⟨by simp[Region.wanted,hg],s,hs,jC⟩
 ·rename_i j want hg
  split at jC
  ·exact jC.elim
  ·rename_i d hd
   split at jC
   ·rename_i b hv
    have hw:=Q8a (ops:=ops) hs hg hd hv;split at jC
    ·exact .inl ⟨hw,s,hs,jC⟩
    ·exact .inl ⟨hw,s,hs,jC⟩
    ·rename_i hne1 hne2
     refine .inr ⟨?_,s,hs,jC⟩;rw[hw];cases b<;>cases want
     ·exact(hne2 rfl rfl).elim
     ·rfl
     ·rfl
     ·exact(hne1 rfl rfl).elim
   ·rename_i b hv
    have e:∀c:Bool,lk d (s.put (some d) (.kb c)).tm=.kb c:=fun c=>if_pos rfl
    split at jC
    ·obtain⟨h1,h2⟩:=jC
     cases b with
     |true =>
      have jf:=Q4N hs hv true rfl;exact .inl ⟨Q8a (ops:=ops) jf hg hd (e true),_,jf,h1 rfl⟩
     |false =>
      have jf:=Q4N hs hv false rfl;exact .inr ⟨Q8a (ops:=ops) jf hg hd (e false),_,jf,h2 rfl⟩
    ·obtain⟨h1,h2⟩:=jC
     cases b with
     |true =>
      have jf:=Q4N hs hv true rfl;exact .inr ⟨Q8a (ops:=ops) jf hg hd (e true),_,jf,h1 rfl⟩
     |false =>
      have jf:=Q4N hs hv false rfl;exact .inl ⟨Q8a (ops:=ops) jf hg hd (e false),_,jf,h2 rfl⟩
   ·rename_i hv
    refine .inr ⟨?_,s,hs,jC⟩;obtain⟨g,M,hS,h0⟩:=hs.rel;have h1:=hS d;rw[hv]at h1;obtain⟨vs,h2,_⟩:=h1;rw[Array.getD_eq_getD_getElem?]at h2;simp only[Region.wanted,hg,yielded,hd,Option.bind_some];cases hx:a.tmps[d]? with
    |none=>cases want<;>rfl
    |some x =>
     rw[hx]at h2;obtain rfl:x=.tuple vs:=h2;cases want<;>rfl
   ·exact jC.elim
theorem Q97{ops:Array Oper}(hd:(ops.all fun o=>match o.dst with|some d=>decide (d<N)|none=>true)=true){i:Nat}{o:Oper}(ho:ops[i]?=some o):∀t,o.dst=some t->t<N:=fun t ht=>by
 have:=Array.all_eq_true_iff_forall_mem.1 hd o (Array.mem_of_getElem? ho)
 simpa[ht]using this
theorem Q7I(hT:TyOk P ty){cs:Nat->List AV->List Ob->Option (AV×List Ob)}{ops:Array Oper}{K:St->Tree}{R:Exit->Act->World->Prop}
  (hd:(ops.all fun o=>match o.dst with|some d=>decide (d<N)|none=>true)=true) (hK:∀s a w,Sim w0 g0 o0 N s a w->(K s).ok P w0 g0 o0 N Q->R .normal a w) :
  ∀(l:List Nat)(s:St)(a:Act)(w:World),Sim w0 g0 o0 N s a w->(Q5H std ty cs ops.toList K (OT.of l) s).ok P w0 g0 o0 N Q->wpOps P ops R l a w
 | [],s,a,w,hs,jC=>hK s a w hs jC
 |i::rest,s,a,w,hs,jC=>by
  unfold wpOps;cases ho:ops[i]? with
  |none=>simp[OT.of,Q5H,Array.getElem?_toList,ho,Tree.ok]at jC
  |some o =>
   rcases Q6s (rest:=OT.of rest) ho hs jC with ⟨hw,s',jf,h⟩|⟨hw,s',jf,h⟩
   ·simp only[hw,if_true]
    exact .inl (Oper.wp_mono (fun a' w' hg=>by
     obtain⟨_,s2,jT,h2⟩:=hg;exact Q7I hT hd hK rest s2 a' w' jT h2) (QeF hT jf (Q97 hd ho) h))
   ·simp only[hw,Bool.false_eq_true,if_false]
    exact Q7I hT hd hK rest _ _ w (Q90 jf (Q97 hd ho)) h
theorem QhH(hT:TyOk P ty){cs:Nat->List AV->List Ob->Option (AV×List Ob)}{ops:Array Oper}{K:St->Tree}{R:Exit->Act->World->Prop}{md:Region.Mode}
  (hd:(ops.all fun o=>match o.dst with|some d=>decide (d<N)|none=>true)=true) (hn:Region.noSelect ops=true) (hQ:∀c a (d:Tmp) v w,R (.panic c) (a.put (some d) v) w->R (.panic c) a w)
  (hK:∀s a w,Sim w0 g0 o0 N s a w->(K s).ok P w0 g0 o0 N Q->R .normal a w) :
  ∀(t:OT)(n:Nat)(listed:Array Bool)(s:St)(a:Act)(w:World),Closed md ops listed->Sim w0 g0 o0 N s a w->(Q5H std ty cs ops.toList K t s).ok P w0 g0 o0 N Q ->
   (Q3O md ty ops t n listed false=true->wpR P md ops (Q5C ty ops) R n listed a w) /\
   (Q3O md ty ops t n listed true=true->∀i∈t.heads,∃m,n=m+1/\wpOp P ops R i (fun a' w'=>(Q5C ty ops i=false->LeB w w')/\wpR P md ops (Q5C ty ops) R m (listed.setIfInBounds i true) a' w') a w):=by
 intro t;induction t with
 |nil =>
  intro n listed s a w hC hs jC;refine⟨fun hB=>?_,fun hB i hi=>by cases hi⟩
  simp only[Q3O,Bool.and_eq_true,beq_iff_eq]at hB;obtain⟨⟨rfl,_⟩,h⟩:=hB;exact⟨by simpa using h,hK s a w hs jC⟩
 |fork x y ihx ihy =>
  intro n listed s a w hC hs jC
  have both:Q3O md ty ops x n listed true=true->Q3O md ty ops y n listed true=true->∀i∈(OT.fork x y).heads,∃m,n=m+1/\wpOp P ops R i (fun a' w'=>(Q5C ty ops i=false->LeB w w')/\wpR P md ops (Q5C ty ops) R m (listed.setIfInBounds i true) a' w') a w:=fun h1 h2 i hi=>by
   rcases List.mem_append.1 hi with hi|hi
   ·exact(ihx n listed s a w hC hs jC.1).2 h1 i hi
   ·exact(ihy n listed s a w hC hs jC.2).2 h2 i hi
  refine⟨fun hB=>?_,fun hB=>?_⟩
  ·simp only[Q3O,Bool.and_eq_true,Bool.false_or]at hB
   obtain⟨⟨⟨h0,h1⟩,h2⟩,h3⟩:=hB;have jQ:Region.ready md ops listed≠[]:=by simpa using h0
   have vD:∀i∈Region.ready md ops listed,i∈(OT.fork x y).heads:=fun i hi=>by
    have:=all_eq_true.1 h1 i hi
    simpa using this
   obtain⟨i,hi⟩:=List.exists_mem_of_ne_nil _ jQ;obtain⟨m,rfl,_⟩:=both h2 h3 i (vD i hi);refine⟨fun h=>absurd h jQ,fun i hi=>?_⟩
   obtain⟨m',e,h⟩:=both h2 h3 i (vD i hi);cases e;exact h
  ·simp only[Q3O,Bool.and_eq_true]at hB
   exact both hB.1.2 hB.2
 |cons i rest ih =>
  intro n listed s a w hC hs jC;cases ho:ops[i]? with
  |none=>simp[Q5H,Array.getElem?_toList,ho,Tree.ok]at jC
  |some o =>
   -- taken from what may come next
   have loud:∀m,i∈Region.ready md ops listed->Q3O md ty ops rest m (listed.setIfInBounds i true) false=true ->
     wpOp P ops R i (fun a' w'=>(Q5C ty ops i=false->LeB w w')/\wpR P md ops (Q5C ty ops) R m (listed.setIfInBounds i true) a' w') a w:=fun m hr cG=>by
    unfold wpOp;simp only[ho];rcases Q6s ho hs jC with ⟨hw,s',jf,h⟩|⟨hw,s',jf,h⟩
    ·simp only[hw,if_true]
     exact .inl (Oper.wp_mono (fun a' w' hg=>by
      obtain⟨hq,s2,jT,h2⟩:=hg;refine⟨fun hl=>hq ?_,(ih m _ s2 a' w' (hC.set hr) jT h2).1 cG⟩
      simpa[Q5C,ho]using hl) (QeF hT jf (Q97 hd ho) h))
    ·simp only[hw,Bool.false_eq_true,if_false]
     exact⟨fun _=>LeB.refl w,(ih m _ _ _ w (hC.set hr) (Q90 jf (Q97 hd ho)) h).1 cG⟩
   refine⟨fun hB=>?_,fun hB=>?_⟩
   ·simp only[Q3O,ho,Bool.and_eq_true,Bool.false_eq_true,if_false,Bool.or_eq_true,beq_iff_eq,bne_iff_ne,ne_eq]at hB
    obtain⟨⟨js,hB⟩,cG⟩:=hB;obtain⟨m,rfl⟩:∃m,n=m+1:=⟨n-1,by omega⟩
    simp only[Nat.add_sub_cancel]at cG;rcases hB with hr|⟨⟨⟨jI,hr⟩,hf⟩,hrd⟩
    ·refine⟨fun h0=>(by rw[hr]at h0;cases h0),fun j hj=>?_⟩
     have hZ:=hj;rw[hr]at hZ;obtain rfl:=mem_singleton.1 hZ;exact loud m hj cG
    ·have yL:i∈Region.ready md ops listed:=by simpa using hr
     have hli:Q5C ty ops i=false:=by
      simp only[Q5C,ho,Bool.not_eq_false'];revert jI;cases o.op<;>simp only[Q3J,Q4W,Bool.false_eq_true,false_implies,implies_true]
      case convert src dst x =>
       intro h;by_cases e:src=dst
       ·subst e
        have h:(Q5 src ty).sl=false:=by simpa using h
        simp[h]
       ·simp[e]
      rename_i c;obtain⟨callee,args,tys⟩:=c;cases callee with
      |builtin b=>cases b<;>simp[Q3J,Q4W]
      |_=>simp[Q3J,Q4W]
     have yv:Q91 o.op=true->∀j oj,ops[j]?=some oj->Q5C ty ops j=true->listed.getD j true=false->anc md ops i ops.size j=true:=fun kP j oj hj hl yn=>by
      rcases hrd with h|h
      ·rw[kP]at h;simp at h
      ·have:=all_eq_true.1 h j (List.mem_range.2 (Array.getElem?_eq_some_iff.1 hj).1)
       simpa only[hl,yn,Bool.not_true,Bool.false_or]using this
     rcases Q6s ho hs jC with ⟨hw,s',jf,h⟩|⟨hw,s',jf,h⟩
     ·obtain⟨s1,x,jL,hx,hy⟩:=Qfp hT (w:=w) (a:=a) jI h
      have jL:=jL _ _ jf;obtain⟨g,M,hS,h0⟩:=jL.rel;obtain⟨v,h1,h2⟩:=hy g M hS
      exact QbW ho (Region.noSelect_spec hn) (fun c a w=>Q77 hQ c a _ _ w) hli _ listed a w hC yv (Region.free_spec ho hf) yL (.inl ⟨hw,fun W hW=>h1 W hW⟩)
       ((ih m _ _ _ w (hC.set yL) (Q2R (s:=s1) (ob':=s1.ob) jL hS h0 M Step.refl (Q97 hd ho) h2) hx).1 cG)
     ·exact QbW ho (Region.noSelect_spec hn) (fun c a w=>Q77 hQ c a _ _ w) hli _ listed a w hC yv (Region.free_spec ho hf) yL (.inr ⟨hw,rfl⟩)
       ((ih m _ _ _ w (hC.set yL) (Q90 jf (Q97 hd ho)) h).1 cG)
   ·simp only[Q3O,ho,Bool.and_eq_true,if_true,bne_iff_ne,ne_eq]at hB
    obtain⟨⟨js,hr⟩,cG⟩:=hB;obtain⟨m,rfl⟩:∃m,n=m+1:=⟨n-1,by omega⟩
    simp only[Nat.add_sub_cancel]at cG;intro j hj;obtain rfl:=mem_singleton.1 hj;exact⟨m,rfl,loud m (by simpa using hr) cG⟩
end
theorem Qdd{md:Region.Mode}{ops:Array Oper}:Closed md ops (Array.replicate ops.size false):=fun j oj hj hl=>by
 have:j<ops.size:=(Array.getElem?_eq_some_iff.1 hj).1
 simp[this]at hl
section
variable {P:Program}{ty:Tys}{w0:World}{g0:Gh}{o0:List Ob}{N:Nat}{Q:Ex->St->Prop}
theorem QiA{s:St}{a:Act}{w w':World}(hs:Sim w0 g0 o0 N s a w)(hb:LeB w w'):Sim w0 g0 o0 N s a w':=by
 obtain⟨g,M,hS,h0⟩:=hs.rel;have E:=Ext.below M hb;have h1:Step w g s.ob w' g s.ob:=⟨hb.os,hb.tape,hb.output,hb.size,fun b h _=>hb.block b h,fun b id hG=>.inl ⟨id,hG⟩,fun b o h=>.inl h,E,le_refl _⟩
 exact⟨hs.defers,hs.size,g,M.below hb,fun t=>(hS t).ext E,h0.trans h1⟩
theorem Q5j(hT:TyOk P ty)(hm:P.follows .mixedOrders=true){cs:Nat->List AV->List Ob->Option (AV×List Ob)}{ord:Nat->OT} :
  ∀(c:Code)(K:Ex->St->Tree)(R:Exit->Act->World->Prop)(s:St)(a:Act)(w:World),Q4p N c=true->Q40 .any ty ord c=true ->
   (∀c a (d:Tmp) v w,R (.panic c) (a.put (some d) v) w->R (.panic c) a w)->(∀e s a w,Sim w0 g0 o0 N s a w->(K e s).ok P w0 g0 o0 N Q->R e.conv a w) ->
   Sim w0 g0 o0 N s a w->(Q4 std ty cs ord c K s).ok P w0 g0 o0 N Q->c.wp P R a w:=by
 intro c;induction c with
 |skip=>intro K R s a w _ _ _ hK hs jC;exact wp_skip (hK .normal s a w hs jC)
 |region id ops draw =>
  intro K R s a w hd ho hQ hK hs jC;cases draw with
  |false =>
   exact wp_region (Q7I hT hd (fun s a w hs h=>hK .normal s a w hs h) _ s a w hs jC)
  |true =>
   simp only[Q40,if_true,Bool.and_eq_true]at ho;obtain⟨h1,h3⟩:=ho;refine wp_region_any hm (Qaa (late:=Q5C ty ops) _ _ _ _ ?_);exact(QhH hT hd h1 hQ (fun s a w hs h=>hK .normal s a w hs h) _ _ _ s a _ Qdd (QiA hs (LeB.drew w)) jC).1 h3
 |seq x y ihx ihy =>
  intro K R s a w hd ho hQ hK hs jC;simp only[Q4p,Q40,Bool.and_eq_true]at hd ho;refine wp_seq (ihx _ _ s a w hd.1 ho.1 (fun c a d v w h=>hQ c a d v w h) (fun e s a w hs h=>?_) hs jC)
  cases e with
  |normal=>exact ihy K R s a w hd.2 ho.2 hQ hK hs h
  |exit i=>exact hK (.exit i) s a w hs h
  |ret=>exact hK .ret s a w hs h
 |cond c x y ihx ihy =>
  intro K R s a w hd ho hQ hK hs jC;simp only[Q4p,Q40,Bool.and_eq_true]at hd ho;unfold Q4 at jC;split at jC
  ·rename_i t
   split at jC
   ·rename_i hv
    exact wp_cond_true (Q6L hs hv) (ihx K R s a w hd.1 ho.1 hQ hK hs jC)
   ·rename_i hv
    exact wp_cond_false (Q6L hs hv) (ihy K R s a w hd.2 ho.2 hQ hK hs jC)
   ·rename_i b hv
    obtain⟨h1,h2⟩:=jC;have e:∀c:Bool,lk t (s.put (some t) (.kb c)).tm=.kb c:=fun c=>if_pos rfl
    cases b with
    |true =>
     have jf:=Q4N hs hv true rfl;exact wp_cond_true (Q6L jf (e true)) (ihx K R _ a w hd.1 ho.1 hQ hK jf (h1 rfl))
    |false =>
     have jf:=Q4N hs hv false rfl;exact wp_cond_false (Q6L jf (e false)) (ihy K R _ a w hd.2 ho.2 hQ hK jf (h2 rfl))
   ·exact jC.elim
  ·exact wp_cond_true rfl (ihx K R s a w hd.1 ho.1 hQ hK hs jC)
  ·exact wp_cond_false rfl (ihy K R s a w hd.2 ho.2 hQ hK hs jC)
  ·exact jC.elim
 |block id c ih =>
  intro K R s a w hd ho hQ hK hs jC;simp only[Q4p,Q40]at hd ho;refine wp_block (ih _ _ s a w hd ho (fun c a d v w h=>hQ c a d v w h) (fun e s a w hs h=>?_) hs jC)
  cases e with
  |normal=>exact hK .normal s a w hs h
  |ret=>exact hK .ret s a w hs h
  |exit i =>
   show Exit.inBlock id R (.exit i) a w;simp only[Exit.inBlock];simp only at h
   by_cases hi:i=id
   ·rw[if_pos hi]at h ⊢
    exact hK .normal s a w hs h
   ·rw[if_neg hi]at h ⊢
    exact hK (.exit i) s a w hs h
 |loop c ih =>
  intro K R s a w hd ho hQ hK hs jC;refine wp_mono (jC a w hs) (fun e a' w' h=>?_)
  obtain⟨e',s',rfl,jf,h'⟩:=h;exact hK e' s' a' w' jf h'
 |exit i=>intro K R s a w _ _ _ hK hs jC;exact wp_exit (hK (.exit i) s a w hs jC)
 |ret=>intro K R s a w _ _ _ hK hs jC;exact wp_ret (hK .ret s a w hs jC)
 |_=>intro K R s a w _ _ _ _ _ jC;exact jC.elim
end
