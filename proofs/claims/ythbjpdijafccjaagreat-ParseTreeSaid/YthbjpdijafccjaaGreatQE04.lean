/-
  Parts of the proof, joined: An Ao Ap Aq Axa Axb Ar As At Au Av Aw Ty Ax Ay Az Da. Conditions: as each theorem says.
-/
import Derived.Test.YthbjpdijafccjaaGreatQE03
import Derived.Great.BuildSlice
import Derived.Laws.Sem
import Derived.Test.YthbjpdijafccjaaGreatProg
import Derived.Shelf.Abstract
set_option maxRecDepth 100000
set_option maxHeartbeats 8000000
namespace Go.Proofs.YthbjpdijafccjaaGreat
open Go.RowKit Go.Lib
section
variable {w w':World} {g g':Gh} {ob ob':List Ob}
theorem Step.new (M:Mem w g ob)(o:Obj)(x:Ob):Step w g ob (w.alloc o) (g.new w ob) (ob++[x]):=by
 refine⟨rfl,rfl,rfl,by simp,fun b hb _=>Q3X hb,fun b id hG=>?_,fun b o h=>.inl h,Ext.new M o x,by simp⟩
 simp only[Gh.new] at hG
 split at hG
 ·rename_i h;exact .inr (by omega)
 ·exact .inl ⟨id,hG⟩
theorem Q37 (b:Nat):∀ (vs:List Value) (o:Nat) (W:World),(W.setCells b o vs).os=W.os∧(W.setCells b o vs).tape=W.tape∧(W.setCells b o vs).output=W.output
 | [],_,_=>⟨rfl,rfl,rfl⟩
 |v::r,o,W=>Q37 b r (o+1) (W.setCell ⟨b,o,none⟩ v)
theorem Step.store (M:Mem w g ob){id:Nat}{cs:List AV}(h:ob[id]?=some (.box cs))(off:Nat)(vs:List Value)(us:List AV):Step w g ob (w.setCells (g.loc id) off vs) g (ob.set id (.box us)):=by
 refine⟨?_,?_,?_,by rw[Q34];exact Nat.le_refl _,fun b hb hG=>?_,fun b id hG=>.inl ⟨id,hG⟩,fun b o h=>.inl h,Ext.store M h off vs us,by simp⟩
 ·exact (Q37 _ _ _ _).1
 ·exact (Q37 _ _ _ _).2.1
 ·exact (Q37 _ _ _ _).2.2
 ·have hG':=(M.box id cs h).1
  exact Q1G (k:=0) (fun e=>by rw[e,hG'] at hG;cases hG)
theorem Step.immNew (M:Mem w g ob)(hb:Below w.heap.size w w'):Step w g ob w' (g.imm w w') ob :=
 ⟨hb.os,hb.tape,hb.output,hb.size,fun b h _=>hb.block b h,fun b id hG=>.inl ⟨id,hG⟩,fun b o h=>by
  rcases h with h|⟨h,_⟩
  ·exact .inl h
  ·exact .inr (.inr h),Ext.immNew M hb,Nat.le_refl _⟩
theorem Step.grow (M:Mem w g ob){id et sz ep:Nat}{fz fz':Bool}{xs xs':List AV}(h:ob[id]?=some (.row et sz fz ep xs))
  {row vb:Option Nat} (hg:w.grownBy w' row) (hrow:∀ b,row=some b→g.G b=some id) (hvb:∀ b,vb=some b→row=some b∨(w.heap.size≤b∧b<w'.heap.size)) (E:Ext w g ob w' (g.grow id vb) (ob.set id (.row et sz fz' (ep+1) xs'))) :
  Step w g ob w' (g.grow id vb) (ob.set id (.row et sz fz' (ep+1) xs')) :=
 ⟨hg.os,hg.tape,hg.output,hg.size,fun b hb hG=>hg.block b hb (fun e=>by rw[hrow b e.symm] at hG;cases hG),fun b i hG=>by
  rcases Gh.grow_of hG with ⟨h1,_⟩|⟨h1,_⟩
  ·rcases hvb b h1 with h2|h2
   ·exact .inl ⟨_,hrow b h2⟩
   ·exact .inr h2.1
  ·exact .inl ⟨i,h1⟩,fun b o h=>.inl h,E,by simp⟩
end
section
variable {w:World} {g:Gh} {ob:List Ob}
theorem Ext.reRow {id et sz e:Nat}{fz:Bool}{xs:List AV}(h:ob[id]?=some (.row et sz fz e xs))(fz':Bool)(xs':List AV):Ext w g ob w g (ob.set id (.row et sz fz' (e+1) xs')):=by
 have hid:=Qb h
 refine⟨fun b o h=>⟨h,rfl⟩,fun _ _=>rfl,fun i hi=>?_,fun i hi=>?_,fun i et' sz' fz2 e2 xs2 hi=>?_,fun _ _ _ _=>⟨rfl,fun _ _ h=>h⟩⟩
 ·have:i≠id:=by rintro rfl;rw[h] at hi;exact hi
  rw[List.getElem?_set_ne (Ne.symm this)];exact hi
 ·have:i≠id:=by rintro rfl;rw[h] at hi;exact hi
  rw[List.getElem?_set_ne (Ne.symm this)];exact hi
 ·by_cases e':i=id
  ·subst e'
   rw[h] at hi
   cases hi
   exact⟨fz',e+1,xs',List.getElem?_set_self hid,by omega,fun he=>by omega⟩
  ·exact⟨fz2,e2,xs2,by rw[List.getElem?_set_ne (Ne.symm e')];exact hi,Nat.le_refl _,fun _=>⟨rfl,fun b hG=>⟨hG,rfl⟩⟩⟩
theorem Mem.reRow (M:Mem w g ob){id et sz e:Nat}{xs:List AV}(h:ob[id]?=some (.row et sz false e xs)){xs':List AV}(hw:∀ x∈xs',x.cells.length=sz):Mem w g (ob.set id (.row et sz false (e+1) xs')):=by
 have hid:=Qb h
 have E:=Ext.reRow (w:=w) (g:=g) h false xs'
 refine⟨fun i cs hi=>?_,fun i cs hi j u hj=>?_,fun i s p hi=>?_,fun b i hG=>⟨(M.own b i hG).1,by rw[List.length_set];exact (M.own b i hG).2⟩,fun b o hA=>⟨(M.imm b o hA).1,fun i hGi hs=>?_⟩,fun i et' sz' fz2 e2 xs2 hi=>?_,fun b hs=>?_,M.uniq⟩
 ·have e':i≠id:=by rintro rfl;rw[List.getElem?_set_self hid] at hi;cases hi
  rw[List.getElem?_set_ne (Ne.symm e')] at hi
  obtain⟨h1,cur,T,h2,h3⟩:=M.box i cs hi
  exact⟨h1,cur,T,h2,h3.ext E⟩
 ·have e':i≠id:=by rintro rfl;rw[List.getElem?_set_self hid] at hi;cases hi
  rw[List.getElem?_set_ne (Ne.symm e')] at hi
  exact M.fbox i cs hi j u hj
 ·have e':i≠id:=by rintro rfl;rw[List.getElem?_set_self hid] at hi;cases hi
  rw[List.getElem?_set_ne (Ne.symm e')] at hi
  exact M.iter i s p hi
 ·obtain⟨et',sz',e2,xs2,h3,h4⟩:=(M.imm b o hA).2 i hGi hs
  have e':i≠id:=by rintro rfl;rw[h] at h3;cases h3
  exact⟨et',sz',e2,xs2,by rw[List.getElem?_set_ne (Ne.symm e')];exact h3,h4⟩
 ·by_cases e':i=id
  ·subst e'
   rw[List.getElem?_set_self hid] at hi
   cases hi
   exact⟨(M.roww _ _ _ _ _ _ h).1,hw⟩
  ·rw[List.getElem?_set_ne (Ne.symm e')] at hi
   exact M.roww i _ _ _ _ _ hi
 ·obtain⟨i,et',sz',fz2,e2,xs2,h3,h4⟩:=M.nsub b hs
  by_cases e':i=id
  ·subst e'
   exact⟨i,_,_,_,_,_,h3,List.getElem?_set_self hid⟩
  ·exact⟨i,et',sz',fz2,e2,xs2,h3,by rw[List.getElem?_set_ne (Ne.symm e')];exact h4⟩
end
section
variable {P:Program} {ty:Tys} {w0:World} {g0:Gh} {o0:List Ob} {N:Nat} {Q:Ex→St→Prop}
def Q4v (ty:Tys):Op→Bool
 |.store _ _ _|.next _ _=>false
 |.call { callee:=.builtin .append,.. }=>false
 |.call { callee:=.value _,argTypes,.. }=>!argTypes.toList.any (QlQ ty)
 |.convert s d _=>!(s == d&&(Q4 s ty).sl)
 |_=>true
def Q6P (ty:Tys)(P:Program)(w0:World)(g0:Gh)(o0:List Ob)(N:Nat)(Q:Ex→St→Prop)(K:St→Tree)(op:Op)(w1:World)(a:Act)(w:World):Prop:=(Q4v ty op=true→LeB w1 w)∧∃ s,Sim w0 g0 o0 N s a w∧(K s).ok P w0 g0 o0 N Q
theorem QfX {w w':World}{g g':Gh}{s:St}{ob':List Ob}{a:Act}(hS:Q1s w g s a)(E:Ext w g s.ob w' g' ob'){d:Option Nat}(hd:∀ t,d=some t→t<a.tmps.size){v:Value}{x:AV}(hv:ARel w' g' ob' v x) :
  Q1s w' g' (St.put ⟨s.tm,ob'⟩ d x) (a.put d v):=by
 intro t
 cases d with
 |none=>exact (hS t).ext E
 |some d =>
  have hlt:=hd d rfl
  show ARel w' g' ob' ((a.tmps.setIfInBounds d v).getD t undef) (if t=d then x else lk t s.tm)
  by_cases e:t=d
  ·subst e
   rw[if_pos rfl]
   have:(a.tmps.setIfInBounds t v).getD t undef=v:=by simp[Array.getD_eq_getD_getElem?,hlt]
   rw[this];exact hv
  ·rw[if_neg e]
   have:(a.tmps.setIfInBounds d v).getD t undef=a.tmps.getD t undef:=by
    simp only[Array.getD_eq_getD_getElem?]
    rw[Array.getElem?_setIfInBounds_ne (Ne.symm e)]
   rw[this];exact (hS t).ext E
theorem Q2J {s:St}{a:Act}{w w':World}{g g':Gh}{ob':List Ob}(hs:Sim w0 g0 o0 N s a w)(hS:Q1s w g s a)(h0:Step w0 g0 o0 w g s.ob)(M':Mem w' g' ob')(h1:Step w g s.ob w' g' ob')
  {d:Option Nat} (hd:∀ t,d=some t→t<N) {v:Value} {x:AV} (hv:ARel w' g' ob' v x):Sim w0 g0 o0 N (St.put ⟨s.tm,ob'⟩ d x) (a.put d v) w':=by
 refine⟨?_,?_,g',?_,QfX hS h1.ext (fun t ht=>by rw[hs.size];exact hd t ht) hv,?_⟩
 ·cases d<;>exact hs.defers
 ·cases d with
  |none=>exact hs.size
  |some d=>show (a.tmps.setIfInBounds d v).size=N;rw[Array.size_setIfInBounds];exact hs.size
 ·cases d<;>exact M'
 ·cases d<;>exact h0.trans h1
theorem Q2n {S:Sem Value}{W W':World}{v:Value}(h:S.run P W=.ok v W'):(do pure (Next.value (←S)):Sem Next).run P W=.ok (.value v) W':=by
 rw[Sem.run_bind,h];rfl
theorem Q6c {o:Oper}{a:Act}{w w':World}{K:Act→World→Prop}{R:Exit→Act→World→Prop}{v:Value}(h:(execOp a.eval o).run P w=.ok (.value v) w')(hk:K (a.put o.dst v) w'):o.wp P a w K R:=by
 unfold Oper.wp
 rw[h]
 exact hk
theorem Q7m {s:St}{a:Act}{w:World}(x:Operand)(hs:Sim w0 g0 o0 N s a w):Sim w0 g0 o0 N (Q9Q std s x) a w:=by
 unfold Q9Q
 split
 ·rename_i t
  split
  ·rename_i id ep k hv
   split
   ·rename_i et sz e xs hob
    split
    ·rename_i he
     subst he
     obtain⟨g,M,hS,h0⟩:=hs.rel
     have hr:=hS t
     rw[hv] at hr
     obtain⟨h1,et',sz',fz',e',xs',h2,h3,h4⟩:=hr
     rw[hob] at h2;cases h2
     obtain⟨h5,h6,h7⟩:=h4 rfl
     have ec:std.cut xs 0 k=xs.take k.toNat:=by simp[std]
     have E:=Ext.reRow (w:=w) (g:=g) hob false (std.cut xs 0 k)
     have M':=M.reRow hob (xs':=std.cut xs 0 k) (fun y hy=>(M.roww _ _ _ _ _ _ hob).2 y (by rw[ec] at hy;exact List.mem_of_mem_take hy))
     refine⟨hs.defers,hs.size,g,M',fun u=>?_,h0.trans ⟨rfl,rfl,rfl,Nat.le_refl _,fun _ _ _=>rfl,fun b id h=>.inl ⟨id,h⟩,fun b o h=>.inl h,E,by simp⟩⟩
     show ARel w g _ _ (if u=t then .row id (e+1) else lk u s.tm)
     by_cases eu:u=t
     ·subst eu
      rw[if_pos rfl]
      exact⟨h1,et,sz,false,e+1,_,List.getElem?_set_self (Qb hob),Nat.le_refl _,fun _=>by rw[ec];exact h7⟩
     ·rw[if_neg eu];exact (hS u).ext E
    ·exact hs
   ·exact hs
  ·exact hs
 ·exact hs
theorem Qdy {K:St→Tree}{o:Oper}{s:St}{a:Act}{w:World}{R:Exit→Act→World→Prop}(hs:Sim w0 g0 o0 N s a w)(hd:∀ t,o.dst=some t→t<N)
  {x:AV} (hy:∀ g,Mem w g s.ob→Q1s w g s a→Yld P w g s a o (Q82 o.op) x) (hok:(K (St.put s o.dst x)).ok P w0 g0 o0 N Q):o.wp P a w (Q6P ty P w0 g0 o0 N Q K o.op w) R:=by
 obtain⟨g,M,hS,h0⟩:=hs.rel
 obtain⟨v,h1,h2⟩:=hy g M hS
 exact Q6c (h1 w (fun _=>LeB.refl w)) ⟨fun _=>LeB.refl w,_,Q2J hs hS h0 M Step.refl hd h2,hok⟩
theorem Qii (hT:TyOk P ty){K:St→Tree}{o:Oper}{s:St}{a:Act}{w:World}{R:Exit→Act→World→Prop}(hs:Sim w0 g0 o0 N s a w)(hd:∀ t,o.dst=some t→t<N)
  {T:Nat} (ho:o.op=.alloc T) (hk:(Q4 T ty).ok=true) (hok:(K (St.put ⟨s.tm,s.ob++[.box ((Q4 T ty).zero.map .val)]⟩ o.dst (.box s.ob.length 0))).ok P w0 g0 o0 N Q):o.wp P a w (Q6P ty P w0 g0 o0 N Q K o.op w) R:=by
 obtain⟨g,M,hS,h0⟩:=hs.rel
 have ti:=Q32 hT hk
 obtain⟨z,hz,hzr⟩:=ti.zeroV
 have hr:(execOp a.eval o).run P w=.ok (.value (.pointer (some ⟨w.heap.size,0,none⟩))) (w.alloc (.cells z.cells T)):=by
  simp only[execOp,ho]
  refine Q2n ?_
  simp only[Instr.alloc,Sem.run_bind,hzr,Result.andThen_ok,newVar,newRow,run_newObj,Sem.run_pure]
  rfl
 have hc:ARelC w g s.ob z.cells.toList ((Q4 T ty).zero.map .val):=by rw[hz];exact Q9U ti.zone
 have M':=M.new (.cells z.cells T) (.box ((Q4 T ty).zero.map .val)) (fun cs h=>by cases h;exact⟨_,_,rfl,hc⟩) (fun cs h=>by cases h) (fun s p h=>by cases h) (fun et sz fz e xs h=>by cases h)
 refine Q6c hr ⟨fun _=>(Below.refl _ w).alloc (Nat.le_refl _) _,_,Q2J hs hS h0 M' (Step.new M _ _) hd ?_,hok⟩
 refine⟨by simp[Gh.new],?_⟩
 rw[Q3S];trivial
theorem QlG {K:St→Tree}{o:Oper}{s:St}{a:Act}{w:World}{R:Exit→Act→World→Prop}(hs:Sim w0 g0 o0 N s a w)(hd:∀ t,o.dst=some t→t<N)
  {T:Nat} {x:Operand} (ho:o.op=.box T x) (hl:(ev s x).live=true) (hok:(K (St.put ⟨s.tm,s.ob++[.box (ev s x).cells]⟩ o.dst (.box s.ob.length 0))).ok P w0 g0 o0 N Q):o.wp P a w (Q6P ty P w0 g0 o0 N Q K o.op w) R:=by
 obtain⟨g,M,hS,h0⟩:=hs.rel
 have hr:(execOp a.eval o).run P w=.ok (.value (.pointer (some ⟨w.heap.size,0,none⟩))) (w.alloc (.cells (a.eval x).cells T)):=by
  simp only[execOp,ho]
  refine Q2n ?_
  simp only[Instr.box,Sem.run_bind,Result.andThen_ok,newVar,newRow,run_newObj,Sem.run_pure]
  rfl
 have hc:=(QN hS x).cells hl
 have M':=M.new (.cells (a.eval x).cells T) (.box (ev s x).cells) (fun cs h=>by cases h;exact⟨_,_,rfl,hc⟩) (fun cs h=>by cases h) (fun s p h=>by cases h) (fun et sz fz e xs h=>by cases h)
 refine Q6c hr ⟨fun _=>(Below.refl _ w).alloc (Nat.le_refl _) _,_,Q2J hs hS h0 M' (Step.new M _ _) hd ?_,hok⟩
 refine⟨by simp[Gh.new],?_⟩
 rw[Q3S];trivial
theorem Qi1 (hT:TyOk P ty){K:St→Tree}{o:Oper}{s:St}{a:Act}{w:World}{R:Exit→Act→World→Prop}(hs:Sim w0 g0 o0 N s a w)(hd:∀ t,o.dst=some t→t<N)
  {T:Nat} {x y:Operand} (ho:o.op=.store T x y) {id off:Nat} {c:List AV} (hx:ev s x=.box id off) (hb:s.ob[id]?=some (.box c)) (hl:(ev s y).live=true) (hk:(Q4 T ty).ok=true)
  (hsz:(ev s y).cells.length=(Q4 T ty).size) (hle:off+(ev s y).cells.length≤c.length)
  (hok:(K (St.put ⟨s.tm,s.ob.set id (.box (setCells c off (ev s y).cells))⟩ o.dst .dead)).ok P w0 g0 o0 N Q):o.wp P a w (Q6P ty P w0 g0 o0 N Q K o.op w) R:=by
 obtain⟨g,M,hS,h0⟩:=hs.rel
 have hc:=(QN hS y).cells hl
 have hxr:=QN hS x
 rw[hx] at hxr
 have hv:a.eval x=.pointer (some ⟨g.loc id,off,none⟩):=hxr.1
 obtain⟨hG,cur,T',hh,hcur⟩:=M.box id c hb
 have hlen:(a.eval y).cells.size=(ev s y).cells.length:=by simpa using hc.1
 have hcl:cur.size=c.length:=by simpa using hcur.1
 have h1:∀ v∈(a.eval y).cells.toList,v.oneCell'=true:=fun v hv=>by
  obtain⟨j,hj,rfl⟩:=List.mem_iff_getElem.1 hv
  exact (hc.2 j _ _ (List.getElem?_eq_getElem hj) (List.getElem?_eq_getElem (by rw[←hc.1];exact hj))).2
 have hst:=run_storeCells_cells (P:=P) (g.loc id) off (a.eval y).cells.toList 0 w (fun j hj=>by
   have:off+j<cur.size:=by simp at hj;omega
   simp[World.cell?,hh,this]) (fun j hj=>by simp[World.frozen?,hh]) h1
 rw[Nat.add_zero] at hst
 have hsT:=(Q32 hT hk).size w
 have hr:(execOp a.eval o).run P w=.ok .skip (w.setCells (g.loc id) off (a.eval y).cells.toList):=by
  have hne:¬ ((a.eval y).cells.size≠(Q4 T ty).size):=by omega
  simp only[execOp,ho,Instr.storeAt,hv,Instr.sureAddr,storeVar,Sem.run_bind,Sem.run_pure,Result.andThen_ok,hsT,hne,if_false,hst]
 have M':=M.store hb hc hle
 have:(execOp a.eval o).run P w=.ok .skip (w.setCells (g.loc id) off (a.eval y).cells.toList):=hr
 unfold Oper.wp
 rw[hr]
 show Q6P ty P w0 g0 o0 N Q K o.op w (a.put o.dst undef) _
 exact⟨fun h=>by simp[ho,Q4v] at h,_,Q2J hs hS h0 M' (Step.store M hb _ _ _) hd (v:=undef) (x:=.dead) trivial,hok⟩
theorem Qa4 (hT:TyOk P ty){w:World}{s:St}{a:Act}{K:St→Tree}{o:Oper}{op:BinOp}{T T':Nat}{x y:Operand}(ho:o.op=.binOp op T x y T')
  {xs:List AV} (hn:Qm0 s x y=some xs) (hk:(Q4 T ty).kd=2) (b:Bool) (hop:op=if b then .eql else .neq)
  (hok:(std.emp xs→(K (St.put s o.dst (.val (.bool b)))).ok P w0 g0 o0 N Q)∧(K (St.put s o.dst (.val (.bool !b)))).ok P w0 g0 o0 N Q) :
  ∃ z,(K (St.put s o.dst z)).ok P w0 g0 o0 N Q∧∀ g rd,Q1s w g s a→Yld P w g s a o rd z:=by
 unfold Qm0 at hn
 split at hn
 ·rename_i sz xs' n c hx hy
  obtain rfl:xs'=xs:=by simpa using hn
  by_cases hg:∃ g,Q1s w g s a
  ·obtain⟨g,hS⟩:=hg
   have hxr:=QN hS x
   have hyr:=QN hS y
   rw[hx] at hxr
   rw[hy] at hyr
   have hyv:=hyr.valEq
   have hxr:PRel w g.A (a.eval x) (.slc sz xs'):=hxr
   generalize hv:a.eval x=v at hxr
   cases hxr with
   |nil =>
    refine⟨_,hok.1 rfl,fun g rd _=>Q1E (u:=.slice none 0 0) ho hv hyv (by simp) (by simp) (r:=.bool b) (fun W=>?_) rfl⟩
    have:=Q31 (P:=P) hT hk none 0 0 n c W
    subst hop
    cases b
    ·exact this.2
    ·exact this.1
   |slc bk of cp _ _ f hc hm hw hcell hrel =>
    refine⟨_,hok.2,fun g rd _=>Q1E ho hv hyv (by simp) (by simp) (r:=.bool !b) (fun W=>?_) rfl⟩
    have:=Q31 (P:=P) hT hk (some ⟨bk,of,none⟩) xs'.length cp n c W
    subst hop
    cases b
    ·exact this.2
    ·exact this.1
  ·exact⟨_,hok.2,fun g rd hS=>absurd ⟨g,hS⟩ hg⟩
 ·cases hn
theorem QaK {w:World}{g:Gh}{ob:List Ob}:∀ (cs ds:List AV) (us vs:List Value) (sh:List Srt) (b:Bool),Qis std cs ds=some (sh,b)→ARelC w g ob us cs→ARelC w g ob vs ds →
  us.map Q4a=sh.map some∧vs.map Q4a=sh.map some∧b=(us.zip vs).all fun q=>eqV q.1 q.2
 | [],[],us,vs,sh,b,h,hu,hv=>by
  obtain⟨rfl,rfl⟩:[]=sh∧true=b:=by simpa[Qis] using h
  obtain rfl:us=[]:=List.eq_nil_of_length_eq_zero hu.1
  obtain rfl:vs=[]:=List.eq_nil_of_length_eq_zero hv.1
  exact⟨rfl,rfl,rfl⟩
 | [],_::_,_,_,_,_,h,_,_=>by cases h
 |_::_,[],_,_,_,_,h,_,_=>by cases h
 |x::r,y::r',us,vs,sh,b,h,hu,hv=>by
  cases us with
  |nil=>exact absurd hu.1 (by simp)
  |cons u us =>
   cases vs with
   |nil=>exact absurd hv.1 (by simp)
   |cons v vs =>
    simp only[Qis] at h
    split at h
    ·rename_i s1 b1 s2 b2 h1 h2
     obtain⟨rfl,rfl⟩:s1::s2=sh∧std.andB b1 b2=b:=by simpa using h
     obtain⟨i1,i2,i3⟩:=QaK r r' us vs s2 b2 h2 ⟨by simpa using hu.1,fun j a c ha hc=>hu.2 (j+1) a c (by simpa using ha) (by simpa using hc)⟩ ⟨by simpa using hv.1,fun j a c ha hc=>hv.2 (j+1) a c (by simpa using ha) (by simpa using hc)⟩
     have hu0:=(hu.2 0 u x rfl rfl).1
     have hv0:=(hv.2 0 v y rfl rfl).1
     unfold eqC at h1
     split at h1
     ·rename_i k a k' c
      split at h1
      ·rename_i hk
       subst hk
       obtain⟨rfl,rfl⟩:Srt.int k=s1∧std.eqI a c=b1:=by simpa using h1
       cases (show u=_ from ARel.valEq (g:=g) (w:=w) (ob:=ob) hu0)
       cases (show v=_ from ARel.valEq (g:=g) (w:=w) (ob:=ob) hv0)
       exact⟨by simp[Q4a,i1],by simp[Q4a,i2],by rw[i3];rfl⟩
      ·cases h1
     ·rename_i a c
      obtain⟨rfl,rfl⟩:Srt.boo=s1∧std.eqB a c=b1:=by simpa using h1
      cases (show u=_ from ARel.valEq (g:=g) (w:=w) (ob:=ob) hu0)
      cases (show v=_ from ARel.valEq (g:=g) (w:=w) (ob:=ob) hv0)
      exact⟨by simp[Q4a,i1],by simp[Q4a,i2],by rw[i3];rfl⟩
     ·rename_i a c
      obtain⟨rfl,rfl⟩:Srt.str=s1∧std.eqS a c=b1:=by simpa using h1
      cases (show u=_ from ARel.valEq (g:=g) (w:=w) (ob:=ob) hu0)
      cases (show v=_ from ARel.valEq (g:=g) (w:=w) (ob:=ob) hv0)
      exact⟨by simp[Q4a,i1],by simp[Q4a,i2],by rw[i3];rfl⟩
     ·cases h1
    ·cases h
theorem QdB {w:World}{s:St}{a:Act}{o:Oper}{op:BinOp}{T T':Nat}{x y:Operand}(ho:o.op=.binOp op T x y T'){sh:List Srt}{b:Bool}(h:Qik std s op x y=some (sh,b))(he:EqOk P T sh){g:Gh}{rd:Bool}(hS:Q1s w g s a) :
  Yld P w g s a o rd (.val (.bool b)):=by
 unfold Qik at h
 split at h
 ·rename_i cs ds hx hy
  split at h
  ·rename_i sh' b' hc
   have hxr:=QN hS x
   have hyr:=QN hS y
   rw[hx] at hxr
   rw[hy] at hyr
   obtain⟨us,hu,hur⟩:=hxr
   obtain⟨vs,hv,hvr⟩:=hyr
   obtain⟨e1,e2,e3⟩:=QaK cs ds us.toList vs.toList sh' b' hc hur hvr
   split at h
   ·obtain⟨rfl,rfl⟩:sh'=sh∧b'=b:=by simpa using h
    refine Q2q (S:=do eqGuard .eql T x y (a.eval x) (a.eval y);binOp .eql T (a.eval x) (a.eval y)) (fun W=>by simp only[execOp,ho]) ⟨.bool b',fun W _=>?_,.val _ rfl⟩
    obtain⟨h1,_,h3,_⟩:=he us.toList vs.toList x y W e1 e2
    rw[Sem.run_bind,hu,hv,h1]
    rw[e3];exact h3
   ·obtain⟨rfl,rfl⟩:sh'=sh∧std.notB b'=b:=by simpa using h
    refine Q2q (S:=do eqGuard .neq T x y (a.eval x) (a.eval y);binOp .neq T (a.eval x) (a.eval y)) (fun W=>by simp only[execOp,ho]) ⟨.bool !b',fun W _=>?_,.val _ rfl⟩
    obtain⟨_,h2,_,h4⟩:=he us.toList vs.toList x y W e1 e2
    rw[Sem.run_bind,hu,hv,h2]
    rw[e3];exact h4
   ·cases h
  ·cases h
 ·cases h
theorem QeR (hT:TyOk P ty){w:World}{s:St}{a:Act}{cs:Nat→List AV→List Ob→Option (AV×List Ob)}{K:St→Tree}{o:Oper}{op:BinOp}{T T':Nat}{x y:Operand}(ho:o.op=.binOp op T x y T')
  (hok:(aop std ty cs K o s).ok P w0 g0 o0 N Q) :
  (Q3s std ty K o s o.op).ok P w0 g0 o0 N Q∨∃ z,(K (St.put s o.dst z)).ok P w0 g0 o0 N Q∧∀ g rd,Q1s w g s a→Yld P w g s a o rd z:=by
 simp only[aop,ho] at hok
 split at hok
 ·rename_i xs hn
  right
  split at hok
  ·rename_i hk
   split at hok
   ·exact Qa4 hT ho hn hk true rfl hok
   ·exact Qa4 hT ho hn hk false rfl hok
   ·exact hok.elim
  ·exact hok.elim
 ·split at hok
  ·rename_i sh b he
   exact .inr ⟨_,hok.2,fun g rd hS=>QdB ho he hok.1 hS⟩
  ·left;rw[ho];exact hok
theorem Qdp {s:St}{a:Act}{w:World}(x:Operand)(hs:Sim w0 g0 o0 N s a w):Sim w0 g0 o0 N (Qlq std s x) a w:=by
 have go:∀ (t:Nat) (v:AV) (ob:List Ob),frz std true 9 s.ob (lk t s.tm)=some (v,ob)→Sim w0 g0 o0 N ⟨(t,v)::s.tm,ob⟩ a w:=fun t v ob he=>by
  obtain⟨g,M,hS,h0⟩:=hs.rel
  obtain⟨g',M',E,hr,hL⟩:=QhR M (hS t) he
  refine⟨hs.defers,hs.size,g',M',fun u=>?_,h0.trans (Step.ghost E hL)⟩
  show ARel w g' _ _ (if u=t then v else lk u s.tm)
  by_cases eu:u=t
  ·subst eu
   rw[if_pos rfl]
   exact hr
  ·rw[if_neg eu];exact (hS u).ext E
 unfold Qlq
 split
 ·rename_i t
  split
  ·rename_i id ep hv
   split
   ·rename_i v ob he
    exact go t v ob (by rw[hv];exact he)
   ·exact hs
  ·rename_i id ep k hv
   split
   ·rename_i v ob he
    exact go t v ob (by rw[hv];exact he)
   ·exact hs
  ·exact hs
 ·exact hs
end
end Go.Proofs.YthbjpdijafccjaaGreat
namespace Go.Proofs.YthbjpdijafccjaaGreat
open Go.RowKit Go.Lib
section
variable {P:Program} {ty:Tys} {w0:World} {g0:Gh} {o0:List Ob} {N:Nat} {Q:Ex→St→Prop} {w w':World} {g g':Gh} {ob ob':List Ob}
theorem Qhw {v:Value}{x:AV}(h:ARel0 w g ob v x)(hp:x.pur0=true):PRel w g.A v x:=by cases x<;>first|exact h|cases hp
theorem QgQ {vs:List Value}{x:AV}{v:Value}(h:ARel1 w g ob v x)(hp:x.pur=true):Alike w g.A v.cells.toList x.cells:=by
 have hl:x.live=true:=by cases x<;>first|rfl|cases hp
 have hc:=h.to.cells hl
 refine⟨hc.1,fun j y u hy hu=>Qhw (hc.2 j y u hy hu).1 ?_⟩
 have hm:=List.mem_of_getElem? hu
 cases x with
 |agg cs=>exact List.all_eq_true.1 hp u hm
 |val a=>obtain rfl:u=AV.val a:=by simpa[AV.cells] using hm
         rfl
 |slc a b=>obtain rfl:u=AV.slc a b:=by simpa[AV.cells] using hm
           rfl
 |opt a=>obtain rfl:u=AV.opt a:=by simpa[AV.cells] using hm
         rfl
 |ref a=>obtain rfl:u=AV.ref a:=by simpa[AV.cells] using hm
         rfl
 |_=>cases hp
theorem Q8g {sz:Nat}:∀ (vs:List Value) (k:Nat) (c:Array Value),(∀ v∈vs,v.cells.size=sz)→(k+vs.length) * sz≤c.size →
  ∃ c',Instr.fill (fun i=>some (i * sz,sz)) c ((vs.zipIdx k).map fun x=>(x.2,x.1))=some c'∧c'.toList=c.toList.take (k * sz)++(vs.flatMap (·.cells.toList)++c.toList.drop ((k+vs.length) * sz))
 | [],k,c,_,_=>⟨c,rfl,by simp⟩
 |v::r,k,c,hv,hl=>by
  have h1:=hv v List.mem_cons_self
  have hle:k * sz+sz≤c.size:=by
   have:(k+1) * sz≤(k+(v::r).length) * sz:=Nat.mul_le_mul_right _ (by simp)
   rw[Nat.add_mul,Nat.one_mul] at this
   omega
  have hfo:=QdF (k * sz) v.cells.toList 0 c
  have e1:(v.cells.toList.take (c.size-(k * sz+0)))=v.cells.toList:=List.take_of_length_le (by simp;omega)
  rw[e1,Nat.add_zero,Array.length_toList,h1] at hfo
  generalize hc2:(v.cells.toList.zipIdx 0).foldl (fun cs (x:Value×Nat)=>cs.setIfInBounds (k * sz+x.2) x.1) c=c2 at hfo
  have hsz2:c2.size=c.size:=by
   have:=congrArg List.length hfo
   simp only[Array.length_toList,List.length_append,List.length_take,List.length_drop,h1] at this
   omega
  obtain⟨c',h3,h4⟩:=Q8g r (k+1) c2 (fun v h=>hv v (List.mem_cons_of_mem _ h)) (by rw[hsz2];simpa[Nat.add_assoc,Nat.add_comm 1] using hl)
  refine⟨c',?_,?_⟩
  ·simp only[List.zipIdx_cons,List.map_cons,Instr.fill]
   rw[if_neg]
   ·rw[←h3,←hc2]
    congr 1
    rw[←Array.foldl_toList,Array.toList_zipIdx]
   ·simp only[Bool.or_eq_true,decide_eq_true_eq,bne_iff_ne,ne_eq,not_or]
    omega
  ·rw[h4,hfo]
   have e2:(k+1) * sz=k * sz+sz:=by rw[Nat.add_mul,Nat.one_mul]
   have e3:(k+1+r.length) * sz=k * sz+sz+r.length * sz:=by rw[Nat.add_mul,e2]
   have e4:(k+(v::r).length) * sz=k * sz+sz+r.length * sz:=by rw[List.length_cons,←e3];congr 1;omega
   have h5:(c.toList.take (k * sz)).length=k * sz:=by rw[List.length_take,Array.length_toList];omega
   rw[e2,e3,e4,List.flatMap_cons]
   have h6:(v.cells.toList).length=sz:=by rw[Array.length_toList,h1]
   generalize hX:c.toList.take (k * sz)=X at h5
   have t1:(X++(v.cells.toList++c.toList.drop (k * sz+sz))).take (k * sz+sz)=X++v.cells.toList:=by
    rw[←List.append_assoc]
    exact List.take_left' (by rw[List.length_append];omega)
   have t2:(X++(v.cells.toList++c.toList.drop (k * sz+sz))).drop (k * sz+sz+r.length * sz)=c.toList.drop (k * sz+sz+r.length * sz):=by
    rw[←List.append_assoc,List.drop_append,List.drop_eq_nil_of_le (by rw[List.length_append];omega),List.nil_append,List.length_append,h5,h6,Nat.add_sub_cancel_left,List.drop_drop]
   rw[t1,t2]
   simp only[List.append_assoc]
theorem Q70 {A:Nat→Nat→Prop}:∀ (vs:List Value) (xs:List AV),vs.length=xs.length→(∀ (j:Nat) v x,vs[j]?=some v→xs[j]?=some x→Alike w A v.cells.toList x.cells)→Alike w A (vs.flatMap (·.cells.toList)) (QL xs)
 | [],xs,hl,_=>by
  have:xs=[]:=List.eq_nil_of_length_eq_zero hl.symm
  subst this;exact Alike.nil
 |v::vs,[],hl,_=>by simp at hl
 |v::vs,x::xs,hl,h=>by
  rw[List.flatMap_cons,QL,List.flatMap_cons]
  exact (h 0 v x rfl rfl).append (Q70 vs xs (by simpa using hl) (fun j v x h1 h2=>h (j+1) v x (by simpa using h1) (by simpa using h2)))
theorem KidV.nil {id:Nat}:KidV w g id (.slice none 0 0):=⟨0,[],World.ownsRow_nil _ _ _ _,fun b h=>by cases h⟩
theorem Mem.sub_lt (M:Mem w g ob){b:Nat}(h:g.sub b=true):b<w.heap.size:=by
 obtain⟨id,_,_,_,_,_,h1,_⟩:=M.nsub b h
 exact (M.own b id h1).1
theorem Mem.sub_new (M:Mem w g ob){b:Nat}(h:w.heap.size≤b):g.sub b=false:=by
 cases hs:g.sub b with
 |false=>rfl
 |true=>have:=M.sub_lt hs;omega
theorem Q7v {sz:Nat}:∀ (xs:List AV),Q8N xs=true→(∀ x∈xs,x.cells.length=sz)→∀ (j:Nat) u,(QL xs)[j]?=some u→j % sz=1→u=.val (.slice none 0 0)
 | [],_,_,j,u,h,_=>by simp at h
 |x::r,hk,hw,j,u,h,hj=>by
  unfold Q8N at hk
  split at hk
  ·rename_i a hc
   have hx:=hw x (List.mem_cons_self ..)
   have e:QL (x::r)=a :: .val (.slice none 0 0)::QL r:=by simp[hc]
   rw[e] at h
   obtain rfl:2=sz:=by rw[hc] at hx;exact hx
   match j,h,hj with
   |0,_,hj=>cases hj
   |1,h,_=>simpa using h.symm
   |j+2,h,hj=>exact Q7v r hk (fun y hy=>hw y (List.mem_cons_of_mem _ hy)) j u (by simpa using h) (by omega)
  ·cases hk
theorem QcA {E sz:Nat}{xs:List AV}{ys:List Value}(hs:Qa8 E xs=true)(hal:Alike w g.A ys (QL xs))(hw:∀ x∈xs,x.cells.length=sz)(he:E=Q5C){j:Nat}{y:Value}(hy:ys[j]?=some y)(hj:j % sz=1) :
  y=.slice none 0 0:=by
 simp only[Qa8,he,if_true] at hs
 have hl:j<(QL xs).length:=by rw[←hal.1];exact Qb hy
 have hu:=List.getElem?_eq_getElem hl
 have:=hal.2 j y _ hy hu
 rw[Q7v xs hs hw j _ hu hj] at this
 exact (show y=_ from ARel.valEq (g:=g) (w:=w) (ob:=[]) this)
theorem Qad (hT:TyOk P ty){K:St→Tree}{o:Oper}{s:St}{a:Act}{w:World}{R:Exit→Act→World→Prop}(hs:Sim w0 g0 o0 N s a w)(hd:∀ t,o.dst=some t→t<N)
  {T len:Nat} {parts:Array (Nat×Operand)} (ho:o.op=.buildSlice T len parts) {xs:List AV} {ob:List Ob} (he:Q49 (frz std true 9) s.ob (parts.toList.map fun x=>ev s x.2)=some (xs,ob))
  (hsub:Qa8 (Q4 T ty).elem xs=true) (hel:Q60 ty T (Q4 (Q4 T ty).elem ty).size=true) (h1:Qj1 (Q4 (Q4 T ty).elem ty).size xs=true) (hp:xs.all AV.pur=true) (hlen:len≤4000) (hsz:(Q4 (Q4 T ty).elem ty).size≤4000)
  (hi:parts.toList.map (·.1)=List.range len)
  (hok:(K (St.put ⟨s.tm,ob++[.row (Q4 T ty).elem (Q4 (Q4 T ty).elem ty).size false 0 xs]⟩ o.dst (.row ob.length 0))).ok P w0 g0 o0 N Q):o.wp P a w (Q6P ty P w0 g0 o0 N Q K o.op w) R:=by
 obtain⟨g,M,hS,h0⟩:=hs.rel
 have hL:Q3E w g s.ob (parts.toList.map fun x=>a.eval x.2) (parts.toList.map fun x=>ev s x.2):=by
  refine⟨by simp,fun j v x hv hx=>?_⟩
  rw[List.getElem?_map,Option.map_eq_some_iff] at hv hx
  obtain⟨q,hq,rfl⟩:=hv
  obtain⟨q',hq',rfl⟩:=hx
  rw[hq] at hq';cases hq'
  have hr:=QN hS q.2
  exact hr.to1 (Q6x _ _ _ _ he _ (List.mem_map.2 ⟨q,List.mem_of_getElem? hq,rfl⟩))
 obtain⟨g1,M1,E1,L1,G1⟩:=QkH _ _ g s.ob xs ob M hL he
 obtain⟨e,hu,hee,te,hes,hpos⟩:=Q4H hT hel
 obtain⟨ie,z,hie,hies,hieb,hiz,hzc⟩:=te.i
 rw[hes] at hies
 subst hee
 generalize hE:(Q4 T ty).elem=E at *
 generalize hSZ:(Q4 E ty).size=sz at *
 have hvl:(parts.toList.map fun x=>a.eval x.2).length=xs.length:=L1.1
 have hpl:parts.toList.length=len:=by have:=congrArg List.length hi;simpa using this
 have hps:parts.size=len:=by simpa using hpl
 have hxl:xs.length=len:=by rw[←hvl,List.length_map,hpl]
 have hcs:∀ (j:Nat) v x,(parts.toList.map fun x=>a.eval x.2)[j]?=some v→xs[j]?=some x→Alike w g1.A v.cells.toList x.cells∧x.cells.length=sz:=fun j v x hv hx =>
  ⟨QgQ (vs:=[]) (L1.2 j v x hv hx) (List.all_eq_true.1 hp x (List.mem_of_getElem? hx)),by have:=List.all_eq_true.1 h1 x (List.mem_of_getElem? hx);simpa using this⟩
 have hv:∀ v∈(parts.toList.map fun x=>a.eval x.2),v.cells.size=sz:=fun v hv=>by
  obtain⟨j,hj,rfl⟩:=List.mem_iff_getElem.1 hv
  obtain⟨h2,h3⟩:=hcs j _ _ (List.getElem?_eq_getElem hj) (List.getElem?_eq_getElem (by omega))
  have:=h2.1
  rw[Array.length_toList] at this
  omega
 have hparts:(parts.map fun (i,x)=>(i,a.eval x)).toList=((parts.toList.map fun x=>a.eval x.2).zipIdx 0).map fun x=>(x.2,x.1):=by
  rw[Array.toList_map]
  refine List.ext_getElem? fun j=>?_
  simp only[List.getElem?_map,List.getElem?_zipIdx,Nat.zero_add]
  cases hj:parts.toList[j]? with
  |none=>rfl
  |some q =>
   have h4:(parts.toList.map (·.1))[j]?=some q.1:=by rw[List.getElem?_map,hj];rfl
   rw[hi,List.getElem?_range (by have:=Qb hj;omega)] at h4
   obtain rfl:j=q.1:=by simpa using h4
   rfl
 obtain⟨c',hf,hc'⟩:=Q8g (sz:=sz) (parts.toList.map fun x=>a.eval x.2) 0 ((Array.range (len * sz)).map (z.cells[· % z.cells.size]!)) hv (by simp[hps])
 have hcsz:c'.toList=(parts.toList.map fun x=>a.eval x.2).flatMap (·.cells.toList):=by
  rw[hc',Nat.zero_mul,List.take_zero,List.nil_append,Nat.zero_add,List.drop_eq_nil_of_le (by simp[hps]),List.append_nil]
 have hal:Alike w g1.A c'.toList (QL xs):=by
  rw[hcsz]
  exact Q70 _ _ hvl (fun j v x hv hx=>(hcs j v x hv hx).1)
 have hw:∀ x∈xs,x.cells.length=sz:=fun x hx=>by have:=List.all_eq_true.1 h1 x hx;simpa using this
 have hc'l:c'.size=len * sz:=by
  have:=hal.1
  rw[Q2R xs hw,hxl,Array.length_toList] at this
  exact this
 have hsmall:¬ len * sz > 2 ^ 24:=by
  have:len * sz≤4000 * 4000:=Nat.mul_le_mul hlen hsz
  omega
 have hr:(execOp a.eval o).run P w=.ok (.value (.slice (some ⟨w.heap.size,0,none⟩) len len)) (w.alloc (.cells c' E)):=by
  simp only[execOp,ho]
  refine Q2n ?_
  by_cases h0:len * sz=0
  ·have:c'=#[]:=by apply Array.eq_empty_of_size_eq_zero;omega
   subst this
   have hl0:len=0:=by
    rcases Nat.eq_zero_or_pos len with h|h
    ·exact h
    ·have:=Nat.mul_pos h hpos;omega
   subst hl0
   have hp0:parts=#[]:=by
    apply Array.ext'
    exact List.eq_nil_of_length_eq_zero hpl
   subst hp0
   simp[Instr.buildSlice,run_underlying hu,sizeOf,typeInfo,hie,Instr.fill,newRow]
   congr 2
   apply Array.eq_empty_of_size_eq_zero
   simp
  ·refine run_buildSlice w T E len _ c' ie z hu hie hiz (by rw[hies];exact hsmall) (by rw[hies];exact h0) ?_
   rw[hies,hparts]
   exact hf
 have hrow:RowV (w.alloc (.cells c' E)) (g1.new w ob) ob.length E sz (.slice (some ⟨w.heap.size,0,none⟩) len len) xs:=by
  refine⟨c'.toList,⟨by rw[Array.length_toList,hc'l,hxl],.inr ⟨w.heap.size,len,c',by rw[hxl],Nat.zero_le _,Q6l w _,by omega,by unfold maxLen;omega,hc'l,?_⟩⟩,fun b hb=>?_,hal.keep (Ext.new M1 (.cells c' E) (.row E sz false 0 xs)).A,hw,fun b hb=>?_,fun he j y hy hj=>?_⟩
  ·rw[hxl,←hc'l]
   exact List.take_of_length_le (by simp)
  ·obtain rfl:w.heap.size=b:=by simpa[Value.ownBlock] using hb
   simp[Gh.new]
  ·obtain rfl:w.heap.size=b:=by simpa[Value.ownBlock] using hb
   exact M1.sub_new (Nat.le_refl _)
  ·obtain rfl:=QcA hsub hal hw he hy hj
   exact⟨KidV.nil,fun _ _ b _ _ _ h=>by cases h⟩
 have M':=M1.new (.cells c' E) (.row E sz false 0 xs) (fun cs h=>by cases h) (fun cs h=>by cases h) (fun s p h=>by cases h) (fun et sz' fz e ys h=>by cases h;exact⟨hpos,hw⟩)
 have hS1:Q1s w g1 ⟨s.tm,ob⟩ a:=fun t=>(hS t).ext E1
 refine Q6c hr ⟨fun _=>(Below.refl _ w).alloc (Nat.le_refl _) _,_,Q2J (s:=⟨s.tm,ob⟩) ⟨hs.defers,hs.size,g1,M1,hS1,h0.trans (Step.ghost E1 G1)⟩ hS1 (h0.trans (Step.ghost E1 G1)) M' (Step.new M1 _ _) hd ?_,hok⟩
 exact⟨rfl,E,sz,false,0,xs,Q3S,Nat.le_refl _,fun _=>hrow⟩
end
end Go.Proofs.YthbjpdijafccjaaGreat
namespace Go.Proofs.YthbjpdijafccjaaGreat
open Go.RowKit Go.Lib
section
variable {P:Program} {ty:Tys} {w0:World} {g0:Gh} {o0:List Ob} {N:Nat} {Q:Ex→St→Prop} {w w':World} {g g':Gh} {ob ob':List Ob}
theorem Ext.addRow (x:Ob):Ext w g ob w g (ob++[x]) :=
 ⟨fun _ _ h=>⟨h,rfl⟩,fun _ _=>rfl,fun id h=>by rw[Q2t (Q46 h)];exact h,fun id h=>by rw[Q2t (Q4U h)];exact h,
  fun id et sz fz e xs h=>⟨fz,e,xs,by rw[Q2t (Qb h)];exact h,Nat.le_refl _,fun _=>⟨rfl,fun _ h=>⟨h,rfl⟩⟩⟩,fun _ _ _ _=>⟨rfl,fun _ _ h=>h⟩⟩
theorem Mem.addRow (M:Mem w g ob){et sz:Nat}(hs:0<sz):Mem w g (ob++[.row et sz false 0 []]):=by
 have E:=Ext.addRow (w:=w) (g:=g) (ob:=ob) (.row et sz false 0 [])
 have last:∀ {id:Nat} {y:Ob},(ob++[.row et sz false 0 []])[id]?=some y→id<ob.length∧ob[id]?=some y∨y=.row et sz false 0 []:=fun {id y} h=>by
  by_cases hl:id<ob.length
  ·rw[Q2t hl] at h;exact .inl ⟨hl,h⟩
  ·have hid:id=ob.length:=by have:=Qb h;simp at this;omega
   subst hid
   rw[Q3S] at h
   exact .inr (by simpa using h.symm)
 refine⟨fun id cs h=>?_,fun id cs h j u hj=>?_,fun id s p h=>?_,fun b id h=>⟨(M.own b id h).1,by have:=(M.own b id h).2;simp;omega⟩,fun b o hA=>⟨(M.imm b o hA).1,fun id hG hs=>?_⟩,fun id et' sz' fz e xs h=>?_,fun b hs=>?_,M.uniq⟩
 ·rcases last h with ⟨_,h⟩|h
  ·obtain⟨h1,cur,T,h2,h3⟩:=M.box id cs h
   exact⟨h1,cur,T,h2,h3.ext E⟩
  ·cases h
 ·rcases last h with ⟨_,h⟩|h
  ·exact M.fbox id cs h j u hj
  ·cases h
 ·rcases last h with ⟨_,h⟩|h
  ·exact M.iter id s p h
  ·cases h
 ·obtain⟨et',sz',e,xs,h3,h4⟩:=(M.imm b o hA).2 id hG hs
  exact⟨et',sz',e,xs,by rw[Q2t (Qb h3)];exact h3,h4⟩
 ·rcases last h with ⟨_,h⟩|h
  ·exact M.roww id et' sz' fz e xs h
  ·cases h;exact⟨hs,fun x hx=>by cases hx⟩
 ·obtain⟨id,et',sz',fz,e,xs,h3,h4⟩:=M.nsub b hs
  exact⟨id,et',sz',fz,e,xs,h3,by rw[Q2t (Qb h4)];exact h4⟩
theorem Step.addRow (x:Ob):Step w g ob w g (ob++[x]) :=
 ⟨rfl,rfl,rfl,Nat.le_refl _,fun _ _ _=>rfl,fun _ _ h=>.inl ⟨_,h⟩,fun _ _ h=>.inl h,Ext.addRow x,by simp⟩
theorem Qkl (hT:TyOk P ty){s:St}(M:Mem w g s.ob){E U:Nat}{v:Value}{y:AV}(hv:ARel w g s.ob v y){sz:Nat}{news:List AV}(h:Qb6 std ty s E U y=some (sz,news))(hel:(Q4 E ty).size=sz)(hsz:0<sz)
  (hw:∀ x∈news,x.cells.length=sz) :
  ∃ d zs,P.underlying U=some d∧((∃ e',d=.slice e')∨d=.string)∧zs.length=news.length * sz∧Alike w g.A zs (QL news)∧(∀ W,(Builtin.lenOf v).run P W=.ok news.length W) ∧
   ∀ W:World,W.heap=w.heap→(Builtin.firstCells sz news.length v).run P W=.ok zs.toArray W:=by
 unfold Qb6 at h
 split at h
 ·rename_i b
  split at h
  ·rename_i hk
   obtain⟨rfl,rfl⟩:1=sz∧std.bytesS b=news:=by simpa using h
   have hb:std.isB (std.bytesS b):=fun x hx=>by
    obtain⟨n,_,rfl⟩:=List.mem_map.1 (show x∈b.data.toList.map _ from hx)
    exact⟨n,rfl⟩
   have hl:(std.bytesS b).length=b.size:=by show (b.data.toList.map _).length=_;simp
   rw[hv.valEq]
   refine⟨.string,strCells b,(Q5l hT hk.1 (by decide)).str hk.1,.inr rfl,by rw[strCells_length,hl,Nat.mul_one],?_,fun W=>by rw[hl];rfl,fun W _=>by rw[hl];exact run_firstCells_string W 1 b⟩
   rw[Q9a hb]
   refine⟨by rw[strCells_length,hl],fun j y u hy hu=>?_⟩
   have hu:(b.data.toList.map fun x=>AV.val (.int .u8 x.toNat))[j]?=some u:=hu
   simp only[strCells,List.getElem?_map,Option.map_eq_some_iff] at hy hu
   obtain⟨c,hc,rfl⟩:=hy
   obtain⟨c',hc',rfl⟩:=hu
   rw[hc] at hc';cases hc'
   exact PRel.val _ rfl
  ·cases h
 ·split at h
  ·rename_i hk
   obtain⟨_,rfl⟩:_∧[]=news:=by simpa using h
   rw[hv.valEq]
   exact⟨_,[],(Q9L hT hk).slice hk,.inl ⟨_,rfl⟩,by simp,Alike.nil,fun W=>rfl,fun W _=>rfl⟩
  ·cases h
 ·split at h
  ·rename_i hk
   obtain⟨A,c,ys,rfl,hr,hal⟩:=Q4k M hv h
   refine⟨_,ys,(Q9L hT hk).slice hk,.inl ⟨_,rfl⟩,hr.len,hal,fun W=>rfl,fun W hW=>?_⟩
   rcases Nat.eq_zero_or_pos news.length with h0|h0
   ·have hy:ys=[]:=List.eq_nil_of_length_eq_zero (by rw[hr.len,h0,Nat.zero_mul])
    subst hy
    rw[h0]
    cases A<;>simp[Builtin.firstCells,loadCells,loadCellsFrom]
   ·obtain⟨b,o,rfl,_,hc⟩:=hr.at_ h0
    refine run_firstCells_some (P:=P) W sz news.length _ _ _ ys hr.len (fun j u hj=>?_)
    rw[Addr.add_mid,show W.cell? ⟨b,o+j,none⟩=w.cell? ⟨b,o+j,none⟩ from by simp only[World.cell?,hW]]
    exact hc j u hj
  ·cases h
theorem Qcu (hT:TyOk P ty){s:St}{a:Act}{w:World}(M:Mem w g ob){T U:Nat}{id et sz ep:Nat}{fz:Bool}{xs xs' news:List AV}(h:ob[id]?=some (.row et sz fz ep xs)){v:Value}
  (hv:RowV w g id et sz v xs') (hfz:fz=true→xs'=xs) (hel:Q60 ty T sz=true) (het:et=(Q4 T ty).elem) {d:TypeDesc} {y:Value} {zs:List Value} (hu:P.underlying U=some d) (hd:(∃ e',d=.slice e')∨d=.string)
  (hzl:zs.length=news.length * sz) (hal:Alike w g.A zs (QL news)) (hlen:∀ W,(Builtin.lenOf y).run P W=.ok news.length W)
  (hfc:∀ W:World,W.heap=w.heap→(Builtin.firstCells sz news.length y).run P W=.ok zs.toArray W) (hw:∀ x∈news,x.cells.length=sz) (hsub:Qa8 et news=true) (hb:xs'.length+news.length≤1000000000) (tyR:TypeId) :
  ∃ v' w',(Builtin.append_ #[T,U] tyR #[v,y]).run P w=.ok v' w'∧Mem w' (g.grow id v'.ownBlock) (ob.set id (.row et sz fz (ep+1) (xs'++news))) ∧
   Step w g ob w' (g.grow id v'.ownBlock) (ob.set id (.row et sz fz (ep+1) (xs'++news)))∧RowV w' (g.grow id v'.ownBlock) id et sz v' (xs'++news):=by
 obtain⟨e,hT1,hee,te,hes,hpos⟩:=Q4H hT hel
 obtain⟨ie,z,hie,hies,hieb,hiz,hzc⟩:=te.i
 have heq:et=e:=het.trans hee.symm
 subst heq
 obtain⟨ys,ho,hG,hya,hyw,hys⟩:=hv
 have hzs:z.cells.size=sz:=by
  have:=congrArg List.length hzc
  rw[Array.length_toList,te.zl,hes] at this
  exact this
 obtain⟨v',w',hr,h1,h2,h3,h4⟩:=Q8Y (P:=P) (w:=w) (ty:=tyR) hT1 hu hd hie hiz (hies.trans hes) (by rw[hieb];exact te.by_) hzs ho hzl hlen hfc hal.one hb
 have hww:∀ x∈xs'++news,x.cells.length=sz:=fun x hx=>by
  rcases List.mem_append.1 hx with hx|hx
  ·exact hyw x hx
  ·exact hw x hx
 have hvb:∀ b,v'.ownBlock=some b→v.ownBlock=some b∨(w.heap.size≤b∧b<w'.heap.size):=fun b hb=>by
  rcases h3 with h5|h5
  ·exact .inl (h5 ▸ hb)
  ·have hlt:=(h1.lt b hb).2
   rw[hb] at h5
   cases h5
   exact .inr ⟨Nat.le_refl _,hlt⟩
 obtain⟨E,M'⟩:=M.grow (fz':=fz) h (fun h=>h) h2 (fun b hb=>⟨hG b hb,hys.1 b hb⟩) hvb (n:=xs'.length) h4 (fun hf=>by rw[hfz hf];exact Nat.le_refl _) (fun hf=>by rw[List.length_append,hfz hf];omega) hww
 refine⟨v',w',hr,M',Step.grow M h h2 (fun b hb=>hG b hb) hvb E,ys++zs,by rw[List.length_append];exact h1,fun b hb=>?_,?_,hww,fun b hb=>?_,fun he j y hy hj=>?_⟩
 ·exact Gh.grow_self hb
 ·show Alike _ _ _ ((xs'++news).flatMap AV.cells)
  rw[List.flatMap_append]
  exact (hya.append hal).keep E.A
 ·rcases h3 with h3|h3
  ·exact hys.1 b (h3 ▸ hb)
  ·rw[hb] at h3
   obtain rfl:b=w.heap.size:=by simpa using h3
   exact M.sub_new (Nat.le_refl _)
 ·have hyl:ys.length=xs'.length * sz:=by rw[hya.1,Q2R xs' hyw]
  have old:∀ {j:Nat} {y:Value},(ys++zs)[j]?=some y→j % sz=1→(ys[j]?=some y)∨y=.slice none 0 0:=fun {j y} hy hj=>by
   by_cases hlt:j<ys.length
   ·rw[List.getElem?_append_left hlt] at hy;exact .inl hy
   ·rw[List.getElem?_append_right (by omega)] at hy
    refine .inr (QcA (g:=g) (w:=w) hsub hal hw he hy ?_)
    rw[hyl]
    have:j=(j-xs'.length * sz)+xs'.length * sz:=by omega
    rw[this,Nat.add_mul_mod_self_right] at hj
    exact hj
  rcases old hy hj with h5|rfl
  ·obtain⟨⟨k,us,h6,h7⟩,h8⟩:=hys.2 he j y h5 hj
   have ne:∀ {b:Nat},y.ownBlock=some b→some b≠v.ownBlock:=fun {b} hb h9=>by
    have:=hys.1 b h9.symm
    rw[(h7 b hb).2.1] at this;cases this
   refine⟨⟨k,us,Q3g h6 fun b hb=>?_,fun b hb=>?_⟩,fun i z b hz hi hzb hyb=>?_⟩
   ·exact h2.block b (M.own b id (h7 b hb).1).1 (ne hb)
   ·obtain⟨h9,h10,h11⟩:=h7 b hb
    exact⟨M.grow_sub (fun b hb=>⟨hG b hb,hys.1 b hb⟩) hvb h9 h10,h10,h11⟩
   ·rcases old hz hi with h9|rfl
    ·exact h8 i z b h9 hi hzb hyb
    ·cases hzb
  ·exact⟨KidV.nil,fun _ _ b _ _ _ h=>by cases h⟩
theorem Qmq {s:St}(M:Mem w g s.ob){E U:Nat}{v:Value}{y:AV}(hv:ARel w g s.ob v y){sz:Nat}{news:List AV}(h:Qb6 std ty s E U y=some (sz,news)):∀ x∈news,x.cells.length=sz:=by
 have cutw:∀ {xs:List AV} {k:Int},(∀ x∈xs,x.cells.length=sz)→∀ x∈std.cut xs 0 k,x.cells.length=sz:=fun hw x hx=>by
  have:x∈(_:List AV):=hx
  exact hw x (List.mem_of_mem_drop (List.mem_of_mem_take hx))
 unfold Qb6 at h
 split at h
 ·split at h
  ·obtain⟨rfl,rfl⟩:1=sz∧std.bytesS _=news:=by simpa using h
   intro x hx
   obtain⟨n,_,rfl⟩:=List.mem_map.1 (show x∈List.map _ _ from hx)
   rfl
  ·cases h
 ·split at h
  ·obtain⟨_,rfl⟩:_∧[]=news:=by simpa using h
   intro x hx;cases hx
  ·cases h
 ·split at h
  ·cases y with
   |slc sz' l =>
    obtain⟨rfl,rfl⟩:sz'=sz∧l=news:=by simpa[Q6W] using h
    cases (show PRel w g.A v (.slc sz' l) from hv) with
    |nil=>intro x hx;cases hx
    |slc b o c _ _ f hc hm hw hcell hrel=>exact hw
   |row id ep =>
    obtain⟨_,et,sz',fz,e,xs',h1,h2,h3⟩:=hv
    simp only[Q6W,h1] at h
    split at h
    ·obtain⟨rfl,rfl⟩:sz'=sz∧xs'=news:=by simpa using h
     exact (M.roww _ _ _ _ _ _ h1).2
    ·cases h
   |rowk id ep k =>
    obtain⟨_,et,sz',fz,e,xs',h1,h2,h3⟩:=hv
    simp only[Q6W,h1] at h
    split at h
    ·obtain⟨rfl,rfl⟩:sz'=sz∧std.cut xs' 0 k=news:=by simpa using h
     exact cutw (M.roww _ _ _ _ _ _ h1).2
    ·cases h
   |_=>simp[Q6W] at h
  ·cases h
theorem Q55 (hT:TyOk P ty){K:St→Tree}{o:Oper}{s:St}{a:Act}{w:World}{R:Exit→Act→World→Prop}(hs:Sim w0 g0 o0 N s a w)(hd:∀ t,o.dst=some t→t<N)
  {x y:Operand} {args:Array Operand} {tys:Array TypeId} (ho:o.op=.call { callee:=.builtin .append,args:=args,argTypes:=tys }) (ha:args.toList=[x,y]) {T U:Nat} (ht:tys.toList=[T,U])
  {ob:List Ob} (hob:∀ g,Mem w g s.ob→Mem w g ob∧Ext w g s.ob w g ob∧Step w g s.ob w g ob) {id et sz ep:Nat} {fz:Bool} {xs xs' news:List AV} (h:ob[id]?=some (.row et sz fz ep xs))
  (hv:∀ g,Mem w g s.ob→Q1s w g s a→RowV w g id et sz (a.eval x) xs') (hfz:fz=true→xs'=xs) (hel:Q60 ty T sz=true) (het:et=(Q4 T ty).elem)
  (hsrc:Qb6 std ty s et U (ev s y)=some (sz,news)) (hsub:Qa8 et news=true) (hb:std.bnd xs' news)
  (hok:(K (St.put ⟨s.tm,ob.set id (.row et sz fz (ep+1) (std.app xs' news))⟩ o.dst (.row id (ep+1)))).ok P w0 g0 o0 N Q):o.wp P a w (Q6P ty P w0 g0 o0 N Q K o.op w) R:=by
 obtain⟨g,M,hS,h0⟩:=hs.rel
 obtain⟨M1,E1,S1⟩:=hob g M
 obtain⟨e,hT1,hee,te,hes,hpos⟩:=Q4H hT hel
 have hyr:=QN hS y
 have hw:=Qmq M hyr hsrc
 have hes':(Q4 et ty).size=sz:=by rw[het,←hee];exact hes
 obtain⟨d,zs,hu,hd',hzl,hal,hlen,hfc⟩:=Qkl hT M hyr hsrc hes' hpos hw
 obtain⟨v',w',hr,M2,S2,R2⟩:=Qcu hT (a:=a) (s:=s) M1 h (hv g M hS) hfz hel het hu hd' hzl hal hlen hfc hw hsub hb o.type
 have hargs:args=#[x,y]:=by apply Array.ext';simpa using ha
 have htys:tys=#[T,U]:=by apply Array.ext';simpa using ht
 subst hargs htys
 have hrun:(execOp a.eval o).run P w=.ok (.value v') w':=by
  obtain⟨cs,hc⟩:=Q5B (P:=P) (a:=a) ho w
  rw[hc]
  show (do pure (Next.value (←Builtin.append_ #[T,U] o.type (Array.map a.eval #[x,y]))):Sem Next).run P w=_
  refine Q2n ?_
  simpa using hr
 have hS1:Q1s w g ⟨s.tm,ob⟩ a:=fun t=>(hS t).ext E1
 have hs1:Sim w0 g0 o0 N ⟨s.tm,ob⟩ a w:=⟨hs.defers,hs.size,g,M1,hS1,h0.trans S1⟩
 refine Q6c hrun ⟨fun h=>by simp[ho,Q4v] at h,_,Q2J (s:=⟨s.tm,ob⟩) hs1 hS1 (h0.trans S1) M2 S2 hd ?_,hok⟩
 refine⟨?_,et,sz,fz,ep+1,xs'++news,List.getElem?_set_self (Qb h),Nat.le_refl _,fun _=>R2⟩
 obtain⟨ys,ho2,_⟩:=R2
 rcases ho2.2 with ⟨rfl,_⟩|⟨b,cap,cur,rfl,_⟩<;>rfl
end
end Go.Proofs.YthbjpdijafccjaaGreat
namespace Go.Proofs.YthbjpdijafccjaaGreat
open Go.RowKit Go.Lib
section
variable {P:Program} {ty:Tys} {w0:World} {g0:Gh} {o0:List Ob} {N:Nat} {Q:Ex→St→Prop} {w w':World} {g g':Gh} {ob ob':List Ob}
theorem Qho (hT:TyOk P ty){K:St→Tree}{o:Oper}{s:St}{a:Act}{w:World}{R:Exit→Act→World→Prop}(hs:Sim w0 g0 o0 N s a w)(hd:∀ t,o.dst=some t→t<N)
  {src dst:Nat} {x:Operand} (ho:o.op=.convert src dst x) {b:ByteArray} (hx:ev s x=.val (.string b)) (h1:(Q4 src ty).kd=6) (h2:(Q4 dst ty).sl=true) (h3:(Q4 (Q4 dst ty).elem ty).kind=some .u8) (hb:b.size≤1000000000)
  (hok:(K (St.put s o.dst (.slc 1 (std.bytesS b)))).ok P w0 g0 o0 N Q):o.wp P a w (Q6P ty P w0 g0 o0 N Q K o.op w) R:=by
 obtain⟨g,M,hS,h0⟩:=hs.rel
 have hxr:=QN hS x
 rw[hx] at hxr
 have hs1:=(Q5l hT h1 (by decide)).str h1
 have hs2:=(Q9L hT h2).slice h2
 have hs3:=(Q7x hT h3).int h3
 have hge:=grownCap_ge w b.size 0 (Q4 dst ty).elem
 have hmx:=grownCap_le_maxLen w b.size 0 (Q4 dst ty).elem (by unfold maxLen;omega)
 have hr:=run_bytes_of_string (P:=P) w src dst _ b hs1 hs2 hs3
 generalize hC:bytesRow b (grownCap w b.size 0 (Q4 dst ty).elem)=C at hr
 generalize grownCap w b.size 0 (Q4 dst ty).elem=c at *
 have hbel:Below w.heap.size w (w.drew.alloc (.cells C (Q4 dst ty).elem (C.size,C.size+1))):=(Below.refl _ w).drew.alloc (Nat.le_refl _) _
 have M':=M.immNew hbel
 have hrun:(execOp a.eval o).run P w=.ok (.value (.slice (some ⟨w.heap.size,0,none⟩) b.size c)) (w.drew.alloc (.cells C (Q4 dst ty).elem (C.size,C.size+1))):=by
  simp only[execOp,ho,hxr.valEq]
  exact Q2n hr
 have hl:(std.bytesS b).length=b.size:=by show (b.data.toList.map _).length=_;simp
 have hbb:std.isB (std.bytesS b):=fun x hx=>by
  obtain⟨n,_,rfl⟩:=List.mem_map.1 (show x∈b.data.toList.map _ from hx)
  exact⟨n,rfl⟩
 have hcell:∀ (j:Nat) u,(QL (std.bytesS b))[j]?=some u→∃ n:UInt8,C[j]?=some (.int .u8 n.toNat)∧u=.val (.int .u8 n.toNat):=fun j u hu=>by
  rw[Q9a hbb] at hu
  have hu:(b.data.toList.map fun x=>AV.val (.int .u8 x.toNat))[j]?=some u:=hu
  rw[List.getElem?_map,Option.map_eq_some_iff] at hu
  obtain⟨n,hn,rfl⟩:=hu
  have hj:=Qb hn
  refine⟨n,?_,rfl⟩
  rw[←hC,bytesRow,Array.getElem?_append_left (by simpa using hj)]
  rw[Array.getElem?_map,←Array.getElem?_toList,hn];rfl
 have hA:∀ j,(g.imm w (w.drew.alloc (.cells C (Q4 dst ty).elem (C.size,C.size+1)))).A w.heap.size j:=fun j=>.inr ⟨Nat.le_refl _,by simp⟩
 refine Q6c hrun ⟨fun _=>hbel,_,Q2J hs hS h0 M' (Step.immNew M hbel) hd ?_,hok⟩
 have:=PRel.slc (w:=w.drew.alloc (.cells C (Q4 dst ty).elem (C.size,C.size+1))) (A:=(g.imm w (w.drew.alloc (.cells C (Q4 dst ty).elem (C.size,C.size+1)))).A) w.heap.size 0 c 1 (std.bytesS b) (fun j=>(C[j]?).getD undef) (by rw[hl];exact hge) hmx
  (fun x hx=>by obtain⟨n,rfl⟩:=hbb x hx;rfl) (fun j u hu=>by
   obtain⟨n,h4,_⟩:=hcell j u hu
   refine⟨hA _,?_⟩
   rw[Nat.zero_add,h4]
   exact (World.cell?_alloc_mark w.drew C _ _ j).trans h4) (fun j u hu=>by
   obtain⟨n,h4,rfl⟩:=hcell j u hu
   simp only[h4]
   exact PRel.val _ rfl)
 rw[hl] at this
 exact this
theorem Q6I {b b' n:Nat}(h:b'≠b):(w.freeze ⟨b,n,none⟩ 1).heap[b']?=w.heap[b']?:=by
 unfold World.freeze
 rw[if_neg (by decide)]
 simp only[Array.getElem?_modify]
 rw[if_neg (by omega)]
theorem Q7Y {b n:Nat}(p:Addr):(w.freeze ⟨b,n,none⟩ 1).cell? p=w.cell? p:=by
 unfold World.freeze
 rw[if_neg (by decide)]
 unfold World.cell?
 simp only[Array.getElem?_modify]
 by_cases hb:b=p.block
 ·rw[if_pos hb]
  cases w.heap[p.block]? with
  |none=>rfl
  |some o=>cases o<;>rfl
 ·rw[if_neg hb]
theorem QhI (M:Mem w g ob){id et sz e b:Nat}{fz:Bool}{xs:List AV}(h:ob[id]?=some (.row et sz fz e xs))(hG:g.G b=some id)(n:Nat) :
  Mem (w.freeze ⟨b,n,none⟩ 1) g (ob.set id (.row et sz fz (e+1) xs))∧Step w g ob (w.freeze ⟨b,n,none⟩ 1) g (ob.set id (.row et sz fz (e+1) xs)):=by
 have hid:=Qb h
 have hsz:(w.freeze ⟨b,n,none⟩ 1).heap.size=w.heap.size:=by
  unfold World.freeze
  rw[if_neg (by decide)]
  simp
 have E:Ext w g ob (w.freeze ⟨b,n,none⟩ 1) g (ob.set id (.row et sz fz (e+1) xs)):=by
  refine⟨fun b o h=>⟨h,Q7Y _⟩,fun _ _=>rfl,fun i hi=>?_,fun i hi=>?_,fun i et' sz' fz2 e2 xs2 hi=>?_,fun b' i _ _=>⟨rfl,fun _ _ h=>h⟩⟩
  ·have:i≠id:=by rintro rfl;rw[h] at hi;exact hi
   rw[List.getElem?_set_ne (Ne.symm this)];exact hi
  ·have:i≠id:=by rintro rfl;rw[h] at hi;exact hi
   rw[List.getElem?_set_ne (Ne.symm this)];exact hi
  ·by_cases e':i=id
   ·subst e'
    rw[h] at hi
    obtain⟨rfl,rfl,rfl,rfl,rfl⟩:et=et'∧sz=sz'∧fz=fz2∧e=e2∧xs=xs2:=by simpa using hi
    exact⟨fz,e+1,xs,List.getElem?_set_self hid,by omega,fun he=>by omega⟩
   ·refine⟨fz2,e2,xs2,by rw[List.getElem?_set_ne (Ne.symm e')];exact hi,Nat.le_refl _,fun _=>⟨rfl,fun b' hG'=>⟨hG',Q6I ?_⟩⟩⟩
    rintro rfl
    rw[hG] at hG'
    exact e' (by simpa using hG'.symm)
 refine⟨⟨fun i cs hi=>?_,fun i cs hi j u hj=>?_,fun i s p hi=>?_,fun b i hG=>⟨by rw[hsz];exact (M.own b i hG).1,by rw[List.length_set];exact (M.own b i hG).2⟩,fun b' o hA=>⟨by rw[hsz];exact (M.imm b' o hA).1,fun i hGi hs=>?_⟩,fun i et' sz' fz2 e2 xs2 hi=>?_,fun b' hs=>?_,M.uniq⟩,
  ⟨rfl,rfl,rfl,by rw[hsz];exact Nat.le_refl _,fun b' _ hN=>Q6I (by rintro rfl;rw[hG] at hN;cases hN),fun b' i h=>.inl ⟨i,h⟩,fun b' o h=>.inl h,E,by simp⟩⟩
 ·have e':i≠id:=by rintro rfl;rw[List.getElem?_set_self hid] at hi;cases hi
  rw[List.getElem?_set_ne (Ne.symm e')] at hi
  obtain⟨h1,cur,T,h2,h3⟩:=M.box i cs hi
  refine⟨h1,cur,T,?_,h3.ext E⟩
  rw[Q6I]
  ·exact h2
  ·intro hb
   rw[hb,hG] at h1
   exact e' (by simpa using h1.symm)
 ·have e':i≠id:=by rintro rfl;rw[List.getElem?_set_self hid] at hi;cases hi
  rw[List.getElem?_set_ne (Ne.symm e')] at hi
  obtain⟨h1,y,h2,h3⟩:=M.fbox i cs hi j u hj
  exact⟨h1,y,by rw[Q7Y];exact h2,h3.keep E.A⟩
 ·have e':i≠id:=by rintro rfl;rw[List.getElem?_set_self hid] at hi;cases hi
  rw[List.getElem?_set_ne (Ne.symm e')] at hi
  obtain⟨h1,h2⟩:=M.iter i s p hi
  refine⟨h1,?_⟩
  rw[Q6I]
  ·exact h2
  ·intro hb
   rw[hb,hG] at h1
   exact e' (by simpa using h1.symm)
 ·obtain⟨et',sz',e2,xs2,h3,h4⟩:=(M.imm b' o hA).2 i hGi hs
  by_cases e':i=id
  ·subst e'
   rw[h] at h3
   obtain⟨rfl,rfl,rfl,rfl,rfl⟩:et=et'∧sz=sz'∧fz=true∧e=e2∧xs=xs2:=by simpa using h3
   exact⟨et,sz,e+1,xs,List.getElem?_set_self hid,h4⟩
  ·exact⟨et',sz',e2,xs2,by rw[List.getElem?_set_ne (Ne.symm e')];exact h3,h4⟩
 ·by_cases e':i=id
  ·subst e'
   rw[List.getElem?_set_self hid] at hi
   cases hi
   exact M.roww _ _ _ _ _ _ h
  ·rw[List.getElem?_set_ne (Ne.symm e')] at hi
   exact M.roww i _ _ _ _ _ hi
 ·obtain⟨i,et',sz',fz2,e2,xs2,h3,h4⟩:=M.nsub b' hs
  by_cases e':i=id
  ·subst e'
   exact⟨i,_,_,_,_,_,h3,List.getElem?_set_self hid⟩
  ·exact⟨i,et',sz',fz2,e2,xs2,h3,by rw[List.getElem?_set_ne (Ne.symm e')];exact h4⟩
theorem Qke (hT:TyOk P ty){K:St→Tree}{o:Oper}{s:St}{a:Act}{w:World}{R:Exit→Act→World→Prop}(hs:Sim w0 g0 o0 N s a w)(hd:∀ t,o.dst=some t→t<N)
  {src:Nat} {x:Operand} (ho:o.op=.convert src src x) {id et e:Nat} {xs:List AV} (hx:ev s x=.row id e) (hob:s.ob[id]?=some (.row et 1 false e xs)) (h2:(Q4 src ty).sl=true) (h3:(Q4 (Q4 src ty).elem ty).kind=some .u8) (hm:xs≠[])
  (hok:(K (St.put ⟨s.tm,s.ob.set id (.row et 1 true (e+1) xs)⟩ o.dst (.slc 1 xs))).ok P w0 g0 o0 N Q):o.wp P a w (Q6P ty P w0 g0 o0 N Q K o.op w) R:=by
 obtain⟨g,M,hS,h0⟩:=hs.rel
 have hxr:=QN hS x
 rw[hx] at hxr
 obtain⟨_,et',sz',fz',e',xs',h4,_,h5⟩:=hxr
 rw[hob] at h4
 cases h4
 have hrow:=h5 rfl
 obtain⟨ys,hown,hG,hal,hw,hsub⟩:=h5 rfl
 have hs2:=(Q9L hT h2).slice h2
 have hs3:=(Q7x hT h3).int h3
 obtain⟨g1,M1,E1,hr1,hL1⟩:=Q71 M hob hrow (Nat.le_refl _)
 obtain⟨hlen,hnil|⟨b,cap,cur,hv,hle,hheap,hrest⟩⟩:=hown
 ·exfalso
  apply hm
  exact List.eq_nil_of_length_eq_zero hnil.2
 have hGb:g.G b=some id:=hG b (by rw[hv];rfl)
 have hG1:g1.G b=some id:=by
  have:=(E1.row id et 1 false e xs hob)
  obtain⟨fz1,e1,xs1,k1,k2,k3⟩:=this
  rw[List.getElem?_set_self (Qb hob)] at k1
  obtain⟨rfl,rfl,rfl⟩:true=fz1∧e=e1∧xs=xs1:=by simpa using k1
  exact ((k3 rfl).2 b hGb).1
 have hob1:(s.ob.set id (.row et 1 true e xs))[id]?=some (.row et 1 true e xs):=List.getElem?_set_self (Qb hob)
 obtain⟨M2,S2⟩:=QhI M1 hob1 hG1 cur.size
 rw[List.set_set] at M2 S2
 have hrun:(execOp a.eval o).run P w=.ok (.value (a.eval x)) (w.freeze ⟨b,cur.size,none⟩ 1):=by
  simp only[execOp,ho,hv]
  refine Q2n ?_
  have hsh:w.shape? b=some (et,cur.size):=by unfold World.shape?;rw[hheap]
  simp[convert,run_underlying hs2,run_underlying hs3,markStringish,hsh]
 have hst:=(Step.ghost (ob':=s.ob.set id (.row et 1 true e xs)) E1 hL1).trans S2
 refine Q6c hrun ⟨fun hq=>?_,_,Q2J (g':=g1) hs hS h0 M2 hst hd ?_,hok⟩
 ·simp[ho,Q4v,h2] at hq
 ·have:PRel (w.freeze ⟨b,cur.size,none⟩ 1) g1.A (a.eval x) (.slc 1 xs):=hr1.keep fun b' o' h=>⟨h,Q7Y _⟩
  exact this
theorem Qjs (hT:TyOk P ty){K:St→Tree}{o:Oper}{s:St}{a:Act}{w:World}{R:Exit→Act→World→Prop}(hs:Sim w0 g0 o0 N s a w)(hd:∀ t,o.dst=some t→t<N)
  {T:Nat} {x:Operand} (ho:o.op=.range T x) {b:ByteArray} (hx:ev s x=.val (.string b)) (h1:(Q4 T ty).kd=6)
  (hok:(K (St.put ⟨s.tm,s.ob++[.iter b 0]⟩ o.dst (.iter s.ob.length))).ok P w0 g0 o0 N Q):o.wp P a w (Q6P ty P w0 g0 o0 N Q K o.op w) R:=by
 obtain⟨g,M,hS,h0⟩:=hs.rel
 have hxr:=QN hS x
 rw[hx] at hxr
 have hs1:=(Q5l hT h1 (by decide)).str h1
 have hr:(execOp a.eval o).run P w=.ok (.value (.pointer (some ⟨w.heap.size,0,none⟩))) (w.alloc (.stringIter b 0)):=by
  simp only[execOp,ho,hxr.valEq]
  refine Q2n ?_
  simp only[Instr.range,Sem.run_bind,run_underlying hs1,Result.andThen_ok,Sem.run_pure,run_newObj]
  rfl
 have M':=M.new (.stringIter b 0) (.iter b 0) (fun cs h=>by cases h) (fun cs h=>by cases h) (fun s p h=>by cases h;rfl) (fun et sz fz e xs h=>by cases h)
 refine Q6c hr ⟨fun _=>(Below.refl _ w).alloc (Nat.le_refl _) _,_,Q2J hs hS h0 M' (Step.new M _ _) hd ?_,hok⟩
 refine⟨by simp[Gh.new],?_⟩
 rw[Q3S];trivial
theorem Qi4 (M:Mem w g ob){id:Nat}{b:ByteArray}{p p':Nat}(h:ob[id]?=some (.iter b p)) :
  Mem { w with heap:=w.heap.setIfInBounds (g.loc id) (.stringIter b p') } g (ob.set id (.iter b p'))∧Step w g ob { w with heap:=w.heap.setIfInBounds (g.loc id) (.stringIter b p') } g (ob.set id (.iter b p')):=by
 have hid:=Qb h
 obtain⟨hG,hh⟩:=M.iter id b p h
 have hlt:=(M.own _ _ hG).1
 have other:∀ {k:Nat},k≠g.loc id→({ w with heap:=w.heap.setIfInBounds (g.loc id) (.stringIter b p') }:World).heap[k]?=w.heap[k]?:=fun hk=>by
  show (w.heap.setIfInBounds _ _)[_]?=_
  rw[Array.getElem?_setIfInBounds_ne (Ne.symm hk)]
 have ne:∀ {k i:Nat},g.G k=some i→i≠id→k≠g.loc id:=by
  rintro k i h1 h2 rfl
  rw[hG] at h1
  exact h2 (by simpa using h1.symm)
 have hA:∀ k o,g.A k o→k≠g.loc id:=by
  rintro k o h1 rfl
  obtain⟨et,sz,e,xs,h2,_⟩:=(M.imm _ _ h1).2 id hG (M.nosub hG fun _ _ _ _ _ h3=>by rw[h] at h3;cases h3)
  rw[h] at h2;cases h2
 have E:Ext w g ob { w with heap:=w.heap.setIfInBounds (g.loc id) (.stringIter b p') } g (ob.set id (.iter b p')):=by
  refine⟨fun k o h1=>⟨h1,World.cell?_of_block (w:=w) (other (hA k o h1))⟩,fun _ _=>rfl,fun i hi=>?_,fun i hi=>?_,fun i et sz fz e xs hi=>?_,fun _ _ _ _=>⟨rfl,fun _ _ h=>h⟩⟩
  ·have:i≠id:=by rintro rfl;rw[h] at hi;exact hi
   rw[List.getElem?_set_ne (Ne.symm this)];exact hi
  ·by_cases e:i=id
   ·subst e;rw[List.getElem?_set_self hid];trivial
   ·rw[List.getElem?_set_ne (Ne.symm e)];exact hi
  ·have:i≠id:=by rintro rfl;rw[h] at hi;cases hi
   exact⟨fz,e,xs,by rw[List.getElem?_set_ne (Ne.symm this)];exact hi,Nat.le_refl _,fun _=>⟨rfl,fun k hk=>⟨hk,other (ne hk this)⟩⟩⟩
 have hsz:({ w with heap:=w.heap.setIfInBounds (g.loc id) (.stringIter b p') }:World).heap.size=w.heap.size:=by show (w.heap.setIfInBounds _ _).size=_;simp
 refine⟨⟨fun i cs hi=>?_,fun i cs hi j u hj=>?_,fun i s q hi=>?_,fun k i hk=>by rw[hsz,List.length_set];exact M.own k i hk,fun k o h1=>?_,fun i et sz fz e xs hi=>?_,fun b hs=>?_,M.uniq⟩,
  ⟨rfl,rfl,rfl,by rw[hsz];exact Nat.le_refl _,fun k _ hk=>other (fun e=>by rw[e,hG] at hk;cases hk),fun k i hk=>.inl ⟨i,hk⟩,fun _ _ h=>.inl h,E,by simp⟩⟩
 ·have e':i≠id:=by rintro rfl;rw[List.getElem?_set_self hid] at hi;cases hi
  rw[List.getElem?_set_ne (Ne.symm e')] at hi
  obtain⟨h1,cur,T,h2,h3⟩:=M.box i cs hi
  exact⟨h1,cur,T,(other (ne h1 e')).trans h2,h3.ext E⟩
 ·have e':i≠id:=by rintro rfl;rw[List.getElem?_set_self hid] at hi;cases hi
  rw[List.getElem?_set_ne (Ne.symm e')] at hi
  obtain⟨h1,y,h2,h3⟩:=M.fbox i cs hi j u hj
  exact⟨h1,y,(E.A _ _ h1).2.trans h2,h3.keep E.A⟩
 ·by_cases e':i=id
  ·subst e'
   rw[List.getElem?_set_self hid] at hi
   obtain⟨rfl,rfl⟩:b=s∧p'=q:=by simpa using hi
   exact⟨hG,by show (w.heap.setIfInBounds _ _)[_]?=_;rw[Array.getElem?_setIfInBounds_self,if_pos hlt]⟩
  ·rw[List.getElem?_set_ne (Ne.symm e')] at hi
   obtain⟨h1,h2⟩:=M.iter i s q hi
   exact⟨h1,(other (ne h1 e')).trans h2⟩
 ·obtain⟨h2,h3⟩:=M.imm k o h1
  refine⟨by rw[hsz];exact h2,fun i hk hs=>?_⟩
  obtain⟨et,sz,e,xs,h4,h5⟩:=h3 i hk hs
  have e':i≠id:=by rintro rfl;rw[h] at h4;cases h4
  exact⟨et,sz,e,xs,by rw[List.getElem?_set_ne (Ne.symm e')];exact h4,h5⟩
 ·have e':i≠id:=by rintro rfl;rw[List.getElem?_set_self hid] at hi;cases hi
  rw[List.getElem?_set_ne (Ne.symm e')] at hi
  exact M.roww i et sz fz e xs hi
 ·obtain⟨i,et,sz,fz,e,xs,h3,h4⟩:=M.nsub b hs
  have e':i≠id:=by rintro rfl;rw[h] at h4;cases h4
  exact⟨i,et,sz,fz,e,xs,h3,by rw[List.getElem?_set_ne (Ne.symm e')];exact h4⟩
theorem Qk4 {K:St→Tree}{o:Oper}{s:St}{a:Act}{w:World}{R:Exit→Act→World→Prop}(hs:Sim w0 g0 o0 N s a w)(hd:∀ t,o.dst=some t→t<N)
  {it:Operand} (ho:o.op=.next it true) {id:Nat} (hi:ev s it=.iter id) {b:ByteArray} {pos:Nat} (hob:s.ob[id]?=some (.iter b pos))
  (ht:std.itmore b pos=true→(K (St.put ⟨s.tm,s.ob.set id (.iter b (std.itp b pos))⟩ o.dst (.tup [.kb true,.val (.int .i64 (std.toI pos)),.val (.int .i32 (std.itr b pos))]))).ok P w0 g0 o0 N Q)
  (hf:std.itmore b pos=false→(K (St.put s o.dst (.tup [.kb false]))).ok P w0 g0 o0 N Q):o.wp P a w (Q6P ty P w0 g0 o0 N Q K o.op w) R:=by
 obtain⟨g,M,hS,h0⟩:=hs.rel
 have hir:=QN hS it
 rw[hi] at hir
 have hv:a.eval it=.pointer (some ⟨g.loc id,0,none⟩):=hir.1
 obtain⟨hG,hh⟩:=M.iter id b pos hob
 have hget:(getObj (g.loc id)).run P w=.ok (.stringIter b pos) w:=by simp[getObj,Sem.run,hh]
 by_cases hlt:pos<b.size
 ·obtain⟨M',S'⟩:=Qi4 M (p':=std.itp b pos) hob
  have hr:(execOp a.eval o).run P w=.ok (.value (.tuple #[.bool true,.int .i64 pos,.int .i32 ((Utf8.decode b pos).1:Int)])) { w with heap:=w.heap.setIfInBounds (g.loc id) (.stringIter b (std.itp b pos)) }:=by
   simp only[execOp,ho,hv]
   refine Q2n ?_
   have hset:(setObj (g.loc id) (.stringIter b (pos+(Utf8.decode b pos).2))).run P w=.ok () { w with heap:=w.heap.setIfInBounds (g.loc id) (.stringIter b (std.itp b pos)) }:=by
    simp only[setObj,Sem.run,hh];rfl
   simp only[Instr.next,Sem.run_bind,hget,Result.andThen_ok,hlt,if_true,hset,Sem.run_pure,goInt]
  refine Q6c hr ⟨fun h=>by simp[ho,Q4v] at h,_,Q2J hs hS h0 M' S' hd ?_,ht (by show decide (pos<b.size)=true;simp[hlt])⟩
  refine⟨_,rfl,rfl,fun j y u hy hu=>?_⟩
  match j,hy,hu with
  |0,hy,hu =>
   obtain rfl:Value.bool true=y:=by simpa using hy
   obtain rfl:AV.kb true=u:=by simpa using hu
   exact (rfl:Value.bool true=.bool true)
  |1,hy,hu =>
   obtain rfl:Value.int .i64 pos=y:=by simpa using hy
   obtain rfl:AV.val (.int .i64 (std.toI pos))=u:=by simpa using hu
   exact PRel.val _ rfl
  |2,hy,hu =>
   obtain rfl:Value.int .i32 ((Utf8.decode b pos).1:Int)=y:=by simpa using hy
   obtain rfl:AV.val (.int .i32 (std.itr b pos))=u:=by simpa using hu
   exact PRel.val _ rfl
  |j+3,hy,_=>simp at hy
 ·have hr:(execOp a.eval o).run P w=.ok (.value (.tuple #[.bool false])) w:=by
   simp only[execOp,ho,hv]
   refine Q2n ?_
   simp only[Instr.next,Sem.run_bind,hget,Result.andThen_ok,hlt,if_false,Sem.run_pure]
  refine Q6c hr ⟨fun h=>by simp[ho,Q4v] at h,_,Q2J hs hS h0 M Step.refl hd (x:=.tup [.kb false]) ?_,hf (by show decide (pos<b.size)=false;simp[hlt])⟩
  refine⟨_,rfl,rfl,fun j y u hy hu=>?_⟩
  match j,hy,hu with
  |0,hy,hu =>
   obtain rfl:Value.bool false=y:=by simpa using hy
   obtain rfl:AV.kb false=u:=by simpa using hu
   exact (rfl:Value.bool false=.bool false)
  |j+1,hy,_=>simp at hy
end
end Go.Proofs.YthbjpdijafccjaaGreat
namespace Go.Proofs.YthbjpdijafccjaaGreat
open Go.RowKit Go.Lib
abbrev Eqs:=List (AV×AV)
def both:Option Eqs→Option Eqs→Option Eqs
 |some a,some b=>some (a++b)
 |_,_=>none
def Q5z (ob ob':List Ob)(ρ:List (Option Nat))(x x':AV):Option Eqs :=
 match x' with
 |.dead=>some []
 |.box j off=>match ρ[j]? with
  |some (some i)=>some [(x,.box i off)]
  |_=>none
 |.iter j=>match ρ[j]? with
  |some (some i)=>some [(x,.iter i)]
  |_=>none
 |.row j e'=>match ob'[j]? with
  |some (.row _ _ _ e2 xs)=>if e2=e' then (match ρ[j]? with
   |some (some i)=>(match ob[i]? with
    |some (.row _ _ _ e _)=>some [(x,.row i e)]
    |_=>none)
   |some none=>some [(x,.val (.slice none 0 0)),(.slc 0 xs,.slc 0 [])]
   |none=>none) else none
  |_=>none
 |.val (.bool b)=>match x with
  |.kb c=>some [(.kb c,.kb b)]
  |_=>some [(x,.val (.bool b))]
 |.val v=>some [(x,.val v)]
 |.slc sz xs=>some [(x,.slc sz xs)]
 |.ref cs=>some [(x,.ref cs)]
 |.opt y=>some [(x,.opt y)]
 |.kb b=>some [(x,.kb b)]
 |_=>none
def QbT (ob ob':List Ob)(ρ:List (Option Nat)):List AV→List AV→Option Eqs
 | [],[]=>some []
 |x::r,x'::r'=>both (Q5z ob ob' ρ x x') (QbT ob ob' ρ r r')
 |_,_=>none
def Qap (ob ob':List Ob)(ρ:List (Option Nat))(x x':AV):Option Eqs :=
 match x' with
 |.agg cs'=>match x with
  |.agg cs=>QbT ob ob' ρ cs cs'
  |_=>none
 |_=>Q5z ob ob' ρ x x'
def Qm8 (s s':St)(ρ:List (Option Nat)):List (Nat×AV)→Option Eqs
 | []=>some []
 |(t,x')::r=>both (Qap s.ob s'.ob ρ (lk t s.tm) x') (Qm8 s s' ρ r)
def Q3L (ob ob':List Ob)(ρ:List (Option Nat))(i:Option Nat)(o':Ob):Option Eqs :=
 match i with
 |some i=>match o',ob[i]? with
  |.box cs',some (.box cs)=>QbT ob ob' ρ cs cs'
  |.fbox cs',some (.fbox cs)=>some [(.slc 0 cs,.slc 0 cs')]
  |.row et sz fz _ xs',some (.row et2 sz2 fz2 _ xs)=>if et=et2∧sz=sz2∧(fz2=true→fz=true) then some [(.slc 0 xs,.slc 0 xs')] else none
  |.iter b p,some (.iter b2 p2)=>some [(.val (.string b2),.val (.string b)),(.box 0 p2,.box 0 p)]
  |_,_=>none
 |none=>match o' with
  |.row _ sz fz _ xs=>if 0<sz∧fz=false then some [(.slc 0 xs,.slc 0 [])] else none
  |_=>none
def Q8s (ob ob':List Ob)(ρ:List (Option Nat)):List (Option Nat)→List Ob→Option Eqs
 | [],[]=>some []
 |i::r,o::r'=>both (Q3L ob ob' ρ i o) (Q8s ob ob' ρ r r')
 |_,_=>none
def Qfs (o0 ob ob':List Ob)(ρ:List (Option Nat)):Bool:=(List.range o0.length).all fun j=>ρ[j]? == some (some j)&&(match o0[j]?,ob[j]?,ob'[j]? with
 |some (.row _ _ _ e0 _),some (.row _ _ _ e _),some (.row _ _ _ e' _)=>e == e'||decide (e0<e')
 |_,_,_=>true)
def QlC (o0:List Ob)(ρ:List (Option Nat))(s s':St):Option Eqs :=
 if Q2P ρ=true∧Qfs o0 s.ob s'.ob ρ=true∧o0.length≤ρ.length then both (Qm8 s s' ρ s'.tm) (Q8s s.ob s'.ob ρ ρ s'.ob) else none
def Qe:Eqs→Prop
 | []=>True
 |(a,b)::r=>a=b∧Qe r
theorem Q3x {a b:Eqs}:Qe (a++b)↔Qe a∧Qe b:=by
 induction a with
 |nil=>simp[Qe]
 |cons x r ih=>obtain⟨u,v⟩:=x;simp[Qe,ih,and_assoc]
theorem Q30 {x y:Option Eqs}{l:Eqs}(h:both x y=some l)(hl:Qe l):(∃ a,x=some a∧Qe a)∧∃ b,y=some b∧Qe b:=by
 cases x with
 |none=>cases h
 |some a =>
  cases y with
  |none=>cases h
  |some b =>
   obtain rfl:a++b=l:=by simpa[both] using h
   exact⟨⟨a,rfl,(Q3x.1 hl).1⟩,b,rfl,(Q3x.1 hl).2⟩
def Gh.ren (g:Gh)(ρ:List (Option Nat)):Gh:=⟨g.A,fun b=>(g.G b).bind (Qgg ρ),fun j=>match ρ[j]? with|some (some i)=>g.loc i|_=>0,fun b=>g.sub b&&((g.G b).bind (Qgg ρ)).isSome⟩
section
variable {w:World} {g:Gh} {ob ob':List Ob} {ρ:List (Option Nat)}
theorem Qdw {i j:Nat}(h:Qgg ρ i=some j):ρ[j]?=some (some i):=by
 have:=List.find?_some h
 simpa using this
theorem Q6z (h:Q2P ρ=true){i j:Nat}(hj:ρ[j]?=some (some i)):Qgg ρ i=some j:=by
 have:=List.all_eq_true.1 h j (List.mem_range.2 (Qb hj))
 rw[hj] at this
 simpa using this
theorem Q3b {i j:Nat}(hj:ρ[j]?=some (some i)):(g.ren ρ).loc j=g.loc i:=by simp[Gh.ren,hj]
theorem Q6a (h:Q2P ρ=true){i j b:Nat}(hj:ρ[j]?=some (some i))(hG:g.G b=some i):(g.ren ρ).G b=some j:=by
 simp[Gh.ren,hG,Q6z h hj]
theorem Q2V {j b:Nat}(hG:(g.ren ρ).G b=some j):∃ i,ρ[j]?=some (some i)∧g.G b=some i:=by
 simp only[Gh.ren,Option.bind_eq_some_iff] at hG
 obtain⟨i,h1,h2⟩:=hG
 exact⟨i,Qdw h2,h1⟩
theorem Q4i (h:Q2P ρ=true){i j b:Nat}(hj:ρ[j]?=some (some i))(hG:g.G b=some i):(g.ren ρ).sub b=g.sub b:=by
 simp[Gh.ren,hG,Q6z h hj]
theorem Q4o:∀ (r:List (Option Nat)) (os:List Ob) (l:Eqs),Q8s ob ob' ρ r os=some l→Qe l→r.length=os.length∧∀ (j:Nat) i o,r[j]?=some i→os[j]?=some o→∃ l,Q3L ob ob' ρ i o=some l∧Qe l
 | [],[],_,_,_=>⟨rfl,fun j i o h=>by simp at h⟩
 | [],_::_,_,h,_=>by cases h
 |_::_,[],_,h,_=>by cases h
 |i::r,o::os,l,h,hl=>by
  obtain⟨h1,b,h2,hb⟩:=Q30 h hl
  obtain⟨hn,ih⟩:=Q4o r os b h2 hb
  refine⟨by simp[hn],fun j i' o' hi ho=>?_⟩
  cases j with
  |zero =>
   obtain rfl:i=i':=by simpa using hi
   obtain rfl:o=o':=by simpa using ho
   exact h1
  |succ j=>exact ih j i' o' (by simpa using hi) (by simpa using ho)
theorem QdL:∀ (r r':List AV) (l:Eqs),QbT ob ob' ρ r r'=some l→Qe l→r.length=r'.length∧∀ (j:Nat) x x',r[j]?=some x→r'[j]?=some x'→∃ l,Q5z ob ob' ρ x x'=some l∧Qe l
 | [],[],_,_,_=>⟨rfl,fun j i o h=>by simp at h⟩
 | [],_::_,_,h,_=>by cases h
 |_::_,[],_,h,_=>by cases h
 |i::r,o::os,l,h,hl=>by
  obtain⟨h1,b,h2,hb⟩:=Q30 h hl
  obtain⟨hn,ih⟩:=QdL r os b h2 hb
  refine⟨by simp[hn],fun j i' o' hi ho=>?_⟩
  cases j with
  |zero =>
   obtain rfl:i=i':=by simpa using hi
   obtain rfl:o=o':=by simpa using ho
   exact h1
  |succ j=>exact ih j i' o' (by simpa using hi) (by simpa using ho)
def Fits (ob ob':List Ob)(ρ:List (Option Nat)):Prop:=ρ.length=ob'.length∧∀ (j:Nat) i o,ρ[j]?=some i→ob'[j]?=some o→∃ l,Q3L ob ob' ρ i o=some l∧Qe l
theorem Fits.at_ (h:Fits ob ob' ρ){i j:Nat}(hj:ρ[j]?=some (some i)):∃ o,ob'[j]?=some o∧∃ l,Q3L ob ob' ρ (some i) o=some l∧Qe l:=by
 have hl:j<ob'.length:=h.1 ▸ Qb hj
 exact⟨_,List.getElem?_eq_getElem hl,h.2 j _ _ hj (List.getElem?_eq_getElem hl)⟩
theorem Fits.isB (h:Fits ob ob' ρ){i j:Nat}(hj:ρ[j]?=some (some i))(hb:Q6X ob[i]?):Q6X ob'[j]?:=by
 obtain⟨o,ho',l,h1,_⟩:=h.at_ hj
 rw[ho']
 cases hob:ob[i]? with
 |none=>rw[hob] at hb;exact hb.elim
 |some q =>
  rw[hob] at hb
  cases q<;>first|exact hb.elim|(cases o<;>first|trivial|(simp[Q3L,hob] at h1;done))
theorem Fits.isI (h:Fits ob ob' ρ){i j:Nat}(hj:ρ[j]?=some (some i))(hb:Qaq ob[i]?):Qaq ob'[j]?:=by
 obtain⟨o,ho',l,h1,_⟩:=h.at_ hj
 rw[ho']
 cases hob:ob[i]? with
 |none=>rw[hob] at hb;exact hb.elim
 |some q =>
  rw[hob] at hb
  cases q<;>first|exact hb.elim|(cases o<;>first|trivial|(simp[Q3L,hob] at h1;done))
theorem Fits.row (h:Fits ob ob' ρ){i j et sz e:Nat}{fz:Bool}{xs:List AV}(hj:ρ[j]?=some (some i))(hb:ob[i]?=some (.row et sz fz e xs)):∃ fz' e',ob'[j]?=some (.row et sz fz' e' xs)∧(fz=true→fz'=true):=by
 have hl:j<ob'.length:=h.1 ▸ Qb hj
 obtain⟨l,h1,h2⟩:=h.2 j _ _ hj (List.getElem?_eq_getElem hl)
 rw[List.getElem?_eq_getElem hl]
 cases ho:ob'[j] with
 |row et' sz' fz' e' xs' =>
  simp only[Q3L,ho,hb] at h1
  split at h1
  ·rename_i hk
   obtain⟨rfl,rfl,hk⟩:=hk
   cases h1
   obtain⟨h3,_⟩:=h2
   cases h3
   exact⟨fz',e',rfl,hk⟩
  ·cases h1
 |_=>simp[Q3L,ho,hb] at h1
theorem QcU (hF:Fits ob ob' ρ)(ho:Q2P ρ=true){v:Value}{x x':AV}{l:Eqs}(h:ARel0 w g ob v x)(he:Q5z ob ob' ρ x x'=some l)(hl:Qe l):ARel0 w (g.ren ρ) ob' v x':=by
 have one:∀ y,some [(x,y)]=some l→x=y:=fun y hy=>by cases hy;exact hl.1
 cases x' with
 |dead=>trivial
 |box j off =>
  simp only[Q5z] at he
  split at he
  ·rename_i i hj
   cases one _ he
   exact⟨by rw[Q3b hj];exact h.1,hF.isB hj h.2⟩
  ·cases he
 |iter j =>
  simp only[Q5z] at he
  split at he
  ·rename_i i hj
   cases one _ he
   exact⟨by rw[Q3b hj];exact h.1,hF.isI hj h.2⟩
  ·cases he
 |row j e' =>
  simp only[Q5z] at he
  split at he
  ·rename_i et' sz' fz' e2 xs' hob'
   split at he
   ·rename_i hee
    subst hee
    split at he
    ·rename_i i hj
     split at he
     ·rename_i et sz fz e xs hob
      cases one _ he
      obtain⟨h1,et3,sz3,fz3,e3,xs3,h2,h3,h4⟩:=h
      rw[hob] at h2;cases h2
      obtain⟨fz4,e4,h5,h6⟩:=hF.row hj hob
      rw[hob'] at h5;cases h5
      refine⟨h1,_,_,_,_,_,hob',Nat.le_refl _,fun _=>?_⟩
      obtain⟨ys,h7,h8,h9,h10,h11⟩:=h4 rfl
      exact⟨ys,h7,fun b hb=>Q6a ho hj (h8 b hb),h9,h10,h11.ext h8 fun b hb=>⟨Q6a ho hj hb,Q4i ho hj hb,fun _=>⟨rfl,fun _ h=>h⟩⟩⟩
     ·cases he
    ·rename_i hj
     cases he
     obtain⟨h1,h2,_⟩:=hl
     subst h1
     cases h2
     cases (show v=_ from ARel.valEq (g:=g) (w:=w) (ob:=ob) h)
     refine⟨rfl,_,_,_,_,_,hob',Nat.le_refl _,fun _=>⟨[],World.ownsRow_nil _ _ _ _,(fun b h=>by cases h),Alike.nil,(fun x h=>by cases h),(fun b h=>by cases h),(fun _ j y h=>by simp at h)⟩⟩
    ·cases he
   ·cases he
  ·cases he
 |val u =>
  have gen:x=.val u→ARel0 w (g.ren ρ) ob' v (.val u):=fun e=>by subst e;exact h
  cases u with
  |bool b =>
   simp only[Q5z] at he
   split at he
   ·rename_i c
    cases he
    obtain⟨h1,_⟩:=hl
    cases h1
    have e:v=.bool b:=h
    subst e
    exact PRel.val _ rfl
   ·exact gen (one _ he)
  |_=>exact gen (one _ he)
 |slc sz xs=>cases one _ he;exact h
 |ref cs=>cases one _ he;exact h
 |opt y=>cases one _ he;exact h
 |kb b=>cases one _ he;exact h
 |_=>cases he
theorem Qde (hF:Fits ob ob' ρ)(ho:Q2P ρ=true){vs:List Value}{cs cs':List AV}{l:Eqs}(h:ARelC w g ob vs cs)(he:QbT ob ob' ρ cs cs'=some l)(hl:Qe l):ARelC w (g.ren ρ) ob' vs cs':=by
 obtain⟨hn,hg⟩:=QdL _ _ _ he hl
 refine⟨by rw[h.1,hn],fun j y u hy hu=>?_⟩
 have hj:j<cs.length:=by rw[hn];exact Qb hu
 obtain⟨l',h1,h2⟩:=hg j _ _ (List.getElem?_eq_getElem hj) hu
 obtain⟨h3,h4⟩:=h.2 j y _ hy (List.getElem?_eq_getElem hj)
 exact⟨QcU hF ho h3 h1 h2,h4⟩
theorem Qgk {x x':AV}{l:Eqs}(he:Q5z ob ob' ρ x x'=some l)(hl:Qe l):x'=.dead∨((∀ cs,x≠.agg cs)∧∀ cs,x≠.tup cs):=by
 have one:∀ y,some [(x,y)]=some l→x=y:=fun y hy=>by cases hy;exact hl.1
 have fin:∀ y,x=y→((∀ cs,y≠.agg cs)∧∀ cs,y≠.tup cs)→x'=.dead∨((∀ cs,x≠.agg cs)∧∀ cs,x≠.tup cs):=fun y h hy=>.inr (h ▸ hy)
 cases x' with
 |dead=>exact .inl rfl
 |box j off =>
  simp only[Q5z] at he
  split at he
  ·exact fin _ (one _ he) ⟨(fun cs h=>by cases h),(fun cs h=>by cases h)⟩
  ·cases he
 |iter j =>
  simp only[Q5z] at he
  split at he
  ·exact fin _ (one _ he) ⟨(fun cs h=>by cases h),(fun cs h=>by cases h)⟩
  ·cases he
 |row j e' =>
  simp only[Q5z] at he
  split at he
  ·split at he
   ·split at he
    ·split at he
     ·exact fin _ (one _ he) ⟨(fun cs h=>by cases h),(fun cs h=>by cases h)⟩
     ·cases he
    ·cases he
     exact fin _ hl.1 ⟨(fun cs h=>by cases h),(fun cs h=>by cases h)⟩
    ·cases he
   ·cases he
  ·cases he
 |val u =>
  cases u with
  |bool b =>
   simp only[Q5z] at he
   split at he
   ·exact .inr ⟨(fun cs h=>by cases h),(fun cs h=>by cases h)⟩
   ·exact fin _ (one _ he) ⟨(fun cs h=>by cases h),(fun cs h=>by cases h)⟩
  |_=>exact fin _ (one _ he) ⟨(fun cs h=>by cases h),(fun cs h=>by cases h)⟩
 |slc sz xs=>exact fin _ (one _ he) ⟨(fun cs h=>by cases h),(fun cs h=>by cases h)⟩
 |ref cs=>exact fin _ (one _ he) ⟨(fun cs h=>by cases h),(fun cs h=>by cases h)⟩
 |opt y=>exact fin _ (one _ he) ⟨(fun cs h=>by cases h),(fun cs h=>by cases h)⟩
 |kb b=>exact fin _ (one _ he) ⟨(fun cs h=>by cases h),(fun cs h=>by cases h)⟩
 |_=>cases he
theorem Q7t (hF:Fits ob ob' ρ)(ho:Q2P ρ=true){v:Value}{x x':AV}{l:Eqs}(h:ARel w g ob v x)(he:Qap ob ob' ρ x x'=some l)(hl:Qe l):ARel w (g.ren ρ) ob' v x':=by
 have gen:Q5z ob ob' ρ x x'=some l→ARel w (g.ren ρ) ob' v x':=fun he=>by
  have hx:ARel0 w g ob v x∨x'=.dead:=by
   rcases Qgk he hl with h1|⟨h1,h2⟩
   ·exact .inr h1
   ·left
    cases x<;>first|exact h|exact absurd rfl (h1 _)|exact absurd rfl (h2 _)
  rcases hx with hx|rfl
  ·exact (QcU hF ho hx he hl).to
  ·trivial
 cases x' with
 |agg cs' =>
  simp only[Qap] at he
  split at he
  ·obtain⟨vs,rfl,hc⟩:=h
   exact⟨vs,rfl,Qde hF ho hc he hl⟩
  ·cases he
 |_=>exact gen he
theorem Mem.ren (M:Mem w g ob)(hF:Fits ob ob' ρ)(ho:Q2P ρ=true):Mem w (g.ren ρ) ob':=by
 have get:∀ (j:Nat) o,ob'[j]?=some o→∃ i,ρ[j]?=some i∧∃ l,Q3L ob ob' ρ i o=some l∧Qe l:=fun j o h=>by
  have hj:j<ρ.length:=hF.1 ▸ Qb h
  exact⟨_,List.getElem?_eq_getElem hj,hF.2 j _ o (List.getElem?_eq_getElem hj) h⟩
 refine⟨fun j cs' h=>?_,fun j cs' h k u hk=>?_,fun j s pos h=>?_,fun b j h=>?_,fun b o hA=>⟨(M.imm b o hA).1,fun j h hs=>?_⟩,fun j et sz fz e xs h=>?_,fun b hs=>?_,fun b b' j h1 h2 hs hs'=>?_⟩
 ·obtain⟨i,hi,l,h1,h2⟩:=get j _ h
  cases i with
  |none=>cases h1
  |some i =>
   simp only[Q3L] at h1
   split at h1<;>first|(rename_i heq _;cases heq;done)|skip
   ·rename_i cs2 cs heq hob
    cases heq
    obtain⟨hG,cur,T,h3,h4⟩:=M.box i cs hob
    exact⟨by rw[Q3b hi];exact Q6a ho hi hG,cur,T,by rw[Q3b hi];exact h3,Qde hF ho h4 h1 h2⟩
   ·cases h1
 ·obtain⟨i,hi,l,h1,h2⟩:=get j _ h
  cases i with
  |none=>cases h1
  |some i =>
   simp only[Q3L] at h1
   split at h1<;>first|(rename_i heq _;cases heq;done)|skip
   ·rename_i cs2 cs heq hob
    cases heq
    cases h1
    obtain⟨h3,_⟩:=h2
    cases h3
    have:=M.fbox i _ hob k u hk
    rw[Q3b hi]
    exact this
   ·cases h1
 ·obtain⟨i,hi,l,h1,h2⟩:=get j _ h
  cases i with
  |none=>cases h1
  |some i =>
   simp only[Q3L] at h1
   split at h1<;>first|(rename_i heq _;cases heq;done)|skip
   ·rename_i heq hob
    cases heq
    cases h1
    obtain⟨h3,h4,_⟩:=h2
    cases h3
    cases h4
    obtain⟨hG,h5⟩:=M.iter i _ _ hob
    exact⟨by rw[Q3b hi];exact Q6a ho hi hG,by rw[Q3b hi];exact h5⟩
   ·cases h1
 ·obtain⟨i,hi,hG⟩:=Q2V h
  exact⟨(M.own b i hG).1,hF.1 ▸ Qb hi⟩
 ·obtain⟨i,hi,hG⟩:=Q2V h
  obtain⟨et,sz,e,xs,h1,h2⟩:=(M.imm b o hA).2 i hG (by rw[←Q4i ho hi hG];exact hs)
  obtain⟨fz',e',h3,h4⟩:=hF.row hi h1
  obtain rfl:=h4 rfl
  exact⟨et,sz,e',xs,h3,h2⟩
 ·obtain⟨i,hi,l,h1,h2⟩:=get j _ h
  cases i with
  |none =>
   simp only[Q3L] at h1
   split at h1
   ·rename_i hk
    cases h1
    obtain⟨h3,_⟩:=h2
    cases h3
    exact⟨hk.1,fun x h=>by cases h⟩
   ·cases h1
  |some i =>
   simp only[Q3L] at h1
   split at h1<;>first|(rename_i heq _;cases heq;done)|skip
   ·rename_i heq hob
    cases heq
    split at h1
    ·rename_i hk
     obtain⟨rfl,rfl,_⟩:=hk
     cases h1
     obtain⟨h3,_⟩:=h2
     cases h3
     exact M.roww i _ _ _ _ _ hob
    ·cases h1
   ·cases h1
 ·simp only[Gh.ren,Bool.and_eq_true] at hs
  obtain⟨j,hj⟩:=Option.isSome_iff_exists.1 hs.2
  obtain⟨i,et,sz,fz,e,xs,h1,h2⟩:=M.nsub b hs.1
  obtain⟨i',hi,hG⟩:=Q2V (g:=g) (ρ:=ρ) hj
  rw[h1] at hG
  obtain rfl:i=i':=by simpa using hG
  obtain⟨fz',e',h3,_⟩:=hF.row hi h2
  exact⟨j,_,_,_,_,_,hj,h3⟩
 ·obtain⟨i,hi,hG⟩:=Q2V h1
  obtain⟨i',hi',hG'⟩:=Q2V h2
  obtain rfl:i=i':=by
   have:=hi.symm.trans hi'
   simpa using this
  exact M.uniq b b' i hG hG' (by rw[←Q4i ho hi hG];exact hs) (by rw[←Q4i ho hi' hG'];exact hs')
end
end Go.Proofs.YthbjpdijafccjaaGreat
namespace Go.Proofs.YthbjpdijafccjaaGreat
open Go.RowKit Go.Lib
theorem Q1X {i:Nat}:∀ {ρ:List Nat} {j:Nat},Q22 i ρ=some j→ρ[j]?=some i
 | [],j,h=>by cases h
 |k::r,j,h=>by
  simp only[Q22] at h
  split at h
  ·rename_i e
   cases h;subst e;rfl
  ·obtain⟨j',h1,rfl⟩:=Option.map_eq_some_iff.1 h
   simpa using Q1X h1
theorem Q7k {i:Nat}:∀ {ρ:List Nat} {j:Nat},ρ[j]?=some i→∃ j',Q22 i ρ=some j'
 | [],j,h=>by simp at h
 |k::r,j,h=>by
  simp only[Q22]
  split
  ·exact⟨0,rfl⟩
  ·rename_i hne
   cases j with
   |zero=>exact absurd (by simpa using h.symm) hne
   |succ j =>
    obtain⟨j',h1⟩:=Q7k (ρ:=r) (j:=j) (by simpa using h)
    exact⟨j'+1,by rw[h1];rfl⟩
section
variable {ob:List Ob} {ρ:List Nat}
theorem Q3R {j i:Nat}(h:ρ[j]?=some i):(ρ.map some)[j]?=some (some i):=by rw[List.getElem?_map,h];rfl
theorem Qkd {j i:Nat}(h:(ρ.map some)[j]?=some (some i)):ρ[j]?=some i:=by
 rw[List.getElem?_map,Option.map_eq_some_iff] at h
 obtain⟨k,h1,h2⟩:=h
 cases h2;exact h1
theorem Q4I (h:Q2P (ρ.map some)=true){i j:Nat}(hj:ρ[j]?=some i):Q22 i ρ=some j:=by
 obtain⟨j',hj'⟩:=Q7k hj
 have h1:=Q6z h (Q3R hj)
 have h2:=Q6z h (Q3R (Q1X hj'))
 rw[h1] at h2
 cases h2;exact hj'
abbrev Q5n (ob:List Ob)(ρ:List Nat):List Ob:=ρ.map fun i=>inO ob ρ (ob.getD i .gone)
theorem Q6y {i j:Nat}(hj:ρ[j]?=some i):(Q5n ob ρ)[j]?=some (inO ob ρ (ob.getD i .gone)):=by
 simp only[Q5n,List.getElem?_map,hj,Option.map_some]
theorem Q6H {i:Nat}{o:Ob}(h:ob[i]?=some o):ob.getD i .gone=o:=by rw[List.getD_eq_getElem?_getD,h];rfl
theorem Q4S (x:AV):∃ l,Q5z ob (Q5n ob ρ) (ρ.map some) x (inC ob ρ x)=some l∧Qe l:=by
 have dead:∃ l,Q5z ob (Q5n ob ρ) (ρ.map some) x .dead=some l∧Qe l:=⟨[],rfl,trivial⟩
 cases x with
 |val v=>cases v<;>exact⟨_,rfl,rfl,trivial⟩
 |slc sz xs=>exact⟨_,rfl,rfl,trivial⟩
 |ref cs=>exact⟨_,rfl,rfl,trivial⟩
 |opt y=>exact⟨_,rfl,rfl,trivial⟩
 |kb b=>exact⟨_,rfl,rfl,trivial⟩
 |box i o =>
  simp only[inC]
  split
  ·rename_i j hj
   exact⟨[(.box i o,.box i o)],by simp only[Q5z,Q3R (Q1X hj)],rfl,trivial⟩
  ·exact dead
 |row i e =>
  simp only[inC]
  split
  ·rename_i j hj
   split
   ·rename_i et sz fz e2 xs hob
    split
    ·rename_i he
     subst he
     refine⟨[(.row i e2,.row i e2)],?_,rfl,trivial⟩
     have h1:=Q6y (ob:=ob) (Q1X hj)
     rw[Q6H hob] at h1
     simp only[Q5z,h1,inO,if_true,Q3R (Q1X hj),hob]
    ·exact dead
   ·exact dead
  ·exact dead
 |_=>exact dead
theorem QbG:∀ (xs:List AV),∃ l,QbT ob (Q5n ob ρ) (ρ.map some) xs (xs.map (inC ob ρ))=some l∧Qe l
 | []=>⟨[],rfl,trivial⟩
 |x::r=>by
  obtain⟨l1,h1,h2⟩:=Q4S (ob:=ob) (ρ:=ρ) x
  obtain⟨l2,h3,h4⟩:=QbG r
  exact⟨l1++l2,by simp only[List.map_cons,QbT,h1,h3,both],Q3x.2 ⟨h2,h4⟩⟩
theorem QjO (x:AV):∃ l,Qap ob (Q5n ob ρ) (ρ.map some) x (inA ob ρ x)=some l∧Qe l:=by
 cases x with
 |agg cs=>exact QbG cs
 |val v=>exact Q4S (ob:=ob) (ρ:=ρ) (.val v)
 |slc sz xs=>exact Q4S (ob:=ob) (ρ:=ρ) (.slc sz xs)
 |ref cs=>exact Q4S (ob:=ob) (ρ:=ρ) (.ref cs)
 |opt y=>exact Q4S (ob:=ob) (ρ:=ρ) (.opt y)
 |kb b=>exact Q4S (ob:=ob) (ρ:=ρ) (.kb b)
 |box i o =>
  obtain⟨l,h1,h2⟩:=Q4S (ob:=ob) (ρ:=ρ) (.box i o)
  refine⟨l,?_,h2⟩
  show Qap _ _ _ _ (inC ob ρ (.box i o))=_
  revert h1
  simp only[inC]
  split<;>exact id
 |row i e =>
  obtain⟨l,h1,h2⟩:=Q4S (ob:=ob) (ρ:=ρ) (.row i e)
  refine⟨l,?_,h2⟩
  show Qap _ _ _ _ (inC ob ρ (.row i e))=_
  revert h1
  simp only[inC]
  split<;>(try split)<;>(try split)<;>exact id
 |_=>exact⟨[],rfl,trivial⟩
theorem Q8M (ht:there ob ρ=true):Fits ob (Q5n ob ρ) (ρ.map some):=by
 refine⟨by simp,fun j i o hi ho=>?_⟩
 rw[List.getElem?_map,Option.map_eq_some_iff] at hi
 obtain⟨k,hk,rfl⟩:=hi
 rw[Q6y hk] at ho
 cases ho
 have h:=List.all_eq_true.1 ht k (List.mem_of_getElem? hk)
 cases hob:ob[k]? with
 |none=>rw[hob] at h;cases h
 |some q =>
  rw[Q6H hob]
  cases q with
  |gone=>rw[hob] at h;cases h
  |box cs=>simp only[inO,Q3L,hob];exact QbG cs
  |fbox cs=>exact⟨[(.slc 0 cs,.slc 0 cs)],by simp only[inO,Q3L,hob],rfl,trivial⟩
  |row et sz fz e xs=>exact⟨[(.slc 0 xs,.slc 0 xs)],by simp only[inO,Q3L,hob];simp,rfl,trivial⟩
  |iter s p=>exact⟨[(.val (.string s),.val (.string s)),(.box 0 p,.box 0 p)],by simp only[inO,Q3L,hob],rfl,rfl,trivial⟩
theorem QkV {w:World}{g:Gh}(ho:Q2P (ρ.map some)=true)(ht:there ob ρ=true){v:Value}{x:AV}(h:ARel w g ob v x):ARel w (g.ren (ρ.map some)) (Q5n ob ρ) v (inA ob ρ x):=by
 obtain⟨l,h1,h2⟩:=QjO (ob:=ob) (ρ:=ρ) x
 exact Q7t (Q8M ht) ho h h1 h2
theorem Qly {w:World}{g:Gh}(M:Mem w g ob)(ho:Q2P (ρ.map some)=true)(ht:there ob ρ=true):Mem w (g.ren (ρ.map some)) (Q5n ob ρ):=M.ren (Q8M ht) ho
end
def Gh.out (g g':Gh)(ρ:List Nat)(n:Nat):Gh where
 A:=g'.A
 G b:=match g'.G b with
  |some j=>some (Q38 ρ n j)
  |none=>match g.G b with
   |some id=>match Q22 id ρ with
    |some _=>none
    |none=>some id
   |none=>none
 loc id:=match Q22 id ρ with
  |some j=>g'.loc j
  |none=>if id<n then g.loc id else g'.loc (ρ.length+(id-n))
 sub b:=match g'.G b with
  |some _=>g'.sub b
  |none=>match g.G b with
   |some id=>match Q22 id ρ with
    |some _=>false
    |none=>g.sub b
   |none=>false
section
variable {w w':World} {g g':Gh} {ob ob':List Ob} {ρ:List Nat}
structure CallAt (w:World) (g:Gh) (ob:List Ob) (ρ:List Nat) (w':World) (g':Gh) (ob':List Ob):Prop where
 once:Q2P (ρ.map some)=true
 there:there ob ρ=true
 len:ρ.length≤ob'.length
 m:Mem w g ob
 m':Mem w' g' ob'
 st:Step w (g.ren (ρ.map some)) (Q5n ob ρ) w' g' ob'
theorem CallAt.lt (C:CallAt w g ob ρ w' g' ob'){i j:Nat}(hj:ρ[j]?=some i):i<ob.length:=by
 have h:=List.all_eq_true.1 C.there i (List.mem_of_getElem? hj)
 cases hob:ob[i]? with
 |none=>rw[hob] at h;cases h
 |some _=>exact Qb hob
theorem CallAt.outI_lt (C:CallAt w g ob ρ w' g' ob'){j:Nat}(hj:j<ob'.length):Q38 ρ ob.length j<ob.length+(ob'.length-ρ.length):=by
 unfold Q38
 split
 ·rename_i h
  have h1:ρ[j]?=some (ρ.getD j 0):=by rw[List.getD_eq_getElem?_getD,List.getElem?_eq_getElem h];rfl
  have:=C.lt h1
  omega
 ·have:=C.len;omega
theorem CallAt.outI_at (C:CallAt w g ob ρ w' g' ob')(j:Nat):(j<ρ.length∧ρ[j]?=some (Q38 ρ ob.length j)∧Q38 ρ ob.length j<ob.length)∨(ρ.length≤j∧Q38 ρ ob.length j=ob.length+(j-ρ.length)):=by
 unfold Q38
 split
 ·rename_i h
  have h1:ρ[j]?=some (ρ.getD j 0):=by rw[List.getD_eq_getElem?_getD,List.getElem?_eq_getElem h];rfl
  exact .inl ⟨h,h1,C.lt h1⟩
 ·exact .inr ⟨by omega,rfl⟩
theorem CallAt.outI_inj (C:CallAt w g ob ρ w' g' ob'){j j':Nat}(h:Q38 ρ ob.length j=Q38 ρ ob.length j'):j=j':=by
 rcases C.outI_at j with ⟨h1,h2,h3⟩|⟨h1,h2⟩<;>rcases C.outI_at j' with ⟨h4,h5,h6⟩|⟨h4,h5⟩
 ·rw[h] at h2
  have:=(Q4I C.once h2).symm.trans (Q4I C.once h5)
  exact Option.some.inj this
 ·omega
 ·omega
 ·omega
theorem CallAt.outI_not (C:CallAt w g ob ρ w' g' ob'){j:Nat}(hp:Q22 (Q38 ρ ob.length j) ρ=none)(hl:Q38 ρ ob.length j<ob.length):False:=by
 rcases C.outI_at j with ⟨h1,h2,h3⟩|⟨h1,h2⟩
 ·rw[Q4I C.once h2] at hp;cases hp
 ·omega
theorem CallAt.back_len (C:CallAt w g ob ρ w' g' ob'):(Q5S ob ρ ob').length=ob.length+(ob'.length-ρ.length):=by simp[Q5S]
theorem CallAt.back_out (C:CallAt w g ob ρ w' g' ob'){j:Nat}{o:Ob}(hj:ob'[j]?=some o):(Q5S ob ρ ob')[Q38 ρ ob.length j]?=some (Qev ob ρ j o):=by
 have hl:=Qb hj
 have h1:=C.outI_lt hl
 simp only[Q5S,List.getElem?_map,List.getElem?_range h1,Option.map_some]
 unfold Q38
 by_cases h:j<ρ.length
 ·rw[if_pos h]
  have h2:ρ[j]?=some (ρ.getD j 0):=by rw[List.getD_eq_getElem?_getD,List.getElem?_eq_getElem h];rfl
  simp only[Q4I C.once h2,Q6H hj]
 ·rw[if_neg h]
  have h2:Q22 (ob.length+(j-ρ.length)) ρ=none:=by
   cases hp:Q22 (ob.length+(j-ρ.length)) ρ with
   |none=>rfl
   |some k=>have:=C.lt (Q1X hp);omega
  have h3:¬ (ob.length+(j-ρ.length)<ob.length):=by omega
  have h4:ρ.length+(ob.length+(j-ρ.length)-ob.length)=j:=by omega
  simp only[h2,h3,if_false,h4,Q6H hj]
theorem CallAt.back_own (C:CallAt w g ob ρ w' g' ob'){id:Nat}(hid:id<ob.length)(hp:Q22 id ρ=none):(Q5S ob ρ ob')[id]?=ob[id]?:=by
 have h1:id<ob.length+(ob'.length-ρ.length):=by omega
 simp only[Q5S,List.getElem?_map,List.getElem?_range h1,Option.map_some,hp,hid,if_true]
 rw[List.getElem?_eq_getElem hid,List.getD_eq_getElem?_getD,List.getElem?_eq_getElem hid];rfl
theorem CallAt.back_cases (C:CallAt w g ob ρ w' g' ob'){id:Nat}{o:Ob}(h:(Q5S ob ρ ob')[id]?=some o) :
  (∃ j o',ob'[j]?=some o'∧id=Q38 ρ ob.length j∧o=Qev ob ρ j o')∨(id<ob.length∧Q22 id ρ=none∧ob[id]?=some o):=by
 have hlt:=Qb h
 rw[C.back_len] at hlt
 cases hp:Q22 id ρ with
 |some j =>
  left
  have hj:=Q1X hp
  have hl:j<ob'.length:=Nat.lt_of_lt_of_le (Qb hj) C.len
  have e:Q38 ρ ob.length j=id:=by
   unfold Q38
   rw[if_pos (Qb hj),List.getD_eq_getElem?_getD,hj];rfl
  refine⟨j,_,List.getElem?_eq_getElem hl,e.symm,?_⟩
  have h2:=C.back_out (List.getElem?_eq_getElem hl)
  rw[e,h] at h2
  exact Option.some.inj h2
 |none =>
  by_cases hid:id<ob.length
  ·rw[C.back_own hid hp] at h
   exact .inr ⟨hid,rfl,h⟩
  ·left
   have hl:ρ.length+(id-ob.length)<ob'.length:=by have:=C.len;omega
   have e:Q38 ρ ob.length (ρ.length+(id-ob.length))=id:=by
    unfold Q38
    rw[if_neg (by omega)];omega
   refine⟨_,_,List.getElem?_eq_getElem hl,e.symm,?_⟩
   have h2:=C.back_out (List.getElem?_eq_getElem hl)
   rw[e,h] at h2
   exact Option.some.inj h2
theorem CallAt.loc_out (C:CallAt w g ob ρ w' g' ob'){j:Nat}:(g.out g' ρ ob.length).loc (Q38 ρ ob.length j)=g'.loc j:=by
 unfold Q38
 by_cases h:j<ρ.length
 ·rw[if_pos h]
  have h2:ρ[j]?=some (ρ.getD j 0):=by rw[List.getD_eq_getElem?_getD,List.getElem?_eq_getElem h];rfl
  simp only[Gh.out,Q4I C.once h2]
 ·rw[if_neg h]
  have h2:Q22 (ob.length+(j-ρ.length)) ρ=none:=by
   cases hp:Q22 (ob.length+(j-ρ.length)) ρ with
   |none=>rfl
   |some k=>have:=C.lt (Q1X hp);omega
  have h3:¬ (ob.length+(j-ρ.length)<ob.length):=by omega
  have h4:ρ.length+(ob.length+(j-ρ.length)-ob.length)=j:=by omega
  simp only[Gh.out,h2,h3,if_false,h4]
theorem Q6G {j b:Nat}(h:g'.G b=some j):(g.out g' ρ ob.length).sub b=g'.sub b:=by simp only[Gh.out,h]
theorem Q6e {id b:Nat}(h:g'.G b=none)(h1:g.G b=some id)(hp:Q22 id ρ=none):(g.out g' ρ ob.length).sub b=g.sub b:=by simp only[Gh.out,h,h1,hp]
theorem Qb0 {j b:Nat}(h:g'.G b=some j):(g.out g' ρ ob.length).G b=some (Q38 ρ ob.length j):=by simp only[Gh.out,h]
theorem CallAt.own_G (C:CallAt w g ob ρ w' g' ob'){b id:Nat}(h:g.G b=some id)(hp:Q22 id ρ=none) :
  (g.ren (ρ.map some)).G b=none∧g'.G b=none∧(g.out g' ρ ob.length).G b=some id∧w'.heap[b]?=w.heap[b]?:=by
 have h1:(g.ren (ρ.map some)).G b=none:=by
  cases hr:(g.ren (ρ.map some)).G b with
  |none=>rfl
  |some j =>
   obtain⟨i,hi,hG⟩:=Q2V hr
   rw[h] at hG;cases hG
   obtain⟨j',hj'⟩:=Q7k (Qkd hi)
   rw[hp] at hj';cases hj'
 have hb:=(C.m.own b id h).1
 have h2:g'.G b=none:=by
  cases hr:g'.G b with
  |none=>rfl
  |some j =>
   rcases C.st.own b j hr with ⟨k,hk⟩|hk
   ·rw[h1] at hk;cases hk
   ·omega
 exact⟨h1,h2,by simp only[Gh.out,h2,h,hp],C.st.keep b hb h1⟩
theorem CallAt.G_cases (C:CallAt w g ob ρ w' g' ob'){b id:Nat}(h:(g.out g' ρ ob.length).G b=some id) :
  (∃ j,g'.G b=some j∧id=Q38 ρ ob.length j)∨(g'.G b=none∧g.G b=some id∧Q22 id ρ=none):=by
 simp only[Gh.out] at h
 cases h1:g'.G b with
 |some j=>rw[h1] at h;exact .inl ⟨j,rfl,(Option.some.inj h).symm⟩
 |none =>
  rw[h1] at h
  cases h2:g.G b with
  |none=>rw[h2] at h;cases h
  |some k =>
   rw[h2] at h
   cases h3:Q22 k ρ with
   |some _=>simp only[h3] at h;cases h
   |none=>simp only[h3] at h;cases h;exact .inr ⟨rfl,rfl,h3⟩
theorem QiZ {j:Nat}{o:Ob}(h:Q6X (some o)):Q6X (some (Qev ob ρ j o)):=by cases o<;>first|exact h.elim|trivial
theorem QkD {j:Nat}{o:Ob}(h:Qaq (some o)):Qaq (some (Qev ob ρ j o)):=by cases o<;>first|exact h.elim|trivial
theorem CallAt.isb_out (C:CallAt w g ob ρ w' g' ob'){j:Nat}(h:Q6X ob'[j]?):Q6X (Q5S ob ρ ob')[Q38 ρ ob.length j]?:=by
 have hl:=Q46 h
 rw[List.getElem?_eq_getElem hl] at h
 rw[C.back_out (List.getElem?_eq_getElem hl)]
 exact QiZ h
theorem CallAt.isi_out (C:CallAt w g ob ρ w' g' ob'){j:Nat}(h:Qaq ob'[j]?):Qaq (Q5S ob ρ ob')[Q38 ρ ob.length j]?:=by
 have hl:=Q4U h
 rw[List.getElem?_eq_getElem hl] at h
 rw[C.back_out (List.getElem?_eq_getElem hl)]
 exact QkD h
theorem Q7N {i j:Nat}(hj:ρ[j]?=some i)(n:Nat):Q38 ρ n j=i:=by
 unfold Q38
 rw[if_pos (Qb hj),List.getD_eq_getElem?_getD,hj];rfl
theorem CallAt.ext (C:CallAt w g ob ρ w' g' ob'):Ext w g ob w' (g.out g' ρ ob.length) (Q5S ob ρ ob'):=by
 refine⟨C.st.ext.A,fun id hid=>?_,fun id hb=>?_,fun id hb=>?_,fun id et sz fz e xs hr=>?_,fun b id hG hs=>?_⟩
 rotate_right
 ·obtain⟨et,sz,fz,fz',e,xs,xs',h1,h2⟩:=hs
  cases hp:Q22 id ρ with
  |none =>
   obtain⟨h3,h4,h5,h6⟩:=C.own_G hG hp
   refine⟨Q6e h4 hG hp,fun _ o hA=>?_⟩
   rcases C.st.imm b o hA with h7|⟨k,h7⟩|h7
   ·exact h7
   ·rw[h3] at h7;cases h7
   ·have:=(C.m.own b id hG).1;omega
  |some j =>
   have hj:=Q1X hp
   have h3:(Q5n ob ρ)[j]?=some (.row et sz fz 0 xs):=by rw[Q6y hj,Q6H h1];rfl
   obtain⟨fz2,e2,xs2,h4,_,h5⟩:=C.st.ext.row j _ _ _ _ _ h3
   have h6:=C.back_out h4
   rw[Q7N hj,h2] at h6
   have h7:Q8C ob ρ j=e:=by simp only[Q8C,hj,QlT,h1]
   simp only[Qev,h7] at h6
   have h8:e2=0:=by
    have h9:e=e+e2:=by injection h6 with h6;injection h6
    omega
   subst h8
   have hG2:=Q6a (g:=g) C.once (Q3R hj) hG
   obtain⟨h9,h10⟩:=C.st.ext.sub b j hG2 ⟨_,_,_,_,_,_,_,h3,h4⟩
   have hs2:=Q4i (g:=g) C.once (Q3R hj) hG
   refine⟨(Q6G ((h5 rfl).2 b hG2).1).trans (h9.trans hs2),fun hsb o hA=>h10 (hs2.trans hsb) o hA⟩
 ·cases hp:Q22 id ρ with
  |none=>simp only[Gh.out,hp,hid,if_true]
  |some j =>
   have hj:=Q1X hp
   simp only[Gh.out,hp]
   rw[C.st.ext.loc j (by simpa using Qb hj),Q3b (Q3R hj)]
 ·cases hp:Q22 id ρ with
  |none=>rw[C.back_own (Q46 hb) hp];exact hb
  |some j =>
   have hj:=Q1X hp
   have:=C.isb_out (C.st.ext.isb j ((Q8M C.there).isB (Q3R hj) hb))
   rw[Q7N hj] at this;exact this
 ·cases hp:Q22 id ρ with
  |none=>rw[C.back_own (Q4U hb) hp];exact hb
  |some j =>
   have hj:=Q1X hp
   have:=C.isi_out (C.st.ext.isi j ((Q8M C.there).isI (Q3R hj) hb))
   rw[Q7N hj] at this;exact this
 ·cases hp:Q22 id ρ with
  |none =>
   refine⟨fz,e,xs,by rw[C.back_own (Qb hr) hp];exact hr,Nat.le_refl _,fun _=>⟨rfl,fun b hb=>?_⟩⟩
   obtain⟨_,_,h3,h4⟩:=C.own_G hb hp
   exact⟨h3,h4⟩
  |some j =>
   have hj:=Q1X hp
   have h1:(Q5n ob ρ)[j]?=some (.row et sz fz 0 xs):=by rw[Q6y hj,Q6H hr];rfl
   obtain⟨fz',e',xs',h2,h3,h4⟩:=C.st.ext.row j _ _ _ _ _ h1
   have h5:=C.back_out h2
   rw[Q7N hj] at h5
   have h6:Q8C ob ρ j=e:=by simp only[Q8C,hj,QlT,hr]
   refine⟨fz',e+e',xs',by rw[h5,←h6];rfl,by omega,fun he=>?_⟩
   obtain⟨h7,h8⟩:=h4 (by omega)
   refine⟨h7,fun b hb=>?_⟩
   obtain⟨h9,h10⟩:=h8 b (Q6a C.once (Q3R hj) hb)
   refine⟨?_,h10⟩
   rw[Qb0 h9,Q7N hj]
theorem CallAt.row_out (C:CallAt w g ob ρ w' g' ob'){j et sz:Nat}{v:Value}{xs:List AV}(h:RowV w' g' j et sz v xs):RowV w' (g.out g' ρ ob.length) (Q38 ρ ob.length j) et sz v xs:=by
 obtain⟨ys,h1,h2,h3,h4,h5⟩:=h
 exact⟨ys,h1,fun b hb=>Qb0 (h2 b hb),h3,h4,h5.ext h2 fun b hb=>⟨Qb0 hb,Q6G hb,fun _=>⟨rfl,fun _ h=>h⟩⟩⟩
theorem CallAt.rel0 (C:CallAt w g ob ρ w' g' ob'){v:Value}{x:AV}(h:ARel0 w' g' ob' v x):ARel0 w' (g.out g' ρ ob.length) (Q5S ob ρ ob') v (Qjx ob ρ x):=by
 cases x with
 |box j o=>exact⟨by rw[C.loc_out];exact h.1,C.isb_out h.2⟩
 |iter j=>exact⟨by rw[C.loc_out];exact h.1,C.isi_out h.2⟩
 |row j e =>
  obtain⟨h0,et,sz,fz,e',xs,h1,h2,h3⟩:=h
  refine⟨h0,et,sz,fz,Q8C ob ρ j+e',xs,C.back_out h1,by omega,fun he=>C.row_out (h3 (by omega))⟩
 |rowk j e k =>
  obtain⟨h0,et,sz,fz,e',xs,h1,h2,h3⟩:=h
  refine⟨h0,et,sz,fz,Q8C ob ρ j+e',xs,C.back_out h1,by omega,fun he=>?_⟩
  obtain⟨h4,h5,h6⟩:=h3 (by omega)
  exact⟨h4,h5,C.row_out h6⟩
 |rptr j e i o =>
  obtain⟨h0,et,sz,fz,e',xs,h1,h2,h3⟩:=h
  refine⟨h0,et,sz,fz,Q8C ob ρ j+e',xs,C.back_out h1,by omega,fun he=>?_⟩
  obtain⟨b,c,h4,h5,h6,h7⟩:=h3 (by omega)
  exact⟨b,c,h4,h5,h6,C.row_out h7⟩
 |_=>exact h
theorem CallAt.relC (C:CallAt w g ob ρ w' g' ob'){vs:List Value}{cs:List AV}(h:ARelC w' g' ob' vs cs):ARelC w' (g.out g' ρ ob.length) (Q5S ob ρ ob') vs (cs.map (Qjx ob ρ)):=by
 refine⟨by simp[h.1],fun j y u hy hu=>?_⟩
 rw[List.getElem?_map,Option.map_eq_some_iff] at hu
 obtain⟨u',h1,rfl⟩:=hu
 exact⟨C.rel0 (h.2 j y u' hy h1).1,(h.2 j y u' hy h1).2⟩
theorem CallAt.rel1 (C:CallAt w g ob ρ w' g' ob'){v:Value}{x:AV}(h:ARel1 w' g' ob' v x):ARel1 w' (g.out g' ρ ob.length) (Q5S ob ρ ob') v (Qjb ob ρ x):=by
 cases x with
 |agg cs=>obtain⟨vs,rfl,h⟩:=h;exact⟨vs,rfl,C.relC h⟩
 |tup _=>exact (show False from h).elim
 |val a=>exact C.rel0 (x:=.val a) h
 |slc a b=>exact C.rel0 (x:=.slc a b) h
 |ref a=>exact C.rel0 (x:=.ref a) h
 |opt a=>exact C.rel0 (x:=.opt a) h
 |box a b=>exact C.rel0 (x:=.box a b) h
 |row a b=>exact C.rel0 (x:=.row a b) h
 |rowk a b c=>exact C.rel0 (x:=.rowk a b c) h
 |rptr a b c d=>exact C.rel0 (x:=.rptr a b c d) h
 |kb a=>exact C.rel0 (x:=.kb a) h
 |iter a=>exact C.rel0 (x:=.iter a) h
 |dead=>trivial
theorem CallAt.rel (C:CallAt w g ob ρ w' g' ob'){v:Value}{x:AV}(h:ARel w' g' ob' v x):ARel w' (g.out g' ρ ob.length) (Q5S ob ρ ob') v (QlS ob ρ x):=by
 cases x with
 |tup xs =>
  obtain⟨vs,rfl,h1,h2⟩:=h
  refine⟨vs,rfl,by simp[h1],fun j y u hy hu=>?_⟩
  rw[List.getElem?_map,Option.map_eq_some_iff] at hu
  obtain⟨u',h3,rfl⟩:=hu
  exact C.rel1 (h2 j y u' hy h3)
 |agg cs=>exact (C.rel1 (x:=.agg cs) h).to
 |val a=>exact (C.rel1 (x:=.val a) h).to
 |slc a b=>exact (C.rel1 (x:=.slc a b) h).to
 |ref a=>exact (C.rel1 (x:=.ref a) h).to
 |opt a=>exact (C.rel1 (x:=.opt a) h).to
 |box a b=>exact (C.rel1 (x:=.box a b) h).to
 |row a b=>exact (C.rel1 (x:=.row a b) h).to
 |rowk a b c=>exact (C.rel1 (x:=.rowk a b c) h).to
 |rptr a b c d=>exact (C.rel1 (x:=.rptr a b c d) h).to
 |kb a=>exact (C.rel1 (x:=.kb a) h).to
 |iter a=>exact (C.rel1 (x:=.iter a) h).to
 |dead=>trivial
theorem CallAt.mem (C:CallAt w g ob ρ w' g' ob'):Mem w' (g.out g' ρ ob.length) (Q5S ob ρ ob'):=by
 have E:=C.ext
 refine⟨fun id cs h=>?_,fun id cs h k u hk=>?_,fun id s pos h=>?_,fun b id h=>?_,fun b o hA=>?_,fun id et sz fz e xs h=>?_,fun b hs=>?_,fun b b' id h1 h2 hs hs'=>?_⟩
 ·rcases C.back_cases h with ⟨j,o',h1,rfl,h2⟩|⟨hid,hp,h1⟩
  ·cases o'<;>cases h2
   rename_i cs'
   obtain⟨hG,cur,T,h3,h4⟩:=C.m'.box j cs' h1
   exact⟨by rw[C.loc_out];exact Qb0 hG,cur,T,by rw[C.loc_out];exact h3,C.relC h4⟩
  ·obtain⟨hG,cur,T,h3,h4⟩:=C.m.box id cs h1
   obtain⟨_,_,h5,h6⟩:=C.own_G hG hp
   have hl:(g.out g' ρ ob.length).loc id=g.loc id:=E.loc id hid
   exact⟨by rw[hl];exact h5,cur,T,by rw[hl,h6];exact h3,h4.ext E⟩
 ·rcases C.back_cases h with ⟨j,o',h1,rfl,h2⟩|⟨hid,hp,h1⟩
  ·cases o'<;>cases h2
   rw[C.loc_out]
   exact C.m'.fbox j _ h1 k u hk
  ·obtain⟨hA,y,h3,h4⟩:=C.m.fbox id cs h1 k u hk
   have hl:(g.out g' ρ ob.length).loc id=g.loc id:=E.loc id hid
   rw[hl]
   exact⟨(E.A _ _ hA).1,y,by rw[(E.A _ _ hA).2];exact h3,h4.keep E.A⟩
 ·rcases C.back_cases h with ⟨j,o',h1,rfl,h2⟩|⟨hid,hp,h1⟩
  ·cases o'<;>cases h2
   obtain⟨hG,h3⟩:=C.m'.iter j _ _ h1
   exact⟨by rw[C.loc_out];exact Qb0 hG,by rw[C.loc_out];exact h3⟩
  ·obtain⟨hG,h3⟩:=C.m.iter id s pos h1
   obtain⟨_,_,h5,h6⟩:=C.own_G hG hp
   have hl:(g.out g' ρ ob.length).loc id=g.loc id:=E.loc id hid
   exact⟨by rw[hl];exact h5,by rw[hl,h6];exact h3⟩
 ·rw[C.back_len]
  rcases C.G_cases h with ⟨j,hj,rfl⟩|⟨_,h1,_⟩
  ·exact⟨(C.m'.own b j hj).1,C.outI_lt (C.m'.own b j hj).2⟩
  ·have:=C.m.own b id h1
   exact⟨Nat.lt_of_lt_of_le this.1 C.st.size,by omega⟩
 ·refine⟨(C.m'.imm b o hA).1,fun id h hs=>?_⟩
  rcases C.G_cases h with ⟨j,hj,rfl⟩|⟨h0,h1,hp⟩
  ·obtain⟨et,sz,e,xs,h2,h3⟩:=(C.m'.imm b o hA).2 j hj ((Q6G hj).symm.trans hs)
   exact⟨et,sz,Q8C ob ρ j+e,xs,C.back_out h2,h3⟩
  ·obtain⟨h4,_,_,_⟩:=C.own_G h1 hp
   rcases C.st.imm b o hA with h5|⟨k,h5⟩|h5
   ·obtain⟨et,sz,e,xs,h2,h3⟩:=(C.m.imm b o h5).2 id h1 ((Q6e h0 h1 hp).symm.trans hs)
    exact⟨et,sz,e,xs,by rw[C.back_own (Qb h2) hp];exact h2,h3⟩
   ·rw[h4] at h5;cases h5
   ·have:=(C.m.own b id h1).1;omega
 ·rcases C.back_cases h with ⟨j,o',h1,rfl,h2⟩|⟨hid,hp,h1⟩
  ·cases o'<;>cases h2
   exact C.m'.roww j _ _ _ _ _ h1
  ·exact C.m.roww id _ _ _ _ _ h1
 ·cases h1:g'.G b with
  |some j =>
   obtain⟨j',et,sz,fz,e,xs,h2,h3⟩:=C.m'.nsub b ((Q6G h1).symm.trans hs)
   exact⟨_,_,_,_,_,_,Qb0 h2,C.back_out h3⟩
  |none =>
   cases h2:g.G b with
   |none=>simp only[Gh.out,h1,h2] at hs;cases hs
   |some id =>
    cases hp:Q22 id ρ with
    |some k=>simp only[Gh.out,h1,h2,hp] at hs;cases hs
    |none =>
     obtain⟨id',et,sz,fz,e,xs,h3,h4⟩:=C.m.nsub b ((Q6e h1 h2 hp).symm.trans hs)
     rw[h2] at h3
     obtain rfl:id=id':=by simpa using h3
     exact⟨id,et,sz,fz,e,xs,(C.own_G h2 hp).2.2.1,by rw[C.back_own (Qb h4) hp];exact h4⟩
 ·rcases C.G_cases h1 with ⟨j,hj,rfl⟩|⟨h0,h3,hp⟩
  ·rcases C.G_cases h2 with ⟨j',hj',he⟩|⟨h0',h4,hp'⟩
   ·obtain rfl:=C.outI_inj he
    exact C.m'.uniq b b' j hj hj' ((Q6G hj).symm.trans hs) ((Q6G hj').symm.trans hs')
   ·exact (C.outI_not hp' (C.m.own b' _ h4).2).elim
  ·rcases C.G_cases h2 with ⟨j',hj',he⟩|⟨h0',h4,hp'⟩
   ·subst he
    exact (C.outI_not hp (C.m.own b _ h3).2).elim
   ·exact C.m.uniq b b' id h3 h4 ((Q6e h0 h3 hp).symm.trans hs) ((Q6e h0' h4 hp').symm.trans hs')
theorem CallAt.step (C:CallAt w g ob ρ w' g' ob'):Step w g ob w' (g.out g' ρ ob.length) (Q5S ob ρ ob'):=by
 have none_in:∀ b,g.G b=none→(g.ren (ρ.map some)).G b=none:=fun b h=>by simp[Gh.ren,h]
 have some_in:∀ b k,(g.ren (ρ.map some)).G b=some k→∃ id,g.G b=some id:=fun b k h=>by
  obtain⟨i,_,hG⟩:=Q2V h
  exact⟨i,hG⟩
 refine⟨C.st.os,C.st.tape,C.st.output,C.st.size,fun b hb hG=>C.st.keep b hb (none_in b hG),fun b id h=>?_,fun b o hA=>?_,C.ext,?_⟩
 ·rcases C.G_cases h with ⟨j,hj,rfl⟩|⟨_,h1,_⟩
  ·rcases C.st.own b j hj with ⟨k,hk⟩|hk
   ·exact .inl (some_in b k hk)
   ·exact .inr hk
  ·exact .inl ⟨id,h1⟩
 ·rcases C.st.imm b o hA with h|⟨k,h⟩|h
  ·exact .inl h
  ·exact .inr (.inl (some_in b k h))
  ·exact .inr (.inr h)
 ·rw[C.back_len];omega
end
end Go.Proofs.YthbjpdijafccjaaGreat
namespace Go.Proofs.YthbjpdijafccjaaGreat
open Go.RowKit Go.Lib
section
variable {P:Program} {ty:Tys} {w0:World} {g0:Gh} {o0:List Ob} {N:Nat} {Q:Ex→St→Prop} {w w':World} {g g':Gh} {ob ob':List Ob}
theorem ARel.to1' {v:Value}{x:AV}(h:ARel w g ob v x)(hl:∀ xs,x≠.tup xs):ARel1 w g ob v x:=by cases x<;>first|exact h|exact absurd rfl (hl _)
theorem Qef {o:Oper}{a:Act}{w:World}{f:Operand}{args:Array Operand}{tys:Array TypeId}{h:Nat}(ho:o.op=.call { callee:=.value f,args:=args,argTypes:=tys })(hf:a.eval f=.func (.func h) #[] #[])
  (he:∀ vs w,(callFunc h vs).run P w=.ok (.enter h vs) w):(execOp a.eval o).run P w=.ok (.enter h (args.map a.eval)) w:=by
 simp only[execOp,ho,resolve,hf,Deferred.ofValue,Sem.run_bind,Sem.run_pure,Result.andThen_ok,invoke]
 rw[he]
 simp
theorem Qki {K:St→Tree}{o:Oper}{s:St}{a:Act}{w:World}{R:Exit→Act→World→Prop}(hs:Sim w0 g0 o0 N s a w)(hd:∀ t,o.dst=some t→t<N)
  {f:Operand} {args:Array Operand} {tys:Array TypeId} {h:Nat} (ho:o.op=.call { callee:=.value f,args:=args,argTypes:=tys }) (hf:ev s f=.val (.func (.func h) #[] #[]))
  {vs:List AV} {ob:List Ob} (he:Q49 (frz std true 9) s.ob (args.toList.map (ev s))=some (vs,ob)) {ρ:List Nat} (hon:Q2P (ρ.map some)=true) (hth:there ob ρ=true)
  (hq:tys.toList.any (QlQ ty)=true∨ρ.isEmpty=true) {res:AV} {ob':List Ob} (hlen:ρ.length≤ob'.length) (hc:BCall P h (vs.map (inA ob ρ)) (Q5n ob ρ) res ob')
  (hok:(K (St.put ⟨s.tm,Q5S ob ρ ob'⟩ o.dst (QlS ob ρ res))).ok P w0 g0 o0 N Q):o.wp P a w (Q6P ty P w0 g0 o0 N Q K o.op w) R:=by
 obtain⟨g,M,hS,h0⟩:=hs.rel
 have hfr:=QN hS f
 rw[hf] at hfr
 have hL:Q3E w g s.ob (args.toList.map a.eval) (args.toList.map (ev s)):=by
  refine⟨by simp,fun j v x hv hx=>?_⟩
  rw[List.getElem?_map,Option.map_eq_some_iff] at hv hx
  obtain⟨q,hq,rfl⟩:=hv
  obtain⟨q',hq',rfl⟩:=hx
  rw[hq] at hq';cases hq'
  exact (QN hS q).to1 (Q6x _ _ _ _ he _ (List.mem_map.2 ⟨q,List.mem_of_getElem? hq,rfl⟩))
 obtain⟨g1,M1,E1,L1,G1⟩:=QkH _ _ g s.ob vs ob M hL he
 have hrun:=Qef (P:=P) (w:=w) ho hfr.valEq hc.1
 unfold Oper.wp
 rw[hrun]
 show Calls P h (args.map a.eval) w _
 have hargs:args.map a.eval=(args.toList.map a.eval).toArray:=by apply Array.ext';simp
 rw[hargs]
 refine (hc.2 w (g1.ren (ρ.map some)) _ (Qly M1 hon hth) ⟨by simp[L1.1],fun j v x hv hx=>?_⟩).mono ?_
 ·rw[List.getElem?_map,Option.map_eq_some_iff] at hx
  obtain⟨x',hx',rfl⟩:=hx
  have h1:=L1.2 j v x' hv hx'
  have h2:=QkV hon hth h1.to
  cases x' with
  |agg cs=>exact h2
  |tup _=>exact (show False from h1).elim
  |box i o=>exact h2.to1' (by simp only[inA,inC];split<;>simp)
  |row i e=>exact h2.to1' (by simp only[inA,inC];split<;>(try split)<;>(try split)<;>simp)
  |_=>exact h2
 rintro e w' ⟨v,g2,rfl,M2,R2,S2⟩
 have C:CallAt w g1 ob ρ w' g2 ob':=⟨hon,hth,hlen,M1,M2,S2⟩
 have hS1:Q1s w g1 ⟨s.tm,ob⟩ a:=fun t=>(hS t).ext E1
 have hs1:Sim w0 g0 o0 N ⟨s.tm,ob⟩ a w:=⟨hs.defers,hs.size,g1,M1,hS1,h0.trans (Step.ghost E1 G1)⟩
 refine⟨fun hqu=>?_,_,Q2J (s:=⟨s.tm,ob⟩) hs1 hS1 (h0.trans (Step.ghost E1 G1)) C.mem C.step hd (C.rel R2),hok⟩
 rcases hq with hq|hq
 ·simp[ho,Q4v,hq] at hqu
 ·have hr:ρ=[]:=by simpa using hq
  subst hr
  exact⟨S2.os,S2.tape,S2.output,S2.size,fun b hb=>S2.keep b hb (by
   cases hx:(g1.ren (([]:List Nat).map some)).G b with
   |none=>rfl
   |some j =>
    obtain⟨i,hi,_⟩:=Q2V hx
    simp at hi)⟩
theorem QcI (hT:TyOk P ty){cs:Nat→List AV→List Ob→Option (AV×List Ob)}{K:St→Tree}{o:Oper}{s:St}{a:Act}{w:World}{R:Exit→Act→World→Prop}(hs:Sim w0 g0 o0 N s a w)(hd:∀ t,o.dst=some t→t<N)
  (hok:(aop std ty cs K o s).ok P w0 g0 o0 N Q):o.wp P a w (Q6P ty P w0 g0 o0 N Q K o.op w) R:=by
 have still:∀ {s:St},Sim w0 g0 o0 N s a w→∀ {q:Option DP} {v:AV},Q2E std ty s o.op=some (q,v)→(∀ r,q=some r→r)→(K (St.put s o.dst v)).ok P w0 g0 o0 N Q→o.wp P a w (Q6P ty P w0 g0 o0 N Q K o.op w) R :=
  fun hs _ _ h hq hk=>Qdy hs hd (fun g M hS=>Q7j hT hS M h hq) hk
 -- what stands behind 'aval'
 have rest0:∀ {s:St},Sim w0 g0 o0 N s a w→(Q3s std ty K o s o.op).ok P w0 g0 o0 N Q→o.wp P a w (Q6P ty P w0 g0 o0 N Q K o.op w) R:=by
  intro s hs h
  unfold Q3s at h
  split at h
  ·rename_i v hv
   exact still hs hv (fun r h=>by cases h) h
  ·rename_i q v hv
   exact still hs hv (fun r hr=>by cases hr;exact h.1) h.2
  ·split at h
   ·rename_i src dst x ho
    split at h
    ·rename_i b hb
     split at h
     ·rename_i hk
      exact Qho hT hs hd ho hb hk.1 hk.2.1 hk.2.2 h.1 h.2
     ·exact h.elim
    ·rename_i id ep hx
     split at h
     ·rename_i et sz e xs hob
      split at h
      ·rename_i hk
       obtain⟨rfl,rfl,rfl,hk1,hk2⟩:=hk
       exact Qke hT hs hd ho hx hob hk1 hk2 h.1 h.2
      ·exact h.elim
     ·exact h.elim
    ·exact h.elim
   ·exact h.elim
 have rest:(Q3s std ty K o s o.op).ok P w0 g0 o0 N Q→o.wp P a w (Q6P ty P w0 g0 o0 N Q K o.op w) R:=rest0 hs
 obtain⟨op,ho⟩:∃ op,o.op=op:=⟨_,rfl⟩
 cases op with
 |binOp op T x y T' =>
  rcases QeR (w:=w) (a:=a) hT ho hok with h|⟨z,h1,h2⟩
  ·exact rest h
  ·exact Qdy hs hd (fun g M hS=>h2 g _ hS) h1
 |assign x =>
  simp only[aop,ho] at hok
  exact rest0 (Q7m x hs) (by rw[ho];exact hok)
 |slice T x lo hi m =>
  cases lo with
  |none=>exact rest (by rw[ho];simpa only[aop,ho] using hok)
  |some l =>
   simp only[aop,ho] at hok
   exact rest0 (Qdp x hs) (by rw[ho];exact hok)
 |alloc T =>
  simp only[aop,ho] at hok
  split at hok
  ·rename_i hk;exact Qii hT hs hd ho hk hok
  ·exact hok.elim
 |box T x =>
  simp only[aop,ho] at hok
  split at hok
  ·rename_i hk;exact QlG hs hd ho hk hok
  ·exact hok.elim
 |store T x y =>
  simp only[aop,ho] at hok
  have hs:=Q7m y hs
  generalize Q9Q std s y=s1 at hok hs
  unfold QdI at hok
  split at hok
  ·rename_i id off hx
   split at hok
   ·rename_i c hb
    split at hok
    ·rename_i hk
     exact Qi1 hT hs hd ho hx hb hk.1 hk.2.1 hk.2.2.1 hk.2.2.2 hok
    ·exact hok.elim
   ·exact hok.elim
  ·exact hok.elim
 |buildSlice T len parts =>
  simp only[aop,ho] at hok
  split at hok
  ·rename_i xs ob he
   split at hok
   ·rename_i hk
    exact Qad hT hs hd ho he hk.1 hk.2.1 hk.2.2.1 hk.2.2.2.1 hk.2.2.2.2.1 hk.2.2.2.2.2.1 hk.2.2.2.2.2.2 hok
   ·exact hok.elim
  ·exact hok.elim
 |range T x =>
  simp only[aop,ho] at hok
  split at hok
  ·rename_i b hb
   split at hok
   ·rename_i hk;exact Qjs hT hs hd ho hb hk hok
   ·exact hok.elim
  ·exact hok.elim
 |next it b =>
  cases b with
  |false=>simp[aop,ho,Q3s,Q2E,Tree.ok] at hok
  |true =>
   simp only[aop,ho] at hok
   split at hok
   ·rename_i id hi
    split at hok
    ·rename_i b pos hob
     exact Qk4 hs hd ho hi hob hok.1 hok.2
    ·exact hok.elim
   ·exact hok.elim
 |call c =>
  obtain⟨callee,args,tys⟩:=c
  cases callee with
  |builtin b =>
   cases b with
   |append =>
    simp only[aop,ho] at hok
    split at hok
    ·rename_i x y T U ha ht
     split at hok
     ·rename_i sz news hsrc
      split at hok
      ·rename_i hel
       obtain⟨hsubk,hel⟩:=hel
       have hpos:0<sz:=by obtain⟨e,_,_,_,_,h⟩:=Q4H hT hel;exact h
       split at hok
       ·rename_i hx
        have hlen:s.ob.length=s.ob.length:=rfl
        have hset:(s.ob++[Ob.row (Q4 T ty).elem sz false 0 []]).set s.ob.length (.row (Q4 T ty).elem sz false (0+1) (std.app [] news))=s.ob++[.row (Q4 T ty).elem sz false 1 (std.app [] news)]:=by
         rw[List.set_append_right _ _ (Nat.le_refl _),Nat.sub_self];rfl
        refine Q55 hT hs hd ho ha ht (ob:=s.ob++[.row (Q4 T ty).elem sz false 0 []]) (fun g M=>⟨M.addRow hpos,Ext.addRow _,Step.addRow _⟩) (id:=s.ob.length) Q3S (xs':=[]) (fun g M hS=>?_) (fun h=>by cases h) hel rfl hsrc hsubk hok.1 ?_
        ·have hxr:=QN hS x
         rw[hx] at hxr
         rw[hxr.valEq]
         refine⟨[],World.ownsRow_nil _ _ _ _,?_,Alike.nil,?_,?_,?_⟩
         ·intro b h;cases h
         ·intro x h;cases h
         ·intro b h;cases h
         ·intro _ j y h;simp at h
        ·rw[hset];exact hok.2
       ·rename_i id ep hx
        split at hok
        ·rename_i et sz' fz e xs hob
         split at hok
         ·rename_i hk
          obtain⟨rfl,rfl,rfl⟩:=hk
          refine Q55 hT hs hd ho ha ht (ob:=s.ob) (fun g M=>⟨M,Ext.refl,Step.refl⟩) hob (fun g M hS=>?_) (fun _=>rfl) hel rfl hsrc hsubk hok.1 hok.2
          have hxr:=QN hS x
          rw[hx] at hxr
          obtain⟨_,et,sz,fz,e,xs,h1,h2,h3⟩:=hxr
          rw[hob] at h1
          cases h1
          exact h3 rfl
         ·exact hok.elim
        ·exact hok.elim
       ·rename_i id ep k hx
        split at hok
        ·rename_i et sz' e xs hob
         split at hok
         ·rename_i hk
          obtain⟨rfl,rfl,rfl⟩:=hk
          refine Q55 hT hs hd ho ha ht (ob:=s.ob) (fun g M=>⟨M,Ext.refl,Step.refl⟩) hob (xs':=std.cut xs 0 k) (fun g M hS=>?_) (fun h=>by cases h) hel rfl hsrc hsubk hok.1 hok.2
          have hxr:=QN hS x
          rw[hx] at hxr
          obtain⟨_,et,sz,fz,e,xs,h1,h2,h3⟩:=hxr
          rw[hob] at h1
          cases h1
          have e:std.cut xs 0 k=xs.take k.toNat:=by simp[std]
          rw[e]
          exact (h3 rfl).2.2
         ·exact hok.elim
        ·exact hok.elim
       ·exact hok.elim
      ·exact hok.elim
     ·exact hok.elim
    ·exact hok.elim
   |_=>exact rest (by rw[ho];simpa only[aop,ho] using hok)
  |invoke _ _=>exact rest (by rw[ho];simpa only[aop,ho] using hok)
  |value f =>
   simp only[aop,ho] at hok
   split at hok
   ·rename_i h ca cb hf
    split at hok
    ·rename_i hab
     obtain rfl:ca=#[]:=Array.eq_empty_of_size_eq_zero hab.1
     obtain rfl:cb=#[]:=Array.eq_empty_of_size_eq_zero hab.2
     split at hok
     ·rename_i vs ob he
      split at hok
      ·rename_i hk
       split at hok
       ·rename_i res ob' hcs
        split at hok
        ·rename_i hlen
         exact Qki hs hd ho hf he hk.1 hk.2.1 hk.2.2 hlen hok.1 hok.2
        ·exact hok.elim
       ·exact hok.elim
      ·exact hok.elim
     ·exact hok.elim
    ·exact hok.elim
   ·exact hok.elim
 |_=>exact rest (by rw[ho];simpa only[aop,ho] using hok)
end
end Go.Proofs.YthbjpdijafccjaaGreat
namespace Go.Proofs.YthbjpdijafccjaaGreat
open Go.RowKit Go.Lib
section
variable {P:Program} {ops:Array Oper} {Q:Exit→Act→World→Prop} {md:Region.Mode} {late:Nat→Bool}
def wpR (P:Program)(md:Region.Mode)(ops:Array Oper)(late:Nat→Bool)(Q:Exit→Act→World→Prop):Nat→Array Bool→Act→World→Prop
 |0,listed,a,w=>Region.ready md ops listed=[]∧Q .normal a w
 |n+1,listed,a,w=>(Region.ready md ops listed=[]→Q .normal a w) ∧
   ∀ i∈Region.ready md ops listed,wpOp P ops Q i (fun a' w'=>(late i=false→LeB w w')∧wpR P md ops late Q n (listed.setIfInBounds i true) a' w') a w
theorem Q9B:∀ (n:Nat) (listed:Array Bool) (a:Act) (w:World),wpR P md ops late Q n listed a w→wpAny P md ops Q n listed a w
 |0,_,_,_,h=>h
 |n+1,_,_,_,h=>⟨h.1,fun i hi=>wpOp_mono (fun a' w' h'=>Q9B n _ a' w' h'.2) (h.2 i hi)⟩
def Closed (md:Region.Mode)(ops:Array Oper)(listed:Array Bool):Prop :=
 ∀ (j:Nat) oj,ops[j]?=some oj→listed.getD j true=true→∀ e∈oj.after,Region.binds md e=true→listed.getD e.on true=true
def anc (md:Region.Mode)(ops:Array Oper)(i:Nat):Nat→Nat→Bool
 |0,_=>false
 |n+1,j=>match ops[j]? with
  |some oj=>oj.after.any fun e=>Region.binds md e&&(e.on == i||anc md ops i n e.on)
  |none=>false
theorem Q7W {listed:Array Bool}{k:Nat}(h:listed.getD k false=true):listed.getD k true=true:=by
 rcases Nat.lt_or_ge k listed.size with h'|h'
 ·simp[h'] at h ⊢;exact h
 ·simp[Nat.not_lt.2 h'] at h ⊢
theorem Closed.set {listed:Array Bool}(h:Closed md ops listed){j:Nat}(hr:j∈Region.ready md ops listed):Closed md ops (listed.setIfInBounds j true):=by
 have up:∀ k,listed.getD k true=true→(listed.setIfInBounds j true).getD k true=true:=fun k hk=>by
  by_cases e:j=k
  ·subst e
   rcases Nat.lt_or_ge j listed.size with h'|h'
   ·simp[h']
   ·simp[Nat.not_lt.2 h']
  ·rw[getD_set_ne true e];exact hk
 intro k ok hk hl e he hb
 by_cases hjk:j=k
 ·subst hjk
  obtain⟨_,o,ho,hall⟩:=mem_ready.1 hr
  rw[hk] at ho;cases ho
  exact up _ (Q7W (hall e he hb))
 ·rw[getD_set_ne true hjk] at hl
  exact up _ (h k ok hk hl e he hb)
theorem Qfz {listed:Array Bool}(h:Closed md ops listed){i:Nat}(hi:listed.getD i true=false):∀ (n j:Nat),anc md ops i n j=true→∀ oj,ops[j]?=some oj →
  ¬ (∀ e∈oj.after,Region.binds md e=true→listed.getD e.on true=true)
 |0,_,h0,_,_,_=>by cases h0
 |n+1,j,h0,oj,hj,hall=>by
  simp only[anc,hj] at h0
  obtain⟨e,he,hb⟩:=Array.any_eq_true'.1 h0
  simp only[Bool.and_eq_true,Bool.or_eq_true,beq_iff_eq] at hb
  obtain⟨hb,h1|h1⟩:=hb
  ·have:=hall e he hb
   rw[h1,hi] at this;cases this
  ·have hl:=hall e he hb
   cases hk:ops[e.on]? with
   |none =>
    cases n<;>simp[anc,hk] at h1
   |some ok=>exact Qfz h hi n e.on h1 ok hk (h e.on ok hk hl)
theorem QaW {i:Nat}{oi:Oper}{v:Value}{rd:Bool}(hi:ops[i]?=some oi)
  (hsel:∀ (j:Nat) (o:Oper) cs b,ops[j]?=some o→o.op≠.select cs b)
  (hQ:∀ c a w,Q (.panic c) (a.put oi.dst v) w→Q (.panic c) a w) (hli:late i=false)
  (hlate:rd=true→∀ j oj,ops[j]?=some oj→late j=true→anc md ops i ops.size j=true) :
  ∀ (n:Nat) (listed:Array Bool) (a:Act) (w:World),Closed md ops listed →
   (∀ j oj,ops[j]?=some oj→j≠i→listed.getD j true=false→(∀ e∈oj.after,Region.binds md e=true→e.on≠i)→oi.apart ops oj=true) →
   i∈Region.ready md ops listed→YieldsIf P ops (fun W=>rd=true→LeB w W) oi v a →
   wpR P md ops late Q n (listed.setIfInBounds i true) (a.put oi.dst v) w→wpR P md ops late Q (n+1) listed a w:=by
 intro n
 induction n with
 |zero =>
  intro listed a w hC _ hr hy H
  refine⟨fun h=>(by rw[h] at hr;cases hr),fun j hj=>?_⟩
  by_cases hji:j=i
  ·subst hji;exact hy.wpOp hi (fun _=>LeB.refl w) ⟨fun _=>LeB.refl w,H⟩
  ·have:=ready_mono hj hji
   rw[H.1] at this
   cases this
 |succ n ih =>
  intro listed a w hC hfree hr hy H
  refine⟨fun h=>(by rw[h] at hr;cases hr),fun j hj=>?_⟩
  by_cases hji:j=i
  ·subst hji;exact hy.wpOp hi (fun _=>LeB.refl w) ⟨fun _=>LeB.refl w,H⟩
  ·have h1:=H.2 j (ready_mono hj hji)
   obtain⟨hjun,oj,hoj,hall⟩:=mem_ready.1 hj
   have hun:=(mem_ready.1 hr).1
   have hnot:∀ e∈oj.after,Region.binds md e=true→e.on≠i:=fun e he hb heq=>by
    have h1:=hall e he hb
    rw[heq] at h1
    have:=Q7W h1
    rw[hun] at this;cases this
   have h2:=wpOp_putIf (S:=fun W=>rd=true→LeB w W) hoj (hfree j oj hoj hji hjun hnot) (fun cs b=>hsel i oi cs b hi) (fun cs b=>hsel j oj cs b hoj) hQ hy h1
   have hfree':∀ k ok,ops[k]?=some ok→k≠i→(listed.setIfInBounds j true).getD k true=false →
     (∀ e∈ok.after,Region.binds md e=true→e.on≠i)→oi.apart ops ok=true:=fun k ok hk hki hun hno=>by
    refine hfree k ok hk hki ?_ hno
    by_cases hjk:j=k
    ·subst hjk;exact hjun
    ·rw[getD_set_ne true hjk] at hun;exact hun
   refine wpOp_mono (fun a' w' h3=>?_) h2
   obtain⟨h3,h4,h5⟩:=h3
   -- what is read stays
   have hle:rd=true→LeB w w':=fun hri=>by
    refine h4 ?_
    cases hlj:late j with
    |false=>rfl
    |true=>exact (Qfz hC hun _ _ (hlate hri j oj hoj hlj) oj hoj (fun e he hb=>Q7W (hall e he hb))).elim
   refine⟨h4,ih (listed.setIfInBounds j true) a' w' (hC.set hj) hfree' (ready_mono hr (Ne.symm hji)) (YieldsIf.weaken h3 fun V hV hri=>LeB.trans _ _ _ (hle hri) (hV hri)) ?_⟩
   rw[Array.setIfInBounds_comm _ _ hji]
   exact h5
end
def Q3u (ty:Tys):Op→Bool
 |.alloc _|.box _ _|.store _ _ _|.buildSlice _ _ _|.range _ _|.next _ _=>false
 |.call { callee:=.builtin .append,.. }|.call { callee:=.value _,.. }=>false
 |.convert _ dst _=>!(Q4 dst ty).sl
 |_=>true
def Q5s (ty:Tys)(ops:Array Oper)(j:Nat):Bool:=match ops[j]? with
 |some o=>!Q4v ty o.op
 |none=>false
def OT.heads:OT→List Nat
 |.nil=>[]
 |.cons i _=>[i]
 |.fork a b=>a.heads++b.heads
def Q3C (md:Region.Mode)(ty:Tys)(ops:Array Oper):OT→Nat→Array Bool→Bool→Bool
 |.nil,n,listed,among=>n == 0&&!among&&(Region.ready md ops listed).isEmpty
 |.cons i rest,n,listed,among=>n != 0&&(match ops[i]? with
   |some o=>(if among then (Region.ready md ops listed).contains i else Region.ready md ops listed == [i]||(Q3u ty o.op&&(Region.ready md ops listed).contains i&&Region.free md ops listed i &&
     (!Q82 o.op||(List.range ops.size).all fun j=>!Q5s ty ops j||anc md ops i ops.size j)))
   |none=>false)&&Q3C md ty ops rest (n-1) (listed.setIfInBounds i true) false
 |.fork a b,n,listed,among=>(among||(!(Region.ready md ops listed).isEmpty&&(Region.ready md ops listed).all fun i=>(OT.fork a b).heads.contains i)) &&
   Q3C md ty ops a n listed true&&Q3C md ty ops b n listed true
def Q3N (md:Region.Mode)(ty:Tys)(ord:Nat→OT):Code→Bool
 |.region id ops draw=>if draw then Region.noSelect ops&&Q3C md ty ops ((ord id).or ops.size) ops.size (Array.replicate ops.size false) false else true
 |.seq a b=>Q3N md ty ord a&&Q3N md ty ord b
 |.cond _ a b=>Q3N md ty ord a&&Q3N md ty ord b
 |.block _ c=>Q3N md ty ord c
 |.loop c=>Q3N md ty ord c
 |_=>true
def Q40 (N:Nat):Code→Bool
 |.region _ ops _=>ops.all fun o=>match o.dst with|some d=>decide (d<N)|none=>true
 |.seq a b=>Q40 N a&&Q40 N b
 |.cond _ a b=>Q40 N a&&Q40 N b
 |.block _ c=>Q40 N c
 |.loop c=>Q40 N c
 |_=>true
section
variable {P:Program} {ty:Tys} {w0:World} {g0:Gh} {o0:List Ob} {N:Nat} {Q:Ex→St→Prop}
theorem QcG (hT:TyOk P ty){cs:Nat→List AV→List Ob→Option (AV×List Ob)}{K:St→Tree}{o:Oper}{s:St}{a:Act}{w:World}(hst:Q3u ty o.op=true)
  (hok:(aop std ty cs K o s).ok P w0 g0 o0 N Q):∃ s1 x,(∀ a w,Sim w0 g0 o0 N s a w→Sim w0 g0 o0 N s1 a w)∧(K (St.put s1 o.dst x)).ok P w0 g0 o0 N Q∧∀ g,Mem w g s1.ob→Q1s w g s1 a→Yld P w g s1 a o (Q82 o.op) x:=by
 have rest0:∀ s1,(∀ a w,Sim w0 g0 o0 N s a w→Sim w0 g0 o0 N s1 a w)→(Q3s std ty K o s1 o.op).ok P w0 g0 o0 N Q→∃ s1 x,(∀ a w,Sim w0 g0 o0 N s a w→Sim w0 g0 o0 N s1 a w)∧(K (St.put s1 o.dst x)).ok P w0 g0 o0 N Q∧∀ g,Mem w g s1.ob→Q1s w g s1 a→Yld P w g s1 a o (Q82 o.op) x:=by
  intro s1 h1 h
  unfold Q3s at h
  split at h
  ·rename_i v hv
   exact⟨s1,v,h1,h,fun g M hS=>Q7j hT hS M hv (fun r h=>by cases h)⟩
  ·rename_i q v hv
   exact⟨s1,v,h1,h.2,fun g M hS=>Q7j hT hS M hv (fun r hr=>by cases hr;exact h.1)⟩
  ·split at h
   ·rename_i src dst x ho
    rw[ho] at hst
    simp only[Q3u,Bool.not_eq_true'] at hst
    split at h
    ·split at h
     ·rename_i hk
      rw[hk.2.1] at hst;cases hst
     ·exact h.elim
    ·split at h
     ·split at h
      ·rename_i hk
       rw[←hk.2.1,hk.2.2.2.1] at hst;cases hst
      ·exact h.elim
     ·exact h.elim
    ·exact h.elim
   ·exact h.elim
 have rest:=rest0 s (fun _ _ h=>h)
 obtain⟨op,ho⟩:∃ op,o.op=op:=⟨_,rfl⟩
 cases op with
 |assign x =>
  simp only[aop,ho] at hok
  exact rest0 _ (fun a w h=>Q7m x h) (by rw[ho];exact hok)
 |slice T x lo hi m =>
  cases lo with
  |none=>exact rest (by rw[ho];simpa only[aop,ho] using hok)
  |some l =>
   simp only[aop,ho] at hok
   exact rest0 _ (fun a w h=>Qdp x h) (by rw[ho];exact hok)
 |binOp op T x y T' =>
  rcases QeR (w:=w) (a:=a) hT ho hok with h|⟨z,h1,h2⟩
  ·exact rest h
  ·exact⟨s,z,fun _ _ h=>h,h1,fun g _ hS=>h2 g _ hS⟩
 |alloc T=>simp[ho,Q3u] at hst
 |box T x=>simp[ho,Q3u] at hst
 |store T x y=>simp[ho,Q3u] at hst
 |buildSlice T len parts=>simp[ho,Q3u] at hst
 |range T x=>simp[ho,Q3u] at hst
 |next it b=>simp[ho,Q3u] at hst
 |call c =>
  obtain⟨callee,args,tys⟩:=c
  cases callee with
  |builtin b =>
   cases b with
   |append=>simp[ho,Q3u] at hst
   |_=>exact rest (by rw[ho];simpa only[aop,ho] using hok)
  |invoke _ _=>exact rest (by rw[ho];simpa only[aop,ho] using hok)
  |value f=>simp[ho,Q3u] at hst
 |_=>exact rest (by rw[ho];simpa only[aop,ho] using hok)
end
end Go.Proofs.YthbjpdijafccjaaGreat
namespace Go.Proofs.YthbjpdijafccjaaGreat
open Go.RowKit Go.Lib
section
variable {P:Program} {ty:Tys} {w0:World} {g0:Gh} {o0:List Ob} {N:Nat} {Q:Ex→St→Prop} {w:World} {a:Act} {s:St}
theorem Q4l (hs:Sim w0 g0 o0 N s a w){d:Nat}{b:Bool}(hv:lk d s.tm=.val (.bool b))(c:Bool)(hc:b=c):Sim w0 g0 o0 N (s.put (some d) (.kb c)) a w:=by
 subst hc
 obtain⟨g,M,hS,h0⟩:=hs.rel
 refine⟨hs.defers,hs.size,g,M,fun t=>?_,h0⟩
 show ARel w g s.ob _ (if t=d then .kb b else lk t s.tm)
 by_cases e:t=d
 ·subst e
  rw[if_pos rfl]
  have h:=hS t
  rw[hv] at h
  exact h.valEq
 ·rw[if_neg e];exact hS t
theorem Q83 (hs:Sim w0 g0 o0 N s a w){d:Option Nat}(hd:∀ t,d=some t→t<N):Sim w0 g0 o0 N (s.put d (.tup [])) (a.put d undef) w:=by
 obtain⟨g,M,hS,h0⟩:=hs.rel
 exact Q2J (s:=s) (ob':=s.ob) hs hS h0 M Step.refl hd (v:=undef) (x:=.tup []) ⟨#[],rfl,rfl,fun j y u h=>by simp at h⟩
theorem Q5T (hs:Sim w0 g0 o0 N s a w){d:Nat}{b:Bool}(hv:lk d s.tm=.kb b):a.tmps.getD d undef=.bool b:=by
 obtain⟨g,M,hS,h0⟩:=hs.rel
 have h:=hS d
 rw[hv] at h
 exact h
theorem Q7P {ops:Array Oper}(hs:Sim w0 g0 o0 N s a w){o:Oper}{j d:Nat}{b want:Bool}(hg:o.guard=some (j,want))(hd:(ops[j]?).bind (·.dst)=some d)(hv:lk d s.tm=.kb b) :
  Region.wanted o (yielded ops a.tmps)=(b == want):=by
 have h:=Q5T hs hv
 have h1:a.tmps[d]?=some (.bool b):=by
  rw[Array.getD_eq_getD_getElem?] at h
  cases hx:a.tmps[d]? with
  |none=>rw[hx] at h;cases h
  |some x=>rw[hx] at h;exact congrArg some h
 simp only[Region.wanted,hg,yielded,hd,Option.bind_some,h1]
 cases b<;>cases want<;>rfl
theorem Q6h {cs:Nat→List AV→List Ob→Option (AV×List Ob)}{ops:Array Oper}{K:St→Tree}{i:Nat}{rest:OT}{o:Oper}(ho:ops[i]?=some o)(hs:Sim w0 g0 o0 N s a w)
  (hok:(Q5m std ty cs ops.toList K (.cons i rest) s).ok P w0 g0 o0 N Q) :
  (Region.wanted o (yielded ops a.tmps)=true∧∃ s',Sim w0 g0 o0 N s' a w∧(aop std ty cs (Q5m std ty cs ops.toList K rest) o s').ok P w0 g0 o0 N Q) ∨
  (Region.wanted o (yielded ops a.tmps)=false∧∃ s',Sim w0 g0 o0 N s' a w∧(Q5m std ty cs ops.toList K rest (s'.put o.dst (.tup []))).ok P w0 g0 o0 N Q):=by
 simp only[Q5m,Array.getElem?_toList,ho] at hok
 split at hok
 ·rename_i hg
  exact .inl ⟨by simp[Region.wanted,hg],s,hs,hok⟩
 ·rename_i j want hg
  split at hok
  ·exact hok.elim
  ·rename_i d hd
   split at hok
   ·rename_i b hv
    have hw:=Q7P (ops:=ops) hs hg hd hv
    split at hok
    ·exact .inl ⟨hw,s,hs,hok⟩
    ·exact .inl ⟨hw,s,hs,hok⟩
    ·rename_i hne1 hne2
     refine .inr ⟨?_,s,hs,hok⟩
     rw[hw]
     cases b<;>cases want
     ·exact (hne2 rfl rfl).elim
     ·rfl
     ·rfl
     ·exact (hne1 rfl rfl).elim
   ·rename_i b hv
    have e:∀ c:Bool,lk d (s.put (some d) (.kb c)).tm=.kb c:=fun c=>if_pos rfl
    split at hok
    ·obtain⟨h1,h2⟩:=hok
     cases b with
     |true =>
      have hs':=Q4l hs hv true rfl
      exact .inl ⟨Q7P (ops:=ops) hs' hg hd (e true),_,hs',h1 rfl⟩
     |false =>
      have hs':=Q4l hs hv false rfl
      exact .inr ⟨Q7P (ops:=ops) hs' hg hd (e false),_,hs',h2 rfl⟩
    ·obtain⟨h1,h2⟩:=hok
     cases b with
     |true =>
      have hs':=Q4l hs hv true rfl
      exact .inr ⟨Q7P (ops:=ops) hs' hg hd (e true),_,hs',h1 rfl⟩
     |false =>
      have hs':=Q4l hs hv false rfl
      exact .inl ⟨Q7P (ops:=ops) hs' hg hd (e false),_,hs',h2 rfl⟩
   ·rename_i hv
    refine .inr ⟨?_,s,hs,hok⟩
    obtain⟨g,M,hS,h0⟩:=hs.rel
    have h1:=hS d
    rw[hv] at h1
    obtain⟨vs,h2,_⟩:=h1
    rw[Array.getD_eq_getD_getElem?] at h2
    simp only[Region.wanted,hg,yielded,hd,Option.bind_some]
    cases hx:a.tmps[d]? with
    |none=>cases want<;>rfl
    |some x =>
     rw[hx] at h2
     obtain rfl:x=.tuple vs:=h2
     cases want<;>rfl
   ·exact hok.elim
theorem Q8d {ops:Array Oper}(hd:(ops.all fun o=>match o.dst with|some d=>decide (d<N)|none=>true)=true){i:Nat}{o:Oper}(ho:ops[i]?=some o):∀ t,o.dst=some t→t<N:=fun t ht=>by
 have:=Array.all_eq_true_iff_forall_mem.1 hd o (Array.mem_of_getElem? ho)
 simpa[ht] using this
theorem Q7a (hT:TyOk P ty){cs:Nat→List AV→List Ob→Option (AV×List Ob)}{ops:Array Oper}{K:St→Tree}{R:Exit→Act→World→Prop}
  (hd:(ops.all fun o=>match o.dst with|some d=>decide (d<N)|none=>true)=true) (hK:∀ s a w,Sim w0 g0 o0 N s a w→(K s).ok P w0 g0 o0 N Q→R .normal a w) :
  ∀ (l:List Nat) (s:St) (a:Act) (w:World),Sim w0 g0 o0 N s a w→(Q5m std ty cs ops.toList K (OT.of l) s).ok P w0 g0 o0 N Q→wpOps P ops R l a w
 | [],s,a,w,hs,hok=>hK s a w hs hok
 |i::rest,s,a,w,hs,hok=>by
  unfold wpOps
  cases ho:ops[i]? with
  |none=>simp[OT.of,Q5m,Array.getElem?_toList,ho,Tree.ok] at hok
  |some o =>
   rcases Q6h (rest:=OT.of rest) ho hs hok with ⟨hw,s',hs',h⟩|⟨hw,s',hs',h⟩
   ·simp only[hw,if_true]
    exact .inl (Oper.wp_mono (fun a' w' hg=>by
     obtain⟨_,s2,hs2,h2⟩:=hg
     exact Q7a hT hd hK rest s2 a' w' hs2 h2) (QcI hT hs' (Q8d hd ho) h))
   ·simp only[hw,Bool.false_eq_true,if_false]
    exact Q7a hT hd hK rest _ _ w (Q83 hs' (Q8d hd ho)) h
theorem Qh5 (hT:TyOk P ty){cs:Nat→List AV→List Ob→Option (AV×List Ob)}{ops:Array Oper}{K:St→Tree}{R:Exit→Act→World→Prop}{md:Region.Mode}
  (hd:(ops.all fun o=>match o.dst with|some d=>decide (d<N)|none=>true)=true) (hn:Region.noSelect ops=true) (hQ:∀ c a (d:Tmp) v w,R (.panic c) (a.put (some d) v) w→R (.panic c) a w)
  (hK:∀ s a w,Sim w0 g0 o0 N s a w→(K s).ok P w0 g0 o0 N Q→R .normal a w) :
  ∀ (t:OT) (n:Nat) (listed:Array Bool) (s:St) (a:Act) (w:World),Closed md ops listed→Sim w0 g0 o0 N s a w→(Q5m std ty cs ops.toList K t s).ok P w0 g0 o0 N Q →
   (Q3C md ty ops t n listed false=true→wpR P md ops (Q5s ty ops) R n listed a w) ∧
   (Q3C md ty ops t n listed true=true→∀ i∈t.heads,∃ m,n=m+1∧wpOp P ops R i (fun a' w'=>(Q5s ty ops i=false→LeB w w')∧wpR P md ops (Q5s ty ops) R m (listed.setIfInBounds i true) a' w') a w):=by
 intro t
 induction t with
 |nil =>
  intro n listed s a w hC hs hok
  refine⟨fun hB=>?_,fun hB i hi=>by cases hi⟩
  simp only[Q3C,Bool.and_eq_true,beq_iff_eq] at hB
  obtain⟨⟨rfl,_⟩,h⟩:=hB
  exact⟨by simpa using h,hK s a w hs hok⟩
 |fork x y ihx ihy =>
  intro n listed s a w hC hs hok
  have both:Q3C md ty ops x n listed true=true→Q3C md ty ops y n listed true=true→∀ i∈(OT.fork x y).heads,∃ m,n=m+1∧wpOp P ops R i (fun a' w'=>(Q5s ty ops i=false→LeB w w')∧wpR P md ops (Q5s ty ops) R m (listed.setIfInBounds i true) a' w') a w:=fun h1 h2 i hi=>by
   rcases List.mem_append.1 hi with hi|hi
   ·exact (ihx n listed s a w hC hs hok.1).2 h1 i hi
   ·exact (ihy n listed s a w hC hs hok.2).2 h2 i hi
  refine⟨fun hB=>?_,fun hB=>?_⟩
  ·simp only[Q3C,Bool.and_eq_true,Bool.false_or] at hB
   obtain⟨⟨⟨h0,h1⟩,h2⟩,h3⟩:=hB
   have hne:Region.ready md ops listed≠[]:=by simpa using h0
   have hall:∀ i∈Region.ready md ops listed,i∈(OT.fork x y).heads:=fun i hi=>by
    have:=List.all_eq_true.1 h1 i hi
    simpa using this
   obtain⟨i,hi⟩:=List.exists_mem_of_ne_nil _ hne
   obtain⟨m,rfl,_⟩:=both h2 h3 i (hall i hi)
   refine⟨fun h=>absurd h hne,fun i hi=>?_⟩
   obtain⟨m',e,h⟩:=both h2 h3 i (hall i hi)
   cases e;exact h
  ·simp only[Q3C,Bool.and_eq_true] at hB
   exact both hB.1.2 hB.2
 |cons i rest ih =>
  intro n listed s a w hC hs hok
  cases ho:ops[i]? with
  |none=>simp[Q5m,Array.getElem?_toList,ho,Tree.ok] at hok
  |some o =>
   -- taken from what may come next
   have loud:∀ m,i∈Region.ready md ops listed→Q3C md ty ops rest m (listed.setIfInBounds i true) false=true →
     wpOp P ops R i (fun a' w'=>(Q5s ty ops i=false→LeB w w')∧wpR P md ops (Q5s ty ops) R m (listed.setIfInBounds i true) a' w') a w:=fun m hr hBr=>by
    unfold wpOp
    simp only[ho]
    rcases Q6h ho hs hok with ⟨hw,s',hs',h⟩|⟨hw,s',hs',h⟩
    ·simp only[hw,if_true]
     exact .inl (Oper.wp_mono (fun a' w' hg=>by
      obtain⟨hq,s2,hs2,h2⟩:=hg
      refine⟨fun hl=>hq ?_,(ih m _ s2 a' w' (hC.set hr) hs2 h2).1 hBr⟩
      simpa[Q5s,ho] using hl) (QcI hT hs' (Q8d hd ho) h))
    ·simp only[hw,Bool.false_eq_true,if_false]
     exact⟨fun _=>LeB.refl w,(ih m _ _ _ w (hC.set hr) (Q83 hs' (Q8d hd ho)) h).1 hBr⟩
   refine⟨fun hB=>?_,fun hB=>?_⟩
   ·simp only[Q3C,ho,Bool.and_eq_true,Bool.false_eq_true,if_false,Bool.or_eq_true,beq_iff_eq,bne_iff_ne,ne_eq] at hB
    obtain⟨⟨hn0,hB⟩,hBr⟩:=hB
    obtain⟨m,rfl⟩:∃ m,n=m+1:=⟨n-1,by omega⟩
    simp only[Nat.add_sub_cancel] at hBr
    rcases hB with hr|⟨⟨⟨hst,hr⟩,hf⟩,hrd⟩
    ·refine⟨fun h0=>(by rw[hr] at h0;cases h0),fun j hj=>?_⟩
     have hj':=hj
     rw[hr] at hj'
     obtain rfl:=List.mem_singleton.1 hj'
     exact loud m hj hBr
    ·have hr':i∈Region.ready md ops listed:=by simpa using hr
     have hli:Q5s ty ops i=false:=by
      simp only[Q5s,ho,Bool.not_eq_false']
      revert hst
      cases o.op<;>simp only[Q3u,Q4v,Bool.false_eq_true,false_implies,implies_true]
      case convert src dst x =>
       intro h
       by_cases e:src=dst
       ·subst e
        have h:(Q4 src ty).sl=false:=by simpa using h
        simp[h]
       ·simp[e]
      rename_i c
      obtain⟨callee,args,tys⟩:=c
      cases callee with
      |builtin b=>cases b<;>simp[Q3u,Q4v]
      |_=>simp[Q3u,Q4v]
     have hlate:Q82 o.op=true→∀ j oj,ops[j]?=some oj→Q5s ty ops j=true→anc md ops i ops.size j=true:=fun hrr j oj hj hl=>by
      rcases hrd with h|h
      ·rw[hrr] at h;simp at h
      ·have:=List.all_eq_true.1 h j (List.mem_range.2 (Array.getElem?_eq_some_iff.1 hj).1)
       simpa[hl] using this
     rcases Q6h ho hs hok with ⟨hw,s',hs',h⟩|⟨hw,s',hs',h⟩
     ·obtain⟨s1,x,hs1,hx,hy⟩:=QcG hT (w:=w) (a:=a) hst h
      have hs1:=hs1 _ _ hs'
      obtain⟨g,M,hS,h0⟩:=hs1.rel
      obtain⟨v,h1,h2⟩:=hy g M hS
      exact QaW ho (Region.noSelect_spec hn) (fun c a w=>Q6t hQ c a _ _ w) hli hlate _ listed a w hC (Region.free_spec ho hf) hr' (.inl ⟨hw,fun W hW=>h1 W hW⟩)
       ((ih m _ _ _ w (hC.set hr') (Q2J (s:=s1) (ob':=s1.ob) hs1 hS h0 M Step.refl (Q8d hd ho) h2) hx).1 hBr)
     ·exact QaW ho (Region.noSelect_spec hn) (fun c a w=>Q6t hQ c a _ _ w) hli hlate _ listed a w hC (Region.free_spec ho hf) hr' (.inr ⟨hw,rfl⟩)
       ((ih m _ _ _ w (hC.set hr') (Q83 hs' (Q8d hd ho)) h).1 hBr)
   ·simp only[Q3C,ho,Bool.and_eq_true,if_true,bne_iff_ne,ne_eq] at hB
    obtain⟨⟨hn0,hr⟩,hBr⟩:=hB
    obtain⟨m,rfl⟩:∃ m,n=m+1:=⟨n-1,by omega⟩
    simp only[Nat.add_sub_cancel] at hBr
    intro j hj
    obtain rfl:=List.mem_singleton.1 hj
    exact⟨m,rfl,loud m (by simpa using hr) hBr⟩
end
end Go.Proofs.YthbjpdijafccjaaGreat
namespace Go.Proofs.YthbjpdijafccjaaGreat
open Go.RowKit Go.Lib
theorem Qc5 {md:Region.Mode}{ops:Array Oper}:Closed md ops (Array.replicate ops.size false):=fun j oj hj hl=>by
 have:j<ops.size:=(Array.getElem?_eq_some_iff.1 hj).1
 simp[this] at hl
section
variable {P:Program} {ty:Tys} {w0:World} {g0:Gh} {o0:List Ob} {N:Nat} {Q:Ex→St→Prop}
theorem Qh7 {s:St}{a:Act}{w w':World}(hs:Sim w0 g0 o0 N s a w)(hb:LeB w w'):Sim w0 g0 o0 N s a w':=by
 obtain⟨g,M,hS,h0⟩:=hs.rel
 have E:=Ext.below M hb
 have h1:Step w g s.ob w' g s.ob:=⟨hb.os,hb.tape,hb.output,hb.size,fun b h _=>hb.block b h,fun b id hG=>.inl ⟨id,hG⟩,fun b o h=>.inl h,E,Nat.le_refl _⟩
 exact⟨hs.defers,hs.size,g,M.below hb,fun t=>(hS t).ext E,h0.trans h1⟩
theorem Q4X (hT:TyOk P ty)(hm:P.follows .mixedOrders=true){cs:Nat→List AV→List Ob→Option (AV×List Ob)}{ord:Nat→OT} :
  ∀ (c:Code) (K:Ex→St→Tree) (R:Exit→Act→World→Prop) (s:St) (a:Act) (w:World),Q40 N c=true→Q3N .any ty ord c=true →
   (∀ c a (d:Tmp) v w,R (.panic c) (a.put (some d) v) w→R (.panic c) a w)→(∀ e s a w,Sim w0 g0 o0 N s a w→(K e s).ok P w0 g0 o0 N Q→R e.conv a w) →
   Sim w0 g0 o0 N s a w→(Q5 std ty cs ord c K s).ok P w0 g0 o0 N Q→c.wp P R a w:=by
 intro c
 induction c with
 |skip=>intro K R s a w _ _ _ hK hs hok;exact wp_skip (hK .normal s a w hs hok)
 |region id ops draw =>
  intro K R s a w hd ho hQ hK hs hok
  cases draw with
  |false =>
   exact wp_region (Q7a hT hd (fun s a w hs h=>hK .normal s a w hs h) _ s a w hs hok)
  |true =>
   simp only[Q3N,if_true,Bool.and_eq_true] at ho
   obtain⟨h1,h3⟩:=ho
   refine wp_region_any hm (Q9B (late:=Q5s ty ops) _ _ _ _ ?_)
   exact (Qh5 hT hd h1 hQ (fun s a w hs h=>hK .normal s a w hs h) _ _ _ s a _ Qc5 (Qh7 hs (LeB.drew w)) hok).1 h3
 |seq x y ihx ihy =>
  intro K R s a w hd ho hQ hK hs hok
  simp only[Q40,Q3N,Bool.and_eq_true] at hd ho
  refine wp_seq (ihx _ _ s a w hd.1 ho.1 (fun c a d v w h=>hQ c a d v w h) (fun e s a w hs h=>?_) hs hok)
  cases e with
  |normal=>exact ihy K R s a w hd.2 ho.2 hQ hK hs h
  |exit i=>exact hK (.exit i) s a w hs h
  |ret=>exact hK .ret s a w hs h
 |cond c x y ihx ihy =>
  intro K R s a w hd ho hQ hK hs hok
  simp only[Q40,Q3N,Bool.and_eq_true] at hd ho
  unfold Q5 at hok
  split at hok
  ·rename_i t
   split at hok
   ·rename_i hv
    exact wp_cond_true (Q5T hs hv) (ihx K R s a w hd.1 ho.1 hQ hK hs hok)
   ·rename_i hv
    exact wp_cond_false (Q5T hs hv) (ihy K R s a w hd.2 ho.2 hQ hK hs hok)
   ·rename_i b hv
    obtain⟨h1,h2⟩:=hok
    have e:∀ c:Bool,lk t (s.put (some t) (.kb c)).tm=.kb c:=fun c=>if_pos rfl
    cases b with
    |true =>
     have hs':=Q4l hs hv true rfl
     exact wp_cond_true (Q5T hs' (e true)) (ihx K R _ a w hd.1 ho.1 hQ hK hs' (h1 rfl))
    |false =>
     have hs':=Q4l hs hv false rfl
     exact wp_cond_false (Q5T hs' (e false)) (ihy K R _ a w hd.2 ho.2 hQ hK hs' (h2 rfl))
   ·exact hok.elim
  ·exact wp_cond_true rfl (ihx K R s a w hd.1 ho.1 hQ hK hs hok)
  ·exact wp_cond_false rfl (ihy K R s a w hd.2 ho.2 hQ hK hs hok)
  ·exact hok.elim
 |block id c ih =>
  intro K R s a w hd ho hQ hK hs hok
  simp only[Q40,Q3N] at hd ho
  refine wp_block (ih _ _ s a w hd ho (fun c a d v w h=>hQ c a d v w h) (fun e s a w hs h=>?_) hs hok)
  cases e with
  |normal=>exact hK .normal s a w hs h
  |ret=>exact hK .ret s a w hs h
  |exit i =>
   show Exit.inBlock id R (.exit i) a w
   simp only[Exit.inBlock]
   simp only at h
   by_cases hi:i=id
   ·rw[if_pos hi] at h ⊢
    exact hK .normal s a w hs h
   ·rw[if_neg hi] at h ⊢
    exact hK (.exit i) s a w hs h
 |loop c ih =>
  intro K R s a w hd ho hQ hK hs hok
  refine wp_mono (hok a w hs) (fun e a' w' h=>?_)
  obtain⟨e',s',rfl,hs',h'⟩:=h
  exact hK e' s' a' w' hs' h'
 |exit i=>intro K R s a w _ _ _ hK hs hok;exact wp_exit (hK (.exit i) s a w hs hok)
 |ret=>intro K R s a w _ _ _ hK hs hok;exact wp_ret (hK .ret s a w hs hok)
 |_=>intro K R s a w _ _ _ _ _ hok;exact hok.elim
end
end Go.Proofs.YthbjpdijafccjaaGreat
namespace Go.Proofs.YthbjpdijafccjaaGreat
open Go.RowKit Go.Lib
def ent:Nat→List AV→List (Nat×AV)
 |_,[]=>[]
 |k,x::r=>(k,x)::ent (k+1) r
theorem Qey (t:Nat):∀ (l:List AV) (k:Nat),lk t (ent k l)=if k≤t then l.getD (t-k) .dead else .dead
 | [],k=>by simp[ent,lk]
 |x::r,k=>by
  simp only[ent,lk]
  by_cases h:t=k
  ·subst h;simp
  ·rw[if_neg h,Qey t r (k+1)]
   by_cases h2:k≤t
   ·have e:t-k=(t-(k+1))+1:=by omega
    rw[if_pos (by omega),if_pos h2,e,List.getD_cons_succ]
   ·rw[if_neg (by omega),if_neg h2]
def QbH (tmps:Array Value)(rv:ResultVar):Sem Value:=match rv with
 |.tmp t=>pure (tmps.getD t undef)
 |.cell a t=>do loadVar t (←asAddr (tmps.getD a undef))
theorem Qew (fn:Func)(tmps:Array Value):results fn tmps=(do let vs ←fn.results.mapM (QbH tmps);pure (if h:vs.size=1 then vs[0] else .tuple vs)):=by
 unfold results
 congr 1
section
variable {P:Program} {ty:Tys} {w0 w:World} {g0 g:Gh} {o0:List Ob} {N:Nat} {s:St} {a:Act}
theorem QkL (hT:TyOk P ty)(M:Mem w g s.ob)(hS:Q1s w g s a){rv:ResultVar}{x:AV}(h:Q9H ty s rv=some x) :
  ∃ v,Sem.run P (QbH a.tmps rv) w=.ok v w∧ARel w g s.ob v x:=by
 cases rv with
 |tmp t =>
  refine⟨a.tmps.getD t undef,rfl,?_⟩
  have hr:=hS t
  simp only[Q9H] at h
  split at h
  ·rename_i b hb
   obtain rfl:AV.val (.bool b)=x:=by simpa using h
   rw[hb] at hr
   have e:a.tmps.getD t undef=.bool b:=hr
   rw[e]
   exact PRel.to (.val _ rfl)
  ·cases h
  ·obtain rfl:lk t s.tm=x:=by simpa using h
   exact hr
 |cell b T =>
  simp only[Q9H] at h
  split at h
  ·rename_i cs hcs
   by_cases hk:(Q4 T ty).ok=true∧(if (Q4 T ty).agg then (Q4 T ty).size else 1)≤cs.length
   ·rw[if_pos hk] at h
    cases h
    obtain⟨bl,of,hv,hc⟩:=Q8B M (hS b) hcs
    obtain⟨v,h1,h2⟩:=Q74 (g:=g) hT hk.1 hc hk.2
    refine⟨v,?_,h2⟩
    have h3:=h1 w (LeB.refl w)
    show (asAddr (a.tmps.getD b undef) >>= fun p=>loadVar T p).run P w=_
    rw[hv]
    simpa[asAddr] using h3
   ·rw[if_neg hk] at h;cases h
  ·cases h
theorem QdC (hT:TyOk P ty)(M:Mem w g s.ob)(hS:Q1s w g s a):∀ (rs:List ResultVar) (xs:List AV),Q5A (rs.map (Q9H ty s))=some xs →
  ∃ vs,Sem.run P (rs.mapM (QbH a.tmps)) w=.ok vs w∧vs.length=xs.length ∧
   ∀ (j:Nat) v x,vs[j]?=some v→xs[j]?=some x→ARel w g s.ob v x
 | [],xs,h=>by
  obtain rfl:[]=xs:=by simpa[Q5A] using h
  exact⟨[],rfl,rfl,fun j v x h=>by simp at h⟩
 |rv::rs,xs,h=>by
  cases h1:Q9H ty s rv with
  |none=>simp[Q5A,h1] at h
  |some x =>
   simp only[List.map_cons,h1,Q5A,Option.map_eq_some_iff] at h
   obtain⟨ys,h2,rfl⟩:=h
   obtain⟨v,hv,hr⟩:=QkL hT M hS h1
   obtain⟨vs,hvs,hl,hrs⟩:=QdC hT M hS rs ys h2
   refine⟨v::vs,?_,by simp[hl],fun j y u hy hu=>?_⟩
   ·simp only[List.mapM_cons,Sem.run_bind,hv,hvs,Result.andThen_ok,Sem.run_pure]
   ·cases j with
    |zero =>
     obtain rfl:v=y:=by simpa using hy
     obtain rfl:x=u:=by simpa using hu
     exact hr
    |succ j=>exact hrs j y u (by simpa using hy) (by simpa using hu)
theorem QbJ (hT:TyOk P ty){keep:Bool}{fn:Func}(hs:Sim w0 g0 o0 N s a w){res:AV}{ob':List Ob}(h:Q7J std ty keep fn.results.toList s=some (res,ob')) :
  ∃ v g',(results fn a.tmps).run P w=.ok v w∧Mem w g' ob'∧ARel w g' ob' v res∧Step w0 g0 o0 w g' ob':=by
 obtain⟨g,M,hS,h0⟩:=hs.rel
 unfold Q7J at h
 cases hx:Q5A (fn.results.toList.map (Q9H ty s)) with
 |none=>rw[hx] at h;cases h
 |some xs =>
  rw[hx] at h
  obtain⟨vs,hvs,hl,hrs⟩:=QdC hT M hS _ _ hx
  have hrun:(results fn a.tmps).run P w=.ok (if h:vs.toArray.size=1 then vs.toArray[0] else .tuple vs.toArray) w:=by
   rw[Qew,Array.mapM_eq_mapM_toList,Sem.run_bind]
   have:(List.toArray <$> (fn.results.toList.mapM (QbH a.tmps))).run P w=.ok vs.toArray w:=by
    rw[map_eq_pure_bind,Sem.run_bind,hvs];rfl
   rw[this];rfl
  have many:xs.length≠1→(Q49 (frz std keep 9) s.ob xs).map (fun (ys,ob)=>(AV.tup ys,ob))=some (res,ob') →
    ∃ v g',(results fn a.tmps).run P w=.ok v w∧Mem w g' ob'∧ARel w g' ob' v res∧Step w0 g0 o0 w g' ob':=fun hne h=>by
   simp only[Option.map_eq_some_iff] at h
   obtain⟨⟨ys,ob1⟩,h1,h2⟩:=h
   cases h2
   have hL:Q3E w g s.ob vs xs:=⟨hl,fun j v x hv hx=>(hrs j v x hv hx).to1 (Q6x _ _ _ _ h1 _ (List.mem_of_getElem? hx))⟩
   obtain⟨g',M',E',R',L'⟩:=QkH _ _ g s.ob ys ob1 M hL h1
   refine⟨_,g',hrun,M',?_,h0.trans (Step.ghost E' L')⟩
   have:¬ vs.toArray.size=1:=by simp;omega
   rw[dif_neg this]
   exact⟨vs.toArray,rfl,by simpa using R'.1,fun j y u hy hu=>R'.2 j y u (by simpa using hy) hu⟩
  cases xs with
  |nil=>exact many (by simp) h
  |cons x r =>
   cases r with
   |cons x' r'=>exact many (by simp) h
   |nil =>
    obtain⟨v,rfl⟩:∃ v,vs=[v]:=List.length_eq_one_iff.1 (by simpa using hl)
    obtain⟨g',M',E',R',L'⟩:=QhR M (hrs 0 v x rfl rfl) h
    exact⟨v,g',hrun,M',R',h0.trans (Step.ghost E' L')⟩
end
def leC (x y:AV):Prop:=x=y∨(x=.val (.slice none 0 0)∧∃ sz,y=.slc sz [])∨(y=.opt x∧Q4Z x)∨x=.opt y
def leL:List AV→List AV→Prop
 | [],[]=>True
 |x::r,y::r'=>leC x y∧leL r r'
 |_,_=>False
def Qeo:AV→AV→Prop
 |.agg xs,.agg ys=>leL xs ys
 |.agg _,_=>False
 |.tup _,_=>False
 |_,.agg _=>False
 |_,.tup _=>False
 |x,y=>leC x y
def leT:List AV→List AV→Prop
 | [],[]=>True
 |x::r,y::r'=>Qeo x y∧leT r r'
 |_,_=>False
def leA (x y:AV):Prop:=match x with
 |.tup xs=>(match y with
  |.tup ys=>leT xs ys
  |_=>False)
 |x=>Qeo x y
section
variable {w:World} {g:Gh} {ob:List Ob}
theorem Qfr {v:Value}{x y:AV}(h:ARel0 w g ob v x)(hl:leC x y):ARel0 w g ob v y:=by
 rcases hl with rfl|⟨rfl,sz,rfl⟩|⟨rfl,hp⟩|rfl
 ·exact h
 ·cases (show v=_ from ARel.valEq (g:=g) (w:=w) (ob:=ob) h)
  exact PRel.nil sz
 ·have:PRel w g.A v x:=by
   cases x with
   |val _=>exact h
   |ref _=>exact h
   |opt _=>exact h
   |_=>exact (show False from hp).elim
  exact PRel.opt _ _ this hp
 ·exact (PRel.ofOpt (show PRel w g.A v (.opt y) from h)).1.to0
theorem Qfl:∀ {vs:List Value} {xs ys:List AV},ARelC w g ob vs xs→leL xs ys→ARelC w g ob vs ys
 |vs,[],[],h,_=>h
 |_,[],_::_,_,hl=>hl.elim
 |_,_::_,[],_,hl=>hl.elim
 | [],x::r,y::r',h,_=>absurd h.1 (by simp)
 |v::vs,x::r,y::r',h,hl=>by
  have h1:=h.2 0 v x rfl rfl
  have h2:ARelC w g ob vs r':=Qfl (xs:=r) ⟨by simpa using h.1,fun j a b ha hb=>h.2 (j+1) a b (by simpa using ha) (by simpa using hb)⟩ hl.2
  refine⟨by simp[h2.1],fun j a b ha hb=>?_⟩
  cases j with
  |zero =>
   obtain rfl:v=a:=by simpa using ha
   obtain rfl:y=b:=by simpa using hb
   exact⟨Qfr h1.1 hl.1,h1.2⟩
  |succ j=>exact h2.2 j a b (by simpa using ha) (by simpa using hb)
theorem ARel1.to0 {v:Value}{x:AV}(h:ARel1 w g ob v x)(hn:∀ cs,x≠.agg cs):ARel0 w g ob v x:=by cases x<;>first|exact h|exact absurd rfl (hn _)
theorem Q9S {v:Value}{x y:AV}(h:ARel1 w g ob v x)(hl:Qeo x y):ARel1 w g ob v y:=by
 cases x with
 |agg xs =>
  cases y with
  |agg ys=>obtain⟨vs,rfl,h⟩:=h;exact⟨vs,rfl,Qfl h hl⟩
  |_=>exact (show False from hl).elim
 |tup _=>exact (show False from hl).elim
 |_=>cases y<;>first|exact (show False from hl).elim|exact (Qfr (h.to0 (fun cs h=>by cases h)) hl).to1
theorem Q8S {v:Value}{x y:AV}(h:ARel w g ob v x)(hl:leA x y):ARel w g ob v y:=by
 cases x with
 |tup xs =>
  cases y with
  |tup ys =>
   obtain⟨vs,rfl,h1,h2⟩:=h
   have key:∀ (xs ys:List AV) (vs:List Value),leT xs ys→vs.length=xs.length→(∀ (j:Nat) y u,vs[j]?=some y→xs[j]?=some u→ARel1 w g ob y u)→vs.length=ys.length∧∀ (j:Nat) y u,vs[j]?=some y→ys[j]?=some u→ARel1 w g ob y u:=by
    intro xs
    induction xs with
    |nil =>
     intro ys vs hl hn hr
     cases ys with
     |nil=>exact⟨hn,hr⟩
     |cons _ _=>exact (show False from hl).elim
    |cons x r ih =>
     intro ys vs hl hn hr
     cases ys with
     |nil=>exact (show False from hl).elim
     |cons y r' =>
      cases vs with
      |nil=>simp at hn
      |cons v vs =>
       obtain⟨h3,h4⟩:=ih r' vs hl.2 (by simpa using hn) (fun j a b ha hb=>hr (j+1) a b (by simpa using ha) (by simpa using hb))
       refine⟨by simp[h3],fun j a b ha hb=>?_⟩
       cases j with
       |zero =>
        obtain rfl:v=a:=by simpa using ha
        obtain rfl:y=b:=by simpa using hb
        exact Q9S (hr 0 v x rfl rfl) hl.1
       |succ j=>exact h4 j a b (by simpa using ha) (by simpa using hb)
   obtain⟨h3,h4⟩:=key xs ys vs.toList hl (by simpa using h1) (fun j a b ha hb=>h2 j a b (by simpa using ha) hb)
   exact⟨vs,rfl,by simpa using h3,fun j a b ha hb=>h4 j a b (by simpa using ha) hb⟩
  |_=>exact (show False from hl).elim
 |_=>exact (Q9S (h.to1' (fun xs h=>by cases h)) (show Qeo _ y from hl)).to
end
def QaS (ob ob':List Ob)(ρ:List (Option Nat)):List AV→List AV→Option Eqs
 | [],[]=>some []
 |x::r,x'::r'=>both (Qap ob ob' ρ x x') (QaS ob ob' ρ r r')
 |_,_=>none
def QiW (ob ob':List Ob)(ρ:List (Option Nat))(x x':AV):Option Eqs:=match x with
 |.tup xs=>(match x' with
  |.tup ys=>QaS ob ob' ρ xs ys
  |_=>none)
 |x=>Qap ob ob' ρ x x'
section
variable {w w0:World} {g g0:Gh} {ob ob' o0:List Ob} {ρ:List (Option Nat)}
theorem QdW {x x':AV}{l:Eqs}(he:Qap ob ob' ρ x x'=some l):∀ xs,x'≠.tup xs:=by
 rintro xs rfl
 cases he
theorem Q8h (hF:Fits ob ob' ρ)(ho:Q2P ρ=true):∀ (xs ys:List AV) (vs:List Value) (l:Eqs),QaS ob ob' ρ xs ys=some l→Qe l→vs.length=xs.length→(∀ (j:Nat) y u,vs[j]?=some y→xs[j]?=some u→ARel1 w g ob y u) →
  vs.length=ys.length∧∀ (j:Nat) y u,vs[j]?=some y→ys[j]?=some u→ARel1 w (g.ren ρ) ob' y u
 | [],[],vs,_,_,_,hn,_=>⟨hn,fun j y u _ h=>by simp at h⟩
 | [],_::_,_,_,h,_,_,_=>by cases h
 |_::_,[],_,_,h,_,_,_=>by cases h
 |x::r,y::r',vs,l,h,hl,hn,hr=>by
  cases vs with
  |nil=>simp at hn
  |cons v vs =>
   obtain⟨⟨l1,h1,hl1⟩,l2,h2,hl2⟩:=Q30 h hl
   obtain⟨h3,h4⟩:=Q8h hF ho r r' vs l2 h2 hl2 (by simpa using hn) (fun j a b ha hb=>hr (j+1) a b (by simpa using ha) (by simpa using hb))
   refine⟨by simp[h3],fun j a b ha hb=>?_⟩
   cases j with
   |zero =>
    obtain rfl:v=a:=by simpa using ha
    obtain rfl:y=b:=by simpa using hb
    exact (Q7t hF ho (hr 0 v x rfl rfl).to h1 hl1).to1' (QdW h1)
   |succ j=>exact h4 j a b (by simpa using ha) (by simpa using hb)
theorem Q9u (hF:Fits ob ob' ρ)(ho:Q2P ρ=true){v:Value}{x x':AV}{l:Eqs}(h:ARel w g ob v x)(he:QiW ob ob' ρ x x'=some l)(hl:Qe l):ARel w (g.ren ρ) ob' v x':=by
 cases x with
 |tup xs =>
  cases x' with
  |tup ys =>
   obtain⟨vs,rfl,h1,h2⟩:=h
   obtain⟨h3,h4⟩:=Q8h hF ho xs ys vs.toList l he hl (by simpa using h1) (fun j a b ha hb=>h2 j a b (by simpa using ha) hb)
   exact⟨vs,rfl,by simpa using h3,fun j a b ha hb=>h4 j a b (by simpa using ha) hb⟩
  |_=>cases he
 |_=>exact Q7t hF ho h he hl
theorem Qca (hF:Fits ob ob' ρ)(ho:Q2P ρ=true)(hh:Qfs o0 ob ob' ρ=true)(hn:o0.length≤ρ.length)(h0:Step w0 g0 o0 w g ob):Step w0 g0 o0 w (g.ren ρ) ob':=by
 have head:∀ j,j<o0.length→ρ[j]?=some (some j):=fun j hj=>by
  have:=List.all_eq_true.1 hh j (List.mem_range.2 hj)
  simp only[Bool.and_eq_true,beq_iff_eq] at this
  exact this.1
 refine⟨h0.os,h0.tape,h0.output,h0.size,h0.keep,fun b id hG=>?_,h0.imm,⟨h0.ext.A,fun id hid=>?_,fun id hb=>?_,fun id hb=>?_,fun id et sz fz e xs hr=>?_,fun b id hG hs=>?_⟩,?_⟩
 ·obtain⟨i,_,h3⟩:=Q2V hG
  exact h0.own b i h3
 ·rw[Q3b (head id hid)];exact h0.ext.loc id hid
 ·exact hF.isB (head id (Q46 hb)) (h0.ext.isb id hb)
 ·exact hF.isI (head id (Q4U hb)) (h0.ext.isi id hb)
 ·have hid:=Qb hr
  obtain⟨fz1,e1,xs1,h3,h4,h5⟩:=h0.ext.row id et sz fz e xs hr
  obtain⟨fz2,e2,h6,_⟩:=hF.row (head id hid) h3
  have he:e1=e2∨e<e2:=by
   have:=List.all_eq_true.1 hh id (List.mem_range.2 hid)
   simp only[Bool.and_eq_true,hr,h3,h6,beq_iff_eq,Bool.or_eq_true,decide_eq_true_eq] at this
   exact this.2
  rcases he with he|he
  rotate_left
  ·exact⟨fz2,e2,xs1,h6,by omega,fun hee=>by omega⟩
  subst he
  exact⟨fz2,e1,xs1,h6,h4,fun hee=>⟨(h5 hee).1,fun b hb=>⟨Q6a ho (head id hid) ((h5 hee).2 b hb).1,((h5 hee).2 b hb).2⟩⟩⟩
 ·obtain⟨et,sz,fz,fz',e,xs,xs',h3,h4⟩:=hs
  have hid:=Qb h3
  obtain⟨fz1,e1,xs1,h5,h6,h7⟩:=h0.ext.row id et sz fz e xs h3
  obtain⟨fz2,e2,h8,_⟩:=hF.row (head id hid) h5
  rw[h8] at h4
  obtain⟨rfl,rfl,rfl⟩:fz2=fz'∧e2=e∧xs1=xs':=by simpa using h4
  have he:e1=e2:=by
   have:=List.all_eq_true.1 hh id (List.mem_range.2 hid)
   simp only[Bool.and_eq_true,h3,h5,h8,beq_iff_eq,Bool.or_eq_true,decide_eq_true_eq] at this
   omega
  subst he
  obtain⟨h9,h10⟩:=h0.ext.sub b id hG ⟨_,_,_,_,_,_,_,h3,h5⟩
  have h11:=Q4i (g:=g) ho (head id hid) ((h7 rfl).2 b hG).1
  exact⟨h11.trans h9,h10⟩
 ·rw[←hF.1];exact hn
end
def FinOk (o0:List Ob)(res:AV)(ob':List Ob)(_:Ex)(s:St):Prop:=match s.tm with
 | [(_,r)]=>∃ ρ r' l,Q2P ρ=true∧Qfs o0 s.ob ob' ρ=true∧o0.length≤ρ.length∧both (QiW s.ob ob' ρ r r') (Q8s s.ob ob' ρ ρ ob')=some l∧Qe l∧leA r' res
 |_=>False
def Qn2:AV→Bool
 |.tup xs=>xs.all AV.pur
 |x=>x.pur
theorem Q5d {ob:List Ob}{ρ:List (Option Nat)}{x:AV}(h:x.pur0=true):∃ l,Q5z ob [] ρ x x=some l∧Qe l:=by
 cases x with
 |val v=>cases v<;>exact⟨_,rfl,rfl,trivial⟩
 |slc _ _=>exact⟨_,rfl,rfl,trivial⟩
 |ref _=>exact⟨_,rfl,rfl,trivial⟩
 |opt _=>exact⟨_,rfl,rfl,trivial⟩
 |_=>cases h
theorem Q4n {ob:List Ob}{ρ:List (Option Nat)}{x:AV}(h:x.pur=true):∃ l,Qap ob [] ρ x x=some l∧Qe l:=by
 cases x with
 |agg cs =>
  have key:∀ cs:List AV,cs.all AV.pur0=true→∃ l,QbT ob [] ρ cs cs=some l∧Qe l:=by
   intro cs
   induction cs with
   |nil=>intro _;exact⟨[],rfl,trivial⟩
   |cons x r ih =>
    intro h
    simp only[List.all_cons,Bool.and_eq_true] at h
    obtain⟨l1,h1,h2⟩:=Q5d (ob:=ob) (ρ:=ρ) h.1
    obtain⟨l2,h3,h4⟩:=ih h.2
    exact⟨l1++l2,by simp only[QbT,h1,h3,both],Q3x.2 ⟨h2,h4⟩⟩
  exact key cs h
 |val v=>exact Q5d (ob:=ob) (ρ:=ρ) (x:=.val v) h
 |slc a b=>exact Q5d (ob:=ob) (ρ:=ρ) (x:=.slc a b) h
 |ref a=>exact Q5d (ob:=ob) (ρ:=ρ) (x:=.ref a) h
 |opt a=>exact Q5d (ob:=ob) (ρ:=ρ) (x:=.opt a) h
 |_=>cases h
theorem FinOk.pure {res r:AV}{k:Nat}{ob:List Ob}{e:Ex}(hp:Qn2 r=true)(hl:leA r res):FinOk [] res [] e ⟨[(k,r)],ob⟩:=by
 have hr:∃ l,QiW ob [] [] r r=some l∧Qe l:=by
  cases r with
  |tup xs =>
   have key:∀ xs:List AV,xs.all AV.pur=true→∃ l,QaS ob [] [] xs xs=some l∧Qe l:=by
    intro xs
    induction xs with
    |nil=>intro _;exact⟨[],rfl,trivial⟩
    |cons x r ih =>
     intro h
     simp only[List.all_cons,Bool.and_eq_true] at h
     obtain⟨l1,h1,h2⟩:=Q4n (ob:=ob) (ρ:=[]) h.1
     obtain⟨l2,h3,h4⟩:=ih h.2
     exact⟨l1++l2,by simp only[QaS,h1,h3,both],Q3x.2 ⟨h2,h4⟩⟩
   exact key xs hp
  |val a=>exact Q4n (ob:=ob) (ρ:=[]) (x:=.val a) hp
  |slc a b=>exact Q4n (ob:=ob) (ρ:=[]) (x:=.slc a b) hp
  |agg a=>exact Q4n (ob:=ob) (ρ:=[]) (x:=.agg a) hp
  |ref a=>exact Q4n (ob:=ob) (ρ:=[]) (x:=.ref a) hp
  |opt a=>exact Q4n (ob:=ob) (ρ:=[]) (x:=.opt a) hp
  |_=>cases hp
 obtain⟨l,h1,h2⟩:=hr
 exact⟨[],r,l,rfl,rfl,Nat.le_refl _,by simp only[h1,Q8s,both,List.append_nil],h2,hl⟩
theorem QaI {P:Program}{ty:Tys}(keep:Bool)(hT:TyOk P ty)(hm:P.follows .mixedOrders=true){cs:Nat→List AV→List Ob→Option (AV×List Ob)}{ord:Nat→OT}
  {f:Nat} {fn:Func} {c:Code} {args:List AV} {ob:List Ob} {res:AV} {ob':List Ob} (hf:P.funcs[f]?=some fn) (hb:fn.body=some c) (he:∀ vs w,(callFunc f vs).run P w=.ok (.enter f vs) w)
  (hn:args.length≤fn.ntmps) (hd:Q40 fn.ntmps c=true) (ho:Q3N .any ty ord c=true)
  (h:∀ w0 g0,(Q5 std ty cs ord c (Q4N std ty keep fn.results.toList) ⟨ent 0 args,ob⟩).ok P w0 g0 ob fn.ntmps (FinOk ob res ob')):BCall P f args ob res ob':=by
 refine⟨he,fun w g vs M hL=>calls_of_wp hf hb ?_⟩
 have hlen:vs.length=args.length:=hL.1
 refine Q4X (w0:=w) (g0:=g) (o0:=ob) (N:=fn.ntmps) (Q:=FinOk ob res ob') hT hm c _ _ ⟨ent 0 args,ob⟩ _ w hd ho (fun c a d v w h=>h) (fun e s a w' hs hq=>?_) ⟨rfl,?_,g,M,fun t=>?_,Step.refl⟩ (h w g)
 ·have fin:∀ {T:Tree},T=(match Q7J std ty keep fn.results.toList s with|some (r,ob)=>.leaf .ret ⟨[(0,r)],ob⟩|none=>.stuck 71)→T.ok P w g ob fn.ntmps (FinOk ob res ob') →
    a.defers=[]∧∃ v,(results fn a.tmps).run P w'=.ok v w'∧∃ v' g',Ending.returned v=.returned v'∧Mem w' g' ob'∧ARel w' g' ob' v' res∧Step w g ob w' g' ob':=fun hT' hq=>by
   cases hr:Q7J std ty keep fn.results.toList s with
   |none=>rw[hr] at hT';subst hT';exact (show False from hq).elim
   |some q =>
    obtain⟨r,ob1⟩:=q
    rw[hr] at hT'
    subst hT'
    obtain⟨ρ,r',l,h1,h2,h3,h4,h5,h6⟩:=(show FinOk ob res ob' .ret ⟨[(0,r)],ob1⟩ from hq)
    obtain⟨⟨l1,e1,a1⟩,l2,e2,a2⟩:=Q30 h4 h5
    have hF:Fits ob1 ob' ρ:=Q4o _ _ _ e2 a2
    obtain⟨v,g',k1,k2,k3,k4⟩:=QbJ hT hs hr
    exact⟨hs.defers,v,k1,v,g'.ren ρ,rfl,k2.ren hF h1,Q8S (Q9u hF h1 k3 e1 a1) h6,Qca hF h1 h2 h3 k4⟩
  cases e with
  |normal=>exact fin rfl hq
  |ret=>exact fin rfl hq
  |exit i=>exact (show False from hq).elim
 ·simp;omega
 ·show ARel w g ob _ (lk t (ent 0 args))
  rw[Qey]
  simp only[Nat.zero_le,if_true,Nat.sub_zero]
  by_cases ht:t<args.length
  ·rw[List.getD_eq_getElem?_getD,List.getElem?_eq_getElem ht,Option.getD_some]
   have e:(vs.toArray++Array.replicate (fn.ntmps-vs.toArray.size) undef).getD t undef=vs[t]'(by omega):=by
    rw[Array.getD_eq_getD_getElem?,Array.getElem?_append_left (by simp;omega)]
    simp[show t<vs.length by omega]
   rw[e]
   exact (hL.2 t _ _ (List.getElem?_eq_getElem (by omega)) (List.getElem?_eq_getElem ht)).to
  ·rw[List.getD_eq_getElem?_getD,List.getElem?_eq_none (by omega)]
   trivial
theorem Qj5 {P:Program}{ty:Tys}(hT:TyOk P ty)(hm:P.follows .mixedOrders=true){cs:Nat→List AV→List Ob→Option (AV×List Ob)}{ord:Nat→OT}
  {f:Nat} {fn:Func} {c:Code} {args:List AV} {ob:List Ob} {res:AV} {ob':List Ob} (hf:P.funcs[f]?=some fn) (hb:fn.body=some c) (he:∀ vs w,(callFunc f vs).run P w=.ok (.enter f vs) w)
  (hn:args.length≤fn.ntmps) (hd:Q40 fn.ntmps c=true) (ho:Q3N .any ty ord c=true)
  (h:∀ w0 g0,(Q5 std ty cs ord c (Q4N std ty false fn.results.toList) ⟨ent 0 args,ob⟩).ok P w0 g0 ob fn.ntmps (FinOk ob res ob')):BCall P f args ob res ob' :=
 QaI false hT hm hf hb he hn hd ho h
end Go.Proofs.YthbjpdijafccjaaGreat
namespace Go.Proofs.YthbjpdijafccjaaGreat
open Go.RowKit Go.Lib
def tiB (P:Program)(x:TI):Bool:=x.zero.length == x.size&&(x.agg||x.size == 1)&&decide (x.bytes≤140000)&&x.flds.all (fun f=>(P.info? f.2).isSome)&&x.zero.all (·.oneCell')&&x.ok
theorem TiOk.of {P:Program}{t:Nat}{x:TI}(h1:(P.info? t).map (fun i=>(i.size,i.bytes,i.zero.map (·.cells.toList)))=some (x.size,x.bytes,some x.zero))
  (h2:(P.underlying t).map Q2u=some (x.agg,x.elem,x.flds,x.kind,x.sl,x.kd)) (hb:tiB P x=true):TiOk P t x:=by
 simp only[tiB,Bool.and_eq_true,Bool.or_eq_true,beq_iff_eq,decide_eq_true_eq] at hb
 obtain⟨⟨⟨⟨⟨b1,b2⟩,b4⟩,b5⟩,b6⟩,b7⟩:=hb
 exact⟨h1,h2,b1,fun h=>b2.resolve_left (by rw[h];simp),b4,b5,b6,b7⟩
theorem TyOk.nil {P:Program}:QdG P []:=fun _ _ h=>by cases h
theorem TyOk.cons {P:Program}{t:Nat}{x:TI}{r:List (Nat×TI)}(h:TiOk P t x)(hr:QdG P r):QdG P ((t,x)::r):=fun u y hu=>by
 rcases List.mem_cons.1 hu with h1|h1
 ·cases h1;exact h
 ·exact hr u y h1
end Go.Proofs.YthbjpdijafccjaaGreat
namespace Go.Proofs.YthbjpdijafccjaaGreat
open Tryz
def Qm6:List (Nat×TI):=[(1,⟨1,false,0,[],[.nilFunc],none,8,false,7,true⟩),
 (2,⟨1,false,0,[],[.int .i64 0],some .i64,8,false,3,true⟩),
 (3,⟨1,false,0,[],[.int .i64 0],some .i64,8,false,3,true⟩),
 (4,⟨1,false,0,[],[.bool false],none,1,false,5,true⟩),
 (5,⟨1,false,0,[],[.int .u8 0],some .u8,1,false,3,true⟩),
 (6,⟨1,false,0,[],[.int .u8 0],some .u8,1,false,3,true⟩),
 (7,⟨4,true,0,[(0,2),(1,3),(2,4),(3,6)],[.int .i64 0,.int .i64 0,.bool false,.int .u8 0],none,24,false,1,true⟩),
 (8,⟨4,true,0,[(0,2),(1,3),(2,4),(3,6)],[.int .i64 0,.int .i64 0,.bool false,.int .u8 0],none,24,false,1,true⟩),
 (9,⟨1,false,0,[],[.string ⟨#[]⟩],none,16,false,6,true⟩),
 (10,⟨1,false,0,[],[.string ⟨#[]⟩],none,16,false,6,true⟩),
 (11,⟨1,false,0,[],[.string ⟨#[]⟩],none,16,false,6,true⟩),
 (12,⟨1,false,0,[],[.int .u64 0],some .u64,8,false,3,true⟩),
 (13,⟨2,true,0,[(0,9),(1,12)],[.string ⟨#[]⟩,.int .u64 0],none,24,false,1,true⟩),
 (14,⟨2,true,0,[(0,9),(1,12)],[.string ⟨#[]⟩,.int .u64 0],none,24,false,1,true⟩),
 (15,⟨1,false,0,[],[.pointer none],none,8,false,4,true⟩),
 (16,⟨1,false,0,[],[.pointer none],none,8,false,4,true⟩),
 (17,⟨1,false,0,[],[.pointer none],none,8,false,4,true⟩),
 (18,⟨1,true,0,[(0,17)],[.pointer none],none,8,false,1,true⟩),
 (19,⟨1,true,0,[(0,17)],[.pointer none],none,8,false,1,true⟩),
 (21,⟨1,false,0,[],[.int .i32 0],some .i32,4,false,3,true⟩),
 (22,⟨1,false,5,[],[.slice none 0 0],none,24,true,2,true⟩),
 (23,⟨1,false,0,[],[.nilFunc],none,8,false,7,true⟩),
 (24,⟨1,false,21,[],[.slice none 0 0],none,24,true,2,true⟩),
 (25,⟨1,false,3,[],[.slice none 0 0],none,24,true,2,true⟩),
 (26,⟨4,true,0,[(0,3),(1,3),(2,24),(3,25)],[.int .i64 0,.int .i64 0,.slice none 0 0,.slice none 0 0],none,64,false,1,true⟩),
 (27,⟨4,true,0,[(0,3),(1,3),(2,24),(3,25)],[.int .i64 0,.int .i64 0,.slice none 0 0,.slice none 0 0],none,64,false,1,true⟩),
 (28,⟨1,false,0,[],[.pointer none],none,8,false,4,true⟩),
 (29,⟨1,false,53,[],[.slice none 0 0],none,24,true,2,true⟩),
 (30,⟨7,true,0,[(0,27),(4,28),(5,3),(6,29)],[.int .i64 0,.int .i64 0,.slice none 0 0,.slice none 0 0,.pointer none,.int .i64 0,.slice none 0 0],none,104,false,1,true⟩),
 (31,⟨7,true,0,[(0,27),(4,28),(5,3),(6,29)],[.int .i64 0,.int .i64 0,.slice none 0 0,.slice none 0 0,.pointer none,.int .i64 0,.slice none 0 0],none,104,false,1,true⟩),
 (32,⟨1,false,0,[],[.nilFunc],none,8,false,7,true⟩),
 (33,⟨1,false,0,[],[.pointer none],none,8,false,4,true⟩),
 (34,⟨1,false,0,[],[.nilFunc],none,8,false,7,true⟩),
 (35,⟨1,false,47,[],[.slice none 0 0],none,24,true,2,true⟩),
 (36,⟨1,false,0,[],[.nilFunc],none,8,false,7,true⟩),
 (37,⟨1,false,0,[],[.pointer none],none,8,false,4,true⟩),
 (38,⟨5,true,0,[(0,28),(1,3),(2,3),(3,3),(4,37)],[.pointer none,.int .i64 0,.int .i64 0,.int .i64 0,.pointer none],none,40,false,1,true⟩),
 (39,⟨5,true,0,[(0,28),(1,3),(2,3),(3,3),(4,37)],[.pointer none,.int .i64 0,.int .i64 0,.int .i64 0,.pointer none],none,40,false,1,true⟩),
 (40,⟨1,false,0,[],[.nilFunc],none,8,false,7,true⟩),
 (41,⟨4,true,0,[(0,3),(1,3),(2,24),(3,25)],[.int .i64 0,.int .i64 0,.slice none 0 0,.slice none 0 0],none,64,false,1,true⟩),
 (42,⟨1,false,9,[],[.slice none 0 0],none,24,true,2,true⟩),
 (43,⟨1,false,49,[],[.slice none 0 0],none,24,true,2,true⟩),
 (44,⟨8,true,0,[(0,22),(1,41),(5,42),(6,35),(7,43)],[.slice none 0 0,.int .i64 0,.int .i64 0,.slice none 0 0,.slice none 0 0,.slice none 0 0,.slice none 0 0,.slice none 0 0],none,160,false,1,true⟩),
 (45,⟨8,true,0,[(0,22),(1,41),(5,42),(6,35),(7,43)],[.slice none 0 0,.int .i64 0,.int .i64 0,.slice none 0 0,.slice none 0 0,.slice none 0 0,.slice none 0 0,.slice none 0 0],none,160,false,1,true⟩),
 (46,⟨3,true,0,[(0,3),(1,3),(2,22)],[.int .i64 0,.int .i64 0,.slice none 0 0],none,40,false,1,true⟩),
 (47,⟨3,true,0,[(0,3),(1,3),(2,22)],[.int .i64 0,.int .i64 0,.slice none 0 0],none,40,false,1,true⟩),
 (48,⟨3,true,0,[(0,3),(1,3),(2,3)],[.int .i64 0,.int .i64 0,.int .i64 0],none,24,false,1,true⟩),
 (49,⟨3,true,0,[(0,3),(1,3),(2,3)],[.int .i64 0,.int .i64 0,.int .i64 0],none,24,false,1,true⟩),
 (50,⟨2,true,0,[(0,3),(1,3)],[.int .i64 0,.int .i64 0],none,16,false,1,true⟩),
 (51,⟨2,true,0,[(0,3),(1,3)],[.int .i64 0,.int .i64 0],none,16,false,1,true⟩),
 (52,⟨3,true,0,[(0,51),(2,3)],[.int .i64 0,.int .i64 0,.int .i64 0],none,24,false,1,true⟩),
 (53,⟨3,true,0,[(0,51),(2,3)],[.int .i64 0,.int .i64 0,.int .i64 0],none,24,false,1,true⟩),
 (54,⟨1,false,0,[],[.nilFunc],none,8,false,7,true⟩),
 (55,⟨1,false,0,[],[.nilFunc],none,8,false,7,true⟩),
 (56,⟨1,false,0,[],[.nilFunc],none,8,false,7,true⟩),
 (57,⟨1,false,0,[],[.pointer none],none,8,false,4,true⟩),
 (58,⟨1,false,0,[],[.nilFunc],none,8,false,7,true⟩),
 (59,⟨1,false,0,[],[.nilFunc],none,8,false,7,true⟩),
 (60,⟨1,false,0,[],[.pointer none],none,8,false,4,true⟩),
 (61,⟨2,true,0,[(0,24),(1,25)],[.slice none 0 0,.slice none 0 0],none,48,false,1,true⟩),
 (62,⟨2,true,0,[(0,24),(1,25)],[.slice none 0 0,.slice none 0 0],none,48,false,1,true⟩),
 (63,⟨1,false,62,[],[.slice none 0 0],none,24,true,2,true⟩),
 (64,⟨3,true,0,[(0,22),(1,57),(2,63)],[.slice none 0 0,.pointer none,.slice none 0 0],none,56,false,1,true⟩),
 (65,⟨3,true,0,[(0,22),(1,57),(2,63)],[.slice none 0 0,.pointer none,.slice none 0 0],none,56,false,1,true⟩),
 (66,⟨1,false,0,[],[.nilFunc],none,8,false,7,true⟩),
 (67,⟨1,false,0,[],[.nilFunc],none,8,false,7,true⟩),
 (68,⟨1,false,0,[],[.nilFunc],none,8,false,7,true⟩),
 (69,⟨1,false,0,[],[.nilFunc],none,8,false,7,true⟩),
 (70,⟨1,false,0,[],[.nilFunc],none,8,false,7,true⟩),
 (72,⟨1,false,0,[],[.nilFunc],none,8,false,7,true⟩),
 (73,⟨1,false,0,[],[.nilFunc],none,8,false,7,true⟩),
 (74,⟨1,false,0,[],[.int .i64 0],some .i64,8,false,3,true⟩),
 (76,⟨1,false,0,[],[.nilFunc],none,8,false,7,true⟩),
 (77,⟨1,false,0,[],[.nilFunc],none,8,false,7,true⟩),
 (78,⟨1,false,0,[],[.nilFunc],none,8,false,7,true⟩),
 (80,⟨1,false,0,[],[.nilFunc],none,8,false,7,true⟩),
 (81,⟨1,false,84,[],[.slice none 0 0],none,24,true,2,true⟩),
 (82,⟨1,false,0,[],[.nilFunc],none,8,false,7,true⟩),
 (83,⟨3,true,0,[(0,21),(1,3),(2,3)],[.int .i32 0,.int .i64 0,.int .i64 0],none,24,false,1,true⟩),
 (84,⟨3,true,0,[(0,21),(1,3),(2,3)],[.int .i32 0,.int .i64 0,.int .i64 0],none,24,false,1,true⟩),
 (85,⟨1,false,91,[],[.slice none 0 0],none,24,true,2,true⟩),
 (86,⟨1,true,0,[(0,85)],[.slice none 0 0],none,24,false,1,true⟩),
 (87,⟨1,true,0,[(0,85)],[.slice none 0 0],none,24,false,1,true⟩),
 (88,⟨1,false,0,[],[.pointer none],none,8,false,4,true⟩),
 (89,⟨1,false,0,[],[.nilFunc],none,8,false,7,true⟩),
 (90,⟨6,true,0,[(0,3),(1,3),(2,3),(3,4),(4,22),(5,25)],[.int .i64 0,.int .i64 0,.int .i64 0,.bool false,.slice none 0 0,.slice none 0 0],none,80,false,1,true⟩),
 (91,⟨6,true,0,[(0,3),(1,3),(2,3),(3,4),(4,22),(5,25)],[.int .i64 0,.int .i64 0,.int .i64 0,.bool false,.slice none 0 0,.slice none 0 0],none,80,false,1,true⟩),
 (92,⟨1,false,95,[],[.slice none 0 0],none,24,true,2,true⟩),
 (93,⟨1,false,0,[],[.nilFunc],none,8,false,7,true⟩),
 (94,⟨4,true,0,[(0,3),(1,3),(2,3),(3,4)],[.int .i64 0,.int .i64 0,.int .i64 0,.bool false],none,32,false,1,true⟩),
 (95,⟨4,true,0,[(0,3),(1,3),(2,3),(3,4)],[.int .i64 0,.int .i64 0,.int .i64 0,.bool false],none,32,false,1,true⟩),
 (96,⟨1,false,0,[],[.nilFunc],none,8,false,7,true⟩),
 (98,⟨1,false,0,[],[.nilFunc],none,8,false,7,true⟩),
 (99,⟨1,false,101,[],[.slice none 0 0],none,24,true,2,true⟩),
 (100,⟨1,false,0,[],[.nilFunc],none,8,false,7,true⟩),
 (101,⟨3,true,0,[(0,21),(1,3),(2,3)],[.int .i32 0,.int .i64 0,.int .i64 0],none,24,false,1,true⟩),
 (102,⟨1,false,104,[],[.slice none 0 0],none,24,true,2,true⟩),
 (103,⟨1,false,0,[],[.nilFunc],none,8,false,7,true⟩),
 (104,⟨4,true,0,[(0,3),(1,3),(2,3),(3,4)],[.int .i64 0,.int .i64 0,.int .i64 0,.bool false],none,32,false,1,true⟩),
 (105,⟨1,false,0,[],[.nilFunc],none,8,false,7,true⟩),
 (106,⟨1,false,0,[],[.nilFunc],none,8,false,7,true⟩),
 (107,⟨3,true,0,[(0,3),(1,3),(2,3)],[.int .i64 0,.int .i64 0,.int .i64 0],none,24,false,1,true⟩),
 (108,⟨3,true,0,[(0,3),(1,3),(2,3)],[.int .i64 0,.int .i64 0,.int .i64 0],none,24,false,1,true⟩),
 (109,⟨1,false,142,[],[.slice none 0 0],none,24,true,2,true⟩),
 (110,⟨6,true,0,[(0,108),(3,109),(4,4),(5,4)],[.int .i64 0,.int .i64 0,.int .i64 0,.slice none 0 0,.bool false,.bool false],none,56,false,1,true⟩),
 (111,⟨6,true,0,[(0,108),(3,109),(4,4),(5,4)],[.int .i64 0,.int .i64 0,.int .i64 0,.slice none 0 0,.bool false,.bool false],none,56,false,1,true⟩),
 (112,⟨1,false,0,[],[.nilFunc],none,8,false,7,true⟩),
 (113,⟨1,false,0,[],[.nilFunc],none,8,false,7,true⟩),
 (114,⟨1,false,0,[],[.nilFunc],none,8,false,7,true⟩),
 (115,⟨1,false,0,[],[.nilFunc],none,8,false,7,true⟩),
 (116,⟨1,false,0,[],[.nilFunc],none,8,false,7,true⟩),
 (117,⟨1,false,0,[],[.nilFunc],none,8,false,7,true⟩),
 (118,⟨3,true,0,[(0,9),(1,3),(2,3)],[.string ⟨#[]⟩,.int .i64 0,.int .i64 0],none,32,false,1,true⟩),
 (119,⟨3,true,0,[(0,9),(1,3),(2,3)],[.string ⟨#[]⟩,.int .i64 0,.int .i64 0],none,32,false,1,true⟩),
 (120,⟨15,true,119,[],[.string ⟨#[]⟩,.int .i64 0,.int .i64 0,.string ⟨#[]⟩,.int .i64 0,.int .i64 0,.string ⟨#[]⟩,.int .i64 0,.int .i64 0,.string ⟨#[]⟩,.int .i64 0,.int .i64 0,.string ⟨#[]⟩,.int .i64 0,.int .i64 0],none,160,false,105,true⟩),
 (121,⟨1,false,0,[],[.nilFunc],none,8,false,7,true⟩),
 (122,⟨1,false,0,[],[.nilFunc],none,8,false,7,true⟩),
 (123,⟨1,false,0,[],[.nilFunc],none,8,false,7,true⟩),
 (125,⟨1,false,0,[],[.nilFunc],none,8,false,7,true⟩),
 (126,⟨3,true,0,[(0,3),(1,3),(2,3)],[.int .i64 0,.int .i64 0,.int .i64 0],none,24,false,1,true⟩),
 (127,⟨1,false,161,[],[.slice none 0 0],none,24,true,2,true⟩),
 (128,⟨6,true,0,[(0,126),(3,127),(4,4),(5,4)],[.int .i64 0,.int .i64 0,.int .i64 0,.slice none 0 0,.bool false,.bool false],none,56,false,1,true⟩),
 (129,⟨6,true,0,[(0,126),(3,127),(4,4),(5,4)],[.int .i64 0,.int .i64 0,.int .i64 0,.slice none 0 0,.bool false,.bool false],none,56,false,1,true⟩),
 (130,⟨1,false,0,[],[.nilFunc],none,8,false,7,true⟩),
 (131,⟨1,false,0,[],[.nilFunc],none,8,false,7,true⟩),
 (132,⟨1,false,0,[],[.nilFunc],none,8,false,7,true⟩),
 (133,⟨1,false,0,[],[.nilFunc],none,8,false,7,true⟩),
 (134,⟨1,false,0,[],[.nilFunc],none,8,false,7,true⟩),
 (135,⟨1,false,0,[],[.nilFunc],none,8,false,7,true⟩),
 (136,⟨1,false,0,[],[.nilFunc],none,8,false,7,true⟩),
 (137,⟨1,false,0,[],[.nilFunc],none,8,false,7,true⟩),
 (138,⟨1,false,108,[],[.slice none 0 0],none,24,true,2,true⟩),
 (139,⟨1,false,0,[],[.nilFunc],none,8,false,7,true⟩),
 (140,⟨1,false,0,[],[.nilFunc],none,8,false,7,true⟩),
 (141,⟨9,true,0,[(0,108),(3,108),(6,108)],[.int .i64 0,.int .i64 0,.int .i64 0,.int .i64 0,.int .i64 0,.int .i64 0,.int .i64 0,.int .i64 0,.int .i64 0],none,72,false,1,true⟩),
 (142,⟨9,true,0,[(0,108),(3,108),(6,108)],[.int .i64 0,.int .i64 0,.int .i64 0,.int .i64 0,.int .i64 0,.int .i64 0,.int .i64 0,.int .i64 0,.int .i64 0],none,72,false,1,true⟩),
 (144,⟨1,false,0,[],[.nilFunc],none,8,false,7,true⟩),
 (145,⟨1,false,0,[],[.nilFunc],none,8,false,7,true⟩),
 (147,⟨1,false,0,[],[.nilFunc],none,8,false,7,true⟩),
 (148,⟨1,false,0,[],[.nilFunc],none,8,false,7,true⟩),
 (149,⟨1,false,0,[],[.nilFunc],none,8,false,7,true⟩),
 (150,⟨1,false,0,[],[.int .u64 0],some .u64,8,false,3,true⟩),
 (151,⟨1,false,0,[],[.nilFunc],none,8,false,7,true⟩),
 (152,⟨1,false,0,[],[.nilFunc],none,8,false,7,true⟩),
 (153,⟨1,false,0,[],[.nilFunc],none,8,false,7,true⟩),
 (154,⟨1,false,0,[],[.pointer none],none,8,false,4,true⟩),
 (155,⟨1,false,126,[],[.slice none 0 0],none,24,true,2,true⟩),
 (156,⟨1,false,0,[],[.nilFunc],none,8,false,7,true⟩),
 (157,⟨2,true,0,[(0,155),(1,3)],[.slice none 0 0,.int .i64 0],none,32,false,1,true⟩),
 (158,⟨2,true,0,[(0,155),(1,3)],[.slice none 0 0,.int .i64 0],none,32,false,1,true⟩),
 (159,⟨1,false,0,[],[.nilFunc],none,8,false,7,true⟩),
 (160,⟨9,true,0,[(0,126),(3,126),(6,126)],[.int .i64 0,.int .i64 0,.int .i64 0,.int .i64 0,.int .i64 0,.int .i64 0,.int .i64 0,.int .i64 0,.int .i64 0],none,72,false,1,true⟩),
 (161,⟨9,true,0,[(0,126),(3,126),(6,126)],[.int .i64 0,.int .i64 0,.int .i64 0,.int .i64 0,.int .i64 0,.int .i64 0,.int .i64 0,.int .i64 0,.int .i64 0],none,72,false,1,true⟩),
 (163,⟨1,false,0,[],[.nilFunc],none,8,false,7,true⟩),
 (164,⟨1,false,0,[],[.nilFunc],none,8,false,7,true⟩),
 (165,⟨1,false,0,[],[.nilFunc],none,8,false,7,true⟩),
 (166,⟨1,false,0,[],[.nilFunc],none,8,false,7,true⟩),
 (167,⟨1,false,0,[],[.nilFunc],none,8,false,7,true⟩),
 (168,⟨1,false,0,[],[.nilFunc],none,8,false,7,true⟩),
 (169,⟨1,false,0,[],[.nilFunc],none,8,false,7,true⟩),
 (170,⟨1,false,0,[],[.nilFunc],none,8,false,7,true⟩),
 (171,⟨1,false,0,[],[.nilFunc],none,8,false,7,true⟩),
 (172,⟨1,false,0,[],[.nilFunc],none,8,false,7,true⟩),
 (173,⟨1,false,0,[],[.nilFunc],none,8,false,7,true⟩),
 (174,⟨1,false,0,[],[.nilFunc],none,8,false,7,true⟩),
 (175,⟨1,false,0,[],[.nilFunc],none,8,false,7,true⟩),
 (176,⟨1,false,0,[],[.nilFunc],none,8,false,7,true⟩),
 (177,⟨1,false,0,[],[.nilFunc],none,8,false,7,true⟩),
 (178,⟨1,false,0,[],[.nilFunc],none,8,false,7,true⟩),
 (179,⟨1,false,0,[],[.nilFunc],none,8,false,7,true⟩),
 (180,⟨1,false,0,[],[.nilFunc],none,8,false,7,true⟩),
 (181,⟨1,false,0,[],[.nilFunc],none,8,false,7,true⟩),
 (182,⟨1,false,0,[],[.nilFunc],none,8,false,7,true⟩),
 (183,⟨1,false,0,[],[.nilFunc],none,8,false,7,true⟩),
 (185,⟨1,false,0,[],[.nilFunc],none,8,false,7,true⟩),
 (186,⟨1,false,0,[],[.nilFunc],none,8,false,7,true⟩),
 (187,⟨1,false,0,[],[.nilFunc],none,8,false,7,true⟩),
 (188,⟨1,false,0,[],[.nilFunc],none,8,false,7,true⟩),
 (189,⟨1,false,0,[],[.nilFunc],none,8,false,7,true⟩),
 (190,⟨1,false,0,[],[.nilFunc],none,8,false,7,true⟩),
 (191,⟨1,false,0,[],[.nilFunc],none,8,false,7,true⟩),
 (192,⟨2,true,0,[(0,21),(1,21)],[.int .i32 0,.int .i32 0],none,8,false,1,true⟩),
 (193,⟨2,true,0,[(0,21),(1,21)],[.int .i32 0,.int .i32 0],none,8,false,1,true⟩),
 (194,⟨1,false,193,[],[.slice none 0 0],none,24,true,2,true⟩),
 (195,⟨1,false,0,[],[.nilFunc],none,8,false,7,true⟩),
 (196,⟨4,true,0,[(0,17),(1,17),(2,17),(3,9)],[.pointer none,.pointer none,.pointer none,.string ⟨#[]⟩],none,40,false,1,true⟩),
 (197,⟨4,true,0,[(0,17),(1,17),(2,17),(3,9)],[.pointer none,.pointer none,.pointer none,.string ⟨#[]⟩],none,40,false,1,true⟩),
 (198,⟨0,true,16,[],[],none,0,false,100,true⟩),
 (199,⟨0,true,0,[(0,198)],[],none,0,false,1,true⟩),
 (200,⟨0,true,0,[(0,198)],[],none,0,false,1,true⟩),
 (201,⟨1,false,0,[],[.int .u32 0],some .u32,4,false,3,true⟩),
 (202,⟨1,false,0,[],[.int .u8 0],some .u8,1,false,3,true⟩),
 (203,⟨1,false,0,[],[.int .u8 0],some .u8,1,false,3,true⟩),
 (204,⟨1,false,0,[],[.nilFunc],none,8,false,7,true⟩),
 (205,⟨1,false,0,[],[.pointer none],none,8,false,4,true⟩),
 (206,⟨1,false,0,[],[.int .i32 0],some .i32,4,false,3,true⟩),
 (207,⟨1,false,0,[],[.int .i32 0],some .i32,4,false,3,true⟩),
 (208,⟨11,true,0,[(0,12),(1,12),(2,201),(3,202),(4,5),(5,5),(6,203),(7,204),(8,205),(9,206),(10,207)],[.int .u64 0,.int .u64 0,.int .u32 0,.int .u8 0,.int .u8 0,.int .u8 0,.int .u8 0,.nilFunc,.pointer none,.int .i32 0,.int .i32 0],none,48,false,1,true⟩),
 (209,⟨11,true,0,[(0,12),(1,12),(2,201),(3,202),(4,5),(5,5),(6,203),(7,204),(8,205),(9,206),(10,207)],[.int .u64 0,.int .u64 0,.int .u32 0,.int .u8 0,.int .u8 0,.int .u8 0,.int .u8 0,.nilFunc,.pointer none,.int .i32 0,.int .i32 0],none,48,false,1,true⟩),
 (210,⟨1,false,0,[],[.nilFunc],none,8,false,7,true⟩),
 (211,⟨1,false,0,[],[.nilFunc],none,8,false,7,true⟩),
 (212,⟨1,false,0,[],[.nilFunc],none,8,false,7,true⟩)]
def tys:Tys:=fun _=>Qm6
theorem Q6O:TyOk prog tys:=by
 show QdG prog Qm6
 unfold Qm6
 repeat refine TyOk.cons (TiOk.of (by kernel_rfl) (by kernel_rfl) (by kernel_rfl)) ?_
 exact TyOk.nil
end Go.Proofs.YthbjpdijafccjaaGreat
namespace Go.Proofs.YthbjpdijafccjaaGreat
open Go.RowKit Go.Lib
section
variable {P:Program} {ty:Tys} {w0 w:World} {g0:Gh} {o0:List Ob} {N:Nat} {s s':St} {a:Act}
theorem Q7D (ρ:List (Option Nat)){l:Eqs}(h:QlC o0 ρ s s'=some l)(hl:Qe l)(hs:Sim w0 g0 o0 N s a w):Sim w0 g0 o0 N s' a w:=by
 unfold QlC at h
 split at h
 ·rename_i hk
  obtain⟨ho,hh,hn⟩:=hk
  obtain⟨⟨l1,h1,hl1⟩,l2,h2,hl2⟩:=Q30 h hl
  have hF:Fits s.ob s'.ob ρ:=Q4o _ _ _ h2 hl2
  obtain⟨g,M,hS,h0⟩:=hs.rel
  have head:∀ j,j<o0.length→ρ[j]?=some (some j):=fun j hj=>by
   have:=List.all_eq_true.1 hh j (List.mem_range.2 hj)
   simp only[Bool.and_eq_true,beq_iff_eq] at this
   exact this.1
  refine⟨hs.defers,hs.size,g.ren ρ,M.ren hF ho,fun t=>?_,?_⟩
  ·have:∀ (l:List (Nat×AV)) (q:Eqs),Qm8 s s' ρ l=some q→Qe q→ARel w (g.ren ρ) s'.ob (a.tmps.getD t undef) (lk t l):=by
    intro l
    induction l with
    |nil=>intro _ _ _;trivial
    |cons p r ih =>
     obtain⟨u,x'⟩:=p
     intro q hq hql
     obtain⟨⟨q1,e1,a1⟩,q2,e2,a2⟩:=Q30 hq hql
     show ARel w (g.ren ρ) s'.ob _ (if t=u then x' else lk t r)
     by_cases e:t=u
     ·subst e
      rw[if_pos rfl]
      exact Q7t hF ho (hS t) e1 a1
     ·rw[if_neg e];exact ih q2 e2 a2
   exact this _ _ h1 hl1
  ·refine⟨h0.os,h0.tape,h0.output,h0.size,h0.keep,fun b id hG=>?_,h0.imm,⟨h0.ext.A,fun id hid=>?_,fun id hb=>?_,fun id hb=>?_,fun id et sz fz e xs hr=>?_,fun b id hG hs=>?_⟩,?_⟩
   ·obtain⟨i,_,h3⟩:=Q2V hG
    exact h0.own b i h3
   ·rw[Q3b (head id hid)];exact h0.ext.loc id hid
   ·exact hF.isB (head id (Q46 hb)) (h0.ext.isb id hb)
   ·exact hF.isI (head id (Q4U hb)) (h0.ext.isi id hb)
   ·have hid:=Qb hr
    obtain⟨fz1,e1,xs1,h3,h4,h5⟩:=h0.ext.row id et sz fz e xs hr
    obtain⟨fz2,e2,h6,_⟩:=hF.row (head id hid) h3
    have he:e1=e2∨e<e2:=by
     have:=List.all_eq_true.1 hh id (List.mem_range.2 hid)
     simp only[Bool.and_eq_true,hr,h3,h6,beq_iff_eq,Bool.or_eq_true,decide_eq_true_eq] at this
     exact this.2
    rcases he with he|he
    rotate_left
    ·exact⟨fz2,e2,xs1,h6,by omega,fun hee=>by omega⟩
    subst he
    exact⟨fz2,e1,xs1,h6,h4,fun hee=>⟨(h5 hee).1,fun b hb=>⟨Q6a ho (head id hid) ((h5 hee).2 b hb).1,((h5 hee).2 b hb).2⟩⟩⟩
   ·obtain⟨et,sz,fz,fz',e,xs,xs',h3,h4⟩:=hs
    have hid:=Qb h3
    obtain⟨fz1,e1,xs1,h5,h6,h7⟩:=h0.ext.row id et sz fz e xs h3
    obtain⟨fz2,e2,h8,_⟩:=hF.row (head id hid) h5
    rw[h8] at h4
    obtain⟨rfl,rfl,rfl⟩:fz2=fz'∧e2=e∧xs1=xs':=by simpa using h4
    have he:e1=e2:=by
     have:=List.all_eq_true.1 hh id (List.mem_range.2 hid)
     simp only[Bool.and_eq_true,h3,h5,h8,beq_iff_eq,Bool.or_eq_true,decide_eq_true_eq] at this
     omega
    subst he
    obtain⟨h9,h10⟩:=h0.ext.sub b id hG ⟨_,_,_,_,_,_,_,h3,h5⟩
    have h11:=Q4i (g:=g) ho (head id hid) ((h7 rfl).2 b hG).1
    exact⟨h11.trans h9,h10⟩
   ·rw[←hF.1];exact hn
 ·cases h
end
end Go.Proofs.YthbjpdijafccjaaGreat
namespace Go.Proofs.YthbjpdijafccjaaGreat
open Go.RowKit Go.Lib
theorem Qbe (p:Nat→Prop)(h:∃ n,p n):∃ n,p n∧∀ m,p m→n≤m:=by
 obtain⟨n,hn⟩:=h
 induction n using Nat.strongRecOn with
 |_ n ih =>
  by_cases h:∃ m,m<n∧p m
  ·obtain⟨m,h1,h2⟩:=h
   exact ih m h1 h2
  ·exact⟨n,hn,fun m hm=>Nat.le_of_not_lt fun hlt=>h ⟨m,hlt,hm⟩⟩
def QkU (o0:List Ob)(s s':St):Prop:=∃ ρ l,QlC o0 ρ s s'=some l∧Qe l
section
variable {P:Program} {ty:Tys} {w0:World} {g0:Gh} {o0:List Ob} {N:Nat}
def Q1 {X:Type}(o0:List Ob)(S:X→St)(J:X→Prop)(μ:X→Nat)(x:X)(Q:Ex→St→Prop):Ex→St→Prop
 |.normal,s=>∃ x',J x'∧μ x'<μ x∧QkU o0 s (S x')
 |e,s=>Q e s
theorem Qbh (hT:TyOk P ty)(hm:P.follows .mixedOrders=true){cs:Nat→List AV→List Ob→Option (AV×List Ob)}{ord:Nat→OT}{c:Code}(hd:Q40 N c=true)(ho:Q3N .any ty ord c=true)
  {X:Type} (S:X→St) (J:X→Prop) (μ:X→Nat) {Q:Ex→St→Prop} {s:St} (x0:X) (h0:J x0) (hS:QkU o0 s (S x0))
  (round:∀ x,J x→(Q5 std ty cs ord c (fun e s=>.leaf e s) (S x)).ok P w0 g0 o0 N (Q1 o0 S J μ x Q)):WP P w0 g0 o0 N (.loop c) Q s:=by
 intro a w hs
 obtain⟨ρ,l,hl,hE⟩:=hS
 let I:Act→World→Prop:=fun a w=>∃ x,J x∧Sim w0 g0 o0 N (S x) a w
 let pm:Act→World→Nat→Prop:=fun a w n=>∃ x,J x∧Sim w0 g0 o0 N (S x) a w∧μ x=n
 let m:Act→World→Nat:=fun a w=>open Classical in if h:∃ n,pm a w n then Classical.choose (Qbe _ h) else 0
 have hmin:∀ a w,I a w→pm a w (m a w)∧∀ k,pm a w k→m a w≤k:=fun a w hI=>by
  have h:∃ n,pm a w n:=by
   obtain⟨x,h1,h2⟩:=hI
   exact⟨μ x,x,h1,h2,rfl⟩
  have e:m a w=Classical.choose (Qbe _ h):=dif_pos h
  rw[e]
  exact Classical.choose_spec (Qbe _ h)
 refine wp_loop I m ⟨x0,h0,Q7D ρ hl hE hs⟩ fun a w hI=>?_
 obtain⟨⟨x,hJ,hx,hμ⟩,hle⟩:=hmin a w hI
 refine Q4X (Q:=Q1 o0 S J μ x Q) hT hm c _ _ (S x) a w hd ho (fun c a d v w h=>?_) (fun e s a' w' hs' hq=>?_) hx (round x hJ)
 ·obtain⟨e',s',h1,h2,h3⟩:=h
  cases e'<;>cases h1
 ·cases e with
  |normal =>
   obtain⟨x',h1,h2,ρ',l',h3,h4⟩:=hq
   have hs2:=Q7D ρ' h3 h4 hs'
   have hI':I a' w':=⟨x',h1,hs2⟩
   refine⟨hI',Nat.lt_of_le_of_lt ((hmin a' w' hI').2 _ ⟨x',h1,hs2,rfl⟩) ?_⟩
   rw[←hμ];exact h2
  |exit i=>exact⟨.exit i,s,rfl,hs',hq⟩
  |ret=>exact⟨.ret,s,rfl,hs',hq⟩
end
end Go.Proofs.YthbjpdijafccjaaGreat
namespace Go.Proofs.YthbjpdijafccjaaGreat
open Go.RowKit Go.Lib
section
variable {P:Program} {w w':World} {g:Gh} {ob:List Ob}
theorem Q3c {vs:List Value}(h:Q3E w g ob vs []):vs=[]:=List.eq_nil_of_length_eq_zero h.1
theorem Q1d {vs:List Value}{x:AV}{r:List AV}(h:Q3E w g ob vs (x::r)):∃ v vs',vs=v::vs'∧ARel1 w g ob v x∧Q3E w g ob vs' r:=by
 cases vs with
 |nil=>exact absurd h.1 (by simp)
 |cons v vs=>exact⟨v,vs,rfl,h.2 0 v x rfl rfl,by simpa using h.1,fun j a b ha hb=>h.2 (j+1) a b (by simpa using ha) (by simpa using hb)⟩
theorem Q3f {v u:Value}(h:ARel1 w g ob v (.val u)):v=u:=ARel.valEq (ARel1.to h)
theorem Qlk {v:Value}{sz:Nat}{xs:List AV}(h:ARel1 w g [] v (.slc sz xs))(M:Mem w g []) :
  ∃ A c ys,v=.slice A xs.length c∧Rd w (fun _=>True) sz A xs.length c ys∧Alike w g.A ys (QL xs) :=
 Q4k (s:=⟨[],[]⟩) M (ARel1.to h) rfl
theorem QaR {A:Nat→Nat→Prop}{us:List Value}:∀ {ys:List Value},Alike w A ys (us.map .val)→ys=us:=by
 induction us with
 |nil=>intro ys h;exact List.eq_nil_of_length_eq_zero h.1
 |cons u us ih =>
  intro ys h
  cases ys with
  |nil=>exact absurd h.1 (by simp)
  |cons y ys =>
   have h1:PRel w A y (.val u):=h.2 0 y (.val u) rfl rfl
   have h2:y=u:=by cases h1;rfl
   rw[h2,ih (ys:=ys) ⟨by simpa using h.1,fun j a b ha hb=>h.2 (j+1) a b (by simpa using ha) (by simpa using hb)⟩]
theorem Q9E (us:List Value):QL (us.map .val)=us.map .val:=by
 induction us with
 |nil=>rfl
 |cons u us ih=>simp only[QL,List.map_cons,List.flatMap_cons] at ih ⊢;rw[ih];rfl
theorem Qeb {A':Nat→Nat→Prop}{S:Nat→Prop}{sz n c:Nat}{A:Option Addr}{ys:List Value}{xs:List AV}(hr:Rd w S sz A n c ys)(hS:∀ b o,S b→A' b o)(hn:n=xs.length)(hw:∀ x∈xs,x.cells.length=sz)(hA:∀ a,A=some a→∃ b o,a=⟨b,o,none⟩)
  (hal:Alike w A' ys (QL xs)):PRel w A' (.slice A n c) (.slc sz xs):=by
 subst hn
 obtain⟨h1,h2,h3,h4,h5⟩:=hr
 cases A with
 |none =>
  have hc:=h4 rfl
  subst hc
  have:xs=[]:=List.eq_nil_of_length_eq_zero (by omega)
  subst this
  exact PRel.nil sz
 |some a =>
  obtain⟨b,o,rfl⟩:=hA a rfl
  have pos:∀ (j:Nat) u,(QL xs)[j]?=some u→0<xs.length:=fun j u hu=>by
   cases xs with
   |nil=>simp at hu
   |cons _ _=>simp
  have h5':0<xs.length→S b∧∀ j u,ys[j]?=some u→w.cell? ⟨b,o+j,none⟩=some u:=fun h=>by
   obtain⟨b',o',h6,h7,h8⟩:=h5 h
   cases h6
   exact⟨h7,h8⟩
  have get:∀ (j:Nat) u,(QL xs)[j]?=some u→∃ y,ys[j]?=some y∧ys.getD j undef=y:=fun j u hu=>by
   have hj:j<ys.length:=by rw[hal.1];exact Qb hu
   exact⟨ys[j],List.getElem?_eq_getElem hj,by rw[List.getD_eq_getElem?_getD,List.getElem?_eq_getElem hj];rfl⟩
  refine PRel.slc b o c sz xs (fun j=>ys.getD j undef) h2 h3 hw (fun j u hu=>?_) (fun j u hu=>?_)
  ·obtain⟨y,hy,he⟩:=get j u hu
   obtain⟨h7,h8⟩:=h5' (pos j u hu)
   exact⟨hS _ _ h7,by rw[he];exact h8 j y hy⟩
  ·obtain⟨y,hy,he⟩:=get j u hu
   rw[he];exact hal.2 j y u hy hu
theorem QeP:∀ {vs:List Value} {xs ys:List AV},Q3E w g ob vs xs→leT xs ys→Q3E w g ob vs ys
 |vs,[],[],h,_=>h
 |_,[],_::_,_,hl=>hl.elim
 |_,_::_,[],_,hl=>hl.elim
 | [],x::r,y::r',h,_=>absurd h.1 (by simp)
 |v::vs,x::r,y::r',h,hl=>by
  have h1:=h.2 0 v x rfl rfl
  have h2:Q3E w g ob vs r':=QeP (xs:=r) ⟨by simpa using h.1,fun j a b ha hb=>h.2 (j+1) a b (by simpa using ha) (by simpa using hb)⟩ hl.2
  refine⟨by simp[h2.1],fun j a b ha hb=>?_⟩
  cases j with
  |zero =>
   obtain rfl:v=a:=by simpa using ha
   obtain rfl:y=b:=by simpa using hb
   exact Q9S h1 hl.1
  |succ j=>exact h2.2 j a b (by simpa using ha) (by simpa using hb)
theorem BCall.le {f:Nat}{args args':List AV}{ob ob':List Ob}{res:AV}(h:BCall P f args' ob res ob')(hl:leT args args'):BCall P f args ob res ob' :=
 ⟨h.1,fun w g vs M hL=>h.2 w g vs M (QeP hL hl)⟩
theorem BCall.forget {f:Nat}{args:List AV}{ob ob':List Ob}{res:AV}(h:BCall P f args ob res ob'):BCall P f args ob .dead ob' :=
 ⟨h.1,fun w g vs M hL=>(h.2 w g vs M hL).mono fun e w' ⟨v,g',h1,h2,h3,h4⟩=>⟨v,g',h1,h2,trivial,h4⟩⟩
theorem BCall.res {f:Nat}{args:List AV}{ob ob':List Ob}{res res':AV}(h:BCall P f args ob res ob')(hl:leA res res'):BCall P f args ob res' ob' :=
 ⟨h.1,fun w g vs M hL=>(h.2 w g vs M hL).mono fun e w' ⟨v,g',h1,h2,h3,h4⟩=>⟨v,g',h1,h2,Q8S h3 hl,h4⟩⟩
theorem BCall.hand {f:Nat}{args:List AV}{res:AV}(he:∀ vs w,(callFunc f vs).run P w=.ok (.enter f vs) w)
  (h:∀ (w:World) (g:Gh) (vs:List Value),Mem w g []→Q3E w g [] vs args→Calls P f vs.toArray w fun e w'=>∃ v,e=.returned v∧Below w.heap.size w w'∧ARel w' (g.imm w w') [] v res):BCall P f args [] res [] :=
 ⟨he,fun w g vs M hL=>(h w g vs M hL).mono fun e w' ⟨v,h1,hb,hr⟩=>⟨v,g.imm w w',h1,M.immNew hb,hr,Step.immNew M hb⟩⟩
end
end Go.Proofs.YthbjpdijafccjaaGreat
namespace Go.Proofs.YthbjpdijafccjaaGreat
open Go.RowKit Go.Lib Tryz
def Q5M (x:UInt8):AV:=.val (.int .u8 x.toNat)
def Qfn (r:Int):AV:=.val (.int .i32 r)
def Qe8 (n:Int):AV:=.val (.int .i64 n)
def Q2 (b:List UInt8):List AV:=b.map Q5M
def Q0 (l:List Int):List AV:=l.map Qfn
def Q8 (l:List Int):List AV:=l.map Qe8
theorem QdA {α:Type}(f:α→AV){l:List α}{i:Int}(h0:0≤i)(h1:i<l.length)(d:α):(l.map f)[i.toNat]?.getD .dead=f (l[i.toNat]?.getD d):=by
 have:i.toNat<l.length:=by omega
 simp[this]
theorem Q10 (l:List UInt8):(Q2 l).length=l.length:=by simp[Q2]
theorem Qi (l:List Int):(Q0 l).length=l.length:=by simp[Q0]
theorem Q26 (l:List Int):(Q8 l).length=l.length:=by simp[Q8]
theorem Qbd (a b:List Int):Q0 (a++b)=Q0 a++Q0 b:=by simp[Q0]
theorem Q4s (a b:List Int):Q8 (a++b)=Q8 a++Q8 b:=by simp[Q8]
theorem Qcd (n:Int):Q8 [n]=[.val (.int .i64 n)]:=rfl
theorem Qv {l:List Int}{i:Int}(h0:0≤i)(h1:i<l.length):(Q0 l)[i.toNat]?.getD .dead=.val (.int .i32 (l[i.toNat]?.getD 0)):=QdA Qfn h0 h1 0
theorem Q2r {l:List Int}{i:Int}(h0:0≤i)(h1:i<l.length):(Q8 l)[i.toNat]?.getD .dead=.val (.int .i64 (l[i.toNat]?.getD 0)):=QdA Qe8 h0 h1 0
theorem QeO (n:Int):std.inR .i64 n↔(-9223372036854775808≤n∧n≤9223372036854775807):=Iff.rfl
theorem S0:(false=true)=False∧(true=false)=False∧(∀ p:Prop,(False→p)=True)∧(∀ p:Prop,(True→p)=p)∧(∀ p:Prop,(p∧True)=p)∧(∀ p:Prop,(True∧p)=p):=by simp
theorem S1:Q3p []=True∧(∀ q r,Q3p (q::r)=(q.q∧Q3p r))∧(∀ c,(AV.agg c).cells=c)∧(∀ v,(AV.val v).cells=[.val v])∧(∀ a b,(AV.slc a b).cells=[.slc a b])∧(∀ c,(AV.ref c).cells=[.ref c])∧(∀ c,(AV.opt c).cells=[.opt c])∧(∀ c,(AV.tup c).cells=[.tup c])∧(∀ a b,(AV.box a b).cells=[.box a b])∧(∀ a b,(AV.row a b).cells=[.row a b])∧(∀ a b c,(AV.rowk a b c).cells=[.rowk a b c])∧(∀ a b c d,(AV.rptr a b c d).cells=[.rptr a b c d])∧(∀ c,(AV.kb c).cells=[.kb c])∧(∀ c,(AV.iter c).cells=[.iter c])∧AV.dead.cells=[.dead] ∧
  (∀ k n,intOf (.val (.int k n))=n)∧(∀ b,Q5e (.val (.bool b))=b)∧(∀ z xs,Q2o (.slc z xs)=xs)∧(∀ v,Q2o (.val v)=[])∧IntKind.min .i64=-9223372036854775808∧IntKind.max .i64=9223372036854775807∧IntKind.min .i32=-2147483648∧IntKind.max .i32=2147483647 :=
 ⟨rfl,fun _ _=>rfl,fun _=>rfl,fun _=>rfl,fun _ _=>rfl,fun _=>rfl,fun _=>rfl,fun _=>rfl,fun _ _=>rfl,fun _ _=>rfl,fun _ _ _=>rfl,fun _ _ _ _=>rfl,fun _=>rfl,fun _=>rfl,rfl,fun _ _=>rfl,fun _=>rfl,fun _ _=>rfl,fun _=>rfl,rfl,rfl,rfl,rfl⟩
theorem gI {a b:Int}(h:a=b):AV.val (.int .i64 a)=.val (.int .i64 b):=congrArg _ (congrArg _ h)
theorem gR {a b:Int}(h:a=b):AV.val (.int .i32 a)=.val (.int .i32 b):=congrArg _ (congrArg _ h)
theorem gB {a b:Bool}(h:a=b):AV.val (.bool a)=.val (.bool b):=congrArg _ (congrArg _ h)
theorem gT {a b:ByteArray}(h:a=b):AV.val (.string a)=.val (.string b):=congrArg _ (congrArg _ h)
theorem gA {n:Nat}{a b:List AV}(h:a=b):AV.slc n a=.slc n b:=congrArg _ h
theorem Qmy:prog.follows .mixedOrders=true:=by kernel_rfl
theorem fnO (keep:Bool){cs:Nat→List AV→List Ob→Option (AV×List Ob)}{ord:Nat→OT}{f:Nat}{fn:Func}{c:Code}{args:List AV}{ob:List Ob}{res:AV}{ob':List Ob}(hf:prog.funcs[f]?=some fn)(hb:fn.body=some c)
  (hk : (Nat.ble args.length fn.ntmps && (Q40 fn.ntmps c && (Q3N .any tys ord c && !(fn.name == "runtime.NumGoroutine")))) = true) (h : ∀ w0 g0, (Q5 std tys cs ord c (Q4N std tys keep fn.results.toList) ⟨ent 0 args, ob⟩).ok prog w0 g0 ob fn.ntmps (FinOk ob res ob')) : BCall prog f args ob res ob' := by
 simp only[Bool.and_eq_true,Bool.not_eq_true'] at hk
 exact QaI keep Q6O Qmy hf hb (enters_of hf hk.2.2.2 hb) (Nat.le_of_ble_eq_true hk.1) hk.2.1 hk.2.2.1 h
theorem fnN {cs:Nat→List AV→List Ob→Option (AV×List Ob)}{f:Nat}{fn:Func}{c:Code}{args:List AV}{ob:List Ob}{res:AV}{ob':List Ob}(hf:prog.funcs[f]?=some fn)(hb:fn.body=some c)
  (hk : (Nat.ble args.length fn.ntmps && (Q40 fn.ntmps c && (Q3N .any tys (fun _ => .nil) c && !(fn.name == "runtime.NumGoroutine")))) = true) (h : ∀ w0 g0, (Q5 std tys cs (fun _ => .nil) c (Q4N std tys false fn.results.toList) ⟨ent 0 args, ob⟩).ok prog w0 g0 ob fn.ntmps (FinOk ob res ob')) : BCall prog f args ob res ob' :=
 fnO false hf hb hk h
theorem Q1r {w0:World}{g0:Gh}{o0:List Ob}{N:Nat}{cs:Nat→List AV→List Ob→Option (AV×List Ob)}{c:Code}(hk:(Q40 N c&&Q3N .any tys (fun _=>.nil) c)=true)
  {X:Type} (S:X→St) (J:X→Prop) (μ:X→Nat) {Q:Ex→St→Prop} {s:St} (x0:X) (h0:J x0) (hS:QkU o0 s (S x0))
  (round:∀ x,J x→(Q5 std tys cs (fun _=>.nil) c (fun e s=>.leaf e s) (S x)).ok prog w0 g0 o0 N (Q1 o0 S J μ x Q)):WP prog w0 g0 o0 N (.loop c) Q s:=by
 rw[Bool.and_eq_true] at hk
 exact Qbh Q6O Qmy hk.1 hk.2 S J μ x0 h0 hS round
def Len {α:Type}(xs:List α)(n:Int):Prop:=n=xs.length
theorem Len.eq {α:Type}{xs:List α}{n:Int}(h:Len xs n):n=(xs.length:Int):=h
theorem QV {l:List Int}{n:Int}(h:Len l n):(((Q0 l).length:Nat):Int)=n:=by rw[Qi];exact h.symm
theorem Qy {α:Type}(xs:List α):∃ n,Len xs n:=⟨_,rfl⟩
def cs0:Nat→List AV→List Ob→Option (AV×List Ob):=fun _ _ _=>none
theorem Q7B (xs:List AV)(hn:xs.length≤1000000000):BCall prog 28 [.slc 1 xs] [] (.slc 1 xs) []:=by
 refine fnN (cs:=cs0) func28 rfl (by kernel_rfl) ?_
 intro w0 g0
 generalize hp:std=p
 generalize hT:Q5 p tys (cs0) _ _ _ _=T
 cbv at hT
 subst hT
 simp only[Tree.ok,Q1,S0]
 subst hp
 refine⟨fun h=>.pure rfl ?_,?_,.pure rfl (.inl rfl)⟩
 ·have h:xs=[]:=h
  subst h
  exact .inr (.inl ⟨rfl,_,rfl⟩)
 ·show 0+xs.length≤1000000000
  omega
theorem QiM (xs:List AV)(hn:xs.length≤1000000000):BCall prog 107 [.slc 1 xs] [] (.slc 1 xs) []:=by
 refine fnN (cs:=cs0) func107 rfl (by kernel_rfl) ?_
 intro w0 g0
 generalize hp:std=p
 generalize hT:Q5 p tys (cs0) _ _ _ _=T
 cbv at hT
 subst hT
 simp only[Tree.ok,Q1,S0]
 subst hp
 refine⟨fun h=>.pure rfl ?_,?_,.pure rfl (.inl rfl)⟩
 ·have h:xs=[]:=h
  subst h
  exact .inr (.inl ⟨rfl,_,rfl⟩)
 ·show 0+xs.length≤1000000000
  omega
theorem Qcr (xs:List AV)(hn:xs.length≤1000000000):BCall prog 60 [.slc 1 xs] [] (.slc 1 xs) []:=by
 refine fnN (cs:=cs0) func60 rfl (by kernel_rfl) ?_
 intro w0 g0
 generalize hp:std=p
 generalize hT:Q5 p tys (cs0) _ _ _ _=T
 cbv at hT
 subst hT
 simp only[Tree.ok,Q1,S0]
 subst hp
 refine⟨fun h=>.pure rfl ?_,?_,.pure rfl (.inl rfl)⟩
 ·have h:xs=[]:=h
  subst h
  exact .inr (.inl ⟨rfl,_,rfl⟩)
 ·show 0+xs.length≤1000000000
  omega
end Go.Proofs.YthbjpdijafccjaaGreat
