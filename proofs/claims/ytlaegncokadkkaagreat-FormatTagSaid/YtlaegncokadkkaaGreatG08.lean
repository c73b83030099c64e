/- Lemmas, conditions told -/
import Derived.Test.YtlaegncokadkkaaGreatG07
import Derived.Laws.MakeOwn
import Derived.Laws.Sem
set_option maxRecDepth 99999
set_option maxHeartbeats 0
set_option linter.unusedSimpArgs false
set_option linter.unusedVariables false
namespace Go.Proofs.YtlaegncokadkkaaGreat
open List(all_eq_true getElem?_map mem_map mem_of_getElem? mem_range map_cons all_cons getElem?_eq_getElem)
open Nat(le_refl not_lt)
open Option(map_eq_some_iff)
open Go.RowKit Go.Lib
section
variable {P:Program}{ty:Tys}{Df:List Deferred}{w0:World}{g0:Gh}{o0:List Ob}{N:Nat}{Q:Ex->St->Prop}{w w':World}{g g':Gh}{ob ob':List Ob}
theorem ARel.to1'{v:Value}{x:AV}(h:ARel w g ob v x)(hl:∀xs,x≠.tup xs):ARel1 w g ob v x:=by cases x<;>first|exact h|exact absurd rfl (hl _)
theorem Q9q{o:Oper}{a:Act}{w:World}{f:Operand}{args:Array Operand}{tys:Array TypeId}{h:Nat}(ho:o.op=.call { callee:=.value f,args:=args,argTypes:=tys })(hf:a.eval f=.func (.func h) #[] #[])
  (he:∀vs w,(callFunc h vs).run P w=.ok (.enter h vs) w):(execOp a.eval o).run P w=.ok (.enter h (args.map a.eval)) w:=by
 simp only[execOp,ho,resolve,hf,Deferred.ofValue,Sem.run_bind,Sem.run_pure,Result.andThen_ok,invoke];rw[he];simp
theorem Q4G{f:Operand}{xs vs:List AV}{ob ob':List Ob}(h:Qar std f ob xs=some (vs,ob')):(∀x∈xs,x.live=true) /\
  ∀(w:World)(g:Gh)(us:List Value),Mem w g ob->Q1D w g ob us xs->∃g',Mem w g' ob'/\Ext w g ob w g' ob'/\Q1D w g' ob' us vs/\GhLe g g' ob ob':=by
 unfold Qar at h;split at h
 ·split at h
  ·rename_i hl
   obtain⟨rfl,rfl⟩:xs=vs/\ob=ob':=by simpa using h
   exact⟨fun x hx=>all_eq_true.1 hl x hx,fun w g us M L=>⟨g,M,Ext.refl,L,GhLe.refl⟩⟩
  ·cases h
 ·exact⟨Q6v _ _ _ _ h,fun w g us M L=>QlE _ _ g ob vs ob' M L h⟩
theorem QfS{K:St->Tree}{o:Oper}{s:St}{a:Act}{w:World}{R:Exit->Act->World->Prop}(hs:Sim Df w0 g0 o0 N s a w)(hd:∀t,o.dst=some t->t<N)
  {f:Operand} {args:Array Operand} {tys:Array TypeId} {h:Nat} (ho:o.op=.call { callee:=.value f,args:=args,argTypes:=tys }) (hf:ev s f=.val (.func (.func h) #[] #[]))
  {vs:List AV} {ob:List Ob} (he:Qar std f s.ob (args.toList.map (ev s))=some (vs,ob)) {ρ:List Nat} (z8:Q1N (ρ.map some)=true) (yD:there ob ρ=true)
  (hq:QkY f=true\/tys.toList.any (Qna ty)=true\/ρ.isEmpty=true) {res:AV} {ob':List Ob} (jC:ρ.length<=ob'.length) (hc:BCall P h (vs.map (inA ob ρ)) (Q3L ob ρ) res ob')
  (jB:(K (St.put ⟨s.tm,Q4t ob ρ ob'⟩ o.dst (Qgz ob ρ res))).ok Df P w0 g0 o0 N Q):o.wp P a w (Q30 Df ty P w0 g0 o0 N Q K o.op w) R:=by
 obtain⟨g,M,hS,h0⟩:=hs.rel;have yV:=Qo hS f;rw[hf]at yV
 have hL:Q1D w g s.ob (args.toList.map a.eval) (args.toList.map (ev s)):=by
  refine⟨by simp,fun j v x hv hx=>?_⟩
  rw[getElem?_map,map_eq_some_iff]at hv hx;obtain⟨q,hq,rfl⟩:=hv;obtain⟨q',vV,rfl⟩:=hx;rw[hq]at vV;cases vV;exact(Qo hS q).to1 ((Q4G he).1 _ (mem_map.2 ⟨q,mem_of_getElem? hq,rfl⟩))
 obtain⟨g1,M1,E1,L1,G1⟩:=(Q4G he).2 w g _ M hL;have jQ:=Q9q (P:=P) (w:=w) ho yV.valEq hc.1;unfold Oper.wp;rw[jQ];show Calls P h (args.map a.eval) w _;have hargs:args.map a.eval=(args.toList.map a.eval).toArray:=by apply Array.ext';simp
 rw[hargs];refine(hc.2 w (g1.ren (ρ.map some)) _ (Qf8 M1 z8 yD) ⟨by simp[L1.1],fun j v x hv hx=>?_⟩).mono ?_
 ·rw[getElem?_map,map_eq_some_iff]at hx
  obtain⟨x',vt,rfl⟩:=hx;have h1:=L1.2 j v x' hv vt;have h2:=Qcv z8 yD h1.to;cases x' with
  |agg cs=>exact h2
  |tup _=>exact(show False from h1).elim
  |box i o=>exact h2.to1' (by simp only[inA,inC];split<;>simp)
  |iter i=>exact h2.to1' (by simp only[inA,inC];split<;>simp)
  |clo f i o t=>exact h2.to1' (by simp only[inA,inC];split<;>simp)
  |row i e=>exact h2.to1' (by simp only[inA,inC];split<;>(try split)<;>(try split)<;>simp)
  |_=>exact h2
 rintro e w' ⟨v,g2,rfl,M2,R2,S2⟩;have C:CallAt w g1 ob ρ w' g2 ob':=⟨z8,yD,jC,M1,M2,S2⟩;have yP:QW w g1 ⟨s.tm,ob⟩ a:=fun t=>(hS t).ext E1
 have jr:Sim Df w0 g0 o0 N ⟨s.tm,ob⟩ a w:=⟨hs.defers,hs.size,g1,M1,yP,h0.trans (Step.ghost E1 G1)⟩;refine⟨fun pR=>?_,_,Q12 (s:=⟨s.tm,ob⟩) jr yP (h0.trans (Step.ghost E1 G1)) C.mem C.step hd (C.rel R2),jB⟩
 rcases hq with hq|hq|hq
 ·simp[ho,Q2m,hq]at pR
 ·simp[ho,Q2m,hq]at pR
 ·have hr:ρ=[]:=by simpa using hq
  subst hr
  exact⟨S2.os,S2.tape,S2.output,S2.size,fun b hb=>S2.keep b hb (by
   cases hx:(g1.ren (([]:List Nat).map some)).G b with
   |none=>rfl
   |some j =>
    obtain⟨i,hi,_⟩:=Q2E hx;simp at hi)⟩
theorem QbL(hT:TyOk P ty){K:St->Tree}{o:Oper}{s:St}{a:Act}{w:World}{R:Exit->Act->World->Prop}(hs:Sim Df w0 g0 o0 N s a w)(hd:∀t,o.dst=some t->t<N)
  {T:Nat} {l c:Operand} (ho:o.op=.makeSlice T l c) {k1 k2:IntKind} {x n:Int} (hx:ev s l=.val (.int k1 x)) (hn:ev s c=.val (.int k2 n)) (j5:Q56 ty T (Q1 (Q1 T ty).elem ty).size=true)
  (hq:(std.all [std.cutok 0 x 0,std.cutok 0 n 1000000]).q)
  (jB:(K (St.put ⟨s.tm,s.ob++[.row (Q1 T ty).elem (Q1 (Q1 T ty).elem ty).size false 0 []]⟩ o.dst (.row s.ob.length 0))).ok Df P w0 g0 o0 N Q):o.wp P a w (Q30 Df ty P w0 g0 o0 N Q K o.op w) R:=by
 obtain⟨g,M,hS,h0⟩:=hs.rel;obtain⟨e,hu,qS,te,qO,j4⟩:=Q3E hT j5;have gk:=te.by_;obtain⟨ie,z,yy,qg,z7,cU,gV,_⟩:=te.i;rw[qO]at qg;subst qS;generalize hE:(Q1 T ty).elem=E at *;generalize hSZ:(Q1 E ty).size=sz at *;have hxv:a.eval l=.int k1 x:=by have:=Qo hS l;rw[hx]at this;exact this.valEq
 have ns:a.eval c=.int k2 n:=by have:=Qo hS c;rw[hn]at this;exact this.valEq
 obtain⟨⟨_,cY,cZ⟩,⟨_,hn1,yw⟩,_⟩:=hq;obtain rfl:x=0:=by omega
 obtain⟨m,rfl⟩:∃m:Nat,n=m:=⟨n.toNat,by omega⟩
 have kp:(ie.bytes:Int) * (m:Int)<=281474976710656:=by
  have h1:ie.bytes * m<=140000 * 1000000:=Nat.mul_le_mul (by omega) (by omega)
  have:((ie.bytes * m:Nat):Int)<=281474976710656:=by omega
  rwa [Int.natCast_mul]at this
 have jQ:=run_make (P:=P) w T E ie z hu yy cU k1 k2 0 m (Int.le_refl _) (by omega) kp (by omega)
 simp only[Int.toNat_zero,Int.toNat_natCast]at jQ
 have hr:(execOp a.eval o).run P w=.ok (.value (.slice (some ⟨w.heap.size,0,none⟩) 0 m)) (w.alloc (.cells (madeCells z.cells (m * ie.size)) E)):=by
  simp only[execOp,ho,hxv,ns];exact Q11 jQ
 have qo:m<=maxLen:=by unfold maxLen;omega
 have jG:(w.alloc (.cells (madeCells z.cells (m * ie.size)) E)).ownsRow 0 E sz (.slice (some ⟨w.heap.size,0,none⟩) 0 m) 0 [] :=
  World.ownsRow_made w _ m (Nat.zero_le _) qo (by rw[size_madeCells,qg])
 have jY:RowV (w.alloc (.cells (madeCells z.cells (m * ie.size)) E)) (g.new w s.ob) s.ob.length E sz (.slice (some ⟨w.heap.size,0,none⟩) 0 m) []:=by
  refine⟨[],jG,fun b hb=>?_,Alike.nil,(fun x h=>by cases h),fun b hb=>?_,fun he j y hy=>by simp at hy⟩
  ·obtain rfl:w.heap.size=b:=by simpa[Value.ownBlock]using hb
   simp[Gh.new]
  ·obtain rfl:w.heap.size=b:=by simpa[Value.ownBlock]using hb
   exact M.sub_new (le_refl _)
 have M':=M.new (.cells (madeCells z.cells (m * ie.size)) E) (.row E sz false 0 []) (fun cs h=>by cases h) (fun cs h=>by cases h) (fun y h=>by cases h) (fun et sz' fz e ys h=>by cases h;exact⟨j4,fun x h=>by cases h⟩)
 refine Q3k hr ⟨fun _=>(Below.refl _ w).alloc (le_refl _) _,_,Q12 hs hS h0 M' (Step.new M _ _) hd ?_,jB⟩
 exact⟨rfl,E,sz,false,0,[],Q2p,le_refl _,fun _=>jY⟩
def Qb2(t:Bool)(p:Value)(us:Array Value):Array Value:=match t with
 |true=>#[p]++us
 |false=>us++#[p]
theorem QkJ{o:Oper}{a:Act}{w:World}{f:Operand}{args:Array Operand}{tys:Array TypeId}{h l off:Nat}{t:Bool}(ho:o.op=.call { callee:=.value f,args:=args,argTypes:=tys })(hf:a.eval f=Qf1 h t l off)
  (he:∀vs w,(callFunc h vs).run P w=.ok (.enter h vs) w):(execOp a.eval o).run P w=.ok (.enter h (Qb2 t (.pointer (some ⟨l,off,none⟩)) (args.map a.eval))) w:=by
 cases t with
 |true =>
  simp only[execOp,ho,resolve,hf,Qf1,Qb2,Deferred.ofValue,Sem.run_bind,Sem.run_pure,Result.andThen_ok,invoke];rw[he];simp
 |false =>
  simp only[execOp,ho,resolve,hf,Qf1,Qb2,Deferred.ofValue,Sem.run_bind,Sem.run_pure,Result.andThen_ok,invoke];rw[he];simp
theorem Qn8{K:St->Tree}{o:Oper}{s:St}{a:Act}{w:World}{R:Exit->Act->World->Prop}(hs:Sim Df w0 g0 o0 N s a w)(hd:∀t,o.dst=some t->t<N)
  {f:Operand} {args:Array Operand} {tys:Array TypeId} {h cid co:Nat} {ct:Bool} (ho:o.op=.call { callee:=.value f,args:=args,argTypes:=tys }) (hf:ev s f=.clo h cid co ct)
  {vs:List AV} {ob:List Ob} (he:Qar std f s.ob (args.toList.map (ev s))=some (vs,ob)) {ρ:List Nat} (z8:Q1N (ρ.map some)=true) (yD:there ob ρ=true)
  (hq:Qnf f tys=true) {res:AV} {ob':List Ob} (jC:ρ.length<=ob'.length) (hc:BCall P h ((Qcr vs cid co ct).map (inA ob ρ)) (Q3L ob ρ) res ob')
  (jB:(K (St.put ⟨s.tm,Q4t ob ρ ob'⟩ o.dst (Qgz ob ρ res))).ok Df P w0 g0 o0 N Q):o.wp P a w (Q30 Df ty P w0 g0 o0 N Q K o.op w) R:=by
 obtain⟨g,M,hS,h0⟩:=hs.rel;have yV:=Qo hS f;rw[hf]at yV;obtain⟨hfv,nT⟩:a.eval f=Qf1 h ct (g.loc cid) co/\Q5r s.ob[cid]?:=yV
 have hL:Q1D w g s.ob (args.toList.map a.eval) (args.toList.map (ev s)):=by
  refine⟨by simp,fun j v x hv hx=>?_⟩
  rw[getElem?_map,map_eq_some_iff]at hv hx;obtain⟨q,hq,rfl⟩:=hv;obtain⟨q',vV,rfl⟩:=hx;rw[hq]at vV;cases vV;exact(Qo hS q).to1 ((Q4G he).1 _ (mem_map.2 ⟨q,mem_of_getElem? hq,rfl⟩))
 obtain⟨g1,M1,E1,L1,G1⟩:=(Q4G he).2 w g _ M hL;have hbx:ARel1 w g1 ob (.pointer (some ⟨g.loc cid,co,none⟩)) (.box cid co):=ARel1.ext (x:=.box cid co) E1 ⟨rfl,nT⟩
 obtain⟨us,kW,L2⟩:∃us:List Value,Qb2 ct (.pointer (some ⟨g.loc cid,co,none⟩)) (args.map a.eval)=us.toArray/\Q1D w g1 ob us (Qcr vs cid co ct):=by
  cases ct with
  |true =>
   refine⟨.pointer (some ⟨g.loc cid,co,none⟩)::args.toList.map a.eval,by apply Array.ext';simp[Qb2],by simpa[Qcr]using L1.1,fun j v x hv hx=>?_⟩
   cases j with
   |zero=>cases hv;cases hx;exact hbx
   |succ j=>exact L1.2 j v x hv hx
  |false =>
   refine⟨args.toList.map a.eval++[.pointer (some ⟨g.loc cid,co,none⟩)],by apply Array.ext';simp[Qb2],by simpa[Qcr]using L1.1,fun j v x hv hx=>?_⟩
   have hn:=L1.1;by_cases hj:j<vs.length
   ·rw[List.getElem?_append_left (by rw[hn];exact hj)]at hv
    simp only[Qcr]at hx;rw[List.getElem?_append_left hj]at hx;exact L1.2 j v x hv hx
   ·rw[List.getElem?_append_right (by rw[hn];omega),hn]at hv
    simp only[Qcr]at hx;rw[List.getElem?_append_right (by omega)]at hx
    have:j-vs.length=0:=by have:=Q4 hx;simp at this;omega
    rw[this]at hv hx;cases hv;cases hx;exact hbx
 have jQ:=QkJ (P:=P) (w:=w) ho hfv hc.1;unfold Oper.wp;rw[jQ];show Calls P h _ w _;rw[kW];refine(hc.2 w (g1.ren (ρ.map some)) _ (Qf8 M1 z8 yD) ⟨by simp[L2.1],fun j v x hv hx=>?_⟩).mono ?_
 ·rw[getElem?_map,map_eq_some_iff]at hx
  obtain⟨x',vt,rfl⟩:=hx;have h1:=L2.2 j v x' hv vt;have h2:=Qcv z8 yD h1.to;cases x' with
  |agg cs=>exact h2
  |tup _=>exact(show False from h1).elim
  |box i o=>exact h2.to1' (by simp only[inA,inC];split<;>simp)
  |iter i=>exact h2.to1' (by simp only[inA,inC];split<;>simp)
  |clo f i o t=>exact h2.to1' (by simp only[inA,inC];split<;>simp)
  |row i e=>exact h2.to1' (by simp only[inA,inC];split<;>(try split)<;>(try split)<;>simp)
  |_=>exact h2
 rintro e w' ⟨v,g2,rfl,M2,R2,S2⟩;have C:CallAt w g1 ob ρ w' g2 ob':=⟨z8,yD,jC,M1,M2,S2⟩;have yP:QW w g1 ⟨s.tm,ob⟩ a:=fun t=>(hS t).ext E1
 have jr:Sim Df w0 g0 o0 N ⟨s.tm,ob⟩ a w:=⟨hs.defers,hs.size,g1,M1,yP,h0.trans (Step.ghost E1 G1)⟩;exact⟨fun pR=>by simp[ho,Q2m,hq]at pR,_,Q12 (s:=⟨s.tm,ob⟩) jr yP (h0.trans (Step.ghost E1 G1)) C.mem C.step hd (C.rel R2),jB⟩
theorem Qix{K:St->Tree}{o:Oper}{s:St}{a:Act}{w:World}{R:Exit->Act->World->Prop}(hs:Sim Df w0 g0 o0 N s a w)(hP:∀v s a w,s.tm=[]->Sim Df w0 g0 o0 N s a w->Q (.pan v) s->R (.panic [{ v:=v,recovered:=false }]) a w)
  {f:Operand} {args:Array Operand} {tys:Array TypeId} {h:Nat} (ho:o.op=.call { callee:=.value f,args:=args,argTypes:=tys }) (hf:ev s f=.val (.func (.func h) #[] #[]))
  {vs:List AV} {ob:List Ob} (he:Qar std f s.ob (args.toList.map (ev s))=some (vs,ob)) {ρ:List Nat} (z8:Q1N (ρ.map some)=true) (yD:there ob ρ=true)
  {x:Value} (hc:QnX P h (vs.map (inA ob ρ)) (Q3L ob ρ) x) (hq:∀ob',Q (.pan x) ⟨[],ob'⟩):o.wp P a w (Q30 Df ty P w0 g0 o0 N Q K o.op w) R:=by
 obtain⟨g,M,hS,h0⟩:=hs.rel;have yV:=Qo hS f;rw[hf]at yV
 have hL:Q1D w g s.ob (args.toList.map a.eval) (args.toList.map (ev s)):=by
  refine⟨by simp,fun j v x hv hx=>?_⟩
  rw[getElem?_map,map_eq_some_iff]at hv hx;obtain⟨q,hq,rfl⟩:=hv;obtain⟨q',vV,rfl⟩:=hx;rw[hq]at vV;cases vV;exact(Qo hS q).to1 ((Q4G he).1 _ (mem_map.2 ⟨q,mem_of_getElem? hq,rfl⟩))
 obtain⟨g1,M1,E1,L1,G1⟩:=(Q4G he).2 w g _ M hL;have jQ:=Q9q (P:=P) (w:=w) ho yV.valEq hc.1;unfold Oper.wp;rw[jQ];show Calls P h (args.map a.eval) w _;have hargs:args.map a.eval=(args.toList.map a.eval).toArray:=by apply Array.ext';simp
 rw[hargs];refine(hc.2 w (g1.ren (ρ.map some)) _ (Qf8 M1 z8 yD) ⟨by simp[L1.1],fun j v x hv hx=>?_⟩).mono ?_
 ·rw[getElem?_map,map_eq_some_iff]at hx
  obtain⟨x',vt,rfl⟩:=hx;have h1:=L1.2 j v x' hv vt;have h2:=Qcv z8 yD h1.to;cases x' with
  |agg cs=>exact h2
  |tup _=>exact(show False from h1).elim
  |box i o=>exact h2.to1' (by simp only[inA,inC];split<;>simp)
  |iter i=>exact h2.to1' (by simp only[inA,inC];split<;>simp)
  |clo f i o t=>exact h2.to1' (by simp only[inA,inC];split<;>simp)
  |row i e=>exact h2.to1' (by simp only[inA,inC];split<;>(try split)<;>(try split)<;>simp)
  |_=>exact h2
 rintro e w' ⟨g2,ob',rfl,M2,S2⟩;have jC:ρ.length<=ob'.length:=by have:=S2.len;simpa[Q3L]using this
 have C:CallAt w g1 ob ρ w' g2 ob':=⟨z8,yD,jC,M1,M2,S2⟩;exact hP x ⟨[],Q4t ob ρ ob'⟩ a w' rfl ⟨hs.defers,hs.size,_,C.mem,fun _=>trivial,(h0.trans (Step.ghost E1 G1)).trans C.step⟩ (hq _)
theorem QdY(hT:TyOk P ty){cs:Nat->List AV->List Ob->Option (AV×List Ob)}{K:St->Tree}{o:Oper}{s:St}{a:Act}{w:World}{R:Exit->Act->World->Prop}(hs:Sim Df w0 g0 o0 N s a w)(hd:∀t,o.dst=some t->t<N)(hP:∀v s a w,s.tm=[]->Sim Df w0 g0 o0 N s a w->Q (.pan v) s->R (.panic [{ v:=v,recovered:=false }]) a w)
  (jB:(aop std ty cs K o s).ok Df P w0 g0 o0 N Q):o.wp P a w (Q30 Df ty P w0 g0 o0 N Q K o.op w) R:=by
 have still:∀{s:St},Sim Df w0 g0 o0 N s a w->∀{q:Option DP}{v:AV},Q2e std ty s o.op=some (q,v)->(∀r,q=some r->r)->(K (St.put s o.dst v)).ok Df P w0 g0 o0 N Q->o.wp P a w (Q30 Df ty P w0 g0 o0 N Q K o.op w) R :=
  fun hs _ _ h hq hk=>Qea hs hd (fun g M hS=>Q6R hT hS M h hq) hk
 -- what stands behind 'aval'
 have rest0:∀{s:St},Sim Df w0 g0 o0 N s a w->(Q2u std ty K o s o.op).ok Df P w0 g0 o0 N Q->o.wp P a w (Q30 Df ty P w0 g0 o0 N Q K o.op w) R:=by
  intro s hs h;unfold Q2u at h;split at h
  ·rename_i v hv
   exact still hs hv (fun r h=>by cases h) h
  ·rename_i q v hv
   exact still hs hv (fun r hr=>by cases hr;exact h.1) h.2
  ·split at h
   ·rename_i src dst x ho
    split at h
    ·rename_i b hb
     split at h
     ·rename_i hk
      exact Qka hT hs hd ho hb hk.1 hk.2.1 hk.2.2 h.1 h.2
     ·exact h.elim
    ·rename_i id ep hx
     split at h
     ·rename_i et sz e xs jK
      split at h
      ·rename_i hk
       obtain⟨rfl,rfl,rfl,jR,qC⟩:=hk;exact QkC hT hs hd ho hx jK jR qC h.1 h.2
      ·exact h.elim
     ·exact h.elim
    ·exact h.elim
   ·exact h.elim
 have rest:(Q2u std ty K o s o.op).ok Df P w0 g0 o0 N Q->o.wp P a w (Q30 Df ty P w0 g0 o0 N Q K o.op w) R:=rest0 hs;obtain⟨op,ho⟩:∃op,o.op=op:=⟨_,rfl⟩;cases op with
 |binOp op T x y T' =>
  rcases Qfu (w:=w) (a:=a) hT ho jB with h|⟨z,h1,h2⟩
  ·exact rest h
  ·exact Qea hs hd (fun g M hS=>h2 g _ hS) h1
 |assign x =>
  simp only[aop,ho]at jB;exact rest0 (Q7a x hs) (by rw[ho];exact jB)
 |slice T x lo hi m =>
  cases lo with
  |none=>exact rest (by rw[ho];simpa only[aop,ho]using jB)
  |some l =>
   simp only[aop,ho]at jB;exact rest0 (Qdn x hs) (by rw[ho];exact jB)
 |alloc T =>
  simp only[aop,ho]at jB;split at jB
  ·rename_i hk;exact Qiq hT hs hd ho hk jB
  ·exact jB.elim
 |box T x =>
  simp only[aop,ho]at jB;split at jB
  ·rename_i hk;exact QmC hs hd ho hk jB
  ·exact jB.elim
 |store T x y =>
  simp only[aop,ho]at jB;have hs:=Q7a y hs;generalize Qab std s y=s1 at jB hs;unfold Q7P at jB;split at jB
  ·rename_i id off hx
   split at jB
   ·rename_i c hb
    split at jB
    ·rename_i hk
     exact Qie hT hs hd ho hx hb hk.1 hk.2.1 hk.2.2.1 hk.2.2.2 jB
    ·exact jB.elim
   ·exact jB.elim
  ·rename_i id ep i off hx
   split at jB
   ·rename_i et sz e xs hb
    split at jB
    ·rename_i hk
     exact QgV hT hs hd ho hx hb hk.1 hk.2.1 hk.2.2.1 hk.2.2.2.1 hk.2.2.2.2.1 hk.2.2.2.2.2.1 hk.2.2.2.2.2.2 jB
    ·exact jB.elim
   ·exact jB.elim
  ·exact jB.elim
 |buildSlice T len parts =>
  simp only[aop,ho]at jB;split at jB
  ·rename_i xs ob he
   split at jB
   ·rename_i hk
    exact Qaw hT hs hd ho he hk.1 hk.2.1 hk.2.2.1 hk.2.2.2.1 hk.2.2.2.2.1 hk.2.2.2.2.2.1 hk.2.2.2.2.2.2 jB
   ·exact jB.elim
  ·exact jB.elim
 |makeSlice T l c =>
  simp only[aop,ho]at jB;split at jB
  ·rename_i k1 x k2 n hx hn
   split at jB
   ·rename_i j5;exact QbL hT hs hd ho hx hn j5 jB.1 jB.2
   ·exact jB.elim
  ·exact jB.elim
 |makeMap T r =>
  cases r with
  |none=>exact Qfa hs hd ho (by simpa only[aop,ho]using jB)
  |some _=>simp[aop,ho,Q2u,Q2e,Tree.ok]at jB
 |lookup T x i c=>exact QkM hT hs hd ho (by simpa only[aop,ho]using jB)
 |mapUpdate T m i x=>exact Qh2 hT hs hd ho (by simpa only[aop,ho]using jB)
 |range T x =>
  simp only[aop,ho]at jB;split at jB
  ·rename_i b hb
   split at jB
   ·rename_i hk;exact Qid hT hs hd ho hb hk jB
   ·exact jB.elim
  ·rename_i id hi
   split at jB
   ·rename_i es jK
    split at jB
    ·rename_i hk;exact QgK hT hs hd ho hi jK hk jB
    ·exact jB.elim
   ·exact jB.elim
  ·exact jB.elim
 |next it b =>
  cases b with
  |false =>
   simp only[aop,ho]at jB;split at jB
   ·rename_i id hi
    split at jB
    ·rename_i m es Q33 _ jK
     split at jB
     ·rename_i es2 kV
      exact QiK hs hd ho hi jK kV jB.1 jB.2.1 jB.2.2
     ·exact jB.elim
    ·exact jB.elim
   ·exact jB.elim
  |true =>
   simp only[aop,ho]at jB;split at jB
   ·rename_i id hi
    split at jB
    ·rename_i b pos jK
     exact Qmd hs hd ho hi jK jB.1 jB.2
    ·exact jB.elim
   ·exact jB.elim
 |entry it =>
  simp only[aop,ho]at jB;split at jB
  ·rename_i id hi
   split at jB
   ·rename_i m es Q33 j q jK
    split at jB
    ·rename_i es2 kV
     exact QhG hs hd ho hi jK kV jB.1 jB.2.1 jB.2.2
    ·exact jB.elim
   ·exact jB.elim
  ·exact jB.elim
 |call c =>
  obtain⟨callee,args,tys⟩:=c;cases callee with
  |builtin b =>
   cases b with
   |append =>
    simp only[aop,ho]at jB;split at jB
    ·rename_i x y T U ha ht
     split at jB
     ·rename_i sz news yz
      split at jB
      ·rename_i j5
       obtain⟨za,j5⟩:=j5;have j4:0<sz:=by obtain⟨e,_,_,_,_,h⟩:=Q3E hT j5;exact h
       split at jB
       ·rename_i hx
        have jC:s.ob.length=s.ob.length:=rfl
        have yf:(s.ob++[Ob.row (Q1 T ty).elem sz false 0 []]).set s.ob.length (.row (Q1 T ty).elem sz false (0+1) (std.app [] news))=s.ob++[.row (Q1 T ty).elem sz false 1 (std.app [] news)]:=by
         rw[List.set_append_right _ _ (le_refl _),Nat.sub_self];rfl
        refine Q4C hT hs hd ho ha ht (ob:=s.ob++[.row (Q1 T ty).elem sz false 0 []]) (fun g M=>⟨M.addRow j4,Ext.addRow _,Step.addRow _⟩) (id:=s.ob.length) Q2p (xs':=[]) (fun g M hS=>?_) (fun h=>by cases h) j5 rfl yz za jB.1 ?_
        ·have jn:=Qo hS x
         rw[hx]at jn;rw[jn.valEq];refine⟨[],World.ownsRow_nil _ _ _ _,?_,Alike.nil,?_,?_,?_⟩
         ·intro b h;cases h
         ·intro x h;cases h
         ·intro b h;cases h
         ·intro _ j y h;simp at h
        ·rw[yf];exact jB.2
       ·rename_i id ep hx
        split at jB
        ·rename_i et sz' fz e xs jK
         split at jB
         ·rename_i hk
          obtain⟨rfl,rfl,rfl⟩:=hk;refine Q4C hT hs hd ho ha ht (ob:=s.ob) (fun g M=>⟨M,Ext.refl,Step.refl⟩) jK (fun g M hS=>?_) (fun _=>rfl) j5 rfl yz za jB.1 jB.2
          have jn:=Qo hS x;rw[hx]at jn;obtain⟨_,et,sz,fz,e,xs,h1,h2,h3⟩:=jn;rw[jK]at h1;cases h1;exact h3 rfl
         ·exact jB.elim
        ·exact jB.elim
       ·rename_i id ep k hx
        split at jB
        ·rename_i et sz' e xs jK
         split at jB
         ·rename_i hk
          obtain⟨rfl,rfl,rfl⟩:=hk;refine Q4C hT hs hd ho ha ht (ob:=s.ob) (fun g M=>⟨M,Ext.refl,Step.refl⟩) jK (xs':=std.cut xs 0 k) (fun g M hS=>?_) (fun h=>by cases h) j5 rfl yz za jB.1 jB.2
          have jn:=Qo hS x;rw[hx]at jn;obtain⟨_,et,sz,fz,e,xs,h1,h2,h3⟩:=jn;rw[jK]at h1;cases h1;have e:std.cut xs 0 k=xs.take k.toNat:=by simp[std]
          rw[e];exact(h3 rfl).2.2
         ·exact jB.elim
        ·exact jB.elim
       ·exact jB.elim
      ·exact jB.elim
     ·exact jB.elim
    ·exact jB.elim
   |_=>exact rest (by rw[ho];simpa only[aop,ho]using jB)
  |invoke _ _=>exact rest (by rw[ho];simpa only[aop,ho]using jB)
  |value f =>
   simp only[aop,ho]at jB;split at jB
   ·rename_i h ca cb hf
    split at jB
    ·rename_i hab
     obtain rfl:ca=#[]:=Array.eq_empty_of_size_eq_zero hab.1;obtain rfl:cb=#[]:=Array.eq_empty_of_size_eq_zero hab.2;split at jB
     ·rename_i vs ob he
      split at jB
      ·rename_i hk
       split at jB
       ·exact Qix hs hP ho hf he hk.1 hk.2.1 jB.1 jB.2
       ·rename_i v c res ob' hcs
        obtain⟨h1,h2⟩:=jB;cases c with
        |true =>
         have jB:=h1 rfl;split at jB
         ·rename_i jC
          exact QfS hs hd ho hf he hk.1 hk.2.1 hk.2.2 jC jB.1 jB.2
         ·exact jB.elim
        |false=>exact Qix hs hP ho hf he hk.1 hk.2.1 (h2 rfl).1 (h2 rfl).2
       ·rename_i res ob' _ _ hcs
        split at jB
        ·rename_i jC
         exact QfS hs hd ho hf he hk.1 hk.2.1 hk.2.2 jC jB.1 jB.2
        ·exact jB.elim
       ·exact jB.elim
      ·exact jB.elim
     ·exact jB.elim
    ·exact jB.elim
   ·rename_i h cid co ct hf
    split at jB
    ·rename_i vs ob he
     split at jB
     ·rename_i hk
      split at jB
      ·rename_i res ob' hcs
       split at jB
       ·rename_i jC
        exact Qn8 hs hd ho hf he hk.1 hk.2.1 hk.2.2 jC jB.1 jB.2
       ·exact jB.elim
      ·exact jB.elim
     ·exact jB.elim
    ·exact jB.elim
   ·exact jB.elim
 |_=>exact rest (by rw[ho];simpa only[aop,ho]using jB)
end
section
variable {P:Program}{ops:Array Oper}{Q:Exit->Act->World->Prop}{md:Region.Mode}{late:Nat->Bool}
def wpR(P:Program)(md:Region.Mode)(ops:Array Oper)(late:Nat->Bool)(Q:Exit->Act->World->Prop):Nat->Array Bool->Act->World->Prop
 |0,listed,a,w=>Region.ready md ops listed=[]/\Q .normal a w
 |n+1,listed,a,w=>(Region.ready md ops listed=[]->Q .normal a w) /\
   ∀i∈Region.ready md ops listed,wpOp P ops Q i (fun a' w'=>(late i=false->LeB w w')/\wpR P md ops late Q n (listed.setIfInBounds i true) a' w') a w
theorem Q9r:∀(n:Nat)(listed:Array Bool)(a:Act)(w:World),wpR P md ops late Q n listed a w->wpAny P md ops Q n listed a w
 |0,_,_,_,h=>h
 |n+1,_,_,_,h=>⟨h.1,fun i hi=>wpOp_mono (fun a' w' h'=>Q9r n _ a' w' h'.2) (h.2 i hi)⟩
def Closed(md:Region.Mode)(ops:Array Oper)(listed:Array Bool):Prop :=
 ∀(j:Nat) oj,ops[j]?=some oj->listed.getD j true=true->∀e∈oj.after,Region.binds md e=true->listed.getD e.on true=true
def anc(md:Region.Mode)(ops:Array Oper)(i:Nat):Nat->Nat->Bool
 |0,_=>false
 |n+1,j=>match ops[j]? with
  |some oj=>oj.after.any fun e=>Region.binds md e&&(e.on == i||anc md ops i n e.on)
  |none=>false
theorem Q8n{listed:Array Bool}{k:Nat}(h:listed.getD k false=true):listed.getD k true=true:=by
 rcases Nat.lt_or_ge k listed.size with h'|h'
 ·simp[h']at h ⊢;exact h
 ·simp[not_lt.2 h']at h ⊢
theorem Closed.set{listed:Array Bool}(h:Closed md ops listed){j:Nat}(hr:j∈Region.ready md ops listed):Closed md ops (listed.setIfInBounds j true):=by
 have up:∀k,listed.getD k true=true->(listed.setIfInBounds j true).getD k true=true:=fun k hk=>by
  by_cases e:j=k
  ·subst e
   rcases Nat.lt_or_ge j listed.size with h'|h'
   ·simp[h']
   ·simp[not_lt.2 h']
  ·rw[getD_set_ne true e];exact hk
 intro k ok hk hl e he hb;by_cases yt:j=k
 ·subst yt
  obtain⟨_,o,ho,qa⟩:=mem_ready.1 hr;rw[hk]at ho;cases ho;exact up _ (Q8n (qa e he hb))
 ·rw[getD_set_ne true yt]at hl
  exact up _ (h k ok hk hl e he hb)
theorem Qg7{listed:Array Bool}(h:Closed md ops listed){i:Nat}(hi:listed.getD i true=false):∀(n j:Nat),anc md ops i n j=true->∀oj,ops[j]?=some oj ->
  ¬(∀e∈oj.after,Region.binds md e=true->listed.getD e.on true=true)
 |0,_,h0,_,_,_=>by cases h0
 |n+1,j,h0,oj,hj,qa=>by
  simp only[anc,hj]at h0;obtain⟨e,he,hb⟩:=Array.any_eq_true'.1 h0;simp only[Bool.and_eq_true,Bool.or_eq_true,beq_iff_eq]at hb;obtain⟨hb,h1|h1⟩:=hb
  ·have:=qa e he hb
   rw[h1,hi]at this;cases this
  ·have hl:=qa e he hb
   cases hk:ops[e.on]? with
   |none =>
    cases n<;>simp[anc,hk]at h1
   |some ok=>exact Qg7 h hi n e.on h1 ok hk (h e.on ok hk hl)
theorem Qbj{i:Nat}{oi:Oper}{v:Value}{rd:Bool}(hi:ops[i]?=some oi)
  (zS:∀(j:Nat)(o:Oper) cs b,ops[j]?=some o->o.op≠.select cs b)
  (hQ:∀c a w,Q (.panic c) (a.put oi.dst v) w->Q (.panic c) a w) (nt:late i=false) :
  ∀(n:Nat)(listed:Array Bool)(a:Act)(w:World),Closed md ops listed->(rd=true->∀j oj,ops[j]?=some oj->late j=true->listed.getD j true=false->anc md ops i ops.size j=true) ->
   (∀j oj,ops[j]?=some oj->j≠i->listed.getD j true=false->(∀e∈oj.after,Region.binds md e=true->e.on≠i)->oi.apart ops oj=true) ->
   i∈Region.ready md ops listed->YieldsIf P ops (fun W=>rd=true->LeB w W) oi v a ->
   wpR P md ops late Q n (listed.setIfInBounds i true) (a.put oi.dst v) w->wpR P md ops late Q (n+1) listed a w:=by
 intro n;induction n with
 |zero =>
  intro listed a w hC _ _ hr hy H;refine⟨fun h=>(by rw[h]at hr;cases hr),fun j hj=>?_⟩
  by_cases qV:j=i
  ·subst qV;exact hy.wpOp hi (fun _=>LeB.refl w) ⟨fun _=>LeB.refl w,H⟩
  ·have:=ready_mono hj qV
   rw[H.1]at this;cases this
 |succ n ih =>
  intro listed a w hC yQ yK hr hy H;refine⟨fun h=>(by rw[h]at hr;cases hr),fun j hj=>?_⟩
  by_cases qV:j=i
  ·subst qV;exact hy.wpOp hi (fun _=>LeB.refl w) ⟨fun _=>LeB.refl w,H⟩
  ·have h1:=H.2 j (ready_mono hj qV)
   obtain⟨yY,oj,gK,qa⟩:=mem_ready.1 hj;have yr:=(mem_ready.1 hr).1
   have qm:∀e∈oj.after,Region.binds md e=true->e.on≠i:=fun e he hb jj=>by
    have h1:=qa e he hb;rw[jj]at h1;have:=Q8n h1
    rw[yr]at this;cases this
   have h2:=wpOp_putIf (S:=fun W=>rd=true->LeB w W) gK (yK j oj gK qV yY qm) (fun cs b=>zS i oi cs b hi) (fun cs b=>zS j oj cs b gK) hQ hy h1
   have yZ:∀k ok,ops[k]?=some ok->k≠i->(listed.setIfInBounds j true).getD k true=false ->
     (∀e∈ok.after,Region.binds md e=true->e.on≠i)->oi.apart ops ok=true:=fun k ok hk cn yr vi=>by
    refine yK k ok hk cn ?_ vi;by_cases yt:j=k
    ·subst yt;exact yY
    ·rw[getD_set_ne true yt]at yr;exact yr
   refine wpOp_mono (fun a' w' h3=>?_) h2
   obtain⟨h3,h4,h5⟩:=h3;-- what is read stays
   have jF:rd=true->LeB w w':=fun gt=>by
    refine h4 ?_;cases pL:late j with
    |false=>rfl
    |true=>exact(Qg7 hC yr _ _ (yQ gt j oj gK pL yY) oj gK (fun e he hb=>Q8n (qa e he hb))).elim
   have kX:rd=true->∀k ok,ops[k]?=some ok->late k=true->(listed.setIfInBounds j true).getD k true=false->anc md ops i ops.size k=true:=fun gt k ok hk hl yr=>by
    refine yQ gt k ok hk hl ?_;by_cases yt:j=k
    ·subst yt;exact yY
    ·rw[getD_set_ne true yt]at yr;exact yr
   refine⟨h4,ih (listed.setIfInBounds j true) a' w' (hC.set hj) kX yZ (ready_mono hr (Ne.symm qV)) (YieldsIf.weaken h3 fun V hV gt=>LeB.trans _ _ _ (jF gt) (hV gt)) ?_⟩
   rw[Array.setIfInBounds_comm _ _ qV];exact h5
end
def Q1Y(ty:Tys):Op->Bool
 |.alloc _|.box _ _|.store _ _ _|.buildSlice _ _ _|.makeSlice _ _ _|.range _ _|.next _ _|.entry _|.makeMap _ _|.lookup _ _ _ _|.mapUpdate _ _ _ _=>false
 |.call { callee:=.builtin .append,.. }|.call { callee:=.value _,.. }=>false
 |.convert _ dst _=>!(Q1 dst ty).sl
 |_=>true
def Q4O(ty:Tys)(ops:Array Oper)(j:Nat):Bool:=match ops[j]? with
 |some o=>!Q2m ty o.op
 |none=>false
def OT.heads:OT->List Nat
 |.nil=>[]
 |.cons i _=>[i]
 |.fork a b=>a.heads++b.heads
def Q3b(md:Region.Mode)(ty:Tys)(ops:Array Oper):OT->Nat->Array Bool->Bool->Bool
 |.nil,n,listed,among=>n == 0&&!among&&(Region.ready md ops listed).isEmpty
 |.cons i rest,n,listed,among=>n != 0&&(match ops[i]? with
   |some o=>(if among then(Region.ready md ops listed).contains i else Region.ready md ops listed == [i]||(Q1Y ty o.op&&(Region.ready md ops listed).contains i&&Region.free md ops listed i &&
     (!Q8g o.op||(List.range ops.size).all fun j=>!Q4O ty ops j||(listed.getD j true||anc md ops i ops.size j))))
   |none=>false)&&Q3b md ty ops rest (n-1) (listed.setIfInBounds i true) false
 |.fork a b,n,listed,among=>(among||(!(Region.ready md ops listed).isEmpty&&(Region.ready md ops listed).all fun i=>(OT.fork a b).heads.contains i)) &&
   Q3b md ty ops a n listed true&&Q3b md ty ops b n listed true
def Q1e(md:Region.Mode)(ty:Tys)(ord:Nat->OT):Code->Bool
 |.region id ops draw=>if draw then Region.noSelect ops&&Q3b md ty ops ((ord id).or ops.size) ops.size (Array.replicate ops.size false) false else true
 |.seq a b=>Q1e md ty ord a&&Q1e md ty ord b
 |.cond _ a b=>Q1e md ty ord a&&Q1e md ty ord b
 |.block _ c=>Q1e md ty ord c
 |.loop c=>Q1e md ty ord c
 |_=>true
def Q1g(N:Nat):Code->Bool
 |.region _ ops _=>ops.all fun o=>match o.dst with|some d=>decide (d<N)|none=>true
 |.seq a b=>Q1g N a&&Q1g N b
 |.cond _ a b=>Q1g N a&&Q1g N b
 |.block _ c=>Q1g N c
 |.loop c=>Q1g N c
 |_=>true
section
variable {P:Program}{ty:Tys}{Df:List Deferred}{w0:World}{g0:Gh}{o0:List Ob}{N:Nat}{Q:Ex->St->Prop}
theorem Qd1(hT:TyOk P ty){cs:Nat->List AV->List Ob->Option (AV×List Ob)}{K:St->Tree}{o:Oper}{s:St}{a:Act}{w:World}(jI:Q1Y ty o.op=true)
  (jB:(aop std ty cs K o s).ok Df P w0 g0 o0 N Q):∃s1 x,(∀a w,Sim Df w0 g0 o0 N s a w->Sim Df w0 g0 o0 N s1 a w)/\(K (St.put s1 o.dst x)).ok Df P w0 g0 o0 N Q/\∀g,Mem w g s1.ob->QW w g s1 a->Yld P w g s1 a o (Q8g o.op) x:=by
 have rest0:∀s1,(∀a w,Sim Df w0 g0 o0 N s a w->Sim Df w0 g0 o0 N s1 a w)->(Q2u std ty K o s1 o.op).ok Df P w0 g0 o0 N Q->∃s1 x,(∀a w,Sim Df w0 g0 o0 N s a w->Sim Df w0 g0 o0 N s1 a w)/\(K (St.put s1 o.dst x)).ok Df P w0 g0 o0 N Q/\∀g,Mem w g s1.ob->QW w g s1 a->Yld P w g s1 a o (Q8g o.op) x:=by
  intro s1 h1 h;unfold Q2u at h;split at h
  ·rename_i v hv
   exact⟨s1,v,h1,h,fun g M hS=>Q6R hT hS M hv (fun r h=>by cases h)⟩
  ·rename_i q v hv
   exact⟨s1,v,h1,h.2,fun g M hS=>Q6R hT hS M hv (fun r hr=>by cases hr;exact h.1)⟩
  ·split at h
   ·rename_i src dst x ho
    rw[ho]at jI;simp only[Q1Y,Bool.not_eq_true']at jI;split at h
    ·split at h
     ·rename_i hk
      rw[hk.2.1]at jI;cases jI
     ·exact h.elim
    ·split at h
     ·split at h
      ·rename_i hk
       rw[<-hk.2.1,hk.2.2.2.1]at jI;cases jI
      ·exact h.elim
     ·exact h.elim
    ·exact h.elim
   ·exact h.elim
 have rest:=rest0 s (fun _ _ h=>h)
 obtain⟨op,ho⟩:∃op,o.op=op:=⟨_,rfl⟩;cases op with
 |assign x =>
  simp only[aop,ho]at jB;exact rest0 _ (fun a w h=>Q7a x h) (by rw[ho];exact jB)
 |slice T x lo hi m =>
  cases lo with
  |none=>exact rest (by rw[ho];simpa only[aop,ho]using jB)
  |some l =>
   simp only[aop,ho]at jB;exact rest0 _ (fun a w h=>Qdn x h) (by rw[ho];exact jB)
 |binOp op T x y T' =>
  rcases Qfu (w:=w) (a:=a) hT ho jB with h|⟨z,h1,h2⟩
  ·exact rest h
  ·exact⟨s,z,fun _ _ h=>h,h1,fun g _ hS=>h2 g _ hS⟩
 |alloc T=>simp[ho,Q1Y]at jI
 |box T x=>simp[ho,Q1Y]at jI
 |store T x y=>simp[ho,Q1Y]at jI
 |buildSlice T len parts=>simp[ho,Q1Y]at jI
 |range T x=>simp[ho,Q1Y]at jI
 |makeMap T r=>simp[ho,Q1Y]at jI
 |makeSlice T l c=>simp[ho,Q1Y]at jI
 |lookup T x i c=>simp[ho,Q1Y]at jI
 |mapUpdate T m i x=>simp[ho,Q1Y]at jI
 |next it b=>simp[ho,Q1Y]at jI
 |entry it=>simp[ho,Q1Y]at jI
 |call c =>
  obtain⟨callee,args,tys⟩:=c;cases callee with
  |builtin b =>
   cases b with
   |append=>simp[ho,Q1Y]at jI
   |_=>exact rest (by rw[ho];simpa only[aop,ho]using jB)
  |invoke _ _=>exact rest (by rw[ho];simpa only[aop,ho]using jB)
  |value f=>simp[ho,Q1Y]at jI
 |_=>exact rest (by rw[ho];simpa only[aop,ho]using jB)
end
section
variable {P:Program}{ty:Tys}{Df:List Deferred}{w0:World}{g0:Gh}{o0:List Ob}{N:Nat}{Q:Ex->St->Prop}{w:World}{a:Act}{s:St}
theorem Q3Y(hs:Sim Df w0 g0 o0 N s a w){d:Nat}{b:Bool}(hv:lk d s.tm=.val (.bool b))(c:Bool)(hc:b=c):Sim Df w0 g0 o0 N (s.put (some d) (.kb c)) a w:=by
 subst hc;obtain⟨g,M,hS,h0⟩:=hs.rel;refine⟨hs.defers,hs.size,g,M,fun t=>?_,h0⟩
 show ARel w g s.ob _ (if t=d then .kb b else lk t s.tm);by_cases e:t=d
 ·subst e
  rw[if_pos rfl];have h:=hS t;rw[hv]at h;exact h.valEq
 ·rw[if_neg e];exact hS t
theorem Q8d(hs:Sim Df w0 g0 o0 N s a w){d:Option Nat}(hd:∀t,d=some t->t<N):Sim Df w0 g0 o0 N (s.put d (.tup [])) (a.put d undef) w:=by
 obtain⟨g,M,hS,h0⟩:=hs.rel;exact Q12 (s:=s) (ob':=s.ob) hs hS h0 M Step.refl hd (v:=undef) (x:=.tup []) ⟨#[],rfl,rfl,fun j y u h=>by simp at h⟩
theorem Q5w(hs:Sim Df w0 g0 o0 N s a w){d:Nat}{b:Bool}(hv:lk d s.tm=.kb b):a.tmps.getD d undef=.bool b:=by
 obtain⟨g,M,hS,h0⟩:=hs.rel;have h:=hS d;rw[hv]at h;exact h
theorem Q7M{ops:Array Oper}(hs:Sim Df w0 g0 o0 N s a w){o:Oper}{j d:Nat}{b want:Bool}(hg:o.guard=some (j,want))(hd:(ops[j]?).bind (·.dst)=some d)(hv:lk d s.tm=.kb b) :
  Region.wanted o (yielded ops a.tmps)=(b == want):=by
 have h:=Q5w hs hv
 have h1:a.tmps[d]?=some (.bool b):=by
  rw[Array.getD_eq_getD_getElem?]at h;cases hx:a.tmps[d]? with
  |none=>rw[hx]at h;cases h
  |some x=>rw[hx]at h;exact congrArg some h
 simp only[Region.wanted,hg,yielded,hd,Option.bind_some,h1];cases b<;>cases want<;>rfl
theorem Q5M{cs:Nat->List AV->List Ob->Option (AV×List Ob)}{ops:Array Oper}{K:St->Tree}{i:Nat}{rest:OT}{o:Oper}(ho:ops[i]?=some o)(hs:Sim Df w0 g0 o0 N s a w)
  (jB:(Q4m std ty cs ops.toList K (.cons i rest) s).ok Df P w0 g0 o0 N Q) :
  (Region.wanted o (yielded ops a.tmps)=true/\∃s',Sim Df w0 g0 o0 N s' a w/\(aop std ty cs (Q4m std ty cs ops.toList K rest) o s').ok Df P w0 g0 o0 N Q) \/
  (Region.wanted o (yielded ops a.tmps)=false/\∃s',Sim Df w0 g0 o0 N s' a w/\(Q4m std ty cs ops.toList K rest (s'.put o.dst (.tup []))).ok Df P w0 g0 o0 N Q):=by
 simp only[Q4m,Array.getElem?_toList,ho]at jB;split at jB
 ·rename_i hg
  exact .inl ⟨by simp[Region.wanted,hg],s,hs,jB⟩
 ·rename_i j want hg
  split at jB
  ·exact jB.elim
  ·rename_i d hd
   split at jB
   ·rename_i b hv
    have hw:=Q7M (ops:=ops) hs hg hd hv;split at jB
    ·exact .inl ⟨hw,s,hs,jB⟩
    ·exact .inl ⟨hw,s,hs,jB⟩
    ·rename_i nu nv
     refine .inr ⟨?_,s,hs,jB⟩;rw[hw];cases b<;>cases want
     ·exact(nv rfl rfl).elim
     ·rfl
     ·rfl
     ·exact(nu rfl rfl).elim
   ·rename_i b hv
    have e:∀c:Bool,lk d (s.put (some d) (.kb c)).tm=.kb c:=fun c=>if_pos rfl
    split at jB
    ·obtain⟨h1,h2⟩:=jB
     cases b with
     |true =>
      have jf:=Q3Y hs hv true rfl;exact .inl ⟨Q7M (ops:=ops) jf hg hd (e true),_,jf,h1 rfl⟩
     |false =>
      have jf:=Q3Y hs hv false rfl;exact .inr ⟨Q7M (ops:=ops) jf hg hd (e false),_,jf,h2 rfl⟩
    ·obtain⟨h1,h2⟩:=jB
     cases b with
     |true =>
      have jf:=Q3Y hs hv true rfl;exact .inr ⟨Q7M (ops:=ops) jf hg hd (e true),_,jf,h1 rfl⟩
     |false =>
      have jf:=Q3Y hs hv false rfl;exact .inl ⟨Q7M (ops:=ops) jf hg hd (e false),_,jf,h2 rfl⟩
   ·rename_i hv
    refine .inr ⟨?_,s,hs,jB⟩;obtain⟨g,M,hS,h0⟩:=hs.rel;have h1:=hS d;rw[hv]at h1;obtain⟨vs,h2,_⟩:=h1;rw[Array.getD_eq_getD_getElem?]at h2;simp only[Region.wanted,hg,yielded,hd,Option.bind_some];cases hx:a.tmps[d]? with
    |none=>cases want<;>rfl
    |some x =>
     rw[hx]at h2;obtain rfl:x=.tuple vs:=h2;cases want<;>rfl
   ·exact jB.elim
theorem Q8e{ops:Array Oper}(hd:(ops.all fun o=>match o.dst with|some d=>decide (d<N)|none=>true)=true){i:Nat}{o:Oper}(ho:ops[i]?=some o):∀t,o.dst=some t->t<N:=fun t ht=>by
 have:=Array.all_eq_true_iff_forall_mem.1 hd o (Array.mem_of_getElem? ho)
 simpa[ht]using this
theorem Q77(hT:TyOk P ty){cs:Nat->List AV->List Ob->Option (AV×List Ob)}{ops:Array Oper}{K:St->Tree}{R:Exit->Act->World->Prop}
  (hd:(ops.all fun o=>match o.dst with|some d=>decide (d<N)|none=>true)=true) (hK:∀s a w,Sim Df w0 g0 o0 N s a w->(K s).ok Df P w0 g0 o0 N Q->R .normal a w)
  (hP:∀v s a w,s.tm=[]->Sim Df w0 g0 o0 N s a w->Q (.pan v) s->R (.panic [{ v:=v,recovered:=false }]) a w) :
  ∀(l:List Nat)(s:St)(a:Act)(w:World),Sim Df w0 g0 o0 N s a w->(Q4m std ty cs ops.toList K (OT.of l) s).ok Df P w0 g0 o0 N Q->wpOps P ops R l a w
 | [],s,a,w,hs,jB=>hK s a w hs jB
 |i::rest,s,a,w,hs,jB=>by
  unfold wpOps;cases ho:ops[i]? with
  |none=>simp[OT.of,Q4m,Array.getElem?_toList,ho,Tree.ok]at jB
  |some o =>
   rcases Q5M (rest:=OT.of rest) ho hs jB with ⟨hw,s',jf,h⟩|⟨hw,s',jf,h⟩
   ·simp only[hw,if_true]
    exact .inl (Oper.wp_mono (fun a' w' hg=>by
     obtain⟨_,s2,qN,h2⟩:=hg;exact Q77 hT hd hK hP rest s2 a' w' qN h2) (QdY hT jf (Q8e hd ho) hP h))
   ·simp only[hw,Bool.false_eq_true,if_false]
    exact Q77 hT hd hK hP rest _ _ w (Q8d jf (Q8e hd ho)) h
theorem QhL(hT:TyOk P ty){cs:Nat->List AV->List Ob->Option (AV×List Ob)}{ops:Array Oper}{K:St->Tree}{R:Exit->Act->World->Prop}{md:Region.Mode}
  (hd:(ops.all fun o=>match o.dst with|some d=>decide (d<N)|none=>true)=true) (hn:Region.noSelect ops=true) (hQ:∀c a (d:Tmp) v w,R (.panic c) (a.put (some d) v) w->R (.panic c) a w)
  (hK:∀s a w,Sim Df w0 g0 o0 N s a w->(K s).ok Df P w0 g0 o0 N Q->R .normal a w)
  (hP:∀v s a w,s.tm=[]->Sim Df w0 g0 o0 N s a w->Q (.pan v) s->R (.panic [{ v:=v,recovered:=false }]) a w) :
  ∀(t:OT)(n:Nat)(listed:Array Bool)(s:St)(a:Act)(w:World),Closed md ops listed->Sim Df w0 g0 o0 N s a w->(Q4m std ty cs ops.toList K t s).ok Df P w0 g0 o0 N Q ->
   (Q3b md ty ops t n listed false=true->wpR P md ops (Q4O ty ops) R n listed a w) /\
   (Q3b md ty ops t n listed true=true->∀i∈t.heads,∃m,n=m+1/\wpOp P ops R i (fun a' w'=>(Q4O ty ops i=false->LeB w w')/\wpR P md ops (Q4O ty ops) R m (listed.setIfInBounds i true) a' w') a w):=by
 intro t;induction t with
 |nil =>
  intro n listed s a w hC hs jB;refine⟨fun hB=>?_,fun hB i hi=>by cases hi⟩
  simp only[Q3b,Bool.and_eq_true,beq_iff_eq]at hB;obtain⟨⟨rfl,_⟩,h⟩:=hB;exact⟨by simpa using h,hK s a w hs jB⟩
 |fork x y ihx ihy =>
  intro n listed s a w hC hs jB
  have both:Q3b md ty ops x n listed true=true->Q3b md ty ops y n listed true=true->∀i∈(OT.fork x y).heads,∃m,n=m+1/\wpOp P ops R i (fun a' w'=>(Q4O ty ops i=false->LeB w w')/\wpR P md ops (Q4O ty ops) R m (listed.setIfInBounds i true) a' w') a w:=fun h1 h2 i hi=>by
   rcases List.mem_append.1 hi with hi|hi
   ·exact(ihx n listed s a w hC hs jB.1).2 h1 i hi
   ·exact(ihy n listed s a w hC hs jB.2).2 h2 i hi
  refine⟨fun hB=>?_,fun hB=>?_⟩
  ·simp only[Q3b,Bool.and_eq_true,Bool.false_or]at hB
   obtain⟨⟨⟨h0,h1⟩,h2⟩,h3⟩:=hB;have jL:Region.ready md ops listed≠[]:=by simpa using h0
   have qa:∀i∈Region.ready md ops listed,i∈(OT.fork x y).heads:=fun i hi=>by
    have:=all_eq_true.1 h1 i hi
    simpa using this
   obtain⟨i,hi⟩:=List.exists_mem_of_ne_nil _ jL;obtain⟨m,rfl,_⟩:=both h2 h3 i (qa i hi);refine⟨fun h=>absurd h jL,fun i hi=>?_⟩
   obtain⟨m',e,h⟩:=both h2 h3 i (qa i hi);cases e;exact h
  ·simp only[Q3b,Bool.and_eq_true]at hB
   exact both hB.1.2 hB.2
 |cons i rest ih =>
  intro n listed s a w hC hs jB;cases ho:ops[i]? with
  |none=>simp[Q4m,Array.getElem?_toList,ho,Tree.ok]at jB
  |some o =>
   -- taken from what may come next
   have loud:∀m,i∈Region.ready md ops listed->Q3b md ty ops rest m (listed.setIfInBounds i true) false=true ->
     wpOp P ops R i (fun a' w'=>(Q4O ty ops i=false->LeB w w')/\wpR P md ops (Q4O ty ops) R m (listed.setIfInBounds i true) a' w') a w:=fun m hr gG=>by
    unfold wpOp;simp only[ho];rcases Q5M ho hs jB with ⟨hw,s',jf,h⟩|⟨hw,s',jf,h⟩
    ·simp only[hw,if_true]
     exact .inl (Oper.wp_mono (fun a' w' hg=>by
      obtain⟨hq,s2,qN,h2⟩:=hg;refine⟨fun hl=>hq ?_,(ih m _ s2 a' w' (hC.set hr) qN h2).1 gG⟩
      simpa[Q4O,ho]using hl) (QdY hT jf (Q8e hd ho) hP h))
    ·simp only[hw,Bool.false_eq_true,if_false]
     exact⟨fun _=>LeB.refl w,(ih m _ _ _ w (hC.set hr) (Q8d jf (Q8e hd ho)) h).1 gG⟩
   refine⟨fun hB=>?_,fun hB=>?_⟩
   ·simp only[Q3b,ho,Bool.and_eq_true,Bool.false_eq_true,if_false,Bool.or_eq_true,beq_iff_eq,bne_iff_ne,ne_eq]at hB
    obtain⟨⟨qZ,hB⟩,gG⟩:=hB;obtain⟨m,rfl⟩:∃m,n=m+1:=⟨n-1,by omega⟩
    simp only[Nat.add_sub_cancel]at gG;rcases hB with hr|⟨⟨⟨jI,hr⟩,hf⟩,hrd⟩
    ·refine⟨fun h0=>(by rw[hr]at h0;cases h0),fun j hj=>?_⟩
     have zK:=hj;rw[hr]at zK;obtain rfl:=List.mem_singleton.1 zK;exact loud m hj gG
    ·have vQ:i∈Region.ready md ops listed:=by simpa using hr
     have nt:Q4O ty ops i=false:=by
      simp only[Q4O,ho,Bool.not_eq_false'];revert jI;cases o.op<;>simp only[Q1Y,Q2m,Bool.false_eq_true,false_implies,implies_true]
      case convert src dst x =>
       intro h;by_cases e:src=dst
       ·subst e
        have h:(Q1 src ty).sl=false:=by simpa using h
        simp[h]
       ·simp[e]
      rename_i c;obtain⟨callee,args,tys⟩:=c;cases callee with
      |builtin b=>cases b<;>simp[Q1Y,Q2m]
      |_=>simp[Q1Y,Q2m]
     have yQ:Q8g o.op=true->∀j oj,ops[j]?=some oj->Q4O ty ops j=true->listed.getD j true=false->anc md ops i ops.size j=true:=fun gr j oj hj hl yr=>by
      rcases hrd with h|h
      ·rw[gr]at h;simp at h
      ·have:=all_eq_true.1 h j (mem_range.2 (Array.getElem?_eq_some_iff.1 hj).1)
       simpa only[hl,yr,Bool.not_true,Bool.false_or]using this
     rcases Q5M ho hs jB with ⟨hw,s',jf,h⟩|⟨hw,s',jf,h⟩
     ·obtain⟨s1,x,jr,hx,hy⟩:=Qd1 hT (w:=w) (a:=a) jI h
      have jr:=jr _ _ jf;obtain⟨g,M,hS,h0⟩:=jr.rel;obtain⟨v,h1,h2⟩:=hy g M hS
      exact Qbj ho (Region.noSelect_spec hn) (fun c a w=>Q6m hQ c a _ _ w) nt _ listed a w hC yQ (Region.free_spec ho hf) vQ (.inl ⟨hw,fun W hW=>h1 W hW⟩)
       ((ih m _ _ _ w (hC.set vQ) (Q12 (s:=s1) (ob':=s1.ob) jr hS h0 M Step.refl (Q8e hd ho) h2) hx).1 gG)
     ·exact Qbj ho (Region.noSelect_spec hn) (fun c a w=>Q6m hQ c a _ _ w) nt _ listed a w hC yQ (Region.free_spec ho hf) vQ (.inr ⟨hw,rfl⟩)
       ((ih m _ _ _ w (hC.set vQ) (Q8d jf (Q8e hd ho)) h).1 gG)
   ·simp only[Q3b,ho,Bool.and_eq_true,if_true,bne_iff_ne,ne_eq]at hB
    obtain⟨⟨qZ,hr⟩,gG⟩:=hB;obtain⟨m,rfl⟩:∃m,n=m+1:=⟨n-1,by omega⟩
    simp only[Nat.add_sub_cancel]at gG;intro j hj;obtain rfl:=List.mem_singleton.1 hj;exact⟨m,rfl,loud m (by simpa using hr) gG⟩
end
theorem Qcn{md:Region.Mode}{ops:Array Oper}:Closed md ops (Array.replicate ops.size false):=fun j oj hj hl=>by
 have:j<ops.size:=(Array.getElem?_eq_some_iff.1 hj).1
 simp[this]at hl
section
variable {P:Program}{ty:Tys}{Df:List Deferred}{w0:World}{g0:Gh}{o0:List Ob}{N:Nat}{Q:Ex->St->Prop}
theorem Qhz{s:St}{a:Act}{w w':World}(hs:Sim Df w0 g0 o0 N s a w)(hb:LeB w w'):Sim Df w0 g0 o0 N s a w':=by
 obtain⟨g,M,hS,h0⟩:=hs.rel;have E:=Ext.below M hb;have h1:Step w g s.ob w' g s.ob:=⟨hb.os,hb.tape,hb.output,hb.size,fun b h _=>hb.block b h,fun b id hG=>.inl ⟨id,hG⟩,fun b o h=>.inl h,E,le_refl _⟩
 exact⟨hs.defers,hs.size,g,M.below hb,fun t=>(hS t).ext E,h0.trans h1⟩
theorem Q2n(hT:TyOk P ty)(hm:P.follows .mixedOrders=true){cs:Nat->List AV->List Ob->Option (AV×List Ob)}{ord:Nat->OT} :
  ∀(c:Code)(K:Ex->St->Tree)(R:Exit->Act->World->Prop)(s:St)(a:Act)(w:World),Q1g N c=true->Q1e .any ty ord c=true ->
   (∀c a (d:Tmp) v w,R (.panic c) (a.put (some d) v) w->R (.panic c) a w)->(∀e s a w,(∀v,e=.pan v->s.tm=[])->Sim Df w0 g0 o0 N s a w->(K e s).ok Df P w0 g0 o0 N Q->R e.conv a w) ->
   (∀v s a w,s.tm=[]->Sim Df w0 g0 o0 N s a w->Q (.pan v) s->R (.panic [{ v:=v,recovered:=false }]) a w) ->
   Sim Df w0 g0 o0 N s a w->(QU std ty cs ord c K s).ok Df P w0 g0 o0 N Q->c.wp P R a w:=by
 intro c;induction c with
 |skip=>intro K R s a w _ _ _ hK hP hs jB;exact wp_skip (hK .normal s a w (fun _ h=>by cases h) hs jB)
 |region id ops draw =>
  intro K R s a w hd ho hQ hK hP hs jB;cases draw with
  |false =>
   exact wp_region (Q77 hT hd (fun s a w hs h=>hK .normal s a w (fun _ h=>by cases h) hs h) hP _ s a w hs jB)
  |true =>
   simp only[Q1e,if_true,Bool.and_eq_true]at ho;obtain⟨h1,h3⟩:=ho;refine wp_region_any hm (Q9r (late:=Q4O ty ops) _ _ _ _ ?_);exact(QhL hT hd h1 hQ (fun s a w hs h=>hK .normal s a w (fun _ h=>by cases h) hs h) hP _ _ _ s a _ Qcn (Qhz hs (LeB.drew w)) jB).1 h3
 |seq x y ihx ihy =>
  intro K R s a w hd ho hQ hK hP hs jB;simp only[Q1g,Q1e,Bool.and_eq_true]at hd ho;refine wp_seq (ihx _ _ s a w hd.1 ho.1 (fun c a d v w h=>hQ c a d v w h) (fun e s a w ht hs h=>?_) (fun v s a w ht hs h=>hP v s a w ht hs h) hs jB)
  cases e with
  |normal=>exact ihy K R s a w hd.2 ho.2 hQ hK hP hs h
  |exit i=>exact hK (.exit i) s a w (fun _ h=>by cases h) hs h
  |ret=>exact hK .ret s a w (fun _ h=>by cases h) hs h
  |pan v=>exact hK (.pan v) s a w ht hs h
 |cond c x y ihx ihy =>
  intro K R s a w hd ho hQ hK hP hs jB;simp only[Q1g,Q1e,Bool.and_eq_true]at hd ho;unfold QU at jB;split at jB
  ·rename_i t
   split at jB
   ·rename_i hv
    exact wp_cond_true (Q5w hs hv) (ihx K R s a w hd.1 ho.1 hQ hK hP hs jB)
   ·rename_i hv
    exact wp_cond_false (Q5w hs hv) (ihy K R s a w hd.2 ho.2 hQ hK hP hs jB)
   ·rename_i b hv
    obtain⟨h1,h2⟩:=jB;have e:∀c:Bool,lk t (s.put (some t) (.kb c)).tm=.kb c:=fun c=>if_pos rfl
    cases b with
    |true =>
     have jf:=Q3Y hs hv true rfl;exact wp_cond_true (Q5w jf (e true)) (ihx K R _ a w hd.1 ho.1 hQ hK hP jf (h1 rfl))
    |false =>
     have jf:=Q3Y hs hv false rfl;exact wp_cond_false (Q5w jf (e false)) (ihy K R _ a w hd.2 ho.2 hQ hK hP jf (h2 rfl))
   ·exact jB.elim
  ·exact wp_cond_true rfl (ihx K R s a w hd.1 ho.1 hQ hK hP hs jB)
  ·exact wp_cond_false rfl (ihy K R s a w hd.2 ho.2 hQ hK hP hs jB)
  ·exact jB.elim
 |block id c ih =>
  intro K R s a w hd ho hQ hK hP hs jB;simp only[Q1g,Q1e]at hd ho;refine wp_block (ih _ _ s a w hd ho (fun c a d v w h=>hQ c a d v w h) (fun e s a w ht hs h=>?_) (fun v s a w ht hs h=>hP v s a w ht hs h) hs jB)
  cases e with
  |normal=>exact hK .normal s a w (fun _ h=>by cases h) hs h
  |ret=>exact hK .ret s a w (fun _ h=>by cases h) hs h
  |pan v=>exact hK (.pan v) s a w ht hs h
  |exit i =>
   show Exit.inBlock id R (.exit i) a w;simp only[Exit.inBlock];simp only at h
   by_cases hi:i=id
   ·rw[if_pos hi]at h ⊢
    exact hK .normal s a w (fun _ h=>by cases h) hs h
   ·rw[if_neg hi]at h ⊢
    exact hK (.exit i) s a w (fun _ h=>by cases h) hs h
 |loop c ih =>
  intro K R s a w hd ho hQ hK hP hs jB;refine wp_mono (jB a w hs) (fun e a' w' h=>?_)
  obtain⟨e',s',rfl,ht,jf,h'⟩:=h;exact hK e' s' a' w' ht jf h'
 |exit i=>intro K R s a w _ _ _ hK hP hs jB;exact wp_exit (hK (.exit i) s a w (fun _ h=>by cases h) hs jB)
 |ret=>intro K R s a w _ _ _ hK hP hs jB;exact wp_ret (hK .ret s a w (fun _ h=>by cases h) hs jB)
 |_=>intro K R s a w _ _ _ _ _ _ jB;exact jB.elim
end
def ent:Nat->List AV->List (Nat×AV)
 |_,[]=>[]
 |k,x::r=>(k,x)::ent (k+1) r
theorem Q9w(t:Nat):∀(l:List AV)(k:Nat),lk t (ent k l)=if k<=t then l.getD (t-k) .dead else .dead
 | [],k=>by simp[ent,lk]
 |x::r,k=>by
  simp only[ent,lk];by_cases h:t=k
  ·subst h;simp
  ·rw[if_neg h,Q9w t r (k+1)]
   by_cases h2:k<=t
   ·have e:t-k=(t-(k+1))+1:=by omega
    rw[if_pos (by omega),if_pos h2,e,List.getD_cons_succ]
   ·rw[if_neg (by omega),if_neg h2]
def Q9A(tmps:Array Value)(rv:ResultVar):Sem Value:=match rv with
 |.tmp t=>pure (tmps.getD t undef)
 |.cell a t=>do loadVar t (<-asAddr (tmps.getD a undef))
theorem Q9v(fn:Func)(tmps:Array Value):results fn tmps=(do let vs <-fn.results.mapM (Q9A tmps);pure (if h:vs.size=1 then vs[0]else .tuple vs)):=by
 unfold results;congr 1
section
variable {P:Program}{ty:Tys}{Df:List Deferred}{w0 w:World}{g0 g:Gh}{o0:List Ob}{N:Nat}{s:St}{a:Act}
theorem Ql3(hT:TyOk P ty)(M:Mem w g s.ob)(hS:QW w g s a){rv:ResultVar}{x:AV}(h:Q6I ty s rv=some x) :
  ∃v,Sem.run P (Q9A a.tmps rv) w=.ok v w/\ARel w g s.ob v x:=by
 cases rv with
 |tmp t =>
  refine⟨a.tmps.getD t undef,rfl,?_⟩;have hr:=hS t;simp only[Q6I]at h;split at h
  ·rename_i b hb
   obtain rfl:AV.val (.bool b)=x:=by simpa using h
   rw[hb]at hr;have e:a.tmps.getD t undef=.bool b:=hr;rw[e];exact PRel.to (.val _ rfl)
  ·cases h
  ·obtain rfl:lk t s.tm=x:=by simpa using h
   exact hr
 |cell b T =>
  simp only[Q6I]at h;split at h
  ·rename_i cs hcs
   by_cases hk:(Q1 T ty).ok=true/\(if(Q1 T ty).agg then(Q1 T ty).size else 1)<=cs.length
   ·rw[if_pos hk]at h
    cases h;obtain⟨bl,of,hv,hc⟩:=Q8K M (hS b) hcs;obtain⟨v,h1,h2⟩:=Q74 (g:=g) hT hk.1 hc hk.2;refine⟨v,?_,h2⟩;have h3:=h1 w (LeB.refl w);show(asAddr (a.tmps.getD b undef) >>= fun p=>loadVar T p).run P w=_
    rw[hv];simpa[asAddr]using h3
   ·rw[if_neg hk]at h;cases h
  ·cases h
theorem Qaj(hT:TyOk P ty)(M:Mem w g s.ob)(hS:QW w g s a):∀(rs:List ResultVar)(xs:List AV),Q3s (rs.map (Q6I ty s))=some xs ->
  ∃vs,Sem.run P (rs.mapM (Q9A a.tmps)) w=.ok vs w/\vs.length=xs.length /\
   ∀(j:Nat) v x,vs[j]?=some v->xs[j]?=some x->ARel w g s.ob v x
 | [],xs,h=>by
  obtain rfl:[]=xs:=by simpa[Q3s]using h
  exact⟨[],rfl,rfl,fun j v x h=>by simp at h⟩
 |rv::rs,xs,h=>by
  cases h1:Q6I ty s rv with
  |none=>simp[Q3s,h1]at h
  |some x =>
   simp only[map_cons,h1,Q3s,map_eq_some_iff]at h;obtain⟨ys,h2,rfl⟩:=h;obtain⟨v,hv,hr⟩:=Ql3 hT M hS h1;obtain⟨vs,gW,hl,jk⟩:=Qaj hT M hS rs ys h2;refine⟨v::vs,?_,by simp[hl],fun j y u hy hu=>?_⟩
   ·simp only[List.mapM_cons,Sem.run_bind,hv,gW,Result.andThen_ok,Sem.run_pure]
   ·cases j with
    |zero =>
     obtain rfl:v=y:=by simpa using hy
     obtain rfl:x=u:=by simpa using hu
     exact hr
    |succ j=>exact jk j y u (by simpa using hy) (by simpa using hu)
theorem Q7j(hT:TyOk P ty){keep:Bool}{fn:Func}(hs:Sim Df w0 g0 o0 N s a w){res:AV}{ob':List Ob}(h:Q55 std ty keep fn.results.toList s=some (res,ob')) :
  ∃v g',(results fn a.tmps).run P w=.ok v w/\Mem w g' ob'/\ARel w g' ob' v res/\Step w0 g0 o0 w g' ob':=by
 obtain⟨g,M,hS,h0⟩:=hs.rel;unfold Q55 at h;cases hx:Q3s (fn.results.toList.map (Q6I ty s))with
 |none=>rw[hx]at h;cases h
 |some xs =>
  rw[hx]at h;obtain⟨vs,gW,hl,jk⟩:=Qaj hT M hS _ _ hx
  have jQ:(results fn a.tmps).run P w=.ok (if h:vs.toArray.size=1 then vs.toArray[0]else .tuple vs.toArray) w:=by
   rw[Q9v,Array.mapM_eq_mapM_toList,Sem.run_bind]
   have:(List.toArray <$> (fn.results.toList.mapM (Q9A a.tmps))).run P w=.ok vs.toArray w:=by
    rw[map_eq_pure_bind,Sem.run_bind,gW];rfl
   rw[this];rfl
  have many:xs.length≠1->(Q3M (frz std keep 9) s.ob xs).map (fun(ys,ob)=>(AV.tup ys,ob))=some (res,ob') ->
    ∃v g',(results fn a.tmps).run P w=.ok v w/\Mem w g' ob'/\ARel w g' ob' v res/\Step w0 g0 o0 w g' ob':=fun jL h=>by
   simp only[map_eq_some_iff]at h;obtain⟨⟨ys,ob1⟩,h1,h2⟩:=h;cases h2;have hL:Q1D w g s.ob vs xs:=⟨hl,fun j v x hv hx=>(jk j v x hv hx).to1 (Q6v _ _ _ _ h1 _ (mem_of_getElem? hx))⟩
   obtain⟨g',M',E',R',L'⟩:=QlE _ _ g s.ob ys ob1 M hL h1;refine⟨_,g',jQ,M',?_,h0.trans (Step.ghost E' L')⟩;have:¬vs.toArray.size=1:=by simp;omega
   rw[dif_neg this];exact⟨vs.toArray,rfl,by simpa using R'.1,fun j y u hy hu=>R'.2 j y u (by simpa using hy) hu⟩
  cases xs with
  |nil=>exact many (by simp) h
  |cons x r =>
   cases r with
   |cons x' r'=>exact many (by simp) h
   |nil =>
    obtain⟨v,rfl⟩:∃v,vs=[v]:=List.length_eq_one_iff.1 (by simpa using hl)
    obtain⟨g',M',E',R',L'⟩:=Qjr M (jk 0 v x rfl rfl) h;exact⟨v,g',jQ,M',R',h0.trans (Step.ghost E' L')⟩
end
def leC(x y:AV):Prop:=x=y\/(x=.val (.slice none 0 0)/\∃sz,y=.slc sz [])\/(y=.opt x/\Q5K x)\/x=.opt y
def leL:List AV->List AV->Prop
 | [],[]=>True
 |x::r,y::r'=>leC x y/\leL r r'
 |_,_=>False
def QhQ:AV->AV->Prop
 |.agg xs,.agg ys=>leL xs ys
 |.agg _,_=>False
 |.tup _,_=>False
 |_,.agg _=>False
 |_,.tup _=>False
 |x,y=>leC x y
def leT:List AV->List AV->Prop
 | [],[]=>True
 |x::r,y::r'=>QhQ x y/\leT r r'
 |_,_=>False
def leA(x y:AV):Prop:=match x with
 |.tup xs=>(match y with
  |.tup ys=>leT xs ys
  |_=>False)
 |x=>QhQ x y
section
variable {w:World}{g:Gh}{ob:List Ob}
theorem Qg5{v:Value}{x y:AV}(h:ARel0 w g ob v x)(hl:leC x y):ARel0 w g ob v y:=by
 rcases hl with rfl|⟨rfl,sz,rfl⟩|⟨rfl,hp⟩|rfl
 ·exact h
 ·cases(show v=_ from ARel.valEq (g:=g) (w:=w) (ob:=ob) h)
  exact PRel.nil sz
 ·have:PRel w g.A v x:=by
   cases x with
   |val _=>exact h
   |ref _=>exact h
   |opt _=>exact h
   |_=>exact(show False from hp).elim
  exact PRel.opt _ _ this hp
 ·exact(PRel.ofOpt (show PRel w g.A v (.opt y) from h)).1.to0
theorem QfR:∀{vs:List Value}{xs ys:List AV},ARelC w g ob vs xs->leL xs ys->ARelC w g ob vs ys
 |vs,[],[],h,_=>h
 |_,[],_::_,_,hl=>hl.elim
 |_,_::_,[],_,hl=>hl.elim
 | [],x::r,y::r',h,_=>absurd h.1 (by simp)
 |v::vs,x::r,y::r',h,hl=>by
  have h1:=h.2 0 v x rfl rfl;have h2:ARelC w g ob vs r':=QfR (xs:=r) ⟨by simpa using h.1,fun j a b ha hb=>h.2 (j+1) a b (by simpa using ha) (by simpa using hb)⟩ hl.2
  refine⟨by simp[h2.1],fun j a b ha hb=>?_⟩
  cases j with
  |zero =>
   obtain rfl:v=a:=by simpa using ha
   obtain rfl:y=b:=by simpa using hb
   exact⟨Qg5 h1.1 hl.1,h1.2⟩
  |succ j=>exact h2.2 j a b (by simpa using ha) (by simpa using hb)
theorem ARel1.to0{v:Value}{x:AV}(h:ARel1 w g ob v x)(hn:∀cs,x≠.agg cs):ARel0 w g ob v x:=by cases x<;>first|exact h|exact absurd rfl (hn _)
theorem Q9H{v:Value}{x y:AV}(h:ARel1 w g ob v x)(hl:QhQ x y):ARel1 w g ob v y:=by
 cases x with
 |agg xs =>
  cases y with
  |agg ys=>obtain⟨vs,rfl,h⟩:=h;exact⟨vs,rfl,QfR h hl⟩
  |_=>exact(show False from hl).elim
 |tup _=>exact(show False from hl).elim
 |_=>cases y<;>first|exact(show False from hl).elim|exact(Qg5 (h.to0 (fun cs h=>by cases h)) hl).to1
theorem Q6a{v:Value}{x y:AV}(h:ARel w g ob v x)(hl:leA x y):ARel w g ob v y:=by
 cases x with
 |tup xs =>
  cases y with
  |tup ys =>
   obtain⟨vs,rfl,h1,h2⟩:=h
   have key:∀(xs ys:List AV)(vs:List Value),leT xs ys->vs.length=xs.length->(∀(j:Nat) y u,vs[j]?=some y->xs[j]?=some u->ARel1 w g ob y u)->vs.length=ys.length/\∀(j:Nat) y u,vs[j]?=some y->ys[j]?=some u->ARel1 w g ob y u:=by
    intro xs;induction xs with
    |nil =>
     intro ys vs hl hn hr;cases ys with
     |nil=>exact⟨hn,hr⟩
     |cons _ _=>exact(show False from hl).elim
    |cons x r ih =>
     intro ys vs hl hn hr;cases ys with
     |nil=>exact(show False from hl).elim
     |cons y r' =>
      cases vs with
      |nil=>simp at hn
      |cons v vs =>
       obtain⟨h3,h4⟩:=ih r' vs hl.2 (by simpa using hn) (fun j a b ha hb=>hr (j+1) a b (by simpa using ha) (by simpa using hb))
       refine⟨by simp[h3],fun j a b ha hb=>?_⟩
       cases j with
       |zero =>
        obtain rfl:v=a:=by simpa using ha
        obtain rfl:y=b:=by simpa using hb
        exact Q9H (hr 0 v x rfl rfl) hl.1
       |succ j=>exact h4 j a b (by simpa using ha) (by simpa using hb)
   obtain⟨h3,h4⟩:=key xs ys vs.toList hl (by simpa using h1) (fun j a b ha hb=>h2 j a b (by simpa using ha) hb)
   exact⟨vs,rfl,by simpa using h3,fun j a b ha hb=>h4 j a b (by simpa using ha) hb⟩
  |_=>exact(show False from hl).elim
 |_=>exact(Q9H (h.to1' (fun xs h=>by cases h)) (show QhQ _ y from hl)).to
end
def QaT(ob ob':List Ob)(ρ:List (Option Nat)):List AV->List AV->Option Eqs
 | [],[]=>some []
 |x::r,x'::r'=>both (Q8R ob ob' ρ x x') (QaT ob ob' ρ r r')
 |_,_=>none
def QgI(ob ob':List Ob)(ρ:List (Option Nat))(x x':AV):Option Eqs:=match x with
 |.tup xs=>(match x' with
  |.tup ys=>QaT ob ob' ρ xs ys
  |_=>none)
 |x=>Q8R ob ob' ρ x x'
section
variable {w w0:World}{g g0:Gh}{ob ob' o0:List Ob}{ρ:List (Option Nat)}
theorem Qem{x x':AV}{l:Eqs}(he:Q8R ob ob' ρ x x'=some l):∀xs,x'≠.tup xs:=by
 rintro xs rfl;cases he
theorem Q7S(hF:Fits ob ob' ρ)(ho:Q1N ρ=true):∀(xs ys:List AV)(vs:List Value)(l:Eqs),QaT ob ob' ρ xs ys=some l->Qf l->vs.length=xs.length->(∀(j:Nat) y u,vs[j]?=some y->xs[j]?=some u->ARel1 w g ob y u) ->
  vs.length=ys.length/\∀(j:Nat) y u,vs[j]?=some y->ys[j]?=some u->ARel1 w (g.ren ρ) ob' y u
 | [],[],vs,_,_,_,hn,_=>⟨hn,fun j y u _ h=>by simp at h⟩
 | [],_::_,_,_,h,_,_,_=>by cases h
 |_::_,[],_,_,h,_,_,_=>by cases h
 |x::r,y::r',vs,l,h,hl,hn,hr=>by
  cases vs with
  |nil=>simp at hn
  |cons v vs =>
   obtain⟨⟨l1,h1,vu⟩,l2,h2,gQ⟩:=Q1y h hl;obtain⟨h3,h4⟩:=Q7S hF ho r r' vs l2 h2 gQ (by simpa using hn) (fun j a b ha hb=>hr (j+1) a b (by simpa using ha) (by simpa using hb))
   refine⟨by simp[h3],fun j a b ha hb=>?_⟩
   cases j with
   |zero =>
    obtain rfl:v=a:=by simpa using ha
    obtain rfl:y=b:=by simpa using hb
    exact(Q7D hF ho (hr 0 v x rfl rfl).to h1 vu).to1' (Qem h1)
   |succ j=>exact h4 j a b (by simpa using ha) (by simpa using hb)
theorem Q4X(hF:Fits ob ob' ρ)(ho:Q1N ρ=true){v:Value}{x x':AV}{l:Eqs}(h:ARel w g ob v x)(he:QgI ob ob' ρ x x'=some l)(hl:Qf l):ARel w (g.ren ρ) ob' v x':=by
 cases x with
 |tup xs =>
  cases x' with
  |tup ys =>
   obtain⟨vs,rfl,h1,h2⟩:=h;obtain⟨h3,h4⟩:=Q7S hF ho xs ys vs.toList l he hl (by simpa using h1) (fun j a b ha hb=>h2 j a b (by simpa using ha) hb)
   exact⟨vs,rfl,by simpa using h3,fun j a b ha hb=>h4 j a b (by simpa using ha) hb⟩
  |_=>cases he
 |_=>exact Q7D hF ho h he hl
theorem Q5x(hF:Fits ob ob' ρ)(ho:Q1N ρ=true)(hh:QdV o0 ob ob' ρ=true)(hn:o0.length<=ρ.length)(h0:Step w0 g0 o0 w g ob):Step w0 g0 o0 w (g.ren ρ) ob':=by
 have head:∀j,j<o0.length->ρ[j]?=some (some j):=fun j hj=>by
  have:=all_eq_true.1 hh j (mem_range.2 hj)
  simp only[Bool.and_eq_true,beq_iff_eq]at this;exact this.1
 refine⟨h0.os,h0.tape,h0.output,h0.size,h0.keep,fun b id hG=>?_,h0.imm,⟨h0.ext.A,fun id hid=>?_,fun id hb=>?_,fun id hb=>?_,fun id et sz fz e xs hr=>?_,fun b id hG hs=>?_⟩,?_⟩
 ·obtain⟨i,_,h3⟩:=Q2E hG
  exact h0.own b i h3
 ·rw[Q1v (head id hid)];exact h0.ext.loc id hid
 ·exact hF.isB (head id (Q2O hb)) (h0.ext.isb id hb)
 ·exact hF.isI (head id (Q3X hb)) (h0.ext.isi id hb)
 ·have hid:=Q4 hr
  obtain⟨fz1,e1,xs1,h3,h4,h5⟩:=h0.ext.row id et sz fz e xs hr;obtain⟨fz2,e2,h6,_⟩:=hF.row (head id hid) h3
  have he:e1=e2\/e<e2:=by
   have:=all_eq_true.1 hh id (mem_range.2 hid)
   simp only[Bool.and_eq_true,hr,h3,h6,beq_iff_eq,Bool.or_eq_true,decide_eq_true_eq]at this;exact this.2
  rcases he with he|he
  rotate_left
  ·exact⟨fz2,e2,xs1,h6,by omega,fun qS=>by omega⟩
  subst he;exact⟨fz2,e1,xs1,h6,h4,fun qS=>(h5 qS).turn (fun b hb=>⟨hb,rfl⟩) (fun b _ hb=>Q4Y ho (head id hid) hb) rfl⟩
 ·obtain⟨et,sz,fz,fz',e,xs,xs',h3,h4⟩:=hs
  have hid:=Q4 h3;obtain⟨fz1,e1,xs1,h5,h6,h7⟩:=h0.ext.row id et sz fz e xs h3;obtain⟨fz2,e2,h8,_⟩:=hF.row (head id hid) h5;rw[h8]at h4;obtain⟨rfl,rfl,rfl⟩:fz2=fz'/\e2=e/\xs1=xs':=by simpa using h4
  have he:e1=e2:=by
   have:=all_eq_true.1 hh id (mem_range.2 hid)
   simp only[Bool.and_eq_true,h3,h5,h8,beq_iff_eq,Bool.or_eq_true,decide_eq_true_eq]at this;omega
  subst he;obtain⟨h9,qX⟩:=h0.ext.sub b id hG ⟨_,_,_,_,_,_,_,h3,h5⟩;have v8:=Q3a (g:=g) ho (head id hid) ((h7 rfl).G hG);exact⟨v8.trans h9,qX⟩
 ·rw[<-hF.1];exact hn
end
def FinOk(o0:List Ob)(res:AV)(ob':List Ob)(_:Ex)(s:St):Prop:=match s.tm with
 | [(_,r)]=>∃ρ r' l,Q1N ρ=true/\QdV o0 s.ob ob' ρ=true/\o0.length<=ρ.length/\both (QgI s.ob ob' ρ r r') (Q7C s.ob ob' ρ ρ ob')=some l/\Qf l/\leA r' res
 |_=>False
def QnV:AV->Bool
 |.tup xs=>xs.all AV.pur
 |x=>x.pur
theorem Q4H{ob:List Ob}{ρ:List (Option Nat)}{x:AV}(h:x.pur0=true):∃l,Q4g ob [] ρ x x=some l/\Qf l:=by
 cases x with
 |val v=>cases v<;>exact⟨_,rfl,rfl,trivial⟩
 |slc _ _=>exact⟨_,rfl,rfl,trivial⟩
 |ref _=>exact⟨_,rfl,rfl,trivial⟩
 |opt _=>exact⟨_,rfl,rfl,trivial⟩
 |_=>cases h
theorem Q3Z{ob:List Ob}{ρ:List (Option Nat)}{x:AV}(h:x.pur=true):∃l,Q8R ob [] ρ x x=some l/\Qf l:=by
 cases x with
 |agg cs =>
  have key:∀cs:List AV,cs.all AV.pur0=true->∃l,QbH ob [] ρ cs cs=some l/\Qf l:=by
   intro cs;induction cs with
   |nil=>intro _;exact⟨[],rfl,trivial⟩
   |cons x r ih =>
    intro h;simp only[all_cons,Bool.and_eq_true]at h;obtain⟨l1,h1,h2⟩:=Q4H (ob:=ob) (ρ:=ρ) h.1;obtain⟨l2,h3,h4⟩:=ih h.2;exact⟨l1++l2,by simp only[QbH,h1,h3,both],Q3c.2 ⟨h2,h4⟩⟩
  exact key cs h
 |val v=>exact Q4H (ob:=ob) (ρ:=ρ) (x:=.val v) h
 |slc a b=>exact Q4H (ob:=ob) (ρ:=ρ) (x:=.slc a b) h
 |ref a=>exact Q4H (ob:=ob) (ρ:=ρ) (x:=.ref a) h
 |opt a=>exact Q4H (ob:=ob) (ρ:=ρ) (x:=.opt a) h
 |_=>cases h
theorem FinOk.pure{res r:AV}{k:Nat}{ob:List Ob}{e:Ex}(hp:QnV r=true)(hl:leA r res):FinOk [] res [] e ⟨[(k,r)],ob⟩:=by
 have hr:∃l,QgI ob [] [] r r=some l/\Qf l:=by
  cases r with
  |tup xs =>
   have key:∀xs:List AV,xs.all AV.pur=true->∃l,QaT ob [] [] xs xs=some l/\Qf l:=by
    intro xs;induction xs with
    |nil=>intro _;exact⟨[],rfl,trivial⟩
    |cons x r ih =>
     intro h;simp only[all_cons,Bool.and_eq_true]at h;obtain⟨l1,h1,h2⟩:=Q3Z (ob:=ob) (ρ:=[]) h.1;obtain⟨l2,h3,h4⟩:=ih h.2;exact⟨l1++l2,by simp only[QaT,h1,h3,both],Q3c.2 ⟨h2,h4⟩⟩
   exact key xs hp
  |val a=>exact Q3Z (ob:=ob) (ρ:=[]) (x:=.val a) hp
  |slc a b=>exact Q3Z (ob:=ob) (ρ:=[]) (x:=.slc a b) hp
  |agg a=>exact Q3Z (ob:=ob) (ρ:=[]) (x:=.agg a) hp
  |ref a=>exact Q3Z (ob:=ob) (ρ:=[]) (x:=.ref a) hp
  |opt a=>exact Q3Z (ob:=ob) (ρ:=[]) (x:=.opt a) hp
  |_=>cases hp
 obtain⟨l,h1,h2⟩:=hr;exact⟨[],r,l,rfl,rfl,le_refl _,by simp only[h1,Q7C,both,List.append_nil],h2,hl⟩
theorem Q8j{P:Program}{ty:Tys}(keep:Bool)(hT:TyOk P ty)(hm:P.follows .mixedOrders=true){cs:Nat->List AV->List Ob->Option (AV×List Ob)}{ord:Nat->OT}
  {f:Nat} {fn:Func} {c:Code} {args:List AV} {ob:List Ob} {res:AV} {ob':List Ob} (hf:P.funcs[f]?=some fn) (hb:fn.body=some c) (he:∀vs w,(callFunc f vs).run P w=.ok (.enter f vs) w)
  (hn:args.length<=fn.ntmps) (hd:Q1g fn.ntmps c=true) (ho:Q1e .any ty ord c=true)
  (h:∀w0 g0,(QU std ty cs ord c (Q5o std ty keep fn.results.toList) ⟨ent 0 args,ob⟩).ok [] P w0 g0 ob fn.ntmps (FinOk ob res ob')):BCall P f args ob res ob':=by
 refine⟨he,fun w g vs M hL=>calls_of_wp hf hb ?_⟩
 have jC:vs.length=args.length:=hL.1;refine Q2n (w0:=w) (g0:=g) (o0:=ob) (N:=fn.ntmps) (Q:=FinOk ob res ob') hT hm c _ _ ⟨ent 0 args,ob⟩ _ w hd ho (fun c a d v w h=>h) (fun e s a w' ht hs hq=>?_) (fun v s a w' ht _ hq=>by unfold FinOk at hq;rw[ht]at hq;exact hq.elim) ⟨rfl,?_,g,M,fun t=>?_,Step.refl⟩ (h w g)
 ·have fin:∀{T:Tree},T=(match Q55 std ty keep fn.results.toList s with|some (r,ob)=>.leaf .ret ⟨[(0,r)],ob⟩|none=>.stuck 71)->T.ok [] P w g ob fn.ntmps (FinOk ob res ob') ->
    a.defers=[]/\∃v,(results fn a.tmps).run P w'=.ok v w'/\∃v' g',Ending.returned v=.returned v'/\Mem w' g' ob'/\ARel w' g' ob' v' res/\Step w g ob w' g' ob':=fun qx hq=>by
   cases hr:Q55 std ty keep fn.results.toList s with
   |none=>rw[hr]at qx;subst qx;exact(show False from hq).elim
   |some q =>
    obtain⟨r,ob1⟩:=q;rw[hr]at qx;subst qx;obtain⟨ρ,r',l,h1,h2,h3,h4,h5,h6⟩:=(show FinOk ob res ob' .ret ⟨[(0,r)],ob1⟩ from hq);obtain⟨⟨l1,e1,a1⟩,l2,e2,a2⟩:=Q1y h4 h5;have hF:Fits ob1 ob' ρ:=Q2B _ _ _ e2 a2;obtain⟨v,g',k1,k2,k3,k4⟩:=Q7j hT hs hr;exact⟨hs.defers,v,k1,v,g'.ren ρ,rfl,k2.ren hF h1,Q6a (Q4X hF h1 k3 e1 a1) h6,Q5x hF h1 h2 h3 k4⟩
  cases e with
  |normal=>exact fin rfl hq
  |ret=>exact fin rfl hq
  |exit i=>exact(show False from hq).elim
  |pan v=>exact(by have hq:FinOk ob res ob' (.pan v) s:=hq;unfold FinOk at hq;rw[ht v rfl]at hq;exact hq.elim)
 ·simp;omega
 ·show ARel w g ob _ (lk t (ent 0 args))
  rw[Q9w];simp only[Nat.zero_le,if_true,Nat.sub_zero];by_cases ht:t<args.length
  ·rw[List.getD_eq_getElem?_getD,getElem?_eq_getElem ht,Option.getD_some]
   have e:(vs.toArray++Array.replicate (fn.ntmps-vs.toArray.size) undef).getD t undef=vs[t]'(by omega):=by
    rw[Array.getD_eq_getD_getElem?,Array.getElem?_append_left (by simp;omega)]
    simp[show t<vs.length by omega]
   rw[e];exact(hL.2 t _ _ (getElem?_eq_getElem (by omega)) (getElem?_eq_getElem ht)).to
  ·rw[List.getD_eq_getElem?_getD,List.getElem?_eq_none (by omega)]
   trivial
theorem Qke{P:Program}{ty:Tys}(hT:TyOk P ty)(hm:P.follows .mixedOrders=true){cs:Nat->List AV->List Ob->Option (AV×List Ob)}{ord:Nat->OT}
  {f:Nat} {fn:Func} {c:Code} {args:List AV} {ob:List Ob} {res:AV} {ob':List Ob} (hf:P.funcs[f]?=some fn) (hb:fn.body=some c) (he:∀vs w,(callFunc f vs).run P w=.ok (.enter f vs) w)
  (hn:args.length<=fn.ntmps) (hd:Q1g fn.ntmps c=true) (ho:Q1e .any ty ord c=true)
  (h:∀w0 g0,(QU std ty cs ord c (Q5o std ty false fn.results.toList) ⟨ent 0 args,ob⟩).ok [] P w0 g0 ob fn.ntmps (FinOk ob res ob')):BCall P f args ob res ob' :=
 Q8j false hT hm hf hb he hn hd ho h
def tiB(P:Program)(x:TI):Bool:=x.zero.length == x.size&&(x.agg||x.size == 1)&&decide (x.bytes<=140000)&&x.flds.all (fun f=>(P.info? f.2).isSome)&&x.zero.all (·.oneCell')&&x.ok
theorem TiOk.of{P:Program}{t:Nat}{x:TI}(h1:(P.info? t).map (fun i=>(i.size,i.bytes,i.zero.map (·.cells.toList),i.zero.map Qlw))=some (x.size,x.bytes,some x.zero,some x.agg))
  (h2:(P.underlying t).map Q1E=some (x.agg,x.elem,x.flds,x.kind,x.sl,x.kd)) (hb:tiB P x=true) (h4:(P.underlying t).map QnD=some x.key):TiOk P t x:=by
 simp only[tiB,Bool.and_eq_true,Bool.or_eq_true,beq_iff_eq,decide_eq_true_eq]at hb;obtain⟨⟨⟨⟨⟨b1,b2⟩,b4⟩,b5⟩,b6⟩,b7⟩:=hb;exact⟨h1,h2,b1,fun h=>b2.resolve_left (by rw[h];simp),b4,b5,b6,b7,h4⟩
theorem TyOk.nil{P:Program}:Qdq P []:=fun _ _ h=>by cases h
theorem TyOk.cons{P:Program}{t:Nat}{x:TI}{r:List (Nat×TI)}(h:TiOk P t x)(hr:Qdq P r):Qdq P ((t,x)::r):=fun u y hu=>by
 rcases List.mem_cons.1 hu with h1|h1
 ·cases h1;exact h
 ·exact hr u y h1
section
variable {P:Program}{ty:Tys}{Df:List Deferred}{w0 w:World}{g0:Gh}{o0:List Ob}{N:Nat}{s s':St}{a:Act}
theorem QcA(ρ:List (Option Nat)){l:Eqs}(h:Q33 o0 ρ s s'=some l)(hl:Qf l)(hs:Sim Df w0 g0 o0 N s a w):Sim Df w0 g0 o0 N s' a w:=by
 unfold Q33 at h;split at h
 ·rename_i hk
  obtain⟨ho,hh,hn⟩:=hk;obtain⟨⟨l1,h1,vu⟩,l2,h2,gQ⟩:=Q1y h hl;have hF:Fits s.ob s'.ob ρ:=Q2B _ _ _ h2 gQ;obtain⟨g,M,hS,h0⟩:=hs.rel
  have head:∀j,j<o0.length->ρ[j]?=some (some j):=fun j hj=>by
   have:=all_eq_true.1 hh j (mem_range.2 hj)
   simp only[Bool.and_eq_true,beq_iff_eq]at this;exact this.1
  refine⟨hs.defers,hs.size,g.ren ρ,M.ren hF ho,fun t=>?_,?_⟩
  ·have:∀(l:List (Nat×AV)) (q:Eqs),Qnp s s' ρ l=some q->Qf q->ARel w (g.ren ρ) s'.ob (a.tmps.getD t undef) (lk t l):=by
    intro l;induction l with
    |nil=>intro _ _ _;trivial
    |cons p r ih =>
     obtain⟨u,x'⟩:=p;intro q hq hql;obtain⟨⟨q1,e1,a1⟩,q2,e2,a2⟩:=Q1y hq hql;show ARel w (g.ren ρ) s'.ob _ (if t=u then x' else lk t r);by_cases e:t=u
     ·subst e
      rw[if_pos rfl];exact Q7D hF ho (hS t) e1 a1
     ·rw[if_neg e];exact ih q2 e2 a2
   exact this _ _ h1 vu
  ·refine⟨h0.os,h0.tape,h0.output,h0.size,h0.keep,fun b id hG=>?_,h0.imm,⟨h0.ext.A,fun id hid=>?_,fun id hb=>?_,fun id hb=>?_,fun id et sz fz e xs hr=>?_,fun b id hG hs=>?_⟩,?_⟩
   ·obtain⟨i,_,h3⟩:=Q2E hG
    exact h0.own b i h3
   ·rw[Q1v (head id hid)];exact h0.ext.loc id hid
   ·exact hF.isB (head id (Q2O hb)) (h0.ext.isb id hb)
   ·exact hF.isI (head id (Q3X hb)) (h0.ext.isi id hb)
   ·have hid:=Q4 hr
    obtain⟨fz1,e1,xs1,h3,h4,h5⟩:=h0.ext.row id et sz fz e xs hr;obtain⟨fz2,e2,h6,_⟩:=hF.row (head id hid) h3
    have he:e1=e2\/e<e2:=by
     have:=all_eq_true.1 hh id (mem_range.2 hid)
     simp only[Bool.and_eq_true,hr,h3,h6,beq_iff_eq,Bool.or_eq_true,decide_eq_true_eq]at this;exact this.2
    rcases he with he|he
    rotate_left
    ·exact⟨fz2,e2,xs1,h6,by omega,fun qS=>by omega⟩
    subst he;exact⟨fz2,e1,xs1,h6,h4,fun qS=>(h5 qS).turn (fun b hb=>⟨hb,rfl⟩) (fun b _ hb=>Q4Y ho (head id hid) hb) rfl⟩
   ·obtain⟨et,sz,fz,fz',e,xs,xs',h3,h4⟩:=hs
    have hid:=Q4 h3;obtain⟨fz1,e1,xs1,h5,h6,h7⟩:=h0.ext.row id et sz fz e xs h3;obtain⟨fz2,e2,h8,_⟩:=hF.row (head id hid) h5;rw[h8]at h4;obtain⟨rfl,rfl,rfl⟩:fz2=fz'/\e2=e/\xs1=xs':=by simpa using h4
    have he:e1=e2:=by
     have:=all_eq_true.1 hh id (mem_range.2 hid)
     simp only[Bool.and_eq_true,h3,h5,h8,beq_iff_eq,Bool.or_eq_true,decide_eq_true_eq]at this;omega
    subst he;obtain⟨h9,qX⟩:=h0.ext.sub b id hG ⟨_,_,_,_,_,_,_,h3,h5⟩;have v8:=Q3a (g:=g) ho (head id hid) ((h7 rfl).G hG);exact⟨v8.trans h9,qX⟩
   ·rw[<-hF.1];exact hn
 ·cases h
end
theorem Qkc(p:Nat->Prop)(h:∃n,p n):∃n,p n/\∀m,p m->n<=m:=by
 obtain⟨n,hn⟩:=h;induction n using Nat.strongRecOn with
 |_ n ih =>
  by_cases h:∃m,m<n/\p m
  ·obtain⟨m,h1,h2⟩:=h
   exact ih m h1 h2
  ·exact⟨n,hn,fun m hm=>Nat.le_of_not_lt fun jE=>h ⟨m,jE,hm⟩⟩
def QkR(o0:List Ob)(s s':St):Prop:=∃ρ l,Q33 o0 ρ s s'=some l/\Qf l
section
variable {P:Program}{ty:Tys}{Df:List Deferred}{w0:World}{g0:Gh}{o0:List Ob}{N:Nat}
def Q2z{X:Type}(o0:List Ob)(S:X->St)(J:X->Prop)(μ:X->Nat)(x:X)(Q:Ex->St->Prop):Ex->St->Prop
 |.normal,s=>∃x',J x'/\μ x'<μ x/\QkR o0 s (S x')
 |e,s=>Q e s
theorem Q8f(hT:TyOk P ty)(hm:P.follows .mixedOrders=true){cs:Nat->List AV->List Ob->Option (AV×List Ob)}{ord:Nat->OT}{c:Code}(hd:Q1g N c=true)(ho:Q1e .any ty ord c=true)
  {X:Type} (S:X->St) (J:X->Prop) (μ:X->Nat) {Q:Ex->St->Prop} {s:St} (x0:X) (h0:J x0) (hS:QkR o0 s (S x0))
  (round:∀x,J x->(QU std ty cs ord c (fun e s=>.leaf e s) (S x)).ok Df P w0 g0 o0 N (Q2z o0 S J μ x Q)):WP Df P w0 g0 o0 N (.loop c) Q s:=by
 intro a w hs;obtain⟨ρ,l,hl,hE⟩:=hS;let I:Act->World->Prop:=fun a w=>∃x,J x/\Sim Df w0 g0 o0 N (S x) a w
 let pm:Act->World->Nat->Prop:=fun a w n=>∃x,J x/\Sim Df w0 g0 o0 N (S x) a w/\μ x=n
 let m:Act->World->Nat:=fun a w=>open Classical in if h:∃n,pm a w n then Classical.choose (Qkc _ h)else 0
 have zb:∀a w,I a w->pm a w (m a w)/\∀k,pm a w k->m a w<=k:=fun a w hI=>by
  have h:∃n,pm a w n:=by
   obtain⟨x,h1,h2⟩:=hI;exact⟨μ x,x,h1,h2,rfl⟩
  have e:m a w=Classical.choose (Qkc _ h):=dif_pos h;rw[e];exact Classical.choose_spec (Qkc _ h)
 refine wp_loop I m ⟨x0,h0,QcA ρ hl hE hs⟩ fun a w hI=>?_
 obtain⟨⟨x,hJ,hx,hμ⟩,jF⟩:=zb a w hI;refine Q2n (Q:=Q2z o0 S J μ x Q) hT hm c _ _ (S x) a w hd ho (fun c a d v w h=>?_) (fun e s a' w' ht jf hq=>?_) (fun v s a w ht hs h=>⟨.pan v,s,rfl,fun _ _=>ht,hs,h⟩) hx (round x hJ)
 ·obtain⟨e',s',h1,ht,h2,h3⟩:=h
  cases e'<;>cases h1
  have et:s'.tm=[]:=ht _ rfl;obtain⟨g,M,_,h0⟩:=h2.rel;exact⟨.pan _,s',rfl,ht,⟨h2.defers,by have:=h2.size;simpa[Act.put]using this,g,M,fun t=>by rw[et];trivial,h0⟩,h3⟩
 ·cases e with
  |normal =>
   obtain⟨x',h1,h2,ρ',l',h3,h4⟩:=hq;have qN:=QcA ρ' h3 h4 jf;have hI':I a' w':=⟨x',h1,qN⟩;refine⟨hI',Nat.lt_of_le_of_lt ((zb a' w' hI').2 _ ⟨x',h1,qN,rfl⟩) ?_⟩;rw[<-hμ];exact h2
  |exit i=>exact⟨.exit i,s,rfl,ht,jf,hq⟩
  |ret=>exact⟨.ret,s,rfl,ht,jf,hq⟩
  |pan v=>exact⟨.pan v,s,rfl,ht,jf,hq⟩
end
section
variable {P:Program}{w w':World}{g:Gh}{ob:List Ob}
theorem Q1i{vs:List Value}(h:Q1D w g ob vs []):vs=[]:=List.eq_nil_of_length_eq_zero h.1
theorem Qt{vs:List Value}{x:AV}{r:List AV}(h:Q1D w g ob vs (x::r)):∃v vs',vs=v::vs'/\ARel1 w g ob v x/\Q1D w g ob vs' r:=by
 cases vs with
 |nil=>exact absurd h.1 (by simp)
 |cons v vs=>exact⟨v,vs,rfl,h.2 0 v x rfl rfl,by simpa using h.1,fun j a b ha hb=>h.2 (j+1) a b (by simpa using ha) (by simpa using hb)⟩
theorem Q1G{v u:Value}(h:ARel1 w g ob v (.val u)):v=u:=ARel.valEq (ARel1.to h)
theorem QfA{v:Value}{sz:Nat}{xs:List AV}(h:ARel1 w g [] v (.slc sz xs))(M:Mem w g []) :
  ∃A c ys,v=.slice A xs.length c/\Rd w (fun _=>True) sz A xs.length c ys/\Alike w g.A ys (Qp xs) :=
 Q40 (s:=⟨[],[]⟩) M (ARel1.to h) rfl
theorem Q8c{A:Nat->Nat->Prop}{us:List Value}:∀{ys:List Value},Alike w A ys (us.map .val)->ys=us:=by
 induction us with
 |nil=>intro ys h;exact List.eq_nil_of_length_eq_zero h.1
 |cons u us ih =>
  intro ys h;cases ys with
  |nil=>exact absurd h.1 (by simp)
  |cons y ys =>
   have h1:PRel w A y (.val u):=h.2 0 y (.val u) rfl rfl;have h2:y=u:=by cases h1;rfl
   rw[h2,ih (ys:=ys) ⟨by simpa using h.1,fun j a b ha hb=>h.2 (j+1) a b (by simpa using ha) (by simpa using hb)⟩]
theorem Q4d(us:List Value):Qp (us.map .val)=us.map .val:=by
 induction us with
 |nil=>rfl
 |cons u us ih=>simp only[Qp,map_cons,List.flatMap_cons]at ih ⊢;rw[ih];rfl
theorem Qkw{A':Nat->Nat->Prop}{S:Nat->Prop}{sz n c:Nat}{A:Option Addr}{ys:List Value}{xs:List AV}(hr:Rd w S sz A n c ys)(hS:∀b o,S b->A' b o)(hn:n=xs.length)(hw:∀x∈xs,x.cells.length=sz)(hA:∀a,A=some a->∃b o,a=⟨b,o,none⟩)
  (jT:Alike w A' ys (Qp xs)):PRel w A' (.slice A n c) (.slc sz xs):=by
 subst hn;obtain⟨h1,h2,h3,h4,h5⟩:=hr;cases A with
 |none =>
  have hc:=h4 rfl;subst hc;have:xs=[]:=List.eq_nil_of_length_eq_zero (by omega)
  subst this;exact PRel.nil sz
 |some a =>
  obtain⟨b,o,rfl⟩:=hA a rfl
  have pos:∀(j:Nat) u,(Qp xs)[j]?=some u->0<xs.length:=fun j u hu=>by
   cases xs with
   |nil=>simp at hu
   |cons _ _=>simp
  have h5':0<xs.length->S b/\∀j u,ys[j]?=some u->w.cell? ⟨b,o+j,none⟩=some u:=fun h=>by
   obtain⟨b',o',h6,h7,h8⟩:=h5 h;cases h6;exact⟨h7,h8⟩
  have get:∀(j:Nat) u,(Qp xs)[j]?=some u->∃y,ys[j]?=some y/\ys.getD j undef=y:=fun j u hu=>by
   have hj:j<ys.length:=by rw[jT.1];exact Q4 hu
   exact⟨ys[j],getElem?_eq_getElem hj,by rw[List.getD_eq_getElem?_getD,getElem?_eq_getElem hj];rfl⟩
  refine PRel.slc b o c sz xs (fun j=>ys.getD j undef) h2 h3 hw (fun j u hu=>?_) (fun j u hu=>?_)
  ·obtain⟨y,hy,he⟩:=get j u hu
   obtain⟨h7,h8⟩:=h5' (pos j u hu);exact⟨hS _ _ h7,by rw[he];exact h8 j y hy⟩
  ·obtain⟨y,hy,he⟩:=get j u hu
   rw[he];exact jT.2 j y u hy hu
theorem Qgm:∀{vs:List Value}{xs ys:List AV},Q1D w g ob vs xs->leT xs ys->Q1D w g ob vs ys
 |vs,[],[],h,_=>h
 |_,[],_::_,_,hl=>hl.elim
 |_,_::_,[],_,hl=>hl.elim
 | [],x::r,y::r',h,_=>absurd h.1 (by simp)
 |v::vs,x::r,y::r',h,hl=>by
  have h1:=h.2 0 v x rfl rfl;have h2:Q1D w g ob vs r':=Qgm (xs:=r) ⟨by simpa using h.1,fun j a b ha hb=>h.2 (j+1) a b (by simpa using ha) (by simpa using hb)⟩ hl.2
  refine⟨by simp[h2.1],fun j a b ha hb=>?_⟩
  cases j with
  |zero =>
   obtain rfl:v=a:=by simpa using ha
   obtain rfl:y=b:=by simpa using hb
   exact Q9H h1 hl.1
  |succ j=>exact h2.2 j a b (by simpa using ha) (by simpa using hb)
theorem BCall.le{f:Nat}{args args':List AV}{ob ob':List Ob}{res:AV}(h:BCall P f args' ob res ob')(hl:leT args args'):BCall P f args ob res ob' :=
 ⟨h.1,fun w g vs M hL=>h.2 w g vs M (Qgm hL hl)⟩
theorem BCall.forget{f:Nat}{args:List AV}{ob ob':List Ob}{res:AV}(h:BCall P f args ob res ob'):BCall P f args ob .dead ob' :=
 ⟨h.1,fun w g vs M hL=>(h.2 w g vs M hL).mono fun e w' ⟨v,g',h1,h2,h3,h4⟩=>⟨v,g',h1,h2,trivial,h4⟩⟩
theorem BCall.hand{f:Nat}{args:List AV}{res:AV}(he:∀vs w,(callFunc f vs).run P w=.ok (.enter f vs) w)
  (h:∀(w:World)(g:Gh)(vs:List Value),Mem w g []->Q1D w g [] vs args->Calls P f vs.toArray w fun e w'=>∃v,e=.returned v/\Below w.heap.size w w'/\ARel w' (g.imm w w') [] v res):BCall P f args [] res [] :=
 ⟨he,fun w g vs M hL=>(h w g vs M hL).mono fun e w' ⟨v,h1,hb,hr⟩=>⟨v,g.imm w w',h1,M.immNew hb,hr,Step.immNew M hb⟩⟩
end
def QnR(ob ob2 ob2' obr:List Ob)(ρ ρ':List (Option Nat)):Bool:=(List.range ob.length).all fun i=>match QgF ρ i with
 |some j=>ρ'[i]? == some (some j)&&(match ob[i]?,ob2[j]?,ob2'[j]?,obr[i]? with
  |some (.row _ _ _ e0 _),some (.row _ _ _ e2 _),some (.row _ _ _ e2' _),some (.row _ _ _ er _)=>decide (e0<er)||(e0 == er&&e2 == e2')
  |_,_,_,_=>true)
 |none=>false
section
variable {w w':World}{g g':Gh}{ob ob2 ob2' obr:List Ob}{ρ ρ':List (Option Nat)}
theorem Qh4(hF:Fits ob ob2 ρ)(ho:Q1N ρ=true)(c7:Fits ob2' obr ρ')(vn:Q1N ρ'=true)(hi:QnR ob ob2 ob2' obr ρ ρ'=true)(hn:ob.length<=obr.length)(h0:Step w (g.ren ρ) ob2 w' g' ob2'):Step w g ob w' (g'.ren ρ') obr:=by
 have head:∀i,i<ob.length->∃j,ρ[j]?=some (some i)/\ρ'[i]?=some (some j)/\∀e0 e2 e2' er et sz fz xs et2 sz2 fz2 xs2 et3 sz3 fz3 xs3 et4 sz4 fz4 xs4,
   ob[i]?=some (.row et sz fz e0 xs)->ob2[j]?=some (.row et2 sz2 fz2 e2 xs2)->ob2'[j]?=some (.row et3 sz3 fz3 e2' xs3)->obr[i]?=some (.row et4 sz4 fz4 er xs4)->e0<er\/(e0=er/\e2=e2'):=fun i gX=>by
  have:=all_eq_true.1 hi i (mem_range.2 gX)
  split at this
  ·rename_i j hj
   simp only[Bool.and_eq_true,beq_iff_eq]at this;refine⟨j,Qdk hj,this.1,?_⟩;intro e0 e2 e2' er et sz fz xs et2 sz2 fz2 xs2 et3 sz3 fz3 xs3 et4 sz4 fz4 xs4 h1 h2 h3 h4;have h5:=this.2;simp only[h1,h2,h3,h4,Bool.or_eq_true,Bool.and_eq_true,beq_iff_eq,decide_eq_true_eq]at h5;exact h5
  ·cases this
 refine⟨h0.os,h0.tape,h0.output,h0.size,fun b hb hG=>h0.keep b hb (by simp[Gh.ren,hG]),fun b id hG=>?_,fun b o hA=>?_,⟨h0.ext.A,fun id hid=>?_,fun id hb=>?_,fun id hb=>?_,fun id et sz fz e xs hr=>?_,fun b id hG hs=>?_⟩,hn⟩
 ·obtain⟨i,_,h3⟩:=Q2E hG
  rcases h0.own b i h3 with ⟨id',h4⟩|h4
  ·obtain⟨i',_,h5⟩:=Q2E h4
   exact .inl ⟨i',h5⟩
  ·exact .inr h4
 ·rcases h0.imm b o hA with h1|⟨id,h1⟩|h1
  ·exact .inl h1
  ·obtain⟨i',_,h5⟩:=Q2E h1
   exact .inr (.inl ⟨i',h5⟩)
  ·exact .inr (.inr h1)
 ·obtain⟨j,h1,h2,_⟩:=head id hid
  have hj:j<ob2.length:=hF.1 ▸ Q4 h1;rw[Q1v h2,h0.ext.loc j hj,Q1v h1]
 ·obtain⟨j,h1,h2,_⟩:=head id (Q2O hb)
  exact c7.isB h2 (h0.ext.isb j (hF.isB h1 hb))
 ·obtain⟨j,h1,h2,_⟩:=head id (Q3X hb)
  exact c7.isI h2 (h0.ext.isi j (hF.isI h1 hb))
 ·obtain⟨j,h1,h2,h3⟩:=head id (Q4 hr)
  obtain⟨fz2,e2,h4,_⟩:=hF.row h1 hr;obtain⟨fz3,e3,xs3,h5,h6,h7⟩:=h0.ext.row j et sz fz2 e2 xs h4;obtain⟨fz4,e4,h8,_⟩:=c7.row h2 h5;refine⟨fz4,e4,xs3,h8,by rcases h3 _ _ _ _ _ _ _ _ _ _ _ _ _ _ _ _ _ _ _ _ hr h4 h5 h8 with h|h<;>omega,fun he=>?_⟩
  have qS:e3=e2:=by
   rcases h3 _ _ _ _ _ _ _ _ _ _ _ _ _ _ _ _ _ _ _ _ hr h4 h5 h8 with h|h
   ·omega
   ·exact h.2.symm
  exact(h7 qS).turn (fun b hb=>⟨Q4Y ho h1 hb,Q3a ho h1 hb⟩) (fun b _ v8=>Q4Y vn h2 v8) rfl
 ·obtain⟨et,sz,fz,fz',e,xs,xs',h4,h5⟩:=hs
  obtain⟨j,h1,h2,h3⟩:=head id (Q4 h4);obtain⟨fz2,e2,h6,_⟩:=hF.row h1 h4;obtain⟨fz3,e3,xs3,h7,h8,h9⟩:=h0.ext.row j et sz fz2 e2 xs h6;obtain⟨fz4,e4,qX,_⟩:=c7.row h2 h7;rw[qX]at h5;obtain⟨rfl,rfl,rfl⟩:fz4=fz'/\e4=e/\xs3=xs':=by simpa using h5
  have qS:e2=e3:=by
   rcases h3 _ _ _ _ _ _ _ _ _ _ _ _ _ _ _ _ _ _ _ _ h4 h6 h7 qX with h|h
   ·omega
   ·exact h.2
  subst qS;have xg:=Q4Y (g:=g) ho h1 hG;obtain⟨v8,gC⟩:=h0.ext.sub b j xg ⟨_,_,_,_,_,_,_,h6,h7⟩;have hG3:=(h9 rfl).G xg;have e1:=Q3a (g:=g) ho h1 hG;have e2:=Q3a (g:=g') vn h2 hG3;exact⟨e2.trans (v8.trans e1),fun hb=>gC (by rw[e1];exact hb)⟩
theorem BCall.tell{P:Program}{f:Nat}{args args2:List AV}{res2 res' res:AV}{l l':Eqs}(h:BCall P f args2 ob2 res2 ob2')(ρ ρ':List (Option Nat))(h1:Q1N ρ=true)(vl:Q1N ρ'=true)(hi:QnR ob ob2 ob2' obr ρ ρ'=true)(hn:ob.length<=obr.length)
  (ha:both (QaT ob ob2 ρ args args2) (Q7C ob ob2 ρ ρ ob2)=some l) (hl:Qf l) (hr:both (QgI ob2' obr ρ' res2 res') (Q7C ob2' obr ρ' ρ' obr)=some l') (pS:Qf l') (h6:leA res' res):BCall P f args ob res obr:=by
 refine⟨h.1,fun w g vs M hL=>?_⟩
 obtain⟨⟨l1,e1,a1⟩,l2,e2,a2⟩:=Q1y ha hl;obtain⟨⟨l3,e3,a3⟩,l4,e4,a4⟩:=Q1y hr pS;have hF:Fits ob ob2 ρ:=Q2B _ _ _ e2 a2;have c7:Fits ob2' obr ρ':=Q2B _ _ _ e4 a4;obtain⟨k1,k2⟩:=Q7S hF h1 _ _ _ _ e1 a1 hL.1 hL.2;refine(h.2 w (g.ren ρ) vs (M.ren hF h1) ⟨k1,k2⟩).mono fun e w' ⟨v,g',k1,k2,k3,k4⟩=>?_
 exact⟨v,g'.ren ρ',k1,k2.ren c7 vl,Q6a (Q4X c7 vl k3 e3 a3) h6,Qh4 hF h1 c7 vl hi hn k4⟩
end
section
variable {P:Program}{ty:Tys}{Df:List Deferred}{w0:World}{g0:Gh}{o0:List Ob}{N:Nat}
end
