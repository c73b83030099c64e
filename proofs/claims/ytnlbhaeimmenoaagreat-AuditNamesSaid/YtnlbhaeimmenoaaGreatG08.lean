/- Lemmas, conditions told -/
import Derived.Test.YtnlbhaeimmenoaaGreatG07
import Derived.Laws.Sem
import Derived.Test.YtnlbhaeimmenoaaGreatProg
set_option maxRecDepth 99999
set_option maxHeartbeats 0
set_option linter.unusedSimpArgs false
set_option linter.unusedVariables false
namespace Go.Proofs.YtnlbhaeimmenoaaGreat
open List(all_eq_true getElem?_map mem_map mem_range map_cons all_cons getElem?_eq_getElem)
open Option(map_eq_some_iff)
section
open Go.RowKit Go.Lib
section
variable {P:Program}{ty:Tys}{w0:World}{g0:Gh}{o0:List Ob}{N:Nat}{Q:Ex->St->Prop}{w w':World}{g g':Gh}{ob ob':List Ob}
theorem ARel.to1'{v:Value}{x:AV}(h:ARel w g ob v x)(hl:∀xs,x≠.tup xs):ARel1 w g ob v x:=by cases x<;>first|exact h|exact absurd rfl (hl _)
theorem QaQ{o:Oper}{a:Act}{w:World}{f:Operand}{args:Array Operand}{tys:Array TypeId}{h:Nat}(ho:o.op=.call { callee:=.value f,args:=args,argTypes:=tys })(hf:a.eval f=.func (.func h) #[] #[])
  (he:∀vs w,(callFunc h vs).run P w=.ok (.enter h vs) w):(execOp a.eval o).run P w=.ok (.enter h (args.map a.eval)) w:=by
 simp only[execOp,ho,resolve,hf,Deferred.ofValue,Sem.run_bind,Sem.run_pure,Result.andThen_ok,invoke];rw[he];simp
theorem Q8l{f:Operand}{xs vs:List AV}{ob ob':List Ob}(h:Qf6 std f ob xs=some (vs,ob')):(∀x∈xs,x.live=true) /\
  ∀(w:World)(g:Gh)(us:List Value),Mem w g ob->Q2R w g ob us xs->∃g',Mem w g' ob'/\Ext w g ob w g' ob'/\Q2R w g' ob' us vs/\GhLe g g' ob ob':=by
 unfold Qf6 at h;split at h
 ·split at h
  ·rename_i hl
   obtain⟨rfl,rfl⟩:xs=vs/\ob=ob':=by simpa using h
   exact⟨fun x hx=>all_eq_true.1 hl x hx,fun w g us M L=>⟨g,M,Ext.refl,L,GhLe.refl⟩⟩
  ·cases h
 ·exact⟨Q75 _ _ _ _ h,fun w g us M L=>QmN _ _ g ob vs ob' M L h⟩
theorem QhZ{K:St->Tree}{o:Oper}{s:St}{a:Act}{w:World}{R:Exit->Act->World->Prop}(hs:Sim w0 g0 o0 N s a w)(hd:∀t,o.dst=some t->t<N)
  {f:Operand} {args:Array Operand} {tys:Array TypeId} {h:Nat} (ho:o.op=.call { callee:=.value f,args:=args,argTypes:=tys }) (hf:ev s f=.val (.func (.func h) #[] #[]))
  {vs:List AV} {ob:List Ob} (he:Qf6 std f s.ob (args.toList.map (ev s))=some (vs,ob)) {ρ:List Nat} (xG:Q2w (ρ.map some)=true) (zV:there ob ρ=true)
  (hq:Qo1 f=true\/tys.toList.any (Qp8 ty)=true\/ρ.isEmpty=true) {res:AV} {ob':List Ob} (jH:ρ.length<=ob'.length) (hc:BCall P h (vs.map (inA ob ρ)) (Q4p ob ρ) res ob')
  (jA:(K (St.put ⟨s.tm,Q5j ob ρ ob'⟩ o.dst (QlP ob ρ res))).ok P w0 g0 o0 N Q):o.wp P a w (Q3U ty P w0 g0 o0 N Q K o.op w) R:=by
 obtain⟨g,M,hS,h0⟩:=hs.rel;have qy:=QE hS f;rw[hf]at qy
 have hL:Q2R w g s.ob (args.toList.map a.eval) (args.toList.map (ev s)):=by
  refine⟨by simp,fun j v x hv hx=>?_⟩
  rw[getElem?_map,map_eq_some_iff]at hv hx;obtain⟨q,hq,rfl⟩:=hv;obtain⟨q',gk,rfl⟩:=hx;rw[hq]at gk;cases gk;exact(QE hS q).to1 ((Q8l he).1 _ (mem_map.2 ⟨q,List.mem_of_getElem? hq,rfl⟩))
 obtain⟨g1,M1,E1,L1,G1⟩:=(Q8l he).2 w g _ M hL;have jc:=QaQ (P:=P) (w:=w) ho qy.valEq hc.1;unfold Oper.wp;rw[jc];show Calls P h (args.map a.eval) w _;have hargs:args.map a.eval=(args.toList.map a.eval).toArray:=by apply Array.ext';simp
 rw[hargs];refine(hc.2 w (g1.ren (ρ.map some)) _ (QfL M1 xG zV) ⟨by simp[L1.1],fun j v x hv hx=>?_⟩).mono ?_
 ·rw[getElem?_map,map_eq_some_iff]at hx
  obtain⟨x',vz,rfl⟩:=hx;have h1:=L1.2 j v x' hv vz;have h2:=Qdu xG zV h1.to;cases x' with
  |agg cs=>exact h2
  |tup _=>exact(show False from h1).elim
  |box i o=>exact h2.to1' (by simp only[inA,inC];split<;>simp)
  |iter i=>exact h2.to1' (by simp only[inA,inC];split<;>simp)
  |row i e=>exact h2.to1' (by simp only[inA,inC];split<;>(try split)<;>(try split)<;>simp)
  |_=>exact h2
 rintro e w' ⟨v,g2,rfl,M2,R2,S2⟩;have C:CallAt w g1 ob ρ w' g2 ob':=⟨xG,zV,jH,M1,M2,S2⟩;have yN:Q1q w g1 ⟨s.tm,ob⟩ a:=fun t=>(hS t).ext E1
 have jO:Sim w0 g0 o0 N ⟨s.tm,ob⟩ a w:=⟨hs.defers,hs.size,g1,M1,yN,h0.trans (Step.ghost E1 G1)⟩;refine⟨fun hqu=>?_,_,Q1z (s:=⟨s.tm,ob⟩) jO yN (h0.trans (Step.ghost E1 G1)) C.mem C.step hd (C.rel R2),jA⟩
 rcases hq with hq|hq|hq
 ·simp[ho,Q3f,hq]at hqu
 ·simp[ho,Q3f,hq]at hqu
 ·have hr:ρ=[]:=by simpa using hq
  subst hr
  exact⟨S2.os,S2.tape,S2.output,S2.size,fun b hb=>S2.keep b hb (by
   cases hx:(g1.ren (([]:List Nat).map some)).G b with
   |none=>rfl
   |some j =>
    obtain⟨i,hi,_⟩:=Q33 hx;simp at hi)⟩
theorem QlR{K:St->Tree}{o:Oper}{s:St}{a:Act}{w:World}{R:Exit->Act->World->Prop}(hs:Sim w0 g0 o0 N s a w)(hP:∀v s a w,s.tm=[]->Sim w0 g0 o0 N s a w->Q (.pan v) s->R (.panic [{ v:=v,recovered:=false }]) a w)
  {f:Operand} {args:Array Operand} {tys:Array TypeId} {h:Nat} (ho:o.op=.call { callee:=.value f,args:=args,argTypes:=tys }) (hf:ev s f=.val (.func (.func h) #[] #[]))
  {vs:List AV} {ob:List Ob} (he:Qf6 std f s.ob (args.toList.map (ev s))=some (vs,ob)) {ρ:List Nat} (xG:Q2w (ρ.map some)=true) (zV:there ob ρ=true)
  {x:Value} (hc:Qqp P h (vs.map (inA ob ρ)) (Q4p ob ρ) x) (hq:∀ob',Q (.pan x) ⟨[],ob'⟩):o.wp P a w (Q3U ty P w0 g0 o0 N Q K o.op w) R:=by
 obtain⟨g,M,hS,h0⟩:=hs.rel;have qy:=QE hS f;rw[hf]at qy
 have hL:Q2R w g s.ob (args.toList.map a.eval) (args.toList.map (ev s)):=by
  refine⟨by simp,fun j v x hv hx=>?_⟩
  rw[getElem?_map,map_eq_some_iff]at hv hx;obtain⟨q,hq,rfl⟩:=hv;obtain⟨q',gk,rfl⟩:=hx;rw[hq]at gk;cases gk;exact(QE hS q).to1 ((Q8l he).1 _ (mem_map.2 ⟨q,List.mem_of_getElem? hq,rfl⟩))
 obtain⟨g1,M1,E1,L1,G1⟩:=(Q8l he).2 w g _ M hL;have jc:=QaQ (P:=P) (w:=w) ho qy.valEq hc.1;unfold Oper.wp;rw[jc];show Calls P h (args.map a.eval) w _;have hargs:args.map a.eval=(args.toList.map a.eval).toArray:=by apply Array.ext';simp
 rw[hargs];refine(hc.2 w (g1.ren (ρ.map some)) _ (QfL M1 xG zV) ⟨by simp[L1.1],fun j v x hv hx=>?_⟩).mono ?_
 ·rw[getElem?_map,map_eq_some_iff]at hx
  obtain⟨x',vz,rfl⟩:=hx;have h1:=L1.2 j v x' hv vz;have h2:=Qdu xG zV h1.to;cases x' with
  |agg cs=>exact h2
  |tup _=>exact(show False from h1).elim
  |box i o=>exact h2.to1' (by simp only[inA,inC];split<;>simp)
  |iter i=>exact h2.to1' (by simp only[inA,inC];split<;>simp)
  |row i e=>exact h2.to1' (by simp only[inA,inC];split<;>(try split)<;>(try split)<;>simp)
  |_=>exact h2
 rintro e w' ⟨g2,ob',rfl,M2,S2⟩;have jH:ρ.length<=ob'.length:=by have:=S2.len;simpa[Q4p]using this
 have C:CallAt w g1 ob ρ w' g2 ob':=⟨xG,zV,jH,M1,M2,S2⟩;exact hP x ⟨[],Q5j ob ρ ob'⟩ a w' rfl ⟨hs.defers,hs.size,_,C.mem,fun _=>trivial,(h0.trans (Step.ghost E1 G1)).trans C.step⟩ (hq _)
theorem QdK(hT:TyOk P ty){cs:Nat->List AV->List Ob->Option (AV×List Ob)}{K:St->Tree}{o:Oper}{s:St}{a:Act}{w:World}{R:Exit->Act->World->Prop}(hs:Sim w0 g0 o0 N s a w)(hd:∀t,o.dst=some t->t<N)(hP:∀v s a w,s.tm=[]->Sim w0 g0 o0 N s a w->Q (.pan v) s->R (.panic [{ v:=v,recovered:=false }]) a w)
  (jA:(aop std ty cs K o s).ok P w0 g0 o0 N Q):o.wp P a w (Q3U ty P w0 g0 o0 N Q K o.op w) R:=by
 have still:∀{s:St},Sim w0 g0 o0 N s a w->∀{q:Option DP}{v:AV},Q2M std ty s o.op=some (q,v)->(∀r,q=some r->r)->(K (St.put s o.dst v)).ok P w0 g0 o0 N Q->o.wp P a w (Q3U ty P w0 g0 o0 N Q K o.op w) R :=
  fun hs _ _ h hq hk=>QdB hs hd (fun g M hS=>Q7l hT hS M h hq) hk
 -- what stands behind 'aval'
 have rest0:∀{s:St},Sim w0 g0 o0 N s a w->(Q37 std ty K o s o.op).ok P w0 g0 o0 N Q->o.wp P a w (Q3U ty P w0 g0 o0 N Q K o.op w) R:=by
  intro s hs h;unfold Q37 at h;split at h
  ·rename_i v hv
   exact still hs hv (fun r h=>by cases h) h
  ·rename_i q v hv
   exact still hs hv (fun r hr=>by cases hr;exact h.1) h.2
  ·split at h
   ·rename_i src dst x ho
    split at h
    ·rename_i b hb
     split at h
     ·rename_i hk
      exact QkC hT hs hd ho hb hk.1 hk.2.1 hk.2.2 h.1 h.2
     ·exact h.elim
    ·rename_i id ep hx
     split at h
     ·rename_i et sz e xs jQ
      split at h
      ·rename_i hk
       obtain⟨rfl,rfl,rfl,jT,j1⟩:=hk;exact Qn9 hT hs hd ho hx jQ jT j1 h.1 h.2
      ·exact h.elim
     ·exact h.elim
    ·exact h.elim
   ·exact h.elim
 have rest:(Q37 std ty K o s o.op).ok P w0 g0 o0 N Q->o.wp P a w (Q3U ty P w0 g0 o0 N Q K o.op w) R:=rest0 hs;obtain⟨op,ho⟩:∃op,o.op=op:=⟨_,rfl⟩;cases op with
 |binOp op T x y T' =>
  rcases QhX (w:=w) (a:=a) hT ho jA with h|⟨z,h1,h2⟩
  ·exact rest h
  ·exact QdB hs hd (fun g M hS=>h2 g _ hS) h1
 |assign x =>
  simp only[aop,ho]at jA;exact rest0 (Q7E x hs) (by rw[ho];exact jA)
 |slice T x lo hi m =>
  cases lo with
  |none=>exact rest (by rw[ho];simpa only[aop,ho]using jA)
  |some l =>
   simp only[aop,ho]at jA;exact rest0 (Qee x hs) (by rw[ho];exact jA)
 |alloc T =>
  simp only[aop,ho]at jA;split at jA
  ·rename_i hk;exact Qm7 hT hs hd ho hk jA
  ·exact jA.elim
 |box T x =>
  simp only[aop,ho]at jA;split at jA
  ·rename_i hk;exact QpI hs hd ho hk jA
  ·exact jA.elim
 |store T x y =>
  simp only[aop,ho]at jA;have hs:=Q7E y hs;generalize Qbc std s y=s1 at jA hs;unfold Q8h at jA;split at jA
  ·rename_i id off hx
   split at jA
   ·rename_i c hb
    split at jA
    ·rename_i hk
     exact QmA hT hs hd ho hx hb hk.1 hk.2.1 hk.2.2.1 hk.2.2.2 jA
    ·exact jA.elim
   ·exact jA.elim
  ·rename_i id ep i off hx
   split at jA
   ·rename_i et sz e xs hb
    split at jA
    ·rename_i hk
     exact QiL hT hs hd ho hx hb hk.1 hk.2.1 hk.2.2.1 hk.2.2.2.1 hk.2.2.2.2.1 hk.2.2.2.2.2.1 hk.2.2.2.2.2.2 jA
    ·exact jA.elim
   ·exact jA.elim
  ·exact jA.elim
 |buildSlice T len parts =>
  simp only[aop,ho]at jA;split at jA
  ·rename_i xs ob he
   split at jA
   ·rename_i hk
    exact Qbr hT hs hd ho he hk.1 hk.2.1 hk.2.2.1 hk.2.2.2.1 hk.2.2.2.2.1 hk.2.2.2.2.2.1 hk.2.2.2.2.2.2 jA
   ·exact jA.elim
  ·exact jA.elim
 |makeMap T r =>
  cases r with
  |none=>exact Qgj hs hd ho (by simpa only[aop,ho]using jA)
  |some _=>simp[aop,ho,Q37,Q2M,Tree.ok]at jA
 |lookup T x i c=>exact Qn1 hT hs hd ho (by simpa only[aop,ho]using jA)
 |mapUpdate T m i x=>exact Qia hT hs hd ho (by simpa only[aop,ho]using jA)
 |range T x =>
  simp only[aop,ho]at jA;split at jA
  ·rename_i b hb
   split at jA
   ·rename_i hk;exact Qk0 hT hs hd ho hb hk jA
   ·exact jA.elim
  ·rename_i id hi
   split at jA
   ·rename_i es jQ
    split at jA
    ·rename_i hk;exact Qio hT hs hd ho hi jQ hk jA
    ·exact jA.elim
   ·exact jA.elim
  ·exact jA.elim
 |next it b =>
  cases b with
  |false =>
   simp only[aop,ho]at jA;split at jA
   ·rename_i id hi
    split at jA
    ·rename_i m es seen _ jQ
     split at jA
     ·rename_i es2 xF
      exact QkK hs hd ho hi jQ xF jA.1 jA.2.1 jA.2.2
     ·exact jA.elim
    ·exact jA.elim
   ·exact jA.elim
  |true =>
   simp only[aop,ho]at jA;split at jA
   ·rename_i id hi
    split at jA
    ·rename_i b pos jQ
     exact Qoq hs hd ho hi jQ jA.1 jA.2
    ·exact jA.elim
   ·exact jA.elim
 |entry it =>
  simp only[aop,ho]at jA;split at jA
  ·rename_i id hi
   split at jA
   ·rename_i m es seen j q jQ
    split at jA
    ·rename_i es2 xF
     exact QiD hs hd ho hi jQ xF jA.1 jA.2.1 jA.2.2
    ·exact jA.elim
   ·exact jA.elim
  ·exact jA.elim
 |call c =>
  obtain⟨callee,args,tys⟩:=c;cases callee with
  |builtin b =>
   cases b with
   |append =>
    simp only[aop,ho]at jA;split at jA
    ·rename_i x y T U ha ht
     split at jA
     ·rename_i sz news zk
      split at jA
      ·rename_i jv
       obtain⟨gN,jv⟩:=jv;have jf:0<sz:=by obtain⟨e,_,_,_,_,h⟩:=Q4O hT jv;exact h
       split at jA
       ·rename_i hx
        have jH:s.ob.length=s.ob.length:=rfl
        have vy:(s.ob++[Ob.row (Q2 T ty).elem sz false 0 []]).set s.ob.length (.row (Q2 T ty).elem sz false (0+1) (std.app [] news))=s.ob++[.row (Q2 T ty).elem sz false 1 (std.app [] news)]:=by
         rw[List.set_append_right _ _ (Nat.le_refl _),Nat.sub_self];rfl
        refine Q5q hT hs hd ho ha ht (ob:=s.ob++[.row (Q2 T ty).elem sz false 0 []]) (fun g M=>⟨M.addRow jf,Ext.addRow _,Step.addRow _⟩) (id:=s.ob.length) Q3q (xs':=[]) (fun g M hS=>?_) (fun h=>by cases h) jv rfl zk gN jA.1 ?_
        ·have jk:=QE hS x
         rw[hx]at jk;rw[jk.valEq];refine⟨[],World.ownsRow_nil _ _ _ _,?_,Alike.nil,?_,?_,?_⟩
         ·intro b h;cases h
         ·intro x h;cases h
         ·intro b h;cases h
         ·intro _ j y h;simp at h
        ·rw[vy];exact jA.2
       ·rename_i id ep hx
        split at jA
        ·rename_i et sz' fz e xs jQ
         split at jA
         ·rename_i hk
          obtain⟨rfl,rfl,rfl⟩:=hk;refine Q5q hT hs hd ho ha ht (ob:=s.ob) (fun g M=>⟨M,Ext.refl,Step.refl⟩) jQ (fun g M hS=>?_) (fun _=>rfl) jv rfl zk gN jA.1 jA.2
          have jk:=QE hS x;rw[hx]at jk;obtain⟨_,et,sz,fz,e,xs,h1,h2,h3⟩:=jk;rw[jQ]at h1;cases h1;exact h3 rfl
         ·exact jA.elim
        ·exact jA.elim
       ·rename_i id ep k hx
        split at jA
        ·rename_i et sz' e xs jQ
         split at jA
         ·rename_i hk
          obtain⟨rfl,rfl,rfl⟩:=hk;refine Q5q hT hs hd ho ha ht (ob:=s.ob) (fun g M=>⟨M,Ext.refl,Step.refl⟩) jQ (xs':=std.cut xs 0 k) (fun g M hS=>?_) (fun h=>by cases h) jv rfl zk gN jA.1 jA.2
          have jk:=QE hS x;rw[hx]at jk;obtain⟨_,et,sz,fz,e,xs,h1,h2,h3⟩:=jk;rw[jQ]at h1;cases h1;have e:std.cut xs 0 k=xs.take k.toNat:=by simp[std]
          rw[e];exact(h3 rfl).2.2
         ·exact jA.elim
        ·exact jA.elim
       ·exact jA.elim
      ·exact jA.elim
     ·exact jA.elim
    ·exact jA.elim
   |_=>exact rest (by rw[ho];simpa only[aop,ho]using jA)
  |invoke _ _=>exact rest (by rw[ho];simpa only[aop,ho]using jA)
  |value f =>
   simp only[aop,ho]at jA;split at jA
   ·rename_i h ca cb hf
    split at jA
    ·rename_i pK
     obtain rfl:ca=#[]:=Array.eq_empty_of_size_eq_zero pK.1;obtain rfl:cb=#[]:=Array.eq_empty_of_size_eq_zero pK.2;split at jA
     ·rename_i vs ob he
      split at jA
      ·rename_i hk
       split at jA
       ·exact QlR hs hP ho hf he hk.1 hk.2.1 jA.1 jA.2
       ·rename_i v c res ob' hcs
        obtain⟨h1,h2⟩:=jA;cases c with
        |true =>
         have jA:=h1 rfl;split at jA
         ·rename_i jH
          exact QhZ hs hd ho hf he hk.1 hk.2.1 hk.2.2 jH jA.1 jA.2
         ·exact jA.elim
        |false=>exact QlR hs hP ho hf he hk.1 hk.2.1 (h2 rfl).1 (h2 rfl).2
       ·rename_i res ob' _ _ hcs
        split at jA
        ·rename_i jH
         exact QhZ hs hd ho hf he hk.1 hk.2.1 hk.2.2 jH jA.1 jA.2
        ·exact jA.elim
       ·exact jA.elim
      ·exact jA.elim
     ·exact jA.elim
    ·exact jA.elim
   ·exact jA.elim
 |_=>exact rest (by rw[ho];simpa only[aop,ho]using jA)
end
section
variable {P:Program}{ops:Array Oper}{Q:Exit->Act->World->Prop}{md:Region.Mode}{late:Nat->Bool}
def wpR(P:Program)(md:Region.Mode)(ops:Array Oper)(late:Nat->Bool)(Q:Exit->Act->World->Prop):Nat->Array Bool->Act->World->Prop
 |0,listed,a,w=>Region.ready md ops listed=[]/\Q .normal a w
 |n+1,listed,a,w=>(Region.ready md ops listed=[]->Q .normal a w) /\
   ∀i∈Region.ready md ops listed,wpOp P ops Q i (fun a' w'=>(late i=false->LeB w w')/\wpR P md ops late Q n (listed.setIfInBounds i true) a' w') a w
theorem QaD:∀(n:Nat)(listed:Array Bool)(a:Act)(w:World),wpR P md ops late Q n listed a w->wpAny P md ops Q n listed a w
 |0,_,_,_,h=>h
 |n+1,_,_,_,h=>⟨h.1,fun i hi=>wpOp_mono (fun a' w' h'=>QaD n _ a' w' h'.2) (h.2 i hi)⟩
def Closed(md:Region.Mode)(ops:Array Oper)(listed:Array Bool):Prop :=
 ∀(j:Nat) oj,ops[j]?=some oj->listed.getD j true=true->∀e∈oj.after,Region.binds md e=true->listed.getD e.on true=true
def anc(md:Region.Mode)(ops:Array Oper)(i:Nat):Nat->Nat->Bool
 |0,_=>false
 |n+1,j=>match ops[j]? with
  |some oj=>oj.after.any fun e=>Region.binds md e&&(e.on == i||anc md ops i n e.on)
  |none=>false
theorem Q8E{listed:Array Bool}{k:Nat}(h:listed.getD k false=true):listed.getD k true=true:=by
 rcases Nat.lt_or_ge k listed.size with h'|h'
 ·simp[h']at h ⊢;exact h
 ·simp[Nat.not_lt.2 h']at h ⊢
theorem Closed.set{listed:Array Bool}(h:Closed md ops listed){j:Nat}(hr:j∈Region.ready md ops listed):Closed md ops (listed.setIfInBounds j true):=by
 have up:∀k,listed.getD k true=true->(listed.setIfInBounds j true).getD k true=true:=fun k hk=>by
  by_cases e:j=k
  ·subst e
   rcases Nat.lt_or_ge j listed.size with h'|h'
   ·simp[h']
   ·simp[Nat.not_lt.2 h']
  ·rw[getD_set_ne true e];exact hk
 intro k ok hk hl e he hb;by_cases yt:j=k
 ·subst yt
  obtain⟨_,o,ho,qH⟩:=mem_ready.1 hr;rw[hk]at ho;cases ho;exact up _ (Q8E (qH e he hb))
 ·rw[getD_set_ne true yt]at hl
  exact up _ (h k ok hk hl e he hb)
theorem Qha{listed:Array Bool}(h:Closed md ops listed){i:Nat}(hi:listed.getD i true=false):∀(n j:Nat),anc md ops i n j=true->∀oj,ops[j]?=some oj ->
  ¬(∀e∈oj.after,Region.binds md e=true->listed.getD e.on true=true)
 |0,_,h0,_,_,_=>by cases h0
 |n+1,j,h0,oj,hj,qH=>by
  simp only[anc,hj]at h0;obtain⟨e,he,hb⟩:=Array.any_eq_true'.1 h0;simp only[Bool.and_eq_true,Bool.or_eq_true,beq_iff_eq]at hb;obtain⟨hb,h1|h1⟩:=hb
  ·have:=qH e he hb
   rw[h1,hi]at this;cases this
  ·have hl:=qH e he hb
   cases hk:ops[e.on]? with
   |none =>
    cases n<;>simp[anc,hk]at h1
   |some ok=>exact Qha h hi n e.on h1 ok hk (h e.on ok hk hl)
theorem QbQ{i:Nat}{oi:Oper}{v:Value}{rd:Bool}(hi:ops[i]?=some oi)
  (gD:∀(j:Nat)(o:Oper) cs b,ops[j]?=some o->o.op≠.select cs b)
  (hQ:∀c a w,Q (.panic c) (a.put oi.dst v) w->Q (.panic c) a w) (hli:late i=false) :
  ∀(n:Nat)(listed:Array Bool)(a:Act)(w:World),Closed md ops listed->(rd=true->∀j oj,ops[j]?=some oj->late j=true->listed.getD j true=false->anc md ops i ops.size j=true) ->
   (∀j oj,ops[j]?=some oj->j≠i->listed.getD j true=false->(∀e∈oj.after,Region.binds md e=true->e.on≠i)->oi.apart ops oj=true) ->
   i∈Region.ready md ops listed->YieldsIf P ops (fun W=>rd=true->LeB w W) oi v a ->
   wpR P md ops late Q n (listed.setIfInBounds i true) (a.put oi.dst v) w->wpR P md ops late Q (n+1) listed a w:=by
 intro n;induction n with
 |zero =>
  intro listed a w hC _ _ hr hy H;refine⟨fun h=>(by rw[h]at hr;cases hr),fun j hj=>?_⟩
  by_cases qg:j=i
  ·subst qg;exact hy.wpOp hi (fun _=>LeB.refl w) ⟨fun _=>LeB.refl w,H⟩
  ·have:=ready_mono hj qg
   rw[H.1]at this;cases this
 |succ n ih =>
  intro listed a w hC yi yd hr hy H;refine⟨fun h=>(by rw[h]at hr;cases hr),fun j hj=>?_⟩
  by_cases qg:j=i
  ·subst qg;exact hy.wpOp hi (fun _=>LeB.refl w) ⟨fun _=>LeB.refl w,H⟩
  ·have h1:=H.2 j (ready_mono hj qg)
   obtain⟨zB,oj,gy,qH⟩:=mem_ready.1 hj;have zf:=(mem_ready.1 hr).1
   have vA:∀e∈oj.after,Region.binds md e=true->e.on≠i:=fun e he hb j4=>by
    have h1:=qH e he hb;rw[j4]at h1;have:=Q8E h1
    rw[zf]at this;cases this
   have h2:=wpOp_putIf (S:=fun W=>rd=true->LeB w W) gy (yd j oj gy qg zB vA) (fun cs b=>gD i oi cs b hi) (fun cs b=>gD j oj cs b gy) hQ hy h1
   have zC:∀k ok,ops[k]?=some ok->k≠i->(listed.setIfInBounds j true).getD k true=false ->
     (∀e∈ok.after,Region.binds md e=true->e.on≠i)->oi.apart ops ok=true:=fun k ok hk kZ zf vJ=>by
    refine yd k ok hk kZ ?_ vJ;by_cases yt:j=k
    ·subst yt;exact zB
    ·rw[getD_set_ne true yt]at zf;exact zf
   refine wpOp_mono (fun a' w' h3=>?_) h2
   obtain⟨h3,h4,h5⟩:=h3;-- what is read stays
   have jJ:rd=true->LeB w w':=fun zh=>by
    refine h4 ?_;cases nH:late j with
    |false=>rfl
    |true=>exact(Qha hC zf _ _ (yi zh j oj gy nH zB) oj gy (fun e he hb=>Q8E (qH e he hb))).elim
   have xH:rd=true->∀k ok,ops[k]?=some ok->late k=true->(listed.setIfInBounds j true).getD k true=false->anc md ops i ops.size k=true:=fun zh k ok hk hl zf=>by
    refine yi zh k ok hk hl ?_;by_cases yt:j=k
    ·subst yt;exact zB
    ·rw[getD_set_ne true yt]at zf;exact zf
   refine⟨h4,ih (listed.setIfInBounds j true) a' w' (hC.set hj) xH zC (ready_mono hr (Ne.symm qg)) (YieldsIf.weaken h3 fun V hV zh=>LeB.trans _ _ _ (jJ zh) (hV zh)) ?_⟩
   rw[Array.setIfInBounds_comm _ _ qg];exact h5
end
def Q2N(ty:Tys):Op->Bool
 |.alloc _|.box _ _|.store _ _ _|.buildSlice _ _ _|.range _ _|.next _ _|.entry _|.makeMap _ _|.lookup _ _ _ _|.mapUpdate _ _ _ _=>false
 |.call { callee:=.builtin .append,.. }|.call { callee:=.value _,.. }=>false
 |.convert _ dst _=>!(Q2 dst ty).sl
 |_=>true
def Q5v(ty:Tys)(ops:Array Oper)(j:Nat):Bool:=match ops[j]? with
 |some o=>!Q3f ty o.op
 |none=>false
def OT.heads:OT->List Nat
 |.nil=>[]
 |.cons i _=>[i]
 |.fork a b=>a.heads++b.heads
def Q3H(md:Region.Mode)(ty:Tys)(ops:Array Oper):OT->Nat->Array Bool->Bool->Bool
 |.nil,n,listed,among=>n == 0&&!among&&(Region.ready md ops listed).isEmpty
 |.cons i rest,n,listed,among=>n != 0&&(match ops[i]? with
   |some o=>(if among then(Region.ready md ops listed).contains i else Region.ready md ops listed == [i]||(Q2N ty o.op&&(Region.ready md ops listed).contains i&&Region.free md ops listed i &&
     (!Q92 o.op||(List.range ops.size).all fun j=>!Q5v ty ops j||(listed.getD j true||anc md ops i ops.size j))))
   |none=>false)&&Q3H md ty ops rest (n-1) (listed.setIfInBounds i true) false
 |.fork a b,n,listed,among=>(among||(!(Region.ready md ops listed).isEmpty&&(Region.ready md ops listed).all fun i=>(OT.fork a b).heads.contains i)) &&
   Q3H md ty ops a n listed true&&Q3H md ty ops b n listed true
def Q28(md:Region.Mode)(ty:Tys)(ord:Nat->OT):Code->Bool
 |.region id ops draw=>if draw then Region.noSelect ops&&Q3H md ty ops ((ord id).or ops.size) ops.size (Array.replicate ops.size false) false else true
 |.seq a b=>Q28 md ty ord a&&Q28 md ty ord b
 |.cond _ a b=>Q28 md ty ord a&&Q28 md ty ord b
 |.block _ c=>Q28 md ty ord c
 |.loop c=>Q28 md ty ord c
 |_=>true
def Q2h(N:Nat):Code->Bool
 |.region _ ops _=>ops.all fun o=>match o.dst with|some d=>decide (d<N)|none=>true
 |.seq a b=>Q2h N a&&Q2h N b
 |.cond _ a b=>Q2h N a&&Q2h N b
 |.block _ c=>Q2h N c
 |.loop c=>Q2h N c
 |_=>true
section
variable {P:Program}{ty:Tys}{w0:World}{g0:Gh}{o0:List Ob}{N:Nat}{Q:Ex->St->Prop}
theorem Qfj(hT:TyOk P ty){cs:Nat->List AV->List Ob->Option (AV×List Ob)}{K:St->Tree}{o:Oper}{s:St}{a:Act}{w:World}(jG:Q2N ty o.op=true)
  (jA:(aop std ty cs K o s).ok P w0 g0 o0 N Q):∃s1 x,(∀a w,Sim w0 g0 o0 N s a w->Sim w0 g0 o0 N s1 a w)/\(K (St.put s1 o.dst x)).ok P w0 g0 o0 N Q/\∀g,Mem w g s1.ob->Q1q w g s1 a->Yld P w g s1 a o (Q92 o.op) x:=by
 have rest0:∀s1,(∀a w,Sim w0 g0 o0 N s a w->Sim w0 g0 o0 N s1 a w)->(Q37 std ty K o s1 o.op).ok P w0 g0 o0 N Q->∃s1 x,(∀a w,Sim w0 g0 o0 N s a w->Sim w0 g0 o0 N s1 a w)/\(K (St.put s1 o.dst x)).ok P w0 g0 o0 N Q/\∀g,Mem w g s1.ob->Q1q w g s1 a->Yld P w g s1 a o (Q92 o.op) x:=by
  intro s1 h1 h;unfold Q37 at h;split at h
  ·rename_i v hv
   exact⟨s1,v,h1,h,fun g M hS=>Q7l hT hS M hv (fun r h=>by cases h)⟩
  ·rename_i q v hv
   exact⟨s1,v,h1,h.2,fun g M hS=>Q7l hT hS M hv (fun r hr=>by cases hr;exact h.1)⟩
  ·split at h
   ·rename_i src dst x ho
    rw[ho]at jG;simp only[Q2N,Bool.not_eq_true']at jG;split at h
    ·split at h
     ·rename_i hk
      rw[hk.2.1]at jG;cases jG
     ·exact h.elim
    ·split at h
     ·split at h
      ·rename_i hk
       rw[<-hk.2.1,hk.2.2.2.1]at jG;cases jG
      ·exact h.elim
     ·exact h.elim
    ·exact h.elim
   ·exact h.elim
 have rest:=rest0 s (fun _ _ h=>h)
 obtain⟨op,ho⟩:∃op,o.op=op:=⟨_,rfl⟩;cases op with
 |assign x =>
  simp only[aop,ho]at jA;exact rest0 _ (fun a w h=>Q7E x h) (by rw[ho];exact jA)
 |slice T x lo hi m =>
  cases lo with
  |none=>exact rest (by rw[ho];simpa only[aop,ho]using jA)
  |some l =>
   simp only[aop,ho]at jA;exact rest0 _ (fun a w h=>Qee x h) (by rw[ho];exact jA)
 |binOp op T x y T' =>
  rcases QhX (w:=w) (a:=a) hT ho jA with h|⟨z,h1,h2⟩
  ·exact rest h
  ·exact⟨s,z,fun _ _ h=>h,h1,fun g _ hS=>h2 g _ hS⟩
 |alloc T=>simp[ho,Q2N]at jG
 |box T x=>simp[ho,Q2N]at jG
 |store T x y=>simp[ho,Q2N]at jG
 |buildSlice T len parts=>simp[ho,Q2N]at jG
 |range T x=>simp[ho,Q2N]at jG
 |makeMap T r=>simp[ho,Q2N]at jG
 |lookup T x i c=>simp[ho,Q2N]at jG
 |mapUpdate T m i x=>simp[ho,Q2N]at jG
 |next it b=>simp[ho,Q2N]at jG
 |entry it=>simp[ho,Q2N]at jG
 |call c =>
  obtain⟨callee,args,tys⟩:=c;cases callee with
  |builtin b =>
   cases b with
   |append=>simp[ho,Q2N]at jG
   |_=>exact rest (by rw[ho];simpa only[aop,ho]using jA)
  |invoke _ _=>exact rest (by rw[ho];simpa only[aop,ho]using jA)
  |value f=>simp[ho,Q2N]at jG
 |_=>exact rest (by rw[ho];simpa only[aop,ho]using jA)
end
section
variable {P:Program}{ty:Tys}{w0:World}{g0:Gh}{o0:List Ob}{N:Nat}{Q:Ex->St->Prop}{w:World}{a:Act}{s:St}
theorem Q4C(hs:Sim w0 g0 o0 N s a w){d:Nat}{b:Bool}(hv:lk d s.tm=.val (.bool b))(c:Bool)(hc:b=c):Sim w0 g0 o0 N (s.put (some d) (.kb c)) a w:=by
 subst hc;obtain⟨g,M,hS,h0⟩:=hs.rel;refine⟨hs.defers,hs.size,g,M,fun t=>?_,h0⟩
 show ARel w g s.ob _ (if t=d then .kb b else lk t s.tm);by_cases e:t=d
 ·subst e
  rw[if_pos rfl];have h:=hS t;rw[hv]at h;exact h.valEq
 ·rw[if_neg e];exact hS t
theorem Q8F(hs:Sim w0 g0 o0 N s a w){d:Option Nat}(hd:∀t,d=some t->t<N):Sim w0 g0 o0 N (s.put d (.tup [])) (a.put d undef) w:=by
 obtain⟨g,M,hS,h0⟩:=hs.rel;exact Q1z (s:=s) (ob':=s.ob) hs hS h0 M Step.refl hd (v:=undef) (x:=.tup []) ⟨#[],rfl,rfl,fun j y u h=>by simp at h⟩
theorem Q6v(hs:Sim w0 g0 o0 N s a w){d:Nat}{b:Bool}(hv:lk d s.tm=.kb b):a.tmps.getD d undef=.bool b:=by
 obtain⟨g,M,hS,h0⟩:=hs.rel;have h:=hS d;rw[hv]at h;exact h
theorem Q7V{ops:Array Oper}(hs:Sim w0 g0 o0 N s a w){o:Oper}{j d:Nat}{b want:Bool}(hg:o.guard=some (j,want))(hd:(ops[j]?).bind (·.dst)=some d)(hv:lk d s.tm=.kb b) :
  Region.wanted o (yielded ops a.tmps)=(b == want):=by
 have h:=Q6v hs hv
 have h1:a.tmps[d]?=some (.bool b):=by
  rw[Array.getD_eq_getD_getElem?]at h;cases hx:a.tmps[d]? with
  |none=>rw[hx]at h;cases h
  |some x=>rw[hx]at h;exact congrArg some h
 simp only[Region.wanted,hg,yielded,hd,Option.bind_some,h1];cases b<;>cases want<;>rfl
theorem Q6k{cs:Nat->List AV->List Ob->Option (AV×List Ob)}{ops:Array Oper}{K:St->Tree}{i:Nat}{rest:OT}{o:Oper}(ho:ops[i]?=some o)(hs:Sim w0 g0 o0 N s a w)
  (jA:(Q52 std ty cs ops.toList K (.cons i rest) s).ok P w0 g0 o0 N Q) :
  (Region.wanted o (yielded ops a.tmps)=true/\∃s',Sim w0 g0 o0 N s' a w/\(aop std ty cs (Q52 std ty cs ops.toList K rest) o s').ok P w0 g0 o0 N Q) \/
  (Region.wanted o (yielded ops a.tmps)=false/\∃s',Sim w0 g0 o0 N s' a w/\(Q52 std ty cs ops.toList K rest (s'.put o.dst (.tup []))).ok P w0 g0 o0 N Q):=by
 simp only[Q52,Array.getElem?_toList,ho]at jA;split at jA
 ·rename_i hg
  exact .inl ⟨by simp[Region.wanted,hg],s,hs,jA⟩
 ·rename_i j want hg
  split at jA
  ·exact jA.elim
  ·rename_i d hd
   split at jA
   ·rename_i b hv
    have hw:=Q7V (ops:=ops) hs hg hd hv;split at jA
    ·exact .inl ⟨hw,s,hs,jA⟩
    ·exact .inl ⟨hw,s,hs,jA⟩
    ·rename_i hne1 zm
     refine .inr ⟨?_,s,hs,jA⟩;rw[hw];cases b<;>cases want
     ·exact(zm rfl rfl).elim
     ·rfl
     ·rfl
     ·exact(hne1 rfl rfl).elim
   ·rename_i b hv
    have e:∀c:Bool,lk d (s.put (some d) (.kb c)).tm=.kb c:=fun c=>if_pos rfl
    split at jA
    ·obtain⟨h1,h2⟩:=jA
     cases b with
     |true =>
      have jd:=Q4C hs hv true rfl;exact .inl ⟨Q7V (ops:=ops) jd hg hd (e true),_,jd,h1 rfl⟩
     |false =>
      have jd:=Q4C hs hv false rfl;exact .inr ⟨Q7V (ops:=ops) jd hg hd (e false),_,jd,h2 rfl⟩
    ·obtain⟨h1,h2⟩:=jA
     cases b with
     |true =>
      have jd:=Q4C hs hv true rfl;exact .inr ⟨Q7V (ops:=ops) jd hg hd (e true),_,jd,h1 rfl⟩
     |false =>
      have jd:=Q4C hs hv false rfl;exact .inl ⟨Q7V (ops:=ops) jd hg hd (e false),_,jd,h2 rfl⟩
   ·rename_i hv
    refine .inr ⟨?_,s,hs,jA⟩;obtain⟨g,M,hS,h0⟩:=hs.rel;have h1:=hS d;rw[hv]at h1;obtain⟨vs,h2,_⟩:=h1;rw[Array.getD_eq_getD_getElem?]at h2;simp only[Region.wanted,hg,yielded,hd,Option.bind_some];cases hx:a.tmps[d]? with
    |none=>cases want<;>rfl
    |some x =>
     rw[hx]at h2;obtain rfl:x=.tuple vs:=h2;cases want<;>rfl
   ·exact jA.elim
theorem Q8Z{ops:Array Oper}(hd:(ops.all fun o=>match o.dst with|some d=>decide (d<N)|none=>true)=true){i:Nat}{o:Oper}(ho:ops[i]?=some o):∀t,o.dst=some t->t<N:=fun t ht=>by
 have:=Array.all_eq_true_iff_forall_mem.1 hd o (Array.mem_of_getElem? ho)
 simpa[ht]using this
theorem Q7A(hT:TyOk P ty){cs:Nat->List AV->List Ob->Option (AV×List Ob)}{ops:Array Oper}{K:St->Tree}{R:Exit->Act->World->Prop}
  (hd:(ops.all fun o=>match o.dst with|some d=>decide (d<N)|none=>true)=true) (hK:∀s a w,Sim w0 g0 o0 N s a w->(K s).ok P w0 g0 o0 N Q->R .normal a w)
  (hP:∀v s a w,s.tm=[]->Sim w0 g0 o0 N s a w->Q (.pan v) s->R (.panic [{ v:=v,recovered:=false }]) a w) :
  ∀(l:List Nat)(s:St)(a:Act)(w:World),Sim w0 g0 o0 N s a w->(Q52 std ty cs ops.toList K (OT.of l) s).ok P w0 g0 o0 N Q->wpOps P ops R l a w
 | [],s,a,w,hs,jA=>hK s a w hs jA
 |i::rest,s,a,w,hs,jA=>by
  unfold wpOps;cases ho:ops[i]? with
  |none=>simp[OT.of,Q52,Array.getElem?_toList,ho,Tree.ok]at jA
  |some o =>
   rcases Q6k (rest:=OT.of rest) ho hs jA with ⟨hw,s',jd,h⟩|⟨hw,s',jd,h⟩
   ·simp only[hw,if_true]
    exact .inl (Oper.wp_mono (fun a' w' hg=>by
     obtain⟨_,s2,jV,h2⟩:=hg;exact Q7A hT hd hK hP rest s2 a' w' jV h2) (QdK hT jd (Q8Z hd ho) hP h))
   ·simp only[hw,Bool.false_eq_true,if_false]
    exact Q7A hT hd hK hP rest _ _ w (Q8F jd (Q8Z hd ho)) h
theorem Qjq(hT:TyOk P ty){cs:Nat->List AV->List Ob->Option (AV×List Ob)}{ops:Array Oper}{K:St->Tree}{R:Exit->Act->World->Prop}{md:Region.Mode}
  (hd:(ops.all fun o=>match o.dst with|some d=>decide (d<N)|none=>true)=true) (hn:Region.noSelect ops=true) (hQ:∀c a (d:Tmp) v w,R (.panic c) (a.put (some d) v) w->R (.panic c) a w)
  (hK:∀s a w,Sim w0 g0 o0 N s a w->(K s).ok P w0 g0 o0 N Q->R .normal a w)
  (hP:∀v s a w,s.tm=[]->Sim w0 g0 o0 N s a w->Q (.pan v) s->R (.panic [{ v:=v,recovered:=false }]) a w) :
  ∀(t:OT)(n:Nat)(listed:Array Bool)(s:St)(a:Act)(w:World),Closed md ops listed->Sim w0 g0 o0 N s a w->(Q52 std ty cs ops.toList K t s).ok P w0 g0 o0 N Q ->
   (Q3H md ty ops t n listed false=true->wpR P md ops (Q5v ty ops) R n listed a w) /\
   (Q3H md ty ops t n listed true=true->∀i∈t.heads,∃m,n=m+1/\wpOp P ops R i (fun a' w'=>(Q5v ty ops i=false->LeB w w')/\wpR P md ops (Q5v ty ops) R m (listed.setIfInBounds i true) a' w') a w):=by
 intro t;induction t with
 |nil =>
  intro n listed s a w hC hs jA;refine⟨fun hB=>?_,fun hB i hi=>by cases hi⟩
  simp only[Q3H,Bool.and_eq_true,beq_iff_eq]at hB;obtain⟨⟨rfl,_⟩,h⟩:=hB;exact⟨by simpa using h,hK s a w hs jA⟩
 |fork x y ihx ihy =>
  intro n listed s a w hC hs jA
  have both:Q3H md ty ops x n listed true=true->Q3H md ty ops y n listed true=true->∀i∈(OT.fork x y).heads,∃m,n=m+1/\wpOp P ops R i (fun a' w'=>(Q5v ty ops i=false->LeB w w')/\wpR P md ops (Q5v ty ops) R m (listed.setIfInBounds i true) a' w') a w:=fun h1 h2 i hi=>by
   rcases List.mem_append.1 hi with hi|hi
   ·exact(ihx n listed s a w hC hs jA.1).2 h1 i hi
   ·exact(ihy n listed s a w hC hs jA.2).2 h2 i hi
  refine⟨fun hB=>?_,fun hB=>?_⟩
  ·simp only[Q3H,Bool.and_eq_true,Bool.false_or]at hB
   obtain⟨⟨⟨h0,h1⟩,h2⟩,h3⟩:=hB;have jI:Region.ready md ops listed≠[]:=by simpa using h0
   have qH:∀i∈Region.ready md ops listed,i∈(OT.fork x y).heads:=fun i hi=>by
    have:=all_eq_true.1 h1 i hi
    simpa using this
   obtain⟨i,hi⟩:=List.exists_mem_of_ne_nil _ jI;obtain⟨m,rfl,_⟩:=both h2 h3 i (qH i hi);refine⟨fun h=>absurd h jI,fun i hi=>?_⟩
   obtain⟨m',e,h⟩:=both h2 h3 i (qH i hi);cases e;exact h
  ·simp only[Q3H,Bool.and_eq_true]at hB
   exact both hB.1.2 hB.2
 |cons i rest ih =>
  intro n listed s a w hC hs jA;cases ho:ops[i]? with
  |none=>simp[Q52,Array.getElem?_toList,ho,Tree.ok]at jA
  |some o =>
   -- taken from what may come next
   have loud:∀m,i∈Region.ready md ops listed->Q3H md ty ops rest m (listed.setIfInBounds i true) false=true ->
     wpOp P ops R i (fun a' w'=>(Q5v ty ops i=false->LeB w w')/\wpR P md ops (Q5v ty ops) R m (listed.setIfInBounds i true) a' w') a w:=fun m hr gm=>by
    unfold wpOp;simp only[ho];rcases Q6k ho hs jA with ⟨hw,s',jd,h⟩|⟨hw,s',jd,h⟩
    ·simp only[hw,if_true]
     exact .inl (Oper.wp_mono (fun a' w' hg=>by
      obtain⟨hq,s2,jV,h2⟩:=hg;refine⟨fun hl=>hq ?_,(ih m _ s2 a' w' (hC.set hr) jV h2).1 gm⟩
      simpa[Q5v,ho]using hl) (QdK hT jd (Q8Z hd ho) hP h))
    ·simp only[hw,Bool.false_eq_true,if_false]
     exact⟨fun _=>LeB.refl w,(ih m _ _ _ w (hC.set hr) (Q8F jd (Q8Z hd ho)) h).1 gm⟩
   refine⟨fun hB=>?_,fun hB=>?_⟩
   ·simp only[Q3H,ho,Bool.and_eq_true,Bool.false_eq_true,if_false,Bool.or_eq_true,beq_iff_eq,bne_iff_ne,ne_eq]at hB
    obtain⟨⟨qa,hB⟩,gm⟩:=hB;obtain⟨m,rfl⟩:∃m,n=m+1:=⟨n-1,by omega⟩
    simp only[Nat.add_sub_cancel]at gm;rcases hB with hr|⟨⟨⟨jG,hr⟩,hf⟩,hrd⟩
    ·refine⟨fun h0=>(by rw[hr]at h0;cases h0),fun j hj=>?_⟩
     have hH:=hj;rw[hr]at hH;obtain rfl:=List.mem_singleton.1 hH;exact loud m hj gm
    ·have yF:i∈Region.ready md ops listed:=by simpa using hr
     have hli:Q5v ty ops i=false:=by
      simp only[Q5v,ho,Bool.not_eq_false'];revert jG;cases o.op<;>simp only[Q2N,Q3f,Bool.false_eq_true,false_implies,implies_true]
      case convert src dst x =>
       intro h;by_cases e:src=dst
       ·subst e
        have h:(Q2 src ty).sl=false:=by simpa using h
        simp[h]
       ·simp[e]
      rename_i c;obtain⟨callee,args,tys⟩:=c;cases callee with
      |builtin b=>cases b<;>simp[Q2N,Q3f]
      |_=>simp[Q2N,Q3f]
     have yi:Q92 o.op=true->∀j oj,ops[j]?=some oj->Q5v ty ops j=true->listed.getD j true=false->anc md ops i ops.size j=true:=fun kI j oj hj hl zf=>by
      rcases hrd with h|h
      ·rw[kI]at h;simp at h
      ·have:=all_eq_true.1 h j (mem_range.2 (Array.getElem?_eq_some_iff.1 hj).1)
       simpa only[hl,zf,Bool.not_true,Bool.false_or]using this
     rcases Q6k ho hs jA with ⟨hw,s',jd,h⟩|⟨hw,s',jd,h⟩
     ·obtain⟨s1,x,jO,hx,hy⟩:=Qfj hT (w:=w) (a:=a) jG h
      have jO:=jO _ _ jd;obtain⟨g,M,hS,h0⟩:=jO.rel;obtain⟨v,h1,h2⟩:=hy g M hS
      exact QbQ ho (Region.noSelect_spec hn) (fun c a w=>Q6V hQ c a _ _ w) hli _ listed a w hC yi (Region.free_spec ho hf) yF (.inl ⟨hw,fun W hW=>h1 W hW⟩)
       ((ih m _ _ _ w (hC.set yF) (Q1z (s:=s1) (ob':=s1.ob) jO hS h0 M Step.refl (Q8Z hd ho) h2) hx).1 gm)
     ·exact QbQ ho (Region.noSelect_spec hn) (fun c a w=>Q6V hQ c a _ _ w) hli _ listed a w hC yi (Region.free_spec ho hf) yF (.inr ⟨hw,rfl⟩)
       ((ih m _ _ _ w (hC.set yF) (Q8F jd (Q8Z hd ho)) h).1 gm)
   ·simp only[Q3H,ho,Bool.and_eq_true,if_true,bne_iff_ne,ne_eq]at hB
    obtain⟨⟨qa,hr⟩,gm⟩:=hB;obtain⟨m,rfl⟩:∃m,n=m+1:=⟨n-1,by omega⟩
    simp only[Nat.add_sub_cancel]at gm;intro j hj;obtain rfl:=List.mem_singleton.1 hj;exact⟨m,rfl,loud m (by simpa using hr) gm⟩
end
theorem QcF{md:Region.Mode}{ops:Array Oper}:Closed md ops (Array.replicate ops.size false):=fun j oj hj hl=>by
 have:j<ops.size:=(Array.getElem?_eq_some_iff.1 hj).1
 simp[this]at hl
section
variable {P:Program}{ty:Tys}{w0:World}{g0:Gh}{o0:List Ob}{N:Nat}{Q:Ex->St->Prop}
theorem Qjw{s:St}{a:Act}{w w':World}(hs:Sim w0 g0 o0 N s a w)(hb:LeB w w'):Sim w0 g0 o0 N s a w':=by
 obtain⟨g,M,hS,h0⟩:=hs.rel;have E:=Ext.below M hb;have h1:Step w g s.ob w' g s.ob:=⟨hb.os,hb.tape,hb.output,hb.size,fun b h _=>hb.block b h,fun b id hG=>.inl ⟨id,hG⟩,fun b o h=>.inl h,E,Nat.le_refl _⟩
 exact⟨hs.defers,hs.size,g,M.below hb,fun t=>(hS t).ext E,h0.trans h1⟩
theorem Q4i(hT:TyOk P ty)(hm:P.follows .mixedOrders=true){cs:Nat->List AV->List Ob->Option (AV×List Ob)}{ord:Nat->OT} :
  ∀(c:Code)(K:Ex->St->Tree)(R:Exit->Act->World->Prop)(s:St)(a:Act)(w:World),Q2h N c=true->Q28 .any ty ord c=true ->
   (∀c a (d:Tmp) v w,R (.panic c) (a.put (some d) v) w->R (.panic c) a w)->(∀e s a w,(∀v,e=.pan v->s.tm=[])->Sim w0 g0 o0 N s a w->(K e s).ok P w0 g0 o0 N Q->R e.conv a w) ->
   (∀v s a w,s.tm=[]->Sim w0 g0 o0 N s a w->Q (.pan v) s->R (.panic [{ v:=v,recovered:=false }]) a w) ->
   Sim w0 g0 o0 N s a w->(Q1o std ty cs ord c K s).ok P w0 g0 o0 N Q->c.wp P R a w:=by
 intro c;induction c with
 |skip=>intro K R s a w _ _ _ hK hP hs jA;exact wp_skip (hK .normal s a w (fun _ h=>by cases h) hs jA)
 |region id ops draw =>
  intro K R s a w hd ho hQ hK hP hs jA;cases draw with
  |false =>
   exact wp_region (Q7A hT hd (fun s a w hs h=>hK .normal s a w (fun _ h=>by cases h) hs h) hP _ s a w hs jA)
  |true =>
   simp only[Q28,if_true,Bool.and_eq_true]at ho;obtain⟨h1,h3⟩:=ho;refine wp_region_any hm (QaD (late:=Q5v ty ops) _ _ _ _ ?_);exact(Qjq hT hd h1 hQ (fun s a w hs h=>hK .normal s a w (fun _ h=>by cases h) hs h) hP _ _ _ s a _ QcF (Qjw hs (LeB.drew w)) jA).1 h3
 |seq x y ihx ihy =>
  intro K R s a w hd ho hQ hK hP hs jA;simp only[Q2h,Q28,Bool.and_eq_true]at hd ho;refine wp_seq (ihx _ _ s a w hd.1 ho.1 (fun c a d v w h=>hQ c a d v w h) (fun e s a w ht hs h=>?_) (fun v s a w ht hs h=>hP v s a w ht hs h) hs jA)
  cases e with
  |normal=>exact ihy K R s a w hd.2 ho.2 hQ hK hP hs h
  |exit i=>exact hK (.exit i) s a w (fun _ h=>by cases h) hs h
  |ret=>exact hK .ret s a w (fun _ h=>by cases h) hs h
  |pan v=>exact hK (.pan v) s a w ht hs h
 |cond c x y ihx ihy =>
  intro K R s a w hd ho hQ hK hP hs jA;simp only[Q2h,Q28,Bool.and_eq_true]at hd ho;unfold Q1o at jA;split at jA
  ·rename_i t
   split at jA
   ·rename_i hv
    exact wp_cond_true (Q6v hs hv) (ihx K R s a w hd.1 ho.1 hQ hK hP hs jA)
   ·rename_i hv
    exact wp_cond_false (Q6v hs hv) (ihy K R s a w hd.2 ho.2 hQ hK hP hs jA)
   ·rename_i b hv
    obtain⟨h1,h2⟩:=jA;have e:∀c:Bool,lk t (s.put (some t) (.kb c)).tm=.kb c:=fun c=>if_pos rfl
    cases b with
    |true =>
     have jd:=Q4C hs hv true rfl;exact wp_cond_true (Q6v jd (e true)) (ihx K R _ a w hd.1 ho.1 hQ hK hP jd (h1 rfl))
    |false =>
     have jd:=Q4C hs hv false rfl;exact wp_cond_false (Q6v jd (e false)) (ihy K R _ a w hd.2 ho.2 hQ hK hP jd (h2 rfl))
   ·exact jA.elim
  ·exact wp_cond_true rfl (ihx K R s a w hd.1 ho.1 hQ hK hP hs jA)
  ·exact wp_cond_false rfl (ihy K R s a w hd.2 ho.2 hQ hK hP hs jA)
  ·exact jA.elim
 |block id c ih =>
  intro K R s a w hd ho hQ hK hP hs jA;simp only[Q2h,Q28]at hd ho;refine wp_block (ih _ _ s a w hd ho (fun c a d v w h=>hQ c a d v w h) (fun e s a w ht hs h=>?_) (fun v s a w ht hs h=>hP v s a w ht hs h) hs jA)
  cases e with
  |normal=>exact hK .normal s a w (fun _ h=>by cases h) hs h
  |ret=>exact hK .ret s a w (fun _ h=>by cases h) hs h
  |pan v=>exact hK (.pan v) s a w ht hs h
  |exit i =>
   show Exit.inBlock id R (.exit i) a w;simp only[Exit.inBlock];simp only at h
   by_cases hi:i=id
   ·rw[if_pos hi]at h ⊢
    exact hK .normal s a w (fun _ h=>by cases h) hs h
   ·rw[if_neg hi]at h ⊢
    exact hK (.exit i) s a w (fun _ h=>by cases h) hs h
 |loop c ih =>
  intro K R s a w hd ho hQ hK hP hs jA;refine wp_mono (jA a w hs) (fun e a' w' h=>?_)
  obtain⟨e',s',rfl,ht,jd,h'⟩:=h;exact hK e' s' a' w' ht jd h'
 |exit i=>intro K R s a w _ _ _ hK hP hs jA;exact wp_exit (hK (.exit i) s a w (fun _ h=>by cases h) hs jA)
 |ret=>intro K R s a w _ _ _ hK hP hs jA;exact wp_ret (hK .ret s a w (fun _ h=>by cases h) hs jA)
 |_=>intro K R s a w _ _ _ _ _ _ jA;exact jA.elim
end
def ent:Nat->List AV->List (Nat×AV)
 |_,[]=>[]
 |k,x::r=>(k,x)::ent (k+1) r
theorem QfQ(t:Nat):∀(l:List AV)(k:Nat),lk t (ent k l)=if k<=t then l.getD (t-k) .dead else .dead
 | [],k=>by simp[ent,lk]
 |x::r,k=>by
  simp only[ent,lk];by_cases h:t=k
  ·subst h;simp
  ·rw[if_neg h,QfQ t r (k+1)]
   by_cases h2:k<=t
   ·have e:t-k=(t-(k+1))+1:=by omega
    rw[if_pos (by omega),if_pos h2,e,List.getD_cons_succ]
   ·rw[if_neg (by omega),if_neg h2]
def Qdt(tmps:Array Value)(rv:ResultVar):Sem Value:=match rv with
 |.tmp t=>pure (tmps.getD t undef)
 |.cell a t=>do loadVar t (<-asAddr (tmps.getD a undef))
theorem QfY(fn:Func)(tmps:Array Value):results fn tmps=(do let vs <-fn.results.mapM (Qdt tmps);pure (if h:vs.size=1 then vs[0]else .tuple vs)):=by
 unfold results;congr 1
section
variable {P:Program}{ty:Tys}{w0 w:World}{g0 g:Gh}{o0:List Ob}{N:Nat}{s:St}{a:Act}
theorem Qnl(hT:TyOk P ty)(M:Mem w g s.ob)(hS:Q1q w g s a){rv:ResultVar}{x:AV}(h:Qai ty s rv=some x) :
  ∃v,Sem.run P (Qdt a.tmps rv) w=.ok v w/\ARel w g s.ob v x:=by
 cases rv with
 |tmp t =>
  refine⟨a.tmps.getD t undef,rfl,?_⟩;have hr:=hS t;simp only[Qai]at h;split at h
  ·rename_i b hb
   obtain rfl:AV.val (.bool b)=x:=by simpa using h
   rw[hb]at hr;have e:a.tmps.getD t undef=.bool b:=hr;rw[e];exact PRel.to (.val _ rfl)
  ·cases h
  ·obtain rfl:lk t s.tm=x:=by simpa using h
   exact hr
 |cell b T =>
  simp only[Qai]at h;split at h
  ·rename_i cs hcs
   by_cases hk:(Q2 T ty).ok=true/\(if(Q2 T ty).agg then(Q2 T ty).size else 1)<=cs.length
   ·rw[if_pos hk]at h
    cases h;obtain⟨bl,of,hv,hc⟩:=Q9j M (hS b) hcs;obtain⟨v,h1,h2⟩:=Q7w (g:=g) hT hk.1 hc hk.2;refine⟨v,?_,h2⟩;have h3:=h1 w (LeB.refl w);show(asAddr (a.tmps.getD b undef) >>= fun p=>loadVar T p).run P w=_
    rw[hv];simpa[asAddr]using h3
   ·rw[if_neg hk]at h;cases h
  ·cases h
theorem Qf0(hT:TyOk P ty)(M:Mem w g s.ob)(hS:Q1q w g s a):∀(rs:List ResultVar)(xs:List AV),Q5M (rs.map (Qai ty s))=some xs ->
  ∃vs,Sem.run P (rs.mapM (Qdt a.tmps)) w=.ok vs w/\vs.length=xs.length /\
   ∀(j:Nat) v x,vs[j]?=some v->xs[j]?=some x->ARel w g s.ob v x
 | [],xs,h=>by
  obtain rfl:[]=xs:=by simpa[Q5M]using h
  exact⟨[],rfl,rfl,fun j v x h=>by simp at h⟩
 |rv::rs,xs,h=>by
  cases h1:Qai ty s rv with
  |none=>simp[Q5M,h1]at h
  |some x =>
   simp only[map_cons,h1,Q5M,map_eq_some_iff]at h;obtain⟨ys,h2,rfl⟩:=h;obtain⟨v,hv,hr⟩:=Qnl hT M hS h1;obtain⟨vs,cX,hl,jp⟩:=Qf0 hT M hS rs ys h2;refine⟨v::vs,?_,by simp[hl],fun j y u hy hu=>?_⟩
   ·simp only[List.mapM_cons,Sem.run_bind,hv,cX,Result.andThen_ok,Sem.run_pure]
   ·cases j with
    |zero =>
     obtain rfl:v=y:=by simpa using hy
     obtain rfl:x=u:=by simpa using hu
     exact hr
    |succ j=>exact jp j y u (by simpa using hy) (by simpa using hu)
theorem Qdh(hT:TyOk P ty){keep:Bool}{fn:Func}(hs:Sim w0 g0 o0 N s a w){res:AV}{ob':List Ob}(h:Q7T std ty keep fn.results.toList s=some (res,ob')) :
  ∃v g',(results fn a.tmps).run P w=.ok v w/\Mem w g' ob'/\ARel w g' ob' v res/\Step w0 g0 o0 w g' ob':=by
 obtain⟨g,M,hS,h0⟩:=hs.rel;unfold Q7T at h;cases hx:Q5M (fn.results.toList.map (Qai ty s))with
 |none=>rw[hx]at h;cases h
 |some xs =>
  rw[hx]at h;obtain⟨vs,cX,hl,jp⟩:=Qf0 hT M hS _ _ hx
  have jc:(results fn a.tmps).run P w=.ok (if h:vs.toArray.size=1 then vs.toArray[0]else .tuple vs.toArray) w:=by
   rw[QfY,Array.mapM_eq_mapM_toList,Sem.run_bind]
   have:(List.toArray <$> (fn.results.toList.mapM (Qdt a.tmps))).run P w=.ok vs.toArray w:=by
    rw[map_eq_pure_bind,Sem.run_bind,cX];rfl
   rw[this];rfl
  have many:xs.length≠1->(Q4o (frz std keep 9) s.ob xs).map (fun(ys,ob)=>(AV.tup ys,ob))=some (res,ob') ->
    ∃v g',(results fn a.tmps).run P w=.ok v w/\Mem w g' ob'/\ARel w g' ob' v res/\Step w0 g0 o0 w g' ob':=fun jI h=>by
   simp only[map_eq_some_iff]at h;obtain⟨⟨ys,ob1⟩,h1,h2⟩:=h;cases h2;have hL:Q2R w g s.ob vs xs:=⟨hl,fun j v x hv hx=>(jp j v x hv hx).to1 (Q75 _ _ _ _ h1 _ (List.mem_of_getElem? hx))⟩
   obtain⟨g',M',E',R',L'⟩:=QmN _ _ g s.ob ys ob1 M hL h1;refine⟨_,g',jc,M',?_,h0.trans (Step.ghost E' L')⟩;have:¬vs.toArray.size=1:=by simp;omega
   rw[dif_neg this];exact⟨vs.toArray,rfl,by simpa using R'.1,fun j y u hy hu=>R'.2 j y u (by simpa using hy) hu⟩
  cases xs with
  |nil=>exact many (by simp) h
  |cons x r =>
   cases r with
   |cons x' r'=>exact many (by simp) h
   |nil =>
    obtain⟨v,rfl⟩:∃v,vs=[v]:=List.length_eq_one_iff.1 (by simpa using hl)
    obtain⟨g',M',E',R',L'⟩:=QkL M (jp 0 v x rfl rfl) h;exact⟨v,g',jc,M',R',h0.trans (Step.ghost E' L')⟩
end
def leC(x y:AV):Prop:=x=y\/(x=.val (.slice none 0 0)/\∃sz,y=.slc sz [])\/(y=.opt x/\Q5C x)\/x=.opt y
def leL:List AV->List AV->Prop
 | [],[]=>True
 |x::r,y::r'=>leC x y/\leL r r'
 |_,_=>False
def Qfm:AV->AV->Prop
 |.agg xs,.agg ys=>leL xs ys
 |.agg _,_=>False
 |.tup _,_=>False
 |_,.agg _=>False
 |_,.tup _=>False
 |x,y=>leC x y
def leT:List AV->List AV->Prop
 | [],[]=>True
 |x::r,y::r'=>Qfm x y/\leT r r'
 |_,_=>False
def leA(x y:AV):Prop:=match x with
 |.tup xs=>(match y with
  |.tup ys=>leT xs ys
  |_=>False)
 |x=>Qfm x y
section
variable {w:World}{g:Gh}{ob:List Ob}
theorem Qhp{v:Value}{x y:AV}(h:ARel0 w g ob v x)(hl:leC x y):ARel0 w g ob v y:=by
 rcases hl with rfl|⟨rfl,sz,rfl⟩|⟨rfl,hp⟩|rfl
 ·exact h
 ·cases(show v=_ from ARel.valEq (g:=g) (w:=w) (ob:=ob) h)
  exact PRel.nil sz
 ·have:PRel w g.A v x:=by
   cases x with
   |val _=>exact h
   |ref _=>exact h
   |opt _=>exact h
   |_=>exact(show False from hp).elim
  exact PRel.opt _ _ this hp
 ·exact(PRel.ofOpt (show PRel w g.A v (.opt y) from h)).1.to0
theorem QhR:∀{vs:List Value}{xs ys:List AV},ARelC w g ob vs xs->leL xs ys->ARelC w g ob vs ys
 |vs,[],[],h,_=>h
 |_,[],_::_,_,hl=>hl.elim
 |_,_::_,[],_,hl=>hl.elim
 | [],x::r,y::r',h,_=>absurd h.1 (by simp)
 |v::vs,x::r,y::r',h,hl=>by
  have h1:=h.2 0 v x rfl rfl;have h2:ARelC w g ob vs r':=QhR (xs:=r) ⟨by simpa using h.1,fun j a b ha hb=>h.2 (j+1) a b (by simpa using ha) (by simpa using hb)⟩ hl.2
  refine⟨by simp[h2.1],fun j a b ha hb=>?_⟩
  cases j with
  |zero =>
   obtain rfl:v=a:=by simpa using ha
   obtain rfl:y=b:=by simpa using hb
   exact⟨Qhp h1.1 hl.1,h1.2⟩
  |succ j=>exact h2.2 j a b (by simpa using ha) (by simpa using hb)
theorem ARel1.to0{v:Value}{x:AV}(h:ARel1 w g ob v x)(hn:∀cs,x≠.agg cs):ARel0 w g ob v x:=by cases x<;>first|exact h|exact absurd rfl (hn _)
theorem Qaz{v:Value}{x y:AV}(h:ARel1 w g ob v x)(hl:Qfm x y):ARel1 w g ob v y:=by
 cases x with
 |agg xs =>
  cases y with
  |agg ys=>obtain⟨vs,rfl,h⟩:=h;exact⟨vs,rfl,QhR h hl⟩
  |_=>exact(show False from hl).elim
 |tup _=>exact(show False from hl).elim
 |_=>cases y<;>first|exact(show False from hl).elim|exact(Qhp (h.to0 (fun cs h=>by cases h)) hl).to1
theorem Q9A{v:Value}{x y:AV}(h:ARel w g ob v x)(hl:leA x y):ARel w g ob v y:=by
 cases x with
 |tup xs =>
  cases y with
  |tup ys =>
   obtain⟨vs,rfl,h1,h2⟩:=h
   have key:∀(xs ys:List AV)(vs:List Value),leT xs ys->vs.length=xs.length->(∀(j:Nat) y u,vs[j]?=some y->xs[j]?=some u->ARel1 w g ob y u)->vs.length=ys.length/\∀(j:Nat) y u,vs[j]?=some y->ys[j]?=some u->ARel1 w g ob y u:=by
    intro xs;induction xs with
    |nil =>
     intro ys vs hl hn hr;cases ys with
     |nil=>exact⟨hn,hr⟩
     |cons _ _=>exact(show False from hl).elim
    |cons x r ih =>
     intro ys vs hl hn hr;cases ys with
     |nil=>exact(show False from hl).elim
     |cons y r' =>
      cases vs with
      |nil=>simp at hn
      |cons v vs =>
       obtain⟨h3,h4⟩:=ih r' vs hl.2 (by simpa using hn) (fun j a b ha hb=>hr (j+1) a b (by simpa using ha) (by simpa using hb))
       refine⟨by simp[h3],fun j a b ha hb=>?_⟩
       cases j with
       |zero =>
        obtain rfl:v=a:=by simpa using ha
        obtain rfl:y=b:=by simpa using hb
        exact Qaz (hr 0 v x rfl rfl) hl.1
       |succ j=>exact h4 j a b (by simpa using ha) (by simpa using hb)
   obtain⟨h3,h4⟩:=key xs ys vs.toList hl (by simpa using h1) (fun j a b ha hb=>h2 j a b (by simpa using ha) hb)
   exact⟨vs,rfl,by simpa using h3,fun j a b ha hb=>h4 j a b (by simpa using ha) hb⟩
  |_=>exact(show False from hl).elim
 |_=>exact(Qaz (h.to1' (fun xs h=>by cases h)) (show Qfm _ y from hl)).to
end
def Qct(ob ob':List Ob)(ρ:List (Option Nat)):List AV->List AV->Option Eqs
 | [],[]=>some []
 |x::r,x'::r'=>both (QaG ob ob' ρ x x') (Qct ob ob' ρ r r')
 |_,_=>none
def Qi7(ob ob':List Ob)(ρ:List (Option Nat))(x x':AV):Option Eqs:=match x with
 |.tup xs=>(match x' with
  |.tup ys=>Qct ob ob' ρ xs ys
  |_=>none)
 |x=>QaG ob ob' ρ x x'
section
variable {w w0:World}{g g0:Gh}{ob ob' o0:List Ob}{ρ:List (Option Nat)}
theorem QgN{x x':AV}{l:Eqs}(he:QaG ob ob' ρ x x'=some l):∀xs,x'≠.tup xs:=by
 rintro xs rfl;cases he
theorem Q90(hF:Fits ob ob' ρ)(ho:Q2w ρ=true):∀(xs ys:List AV)(vs:List Value)(l:Eqs),Qct ob ob' ρ xs ys=some l->Qm l->vs.length=xs.length->(∀(j:Nat) y u,vs[j]?=some y->xs[j]?=some u->ARel1 w g ob y u) ->
  vs.length=ys.length/\∀(j:Nat) y u,vs[j]?=some y->ys[j]?=some u->ARel1 w (g.ren ρ) ob' y u
 | [],[],vs,_,_,_,hn,_=>⟨hn,fun j y u _ h=>by simp at h⟩
 | [],_::_,_,_,h,_,_,_=>by cases h
 |_::_,[],_,_,h,_,_,_=>by cases h
 |x::r,y::r',vs,l,h,hl,hn,hr=>by
  cases vs with
  |nil=>simp at hn
  |cons v vs =>
   obtain⟨⟨l1,h1,yb⟩,l2,h2,vt⟩:=Q35 h hl;obtain⟨h3,h4⟩:=Q90 hF ho r r' vs l2 h2 vt (by simpa using hn) (fun j a b ha hb=>hr (j+1) a b (by simpa using ha) (by simpa using hb))
   refine⟨by simp[h3],fun j a b ha hb=>?_⟩
   cases j with
   |zero =>
    obtain rfl:v=a:=by simpa using ha
    obtain rfl:y=b:=by simpa using hb
    exact(Q8k hF ho (hr 0 v x rfl rfl).to h1 yb).to1' (QgN h1)
   |succ j=>exact h4 j a b (by simpa using ha) (by simpa using hb)
theorem Qa5(hF:Fits ob ob' ρ)(ho:Q2w ρ=true){v:Value}{x x':AV}{l:Eqs}(h:ARel w g ob v x)(he:Qi7 ob ob' ρ x x'=some l)(hl:Qm l):ARel w (g.ren ρ) ob' v x':=by
 cases x with
 |tup xs =>
  cases x' with
  |tup ys =>
   obtain⟨vs,rfl,h1,h2⟩:=h;obtain⟨h3,h4⟩:=Q90 hF ho xs ys vs.toList l he hl (by simpa using h1) (fun j a b ha hb=>h2 j a b (by simpa using ha) hb)
   exact⟨vs,rfl,by simpa using h3,fun j a b ha hb=>h4 j a b (by simpa using ha) hb⟩
  |_=>cases he
 |_=>exact Q8k hF ho h he hl
theorem Qfi(hF:Fits ob ob' ρ)(ho:Q2w ρ=true)(hh:QeO o0 ob ob' ρ=true)(hn:o0.length<=ρ.length)(h0:Step w0 g0 o0 w g ob):Step w0 g0 o0 w (g.ren ρ) ob':=by
 have head:∀j,j<o0.length->ρ[j]?=some (some j):=fun j hj=>by
  have:=all_eq_true.1 hh j (mem_range.2 hj)
  simp only[Bool.and_eq_true,beq_iff_eq]at this;exact this.1
 refine⟨h0.os,h0.tape,h0.output,h0.size,h0.keep,fun b id hG=>?_,h0.imm,⟨h0.ext.A,fun id hid=>?_,fun id hb=>?_,fun id hb=>?_,fun id et sz fz e xs hr=>?_,fun b id hG hs=>?_⟩,?_⟩
 ·obtain⟨i,_,h3⟩:=Q33 hG
  exact h0.own b i h3
 ·rw[Q29 (head id hid)];exact h0.ext.loc id hid
 ·exact hF.isB (head id (Q4j hb)) (h0.ext.isb id hb)
 ·exact hF.isI (head id (Q5b hb)) (h0.ext.isi id hb)
 ·have hid:=Q8 hr
  obtain⟨fz1,e1,xs1,h3,h4,h5⟩:=h0.ext.row id et sz fz e xs hr;obtain⟨fz2,e2,h6,_⟩:=hF.row (head id hid) h3
  have he:e1=e2\/e<e2:=by
   have:=all_eq_true.1 hh id (mem_range.2 hid)
   simp only[Bool.and_eq_true,hr,h3,h6,beq_iff_eq,Bool.or_eq_true,decide_eq_true_eq]at this;exact this.2
  rcases he with he|he
  rotate_left
  ·exact⟨fz2,e2,xs1,h6,by omega,fun ql=>by omega⟩
  subst he;exact⟨fz2,e1,xs1,h6,h4,fun ql=>(h5 ql).turn (fun b hb=>⟨hb,rfl⟩) (fun b _ hb=>Q5B ho (head id hid) hb) rfl⟩
 ·obtain⟨et,sz,fz,fz',e,xs,xs',h3,h4⟩:=hs
  have hid:=Q8 h3;obtain⟨fz1,e1,xs1,h5,h6,h7⟩:=h0.ext.row id et sz fz e xs h3;obtain⟨fz2,e2,h8,_⟩:=hF.row (head id hid) h5;rw[h8]at h4;obtain⟨rfl,rfl,rfl⟩:fz2=fz'/\e2=e/\xs1=xs':=by simpa using h4
  have he:e1=e2:=by
   have:=all_eq_true.1 hh id (mem_range.2 hid)
   simp only[Bool.and_eq_true,h3,h5,h8,beq_iff_eq,Bool.or_eq_true,decide_eq_true_eq]at this;omega
  subst he;obtain⟨h9,q9⟩:=h0.ext.sub b id hG ⟨_,_,_,_,_,_,_,h3,h5⟩;have vn:=Q3R (g:=g) ho (head id hid) ((h7 rfl).G hG);exact⟨vn.trans h9,q9⟩
 ·rw[<-hF.1];exact hn
end
def FinOk(o0:List Ob)(res:AV)(ob':List Ob)(_:Ex)(s:St):Prop:=match s.tm with
 | [(_,r)]=>∃ρ r' l,Q2w ρ=true/\QeO o0 s.ob ob' ρ=true/\o0.length<=ρ.length/\both (Qi7 s.ob ob' ρ r r') (Q87 s.ob ob' ρ ρ ob')=some l/\Qm l/\leA r' res
 |_=>False
def Qqo:AV->Bool
 |.tup xs=>xs.all AV.pur
 |x=>x.pur
theorem Q5K{ob:List Ob}{ρ:List (Option Nat)}{x:AV}(h:x.pur0=true):∃l,Q5w ob [] ρ x x=some l/\Qm l:=by
 cases x with
 |val v=>cases v<;>exact⟨_,rfl,rfl,trivial⟩
 |slc _ _=>exact⟨_,rfl,rfl,trivial⟩
 |ref _=>exact⟨_,rfl,rfl,trivial⟩
 |opt _=>exact⟨_,rfl,rfl,trivial⟩
 |_=>cases h
theorem Q4v{ob:List Ob}{ρ:List (Option Nat)}{x:AV}(h:x.pur=true):∃l,QaG ob [] ρ x x=some l/\Qm l:=by
 cases x with
 |agg cs =>
  have key:∀cs:List AV,cs.all AV.pur0=true->∃l,QcK ob [] ρ cs cs=some l/\Qm l:=by
   intro cs;induction cs with
   |nil=>intro _;exact⟨[],rfl,trivial⟩
   |cons x r ih =>
    intro h;simp only[all_cons,Bool.and_eq_true]at h;obtain⟨l1,h1,h2⟩:=Q5K (ob:=ob) (ρ:=ρ) h.1;obtain⟨l2,h3,h4⟩:=ih h.2;exact⟨l1++l2,by simp only[QcK,h1,h3,both],Q3M.2 ⟨h2,h4⟩⟩
  exact key cs h
 |val v=>exact Q5K (ob:=ob) (ρ:=ρ) (x:=.val v) h
 |slc a b=>exact Q5K (ob:=ob) (ρ:=ρ) (x:=.slc a b) h
 |ref a=>exact Q5K (ob:=ob) (ρ:=ρ) (x:=.ref a) h
 |opt a=>exact Q5K (ob:=ob) (ρ:=ρ) (x:=.opt a) h
 |_=>cases h
theorem FinOk.pure{res r:AV}{k:Nat}{ob:List Ob}{e:Ex}(hp:Qqo r=true)(hl:leA r res):FinOk [] res [] e ⟨[(k,r)],ob⟩:=by
 have hr:∃l,Qi7 ob [] [] r r=some l/\Qm l:=by
  cases r with
  |tup xs =>
   have key:∀xs:List AV,xs.all AV.pur=true->∃l,Qct ob [] [] xs xs=some l/\Qm l:=by
    intro xs;induction xs with
    |nil=>intro _;exact⟨[],rfl,trivial⟩
    |cons x r ih =>
     intro h;simp only[all_cons,Bool.and_eq_true]at h;obtain⟨l1,h1,h2⟩:=Q4v (ob:=ob) (ρ:=[]) h.1;obtain⟨l2,h3,h4⟩:=ih h.2;exact⟨l1++l2,by simp only[Qct,h1,h3,both],Q3M.2 ⟨h2,h4⟩⟩
   exact key xs hp
  |val a=>exact Q4v (ob:=ob) (ρ:=[]) (x:=.val a) hp
  |slc a b=>exact Q4v (ob:=ob) (ρ:=[]) (x:=.slc a b) hp
  |agg a=>exact Q4v (ob:=ob) (ρ:=[]) (x:=.agg a) hp
  |ref a=>exact Q4v (ob:=ob) (ρ:=[]) (x:=.ref a) hp
  |opt a=>exact Q4v (ob:=ob) (ρ:=[]) (x:=.opt a) hp
  |_=>cases hp
 obtain⟨l,h1,h2⟩:=hr;exact⟨[],r,l,rfl,rfl,Nat.le_refl _,by simp only[h1,Q87,both,List.append_nil],h2,hl⟩
theorem Q93{P:Program}{ty:Tys}(keep:Bool)(hT:TyOk P ty)(hm:P.follows .mixedOrders=true){cs:Nat->List AV->List Ob->Option (AV×List Ob)}{ord:Nat->OT}
  {f:Nat} {fn:Func} {c:Code} {args:List AV} {ob:List Ob} {res:AV} {ob':List Ob} (hf:P.funcs[f]?=some fn) (hb:fn.body=some c) (he:∀vs w,(callFunc f vs).run P w=.ok (.enter f vs) w)
  (hn:args.length<=fn.ntmps) (hd:Q2h fn.ntmps c=true) (ho:Q28 .any ty ord c=true)
  (h:∀w0 g0,(Q1o std ty cs ord c (Q68 std ty keep fn.results.toList) ⟨ent 0 args,ob⟩).ok P w0 g0 ob fn.ntmps (FinOk ob res ob')):BCall P f args ob res ob':=by
 refine⟨he,fun w g vs M hL=>calls_of_wp hf hb ?_⟩
 have jH:vs.length=args.length:=hL.1;refine Q4i (w0:=w) (g0:=g) (o0:=ob) (N:=fn.ntmps) (Q:=FinOk ob res ob') hT hm c _ _ ⟨ent 0 args,ob⟩ _ w hd ho (fun c a d v w h=>h) (fun e s a w' ht hs hq=>?_) (fun v s a w' ht _ hq=>by unfold FinOk at hq;rw[ht]at hq;exact hq.elim) ⟨rfl,?_,g,M,fun t=>?_,Step.refl⟩ (h w g)
 ·have fin:∀{T:Tree},T=(match Q7T std ty keep fn.results.toList s with|some (r,ob)=>.leaf .ret ⟨[(0,r)],ob⟩|none=>.stuck 71)->T.ok P w g ob fn.ntmps (FinOk ob res ob') ->
    a.defers=[]/\∃v,(results fn a.tmps).run P w'=.ok v w'/\∃v' g',Ending.returned v=.returned v'/\Mem w' g' ob'/\ARel w' g' ob' v' res/\Step w g ob w' g' ob':=fun nK hq=>by
   cases hr:Q7T std ty keep fn.results.toList s with
   |none=>rw[hr]at nK;subst nK;exact(show False from hq).elim
   |some q =>
    obtain⟨r,ob1⟩:=q;rw[hr]at nK;subst nK;obtain⟨ρ,r',l,h1,h2,h3,h4,h5,h6⟩:=(show FinOk ob res ob' .ret ⟨[(0,r)],ob1⟩ from hq);obtain⟨⟨l1,e1,a1⟩,l2,e2,a2⟩:=Q35 h4 h5;have hF:Fits ob1 ob' ρ:=Q4y _ _ _ e2 a2;obtain⟨v,g',k1,k2,k3,k4⟩:=Qdh hT hs hr;exact⟨hs.defers,v,k1,v,g'.ren ρ,rfl,k2.ren hF h1,Q9A (Qa5 hF h1 k3 e1 a1) h6,Qfi hF h1 h2 h3 k4⟩
  cases e with
  |normal=>exact fin rfl hq
  |ret=>exact fin rfl hq
  |exit i=>exact(show False from hq).elim
  |pan v=>exact(by have hq:FinOk ob res ob' (.pan v) s:=hq;unfold FinOk at hq;rw[ht v rfl]at hq;exact hq.elim)
 ·simp;omega
 ·show ARel w g ob _ (lk t (ent 0 args))
  rw[QfQ];simp only[Nat.zero_le,if_true,Nat.sub_zero];by_cases ht:t<args.length
  ·rw[List.getD_eq_getElem?_getD,getElem?_eq_getElem ht,Option.getD_some]
   have e:(vs.toArray++Array.replicate (fn.ntmps-vs.toArray.size) undef).getD t undef=vs[t]'(by omega):=by
    rw[Array.getD_eq_getD_getElem?,Array.getElem?_append_left (by simp;omega)]
    simp[show t<vs.length by omega]
   rw[e];exact(hL.2 t _ _ (getElem?_eq_getElem (by omega)) (getElem?_eq_getElem ht)).to
  ·rw[List.getD_eq_getElem?_getD,List.getElem?_eq_none (by omega)]
   trivial
theorem Ql1{P:Program}{ty:Tys}(hT:TyOk P ty)(hm:P.follows .mixedOrders=true){cs:Nat->List AV->List Ob->Option (AV×List Ob)}{ord:Nat->OT}
  {f:Nat} {fn:Func} {c:Code} {args:List AV} {ob:List Ob} {res:AV} {ob':List Ob} (hf:P.funcs[f]?=some fn) (hb:fn.body=some c) (he:∀vs w,(callFunc f vs).run P w=.ok (.enter f vs) w)
  (hn:args.length<=fn.ntmps) (hd:Q2h fn.ntmps c=true) (ho:Q28 .any ty ord c=true)
  (h:∀w0 g0,(Q1o std ty cs ord c (Q68 std ty false fn.results.toList) ⟨ent 0 args,ob⟩).ok P w0 g0 ob fn.ntmps (FinOk ob res ob')):BCall P f args ob res ob' :=
 Q93 false hT hm hf hb he hn hd ho h
def tiB(P:Program)(x:TI):Bool:=x.zero.length == x.size&&(x.agg||x.size == 1)&&decide (x.bytes<=140000)&&x.flds.all (fun f=>(P.info? f.2).isSome)&&x.zero.all (·.oneCell')&&x.ok
theorem TiOk.of{P:Program}{t:Nat}{x:TI}(h1:(P.info? t).map (fun i=>(i.size,i.bytes,i.zero.map (·.cells.toList),i.zero.map Qov))=some (x.size,x.bytes,some x.zero,some x.agg))
  (h2:(P.underlying t).map Q2k=some (x.agg,x.elem,x.flds,x.kind,x.sl,x.kd)) (hb:tiB P x=true) (h4:(P.underlying t).map Qpg=some x.key):TiOk P t x:=by
 simp only[tiB,Bool.and_eq_true,Bool.or_eq_true,beq_iff_eq,decide_eq_true_eq]at hb;obtain⟨⟨⟨⟨⟨b1,b2⟩,b4⟩,b5⟩,b6⟩,b7⟩:=hb;exact⟨h1,h2,b1,fun h=>b2.resolve_left (by rw[h];simp),b4,b5,b6,b7,h4⟩
theorem TyOk.nil{P:Program}:QeR P []:=fun _ _ h=>by cases h
theorem TyOk.cons{P:Program}{t:Nat}{x:TI}{r:List (Nat×TI)}(h:TiOk P t x)(hr:QeR P r):QeR P ((t,x)::r):=fun u y hu=>by
 rcases List.mem_cons.1 hu with h1|h1
 ·cases h1;exact h
 ·exact hr u y h1
end
section
open Tryz
def Qpc:List (Nat×TI):=[(1,⟨1,false,0,[],[.nilFunc],none,8,false,7,true,0⟩),
 (2,⟨1,false,0,[],[.int .i64 0],some .i64,8,false,3,true,0⟩),
 (3,⟨1,false,0,[],[.int .i64 0],some .i64,8,false,3,true,0⟩),
 (4,⟨1,false,0,[],[.bool false],none,1,false,5,true,0⟩),
 (5,⟨1,false,0,[],[.int .u8 0],some .u8,1,false,3,true,0⟩),
 (6,⟨1,false,0,[],[.int .u8 0],some .u8,1,false,3,true,0⟩),
 (7,⟨4,true,0,[(0,2),(1,3),(2,4),(3,6)],[.int .i64 0,.int .i64 0,.bool false,.int .u8 0],none,24,false,1,true,0⟩),
 (8,⟨4,true,0,[(0,2),(1,3),(2,4),(3,6)],[.int .i64 0,.int .i64 0,.bool false,.int .u8 0],none,24,false,1,true,0⟩),
 (9,⟨1,false,0,[],[.string ⟨#[]⟩],none,16,false,6,true,0⟩),
 (10,⟨1,false,0,[],[.string ⟨#[]⟩],none,16,false,6,true,0⟩),
 (11,⟨1,false,0,[],[.string ⟨#[]⟩],none,16,false,6,true,0⟩),
 (12,⟨1,false,0,[],[.int .u64 0],some .u64,8,false,3,true,0⟩),
 (13,⟨2,true,0,[(0,9),(1,12)],[.string ⟨#[]⟩,.int .u64 0],none,24,false,1,true,0⟩),
 (14,⟨2,true,0,[(0,9),(1,12)],[.string ⟨#[]⟩,.int .u64 0],none,24,false,1,true,0⟩),
 (15,⟨1,false,0,[],[.pointer none],none,8,false,4,true,0⟩),
 (16,⟨1,false,0,[],[.pointer none],none,8,false,4,true,0⟩),
 (17,⟨1,false,0,[],[.pointer none],none,8,false,4,true,0⟩),
 (18,⟨1,true,0,[(0,17)],[.pointer none],none,8,false,1,true,0⟩),
 (19,⟨1,true,0,[(0,17)],[.pointer none],none,8,false,1,true,0⟩),
 (21,⟨1,false,0,[],[.int .i32 0],some .i32,4,false,3,true,0⟩),
 (22,⟨1,false,5,[],[.slice none 0 0],none,24,true,2,true,0⟩),
 (23,⟨1,false,0,[],[.nilFunc],none,8,false,7,true,0⟩),
 (24,⟨1,false,9,[],[.slice none 0 0],none,24,true,2,true,0⟩),
 (25,⟨1,false,0,[],[.nilFunc],none,8,false,7,true,0⟩),
 (26,⟨1,false,0,[],[.nilFunc],none,8,false,7,true,0⟩),
 (27,⟨1,false,0,[],[.nilFunc],none,8,false,7,true,0⟩),
 (28,⟨1,false,21,[],[.slice none 0 0],none,24,true,2,true,0⟩),
 (29,⟨1,false,3,[],[.slice none 0 0],none,24,true,2,true,0⟩),
 (30,⟨4,true,0,[(0,3),(1,3),(2,28),(3,29)],[.int .i64 0,.int .i64 0,.slice none 0 0,.slice none 0 0],none,64,false,1,true,0⟩),
 (31,⟨4,true,0,[(0,3),(1,3),(2,28),(3,29)],[.int .i64 0,.int .i64 0,.slice none 0 0,.slice none 0 0],none,64,false,1,true,0⟩),
 (32,⟨1,false,0,[],[.pointer none],none,8,false,4,true,0⟩),
 (33,⟨1,false,113,[],[.slice none 0 0],none,24,true,2,true,0⟩),
 (34,⟨7,true,0,[(0,31),(4,32),(5,3),(6,33)],[.int .i64 0,.int .i64 0,.slice none 0 0,.slice none 0 0,.pointer none,.int .i64 0,.slice none 0 0],none,104,false,1,true,0⟩),
 (35,⟨7,true,0,[(0,31),(4,32),(5,3),(6,33)],[.int .i64 0,.int .i64 0,.slice none 0 0,.slice none 0 0,.pointer none,.int .i64 0,.slice none 0 0],none,104,false,1,true,0⟩),
 (36,⟨1,false,0,[],[.nilFunc],none,8,false,7,true,0⟩),
 (37,⟨1,false,3,[],[.map none],none,8,false,8,true,9⟩),
 (38,⟨1,false,41,[],[.slice none 0 0],none,24,true,2,true,0⟩),
 (39,⟨1,false,0,[],[.pointer none],none,8,false,4,true,0⟩),
 (40,⟨5,true,0,[(0,32),(1,3),(2,3),(3,3),(4,39)],[.pointer none,.int .i64 0,.int .i64 0,.int .i64 0,.pointer none],none,40,false,1,true,0⟩),
 (41,⟨5,true,0,[(0,32),(1,3),(2,3),(3,3),(4,39)],[.pointer none,.int .i64 0,.int .i64 0,.int .i64 0,.pointer none],none,40,false,1,true,0⟩),
 (42,⟨1,false,0,[],[.nilFunc],none,8,false,7,true,0⟩),
 (43,⟨1,false,0,[],[.nilFunc],none,8,false,7,true,0⟩),
 (44,⟨1,false,0,[],[.nilFunc],none,8,false,7,true,0⟩),
 (45,⟨1,false,0,[],[.nilFunc],none,8,false,7,true,0⟩),
 (46,⟨1,false,0,[],[.nilFunc],none,8,false,7,true,0⟩),
 (47,⟨4,true,0,[(0,3),(1,3),(2,28),(3,29)],[.int .i64 0,.int .i64 0,.slice none 0 0,.slice none 0 0],none,64,false,1,true,0⟩),
 (48,⟨1,false,0,[],[.nilFunc],none,8,false,7,true,0⟩),
 (49,⟨1,false,52,[],[.slice none 0 0],none,24,true,2,true,0⟩),
 (50,⟨1,false,0,[],[.nilFunc],none,8,false,7,true,0⟩),
 (51,⟨4,true,0,[(0,3),(1,3),(2,3),(3,4)],[.int .i64 0,.int .i64 0,.int .i64 0,.bool false],none,32,false,1,true,0⟩),
 (52,⟨4,true,0,[(0,3),(1,3),(2,3),(3,4)],[.int .i64 0,.int .i64 0,.int .i64 0,.bool false],none,32,false,1,true,0⟩),
 (53,⟨3,true,0,[(0,3),(1,3),(2,3)],[.int .i64 0,.int .i64 0,.int .i64 0],none,24,false,1,true,0⟩),
 (54,⟨3,true,0,[(0,3),(1,3),(2,3)],[.int .i64 0,.int .i64 0,.int .i64 0],none,24,false,1,true,0⟩),
 (55,⟨1,false,105,[],[.slice none 0 0],none,24,true,2,true,0⟩),
 (56,⟨6,true,0,[(0,54),(3,55),(4,4),(5,4)],[.int .i64 0,.int .i64 0,.int .i64 0,.slice none 0 0,.bool false,.bool false],none,56,false,1,true,0⟩),
 (57,⟨6,true,0,[(0,54),(3,55),(4,4),(5,4)],[.int .i64 0,.int .i64 0,.int .i64 0,.slice none 0 0,.bool false,.bool false],none,56,false,1,true,0⟩),
 (58,⟨1,false,0,[],[.nilFunc],none,8,false,7,true,0⟩),
 (59,⟨12,true,3,[],[.int .i64 0,.int .i64 0,.int .i64 0,.int .i64 0,.int .i64 0,.int .i64 0,.int .i64 0,.int .i64 0,.int .i64 0,.int .i64 0,.int .i64 0,.int .i64 0],none,96,false,112,true,0⟩),
 (60,⟨6,true,3,[],[.int .i64 0,.int .i64 0,.int .i64 0,.int .i64 0,.int .i64 0,.int .i64 0],none,48,false,106,true,0⟩),
 (61,⟨26,true,0,[(0,3),(1,3),(2,3),(3,3),(4,3),(5,3),(6,3),(7,3),(8,59),(20,60)],[.int .i64 0,.int .i64 0,.int .i64 0,.int .i64 0,.int .i64 0,.int .i64 0,.int .i64 0,.int .i64 0,.int .i64 0,.int .i64 0,.int .i64 0,.int .i64 0,.int .i64 0,.int .i64 0,.int .i64 0,.int .i64 0,.int .i64 0,.int .i64 0,.int .i64 0,.int .i64 0,.int .i64 0,.int .i64 0,.int .i64 0,.int .i64 0,.int .i64 0,.int .i64 0],none,208,false,1,true,0⟩),
 (62,⟨26,true,0,[(0,3),(1,3),(2,3),(3,3),(4,3),(5,3),(6,3),(7,3),(8,59),(20,60)],[.int .i64 0,.int .i64 0,.int .i64 0,.int .i64 0,.int .i64 0,.int .i64 0,.int .i64 0,.int .i64 0,.int .i64 0,.int .i64 0,.int .i64 0,.int .i64 0,.int .i64 0,.int .i64 0,.int .i64 0,.int .i64 0,.int .i64 0,.int .i64 0,.int .i64 0,.int .i64 0,.int .i64 0,.int .i64 0,.int .i64 0,.int .i64 0,.int .i64 0,.int .i64 0],none,208,false,1,true,0⟩),
 (63,⟨1,false,0,[],[.nilFunc],none,8,false,7,true,0⟩),
 (64,⟨1,false,0,[],[.pointer none],none,8,false,4,true,0⟩),
 (65,⟨1,false,0,[],[.nilFunc],none,8,false,7,true,0⟩),
 (66,⟨1,false,0,[],[.nilFunc],none,8,false,7,true,0⟩),
 (67,⟨1,false,0,[],[.pointer none],none,8,false,4,true,0⟩),
 (68,⟨2,true,0,[(0,28),(1,29)],[.slice none 0 0,.slice none 0 0],none,48,false,1,true,0⟩),
 (69,⟨2,true,0,[(0,28),(1,29)],[.slice none 0 0,.slice none 0 0],none,48,false,1,true,0⟩),
 (70,⟨1,false,69,[],[.slice none 0 0],none,24,true,2,true,0⟩),
 (71,⟨3,true,0,[(0,22),(1,64),(2,70)],[.slice none 0 0,.pointer none,.slice none 0 0],none,56,false,1,true,0⟩),
 (72,⟨3,true,0,[(0,22),(1,64),(2,70)],[.slice none 0 0,.pointer none,.slice none 0 0],none,56,false,1,true,0⟩),
 (73,⟨1,false,0,[],[.nilFunc],none,8,false,7,true,0⟩),
 (74,⟨1,false,0,[],[.nilFunc],none,8,false,7,true,0⟩),
 (75,⟨1,false,0,[],[.int .i64 0],some .i64,8,false,3,true,0⟩),
 (77,⟨1,false,0,[],[.nilFunc],none,8,false,7,true,0⟩),
 (78,⟨1,false,0,[],[.nilFunc],none,8,false,7,true,0⟩),
 (80,⟨1,false,0,[],[.nilFunc],none,8,false,7,true,0⟩),
 (81,⟨1,false,0,[],[.nilFunc],none,8,false,7,true,0⟩),
 (83,⟨1,false,0,[],[.nilFunc],none,8,false,7,true,0⟩),
 (84,⟨1,false,0,[],[.nilFunc],none,8,false,7,true,0⟩),
 (85,⟨3,true,0,[(0,3),(1,3),(2,3)],[.int .i64 0,.int .i64 0,.int .i64 0],none,24,false,1,true,0⟩),
 (86,⟨1,false,143,[],[.slice none 0 0],none,24,true,2,true,0⟩),
 (87,⟨6,true,0,[(0,85),(3,86),(4,4),(5,4)],[.int .i64 0,.int .i64 0,.int .i64 0,.slice none 0 0,.bool false,.bool false],none,56,false,1,true,0⟩),
 (88,⟨6,true,0,[(0,85),(3,86),(4,4),(5,4)],[.int .i64 0,.int .i64 0,.int .i64 0,.slice none 0 0,.bool false,.bool false],none,56,false,1,true,0⟩),
 (89,⟨1,false,0,[],[.nilFunc],none,8,false,7,true,0⟩),
 (90,⟨1,false,0,[],[.nilFunc],none,8,false,7,true,0⟩),
 (91,⟨1,false,0,[],[.nilFunc],none,8,false,7,true,0⟩),
 (92,⟨1,false,0,[],[.nilFunc],none,8,false,7,true,0⟩),
 (93,⟨1,false,0,[],[.int .u64 0],some .u64,8,false,3,true,0⟩),
 (95,⟨1,false,0,[],[.nilFunc],none,8,false,7,true,0⟩),
 (96,⟨1,false,99,[],[.slice none 0 0],none,24,true,2,true,0⟩),
 (97,⟨1,false,0,[],[.nilFunc],none,8,false,7,true,0⟩),
 (98,⟨3,true,0,[(0,21),(1,3),(2,3)],[.int .i32 0,.int .i64 0,.int .i64 0],none,24,false,1,true,0⟩),
 (99,⟨3,true,0,[(0,21),(1,3),(2,3)],[.int .i32 0,.int .i64 0,.int .i64 0],none,24,false,1,true,0⟩),
 (100,⟨1,false,0,[],[.nilFunc],none,8,false,7,true,0⟩),
 (101,⟨1,false,54,[],[.slice none 0 0],none,24,true,2,true,0⟩),
 (102,⟨1,false,0,[],[.nilFunc],none,8,false,7,true,0⟩),
 (103,⟨1,false,0,[],[.nilFunc],none,8,false,7,true,0⟩),
 (104,⟨9,true,0,[(0,54),(3,54),(6,54)],[.int .i64 0,.int .i64 0,.int .i64 0,.int .i64 0,.int .i64 0,.int .i64 0,.int .i64 0,.int .i64 0,.int .i64 0],none,72,false,1,true,0⟩),
 (105,⟨9,true,0,[(0,54),(3,54),(6,54)],[.int .i64 0,.int .i64 0,.int .i64 0,.int .i64 0,.int .i64 0,.int .i64 0,.int .i64 0,.int .i64 0,.int .i64 0],none,72,false,1,true,0⟩),
 (107,⟨1,false,0,[],[.nilFunc],none,8,false,7,true,0⟩),
 (108,⟨1,false,0,[],[.nilFunc],none,8,false,7,true,0⟩),
 (109,⟨1,false,0,[],[.nilFunc],none,8,false,7,true,0⟩),
 (110,⟨2,true,0,[(0,3),(1,3)],[.int .i64 0,.int .i64 0],none,16,false,1,true,0⟩),
 (111,⟨2,true,0,[(0,3),(1,3)],[.int .i64 0,.int .i64 0],none,16,false,1,true,0⟩),
 (112,⟨3,true,0,[(0,111),(2,3)],[.int .i64 0,.int .i64 0,.int .i64 0],none,24,false,1,true,0⟩),
 (113,⟨3,true,0,[(0,111),(2,3)],[.int .i64 0,.int .i64 0,.int .i64 0],none,24,false,1,true,0⟩),
 (114,⟨1,false,116,[],[.slice none 0 0],none,24,true,2,true,0⟩),
 (115,⟨1,false,0,[],[.nilFunc],none,8,false,7,true,0⟩),
 (116,⟨3,true,0,[(0,21),(1,3),(2,3)],[.int .i32 0,.int .i64 0,.int .i64 0],none,24,false,1,true,0⟩),
 (117,⟨1,false,123,[],[.slice none 0 0],none,24,true,2,true,0⟩),
 (118,⟨1,true,0,[(0,117)],[.slice none 0 0],none,24,false,1,true,0⟩),
 (119,⟨1,true,0,[(0,117)],[.slice none 0 0],none,24,false,1,true,0⟩),
 (120,⟨1,false,0,[],[.pointer none],none,8,false,4,true,0⟩),
 (121,⟨1,false,0,[],[.nilFunc],none,8,false,7,true,0⟩),
 (122,⟨6,true,0,[(0,3),(1,3),(2,3),(3,4),(4,22),(5,29)],[.int .i64 0,.int .i64 0,.int .i64 0,.bool false,.slice none 0 0,.slice none 0 0],none,80,false,1,true,0⟩),
 (123,⟨6,true,0,[(0,3),(1,3),(2,3),(3,4),(4,22),(5,29)],[.int .i64 0,.int .i64 0,.int .i64 0,.bool false,.slice none 0 0,.slice none 0 0],none,80,false,1,true,0⟩),
 (124,⟨1,false,126,[],[.slice none 0 0],none,24,true,2,true,0⟩),
 (125,⟨1,false,0,[],[.nilFunc],none,8,false,7,true,0⟩),
 (126,⟨4,true,0,[(0,3),(1,3),(2,3),(3,4)],[.int .i64 0,.int .i64 0,.int .i64 0,.bool false],none,32,false,1,true,0⟩),
 (127,⟨1,false,0,[],[.nilFunc],none,8,false,7,true,0⟩),
 (129,⟨1,false,0,[],[.nilFunc],none,8,false,7,true,0⟩),
 (130,⟨1,false,0,[],[.nilFunc],none,8,false,7,true,0⟩),
 (131,⟨1,false,0,[],[.nilFunc],none,8,false,7,true,0⟩),
 (133,⟨1,false,0,[],[.nilFunc],none,8,false,7,true,0⟩),
 (134,⟨1,false,0,[],[.nilFunc],none,8,false,7,true,0⟩),
 (135,⟨1,false,0,[],[.nilFunc],none,8,false,7,true,0⟩),
 (136,⟨1,false,0,[],[.pointer none],none,8,false,4,true,0⟩),
 (137,⟨1,false,85,[],[.slice none 0 0],none,24,true,2,true,0⟩),
 (138,⟨1,false,0,[],[.nilFunc],none,8,false,7,true,0⟩),
 (139,⟨2,true,0,[(0,137),(1,3)],[.slice none 0 0,.int .i64 0],none,32,false,1,true,0⟩),
 (140,⟨2,true,0,[(0,137),(1,3)],[.slice none 0 0,.int .i64 0],none,32,false,1,true,0⟩),
 (141,⟨1,false,0,[],[.nilFunc],none,8,false,7,true,0⟩),
 (142,⟨9,true,0,[(0,85),(3,85),(6,85)],[.int .i64 0,.int .i64 0,.int .i64 0,.int .i64 0,.int .i64 0,.int .i64 0,.int .i64 0,.int .i64 0,.int .i64 0],none,72,false,1,true,0⟩),
 (143,⟨9,true,0,[(0,85),(3,85),(6,85)],[.int .i64 0,.int .i64 0,.int .i64 0,.int .i64 0,.int .i64 0,.int .i64 0,.int .i64 0,.int .i64 0,.int .i64 0],none,72,false,1,true,0⟩),
 (145,⟨1,false,0,[],[.nilFunc],none,8,false,7,true,0⟩),
 (146,⟨1,false,0,[],[.nilFunc],none,8,false,7,true,0⟩),
 (147,⟨1,false,0,[],[.pointer none],none,8,false,4,true,0⟩),
 (148,⟨2,true,0,[(0,147),(1,22)],[.pointer none,.slice none 0 0],none,32,false,1,true,0⟩),
 (149,⟨2,true,0,[(0,147),(1,22)],[.pointer none,.slice none 0 0],none,32,false,1,true,0⟩),
 (153,⟨1,false,0,[],[.nilFunc],none,8,false,7,true,0⟩),
 (154,⟨1,false,0,[],[.nilFunc],none,8,false,7,true,0⟩),
 (155,⟨1,false,0,[],[.nilFunc],none,8,false,7,true,0⟩),
 (156,⟨1,false,0,[],[.nilFunc],none,8,false,7,true,0⟩),
 (157,⟨1,false,0,[],[.int .i64 0],some .i64,8,false,3,true,0⟩),
 (159,⟨1,false,0,[],[.nilFunc],none,8,false,7,true,0⟩),
 (160,⟨1,false,0,[],[.nilFunc],none,8,false,7,true,0⟩),
 (161,⟨1,false,0,[],[.nilFunc],none,8,false,7,true,0⟩),
 (162,⟨1,false,0,[],[.nilFunc],none,8,false,7,true,0⟩),
 (163,⟨1,false,0,[],[.nilFunc],none,8,false,7,true,0⟩),
 (164,⟨1,false,0,[],[.nilFunc],none,8,false,7,true,0⟩),
 (165,⟨1,false,0,[],[.int .u32 0],some .u32,4,false,3,true,0⟩),
 (166,⟨1,false,0,[],[.nilFunc],none,8,false,7,true,0⟩),
 (167,⟨1,false,0,[],[.int .u64 0],some .u64,8,false,3,true,0⟩),
 (168,⟨1,false,0,[],[.nilFunc],none,8,false,7,true,0⟩),
 (169,⟨1,false,0,[],[.nilFunc],none,8,false,7,true,0⟩),
 (170,⟨1,false,0,[],[.nilFunc],none,8,false,7,true,0⟩),
 (171,⟨1,false,0,[],[.nilFunc],none,8,false,7,true,0⟩),
 (172,⟨1,false,0,[],[.nilFunc],none,8,false,7,true,0⟩),
 (173,⟨1,false,0,[],[.nilFunc],none,8,false,7,true,0⟩),
 (174,⟨1,false,0,[],[.nilFunc],none,8,false,7,true,0⟩),
 (175,⟨1,false,0,[],[.pointer none],none,8,false,4,true,0⟩),
 (176,⟨1,false,0,[],[.nilFunc],none,8,false,7,true,0⟩),
 (177,⟨1,false,0,[],[.nilFunc],none,8,false,7,true,0⟩),
 (178,⟨1,false,0,[],[.nilFunc],none,8,false,7,true,0⟩),
 (179,⟨3,true,0,[(0,9),(1,3),(2,3)],[.string ⟨#[]⟩,.int .i64 0,.int .i64 0],none,32,false,1,true,0⟩),
 (180,⟨3,true,0,[(0,9),(1,3),(2,3)],[.string ⟨#[]⟩,.int .i64 0,.int .i64 0],none,32,false,1,true,0⟩),
 (181,⟨15,true,180,[],[.string ⟨#[]⟩,.int .i64 0,.int .i64 0,.string ⟨#[]⟩,.int .i64 0,.int .i64 0,.string ⟨#[]⟩,.int .i64 0,.int .i64 0,.string ⟨#[]⟩,.int .i64 0,.int .i64 0,.string ⟨#[]⟩,.int .i64 0,.int .i64 0],none,160,false,105,true,0⟩),
 (182,⟨1,false,0,[],[.nilFunc],none,8,false,7,true,0⟩),
 (183,⟨1,false,0,[],[.nilFunc],none,8,false,7,true,0⟩),
 (185,⟨1,false,0,[],[.nilFunc],none,8,false,7,true,0⟩),
 (186,⟨1,false,0,[],[.nilFunc],none,8,false,7,true,0⟩),
 (187,⟨1,false,0,[],[.nilFunc],none,8,false,7,true,0⟩),
 (188,⟨1,false,0,[],[.nilFunc],none,8,false,7,true,0⟩),
 (189,⟨1,false,0,[],[.nilFunc],none,8,false,7,true,0⟩),
 (190,⟨1,false,0,[],[.nilFunc],none,8,false,7,true,0⟩),
 (191,⟨1,false,0,[],[.pointer none],none,8,false,4,true,0⟩),
 (192,⟨1,false,0,[],[.int .u64 0],some .u64,8,false,3,true,0⟩),
 (193,⟨1,false,0,[],[.nilFunc],none,8,false,7,true,0⟩),
 (194,⟨1,false,0,[],[.nilFunc],none,8,false,7,true,0⟩),
 (195,⟨1,false,0,[],[.nilFunc],none,8,false,7,true,0⟩),
 (196,⟨1,false,0,[],[.pointer none],none,8,false,4,true,0⟩),
 (197,⟨1,false,0,[],[.nilFunc],none,8,false,7,true,0⟩),
 (198,⟨1,false,0,[],[.nilFunc],none,8,false,7,true,0⟩),
 (200,⟨1,false,0,[],[.nilFunc],none,8,false,7,true,0⟩),
 (201,⟨1,false,0,[],[.nilFunc],none,8,false,7,true,0⟩),
 (202,⟨1,false,0,[],[.nilFunc],none,8,false,7,true,0⟩),
 (203,⟨1,false,0,[],[.nilFunc],none,8,false,7,true,0⟩),
 (204,⟨1,false,0,[],[.nilFunc],none,8,false,7,true,0⟩),
 (205,⟨1,false,0,[],[.nilFunc],none,8,false,7,true,0⟩),
 (206,⟨1,false,0,[],[.nilFunc],none,8,false,7,true,0⟩),
 (207,⟨1,false,0,[],[.nilFunc],none,8,false,7,true,0⟩),
 (208,⟨1,false,0,[],[.nilFunc],none,8,false,7,true,0⟩),
 (209,⟨1,false,0,[],[.nilFunc],none,8,false,7,true,0⟩),
 (211,⟨1,false,0,[],[.nilFunc],none,8,false,7,true,0⟩),
 (212,⟨1,false,0,[],[.nilFunc],none,8,false,7,true,0⟩),
 (213,⟨1,false,0,[],[.nilFunc],none,8,false,7,true,0⟩),
 (214,⟨1,false,0,[],[.nilFunc],none,8,false,7,true,0⟩),
 (215,⟨1,false,0,[],[.nilFunc],none,8,false,7,true,0⟩),
 (216,⟨1,false,0,[],[.nilFunc],none,8,false,7,true,0⟩),
 (217,⟨1,false,0,[],[.nilFunc],none,8,false,7,true,0⟩),
 (218,⟨1,false,0,[],[.nilFunc],none,8,false,7,true,0⟩),
 (219,⟨1,false,0,[],[.nilFunc],none,8,false,7,true,0⟩),
 (221,⟨1,false,0,[],[.nilFunc],none,8,false,7,true,0⟩),
 (222,⟨1,false,0,[],[.pointer none],none,8,false,4,true,0⟩),
 (223,⟨1,false,0,[],[.nilFunc],none,8,false,7,true,0⟩),
 (224,⟨1,false,0,[],[.nilFunc],none,8,false,7,true,0⟩),
 (225,⟨1,false,0,[],[.nilFunc],none,8,false,7,true,0⟩),
 (226,⟨1,false,0,[],[.nilFunc],none,8,false,7,true,0⟩),
 (227,⟨1,false,0,[],[.nilFunc],none,8,false,7,true,0⟩),
 (228,⟨1,false,0,[],[.nilFunc],none,8,false,7,true,0⟩),
 (229,⟨1,false,0,[],[.nilFunc],none,8,false,7,true,0⟩),
 (230,⟨1,false,0,[],[.nilFunc],none,8,false,7,true,0⟩),
 (231,⟨1,false,0,[],[.nilFunc],none,8,false,7,true,0⟩),
 (232,⟨1,false,0,[],[.nilFunc],none,8,false,7,true,0⟩),
 (233,⟨1,false,0,[],[.nilFunc],none,8,false,7,true,0⟩),
 (234,⟨2,true,0,[(0,21),(1,21)],[.int .i32 0,.int .i32 0],none,8,false,1,true,0⟩),
 (235,⟨2,true,0,[(0,21),(1,21)],[.int .i32 0,.int .i32 0],none,8,false,1,true,0⟩),
 (236,⟨1,false,235,[],[.slice none 0 0],none,24,true,2,true,0⟩),
 (237,⟨1,false,0,[],[.nilFunc],none,8,false,7,true,0⟩),
 (238,⟨1,false,0,[],[.nilFunc],none,8,false,7,true,0⟩),
 (239,⟨1,false,0,[],[.nilFunc],none,8,false,7,true,0⟩),
 (241,⟨1,false,0,[],[.nilFunc],none,8,false,7,true,0⟩),
 (242,⟨4,true,0,[(0,17),(1,17),(2,17),(3,9)],[.pointer none,.pointer none,.pointer none,.string ⟨#[]⟩],none,40,false,1,true,0⟩),
 (243,⟨4,true,0,[(0,17),(1,17),(2,17),(3,9)],[.pointer none,.pointer none,.pointer none,.string ⟨#[]⟩],none,40,false,1,true,0⟩),
 (244,⟨0,true,16,[],[],none,0,false,100,true,0⟩),
 (245,⟨0,true,0,[(0,244)],[],none,0,false,1,true,0⟩),
 (246,⟨0,true,0,[(0,244)],[],none,0,false,1,true,0⟩),
 (247,⟨1,false,0,[],[.int .u8 0],some .u8,1,false,3,true,0⟩),
 (248,⟨1,false,0,[],[.int .u8 0],some .u8,1,false,3,true,0⟩),
 (249,⟨1,false,0,[],[.nilFunc],none,8,false,7,true,0⟩),
 (250,⟨1,false,0,[],[.int .i32 0],some .i32,4,false,3,true,0⟩),
 (251,⟨1,false,0,[],[.int .i32 0],some .i32,4,false,3,true,0⟩),
 (252,⟨11,true,0,[(0,12),(1,12),(2,165),(3,247),(4,5),(5,5),(6,248),(7,249),(8,191),(9,250),(10,251)],[.int .u64 0,.int .u64 0,.int .u32 0,.int .u8 0,.int .u8 0,.int .u8 0,.int .u8 0,.nilFunc,.pointer none,.int .i32 0,.int .i32 0],none,48,false,1,true,0⟩),
 (253,⟨11,true,0,[(0,12),(1,12),(2,165),(3,247),(4,5),(5,5),(6,248),(7,249),(8,191),(9,250),(10,251)],[.int .u64 0,.int .u64 0,.int .u32 0,.int .u8 0,.int .u8 0,.int .u8 0,.int .u8 0,.nilFunc,.pointer none,.int .i32 0,.int .i32 0],none,48,false,1,true,0⟩),
 (254,⟨1,false,0,[],[.nilFunc],none,8,false,7,true,0⟩)]
def tys:Tys:=fun _=>Qpc
theorem Q80:TyOk prog tys:=by
 show QeR prog Qpc;unfold Qpc;repeat refine TyOk.cons (TiOk.of (by kernel_rfl) (by kernel_rfl) (by kernel_rfl) (by kernel_rfl)) ?_
 exact TyOk.nil
end
section
open Go.RowKit Go.Lib
section
variable {P:Program}{ty:Tys}{w0 w:World}{g0:Gh}{o0:List Ob}{N:Nat}{s s':St}{a:Act}
theorem Q89(ρ:List (Option Nat)){l:Eqs}(h:seen o0 ρ s s'=some l)(hl:Qm l)(hs:Sim w0 g0 o0 N s a w):Sim w0 g0 o0 N s' a w:=by
 unfold seen at h;split at h
 ·rename_i hk
  obtain⟨ho,hh,hn⟩:=hk;obtain⟨⟨l1,h1,yb⟩,l2,h2,vt⟩:=Q35 h hl;have hF:Fits s.ob s'.ob ρ:=Q4y _ _ _ h2 vt;obtain⟨g,M,hS,h0⟩:=hs.rel
  have head:∀j,j<o0.length->ρ[j]?=some (some j):=fun j hj=>by
   have:=all_eq_true.1 hh j (mem_range.2 hj)
   simp only[Bool.and_eq_true,beq_iff_eq]at this;exact this.1
  refine⟨hs.defers,hs.size,g.ren ρ,M.ren hF ho,fun t=>?_,?_⟩
  ·have:∀(l:List (Nat×AV)) (q:Eqs),Qpq s s' ρ l=some q->Qm q->ARel w (g.ren ρ) s'.ob (a.tmps.getD t undef) (lk t l):=by
    intro l;induction l with
    |nil=>intro _ _ _;trivial
    |cons p r ih =>
     obtain⟨u,x'⟩:=p;intro q hq hql;obtain⟨⟨q1,e1,a1⟩,q2,e2,a2⟩:=Q35 hq hql;show ARel w (g.ren ρ) s'.ob _ (if t=u then x' else lk t r);by_cases e:t=u
     ·subst e
      rw[if_pos rfl];exact Q8k hF ho (hS t) e1 a1
     ·rw[if_neg e];exact ih q2 e2 a2
   exact this _ _ h1 yb
  ·refine⟨h0.os,h0.tape,h0.output,h0.size,h0.keep,fun b id hG=>?_,h0.imm,⟨h0.ext.A,fun id hid=>?_,fun id hb=>?_,fun id hb=>?_,fun id et sz fz e xs hr=>?_,fun b id hG hs=>?_⟩,?_⟩
   ·obtain⟨i,_,h3⟩:=Q33 hG
    exact h0.own b i h3
   ·rw[Q29 (head id hid)];exact h0.ext.loc id hid
   ·exact hF.isB (head id (Q4j hb)) (h0.ext.isb id hb)
   ·exact hF.isI (head id (Q5b hb)) (h0.ext.isi id hb)
   ·have hid:=Q8 hr
    obtain⟨fz1,e1,xs1,h3,h4,h5⟩:=h0.ext.row id et sz fz e xs hr;obtain⟨fz2,e2,h6,_⟩:=hF.row (head id hid) h3
    have he:e1=e2\/e<e2:=by
     have:=all_eq_true.1 hh id (mem_range.2 hid)
     simp only[Bool.and_eq_true,hr,h3,h6,beq_iff_eq,Bool.or_eq_true,decide_eq_true_eq]at this;exact this.2
    rcases he with he|he
    rotate_left
    ·exact⟨fz2,e2,xs1,h6,by omega,fun ql=>by omega⟩
    subst he;exact⟨fz2,e1,xs1,h6,h4,fun ql=>(h5 ql).turn (fun b hb=>⟨hb,rfl⟩) (fun b _ hb=>Q5B ho (head id hid) hb) rfl⟩
   ·obtain⟨et,sz,fz,fz',e,xs,xs',h3,h4⟩:=hs
    have hid:=Q8 h3;obtain⟨fz1,e1,xs1,h5,h6,h7⟩:=h0.ext.row id et sz fz e xs h3;obtain⟨fz2,e2,h8,_⟩:=hF.row (head id hid) h5;rw[h8]at h4;obtain⟨rfl,rfl,rfl⟩:fz2=fz'/\e2=e/\xs1=xs':=by simpa using h4
    have he:e1=e2:=by
     have:=all_eq_true.1 hh id (mem_range.2 hid)
     simp only[Bool.and_eq_true,h3,h5,h8,beq_iff_eq,Bool.or_eq_true,decide_eq_true_eq]at this;omega
    subst he;obtain⟨h9,q9⟩:=h0.ext.sub b id hG ⟨_,_,_,_,_,_,_,h3,h5⟩;have vn:=Q3R (g:=g) ho (head id hid) ((h7 rfl).G hG);exact⟨vn.trans h9,q9⟩
   ·rw[<-hF.1];exact hn
 ·cases h
end
theorem QbM(p:Nat->Prop)(h:∃n,p n):∃n,p n/\∀m,p m->n<=m:=by
 obtain⟨n,hn⟩:=h;induction n using Nat.strongRecOn with
 |_ n ih =>
  by_cases h:∃m,m<n/\p m
  ·obtain⟨m,h1,h2⟩:=h
   exact ih m h1 h2
  ·exact⟨n,hn,fun m hm=>Nat.le_of_not_lt fun jB=>h ⟨m,jB,hm⟩⟩
def Qot(o0:List Ob)(s s':St):Prop:=∃ρ l,seen o0 ρ s s'=some l/\Qm l
section
variable {P:Program}{ty:Tys}{w0:World}{g0:Gh}{o0:List Ob}{N:Nat}
def Q1u{X:Type}(o0:List Ob)(S:X->St)(J:X->Prop)(μ:X->Nat)(x:X)(Q:Ex->St->Prop):Ex->St->Prop
 |.normal,s=>∃x',J x'/\μ x'<μ x/\Qot o0 s (S x')
 |e,s=>Q e s
theorem QbN(hT:TyOk P ty)(hm:P.follows .mixedOrders=true){cs:Nat->List AV->List Ob->Option (AV×List Ob)}{ord:Nat->OT}{c:Code}(hd:Q2h N c=true)(ho:Q28 .any ty ord c=true)
  {X:Type} (S:X->St) (J:X->Prop) (μ:X->Nat) {Q:Ex->St->Prop} {s:St} (x0:X) (h0:J x0) (hS:Qot o0 s (S x0))
  (round:∀x,J x->(Q1o std ty cs ord c (fun e s=>.leaf e s) (S x)).ok P w0 g0 o0 N (Q1u o0 S J μ x Q)):WP P w0 g0 o0 N (.loop c) Q s:=by
 intro a w hs;obtain⟨ρ,l,hl,hE⟩:=hS;let I:Act->World->Prop:=fun a w=>∃x,J x/\Sim w0 g0 o0 N (S x) a w
 let pm:Act->World->Nat->Prop:=fun a w n=>∃x,J x/\Sim w0 g0 o0 N (S x) a w/\μ x=n
 let m:Act->World->Nat:=fun a w=>open Classical in if h:∃n,pm a w n then Classical.choose (QbM _ h)else 0
 have yj:∀a w,I a w->pm a w (m a w)/\∀k,pm a w k->m a w<=k:=fun a w hI=>by
  have h:∃n,pm a w n:=by
   obtain⟨x,h1,h2⟩:=hI;exact⟨μ x,x,h1,h2,rfl⟩
  have e:m a w=Classical.choose (QbM _ h):=dif_pos h;rw[e];exact Classical.choose_spec (QbM _ h)
 refine wp_loop I m ⟨x0,h0,Q89 ρ hl hE hs⟩ fun a w hI=>?_
 obtain⟨⟨x,hJ,hx,hμ⟩,jJ⟩:=yj a w hI;refine Q4i (Q:=Q1u o0 S J μ x Q) hT hm c _ _ (S x) a w hd ho (fun c a d v w h=>?_) (fun e s a' w' ht jd hq=>?_) (fun v s a w ht hs h=>⟨.pan v,s,rfl,fun _ _=>ht,hs,h⟩) hx (round x hJ)
 ·obtain⟨e',s',h1,ht,h2,h3⟩:=h
  cases e'<;>cases h1
  have et:s'.tm=[]:=ht _ rfl;obtain⟨g,M,_,h0⟩:=h2.rel;exact⟨.pan _,s',rfl,ht,⟨h2.defers,by have:=h2.size;simpa[Act.put]using this,g,M,fun t=>by rw[et];trivial,h0⟩,h3⟩
 ·cases e with
  |normal =>
   obtain⟨x',h1,h2,ρ',l',h3,h4⟩:=hq;have jV:=Q89 ρ' h3 h4 jd;have p5:I a' w':=⟨x',h1,jV⟩;refine⟨p5,Nat.lt_of_le_of_lt ((yj a' w' p5).2 _ ⟨x',h1,jV,rfl⟩) ?_⟩;rw[<-hμ];exact h2
  |exit i=>exact⟨.exit i,s,rfl,ht,jd,hq⟩
  |ret=>exact⟨.ret,s,rfl,ht,jd,hq⟩
  |pan v=>exact⟨.pan v,s,rfl,ht,jd,hq⟩
end
section
variable {P:Program}{w w':World}{g:Gh}{ob:List Ob}
theorem Q2T{vs:List Value}(h:Q2R w g ob vs []):vs=[]:=List.eq_nil_of_length_eq_zero h.1
theorem QX{vs:List Value}{x:AV}{r:List AV}(h:Q2R w g ob vs (x::r)):∃v vs',vs=v::vs'/\ARel1 w g ob v x/\Q2R w g ob vs' r:=by
 cases vs with
 |nil=>exact absurd h.1 (by simp)
 |cons v vs=>exact⟨v,vs,rfl,h.2 0 v x rfl rfl,by simpa using h.1,fun j a b ha hb=>h.2 (j+1) a b (by simpa using ha) (by simpa using hb)⟩
theorem Q3v{v u:Value}(h:ARel1 w g ob v (.val u)):v=u:=ARel.valEq (ARel1.to h)
theorem QoT{v:Value}{sz:Nat}{xs:List AV}(h:ARel1 w g [] v (.slc sz xs))(M:Mem w g []) :
  ∃A c ys,v=.slice A xs.length c/\Rd w (fun _=>True) sz A xs.length c ys/\Alike w g.A ys (QF xs) :=
 Q4B (s:=⟨[],[]⟩) M (ARel1.to h) rfl
theorem Q8U{A:Nat->Nat->Prop}{us:List Value}:∀{ys:List Value},Alike w A ys (us.map .val)->ys=us:=by
 induction us with
 |nil=>intro ys h;exact List.eq_nil_of_length_eq_zero h.1
 |cons u us ih =>
  intro ys h;cases ys with
  |nil=>exact absurd h.1 (by simp)
  |cons y ys =>
   have h1:PRel w A y (.val u):=h.2 0 y (.val u) rfl rfl;have h2:y=u:=by cases h1;rfl
   rw[h2,ih (ys:=ys) ⟨by simpa using h.1,fun j a b ha hb=>h.2 (j+1) a b (by simpa using ha) (by simpa using hb)⟩]
theorem Q6w(us:List Value):QF (us.map .val)=us.map .val:=by
 induction us with
 |nil=>rfl
 |cons u us ih=>simp only[QF,map_cons,List.flatMap_cons]at ih ⊢;rw[ih];rfl
theorem QgC{A':Nat->Nat->Prop}{S:Nat->Prop}{sz n c:Nat}{A:Option Addr}{ys:List Value}{xs:List AV}(hr:Rd w S sz A n c ys)(hS:∀b o,S b->A' b o)(hn:n=xs.length)(hw:∀x∈xs,x.cells.length=sz)(hA:∀a,A=some a->∃b o,a=⟨b,o,none⟩)
  (j7:Alike w A' ys (QF xs)):PRel w A' (.slice A n c) (.slc sz xs):=by
 subst hn;obtain⟨h1,h2,h3,h4,h5⟩:=hr;cases A with
 |none =>
  have hc:=h4 rfl;subst hc;have:xs=[]:=List.eq_nil_of_length_eq_zero (by omega)
  subst this;exact PRel.nil sz
 |some a =>
  obtain⟨b,o,rfl⟩:=hA a rfl
  have pos:∀(j:Nat) u,(QF xs)[j]?=some u->0<xs.length:=fun j u hu=>by
   cases xs with
   |nil=>simp at hu
   |cons _ _=>simp
  have h5':0<xs.length->S b/\∀j u,ys[j]?=some u->w.cell? ⟨b,o+j,none⟩=some u:=fun h=>by
   obtain⟨b',o',h6,h7,h8⟩:=h5 h;cases h6;exact⟨h7,h8⟩
  have get:∀(j:Nat) u,(QF xs)[j]?=some u->∃y,ys[j]?=some y/\ys.getD j undef=y:=fun j u hu=>by
   have hj:j<ys.length:=by rw[j7.1];exact Q8 hu
   exact⟨ys[j],getElem?_eq_getElem hj,by rw[List.getD_eq_getElem?_getD,getElem?_eq_getElem hj];rfl⟩
  refine PRel.slc b o c sz xs (fun j=>ys.getD j undef) h2 h3 hw (fun j u hu=>?_) (fun j u hu=>?_)
  ·obtain⟨y,hy,he⟩:=get j u hu
   obtain⟨h7,h8⟩:=h5' (pos j u hu);exact⟨hS _ _ h7,by rw[he];exact h8 j y hy⟩
  ·obtain⟨y,hy,he⟩:=get j u hu
   rw[he];exact j7.2 j y u hy hu
theorem Qhx:∀{vs:List Value}{xs ys:List AV},Q2R w g ob vs xs->leT xs ys->Q2R w g ob vs ys
 |vs,[],[],h,_=>h
 |_,[],_::_,_,hl=>hl.elim
 |_,_::_,[],_,hl=>hl.elim
 | [],x::r,y::r',h,_=>absurd h.1 (by simp)
 |v::vs,x::r,y::r',h,hl=>by
  have h1:=h.2 0 v x rfl rfl;have h2:Q2R w g ob vs r':=Qhx (xs:=r) ⟨by simpa using h.1,fun j a b ha hb=>h.2 (j+1) a b (by simpa using ha) (by simpa using hb)⟩ hl.2
  refine⟨by simp[h2.1],fun j a b ha hb=>?_⟩
  cases j with
  |zero =>
   obtain rfl:v=a:=by simpa using ha
   obtain rfl:y=b:=by simpa using hb
   exact Qaz h1 hl.1
  |succ j=>exact h2.2 j a b (by simpa using ha) (by simpa using hb)
theorem BCall.le{f:Nat}{args args':List AV}{ob ob':List Ob}{res:AV}(h:BCall P f args' ob res ob')(hl:leT args args'):BCall P f args ob res ob' :=
 ⟨h.1,fun w g vs M hL=>h.2 w g vs M (Qhx hL hl)⟩
theorem BCall.forget{f:Nat}{args:List AV}{ob ob':List Ob}{res:AV}(h:BCall P f args ob res ob'):BCall P f args ob .dead ob' :=
 ⟨h.1,fun w g vs M hL=>(h.2 w g vs M hL).mono fun e w' ⟨v,g',h1,h2,h3,h4⟩=>⟨v,g',h1,h2,trivial,h4⟩⟩
theorem BCall.res{f:Nat}{args:List AV}{ob ob':List Ob}{res res':AV}(h:BCall P f args ob res ob')(hl:leA res res'):BCall P f args ob res' ob' :=
 ⟨h.1,fun w g vs M hL=>(h.2 w g vs M hL).mono fun e w' ⟨v,g',h1,h2,h3,h4⟩=>⟨v,g',h1,h2,Q9A h3 hl,h4⟩⟩
theorem BCall.hand{f:Nat}{args:List AV}{res:AV}(he:∀vs w,(callFunc f vs).run P w=.ok (.enter f vs) w)
  (h:∀(w:World)(g:Gh)(vs:List Value),Mem w g []->Q2R w g [] vs args->Calls P f vs.toArray w fun e w'=>∃v,e=.returned v/\Below w.heap.size w w'/\ARel w' (g.imm w w') [] v res):BCall P f args [] res [] :=
 ⟨he,fun w g vs M hL=>(h w g vs M hL).mono fun e w' ⟨v,h1,hb,hr⟩=>⟨v,g.imm w w',h1,M.immNew hb,hr,Step.immNew M hb⟩⟩
end
