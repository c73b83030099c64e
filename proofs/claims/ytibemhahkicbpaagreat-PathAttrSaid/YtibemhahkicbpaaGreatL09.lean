/- Lemmas, conditions told -/
import Derived.Test.YtibemhahkicbpaaGreatL08
import Derived.LoopN
set_option maxRecDepth 99999
set_option maxHeartbeats 0
set_option linter.unusedSimpArgs false
set_option linter.unusedVariables false
namespace Go.Proofs.YtibemhahkicbpaaGreat
open List(all_cons mem_cons_self getElem?_eq_getElem set_cons_succ getElem?_set_ne getElem?_set_self length_set map_cons sum_cons sum_append map_append map_congr_left append_assoc filter_cons)
open Nat(eq_of_beq_eq_true zero_add lt_of_lt_of_le le_refl zero_le add_zero)
open Go.RowKit Go.Lib
section
open Tryz
theorem Que{a b:ByteArray}(h:a.data.toList=b.data.toList):a=b:=by
 cases a;cases b;exact congrArg ByteArray.mk (Array.ext' h)
def vEq:Value->Value->Bool
 |.int k a,.int k' b=>decide (k=k')&&decide (a=b)
 |.bool a,.bool b=>a == b
 |.string a,.string b=>decide (a.data.toList=b.data.toList)
 |.slice none a b,.slice none c d=>Nat.beq a c&&Nat.beq b d
 |.pointer none,.pointer none=>true
 |_,_=>false
theorem Quk{x y:Value}(h:vEq x y=true):x=y:=by
 unfold vEq at h;split at h
 ·simp only[Bool.and_eq_true,decide_eq_true_eq]at h
  rw[h.1,h.2]
 ·rw[eq_of_beq h]
 ·rw[Que (of_decide_eq_true h)]
 ·simp only[Bool.and_eq_true]at h
  rw[eq_of_beq_eq_true h.1,eq_of_beq_eq_true h.2]
 ·rfl
 ·cases h
def QjS{α:Type}(f:α->α->Bool):List α->List α->Bool
 | [],[]=>true
 |x::r,y::r'=>f x y&&QjS f r r'
 |_,_=>false
theorem QqX{α:Type}{f:α->α->Bool}(h:∀x y,f x y=true->x=y):∀l l':List α,QjS f l l'=true->l=l'
 | [],[],_=>rfl
 | [],_::_,e=>by cases e
 |_::_,[],e=>by cases e
 |x::r,y::r',e=>by
  simp only[QjS,Bool.and_eq_true]at e;rw[h x y e.1,QqX h r r' e.2]
def aEq:Nat->AV->AV->Bool
 |0,_,_=>false
 |n+1,x,y=>match x,y with
  |.val a,.val b=>vEq a b
  |.slc s xs,.slc s' ys=>Nat.beq s s'&&QjS (aEq n) xs ys
  |.agg xs,.agg ys=>QjS (aEq n) xs ys
  |.ref xs,.ref ys=>QjS (aEq n) xs ys
  |.tup xs,.tup ys=>QjS (aEq n) xs ys
  |.box i o,.box j p=>Nat.beq i j&&Nat.beq o p
  |.row i o,.row j p=>Nat.beq i j&&Nat.beq o p
  |.rowk i o k,.rowk j p l=>Nat.beq i j&&(Nat.beq o p&&decide (k=l))
  |.rptr i o k z,.rptr j p l z'=>Nat.beq i j&&(Nat.beq o p&&(decide (k=l)&&Nat.beq z z'))
  |.kb a,.kb b=>a == b
  |.iter i,.iter j=>Nat.beq i j
  |.opt a,.opt b=>aEq n a b
  |.dead,.dead=>true
  |_,_=>false
theorem Qrs:∀(n:Nat)(x y:AV),aEq n x y=true->x=y
 |0,_,_,h=>by cases h
 |n+1,x,y,h=>by
  have ih:=Qrs n;unfold aEq at h;split at h
  ·rw[Quk h]
  ·simp only[Bool.and_eq_true]at h;rw[eq_of_beq_eq_true h.1,QqX ih _ _ h.2]
  ·rw[QqX ih _ _ h]
  ·rw[QqX ih _ _ h]
  ·rw[QqX ih _ _ h]
  ·simp only[Bool.and_eq_true]at h;rw[eq_of_beq_eq_true h.1,eq_of_beq_eq_true h.2]
  ·simp only[Bool.and_eq_true]at h;rw[eq_of_beq_eq_true h.1,eq_of_beq_eq_true h.2]
  ·simp only[Bool.and_eq_true,decide_eq_true_eq]at h;rw[eq_of_beq_eq_true h.1,eq_of_beq_eq_true h.2.1,h.2.2]
  ·simp only[Bool.and_eq_true,decide_eq_true_eq]at h;rw[eq_of_beq_eq_true h.1,eq_of_beq_eq_true h.2.1,h.2.2.1,eq_of_beq_eq_true h.2.2.2]
  ·rw[eq_of_beq h]
  ·rw[eq_of_beq_eq_true h]
  ·rw[ih _ _ h]
  ·rfl
  ·cases h
def oEq:Ob->Ob->Bool
 |.box a,.box b=>QjS (aEq 40) a b
 |.fbox a,.fbox b=>QjS (aEq 40) a b
 |.row a b c d xs,.row a' b' c' d' ys=>Nat.beq a a'&&(Nat.beq b b'&&((c == c')&&(Nat.beq d d'&&QjS (aEq 40) xs ys)))
 |.iter a p,.iter b q=>decide (a.data.toList=b.data.toList)&&Nat.beq p q
 |.gone,.gone=>true
 |_,_=>false
theorem QtD{x y:Ob}(h:oEq x y=true):x=y:=by
 have ih:=Qrs 40;unfold oEq at h;split at h
 ·rw[QqX ih _ _ h]
 ·rw[QqX ih _ _ h]
 ·simp only[Bool.and_eq_true]at h
  rw[eq_of_beq_eq_true h.1,eq_of_beq_eq_true h.2.1,eq_of_beq h.2.2.1,eq_of_beq_eq_true h.2.2.2.1,QqX ih _ _ h.2.2.2.2]
 ·simp only[Bool.and_eq_true]at h
  rw[Que (of_decide_eq_true h.1),eq_of_beq_eq_true h.2]
 ·rfl
 ·cases h
def Quv(l:Eqs):Bool:=l.all fun q=>aEq 40 q.1 q.2
theorem Qt1:∀l:Eqs,Quv l=true->Qe l
 | [],_=>trivial
 |(a,b)::r,h=>by
  simp only[Quv,all_cons,Bool.and_eq_true]at h;exact⟨Qrs 40 _ _ h.1,Qt1 r h.2⟩
def Eqv(s s':St):Prop:=s.ob=s'.ob/\(∀t,lk t s.tm=lk t s'.tm)/\(∀k r,s.tm=[(k,r)]->s'.tm=[(k,r)])
def Qui(s s':St):Bool:=QjS oEq s.ob s'.ob&&(match s.tm,s'.tm with
 | [(k,r)],[(k',r')]=>Nat.beq k k'&&aEq 40 r r'
 | [(_,_)],_=>false
 |l,l'=>(l.all fun q=>aEq 40 (lk q.1 l) (lk q.1 l'))&&(l'.all fun q=>aEq 40 (lk q.1 l) (lk q.1 l')))
theorem QsJ{t:Nat}:∀l:List (Nat×AV),(∀q∈l,q.1≠t)->lk t l=.dead
 | [],_=>rfl
 |(u,x)::r,h=>by
  show(if t=u then x else lk t r)=_
  rw[if_neg (fun e=>h _ (mem_cons_self ..) e.symm)]
  exact QsJ r fun q hq=>h q (List.mem_cons_of_mem _ hq)
theorem Qu2{s s':St}(h:Qui s s'=true):Eqv s s':=by
 unfold Qui at h;rw[Bool.and_eq_true]at h;refine⟨QqX (fun _ _=>QtD) _ _ h.1,?_⟩
 have h:=h.2;split at h
 ·rename_i k r k' r' h1 h2
  rw[Bool.and_eq_true]at h;have e1:=eq_of_beq_eq_true h.1;have e2:=Qrs 40 _ _ h.2;subst e1 e2;rw[h1,h2];exact⟨fun _=>rfl,fun _ _ e=>e⟩
 ·cases h
 ·rename_i l l' h1 h2
  refine⟨fun t=>?_,fun k r e=>by first|exact absurd e (h1 k r)|exact absurd e (h2 k r)⟩
  rw[Bool.and_eq_true,List.all_eq_true,List.all_eq_true]at h;by_cases ha:∃q∈s.tm,q.1=t
  ·obtain⟨q,hq,rfl⟩:=ha
   exact Qrs 40 _ _ (h.1 q hq)
  ·by_cases hb:∃q∈s'.tm,q.1=t
   ·obtain⟨q,hq,rfl⟩:=hb
    exact Qrs 40 _ _ (h.2 q hq)
   ·rw[QsJ _ (fun q hq e=>ha ⟨q,hq,e⟩),QsJ _ (fun q hq e=>hb ⟨q,hq,e⟩)]
def Quj:Ex->Ex->Bool
 |.normal,.normal=>true
 |.ret,.ret=>true
 |.exit i,.exit j=>Nat.beq i j
 |_,_=>false
theorem QtU{x y:Ex}(h:Quj x y=true):x=y:=by
 unfold Quj at h;split at h
 ·rfl
 ·rfl
 ·rw[eq_of_beq_eq_true h]
 ·cases h
def QsN:Option (Ex×St)->Option (Ex×St)->Option (Ex×St)
 |some (e,s),some (e',s')=>match Quj e e'&&Qui s s' with
  |true=>some (e,s)
  |false=>none
 |_,_=>none
def Qr6(ask:Nat->List Srt->Bool)(lp:Code->St->Option (Ex×St)):Tree->Option (Ex×St)
 |.leaf e s=>some (e,s)
 |.br c t f=>match c with
  |true=>Qr6 ask lp t
  |false=>Qr6 ask lp f
 |.need q t=>match q.b with
  |true=>Qr6 ask lp t
  |false=>none
 |.call _ _ _ _ _ t=>Qr6 ask lp t
 |.loop body s K=>match lp body s with
  |some (e,s')=>Qr6 ask lp (K e s')
  |none=>none
 |.both a b=>QsN (Qr6 ask lp a) (Qr6 ask lp b)
 |.either q a b=>match q.b with
  |true=>QsN (Qr6 ask lp a) (Qr6 ask lp b)
  |false=>Qr6 ask lp b
 |.ask T sh t=>match ask T sh with
  |true=>Qr6 ask lp t
  |false=>none
 |.stuck _=>none
def Tree.cal(C:Nat->List AV->List Ob->AV->List Ob->Prop)(B:Code->Prop):Tree->Prop
 |.leaf _ _=>True
 |.br _ t f=>t.cal C B/\f.cal C B
 |.need _ t=>t.cal C B
 |.call f a o r o' t=>C f a o r o'/\t.cal C B
 |.loop body _ K=>B body/\∀e s,(K e s).cal C B
 |.both a b=>a.cal C B/\b.cal C B
 |.either _ a b=>a.cal C B/\b.cal C B
 |.ask _ _ t=>t.cal C B
 |.stuck _=>True
section
variable {P:Program}{w0:World}{g0:Gh}{o0:List Ob}{N:Nat}{Q:Ex->St->Prop}
theorem QrS{x y:Option (Ex×St)}{e:Ex}{s:St}(h:QsN x y=some (e,s)):x=some (e,s)/\∃s',y=some (e,s')/\Eqv s s':=by
 unfold QsN at h;split at h
 ·rename_i e1 s1 e2 s2
  split at h
  ·rename_i hb
   rw[Bool.and_eq_true]at hb;obtain⟨rfl,rfl⟩:e1=e/\s1=s:=by simpa using h
   refine⟨rfl,s2,?_,Qu2 hb.2⟩;rw[QtU hb.1]
  ·cases h
 ·cases h
theorem QsT{ask:Nat->List Srt->Bool}{lp:Code->St->Option (Ex×St)}(ha:∀T sh,ask T sh=true->EqOk P T sh){B:Code->Prop}(hl:∀body s e s',B body->lp body s=some (e,s')->WP P w0 g0 o0 N (.loop body) (fun e2 s2=>e2=e/\s2=s') s)
  (hQ:∀e s s',Q e s->Eqv s s'->Q e s'):∀(t:Tree)(e:Ex)(s:St),t.cal (fun f a o r o'=>BCall P f a o r o') B->Qr6 ask lp t=some (e,s)->Q e s->t.ok P w0 g0 o0 N Q:=by
 intro t;induction t with
 |leaf e s =>
  intro e' s' _ h hq;obtain⟨rfl,rfl⟩:e=e'/\s=s':=by simpa[Qr6]using h
  exact hq
 |br c t f iht ihf =>
  intro e s hc h hq;cases c with
  |true=>exact⟨fun _=>iht e s hc.1 h hq,fun h=>(by cases h)⟩
  |false=>exact⟨fun h=>(by cases h),fun _=>ihf e s hc.2 h hq⟩
 |need q t ih =>
  intro e s hc h hq;unfold Qr6 at h;split at h
  ·rename_i hb
   exact⟨q.h.1 hb,ih e s hc h hq⟩
  ·cases h
 |call f a o r o' t ih =>
  intro e s hc h hq;exact⟨hc.1,ih e s hc.2 h hq⟩
 |loop body s0 K ih =>
  intro e s hc h hq;unfold Qr6 at h;split at h
  ·rename_i e1 s1 h1
   intro a w hs;refine wp_mono (hl body s0 e1 s1 hc.1 h1 a w hs) fun x a' w' hx=>?_
   obtain⟨e',s',yx,yj,rfl,rfl⟩:=hx;exact⟨_,_,yx,yj,ih _ _ e s (hc.2 _ _) h hq⟩
  ·cases h
 |both a b iha ihb =>
  intro e s hc h hq;obtain⟨h1,s',h2,h3⟩:=QrS h;exact⟨iha e s hc.1 h1 hq,ihb e s' hc.2 h2 (hQ e s s' hq h3)⟩
 |either q a b iha ihb =>
  intro e s hc h hq;unfold Qr6 at h;split at h
  ·obtain⟨h1,s',h2,h3⟩:=QrS h
   exact⟨fun _=>iha e s hc.1 h1 hq,ihb e s' hc.2 h2 (hQ e s s' hq h3)⟩
  ·rename_i hb
   exact⟨fun vo=>(by rw[q.h.2 vo]at hb;cases hb),ihb e s hc.2 h hq⟩
 |ask T sh t ih =>
  intro e s hc h hq;unfold Qr6 at h;split at h
  ·rename_i hb
   exact⟨ha T sh hb,ih e s hc h hq⟩
  ·cases h
 |stuck n=>intro e s _ h;cases h
end
section
variable {p:Pr}{ty:Tys}{cs:Nat->List AV->List Ob->Option (AV×List Ob)}{C:Nat->List AV->List Ob->AV->List Ob->Prop}{B:Code->Prop}
theorem Qto{K:St->Tree}(hK:∀s,(K s).cal C B)(o:Oper)(s:St)(op:Op):(Q3X p ty K o s op).cal C B:=by
 unfold Q3X;repeat' split
 all_goals first
  |trivial
  |exact hK _
theorem Qtj{K:St->Tree}(hK:∀s,(K s).cal C B)(o:Oper)(s:St)(T:Nat)(a x:Operand):(QeZ p ty K o s T a x).cal C B:=by
 unfold QeZ;repeat' split
 all_goals first
  |trivial
  |exact hK _
theorem QrH(hcs:∀o g a ob r o',Qpp cs o g a ob=some (r,o')->C g a ob r o'){K:St->Tree}(hK:∀s,(K s).cal C B)(o:Oper)(s:St):(aop p ty cs K o s).cal C B:=by
 unfold aop;split;all_goals try simp only
 all_goals repeat' split
 all_goals first
  |trivial
  |exact hK _
  |exact Qto hK _ _ _
  |exact Qtj hK _ _ _ _ _
  |exact⟨hK _,hK _⟩
  |(rename_i h _;exact⟨hcs _ _ _ _ _ _ h,hK _⟩)
  |(rename_i h;exact⟨hcs _ _ _ _ _ _ h,hK _⟩)
theorem Qtr(hcs:∀o g a ob r o',Qpp cs o g a ob=some (r,o')->C g a ob r o'){ops:List Oper}{K:St->Tree}(hK:∀s,(K s).cal C B):∀(t:OT)(s:St),(Q5H p ty cs ops K t s).cal C B:=by
 intro t;induction t with
 |nil=>intro s;exact hK s
 |fork a b iha ihb=>intro s;exact⟨iha s,ihb s⟩
 |cons i r ih =>
  intro s;have hr:∀s,(Q5H p ty cs ops K r s).cal C B:=ih;unfold Q5H;split
  ·trivial
  ·split
   ·exact QrH hcs hr _ _
   ·split
    ·trivial
    ·repeat' split
     all_goals first
      |trivial
      |exact hr _
      |exact QrH hcs hr _ _
      |exact⟨QrH hcs hr _ _,hr _⟩
      |exact⟨hr _,QrH hcs hr _ _⟩
theorem Qsb(hcs:∀o g a ob r o',Qpp cs o g a ob=some (r,o')->C g a ob r o'){ord:Nat->OT}{N:Nat}:∀(c:Code)(K:Ex->St->Tree),Q4p N c=true->Q40 .any ty ord c=true->(∀e s,(K e s).cal C (fun b=>Q4p N b=true/\Q40 .any ty ord b=true))->∀s,(Q4 p ty cs ord c K s).cal C (fun b=>Q4p N b=true/\Q40 .any ty ord b=true):=by
 intro c;induction c with
 |skip=>intro K _ _ hK s;exact hK _ _
 |region id ops draw=>intro K _ _ hK s;exact Qtr hcs (fun s=>hK _ s) _ _
 |seq a b iha ihb =>
  intro K hd ho hK s;simp only[Q4p,Q40,Bool.and_eq_true]at hd ho;refine iha _ hd.1 ho.1 (fun e s=>?_) s
  cases e with
  |normal=>exact ihb K hd.2 ho.2 hK s
  |exit i=>exact hK _ _
  |ret=>exact hK _ _
 |cond c a b iha ihb =>
  intro K hd ho hK s;simp only[Q4p,Q40,Bool.and_eq_true]at hd ho;unfold Q4;repeat' split
  all_goals first
   |trivial
   |exact iha K hd.1 ho.1 hK _
   |exact ihb K hd.2 ho.2 hK _
   |exact⟨iha K hd.1 ho.1 hK _,ihb K hd.2 ho.2 hK _⟩
 |block id c ih =>
  intro K hd ho hK s;simp only[Q4p,Q40]at hd ho;refine ih _ hd ho (fun e s=>?_) s
  cases e with
  |normal=>exact hK _ _
  |ret=>exact hK _ _
  |exit i=>simp only;split<;>exact hK _ _
 |loop c ih =>
  intro K hd ho hK s;simp only[Q4p,Q40]at hd ho;exact⟨⟨hd,ho⟩,fun e s=>hK e s⟩
 |exit i=>intro K _ _ hK s;exact hK _ _
 |ret=>intro K _ _ hK s;exact hK _ _
 |_=>intro K _ _ hK s;trivial
end
def QtC(ks:List Nat)(s:St):St:=⟨ks.map fun t=>(t,lk t s.tm),s.ob⟩
def Qsy(l:List (Nat×AV)):List Nat:=l.foldr (fun q r=>if r.any (Nat.beq q.1)then r else q.1::r) []
def Qsv(ks:List Nat)(e:Ex)(s:St):Tree:=match e with
 |.normal=>.leaf .normal (QtC ks s)
 |e=>.leaf e s
def lpF(ask:Nat->List Srt->Bool)(ty:Tys)(cs:Nat->List AV->List Ob->Option (AV×List Ob))(ord:Nat->OT):Nat->Code->St->Option (Ex×St)
 |0,_,_=>none
 |k+1,body,s=>match Qr6 ask (lpF ask ty cs ord k) (Q4 std ty cs ord body (Qsv (Qsy s.tm)) s)with
  |some (.normal,s')=>lpF ask ty cs ord k body s'
  |some (e,s')=>some (e,s')
  |none=>none
section
variable {P:Program}{ty:Tys}{w0:World}{g0:Gh}{o0:List Ob}{N:Nat}{w:World}{a:Act}
theorem QsV(t:Nat)(s:St):∀ks:List Nat,lk t (ks.map fun t=>(t,lk t s.tm))=lk t s.tm\/lk t (ks.map fun t=>(t,lk t s.tm))=.dead
 | []=>.inr rfl
 |k::r=>by
  show(if t=k then lk k s.tm else lk t (r.map _))=_\/(if t=k then lk k s.tm else lk t (r.map _))=_
  split
  ·rename_i h;rw[h];exact .inl rfl
  ·exact QsV t s r
theorem Qtk{s:St}(ks:List Nat)(hs:Sim w0 g0 o0 N s a w):Sim w0 g0 o0 N (QtC ks s) a w:=by
 obtain⟨g,M,hS,h0⟩:=hs.rel;refine⟨hs.defers,hs.size,g,M,fun t=>?_,h0⟩
 show ARel w g s.ob _ (lk t (ks.map fun t=>(t,lk t s.tm)))
 rcases QsV t s ks with h|h
 ·rw[h];exact hS t
 ·rw[h];trivial
theorem Qsf{s s':St}(h:Eqv s s')(hs:Sim w0 g0 o0 N s' a w):Sim w0 g0 o0 N s a w:=by
 obtain⟨g,M,hS,h0⟩:=hs.rel;have e:=h.1;refine⟨hs.defers,hs.size,g,by rw[e];exact M,fun t=>?_,by rw[e];exact h0⟩
 show ARel w g s.ob _ (lk t s.tm);rw[h.2.1 t,e];exact hS t
theorem Eqv.refl(s:St):Eqv s s:=⟨rfl,fun _=>rfl,fun _ _ h=>h⟩
theorem Eqv.trans{s s' s'':St}(h:Eqv s s')(k:Eqv s' s''):Eqv s s'':=⟨h.1.trans k.1,fun t=>(h.2.1 t).trans (k.2.1 t),fun i r e=>k.2.2 i r (h.2.2 i r e)⟩
theorem Qs8(hT:TyOk P ty)(hm:P.follows .mixedOrders=true){ask:Nat->List Srt->Bool}(ha:∀T sh,ask T sh=true->EqOk P T sh){cs:Nat->List AV->List Ob->Option (AV×List Ob)}(hcs:∀o g a ob r o',Qpp cs o g a ob=some (r,o')->BCall P g a ob r o'){ord:Nat->OT} :
  ∀(k:Nat)(body:Code)(s:St)(e:Ex)(s':St),Q4p N body=true/\Q40 .any ty ord body=true->lpF ask ty cs ord k body s=some (e,s')->∀a w,Sim w0 g0 o0 N s a w->Code.rounds P body (fun x a w=>x=e.conv/\Sim w0 g0 o0 N s' a w) k a w
 |0,_,_,_,_,_,h=>by cases h
 |k+1,body,s,e,s',hB,h=>by
  intro a w hs;have ih:=Qs8 hT hm ha hcs (ord:=ord) k
  have hl:∀body s e s',Q4p N body=true/\Q40 .any ty ord body=true->lpF ask ty cs ord k body s=some (e,s')->WP P w0 g0 o0 N (.loop body) (fun e2 s2=>e2=e/\s2=s') s:=fun b s e s' hB h a w hs=>by
   refine wp_mono (wp_loop_rounds k (ih b s e s' hB h a w hs)) fun x a' w' hx=>?_
   exact⟨e,s',hx.1,hx.2,rfl,rfl⟩
  unfold lpF at h
  have go:∀e1 s1,Qr6 ask (lpF ask ty cs ord k) (Q4 std ty cs ord body (Qsv (Qsy s.tm)) s)=some (e1,s1) ->
    (Q4 std ty cs ord body (Qsv (Qsy s.tm)) s).ok P w0 g0 o0 N (fun e2 s2=>e2=e1/\Eqv s1 s2):=fun e1 s1 h1 =>
   QsT ha hl (fun e s s' hq hv=>⟨hq.1,hq.2.trans hv⟩) _ e1 s1 (Qsb hcs body _ hB.1 hB.2 (fun e s=>by cases e<;>trivial) s) h1 ⟨rfl,Eqv.refl _⟩
  have fin:∀e1 s1,Qr6 ask (lpF ask ty cs ord k) (Q4 std ty cs ord body (Qsv (Qsy s.tm)) s)=some (e1,s1)->(e1=.normal->lpF ask ty cs ord k body s1=some (e,s'))->(e1≠.normal->e1=e/\s1=s') ->
    body.wp P (Exit.then (Code.rounds P body (fun x a w=>x=e.conv/\Sim w0 g0 o0 N s' a w) k) (fun x a w=>x=e.conv/\Sim w0 g0 o0 N s' a w)) a w:=fun e1 s1 h1 hn hx=>by
   refine Q5j (Q:=fun e2 s2=>e2=e1/\Eqv s1 s2) hT hm body (Qsv (Qsy s.tm)) _ s a w hB.1 hB.2 (fun c a d v w h=>?_) (fun e2 s2 a' w' jT hq=>?_) hs (go e1 s1 h1)
   ·have h1:Exit.panic c=e.conv:=h.1
    cases e<;>cases h1
   ·cases e2 with
    |normal =>
     obtain⟨h2,h3⟩:=(show Ex.normal=e1/\Eqv s1 (QtC _ s2) from hq);exact ih body s1 e s' hB (hn h2.symm) a' w' (Qsf h3 (Qtk _ jT))
    |exit i =>
     obtain⟨h2,h3⟩:=(show Ex.exit i=e1/\Eqv s1 s2 from hq);obtain⟨h4,h5⟩:=hx (by rw[<-h2];simp)
     rw[h5]at h3;exact⟨by rw[<-h4,<-h2],Qsf h3 jT⟩
    |ret =>
     obtain⟨h2,h3⟩:=(show Ex.ret=e1/\Eqv s1 s2 from hq);obtain⟨h4,h5⟩:=hx (by rw[<-h2];simp)
     rw[h5]at h3;exact⟨by rw[<-h4,<-h2],Qsf h3 jT⟩
  show body.wp P _ a w;split at h
  ·rename_i s1 h1
   exact fin .normal s1 h1 (fun _=>h) (fun h=>absurd rfl h)
  ·rename_i e1 s1 jQ h1
   obtain⟨rfl,rfl⟩:e1=e/\s1=s':=by simpa using h
   exact fin e1 s1 h1 (fun h=>absurd h jQ) (fun _=>⟨rfl,rfl⟩)
  ·cases h
end
def mvC(ρ:List Nat):AV->AV
 |.box i o=>match Q1X i ρ with|some j=>.box j o|none=>.dead
 |.row i e=>match Q1X i ρ with|some j=>.row j e|none=>.dead
 |.rowk _ _ _=>.dead
 |.rptr _ _ _ _=>.dead
 |.iter _=>.dead
 |.kb b=>.val (.bool b)
 |x=>x
def mv1(ρ:List Nat):AV->AV
 |.agg cs=>.agg (cs.map (mvC ρ))
 |x=>mvC ρ x
def mvR(ρ:List Nat):AV->AV
 |.tup xs=>.tup (xs.map (mv1 ρ))
 |x=>mv1 ρ x
def mvO(ρ:List Nat):Ob->Ob
 |.box cs=>.box (cs.map (mvC ρ))
 |x=>x
def QuL:AV->List Nat
 |.tup xs=>xs.flatMap Qo3
 |x=>Qo3 x
def QpB:AV->Bool
 |.tup xs=>xs.all fun|.tup _=>false|_=>true
 |_=>true
theorem Qet:∀xs:List AV,leL xs xs
 | []=>trivial
 |_::r=>⟨.inl rfl,Qet r⟩
theorem Q21{x:AV}(h:∀xs,x≠.tup xs):QeH x x:=by
 cases x with
 |agg cs=>exact Qet cs
 |tup xs=>exact absurd rfl (h xs)
 |_=>exact .inl rfl
theorem Qk3{x:AV}(h:QpB x=true):leA x x:=by
 cases x with
 |tup xs =>
  have key:∀xs:List AV,(xs.all fun|.tup _=>false|_=>true)=true->leT xs xs:=by
   intro xs;induction xs with
   |nil=>intro _;trivial
   |cons y r ih =>
    intro h;simp only[all_cons,Bool.and_eq_true]at h;exact⟨Q21 (fun zs e=>by rw[e]at h;cases h.1),ih h.2⟩
  exact key xs h
 |val a=>exact Q21 (x:=.val a) (fun xs e=>nomatch e)
 |slc a b=>exact Q21 (x:=.slc a b) (fun xs e=>nomatch e)
 |agg a=>exact Q21 (x:=.agg a) (fun xs e=>nomatch e)
 |ref a=>exact Q21 (x:=.ref a) (fun xs e=>nomatch e)
 |box a b=>exact Q21 (x:=.box a b) (fun xs e=>nomatch e)
 |row a b=>exact Q21 (x:=.row a b) (fun xs e=>nomatch e)
 |rowk a b c=>exact Q21 (x:=.rowk a b c) (fun xs e=>nomatch e)
 |rptr a b c d=>exact Q21 (x:=.rptr a b c d) (fun xs e=>nomatch e)
 |kb a=>exact Q21 (x:=.kb a) (fun xs e=>nomatch e)
 |iter a=>exact Q21 (x:=.iter a) (fun xs e=>nomatch e)
 |opt a=>exact Q21 (x:=.opt a) (fun xs e=>nomatch e)
 |dead=>exact Q21 (x:=.dead) (fun xs e=>nomatch e)
def Quh(o0:List Ob)(r:AV)(ob:List Ob):Option (AV×List Ob) :=
 match Nat.beq o0.length 0&&Qq5 r&&QpB r with
 |true=>some (r,[])
 |false =>
  let ρ:=Qfu ob 400 (List.range o0.length) ((List.range o0.length).flatMap (fun i=>Qpa (ob.getD i .gone))++QuL r)
  let ob':=ρ.map fun i=>mvO ρ (ob.getD i .gone)
  let r':=mvR ρ r
  match QpB r'&&(Q32 (ρ.map some)&&(Qho o0 ob ob' (ρ.map some)&&Nat.ble o0.length ρ.length))with
  |true=>(match both (QkD ob ob' (ρ.map some) r r') (Q9j ob ob' (ρ.map some) (ρ.map some) ob')with
   |some l=>if Quv l=true then some (r',ob')else none
   |none=>none)
  |false=>none
theorem Qu7{o0:List Ob}{r res:AV}{ob ob':List Ob}{k:Nat}{e:Ex}(h:Quh o0 r ob=some (res,ob')):FinOk o0 res ob' e ⟨[(k,r)],ob⟩:=by
 unfold Quh at h;split at h
 ·rename_i hb
  simp only[Bool.and_eq_true]at hb;obtain⟨rfl,rfl⟩:r=res/\[]=ob':=by simpa using h
  have:o0=[]:=List.eq_nil_of_length_eq_zero (eq_of_beq_eq_true hb.1.1)
  subst this;exact FinOk.pure hb.1.2 (Qk3 hb.2)
 ·simp only at h
  split at h
  ·rename_i hb
   simp only[Bool.and_eq_true]at hb;split at h
   ·rename_i l hl
    split at h
    ·rename_i he
     simp only[Option.some.injEq,Prod.mk.injEq]at h;obtain⟨h1,h2⟩:=h;rw[h1]at hl hb;rw[h2]at hl hb;exact⟨_,_,_,hb.2.1,hb.2.2.1,by rw[List.length_map];exact Nat.le_of_ble_eq_true hb.2.2.2,hl,Qt1 l he,Qk3 hb.1⟩
    ·cases h
   ·cases h
  ·cases h
structure FnI where
 fn:Func
 c:Code
 ord:Nat->OT
def Qsw(tab:Nat->Option FnI)(base:Nat->List AV->List Ob->Option (AV×List Ob))(ask:Nat->List Srt->Bool)(lf:Nat):Nat->Nat->List AV->List Ob->Option (AV×List Ob)
 |0,_,_,_=>none
 |n+1,f,args,ob=>match base f args ob with
  |some r=>some r
  |none=>match tab f with
   |none=>none
   |some F=>match Nat.ble args.length F.fn.ntmps with
    |false=>none
    |true=>match Qr6 ask (lpF ask tys (Qsw tab base ask lf n) F.ord lf) (Q4 std tys (Qsw tab base ask lf n) F.ord F.c (Q53 std tys true F.fn.results.toList) ⟨ent 0 args,ob⟩)with
     |some (_,⟨[(_,r)],ob1⟩)=>Quh ob r ob1
     |_=>none
def FnI.good(f : Nat)(F : FnI) : Prop := prog.funcs[f]? = some F.fn ∧ F.fn.body = some F.c ∧ (Q4p F.fn.ntmps F.c && (Q40 .any tys F.ord F.c && !(F.fn.name == "runtime.NumGoroutine"))) = true
theorem Qtw{tab:Nat->Option FnI}{base:Nat->List AV->List Ob->Option (AV×List Ob)}{ask:Nat->List Srt->Bool}{lf:Nat}(ht:∀f F,tab f=some F->f<1000000/\F.good f)(hb:∀f a o r o',base f a o=some (r,o')->f<1000000/\BCall prog f a o r o')
  (ha:∀T sh,ask T sh=true->EqOk prog T sh):∀(n f:Nat)(args:List AV)(ob:List Ob)(r:AV)(o':List Ob),Qsw tab base ask lf n f args ob=some (r,o')->f<1000000/\BCall prog f args ob r o'
 |0,_,_,_,_,_,h=>by cases h
 |n+1,f,args,ob,r,o',h=>by
  have ih:=Qtw ht hb ha n (lf:=lf)
  have hcs:∀o g a ob r o',Qpp (Qsw tab base ask lf n) o g a ob=some (r,o')->BCall prog g a ob r o':=fun o g a ob r o' h=>by
   unfold Qpp at h;split at h
   ·rename_i r1 h1
    obtain rfl:r1=(r,o'):=by simpa using h
    exact(ih _ _ _ _ _ h1).2
   ·split at h
    ·have:=(ih _ _ _ _ _ h).1
     omega
    ·cases h
  unfold Qsw at h;split at h
  ·rename_i r1 h1
   obtain rfl:r1=(r,o'):=by simpa using h
   exact hb _ _ _ _ _ h1
  ·split at h
   ·cases h
   ·rename_i F hF
    obtain⟨jA,h1,h2,h3⟩:=ht f F hF;simp only[Bool.and_eq_true,Bool.not_eq_true']at h3;split at h
    ·cases h
    ·rename_i jJ
     split at h
     ·rename_i e1 k1 r1 ob1 hr
      refine⟨jA,Qcg true (cs:=Qsw tab base ask lf n) (ord:=F.ord) Q6k QpA h1 h2 (enters_of h1 h3.2.2 h2) (Nat.le_of_ble_eq_true jJ) h3.1 h3.2.1 fun w0 g0=>?_⟩
      refine QsT (lp:=lpF ask tys (Qsw tab base ask lf n) F.ord lf) (B:=fun b=>Q4p F.fn.ntmps b=true/\Q40 .any tys F.ord b=true) ha (fun body s e s' hB hl a w hs=>?_) (fun e s s' hq hv=>?_) _ _ _ (Qsb hcs F.c _ h3.1 h3.2.1 (fun e s=>?_) _) hr (Qu7 h)
      ·refine wp_mono (wp_loop_rounds lf (Qs8 Q6k QpA ha hcs lf body s e s' hB hl a w hs)) fun x a' w' hx=>?_
       exact⟨e,s',hx.1,hx.2,rfl,rfl⟩
      ·unfold FinOk at hq ⊢
       split at hq
       ·rename_i k2 r2 h4
        rw[hv.2.2 _ _ h4];simp only
        rw[<-hv.1];exact hq
       ·exact hq.elim
      ·unfold Q53
       split
       ·trivial
       ·split<;>trivial
     ·cases h
def OT.th(l:List Nat)(t:OT):OT:=match l with
 | []=>t
 |i::r=>.cons i (OT.th r t)
def Qt3:List (Nat×FnI)->Prop
 | []=>True
 |(f,F)::r=>(f<1000000/\F.good f)/\Qt3 r
def QtQ(l:List (Nat×FnI))(f:Nat):Option FnI:=match l with
 | []=>none
 |(g,F)::r=>match Nat.beq f g with
  |true=>some F
  |false=>QtQ r f
theorem QtE:∀{l:List (Nat×FnI)},Qt3 l->∀f F,QtQ l f=some F->f<1000000/\F.good f
 | [],_,_,_,h=>by cases h
 |(g,G)::r,hg,f,F,h=>by
  unfold QtQ at h;split at h
  ·rename_i he
   obtain rfl:G=F:=by simpa using h
   rw[eq_of_beq_eq_true he];exact hg.1
  ·exact QtE hg.2 f F h
structure BE where
 f:Nat
 args:List AV
 ob:List Ob
 res:AV
 ob':List Ob
def QsW:List BE->Nat->List AV->List Ob->Option (AV×List Ob)
 | [],_,_,_=>none
 |e::r,f,a,o=>match Nat.beq f e.f&&(QjS (aEq 40) e.args a&&QjS oEq e.ob o)with
  |true=>some (e.res,e.ob')
  |false=>QsW r f a o
def Qt2:List BE->Prop
 | []=>True
 |e::r=>(Nat.ble (e.f+1) 1000000=true/\BCall prog e.f e.args e.ob e.res e.ob')/\Qt2 r
theorem QsS:∀{L:List BE},Qt2 L->∀f a o r o',QsW L f a o=some (r,o')->f<1000000/\BCall prog f a o r o'
 | [],_,_,_,_,_,_,h=>by cases h
 |e::r,hg,f,a,o,x,o',h=>by
  unfold QsW at h;split at h
  ·rename_i hb
   simp only[Bool.and_eq_true]at hb;obtain⟨h1,h2,h3⟩:=hb;obtain⟨rfl,rfl⟩:e.res=x/\e.ob'=o':=by simpa using h
   rw[eq_of_beq_eq_true h1,<-QqX (Qrs 40) _ _ h2,<-QqX (fun _ _=>QtD) _ _ h3]
   exact⟨Nat.le_of_ble_eq_true hg.1.1,hg.1.2⟩
  ·exact QsS hg.2 f a o x o' h
theorem QuN{l:List (Nat×FnI)}(h:Qt3 l){L:List BE}(hb:Qt2 L){ask:Nat->List Srt->Bool}(ha:∀T sh,ask T sh=true->EqOk prog T sh){lf n f:Nat}{args:List AV}{ob:List Ob}{r:AV}{o':List Ob}
  (hr:Qsw (QtQ l) (QsW L) ask lf n f args ob=some (r,o')):BCall prog f args ob r o' :=
 (Qtw (QtE h) (QsS hb) ha n f args ob r o' hr).2
end
section
variable {w:World}{g:Gh}{ob:List Ob}
def Gh.kid(g:Gh)(w:World)(id:Nat)(b:Option Nat)(n:Nat):Gh where
 A b' o:=g.A b' o\/(b=some b'/\o<n)
 G b':=if b=some b' then some id else g.G b'
 loc:=g.loc
 sub b':=if b=some b' then true else g.sub b'
theorem Qnt(M:Mem w g ob){id ep i:Nat}{xs:List AV}(h:ob[id]?=some (.row Q5U 2 false ep xs)){b c:Nat}(hv:RowV w g id Q5U 2 (.slice (some ⟨b,0,none⟩) xs.length c) xs)
  {a u:AV} (hx:xs[i]?=some (.agg [a,u])) {us:List AV} (hu:u=.slc 1 us\/(u=.val (.slice none 0 0)/\us=[])) :
  ∃y zs,w.cell? ⟨b,i * 2+1,none⟩=some y/\w.ownsRow 0 Qiz 1 y us.length zs/\y.oneCell'=true/\Alike w g.A zs (QQ us)/\(∀x∈us,x.cells.length=1)/\∀b',y.ownBlock=some b'->g.G b'=some id/\g.sub b'=true/\(∀o,us.length<=o->¬g.A b' o)/\b'<w.heap.size:=by
 obtain⟨ys,ho,hG,jX,hw,jL,jT⟩:=hv;have j1:=Qa hx;have vL:=Q30 xs hw;have hj:i * 2+1<ys.length:=by rw[jX.1,vL];omega
 have n8:=getElem?_eq_getElem hj;have hcell:=ho.cells (g:=b) rfl _ _ n8;rw[Addr.add_mid,zero_add]at hcell
 have huj:(QQ xs)[i * 2+1]?=some u:=by
  rw[Q6E xs hw i _ hx 1 (by omega)];rfl
 have hrel:=jX.2 _ _ _ n8 huj;generalize ys[i * 2+1]=y at n8 hcell hrel;obtain⟨⟨k,zs,h1,h2⟩,h3⟩:=jT rfl _ _ n8 (by omega)
 have vQ:=hrel.one;-- its length,and its cells by content
 have key:k=us.length/\Alike w g.A zs (QQ us)/\∀x∈us,x.cells.length=1:=by
  rcases hu with rfl|⟨rfl,rfl⟩
  ·cases hrel with
   |nil =>
    rcases h1.2 with ⟨_,h4⟩|⟨b',cap,cur,h4,_⟩
    ·subst h4
     have:zs=[]:=List.eq_nil_of_length_eq_zero (by have:=h1.1;omega)
     subst this;exact⟨rfl,Alike.nil,fun x hx=>by cases hx⟩
    ·cases h4
   |slc b' o c' _ _ f hc hm kV qu qd =>
    rcases h1.2 with ⟨h4,_⟩|⟨b2,cap,cur,h4,h5⟩
    ·cases h4
    ·cases h4
     refine⟨rfl,?_,kV⟩;have xN:=Q30 us kV;have kY:zs.length=us.length * 1:=h1.1;refine⟨by rw[kY,xN],fun j y' u' vZ ja=>?_⟩
     have e1:=h1.cells (g:=b') rfl j y' vZ;rw[Addr.add_mid,zero_add]at e1;have e2:=(qu j u' ja).2;rw[zero_add,e1]at e2;obtain rfl:y'=f j:=Option.some.inj e2;exact qd j u' ja
  ·cases hrel
   rcases h1.2 with ⟨_,h4⟩|⟨b',cap,cur,h4,_⟩
   ·subst h4
    have:zs=[]:=List.eq_nil_of_length_eq_zero (by have:=h1.1;omega)
    subst this;exact⟨rfl,Alike.nil,fun x hx=>by cases hx⟩
   ·cases h4
 obtain⟨rfl,jn,gz⟩:=key;refine⟨y,zs,hcell,h1,vQ,jn,gz,fun b' zf=>?_⟩
 obtain⟨h4,h5,h6⟩:=h2 b' zf;exact⟨h4,h5,h6,(M.own b' id h4).1⟩
theorem Qf2:∀(xs:List AV),(∀x∈xs,x.cells.length=2)->∀(i:Nat)(a u u':AV),xs[i]?=some (.agg [a,u])->QQ (xs.set i (.agg [a,u']))=(QQ xs).set (i * 2+1) u'
 | [],_,i,a,u,u',h=>by simp at h
 |x::r,hw,0,a,u,u',h=>by
  obtain rfl:x=.agg [a,u]:=by simpa using h
  rfl
 |x::r,hw,i+1,a,u,u',h=>by
  have ih:=Qf2 r (fun y hy=>hw y (List.mem_cons_of_mem _ hy)) i a u u' (by simpa using h)
  have hx:=hw x (mem_cons_self ..)
  obtain⟨p,q,ph⟩:∃p q,x.cells=[p,q]:=by
   match x.cells,hx with
   | [p,q],_=>exact⟨p,q,rfl⟩
  have e1:QQ (x::r)=p::q::QQ r:=by simp[ph]
  have e2:QQ (x::r.set i (.agg [a,u']))=p::q::QQ (r.set i (.agg [a,u'])):=by simp[ph]
  rw[set_cons_succ,e1,e2,ih,show(i+1) * 2+1=(i * 2+1)+1+1 by omega,set_cons_succ,set_cons_succ]
theorem Qnw(M:Mem w g ob){id ep i:Nat}{xs:List AV}(h:ob[id]?=some (.row Q5U 2 false ep xs)){b c:Nat}(hv:RowV w g id Q5U 2 (.slice (some ⟨b,0,none⟩) xs.length c) xs)
  {a u:AV} (hx:xs[i]?=some (.agg [a,u])) {us:List AV} {y:Value} {zs:List Value} (hcell:w.cell? ⟨b,i * 2+1,none⟩=some y) (jP:w.ownsRow 0 Qiz 1 y us.length zs) (jX:Alike w g.A zs (QQ us)) (hus:∀x∈us,x.cells.length=1)
  (yh:∀b',y.ownBlock=some b'->g.G b'=some id/\g.sub b'=true/\(∀o,us.length<=o->¬g.A b' o)/\b'<w.heap.size)
  {w1 w2:World} {v':Value} {n:Int} (z7:Below w.heap.size w w1) (xL:w2.ownsRow 0 Qiz 1 v' (us.length+1) (zs++[.int .i64 n])) (hg:w1.grownBy w2 y.ownBlock) (yg:v'.ownBlock=y.ownBlock\/v'.ownBlock=some w1.heap.size)
  (yO:∀bb kk,bb<w1.heap.size->(y.ownBlock=some bb->kk<us.length * 1)->w2.cell? ⟨bb,kk,none⟩=w1.cell? ⟨bb,kk,none⟩) :
  ∃g3,Mem (w2.setCells b (i * 2+1) [v']) g3 (ob.set id (.row Q5U 2 false (ep+1) (xs.set i (.agg [a,.slc 1 (us++[.val (.int .i64 n)])])))) /\
   Step w g ob (w2.setCells b (i * 2+1) [v']) g3 (ob.set id (.row Q5U 2 false (ep+1) (xs.set i (.agg [a,.slc 1 (us++[.val (.int .i64 n)])])))) /\
   RowV (w2.setCells b (i * 2+1) [v']) g3 id Q5U 2 (.slice (some ⟨b,0,none⟩) xs.length c) (xs.set i (.agg [a,.slc 1 (us++[.val (.int .i64 n)])])):=by
 obtain⟨w3,zR⟩:=exq (w2.setCells b (i * 2+1) [v']);obtain⟨g3,zG⟩:=exq (g.kid w id v'.ownBlock (us.length+1));rw[<-zR];have hid:=Qa h;have j1:=Qa hx;obtain⟨ys,ho,hG,xJ,cy,jL,jT⟩:=hv;have qe:=hG b rfl;have vK:=jL b rfl;have jW:=(M.own b id qe).1;-- blocks: the main one,the slice's,what is new
 have cz:∀b',y.ownBlock=some b'->b'≠b:=fun b' hb e=>by
  have:=(yh b' hb).2.1
  rw[e,vK]at this;cases this
 have vV:∀b',v'.ownBlock=some b'->(y.ownBlock=some b'/\b'<w.heap.size)\/w.heap.size<=b':=fun b' hb=>by
  rcases yg with e|e
  ·rw[e]at hb;exact .inl ⟨hb,(yh b' hb).2.2.2⟩
  ·rw[e]at hb;cases hb;exact .inr z7.size
 have keep:∀b',b'<w.heap.size->b'≠b->y.ownBlock≠some b'->w3.heap[b']?=w.heap[b']?:=fun b' h1 h2 h3=>by
  rw[zR,Q1N (k:=0) h2,hg.block b' (lt_of_lt_of_le h1 z7.size) (fun e=>h3 e.symm),z7.block b' h1]
 have keepc:∀b' o,b'<w.heap.size->b'≠b->(y.ownBlock=some b'->o<us.length)->w3.cell? ⟨b',o,none⟩=w.cell? ⟨b',o,none⟩:=fun b' o h1 h2 h3=>by
  rw[zR,World.cell?_of_block (w:=w2) (Q1N (k:=0) h2),yO b' o (lt_of_lt_of_le h1 z7.size) (fun e=>by have:=h3 e;omega),World.cell?_of_block (w:=w) (z7.block b' h1)]
 have jh:w.heap.size<=w3.heap.size:=by
  rw[zR,Q3o];exact Nat.le_trans z7.size hg.size
 have nomain:∀o,¬g.A b o:=fun o hA=>by
  obtain⟨et,sz,e,xs2,h1,_⟩:=(M.imm b o hA).2 id qe vK;rw[h]at h1;cases h1
 have hA:∀b' o,g.A b' o->w3.cell? ⟨b',o,none⟩=w.cell? ⟨b',o,none⟩:=fun b' o h1=>by
  refine keepc b' o (M.imm b' o h1).1 (fun e=>nomain o (e ▸ h1)) (fun e=>?_)
  refine Nat.lt_of_not_le fun h2=>(yh b' e).2.2.1 o h2 h1
 have oldG:∀b',b'<w.heap.size->g3.G b'=g.G b':=fun b' h1=>by
  rw[zG];show(if v'.ownBlock=some b' then some id else g.G b')=_
  split
  ·rename_i e
   rcases vV b' e with ⟨h2,_⟩|h2
   ·exact((yh b' h2).1).symm
   ·omega
  ·rfl
 have oldS:∀b',b'<w.heap.size->g3.sub b'=g.sub b':=fun b' h1=>by
  rw[zG];show(if v'.ownBlock=some b' then true else g.sub b')=_
  split
  ·rename_i e
   rcases vV b' e with ⟨h2,_⟩|h2
   ·exact((yh b' h2).2.1).symm
   ·omega
  ·rfl
 have newA:∀b' o,g3.A b' o->g.A b' o\/(v'.ownBlock=some b'/\o<us.length+1):=fun b' o h1=>by rw[zG]at h1;exact h1
 have upA:∀b' o,g.A b' o->g3.A b' o:=fun b' o h1=>by rw[zG];exact .inl h1
 have G3:∀b' k,g3.G b'=some k->(b'<w.heap.size/\g.G b'=some k)\/(v'.ownBlock=some b'/\k=id):=fun b' k h1=>by
  rw[zG]at h1;have h1:(if v'.ownBlock=some b' then some id else g.G b')=some k:=h1;split at h1
  ·rename_i e;exact .inr ⟨e,(Option.some.inj h1).symm⟩
  ·exact .inl ⟨(M.own b' k h1).1,h1⟩
 have vlt:∀b',v'.ownBlock=some b'->b'<w3.heap.size:=fun b' hb=>by
  rw[zR,Q3o];exact(xL.lt b' hb).2
 -- other rows and boxes
 have other:∀b' k,g.G b'=some k->k≠id->w3.heap[b']?=w.heap[b']?:=fun b' k h1 h2=>by
  refine keep b' (M.own b' k h1).1 (fun e=>?_) (fun e=>?_)
  ·rw[e,qe]at h1;exact h2 (Option.some.inj h1).symm
  ·rw[(yh b' e).1]at h1;exact h2 (Option.some.inj h1).symm
 have E:Ext w g ob w3 g3 (ob.set id (.row Q5U 2 false (ep+1) (xs.set i (.agg [a,.slc 1 (us++[.val (.int .i64 n)])])))):=by
  refine⟨fun b' o h1=>⟨upA b' o h1,hA b' o h1⟩,fun _ _=>by rw[zG];rfl,fun k hk=>?_,fun k hk=>?_,fun k et sz fz e xs2 hk=>?_,fun b' k xz hs=>?_⟩
  ·have:k≠id:=by rintro rfl;rw[h]at hk;exact hk
   rw[getElem?_set_ne (Ne.symm this)];exact hk
  ·have:k≠id:=by rintro rfl;rw[h]at hk;exact hk
   rw[getElem?_set_ne (Ne.symm this)];exact hk
  ·by_cases e':k=id
   ·subst e'
    rw[h]at hk;cases hk;exact⟨false,ep+1,_,getElem?_set_self hid,by omega,fun h1=>by omega⟩
   ·exact⟨fz,e,xs2,by rw[getElem?_set_ne (Ne.symm e')];exact hk,le_refl _,fun _=>.inl ⟨rfl,fun b' zf=>⟨by rw[oldG b' (M.own b' k zf).1];exact zf,other b' k zf e'⟩⟩⟩
  ·have e':k≠id:=by
    rintro rfl;obtain⟨et,sz,fz,fz',e,xs2,xs3,h1,h2⟩:=hs;rw[h]at h1;cases h1;rw[getElem?_set_self hid]at h2;have:=Option.some.inj h2
    injection this with _ _ _ h3
    omega
   refine⟨oldS b' (M.own b' k xz).1,fun _ o h1=>?_⟩
   rcases newA b' o h1 with h2|⟨h2,_⟩
   ·exact h2
   ·rcases vV b' h2 with ⟨h3,_⟩|h3
    ·rw[(yh b' h3).1]at xz;exact absurd (Option.some.inj xz).symm e'
    ·have:=(M.own b' k xz).1;omega
 have jk:RowV w3 g3 id Q5U 2 (.slice (some ⟨b,0,none⟩) xs.length c) (xs.set i (.agg [a,.slc 1 (us++[.val (.int .i64 n)])])):=by
  have hvne:∀b',v'.ownBlock=some b'->b'≠b:=fun b' hb=>by
   rcases vV b' hb with ⟨h1,_⟩|h1
   ·exact cz b' h1
   ·omega
  have kO:w3.ownsRow 0 Qiz 1 v' (us.length+1) (zs++[.int .i64 n]):=Q3A xL fun b' hb=>by rw[zR];exact Q1N (k:=0) (hvne b' hb)
  have vL:=Q30 xs cy;have zZ:i * 2+1<ys.length:=by rw[xJ.1,vL];omega
  have hfs:=Qf2 xs cy i a u (.slc 1 (us++[.val (.int .i64 n)])) hx;have qZ:(us++[AV.val (.int .i64 n)]).length=us.length+1:=by simp
  have kV:∀x∈us++[AV.val (.int .i64 n)],x.cells.length=1:=fun x hx=>by
   rcases List.mem_append.1 hx with h1|h1
   ·exact hus x h1
   ·obtain rfl:x=.val (.int .i64 n):=by simpa using h1
    rfl
  have cH:QQ (us++[AV.val (.int .i64 n)])=QQ us++[.val (.int .i64 n)]:=by simp[AV.cells]
  have xF:Alike w3 g3.A (zs++[.int .i64 n]) (QQ (us++[AV.val (.int .i64 n)])):=by
   rw[cH];refine(jX.keep E.A).append ⟨rfl,fun j y' u' h1 h2=>?_⟩
   cases j with
   |zero =>
    obtain rfl:Value.int .i64 n=y':=by simpa using h1
    obtain rfl:AV.val (.int .i64 n)=u':=by simpa using h2
    exact PRel.val _ rfl
   |succ j=>simp at h1
  have hvP:PRel w3 g3.A v' (.slc 1 (us++[.val (.int .i64 n)])):=by
   rcases kO.2 with ⟨_,h1⟩|⟨b',cap,cur,h1,h2,h3,h4,h5,h6,h7⟩
   ·omega
   ·subst h1
    rw[<-qZ]at h4 kO ⊢;have kY:(zs++[Value.int .i64 n]).length=(us++[AV.val (.int .i64 n)]).length * 1:=kO.1;have xN:=Q30 (us++[AV.val (.int .i64 n)]) kV
    have get:∀(j:Nat) u',(QQ (us++[AV.val (.int .i64 n)]))[j]?=some u'->j<(zs++[Value.int .i64 n]).length/\(zs++[Value.int .i64 n])[j]?=some ((zs++[Value.int .i64 n]).getD j undef):=fun j u' ja=>by
     have h8:=Qa ja;rw[xN]at h8;have h9:j<(zs++[Value.int .i64 n]).length:=by omega
     exact⟨h9,by rw[List.getD_eq_getElem?_getD,getElem?_eq_getElem h9];rfl⟩
    refine PRel.slc b' 0 cap 1 _ (fun j=>(zs++[Value.int .i64 n]).getD j undef) h4 h5 kV (fun j u' ja=>⟨?_,?_⟩) (fun j u' ja=>?_)
    ·rw[zG]
     refine .inr ⟨rfl,?_⟩;have:=(get j u' ja).1
     rw[kY,qZ]at this;omega
    ·have:=kO.cells (g:=b') rfl j _ (get j u' ja).2
     rw[Addr.add_mid,zero_add]at this;rw[zero_add];exact this
    ·exact xF.2 j _ u' (get j u' ja).2 ja
  rcases ho.2 with ⟨h1,_⟩|⟨b0,cap,cur,h1,h2,h3,h4,h5,h6,h7⟩
  ·cases h1
  ·cases h1
   have n9:w2.heap[b]?=some (.cells cur Q5U (0,0)):=by
    rw[hg.block b (lt_of_lt_of_le jW z7.size) (fun e=>cz b e.symm rfl),z7.block b jW]
    exact h3
   have hjc:i * 2+1<cur.size:=by
    have:ys.length<=cur.size:=by rw[<-h7,List.length_take];simp;omega
    omega
   have na:=Q3x (W:=w2) [v'] (i * 2+1) w2 cur n9 (by simp;omega)
   have gS:cur.toList.take (i * 2+1)++([v']++cur.toList.drop (i * 2+1 + [v'].length))=cur.toList.set (i * 2+1) v':=by
    rw[List.set_eq_take_append_cons_drop,if_pos (by simpa using hjc)]
    rfl
   rw[gS]at na;refine⟨ys.set (i * 2+1) v',⟨by rw[length_set,length_set];exact ho.1,.inr ⟨b,c,(cur.toList.set (i * 2+1) v').toArray,by rw[length_set],zero_le _,by rw[zR];exact na,by rw[length_set];exact h4,h5,by simpa using h6,?_⟩⟩,fun b' hb=>?_,?_,?_,fun b' hb=>?_,fun _ j y' vZ hj=>?_⟩
   ·rw[length_set]
    show((cur.toList.set (i * 2+1) v').toArray.toList).take _=_
    rw[List.toList_toArray,List.take_set,h7]
   ·obtain rfl:b=b':=by simpa[Value.ownBlock]using hb
    rw[oldG b jW];exact qe
   ·rw[hfs]
    refine⟨by rw[length_set,length_set];exact xJ.1,fun j y' u' h8 h9=>?_⟩
    by_cases e:j=i * 2+1
    ·subst e
     rw[getElem?_set_self zZ]at h8;rw[getElem?_set_self (by rw[<-xJ.1];exact zZ)]at h9
     cases h8;cases h9;exact hvP
    ·rw[getElem?_set_ne (Ne.symm e)]at h8 h9
     exact(xJ.2 j y' u' h8 h9).keep E.A
   ·intro x yG
    rcases List.mem_or_eq_of_mem_set yG with h1|h1
    ·exact cy x h1
    ·rw[h1];rfl
   ·obtain rfl:b=b':=by simpa[Value.ownBlock]using hb
    rw[oldS b jW];exact vK
   ·have hy0:ys[i * 2+1]?=some y:=by
     have e1:=getElem?_eq_getElem zZ;have e2:=ho.cells (g:=b) rfl _ _ e1;rw[Addr.add_mid,zero_add,hcell]at e2;rw[e1,<-Option.some.inj e2]
    -- a block that another one owns
    have oldne:∀(j:Nat) y',ys[j]?=some y'->j % 2=1->j≠i * 2+1->∀b',y'.ownBlock=some b'->v'.ownBlock≠some b'/\y.ownBlock≠some b'/\b'≠b/\b'<w.heap.size:=fun j y' h8 h9 qh b' hb=>by
     obtain⟨⟨k,zs',yF,gy⟩,kW⟩:=jT rfl j y' h8 h9;obtain⟨ci,pW,_⟩:=gy b' hb;have kA:y.ownBlock≠some b':=fun e=>qh (kW _ y b' hy0 (by omega) e hb).symm
     have jA:=(M.own b' id ci).1;refine⟨fun e=>?_,kA,fun e=>?_,jA⟩
     ·rcases vV b' e with ⟨nc,_⟩|nc
      ·exact kA nc
      ·omega
     ·rw[e,vK]at pW;cases pW
    by_cases e:j=i * 2+1
    ·subst e
     rw[getElem?_set_self zZ]at vZ;cases vZ;refine⟨⟨us.length+1,_,kO,fun b' hb=>⟨?_,?_,fun o yQ hH=>?_⟩⟩,fun k z b' hz hk xK hvb'=>?_⟩
     ·rw[zG]
      show(if v'.ownBlock=some b' then some id else g.G b')=_
      rw[if_pos hb]
     ·rw[zG]
      show(if v'.ownBlock=some b' then true else g.sub b')=_
      rw[if_pos hb]
     ·rcases newA b' o hH with h8|⟨_,h8⟩
      ·rcases vV b' hb with ⟨h9,_⟩|h9
       ·exact(yh b' h9).2.2.1 o (by omega) h8
       ·have:=(M.imm b' o h8).1;omega
      ·omega
     ·refine Classical.byContradiction fun jQ=>?_
      rw[getElem?_set_ne (Ne.symm jQ)]at hz;exact(oldne k z hz hk jQ b' xK).1 hvb'
    ·rw[getElem?_set_ne (Ne.symm e)]at vZ
     obtain⟨⟨k,zs',yF,gy⟩,kW⟩:=jT rfl j y' vZ hj;refine⟨⟨k,zs',Q3A yF fun b' hb=>?_,fun b' hb=>?_⟩,fun k' z b' hz yA xK pi=>?_⟩
     ·obtain⟨h8,h9,qh,ci⟩:=oldne j y' vZ hj e b' hb
      exact keep b' ci qh h9
     ·obtain⟨h8,h9,qh,ci⟩:=oldne j y' vZ hj e b' hb
      obtain⟨pW,nc,h17⟩:=gy b' hb;refine⟨by rw[oldG b' ci];exact pW,by rw[oldS b' ci];exact nc,fun o yQ hH=>?_⟩
      rcases newA b' o hH with h18|⟨h18,_⟩
      ·exact h17 o yQ h18
      ·exact h8 h18
     ·by_cases e2:k'=i * 2+1
      ·subst e2
       rw[getElem?_set_self zZ]at hz;cases hz;exact absurd xK (oldne j y' vZ hj e b' pi).1
      ·rw[getElem?_set_ne (Ne.symm e2)]at hz
       exact kW k' z b' hz yA xK pi
 refine⟨g3,?_,?_,jk⟩
 ·refine⟨fun k cs hk=>?_,fun k cs hk j u hj=>?_,fun k s p hk=>?_,fun b' k hk=>?_,fun b' o hH=>?_,fun k et sz fz e xs2 hk=>?_,fun b' hs=>?_,fun b1 b2 k h1 h2 hs jf=>?_⟩
  ·have e':k≠id:=by rintro rfl;rw[getElem?_set_self hid]at hk;cases hk
   rw[getElem?_set_ne (Ne.symm e')]at hk;obtain⟨h1,cur,T,h2,h3⟩:=M.box k cs hk;have hl:g3.loc k=g.loc k:=by rw[zG];rfl
   exact⟨by rw[hl,oldG _ (M.own _ _ h1).1];exact h1,cur,T,by rw[hl,other _ _ h1 e'];exact h2,h3.ext E⟩
  ·have e':k≠id:=by rintro rfl;rw[getElem?_set_self hid]at hk;cases hk
   rw[getElem?_set_ne (Ne.symm e')]at hk;obtain⟨h1,y',h2,h3⟩:=M.fbox k cs hk j u hj;have hl:g3.loc k=g.loc k:=by rw[zG];rfl
   exact⟨by rw[hl];exact upA _ _ h1,y',by rw[hl,hA _ _ h1];exact h2,h3.keep E.A⟩
  ·have e':k≠id:=by rintro rfl;rw[getElem?_set_self hid]at hk;cases hk
   rw[getElem?_set_ne (Ne.symm e')]at hk;obtain⟨h1,h2⟩:=M.iter k s p hk;have hl:g3.loc k=g.loc k:=by rw[zG];rfl
   exact⟨by rw[hl,oldG _ (M.own _ _ h1).1];exact h1,by rw[hl,other _ _ h1 e'];exact h2⟩
  ·rw[length_set]
   rcases G3 b' k hk with ⟨h1,h2⟩|⟨h1,rfl⟩
   ·exact⟨lt_of_lt_of_le h1 jh,(M.own b' k h2).2⟩
   ·exact⟨vlt b' h1,hid⟩
  ·rcases newA b' o hH with h1|⟨h1,h2⟩
   ·have h3:=M.imm b' o h1
    refine⟨lt_of_lt_of_le h3.1 jh,fun k hk hs=>?_⟩
    rw[oldG b' h3.1]at hk;rw[oldS b' h3.1]at hs;obtain⟨et,sz,e,xs2,h4,h5⟩:=h3.2 k hk hs;have e':k≠id:=by rintro rfl;rw[h]at h4;cases h4
    exact⟨et,sz,e,xs2,by rw[getElem?_set_ne (Ne.symm e')];exact h4,h5⟩
   ·refine⟨vlt b' h1,fun k hk hs=>?_⟩
    rw[zG]at hs;have hs:(if v'.ownBlock=some b' then true else g.sub b')=false:=hs;rw[if_pos h1]at hs;cases hs
  ·by_cases e':k=id
   ·subst e'
    rw[getElem?_set_self hid]at hk;cases hk;refine⟨by omega,fun x yG=>?_⟩
    rcases List.mem_or_eq_of_mem_set yG with h1|h1
    ·exact cy x h1
    ·rw[h1];rfl
   ·rw[getElem?_set_ne (Ne.symm e')]at hk;exact M.roww k _ _ _ _ _ hk
  ·rw[zG]at hs
   have hs:(if v'.ownBlock=some b' then true else g.sub b')=true:=hs;split at hs
   ·rename_i h1
    refine⟨id,_,_,_,_,_,?_,getElem?_set_self hid⟩;rw[zG];show(if v'.ownBlock=some b' then some id else g.G b')=_
    rw[if_pos h1]
   ·obtain⟨k,et,sz,fz,e,xs2,h1,h2⟩:=M.nsub b' hs
    have h3:g3.G b'=some k:=by rw[oldG b' (M.own b' k h1).1];exact h1
    by_cases e':k=id
    ·subst e'
     exact⟨k,_,_,_,_,_,h3,getElem?_set_self hid⟩
    ·exact⟨k,et,sz,fz,e,xs2,h3,by rw[getElem?_set_ne (Ne.symm e')];exact h2⟩
  ·have main:∀b' k,g3.G b'=some k->g3.sub b'=false->g.G b'=some k/\g.sub b'=false:=fun b' k h1 h2=>by
    rw[zG]at h1 h2;have h1:(if v'.ownBlock=some b' then some id else g.G b')=some k:=h1;have h2:(if v'.ownBlock=some b' then true else g.sub b')=false:=h2;split at h2
    ·cases h2
    ·rename_i e
     rw[if_neg e]at h1;exact⟨h1,h2⟩
   exact M.uniq b1 b2 k (main b1 k h1 hs).1 (main b2 k h2 jf).1 (main b1 k h1 hs).2 (main b2 k h2 jf).2
 ·have hr:=Q3i b [v'] (i * 2+1) w2
  refine⟨?_,?_,?_,jh,fun b' h1 h2=>?_,fun b' k hk=>?_,fun b' o hH=>?_,E,by simp⟩
  ·rw[zR,hr.1,hg.os,z7.os]
  ·rw[zR,hr.2.1,hg.tape,z7.tape]
  ·rw[zR,hr.2.2,hg.output,z7.output]
  ·exact keep b' h1 (fun e=>by rw[e,qe]at h2;cases h2) (fun e=>by rw[(yh b' e).1]at h2;cases h2)
  ·rcases G3 b' k hk with ⟨_,h2⟩|⟨h1,rfl⟩
   ·exact .inl ⟨k,h2⟩
   ·rcases vV b' h1 with ⟨h2,_⟩|h2
    ·exact .inl ⟨_,(yh b' h2).1⟩
    ·exact .inr h2
  ·rcases newA b' o hH with h1|⟨h1,_⟩
   ·exact .inl h1
   ·rcases vV b' h1 with ⟨h2,_⟩|h2
    ·exact .inr (.inl ⟨_,(yh b' h2).1⟩)
    ·exact .inr (.inr h2)
end
section
open Tryz
section
variable {P:Program}{ops:Array Oper}{R:Exit->Act->World->Prop}{a:Act}{w w':World}{i:Nat}{rest:List Nat}{o:Oper}{ty:Tys}
theorem Q2M{v:Value}(ho:ops[i]?=some o)(hg:o.guard=none)(hr:(execOp a.eval o).run P w=.ok (.value v) w')(h:wpOps P ops R rest (a.put o.dst v) w'):wpOps P ops R (i::rest) a w:=by
 unfold wpOps;rw[ho];simp only[Region.wanted,hg,if_true];exact .inl (Q6x hr h)
theorem QfV(ho:ops[i]?=some o)(hg:o.guard=none)(hr:(execOp a.eval o).run P w=.ok .skip w')(h:wpOps P ops R rest (a.put o.dst undef) w'):wpOps P ops R (i::rest) a w:=by
 unfold wpOps;rw[ho];simp only[Region.wanted,hg,if_true];refine .inl ?_;unfold Oper.wp;rw[hr];exact h
theorem Qki(d:Nat)(v:Value):(a.put (some d) v).tmps.size=a.tmps.size:=by
 show(a.tmps.setIfInBounds d v).size=_
 simp
theorem Qlf{d:Nat}(h:d<a.tmps.size)(v:Value)(t:Nat):(a.put (some d) v).eval (.tmp t)=if t=d then v else a.eval (.tmp t):=by
 show(a.tmps.setIfInBounds d v).getD t undef=if t=d then v else a.tmps.getD t undef
 by_cases e:t=d
 ·subst e;simp[Array.getD_eq_getD_getElem?,h]
 ·rw[if_neg e]
  simp only[Array.getD_eq_getD_getElem?];rw[Array.getElem?_setIfInBounds_ne (Ne.symm e)]
structure At (N:Nat) (a:Act) (f:Nat->Value):Prop where
 defers:a.defers=[]
 size:a.tmps.size=N
 ev:∀t,a.eval (.tmp t)=f t
theorem At.put{N:Nat}{f:Nat->Value}(h:At N a f){d:Nat}(hd:d<N)(v:Value):At N (a.put (some d) v) fun t=>if t=d then v else f t :=
 ⟨h.defers,by rw[Qki];exact h.size,fun t=>by rw[Qlf (by rw[h.size];exact hd)];rw[h.ev]⟩
theorem Qa2{x:Operand}(ho:o.op=.move x\/o.op=.assign x):(execOp a.eval o).run P w=.ok (.value (a.eval x)) w:=by
 rcases ho with ho|ho<;>simp only[execOp,ho]<;>rfl
theorem Q7u{x:Operand}{ad:Addr}(ho:o.op=.nilCheck x)(hv:a.eval x=.pointer (some ad)):(execOp a.eval o).run P w=.ok (.value (.pointer (some ad))) w:=by
 simp only[execOp,ho,hv]<;>rfl
theorem Q7n(hT:TyOk P ty){T:Nat}{x:Operand}{f off t b u:Nat}(ho:o.op=.fieldAddr T x f)(hf:(Q5 T ty).flds[f]?=some (off,t))(yP:fOk ty t=true)
  (hv:a.eval x=.pointer (some ⟨b,u,none⟩)):(execOp a.eval o).run P w=.ok (.value (.pointer (some ⟨b,u+off,none⟩))) w:=by
 obtain⟨fs,fd,h1,h2,h3⟩:=(QfJ hT hf).strct' hf;obtain⟨rfl,rfl⟩:off=fd.offset/\t=fd.type:=by simpa using h3
 simp only[fOk,Bool.and_eq_true,bne_iff_ne,ne_eq]at yP;have hs:=(Q2S hT yP.1).size w;simp only[execOp,ho];refine Q2t ?_;rw[hv];simp[Instr.fieldAt,run_underlying h1,h2,Instr.sureAddr,fieldPlace,hs,yP.2,Addr.add_mid]
theorem Qit(hT:TyOk P ty){T:Nat}{x:Operand}{b u:Nat}{y:Value}(ho:o.op=.load T x)(jC:(Q5 T ty).ok=true)(hag:(Q5 T ty).agg=false)
  (hv:a.eval x=.pointer (some ⟨b,u,none⟩)) (hc:w.cell? ⟨b,u,none⟩=some y):(execOp a.eval o).run P w=.ok (.value y) w:=by
 have:=(Q2S hT jC).isAgg w
 rw[hag]at this;simp only[execOp,ho];refine Q2t ?_;rw[hv];simp[Instr.loadAt,Instr.sureAddr,loadVar,this,hc]
theorem Qg7(hT:TyOk P ty){T:Nat}{x y:Operand}{b u:Nat}{v:Value}(ho:o.op=.store T x y)(jC:(Q5 T ty).ok=true)(jh:(Q5 T ty).size=1)
  (hv:a.eval x=.pointer (some ⟨b,u,none⟩)) (hy:a.eval y=v) (h1:v.oneCell'=true) {z:Value} (hc:w.cell? ⟨b,u,none⟩=some z) (hf:w.frozen? ⟨b,u,none⟩=false) :
  (execOp a.eval o).run P w=.ok .skip (w.setCells b u [v]):=by
 have jI:=run_storeCells_cells (P:=P) b u [v] 0 w (fun j hj=>by
  obtain rfl:j=0:=by simpa using hj
  show(w.cell? ⟨b,u,none⟩).isSome=true
  rw[hc];rfl) (fun j hj=>by
  obtain rfl:j=0:=by simpa using hj
  exact hf) (fun v' hv'=>by
  obtain rfl:v'=v:=by simpa using hv'
  exact h1)
 rw[add_zero]at jI;have xq:=(Q2S hT jC).size w;rw[jh]at xq;have qu:v.cells=#[v]:=Qcd h1;simp only[execOp,ho,Instr.storeAt,hv,hy,Instr.sureAddr,storeVar,Sem.run_bind,Sem.run_pure,Result.andThen_ok,xq,qu];simp[jI]
theorem Qnr{x y:Operand}{T U:Nat}{v:Value}(ho:o.op=.call { callee:=.builtin .append,args:=#[x,y],argTypes:=#[T,U] })(hr:(Builtin.append_ #[T,U] o.type #[a.eval x,a.eval y]).run P w=.ok v w') :
  (execOp a.eval o).run P w=.ok (.value v) w':=by
 obtain⟨cs,hc⟩:=Q5Y (P:=P) (a:=a) ho w;rw[hc];show(do pure (Next.value (<-Builtin.append_ #[T,U] o.type (Array.map a.eval #[x,y]))):Sem Next).run P w=_
 refine Q2t ?_;simpa using hr
end
section
variable {w0:World}{g0:Gh}{o0:List Ob}
theorem QbD{w:World}{b o:Nat}{v:Value}{cur:Array Value}{T:TypeId}{fr:Nat×Nat}(h:w.heap[b]?=some (.cells cur T fr))(hv:cur[o]?=some v):w.setCells b o [v]=w:=by
 have e:cur.setIfInBounds o v=cur:=by
  apply Array.ext';refine List.ext_getElem? fun j=>?_
  rw[Array.getElem?_toList,Array.getElem?_toList,Array.getElem?_setIfInBounds];split
  ·rename_i e;subst e
   split
   ·exact hv.symm
   ·rename_i hn;rw[Array.getElem?_eq_none (by omega)]
  ·rfl
 show({ w with heap:=_ }:World)=w
 have e2:(w.heap.modify b fun
   |.cells c elem frozen=>.cells (if(none:Option Nat).isSome then c else c.setIfInBounds o v) elem frozen
   |o=>o)=w.heap:=by
  apply Array.ext';refine List.ext_getElem? fun j=>?_
  rw[Array.getElem?_toList,Array.getElem?_toList,Array.getElem?_modify];split
  ·rename_i e3;subst e3
   rw[h];simp[e]
  ·rfl
 exact congrArg (fun x=>({ w with heap:=x }:World)) e2
theorem QiL{ob:List Ob}{args:List AV}{g:Gh}{w:World}{vs:List Value}{N:Nat}(M:Mem w g ob)(hL:Q4X w g ob vs args)(hn:args.length<=N) :
  Sim w g ob N ⟨ent 0 args,ob⟩ { tmps:=vs.toArray++Array.replicate (N-vs.toArray.size) undef,defers:=[] } w:=by
 have jE:vs.length=args.length:=hL.1;refine⟨rfl,?_,g,M,fun t=>?_,Step.refl⟩
 ·simp;omega
 ·show ARel w g ob _ (lk t (ent 0 args))
  rw[QfN];simp only[zero_le,if_true,Nat.sub_zero];by_cases ht:t<args.length
  ·rw[List.getD_eq_getElem?_getD,getElem?_eq_getElem ht,Option.getD_some]
   have e:(vs.toArray++Array.replicate (N-vs.toArray.size) undef).getD t undef=vs[t]'(by omega):=by
    rw[Array.getD_eq_getD_getElem?,Array.getElem?_append_left (by simp;omega)]
    simp[show t<vs.length by omega]
   rw[e];exact(hL.2 t _ _ (getElem?_eq_getElem (by omega)) (getElem?_eq_getElem ht)).to
  ·rw[List.getD_eq_getElem?_getD,List.getElem?_eq_none (by omega)]
   trivial
end
theorem QcW{P:Program}{fn:Func}(h:fn.results=#[])(tmps:Array Value)(w:World):(results fn tmps).run P w=.ok (.tuple #[]) w:=by
 simp[results,h]
noncomputable def kidR0:Code:=match f42.body with|some (.seq c _)=>c|_=>.skip
noncomputable def kidR1:Code:=match f42.body with|some (.seq _ c)=>c|_=>.skip
def Qoq(ob:List Ob)(k:Nat)(i n:Int)(e:Ex)(s:St):Prop:=e=.normal/\s.ob=ob/\lk 4 s.tm=.rptr k 0 i 0/\lk 1 s.tm=.val (.int .i64 n)
theorem Qni{ob:List Ob}{k:Nat}{bs tp:AV}{xs:List AV}(hb:ob[0]?=some (.box [bs,tp,.row k 0]))(hk:ob[k]?=some (.row Q5U 2 false 0 xs)){i n:Int}
  (vj:∀w0 g0,(Q4 std tys cs0 (fun _=>.nil) kidR0 (fun e s=>.leaf e s) ⟨ent 0 [.box 0 0,.val (.int .i64 n)],ob⟩).ok prog w0 g0 ob 26 (Qoq ob k i n))
  {a u:AV} {us:List AV} (hi:0<=i) (hx:xs[i.toNat]?=some (.agg [a,u])) (hu:u=.slc 1 us\/(u=.val (.slice none 0 0)/\us=[])) (hul:us.length<=1000000) :
  BCall prog 42 [.box 0 0,.val (.int .i64 n)] ob (.tup []) ((ob.set k (.row Q5U 2 false 1 (xs.set i.toNat (.agg [a,.slc 1 (us++[.val (.int .i64 n)])])))).set 0 (.box [bs,tp,.row k 1])):=by
 refine⟨enters_of func42 (by kernel_rfl) rfl,fun w0 g0 vs M0 hL=>calls_of_wp func42 (c:=.seq kidR0 kidR1) rfl ?_⟩
 refine wp_seq (Q5j (w0:=w0) (g0:=g0) (o0:=ob) (N:=26) (Q:=Qoq ob k i n) (cs:=cs0) (ord:=fun _=>.nil) Q6k (by kernel_rfl) kidR0 (fun e s=>.leaf e s) _ ⟨ent 0 [.box 0 0,.val (.int .i64 n)],ob⟩ _ w0 (by kernel_rfl) (by kernel_rfl) (fun c a d v w h=>h) (fun e s ac w hs hq=>?_) (QiL M0 hL (Nat.le_of_ble_eq_true rfl)) (vj w0 g0))
 obtain⟨rfl,j0,h4,h1⟩:=(show Qoq ob k i n e s from hq);show kidR1.wp _ _ ac w;refine wp_region ?_;show wpOps _ _ _ [0,1,2,3,4,5,6,7,8,9,10] ac w;obtain⟨hdf,jh,g,M,hS,h0⟩:=hs;rw[j0]at M h0;have qO:k≠0:=by rintro rfl;rw[hb]at hk;cases hk
 -- what the slots gV
 have hp:=hS 4;rw[h4,j0]at hp;obtain⟨_,et,sz,fz,ee,xs',yS,_,gO⟩:=(show ARel0 w g ob _ (.rptr k 0 i 0) from hp);rw[hk]at yS;cases yS;obtain⟨b,c,hpv,_,j1,hRV⟩:=gO rfl;have hn:=hS 1;rw[h1]at hn;have hnv:=hn.valEq;-- the maker's box
 obtain⟨nf,cur,T0,hh0,jr⟩:=M.box 0 _ hb;have qu:cur.toList.length=3:=jr.1;obtain⟨v,hv⟩:∃v,cur.toList[2]?=some v:=⟨_,getElem?_eq_getElem (by omega)⟩
 obtain⟨⟨km,et,sz,fz,ee,xs',yS,_,gr⟩,_⟩:=jr.2 2 v (.row k 0) hv rfl;rw[hk]at yS;cases yS;have hRB:=gr rfl;obtain⟨ysP,hoP,hGP,_,_,hsP,_⟩:=hRV;obtain⟨ysB,hoB,hGB,_,_,pA,_⟩:=(show RowV w g k Q5U 2 v xs from hRB);rcases hoB.2 with ⟨_,h00⟩|⟨bB,cap,curB,rfl,_,hhB,_,_,_,_⟩
 ·omega
 obtain rfl:b=bB:=M.uniq _ _ k (hGP b rfl) (hGB bB rfl) (hsP b rfl) (pA bB rfl);obtain⟨y,zs,hcell,jP,vQ,jX,hus,yh⟩:=Qnt M hk hRB hx hu;have qe:=hGB b rfl;have jW:=(M.own b k qe).1
 have cz:y.ownBlock≠some b:=fun e=>by
  have:=(yh b e).2.1
  rw[pA b rfl]at this;cases this
 have h0ne:g.loc 0≠b:=fun e=>by
  rw[e,qe]at nf;exact qO (Option.some.inj nf)
 have h0ny:y.ownBlock≠some (g.loc 0):=fun e=>by
  have:=(yh _ e).1
  rw[nf]at this;exact qO (Option.some.inj this).symm
 -- one operation after the other
 have A0:At 26 ac (fun t=>ac.eval (.tmp t)):=⟨hdf,jh,fun _=>rfl⟩
 have e4:ac.eval (.tmp 4)=.pointer (some ⟨b,i.toNat * 2+0,none⟩):=hpv;have e1:ac.eval (.tmp 1)=.int .i64 n:=hnv;generalize pB:Value.pointer (some ⟨b,i.toNat * 2+0,none⟩)=PV at e4;refine Q2M rfl rfl (Qa2 (x:=.tmp 4) (.inl rfl)) ?_;rw[e4];show wpOps _ _ _ [1,2,3,4,5,6,7,8,9,10] (ac.put (some 16) PV) w;have A1:=A0.put (d:=16) (by decide) PV
 generalize ac.put (some 16) PV=a1 at A1 ⊢;refine Q2M rfl rfl (Qa2 (x:=.tmp 4) (.inl rfl)) ?_;rw[show a1.eval (.tmp 4)=PV by rw[A1.ev];exact e4]
 show wpOps _ _ _ [2,3,4,5,6,7,8,9,10] (a1.put (some 17) PV) w;have A2:=A1.put (d:=17) (by decide) PV
 generalize a1.put (some 17) PV=a2 at A2 ⊢;refine Q2M rfl rfl (Q7u (x:=.tmp 17) (ad:=⟨b,i.toNat * 2+0,none⟩) rfl (by rw[A2.ev,pB];rfl)) ?_
 rw[pB];show wpOps _ _ _ [3,4,5,6,7,8,9,10] (a2.put (some 18) PV) w;have A3:=A2.put (d:=18) (by decide) PV
 generalize a2.put (some 18) PV=a3 at A3 ⊢;refine Q2M rfl rfl (Q7n Q6k (x:=.tmp 18) (off:=1) (t:=23) rfl (by kernel_rfl) (by kernel_rfl) (b:=b) (u:=i.toNat * 2+0) (by rw[A3.ev,pB];rfl)) ?_
 rw[add_zero];generalize hFV:Value.pointer (some ⟨b,i.toNat * 2+1,none⟩)=FV;show wpOps _ _ _ [4,5,6,7,8,9,10] (a3.put (some 19) FV) w;have A4:=A3.put (d:=19) (by decide) FV
 generalize a3.put (some 19) FV=a4 at A4 ⊢;refine Q2M rfl rfl (Qit Q6k (x:=.tmp 19) rfl (by kernel_rfl) (by kernel_rfl) (b:=b) (u:=i.toNat * 2+1) (by rw[A4.ev,hFV];rfl) hcell) ?_
 show wpOps _ _ _ [5,6,7,8,9,10] (a4.put (some 20) y) w;have A5:=A4.put (d:=20) (by decide) y
 generalize a4.put (some 20) y=a5 at A5 ⊢;refine Q2M rfl rfl (Qa2 (x:=.tmp 1) (.inl rfl)) ?_;rw[show a5.eval (.tmp 1)=.int .i64 n by rw[A5.ev];exact e1]
 generalize ng:Value.int .i64 n=NV;show wpOps _ _ _ [6,7,8,9,10] (a5.put (some 21) NV) w;have A6:=A5.put (d:=21) (by decide) NV
 generalize a5.put (some 21) NV=a6 at A6 ⊢;-- the slice of one number
 obtain⟨e,xO,qq,te,z4,_⟩:=Q4R Q6k (T:=23) (sz:=1) (by kernel_rfl)
 obtain⟨ie,z,gP,v5,cu,xt,kX⟩:=te.i;have hek:e=Qiz:=qq.trans (by kernel_rfl)
 rw[z4]at v5
 have cY:z.cells.size=1:=by
  have:=congrArg List.length kX
  rw[Array.length_toList,te.zl,z4]at this;exact this
 have hN1:NV.cells=#[NV]:=by rw[<-ng];rfl
 obtain⟨c',hf,zm⟩:=Q8U (sz:=1) [NV] 0 ((Array.range (1 * 1)).map (z.cells[· % z.cells.size]!)) (fun v' hv'=>by
  obtain rfl:v'=NV:=by simpa using hv'
  rw[hN1];rfl) (by simp)
 obtain rfl:c'=#[NV]:=by
  apply Array.ext';rw[zm];simp[hN1]
 have hrB:(Instr.buildSlice 23 1 #[(0,NV)]).run prog w=.ok (.slice (some ⟨w.heap.size,0,none⟩) 1 1) (w.alloc (.cells #[NV] e)) :=
  run_buildSlice w 23 e 1 _ _ ie z xO gP xt (by rw[v5];decide) (by rw[v5];decide) (by rw[v5];exact hf)
 refine Q2M (w':=w.alloc (.cells #[NV] e)) (v:=.slice (some ⟨w.heap.size,0,none⟩) 1 1) rfl rfl (by
  simp only[execOp];refine Q2t ?_
  have:(#[(0,Operand.tmp 21)].map fun(x:Nat×Operand)=>(x.1,a6.eval x.2))=#[(0,NV)]:=by
   simp[A6.ev]
  rw[<-this]at hrB;exact hrB) ?_
 have hhN:(w.alloc (.cells #[NV] e)).heap[w.heap.size]?=some (.cells #[NV] e (0,0)):=Q6H w _;have nh:Below w.heap.size w (w.alloc (.cells #[NV] e)):=(Below.refl _ w).alloc (le_refl _) _;have gV:∀b',b'<w.heap.size->(w.alloc (.cells #[NV] e)).heap[b']?=w.heap[b']?:=fun b' h=>Q4n h
 generalize hSV:Value.slice (some ⟨w.heap.size,0,none⟩) 1 1=SV;show wpOps _ _ _ [7,8,9,10] (a6.put (some 22) SV) _;generalize w.alloc (.cells #[NV] e)=w1 at hhN nh gV ⊢;have A7:=A6.put (d:=22) (by decide) SV
 generalize a6.put (some 22) SV=a7 at A7 ⊢
 obtain⟨v',w2,hrA,xL,hg,yg,yO⟩:=QaZ (P:=prog) (w:=w1) (t:=23) (u:=23) (ty:=23) xO xO (.inl ⟨_,rfl⟩) gP xt v5 (by rw[cu];exact te.by_) cY
  (Q3A (hek ▸ jP) fun b' zf=>gV b' (yh b' zf).2.2.2) (x:=SV) (m:=1) (news:=[NV]) rfl (fun W=>by rw[<-hSV];rfl)
  (fun W hW=>by
    rw[<-hSV];refine run_firstCells_some (P:=prog) W 1 1 _ _ _ [NV] rfl (fun j u hj=>?_)
    cases j with
    |zero =>
     obtain rfl:NV=u:=by simpa using hj
     show W.cell? ⟨w.heap.size,0+0,none⟩=_;simp[World.cell?,hW,hhN]
    |succ j=>simp at hj) (fun u hu=>by
    obtain rfl:u=NV:=by simpa using hu
    rw[<-ng];rfl) (by omega)
 refine Q2M rfl rfl (Qnr (x:=.tmp 20) (y:=.tmp 22) rfl (by
  rw[show a7.eval (.tmp 20)=y by rw[A7.ev];rfl,show a7.eval (.tmp 22)=SV by rw[A7.ev];rfl]
  exact hrA)) ?_
 show wpOps _ _ _ [8,9,10] (a7.put (some 23) v') w2;have A8:=A7.put (d:=23) (by decide) v'
 generalize a7.put (some 23) v'=a8 at A8 ⊢;refine Q2M rfl rfl (Q7u (x:=.tmp 16) (ad:=⟨b,i.toNat * 2+0,none⟩) rfl (by rw[A8.ev,pB];rfl)) ?_
 rw[pB];show wpOps _ _ _ [9,10] (a8.put (some 24) PV) w2;have A9:=A8.put (d:=24) (by decide) PV
 generalize a8.put (some 24) PV=a9 at A9 ⊢;refine Q2M rfl rfl (Q7n Q6k (x:=.tmp 24) (off:=1) (t:=23) rfl (by kernel_rfl) (by kernel_rfl) (b:=b) (u:=i.toNat * 2+0) (by rw[A9.ev,pB];rfl)) ?_
 rw[add_zero,hFV];show wpOps _ _ _ [10] (a9.put (some 25) FV) w2;have A10:=A9.put (d:=25) (by decide) FV
 generalize a9.put (some 25) FV=a10 at A10 ⊢
 have n9:w2.heap[b]?=w.heap[b]?:=by
  rw[hg.block b (lt_of_lt_of_le jW nh.size) (fun e=>cz e.symm),gV b jW]
 have hv'1:v'.oneCell'=true:=by
  rcases xL.2 with ⟨_,h00⟩|⟨b',cap',cur',rfl,_⟩
  ·omega
  ·rfl
 refine QfV (w':=w2.setCells b (i.toNat * 2+1) [v']) rfl rfl (Qg7 Q6k (x:=.tmp 25) (y:=.tmp 23) rfl (by kernel_rfl) (by kernel_rfl) (by rw[A10.ev,hFV];rfl) (by rw[A10.ev];rfl) hv'1 (z:=y)
  (by rw[World.cell?_of_block (w:=w) n9];exact hcell) (by simp[World.frozen?,n9,hhB])) ?_
 obtain⟨g3,M3,S3,R3⟩:=Qnw M hk hRB hx hcell jP jX hus yh (n:=n) nh (ng ▸ hek ▸ xL) hg yg yO;generalize zR:w2.setCells b (i.toNat * 2+1) [v']=w3 at M3 S3 R3 ⊢
 have yM:(ob.set k (.row Q5U 2 false (0+1) (xs.set i.toNat (.agg [a,.slc 1 (us++[.val (.int .i64 n)])]))))[0]?=some (.box [bs,tp,.row k 0]):=by
  rw[getElem?_set_ne qO];exact hb
 have kQ:g3.loc 0=g.loc 0:=S3.ext.loc 0 (Qa hb)
 have na:w3.heap[g.loc 0]?=some (.cells cur T0 (0,0)):=by
  have jA:=(M.own _ _ nf).1;rw[<-zR,Q1N (k:=0) h0ne,hg.block _ (lt_of_lt_of_le jA nh.size) (fun e=>h0ny e.symm),gV _ jA]
  exact hh0
 have M4:=M3.store yM (off:=2) (vs:=[Value.slice (some ⟨b,0,none⟩) xs.length cap]) (us:=[.row k 1]) ⟨rfl,fun j y' u' vZ ja=>by
  cases j with
  |zero =>
   obtain rfl:Value.slice (some ⟨b,0,none⟩) xs.length cap=y':=by simpa using vZ
   obtain rfl:AV.row k 1=u':=by simpa using ja
   exact⟨⟨rfl,Q5U,2,false,1,_,getElem?_set_self (Qa hk),le_refl _,fun _=>by
    have zq:(xs.set i.toNat (.agg [a,.slc 1 (us++[.val (.int .i64 n)])])).length=xs.length:=by rw[length_set]
    exact R3⟩,rfl⟩
  |succ j=>simp at vZ⟩ (le_refl _)
 have S4:=Step.store M3 yM 2 [Value.slice (some ⟨b,0,none⟩) xs.length cap] [bs,tp,.row k 1];rw[kQ,QbD na (by rw[<-Array.getElem?_toList];exact hv)]at M4 S4
 show bodyPost _ _ _ .normal _ _;subst ng;exact⟨A10.defers,_,QcW rfl _ _,_,g3,rfl,M4,⟨#[],rfl,rfl,fun j y' u' h=>by simp at h⟩,(h0.trans S3).trans S4⟩
structure Node where
 kind:Int
 width:Int
 count:Int
 leaf:Bool
 b:List UInt8
 kids:List Int
 deriving Inhabited
def Node.av(x:Node):AV:=.agg [.val (.int .i64 x.kind),.val (.int .i64 x.width),.val (.int .i64 x.count),.val (.bool x.leaf),.slc 1 (Q2 x.b),.slc 1 (Q9 x.kids)]
def Q3(l:List Node):List AV:=l.map Node.av
theorem Q1o(l:List Node):(Q3 l).length=l.length:=by simp[Q3]
def Q9d:Node:=⟨0,0,0,false,[],[]⟩
def Qn(l:List Node)(n:Int):Node:=if 0<=n/\n<l.length then l[n.toNat]?.getD Q9d else Q9d
theorem Q8m{l:List Node}{n:Int}(h0:0<=n)(h1:n<l.length):(Q3 l)[n.toNat]?.getD .dead=(Qn l n).av:=by
 rw[Qn,if_pos ⟨h0,h1⟩];exact QdT Node.av h0 h1 Q9d
theorem QpV(l:List Node):BCall prog 118 [.ref [.slc 6 (Q3 l)]] [] (.val (.int .i64 l.length)) []:=by
 refine fnN (cs0) func118 rfl fun _ _=>?_
 with_reducible refine cv1 (Q3 l) ?_
 refine⟨by simp[std,Q3t,Q2x],.pure rfl (.inl ?_)⟩
 simp[std,Q2x,Q3]
def QnH(len:List AV->Int):Nat->List AV->List Ob->Option (AV×List Ob):=fun f args _=>match f,args with
 |118,[.ref [.slc 6 xs]]=>some (.val (.int .i64 (len xs)),[])
 |_,_=>none
def Q5p(xs:List AV):Int:=xs.length
theorem QbT(l:List Node):BCall prog 118 [.ref [.slc 6 (Q3 l)]] [] (.val (.int .i64 (Q5p (Q3 l)))) []:=by
 have:=QpV l
 rw[<-Q1o]at this;exact this
theorem Qp1(l:List Node)(n:Int):BCall prog 117 [.ref [.slc 6 (Q3 l)],.val (.int .i64 n)] [] (Qn l n).av []:=by
 refine fnN (QnH Q5p) func117 rfl fun _ _=>?_
 with_reducible refine cv2 Q5p (Q3 l) ?_
 have jE:=Q1o l;refine⟨fun h1=>.pure rfl ?_,fun h1=>⟨QbT l,fun h2=>.pure rfl ?_,fun h2=>⟨?_,?_,?_,.pure rfl ?_⟩⟩⟩
 ·have h1:n<0:=by simpa[std]using h1
  have:¬(0<=n/\n<l.length):=by omega
  simp[Qn,this,Node.av,Q9d,leA,QeH,leL,leC,Q2,Q9]
 ·have h2:(l.length:Int)<=n:=by simpa[std,Q5p,jE]using h2
  have:¬(0<=n/\n<l.length):=by omega
  simp[Qn,this,Node.av,Q9d,leA,QeH,leL,leC,Q2,Q9]
 ·simp[std,Q3t,Q2x]
 all_goals
  have h1:0<=n:=by simpa[std]using h1
  have h2:n<l.length:=by simpa[std,Q5p,jE]using h2
  have jV:=Q8m h1 h2
 ·simp[std,Q2x,jE,h1,h2]
 ·simp[std,Q3t,Q2x,jV,Node.av,AV.cells,intOf,Q5y]
 ·simp[std,Q3t,Q2x,jV,Node.av,AV.cells,intOf,Q5y,leA,QeH,leL,leC]
def Qj7(k w c:Int->Int)(lf:Int->Bool)(b s:Int->List AV):Nat->List AV->List Ob->Option (AV×List Ob):=fun f args _=>match f,args with
 |117,[.ref [.slc 6 _],.val (.int .i64 n)]=>some (.agg [.val (.int .i64 (k n)),.val (.int .i64 (w n)),.val (.int .i64 (c n)),.val (.bool (lf n)),.slc 1 (b n),.slc 1 (s n)],[])
 |121,[.slc 1 xs]=>some (.slc 1 xs,[])
 |214,[.slc 1 xs]=>some (.slc 1 xs,[])
 |86,[.slc 1 xs]=>some (.slc 1 xs,[])
 |_,_=>none
def Q1f(l:List Node)(n:Int):Int:=(Qn l n).kind
def Q1c(l:List Node)(n:Int):Int:=(Qn l n).width
def Q2u(l:List Node)(n:Int):Int:=(Qn l n).count
def Qco(l:List Node)(n:Int):Bool:=(Qn l n).leaf
def bN(l:List Node)(n:Int):List AV:=Q2 (Qn l n).b
def Q23(l:List Node)(n:Int):List AV:=Q9 (Qn l n).kids
theorem QoJ(l:List Node)(n:Int):BCall prog 115 [.ref [.slc 6 (Q3 l)],.val (.int .i64 n)] [] (.val (.int .i64 (Qn l n).kind)) []:=by
 refine fnN (Qj7 (Q1f l) (Q1c l) (Q2u l) (Qco l) (bN l) (Q23 l)) func115 rfl fun _ _=>?_
 with_reducible refine cv7 (Q1f l) (Q1c l) (Q2u l) (Qco l) (bN l) (Q23 l) (Q3 l) ?_
 exact⟨Qp1 l n,.pure rfl (.inl rfl)⟩
theorem Qn0(l:List Node)(n:Int):BCall prog 58 [.ref [.slc 6 (Q3 l)],.val (.int .i64 n)] [] (.val (.int .i64 (Qn l n).width)) []:=by
 refine fnN (Qj7 (Q1f l) (Q1c l) (Q2u l) (Qco l) (bN l) (Q23 l)) func58 rfl fun _ _=>?_
 with_reducible refine cv7 (Q1f l) (Q1c l) (Q2u l) (Qco l) (bN l) (Q23 l) (Q3 l) ?_
 exact⟨Qp1 l n,.pure rfl (.inl rfl)⟩
theorem QlB(l:List Node)(n:Int)(hn:(Qn l n).kids.length<=1000000000):BCall prog 68 [.ref [.slc 6 (Q3 l)],.val (.int .i64 n)] [] (.slc 1 (Q9 (Qn l n).kids)) []:=by
 refine fnN (Qj7 (Q1f l) (Q1c l) (Q2u l) (Qco l) (bN l) (Q23 l)) func68 rfl fun _ _=>?_
 with_reducible refine cv7 (Q1f l) (Q1c l) (Q2u l) (Qco l) (bN l) (Q23 l) (Q3 l) ?_
 exact⟨Qp1 l n,Qfo _ (by simpa[Q23,Q9]using hn),.pure rfl (.inl rfl)⟩
theorem Qq0:BCall prog 41 [] [] (.box 0 0) [.box [.val (.slice none 0 0)]]:=by
 refine fnO true (cs0) (fun _=>.nil) func41 rfl fun _ _=>?_
 with_reducible refine cv0 ?_
 exact⟨[some 0],.box 0 0,_,rfl,rfl,zero_le _,rfl,⟨rfl,rfl,trivial⟩,.inl rfl⟩
theorem QnY(xs:List AV)(hn:xs.length<1000000000)(k w c:Int)(lf:Bool)(b kids:List AV) :
  BCall prog 85 [.box 0 0,.agg [.val (.int .i64 k),.val (.int .i64 w),.val (.int .i64 c),.val (.bool lf),.slc 1 b,.slc 1 kids]] [.box [.row 1 0],.row 182 6 false 0 xs] (.val (.int .i64 xs.length)) [.box [.row 1 1],.row 182 6 false 1 (xs++[.agg [.val (.int .i64 k),.val (.int .i64 w),.val (.int .i64 c),.val (.bool lf),.slc 1 b,.slc 1 kids]])]:=by
 refine fnN (cs0) func85 rfl fun _ _=>?_
 with_reducible refine cv0 ?_
 refine⟨?_,?_,[some 0,some 1],.val (.int .i64 xs.length),_,rfl,rfl,le_refl _,rfl,?_,.inl rfl⟩
 ·simp[std];omega
 ·show(-9223372036854775808:Int)<=_/\_<=(9223372036854775807:Int)
  simp[std];omega
 ·simp[Qe,std]
theorem Qok(k w c:Int)(lf:Bool)(b kids:List AV) :
  BCall prog 85 [.box 0 0,.agg [.val (.int .i64 k),.val (.int .i64 w),.val (.int .i64 c),.val (.bool lf),.slc 1 b,.slc 1 kids]] [.box [.val (.slice none 0 0)]] (.val (.int .i64 0)) [.box [.row 1 1],.row 182 6 false 1 [.agg [.val (.int .i64 k),.val (.int .i64 w),.val (.int .i64 c),.val (.bool lf),.slc 1 b,.slc 1 kids]]]:=by
 refine fnN (cs0) func85 rfl fun _ _=>?_
 with_reducible refine cv0 ?_
 refine⟨?_,?_,[some 0,some 3],.val (.int .i64 0),_,rfl,rfl,Nat.le_succ _,rfl,?_,.inl rfl⟩
 ·simp[std]
 ·show(-9223372036854775808:Int)<=_/\_<=(9223372036854775807:Int)
  simp[std]
 ·simp[Qe,std]
def QI(kind:Int)(b:List UInt8):Node:=⟨kind,b.length,1,true,b,[]⟩
def Q7v(p:Pr):Nat->List AV->List Ob->Option (AV×List Ob):=fun f args ob=>match f,args with
 |85,[.box 0 0,.agg [k,w,c,l,b,s]]=>match ob with
  | [.box [.row 1 0],.row 182 6 false 0 xs]=>some (.val (.int .i64 (p.len xs)),[.box [.row 1 1],.row 182 6 false 1 (p.app xs [.agg [k,w,c,l,match b with|.val (.slice none 0 0)=>.slc 1 []|b=>b,match s with|.val (.slice none 0 0)=>.slc 1 []|s=>s]])])
  | [.box [.val (.slice none 0 0)]]=>some (.val (.int .i64 0),[.box [.row 1 1],.row 182 6 false 1 [.agg [k,w,c,l,match b with|.val (.slice none 0 0)=>.slc 1 []|b=>b,match s with|.val (.slice none 0 0)=>.slc 1 []|s=>s]]])
  |_=>none
 |121,[.slc 1 xs]=>some (.slc 1 xs,[])
 |86,[.slc 1 xs]=>some (.slc 1 xs,[])
 |86,[.val (.slice none 0 0)]=>some (.slc 1 [],[])
 |_,_=>none
theorem QkY(l:List Node)(hl:l.length<1000000000)(kind:Int)(b:List UInt8)(hb:b.length<=1000000000) :
  BCall prog 43 [.box 0 0,.val (.int .i64 kind),.slc 1 (Q2 b)] [.box [.row 1 0],.row 182 6 false 0 (Q3 l)] (.val (.int .i64 l.length)) [.box [.row 1 1],.row 182 6 false 1 (Q3 (l++[QI kind b]))]:=by
 refine fnN (Q7v std) func43 rfl fun _ _=>?_
 with_reducible refine cv2 (Q2 b) (Q3 l) ?_
 refine⟨Q83 _ (by simpa[Q2]using hb),?_,[some 0,some 1],.val (.int .i64 l.length),_,rfl,rfl,le_refl _,rfl,?_,.inl rfl⟩
 ·exact(QnY (Q3 l) (by simpa[Q3]using hl) kind _ 1 true (Q2 b) []).le ⟨.inl rfl,⟨.inl rfl,.inl rfl,.inl rfl,.inl rfl,.inl rfl,.inr (.inl ⟨rfl,_,rfl⟩),trivial⟩,trivial⟩
 ·simp[Qe,std,Q3,QI,Node.av,Q2,Q9]
theorem Qmi(kind:Int)(b:List UInt8)(hb:b.length<=1000000000) :
  BCall prog 43 [.box 0 0,.val (.int .i64 kind),.slc 1 (Q2 b)] [.box [.val (.slice none 0 0)]] (.val (.int .i64 0)) [.box [.row 1 1],.row 182 6 false 1 (Q3 [QI kind b])]:=by
 refine fnN (Q7v std) func43 rfl fun _ _=>?_
 with_reducible refine cv1 (Q2 b) ?_
 refine⟨Q83 _ (by simpa[Q2]using hb),?_,[some 0,some 1],.val (.int .i64 0),_,rfl,rfl,Nat.le_succ _,rfl,?_,.inl rfl⟩
 ·exact(Qok kind _ 1 true (Q2 b) []).le ⟨.inl rfl,⟨.inl rfl,.inl rfl,.inl rfl,.inl rfl,.inl rfl,.inr (.inl ⟨rfl,_,rfl⟩),trivial⟩,trivial⟩
 ·simp[Qe,std,Q3,QI,Node.av,Q2,Q9]
def Q1Z(l:List Node)(ks:List Int):Int:=(ks.map (Q1c l)).sum
def cnt(l:List Node)(ks:List Int):Int:=ks.foldl (fun c k=>min (c+Q2u l k) 2147483647) 1
def Q1i(l:List Node)(kind:Int)(ks:List Int):Node:=⟨kind,Q1Z l ks,cnt l ks,false,[],ks⟩
theorem Q5P{l:List Node}(hw:∀n,0<=Q1c l n)(ks:List Int):0<=Q1Z l ks:=by
 induction ks with
 |nil=>simp[Q1Z]
 |cons k r ih=>have:=hw k;simp only[Q1Z,map_cons,sum_cons]at ih ⊢;omega
theorem Q9y{l:List Node}(hw:∀n,0<=Q1c l n)(ks:List Int)(n:Nat):Q1Z l (ks.take n)<=Q1Z l ks:=by
 have h:=Q5P hw (ks.drop n)
 have e:Q1Z l ks=Q1Z l (ks.take n)+Q1Z l (ks.drop n):=by
  rw[Q1Z,Q1Z,Q1Z,<-sum_append,<-map_append,List.take_append_drop]
 omega
theorem Q8K{l:List Node}(hc:∀n,0<=Q2u l n/\Q2u l n<=2147483647)(ks:List Int):0<=cnt l ks/\cnt l ks<=2147483647:=by
 have key:∀(ks:List Int)(c:Int),0<=c/\c<=2147483647->0<=ks.foldl (fun c k=>min (c+Q2u l k) 2147483647) c/\ks.foldl (fun c k=>min (c+Q2u l k) 2147483647) c<=2147483647:=by
  intro ks;induction ks with
  |nil=>intro c h;exact h
  |cons k r ih=>intro c h;have:=hc k;exact ih (min (c+Q2u l k) 2147483647) (by omega)
 exact key ks 1 (by omega)
theorem Qfg(l:List Node)(hl:l.length<1000000000)(kind:Int)(ks:List Int)(yk:ks.length<=1000000000)(jM:∀k∈ks,0<=k/\k<l.length)(hw:∀n,0<=Q1c l n)(hc:∀n,0<=Q2u l n/\Q2u l n<=2147483647)(yT:Q1Z l ks<=2147483647) :
  BCall prog 90 [.box 0 0,.val (.int .i64 kind),.slc 1 (Q9 ks)] [.box [.row 1 0],.row 182 6 false 0 (Q3 l)] (.tup [.val (.int .i64 l.length),.val (.int .i64 0)]) [.box [.row 1 1],.row 182 6 false 1 (Q3 (l++[Q1i l kind ks]))]:=by
 refine fnN (Q7v std) func90 rfl fun _ _=>?_
 with_reducible refine cv2 (Q9 ks) (Q3 l) ?_
 refine⟨Qfo _ (by simpa[Q9]using yk),?_⟩
 obtain⟨n,hn⟩:=QE ks;refine Q1h (Q7v std) (Int) (fun i=>⟨[(0,.box 0 0),(8,.box 2 0),(9,.val (.bool false)),(18,.slc 1 (Q9 ks)),(19,.val (.int .i64 n)),(20,.val (.int .i64 i))],[.box [.row 1 0],.row 182 6 false 0 (Q3 l),.box [.val (.int .i64 kind),.val (.int .i64 (Q1Z l (ks.take i.toNat))),.val (.int .i64 (cnt l (ks.take i.toNat))),.val (.bool false),.val (.slice none 0 0),.slc 1 (Q9 ks)]]⟩) (fun i=>0<=i/\i<=n) (fun i=>(n-i).toNat) 0 ?_ ?_ ?_
 ·have:=hn.eq
  omega
 ·exact⟨[some 0,some 1,some 2],_,rfl,by simp[Qe,lk,Q1Z,cnt,std,Q9,hn.eq]⟩
 ·rintro i ⟨qi,yt⟩
  have en:=hn.eq;have xP:=Q2w ks;have vk:=Q1o l;rcases Int.lt_or_eq_of_le yt with jA|j6
  ·have jV:=Q2T (l:=ks) qi (en ▸ jA)
   have gW:ks[i.toNat]?.getD 0∈ks:=by
    have:i.toNat<ks.length:=by omega
    simp[this]
   have ht:ks.take (i+1).toNat=ks.take i.toNat++[ks[i.toNat]?.getD 0]:=by
    have:i.toNat<ks.length:=by omega
    rw[show(i+1).toNat=i.toNat+1 by omega,List.take_add_one]
    simp[this]
   have zF:Q1Z l (ks.take (i+1).toNat)=Q1Z l (ks.take i.toNat)+Q1c l (ks[i.toNat]?.getD 0):=by rw[ht];simp[Q1Z]
   have ni:cnt l (ks.take (i+1).toNat)=min (cnt l (ks.take i.toNat)+Q2u l (ks[i.toNat]?.getD 0)) 2147483647:=by rw[ht];simp[cnt,List.foldl_append]
   obtain⟨qO,jU⟩:=jM _ gW;obtain⟨k,hk⟩:=exq (ks[i.toNat]?.getD 0);rw[<-hk]at jV zF ni qO jU;have hnd:=Q8m qO jU
   have hWl:Q1Z l (ks.take i.toNat)+Q1c l k<=2147483647:=by
    rw[<-zF];exact Int.le_trans (Q9y hw _ _) yT
   have hW0:0<=Q1Z l (ks.take i.toNat):=Q5P hw _;have hC0:=Q8K hc (ks.take i.toNat);have pj:=hw k;have vq:=hc k;simp only[Q1c,Q2u]at zF ni hWl pj vq;obtain⟨W,hW⟩:=exq (Q1Z l (ks.take i.toNat));obtain⟨C,hC⟩:=exq (cnt l (ks.take i.toNat));rw[<-hW]at zF hWl hW0 ⊢;rw[<-hC]at ni hC0 ⊢;clear en;with_reducible refine cv2 (Q9 ks) (Q3 l) ?_
   have en:=hn.eq;replace jU:k<(l.length:Int):=jU
   repeat' first
    |(with_reducible refine And.intro (fun hx=>absurd hx (by first|(try simp[std,S1,jV,xP,vk,hnd,qO,jU,Node.av,jA])<;>omega|omega)) (fun _=>?_))
    |(with_reducible refine And.intro (fun _=>?_) (fun hx=>absurd hx (by first|(try simp[std,S1,jV,xP,vk,hnd,qO,jU,Node.av,jA])<;>omega|omega)))
    |(with_reducible refine And.intro (by first|(try simp[std,S1,jV,xP,vk,hnd,qO,jU,Node.av,jA])<;>omega|omega) ?_)
    |(with_reducible refine zA ?_ ?_)
    |(with_reducible intro hb)
   all_goals exact⟨i+1,⟨by omega,by omega⟩,by omega,[some 0,some 1,some 2],_,rfl,by simp[Qe,lk,std,jV,hnd,Node.av,AV.cells,intOf,zF,ni];omega⟩
  ·have ht:ks.take i.toNat=ks:=List.take_of_length_le (by omega)
   rw[ht];have hW0:=Q5P hw ks;have hC0:=Q8K hc ks;have hB:Q1i l kind ks=⟨kind,Q1Z l ks,cnt l ks,false,[],ks⟩:=rfl;obtain⟨W,hW⟩:=exq (Q1Z l ks);obtain⟨C,hC⟩:=exq (cnt l ks);rw[<-hW]at hW0 hB ⊢;rw[<-hC]at hC0 hB ⊢;clear en;with_reducible refine cv2 (Q9 ks) (Q3 l) ?_
   with_reducible repeat' first|refine aU j6 ?_|refine zA ?_ ?_|intro hb
   rw[if_pos trivial];generalize hBv:Q1i l kind ks=B at hB ⊢;with_reducible refine cv2 (Q9 ks) (Q3 l) ?_
   refine⟨?_,[some 0,some 1],.tup [.val (.int .i64 l.length),.val (.int .i64 0)],_,rfl,rfl,le_refl _,rfl,?_,?_⟩
   ·exact(QnY (Q3 l) (by simpa[Q3]using hl) kind W C false [] (Q9 ks)).le ⟨.inl rfl,⟨.inl rfl,.inl rfl,.inl rfl,.inl rfl,.inr (.inl ⟨rfl,_,rfl⟩),.inl rfl,trivial⟩,trivial⟩
   ·simp[Qe,std,vk,Q3,hB,Node.av,Q2,Q9]
   ·exact⟨.inl rfl,.inl rfl,trivial⟩
def Wf(l:List Node):Prop:=∀n:Int,0<=n->n<l.length->∀k∈(Qn l n).kids,0<=k/\k<n
def prF(l:List Node):Nat->Int->List UInt8
 |0,_=>[]
 |f+1,n=>(Qn l n).b++(Qn l n).kids.flatMap (prF l f)
def pr(l:List Node)(n:Int):List UInt8:=prF l (n.toNat+1) n
def coF(l:List Node):Nat->Int->Nat
 |0,_=>1
 |f+1,n=>1+((Qn l n).kids.map (coF l f)).sum
def co(l:List Node)(n:Int):Nat:=coF l (n.toNat+1) n
theorem QeC{l:List Node}(hw:Wf l):∀(f f':Nat)(n:Int),0<=n->n<l.length->n.toNat<f->n.toNat<f'->prF l f n=prF l f' n
 |0,_,_,_,_,h,_=>by omega
 |_+1,0,_,_,_,_,h=>by omega
 |f+1,f'+1,n,h0,h1,h2,h3=>by
  simp only[prF];congr 1
  refine congrArg List.flatten (map_congr_left fun k hk=>?_)
  have:=hw n h0 h1 k hk
  exact QeC hw f f' k this.1 (by omega) (by omega) (by omega)
theorem Qh3{l:List Node}(hw:Wf l){n:Int}(h0:0<=n)(h1:n<l.length):pr l n=(Qn l n).b++(Qn l n).kids.flatMap (pr l):=by
 show prF l (n.toNat+1) n=_;simp only[prF];congr 1
 refine congrArg List.flatten (map_congr_left fun k hk=>?_)
 have:=hw n h0 h1 k hk
 exact QeC hw _ _ k this.1 (by omega) (by omega) (by omega)
theorem Qfb{l:List Node}(hw:Wf l):∀(f f':Nat)(n:Int),0<=n->n<l.length->n.toNat<f->n.toNat<f'->coF l f n=coF l f' n
 |0,_,_,_,_,h,_=>by omega
 |_+1,0,_,_,_,_,h=>by omega
 |f+1,f'+1,n,h0,h1,h2,h3=>by
  simp only[coF];congr 2
  refine map_congr_left fun k hk=>?_
  have:=hw n h0 h1 k hk
  exact Qfb hw f f' k this.1 (by omega) (by omega) (by omega)
theorem Qbd{l:List Node}(hw:Wf l){n:Int}(h0:0<=n)(h1:n<l.length):co l n=1+((Qn l n).kids.map (co l)).sum:=by
 show coF l (n.toNat+1) n=_;simp only[coF];congr 2
 refine map_congr_left fun k hk=>?_
 have:=hw n h0 h1 k hk
 exact Qfb hw _ _ k this.1 (by omega) (by omega) (by omega)
def Qj2(l:List Node):Prop:=∀n:Int,0<=n->n<l.length->(Qn l n).width=(pr l n).length
def Qfe(len:List AV->Int):Nat->List AV->List Ob->Option (AV×List Ob):=QnH len
def prS(l:List Node)(st:List Int):List UInt8:=st.reverse.flatMap (pr l)
def coS(l:List Node)(st:List Int):Nat:=(st.map (co l)).sum
def kS(l:List Node)(ks:List Int):List Int:=(ks.filter fun k=>decide (0<Q1c l k)).reverse
theorem Qgi(l:List Node)(n:Int):1<=co l n:=by
 show 1<=coF l (n.toNat+1) n;simp only[coF];omega
theorem Qhs{l:List Node}(st:List Int):st.length<=coS l st:=by
 induction st with
 |nil=>simp[coS]
 |cons k r ih=>have:=Qgi l k;simp only[coS,map_cons,sum_cons,List.length_cons]at ih ⊢;omega
theorem Qm7(l:List Node)(hl:l.length<=1000000000)(hw:Wf l)(hwd:Qj2 l)(n:Int)(h0:0<=n)(h1:n<l.length)(hp:(pr l n).length<=1000000)(hc:co l n<=1000000) :
  BCall prog 59 [.ref [.slc 6 (Q3 l)],.val (.int .i64 n)] [] (.slc 1 (Q2 (pr l n))) []:=by
 obtain⟨m,hm⟩:=QE l;have cJ:n<m:=by rw[hm.eq];exact h1
 refine fnN (Qfe Q5p) func59 rfl fun _ _=>?_
 clear h1;with_reducible refine cv2 Q5p (Q3 l) ?_
 have em:=hm.eq
 repeat' first
  |(with_reducible refine And.intro (fun hx=>absurd hx (by first|(try simp[std,S1,Q5p,Q1o l,h0,QbT l])<;>omega|omega)) (fun _=>?_))
  |(with_reducible refine And.intro (fun _=>?_) (fun hx=>absurd hx (by first|(try simp[std,S1,Q5p,Q1o l,h0,QbT l])<;>omega|omega)))
  |(with_reducible refine And.intro (by first|(try simp[std,S1,Q5p,Q1o l,h0,QbT l])<;>omega|omega) ?_)
  |(with_reducible refine zA ?_ ?_)
  |(with_reducible intro hb)
 ·exact QbT l
 refine Q1h (Qfe Q5p) (List UInt8×List Int) (fun x=>⟨[(0,.ref [.slc 6 (Q3 l)]),(5,.row 0 0),(6,.row 1 0)],[.row 5 1 false 0 (Q2 x.1),.row 3 1 false 0 (Q9 x.2)]⟩) (fun x=>x.1++prS l x.2=pr l n/\(∀k∈x.2,0<=k/\k<m)/\coS l x.2<=1000000) (fun x=>coS l x.2) ([],[n]) ?_ ?_ ?_
 ·exact⟨by simp[prS],by simp[h0,cJ],by simpa[coS]using hc⟩
 ·exact⟨[none,some 0],_,rfl,by simp[Qe,lk,Q2,Q9,Qgf]⟩
 ·rintro⟨out,st⟩ ⟨qE,jb,j5⟩
  simp only at qE jb j5
  rcases List.eq_nil_or_concat st with rfl|⟨st',k,rfl⟩
  ·with_reducible refine cv3 Q5p (Q3 l) (Q2 out) ?_
   repeat' first
    |(with_reducible refine And.intro (fun hx=>absurd hx (by first|(try simp[std,S1,Q9])<;>omega|omega)) (fun _=>?_))
    |(with_reducible refine And.intro (fun _=>?_) (fun hx=>absurd hx (by first|(try simp[std,S1,Q9])<;>omega|omega)))
    |(with_reducible refine And.intro (by first|(try simp[std,S1,Q9])<;>omega|omega) ?_)
    |(with_reducible refine zA ?_ ?_)
    |(with_reducible intro hb)
   rw[if_pos trivial];with_reducible refine cv2 (Q3 l) (Q2 out) ?_
   refine .pure rfl (.inl ?_);rw[<-qE];simp[prS]
  ·rw[List.concat_eq_append]at qE jb j5 ⊢
   obtain⟨qO,hkm⟩:=jb k (by simp)
   have jU:k<(l.length:Int):=by omega
   have hnd:=Q8m qO jU;have nj:(Q9 (st'++[k])).length=st'.length+1:=by simp[Q9]
   have jV:(Q9 (st'++[k]))[st'.length]?.getD .dead=.val (.int .i64 k):=by simp[Q9,Qgf]
   have kB:∀h:st'.length<(Q9 (st'++[k])).length,(Q9 (st'++[k]))[st'.length]'h=.val (.int .i64 k):=fun h=>by simp[Q9,Qgf]
   have jS:(Q9 (st'++[k])).take st'.length=Q9 st':=by
    rw[show Q9 (st'++[k])=Q9 st'++[Qgf k] by simp[Q9]]
    exact List.take_left' (by simp[Q9])
   have vk:=Q1o l;have gX:=Qh3 hw qO jU;have vq:=Qbd hw qO jU
   have yU:pr l n=out++((Qn l k).b++((Qn l k).kids.flatMap (pr l)++prS l st')):=by
    rw[<-qE,prS,List.reverse_append,List.flatMap_append];simp[gX,prS,append_assoc]
   have kC:∀j∈(Qn l k).kids,0<=j/\j<m:=fun j hj=>by
    have:=hw k qO jU j hj
    exact⟨this.1,by omega⟩
   have hco:coS l st'+(1+((Qn l k).kids.map (co l)).sum)<=1000000:=by
    rw[coS,map_append,sum_append]at j5;simpa[coS,vq]using j5
   have ku:coS l (st'++[k])=coS l st'+(1+((Qn l k).kids.map (co l)).sum):=by
    rw[coS,map_append,sum_append];simp[coS,vq]
   have j0:out.length+(Qn l k).b.length<=1000000:=by
    have:=congrArg List.length yU
    simp only[List.length_append]at this;omega
   have ze:=Qhs (l:=l) st';have qX:(Qn l k).kids.length<=((Qn l k).kids.map (co l)).sum:=Qhs (Qn l k).kids;obtain⟨nd,hndE⟩:=exq (Qn l k);rw[<-hndE]at hnd yU kC hco ku j0 qX;have jW:=Q11 nd.b;have jR:=Q11 out;have jd:=Q2w nd.kids;clear em;with_reducible refine cv4 Q5p (Q3 l) (Q2 out) (Q9 (st'++[k])) ?_
   have em:=hm.eq
   repeat' first
    |(with_reducible refine And.intro (fun hx=>absurd hx (by first|(try simp[std,S1,nj,jV,kB,jS,vk,hnd,Node.av,qO,jU,jW,jR,jd])<;>omega|omega)) (fun _=>?_))
    |(with_reducible refine And.intro (fun _=>?_) (fun hx=>absurd hx (by first|(try simp[std,S1,nj,jV,kB,jS,vk,hnd,Node.av,qO,jU,jW,jR,jd])<;>omega|omega)))
    |(with_reducible refine And.intro (by first|(try simp[std,S1,nj,jV,kB,jS,vk,hnd,Node.av,qO,jU,jW,jR,jd])<;>omega|omega) ?_)
    |(with_reducible refine zA ?_ ?_)
    |(with_reducible intro hb)
   obtain⟨nk,nl⟩:=QE nd.kids;refine Q1h (Qfe Q5p) (Int) (fun j=>⟨[(0,.ref [.slc 6 (Q3 l)]),(5,.row 0 0),(6,.row 1 0),(7,.box 2 0),(8,.val (.int .i64 j))],[.row 5 1 false 0 (Q2 (out++nd.b)),.row 3 1 false 0 (Q9 (st'++kS l (nd.kids.drop (j+1).toNat))),.box [.val (.int .i64 nd.kind),.val (.int .i64 nd.width),.val (.int .i64 nd.count),.val (.bool nd.leaf),.slc 1 (Q2 nd.b),.slc 1 (Q9 nd.kids)]]⟩) (fun j=>-1<=j/\j<nk) (fun j=>(j+1).toNat) (nk-1) ?_ ?_ ?_
   ·have:=nl.eq
    omega
   ·have en:=nl.eq
    refine⟨[some 0,some 1,some 2],_,rfl,?_⟩;have e1:nd.kids.drop (nk-1+1).toNat=[]:=List.drop_eq_nil_of_le (by omega)
    simp[Qe,lk,std,nj,jV,kB,jS,vk,hnd,Node.av,AV.cells,intOf,Q5y,Q2x,qO,jU,jd,en,e1];exact⟨by simp[Q2],by simp[kS]⟩
   ·rintro j ⟨yB,zg⟩
    have en:=nl.eq;rcases Int.lt_or_eq_of_le yB with jA|j6
    ·have yH:0<=j:=by omega
     have zE:j.toNat<nd.kids.length:=by omega
     have jV:=Q2T (l:=nd.kids) yH (by omega)
     have vW:nd.kids.drop j.toNat=nd.kids[j.toNat]?.getD 0::nd.kids.drop (j+1).toNat:=by
      rw[List.drop_eq_getElem_cons zE,show(j+1).toNat=j.toNat+1 by omega]
      simp[zE]
     have hq:=kC (nd.kids[j.toNat]?.getD 0) (by simp[zE])
     obtain⟨q,hqE⟩:=exq (nd.kids[j.toNat]?.getD 0);rw[<-hqE]at jV vW hq;have gC:q<(l.length:Int):=by omega
     have qT:=Q8m hq.1 gC
     have np:kS l (nd.kids.drop j.toNat)=kS l (nd.kids.drop (j+1).toNat)++(if 0<(Qn l q).width then [q]else []):=by
      rw[vW,kS,filter_cons];by_cases h:0<Q1c l q
      ·have h':0<(Qn l q).width:=h
       simp[h,h',kS]
      ·have h':¬0<(Qn l q).width:=h
       simp[h,h',kS]
     have hsl2:(st'++kS l (nd.kids.drop (j+1).toNat)).length<=1000000:=by
      have h1:(kS l (nd.kids.drop (j+1).toNat)).length<=nd.kids.length:=by
       rw[kS,List.length_reverse];refine Nat.le_trans (List.length_filter_le _ _) ?_;rw[List.length_drop];omega
      rw[List.length_append];omega
     have hol2:=Q11 (out++nd.b);have vB:=Q2w (st'++kS l (nd.kids.drop (j+1).toNat));obtain⟨st2,gY⟩:=exq (st'++kS l (nd.kids.drop (j+1).toNat));rw[<-gY]at hsl2 vB ⊢;obtain⟨out2,yy⟩:=exq (out++nd.b);rw[<-yy]at hol2 ⊢;clear en em;with_reducible refine cv6 Q5p (Q3 l) (Q2 out2) (Q9 st2) (Q2 nd.b) (Q9 nd.kids) ?_
     have em:=hm.eq;have en:=nl.eq;replace gC:q<(l.length:Int):=gC
     repeat' first
      |(with_reducible refine And.intro (fun hx=>absurd hx (by first|(try simp[std,S1,jV,vk,qT,Node.av,hq.1,gC,yH,jd,vB])<;>omega|omega)) (fun _=>?_))
      |(with_reducible refine And.intro (fun _=>?_) (fun hx=>absurd hx (by first|(try simp[std,S1,jV,vk,qT,Node.av,hq.1,gC,yH,jd,vB])<;>omega|omega)))
      |(with_reducible refine And.intro (by first|(try simp[std,S1,jV,vk,qT,Node.av,hq.1,gC,yH,jd,vB])<;>omega|omega) ?_)
      |(with_reducible refine zA ?_ ?_)
      |(with_reducible intro hb)
     ·have ch:0<(Qn l q).width:=by simpa[std,AV.cells,intOf,Q2x,jV,vk,qT,Node.av,hq.1,gC]using hb
      rw[if_pos ch]at np;refine⟨j-1,⟨by omega,by omega⟩,by omega,[some 0,some 1,some 2],_,rfl,?_⟩
      have e2:st'++kS l (nd.kids.drop (j-1+1).toNat)=st2++[q]:=by
       rw[show j-1+1=j by omega,np,<-append_assoc,<-gY]
      rw[e2];simp[Qe,lk,std,AV.cells,intOf,Q2x,jV,vk,qT,Node.av,hq.1,gC,yy,Q4T,Qey]
     ·have ch:¬0<(Qn l q).width:=by simpa[std,AV.cells,intOf,Q2x,jV,vk,qT,Node.av,hq.1,gC]using hb
      rw[if_neg ch,List.append_nil]at np;refine⟨j-1,⟨by omega,by omega⟩,by omega,[some 0,some 1,some 2],_,rfl,?_⟩
      have e2:st'++kS l (nd.kids.drop (j-1+1).toNat)=st2:=by
       rw[show j-1+1=j by omega,np,<-gY]
      rw[e2];simp[Qe,lk,std,AV.cells,intOf,Q2x,jV,vk,qT,Node.av,hq.1,gC,yy]
    ·subst j6
     rw[show(-1+1:Int).toNat=0 from rfl,List.drop_zero]
     have xx:(out++nd.b)++prS l (st'++kS l nd.kids)=pr l n:=by
      rw[yU,prS,List.reverse_append,List.flatMap_append,prS];simp only[append_assoc];congr 2
      rw[kS,List.reverse_reverse];congr 1
      have key:∀ks:List Int,(∀q∈ks,0<=q/\q<m)->(ks.filter fun k=>decide (0<Q1c l k)).flatMap (pr l)=ks.flatMap (pr l):=by
       intro ks;induction ks with
       |nil=>intro _;rfl
       |cons q r ih =>
        intro h;have hr:=ih (fun q hq=>h q (List.mem_cons_of_mem _ hq))
        rw[filter_cons,List.flatMap_cons,<-hr];by_cases hq:0<Q1c l q
        ·simp[hq]
        ·have h1:=h q (mem_cons_self ..)
         have h2:=hwd q h1.1 (by have:=hm.eq;omega)
         have h3:pr l q=[]:=by
          have:(pr l q).length=0:=by
           have h4:¬0<(Qn l q).width:=hq;omega
          exact List.eq_nil_of_length_eq_zero this
         simp[hq,h3]
      exact key nd.kids kC
     have hT2:∀q∈st'++kS l nd.kids,0<=q/\q<m:=by
      intro q hq;rcases List.mem_append.1 hq with h|h
      ·exact jb q (List.mem_append_left _ h)
      ·rw[kS,List.mem_reverse]at h
       exact kC q (List.mem_filter.1 h).1
     have hT3:coS l (st'++kS l nd.kids)<coS l (st'++[k]):=by
      rw[ku,coS,map_append,sum_append]
      have h1:((kS l nd.kids).map (co l)).sum<=(nd.kids.map (co l)).sum:=by
       rw[kS,List.map_reverse,List.sum_reverse];generalize nd.kids=ks;induction ks with
       |nil=>simp
       |cons q r ih =>
        rw[filter_cons];split<;>simp only[map_cons,sum_cons]<;>omega
      have h2:(st'.map (co l)).sum=coS l st':=rfl;omega
     obtain⟨st2,gY⟩:=exq (st'++kS l nd.kids);obtain⟨out2,yy⟩:=exq (out++nd.b);rw[<-gY]at xx hT2 hT3 ⊢;rw[<-yy]at xx ⊢;clear en em;with_reducible refine cv6 Q5p (Q3 l) (Q2 out2) (Q9 st2) (Q2 nd.b) (Q9 nd.kids) ?_
     with_reducible repeat' first|refine aU vk ?_|refine zA ?_ ?_|intro hb
     rw[if_pos trivial];refine⟨(out2,st2),⟨xx,hT2,by simp only;omega⟩,hT3,[some 0,some 1],_,rfl,?_⟩
     simp[Qe,lk]
