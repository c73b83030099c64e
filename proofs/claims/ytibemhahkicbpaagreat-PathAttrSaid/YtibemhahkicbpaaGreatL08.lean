/- Lemmas, conditions told -/
import Derived.Test.YtibemhahkicbpaaGreatL07
import Derived.Laws.Sem
import Derived.Test.YtibemhahkicbpaaGreatProg
import Derived.Shelf.Abstract
set_option maxRecDepth 99999
set_option maxHeartbeats 0
set_option linter.unusedSimpArgs false
set_option linter.unusedVariables false
namespace Go.Proofs.YtibemhahkicbpaaGreat
open List(map_cons all_eq_true mem_range all_cons getElem?_eq_getElem)
section
open Go.RowKit Go.Lib
def ent:Nat->List AV->List (Nat×AV)
 |_,[]=>[]
 |k,x::r=>(k,x)::ent (k+1) r
theorem QfN(t:Nat):∀(l:List AV)(k:Nat),lk t (ent k l)=if k<=t then l.getD (t-k) .dead else .dead
 | [],k=>by simp[ent,lk]
 |x::r,k=>by
  simp only[ent,lk];by_cases h:t=k
  ·subst h;simp
  ·rw[if_neg h,QfN t r (k+1)]
   by_cases h2:k<=t
   ·have e:t-k=(t-(k+1))+1:=by omega
    rw[if_pos (by omega),if_pos h2,e,List.getD_cons_succ]
   ·rw[if_neg (by omega),if_neg h2]
def QcR(tmps:Array Value)(rv:ResultVar):Sem Value:=match rv with
 |.tmp t=>pure (tmps.getD t undef)
 |.cell a t=>do loadVar t (<-asAddr (tmps.getD a undef))
theorem Qgg(fn:Func)(tmps:Array Value):results fn tmps=(do let vs <-fn.results.mapM (QcR tmps);pure (if h:vs.size=1 then vs[0]else .tuple vs)):=by
 unfold results;congr 1
section
variable {P:Program}{ty:Tys}{w0 w:World}{g0 g:Gh}{o0:List Ob}{N:Nat}{s:St}{a:Act}
theorem Qmj(hT:TyOk P ty)(M:Mem w g s.ob)(hS:Q1A w g s a){rv:ResultVar}{x:AV}(h:Q9W ty s rv=some x) :
  ∃v,Sem.run P (QcR a.tmps rv) w=.ok v w/\ARel w g s.ob v x:=by
 cases rv with
 |tmp t =>
  refine⟨a.tmps.getD t undef,rfl,?_⟩;have hr:=hS t;simp only[Q9W]at h;split at h
  ·rename_i b hb
   obtain rfl:AV.val (.bool b)=x:=by simpa using h
   rw[hb]at hr;have e:a.tmps.getD t undef=.bool b:=hr;rw[e];exact PRel.to (.val _ rfl)
  ·cases h
  ·obtain rfl:lk t s.tm=x:=by simpa using h
   exact hr
 |cell b T =>
  simp only[Q9W]at h;split at h
  ·rename_i cs hcs
   by_cases hk:(Q5 T ty).ok=true/\(if(Q5 T ty).agg then(Q5 T ty).size else 1)<=cs.length
   ·rw[if_pos hk]at h
    cases h;obtain⟨bl,of,hv,hc⟩:=Q99 M (hS b) hcs;obtain⟨v,h1,h2⟩:=Q7M (g:=g) hT hk.1 hc hk.2;refine⟨v,?_,h2⟩;have h3:=h1 w (LeB.refl w);show(asAddr (a.tmps.getD b undef) >>= fun p=>loadVar T p).run P w=_
    rw[hv];simpa[asAddr]using h3
   ·rw[if_neg hk]at h;cases h
  ·cases h
theorem QdR(hT:TyOk P ty)(M:Mem w g s.ob)(hS:Q1A w g s a):∀(rs:List ResultVar)(xs:List AV),Q68 (rs.map (Q9W ty s))=some xs ->
  ∃vs,Sem.run P (rs.mapM (QcR a.tmps)) w=.ok vs w/\vs.length=xs.length /\
   ∀(j:Nat) v x,vs[j]?=some v->xs[j]?=some x->ARel w g s.ob v x
 | [],xs,h=>by
  obtain rfl:[]=xs:=by simpa[Q68]using h
  exact⟨[],rfl,rfl,fun j v x h=>by simp at h⟩
 |rv::rs,xs,h=>by
  cases h1:Q9W ty s rv with
  |none=>simp[Q68,h1]at h
  |some x =>
   simp only[map_cons,h1,Q68,Option.map_eq_some_iff]at h;obtain⟨ys,h2,rfl⟩:=h;obtain⟨v,hv,hr⟩:=Qmj hT M hS h1;obtain⟨vs,p6,hl,jo⟩:=QdR hT M hS rs ys h2;refine⟨v::vs,?_,by simp[hl],fun j y u hy hu=>?_⟩
   ·simp only[List.mapM_cons,Sem.run_bind,hv,p6,Result.andThen_ok,Sem.run_pure]
   ·cases j with
    |zero =>
     obtain rfl:v=y:=by simpa using hy
     obtain rfl:x=u:=by simpa using hu
     exact hr
    |succ j=>exact jo j y u (by simpa using hy) (by simpa using hu)
theorem Qd9(hT:TyOk P ty){keep:Bool}{fn:Func}(hs:Sim w0 g0 o0 N s a w){res:AV}{ob':List Ob}(h:Q86 std ty keep fn.results.toList s=some (res,ob')) :
  ∃v g',(results fn a.tmps).run P w=.ok v w/\Mem w g' ob'/\ARel w g' ob' v res/\Step w0 g0 o0 w g' ob':=by
 obtain⟨g,M,hS,h0⟩:=hs.rel;unfold Q86 at h;cases hx:Q68 (fn.results.toList.map (Q9W ty s))with
 |none=>rw[hx]at h;cases h
 |some xs =>
  rw[hx]at h;obtain⟨vs,p6,hl,jo⟩:=QdR hT M hS _ _ hx
  have q5:(results fn a.tmps).run P w=.ok (if h:vs.toArray.size=1 then vs.toArray[0]else .tuple vs.toArray) w:=by
   rw[Qgg,Array.mapM_eq_mapM_toList,Sem.run_bind]
   have:(List.toArray <$> (fn.results.toList.mapM (QcR a.tmps))).run P w=.ok vs.toArray w:=by
    rw[map_eq_pure_bind,Sem.run_bind,p6];rfl
   rw[this];rfl
  have many:xs.length≠1->(Q4r (frz std keep 9) s.ob xs).map (fun(ys,ob)=>(AV.tup ys,ob))=some (res,ob') ->
    ∃v g',(results fn a.tmps).run P w=.ok v w/\Mem w g' ob'/\ARel w g' ob' v res/\Step w0 g0 o0 w g' ob':=fun jQ h=>by
   simp only[Option.map_eq_some_iff]at h;obtain⟨⟨ys,ob1⟩,h1,h2⟩:=h;cases h2;have hL:Q4X w g s.ob vs xs:=⟨hl,fun j v x hv hx=>(jo j v x hv hx).to1 (Q74 _ _ _ _ h1 _ (List.mem_of_getElem? hx))⟩
   obtain⟨g',M',E',R',L'⟩:=Qmd _ _ g s.ob ys ob1 M hL h1;refine⟨_,g',q5,M',?_,h0.trans (Step.ghost E' L')⟩;have:¬vs.toArray.size=1:=by simp;omega
   rw[dif_neg this];exact⟨vs.toArray,rfl,by simpa using R'.1,fun j y u hy hu=>R'.2 j y u (by simpa using hy) hu⟩
  cases xs with
  |nil=>exact many (by simp) h
  |cons x r =>
   cases r with
   |cons x' r'=>exact many (by simp) h
   |nil =>
    obtain⟨v,rfl⟩:∃v,vs=[v]:=List.length_eq_one_iff.1 (by simpa using hl)
    obtain⟨g',M',E',R',L'⟩:=Qk0 M (jo 0 v x rfl rfl) h;exact⟨v,g',q5,M',R',h0.trans (Step.ghost E' L')⟩
end
def leC(x y:AV):Prop:=x=y\/(x=.val (.slice none 0 0)/\∃sz,y=.slc sz [])\/(y=.opt x/\Q56 x)\/x=.opt y
def leL:List AV->List AV->Prop
 | [],[]=>True
 |x::r,y::r'=>leC x y/\leL r r'
 |_,_=>False
def QeH:AV->AV->Prop
 |.agg xs,.agg ys=>leL xs ys
 |.agg _,_=>False
 |.tup _,_=>False
 |_,.agg _=>False
 |_,.tup _=>False
 |x,y=>leC x y
def leT:List AV->List AV->Prop
 | [],[]=>True
 |x::r,y::r'=>QeH x y/\leT r r'
 |_,_=>False
def leA(x y:AV):Prop:=match x with
 |.tup xs=>(match y with
  |.tup ys=>leT xs ys
  |_=>False)
 |x=>QeH x y
section
variable {w:World}{g:Gh}{ob:List Ob}
theorem QgO{v:Value}{x y:AV}(h:ARel0 w g ob v x)(hl:leC x y):ARel0 w g ob v y:=by
 rcases hl with rfl|⟨rfl,sz,rfl⟩|⟨rfl,hp⟩|rfl
 ·exact h
 ·cases(show v=_ from ARel.valEq (g:=g) (w:=w) (ob:=ob) h)
  exact PRel.nil sz
 ·have:PRel w g.A v x:=by
   cases x with
   |val _=>exact h
   |ref _=>exact h
   |opt _=>exact h
   |_=>exact(show False from hp).elim
  exact PRel.opt _ _ this hp
 ·exact(PRel.ofOpt (show PRel w g.A v (.opt y) from h)).1.to0
theorem Qh9:∀{vs:List Value}{xs ys:List AV},ARelC w g ob vs xs->leL xs ys->ARelC w g ob vs ys
 |vs,[],[],h,_=>h
 |_,[],_::_,_,hl=>hl.elim
 |_,_::_,[],_,hl=>hl.elim
 | [],x::r,y::r',h,_=>absurd h.1 (by simp)
 |v::vs,x::r,y::r',h,hl=>by
  have h1:=h.2 0 v x rfl rfl;have h2:ARelC w g ob vs r':=Qh9 (xs:=r) ⟨by simpa using h.1,fun j a b ha hb=>h.2 (j+1) a b (by simpa using ha) (by simpa using hb)⟩ hl.2
  refine⟨by simp[h2.1],fun j a b ha hb=>?_⟩
  cases j with
  |zero =>
   obtain rfl:v=a:=by simpa using ha
   obtain rfl:y=b:=by simpa using hb
   exact⟨QgO h1.1 hl.1,h1.2⟩
  |succ j=>exact h2.2 j a b (by simpa using ha) (by simpa using hb)
theorem ARel1.to0{v:Value}{x:AV}(h:ARel1 w g ob v x)(hn:∀cs,x≠.agg cs):ARel0 w g ob v x:=by cases x<;>first|exact h|exact absurd rfl (hn _)
theorem Qay{v:Value}{x y:AV}(h:ARel1 w g ob v x)(hl:QeH x y):ARel1 w g ob v y:=by
 cases x with
 |agg xs =>
  cases y with
  |agg ys=>obtain⟨vs,rfl,h⟩:=h;exact⟨vs,rfl,Qh9 h hl⟩
  |_=>exact(show False from hl).elim
 |tup _=>exact(show False from hl).elim
 |_=>cases y<;>first|exact(show False from hl).elim|exact(QgO (h.to0 (fun cs h=>by cases h)) hl).to1
theorem Q9I{v:Value}{x y:AV}(h:ARel w g ob v x)(hl:leA x y):ARel w g ob v y:=by
 cases x with
 |tup xs =>
  cases y with
  |tup ys =>
   obtain⟨vs,rfl,h1,h2⟩:=h
   have key:∀(xs ys:List AV)(vs:List Value),leT xs ys->vs.length=xs.length->(∀(j:Nat) y u,vs[j]?=some y->xs[j]?=some u->ARel1 w g ob y u)->vs.length=ys.length/\∀(j:Nat) y u,vs[j]?=some y->ys[j]?=some u->ARel1 w g ob y u:=by
    intro xs;induction xs with
    |nil =>
     intro ys vs hl hn hr;cases ys with
     |nil=>exact⟨hn,hr⟩
     |cons _ _=>exact(show False from hl).elim
    |cons x r ih =>
     intro ys vs hl hn hr;cases ys with
     |nil=>exact(show False from hl).elim
     |cons y r' =>
      cases vs with
      |nil=>simp at hn
      |cons v vs =>
       obtain⟨h3,h4⟩:=ih r' vs hl.2 (by simpa using hn) (fun j a b ha hb=>hr (j+1) a b (by simpa using ha) (by simpa using hb))
       refine⟨by simp[h3],fun j a b ha hb=>?_⟩
       cases j with
       |zero =>
        obtain rfl:v=a:=by simpa using ha
        obtain rfl:y=b:=by simpa using hb
        exact Qay (hr 0 v x rfl rfl) hl.1
       |succ j=>exact h4 j a b (by simpa using ha) (by simpa using hb)
   obtain⟨h3,h4⟩:=key xs ys vs.toList hl (by simpa using h1) (fun j a b ha hb=>h2 j a b (by simpa using ha) hb)
   exact⟨vs,rfl,by simpa using h3,fun j a b ha hb=>h4 j a b (by simpa using ha) hb⟩
  |_=>exact(show False from hl).elim
 |_=>exact(Qay (h.to1' (fun xs h=>by cases h)) (show QeH _ y from hl)).to
end
def Qch(ob ob':List Ob)(ρ:List (Option Nat)):List AV->List AV->Option Eqs
 | [],[]=>some []
 |x::r,x'::r'=>both (QbM ob ob' ρ x x') (Qch ob ob' ρ r r')
 |_,_=>none
def QkD(ob ob':List Ob)(ρ:List (Option Nat))(x x':AV):Option Eqs:=match x with
 |.tup xs=>(match x' with
  |.tup ys=>Qch ob ob' ρ xs ys
  |_=>none)
 |x=>QbM ob ob' ρ x x'
section
variable {w w0:World}{g g0:Gh}{ob ob' o0:List Ob}{ρ:List (Option Nat)}
theorem QfQ{x x':AV}{l:Eqs}(he:QbM ob ob' ρ x x'=some l):∀xs,x'≠.tup xs:=by
 rintro xs rfl;cases he
theorem Q8N(hF:Fits ob ob' ρ)(ho:Q32 ρ=true):∀(xs ys:List AV)(vs:List Value)(l:Eqs),Qch ob ob' ρ xs ys=some l->Qe l->vs.length=xs.length->(∀(j:Nat) y u,vs[j]?=some y->xs[j]?=some u->ARel1 w g ob y u) ->
  vs.length=ys.length/\∀(j:Nat) y u,vs[j]?=some y->ys[j]?=some u->ARel1 w (g.ren ρ) ob' y u
 | [],[],vs,_,_,_,hn,_=>⟨hn,fun j y u _ h=>by simp at h⟩
 | [],_::_,_,_,h,_,_,_=>by cases h
 |_::_,[],_,_,h,_,_,_=>by cases h
 |x::r,y::r',vs,l,h,hl,hn,hr=>by
  cases vs with
  |nil=>simp at hn
  |cons v vs =>
   obtain⟨⟨l1,h1,yi⟩,l2,h2,z6⟩:=Q37 h hl;obtain⟨h3,h4⟩:=Q8N hF ho r r' vs l2 h2 z6 (by simpa using hn) (fun j a b ha hb=>hr (j+1) a b (by simpa using ha) (by simpa using hb))
   refine⟨by simp[h3],fun j a b ha hb=>?_⟩
   cases j with
   |zero =>
    obtain rfl:v=a:=by simpa using ha
    obtain rfl:y=b:=by simpa using hb
    exact(Q88 hF ho (hr 0 v x rfl rfl).to h1 yi).to1' (QfQ h1)
   |succ j=>exact h4 j a b (by simpa using ha) (by simpa using hb)
theorem QaI(hF:Fits ob ob' ρ)(ho:Q32 ρ=true){v:Value}{x x':AV}{l:Eqs}(h:ARel w g ob v x)(he:QkD ob ob' ρ x x'=some l)(hl:Qe l):ARel w (g.ren ρ) ob' v x':=by
 cases x with
 |tup xs =>
  cases x' with
  |tup ys =>
   obtain⟨vs,rfl,h1,h2⟩:=h;obtain⟨h3,h4⟩:=Q8N hF ho xs ys vs.toList l he hl (by simpa using h1) (fun j a b ha hb=>h2 j a b (by simpa using ha) hb)
   exact⟨vs,rfl,by simpa using h3,fun j a b ha hb=>h4 j a b (by simpa using ha) hb⟩
  |_=>cases he
 |_=>exact Q88 hF ho h he hl
theorem QeL(hF:Fits ob ob' ρ)(ho:Q32 ρ=true)(hh:Qho o0 ob ob' ρ=true)(hn:o0.length<=ρ.length)(h0:Step w0 g0 o0 w g ob):Step w0 g0 o0 w (g.ren ρ) ob':=by
 have head:∀j,j<o0.length->ρ[j]?=some (some j):=fun j hj=>by
  have:=all_eq_true.1 hh j (mem_range.2 hj)
  simp only[Bool.and_eq_true,beq_iff_eq]at this;exact this.1
 refine⟨h0.os,h0.tape,h0.output,h0.size,h0.keep,fun b id hG=>?_,h0.imm,⟨h0.ext.A,fun id hid=>?_,fun id hb=>?_,fun id hb=>?_,fun id et sz fz e xs hr=>?_,fun b id hG hs=>?_⟩,?_⟩
 ·obtain⟨i,_,h3⟩:=Q39 hG
  exact h0.own b i h3
 ·rw[Q3r (head id hid)];exact h0.ext.loc id hid
 ·exact hF.isB (head id (Q4o hb)) (h0.ext.isb id hb)
 ·exact hF.isI (head id (Q5g hb)) (h0.ext.isi id hb)
 ·have hid:=Qa hr
  obtain⟨fz1,e1,xs1,h3,h4,h5⟩:=h0.ext.row id et sz fz e xs hr;obtain⟨fz2,e2,h6,_⟩:=hF.row (head id hid) h3
  have he:e1=e2\/e<e2:=by
   have:=all_eq_true.1 hh id (mem_range.2 hid)
   simp only[Bool.and_eq_true,hr,h3,h6,beq_iff_eq,Bool.or_eq_true,decide_eq_true_eq]at this;exact this.2
  rcases he with he|he
  rotate_left
  ·exact⟨fz2,e2,xs1,h6,by omega,fun qq=>by omega⟩
  subst he;exact⟨fz2,e1,xs1,h6,h4,fun qq=>(h5 qq).turn (fun b hb=>⟨hb,rfl⟩) (fun b _ hb=>Q6i ho (head id hid) hb) rfl⟩
 ·obtain⟨et,sz,fz,fz',e,xs,xs',h3,h4⟩:=hs
  have hid:=Qa h3;obtain⟨fz1,e1,xs1,h5,h6,h7⟩:=h0.ext.row id et sz fz e xs h3;obtain⟨fz2,e2,h8,_⟩:=hF.row (head id hid) h5;rw[h8]at h4;obtain⟨rfl,rfl,rfl⟩:fz2=fz'/\e2=e/\xs1=xs':=by simpa using h4
  have he:e1=e2:=by
   have:=all_eq_true.1 hh id (mem_range.2 hid)
   simp only[Bool.and_eq_true,h3,h5,h8,beq_iff_eq,Bool.or_eq_true,decide_eq_true_eq]at this;omega
  subst he;obtain⟨h9,qh⟩:=h0.ext.sub b id hG ⟨_,_,_,_,_,_,_,h3,h5⟩;have yF:=Q4F (g:=g) ho (head id hid) ((h7 rfl).G hG);exact⟨yF.trans h9,qh⟩
 ·rw[<-hF.1];exact hn
end
def FinOk(o0:List Ob)(res:AV)(ob':List Ob)(_:Ex)(s:St):Prop:=match s.tm with
 | [(_,r)]=>∃ρ r' l,Q32 ρ=true/\Qho o0 s.ob ob' ρ=true/\o0.length<=ρ.length/\both (QkD s.ob ob' ρ r r') (Q9j s.ob ob' ρ ρ ob')=some l/\Qe l/\leA r' res
 |_=>False
def Qq5:AV->Bool
 |.tup xs=>xs.all AV.pur
 |x=>x.pur
theorem Q5S{ob:List Ob}{ρ:List (Option Nat)}{x:AV}(h:x.pur0=true):∃l,Q5Z ob [] ρ x x=some l/\Qe l:=by
 cases x with
 |val v=>cases v<;>exact⟨_,rfl,rfl,trivial⟩
 |slc _ _=>exact⟨_,rfl,rfl,trivial⟩
 |ref _=>exact⟨_,rfl,rfl,trivial⟩
 |opt _=>exact⟨_,rfl,rfl,trivial⟩
 |_=>cases h
theorem Q4K{ob:List Ob}{ρ:List (Option Nat)}{x:AV}(h:x.pur=true):∃l,QbM ob [] ρ x x=some l/\Qe l:=by
 cases x with
 |agg cs =>
  have key:∀cs:List AV,cs.all AV.pur0=true->∃l,Qdq ob [] ρ cs cs=some l/\Qe l:=by
   intro cs;induction cs with
   |nil=>intro _;exact⟨[],rfl,trivial⟩
   |cons x r ih =>
    intro h;simp only[all_cons,Bool.and_eq_true]at h;obtain⟨l1,h1,h2⟩:=Q5S (ob:=ob) (ρ:=ρ) h.1;obtain⟨l2,h3,h4⟩:=ih h.2;exact⟨l1++l2,by simp only[Qdq,h1,h3,both],Q3T.2 ⟨h2,h4⟩⟩
  exact key cs h
 |val v=>exact Q5S (ob:=ob) (ρ:=ρ) (x:=.val v) h
 |slc a b=>exact Q5S (ob:=ob) (ρ:=ρ) (x:=.slc a b) h
 |ref a=>exact Q5S (ob:=ob) (ρ:=ρ) (x:=.ref a) h
 |opt a=>exact Q5S (ob:=ob) (ρ:=ρ) (x:=.opt a) h
 |_=>cases h
theorem FinOk.pure{res r:AV}{k:Nat}{ob:List Ob}{e:Ex}(hp:Qq5 r=true)(hl:leA r res):FinOk [] res [] e ⟨[(k,r)],ob⟩:=by
 have hr:∃l,QkD ob [] [] r r=some l/\Qe l:=by
  cases r with
  |tup xs =>
   have key:∀xs:List AV,xs.all AV.pur=true->∃l,Qch ob [] [] xs xs=some l/\Qe l:=by
    intro xs;induction xs with
    |nil=>intro _;exact⟨[],rfl,trivial⟩
    |cons x r ih =>
     intro h;simp only[all_cons,Bool.and_eq_true]at h;obtain⟨l1,h1,h2⟩:=Q4K (ob:=ob) (ρ:=[]) h.1;obtain⟨l2,h3,h4⟩:=ih h.2;exact⟨l1++l2,by simp only[Qch,h1,h3,both],Q3T.2 ⟨h2,h4⟩⟩
   exact key xs hp
  |val a=>exact Q4K (ob:=ob) (ρ:=[]) (x:=.val a) hp
  |slc a b=>exact Q4K (ob:=ob) (ρ:=[]) (x:=.slc a b) hp
  |agg a=>exact Q4K (ob:=ob) (ρ:=[]) (x:=.agg a) hp
  |ref a=>exact Q4K (ob:=ob) (ρ:=[]) (x:=.ref a) hp
  |opt a=>exact Q4K (ob:=ob) (ρ:=[]) (x:=.opt a) hp
  |_=>cases hp
 obtain⟨l,h1,h2⟩:=hr;exact⟨[],r,l,rfl,rfl,Nat.le_refl _,by simp only[h1,Q9j,both,List.append_nil],h2,hl⟩
theorem Qcg{P:Program}{ty:Tys}(keep:Bool)(hT:TyOk P ty)(hm:P.follows .mixedOrders=true){cs:Nat->List AV->List Ob->Option (AV×List Ob)}{ord:Nat->OT}
  {f:Nat} {fn:Func} {c:Code} {args:List AV} {ob:List Ob} {res:AV} {ob':List Ob} (hf:P.funcs[f]?=some fn) (hb:fn.body=some c) (he:∀vs w,(callFunc f vs).run P w=.ok (.enter f vs) w)
  (hn:args.length<=fn.ntmps) (hd:Q4p fn.ntmps c=true) (ho:Q40 .any ty ord c=true)
  (h:∀w0 g0,(Q4 std ty cs ord c (Q53 std ty keep fn.results.toList) ⟨ent 0 args,ob⟩).ok P w0 g0 ob fn.ntmps (FinOk ob res ob')):BCall P f args ob res ob':=by
 refine⟨he,fun w g vs M hL=>calls_of_wp hf hb ?_⟩
 have jE:vs.length=args.length:=hL.1;refine Q5j (w0:=w) (g0:=g) (o0:=ob) (N:=fn.ntmps) (Q:=FinOk ob res ob') hT hm c _ _ ⟨ent 0 args,ob⟩ _ w hd ho (fun c a d v w h=>h) (fun e s a w' hs hq=>?_) ⟨rfl,?_,g,M,fun t=>?_,Step.refl⟩ (h w g)
 ·have fin:∀{T:Tree},T=(match Q86 std ty keep fn.results.toList s with|some (r,ob)=>.leaf .ret ⟨[(0,r)],ob⟩|none=>.stuck 71)->T.ok P w g ob fn.ntmps (FinOk ob res ob') ->
    a.defers=[]/\∃v,(results fn a.tmps).run P w'=.ok v w'/\∃v' g',Ending.returned v=.returned v'/\Mem w' g' ob'/\ARel w' g' ob' v' res/\Step w g ob w' g' ob':=fun nZ hq=>by
   cases hr:Q86 std ty keep fn.results.toList s with
   |none=>rw[hr]at nZ;subst nZ;exact(show False from hq).elim
   |some q =>
    obtain⟨r,ob1⟩:=q;rw[hr]at nZ;subst nZ;obtain⟨ρ,r',l,h1,h2,h3,h4,h5,h6⟩:=(show FinOk ob res ob' .ret ⟨[(0,r)],ob1⟩ from hq);obtain⟨⟨l1,e1,a1⟩,l2,e2,a2⟩:=Q37 h4 h5;have hF:Fits ob1 ob' ρ:=Q4M _ _ _ e2 a2;obtain⟨v,g',k1,k2,k3,k4⟩:=Qd9 hT hs hr;exact⟨hs.defers,v,k1,v,g'.ren ρ,rfl,k2.ren hF h1,Q9I (QaI hF h1 k3 e1 a1) h6,QeL hF h1 h2 h3 k4⟩
  cases e with
  |normal=>exact fin rfl hq
  |ret=>exact fin rfl hq
  |exit i=>exact(show False from hq).elim
 ·simp;omega
 ·show ARel w g ob _ (lk t (ent 0 args))
  rw[QfN];simp only[Nat.zero_le,if_true,Nat.sub_zero];by_cases ht:t<args.length
  ·rw[List.getD_eq_getElem?_getD,getElem?_eq_getElem ht,Option.getD_some]
   have e:(vs.toArray++Array.replicate (fn.ntmps-vs.toArray.size) undef).getD t undef=vs[t]'(by omega):=by
    rw[Array.getD_eq_getD_getElem?,Array.getElem?_append_left (by simp;omega)]
    simp[show t<vs.length by omega]
   rw[e];exact(hL.2 t _ _ (getElem?_eq_getElem (by omega)) (getElem?_eq_getElem ht)).to
  ·rw[List.getD_eq_getElem?_getD,List.getElem?_eq_none (by omega)]
   trivial
theorem QlH{P:Program}{ty:Tys}(hT:TyOk P ty)(hm:P.follows .mixedOrders=true){cs:Nat->List AV->List Ob->Option (AV×List Ob)}{ord:Nat->OT}
  {f:Nat} {fn:Func} {c:Code} {args:List AV} {ob:List Ob} {res:AV} {ob':List Ob} (hf:P.funcs[f]?=some fn) (hb:fn.body=some c) (he:∀vs w,(callFunc f vs).run P w=.ok (.enter f vs) w)
  (hn:args.length<=fn.ntmps) (hd:Q4p fn.ntmps c=true) (ho:Q40 .any ty ord c=true)
  (h:∀w0 g0,(Q4 std ty cs ord c (Q53 std ty false fn.results.toList) ⟨ent 0 args,ob⟩).ok P w0 g0 ob fn.ntmps (FinOk ob res ob')):BCall P f args ob res ob' :=
 Qcg false hT hm hf hb he hn hd ho h
def tiB(P:Program)(x:TI):Bool:=x.zero.length == x.size&&(x.agg||x.size == 1)&&decide (x.bytes<=140000)&&x.flds.all (fun f=>(P.info? f.2).isSome)&&x.zero.all (·.oneCell')&&x.ok
theorem TiOk.of{P:Program}{t:Nat}{x:TI}(h1:(P.info? t).map (fun i=>(i.size,i.bytes,i.zero.map (·.cells.toList)))=some (x.size,x.bytes,some x.zero))
  (h2:(P.underlying t).map Q2B=some (x.agg,x.elem,x.flds,x.kind,x.sl,x.kd)) (hb:tiB P x=true):TiOk P t x:=by
 simp only[tiB,Bool.and_eq_true,Bool.or_eq_true,beq_iff_eq,decide_eq_true_eq]at hb;obtain⟨⟨⟨⟨⟨b1,b2⟩,b4⟩,b5⟩,b6⟩,b7⟩:=hb;exact⟨h1,h2,b1,fun h=>b2.resolve_left (by rw[h];simp),b4,b5,b6,b7⟩
theorem TyOk.nil{P:Program}:QeQ P []:=fun _ _ h=>by cases h
theorem TyOk.cons{P:Program}{t:Nat}{x:TI}{r:List (Nat×TI)}(h:TiOk P t x)(hr:QeQ P r):QeQ P ((t,x)::r):=fun u y hu=>by
 rcases List.mem_cons.1 hu with h1|h1
 ·cases h1;exact h
 ·exact hr u y h1
section
variable {P:Program}{ty:Tys}{w0 w:World}{g0:Gh}{o0:List Ob}{N:Nat}{s s':St}{a:Act}
theorem Q8B(ρ:List (Option Nat)){l:Eqs}(h:Qod o0 ρ s s'=some l)(hl:Qe l)(hs:Sim w0 g0 o0 N s a w):Sim w0 g0 o0 N s' a w:=by
 unfold Qod at h;split at h
 ·rename_i hk
  obtain⟨ho,hh,hn⟩:=hk;obtain⟨⟨l1,h1,yi⟩,l2,h2,z6⟩:=Q37 h hl;have hF:Fits s.ob s'.ob ρ:=Q4M _ _ _ h2 z6;obtain⟨g,M,hS,h0⟩:=hs.rel
  have head:∀j,j<o0.length->ρ[j]?=some (some j):=fun j hj=>by
   have:=all_eq_true.1 hh j (mem_range.2 hj)
   simp only[Bool.and_eq_true,beq_iff_eq]at this;exact this.1
  refine⟨hs.defers,hs.size,g.ren ρ,M.ren hF ho,fun t=>?_,?_⟩
  ·have:∀(l:List (Nat×AV)) (q:Eqs),Qoj s s' ρ l=some q->Qe q->ARel w (g.ren ρ) s'.ob (a.tmps.getD t undef) (lk t l):=by
    intro l;induction l with
    |nil=>intro _ _ _;trivial
    |cons p r ih =>
     obtain⟨u,x'⟩:=p;intro q hq hql;obtain⟨⟨q1,e1,a1⟩,q2,e2,a2⟩:=Q37 hq hql;show ARel w (g.ren ρ) s'.ob _ (if t=u then x' else lk t r);by_cases e:t=u
     ·subst e
      rw[if_pos rfl];exact Q88 hF ho (hS t) e1 a1
     ·rw[if_neg e];exact ih q2 e2 a2
   exact this _ _ h1 yi
  ·refine⟨h0.os,h0.tape,h0.output,h0.size,h0.keep,fun b id hG=>?_,h0.imm,⟨h0.ext.A,fun id hid=>?_,fun id hb=>?_,fun id hb=>?_,fun id et sz fz e xs hr=>?_,fun b id hG hs=>?_⟩,?_⟩
   ·obtain⟨i,_,h3⟩:=Q39 hG
    exact h0.own b i h3
   ·rw[Q3r (head id hid)];exact h0.ext.loc id hid
   ·exact hF.isB (head id (Q4o hb)) (h0.ext.isb id hb)
   ·exact hF.isI (head id (Q5g hb)) (h0.ext.isi id hb)
   ·have hid:=Qa hr
    obtain⟨fz1,e1,xs1,h3,h4,h5⟩:=h0.ext.row id et sz fz e xs hr;obtain⟨fz2,e2,h6,_⟩:=hF.row (head id hid) h3
    have he:e1=e2\/e<e2:=by
     have:=all_eq_true.1 hh id (mem_range.2 hid)
     simp only[Bool.and_eq_true,hr,h3,h6,beq_iff_eq,Bool.or_eq_true,decide_eq_true_eq]at this;exact this.2
    rcases he with he|he
    rotate_left
    ·exact⟨fz2,e2,xs1,h6,by omega,fun qq=>by omega⟩
    subst he;exact⟨fz2,e1,xs1,h6,h4,fun qq=>(h5 qq).turn (fun b hb=>⟨hb,rfl⟩) (fun b _ hb=>Q6i ho (head id hid) hb) rfl⟩
   ·obtain⟨et,sz,fz,fz',e,xs,xs',h3,h4⟩:=hs
    have hid:=Qa h3;obtain⟨fz1,e1,xs1,h5,h6,h7⟩:=h0.ext.row id et sz fz e xs h3;obtain⟨fz2,e2,h8,_⟩:=hF.row (head id hid) h5;rw[h8]at h4;obtain⟨rfl,rfl,rfl⟩:fz2=fz'/\e2=e/\xs1=xs':=by simpa using h4
    have he:e1=e2:=by
     have:=all_eq_true.1 hh id (mem_range.2 hid)
     simp only[Bool.and_eq_true,h3,h5,h8,beq_iff_eq,Bool.or_eq_true,decide_eq_true_eq]at this;omega
    subst he;obtain⟨h9,qh⟩:=h0.ext.sub b id hG ⟨_,_,_,_,_,_,_,h3,h5⟩;have yF:=Q4F (g:=g) ho (head id hid) ((h7 rfl).G hG);exact⟨yF.trans h9,qh⟩
   ·rw[<-hF.1];exact hn
 ·cases h
end
theorem Qc1(p:Nat->Prop)(h:∃n,p n):∃n,p n/\∀m,p m->n<=m:=by
 obtain⟨n,hn⟩:=h;induction n using Nat.strongRecOn with
 |_ n ih =>
  by_cases h:∃m,m<n/\p m
  ·obtain⟨m,h1,h2⟩:=h
   exact ih m h1 h2
  ·exact⟨n,hn,fun m hm=>Nat.le_of_not_lt fun jA=>h ⟨m,jA,hm⟩⟩
def Qn2(o0:List Ob)(s s':St):Prop:=∃ρ l,Qod o0 ρ s s'=some l/\Qe l
section
variable {P:Program}{ty:Tys}{w0:World}{g0:Gh}{o0:List Ob}{N:Nat}
def Q1{X:Type}(o0:List Ob)(S:X->St)(J:X->Prop)(μ:X->Nat)(x:X)(Q:Ex->St->Prop):Ex->St->Prop
 |.normal,s=>∃x',J x'/\μ x'<μ x/\Qn2 o0 s (S x')
 |e,s=>Q e s
theorem Qcq(hT:TyOk P ty)(hm:P.follows .mixedOrders=true){cs:Nat->List AV->List Ob->Option (AV×List Ob)}{ord:Nat->OT}{c:Code}(hd:Q4p N c=true)(ho:Q40 .any ty ord c=true)
  {X:Type} (S:X->St) (J:X->Prop) (μ:X->Nat) {Q:Ex->St->Prop} {s:St} (x0:X) (h0:J x0) (hS:Qn2 o0 s (S x0))
  (round:∀x,J x->(Q4 std ty cs ord c (fun e s=>.leaf e s) (S x)).ok P w0 g0 o0 N (Q1 o0 S J μ x Q)):WP P w0 g0 o0 N (.loop c) Q s:=by
 intro a w hs;obtain⟨ρ,l,hl,hE⟩:=hS;let I:Act->World->Prop:=fun a w=>∃x,J x/\Sim w0 g0 o0 N (S x) a w
 let pm:Act->World->Nat->Prop:=fun a w n=>∃x,J x/\Sim w0 g0 o0 N (S x) a w/\μ x=n
 let m:Act->World->Nat:=fun a w=>open Classical in if h:∃n,pm a w n then Classical.choose (Qc1 _ h)else 0
 have yw:∀a w,I a w->pm a w (m a w)/\∀k,pm a w k->m a w<=k:=fun a w hI=>by
  have h:∃n,pm a w n:=by
   obtain⟨x,h1,h2⟩:=hI;exact⟨μ x,x,h1,h2,rfl⟩
  have e:m a w=Classical.choose (Qc1 _ h):=dif_pos h;rw[e];exact Classical.choose_spec (Qc1 _ h)
 refine wp_loop I m ⟨x0,h0,Q8B ρ hl hE hs⟩ fun a w hI=>?_
 obtain⟨⟨x,hJ,hx,hμ⟩,jJ⟩:=yw a w hI;refine Q5j (Q:=Q1 o0 S J μ x Q) hT hm c _ _ (S x) a w hd ho (fun c a d v w h=>?_) (fun e s a' w' jf hq=>?_) hx (round x hJ)
 ·obtain⟨e',s',h1,h2,h3⟩:=h
  cases e'<;>cases h1
 ·cases e with
  |normal =>
   obtain⟨x',h1,h2,ρ',l',h3,h4⟩:=hq;have jT:=Q8B ρ' h3 h4 jf;have pg:I a' w':=⟨x',h1,jT⟩;refine⟨pg,Nat.lt_of_le_of_lt ((yw a' w' pg).2 _ ⟨x',h1,jT,rfl⟩) ?_⟩;rw[<-hμ];exact h2
  |exit i=>exact⟨.exit i,s,rfl,jf,hq⟩
  |ret=>exact⟨.ret,s,rfl,jf,hq⟩
end
section
variable {P:Program}{w w':World}{g:Gh}{ob:List Ob}
theorem Q2A{vs:List Value}(h:Q4X w g ob vs []):vs=[]:=List.eq_nil_of_length_eq_zero h.1
theorem Q13{vs:List Value}{x:AV}{r:List AV}(h:Q4X w g ob vs (x::r)):∃v vs',vs=v::vs'/\ARel1 w g ob v x/\Q4X w g ob vs' r:=by
 cases vs with
 |nil=>exact absurd h.1 (by simp)
 |cons v vs=>exact⟨v,vs,rfl,h.2 0 v x rfl rfl,by simpa using h.1,fun j a b ha hb=>h.2 (j+1) a b (by simpa using ha) (by simpa using hb)⟩
theorem Q31{v u:Value}(h:ARel1 w g ob v (.val u)):v=u:=ARel.valEq (ARel1.to h)
theorem QnT{v:Value}{sz:Nat}{xs:List AV}(h:ARel1 w g [] v (.slc sz xs))(M:Mem w g []) :
  ∃A c ys,v=.slice A xs.length c/\Rd w (fun _=>True) sz A xs.length c ys/\Alike w g.A ys (QQ xs) :=
 Q4L (s:=⟨[],[]⟩) M (ARel1.to h) rfl
theorem QbZ{A:Nat->Nat->Prop}{us:List Value}:∀{ys:List Value},Alike w A ys (us.map .val)->ys=us:=by
 induction us with
 |nil=>intro ys h;exact List.eq_nil_of_length_eq_zero h.1
 |cons u us ih =>
  intro ys h;cases ys with
  |nil=>exact absurd h.1 (by simp)
  |cons y ys =>
   have h1:PRel w A y (.val u):=h.2 0 y (.val u) rfl rfl;have h2:y=u:=by cases h1;rfl
   rw[h2,ih (ys:=ys) ⟨by simpa using h.1,fun j a b ha hb=>h.2 (j+1) a b (by simpa using ha) (by simpa using hb)⟩]
theorem Qai(us:List Value):QQ (us.map .val)=us.map .val:=by
 induction us with
 |nil=>rfl
 |cons u us ih=>simp only[QQ,map_cons,List.flatMap_cons]at ih ⊢;rw[ih];rfl
theorem Qln{A':Nat->Nat->Prop}{S:Nat->Prop}{sz n c:Nat}{A:Option Addr}{ys:List Value}{xs:List AV}(hr:Rd w S sz A n c ys)(hS:∀b o,S b->A' b o)(hn:n=xs.length)(hw:∀x∈xs,x.cells.length=sz)(hA:∀a,A=some a->∃b o,a=⟨b,o,none⟩)
  (jX:Alike w A' ys (QQ xs)):PRel w A' (.slice A n c) (.slc sz xs):=by
 subst hn;obtain⟨h1,h2,h3,h4,h5⟩:=hr;cases A with
 |none =>
  have hc:=h4 rfl;subst hc;have:xs=[]:=List.eq_nil_of_length_eq_zero (by omega)
  subst this;exact PRel.nil sz
 |some a =>
  obtain⟨b,o,rfl⟩:=hA a rfl
  have pos:∀(j:Nat) u,(QQ xs)[j]?=some u->0<xs.length:=fun j u hu=>by
   cases xs with
   |nil=>simp at hu
   |cons _ _=>simp
  have h5':0<xs.length->S b/\∀j u,ys[j]?=some u->w.cell? ⟨b,o+j,none⟩=some u:=fun h=>by
   obtain⟨b',o',h6,h7,h8⟩:=h5 h;cases h6;exact⟨h7,h8⟩
  have get:∀(j:Nat) u,(QQ xs)[j]?=some u->∃y,ys[j]?=some y/\ys.getD j undef=y:=fun j u hu=>by
   have hj:j<ys.length:=by rw[jX.1];exact Qa hu
   exact⟨ys[j],getElem?_eq_getElem hj,by rw[List.getD_eq_getElem?_getD,getElem?_eq_getElem hj];rfl⟩
  refine PRel.slc b o c sz xs (fun j=>ys.getD j undef) h2 h3 hw (fun j u hu=>?_) (fun j u hu=>?_)
  ·obtain⟨y,hy,he⟩:=get j u hu
   obtain⟨h7,h8⟩:=h5' (pos j u hu);exact⟨hS _ _ h7,by rw[he];exact h8 j y hy⟩
  ·obtain⟨y,hy,he⟩:=get j u hu
   rw[he];exact jX.2 j y u hy hu
theorem Qh2:∀{vs:List Value}{xs ys:List AV},Q4X w g ob vs xs->leT xs ys->Q4X w g ob vs ys
 |vs,[],[],h,_=>h
 |_,[],_::_,_,hl=>hl.elim
 |_,_::_,[],_,hl=>hl.elim
 | [],x::r,y::r',h,_=>absurd h.1 (by simp)
 |v::vs,x::r,y::r',h,hl=>by
  have h1:=h.2 0 v x rfl rfl;have h2:Q4X w g ob vs r':=Qh2 (xs:=r) ⟨by simpa using h.1,fun j a b ha hb=>h.2 (j+1) a b (by simpa using ha) (by simpa using hb)⟩ hl.2
  refine⟨by simp[h2.1],fun j a b ha hb=>?_⟩
  cases j with
  |zero =>
   obtain rfl:v=a:=by simpa using ha
   obtain rfl:y=b:=by simpa using hb
   exact Qay h1 hl.1
  |succ j=>exact h2.2 j a b (by simpa using ha) (by simpa using hb)
theorem BCall.le{f:Nat}{args args':List AV}{ob ob':List Ob}{res:AV}(h:BCall P f args' ob res ob')(hl:leT args args'):BCall P f args ob res ob' :=
 ⟨h.1,fun w g vs M hL=>h.2 w g vs M (Qh2 hL hl)⟩
theorem BCall.forget{f:Nat}{args:List AV}{ob ob':List Ob}{res:AV}(h:BCall P f args ob res ob'):BCall P f args ob .dead ob' :=
 ⟨h.1,fun w g vs M hL=>(h.2 w g vs M hL).mono fun e w' ⟨v,g',h1,h2,h3,h4⟩=>⟨v,g',h1,h2,trivial,h4⟩⟩
theorem BCall.res{f:Nat}{args:List AV}{ob ob':List Ob}{res res':AV}(h:BCall P f args ob res ob')(hl:leA res res'):BCall P f args ob res' ob' :=
 ⟨h.1,fun w g vs M hL=>(h.2 w g vs M hL).mono fun e w' ⟨v,g',h1,h2,h3,h4⟩=>⟨v,g',h1,h2,Q9I h3 hl,h4⟩⟩
theorem BCall.hand{f:Nat}{args:List AV}{res:AV}(he:∀vs w,(callFunc f vs).run P w=.ok (.enter f vs) w)
  (h:∀(w:World)(g:Gh)(vs:List Value),Mem w g []->Q4X w g [] vs args->Calls P f vs.toArray w fun e w'=>∃v,e=.returned v/\Below w.heap.size w w'/\ARel w' (g.imm w w') [] v res):BCall P f args [] res [] :=
 ⟨he,fun w g vs M hL=>(h w g vs M hL).mono fun e w' ⟨v,h1,hb,hr⟩=>⟨v,g.imm w w',h1,M.immNew hb,hr,Step.immNew M hb⟩⟩
end
def QpZ(ob ob2 ob2' obr:List Ob)(ρ ρ':List (Option Nat)):Bool:=(List.range ob.length).all fun i=>match Qi0 ρ i with
 |some j=>ρ'[i]? == some (some j)&&(match ob[i]?,ob2[j]?,ob2'[j]?,obr[i]? with
  |some (.row _ _ _ e0 _),some (.row _ _ _ e2 _),some (.row _ _ _ e2' _),some (.row _ _ _ er _)=>decide (e0<er)||(e0 == er&&e2 == e2')
  |_,_,_,_=>true)
 |none=>false
section
variable {w w':World}{g g':Gh}{ob ob2 ob2' obr:List Ob}{ρ ρ':List (Option Nat)}
theorem QiW(hF:Fits ob ob2 ρ)(ho:Q32 ρ=true)(k6:Fits ob2' obr ρ')(yQ:Q32 ρ'=true)(hi:QpZ ob ob2 ob2' obr ρ ρ'=true)(hn:ob.length<=obr.length)(h0:Step w (g.ren ρ) ob2 w' g' ob2'):Step w g ob w' (g'.ren ρ') obr:=by
 have head:∀i,i<ob.length->∃j,ρ[j]?=some (some i)/\ρ'[i]?=some (some j)/\∀e0 e2 e2' er et sz fz xs et2 sz2 fz2 xs2 et3 sz3 fz3 xs3 et4 sz4 fz4 xs4,
   ob[i]?=some (.row et sz fz e0 xs)->ob2[j]?=some (.row et2 sz2 fz2 e2 xs2)->ob2'[j]?=some (.row et3 sz3 fz3 e2' xs3)->obr[i]?=some (.row et4 sz4 fz4 er xs4)->e0<er\/(e0=er/\e2=e2'):=fun i cr=>by
  have:=all_eq_true.1 hi i (mem_range.2 cr)
  split at this
  ·rename_i j hj
   simp only[Bool.and_eq_true,beq_iff_eq]at this;refine⟨j,QeI hj,this.1,?_⟩;intro e0 e2 e2' er et sz fz xs et2 sz2 fz2 xs2 et3 sz3 fz3 xs3 et4 sz4 fz4 xs4 h1 h2 h3 h4;have h5:=this.2;simp only[h1,h2,h3,h4,Bool.or_eq_true,Bool.and_eq_true,beq_iff_eq,decide_eq_true_eq]at h5;exact h5
  ·cases this
 refine⟨h0.os,h0.tape,h0.output,h0.size,fun b hb hG=>h0.keep b hb (by simp[Gh.ren,hG]),fun b id hG=>?_,fun b o hA=>?_,⟨h0.ext.A,fun id hid=>?_,fun id hb=>?_,fun id hb=>?_,fun id et sz fz e xs hr=>?_,fun b id hG hs=>?_⟩,hn⟩
 ·obtain⟨i,_,h3⟩:=Q39 hG
  rcases h0.own b i h3 with ⟨id',h4⟩|h4
  ·obtain⟨i',_,h5⟩:=Q39 h4
   exact .inl ⟨i',h5⟩
  ·exact .inr h4
 ·rcases h0.imm b o hA with h1|⟨id,h1⟩|h1
  ·exact .inl h1
  ·obtain⟨i',_,h5⟩:=Q39 h1
   exact .inr (.inl ⟨i',h5⟩)
  ·exact .inr (.inr h1)
 ·obtain⟨j,h1,h2,_⟩:=head id hid
  have hj:j<ob2.length:=hF.1 ▸ Qa h1;rw[Q3r h2,h0.ext.loc j hj,Q3r h1]
 ·obtain⟨j,h1,h2,_⟩:=head id (Q4o hb)
  exact k6.isB h2 (h0.ext.isb j (hF.isB h1 hb))
 ·obtain⟨j,h1,h2,_⟩:=head id (Q5g hb)
  exact k6.isI h2 (h0.ext.isi j (hF.isI h1 hb))
 ·obtain⟨j,h1,h2,h3⟩:=head id (Qa hr)
  obtain⟨fz2,e2,h4,_⟩:=hF.row h1 hr;obtain⟨fz3,e3,xs3,h5,h6,h7⟩:=h0.ext.row j et sz fz2 e2 xs h4;obtain⟨fz4,e4,h8,_⟩:=k6.row h2 h5;refine⟨fz4,e4,xs3,h8,by rcases h3 _ _ _ _ _ _ _ _ _ _ _ _ _ _ _ _ _ _ _ _ hr h4 h5 h8 with h|h<;>omega,fun he=>?_⟩
  have qq:e3=e2:=by
   rcases h3 _ _ _ _ _ _ _ _ _ _ _ _ _ _ _ _ _ _ _ _ hr h4 h5 h8 with h|h
   ·omega
   ·exact h.2.symm
  exact(h7 qq).turn (fun b hb=>⟨Q6i ho h1 hb,Q4F ho h1 hb⟩) (fun b _ yF=>Q6i yQ h2 yF) rfl
 ·obtain⟨et,sz,fz,fz',e,xs,xs',h4,h5⟩:=hs
  obtain⟨j,h1,h2,h3⟩:=head id (Qa h4);obtain⟨fz2,e2,h6,_⟩:=hF.row h1 h4;obtain⟨fz3,e3,xs3,h7,h8,h9⟩:=h0.ext.row j et sz fz2 e2 xs h6;obtain⟨fz4,e4,qh,_⟩:=k6.row h2 h7;rw[qh]at h5;obtain⟨rfl,rfl,rfl⟩:fz4=fz'/\e4=e/\xs3=xs':=by simpa using h5
  have qq:e2=e3:=by
   rcases h3 _ _ _ _ _ _ _ _ _ _ _ _ _ _ _ _ _ _ _ _ h4 h6 h7 qh with h|h
   ·omega
   ·exact h.2
  subst qq;have pd:=Q6i (g:=g) ho h1 hG;obtain⟨yF,gy⟩:=h0.ext.sub b j pd ⟨_,_,_,_,_,_,_,h6,h7⟩;have hG3:=(h9 rfl).G pd;have e1:=Q4F (g:=g) ho h1 hG;have e2:=Q4F (g:=g') yQ h2 hG3;exact⟨e2.trans (yF.trans e1),fun hb=>gy (by rw[e1];exact hb)⟩
theorem BCall.tell{P:Program}{f:Nat}{args args2:List AV}{res2 res' res:AV}{l l':Eqs}(h:BCall P f args2 ob2 res2 ob2')(ρ ρ':List (Option Nat))(h1:Q32 ρ=true)(yC:Q32 ρ'=true)(hi:QpZ ob ob2 ob2' obr ρ ρ'=true)(hn:ob.length<=obr.length)
  (ha:both (Qch ob ob2 ρ args args2) (Q9j ob ob2 ρ ρ ob2)=some l) (hl:Qe l) (hr:both (QkD ob2' obr ρ' res2 res') (Q9j ob2' obr ρ' ρ' obr)=some l') (n7:Qe l') (h6:leA res' res):BCall P f args ob res obr:=by
 refine⟨h.1,fun w g vs M hL=>?_⟩
 obtain⟨⟨l1,e1,a1⟩,l2,e2,a2⟩:=Q37 ha hl;obtain⟨⟨l3,e3,a3⟩,l4,e4,a4⟩:=Q37 hr n7;have hF:Fits ob ob2 ρ:=Q4M _ _ _ e2 a2;have k6:Fits ob2' obr ρ':=Q4M _ _ _ e4 a4;obtain⟨k1,k2⟩:=Q8N hF h1 _ _ _ _ e1 a1 hL.1 hL.2;refine(h.2 w (g.ren ρ) vs (M.ren hF h1) ⟨k1,k2⟩).mono fun e w' ⟨v,g',k1,k2,k3,k4⟩=>?_
 exact⟨v,g'.ren ρ',k1,k2.ren k6 yC,Q9I (QaI k6 yC k3 e3 a3) h6,QiW hF h1 k6 yC hi hn k4⟩
end
section
variable {P:Program}{ty:Tys}{w0:World}{g0:Gh}{o0:List Ob}{N:Nat}
theorem Q46(hT:TyOk P ty)(hm:P.follows .mixedOrders=true){ord:Nat->OT}{c:Code}(hd:Q4p N c=true)(ho:Q40 .any ty ord c=true)
  {X:Type} (cs:X->Nat->List AV->List Ob->Option (AV×List Ob)) (S:X->St) (J:X->Prop) (μ:X->Nat) {Q:Ex->St->Prop} {s:St} (x0:X) (h0:J x0) (hS:Qn2 o0 s (S x0))
  (round:∀x,J x->(Q4 std ty (cs x) ord c (fun e s=>.leaf e s) (S x)).ok P w0 g0 o0 N (Q1 o0 S J μ x Q)):WP P w0 g0 o0 N (.loop c) Q s:=by
 intro a w hs;obtain⟨ρ,l,hl,hE⟩:=hS;let I:Act->World->Prop:=fun a w=>∃x,J x/\Sim w0 g0 o0 N (S x) a w
 let pm:Act->World->Nat->Prop:=fun a w n=>∃x,J x/\Sim w0 g0 o0 N (S x) a w/\μ x=n
 let m:Act->World->Nat:=fun a w=>open Classical in if h:∃n,pm a w n then Classical.choose (Qc1 _ h)else 0
 have yw:∀a w,I a w->pm a w (m a w)/\∀k,pm a w k->m a w<=k:=fun a w hI=>by
  have h:∃n,pm a w n:=by
   obtain⟨x,h1,h2⟩:=hI;exact⟨μ x,x,h1,h2,rfl⟩
  have e:m a w=Classical.choose (Qc1 _ h):=dif_pos h;rw[e];exact Classical.choose_spec (Qc1 _ h)
 refine wp_loop I m ⟨x0,h0,Q8B ρ hl hE hs⟩ fun a w hI=>?_
 obtain⟨⟨x,hJ,hx,hμ⟩,jJ⟩:=yw a w hI;refine Q5j (Q:=Q1 o0 S J μ x Q) hT hm c _ _ (S x) a w hd ho (fun c a d v w h=>?_) (fun e s a' w' jf hq=>?_) hx (round x hJ)
 ·obtain⟨e',s',h1,h2,h3⟩:=h
  cases e'<;>cases h1
 ·cases e with
  |normal =>
   obtain⟨x',h1,h2,ρ',l',h3,h4⟩:=hq;have jT:=Q8B ρ' h3 h4 jf;have pg:I a' w':=⟨x',h1,jT⟩;refine⟨pg,Nat.lt_of_le_of_lt ((yw a' w' pg).2 _ ⟨x',h1,jT,rfl⟩) ?_⟩;rw[<-hμ];exact h2
  |exit i=>exact⟨.exit i,s,rfl,jf,hq⟩
  |ret=>exact⟨.ret,s,rfl,jf,hq⟩
end
end
section
open Tryz
def QoI:List (Nat×TI):=[(3,⟨1,false,0,[],[.int .i64 0],some .i64,8,false,3,true⟩),
(4,⟨1,false,0,[],[.bool false],none,1,false,5,true⟩),
(5,⟨1,false,0,[],[.int .u8 0],some .u8,1,false,3,true⟩),
(9,⟨1,false,0,[],[.string ⟨#[]⟩],none,16,false,6,true⟩),
(21,⟨1,false,0,[],[.int .i32 0],some .i32,4,false,3,true⟩),
(22,⟨1,false,5,[],[.slice none 0 0],none,24,true,2,true⟩),
(23,⟨1,false,3,[],[.slice none 0 0],none,24,true,2,true⟩),
(26,⟨1,false,21,[],[.slice none 0 0],none,24,true,2,true⟩),
(28,⟨4,true,0,[(0,3),(1,3),(2,26),(3,23)],[.int .i64 0,.int .i64 0,.slice none 0 0,.slice none 0 0],none,64,false,1,true⟩),
(29,⟨1,false,0,[],[.pointer none],none,8,false,4,true⟩),
(30,⟨1,false,146,[],[.slice none 0 0],none,24,true,2,true⟩),
(32,⟨7,true,0,[(0,28),(4,29),(5,3),(6,30)],[.int .i64 0,.int .i64 0,.slice none 0 0,.slice none 0 0,.pointer none,.int .i64 0,.slice none 0 0],none,104,false,1,true⟩),
(34,⟨1,false,0,[],[.pointer none],none,8,false,4,true⟩),
(36,⟨1,false,0,[],[.pointer none],none,8,false,4,true⟩),
(38,⟨5,true,0,[(0,29),(1,3),(2,3),(3,3),(4,36)],[.pointer none,.int .i64 0,.int .i64 0,.int .i64 0,.pointer none],none,40,false,1,true⟩),
(42,⟨2,true,0,[(0,3),(1,3)],[.int .i64 0,.int .i64 0],none,16,false,1,true⟩),
(46,⟨7,true,0,[(0,23),(1,3),(2,3),(3,3),(4,3),(5,4),(6,22)],[.slice none 0 0,.int .i64 0,.int .i64 0,.int .i64 0,.int .i64 0,.bool false,.slice none 0 0],none,88,false,1,true⟩),
(49,⟨1,false,58,[],[.slice none 0 0],none,24,true,2,true⟩),
(51,⟨4,true,0,[(0,3),(1,3),(2,26),(3,23)],[.int .i64 0,.int .i64 0,.slice none 0 0,.slice none 0 0],none,64,false,1,true⟩),
(52,⟨1,false,9,[],[.slice none 0 0],none,24,true,2,true⟩),
(53,⟨1,false,107,[],[.slice none 0 0],none,24,true,2,true⟩),
(54,⟨1,false,157,[],[.slice none 0 0],none,24,true,2,true⟩),
(56,⟨8,true,0,[(0,22),(1,51),(5,52),(6,53),(7,54)],[.slice none 0 0,.int .i64 0,.int .i64 0,.slice none 0 0,.slice none 0 0,.slice none 0 0,.slice none 0 0,.slice none 0 0],none,160,false,1,true⟩),
(58,⟨3,true,0,[(0,21),(1,3),(2,3)],[.int .i32 0,.int .i64 0,.int .i64 0],none,24,false,1,true⟩),
(60,⟨3,true,0,[(0,3),(1,3),(2,3)],[.int .i64 0,.int .i64 0,.int .i64 0],none,24,false,1,true⟩),
(76,⟨1,false,46,[],[.slice none 0 0],none,24,true,2,true⟩),
(94,⟨1,false,0,[],[.pointer none],none,8,false,4,true⟩),
(97,⟨1,false,0,[],[.pointer none],none,8,false,4,true⟩),
(99,⟨2,true,0,[(0,26),(1,23)],[.slice none 0 0,.slice none 0 0],none,48,false,1,true⟩),
(100,⟨1,false,99,[],[.slice none 0 0],none,24,true,2,true⟩),
(102,⟨3,true,0,[(0,22),(1,94),(2,100)],[.slice none 0 0,.pointer none,.slice none 0 0],none,56,false,1,true⟩),
(107,⟨3,true,0,[(0,3),(1,3),(2,22)],[.int .i64 0,.int .i64 0,.slice none 0 0],none,40,false,1,true⟩),
(110,⟨1,false,112,[],[.slice none 0 0],none,24,true,2,true⟩),
(112,⟨3,true,0,[(0,21),(1,3),(2,3)],[.int .i32 0,.int .i64 0,.int .i64 0],none,24,false,1,true⟩),
(113,⟨3,true,0,[(0,3),(1,3),(2,3)],[.int .i64 0,.int .i64 0,.int .i64 0],none,24,false,1,true⟩),
(114,⟨1,false,119,[],[.slice none 0 0],none,24,true,2,true⟩),
(116,⟨6,true,0,[(0,113),(3,114),(4,4),(5,4)],[.int .i64 0,.int .i64 0,.int .i64 0,.slice none 0 0,.bool false,.bool false],none,56,false,1,true⟩),
(119,⟨9,true,0,[(0,113),(3,113),(6,113)],[.int .i64 0,.int .i64 0,.int .i64 0,.int .i64 0,.int .i64 0,.int .i64 0,.int .i64 0,.int .i64 0,.int .i64 0],none,72,false,1,true⟩),
(123,⟨1,false,128,[],[.slice none 0 0],none,24,true,2,true⟩),
(125,⟨6,true,0,[(0,60),(3,123),(4,4),(5,4)],[.int .i64 0,.int .i64 0,.int .i64 0,.slice none 0 0,.bool false,.bool false],none,56,false,1,true⟩),
(128,⟨9,true,0,[(0,60),(3,60),(6,60)],[.int .i64 0,.int .i64 0,.int .i64 0,.int .i64 0,.int .i64 0,.int .i64 0,.int .i64 0,.int .i64 0,.int .i64 0],none,72,false,1,true⟩),
(139,⟨1,false,0,[],[.int .i64 0],some .i64,8,false,3,true⟩),
(146,⟨3,true,0,[(0,42),(2,3)],[.int .i64 0,.int .i64 0,.int .i64 0],none,24,false,1,true⟩),
(150,⟨1,false,153,[],[.slice none 0 0],none,24,true,2,true⟩),
(153,⟨4,true,0,[(0,3),(1,3),(2,3),(3,4)],[.int .i64 0,.int .i64 0,.int .i64 0,.bool false],none,32,false,1,true⟩),
(157,⟨3,true,0,[(0,3),(1,3),(2,3)],[.int .i64 0,.int .i64 0,.int .i64 0],none,24,false,1,true⟩),
(160,⟨1,false,0,[],[.pointer none],none,8,false,4,true⟩),
(162,⟨2,true,0,[(0,160),(1,22)],[.pointer none,.slice none 0 0],none,32,false,1,true⟩),
(176,⟨1,false,182,[],[.slice none 0 0],none,24,true,2,true⟩),
(178,⟨1,true,0,[(0,176)],[.slice none 0 0],none,24,false,1,true⟩),
(179,⟨1,false,0,[],[.pointer none],none,8,false,4,true⟩),
(182,⟨6,true,0,[(0,3),(1,3),(2,3),(3,4),(4,22),(5,23)],[.int .i64 0,.int .i64 0,.int .i64 0,.bool false,.slice none 0 0,.slice none 0 0],none,80,false,1,true⟩),
(183,⟨1,false,185,[],[.slice none 0 0],none,24,true,2,true⟩),
(185,⟨4,true,0,[(0,3),(1,3),(2,3),(3,4)],[.int .i64 0,.int .i64 0,.int .i64 0,.bool false],none,32,false,1,true⟩),
(195,⟨1,false,0,[],[.pointer none],none,8,false,4,true⟩),
(196,⟨1,false,113,[],[.slice none 0 0],none,24,true,2,true⟩),
(199,⟨2,true,0,[(0,196),(1,3)],[.slice none 0 0,.int .i64 0],none,32,false,1,true⟩),
(210,⟨1,false,60,[],[.slice none 0 0],none,24,true,2,true⟩),
(225,⟨1,false,0,[],[.pointer none],none,8,false,4,true⟩),
(230,⟨1,false,0,[],[.int .u64 0],some .u64,8,false,3,true⟩),
(232,⟨3,true,0,[(0,9),(1,3),(2,3)],[.string ⟨#[]⟩,.int .i64 0,.int .i64 0],none,32,false,1,true⟩),
(233,⟨15,true,232,[],[.string ⟨#[]⟩,.int .i64 0,.int .i64 0,.string ⟨#[]⟩,.int .i64 0,.int .i64 0,.string ⟨#[]⟩,.int .i64 0,.int .i64 0,.string ⟨#[]⟩,.int .i64 0,.int .i64 0,.string ⟨#[]⟩,.int .i64 0,.int .i64 0],none,160,false,105,true⟩),
(242,⟨1,false,0,[],[.nilFunc],none,8,false,7,true⟩),
(251,⟨1,false,0,[],[.nilFunc],none,8,false,7,true⟩),
(296,⟨2,true,0,[(0,21),(1,21)],[.int .i32 0,.int .i32 0],none,8,false,1,true⟩),
(297,⟨1,false,296,[],[.slice none 0 0],none,24,true,2,true⟩)]
def tys:Tys:=fun _=>QoI
theorem Q6k:TyOk prog tys:=by
 show QeQ prog QoI;unfold QoI;repeat refine TyOk.cons (TiOk.of (by kernel_rfl) (by kernel_rfl) (by kernel_rfl)) ?_
 exact TyOk.nil
end
section
open Go.RowKit Go.Lib Tryz
def Q6g(x:UInt8):AV:=.val (.int .u8 x.toNat)
def QgR(r:Int):AV:=.val (.int .i32 r)
def Qgf(n:Int):AV:=.val (.int .i64 n)
def Q2(b:List UInt8):List AV:=b.map Q6g
def Q0(l:List Int):List AV:=l.map QgR
def Q9(l:List Int):List AV:=l.map Qgf
theorem QdT{α:Type}(f:α->AV){l:List α}{i:Int}(h0:0<=i)(h1:i<l.length)(d:α):(l.map f)[i.toNat]?.getD .dead=f (l[i.toNat]?.getD d):=by
 have:i.toNat<l.length:=by omega
 simp[this]
theorem Q11(l:List UInt8):(Q2 l).length=l.length:=by simp[Q2]
theorem Qx(l:List Int):(Q0 l).length=l.length:=by simp[Q0]
theorem Q2w(l:List Int):(Q9 l).length=l.length:=by simp[Q9]
theorem Q95(a b:List Int):Q0 (a++b)=Q0 a++Q0 b:=by simp[Q0]
theorem Q4T(a b:List Int):Q9 (a++b)=Q9 a++Q9 b:=by simp[Q9]
theorem Qey(n:Int):Q9 [n]=[.val (.int .i64 n)]:=rfl
theorem QJ{l:List Int}{i:Int}(h0:0<=i)(h1:i<l.length):(Q0 l)[i.toNat]?.getD .dead=.val (.int .i32 (l[i.toNat]?.getD 0)):=QdT QgR h0 h1 0
theorem Q2T{l:List Int}{i:Int}(h0:0<=i)(h1:i<l.length):(Q9 l)[i.toNat]?.getD .dead=.val (.int .i64 (l[i.toNat]?.getD 0)):=QdT Qgf h0 h1 0
theorem Qhr(n:Int):std.inR .i64 n↔(-9223372036854775808<=n/\n<=9223372036854775807):=Iff.rfl
theorem S0:(false=true)=False/\(true=false)=False/\(∀p:Prop,(False->p)=True)/\(∀p:Prop,(True->p)=p)/\(∀p:Prop,(p/\True)=p)/\(∀p:Prop,(True/\p)=p):=by simp
theorem S1:Q3t []=True/\(∀q r,Q3t (q::r)=(q.q/\Q3t r))/\(∀c,(AV.agg c).cells=c)/\(∀v,(AV.val v).cells=[.val v])/\(∀a b,(AV.slc a b).cells=[.slc a b])/\(∀c,(AV.ref c).cells=[.ref c])/\(∀c,(AV.opt c).cells=[.opt c])/\(∀c,(AV.tup c).cells=[.tup c])/\(∀a b,(AV.box a b).cells=[.box a b])/\(∀a b,(AV.row a b).cells=[.row a b])/\(∀a b c,(AV.rowk a b c).cells=[.rowk a b c])/\(∀a b c d,(AV.rptr a b c d).cells=[.rptr a b c d])/\(∀c,(AV.kb c).cells=[.kb c])/\(∀c,(AV.iter c).cells=[.iter c])/\AV.dead.cells=[.dead] /\
  (∀k n,intOf (.val (.int k n))=n)/\(∀b,Q5y (.val (.bool b))=b)/\(∀z xs,Q2x (.slc z xs)=xs)/\(∀v,Q2x (.val v)=[])/\IntKind.min .i64=-9223372036854775808/\IntKind.max .i64=9223372036854775807/\IntKind.min .i32=-2147483648/\IntKind.max .i32=2147483647 :=
 ⟨rfl,fun _ _=>rfl,fun _=>rfl,fun _=>rfl,fun _ _=>rfl,fun _=>rfl,fun _=>rfl,fun _=>rfl,fun _ _=>rfl,fun _ _=>rfl,fun _ _ _=>rfl,fun _ _ _ _=>rfl,fun _=>rfl,fun _=>rfl,rfl,fun _ _=>rfl,fun _=>rfl,fun _ _=>rfl,fun _=>rfl,rfl,rfl,rfl,rfl⟩
theorem gI{a b:Int}(h:a=b):AV.val (.int .i64 a)=.val (.int .i64 b):=congrArg _ (congrArg _ h)
theorem gB{a b:Bool}(h:a=b):AV.val (.bool a)=.val (.bool b):=congrArg _ (congrArg _ h)
theorem gA{n:Nat}{a b:List AV}(h:a=b):AV.slc n a=.slc n b:=congrArg _ h
def Tg{α:Type}(_:α)(P:Prop):Prop:=P
theorem tg{α:Type}{x:α}{P:Prop}(h:∀y,x=y->P):Tg x P:=h x rfl
theorem zA{A B:Prop}(a:A)(b:B):A/\B:=⟨a,b⟩
theorem cv0 {Q P:Prop} (k:Q) (h:Q->P:=by
 generalize hp:std=p
 first
  |(generalize hT:Q4 p tys _ _ _ _ _=T;with_unfolding_all cbv at hT;subst hT)
  |(generalize hT:Q53 p tys _ _ _ _=T;with_unfolding_all cbv at hT;subst hT)
 intro k;simp only[Tree.ok,Q1,S0];subst hp;exact k):P:=h k
theorem cv1 {a1:Type} (x1:a1) {Q P:Prop} (k:Q) (h:Tg x1 <| (Q->P):=by
 refine tg fun y1 h1=>?_
 try rw[h1]
 generalize hp:std=p
 first
  |(generalize hT:Q4 p tys _ _ _ _ _=T;with_unfolding_all cbv at hT;subst hT)
  |(generalize hT:Q53 p tys _ _ _ _=T;with_unfolding_all cbv at hT;subst hT)
 intro k;simp only[Tree.ok,Q1,S0];subst hp h1;exact k):P:=h k
theorem cv2 {a1 a2:Type} (x1:a1) (x2:a2) {Q P:Prop} (k:Q) (h:Tg x1 <| Tg x2 <| (Q->P):=by
 refine tg fun y1 h1=>?_
 try rw[h1]
 refine tg fun y2 h2=>?_
 try rw[h2]
 generalize hp:std=p
 first
  |(generalize hT:Q4 p tys _ _ _ _ _=T;with_unfolding_all cbv at hT;subst hT)
  |(generalize hT:Q53 p tys _ _ _ _=T;with_unfolding_all cbv at hT;subst hT)
 intro k;simp only[Tree.ok,Q1,S0];subst hp h1 h2;exact k):P:=h k
theorem cv3 {a1 a2 a3:Type} (x1:a1) (x2:a2) (x3:a3) {Q P:Prop} (k:Q) (h:Tg x1 <| Tg x2 <| Tg x3 <| (Q->P):=by
 refine tg fun y1 h1=>?_
 try rw[h1]
 refine tg fun y2 h2=>?_
 try rw[h2]
 refine tg fun y3 h3=>?_
 try rw[h3]
 generalize hp:std=p
 first
  |(generalize hT:Q4 p tys _ _ _ _ _=T;with_unfolding_all cbv at hT;subst hT)
  |(generalize hT:Q53 p tys _ _ _ _=T;with_unfolding_all cbv at hT;subst hT)
 intro k;simp only[Tree.ok,Q1,S0];subst hp h1 h2 h3;exact k):P:=h k
theorem cv4 {a1 a2 a3 a4:Type} (x1:a1) (x2:a2) (x3:a3) (x4:a4) {Q P:Prop} (k:Q) (h:Tg x1 <| Tg x2 <| Tg x3 <| Tg x4 <| (Q->P):=by
 refine tg fun y1 h1=>?_
 try rw[h1]
 refine tg fun y2 h2=>?_
 try rw[h2]
 refine tg fun y3 h3=>?_
 try rw[h3]
 refine tg fun y4 h4=>?_
 try rw[h4]
 generalize hp:std=p
 first
  |(generalize hT:Q4 p tys _ _ _ _ _=T;with_unfolding_all cbv at hT;subst hT)
  |(generalize hT:Q53 p tys _ _ _ _=T;with_unfolding_all cbv at hT;subst hT)
 intro k;simp only[Tree.ok,Q1,S0];subst hp h1 h2 h3 h4;exact k):P:=h k
theorem cv5 {a1 a2 a3 a4 a5:Type} (x1:a1) (x2:a2) (x3:a3) (x4:a4) (x5:a5) {Q P:Prop} (k:Q) (h:Tg x1 <| Tg x2 <| Tg x3 <| Tg x4 <| Tg x5 <| (Q->P):=by
 refine tg fun y1 h1=>?_
 try rw[h1]
 refine tg fun y2 h2=>?_
 try rw[h2]
 refine tg fun y3 h3=>?_
 try rw[h3]
 refine tg fun y4 h4=>?_
 try rw[h4]
 refine tg fun y5 h5=>?_
 try rw[h5]
 generalize hp:std=p
 first
  |(generalize hT:Q4 p tys _ _ _ _ _=T;with_unfolding_all cbv at hT;subst hT)
  |(generalize hT:Q53 p tys _ _ _ _=T;with_unfolding_all cbv at hT;subst hT)
 intro k;simp only[Tree.ok,Q1,S0];subst hp h1 h2 h3 h4 h5;exact k):P:=h k
theorem cv6 {a1 a2 a3 a4 a5 a6:Type} (x1:a1) (x2:a2) (x3:a3) (x4:a4) (x5:a5) (x6:a6) {Q P:Prop} (k:Q) (h:Tg x1 <| Tg x2 <| Tg x3 <| Tg x4 <| Tg x5 <| Tg x6 <| (Q->P):=by
 refine tg fun y1 h1=>?_
 try rw[h1]
 refine tg fun y2 h2=>?_
 try rw[h2]
 refine tg fun y3 h3=>?_
 try rw[h3]
 refine tg fun y4 h4=>?_
 try rw[h4]
 refine tg fun y5 h5=>?_
 try rw[h5]
 refine tg fun y6 h6=>?_
 try rw[h6]
 generalize hp:std=p
 first
  |(generalize hT:Q4 p tys _ _ _ _ _=T;with_unfolding_all cbv at hT;subst hT)
  |(generalize hT:Q53 p tys _ _ _ _=T;with_unfolding_all cbv at hT;subst hT)
 intro k;simp only[Tree.ok,Q1,S0];subst hp h1 h2 h3 h4 h5 h6;exact k):P:=h k
theorem cv7 {a1 a2 a3 a4 a5 a6 a7:Type} (x1:a1) (x2:a2) (x3:a3) (x4:a4) (x5:a5) (x6:a6) (x7:a7) {Q P:Prop} (k:Q) (h:Tg x1 <| Tg x2 <| Tg x3 <| Tg x4 <| Tg x5 <| Tg x6 <| Tg x7 <| (Q->P):=by
 refine tg fun y1 h1=>?_
 try rw[h1]
 refine tg fun y2 h2=>?_
 try rw[h2]
 refine tg fun y3 h3=>?_
 try rw[h3]
 refine tg fun y4 h4=>?_
 try rw[h4]
 refine tg fun y5 h5=>?_
 try rw[h5]
 refine tg fun y6 h6=>?_
 try rw[h6]
 refine tg fun y7 h7=>?_
 try rw[h7]
 generalize hp:std=p
 first
  |(generalize hT:Q4 p tys _ _ _ _ _=T;with_unfolding_all cbv at hT;subst hT)
  |(generalize hT:Q53 p tys _ _ _ _=T;with_unfolding_all cbv at hT;subst hT)
 intro k;simp only[Tree.ok,Q1,S0];subst hp h1 h2 h3 h4 h5 h6 h7;exact k):P:=h k
theorem cv8 {a1 a2 a3 a4 a5 a6 a7 a8:Type} (x1:a1) (x2:a2) (x3:a3) (x4:a4) (x5:a5) (x6:a6) (x7:a7) (x8:a8) {Q P:Prop} (k:Q) (h:Tg x1 <| Tg x2 <| Tg x3 <| Tg x4 <| Tg x5 <| Tg x6 <| Tg x7 <| Tg x8 <| (Q->P):=by
 refine tg fun y1 h1=>?_
 try rw[h1]
 refine tg fun y2 h2=>?_
 try rw[h2]
 refine tg fun y3 h3=>?_
 try rw[h3]
 refine tg fun y4 h4=>?_
 try rw[h4]
 refine tg fun y5 h5=>?_
 try rw[h5]
 refine tg fun y6 h6=>?_
 try rw[h6]
 refine tg fun y7 h7=>?_
 try rw[h7]
 refine tg fun y8 h8=>?_
 try rw[h8]
 generalize hp:std=p
 first
  |(generalize hT:Q4 p tys _ _ _ _ _=T;with_unfolding_all cbv at hT;subst hT)
  |(generalize hT:Q53 p tys _ _ _ _=T;with_unfolding_all cbv at hT;subst hT)
 intro k;simp only[Tree.ok,Q1,S0];subst hp h1 h2 h3 h4 h5 h6 h7 h8;exact k):P:=h k
theorem cv9 {a1 a2 a3 a4 a5 a6 a7 a8 a9:Type} (x1:a1) (x2:a2) (x3:a3) (x4:a4) (x5:a5) (x6:a6) (x7:a7) (x8:a8) (x9:a9) {Q P:Prop} (k:Q) (h:Tg x1 <| Tg x2 <| Tg x3 <| Tg x4 <| Tg x5 <| Tg x6 <| Tg x7 <| Tg x8 <| Tg x9 <| (Q->P):=by
 refine tg fun y1 h1=>?_
 try rw[h1]
 refine tg fun y2 h2=>?_
 try rw[h2]
 refine tg fun y3 h3=>?_
 try rw[h3]
 refine tg fun y4 h4=>?_
 try rw[h4]
 refine tg fun y5 h5=>?_
 try rw[h5]
 refine tg fun y6 h6=>?_
 try rw[h6]
 refine tg fun y7 h7=>?_
 try rw[h7]
 refine tg fun y8 h8=>?_
 try rw[h8]
 refine tg fun y9 h9=>?_
 try rw[h9]
 generalize hp:std=p
 first
  |(generalize hT:Q4 p tys _ _ _ _ _=T;with_unfolding_all cbv at hT;subst hT)
  |(generalize hT:Q53 p tys _ _ _ _=T;with_unfolding_all cbv at hT;subst hT)
 intro k;simp only[Tree.ok,Q1,S0];subst hp h1 h2 h3 h4 h5 h6 h7 h8 h9;exact k):P:=h k
theorem Qqc {a1 a2 a3 a4 a5 a6 a7 a8 a9 a10:Type} (x1:a1) (x2:a2) (x3:a3) (x4:a4) (x5:a5) (x6:a6) (x7:a7) (x8:a8) (x9:a9) (x10:a10) {Q P:Prop} (k:Q) (h:Tg x1 <| Tg x2 <| Tg x3 <| Tg x4 <| Tg x5 <| Tg x6 <| Tg x7 <| Tg x8 <| Tg x9 <| Tg x10 <| (Q->P):=by
 refine tg fun y1 h1=>?_
 try rw[h1]
 refine tg fun y2 h2=>?_
 try rw[h2]
 refine tg fun y3 h3=>?_
 try rw[h3]
 refine tg fun y4 h4=>?_
 try rw[h4]
 refine tg fun y5 h5=>?_
 try rw[h5]
 refine tg fun y6 h6=>?_
 try rw[h6]
 refine tg fun y7 h7=>?_
 try rw[h7]
 refine tg fun y8 h8=>?_
 try rw[h8]
 refine tg fun y9 h9=>?_
 try rw[h9]
 refine tg fun y10 qh=>?_
 try rw[qh]
 generalize hp:std=p
 first
  |(generalize hT:Q4 p tys _ _ _ _ _=T;with_unfolding_all cbv at hT;subst hT)
  |(generalize hT:Q53 p tys _ _ _ _=T;with_unfolding_all cbv at hT;subst hT)
 intro k;simp only[Tree.ok,Q1,S0];subst hp h1 h2 h3 h4 h5 h6 h7 h8 h9 qh;exact k):P:=h k
theorem aU {H0 G Q:Prop} (H:H0) (k:Q) (h:H0->Q->G:=by
 intro H k
 first
  |(with_reducible refine And.intro (fun hx=>absurd hx (by first|(try simp[std,S1,H])<;>omega|omega)) (fun _=>k))
  |(with_reducible refine And.intro (fun _=>k) (fun hx=>absurd hx (by first|(try simp[std,S1,H])<;>omega|omega)))
  |(with_reducible refine And.intro (by first|(try simp[std,S1,H])<;>omega|omega) k)):G:=h H k
theorem aC {H0 G Q:Prop} (H:H0) (k:Q) (h:H0->Q->G:=by
 intro H k
 first
  |(with_reducible refine And.intro (fun hx=>absurd hx (by (first|(simp[H];done)|omega))) (fun _=>k))
  |(with_reducible refine And.intro (fun _=>k) (fun hx=>absurd hx (by (first|(simp[H];done)|omega))))):G:=h H k
theorem eq0 {P:Prop} (h:P:=by
 repeat first
  |exact trivial
  |refine⟨rfl,?_⟩):P:=h
theorem eq1 {H1 P:Prop} (e1:H1) (h:H1->P:=by
 intro e1
 repeat first
  |exact trivial
  |refine⟨rfl,?_⟩
  |refine⟨e1,?_⟩
  |refine⟨gI e1,?_⟩
  |refine⟨gA e1,?_⟩
  |refine⟨gB e1,?_⟩
  |refine⟨gR e1,?_⟩
  |refine⟨gT e1,?_⟩):P:=h e1
theorem eq2 {H1 H2 P:Prop} (e1:H1) (e2:H2) (h:H1->H2->P:=by
 intro e1 e2
 repeat first
  |exact trivial
  |refine⟨rfl,?_⟩
  |refine⟨e1,?_⟩
  |refine⟨gI e1,?_⟩
  |refine⟨gA e1,?_⟩
  |refine⟨gB e1,?_⟩
  |refine⟨gR e1,?_⟩
  |refine⟨gT e1,?_⟩
  |refine⟨e2,?_⟩
  |refine⟨gI e2,?_⟩
  |refine⟨gA e2,?_⟩
  |refine⟨gB e2,?_⟩
  |refine⟨gR e2,?_⟩
  |refine⟨gT e2,?_⟩):P:=h e1 e2
theorem eq3 {H1 H2 H3 P:Prop} (e1:H1) (e2:H2) (e3:H3) (h:H1->H2->H3->P:=by
 intro e1 e2 e3
 repeat first
  |exact trivial
  |refine⟨rfl,?_⟩
  |refine⟨e1,?_⟩
  |refine⟨gI e1,?_⟩
  |refine⟨gA e1,?_⟩
  |refine⟨gB e1,?_⟩
  |refine⟨gR e1,?_⟩
  |refine⟨gT e1,?_⟩
  |refine⟨e2,?_⟩
  |refine⟨gI e2,?_⟩
  |refine⟨gA e2,?_⟩
  |refine⟨gB e2,?_⟩
  |refine⟨gR e2,?_⟩
  |refine⟨gT e2,?_⟩
  |refine⟨e3,?_⟩
  |refine⟨gI e3,?_⟩
  |refine⟨gA e3,?_⟩
  |refine⟨gB e3,?_⟩
  |refine⟨gR e3,?_⟩
  |refine⟨gT e3,?_⟩):P:=h e1 e2 e3
theorem eq4 {H1 H2 H3 H4 P:Prop} (e1:H1) (e2:H2) (e3:H3) (e4:H4) (h:H1->H2->H3->H4->P:=by
 intro e1 e2 e3 e4
 repeat first
  |exact trivial
  |refine⟨rfl,?_⟩
  |refine⟨e1,?_⟩
  |refine⟨gI e1,?_⟩
  |refine⟨gA e1,?_⟩
  |refine⟨gB e1,?_⟩
  |refine⟨gR e1,?_⟩
  |refine⟨gT e1,?_⟩
  |refine⟨e2,?_⟩
  |refine⟨gI e2,?_⟩
  |refine⟨gA e2,?_⟩
  |refine⟨gB e2,?_⟩
  |refine⟨gR e2,?_⟩
  |refine⟨gT e2,?_⟩
  |refine⟨e3,?_⟩
  |refine⟨gI e3,?_⟩
  |refine⟨gA e3,?_⟩
  |refine⟨gB e3,?_⟩
  |refine⟨gR e3,?_⟩
  |refine⟨gT e3,?_⟩
  |refine⟨e4,?_⟩
  |refine⟨gI e4,?_⟩
  |refine⟨gA e4,?_⟩
  |refine⟨gB e4,?_⟩
  |refine⟨gR e4,?_⟩
  |refine⟨gT e4,?_⟩):P:=h e1 e2 e3 e4
theorem eq6 {H1 H2 H3 H4 H5 H6 P:Prop} (e1:H1) (e2:H2) (e3:H3) (e4:H4) (e5:H5) (e6:H6) (h:H1->H2->H3->H4->H5->H6->P:=by
 intro e1 e2 e3 e4 e5 e6
 repeat first
  |exact trivial
  |refine⟨rfl,?_⟩
  |refine⟨e1,?_⟩
  |refine⟨gI e1,?_⟩
  |refine⟨gA e1,?_⟩
  |refine⟨gB e1,?_⟩
  |refine⟨gR e1,?_⟩
  |refine⟨gT e1,?_⟩
  |refine⟨e2,?_⟩
  |refine⟨gI e2,?_⟩
  |refine⟨gA e2,?_⟩
  |refine⟨gB e2,?_⟩
  |refine⟨gR e2,?_⟩
  |refine⟨gT e2,?_⟩
  |refine⟨e3,?_⟩
  |refine⟨gI e3,?_⟩
  |refine⟨gA e3,?_⟩
  |refine⟨gB e3,?_⟩
  |refine⟨gR e3,?_⟩
  |refine⟨gT e3,?_⟩
  |refine⟨e4,?_⟩
  |refine⟨gI e4,?_⟩
  |refine⟨gA e4,?_⟩
  |refine⟨gB e4,?_⟩
  |refine⟨gR e4,?_⟩
  |refine⟨gT e4,?_⟩
  |refine⟨e5,?_⟩
  |refine⟨gI e5,?_⟩
  |refine⟨gA e5,?_⟩
  |refine⟨gB e5,?_⟩
  |refine⟨gR e5,?_⟩
  |refine⟨gT e5,?_⟩
  |refine⟨e6,?_⟩
  |refine⟨gI e6,?_⟩
  |refine⟨gA e6,?_⟩
  |refine⟨gB e6,?_⟩
  |refine⟨gR e6,?_⟩
  |refine⟨gT e6,?_⟩):P:=h e1 e2 e3 e4 e5 e6
theorem QpA:prog.follows .mixedOrders=true:=by kernel_rfl
theorem fnO(keep:Bool)(cs:Nat->List AV->List Ob->Option (AV×List Ob))(ord:Nat->OT){f:Nat}{fn:Func}{c:Code}{args:List AV}{ob:List Ob}{res:AV}{ob':List Ob}(hf:prog.funcs[f]?=some fn)(hb:fn.body=some c)(h:∀w0 g0,(Q4 std tys cs ord c (Q53 std tys keep fn.results.toList) ⟨ent 0 args,ob⟩).ok prog w0 g0 ob fn.ntmps (FinOk ob res ob'))
  (hk : (Nat.ble args.length fn.ntmps && (Q4p fn.ntmps c && (Q40 .any tys ord c && !(fn.name == "runtime.NumGoroutine")))) = true := by kernel_rfl) : BCall prog f args ob res ob' := by
 simp only[Bool.and_eq_true,Bool.not_eq_true']at hk;exact Qcg keep Q6k QpA hf hb (enters_of hf hk.2.2.2 hb) (Nat.le_of_ble_eq_true hk.1) hk.2.1 hk.2.2.1 h
theorem fnN(cs:Nat->List AV->List Ob->Option (AV×List Ob)){f:Nat}{fn:Func}{c:Code}{args:List AV}{ob:List Ob}{res:AV}{ob':List Ob}(hf:prog.funcs[f]?=some fn)(hb:fn.body=some c)(h:∀w0 g0,(Q4 std tys cs (fun _=>.nil) c (Q53 std tys false fn.results.toList) ⟨ent 0 args,ob⟩).ok prog w0 g0 ob fn.ntmps (FinOk ob res ob'))
  (hk : (Nat.ble args.length fn.ntmps && (Q4p fn.ntmps c && (Q40 .any tys (fun _ => .nil) c && !(fn.name == "runtime.NumGoroutine")))) = true := by kernel_rfl) : BCall prog f args ob res ob' :=
 fnO false cs _ hf hb h hk
theorem Q1h{w0:World}{g0:Gh}{o0:List Ob}{N:Nat}(cs:Nat->List AV->List Ob->Option (AV×List Ob)){c:Code}(X:Type)(S:X->St)(J:X->Prop)(μ:X->Nat){Q:Ex->St->Prop}{s:St}(x0:X)(h0:J x0)(hS:Qn2 o0 s (S x0))
  (round:∀x,J x->(Q4 std tys cs (fun _=>.nil) c (fun e s=>.leaf e s) (S x)).ok prog w0 g0 o0 N (Q1 o0 S J μ x Q)) (hk:(Q4p N c&&Q40 .any tys (fun _=>.nil) c)=true:=by kernel_rfl):WP prog w0 g0 o0 N (.loop c) Q s:=by
 rw[Bool.and_eq_true]at hk;exact Qcq Q6k QpA hk.1 hk.2 S J μ x0 h0 hS round
theorem Quc{w0:World}{g0:Gh}{o0:List Ob}{N:Nat}(cs:Nat->List AV->List Ob->Option (AV×List Ob))(ord:Nat->OT){c:Code}(X:Type)(S:X->St)(J:X->Prop)(μ:X->Nat){Q:Ex->St->Prop}{s:St}(x0:X)(h0:J x0)(hS:Qn2 o0 s (S x0))
  (round:∀x,J x->(Q4 std tys cs ord c (fun e s=>.leaf e s) (S x)).ok prog w0 g0 o0 N (Q1 o0 S J μ x Q)) (hk:(Q4p N c&&Q40 .any tys ord c)=true:=by kernel_rfl):WP prog w0 g0 o0 N (.loop c) Q s:=by
 rw[Bool.and_eq_true]at hk;exact Qcq Q6k QpA hk.1 hk.2 S J μ x0 h0 hS round
def Len{α:Type}(xs:List α)(n:Int):Prop:=n=xs.length
theorem Len.eq{α:Type}{xs:List α}{n:Int}(h:Len xs n):n=(xs.length:Int):=h
theorem Q15{l:List Int}{n:Int}(h:Len l n):(((Q0 l).length:Nat):Int)=n:=by rw[Qx];exact h.symm
theorem QE{α:Type}(xs:List α):∃n,Len xs n:=⟨_,rfl⟩
def cs0:Nat->List AV->List Ob->Option (AV×List Ob):=fun _ _ _=>none
theorem Q83(xs:List AV)(hn:xs.length<=1000000000):BCall prog 86 [.slc 1 xs] [] (.slc 1 xs) []:=by
 refine fnN (cs0) func86 rfl fun _ _=>?_
 with_reducible refine cv0 ?_
 refine⟨fun h=>.pure rfl ?_,?_,.pure rfl (.inl rfl)⟩
 ·have h:xs=[]:=h
  subst h;exact .inr (.inl ⟨rfl,_,rfl⟩)
 ·show 0+xs.length<=1000000000
  omega
theorem QjT(xs:List AV)(hn:xs.length<=1000000000):BCall prog 214 [.slc 1 xs] [] (.slc 1 xs) []:=by
 refine fnN (cs0) func214 rfl fun _ _=>?_
 with_reducible refine cv0 ?_
 refine⟨fun h=>.pure rfl ?_,?_,.pure rfl (.inl rfl)⟩
 ·have h:xs=[]:=h
  subst h;exact .inr (.inl ⟨rfl,_,rfl⟩)
 ·show 0+xs.length<=1000000000
  omega
theorem Qfo(xs:List AV)(hn:xs.length<=1000000000):BCall prog 121 [.slc 1 xs] [] (.slc 1 xs) []:=by
 refine fnN (cs0) func121 rfl fun _ _=>?_
 with_reducible refine cv0 ?_
 refine⟨fun h=>.pure rfl ?_,?_,.pure rfl (.inl rfl)⟩
 ·have h:xs=[]:=h
  subst h;exact .inr (.inl ⟨rfl,_,rfl⟩)
 ·show 0+xs.length<=1000000000
  omega
