/-
  Parts of the proof, joined: Av Aw Ty Ax Ay Az Da Kid. Conditions: as each theorem says.
-/
import Derived.Test.YtibemhahkicbpaaGreatQI08
import Derived.Laws.Sem
import Derived.Test.YtibemhahkicbpaaGreatProg
import Derived.Shelf.Abstract
set_option maxRecDepth 100000
set_option maxHeartbeats 8000000
namespace Go.Proofs.YtibemhahkicbpaaGreat
open Go.RowKit Go.Lib
def ent:Nat→List AV→List (Nat×AV)
 |_,[]=>[]
 |k,x::r=>(k,x)::ent (k+1) r
theorem Qdv (t:Nat):∀ (l:List AV) (k:Nat),lk t (ent k l)=if k≤t then l.getD (t-k) .dead else .dead
 | [],k=>by simp[ent,lk]
 |x::r,k=>by
  simp only[ent,lk]
  by_cases h:t=k
  ·subst h;simp
  ·rw[if_neg h,Qdv t r (k+1)]
   by_cases h2:k≤t
   ·have e:t-k=(t-(k+1))+1:=by omega
    rw[if_pos (by omega),if_pos h2,e,List.getD_cons_succ]
   ·rw[if_neg (by omega),if_neg h2]
def Qav (tmps:Array Value)(rv:ResultVar):Sem Value:=match rv with
 |.tmp t=>pure (tmps.getD t undef)
 |.cell a t=>do loadVar t (←asAddr (tmps.getD a undef))
theorem QcG (fn:Func)(tmps:Array Value):results fn tmps=(do let vs ←fn.results.mapM (Qav tmps);pure (if h:vs.size=1 then vs[0] else .tuple vs)):=by
 unfold results
 congr 1
section
variable {P:Program} {ty:Tys} {w0 w:World} {g0 g:Gh} {o0:List Ob} {N:Nat} {s:St} {a:Act}
theorem QiQ (hT:TyOk P ty)(M:Mem w g s.ob)(hS:Q11 w g s a){rv:ResultVar}{x:AV}(h:Q8c ty s rv=some x) :
  ∃ v,Sem.run P (Qav a.tmps rv) w=.ok v w∧ARel w g s.ob v x:=by
 cases rv with
 |tmp t =>
  refine⟨a.tmps.getD t undef,rfl,?_⟩
  have hr:=hS t
  simp only[Q8c] at h
  split at h
  ·rename_i b hb
   obtain rfl:AV.val (.bool b)=x:=by simpa using h
   rw[hb] at hr
   have e:a.tmps.getD t undef=.bool b:=hr
   rw[e]
   exact PRel.to (.val _ rfl)
  ·cases h
  ·obtain rfl:lk t s.tm=x:=by simpa using h
   exact hr
 |cell b T =>
  simp only[Q8c] at h
  split at h
  ·rename_i cs hcs
   by_cases hk:(Q3 T ty).ok=true∧(if (Q3 T ty).agg then (Q3 T ty).size else 1)≤cs.length
   ·rw[if_pos hk] at h
    cases h
    obtain⟨bl,of,hv,hc⟩:=Q7x M (hS b) hcs
    obtain⟨v,h1,h2⟩:=Q6e (g:=g) hT hk.1 hc hk.2
    refine⟨v,?_,h2⟩
    have h3:=h1 w (LeB.refl w)
    show (asAddr (a.tmps.getD b undef) >>= fun p=>loadVar T p).run P w=_
    rw[hv]
    simpa[asAddr] using h3
   ·rw[if_neg hk] at h;cases h
  ·cases h
theorem Qbb (hT:TyOk P ty)(M:Mem w g s.ob)(hS:Q11 w g s a):∀ (rs:List ResultVar) (xs:List AV),Q4l (rs.map (Q8c ty s))=some xs →
  ∃ vs,Sem.run P (rs.mapM (Qav a.tmps)) w=.ok vs w∧vs.length=xs.length ∧
   ∀ (j:Nat) v x,vs[j]?=some v→xs[j]?=some x→ARel w g s.ob v x
 | [],xs,h=>by
  obtain rfl:[]=xs:=by simpa[Q4l] using h
  exact⟨[],rfl,rfl,fun j v x h=>by simp at h⟩
 |rv::rs,xs,h=>by
  cases h1:Q8c ty s rv with
  |none=>simp[Q4l,h1] at h
  |some x =>
   simp only[List.map_cons,h1,Q4l,Option.map_eq_some_iff] at h
   obtain⟨ys,h2,rfl⟩:=h
   obtain⟨v,hv,hr⟩:=QiQ hT M hS h1
   obtain⟨vs,hvs,hl,hrs⟩:=Qbb hT M hS rs ys h2
   refine⟨v::vs,?_,by simp[hl],fun j y u hy hu=>?_⟩
   ·simp only[List.mapM_cons,Sem.run_bind,hv,hvs,Result.andThen_ok,Sem.run_pure]
   ·cases j with
    |zero =>
     obtain rfl:v=y:=by simpa using hy
     obtain rfl:x=u:=by simpa using hu
     exact hr
    |succ j=>exact hrs j y u (by simpa using hy) (by simpa using hu)
theorem QaC (hT:TyOk P ty){keep:Bool}{fn:Func}(hs:Sim w0 g0 o0 N s a w){res:AV}{ob':List Ob}(h:Q6p std ty keep fn.results.toList s=some (res,ob')) :
  ∃ v g',(results fn a.tmps).run P w=.ok v w∧Mem w g' ob'∧ARel w g' ob' v res∧Step w0 g0 o0 w g' ob':=by
 obtain⟨g,M,hS,h0⟩:=hs.rel
 unfold Q6p at h
 cases hx:Q4l (fn.results.toList.map (Q8c ty s)) with
 |none=>rw[hx] at h;cases h
 |some xs =>
  rw[hx] at h
  obtain⟨vs,hvs,hl,hrs⟩:=Qbb hT M hS _ _ hx
  have hrun:(results fn a.tmps).run P w=.ok (if h:vs.toArray.size=1 then vs.toArray[0] else .tuple vs.toArray) w:=by
   rw[QcG,Array.mapM_eq_mapM_toList,Sem.run_bind]
   have:(List.toArray <$> (fn.results.toList.mapM (Qav a.tmps))).run P w=.ok vs.toArray w:=by
    rw[map_eq_pure_bind,Sem.run_bind,hvs];rfl
   rw[this];rfl
  have many:xs.length≠1→(Q3i (frz std keep 9) s.ob xs).map (fun (ys,ob)=>(AV.tup ys,ob))=some (res,ob') →
    ∃ v g',(results fn a.tmps).run P w=.ok v w∧Mem w g' ob'∧ARel w g' ob' v res∧Step w0 g0 o0 w g' ob':=fun hne h=>by
   simp only[Option.map_eq_some_iff] at h
   obtain⟨⟨ys,ob1⟩,h1,h2⟩:=h
   cases h2
   have hL:Q2L w g s.ob vs xs:=⟨hl,fun j v x hv hx=>(hrs j v x hv hx).to1 (Q5u _ _ _ _ h1 _ (List.mem_of_getElem? hx))⟩
   obtain⟨g',M',E',R',L'⟩:=QhY _ _ g s.ob ys ob1 M hL h1
   refine⟨_,g',hrun,M',?_,h0.trans (Step.ghost E' L')⟩
   have:¬ vs.toArray.size=1:=by simp;omega
   rw[dif_neg this]
   exact⟨vs.toArray,rfl,by simpa using R'.1,fun j y u hy hu=>R'.2 j y u (by simpa using hy) hu⟩
  cases xs with
  |nil=>exact many (by simp) h
  |cons x r =>
   cases r with
   |cons x' r'=>exact many (by simp) h
   |nil =>
    obtain⟨v,rfl⟩:∃ v,vs=[v]:=List.length_eq_one_iff.1 (by simpa using hl)
    obtain⟨g',M',E',R',L'⟩:=Qhf M (hrs 0 v x rfl rfl) h
    exact⟨v,g',hrun,M',R',h0.trans (Step.ghost E' L')⟩
end
def leC (x y:AV):Prop:=x=y∨(x=.val (.slice none 0 0)∧∃ sz,y=.slc sz [])∨(y=.opt x∧Q3A x)∨x=.opt y
def leL:List AV→List AV→Prop
 | [],[]=>True
 |x::r,y::r'=>leC x y∧leL r r'
 |_,_=>False
def QbE:AV→AV→Prop
 |.agg xs,.agg ys=>leL xs ys
 |.agg _,_=>False
 |.tup _,_=>False
 |_,.agg _=>False
 |_,.tup _=>False
 |x,y=>leC x y
def leT:List AV→List AV→Prop
 | [],[]=>True
 |x::r,y::r'=>QbE x y∧leT r r'
 |_,_=>False
def leA (x y:AV):Prop:=match x with
 |.tup xs=>(match y with
  |.tup ys=>leT xs ys
  |_=>False)
 |x=>QbE x y
section
variable {w:World} {g:Gh} {ob:List Ob}
theorem Qee {v:Value}{x y:AV}(h:ARel0 w g ob v x)(hl:leC x y):ARel0 w g ob v y:=by
 rcases hl with rfl|⟨rfl,sz,rfl⟩|⟨rfl,hp⟩|rfl
 ·exact h
 ·cases (show v=_ from ARel.valEq (g:=g) (w:=w) (ob:=ob) h)
  exact PRel.nil sz
 ·have:PRel w g.A v x:=by
   cases x with
   |val _=>exact h
   |ref _=>exact h
   |opt _=>exact h
   |_=>exact (show False from hp).elim
  exact PRel.opt _ _ this hp
 ·exact (PRel.ofOpt (show PRel w g.A v (.opt y) from h)).1.to0
theorem QdC:∀ {vs:List Value} {xs ys:List AV},ARelC w g ob vs xs→leL xs ys→ARelC w g ob vs ys
 |vs,[],[],h,_=>h
 |_,[],_::_,_,hl=>hl.elim
 |_,_::_,[],_,hl=>hl.elim
 | [],x::r,y::r',h,_=>absurd h.1 (by simp)
 |v::vs,x::r,y::r',h,hl=>by
  have h1:=h.2 0 v x rfl rfl
  have h2:ARelC w g ob vs r':=QdC (xs:=r) ⟨by simpa using h.1,fun j a b ha hb=>h.2 (j+1) a b (by simpa using ha) (by simpa using hb)⟩ hl.2
  refine⟨by simp[h2.1],fun j a b ha hb=>?_⟩
  cases j with
  |zero =>
   obtain rfl:v=a:=by simpa using ha
   obtain rfl:y=b:=by simpa using hb
   exact⟨Qee h1.1 hl.1,h1.2⟩
  |succ j=>exact h2.2 j a b (by simpa using ha) (by simpa using hb)
theorem ARel1.to0 {v:Value}{x:AV}(h:ARel1 w g ob v x)(hn:∀ cs,x≠.agg cs):ARel0 w g ob v x:=by cases x<;>first|exact h|exact absurd rfl (hn _)
theorem Q8o {v:Value}{x y:AV}(h:ARel1 w g ob v x)(hl:QbE x y):ARel1 w g ob v y:=by
 cases x with
 |agg xs =>
  cases y with
  |agg ys=>obtain⟨vs,rfl,h⟩:=h;exact⟨vs,rfl,QdC h hl⟩
  |_=>exact (show False from hl).elim
 |tup _=>exact (show False from hl).elim
 |_=>cases y<;>first|exact (show False from hl).elim|exact (Qee (h.to0 (fun cs h=>by cases h)) hl).to1
theorem Q7Q {v:Value}{x y:AV}(h:ARel w g ob v x)(hl:leA x y):ARel w g ob v y:=by
 cases x with
 |tup xs =>
  cases y with
  |tup ys =>
   obtain⟨vs,rfl,h1,h2⟩:=h
   have key:∀ (xs ys:List AV) (vs:List Value),leT xs ys→vs.length=xs.length→(∀ (j:Nat) y u,vs[j]?=some y→xs[j]?=some u→ARel1 w g ob y u)→vs.length=ys.length∧∀ (j:Nat) y u,vs[j]?=some y→ys[j]?=some u→ARel1 w g ob y u:=by
    intro xs
    induction xs with
    |nil =>
     intro ys vs hl hn hr
     cases ys with
     |nil=>exact⟨hn,hr⟩
     |cons _ _=>exact (show False from hl).elim
    |cons x r ih =>
     intro ys vs hl hn hr
     cases ys with
     |nil=>exact (show False from hl).elim
     |cons y r' =>
      cases vs with
      |nil=>simp at hn
      |cons v vs =>
       obtain⟨h3,h4⟩:=ih r' vs hl.2 (by simpa using hn) (fun j a b ha hb=>hr (j+1) a b (by simpa using ha) (by simpa using hb))
       refine⟨by simp[h3],fun j a b ha hb=>?_⟩
       cases j with
       |zero =>
        obtain rfl:v=a:=by simpa using ha
        obtain rfl:y=b:=by simpa using hb
        exact Q8o (hr 0 v x rfl rfl) hl.1
       |succ j=>exact h4 j a b (by simpa using ha) (by simpa using hb)
   obtain⟨h3,h4⟩:=key xs ys vs.toList hl (by simpa using h1) (fun j a b ha hb=>h2 j a b (by simpa using ha) hb)
   exact⟨vs,rfl,by simpa using h3,fun j a b ha hb=>h4 j a b (by simpa using ha) hb⟩
  |_=>exact (show False from hl).elim
 |_=>exact (Q8o (h.to1' (fun xs h=>by cases h)) (show QbE _ y from hl)).to
end
def Q9Y (ob ob':List Ob)(ρ:List (Option Nat)):List AV→List AV→Option Eqs
 | [],[]=>some []
 |x::r,x'::r'=>both (Q9g ob ob' ρ x x') (Q9Y ob ob' ρ r r')
 |_,_=>none
def Qf7 (ob ob':List Ob)(ρ:List (Option Nat))(x x':AV):Option Eqs:=match x with
 |.tup xs=>(match x' with
  |.tup ys=>Q9Y ob ob' ρ xs ys
  |_=>none)
 |x=>Q9g ob ob' ρ x x'
section
variable {w w0:World} {g g0:Gh} {ob ob' o0:List Ob} {ρ:List (Option Nat)}
theorem QcV {x x':AV}{l:Eqs}(he:Q9g ob ob' ρ x x'=some l):∀ xs,x'≠.tup xs:=by
 rintro xs rfl
 cases he
theorem Q72 (hF:Fits ob ob' ρ)(ho:Q2a ρ=true):∀ (xs ys:List AV) (vs:List Value) (l:Eqs),Q9Y ob ob' ρ xs ys=some l→Qh l→vs.length=xs.length→(∀ (j:Nat) y u,vs[j]?=some y→xs[j]?=some u→ARel1 w g ob y u) →
  vs.length=ys.length∧∀ (j:Nat) y u,vs[j]?=some y→ys[j]?=some u→ARel1 w (g.ren ρ) ob' y u
 | [],[],vs,_,_,_,hn,_=>⟨hn,fun j y u _ h=>by simp at h⟩
 | [],_::_,_,_,h,_,_,_=>by cases h
 |_::_,[],_,_,h,_,_,_=>by cases h
 |x::r,y::r',vs,l,h,hl,hn,hr=>by
  cases vs with
  |nil=>simp at hn
  |cons v vs =>
   obtain⟨⟨l1,h1,hl1⟩,l2,h2,hl2⟩:=Q2m h hl
   obtain⟨h3,h4⟩:=Q72 hF ho r r' vs l2 h2 hl2 (by simpa using hn) (fun j a b ha hb=>hr (j+1) a b (by simpa using ha) (by simpa using hb))
   refine⟨by simp[h3],fun j a b ha hb=>?_⟩
   cases j with
   |zero =>
    obtain rfl:v=a:=by simpa using ha
    obtain rfl:y=b:=by simpa using hb
    exact (Q6G hF ho (hr 0 v x rfl rfl).to h1 hl1).to1' (QcV h1)
   |succ j=>exact h4 j a b (by simpa using ha) (by simpa using hb)
theorem Q8k (hF:Fits ob ob' ρ)(ho:Q2a ρ=true){v:Value}{x x':AV}{l:Eqs}(h:ARel w g ob v x)(he:Qf7 ob ob' ρ x x'=some l)(hl:Qh l):ARel w (g.ren ρ) ob' v x':=by
 cases x with
 |tup xs =>
  cases x' with
  |tup ys =>
   obtain⟨vs,rfl,h1,h2⟩:=h
   obtain⟨h3,h4⟩:=Q72 hF ho xs ys vs.toList l he hl (by simpa using h1) (fun j a b ha hb=>h2 j a b (by simpa using ha) hb)
   exact⟨vs,rfl,by simpa using h3,fun j a b ha hb=>h4 j a b (by simpa using ha) hb⟩
  |_=>cases he
 |_=>exact Q6G hF ho h he hl
theorem Qbt (hF:Fits ob ob' ρ)(ho:Q2a ρ=true)(hh:Qcl o0 ob ob' ρ=true)(hn:o0.length≤ρ.length)(h0:Step w0 g0 o0 w g ob):Step w0 g0 o0 w (g.ren ρ) ob':=by
 have head:∀ j,j<o0.length→ρ[j]?=some (some j):=fun j hj=>by
  have:=List.all_eq_true.1 hh j (List.mem_range.2 hj)
  simp only[Bool.and_eq_true,beq_iff_eq] at this
  exact this.1
 refine⟨h0.os,h0.tape,h0.output,h0.size,h0.keep,fun b id hG=>?_,h0.imm,⟨h0.ext.A,fun id hid=>?_,fun id hb=>?_,fun id hb=>?_,fun id et sz fz e xs hr=>?_,fun b id hG hs=>?_⟩,?_⟩
 ·obtain⟨i,_,h3⟩:=Q2n hG
  exact h0.own b i h3
 ·rw[Q2z (head id hid)];exact h0.ext.loc id hid
 ·exact hF.isB (head id (Q3h hb)) (h0.ext.isb id hb)
 ·exact hF.isI (head id (Q3T hb)) (h0.ext.isi id hb)
 ·have hid:=Q7 hr
  obtain⟨fz1,e1,xs1,h3,h4,h5⟩:=h0.ext.row id et sz fz e xs hr
  obtain⟨fz2,e2,h6,_⟩:=hF.row (head id hid) h3
  have he:e1=e2∨e<e2:=by
   have:=List.all_eq_true.1 hh id (List.mem_range.2 hid)
   simp only[Bool.and_eq_true,hr,h3,h6,beq_iff_eq,Bool.or_eq_true,decide_eq_true_eq] at this
   exact this.2
  rcases he with he|he
  rotate_left
  ·exact⟨fz2,e2,xs1,h6,by omega,fun hee=>by omega⟩
  subst he
  exact⟨fz2,e1,xs1,h6,h4,fun hee=>⟨(h5 hee).1,fun b hb=>⟨Q56 ho (head id hid) ((h5 hee).2 b hb).1,((h5 hee).2 b hb).2⟩⟩⟩
 ·obtain⟨et,sz,fz,fz',e,xs,xs',h3,h4⟩:=hs
  have hid:=Q7 h3
  obtain⟨fz1,e1,xs1,h5,h6,h7⟩:=h0.ext.row id et sz fz e xs h3
  obtain⟨fz2,e2,h8,_⟩:=hF.row (head id hid) h5
  rw[h8] at h4
  obtain⟨rfl,rfl,rfl⟩:fz2=fz'∧e2=e∧xs1=xs':=by simpa using h4
  have he:e1=e2:=by
   have:=List.all_eq_true.1 hh id (List.mem_range.2 hid)
   simp only[Bool.and_eq_true,h3,h5,h8,beq_iff_eq,Bool.or_eq_true,decide_eq_true_eq] at this
   omega
  subst he
  obtain⟨h9,h10⟩:=h0.ext.sub b id hG ⟨_,_,_,_,_,_,_,h3,h5⟩
  have h11:=Q3s (g:=g) ho (head id hid) ((h7 rfl).2 b hG).1
  exact⟨h11.trans h9,h10⟩
 ·rw[←hF.1];exact hn
end
def FinOk (o0:List Ob)(res:AV)(ob':List Ob)(_:Ex)(s:St):Prop:=match s.tm with
 | [(_,r)]=>∃ ρ r' l,Q2a ρ=true∧Qcl o0 s.ob ob' ρ=true∧o0.length≤ρ.length∧both (Qf7 s.ob ob' ρ r r') (Q6s s.ob ob' ρ ρ ob')=some l∧Qh l∧leA r' res
 |_=>False
def QkY:AV→Bool
 |.tup xs=>xs.all AV.pur
 |x=>x.pur
theorem Q48 {ob:List Ob}{ρ:List (Option Nat)}{x:AV}(h:x.pur0=true):∃ l,Q4r ob [] ρ x x=some l∧Qh l:=by
 cases x with
 |val v=>cases v<;>exact⟨_,rfl,rfl,trivial⟩
 |slc _ _=>exact⟨_,rfl,rfl,trivial⟩
 |ref _=>exact⟨_,rfl,rfl,trivial⟩
 |opt _=>exact⟨_,rfl,rfl,trivial⟩
 |_=>cases h
theorem Q3w {ob:List Ob}{ρ:List (Option Nat)}{x:AV}(h:x.pur=true):∃ l,Q9g ob [] ρ x x=some l∧Qh l:=by
 cases x with
 |agg cs =>
  have key:∀ cs:List AV,cs.all AV.pur0=true→∃ l,Qb1 ob [] ρ cs cs=some l∧Qh l:=by
   intro cs
   induction cs with
   |nil=>intro _;exact⟨[],rfl,trivial⟩
   |cons x r ih =>
    intro h
    simp only[List.all_cons,Bool.and_eq_true] at h
    obtain⟨l1,h1,h2⟩:=Q48 (ob:=ob) (ρ:=ρ) h.1
    obtain⟨l2,h3,h4⟩:=ih h.2
    exact⟨l1++l2,by simp only[Qb1,h1,h3,both],Q2U.2 ⟨h2,h4⟩⟩
  exact key cs h
 |val v=>exact Q48 (ob:=ob) (ρ:=ρ) (x:=.val v) h
 |slc a b=>exact Q48 (ob:=ob) (ρ:=ρ) (x:=.slc a b) h
 |ref a=>exact Q48 (ob:=ob) (ρ:=ρ) (x:=.ref a) h
 |opt a=>exact Q48 (ob:=ob) (ρ:=ρ) (x:=.opt a) h
 |_=>cases h
theorem FinOk.pure {res r:AV}{k:Nat}{ob:List Ob}{e:Ex}(hp:QkY r=true)(hl:leA r res):FinOk [] res [] e ⟨[(k,r)],ob⟩:=by
 have hr:∃ l,Qf7 ob [] [] r r=some l∧Qh l:=by
  cases r with
  |tup xs =>
   have key:∀ xs:List AV,xs.all AV.pur=true→∃ l,Q9Y ob [] [] xs xs=some l∧Qh l:=by
    intro xs
    induction xs with
    |nil=>intro _;exact⟨[],rfl,trivial⟩
    |cons x r ih =>
     intro h
     simp only[List.all_cons,Bool.and_eq_true] at h
     obtain⟨l1,h1,h2⟩:=Q3w (ob:=ob) (ρ:=[]) h.1
     obtain⟨l2,h3,h4⟩:=ih h.2
     exact⟨l1++l2,by simp only[Q9Y,h1,h3,both],Q2U.2 ⟨h2,h4⟩⟩
   exact key xs hp
  |val a=>exact Q3w (ob:=ob) (ρ:=[]) (x:=.val a) hp
  |slc a b=>exact Q3w (ob:=ob) (ρ:=[]) (x:=.slc a b) hp
  |agg a=>exact Q3w (ob:=ob) (ρ:=[]) (x:=.agg a) hp
  |ref a=>exact Q3w (ob:=ob) (ρ:=[]) (x:=.ref a) hp
  |opt a=>exact Q3w (ob:=ob) (ρ:=[]) (x:=.opt a) hp
  |_=>cases hp
 obtain⟨l,h1,h2⟩:=hr
 exact⟨[],r,l,rfl,rfl,Nat.le_refl _,by simp only[h1,Q6s,both,List.append_nil],h2,hl⟩
theorem Q7l {P:Program}{ty:Tys}(keep:Bool)(hT:TyOk P ty)(hm:P.follows .mixedOrders=true){cs:Nat→List AV→List Ob→Option (AV×List Ob)}{ord:Nat→OT}
  {f:Nat} {fn:Func} {c:Code} {args:List AV} {ob:List Ob} {res:AV} {ob':List Ob} (hf:P.funcs[f]?=some fn) (hb:fn.body=some c) (he:∀ vs w,(callFunc f vs).run P w=.ok (.enter f vs) w)
  (hn:args.length≤fn.ntmps) (hd:Q1I fn.ntmps c=true) (ho:Q1C .any ty ord c=true)
  (h:∀ w0 g0,(Q8 std ty cs ord c (Q5B std ty keep fn.results.toList) ⟨ent 0 args,ob⟩).ok P w0 g0 ob fn.ntmps (FinOk ob res ob')):BCall P f args ob res ob':=by
 refine⟨he,fun w g vs M hL=>calls_of_wp hf hb ?_⟩
 have hlen:vs.length=args.length:=hL.1
 refine Q3j (w0:=w) (g0:=g) (o0:=ob) (N:=fn.ntmps) (Q:=FinOk ob res ob') hT hm c _ _ ⟨ent 0 args,ob⟩ _ w hd ho (fun c a d v w h=>h) (fun e s a w' hs hq=>?_) ⟨rfl,?_,g,M,fun t=>?_,Step.refl⟩ (h w g)
 ·have fin:∀ {T:Tree},T=(match Q6p std ty keep fn.results.toList s with|some (r,ob)=>.leaf .ret ⟨[(0,r)],ob⟩|none=>.stuck 71)→T.ok P w g ob fn.ntmps (FinOk ob res ob') →
    a.defers=[]∧∃ v,(results fn a.tmps).run P w'=.ok v w'∧∃ v' g',Ending.returned v=.returned v'∧Mem w' g' ob'∧ARel w' g' ob' v' res∧Step w g ob w' g' ob':=fun hT' hq=>by
   cases hr:Q6p std ty keep fn.results.toList s with
   |none=>rw[hr] at hT';subst hT';exact (show False from hq).elim
   |some q =>
    obtain⟨r,ob1⟩:=q
    rw[hr] at hT'
    subst hT'
    obtain⟨ρ,r',l,h1,h2,h3,h4,h5,h6⟩:=(show FinOk ob res ob' .ret ⟨[(0,r)],ob1⟩ from hq)
    obtain⟨⟨l1,e1,a1⟩,l2,e2,a2⟩:=Q2m h4 h5
    have hF:Fits ob1 ob' ρ:=Q3y _ _ _ e2 a2
    obtain⟨v,g',k1,k2,k3,k4⟩:=QaC hT hs hr
    exact⟨hs.defers,v,k1,v,g'.ren ρ,rfl,k2.ren hF h1,Q7Q (Q8k hF h1 k3 e1 a1) h6,Qbt hF h1 h2 h3 k4⟩
  cases e with
  |normal=>exact fin rfl hq
  |ret=>exact fin rfl hq
  |exit i=>exact (show False from hq).elim
 ·simp;omega
 ·show ARel w g ob _ (lk t (ent 0 args))
  rw[Qdv]
  simp only[Nat.zero_le,if_true,Nat.sub_zero]
  by_cases ht:t<args.length
  ·rw[List.getD_eq_getElem?_getD,List.getElem?_eq_getElem ht,Option.getD_some]
   have e:(vs.toArray++Array.replicate (fn.ntmps-vs.toArray.size) undef).getD t undef=vs[t]'(by omega):=by
    rw[Array.getD_eq_getD_getElem?,Array.getElem?_append_left (by simp;omega)]
    simp[show t<vs.length by omega]
   rw[e]
   exact (hL.2 t _ _ (List.getElem?_eq_getElem (by omega)) (List.getElem?_eq_getElem ht)).to
  ·rw[List.getD_eq_getElem?_getD,List.getElem?_eq_none (by omega)]
   trivial
theorem Qgq {P:Program}{ty:Tys}(hT:TyOk P ty)(hm:P.follows .mixedOrders=true){cs:Nat→List AV→List Ob→Option (AV×List Ob)}{ord:Nat→OT}
  {f:Nat} {fn:Func} {c:Code} {args:List AV} {ob:List Ob} {res:AV} {ob':List Ob} (hf:P.funcs[f]?=some fn) (hb:fn.body=some c) (he:∀ vs w,(callFunc f vs).run P w=.ok (.enter f vs) w)
  (hn:args.length≤fn.ntmps) (hd:Q1I fn.ntmps c=true) (ho:Q1C .any ty ord c=true)
  (h:∀ w0 g0,(Q8 std ty cs ord c (Q5B std ty false fn.results.toList) ⟨ent 0 args,ob⟩).ok P w0 g0 ob fn.ntmps (FinOk ob res ob')):BCall P f args ob res ob' :=
 Q7l false hT hm hf hb he hn hd ho h
end Go.Proofs.YtibemhahkicbpaaGreat
namespace Go.Proofs.YtibemhahkicbpaaGreat
open Go.RowKit Go.Lib
def tiB (P:Program)(x:TI):Bool:=x.zero.length == x.size&&(x.agg||x.size == 1)&&decide (x.bytes≤140000)&&x.flds.all (fun f=>(P.info? f.2).isSome)&&x.zero.all (·.oneCell')&&x.ok
theorem TiOk.of {P:Program}{t:Nat}{x:TI}(h1:(P.info? t).map (fun i=>(i.size,i.bytes,i.zero.map (·.cells.toList)))=some (x.size,x.bytes,some x.zero))
  (h2:(P.underlying t).map Q2c=some (x.agg,x.elem,x.flds,x.kind,x.sl,x.kd)) (hb:tiB P x=true):TiOk P t x:=by
 simp only[tiB,Bool.and_eq_true,Bool.or_eq_true,beq_iff_eq,decide_eq_true_eq] at hb
 obtain⟨⟨⟨⟨⟨b1,b2⟩,b4⟩,b5⟩,b6⟩,b7⟩:=hb
 exact⟨h1,h2,b1,fun h=>b2.resolve_left (by rw[h];simp),b4,b5,b6,b7⟩
theorem TyOk.nil {P:Program}:Qc4 P []:=fun _ _ h=>by cases h
theorem TyOk.cons {P:Program}{t:Nat}{x:TI}{r:List (Nat×TI)}(h:TiOk P t x)(hr:Qc4 P r):Qc4 P ((t,x)::r):=fun u y hu=>by
 rcases List.mem_cons.1 hu with h1|h1
 ·cases h1;exact h
 ·exact hr u y h1
end Go.Proofs.YtibemhahkicbpaaGreat
namespace Go.Proofs.YtibemhahkicbpaaGreat
open Tryz
def Qkf:List (Nat×TI):=[(1,⟨1,false,0,[],[.nilFunc],none,8,false,7,true⟩),
 (2,⟨1,false,0,[],[.int .i64 0],some .i64,8,false,3,true⟩),
 (3,⟨1,false,0,[],[.int .i64 0],some .i64,8,false,3,true⟩),
 (4,⟨1,false,0,[],[.bool false],none,1,false,5,true⟩),
 (5,⟨1,false,0,[],[.int .u8 0],some .u8,1,false,3,true⟩),
 (6,⟨1,false,0,[],[.int .u8 0],some .u8,1,false,3,true⟩),
 (7,⟨4,true,0,[(0,2),(1,3),(2,4),(3,6)],[.int .i64 0,.int .i64 0,.bool false,.int .u8 0],none,24,false,1,true⟩),
 (8,⟨4,true,0,[(0,2),(1,3),(2,4),(3,6)],[.int .i64 0,.int .i64 0,.bool false,.int .u8 0],none,24,false,1,true⟩),
 (9,⟨1,false,0,[],[.string ⟨#[]⟩],none,16,false,6,true⟩),
 (10,⟨1,false,0,[],[.string ⟨#[]⟩],none,16,false,6,true⟩),
 (11,⟨1,false,0,[],[.string ⟨#[]⟩],none,16,false,6,true⟩),
 (12,⟨1,false,0,[],[.int .u64 0],some .u64,8,false,3,true⟩),
 (13,⟨2,true,0,[(0,9),(1,12)],[.string ⟨#[]⟩,.int .u64 0],none,24,false,1,true⟩),
 (14,⟨2,true,0,[(0,9),(1,12)],[.string ⟨#[]⟩,.int .u64 0],none,24,false,1,true⟩),
 (15,⟨1,false,0,[],[.pointer none],none,8,false,4,true⟩),
 (16,⟨1,false,0,[],[.pointer none],none,8,false,4,true⟩),
 (17,⟨1,false,0,[],[.pointer none],none,8,false,4,true⟩),
 (18,⟨1,true,0,[(0,17)],[.pointer none],none,8,false,1,true⟩),
 (19,⟨1,true,0,[(0,17)],[.pointer none],none,8,false,1,true⟩),
 (21,⟨1,false,0,[],[.int .i32 0],some .i32,4,false,3,true⟩),
 (22,⟨1,false,5,[],[.slice none 0 0],none,24,true,2,true⟩),
 (23,⟨1,false,3,[],[.slice none 0 0],none,24,true,2,true⟩),
 (24,⟨1,false,0,[],[.nilFunc],none,8,false,7,true⟩),
 (25,⟨1,false,0,[],[.nilFunc],none,8,false,7,true⟩),
 (26,⟨1,false,21,[],[.slice none 0 0],none,24,true,2,true⟩),
 (27,⟨4,true,0,[(0,3),(1,3),(2,26),(3,23)],[.int .i64 0,.int .i64 0,.slice none 0 0,.slice none 0 0],none,64,false,1,true⟩),
 (28,⟨4,true,0,[(0,3),(1,3),(2,26),(3,23)],[.int .i64 0,.int .i64 0,.slice none 0 0,.slice none 0 0],none,64,false,1,true⟩),
 (29,⟨1,false,0,[],[.pointer none],none,8,false,4,true⟩),
 (30,⟨1,false,146,[],[.slice none 0 0],none,24,true,2,true⟩),
 (31,⟨7,true,0,[(0,28),(4,29),(5,3),(6,30)],[.int .i64 0,.int .i64 0,.slice none 0 0,.slice none 0 0,.pointer none,.int .i64 0,.slice none 0 0],none,104,false,1,true⟩),
 (32,⟨7,true,0,[(0,28),(4,29),(5,3),(6,30)],[.int .i64 0,.int .i64 0,.slice none 0 0,.slice none 0 0,.pointer none,.int .i64 0,.slice none 0 0],none,104,false,1,true⟩),
 (33,⟨1,false,0,[],[.nilFunc],none,8,false,7,true⟩),
 (34,⟨1,false,0,[],[.pointer none],none,8,false,4,true⟩),
 (35,⟨1,false,0,[],[.nilFunc],none,8,false,7,true⟩),
 (36,⟨1,false,0,[],[.pointer none],none,8,false,4,true⟩),
 (37,⟨5,true,0,[(0,29),(1,3),(2,3),(3,3),(4,36)],[.pointer none,.int .i64 0,.int .i64 0,.int .i64 0,.pointer none],none,40,false,1,true⟩),
 (38,⟨5,true,0,[(0,29),(1,3),(2,3),(3,3),(4,36)],[.pointer none,.int .i64 0,.int .i64 0,.int .i64 0,.pointer none],none,40,false,1,true⟩),
 (40,⟨1,false,0,[],[.nilFunc],none,8,false,7,true⟩),
 (41,⟨2,true,0,[(0,3),(1,3)],[.int .i64 0,.int .i64 0],none,16,false,1,true⟩),
 (42,⟨2,true,0,[(0,3),(1,3)],[.int .i64 0,.int .i64 0],none,16,false,1,true⟩),
 (44,⟨1,false,0,[],[.nilFunc],none,8,false,7,true⟩),
 (45,⟨7,true,0,[(0,23),(1,3),(2,3),(3,3),(4,3),(5,4),(6,22)],[.slice none 0 0,.int .i64 0,.int .i64 0,.int .i64 0,.int .i64 0,.bool false,.slice none 0 0],none,88,false,1,true⟩),
 (46,⟨7,true,0,[(0,23),(1,3),(2,3),(3,3),(4,3),(5,4),(6,22)],[.slice none 0 0,.int .i64 0,.int .i64 0,.int .i64 0,.int .i64 0,.bool false,.slice none 0 0],none,88,false,1,true⟩),
 (48,⟨1,false,0,[],[.nilFunc],none,8,false,7,true⟩),
 (49,⟨1,false,58,[],[.slice none 0 0],none,24,true,2,true⟩),
 (50,⟨1,false,0,[],[.nilFunc],none,8,false,7,true⟩),
 (51,⟨4,true,0,[(0,3),(1,3),(2,26),(3,23)],[.int .i64 0,.int .i64 0,.slice none 0 0,.slice none 0 0],none,64,false,1,true⟩),
 (52,⟨1,false,9,[],[.slice none 0 0],none,24,true,2,true⟩),
 (53,⟨1,false,107,[],[.slice none 0 0],none,24,true,2,true⟩),
 (54,⟨1,false,157,[],[.slice none 0 0],none,24,true,2,true⟩),
 (55,⟨8,true,0,[(0,22),(1,51),(5,52),(6,53),(7,54)],[.slice none 0 0,.int .i64 0,.int .i64 0,.slice none 0 0,.slice none 0 0,.slice none 0 0,.slice none 0 0,.slice none 0 0],none,160,false,1,true⟩),
 (56,⟨8,true,0,[(0,22),(1,51),(5,52),(6,53),(7,54)],[.slice none 0 0,.int .i64 0,.int .i64 0,.slice none 0 0,.slice none 0 0,.slice none 0 0,.slice none 0 0,.slice none 0 0],none,160,false,1,true⟩),
 (57,⟨3,true,0,[(0,21),(1,3),(2,3)],[.int .i32 0,.int .i64 0,.int .i64 0],none,24,false,1,true⟩),
 (58,⟨3,true,0,[(0,21),(1,3),(2,3)],[.int .i32 0,.int .i64 0,.int .i64 0],none,24,false,1,true⟩),
 (59,⟨3,true,0,[(0,3),(1,3),(2,3)],[.int .i64 0,.int .i64 0,.int .i64 0],none,24,false,1,true⟩),
 (60,⟨3,true,0,[(0,3),(1,3),(2,3)],[.int .i64 0,.int .i64 0,.int .i64 0],none,24,false,1,true⟩),
 (62,⟨1,false,0,[],[.nilFunc],none,8,false,7,true⟩),
 (63,⟨1,false,0,[],[.nilFunc],none,8,false,7,true⟩),
 (64,⟨1,false,0,[],[.nilFunc],none,8,false,7,true⟩),
 (65,⟨1,false,0,[],[.nilFunc],none,8,false,7,true⟩),
 (67,⟨1,false,0,[],[.nilFunc],none,8,false,7,true⟩),
 (68,⟨1,false,0,[],[.nilFunc],none,8,false,7,true⟩),
 (69,⟨1,false,0,[],[.nilFunc],none,8,false,7,true⟩),
 (71,⟨1,false,0,[],[.nilFunc],none,8,false,7,true⟩),
 (72,⟨1,false,0,[],[.nilFunc],none,8,false,7,true⟩),
 (73,⟨1,false,0,[],[.nilFunc],none,8,false,7,true⟩),
 (74,⟨1,false,23,[],[.slice none 0 0],none,24,true,2,true⟩),
 (75,⟨1,false,0,[],[.nilFunc],none,8,false,7,true⟩),
 (76,⟨1,false,46,[],[.slice none 0 0],none,24,true,2,true⟩),
 (77,⟨1,false,0,[],[.nilFunc],none,8,false,7,true⟩),
 (78,⟨1,false,38,[],[.slice none 0 0],none,24,true,2,true⟩),
 (79,⟨1,false,0,[],[.nilFunc],none,8,false,7,true⟩),
 (80,⟨1,false,0,[],[.nilFunc],none,8,false,7,true⟩),
 (81,⟨1,false,0,[],[.nilFunc],none,8,false,7,true⟩),
 (82,⟨12,true,3,[],[.int .i64 0,.int .i64 0,.int .i64 0,.int .i64 0,.int .i64 0,.int .i64 0,.int .i64 0,.int .i64 0,.int .i64 0,.int .i64 0,.int .i64 0,.int .i64 0],none,96,false,112,true⟩),
 (83,⟨6,true,3,[],[.int .i64 0,.int .i64 0,.int .i64 0,.int .i64 0,.int .i64 0,.int .i64 0],none,48,false,106,true⟩),
 (84,⟨26,true,0,[(0,3),(1,3),(2,3),(3,3),(4,3),(5,3),(6,3),(7,3),(8,82),(20,83)],[.int .i64 0,.int .i64 0,.int .i64 0,.int .i64 0,.int .i64 0,.int .i64 0,.int .i64 0,.int .i64 0,.int .i64 0,.int .i64 0,.int .i64 0,.int .i64 0,.int .i64 0,.int .i64 0,.int .i64 0,.int .i64 0,.int .i64 0,.int .i64 0,.int .i64 0,.int .i64 0,.int .i64 0,.int .i64 0,.int .i64 0,.int .i64 0,.int .i64 0,.int .i64 0],none,208,false,1,true⟩),
 (85,⟨26,true,0,[(0,3),(1,3),(2,3),(3,3),(4,3),(5,3),(6,3),(7,3),(8,82),(20,83)],[.int .i64 0,.int .i64 0,.int .i64 0,.int .i64 0,.int .i64 0,.int .i64 0,.int .i64 0,.int .i64 0,.int .i64 0,.int .i64 0,.int .i64 0,.int .i64 0,.int .i64 0,.int .i64 0,.int .i64 0,.int .i64 0,.int .i64 0,.int .i64 0,.int .i64 0,.int .i64 0,.int .i64 0,.int .i64 0,.int .i64 0,.int .i64 0,.int .i64 0,.int .i64 0],none,208,false,1,true⟩),
 (86,⟨1,false,0,[],[.nilFunc],none,8,false,7,true⟩),
 (87,⟨1,false,0,[],[.nilFunc],none,8,false,7,true⟩),
 (88,⟨26,true,0,[(0,3),(1,3),(2,3),(3,3),(4,3),(5,3),(6,3),(7,3),(8,82),(20,83)],[.int .i64 0,.int .i64 0,.int .i64 0,.int .i64 0,.int .i64 0,.int .i64 0,.int .i64 0,.int .i64 0,.int .i64 0,.int .i64 0,.int .i64 0,.int .i64 0,.int .i64 0,.int .i64 0,.int .i64 0,.int .i64 0,.int .i64 0,.int .i64 0,.int .i64 0,.int .i64 0,.int .i64 0,.int .i64 0,.int .i64 0,.int .i64 0,.int .i64 0,.int .i64 0],none,208,false,1,true⟩),
 (89,⟨1,false,0,[],[.nilFunc],none,8,false,7,true⟩),
 (90,⟨1,false,0,[],[.nilFunc],none,8,false,7,true⟩),
 (91,⟨1,false,0,[],[.nilFunc],none,8,false,7,true⟩),
 (92,⟨1,false,0,[],[.nilFunc],none,8,false,7,true⟩),
 (93,⟨1,false,0,[],[.nilFunc],none,8,false,7,true⟩),
 (94,⟨1,false,0,[],[.pointer none],none,8,false,4,true⟩),
 (95,⟨1,false,0,[],[.nilFunc],none,8,false,7,true⟩),
 (96,⟨1,false,0,[],[.nilFunc],none,8,false,7,true⟩),
 (97,⟨1,false,0,[],[.pointer none],none,8,false,4,true⟩),
 (98,⟨2,true,0,[(0,26),(1,23)],[.slice none 0 0,.slice none 0 0],none,48,false,1,true⟩),
 (99,⟨2,true,0,[(0,26),(1,23)],[.slice none 0 0,.slice none 0 0],none,48,false,1,true⟩),
 (100,⟨1,false,99,[],[.slice none 0 0],none,24,true,2,true⟩),
 (101,⟨3,true,0,[(0,22),(1,94),(2,100)],[.slice none 0 0,.pointer none,.slice none 0 0],none,56,false,1,true⟩),
 (102,⟨3,true,0,[(0,22),(1,94),(2,100)],[.slice none 0 0,.pointer none,.slice none 0 0],none,56,false,1,true⟩),
 (103,⟨1,false,0,[],[.nilFunc],none,8,false,7,true⟩),
 (104,⟨1,false,0,[],[.nilFunc],none,8,false,7,true⟩),
 (105,⟨1,false,0,[],[.nilFunc],none,8,false,7,true⟩),
 (106,⟨3,true,0,[(0,3),(1,3),(2,22)],[.int .i64 0,.int .i64 0,.slice none 0 0],none,40,false,1,true⟩),
 (107,⟨3,true,0,[(0,3),(1,3),(2,22)],[.int .i64 0,.int .i64 0,.slice none 0 0],none,40,false,1,true⟩),
 (108,⟨1,false,0,[],[.nilFunc],none,8,false,7,true⟩),
 (109,⟨1,false,0,[],[.nilFunc],none,8,false,7,true⟩),
 (110,⟨1,false,112,[],[.slice none 0 0],none,24,true,2,true⟩),
 (111,⟨1,false,0,[],[.nilFunc],none,8,false,7,true⟩),
 (112,⟨3,true,0,[(0,21),(1,3),(2,3)],[.int .i32 0,.int .i64 0,.int .i64 0],none,24,false,1,true⟩),
 (113,⟨3,true,0,[(0,3),(1,3),(2,3)],[.int .i64 0,.int .i64 0,.int .i64 0],none,24,false,1,true⟩),
 (114,⟨1,false,119,[],[.slice none 0 0],none,24,true,2,true⟩),
 (115,⟨6,true,0,[(0,113),(3,114),(4,4),(5,4)],[.int .i64 0,.int .i64 0,.int .i64 0,.slice none 0 0,.bool false,.bool false],none,56,false,1,true⟩),
 (116,⟨6,true,0,[(0,113),(3,114),(4,4),(5,4)],[.int .i64 0,.int .i64 0,.int .i64 0,.slice none 0 0,.bool false,.bool false],none,56,false,1,true⟩),
 (117,⟨1,false,0,[],[.nilFunc],none,8,false,7,true⟩),
 (118,⟨9,true,0,[(0,113),(3,113),(6,113)],[.int .i64 0,.int .i64 0,.int .i64 0,.int .i64 0,.int .i64 0,.int .i64 0,.int .i64 0,.int .i64 0,.int .i64 0],none,72,false,1,true⟩),
 (119,⟨9,true,0,[(0,113),(3,113),(6,113)],[.int .i64 0,.int .i64 0,.int .i64 0,.int .i64 0,.int .i64 0,.int .i64 0,.int .i64 0,.int .i64 0,.int .i64 0],none,72,false,1,true⟩),
 (120,⟨1,false,0,[],[.nilFunc],none,8,false,7,true⟩),
 (121,⟨1,false,0,[],[.nilFunc],none,8,false,7,true⟩),
 (122,⟨1,false,0,[],[.nilFunc],none,8,false,7,true⟩),
 (123,⟨1,false,128,[],[.slice none 0 0],none,24,true,2,true⟩),
 (124,⟨6,true,0,[(0,60),(3,123),(4,4),(5,4)],[.int .i64 0,.int .i64 0,.int .i64 0,.slice none 0 0,.bool false,.bool false],none,56,false,1,true⟩),
 (125,⟨6,true,0,[(0,60),(3,123),(4,4),(5,4)],[.int .i64 0,.int .i64 0,.int .i64 0,.slice none 0 0,.bool false,.bool false],none,56,false,1,true⟩),
 (126,⟨1,false,0,[],[.nilFunc],none,8,false,7,true⟩),
 (127,⟨9,true,0,[(0,60),(3,60),(6,60)],[.int .i64 0,.int .i64 0,.int .i64 0,.int .i64 0,.int .i64 0,.int .i64 0,.int .i64 0,.int .i64 0,.int .i64 0],none,72,false,1,true⟩),
 (128,⟨9,true,0,[(0,60),(3,60),(6,60)],[.int .i64 0,.int .i64 0,.int .i64 0,.int .i64 0,.int .i64 0,.int .i64 0,.int .i64 0,.int .i64 0,.int .i64 0],none,72,false,1,true⟩),
 (129,⟨1,false,0,[],[.nilFunc],none,8,false,7,true⟩),
 (130,⟨1,false,0,[],[.nilFunc],none,8,false,7,true⟩),
 (131,⟨1,false,0,[],[.nilFunc],none,8,false,7,true⟩),
 (132,⟨1,false,0,[],[.nilFunc],none,8,false,7,true⟩),
 (133,⟨1,false,0,[],[.nilFunc],none,8,false,7,true⟩),
 (134,⟨1,false,0,[],[.nilFunc],none,8,false,7,true⟩),
 (135,⟨1,false,0,[],[.nilFunc],none,8,false,7,true⟩),
 (136,⟨1,false,0,[],[.nilFunc],none,8,false,7,true⟩),
 (137,⟨1,false,0,[],[.nilFunc],none,8,false,7,true⟩),
 (138,⟨1,false,0,[],[.nilFunc],none,8,false,7,true⟩),
 (139,⟨1,false,0,[],[.int .i64 0],some .i64,8,false,3,true⟩),
 (141,⟨1,false,0,[],[.nilFunc],none,8,false,7,true⟩),
 (142,⟨1,false,0,[],[.nilFunc],none,8,false,7,true⟩),
 (143,⟨1,false,0,[],[.nilFunc],none,8,false,7,true⟩),
 (144,⟨1,false,0,[],[.nilFunc],none,8,false,7,true⟩),
 (145,⟨3,true,0,[(0,42),(2,3)],[.int .i64 0,.int .i64 0,.int .i64 0],none,24,false,1,true⟩),
 (146,⟨3,true,0,[(0,42),(2,3)],[.int .i64 0,.int .i64 0,.int .i64 0],none,24,false,1,true⟩),
 (147,⟨1,false,149,[],[.slice none 0 0],none,24,true,2,true⟩),
 (148,⟨1,false,0,[],[.nilFunc],none,8,false,7,true⟩),
 (149,⟨2,true,3,[],[.int .i64 0,.int .i64 0],none,16,false,102,true⟩),
 (150,⟨1,false,153,[],[.slice none 0 0],none,24,true,2,true⟩),
 (151,⟨1,false,0,[],[.nilFunc],none,8,false,7,true⟩),
 (152,⟨4,true,0,[(0,3),(1,3),(2,3),(3,4)],[.int .i64 0,.int .i64 0,.int .i64 0,.bool false],none,32,false,1,true⟩),
 (153,⟨4,true,0,[(0,3),(1,3),(2,3),(3,4)],[.int .i64 0,.int .i64 0,.int .i64 0,.bool false],none,32,false,1,true⟩),
 (155,⟨1,false,0,[],[.nilFunc],none,8,false,7,true⟩),
 (156,⟨3,true,0,[(0,3),(1,3),(2,3)],[.int .i64 0,.int .i64 0,.int .i64 0],none,24,false,1,true⟩),
 (157,⟨3,true,0,[(0,3),(1,3),(2,3)],[.int .i64 0,.int .i64 0,.int .i64 0],none,24,false,1,true⟩),
 (158,⟨1,false,0,[],[.nilFunc],none,8,false,7,true⟩),
 (159,⟨1,false,0,[],[.nilFunc],none,8,false,7,true⟩),
 (160,⟨1,false,0,[],[.pointer none],none,8,false,4,true⟩),
 (161,⟨2,true,0,[(0,160),(1,22)],[.pointer none,.slice none 0 0],none,32,false,1,true⟩),
 (162,⟨2,true,0,[(0,160),(1,22)],[.pointer none,.slice none 0 0],none,32,false,1,true⟩),
 (163,⟨8,true,9,[],[.string ⟨#[]⟩,.string ⟨#[]⟩,.string ⟨#[]⟩,.string ⟨#[]⟩,.string ⟨#[]⟩,.string ⟨#[]⟩,.string ⟨#[]⟩,.string ⟨#[]⟩],none,128,false,108,true⟩),
 (164,⟨8,true,3,[],[.int .i64 0,.int .i64 0,.int .i64 0,.int .i64 0,.int .i64 0,.int .i64 0,.int .i64 0,.int .i64 0],none,64,false,108,true⟩),
 (168,⟨1,false,0,[],[.nilFunc],none,8,false,7,true⟩),
 (169,⟨1,false,0,[],[.nilFunc],none,8,false,7,true⟩),
 (170,⟨1,false,0,[],[.nilFunc],none,8,false,7,true⟩),
 (171,⟨1,false,0,[],[.nilFunc],none,8,false,7,true⟩),
 (173,⟨1,false,0,[],[.nilFunc],none,8,false,7,true⟩),
 (175,⟨1,false,0,[],[.nilFunc],none,8,false,7,true⟩),
 (176,⟨1,false,182,[],[.slice none 0 0],none,24,true,2,true⟩),
 (177,⟨1,true,0,[(0,176)],[.slice none 0 0],none,24,false,1,true⟩),
 (178,⟨1,true,0,[(0,176)],[.slice none 0 0],none,24,false,1,true⟩),
 (179,⟨1,false,0,[],[.pointer none],none,8,false,4,true⟩),
 (180,⟨1,false,0,[],[.nilFunc],none,8,false,7,true⟩),
 (181,⟨6,true,0,[(0,3),(1,3),(2,3),(3,4),(4,22),(5,23)],[.int .i64 0,.int .i64 0,.int .i64 0,.bool false,.slice none 0 0,.slice none 0 0],none,80,false,1,true⟩),
 (182,⟨6,true,0,[(0,3),(1,3),(2,3),(3,4),(4,22),(5,23)],[.int .i64 0,.int .i64 0,.int .i64 0,.bool false,.slice none 0 0,.slice none 0 0],none,80,false,1,true⟩),
 (183,⟨1,false,185,[],[.slice none 0 0],none,24,true,2,true⟩),
 (184,⟨1,false,0,[],[.nilFunc],none,8,false,7,true⟩),
 (185,⟨4,true,0,[(0,3),(1,3),(2,3),(3,4)],[.int .i64 0,.int .i64 0,.int .i64 0,.bool false],none,32,false,1,true⟩),
 (186,⟨1,false,0,[],[.nilFunc],none,8,false,7,true⟩),
 (188,⟨1,false,0,[],[.nilFunc],none,8,false,7,true⟩),
 (189,⟨1,false,0,[],[.nilFunc],none,8,false,7,true⟩),
 (190,⟨1,false,0,[],[.nilFunc],none,8,false,7,true⟩),
 (191,⟨1,false,0,[],[.nilFunc],none,8,false,7,true⟩),
 (192,⟨1,false,0,[],[.nilFunc],none,8,false,7,true⟩),
 (193,⟨1,false,0,[],[.nilFunc],none,8,false,7,true⟩),
 (194,⟨1,false,0,[],[.nilFunc],none,8,false,7,true⟩),
 (195,⟨1,false,0,[],[.pointer none],none,8,false,4,true⟩),
 (196,⟨1,false,113,[],[.slice none 0 0],none,24,true,2,true⟩),
 (197,⟨1,false,0,[],[.nilFunc],none,8,false,7,true⟩),
 (198,⟨2,true,0,[(0,196),(1,3)],[.slice none 0 0,.int .i64 0],none,32,false,1,true⟩),
 (199,⟨2,true,0,[(0,196),(1,3)],[.slice none 0 0,.int .i64 0],none,32,false,1,true⟩),
 (200,⟨1,false,0,[],[.nilFunc],none,8,false,7,true⟩),
 (202,⟨1,false,0,[],[.nilFunc],none,8,false,7,true⟩),
 (203,⟨1,false,0,[],[.nilFunc],none,8,false,7,true⟩),
 (204,⟨1,false,0,[],[.nilFunc],none,8,false,7,true⟩),
 (205,⟨1,false,0,[],[.nilFunc],none,8,false,7,true⟩),
 (207,⟨1,false,0,[],[.nilFunc],none,8,false,7,true⟩),
 (208,⟨1,false,0,[],[.nilFunc],none,8,false,7,true⟩),
 (209,⟨1,false,0,[],[.nilFunc],none,8,false,7,true⟩),
 (210,⟨1,false,60,[],[.slice none 0 0],none,24,true,2,true⟩),
 (211,⟨1,false,0,[],[.nilFunc],none,8,false,7,true⟩),
 (212,⟨1,false,0,[],[.nilFunc],none,8,false,7,true⟩),
 (214,⟨1,false,0,[],[.nilFunc],none,8,false,7,true⟩),
 (215,⟨1,false,0,[],[.nilFunc],none,8,false,7,true⟩),
 (216,⟨1,false,0,[],[.nilFunc],none,8,false,7,true⟩),
 (217,⟨1,false,0,[],[.nilFunc],none,8,false,7,true⟩),
 (218,⟨1,false,0,[],[.pointer none],none,8,false,4,true⟩),
 (219,⟨1,false,0,[],[.nilFunc],none,8,false,7,true⟩),
 (220,⟨1,false,0,[],[.nilFunc],none,8,false,7,true⟩),
 (221,⟨1,false,0,[],[.nilFunc],none,8,false,7,true⟩),
 (222,⟨1,false,0,[],[.nilFunc],none,8,false,7,true⟩),
 (223,⟨1,false,0,[],[.nilFunc],none,8,false,7,true⟩),
 (224,⟨1,false,0,[],[.nilFunc],none,8,false,7,true⟩),
 (225,⟨1,false,0,[],[.pointer none],none,8,false,4,true⟩),
 (227,⟨1,false,0,[],[.nilFunc],none,8,false,7,true⟩),
 (228,⟨1,false,0,[],[.nilFunc],none,8,false,7,true⟩),
 (229,⟨1,false,0,[],[.nilFunc],none,8,false,7,true⟩),
 (230,⟨1,false,0,[],[.int .u64 0],some .u64,8,false,3,true⟩),
 (231,⟨3,true,0,[(0,9),(1,3),(2,3)],[.string ⟨#[]⟩,.int .i64 0,.int .i64 0],none,32,false,1,true⟩),
 (232,⟨3,true,0,[(0,9),(1,3),(2,3)],[.string ⟨#[]⟩,.int .i64 0,.int .i64 0],none,32,false,1,true⟩),
 (233,⟨15,true,232,[],[.string ⟨#[]⟩,.int .i64 0,.int .i64 0,.string ⟨#[]⟩,.int .i64 0,.int .i64 0,.string ⟨#[]⟩,.int .i64 0,.int .i64 0,.string ⟨#[]⟩,.int .i64 0,.int .i64 0,.string ⟨#[]⟩,.int .i64 0,.int .i64 0],none,160,false,105,true⟩),
 (234,⟨1,false,0,[],[.nilFunc],none,8,false,7,true⟩),
 (236,⟨1,false,0,[],[.nilFunc],none,8,false,7,true⟩),
 (237,⟨1,false,0,[],[.nilFunc],none,8,false,7,true⟩),
 (238,⟨1,false,0,[],[.nilFunc],none,8,false,7,true⟩),
 (239,⟨1,false,0,[],[.nilFunc],none,8,false,7,true⟩),
 (240,⟨1,false,0,[],[.nilFunc],none,8,false,7,true⟩),
 (241,⟨1,false,0,[],[.nilFunc],none,8,false,7,true⟩),
 (242,⟨1,false,0,[],[.nilFunc],none,8,false,7,true⟩),
 (243,⟨1,false,0,[],[.nilFunc],none,8,false,7,true⟩),
 (244,⟨1,false,0,[],[.nilFunc],none,8,false,7,true⟩),
 (245,⟨1,false,0,[],[.nilFunc],none,8,false,7,true⟩),
 (246,⟨1,false,0,[],[.nilFunc],none,8,false,7,true⟩),
 (247,⟨1,false,0,[],[.nilFunc],none,8,false,7,true⟩),
 (248,⟨1,false,0,[],[.nilFunc],none,8,false,7,true⟩),
 (249,⟨1,false,0,[],[.nilFunc],none,8,false,7,true⟩),
 (250,⟨1,false,0,[],[.nilFunc],none,8,false,7,true⟩),
 (251,⟨1,false,0,[],[.nilFunc],none,8,false,7,true⟩),
 (253,⟨1,false,0,[],[.nilFunc],none,8,false,7,true⟩),
 (254,⟨1,false,0,[],[.nilFunc],none,8,false,7,true⟩),
 (255,⟨1,false,0,[],[.nilFunc],none,8,false,7,true⟩),
 (256,⟨1,false,0,[],[.int .i64 0],some .i64,8,false,3,true⟩),
 (258,⟨1,false,0,[],[.nilFunc],none,8,false,7,true⟩),
 (259,⟨1,false,0,[],[.nilFunc],none,8,false,7,true⟩),
 (260,⟨1,false,0,[],[.nilFunc],none,8,false,7,true⟩),
 (261,⟨1,false,0,[],[.nilFunc],none,8,false,7,true⟩),
 (262,⟨1,false,0,[],[.nilFunc],none,8,false,7,true⟩),
 (263,⟨1,false,0,[],[.int .u32 0],some .u32,4,false,3,true⟩),
 (264,⟨1,false,0,[],[.nilFunc],none,8,false,7,true⟩),
 (265,⟨1,false,0,[],[.int .u64 0],some .u64,8,false,3,true⟩),
 (266,⟨1,false,0,[],[.nilFunc],none,8,false,7,true⟩),
 (267,⟨1,false,0,[],[.nilFunc],none,8,false,7,true⟩),
 (268,⟨1,false,0,[],[.nilFunc],none,8,false,7,true⟩),
 (269,⟨1,false,0,[],[.nilFunc],none,8,false,7,true⟩),
 (270,⟨1,false,0,[],[.nilFunc],none,8,false,7,true⟩),
 (271,⟨1,false,0,[],[.nilFunc],none,8,false,7,true⟩),
 (272,⟨1,false,0,[],[.nilFunc],none,8,false,7,true⟩),
 (273,⟨1,false,0,[],[.nilFunc],none,8,false,7,true⟩),
 (274,⟨1,false,0,[],[.nilFunc],none,8,false,7,true⟩),
 (275,⟨1,false,0,[],[.nilFunc],none,8,false,7,true⟩),
 (276,⟨1,false,0,[],[.nilFunc],none,8,false,7,true⟩),
 (277,⟨1,false,0,[],[.nilFunc],none,8,false,7,true⟩),
 (278,⟨1,false,0,[],[.nilFunc],none,8,false,7,true⟩),
 (279,⟨1,false,0,[],[.int .u64 0],some .u64,8,false,3,true⟩),
 (280,⟨1,false,0,[],[.nilFunc],none,8,false,7,true⟩),
 (281,⟨1,false,0,[],[.nilFunc],none,8,false,7,true⟩),
 (282,⟨1,false,0,[],[.nilFunc],none,8,false,7,true⟩),
 (283,⟨1,false,0,[],[.pointer none],none,8,false,4,true⟩),
 (284,⟨1,false,0,[],[.nilFunc],none,8,false,7,true⟩),
 (285,⟨1,false,0,[],[.nilFunc],none,8,false,7,true⟩),
 (286,⟨1,false,0,[],[.nilFunc],none,8,false,7,true⟩),
 (287,⟨1,false,0,[],[.nilFunc],none,8,false,7,true⟩),
 (288,⟨1,false,0,[],[.pointer none],none,8,false,4,true⟩),
 (289,⟨1,false,0,[],[.nilFunc],none,8,false,7,true⟩),
 (290,⟨1,false,0,[],[.nilFunc],none,8,false,7,true⟩),
 (291,⟨1,false,0,[],[.nilFunc],none,8,false,7,true⟩),
 (292,⟨1,false,0,[],[.nilFunc],none,8,false,7,true⟩),
 (293,⟨1,false,0,[],[.nilFunc],none,8,false,7,true⟩),
 (294,⟨1,false,0,[],[.nilFunc],none,8,false,7,true⟩),
 (295,⟨2,true,0,[(0,21),(1,21)],[.int .i32 0,.int .i32 0],none,8,false,1,true⟩),
 (296,⟨2,true,0,[(0,21),(1,21)],[.int .i32 0,.int .i32 0],none,8,false,1,true⟩),
 (297,⟨1,false,296,[],[.slice none 0 0],none,24,true,2,true⟩),
 (298,⟨1,false,0,[],[.nilFunc],none,8,false,7,true⟩),
 (299,⟨1,false,0,[],[.nilFunc],none,8,false,7,true⟩),
 (301,⟨1,false,0,[],[.nilFunc],none,8,false,7,true⟩),
 (302,⟨4,true,0,[(0,17),(1,17),(2,17),(3,9)],[.pointer none,.pointer none,.pointer none,.string ⟨#[]⟩],none,40,false,1,true⟩),
 (303,⟨4,true,0,[(0,17),(1,17),(2,17),(3,9)],[.pointer none,.pointer none,.pointer none,.string ⟨#[]⟩],none,40,false,1,true⟩),
 (304,⟨0,true,16,[],[],none,0,false,100,true⟩),
 (305,⟨0,true,0,[(0,304)],[],none,0,false,1,true⟩),
 (306,⟨0,true,0,[(0,304)],[],none,0,false,1,true⟩),
 (307,⟨1,false,0,[],[.int .u8 0],some .u8,1,false,3,true⟩),
 (308,⟨1,false,0,[],[.int .u8 0],some .u8,1,false,3,true⟩),
 (309,⟨1,false,0,[],[.nilFunc],none,8,false,7,true⟩),
 (310,⟨1,false,0,[],[.int .i32 0],some .i32,4,false,3,true⟩),
 (311,⟨1,false,0,[],[.int .i32 0],some .i32,4,false,3,true⟩),
 (312,⟨11,true,0,[(0,12),(1,12),(2,263),(3,307),(4,5),(5,5),(6,308),(7,309),(8,225),(9,310),(10,311)],[.int .u64 0,.int .u64 0,.int .u32 0,.int .u8 0,.int .u8 0,.int .u8 0,.int .u8 0,.nilFunc,.pointer none,.int .i32 0,.int .i32 0],none,48,false,1,true⟩),
 (313,⟨11,true,0,[(0,12),(1,12),(2,263),(3,307),(4,5),(5,5),(6,308),(7,309),(8,225),(9,310),(10,311)],[.int .u64 0,.int .u64 0,.int .u32 0,.int .u8 0,.int .u8 0,.int .u8 0,.int .u8 0,.nilFunc,.pointer none,.int .i32 0,.int .i32 0],none,48,false,1,true⟩),
 (314,⟨1,false,0,[],[.nilFunc],none,8,false,7,true⟩)]
def tys:Tys:=fun _=>Qkf
theorem Q6N:TyOk prog tys:=by
 show Qc4 prog Qkf
 unfold Qkf
 repeat refine TyOk.cons (TiOk.of (by kernel_rfl) (by kernel_rfl) (by kernel_rfl)) ?_
 exact TyOk.nil
end Go.Proofs.YtibemhahkicbpaaGreat
namespace Go.Proofs.YtibemhahkicbpaaGreat
open Go.RowKit Go.Lib
section
variable {P:Program} {ty:Tys} {w0 w:World} {g0:Gh} {o0:List Ob} {N:Nat} {s s':St} {a:Act}
theorem Q6z (ρ:List (Option Nat)){l:Eqs}(h:QjK o0 ρ s s'=some l)(hl:Qh l)(hs:Sim w0 g0 o0 N s a w):Sim w0 g0 o0 N s' a w:=by
 unfold QjK at h
 split at h
 ·rename_i hk
  obtain⟨ho,hh,hn⟩:=hk
  obtain⟨⟨l1,h1,hl1⟩,l2,h2,hl2⟩:=Q2m h hl
  have hF:Fits s.ob s'.ob ρ:=Q3y _ _ _ h2 hl2
  obtain⟨g,M,hS,h0⟩:=hs.rel
  have head:∀ j,j<o0.length→ρ[j]?=some (some j):=fun j hj=>by
   have:=List.all_eq_true.1 hh j (List.mem_range.2 hj)
   simp only[Bool.and_eq_true,beq_iff_eq] at this
   exact this.1
  refine⟨hs.defers,hs.size,g.ren ρ,M.ren hF ho,fun t=>?_,?_⟩
  ·have:∀ (l:List (Nat×AV)) (q:Eqs),QkE s s' ρ l=some q→Qh q→ARel w (g.ren ρ) s'.ob (a.tmps.getD t undef) (lk t l):=by
    intro l
    induction l with
    |nil=>intro _ _ _;trivial
    |cons p r ih =>
     obtain⟨u,x'⟩:=p
     intro q hq hql
     obtain⟨⟨q1,e1,a1⟩,q2,e2,a2⟩:=Q2m hq hql
     show ARel w (g.ren ρ) s'.ob _ (if t=u then x' else lk t r)
     by_cases e:t=u
     ·subst e
      rw[if_pos rfl]
      exact Q6G hF ho (hS t) e1 a1
     ·rw[if_neg e];exact ih q2 e2 a2
   exact this _ _ h1 hl1
  ·refine⟨h0.os,h0.tape,h0.output,h0.size,h0.keep,fun b id hG=>?_,h0.imm,⟨h0.ext.A,fun id hid=>?_,fun id hb=>?_,fun id hb=>?_,fun id et sz fz e xs hr=>?_,fun b id hG hs=>?_⟩,?_⟩
   ·obtain⟨i,_,h3⟩:=Q2n hG
    exact h0.own b i h3
   ·rw[Q2z (head id hid)];exact h0.ext.loc id hid
   ·exact hF.isB (head id (Q3h hb)) (h0.ext.isb id hb)
   ·exact hF.isI (head id (Q3T hb)) (h0.ext.isi id hb)
   ·have hid:=Q7 hr
    obtain⟨fz1,e1,xs1,h3,h4,h5⟩:=h0.ext.row id et sz fz e xs hr
    obtain⟨fz2,e2,h6,_⟩:=hF.row (head id hid) h3
    have he:e1=e2∨e<e2:=by
     have:=List.all_eq_true.1 hh id (List.mem_range.2 hid)
     simp only[Bool.and_eq_true,hr,h3,h6,beq_iff_eq,Bool.or_eq_true,decide_eq_true_eq] at this
     exact this.2
    rcases he with he|he
    rotate_left
    ·exact⟨fz2,e2,xs1,h6,by omega,fun hee=>by omega⟩
    subst he
    exact⟨fz2,e1,xs1,h6,h4,fun hee=>⟨(h5 hee).1,fun b hb=>⟨Q56 ho (head id hid) ((h5 hee).2 b hb).1,((h5 hee).2 b hb).2⟩⟩⟩
   ·obtain⟨et,sz,fz,fz',e,xs,xs',h3,h4⟩:=hs
    have hid:=Q7 h3
    obtain⟨fz1,e1,xs1,h5,h6,h7⟩:=h0.ext.row id et sz fz e xs h3
    obtain⟨fz2,e2,h8,_⟩:=hF.row (head id hid) h5
    rw[h8] at h4
    obtain⟨rfl,rfl,rfl⟩:fz2=fz'∧e2=e∧xs1=xs':=by simpa using h4
    have he:e1=e2:=by
     have:=List.all_eq_true.1 hh id (List.mem_range.2 hid)
     simp only[Bool.and_eq_true,h3,h5,h8,beq_iff_eq,Bool.or_eq_true,decide_eq_true_eq] at this
     omega
    subst he
    obtain⟨h9,h10⟩:=h0.ext.sub b id hG ⟨_,_,_,_,_,_,_,h3,h5⟩
    have h11:=Q3s (g:=g) ho (head id hid) ((h7 rfl).2 b hG).1
    exact⟨h11.trans h9,h10⟩
   ·rw[←hF.1];exact hn
 ·cases h
end
end Go.Proofs.YtibemhahkicbpaaGreat
namespace Go.Proofs.YtibemhahkicbpaaGreat
open Go.RowKit Go.Lib
theorem Q9X (p:Nat→Prop)(h:∃ n,p n):∃ n,p n∧∀ m,p m→n≤m:=by
 obtain⟨n,hn⟩:=h
 induction n using Nat.strongRecOn with
 |_ n ih =>
  by_cases h:∃ m,m<n∧p m
  ·obtain⟨m,h1,h2⟩:=h
   exact ih m h1 h2
  ·exact⟨n,hn,fun m hm=>Nat.le_of_not_lt fun hlt=>h ⟨m,hlt,hm⟩⟩
def Qic (o0:List Ob)(s s':St):Prop:=∃ ρ l,QjK o0 ρ s s'=some l∧Qh l
section
variable {P:Program} {ty:Tys} {w0:World} {g0:Gh} {o0:List Ob} {N:Nat}
def Q4 {X:Type}(o0:List Ob)(S:X→St)(J:X→Prop)(μ:X→Nat)(x:X)(Q:Ex→St→Prop):Ex→St→Prop
 |.normal,s=>∃ x',J x'∧μ x'<μ x∧Qic o0 s (S x')
 |e,s=>Q e s
theorem Q9u (hT:TyOk P ty)(hm:P.follows .mixedOrders=true){cs:Nat→List AV→List Ob→Option (AV×List Ob)}{ord:Nat→OT}{c:Code}(hd:Q1I N c=true)(ho:Q1C .any ty ord c=true)
  {X:Type} (S:X→St) (J:X→Prop) (μ:X→Nat) {Q:Ex→St→Prop} {s:St} (x0:X) (h0:J x0) (hS:Qic o0 s (S x0))
  (round:∀ x,J x→(Q8 std ty cs ord c (fun e s=>.leaf e s) (S x)).ok P w0 g0 o0 N (Q4 o0 S J μ x Q)):WP P w0 g0 o0 N (.loop c) Q s:=by
 intro a w hs
 obtain⟨ρ,l,hl,hE⟩:=hS
 let I:Act→World→Prop:=fun a w=>∃ x,J x∧Sim w0 g0 o0 N (S x) a w
 let pm:Act→World→Nat→Prop:=fun a w n=>∃ x,J x∧Sim w0 g0 o0 N (S x) a w∧μ x=n
 let m:Act→World→Nat:=fun a w=>open Classical in if h:∃ n,pm a w n then Classical.choose (Q9X _ h) else 0
 have hmin:∀ a w,I a w→pm a w (m a w)∧∀ k,pm a w k→m a w≤k:=fun a w hI=>by
  have h:∃ n,pm a w n:=by
   obtain⟨x,h1,h2⟩:=hI
   exact⟨μ x,x,h1,h2,rfl⟩
  have e:m a w=Classical.choose (Q9X _ h):=dif_pos h
  rw[e]
  exact Classical.choose_spec (Q9X _ h)
 refine wp_loop I m ⟨x0,h0,Q6z ρ hl hE hs⟩ fun a w hI=>?_
 obtain⟨⟨x,hJ,hx,hμ⟩,hle⟩:=hmin a w hI
 refine Q3j (Q:=Q4 o0 S J μ x Q) hT hm c _ _ (S x) a w hd ho (fun c a d v w h=>?_) (fun e s a' w' hs' hq=>?_) hx (round x hJ)
 ·obtain⟨e',s',h1,h2,h3⟩:=h
  cases e'<;>cases h1
 ·cases e with
  |normal =>
   obtain⟨x',h1,h2,ρ',l',h3,h4⟩:=hq
   have hs2:=Q6z ρ' h3 h4 hs'
   have hI':I a' w':=⟨x',h1,hs2⟩
   refine⟨hI',Nat.lt_of_le_of_lt ((hmin a' w' hI').2 _ ⟨x',h1,hs2,rfl⟩) ?_⟩
   rw[←hμ];exact h2
  |exit i=>exact⟨.exit i,s,rfl,hs',hq⟩
  |ret=>exact⟨.ret,s,rfl,hs',hq⟩
end
end Go.Proofs.YtibemhahkicbpaaGreat
namespace Go.Proofs.YtibemhahkicbpaaGreat
open Go.RowKit Go.Lib
section
variable {P:Program} {w w':World} {g:Gh} {ob:List Ob}
theorem Q4o {vs:List Value}(h:Q2L w g ob vs []):vs=[]:=List.eq_nil_of_length_eq_zero h.1
theorem Q1r {vs:List Value}{x:AV}{r:List AV}(h:Q2L w g ob vs (x::r)):∃ v vs',vs=v::vs'∧ARel1 w g ob v x∧Q2L w g ob vs' r:=by
 cases vs with
 |nil=>exact absurd h.1 (by simp)
 |cons v vs=>exact⟨v,vs,rfl,h.2 0 v x rfl rfl,by simpa using h.1,fun j a b ha hb=>h.2 (j+1) a b (by simpa using ha) (by simpa using hb)⟩
theorem Q64 {v u:Value}(h:ARel1 w g ob v (.val u)):v=u:=ARel.valEq (ARel1.to h)
theorem QjA {v:Value}{sz:Nat}{xs:List AV}(h:ARel1 w g [] v (.slc sz xs))(M:Mem w g []) :
  ∃ A c ys,v=.slice A xs.length c∧Rd w (fun _=>True) sz A xs.length c ys∧Alike w g.A ys (Qx xs) :=
 Q3v (s:=⟨[],[]⟩) M (ARel1.to h) rfl
theorem Q9O {A:Nat→Nat→Prop}{us:List Value}:∀ {ys:List Value},Alike w A ys (us.map .val)→ys=us:=by
 induction us with
 |nil=>intro ys h;exact List.eq_nil_of_length_eq_zero h.1
 |cons u us ih =>
  intro ys h
  cases ys with
  |nil=>exact absurd h.1 (by simp)
  |cons y ys =>
   have h1:PRel w A y (.val u):=h.2 0 y (.val u) rfl rfl
   have h2:y=u:=by cases h1;rfl
   rw[h2,ih (ys:=ys) ⟨by simpa using h.1,fun j a b ha hb=>h.2 (j+1) a b (by simpa using ha) (by simpa using hb)⟩]
theorem Qcq (us:List Value):Qx (us.map .val)=us.map .val:=by
 induction us with
 |nil=>rfl
 |cons u us ih=>simp only[Qx,List.map_cons,List.flatMap_cons] at ih ⊢;rw[ih];rfl
theorem Qho {A':Nat→Nat→Prop}{S:Nat→Prop}{sz n c:Nat}{A:Option Addr}{ys:List Value}{xs:List AV}(hr:Rd w S sz A n c ys)(hS:∀ b o,S b→A' b o)(hn:n=xs.length)(hw:∀ x∈xs,x.cells.length=sz)(hA:∀ a,A=some a→∃ b o,a=⟨b,o,none⟩)
  (hal:Alike w A' ys (Qx xs)):PRel w A' (.slice A n c) (.slc sz xs):=by
 subst hn
 obtain⟨h1,h2,h3,h4,h5⟩:=hr
 cases A with
 |none =>
  have hc:=h4 rfl
  subst hc
  have:xs=[]:=List.eq_nil_of_length_eq_zero (by omega)
  subst this
  exact PRel.nil sz
 |some a =>
  obtain⟨b,o,rfl⟩:=hA a rfl
  have pos:∀ (j:Nat) u,(Qx xs)[j]?=some u→0<xs.length:=fun j u hu=>by
   cases xs with
   |nil=>simp at hu
   |cons _ _=>simp
  have h5':0<xs.length→S b∧∀ j u,ys[j]?=some u→w.cell? ⟨b,o+j,none⟩=some u:=fun h=>by
   obtain⟨b',o',h6,h7,h8⟩:=h5 h
   cases h6
   exact⟨h7,h8⟩
  have get:∀ (j:Nat) u,(Qx xs)[j]?=some u→∃ y,ys[j]?=some y∧ys.getD j undef=y:=fun j u hu=>by
   have hj:j<ys.length:=by rw[hal.1];exact Q7 hu
   exact⟨ys[j],List.getElem?_eq_getElem hj,by rw[List.getD_eq_getElem?_getD,List.getElem?_eq_getElem hj];rfl⟩
  refine PRel.slc b o c sz xs (fun j=>ys.getD j undef) h2 h3 hw (fun j u hu=>?_) (fun j u hu=>?_)
  ·obtain⟨y,hy,he⟩:=get j u hu
   obtain⟨h7,h8⟩:=h5' (pos j u hu)
   exact⟨hS _ _ h7,by rw[he];exact h8 j y hy⟩
  ·obtain⟨y,hy,he⟩:=get j u hu
   rw[he];exact hal.2 j y u hy hu
theorem Qew:∀ {vs:List Value} {xs ys:List AV},Q2L w g ob vs xs→leT xs ys→Q2L w g ob vs ys
 |vs,[],[],h,_=>h
 |_,[],_::_,_,hl=>hl.elim
 |_,_::_,[],_,hl=>hl.elim
 | [],x::r,y::r',h,_=>absurd h.1 (by simp)
 |v::vs,x::r,y::r',h,hl=>by
  have h1:=h.2 0 v x rfl rfl
  have h2:Q2L w g ob vs r':=Qew (xs:=r) ⟨by simpa using h.1,fun j a b ha hb=>h.2 (j+1) a b (by simpa using ha) (by simpa using hb)⟩ hl.2
  refine⟨by simp[h2.1],fun j a b ha hb=>?_⟩
  cases j with
  |zero =>
   obtain rfl:v=a:=by simpa using ha
   obtain rfl:y=b:=by simpa using hb
   exact Q8o h1 hl.1
  |succ j=>exact h2.2 j a b (by simpa using ha) (by simpa using hb)
theorem BCall.le {f:Nat}{args args':List AV}{ob ob':List Ob}{res:AV}(h:BCall P f args' ob res ob')(hl:leT args args'):BCall P f args ob res ob' :=
 ⟨h.1,fun w g vs M hL=>h.2 w g vs M (Qew hL hl)⟩
theorem BCall.forget {f:Nat}{args:List AV}{ob ob':List Ob}{res:AV}(h:BCall P f args ob res ob'):BCall P f args ob .dead ob' :=
 ⟨h.1,fun w g vs M hL=>(h.2 w g vs M hL).mono fun e w' ⟨v,g',h1,h2,h3,h4⟩=>⟨v,g',h1,h2,trivial,h4⟩⟩
theorem BCall.res {f:Nat}{args:List AV}{ob ob':List Ob}{res res':AV}(h:BCall P f args ob res ob')(hl:leA res res'):BCall P f args ob res' ob' :=
 ⟨h.1,fun w g vs M hL=>(h.2 w g vs M hL).mono fun e w' ⟨v,g',h1,h2,h3,h4⟩=>⟨v,g',h1,h2,Q7Q h3 hl,h4⟩⟩
theorem BCall.hand {f:Nat}{args:List AV}{res:AV}(he:∀ vs w,(callFunc f vs).run P w=.ok (.enter f vs) w)
  (h:∀ (w:World) (g:Gh) (vs:List Value),Mem w g []→Q2L w g [] vs args→Calls P f vs.toArray w fun e w'=>∃ v,e=.returned v∧Below w.heap.size w w'∧ARel w' (g.imm w w') [] v res):BCall P f args [] res [] :=
 ⟨he,fun w g vs M hL=>(h w g vs M hL).mono fun e w' ⟨v,h1,hb,hr⟩=>⟨v,g.imm w w',h1,M.immNew hb,hr,Step.immNew M hb⟩⟩
end
end Go.Proofs.YtibemhahkicbpaaGreat
namespace Go.Proofs.YtibemhahkicbpaaGreat
open Go.RowKit Go.Lib Tryz
def Q4z (x:UInt8):AV:=.val (.int .u8 x.toNat)
def Qhe (r:Int):AV:=.val (.int .i32 r)
def Qd7 (n:Int):AV:=.val (.int .i64 n)
def Q5 (b:List UInt8):List AV:=b.map Q4z
def Q1 (l:List Int):List AV:=l.map Qhe
def Q9 (l:List Int):List AV:=l.map Qd7
theorem QfK {α:Type}(f:α→AV){l:List α}{i:Int}(h0:0≤i)(h1:i<l.length)(d:α):(l.map f)[i.toNat]?.getD .dead=f (l[i.toNat]?.getD d):=by
 have:i.toNat<l.length:=by omega
 simp[this]
theorem Q1A (l:List UInt8):(Q5 l).length=l.length:=by simp[Q5]
theorem Q13 (l:List Int):(Q1 l).length=l.length:=by simp[Q1]
theorem Q2h (l:List Int):(Q9 l).length=l.length:=by simp[Q9]
theorem Qaf (a b:List Int):Q1 (a++b)=Q1 a++Q1 b:=by simp[Q1]
theorem Q4N (a b:List Int):Q9 (a++b)=Q9 a++Q9 b:=by simp[Q9]
theorem Qbj (n:Int):Q9 [n]=[.val (.int .i64 n)]:=rfl
theorem Q3k {l:List Int}{i:Int}(h0:0≤i)(h1:i<l.length):(Q1 l)[i.toNat]?.getD .dead=.val (.int .i32 (l[i.toNat]?.getD 0)):=QfK Qhe h0 h1 0
theorem Q2K {l:List Int}{i:Int}(h0:0≤i)(h1:i<l.length):(Q9 l)[i.toNat]?.getD .dead=.val (.int .i64 (l[i.toNat]?.getD 0)):=QfK Qd7 h0 h1 0
theorem Qjz (n:Int):std.inR .i64 n↔(-9223372036854775808≤n∧n≤9223372036854775807):=Iff.rfl
theorem S0:(false=true)=False∧(true=false)=False∧(∀ p:Prop,(False→p)=True)∧(∀ p:Prop,(True→p)=p)∧(∀ p:Prop,(p∧True)=p)∧(∀ p:Prop,(True∧p)=p):=by simp
theorem S1:Q2H []=True∧(∀ q r,Q2H (q::r)=(q.q∧Q2H r))∧(∀ c,(AV.agg c).cells=c)∧(∀ v,(AV.val v).cells=[.val v])∧(∀ a b,(AV.slc a b).cells=[.slc a b])∧(∀ c,(AV.ref c).cells=[.ref c])∧(∀ c,(AV.opt c).cells=[.opt c])∧(∀ c,(AV.tup c).cells=[.tup c])∧(∀ a b,(AV.box a b).cells=[.box a b])∧(∀ a b,(AV.row a b).cells=[.row a b])∧(∀ a b c,(AV.rowk a b c).cells=[.rowk a b c])∧(∀ a b c d,(AV.rptr a b c d).cells=[.rptr a b c d])∧(∀ c,(AV.kb c).cells=[.kb c])∧(∀ c,(AV.iter c).cells=[.iter c])∧AV.dead.cells=[.dead] ∧
  (∀ k n,Qg (.val (.int k n))=n)∧(∀ b,Q53 (.val (.bool b))=b)∧(∀ z xs,Q1O (.slc z xs)=xs)∧(∀ v,Q1O (.val v)=[])∧IntKind.min .i64=-9223372036854775808∧IntKind.max .i64=9223372036854775807∧IntKind.min .i32=-2147483648∧IntKind.max .i32=2147483647 :=
 ⟨rfl,fun _ _=>rfl,fun _=>rfl,fun _=>rfl,fun _ _=>rfl,fun _=>rfl,fun _=>rfl,fun _=>rfl,fun _ _=>rfl,fun _ _=>rfl,fun _ _ _=>rfl,fun _ _ _ _=>rfl,fun _=>rfl,fun _=>rfl,rfl,fun _ _=>rfl,fun _=>rfl,fun _ _=>rfl,fun _=>rfl,rfl,rfl,rfl,rfl⟩
theorem gI {a b:Int}(h:a=b):AV.val (.int .i64 a)=.val (.int .i64 b):=congrArg _ (congrArg _ h)
theorem gR {a b:Int}(h:a=b):AV.val (.int .i32 a)=.val (.int .i32 b):=congrArg _ (congrArg _ h)
theorem gB {a b:Bool}(h:a=b):AV.val (.bool a)=.val (.bool b):=congrArg _ (congrArg _ h)
theorem gT {a b:ByteArray}(h:a=b):AV.val (.string a)=.val (.string b):=congrArg _ (congrArg _ h)
theorem gA {n:Nat}{a b:List AV}(h:a=b):AV.slc n a=.slc n b:=congrArg _ h
theorem Qi7:prog.follows .mixedOrders=true:=by kernel_rfl
theorem fnO (keep:Bool){cs:Nat→List AV→List Ob→Option (AV×List Ob)}{ord:Nat→OT}{f:Nat}{fn:Func}{c:Code}{args:List AV}{ob:List Ob}{res:AV}{ob':List Ob}(hf:prog.funcs[f]?=some fn)(hb:fn.body=some c)
  (hk : (Nat.ble args.length fn.ntmps && (Q1I fn.ntmps c && (Q1C .any tys ord c && !(fn.name == "runtime.NumGoroutine")))) = true) (h : ∀ w0 g0, (Q8 std tys cs ord c (Q5B std tys keep fn.results.toList) ⟨ent 0 args, ob⟩).ok prog w0 g0 ob fn.ntmps (FinOk ob res ob')) : BCall prog f args ob res ob' := by
 simp only[Bool.and_eq_true,Bool.not_eq_true'] at hk
 exact Q7l keep Q6N Qi7 hf hb (enters_of hf hk.2.2.2 hb) (Nat.le_of_ble_eq_true hk.1) hk.2.1 hk.2.2.1 h
theorem fnN {cs:Nat→List AV→List Ob→Option (AV×List Ob)}{f:Nat}{fn:Func}{c:Code}{args:List AV}{ob:List Ob}{res:AV}{ob':List Ob}(hf:prog.funcs[f]?=some fn)(hb:fn.body=some c)
  (hk : (Nat.ble args.length fn.ntmps && (Q1I fn.ntmps c && (Q1C .any tys (fun _ => .nil) c && !(fn.name == "runtime.NumGoroutine")))) = true) (h : ∀ w0 g0, (Q8 std tys cs (fun _ => .nil) c (Q5B std tys false fn.results.toList) ⟨ent 0 args, ob⟩).ok prog w0 g0 ob fn.ntmps (FinOk ob res ob')) : BCall prog f args ob res ob' :=
 fnO false hf hb hk h
theorem Q1P {w0:World}{g0:Gh}{o0:List Ob}{N:Nat}{cs:Nat→List AV→List Ob→Option (AV×List Ob)}{c:Code}(hk:(Q1I N c&&Q1C .any tys (fun _=>.nil) c)=true)
  {X:Type} (S:X→St) (J:X→Prop) (μ:X→Nat) {Q:Ex→St→Prop} {s:St} (x0:X) (h0:J x0) (hS:Qic o0 s (S x0))
  (round:∀ x,J x→(Q8 std tys cs (fun _=>.nil) c (fun e s=>.leaf e s) (S x)).ok prog w0 g0 o0 N (Q4 o0 S J μ x Q)):WP prog w0 g0 o0 N (.loop c) Q s:=by
 rw[Bool.and_eq_true] at hk
 exact Q9u Q6N Qi7 hk.1 hk.2 S J μ x0 h0 hS round
def Len {α:Type}(xs:List α)(n:Int):Prop:=n=xs.length
theorem Len.eq {α:Type}{xs:List α}{n:Int}(h:Len xs n):n=(xs.length:Int):=h
theorem QX {α:Type}(xs:List α):∃ n,Len xs n:=⟨_,rfl⟩
def cs0:Nat→List AV→List Ob→Option (AV×List Ob):=fun _ _ _=>none
theorem Q6k (xs:List AV)(hn:xs.length≤1000000000):BCall prog 86 [.slc 1 xs] [] (.slc 1 xs) []:=by
 refine fnN (cs:=cs0) func86 rfl (by kernel_rfl) ?_
 intro w0 g0
 generalize hp:std=p
 generalize hT:Q8 p tys (cs0) _ _ _ _=T
 cbv at hT
 subst hT
 simp only[Tree.ok,Q4,S0]
 subst hp
 refine⟨fun h=>.pure rfl ?_,?_,.pure rfl (.inl rfl)⟩
 ·have h:xs=[]:=h
  subst h
  exact .inr (.inl ⟨rfl,_,rfl⟩)
 ·show 0+xs.length≤1000000000
  omega
theorem Qh9 (xs:List AV)(hn:xs.length≤1000000000):BCall prog 214 [.slc 1 xs] [] (.slc 1 xs) []:=by
 refine fnN (cs:=cs0) func214 rfl (by kernel_rfl) ?_
 intro w0 g0
 generalize hp:std=p
 generalize hT:Q8 p tys (cs0) _ _ _ _=T
 cbv at hT
 subst hT
 simp only[Tree.ok,Q4,S0]
 subst hp
 refine⟨fun h=>.pure rfl ?_,?_,.pure rfl (.inl rfl)⟩
 ·have h:xs=[]:=h
  subst h
  exact .inr (.inl ⟨rfl,_,rfl⟩)
 ·show 0+xs.length≤1000000000
  omega
theorem Qc0 (xs:List AV)(hn:xs.length≤1000000000):BCall prog 121 [.slc 1 xs] [] (.slc 1 xs) []:=by
 refine fnN (cs:=cs0) func121 rfl (by kernel_rfl) ?_
 intro w0 g0
 generalize hp:std=p
 generalize hT:Q8 p tys (cs0) _ _ _ _=T
 cbv at hT
 subst hT
 simp only[Tree.ok,Q4,S0]
 subst hp
 refine⟨fun h=>.pure rfl ?_,?_,.pure rfl (.inl rfl)⟩
 ·have h:xs=[]:=h
  subst h
  exact .inr (.inl ⟨rfl,_,rfl⟩)
 ·show 0+xs.length≤1000000000
  omega
end Go.Proofs.YtibemhahkicbpaaGreat
namespace Go.Proofs.YtibemhahkicbpaaGreat
open Go.RowKit Go.Lib
section
variable {w:World} {g:Gh} {ob:List Ob}
def Gh.kid (g:Gh)(w:World)(id:Nat)(b:Option Nat)(n:Nat):Gh where
 A b' o:=g.A b' o∨(b=some b'∧o<n)
 G b':=if b=some b' then some id else g.G b'
 loc:=g.loc
 sub b':=if b=some b' then true else g.sub b'
theorem Qjj (M:Mem w g ob){id ep i:Nat}{xs:List AV}(h:ob[id]?=some (.row Q4v 2 false ep xs)){b c:Nat}(hv:RowV w g id Q4v 2 (.slice (some ⟨b,0,none⟩) xs.length c) xs)
  {a u:AV} (hx:xs[i]?=some (.agg [a,u])) {us:List AV} (hu:u=.slc 1 us∨(u=.val (.slice none 0 0)∧us=[])) :
  ∃ y zs,w.cell? ⟨b,i * 2+1,none⟩=some y∧w.ownsRow 0 QeK 1 y us.length zs∧y.oneCell'=true∧Alike w g.A zs (Qx us)∧(∀ x∈us,x.cells.length=1)∧∀ b',y.ownBlock=some b'→g.G b'=some id∧g.sub b'=true∧(∀ o,us.length≤o→¬ g.A b' o)∧b'<w.heap.size:=by
 obtain⟨ys,ho,hG,hal,hw,hs1,hs2⟩:=hv
 have hil:=Q7 hx
 have hfl:=Q2f xs hw
 have hj:i * 2+1<ys.length:=by rw[hal.1,hfl];omega
 have hyj:=List.getElem?_eq_getElem hj
 have hcell:=ho.cells (g:=b) rfl _ _ hyj
 rw[Addr.add_mid,Nat.zero_add] at hcell
 have huj:(Qx xs)[i * 2+1]?=some u:=by
  rw[Q4J xs hw i _ hx 1 (by omega)];rfl
 have hrel:=hal.2 _ _ _ hyj huj
 generalize ys[i * 2+1]=y at hyj hcell hrel
 obtain⟨⟨k,zs,h1,h2⟩,h3⟩:=hs2 rfl _ _ hyj (by omega)
 have hone:=hrel.one
 -- its length,and its cells by content
 have key:k=us.length∧Alike w g.A zs (Qx us)∧∀ x∈us,x.cells.length=1:=by
  rcases hu with rfl|⟨rfl,rfl⟩
  ·cases hrel with
   |nil =>
    rcases h1.2 with ⟨_,h4⟩|⟨b',cap,cur,h4,_⟩
    ·subst h4
     have:zs=[]:=List.eq_nil_of_length_eq_zero (by have:=h1.1;omega)
     subst this
     exact⟨rfl,Alike.nil,fun x hx=>by cases hx⟩
    ·cases h4
   |slc b' o c' _ _ f hc hm hw' hcl hrl =>
    rcases h1.2 with ⟨h4,_⟩|⟨b2,cap,cur,h4,h5⟩
    ·cases h4
    ·cases h4
     refine⟨rfl,?_,hw'⟩
     have hfl2:=Q2f us hw'
     have hzl:zs.length=us.length * 1:=h1.1
     refine⟨by rw[hzl,hfl2],fun j y' u' hy' hu'=>?_⟩
     have e1:=h1.cells (g:=b') rfl j y' hy'
     rw[Addr.add_mid,Nat.zero_add] at e1
     have e2:=(hcl j u' hu').2
     rw[Nat.zero_add,e1] at e2
     obtain rfl:y'=f j:=Option.some.inj e2
     exact hrl j u' hu'
  ·cases hrel
   rcases h1.2 with ⟨_,h4⟩|⟨b',cap,cur,h4,_⟩
   ·subst h4
    have:zs=[]:=List.eq_nil_of_length_eq_zero (by have:=h1.1;omega)
    subst this
    exact⟨rfl,Alike.nil,fun x hx=>by cases hx⟩
   ·cases h4
 obtain⟨rfl,hk2,hk3⟩:=key
 refine⟨y,zs,hcell,h1,hone,hk2,hk3,fun b' hb'=>?_⟩
 obtain⟨h4,h5,h6⟩:=h2 b' hb'
 exact⟨h4,h5,h6,(M.own b' id h4).1⟩
theorem QbT:∀ (xs:List AV),(∀ x∈xs,x.cells.length=2)→∀ (i:Nat) (a u u':AV),xs[i]?=some (.agg [a,u])→Qx (xs.set i (.agg [a,u']))=(Qx xs).set (i * 2+1) u'
 | [],_,i,a,u,u',h=>by simp at h
 |x::r,hw,0,a,u,u',h=>by
  obtain rfl:x=.agg [a,u]:=by simpa using h
  rfl
 |x::r,hw,i+1,a,u,u',h=>by
  have ih:=QbT r (fun y hy=>hw y (List.mem_cons_of_mem _ hy)) i a u u' (by simpa using h)
  have hx:=hw x (List.mem_cons_self ..)
  obtain⟨p,q,hpq⟩:∃ p q,x.cells=[p,q]:=by
   match x.cells,hx with
   | [p,q],_=>exact⟨p,q,rfl⟩
  have e1:Qx (x::r)=p::q::Qx r:=by simp[hpq]
  have e2:Qx (x::r.set i (.agg [a,u']))=p::q::Qx (r.set i (.agg [a,u'])):=by simp[hpq]
  rw[List.set_cons_succ,e1,e2,ih,show (i+1) * 2+1=(i * 2+1)+1+1 by omega,List.set_cons_succ,List.set_cons_succ]
theorem Qil (M:Mem w g ob){id ep i:Nat}{xs:List AV}(h:ob[id]?=some (.row Q4v 2 false ep xs)){b c:Nat}(hv:RowV w g id Q4v 2 (.slice (some ⟨b,0,none⟩) xs.length c) xs)
  {a u:AV} (hx:xs[i]?=some (.agg [a,u])) {us:List AV} {y:Value} {zs:List Value} (hcell:w.cell? ⟨b,i * 2+1,none⟩=some y) (hown:w.ownsRow 0 QeK 1 y us.length zs) (hal:Alike w g.A zs (Qx us)) (hus:∀ x∈us,x.cells.length=1)
  (hyb:∀ b',y.ownBlock=some b'→g.G b'=some id∧g.sub b'=true∧(∀ o,us.length≤o→¬ g.A b' o)∧b'<w.heap.size)
  {w1 w2:World} {v':Value} {n:Int} (hw1:Below w.heap.size w w1) (ho2:w2.ownsRow 0 QeK 1 v' (us.length+1) (zs++[.int .i64 n])) (hg:w1.grownBy w2 y.ownBlock) (hvb:v'.ownBlock=y.ownBlock∨v'.ownBlock=some w1.heap.size)
  (hc2:∀ bb kk,bb<w1.heap.size→(y.ownBlock=some bb→kk<us.length * 1)→w2.cell? ⟨bb,kk,none⟩=w1.cell? ⟨bb,kk,none⟩) :
  ∃ g3,Mem (w2.setCells b (i * 2+1) [v']) g3 (ob.set id (.row Q4v 2 false (ep+1) (xs.set i (.agg [a,.slc 1 (us++[.val (.int .i64 n)])])))) ∧
   Step w g ob (w2.setCells b (i * 2+1) [v']) g3 (ob.set id (.row Q4v 2 false (ep+1) (xs.set i (.agg [a,.slc 1 (us++[.val (.int .i64 n)])])))) ∧
   RowV (w2.setCells b (i * 2+1) [v']) g3 id Q4v 2 (.slice (some ⟨b,0,none⟩) xs.length c) (xs.set i (.agg [a,.slc 1 (us++[.val (.int .i64 n)])])):=by
 obtain⟨w3,hw3⟩:=exq (w2.setCells b (i * 2+1) [v'])
 obtain⟨g3,hg3⟩:=exq (g.kid w id v'.ownBlock (us.length+1))
 rw[←hw3]
 have hid:=Q7 h
 have hil:=Q7 hx
 obtain⟨ys,ho,hG,hya,hyw,hs1,hs2⟩:=hv
 have hGb:=hG b rfl
 have hsb:=hs1 b rfl
 have hbl:=(M.own b id hGb).1
 -- blocks: the main one,the slice's,what is new
 have hyne:∀ b',y.ownBlock=some b'→b'≠b:=fun b' hb e=>by
  have:=(hyb b' hb).2.1
  rw[e,hsb] at this;cases this
 have hvown:∀ b',v'.ownBlock=some b'→(y.ownBlock=some b'∧b'<w.heap.size)∨w.heap.size≤b':=fun b' hb=>by
  rcases hvb with e|e
  ·rw[e] at hb;exact .inl ⟨hb,(hyb b' hb).2.2.2⟩
  ·rw[e] at hb;cases hb;exact .inr hw1.size
 have keep:∀ b',b'<w.heap.size→b'≠b→y.ownBlock≠some b'→w3.heap[b']?=w.heap[b']?:=fun b' h1 h2 h3=>by
  rw[hw3,Q19 (k:=0) h2,hg.block b' (Nat.lt_of_lt_of_le h1 hw1.size) (fun e=>h3 e.symm),hw1.block b' h1]
 have keepc:∀ b' o,b'<w.heap.size→b'≠b→(y.ownBlock=some b'→o<us.length)→w3.cell? ⟨b',o,none⟩=w.cell? ⟨b',o,none⟩:=fun b' o h1 h2 h3=>by
  rw[hw3,World.cell?_of_block (w:=w2) (Q19 (k:=0) h2),hc2 b' o (Nat.lt_of_lt_of_le h1 hw1.size) (fun e=>by have:=h3 e;omega),World.cell?_of_block (w:=w) (hw1.block b' h1)]
 have hsz:w.heap.size≤w3.heap.size:=by
  rw[hw3,Q2q]
  exact Nat.le_trans hw1.size hg.size
 have nomain:∀ o,¬ g.A b o:=fun o hA=>by
  obtain⟨et,sz,e,xs2,h1,_⟩:=(M.imm b o hA).2 id hGb hsb
  rw[h] at h1;cases h1
 have hA:∀ b' o,g.A b' o→w3.cell? ⟨b',o,none⟩=w.cell? ⟨b',o,none⟩:=fun b' o h1=>by
  refine keepc b' o (M.imm b' o h1).1 (fun e=>nomain o (e ▸ h1)) (fun e=>?_)
  refine Nat.lt_of_not_le fun h2=>(hyb b' e).2.2.1 o h2 h1
 have oldG:∀ b',b'<w.heap.size→g3.G b'=g.G b':=fun b' h1=>by
  rw[hg3]
  show (if v'.ownBlock=some b' then some id else g.G b')=_
  split
  ·rename_i e
   rcases hvown b' e with ⟨h2,_⟩|h2
   ·exact ((hyb b' h2).1).symm
   ·omega
  ·rfl
 have oldS:∀ b',b'<w.heap.size→g3.sub b'=g.sub b':=fun b' h1=>by
  rw[hg3]
  show (if v'.ownBlock=some b' then true else g.sub b')=_
  split
  ·rename_i e
   rcases hvown b' e with ⟨h2,_⟩|h2
   ·exact ((hyb b' h2).2.1).symm
   ·omega
  ·rfl
 have newA:∀ b' o,g3.A b' o→g.A b' o∨(v'.ownBlock=some b'∧o<us.length+1):=fun b' o h1=>by rw[hg3] at h1;exact h1
 have upA:∀ b' o,g.A b' o→g3.A b' o:=fun b' o h1=>by rw[hg3];exact .inl h1
 have G3:∀ b' k,g3.G b'=some k→(b'<w.heap.size∧g.G b'=some k)∨(v'.ownBlock=some b'∧k=id):=fun b' k h1=>by
  rw[hg3] at h1
  have h1:(if v'.ownBlock=some b' then some id else g.G b')=some k:=h1
  split at h1
  ·rename_i e;exact .inr ⟨e,(Option.some.inj h1).symm⟩
  ·exact .inl ⟨(M.own b' k h1).1,h1⟩
 have vlt:∀ b',v'.ownBlock=some b'→b'<w3.heap.size:=fun b' hb=>by
  rw[hw3,Q2q]
  exact (ho2.lt b' hb).2
 -- other rows and boxes
 have other:∀ b' k,g.G b'=some k→k≠id→w3.heap[b']?=w.heap[b']?:=fun b' k h1 h2=>by
  refine keep b' (M.own b' k h1).1 (fun e=>?_) (fun e=>?_)
  ·rw[e,hGb] at h1;exact h2 (Option.some.inj h1).symm
  ·rw[(hyb b' e).1] at h1;exact h2 (Option.some.inj h1).symm
 have E:Ext w g ob w3 g3 (ob.set id (.row Q4v 2 false (ep+1) (xs.set i (.agg [a,.slc 1 (us++[.val (.int .i64 n)])])))):=by
  refine⟨fun b' o h1=>⟨upA b' o h1,hA b' o h1⟩,fun _ _=>by rw[hg3];rfl,fun k hk=>?_,fun k hk=>?_,fun k et sz fz e xs2 hk=>?_,fun b' k hGk hs=>?_⟩
  ·have:k≠id:=by rintro rfl;rw[h] at hk;exact hk
   rw[List.getElem?_set_ne (Ne.symm this)];exact hk
  ·have:k≠id:=by rintro rfl;rw[h] at hk;exact hk
   rw[List.getElem?_set_ne (Ne.symm this)];exact hk
  ·by_cases e':k=id
   ·subst e'
    rw[h] at hk
    cases hk
    exact⟨false,ep+1,_,List.getElem?_set_self hid,by omega,fun h1=>by omega⟩
   ·exact⟨fz,e,xs2,by rw[List.getElem?_set_ne (Ne.symm e')];exact hk,Nat.le_refl _,fun _=>⟨rfl,fun b' hb'=>⟨by rw[oldG b' (M.own b' k hb').1];exact hb',other b' k hb' e'⟩⟩⟩
  ·have e':k≠id:=by
    rintro rfl
    obtain⟨et,sz,fz,fz',e,xs2,xs3,h1,h2⟩:=hs
    rw[h] at h1
    cases h1
    rw[List.getElem?_set_self hid] at h2
    have:=Option.some.inj h2
    injection this with _ _ _ h3
    omega
   refine⟨oldS b' (M.own b' k hGk).1,fun _ o h1=>?_⟩
   rcases newA b' o h1 with h2|⟨h2,_⟩
   ·exact h2
   ·rcases hvown b' h2 with ⟨h3,_⟩|h3
    ·rw[(hyb b' h3).1] at hGk;exact absurd (Option.some.inj hGk).symm e'
    ·have:=(M.own b' k hGk).1;omega
 have hrow:RowV w3 g3 id Q4v 2 (.slice (some ⟨b,0,none⟩) xs.length c) (xs.set i (.agg [a,.slc 1 (us++[.val (.int .i64 n)])])):=by
  have hvne:∀ b',v'.ownBlock=some b'→b'≠b:=fun b' hb=>by
   rcases hvown b' hb with ⟨h1,_⟩|h1
   ·exact hyne b' h1
   ·omega
  have hv3:w3.ownsRow 0 QeK 1 v' (us.length+1) (zs++[.int .i64 n]):=Q2C ho2 fun b' hb=>by rw[hw3];exact Q19 (k:=0) (hvne b' hb)
  have hfl:=Q2f xs hyw
  have hjl:i * 2+1<ys.length:=by rw[hya.1,hfl];omega
  have hfs:=QbT xs hyw i a u (.slc 1 (us++[.val (.int .i64 n)])) hx
  have hlen':(us++[AV.val (.int .i64 n)]).length=us.length+1:=by simp
  have hw':∀ x∈us++[AV.val (.int .i64 n)],x.cells.length=1:=fun x hx=>by
   rcases List.mem_append.1 hx with h1|h1
   ·exact hus x h1
   ·obtain rfl:x=.val (.int .i64 n):=by simpa using h1
    rfl
  have hfa:Qx (us++[AV.val (.int .i64 n)])=Qx us++[.val (.int .i64 n)]:=by simp[AV.cells]
  have hal':Alike w3 g3.A (zs++[.int .i64 n]) (Qx (us++[AV.val (.int .i64 n)])):=by
   rw[hfa]
   refine (hal.keep E.A).append ⟨rfl,fun j y' u' h1 h2=>?_⟩
   cases j with
   |zero =>
    obtain rfl:Value.int .i64 n=y':=by simpa using h1
    obtain rfl:AV.val (.int .i64 n)=u':=by simpa using h2
    exact PRel.val _ rfl
   |succ j=>simp at h1
  have hvP:PRel w3 g3.A v' (.slc 1 (us++[.val (.int .i64 n)])):=by
   rcases hv3.2 with ⟨_,h1⟩|⟨b',cap,cur,h1,h2,h3,h4,h5,h6,h7⟩
   ·omega
   ·subst h1
    rw[←hlen'] at h4 hv3 ⊢
    have hzl:(zs++[Value.int .i64 n]).length=(us++[AV.val (.int .i64 n)]).length * 1:=hv3.1
    have hfl2:=Q2f (us++[AV.val (.int .i64 n)]) hw'
    have get:∀ (j:Nat) u',(Qx (us++[AV.val (.int .i64 n)]))[j]?=some u'→j<(zs++[Value.int .i64 n]).length∧(zs++[Value.int .i64 n])[j]?=some ((zs++[Value.int .i64 n]).getD j undef):=fun j u' hu'=>by
     have h8:=Q7 hu'
     rw[hfl2] at h8
     have h9:j<(zs++[Value.int .i64 n]).length:=by omega
     exact⟨h9,by rw[List.getD_eq_getElem?_getD,List.getElem?_eq_getElem h9];rfl⟩
    refine PRel.slc b' 0 cap 1 _ (fun j=>(zs++[Value.int .i64 n]).getD j undef) h4 h5 hw' (fun j u' hu'=>⟨?_,?_⟩) (fun j u' hu'=>?_)
    ·rw[hg3]
     refine .inr ⟨rfl,?_⟩
     have:=(get j u' hu').1
     rw[hzl,hlen'] at this
     omega
    ·have:=hv3.cells (g:=b') rfl j _ (get j u' hu').2
     rw[Addr.add_mid,Nat.zero_add] at this
     rw[Nat.zero_add];exact this
    ·exact hal'.2 j _ u' (get j u' hu').2 hu'
  rcases ho.2 with ⟨h1,_⟩|⟨b0,cap,cur,h1,h2,h3,h4,h5,h6,h7⟩
  ·cases h1
  ·cases h1
   have hh2:w2.heap[b]?=some (.cells cur Q4v (0,0)):=by
    rw[hg.block b (Nat.lt_of_lt_of_le hbl hw1.size) (fun e=>hyne b e.symm rfl),hw1.block b hbl]
    exact h3
   have hjc:i * 2+1<cur.size:=by
    have:ys.length≤cur.size:=by rw[←h7,List.length_take];simp;omega
    omega
   have hh3:=Q2A (W:=w2) [v'] (i * 2+1) w2 cur hh2 (by simp;omega)
   have hset:cur.toList.take (i * 2+1)++([v']++cur.toList.drop (i * 2+1 + [v'].length))=cur.toList.set (i * 2+1) v':=by
    rw[List.set_eq_take_append_cons_drop,if_pos (by simpa using hjc)]
    rfl
   rw[hset] at hh3
   refine⟨ys.set (i * 2+1) v',⟨by rw[List.length_set,List.length_set];exact ho.1,.inr ⟨b,c,(cur.toList.set (i * 2+1) v').toArray,by rw[List.length_set],Nat.zero_le _,by rw[hw3];exact hh3,by rw[List.length_set];exact h4,h5,by simpa using h6,?_⟩⟩,fun b' hb=>?_,?_,?_,fun b' hb=>?_,fun _ j y' hy' hj=>?_⟩
   ·rw[List.length_set]
    show ((cur.toList.set (i * 2+1) v').toArray.toList).take _=_
    rw[List.toList_toArray,List.take_set,h7]
   ·obtain rfl:b=b':=by simpa[Value.ownBlock] using hb
    rw[oldG b hbl];exact hGb
   ·rw[hfs]
    refine⟨by rw[List.length_set,List.length_set];exact hya.1,fun j y' u' h8 h9=>?_⟩
    by_cases e:j=i * 2+1
    ·subst e
     rw[List.getElem?_set_self hjl] at h8
     rw[List.getElem?_set_self (by rw[←hya.1];exact hjl)] at h9
     cases h8;cases h9
     exact hvP
    ·rw[List.getElem?_set_ne (Ne.symm e)] at h8 h9
     exact (hya.2 j y' u' h8 h9).keep E.A
   ·intro x hx'
    rcases List.mem_or_eq_of_mem_set hx' with h1|h1
    ·exact hyw x h1
    ·rw[h1];rfl
   ·obtain rfl:b=b':=by simpa[Value.ownBlock] using hb
    rw[oldS b hbl];exact hsb
   ·have hy0:ys[i * 2+1]?=some y:=by
     have e1:=List.getElem?_eq_getElem hjl
     have e2:=ho.cells (g:=b) rfl _ _ e1
     rw[Addr.add_mid,Nat.zero_add,hcell] at e2
     rw[e1,←Option.some.inj e2]
    -- a block that another one owns
    have oldne:∀ (j:Nat) y',ys[j]?=some y'→j % 2=1→j≠i * 2+1→∀ b',y'.ownBlock=some b'→v'.ownBlock≠some b'∧y.ownBlock≠some b'∧b'≠b∧b'<w.heap.size:=fun j y' h8 h9 h10 b' hb=>by
     obtain⟨⟨k,zs',h11,h12⟩,h13⟩:=hs2 rfl j y' h8 h9
     obtain⟨h14,h15,_⟩:=h12 b' hb
     have hyn:y.ownBlock≠some b':=fun e=>h10 (h13 _ y b' hy0 (by omega) e hb).symm
     have hlt:=(M.own b' id h14).1
     refine⟨fun e=>?_,hyn,fun e=>?_,hlt⟩
     ·rcases hvown b' e with ⟨h16,_⟩|h16
      ·exact hyn h16
      ·omega
     ·rw[e,hsb] at h15;cases h15
    by_cases e:j=i * 2+1
    ·subst e
     rw[List.getElem?_set_self hjl] at hy'
     cases hy'
     refine⟨⟨us.length+1,_,hv3,fun b' hb=>⟨?_,?_,fun o ho' hA'=>?_⟩⟩,fun k z b' hz hk hzb hvb'=>?_⟩
     ·rw[hg3]
      show (if v'.ownBlock=some b' then some id else g.G b')=_
      rw[if_pos hb]
     ·rw[hg3]
      show (if v'.ownBlock=some b' then true else g.sub b')=_
      rw[if_pos hb]
     ·rcases newA b' o hA' with h8|⟨_,h8⟩
      ·rcases hvown b' hb with ⟨h9,_⟩|h9
       ·exact (hyb b' h9).2.2.1 o (by omega) h8
       ·have:=(M.imm b' o h8).1;omega
      ·omega
     ·refine Classical.byContradiction fun hne=>?_
      rw[List.getElem?_set_ne (Ne.symm hne)] at hz
      exact (oldne k z hz hk hne b' hzb).1 hvb'
    ·rw[List.getElem?_set_ne (Ne.symm e)] at hy'
     obtain⟨⟨k,zs',h11,h12⟩,h13⟩:=hs2 rfl j y' hy' hj
     refine⟨⟨k,zs',Q2C h11 fun b' hb=>?_,fun b' hb=>?_⟩,fun k' z b' hz hk' hzb hyb'=>?_⟩
     ·obtain⟨h8,h9,h10,h14⟩:=oldne j y' hy' hj e b' hb
      exact keep b' h14 h10 h9
     ·obtain⟨h8,h9,h10,h14⟩:=oldne j y' hy' hj e b' hb
      obtain⟨h15,h16,h17⟩:=h12 b' hb
      refine⟨by rw[oldG b' h14];exact h15,by rw[oldS b' h14];exact h16,fun o ho' hA'=>?_⟩
      rcases newA b' o hA' with h18|⟨h18,_⟩
      ·exact h17 o ho' h18
      ·exact h8 h18
     ·by_cases e2:k'=i * 2+1
      ·subst e2
       rw[List.getElem?_set_self hjl] at hz
       cases hz
       exact absurd hzb (oldne j y' hy' hj e b' hyb').1
      ·rw[List.getElem?_set_ne (Ne.symm e2)] at hz
       exact h13 k' z b' hz hk' hzb hyb'
 refine⟨g3,?_,?_,hrow⟩
 ·refine⟨fun k cs hk=>?_,fun k cs hk j u hj=>?_,fun k s p hk=>?_,fun b' k hk=>?_,fun b' o hA'=>?_,fun k et sz fz e xs2 hk=>?_,fun b' hs=>?_,fun b1 b2 k h1 h2 hs hs'=>?_⟩
  ·have e':k≠id:=by rintro rfl;rw[List.getElem?_set_self hid] at hk;cases hk
   rw[List.getElem?_set_ne (Ne.symm e')] at hk
   obtain⟨h1,cur,T,h2,h3⟩:=M.box k cs hk
   have hl:g3.loc k=g.loc k:=by rw[hg3];rfl
   exact⟨by rw[hl,oldG _ (M.own _ _ h1).1];exact h1,cur,T,by rw[hl,other _ _ h1 e'];exact h2,h3.ext E⟩
  ·have e':k≠id:=by rintro rfl;rw[List.getElem?_set_self hid] at hk;cases hk
   rw[List.getElem?_set_ne (Ne.symm e')] at hk
   obtain⟨h1,y',h2,h3⟩:=M.fbox k cs hk j u hj
   have hl:g3.loc k=g.loc k:=by rw[hg3];rfl
   exact⟨by rw[hl];exact upA _ _ h1,y',by rw[hl,hA _ _ h1];exact h2,h3.keep E.A⟩
  ·have e':k≠id:=by rintro rfl;rw[List.getElem?_set_self hid] at hk;cases hk
   rw[List.getElem?_set_ne (Ne.symm e')] at hk
   obtain⟨h1,h2⟩:=M.iter k s p hk
   have hl:g3.loc k=g.loc k:=by rw[hg3];rfl
   exact⟨by rw[hl,oldG _ (M.own _ _ h1).1];exact h1,by rw[hl,other _ _ h1 e'];exact h2⟩
  ·rw[List.length_set]
   rcases G3 b' k hk with ⟨h1,h2⟩|⟨h1,rfl⟩
   ·exact⟨Nat.lt_of_lt_of_le h1 hsz,(M.own b' k h2).2⟩
   ·exact⟨vlt b' h1,hid⟩
  ·rcases newA b' o hA' with h1|⟨h1,h2⟩
   ·have h3:=M.imm b' o h1
    refine⟨Nat.lt_of_lt_of_le h3.1 hsz,fun k hk hs=>?_⟩
    rw[oldG b' h3.1] at hk
    rw[oldS b' h3.1] at hs
    obtain⟨et,sz,e,xs2,h4,h5⟩:=h3.2 k hk hs
    have e':k≠id:=by rintro rfl;rw[h] at h4;cases h4
    exact⟨et,sz,e,xs2,by rw[List.getElem?_set_ne (Ne.symm e')];exact h4,h5⟩
   ·refine⟨vlt b' h1,fun k hk hs=>?_⟩
    rw[hg3] at hs
    have hs:(if v'.ownBlock=some b' then true else g.sub b')=false:=hs
    rw[if_pos h1] at hs;cases hs
  ·by_cases e':k=id
   ·subst e'
    rw[List.getElem?_set_self hid] at hk
    cases hk
    refine⟨by omega,fun x hx'=>?_⟩
    rcases List.mem_or_eq_of_mem_set hx' with h1|h1
    ·exact hyw x h1
    ·rw[h1];rfl
   ·rw[List.getElem?_set_ne (Ne.symm e')] at hk;exact M.roww k _ _ _ _ _ hk
  ·rw[hg3] at hs
   have hs:(if v'.ownBlock=some b' then true else g.sub b')=true:=hs
   split at hs
   ·rename_i h1
    refine⟨id,_,_,_,_,_,?_,List.getElem?_set_self hid⟩
    rw[hg3]
    show (if v'.ownBlock=some b' then some id else g.G b')=_
    rw[if_pos h1]
   ·obtain⟨k,et,sz,fz,e,xs2,h1,h2⟩:=M.nsub b' hs
    have h3:g3.G b'=some k:=by rw[oldG b' (M.own b' k h1).1];exact h1
    by_cases e':k=id
    ·subst e'
     exact⟨k,_,_,_,_,_,h3,List.getElem?_set_self hid⟩
    ·exact⟨k,et,sz,fz,e,xs2,h3,by rw[List.getElem?_set_ne (Ne.symm e')];exact h2⟩
  ·have main:∀ b' k,g3.G b'=some k→g3.sub b'=false→g.G b'=some k∧g.sub b'=false:=fun b' k h1 h2=>by
    rw[hg3] at h1 h2
    have h1:(if v'.ownBlock=some b' then some id else g.G b')=some k:=h1
    have h2:(if v'.ownBlock=some b' then true else g.sub b')=false:=h2
    split at h2
    ·cases h2
    ·rename_i e
     rw[if_neg e] at h1
     exact⟨h1,h2⟩
   exact M.uniq b1 b2 k (main b1 k h1 hs).1 (main b2 k h2 hs').1 (main b1 k h1 hs).2 (main b2 k h2 hs').2
 ·have hr:=Q2t b [v'] (i * 2+1) w2
  refine⟨?_,?_,?_,hsz,fun b' h1 h2=>?_,fun b' k hk=>?_,fun b' o hA'=>?_,E,by simp⟩
  ·rw[hw3,hr.1,hg.os,hw1.os]
  ·rw[hw3,hr.2.1,hg.tape,hw1.tape]
  ·rw[hw3,hr.2.2,hg.output,hw1.output]
  ·exact keep b' h1 (fun e=>by rw[e,hGb] at h2;cases h2) (fun e=>by rw[(hyb b' e).1] at h2;cases h2)
  ·rcases G3 b' k hk with ⟨_,h2⟩|⟨h1,rfl⟩
   ·exact .inl ⟨k,h2⟩
   ·rcases hvown b' h1 with ⟨h2,_⟩|h2
    ·exact .inl ⟨_,(hyb b' h2).1⟩
    ·exact .inr h2
  ·rcases newA b' o hA' with h1|⟨h1,_⟩
   ·exact .inl h1
   ·rcases hvown b' h1 with ⟨h2,_⟩|h2
    ·exact .inr (.inl ⟨_,(hyb b' h2).1⟩)
    ·exact .inr (.inr h2)
end
end Go.Proofs.YtibemhahkicbpaaGreat
