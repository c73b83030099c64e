/- Lemmas; conditions told. -/
import Derived.Test.YtibemhahkicbpaaGreatQJ07
import Derived.Laws.Sem
set_option maxRecDepth 99999
set_option maxHeartbeats 0
set_option linter.unusedSimpArgs false
set_option linter.unusedVariables false
namespace Go.Proofs.YtibemhahkicbpaaGreat
open List(all_eq_true mem_range getElem?_eq_getElem getElem?_map getD_eq_getElem?_getD map_cons mem_of_getElem? all_cons)
open Nat(le_refl not_lt)
open Option(map_eq_some_iff map_some)
open Go.RowKit Go.Lib
abbrev Eqs:=List (AV×AV)
def both:Option Eqs->Option Eqs->Option Eqs
 |some a,some b=>some (a++b)
 |_,_=>none
def Q5Z(ob ob':List Ob)(ρ:List (Option Nat))(x x':AV):Option Eqs :=
 match x' with
 |.dead=>some []
 |.box j off=>match ρ[j]? with
  |some (some i)=>some [(x,.box i off)]
  |_=>none
 |.iter j=>match ρ[j]? with
  |some (some i)=>some [(x,.iter i)]
  |_=>none
 |.row j e'=>match ob'[j]? with
  |some (.row _ _ _ e2 xs)=>if e2=e' then(match ρ[j]? with
   |some (some i)=>(match ob[i]? with
    |some (.row _ _ _ e _)=>some [(x,.row i e)]
    |_=>none)
   |some none=>some [(x,.val (.slice none 0 0)),(.slc 0 xs,.slc 0 [])]
   |none=>none)else none
  |_=>none
 |.val (.bool b)=>match x with
  |.kb c=>some [(.kb c,.kb b)]
  |_=>some [(x,.val (.bool b))]
 |.val v=>some [(x,.val v)]
 |.slc sz xs=>some [(x,.slc sz xs)]
 |.ref cs=>some [(x,.ref cs)]
 |.opt y=>some [(x,.opt y)]
 |.kb b=>some [(x,.kb b)]
 |_=>none
def Qdq(ob ob':List Ob)(ρ:List (Option Nat)):List AV->List AV->Option Eqs
 | [],[]=>some []
 |x::r,x'::r'=>both (Q5Z ob ob' ρ x x') (Qdq ob ob' ρ r r')
 |_,_=>none
def QbM(ob ob':List Ob)(ρ:List (Option Nat))(x x':AV):Option Eqs :=
 match x' with
 |.agg cs'=>match x with
  |.agg cs=>Qdq ob ob' ρ cs cs'
  |_=>none
 |_=>Q5Z ob ob' ρ x x'
def Qoj(s s':St)(ρ:List (Option Nat)):List (Nat×AV)->Option Eqs
 | []=>some []
 |(t,x')::r=>both (QbM s.ob s'.ob ρ (lk t s.tm) x') (Qoj s s' ρ r)
def Q41(ob ob':List Ob)(ρ:List (Option Nat))(i:Option Nat)(o':Ob):Option Eqs :=
 match i with
 |some i=>match o',ob[i]? with
  |.box cs',some (.box cs)=>Qdq ob ob' ρ cs cs'
  |.fbox cs',some (.fbox cs)=>some [(.slc 0 cs,.slc 0 cs')]
  |.row et sz fz _ xs',some (.row et2 sz2 fz2 _ xs)=>if et=et2/\sz=sz2/\(fz2=true->fz=true)then some [(.slc 0 xs,.slc 0 xs')]else none
  |.iter b p,some (.iter b2 p2)=>some [(.val (.string b2),.val (.string b)),(.box 0 p2,.box 0 p)]
  |_,_=>none
 |none=>match o' with
  |.row _ sz fz _ xs=>if 0<sz/\fz=false then some [(.slc 0 xs,.slc 0 [])]else none
  |_=>none
def Q9j(ob ob':List Ob)(ρ:List (Option Nat)):List (Option Nat)->List Ob->Option Eqs
 | [],[]=>some []
 |i::r,o::r'=>both (Q41 ob ob' ρ i o) (Q9j ob ob' ρ r r')
 |_,_=>none
def Qho(o0 ob ob':List Ob)(ρ:List (Option Nat)):Bool:=(List.range o0.length).all fun j=>ρ[j]? == some (some j)&&(match o0[j]?,ob[j]?,ob'[j]? with
 |some (.row _ _ _ e0 _),some (.row _ _ _ e _),some (.row _ _ _ e' _)=>e == e'||decide (e0<e')
 |_,_,_=>true)
def Qod(o0:List Ob)(ρ:List (Option Nat))(s s':St):Option Eqs :=
 if Q32 ρ=true/\Qho o0 s.ob s'.ob ρ=true/\o0.length<=ρ.length then both (Qoj s s' ρ s'.tm) (Q9j s.ob s'.ob ρ ρ s'.ob)else none
def Qe:Eqs->Prop
 | []=>True
 |(a,b)::r=>a=b/\Qe r
theorem Q3T{a b:Eqs}:Qe (a++b)↔Qe a/\Qe b:=by
 induction a with
 |nil=>simp[Qe]
 |cons x r ih=>obtain⟨u,v⟩:=x;simp[Qe,ih,and_assoc]
theorem Q37{x y:Option Eqs}{l:Eqs}(h:both x y=some l)(hl:Qe l):(∃a,x=some a/\Qe a)/\∃b,y=some b/\Qe b:=by
 cases x with
 |none=>cases h
 |some a =>
  cases y with
  |none=>cases h
  |some b =>
   obtain rfl:a++b=l:=by simpa[both]using h
   exact⟨⟨a,rfl,(Q3T.1 hl).1⟩,b,rfl,(Q3T.1 hl).2⟩
def Gh.ren(g:Gh)(ρ:List (Option Nat)):Gh:=⟨g.A,fun b=>(g.G b).bind (Qi0 ρ),fun j=>match ρ[j]? with|some (some i)=>g.loc i|_=>0,fun b=>g.sub b&&((g.G b).bind (Qi0 ρ)).isSome⟩
section
variable {w:World}{g:Gh}{ob ob':List Ob}{ρ:List (Option Nat)}
theorem QeI{i j:Nat}(h:Qi0 ρ i=some j):ρ[j]?=some (some i):=by
 have:=List.find?_some h
 simpa using this
theorem Q7a(h:Q32 ρ=true){i j:Nat}(hj:ρ[j]?=some (some i)):Qi0 ρ i=some j:=by
 have:=all_eq_true.1 h j (mem_range.2 (Qa hj))
 rw[hj]at this;simpa using this
theorem Q3r{i j:Nat}(hj:ρ[j]?=some (some i)):(g.ren ρ).loc j=g.loc i:=by simp[Gh.ren,hj]
theorem Q6i(h:Q32 ρ=true){i j b:Nat}(hj:ρ[j]?=some (some i))(hG:g.G b=some i):(g.ren ρ).G b=some j:=by
 simp[Gh.ren,hG,Q7a h hj]
theorem Q39{j b:Nat}(hG:(g.ren ρ).G b=some j):∃i,ρ[j]?=some (some i)/\g.G b=some i:=by
 simp only[Gh.ren,Option.bind_eq_some_iff]at hG;obtain⟨i,h1,h2⟩:=hG;exact⟨i,QeI h2,h1⟩
theorem Q4F(h:Q32 ρ=true){i j b:Nat}(hj:ρ[j]?=some (some i))(hG:g.G b=some i):(g.ren ρ).sub b=g.sub b:=by
 simp[Gh.ren,hG,Q7a h hj]
theorem Q4M:∀(r:List (Option Nat)) (os:List Ob) (l:Eqs),Q9j ob ob' ρ r os=some l->Qe l->r.length=os.length/\∀(j:Nat) i o,r[j]?=some i->os[j]?=some o->∃l,Q41 ob ob' ρ i o=some l/\Qe l
 | [],[],_,_,_=>⟨rfl,fun j i o h=>by simp at h⟩
 | [],_::_,_,h,_=>by cases h
 |_::_,[],_,h,_=>by cases h
 |i::r,o::os,l,h,hl=>by
  obtain⟨h1,b,h2,hb⟩:=Q37 h hl;obtain⟨hn,ih⟩:=Q4M r os b h2 hb;refine⟨by simp[hn],fun j i' o' hi ho=>?_⟩
  cases j with
  |zero =>
   obtain rfl:i=i':=by simpa using hi
   obtain rfl:o=o':=by simpa using ho
   exact h1
  |succ j=>exact ih j i' o' (by simpa using hi) (by simpa using ho)
theorem Qe8:∀(r r':List AV)(l:Eqs),Qdq ob ob' ρ r r'=some l->Qe l->r.length=r'.length/\∀(j:Nat) x x',r[j]?=some x->r'[j]?=some x'->∃l,Q5Z ob ob' ρ x x'=some l/\Qe l
 | [],[],_,_,_=>⟨rfl,fun j i o h=>by simp at h⟩
 | [],_::_,_,h,_=>by cases h
 |_::_,[],_,h,_=>by cases h
 |i::r,o::os,l,h,hl=>by
  obtain⟨h1,b,h2,hb⟩:=Q37 h hl;obtain⟨hn,ih⟩:=Qe8 r os b h2 hb;refine⟨by simp[hn],fun j i' o' hi ho=>?_⟩
  cases j with
  |zero =>
   obtain rfl:i=i':=by simpa using hi
   obtain rfl:o=o':=by simpa using ho
   exact h1
  |succ j=>exact ih j i' o' (by simpa using hi) (by simpa using ho)
def Fits(ob ob':List Ob)(ρ:List (Option Nat)):Prop:=ρ.length=ob'.length/\∀(j:Nat) i o,ρ[j]?=some i->ob'[j]?=some o->∃l,Q41 ob ob' ρ i o=some l/\Qe l
theorem Fits.at_(h:Fits ob ob' ρ){i j:Nat}(hj:ρ[j]?=some (some i)):∃o,ob'[j]?=some o/\∃l,Q41 ob ob' ρ (some i) o=some l/\Qe l:=by
 have hl:j<ob'.length:=h.1 ▸ Qa hj;exact⟨_,getElem?_eq_getElem hl,h.2 j _ _ hj (getElem?_eq_getElem hl)⟩
theorem Fits.isB(h:Fits ob ob' ρ){i j:Nat}(hj:ρ[j]?=some (some i))(hb:Q7m ob[i]?):Q7m ob'[j]?:=by
 obtain⟨o,yK,l,h1,_⟩:=h.at_ hj;rw[yK];cases j2:ob[i]? with
 |none=>rw[j2]at hb;exact hb.elim
 |some q =>
  rw[j2]at hb;cases q<;>first|exact hb.elim|(cases o<;>first|trivial|(simp[Q41,j2]at h1;done))
theorem Fits.isI(h:Fits ob ob' ρ){i j:Nat}(hj:ρ[j]?=some (some i))(hb:Qbp ob[i]?):Qbp ob'[j]?:=by
 obtain⟨o,yK,l,h1,_⟩:=h.at_ hj;rw[yK];cases j2:ob[i]? with
 |none=>rw[j2]at hb;exact hb.elim
 |some q =>
  rw[j2]at hb;cases q<;>first|exact hb.elim|(cases o<;>first|trivial|(simp[Q41,j2]at h1;done))
theorem Fits.row(h:Fits ob ob' ρ){i j et sz e:Nat}{fz:Bool}{xs:List AV}(hj:ρ[j]?=some (some i))(hb:ob[i]?=some (.row et sz fz e xs)):∃fz' e',ob'[j]?=some (.row et sz fz' e' xs)/\(fz=true->fz'=true):=by
 have hl:j<ob'.length:=h.1 ▸ Qa hj;obtain⟨l,h1,h2⟩:=h.2 j _ _ hj (getElem?_eq_getElem hl);rw[getElem?_eq_getElem hl];cases ho:ob'[j]with
 |row et' sz' fz' e' xs' =>
  simp only[Q41,ho,hb]at h1;split at h1
  ·rename_i hk
   obtain⟨rfl,rfl,hk⟩:=hk;cases h1;obtain⟨h3,_⟩:=h2;cases h3;exact⟨fz',e',rfl,hk⟩
  ·cases h1
 |_=>simp[Q41,ho,hb]at h1
theorem QdU(hF:Fits ob ob' ρ)(ho:Q32 ρ=true){v:Value}{x x':AV}{l:Eqs}(h:ARel0 w g ob v x)(he:Q5Z ob ob' ρ x x'=some l)(hl:Qe l):ARel0 w (g.ren ρ) ob' v x':=by
 have one:∀y,some [(x,y)]=some l->x=y:=fun y hy=>by cases hy;exact hl.1
 cases x' with
 |dead=>trivial
 |box j off =>
  simp only[Q5Z]at he;split at he
  ·rename_i i hj
   cases one _ he;exact⟨by rw[Q3r hj];exact h.1,hF.isB hj h.2⟩
  ·cases he
 |iter j =>
  simp only[Q5Z]at he;split at he
  ·rename_i i hj
   cases one _ he;exact⟨by rw[Q3r hj];exact h.1,hF.isI hj h.2⟩
  ·cases he
 |row j e' =>
  simp only[Q5Z]at he;split at he
  ·rename_i et' sz' fz' e2 xs' yM
   split at he
   ·rename_i qg
    subst qg;split at he
    ·rename_i i hj
     split at he
     ·rename_i et sz fz e xs j2
      cases one _ he;obtain⟨h1,et3,sz3,fz3,e3,xs3,h2,h3,h4⟩:=h;rw[j2]at h2;cases h2;obtain⟨fz4,e4,h5,h6⟩:=hF.row hj j2;rw[yM]at h5;cases h5;refine⟨h1,_,_,_,_,_,yM,le_refl _,fun _=>?_⟩
      obtain⟨ys,h7,h8,h9,ju,yw⟩:=h4 rfl;exact⟨ys,h7,fun b hb=>Q6i ho hj (h8 b hb),h9,ju,yw.ext h8 fun b hb=>⟨Q6i ho hj hb,Q4F ho hj hb,fun _=>⟨rfl,fun _ h=>h⟩⟩⟩
     ·cases he
    ·rename_i hj
     cases he;obtain⟨h1,h2,_⟩:=hl;subst h1;cases h2;cases(show v=_ from ARel.valEq (g:=g) (w:=w) (ob:=ob) h)
     refine⟨rfl,_,_,_,_,_,yM,le_refl _,fun _=>⟨[],World.ownsRow_nil _ _ _ _,(fun b h=>by cases h),Alike.nil,(fun x h=>by cases h),(fun b h=>by cases h),(fun _ j y h=>by simp at h)⟩⟩
    ·cases he
   ·cases he
  ·cases he
 |val u =>
  have gen:x=.val u->ARel0 w (g.ren ρ) ob' v (.val u):=fun e=>by subst e;exact h
  cases u with
  |bool b =>
   simp only[Q5Z]at he;split at he
   ·rename_i c
    cases he;obtain⟨h1,_⟩:=hl;cases h1;have e:v=.bool b:=h;subst e;exact PRel.val _ rfl
   ·exact gen (one _ he)
  |_=>exact gen (one _ he)
 |slc sz xs=>cases one _ he;exact h
 |ref cs=>cases one _ he;exact h
 |opt y=>cases one _ he;exact h
 |kb b=>cases one _ he;exact h
 |_=>cases he
theorem Qes(hF:Fits ob ob' ρ)(ho:Q32 ρ=true){vs:List Value}{cs cs':List AV}{l:Eqs}(h:ARelC w g ob vs cs)(he:Qdq ob ob' ρ cs cs'=some l)(hl:Qe l):ARelC w (g.ren ρ) ob' vs cs':=by
 obtain⟨hn,hg⟩:=Qe8 _ _ _ he hl;refine⟨by rw[h.1,hn],fun j y u hy hu=>?_⟩
 have hj:j<cs.length:=by rw[hn];exact Qa hu
 obtain⟨l',h1,h2⟩:=hg j _ _ (getElem?_eq_getElem hj) hu;obtain⟨h3,h4⟩:=h.2 j y _ hy (getElem?_eq_getElem hj);exact⟨QdU hF ho h3 h1 h2,h4⟩
theorem QhM{x x':AV}{l:Eqs}(he:Q5Z ob ob' ρ x x'=some l)(hl:Qe l):x'=.dead\/((∀cs,x≠.agg cs)/\∀cs,x≠.tup cs):=by
 have one:∀y,some [(x,y)]=some l->x=y:=fun y hy=>by cases hy;exact hl.1
 have fin:∀y,x=y->((∀cs,y≠.agg cs)/\∀cs,y≠.tup cs)->x'=.dead\/((∀cs,x≠.agg cs)/\∀cs,x≠.tup cs):=fun y h hy=>.inr (h ▸ hy)
 cases x' with
 |dead=>exact .inl rfl
 |box j off =>
  simp only[Q5Z]at he;split at he
  ·exact fin _ (one _ he) ⟨(fun cs h=>by cases h),(fun cs h=>by cases h)⟩
  ·cases he
 |iter j =>
  simp only[Q5Z]at he;split at he
  ·exact fin _ (one _ he) ⟨(fun cs h=>by cases h),(fun cs h=>by cases h)⟩
  ·cases he
 |row j e' =>
  simp only[Q5Z]at he;split at he
  ·split at he
   ·split at he
    ·split at he
     ·exact fin _ (one _ he) ⟨(fun cs h=>by cases h),(fun cs h=>by cases h)⟩
     ·cases he
    ·cases he
     exact fin _ hl.1 ⟨(fun cs h=>by cases h),(fun cs h=>by cases h)⟩
    ·cases he
   ·cases he
  ·cases he
 |val u =>
  cases u with
  |bool b =>
   simp only[Q5Z]at he;split at he
   ·exact .inr ⟨(fun cs h=>by cases h),(fun cs h=>by cases h)⟩
   ·exact fin _ (one _ he) ⟨(fun cs h=>by cases h),(fun cs h=>by cases h)⟩
  |_=>exact fin _ (one _ he) ⟨(fun cs h=>by cases h),(fun cs h=>by cases h)⟩
 |slc sz xs=>exact fin _ (one _ he) ⟨(fun cs h=>by cases h),(fun cs h=>by cases h)⟩
 |ref cs=>exact fin _ (one _ he) ⟨(fun cs h=>by cases h),(fun cs h=>by cases h)⟩
 |opt y=>exact fin _ (one _ he) ⟨(fun cs h=>by cases h),(fun cs h=>by cases h)⟩
 |kb b=>exact fin _ (one _ he) ⟨(fun cs h=>by cases h),(fun cs h=>by cases h)⟩
 |_=>cases he
theorem Q88(hF:Fits ob ob' ρ)(ho:Q32 ρ=true){v:Value}{x x':AV}{l:Eqs}(h:ARel w g ob v x)(he:QbM ob ob' ρ x x'=some l)(hl:Qe l):ARel w (g.ren ρ) ob' v x':=by
 have gen:Q5Z ob ob' ρ x x'=some l->ARel w (g.ren ρ) ob' v x':=fun he=>by
  have hx:ARel0 w g ob v x\/x'=.dead:=by
   rcases QhM he hl with h1|⟨h1,h2⟩
   ·exact .inr h1
   ·left
    cases x<;>first|exact h|exact absurd rfl (h1 _)|exact absurd rfl (h2 _)
  rcases hx with hx|rfl
  ·exact(QdU hF ho hx he hl).to
  ·trivial
 cases x' with
 |agg cs' =>
  simp only[QbM]at he;split at he
  ·obtain⟨vs,rfl,hc⟩:=h
   exact⟨vs,rfl,Qes hF ho hc he hl⟩
  ·cases he
 |_=>exact gen he
theorem Mem.ren(M:Mem w g ob)(hF:Fits ob ob' ρ)(ho:Q32 ρ=true):Mem w (g.ren ρ) ob':=by
 have get:∀(j:Nat) o,ob'[j]?=some o->∃i,ρ[j]?=some i/\∃l,Q41 ob ob' ρ i o=some l/\Qe l:=fun j o h=>by
  have hj:j<ρ.length:=hF.1 ▸ Qa h;exact⟨_,getElem?_eq_getElem hj,hF.2 j _ o (getElem?_eq_getElem hj) h⟩
 refine⟨fun j cs' h=>?_,fun j cs' h k u hk=>?_,fun j s pos h=>?_,fun b j h=>?_,fun b o hA=>⟨(M.imm b o hA).1,fun j h hs=>?_⟩,fun j et sz fz e xs h=>?_,fun b hs=>?_,fun b b' j h1 h2 hs jl=>?_⟩
 ·obtain⟨i,hi,l,h1,h2⟩:=get j _ h
  cases i with
  |none=>cases h1
  |some i =>
   simp only[Q41]at h1;split at h1<;>first|(rename_i jZ _;cases jZ;done)|skip
   ·rename_i cs2 cs jZ j2
    cases jZ;obtain⟨hG,cur,T,h3,h4⟩:=M.box i cs j2;exact⟨by rw[Q3r hi];exact Q6i ho hi hG,cur,T,by rw[Q3r hi];exact h3,Qes hF ho h4 h1 h2⟩
   ·cases h1
 ·obtain⟨i,hi,l,h1,h2⟩:=get j _ h
  cases i with
  |none=>cases h1
  |some i =>
   simp only[Q41]at h1;split at h1<;>first|(rename_i jZ _;cases jZ;done)|skip
   ·rename_i cs2 cs jZ j2
    cases jZ;cases h1;obtain⟨h3,_⟩:=h2;cases h3;have:=M.fbox i _ j2 k u hk
    rw[Q3r hi];exact this
   ·cases h1
 ·obtain⟨i,hi,l,h1,h2⟩:=get j _ h
  cases i with
  |none=>cases h1
  |some i =>
   simp only[Q41]at h1;split at h1<;>first|(rename_i jZ _;cases jZ;done)|skip
   ·rename_i jZ j2
    cases jZ;cases h1;obtain⟨h3,h4,_⟩:=h2;cases h3;cases h4;obtain⟨hG,h5⟩:=M.iter i _ _ j2;exact⟨by rw[Q3r hi];exact Q6i ho hi hG,by rw[Q3r hi];exact h5⟩
   ·cases h1
 ·obtain⟨i,hi,hG⟩:=Q39 h
  exact⟨(M.own b i hG).1,hF.1 ▸ Qa hi⟩
 ·obtain⟨i,hi,hG⟩:=Q39 h
  obtain⟨et,sz,e,xs,h1,h2⟩:=(M.imm b o hA).2 i hG (by rw[<-Q4F ho hi hG];exact hs)
  obtain⟨fz',e',h3,h4⟩:=hF.row hi h1;obtain rfl:=h4 rfl;exact⟨et,sz,e',xs,h3,h2⟩
 ·obtain⟨i,hi,l,h1,h2⟩:=get j _ h
  cases i with
  |none =>
   simp only[Q41]at h1;split at h1
   ·rename_i hk
    cases h1;obtain⟨h3,_⟩:=h2;cases h3;exact⟨hk.1,fun x h=>by cases h⟩
   ·cases h1
  |some i =>
   simp only[Q41]at h1;split at h1<;>first|(rename_i jZ _;cases jZ;done)|skip
   ·rename_i jZ j2
    cases jZ;split at h1
    ·rename_i hk
     obtain⟨rfl,rfl,_⟩:=hk;cases h1;obtain⟨h3,_⟩:=h2;cases h3;exact M.roww i _ _ _ _ _ j2
    ·cases h1
   ·cases h1
 ·simp only[Gh.ren,Bool.and_eq_true]at hs
  obtain⟨j,hj⟩:=Option.isSome_iff_exists.1 hs.2;obtain⟨i,et,sz,fz,e,xs,h1,h2⟩:=M.nsub b hs.1;obtain⟨i',hi,hG⟩:=Q39 (g:=g) (ρ:=ρ) hj;rw[h1]at hG;obtain rfl:i=i':=by simpa using hG
  obtain⟨fz',e',h3,_⟩:=hF.row hi h2;exact⟨j,_,_,_,_,_,hj,h3⟩
 ·obtain⟨i,hi,hG⟩:=Q39 h1
  obtain⟨i',kG,kq⟩:=Q39 h2
  obtain rfl:i=i':=by
   have:=hi.symm.trans kG
   simpa using this
  exact M.uniq b b' i hG kq (by rw[<-Q4F ho hi hG];exact hs) (by rw[<-Q4F ho kG kq];exact jl)
end
theorem Q1Y{i:Nat}:∀{ρ:List Nat}{j:Nat},Q1X i ρ=some j->ρ[j]?=some i
 | [],j,h=>by cases h
 |k::r,j,h=>by
  simp only[Q1X]at h;split at h
  ·rename_i e
   cases h;subst e;rfl
  ·obtain⟨j',h1,rfl⟩:=map_eq_some_iff.1 h
   simpa using Q1Y h1
theorem Q7W{i:Nat}:∀{ρ:List Nat}{j:Nat},ρ[j]?=some i->∃j',Q1X i ρ=some j'
 | [],j,h=>by simp at h
 |k::r,j,h=>by
  simp only[Q1X];split
  ·exact⟨0,rfl⟩
  ·rename_i jJ
   cases j with
   |zero=>exact absurd (by simpa using h.symm) jJ
   |succ j =>
    obtain⟨j',h1⟩:=Q7W (ρ:=r) (j:=j) (by simpa using h)
    exact⟨j'+1,by rw[h1];rfl⟩
section
variable {ob:List Ob}{ρ:List Nat}
theorem Q4a{j i:Nat}(h:ρ[j]?=some i):(ρ.map some)[j]?=some (some i):=by rw[getElem?_map,h];rfl
theorem Qnu{j i:Nat}(h:(ρ.map some)[j]?=some (some i)):ρ[j]?=some i:=by
 rw[getElem?_map,map_eq_some_iff]at h;obtain⟨k,h1,h2⟩:=h;cases h2;exact h1
theorem Q4U(h:Q32 (ρ.map some)=true){i j:Nat}(hj:ρ[j]?=some i):Q1X i ρ=some j:=by
 obtain⟨j',gL⟩:=Q7W hj;have h1:=Q7a h (Q4a hj);have h2:=Q7a h (Q4a (Q1Y gL));rw[h1]at h2;cases h2;exact gL
abbrev Q5R(ob:List Ob)(ρ:List Nat):List Ob:=ρ.map fun i=>inO ob ρ (ob.getD i .gone)
theorem Q6W{i j:Nat}(hj:ρ[j]?=some i):(Q5R ob ρ)[j]?=some (inO ob ρ (ob.getD i .gone)):=by
 simp only[Q5R,getElem?_map,hj,map_some]
theorem Q75{i:Nat}{o:Ob}(h:ob[i]?=some o):ob.getD i .gone=o:=by rw[getD_eq_getElem?_getD,h];rfl
theorem Q5e(x:AV):∃l,Q5Z ob (Q5R ob ρ) (ρ.map some) x (inC ob ρ x)=some l/\Qe l:=by
 have dead:∃l,Q5Z ob (Q5R ob ρ) (ρ.map some) x .dead=some l/\Qe l:=⟨[],rfl,trivial⟩;cases x with
 |val v=>cases v<;>exact⟨_,rfl,rfl,trivial⟩
 |slc sz xs=>exact⟨_,rfl,rfl,trivial⟩
 |ref cs=>exact⟨_,rfl,rfl,trivial⟩
 |opt y=>exact⟨_,rfl,rfl,trivial⟩
 |kb b=>exact⟨_,rfl,rfl,trivial⟩
 |box i o =>
  simp only[inC];split
  ·rename_i j hj
   exact⟨[(.box i o,.box i o)],by simp only[Q5Z,Q4a (Q1Y hj)],rfl,trivial⟩
  ·exact dead
 |row i e =>
  simp only[inC];split
  ·rename_i j hj
   split
   ·rename_i et sz fz e2 xs j2
    split
    ·rename_i he
     subst he;refine⟨[(.row i e2,.row i e2)],?_,rfl,trivial⟩;have h1:=Q6W (ob:=ob) (Q1Y hj);rw[Q75 j2]at h1;simp only[Q5Z,h1,inO,if_true,Q4a (Q1Y hj),j2]
    ·exact dead
   ·exact dead
  ·exact dead
 |_=>exact dead
theorem QcQ:∀(xs:List AV),∃l,Qdq ob (Q5R ob ρ) (ρ.map some) xs (xs.map (inC ob ρ))=some l/\Qe l
 | []=>⟨[],rfl,trivial⟩
 |x::r=>by
  obtain⟨l1,h1,h2⟩:=Q5e (ob:=ob) (ρ:=ρ) x;obtain⟨l2,h3,h4⟩:=QcQ r;exact⟨l1++l2,by simp only[map_cons,Qdq,h1,h3,both],Q3T.2 ⟨h2,h4⟩⟩
theorem Qn9(x:AV):∃l,QbM ob (Q5R ob ρ) (ρ.map some) x (inA ob ρ x)=some l/\Qe l:=by
 cases x with
 |agg cs=>exact QcQ cs
 |val v=>exact Q5e (ob:=ob) (ρ:=ρ) (.val v)
 |slc sz xs=>exact Q5e (ob:=ob) (ρ:=ρ) (.slc sz xs)
 |ref cs=>exact Q5e (ob:=ob) (ρ:=ρ) (.ref cs)
 |opt y=>exact Q5e (ob:=ob) (ρ:=ρ) (.opt y)
 |kb b=>exact Q5e (ob:=ob) (ρ:=ρ) (.kb b)
 |box i o =>
  obtain⟨l,h1,h2⟩:=Q5e (ob:=ob) (ρ:=ρ) (.box i o);refine⟨l,?_,h2⟩;show QbM _ _ _ _ (inC ob ρ (.box i o))=_;revert h1;simp only[inC];split<;>exact id
 |row i e =>
  obtain⟨l,h1,h2⟩:=Q5e (ob:=ob) (ρ:=ρ) (.row i e);refine⟨l,?_,h2⟩;show QbM _ _ _ _ (inC ob ρ (.row i e))=_;revert h1;simp only[inC];split<;>(try split)<;>(try split)<;>exact id
 |_=>exact⟨[],rfl,trivial⟩
theorem Q9z(ht:there ob ρ=true):Fits ob (Q5R ob ρ) (ρ.map some):=by
 refine⟨by simp,fun j i o hi ho=>?_⟩
 rw[getElem?_map,map_eq_some_iff]at hi;obtain⟨k,hk,rfl⟩:=hi;rw[Q6W hk]at ho;cases ho;have h:=all_eq_true.1 ht k (mem_of_getElem? hk);cases j2:ob[k]? with
 |none=>rw[j2]at h;cases h
 |some q =>
  rw[Q75 j2];cases q with
  |gone=>rw[j2]at h;cases h
  |box cs=>simp only[inO,Q41,j2];exact QcQ cs
  |fbox cs=>exact⟨[(.slc 0 cs,.slc 0 cs)],by simp only[inO,Q41,j2],rfl,trivial⟩
  |row et sz fz e xs=>exact⟨[(.slc 0 xs,.slc 0 xs)],by simp only[inO,Q41,j2];simp,rfl,trivial⟩
  |iter s p=>exact⟨[(.val (.string s),.val (.string s)),(.box 0 p,.box 0 p)],by simp only[inO,Q41,j2],rfl,rfl,trivial⟩
theorem QmY{w:World}{g:Gh}(ho:Q32 (ρ.map some)=true)(ht:there ob ρ=true){v:Value}{x:AV}(h:ARel w g ob v x):ARel w (g.ren (ρ.map some)) (Q5R ob ρ) v (inA ob ρ x):=by
 obtain⟨l,h1,h2⟩:=Qn9 (ob:=ob) (ρ:=ρ) x;exact Q88 (Q9z ht) ho h h1 h2
theorem Qp2{w:World}{g:Gh}(M:Mem w g ob)(ho:Q32 (ρ.map some)=true)(ht:there ob ρ=true):Mem w (g.ren (ρ.map some)) (Q5R ob ρ):=M.ren (Q9z ht) ho
end
def Gh.out(g g':Gh)(ρ:List Nat)(n:Nat):Gh where
 A:=g'.A
 G b:=match g'.G b with
  |some j=>some (Q3p ρ n j)
  |none=>match g.G b with
   |some id=>match Q1X id ρ with
    |some _=>none
    |none=>some id
   |none=>none
 loc id:=match Q1X id ρ with
  |some j=>g'.loc j
  |none=>if id<n then g.loc id else g'.loc (ρ.length+(id-n))
 sub b:=match g'.G b with
  |some _=>g'.sub b
  |none=>match g.G b with
   |some id=>match Q1X id ρ with
    |some _=>false
    |none=>g.sub b
   |none=>false
section
variable {w w':World}{g g':Gh}{ob ob':List Ob}{ρ:List Nat}
structure CallAt (w:World) (g:Gh) (ob:List Ob) (ρ:List Nat) (w':World) (g':Gh) (ob':List Ob):Prop where
 once:Q32 (ρ.map some)=true
 there:there ob ρ=true
 len:ρ.length<=ob'.length
 m:Mem w g ob
 m':Mem w' g' ob'
 st:Step w (g.ren (ρ.map some)) (Q5R ob ρ) w' g' ob'
theorem CallAt.lt(C:CallAt w g ob ρ w' g' ob'){i j:Nat}(hj:ρ[j]?=some i):i<ob.length:=by
 have h:=all_eq_true.1 C.there i (mem_of_getElem? hj);cases j2:ob[i]? with
 |none=>rw[j2]at h;cases h
 |some _=>exact Qa j2
theorem CallAt.outI_lt(C:CallAt w g ob ρ w' g' ob'){j:Nat}(hj:j<ob'.length):Q3p ρ ob.length j<ob.length+(ob'.length-ρ.length):=by
 unfold Q3p;split
 ·rename_i h
  have h1:ρ[j]?=some (ρ.getD j 0):=by rw[getD_eq_getElem?_getD,getElem?_eq_getElem h];rfl
  have:=C.lt h1
  omega
 ·have:=C.len;omega
theorem CallAt.outI_at(C:CallAt w g ob ρ w' g' ob')(j:Nat):(j<ρ.length/\ρ[j]?=some (Q3p ρ ob.length j)/\Q3p ρ ob.length j<ob.length)\/(ρ.length<=j/\Q3p ρ ob.length j=ob.length+(j-ρ.length)):=by
 unfold Q3p;split
 ·rename_i h
  have h1:ρ[j]?=some (ρ.getD j 0):=by rw[getD_eq_getElem?_getD,getElem?_eq_getElem h];rfl
  exact .inl ⟨h,h1,C.lt h1⟩
 ·exact .inr ⟨by omega,rfl⟩
theorem CallAt.outI_inj(C:CallAt w g ob ρ w' g' ob'){j j':Nat}(h:Q3p ρ ob.length j=Q3p ρ ob.length j'):j=j':=by
 rcases C.outI_at j with ⟨h1,h2,h3⟩|⟨h1,h2⟩<;>rcases C.outI_at j' with ⟨h4,h5,h6⟩|⟨h4,h5⟩
 ·rw[h]at h2
  have:=(Q4U C.once h2).symm.trans (Q4U C.once h5)
  exact Option.some.inj this
 ·omega
 ·omega
 ·omega
theorem CallAt.outI_not(C:CallAt w g ob ρ w' g' ob'){j:Nat}(hp:Q1X (Q3p ρ ob.length j) ρ=none)(hl:Q3p ρ ob.length j<ob.length):False:=by
 rcases C.outI_at j with ⟨h1,h2,h3⟩|⟨h1,h2⟩
 ·rw[Q4U C.once h2]at hp;cases hp
 ·omega
theorem CallAt.back_len(C:CallAt w g ob ρ w' g' ob'):(Q6h ob ρ ob').length=ob.length+(ob'.length-ρ.length):=by simp[Q6h]
theorem CallAt.back_out(C:CallAt w g ob ρ w' g' ob'){j:Nat}{o:Ob}(hj:ob'[j]?=some o):(Q6h ob ρ ob')[Q3p ρ ob.length j]?=some (Qgb ob ρ j o):=by
 have hl:=Qa hj;have h1:=C.outI_lt hl;simp only[Q6h,getElem?_map,List.getElem?_range h1,map_some];unfold Q3p;by_cases h:j<ρ.length
 ·rw[if_pos h]
  have h2:ρ[j]?=some (ρ.getD j 0):=by rw[getD_eq_getElem?_getD,getElem?_eq_getElem h];rfl
  simp only[Q4U C.once h2,Q75 hj]
 ·rw[if_neg h]
  have h2:Q1X (ob.length+(j-ρ.length)) ρ=none:=by
   cases hp:Q1X (ob.length+(j-ρ.length)) ρ with
   |none=>rfl
   |some k=>have:=C.lt (Q1Y hp);omega
  have h3:¬(ob.length+(j-ρ.length)<ob.length):=by omega
  have h4:ρ.length+(ob.length+(j-ρ.length)-ob.length)=j:=by omega
  simp only[h2,h3,if_false,h4,Q75 hj]
theorem CallAt.back_own(C:CallAt w g ob ρ w' g' ob'){id:Nat}(hid:id<ob.length)(hp:Q1X id ρ=none):(Q6h ob ρ ob')[id]?=ob[id]?:=by
 have h1:id<ob.length+(ob'.length-ρ.length):=by omega
 simp only[Q6h,getElem?_map,List.getElem?_range h1,map_some,hp,hid,if_true];rw[getElem?_eq_getElem hid,getD_eq_getElem?_getD,getElem?_eq_getElem hid];rfl
theorem CallAt.back_cases(C:CallAt w g ob ρ w' g' ob'){id:Nat}{o:Ob}(h:(Q6h ob ρ ob')[id]?=some o) :
  (∃j o',ob'[j]?=some o'/\id=Q3p ρ ob.length j/\o=Qgb ob ρ j o')\/(id<ob.length/\Q1X id ρ=none/\ob[id]?=some o):=by
 have jA:=Qa h;rw[C.back_len]at jA;cases hp:Q1X id ρ with
 |some j =>
  left
  have hj:=Q1Y hp;have hl:j<ob'.length:=Nat.lt_of_lt_of_le (Qa hj) C.len
  have e:Q3p ρ ob.length j=id:=by
   unfold Q3p;rw[if_pos (Qa hj),getD_eq_getElem?_getD,hj];rfl
  refine⟨j,_,getElem?_eq_getElem hl,e.symm,?_⟩;have h2:=C.back_out (getElem?_eq_getElem hl);rw[e,h]at h2;exact Option.some.inj h2
 |none =>
  by_cases hid:id<ob.length
  ·rw[C.back_own hid hp]at h
   exact .inr ⟨hid,rfl,h⟩
  ·left
   have hl:ρ.length+(id-ob.length)<ob'.length:=by have:=C.len;omega
   have e:Q3p ρ ob.length (ρ.length+(id-ob.length))=id:=by
    unfold Q3p;rw[if_neg (by omega)];omega
   refine⟨_,_,getElem?_eq_getElem hl,e.symm,?_⟩;have h2:=C.back_out (getElem?_eq_getElem hl);rw[e,h]at h2;exact Option.some.inj h2
theorem CallAt.loc_out(C:CallAt w g ob ρ w' g' ob'){j:Nat}:(g.out g' ρ ob.length).loc (Q3p ρ ob.length j)=g'.loc j:=by
 unfold Q3p;by_cases h:j<ρ.length
 ·rw[if_pos h]
  have h2:ρ[j]?=some (ρ.getD j 0):=by rw[getD_eq_getElem?_getD,getElem?_eq_getElem h];rfl
  simp only[Gh.out,Q4U C.once h2]
 ·rw[if_neg h]
  have h2:Q1X (ob.length+(j-ρ.length)) ρ=none:=by
   cases hp:Q1X (ob.length+(j-ρ.length)) ρ with
   |none=>rfl
   |some k=>have:=C.lt (Q1Y hp);omega
  have h3:¬(ob.length+(j-ρ.length)<ob.length):=by omega
  have h4:ρ.length+(ob.length+(j-ρ.length)-ob.length)=j:=by omega
  simp only[Gh.out,h2,h3,if_false,h4]
theorem Q6R{j b:Nat}(h:g'.G b=some j):(g.out g' ρ ob.length).sub b=g'.sub b:=by simp only[Gh.out,h]
theorem Q6G{id b:Nat}(h:g'.G b=none)(h1:g.G b=some id)(hp:Q1X id ρ=none):(g.out g' ρ ob.length).sub b=g.sub b:=by simp only[Gh.out,h,h1,hp]
theorem Qci{j b:Nat}(h:g'.G b=some j):(g.out g' ρ ob.length).G b=some (Q3p ρ ob.length j):=by simp only[Gh.out,h]
theorem CallAt.own_G(C:CallAt w g ob ρ w' g' ob'){b id:Nat}(h:g.G b=some id)(hp:Q1X id ρ=none) :
  (g.ren (ρ.map some)).G b=none/\g'.G b=none/\(g.out g' ρ ob.length).G b=some id/\w'.heap[b]?=w.heap[b]?:=by
 have h1:(g.ren (ρ.map some)).G b=none:=by
  cases hr:(g.ren (ρ.map some)).G b with
  |none=>rfl
  |some j =>
   obtain⟨i,hi,hG⟩:=Q39 hr;rw[h]at hG;cases hG;obtain⟨j',gL⟩:=Q7W (Qnu hi);rw[hp]at gL;cases gL
 have hb:=(C.m.own b id h).1
 have h2:g'.G b=none:=by
  cases hr:g'.G b with
  |none=>rfl
  |some j =>
   rcases C.st.own b j hr with ⟨k,hk⟩|hk
   ·rw[h1]at hk;cases hk
   ·omega
 exact⟨h1,h2,by simp only[Gh.out,h2,h,hp],C.st.keep b hb h1⟩
theorem CallAt.G_cases(C:CallAt w g ob ρ w' g' ob'){b id:Nat}(h:(g.out g' ρ ob.length).G b=some id) :
  (∃j,g'.G b=some j/\id=Q3p ρ ob.length j)\/(g'.G b=none/\g.G b=some id/\Q1X id ρ=none):=by
 simp only[Gh.out]at h;cases h1:g'.G b with
 |some j=>rw[h1]at h;exact .inl ⟨j,rfl,(Option.some.inj h).symm⟩
 |none =>
  rw[h1]at h;cases h2:g.G b with
  |none=>rw[h2]at h;cases h
  |some k =>
   rw[h2]at h;cases h3:Q1X k ρ with
   |some _=>simp only[h3]at h;cases h
   |none=>simp only[h3]at h;cases h;exact .inr ⟨rfl,rfl,h3⟩
theorem QlO{j:Nat}{o:Ob}(h:Q7m (some o)):Q7m (some (Qgb ob ρ j o)):=by cases o<;>first|exact h.elim|trivial
theorem Qmm{j:Nat}{o:Ob}(h:Qbp (some o)):Qbp (some (Qgb ob ρ j o)):=by cases o<;>first|exact h.elim|trivial
theorem CallAt.isb_out(C:CallAt w g ob ρ w' g' ob'){j:Nat}(h:Q7m ob'[j]?):Q7m (Q6h ob ρ ob')[Q3p ρ ob.length j]?:=by
 have hl:=Q4o h;rw[getElem?_eq_getElem hl]at h;rw[C.back_out (getElem?_eq_getElem hl)];exact QlO h
theorem CallAt.isi_out(C:CallAt w g ob ρ w' g' ob'){j:Nat}(h:Qbp ob'[j]?):Qbp (Q6h ob ρ ob')[Q3p ρ ob.length j]?:=by
 have hl:=Q5g h;rw[getElem?_eq_getElem hl]at h;rw[C.back_out (getElem?_eq_getElem hl)];exact Qmm h
theorem Q84{i j:Nat}(hj:ρ[j]?=some i)(n:Nat):Q3p ρ n j=i:=by
 unfold Q3p;rw[if_pos (Qa hj),getD_eq_getElem?_getD,hj];rfl
theorem CallAt.ext(C:CallAt w g ob ρ w' g' ob'):Ext w g ob w' (g.out g' ρ ob.length) (Q6h ob ρ ob'):=by
 refine⟨C.st.ext.A,fun id hid=>?_,fun id hb=>?_,fun id hb=>?_,fun id et sz fz e xs hr=>?_,fun b id hG hs=>?_⟩
 rotate_right
 ·obtain⟨et,sz,fz,fz',e,xs,xs',h1,h2⟩:=hs
  cases hp:Q1X id ρ with
  |none =>
   obtain⟨h3,h4,h5,h6⟩:=C.own_G hG hp;refine⟨Q6G h4 hG hp,fun _ o hA=>?_⟩
   rcases C.st.imm b o hA with h7|⟨k,h7⟩|h7
   ·exact h7
   ·rw[h3]at h7;cases h7
   ·have:=(C.m.own b id hG).1;omega
  |some j =>
   have hj:=Q1Y hp;have h3:(Q5R ob ρ)[j]?=some (.row et sz fz 0 xs):=by rw[Q6W hj,Q75 h1];rfl
   obtain⟨fz2,e2,xs2,h4,_,h5⟩:=C.st.ext.row j _ _ _ _ _ h3;have h6:=C.back_out h4;rw[Q84 hj,h2]at h6;have h7:Q9r ob ρ j=e:=by simp only[Q9r,hj,QoA,h1]
   simp only[Qgb,h7]at h6
   have h8:e2=0:=by
    have h9:e=e+e2:=by injection h6 with h6;injection h6
    omega
   subst h8;have nP:=Q6i (g:=g) C.once (Q4a hj) hG;obtain⟨h9,ju⟩:=C.st.ext.sub b j nP ⟨_,_,_,_,_,_,_,h3,h4⟩;have jW:=Q4F (g:=g) C.once (Q4a hj) hG;refine⟨(Q6R ((h5 rfl).2 b nP).1).trans (h9.trans jW),fun yG o hA=>ju (jW.trans yG) o hA⟩
 ·cases hp:Q1X id ρ with
  |none=>simp only[Gh.out,hp,hid,if_true]
  |some j =>
   have hj:=Q1Y hp;simp only[Gh.out,hp];rw[C.st.ext.loc j (by simpa using Qa hj),Q3r (Q4a hj)]
 ·cases hp:Q1X id ρ with
  |none=>rw[C.back_own (Q4o hb) hp];exact hb
  |some j =>
   have hj:=Q1Y hp;have:=C.isb_out (C.st.ext.isb j ((Q9z C.there).isB (Q4a hj) hb))
   rw[Q84 hj]at this;exact this
 ·cases hp:Q1X id ρ with
  |none=>rw[C.back_own (Q5g hb) hp];exact hb
  |some j =>
   have hj:=Q1Y hp;have:=C.isi_out (C.st.ext.isi j ((Q9z C.there).isI (Q4a hj) hb))
   rw[Q84 hj]at this;exact this
 ·cases hp:Q1X id ρ with
  |none =>
   refine⟨fz,e,xs,by rw[C.back_own (Qa hr) hp];exact hr,le_refl _,fun _=>⟨rfl,fun b hb=>?_⟩⟩
   obtain⟨_,_,h3,h4⟩:=C.own_G hb hp;exact⟨h3,h4⟩
  |some j =>
   have hj:=Q1Y hp;have h1:(Q5R ob ρ)[j]?=some (.row et sz fz 0 xs):=by rw[Q6W hj,Q75 hr];rfl
   obtain⟨fz',e',xs',h2,h3,h4⟩:=C.st.ext.row j _ _ _ _ _ h1;have h5:=C.back_out h2;rw[Q84 hj]at h5;have h6:Q9r ob ρ j=e:=by simp only[Q9r,hj,QoA,hr]
   refine⟨fz',e+e',xs',by rw[h5,<-h6];rfl,by omega,fun he=>?_⟩
   obtain⟨h7,h8⟩:=h4 (by omega)
   refine⟨h7,fun b hb=>?_⟩
   obtain⟨h9,ju⟩:=h8 b (Q6i C.once (Q4a hj) hb);refine⟨?_,ju⟩;rw[Qci h9,Q84 hj]
theorem CallAt.row_out(C:CallAt w g ob ρ w' g' ob'){j et sz:Nat}{v:Value}{xs:List AV}(h:RowV w' g' j et sz v xs):RowV w' (g.out g' ρ ob.length) (Q3p ρ ob.length j) et sz v xs:=by
 obtain⟨ys,h1,h2,h3,h4,h5⟩:=h;exact⟨ys,h1,fun b hb=>Qci (h2 b hb),h3,h4,h5.ext h2 fun b hb=>⟨Qci hb,Q6R hb,fun _=>⟨rfl,fun _ h=>h⟩⟩⟩
theorem CallAt.rel0(C:CallAt w g ob ρ w' g' ob'){v:Value}{x:AV}(h:ARel0 w' g' ob' v x):ARel0 w' (g.out g' ρ ob.length) (Q6h ob ρ ob') v (QjX ob ρ x):=by
 cases x with
 |box j o=>exact⟨by rw[C.loc_out];exact h.1,C.isb_out h.2⟩
 |iter j=>exact⟨by rw[C.loc_out];exact h.1,C.isi_out h.2⟩
 |row j e =>
  obtain⟨h0,et,sz,fz,e',xs,h1,h2,h3⟩:=h;refine⟨h0,et,sz,fz,Q9r ob ρ j+e',xs,C.back_out h1,by omega,fun he=>C.row_out (h3 (by omega))⟩
 |rowk j e k =>
  obtain⟨h0,et,sz,fz,e',xs,h1,h2,h3⟩:=h;refine⟨h0,et,sz,fz,Q9r ob ρ j+e',xs,C.back_out h1,by omega,fun he=>?_⟩
  obtain⟨h4,h5,h6⟩:=h3 (by omega)
  exact⟨h4,h5,C.row_out h6⟩
 |rptr j e i o =>
  obtain⟨h0,et,sz,fz,e',xs,h1,h2,h3⟩:=h;refine⟨h0,et,sz,fz,Q9r ob ρ j+e',xs,C.back_out h1,by omega,fun he=>?_⟩
  obtain⟨b,c,h4,h5,h6,h7⟩:=h3 (by omega)
  exact⟨b,c,h4,h5,h6,C.row_out h7⟩
 |_=>exact h
theorem CallAt.relC(C:CallAt w g ob ρ w' g' ob'){vs:List Value}{cs:List AV}(h:ARelC w' g' ob' vs cs):ARelC w' (g.out g' ρ ob.length) (Q6h ob ρ ob') vs (cs.map (QjX ob ρ)):=by
 refine⟨by simp[h.1],fun j y u hy hu=>?_⟩
 rw[getElem?_map,map_eq_some_iff]at hu;obtain⟨u',h1,rfl⟩:=hu;exact⟨C.rel0 (h.2 j y u' hy h1).1,(h.2 j y u' hy h1).2⟩
theorem CallAt.rel1(C:CallAt w g ob ρ w' g' ob'){v:Value}{x:AV}(h:ARel1 w' g' ob' v x):ARel1 w' (g.out g' ρ ob.length) (Q6h ob ρ ob') v (Qkx ob ρ x):=by
 cases x with
 |agg cs=>obtain⟨vs,rfl,h⟩:=h;exact⟨vs,rfl,C.relC h⟩
 |tup _=>exact(show False from h).elim
 |val a=>exact C.rel0 (x:=.val a) h
 |slc a b=>exact C.rel0 (x:=.slc a b) h
 |ref a=>exact C.rel0 (x:=.ref a) h
 |opt a=>exact C.rel0 (x:=.opt a) h
 |box a b=>exact C.rel0 (x:=.box a b) h
 |row a b=>exact C.rel0 (x:=.row a b) h
 |rowk a b c=>exact C.rel0 (x:=.rowk a b c) h
 |rptr a b c d=>exact C.rel0 (x:=.rptr a b c d) h
 |kb a=>exact C.rel0 (x:=.kb a) h
 |iter a=>exact C.rel0 (x:=.iter a) h
 |dead=>trivial
theorem CallAt.rel(C:CallAt w g ob ρ w' g' ob'){v:Value}{x:AV}(h:ARel w' g' ob' v x):ARel w' (g.out g' ρ ob.length) (Q6h ob ρ ob') v (Qoe ob ρ x):=by
 cases x with
 |tup xs =>
  obtain⟨vs,rfl,h1,h2⟩:=h;refine⟨vs,rfl,by simp[h1],fun j y u hy hu=>?_⟩
  rw[getElem?_map,map_eq_some_iff]at hu;obtain⟨u',h3,rfl⟩:=hu;exact C.rel1 (h2 j y u' hy h3)
 |agg cs=>exact(C.rel1 (x:=.agg cs) h).to
 |val a=>exact(C.rel1 (x:=.val a) h).to
 |slc a b=>exact(C.rel1 (x:=.slc a b) h).to
 |ref a=>exact(C.rel1 (x:=.ref a) h).to
 |opt a=>exact(C.rel1 (x:=.opt a) h).to
 |box a b=>exact(C.rel1 (x:=.box a b) h).to
 |row a b=>exact(C.rel1 (x:=.row a b) h).to
 |rowk a b c=>exact(C.rel1 (x:=.rowk a b c) h).to
 |rptr a b c d=>exact(C.rel1 (x:=.rptr a b c d) h).to
 |kb a=>exact(C.rel1 (x:=.kb a) h).to
 |iter a=>exact(C.rel1 (x:=.iter a) h).to
 |dead=>trivial
theorem CallAt.mem(C:CallAt w g ob ρ w' g' ob'):Mem w' (g.out g' ρ ob.length) (Q6h ob ρ ob'):=by
 have E:=C.ext;refine⟨fun id cs h=>?_,fun id cs h k u hk=>?_,fun id s pos h=>?_,fun b id h=>?_,fun b o hA=>?_,fun id et sz fz e xs h=>?_,fun b hs=>?_,fun b b' id h1 h2 hs jl=>?_⟩
 ·rcases C.back_cases h with ⟨j,o',h1,rfl,h2⟩|⟨hid,hp,h1⟩
  ·cases o'<;>cases h2
   rename_i cs';obtain⟨hG,cur,T,h3,h4⟩:=C.m'.box j cs' h1;exact⟨by rw[C.loc_out];exact Qci hG,cur,T,by rw[C.loc_out];exact h3,C.relC h4⟩
  ·obtain⟨hG,cur,T,h3,h4⟩:=C.m.box id cs h1
   obtain⟨_,_,h5,h6⟩:=C.own_G hG hp;have hl:(g.out g' ρ ob.length).loc id=g.loc id:=E.loc id hid;exact⟨by rw[hl];exact h5,cur,T,by rw[hl,h6];exact h3,h4.ext E⟩
 ·rcases C.back_cases h with ⟨j,o',h1,rfl,h2⟩|⟨hid,hp,h1⟩
  ·cases o'<;>cases h2
   rw[C.loc_out];exact C.m'.fbox j _ h1 k u hk
  ·obtain⟨hA,y,h3,h4⟩:=C.m.fbox id cs h1 k u hk
   have hl:(g.out g' ρ ob.length).loc id=g.loc id:=E.loc id hid;rw[hl];exact⟨(E.A _ _ hA).1,y,by rw[(E.A _ _ hA).2];exact h3,h4.keep E.A⟩
 ·rcases C.back_cases h with ⟨j,o',h1,rfl,h2⟩|⟨hid,hp,h1⟩
  ·cases o'<;>cases h2
   obtain⟨hG,h3⟩:=C.m'.iter j _ _ h1;exact⟨by rw[C.loc_out];exact Qci hG,by rw[C.loc_out];exact h3⟩
  ·obtain⟨hG,h3⟩:=C.m.iter id s pos h1
   obtain⟨_,_,h5,h6⟩:=C.own_G hG hp;have hl:(g.out g' ρ ob.length).loc id=g.loc id:=E.loc id hid;exact⟨by rw[hl];exact h5,by rw[hl,h6];exact h3⟩
 ·rw[C.back_len]
  rcases C.G_cases h with ⟨j,hj,rfl⟩|⟨_,h1,_⟩
  ·exact⟨(C.m'.own b j hj).1,C.outI_lt (C.m'.own b j hj).2⟩
  ·have:=C.m.own b id h1
   exact⟨Nat.lt_of_lt_of_le this.1 C.st.size,by omega⟩
 ·refine⟨(C.m'.imm b o hA).1,fun id h hs=>?_⟩
  rcases C.G_cases h with ⟨j,hj,rfl⟩|⟨h0,h1,hp⟩
  ·obtain⟨et,sz,e,xs,h2,h3⟩:=(C.m'.imm b o hA).2 j hj ((Q6R hj).symm.trans hs)
   exact⟨et,sz,Q9r ob ρ j+e,xs,C.back_out h2,h3⟩
  ·obtain⟨h4,_,_,_⟩:=C.own_G h1 hp
   rcases C.st.imm b o hA with h5|⟨k,h5⟩|h5
   ·obtain⟨et,sz,e,xs,h2,h3⟩:=(C.m.imm b o h5).2 id h1 ((Q6G h0 h1 hp).symm.trans hs)
    exact⟨et,sz,e,xs,by rw[C.back_own (Qa h2) hp];exact h2,h3⟩
   ·rw[h4]at h5;cases h5
   ·have:=(C.m.own b id h1).1;omega
 ·rcases C.back_cases h with ⟨j,o',h1,rfl,h2⟩|⟨hid,hp,h1⟩
  ·cases o'<;>cases h2
   exact C.m'.roww j _ _ _ _ _ h1
  ·exact C.m.roww id _ _ _ _ _ h1
 ·cases h1:g'.G b with
  |some j =>
   obtain⟨j',et,sz,fz,e,xs,h2,h3⟩:=C.m'.nsub b ((Q6R h1).symm.trans hs);exact⟨_,_,_,_,_,_,Qci h2,C.back_out h3⟩
  |none =>
   cases h2:g.G b with
   |none=>simp only[Gh.out,h1,h2]at hs;cases hs
   |some id =>
    cases hp:Q1X id ρ with
    |some k=>simp only[Gh.out,h1,h2,hp]at hs;cases hs
    |none =>
     obtain⟨id',et,sz,fz,e,xs,h3,h4⟩:=C.m.nsub b ((Q6G h1 h2 hp).symm.trans hs);rw[h2]at h3;obtain rfl:id=id':=by simpa using h3
     exact⟨id,et,sz,fz,e,xs,(C.own_G h2 hp).2.2.1,by rw[C.back_own (Qa h4) hp];exact h4⟩
 ·rcases C.G_cases h1 with ⟨j,hj,rfl⟩|⟨h0,h3,hp⟩
  ·rcases C.G_cases h2 with ⟨j',gL,he⟩|⟨h0',h4,hp'⟩
   ·obtain rfl:=C.outI_inj he
    exact C.m'.uniq b b' j hj gL ((Q6R hj).symm.trans hs) ((Q6R gL).symm.trans jl)
   ·exact(C.outI_not hp' (C.m.own b' _ h4).2).elim
  ·rcases C.G_cases h2 with ⟨j',gL,he⟩|⟨h0',h4,hp'⟩
   ·subst he
    exact(C.outI_not hp (C.m.own b _ h3).2).elim
   ·exact C.m.uniq b b' id h3 h4 ((Q6G h0 h3 hp).symm.trans hs) ((Q6G h0' h4 hp').symm.trans jl)
theorem CallAt.step(C:CallAt w g ob ρ w' g' ob'):Step w g ob w' (g.out g' ρ ob.length) (Q6h ob ρ ob'):=by
 have none_in:∀b,g.G b=none->(g.ren (ρ.map some)).G b=none:=fun b h=>by simp[Gh.ren,h]
 have some_in:∀b k,(g.ren (ρ.map some)).G b=some k->∃id,g.G b=some id:=fun b k h=>by
  obtain⟨i,_,hG⟩:=Q39 h;exact⟨i,hG⟩
 refine⟨C.st.os,C.st.tape,C.st.output,C.st.size,fun b hb hG=>C.st.keep b hb (none_in b hG),fun b id h=>?_,fun b o hA=>?_,C.ext,?_⟩
 ·rcases C.G_cases h with ⟨j,hj,rfl⟩|⟨_,h1,_⟩
  ·rcases C.st.own b j hj with ⟨k,hk⟩|hk
   ·exact .inl (some_in b k hk)
   ·exact .inr hk
  ·exact .inl ⟨id,h1⟩
 ·rcases C.st.imm b o hA with h|⟨k,h⟩|h
  ·exact .inl h
  ·exact .inr (.inl (some_in b k h))
  ·exact .inr (.inr h)
 ·rw[C.back_len];omega
end
section
variable {P:Program}{ty:Tys}{w0:World}{g0:Gh}{o0:List Ob}{N:Nat}{Q:Ex->St->Prop}{w w':World}{g g':Gh}{ob ob':List Ob}
theorem ARel.to1'{v:Value}{x:AV}(h:ARel w g ob v x)(hl:∀xs,x≠.tup xs):ARel1 w g ob v x:=by cases x<;>first|exact h|exact absurd rfl (hl _)
theorem Qfz{o:Oper}{a:Act}{w:World}{f:Operand}{args:Array Operand}{tys:Array TypeId}{h:Nat}(ho:o.op=.call { callee:=.value f,args:=args,argTypes:=tys })(hf:a.eval f=.func (.func h) #[] #[])
  (he:∀vs w,(callFunc h vs).run P w=.ok (.enter h vs) w):(execOp a.eval o).run P w=.ok (.enter h (args.map a.eval)) w:=by
 simp only[execOp,ho,resolve,hf,Deferred.ofValue,Sem.run_bind,Sem.run_pure,Result.andThen_ok,invoke];rw[he];simp
theorem Qnh{K:St->Tree}{o:Oper}{s:St}{a:Act}{w:World}{R:Exit->Act->World->Prop}(hs:Sim w0 g0 o0 N s a w)(hd:∀t,o.dst=some t->t<N)
  {f:Operand} {args:Array Operand} {tys:Array TypeId} {h:Nat} (ho:o.op=.call { callee:=.value f,args:=args,argTypes:=tys }) (hf:ev s f=.val (.func (.func h) #[] #[]))
  {vs:List AV} {ob:List Ob} (he:Q4r (frz std true 9) s.ob (args.toList.map (ev s))=some (vs,ob)) {ρ:List Nat} (hon:Q32 (ρ.map some)=true) (cY:there ob ρ=true)
  (hq:tys.toList.any (QoV ty)=true\/ρ.isEmpty=true) {res:AV} {ob':List Ob} (jB:ρ.length<=ob'.length) (hc:BCall P h (vs.map (inA ob ρ)) (Q5R ob ρ) res ob')
  (jE:(K (St.put ⟨s.tm,Q6h ob ρ ob'⟩ o.dst (Qoe ob ρ res))).ok P w0 g0 o0 N Q):o.wp P a w (Q7j ty P w0 g0 o0 N Q K o.op w) R:=by
 obtain⟨g,M,hS,h0⟩:=hs.rel;have qK:=QT hS f;rw[hf]at qK
 have hL:Q4X w g s.ob (args.toList.map a.eval) (args.toList.map (ev s)):=by
  refine⟨by simp,fun j v x hv hx=>?_⟩
  rw[getElem?_map,map_eq_some_iff]at hv hx;obtain⟨q,hq,rfl⟩:=hv;obtain⟨q',nM,rfl⟩:=hx;rw[hq]at nM;cases nM;exact(QT hS q).to1 (Q74 _ _ _ _ he _ (List.mem_map.2 ⟨q,mem_of_getElem? hq,rfl⟩))
 obtain⟨g1,M1,E1,L1,G1⟩:=Qmd _ _ g s.ob vs ob M hL he;have q7:=Qfz (P:=P) (w:=w) ho qK.valEq hc.1;unfold Oper.wp;rw[q7];show Calls P h (args.map a.eval) w _;have hargs:args.map a.eval=(args.toList.map a.eval).toArray:=by apply Array.ext';simp
 rw[hargs];refine(hc.2 w (g1.ren (ρ.map some)) _ (Qp2 M1 hon cY) ⟨by simp[L1.1],fun j v x hv hx=>?_⟩).mono ?_
 ·rw[getElem?_map,map_eq_some_iff]at hx
  obtain⟨x',yB,rfl⟩:=hx;have h1:=L1.2 j v x' hv yB;have h2:=QmY hon cY h1.to;cases x' with
  |agg cs=>exact h2
  |tup _=>exact(show False from h1).elim
  |box i o=>exact h2.to1' (by simp only[inA,inC];split<;>simp)
  |row i e=>exact h2.to1' (by simp only[inA,inC];split<;>(try split)<;>(try split)<;>simp)
  |_=>exact h2
 rintro e w' ⟨v,g2,rfl,M2,R2,S2⟩;have C:CallAt w g1 ob ρ w' g2 ob':=⟨hon,cY,jB,M1,M2,S2⟩;have zM:Q1A w g1 ⟨s.tm,ob⟩ a:=fun t=>(hS t).ext E1
 have jL:Sim w0 g0 o0 N ⟨s.tm,ob⟩ a w:=⟨hs.defers,hs.size,g1,M1,zM,h0.trans (Step.ghost E1 G1)⟩;refine⟨fun hqu=>?_,_,Q2R (s:=⟨s.tm,ob⟩) jL zM (h0.trans (Step.ghost E1 G1)) C.mem C.step hd (C.rel R2),jE⟩
 rcases hq with hq|hq
 ·simp[ho,Q4W,hq]at hqu
 ·have hr:ρ=[]:=by simpa using hq
  subst hr
  exact⟨S2.os,S2.tape,S2.output,S2.size,fun b hb=>S2.keep b hb (by
   cases hx:(g1.ren (([]:List Nat).map some)).G b with
   |none=>rfl
   |some j =>
    obtain⟨i,hi,_⟩:=Q39 hx;simp at hi)⟩
theorem QeF(hT:TyOk P ty){cs:Nat->List AV->List Ob->Option (AV×List Ob)}{K:St->Tree}{o:Oper}{s:St}{a:Act}{w:World}{R:Exit->Act->World->Prop}(hs:Sim w0 g0 o0 N s a w)(hd:∀t,o.dst=some t->t<N)
  (jE:(aop std ty cs K o s).ok P w0 g0 o0 N Q):o.wp P a w (Q7j ty P w0 g0 o0 N Q K o.op w) R:=by
 have still:∀{s:St},Sim w0 g0 o0 N s a w->∀{q:Option DP}{v:AV},Q2O std ty s o.op=some (q,v)->(∀r,q=some r->r)->(K (St.put s o.dst v)).ok P w0 g0 o0 N Q->o.wp P a w (Q7j ty P w0 g0 o0 N Q K o.op w) R :=
  fun hs _ _ h hq hk=>Qfd hs hd (fun g M hS=>Q7F hT hS M h hq) hk
 -- what stands behind 'aval'
 have rest0:∀{s:St},Sim w0 g0 o0 N s a w->(Q3X std ty K o s o.op).ok P w0 g0 o0 N Q->o.wp P a w (Q7j ty P w0 g0 o0 N Q K o.op w) R:=by
  intro s hs h;unfold Q3X at h;split at h
  ·rename_i v hv
   exact still hs hv (fun r h=>by cases h) h
  ·rename_i q v hv
   exact still hs hv (fun r hr=>by cases hr;exact h.1) h.2
  ·split at h
   ·rename_i src dst x ho
    split at h
    ·rename_i b hb
     split at h
     ·rename_i hk
      exact Qlp hT hs hd ho hb hk.1 hk.2.1 hk.2.2 h.1 h.2
     ·exact h.elim
    ·rename_i id ep hx
     split at h
     ·rename_i et sz e xs j2
      split at h
      ·rename_i hk
       obtain⟨rfl,rfl,rfl,jX,jm⟩:=hk;exact Qm1 hT hs hd ho hx j2 jX jm h.1 h.2
      ·exact h.elim
     ·exact h.elim
    ·exact h.elim
   ·exact h.elim
 have rest:(Q3X std ty K o s o.op).ok P w0 g0 o0 N Q->o.wp P a w (Q7j ty P w0 g0 o0 N Q K o.op w) R:=rest0 hs;obtain⟨op,ho⟩:∃op,o.op=op:=⟨_,rfl⟩;cases op with
 |binOp op T x y T' =>
  rcases QgD (w:=w) (a:=a) hT ho jE with h|⟨z,h1,h2⟩
  ·exact rest h
  ·exact Qfd hs hd (fun g M hS=>h2 g _ hS) h1
 |assign x =>
  simp only[aop,ho]at jE;exact rest0 (Q7x x hs) (by rw[ho];exact jE)
 |slice T x lo hi m =>
  cases lo with
  |none=>exact rest (by rw[ho];simpa only[aop,ho]using jE)
  |some l =>
   simp only[aop,ho]at jE;exact rest0 (QdN x hs) (by rw[ho];exact jE)
 |alloc T =>
  simp only[aop,ho]at jE;split at jE
  ·rename_i hk;exact QlN hT hs hd ho hk jE
  ·exact jE.elim
 |box T x =>
  simp only[aop,ho]at jE;split at jE
  ·rename_i hk;exact Qof hs hd ho hk jE
  ·exact jE.elim
 |store T x y =>
  simp only[aop,ho]at jE;have hs:=Q7x y hs;generalize Qas std s y=s1 at jE hs;unfold QeZ at jE;split at jE
  ·rename_i id off hx
   split at jE
   ·rename_i c hb
    split at jE
    ·rename_i hk
     exact QkC hT hs hd ho hx hb hk.1 hk.2.1 hk.2.2.1 hk.2.2.2 jE
    ·exact jE.elim
   ·exact jE.elim
  ·exact jE.elim
 |buildSlice T len parts =>
  simp only[aop,ho]at jE;split at jE
  ·rename_i xs ob he
   split at jE
   ·rename_i hk
    exact QbA hT hs hd ho he hk.1 hk.2.1 hk.2.2.1 hk.2.2.2.1 hk.2.2.2.2.1 hk.2.2.2.2.2.1 hk.2.2.2.2.2.2 jE
   ·exact jE.elim
  ·exact jE.elim
 |range T x =>
  simp only[aop,ho]at jE;split at jE
  ·rename_i b hb
   split at jE
   ·rename_i hk;exact QlM hT hs hd ho hb hk jE
   ·exact jE.elim
  ·exact jE.elim
 |next it b =>
  cases b with
  |false=>simp[aop,ho,Q3X,Q2O,Tree.ok]at jE
  |true =>
   simp only[aop,ho]at jE;split at jE
   ·rename_i id hi
    split at jE
    ·rename_i b pos j2
     exact Qmh hs hd ho hi j2 jE.1 jE.2
    ·exact jE.elim
   ·exact jE.elim
 |call c =>
  obtain⟨callee,args,tys⟩:=c;cases callee with
  |builtin b =>
   cases b with
   |append =>
    simp only[aop,ho]at jE;split at jE
    ·rename_i x y T U ha ht
     split at jE
     ·rename_i sz news zo
      split at jE
      ·rename_i jf
       obtain⟨gd,jf⟩:=jf;have je:0<sz:=by obtain⟨e,_,_,_,_,h⟩:=Q4R hT jf;exact h
       split at jE
       ·rename_i hx
        have jB:s.ob.length=s.ob.length:=rfl
        have gc:(s.ob++[Ob.row (Q5 T ty).elem sz false 0 []]).set s.ob.length (.row (Q5 T ty).elem sz false (0+1) (std.app [] news))=s.ob++[.row (Q5 T ty).elem sz false 1 (std.app [] news)]:=by
         rw[List.set_append_right _ _ (le_refl _),Nat.sub_self];rfl
        refine Q5q hT hs hd ho ha ht (ob:=s.ob++[.row (Q5 T ty).elem sz false 0 []]) (fun g M=>⟨M.addRow je,Ext.addRow _,Step.addRow _⟩) (id:=s.ob.length) Q4b (xs':=[]) (fun g M hS=>?_) (fun h=>by cases h) jf rfl zo gd jE.1 ?_
        ·have qQ:=QT hS x
         rw[hx]at qQ;rw[qQ.valEq];refine⟨[],World.ownsRow_nil _ _ _ _,?_,Alike.nil,?_,?_,?_⟩
         ·intro b h;cases h
         ·intro x h;cases h
         ·intro b h;cases h
         ·intro _ j y h;simp at h
        ·rw[gc];exact jE.2
       ·rename_i id ep hx
        split at jE
        ·rename_i et sz' fz e xs j2
         split at jE
         ·rename_i hk
          obtain⟨rfl,rfl,rfl⟩:=hk;refine Q5q hT hs hd ho ha ht (ob:=s.ob) (fun g M=>⟨M,Ext.refl,Step.refl⟩) j2 (fun g M hS=>?_) (fun _=>rfl) jf rfl zo gd jE.1 jE.2
          have qQ:=QT hS x;rw[hx]at qQ;obtain⟨_,et,sz,fz,e,xs,h1,h2,h3⟩:=qQ;rw[j2]at h1;cases h1;exact h3 rfl
         ·exact jE.elim
        ·exact jE.elim
       ·rename_i id ep k hx
        split at jE
        ·rename_i et sz' e xs j2
         split at jE
         ·rename_i hk
          obtain⟨rfl,rfl,rfl⟩:=hk;refine Q5q hT hs hd ho ha ht (ob:=s.ob) (fun g M=>⟨M,Ext.refl,Step.refl⟩) j2 (xs':=std.cut xs 0 k) (fun g M hS=>?_) (fun h=>by cases h) jf rfl zo gd jE.1 jE.2
          have qQ:=QT hS x;rw[hx]at qQ;obtain⟨_,et,sz,fz,e,xs,h1,h2,h3⟩:=qQ;rw[j2]at h1;cases h1;have e:std.cut xs 0 k=xs.take k.toNat:=by simp[std]
          rw[e];exact(h3 rfl).2.2
         ·exact jE.elim
        ·exact jE.elim
       ·exact jE.elim
      ·exact jE.elim
     ·exact jE.elim
    ·exact jE.elim
   |_=>exact rest (by rw[ho];simpa only[aop,ho]using jE)
  |invoke _ _=>exact rest (by rw[ho];simpa only[aop,ho]using jE)
  |value f =>
   simp only[aop,ho]at jE;split at jE
   ·rename_i h ca cb hf
    split at jE
    ·rename_i hab
     obtain rfl:ca=#[]:=Array.eq_empty_of_size_eq_zero hab.1;obtain rfl:cb=#[]:=Array.eq_empty_of_size_eq_zero hab.2;split at jE
     ·rename_i vs ob he
      split at jE
      ·rename_i hk
       split at jE
       ·rename_i res ob' hcs
        split at jE
        ·rename_i jB
         exact Qnh hs hd ho hf he hk.1 hk.2.1 hk.2.2 jB jE.1 jE.2
        ·exact jE.elim
       ·exact jE.elim
      ·exact jE.elim
     ·exact jE.elim
    ·exact jE.elim
   ·exact jE.elim
 |_=>exact rest (by rw[ho];simpa only[aop,ho]using jE)
end
section
variable {P:Program}{ops:Array Oper}{Q:Exit->Act->World->Prop}{md:Region.Mode}{late:Nat->Bool}
def wpR(P:Program)(md:Region.Mode)(ops:Array Oper)(late:Nat->Bool)(Q:Exit->Act->World->Prop):Nat->Array Bool->Act->World->Prop
 |0,listed,a,w=>Region.ready md ops listed=[]/\Q .normal a w
 |n+1,listed,a,w=>(Region.ready md ops listed=[]->Q .normal a w) /\
   ∀i∈Region.ready md ops listed,wpOp P ops Q i (fun a' w'=>(late i=false->LeB w w')/\wpR P md ops late Q n (listed.setIfInBounds i true) a' w') a w
theorem Qaa:∀(n:Nat)(listed:Array Bool)(a:Act)(w:World),wpR P md ops late Q n listed a w->wpAny P md ops Q n listed a w
 |0,_,_,_,h=>h
 |n+1,_,_,_,h=>⟨h.1,fun i hi=>wpOp_mono (fun a' w' h'=>Qaa n _ a' w' h'.2) (h.2 i hi)⟩
def Closed(md:Region.Mode)(ops:Array Oper)(listed:Array Bool):Prop :=
 ∀(j:Nat) oj,ops[j]?=some oj->listed.getD j true=true->∀e∈oj.after,Region.binds md e=true->listed.getD e.on true=true
def anc(md:Region.Mode)(ops:Array Oper)(i:Nat):Nat->Nat->Bool
 |0,_=>false
 |n+1,j=>match ops[j]? with
  |some oj=>oj.after.any fun e=>Region.binds md e&&(e.on == i||anc md ops i n e.on)
  |none=>false
theorem Q8X{listed:Array Bool}{k:Nat}(h:listed.getD k false=true):listed.getD k true=true:=by
 rcases Nat.lt_or_ge k listed.size with h'|h'
 ·simp[h']at h ⊢;exact h
 ·simp[not_lt.2 h']at h ⊢
theorem Closed.set{listed:Array Bool}(h:Closed md ops listed){j:Nat}(hr:j∈Region.ready md ops listed):Closed md ops (listed.setIfInBounds j true):=by
 have up:∀k,listed.getD k true=true->(listed.setIfInBounds j true).getD k true=true:=fun k hk=>by
  by_cases e:j=k
  ·subst e
   rcases Nat.lt_or_ge j listed.size with h'|h'
   ·simp[h']
   ·simp[not_lt.2 h']
  ·rw[getD_set_ne true e];exact hk
 intro k ok hk hl e he hb;by_cases yr:j=k
 ·subst yr
  obtain⟨_,o,ho,vO⟩:=mem_ready.1 hr;rw[hk]at ho;cases ho;exact up _ (Q8X (vO e he hb))
 ·rw[getD_set_ne true yr]at hl
  exact up _ (h k ok hk hl e he hb)
theorem QgX{listed:Array Bool}(h:Closed md ops listed){i:Nat}(hi:listed.getD i true=false):∀(n j:Nat),anc md ops i n j=true->∀oj,ops[j]?=some oj ->
  ¬(∀e∈oj.after,Region.binds md e=true->listed.getD e.on true=true)
 |0,_,h0,_,_,_=>by cases h0
 |n+1,j,h0,oj,hj,vO=>by
  simp only[anc,hj]at h0;obtain⟨e,he,hb⟩:=Array.any_eq_true'.1 h0;simp only[Bool.and_eq_true,Bool.or_eq_true,beq_iff_eq]at hb;obtain⟨hb,h1|h1⟩:=hb
  ·have:=vO e he hb
   rw[h1,hi]at this;cases this
  ·have hl:=vO e he hb
   cases hk:ops[e.on]? with
   |none =>
    cases n<;>simp[anc,hk]at h1
   |some ok=>exact QgX h hi n e.on h1 ok hk (h e.on ok hk hl)
theorem QbW{i:Nat}{oi:Oper}{v:Value}{rd:Bool}(hi:ops[i]?=some oi)
  (gS:∀(j:Nat)(o:Oper) cs b,ops[j]?=some o->o.op≠.select cs b)
  (hQ:∀c a w,Q (.panic c) (a.put oi.dst v) w->Q (.panic c) a w) (hli:late i=false) :
  ∀(n:Nat)(listed:Array Bool)(a:Act)(w:World),Closed md ops listed->(rd=true->∀j oj,ops[j]?=some oj->late j=true->listed.getD j true=false->anc md ops i ops.size j=true) ->
   (∀j oj,ops[j]?=some oj->j≠i->listed.getD j true=false->(∀e∈oj.after,Region.binds md e=true->e.on≠i)->oi.apart ops oj=true) ->
   i∈Region.ready md ops listed->YieldsIf P ops (fun W=>rd=true->LeB w W) oi v a ->
   wpR P md ops late Q n (listed.setIfInBounds i true) (a.put oi.dst v) w->wpR P md ops late Q (n+1) listed a w:=by
 intro n;induction n with
 |zero =>
  intro listed a w hC _ _ hr hy H;refine⟨fun h=>(by rw[h]at hr;cases hr),fun j hj=>?_⟩
  by_cases qi:j=i
  ·subst qi;exact hy.wpOp hi (fun _=>LeB.refl w) ⟨fun _=>LeB.refl w,H⟩
  ·have:=ready_mono hj qi
   rw[H.1]at this;cases this
 |succ n ih =>
  intro listed a w hC yl yf hr hy H;refine⟨fun h=>(by rw[h]at hr;cases hr),fun j hj=>?_⟩
  by_cases qi:j=i
  ·subst qi;exact hy.wpOp hi (fun _=>LeB.refl w) ⟨fun _=>LeB.refl w,H⟩
  ·have h1:=H.2 j (ready_mono hj qi)
   obtain⟨zG,oj,cy,vO⟩:=mem_ready.1 hj;have yg:=(mem_ready.1 hr).1
   have vA:∀e∈oj.after,Region.binds md e=true->e.on≠i:=fun e he hb jZ=>by
    have h1:=vO e he hb;rw[jZ]at h1;have:=Q8X h1
    rw[yg]at this;cases this
   have h2:=wpOp_putIf (S:=fun W=>rd=true->LeB w W) cy (yf j oj cy qi zG vA) (fun cs b=>gS i oi cs b hi) (fun cs b=>gS j oj cs b cy) hQ hy h1
   have zH:∀k ok,ops[k]?=some ok->k≠i->(listed.setIfInBounds j true).getD k true=false ->
     (∀e∈ok.after,Region.binds md e=true->e.on≠i)->oi.apart ops ok=true:=fun k ok hk xG yg v4=>by
    refine yf k ok hk xG ?_ v4;by_cases yr:j=k
    ·subst yr;exact zG
    ·rw[getD_set_ne true yr]at yg;exact yg
   refine wpOp_mono (fun a' w' h3=>?_) h2
   obtain⟨h3,h4,h5⟩:=h3;-- what is read stays
   have jH:rd=true->LeB w w':=fun zh=>by
    refine h4 ?_;cases hlj:late j with
    |false=>rfl
    |true=>exact(QgX hC yg _ _ (yl zh j oj cy hlj zG) oj cy (fun e he hb=>Q8X (vO e he hb))).elim
   have xi:rd=true->∀k ok,ops[k]?=some ok->late k=true->(listed.setIfInBounds j true).getD k true=false->anc md ops i ops.size k=true:=fun zh k ok hk hl yg=>by
    refine yl zh k ok hk hl ?_;by_cases yr:j=k
    ·subst yr;exact zG
    ·rw[getD_set_ne true yr]at yg;exact yg
   refine⟨h4,ih (listed.setIfInBounds j true) a' w' (hC.set hj) xi zH (ready_mono hr (Ne.symm qi)) (YieldsIf.weaken h3 fun V hV zh=>LeB.trans _ _ _ (jH zh) (hV zh)) ?_⟩
   rw[Array.setIfInBounds_comm _ _ qi];exact h5
end
def Q3J(ty:Tys):Op->Bool
 |.alloc _|.box _ _|.store _ _ _|.buildSlice _ _ _|.range _ _|.next _ _=>false
 |.call { callee:=.builtin .append,.. }|.call { callee:=.value _,.. }=>false
 |.convert _ dst _=>!(Q5 dst ty).sl
 |_=>true
def Q5C(ty:Tys)(ops:Array Oper)(j:Nat):Bool:=match ops[j]? with
 |some o=>!Q4W ty o.op
 |none=>false
def OT.heads:OT->List Nat
 |.nil=>[]
 |.cons i _=>[i]
 |.fork a b=>a.heads++b.heads
def Q3O(md:Region.Mode)(ty:Tys)(ops:Array Oper):OT->Nat->Array Bool->Bool->Bool
 |.nil,n,listed,among=>n == 0&&!among&&(Region.ready md ops listed).isEmpty
 |.cons i rest,n,listed,among=>n != 0&&(match ops[i]? with
   |some o=>(if among then(Region.ready md ops listed).contains i else Region.ready md ops listed == [i]||(Q3J ty o.op&&(Region.ready md ops listed).contains i&&Region.free md ops listed i &&
     (!Q91 o.op||(List.range ops.size).all fun j=>!Q5C ty ops j||(listed.getD j true||anc md ops i ops.size j))))
   |none=>false)&&Q3O md ty ops rest (n-1) (listed.setIfInBounds i true) false
 |.fork a b,n,listed,among=>(among||(!(Region.ready md ops listed).isEmpty&&(Region.ready md ops listed).all fun i=>(OT.fork a b).heads.contains i)) &&
   Q3O md ty ops a n listed true&&Q3O md ty ops b n listed true
def Q40(md:Region.Mode)(ty:Tys)(ord:Nat->OT):Code->Bool
 |.region id ops draw=>if draw then Region.noSelect ops&&Q3O md ty ops ((ord id).or ops.size) ops.size (Array.replicate ops.size false) false else true
 |.seq a b=>Q40 md ty ord a&&Q40 md ty ord b
 |.cond _ a b=>Q40 md ty ord a&&Q40 md ty ord b
 |.block _ c=>Q40 md ty ord c
 |.loop c=>Q40 md ty ord c
 |_=>true
def Q4p(N:Nat):Code->Bool
 |.region _ ops _=>ops.all fun o=>match o.dst with|some d=>decide (d<N)|none=>true
 |.seq a b=>Q4p N a&&Q4p N b
 |.cond _ a b=>Q4p N a&&Q4p N b
 |.block _ c=>Q4p N c
 |.loop c=>Q4p N c
 |_=>true
section
variable {P:Program}{ty:Tys}{w0:World}{g0:Gh}{o0:List Ob}{N:Nat}{Q:Ex->St->Prop}
theorem Qfp(hT:TyOk P ty){cs:Nat->List AV->List Ob->Option (AV×List Ob)}{K:St->Tree}{o:Oper}{s:St}{a:Act}{w:World}(jI:Q3J ty o.op=true)
  (jE:(aop std ty cs K o s).ok P w0 g0 o0 N Q):∃s1 x,(∀a w,Sim w0 g0 o0 N s a w->Sim w0 g0 o0 N s1 a w)/\(K (St.put s1 o.dst x)).ok P w0 g0 o0 N Q/\∀g,Mem w g s1.ob->Q1A w g s1 a->Yld P w g s1 a o (Q91 o.op) x:=by
 have rest0:∀s1,(∀a w,Sim w0 g0 o0 N s a w->Sim w0 g0 o0 N s1 a w)->(Q3X std ty K o s1 o.op).ok P w0 g0 o0 N Q->∃s1 x,(∀a w,Sim w0 g0 o0 N s a w->Sim w0 g0 o0 N s1 a w)/\(K (St.put s1 o.dst x)).ok P w0 g0 o0 N Q/\∀g,Mem w g s1.ob->Q1A w g s1 a->Yld P w g s1 a o (Q91 o.op) x:=by
  intro s1 h1 h;unfold Q3X at h;split at h
  ·rename_i v hv
   exact⟨s1,v,h1,h,fun g M hS=>Q7F hT hS M hv (fun r h=>by cases h)⟩
  ·rename_i q v hv
   exact⟨s1,v,h1,h.2,fun g M hS=>Q7F hT hS M hv (fun r hr=>by cases hr;exact h.1)⟩
  ·split at h
   ·rename_i src dst x ho
    rw[ho]at jI;simp only[Q3J,Bool.not_eq_true']at jI;split at h
    ·split at h
     ·rename_i hk
      rw[hk.2.1]at jI;cases jI
     ·exact h.elim
    ·split at h
     ·split at h
      ·rename_i hk
       rw[<-hk.2.1,hk.2.2.2.1]at jI;cases jI
      ·exact h.elim
     ·exact h.elim
    ·exact h.elim
   ·exact h.elim
 have rest:=rest0 s (fun _ _ h=>h)
 obtain⟨op,ho⟩:∃op,o.op=op:=⟨_,rfl⟩;cases op with
 |assign x =>
  simp only[aop,ho]at jE;exact rest0 _ (fun a w h=>Q7x x h) (by rw[ho];exact jE)
 |slice T x lo hi m =>
  cases lo with
  |none=>exact rest (by rw[ho];simpa only[aop,ho]using jE)
  |some l =>
   simp only[aop,ho]at jE;exact rest0 _ (fun a w h=>QdN x h) (by rw[ho];exact jE)
 |binOp op T x y T' =>
  rcases QgD (w:=w) (a:=a) hT ho jE with h|⟨z,h1,h2⟩
  ·exact rest h
  ·exact⟨s,z,fun _ _ h=>h,h1,fun g _ hS=>h2 g _ hS⟩
 |alloc T=>simp[ho,Q3J]at jI
 |box T x=>simp[ho,Q3J]at jI
 |store T x y=>simp[ho,Q3J]at jI
 |buildSlice T len parts=>simp[ho,Q3J]at jI
 |range T x=>simp[ho,Q3J]at jI
 |next it b=>simp[ho,Q3J]at jI
 |call c =>
  obtain⟨callee,args,tys⟩:=c;cases callee with
  |builtin b =>
   cases b with
   |append=>simp[ho,Q3J]at jI
   |_=>exact rest (by rw[ho];simpa only[aop,ho]using jE)
  |invoke _ _=>exact rest (by rw[ho];simpa only[aop,ho]using jE)
  |value f=>simp[ho,Q3J]at jI
 |_=>exact rest (by rw[ho];simpa only[aop,ho]using jE)
end
section
variable {P:Program}{ty:Tys}{w0:World}{g0:Gh}{o0:List Ob}{N:Nat}{Q:Ex->St->Prop}{w:World}{a:Act}{s:St}
theorem Q4N(hs:Sim w0 g0 o0 N s a w){d:Nat}{b:Bool}(hv:lk d s.tm=.val (.bool b))(c:Bool)(hc:b=c):Sim w0 g0 o0 N (s.put (some d) (.kb c)) a w:=by
 subst hc;obtain⟨g,M,hS,h0⟩:=hs.rel;refine⟨hs.defers,hs.size,g,M,fun t=>?_,h0⟩
 show ARel w g s.ob _ (if t=d then .kb b else lk t s.tm);by_cases e:t=d
 ·subst e
  rw[if_pos rfl];have h:=hS t;rw[hv]at h;exact h.valEq
 ·rw[if_neg e];exact hS t
theorem Q90(hs:Sim w0 g0 o0 N s a w){d:Option Nat}(hd:∀t,d=some t->t<N):Sim w0 g0 o0 N (s.put d (.tup [])) (a.put d undef) w:=by
 obtain⟨g,M,hS,h0⟩:=hs.rel;exact Q2R (s:=s) (ob':=s.ob) hs hS h0 M Step.refl hd (v:=undef) (x:=.tup []) ⟨#[],rfl,rfl,fun j y u h=>by simp at h⟩
theorem Q6L(hs:Sim w0 g0 o0 N s a w){d:Nat}{b:Bool}(hv:lk d s.tm=.kb b):a.tmps.getD d undef=.bool b:=by
 obtain⟨g,M,hS,h0⟩:=hs.rel;have h:=hS d;rw[hv]at h;exact h
theorem Q8a{ops:Array Oper}(hs:Sim w0 g0 o0 N s a w){o:Oper}{j d:Nat}{b want:Bool}(hg:o.guard=some (j,want))(hd:(ops[j]?).bind (·.dst)=some d)(hv:lk d s.tm=.kb b) :
  Region.wanted o (yielded ops a.tmps)=(b == want):=by
 have h:=Q6L hs hv
 have h1:a.tmps[d]?=some (.bool b):=by
  rw[Array.getD_eq_getD_getElem?]at h;cases hx:a.tmps[d]? with
  |none=>rw[hx]at h;cases h
  |some x=>rw[hx]at h;exact congrArg some h
 simp only[Region.wanted,hg,yielded,hd,Option.bind_some,h1];cases b<;>cases want<;>rfl
theorem Q6s{cs:Nat->List AV->List Ob->Option (AV×List Ob)}{ops:Array Oper}{K:St->Tree}{i:Nat}{rest:OT}{o:Oper}(ho:ops[i]?=some o)(hs:Sim w0 g0 o0 N s a w)
  (jE:(Q5H std ty cs ops.toList K (.cons i rest) s).ok P w0 g0 o0 N Q) :
  (Region.wanted o (yielded ops a.tmps)=true/\∃s',Sim w0 g0 o0 N s' a w/\(aop std ty cs (Q5H std ty cs ops.toList K rest) o s').ok P w0 g0 o0 N Q) \/
  (Region.wanted o (yielded ops a.tmps)=false/\∃s',Sim w0 g0 o0 N s' a w/\(Q5H std ty cs ops.toList K rest (s'.put o.dst (.tup []))).ok P w0 g0 o0 N Q):=by
 simp only[Q5H,Array.getElem?_toList,ho]at jE;split at jE
 ·rename_i hg
  exact .inl ⟨by simp[Region.wanted,hg],s,hs,jE⟩
 ·rename_i j want hg
  split at jE
  ·exact jE.elim
  ·rename_i d hd
   split at jE
   ·rename_i b hv
    have hw:=Q8a (ops:=ops) hs hg hd hv;split at jE
    ·exact .inl ⟨hw,s,hs,jE⟩
    ·exact .inl ⟨hw,s,hs,jE⟩
    ·rename_i hne1 zq
     refine .inr ⟨?_,s,hs,jE⟩;rw[hw];cases b<;>cases want
     ·exact(zq rfl rfl).elim
     ·rfl
     ·rfl
     ·exact(hne1 rfl rfl).elim
   ·rename_i b hv
    have e:∀c:Bool,lk d (s.put (some d) (.kb c)).tm=.kb c:=fun c=>if_pos rfl
    split at jE
    ·obtain⟨h1,h2⟩:=jE
     cases b with
     |true =>
      have jl:=Q4N hs hv true rfl;exact .inl ⟨Q8a (ops:=ops) jl hg hd (e true),_,jl,h1 rfl⟩
     |false =>
      have jl:=Q4N hs hv false rfl;exact .inr ⟨Q8a (ops:=ops) jl hg hd (e false),_,jl,h2 rfl⟩
    ·obtain⟨h1,h2⟩:=jE
     cases b with
     |true =>
      have jl:=Q4N hs hv true rfl;exact .inr ⟨Q8a (ops:=ops) jl hg hd (e true),_,jl,h1 rfl⟩
     |false =>
      have jl:=Q4N hs hv false rfl;exact .inl ⟨Q8a (ops:=ops) jl hg hd (e false),_,jl,h2 rfl⟩
   ·rename_i hv
    refine .inr ⟨?_,s,hs,jE⟩;obtain⟨g,M,hS,h0⟩:=hs.rel;have h1:=hS d;rw[hv]at h1;obtain⟨vs,h2,_⟩:=h1;rw[Array.getD_eq_getD_getElem?]at h2;simp only[Region.wanted,hg,yielded,hd,Option.bind_some];cases hx:a.tmps[d]? with
    |none=>cases want<;>rfl
    |some x =>
     rw[hx]at h2;obtain rfl:x=.tuple vs:=h2;cases want<;>rfl
   ·exact jE.elim
theorem Q97{ops:Array Oper}(hd:(ops.all fun o=>match o.dst with|some d=>decide (d<N)|none=>true)=true){i:Nat}{o:Oper}(ho:ops[i]?=some o):∀t,o.dst=some t->t<N:=fun t ht=>by
 have:=Array.all_eq_true_iff_forall_mem.1 hd o (Array.mem_of_getElem? ho)
 simpa[ht]using this
theorem Q7I(hT:TyOk P ty){cs:Nat->List AV->List Ob->Option (AV×List Ob)}{ops:Array Oper}{K:St->Tree}{R:Exit->Act->World->Prop}
  (hd:(ops.all fun o=>match o.dst with|some d=>decide (d<N)|none=>true)=true) (hK:∀s a w,Sim w0 g0 o0 N s a w->(K s).ok P w0 g0 o0 N Q->R .normal a w) :
  ∀(l:List Nat)(s:St)(a:Act)(w:World),Sim w0 g0 o0 N s a w->(Q5H std ty cs ops.toList K (OT.of l) s).ok P w0 g0 o0 N Q->wpOps P ops R l a w
 | [],s,a,w,hs,jE=>hK s a w hs jE
 |i::rest,s,a,w,hs,jE=>by
  unfold wpOps;cases ho:ops[i]? with
  |none=>simp[OT.of,Q5H,Array.getElem?_toList,ho,Tree.ok]at jE
  |some o =>
   rcases Q6s (rest:=OT.of rest) ho hs jE with ⟨hw,s',jl,h⟩|⟨hw,s',jl,h⟩
   ·simp only[hw,if_true]
    exact .inl (Oper.wp_mono (fun a' w' hg=>by
     obtain⟨_,s2,jW,h2⟩:=hg;exact Q7I hT hd hK rest s2 a' w' jW h2) (QeF hT jl (Q97 hd ho) h))
   ·simp only[hw,Bool.false_eq_true,if_false]
    exact Q7I hT hd hK rest _ _ w (Q90 jl (Q97 hd ho)) h
theorem QhH(hT:TyOk P ty){cs:Nat->List AV->List Ob->Option (AV×List Ob)}{ops:Array Oper}{K:St->Tree}{R:Exit->Act->World->Prop}{md:Region.Mode}
  (hd:(ops.all fun o=>match o.dst with|some d=>decide (d<N)|none=>true)=true) (hn:Region.noSelect ops=true) (hQ:∀c a (d:Tmp) v w,R (.panic c) (a.put (some d) v) w->R (.panic c) a w)
  (hK:∀s a w,Sim w0 g0 o0 N s a w->(K s).ok P w0 g0 o0 N Q->R .normal a w) :
  ∀(t:OT)(n:Nat)(listed:Array Bool)(s:St)(a:Act)(w:World),Closed md ops listed->Sim w0 g0 o0 N s a w->(Q5H std ty cs ops.toList K t s).ok P w0 g0 o0 N Q ->
   (Q3O md ty ops t n listed false=true->wpR P md ops (Q5C ty ops) R n listed a w) /\
   (Q3O md ty ops t n listed true=true->∀i∈t.heads,∃m,n=m+1/\wpOp P ops R i (fun a' w'=>(Q5C ty ops i=false->LeB w w')/\wpR P md ops (Q5C ty ops) R m (listed.setIfInBounds i true) a' w') a w):=by
 intro t;induction t with
 |nil =>
  intro n listed s a w hC hs jE;refine⟨fun hB=>?_,fun hB i hi=>by cases hi⟩
  simp only[Q3O,Bool.and_eq_true,beq_iff_eq]at hB;obtain⟨⟨rfl,_⟩,h⟩:=hB;exact⟨by simpa using h,hK s a w hs jE⟩
 |fork x y ihx ihy =>
  intro n listed s a w hC hs jE
  have both:Q3O md ty ops x n listed true=true->Q3O md ty ops y n listed true=true->∀i∈(OT.fork x y).heads,∃m,n=m+1/\wpOp P ops R i (fun a' w'=>(Q5C ty ops i=false->LeB w w')/\wpR P md ops (Q5C ty ops) R m (listed.setIfInBounds i true) a' w') a w:=fun h1 h2 i hi=>by
   rcases List.mem_append.1 hi with hi|hi
   ·exact(ihx n listed s a w hC hs jE.1).2 h1 i hi
   ·exact(ihy n listed s a w hC hs jE.2).2 h2 i hi
  refine⟨fun hB=>?_,fun hB=>?_⟩
  ·simp only[Q3O,Bool.and_eq_true,Bool.false_or]at hB
   obtain⟨⟨⟨h0,h1⟩,h2⟩,h3⟩:=hB;have jJ:Region.ready md ops listed≠[]:=by simpa using h0
   have vO:∀i∈Region.ready md ops listed,i∈(OT.fork x y).heads:=fun i hi=>by
    have:=all_eq_true.1 h1 i hi
    simpa using this
   obtain⟨i,hi⟩:=List.exists_mem_of_ne_nil _ jJ;obtain⟨m,rfl,_⟩:=both h2 h3 i (vO i hi);refine⟨fun h=>absurd h jJ,fun i hi=>?_⟩
   obtain⟨m',e,h⟩:=both h2 h3 i (vO i hi);cases e;exact h
  ·simp only[Q3O,Bool.and_eq_true]at hB
   exact both hB.1.2 hB.2
 |cons i rest ih =>
  intro n listed s a w hC hs jE;cases ho:ops[i]? with
  |none=>simp[Q5H,Array.getElem?_toList,ho,Tree.ok]at jE
  |some o =>
   -- taken from what may come next
   have loud:∀m,i∈Region.ready md ops listed->Q3O md ty ops rest m (listed.setIfInBounds i true) false=true ->
     wpOp P ops R i (fun a' w'=>(Q5C ty ops i=false->LeB w w')/\wpR P md ops (Q5C ty ops) R m (listed.setIfInBounds i true) a' w') a w:=fun m hr c7=>by
    unfold wpOp;simp only[ho];rcases Q6s ho hs jE with ⟨hw,s',jl,h⟩|⟨hw,s',jl,h⟩
    ·simp only[hw,if_true]
     exact .inl (Oper.wp_mono (fun a' w' hg=>by
      obtain⟨hq,s2,jW,h2⟩:=hg;refine⟨fun hl=>hq ?_,(ih m _ s2 a' w' (hC.set hr) jW h2).1 c7⟩
      simpa[Q5C,ho]using hl) (QeF hT jl (Q97 hd ho) h))
    ·simp only[hw,Bool.false_eq_true,if_false]
     exact⟨fun _=>LeB.refl w,(ih m _ _ _ w (hC.set hr) (Q90 jl (Q97 hd ho)) h).1 c7⟩
   refine⟨fun hB=>?_,fun hB=>?_⟩
   ·simp only[Q3O,ho,Bool.and_eq_true,Bool.false_eq_true,if_false,Bool.or_eq_true,beq_iff_eq,bne_iff_ne,ne_eq]at hB
    obtain⟨⟨qR,hB⟩,c7⟩:=hB;obtain⟨m,rfl⟩:∃m,n=m+1:=⟨n-1,by omega⟩
    simp only[Nat.add_sub_cancel]at c7;rcases hB with hr|⟨⟨⟨jI,hr⟩,hf⟩,hrd⟩
    ·refine⟨fun h0=>(by rw[hr]at h0;cases h0),fun j hj=>?_⟩
     have gL:=hj;rw[hr]at gL;obtain rfl:=List.mem_singleton.1 gL;exact loud m hj c7
    ·have vq:i∈Region.ready md ops listed:=by simpa using hr
     have hli:Q5C ty ops i=false:=by
      simp only[Q5C,ho,Bool.not_eq_false'];revert jI;cases o.op<;>simp only[Q3J,Q4W,Bool.false_eq_true,false_implies,implies_true]
      case convert src dst x =>
       intro h;by_cases e:src=dst
       ·subst e
        have h:(Q5 src ty).sl=false:=by simpa using h
        simp[h]
       ·simp[e]
      rename_i c;obtain⟨callee,args,tys⟩:=c;cases callee with
      |builtin b=>cases b<;>simp[Q3J,Q4W]
      |_=>simp[Q3J,Q4W]
     have yl:Q91 o.op=true->∀j oj,ops[j]?=some oj->Q5C ty ops j=true->listed.getD j true=false->anc md ops i ops.size j=true:=fun kh j oj hj hl yg=>by
      rcases hrd with h|h
      ·rw[kh]at h;simp at h
      ·have:=all_eq_true.1 h j (mem_range.2 (Array.getElem?_eq_some_iff.1 hj).1)
       simpa only[hl,yg,Bool.not_true,Bool.false_or]using this
     rcases Q6s ho hs jE with ⟨hw,s',jl,h⟩|⟨hw,s',jl,h⟩
     ·obtain⟨s1,x,jL,hx,hy⟩:=Qfp hT (w:=w) (a:=a) jI h
      have jL:=jL _ _ jl;obtain⟨g,M,hS,h0⟩:=jL.rel;obtain⟨v,h1,h2⟩:=hy g M hS
      exact QbW ho (Region.noSelect_spec hn) (fun c a w=>Q77 hQ c a _ _ w) hli _ listed a w hC yl (Region.free_spec ho hf) vq (.inl ⟨hw,fun W hW=>h1 W hW⟩)
       ((ih m _ _ _ w (hC.set vq) (Q2R (s:=s1) (ob':=s1.ob) jL hS h0 M Step.refl (Q97 hd ho) h2) hx).1 c7)
     ·exact QbW ho (Region.noSelect_spec hn) (fun c a w=>Q77 hQ c a _ _ w) hli _ listed a w hC yl (Region.free_spec ho hf) vq (.inr ⟨hw,rfl⟩)
       ((ih m _ _ _ w (hC.set vq) (Q90 jl (Q97 hd ho)) h).1 c7)
   ·simp only[Q3O,ho,Bool.and_eq_true,if_true,bne_iff_ne,ne_eq]at hB
    obtain⟨⟨qR,hr⟩,c7⟩:=hB;obtain⟨m,rfl⟩:∃m,n=m+1:=⟨n-1,by omega⟩
    simp only[Nat.add_sub_cancel]at c7;intro j hj;obtain rfl:=List.mem_singleton.1 hj;exact⟨m,rfl,loud m (by simpa using hr) c7⟩
end
theorem Qdd{md:Region.Mode}{ops:Array Oper}:Closed md ops (Array.replicate ops.size false):=fun j oj hj hl=>by
 have:j<ops.size:=(Array.getElem?_eq_some_iff.1 hj).1
 simp[this]at hl
section
variable {P:Program}{ty:Tys}{w0:World}{g0:Gh}{o0:List Ob}{N:Nat}{Q:Ex->St->Prop}
theorem QiA{s:St}{a:Act}{w w':World}(hs:Sim w0 g0 o0 N s a w)(hb:LeB w w'):Sim w0 g0 o0 N s a w':=by
 obtain⟨g,M,hS,h0⟩:=hs.rel;have E:=Ext.below M hb;have h1:Step w g s.ob w' g s.ob:=⟨hb.os,hb.tape,hb.output,hb.size,fun b h _=>hb.block b h,fun b id hG=>.inl ⟨id,hG⟩,fun b o h=>.inl h,E,le_refl _⟩
 exact⟨hs.defers,hs.size,g,M.below hb,fun t=>(hS t).ext E,h0.trans h1⟩
theorem Q5j(hT:TyOk P ty)(hm:P.follows .mixedOrders=true){cs:Nat->List AV->List Ob->Option (AV×List Ob)}{ord:Nat->OT} :
  ∀(c:Code)(K:Ex->St->Tree)(R:Exit->Act->World->Prop)(s:St)(a:Act)(w:World),Q4p N c=true->Q40 .any ty ord c=true ->
   (∀c a (d:Tmp) v w,R (.panic c) (a.put (some d) v) w->R (.panic c) a w)->(∀e s a w,Sim w0 g0 o0 N s a w->(K e s).ok P w0 g0 o0 N Q->R e.conv a w) ->
   Sim w0 g0 o0 N s a w->(Q4 std ty cs ord c K s).ok P w0 g0 o0 N Q->c.wp P R a w:=by
 intro c;induction c with
 |skip=>intro K R s a w _ _ _ hK hs jE;exact wp_skip (hK .normal s a w hs jE)
 |region id ops draw =>
  intro K R s a w hd ho hQ hK hs jE;cases draw with
  |false =>
   exact wp_region (Q7I hT hd (fun s a w hs h=>hK .normal s a w hs h) _ s a w hs jE)
  |true =>
   simp only[Q40,if_true,Bool.and_eq_true]at ho;obtain⟨h1,h3⟩:=ho;refine wp_region_any hm (Qaa (late:=Q5C ty ops) _ _ _ _ ?_);exact(QhH hT hd h1 hQ (fun s a w hs h=>hK .normal s a w hs h) _ _ _ s a _ Qdd (QiA hs (LeB.drew w)) jE).1 h3
 |seq x y ihx ihy =>
  intro K R s a w hd ho hQ hK hs jE;simp only[Q4p,Q40,Bool.and_eq_true]at hd ho;refine wp_seq (ihx _ _ s a w hd.1 ho.1 (fun c a d v w h=>hQ c a d v w h) (fun e s a w hs h=>?_) hs jE)
  cases e with
  |normal=>exact ihy K R s a w hd.2 ho.2 hQ hK hs h
  |exit i=>exact hK (.exit i) s a w hs h
  |ret=>exact hK .ret s a w hs h
 |cond c x y ihx ihy =>
  intro K R s a w hd ho hQ hK hs jE;simp only[Q4p,Q40,Bool.and_eq_true]at hd ho;unfold Q4 at jE;split at jE
  ·rename_i t
   split at jE
   ·rename_i hv
    exact wp_cond_true (Q6L hs hv) (ihx K R s a w hd.1 ho.1 hQ hK hs jE)
   ·rename_i hv
    exact wp_cond_false (Q6L hs hv) (ihy K R s a w hd.2 ho.2 hQ hK hs jE)
   ·rename_i b hv
    obtain⟨h1,h2⟩:=jE;have e:∀c:Bool,lk t (s.put (some t) (.kb c)).tm=.kb c:=fun c=>if_pos rfl
    cases b with
    |true =>
     have jl:=Q4N hs hv true rfl;exact wp_cond_true (Q6L jl (e true)) (ihx K R _ a w hd.1 ho.1 hQ hK jl (h1 rfl))
    |false =>
     have jl:=Q4N hs hv false rfl;exact wp_cond_false (Q6L jl (e false)) (ihy K R _ a w hd.2 ho.2 hQ hK jl (h2 rfl))
   ·exact jE.elim
  ·exact wp_cond_true rfl (ihx K R s a w hd.1 ho.1 hQ hK hs jE)
  ·exact wp_cond_false rfl (ihy K R s a w hd.2 ho.2 hQ hK hs jE)
  ·exact jE.elim
 |block id c ih =>
  intro K R s a w hd ho hQ hK hs jE;simp only[Q4p,Q40]at hd ho;refine wp_block (ih _ _ s a w hd ho (fun c a d v w h=>hQ c a d v w h) (fun e s a w hs h=>?_) hs jE)
  cases e with
  |normal=>exact hK .normal s a w hs h
  |ret=>exact hK .ret s a w hs h
  |exit i =>
   show Exit.inBlock id R (.exit i) a w;simp only[Exit.inBlock];simp only at h
   by_cases hi:i=id
   ·rw[if_pos hi]at h ⊢
    exact hK .normal s a w hs h
   ·rw[if_neg hi]at h ⊢
    exact hK (.exit i) s a w hs h
 |loop c ih =>
  intro K R s a w hd ho hQ hK hs jE;refine wp_mono (jE a w hs) (fun e a' w' h=>?_)
  obtain⟨e',s',rfl,jl,h'⟩:=h;exact hK e' s' a' w' jl h'
 |exit i=>intro K R s a w _ _ _ hK hs jE;exact wp_exit (hK (.exit i) s a w hs jE)
 |ret=>intro K R s a w _ _ _ hK hs jE;exact wp_ret (hK .ret s a w hs jE)
 |_=>intro K R s a w _ _ _ _ _ jE;exact jE.elim
end
def ent:Nat->List AV->List (Nat×AV)
 |_,[]=>[]
 |k,x::r=>(k,x)::ent (k+1) r
theorem QfN(t:Nat):∀(l:List AV)(k:Nat),lk t (ent k l)=if k<=t then l.getD (t-k) .dead else .dead
 | [],k=>by simp[ent,lk]
 |x::r,k=>by
  simp only[ent,lk];by_cases h:t=k
  ·subst h;simp
  ·rw[if_neg h,QfN t r (k+1)]
   by_cases h2:k<=t
   ·have e:t-k=(t-(k+1))+1:=by omega
    rw[if_pos (by omega),if_pos h2,e,List.getD_cons_succ]
   ·rw[if_neg (by omega),if_neg h2]
def QcR(tmps:Array Value)(rv:ResultVar):Sem Value:=match rv with
 |.tmp t=>pure (tmps.getD t undef)
 |.cell a t=>do loadVar t (<-asAddr (tmps.getD a undef))
theorem Qgg(fn:Func)(tmps:Array Value):results fn tmps=(do let vs <-fn.results.mapM (QcR tmps);pure (if h:vs.size=1 then vs[0]else .tuple vs)):=by
 unfold results;congr 1
section
variable {P:Program}{ty:Tys}{w0 w:World}{g0 g:Gh}{o0:List Ob}{N:Nat}{s:St}{a:Act}
theorem Qmj(hT:TyOk P ty)(M:Mem w g s.ob)(hS:Q1A w g s a){rv:ResultVar}{x:AV}(h:Q9W ty s rv=some x) :
  ∃v,Sem.run P (QcR a.tmps rv) w=.ok v w/\ARel w g s.ob v x:=by
 cases rv with
 |tmp t =>
  refine⟨a.tmps.getD t undef,rfl,?_⟩;have hr:=hS t;simp only[Q9W]at h;split at h
  ·rename_i b hb
   obtain rfl:AV.val (.bool b)=x:=by simpa using h
   rw[hb]at hr;have e:a.tmps.getD t undef=.bool b:=hr;rw[e];exact PRel.to (.val _ rfl)
  ·cases h
  ·obtain rfl:lk t s.tm=x:=by simpa using h
   exact hr
 |cell b T =>
  simp only[Q9W]at h;split at h
  ·rename_i cs hcs
   by_cases hk:(Q5 T ty).ok=true/\(if(Q5 T ty).agg then(Q5 T ty).size else 1)<=cs.length
   ·rw[if_pos hk]at h
    cases h;obtain⟨bl,of,hv,hc⟩:=Q99 M (hS b) hcs;obtain⟨v,h1,h2⟩:=Q7M (g:=g) hT hk.1 hc hk.2;refine⟨v,?_,h2⟩;have h3:=h1 w (LeB.refl w);show(asAddr (a.tmps.getD b undef) >>= fun p=>loadVar T p).run P w=_
    rw[hv];simpa[asAddr]using h3
   ·rw[if_neg hk]at h;cases h
  ·cases h
theorem QdR(hT:TyOk P ty)(M:Mem w g s.ob)(hS:Q1A w g s a):∀(rs:List ResultVar)(xs:List AV),Q68 (rs.map (Q9W ty s))=some xs ->
  ∃vs,Sem.run P (rs.mapM (QcR a.tmps)) w=.ok vs w/\vs.length=xs.length /\
   ∀(j:Nat) v x,vs[j]?=some v->xs[j]?=some x->ARel w g s.ob v x
 | [],xs,h=>by
  obtain rfl:[]=xs:=by simpa[Q68]using h
  exact⟨[],rfl,rfl,fun j v x h=>by simp at h⟩
 |rv::rs,xs,h=>by
  cases h1:Q9W ty s rv with
  |none=>simp[Q68,h1]at h
  |some x =>
   simp only[map_cons,h1,Q68,map_eq_some_iff]at h;obtain⟨ys,h2,rfl⟩:=h;obtain⟨v,hv,hr⟩:=Qmj hT M hS h1;obtain⟨vs,nL,hl,jq⟩:=QdR hT M hS rs ys h2;refine⟨v::vs,?_,by simp[hl],fun j y u hy hu=>?_⟩
   ·simp only[List.mapM_cons,Sem.run_bind,hv,nL,Result.andThen_ok,Sem.run_pure]
   ·cases j with
    |zero =>
     obtain rfl:v=y:=by simpa using hy
     obtain rfl:x=u:=by simpa using hu
     exact hr
    |succ j=>exact jq j y u (by simpa using hy) (by simpa using hu)
theorem Qd9(hT:TyOk P ty){keep:Bool}{fn:Func}(hs:Sim w0 g0 o0 N s a w){res:AV}{ob':List Ob}(h:Q86 std ty keep fn.results.toList s=some (res,ob')) :
  ∃v g',(results fn a.tmps).run P w=.ok v w/\Mem w g' ob'/\ARel w g' ob' v res/\Step w0 g0 o0 w g' ob':=by
 obtain⟨g,M,hS,h0⟩:=hs.rel;unfold Q86 at h;cases hx:Q68 (fn.results.toList.map (Q9W ty s))with
 |none=>rw[hx]at h;cases h
 |some xs =>
  rw[hx]at h;obtain⟨vs,nL,hl,jq⟩:=QdR hT M hS _ _ hx
  have q7:(results fn a.tmps).run P w=.ok (if h:vs.toArray.size=1 then vs.toArray[0]else .tuple vs.toArray) w:=by
   rw[Qgg,Array.mapM_eq_mapM_toList,Sem.run_bind]
   have:(List.toArray <$> (fn.results.toList.mapM (QcR a.tmps))).run P w=.ok vs.toArray w:=by
    rw[map_eq_pure_bind,Sem.run_bind,nL];rfl
   rw[this];rfl
  have many:xs.length≠1->(Q4r (frz std keep 9) s.ob xs).map (fun(ys,ob)=>(AV.tup ys,ob))=some (res,ob') ->
    ∃v g',(results fn a.tmps).run P w=.ok v w/\Mem w g' ob'/\ARel w g' ob' v res/\Step w0 g0 o0 w g' ob':=fun jJ h=>by
   simp only[map_eq_some_iff]at h;obtain⟨⟨ys,ob1⟩,h1,h2⟩:=h;cases h2;have hL:Q4X w g s.ob vs xs:=⟨hl,fun j v x hv hx=>(jq j v x hv hx).to1 (Q74 _ _ _ _ h1 _ (mem_of_getElem? hx))⟩
   obtain⟨g',M',E',R',L'⟩:=Qmd _ _ g s.ob ys ob1 M hL h1;refine⟨_,g',q7,M',?_,h0.trans (Step.ghost E' L')⟩;have:¬vs.toArray.size=1:=by simp;omega
   rw[dif_neg this];exact⟨vs.toArray,rfl,by simpa using R'.1,fun j y u hy hu=>R'.2 j y u (by simpa using hy) hu⟩
  cases xs with
  |nil=>exact many (by simp) h
  |cons x r =>
   cases r with
   |cons x' r'=>exact many (by simp) h
   |nil =>
    obtain⟨v,rfl⟩:∃v,vs=[v]:=List.length_eq_one_iff.1 (by simpa using hl)
    obtain⟨g',M',E',R',L'⟩:=Qk0 M (jq 0 v x rfl rfl) h;exact⟨v,g',q7,M',R',h0.trans (Step.ghost E' L')⟩
end
def leC(x y:AV):Prop:=x=y\/(x=.val (.slice none 0 0)/\∃sz,y=.slc sz [])\/(y=.opt x/\Q56 x)\/x=.opt y
def leL:List AV->List AV->Prop
 | [],[]=>True
 |x::r,y::r'=>leC x y/\leL r r'
 |_,_=>False
def QeH:AV->AV->Prop
 |.agg xs,.agg ys=>leL xs ys
 |.agg _,_=>False
 |.tup _,_=>False
 |_,.agg _=>False
 |_,.tup _=>False
 |x,y=>leC x y
def leT:List AV->List AV->Prop
 | [],[]=>True
 |x::r,y::r'=>QeH x y/\leT r r'
 |_,_=>False
def leA(x y:AV):Prop:=match x with
 |.tup xs=>(match y with
  |.tup ys=>leT xs ys
  |_=>False)
 |x=>QeH x y
section
variable {w:World}{g:Gh}{ob:List Ob}
theorem QgO{v:Value}{x y:AV}(h:ARel0 w g ob v x)(hl:leC x y):ARel0 w g ob v y:=by
 rcases hl with rfl|⟨rfl,sz,rfl⟩|⟨rfl,hp⟩|rfl
 ·exact h
 ·cases(show v=_ from ARel.valEq (g:=g) (w:=w) (ob:=ob) h)
  exact PRel.nil sz
 ·have:PRel w g.A v x:=by
   cases x with
   |val _=>exact h
   |ref _=>exact h
   |opt _=>exact h
   |_=>exact(show False from hp).elim
  exact PRel.opt _ _ this hp
 ·exact(PRel.ofOpt (show PRel w g.A v (.opt y) from h)).1.to0
theorem Qh9:∀{vs:List Value}{xs ys:List AV},ARelC w g ob vs xs->leL xs ys->ARelC w g ob vs ys
 |vs,[],[],h,_=>h
 |_,[],_::_,_,hl=>hl.elim
 |_,_::_,[],_,hl=>hl.elim
 | [],x::r,y::r',h,_=>absurd h.1 (by simp)
 |v::vs,x::r,y::r',h,hl=>by
  have h1:=h.2 0 v x rfl rfl;have h2:ARelC w g ob vs r':=Qh9 (xs:=r) ⟨by simpa using h.1,fun j a b ha hb=>h.2 (j+1) a b (by simpa using ha) (by simpa using hb)⟩ hl.2
  refine⟨by simp[h2.1],fun j a b ha hb=>?_⟩
  cases j with
  |zero =>
   obtain rfl:v=a:=by simpa using ha
   obtain rfl:y=b:=by simpa using hb
   exact⟨QgO h1.1 hl.1,h1.2⟩
  |succ j=>exact h2.2 j a b (by simpa using ha) (by simpa using hb)
theorem ARel1.to0{v:Value}{x:AV}(h:ARel1 w g ob v x)(hn:∀cs,x≠.agg cs):ARel0 w g ob v x:=by cases x<;>first|exact h|exact absurd rfl (hn _)
theorem Qay{v:Value}{x y:AV}(h:ARel1 w g ob v x)(hl:QeH x y):ARel1 w g ob v y:=by
 cases x with
 |agg xs =>
  cases y with
  |agg ys=>obtain⟨vs,rfl,h⟩:=h;exact⟨vs,rfl,Qh9 h hl⟩
  |_=>exact(show False from hl).elim
 |tup _=>exact(show False from hl).elim
 |_=>cases y<;>first|exact(show False from hl).elim|exact(QgO (h.to0 (fun cs h=>by cases h)) hl).to1
theorem Q9I{v:Value}{x y:AV}(h:ARel w g ob v x)(hl:leA x y):ARel w g ob v y:=by
 cases x with
 |tup xs =>
  cases y with
  |tup ys =>
   obtain⟨vs,rfl,h1,h2⟩:=h
   have key:∀(xs ys:List AV)(vs:List Value),leT xs ys->vs.length=xs.length->(∀(j:Nat) y u,vs[j]?=some y->xs[j]?=some u->ARel1 w g ob y u)->vs.length=ys.length/\∀(j:Nat) y u,vs[j]?=some y->ys[j]?=some u->ARel1 w g ob y u:=by
    intro xs;induction xs with
    |nil =>
     intro ys vs hl hn hr;cases ys with
     |nil=>exact⟨hn,hr⟩
     |cons _ _=>exact(show False from hl).elim
    |cons x r ih =>
     intro ys vs hl hn hr;cases ys with
     |nil=>exact(show False from hl).elim
     |cons y r' =>
      cases vs with
      |nil=>simp at hn
      |cons v vs =>
       obtain⟨h3,h4⟩:=ih r' vs hl.2 (by simpa using hn) (fun j a b ha hb=>hr (j+1) a b (by simpa using ha) (by simpa using hb))
       refine⟨by simp[h3],fun j a b ha hb=>?_⟩
       cases j with
       |zero =>
        obtain rfl:v=a:=by simpa using ha
        obtain rfl:y=b:=by simpa using hb
        exact Qay (hr 0 v x rfl rfl) hl.1
       |succ j=>exact h4 j a b (by simpa using ha) (by simpa using hb)
   obtain⟨h3,h4⟩:=key xs ys vs.toList hl (by simpa using h1) (fun j a b ha hb=>h2 j a b (by simpa using ha) hb)
   exact⟨vs,rfl,by simpa using h3,fun j a b ha hb=>h4 j a b (by simpa using ha) hb⟩
  |_=>exact(show False from hl).elim
 |_=>exact(Qay (h.to1' (fun xs h=>by cases h)) (show QeH _ y from hl)).to
end
def Qch(ob ob':List Ob)(ρ:List (Option Nat)):List AV->List AV->Option Eqs
 | [],[]=>some []
 |x::r,x'::r'=>both (QbM ob ob' ρ x x') (Qch ob ob' ρ r r')
 |_,_=>none
def QkD(ob ob':List Ob)(ρ:List (Option Nat))(x x':AV):Option Eqs:=match x with
 |.tup xs=>(match x' with
  |.tup ys=>Qch ob ob' ρ xs ys
  |_=>none)
 |x=>QbM ob ob' ρ x x'
section
variable {w w0:World}{g g0:Gh}{ob ob' o0:List Ob}{ρ:List (Option Nat)}
theorem QfQ{x x':AV}{l:Eqs}(he:QbM ob ob' ρ x x'=some l):∀xs,x'≠.tup xs:=by
 rintro xs rfl;cases he
theorem Q8N(hF:Fits ob ob' ρ)(ho:Q32 ρ=true):∀(xs ys:List AV)(vs:List Value)(l:Eqs),Qch ob ob' ρ xs ys=some l->Qe l->vs.length=xs.length->(∀(j:Nat) y u,vs[j]?=some y->xs[j]?=some u->ARel1 w g ob y u) ->
  vs.length=ys.length/\∀(j:Nat) y u,vs[j]?=some y->ys[j]?=some u->ARel1 w (g.ren ρ) ob' y u
 | [],[],vs,_,_,_,hn,_=>⟨hn,fun j y u _ h=>by simp at h⟩
 | [],_::_,_,_,h,_,_,_=>by cases h
 |_::_,[],_,_,h,_,_,_=>by cases h
 |x::r,y::r',vs,l,h,hl,hn,hr=>by
  cases vs with
  |nil=>simp at hn
  |cons v vs =>
   obtain⟨⟨l1,h1,vS⟩,l2,h2,v8⟩:=Q37 h hl;obtain⟨h3,h4⟩:=Q8N hF ho r r' vs l2 h2 v8 (by simpa using hn) (fun j a b ha hb=>hr (j+1) a b (by simpa using ha) (by simpa using hb))
   refine⟨by simp[h3],fun j a b ha hb=>?_⟩
   cases j with
   |zero =>
    obtain rfl:v=a:=by simpa using ha
    obtain rfl:y=b:=by simpa using hb
    exact(Q88 hF ho (hr 0 v x rfl rfl).to h1 vS).to1' (QfQ h1)
   |succ j=>exact h4 j a b (by simpa using ha) (by simpa using hb)
theorem QaI(hF:Fits ob ob' ρ)(ho:Q32 ρ=true){v:Value}{x x':AV}{l:Eqs}(h:ARel w g ob v x)(he:QkD ob ob' ρ x x'=some l)(hl:Qe l):ARel w (g.ren ρ) ob' v x':=by
 cases x with
 |tup xs =>
  cases x' with
  |tup ys =>
   obtain⟨vs,rfl,h1,h2⟩:=h;obtain⟨h3,h4⟩:=Q8N hF ho xs ys vs.toList l he hl (by simpa using h1) (fun j a b ha hb=>h2 j a b (by simpa using ha) hb)
   exact⟨vs,rfl,by simpa using h3,fun j a b ha hb=>h4 j a b (by simpa using ha) hb⟩
  |_=>cases he
 |_=>exact Q88 hF ho h he hl
theorem QeL(hF:Fits ob ob' ρ)(ho:Q32 ρ=true)(hh:Qho o0 ob ob' ρ=true)(hn:o0.length<=ρ.length)(h0:Step w0 g0 o0 w g ob):Step w0 g0 o0 w (g.ren ρ) ob':=by
 have head:∀j,j<o0.length->ρ[j]?=some (some j):=fun j hj=>by
  have:=all_eq_true.1 hh j (mem_range.2 hj)
  simp only[Bool.and_eq_true,beq_iff_eq]at this;exact this.1
 refine⟨h0.os,h0.tape,h0.output,h0.size,h0.keep,fun b id hG=>?_,h0.imm,⟨h0.ext.A,fun id hid=>?_,fun id hb=>?_,fun id hb=>?_,fun id et sz fz e xs hr=>?_,fun b id hG hs=>?_⟩,?_⟩
 ·obtain⟨i,_,h3⟩:=Q39 hG
  exact h0.own b i h3
 ·rw[Q3r (head id hid)];exact h0.ext.loc id hid
 ·exact hF.isB (head id (Q4o hb)) (h0.ext.isb id hb)
 ·exact hF.isI (head id (Q5g hb)) (h0.ext.isi id hb)
 ·have hid:=Qa hr
  obtain⟨fz1,e1,xs1,h3,h4,h5⟩:=h0.ext.row id et sz fz e xs hr;obtain⟨fz2,e2,h6,_⟩:=hF.row (head id hid) h3
  have he:e1=e2\/e<e2:=by
   have:=all_eq_true.1 hh id (mem_range.2 hid)
   simp only[Bool.and_eq_true,hr,h3,h6,beq_iff_eq,Bool.or_eq_true,decide_eq_true_eq]at this;exact this.2
  rcases he with he|he
  rotate_left
  ·exact⟨fz2,e2,xs1,h6,by omega,fun qg=>by omega⟩
  subst he;exact⟨fz2,e1,xs1,h6,h4,fun qg=>⟨(h5 qg).1,fun b hb=>⟨Q6i ho (head id hid) ((h5 qg).2 b hb).1,((h5 qg).2 b hb).2⟩⟩⟩
 ·obtain⟨et,sz,fz,fz',e,xs,xs',h3,h4⟩:=hs
  have hid:=Qa h3;obtain⟨fz1,e1,xs1,h5,h6,h7⟩:=h0.ext.row id et sz fz e xs h3;obtain⟨fz2,e2,h8,_⟩:=hF.row (head id hid) h5;rw[h8]at h4;obtain⟨rfl,rfl,rfl⟩:fz2=fz'/\e2=e/\xs1=xs':=by simpa using h4
  have he:e1=e2:=by
   have:=all_eq_true.1 hh id (mem_range.2 hid)
   simp only[Bool.and_eq_true,h3,h5,h8,beq_iff_eq,Bool.or_eq_true,decide_eq_true_eq]at this;omega
  subst he;obtain⟨h9,ju⟩:=h0.ext.sub b id hG ⟨_,_,_,_,_,_,_,h3,h5⟩;have yw:=Q4F (g:=g) ho (head id hid) ((h7 rfl).2 b hG).1;exact⟨yw.trans h9,ju⟩
 ·rw[<-hF.1];exact hn
end
def FinOk(o0:List Ob)(res:AV)(ob':List Ob)(_:Ex)(s:St):Prop:=match s.tm with
 | [(_,r)]=>∃ρ r' l,Q32 ρ=true/\Qho o0 s.ob ob' ρ=true/\o0.length<=ρ.length/\both (QkD s.ob ob' ρ r r') (Q9j s.ob ob' ρ ρ ob')=some l/\Qe l/\leA r' res
 |_=>False
def Qq5:AV->Bool
 |.tup xs=>xs.all AV.pur
 |x=>x.pur
theorem Q5S{ob:List Ob}{ρ:List (Option Nat)}{x:AV}(h:x.pur0=true):∃l,Q5Z ob [] ρ x x=some l/\Qe l:=by
 cases x with
 |val v=>cases v<;>exact⟨_,rfl,rfl,trivial⟩
 |slc _ _=>exact⟨_,rfl,rfl,trivial⟩
 |ref _=>exact⟨_,rfl,rfl,trivial⟩
 |opt _=>exact⟨_,rfl,rfl,trivial⟩
 |_=>cases h
theorem Q4K{ob:List Ob}{ρ:List (Option Nat)}{x:AV}(h:x.pur=true):∃l,QbM ob [] ρ x x=some l/\Qe l:=by
 cases x with
 |agg cs =>
  have key:∀cs:List AV,cs.all AV.pur0=true->∃l,Qdq ob [] ρ cs cs=some l/\Qe l:=by
   intro cs;induction cs with
   |nil=>intro _;exact⟨[],rfl,trivial⟩
   |cons x r ih =>
    intro h;simp only[all_cons,Bool.and_eq_true]at h;obtain⟨l1,h1,h2⟩:=Q5S (ob:=ob) (ρ:=ρ) h.1;obtain⟨l2,h3,h4⟩:=ih h.2;exact⟨l1++l2,by simp only[Qdq,h1,h3,both],Q3T.2 ⟨h2,h4⟩⟩
  exact key cs h
 |val v=>exact Q5S (ob:=ob) (ρ:=ρ) (x:=.val v) h
 |slc a b=>exact Q5S (ob:=ob) (ρ:=ρ) (x:=.slc a b) h
 |ref a=>exact Q5S (ob:=ob) (ρ:=ρ) (x:=.ref a) h
 |opt a=>exact Q5S (ob:=ob) (ρ:=ρ) (x:=.opt a) h
 |_=>cases h
theorem FinOk.pure{res r:AV}{k:Nat}{ob:List Ob}{e:Ex}(hp:Qq5 r=true)(hl:leA r res):FinOk [] res [] e ⟨[(k,r)],ob⟩:=by
 have hr:∃l,QkD ob [] [] r r=some l/\Qe l:=by
  cases r with
  |tup xs =>
   have key:∀xs:List AV,xs.all AV.pur=true->∃l,Qch ob [] [] xs xs=some l/\Qe l:=by
    intro xs;induction xs with
    |nil=>intro _;exact⟨[],rfl,trivial⟩
    |cons x r ih =>
     intro h;simp only[all_cons,Bool.and_eq_true]at h;obtain⟨l1,h1,h2⟩:=Q4K (ob:=ob) (ρ:=[]) h.1;obtain⟨l2,h3,h4⟩:=ih h.2;exact⟨l1++l2,by simp only[Qch,h1,h3,both],Q3T.2 ⟨h2,h4⟩⟩
   exact key xs hp
  |val a=>exact Q4K (ob:=ob) (ρ:=[]) (x:=.val a) hp
  |slc a b=>exact Q4K (ob:=ob) (ρ:=[]) (x:=.slc a b) hp
  |agg a=>exact Q4K (ob:=ob) (ρ:=[]) (x:=.agg a) hp
  |ref a=>exact Q4K (ob:=ob) (ρ:=[]) (x:=.ref a) hp
  |opt a=>exact Q4K (ob:=ob) (ρ:=[]) (x:=.opt a) hp
  |_=>cases hp
 obtain⟨l,h1,h2⟩:=hr;exact⟨[],r,l,rfl,rfl,le_refl _,by simp only[h1,Q9j,both,List.append_nil],h2,hl⟩
theorem Qcg{P:Program}{ty:Tys}(keep:Bool)(hT:TyOk P ty)(hm:P.follows .mixedOrders=true){cs:Nat->List AV->List Ob->Option (AV×List Ob)}{ord:Nat->OT}
  {f:Nat} {fn:Func} {c:Code} {args:List AV} {ob:List Ob} {res:AV} {ob':List Ob} (hf:P.funcs[f]?=some fn) (hb:fn.body=some c) (he:∀vs w,(callFunc f vs).run P w=.ok (.enter f vs) w)
  (hn:args.length<=fn.ntmps) (hd:Q4p fn.ntmps c=true) (ho:Q40 .any ty ord c=true)
  (h:∀w0 g0,(Q4 std ty cs ord c (Q53 std ty keep fn.results.toList) ⟨ent 0 args,ob⟩).ok P w0 g0 ob fn.ntmps (FinOk ob res ob')):BCall P f args ob res ob':=by
 refine⟨he,fun w g vs M hL=>calls_of_wp hf hb ?_⟩
 have jB:vs.length=args.length:=hL.1;refine Q5j (w0:=w) (g0:=g) (o0:=ob) (N:=fn.ntmps) (Q:=FinOk ob res ob') hT hm c _ _ ⟨ent 0 args,ob⟩ _ w hd ho (fun c a d v w h=>h) (fun e s a w' hs hq=>?_) ⟨rfl,?_,g,M,fun t=>?_,Step.refl⟩ (h w g)
 ·have fin:∀{T:Tree},T=(match Q86 std ty keep fn.results.toList s with|some (r,ob)=>.leaf .ret ⟨[(0,r)],ob⟩|none=>.stuck 71)->T.ok P w g ob fn.ntmps (FinOk ob res ob') ->
    a.defers=[]/\∃v,(results fn a.tmps).run P w'=.ok v w'/\∃v' g',Ending.returned v=.returned v'/\Mem w' g' ob'/\ARel w' g' ob' v' res/\Step w g ob w' g' ob':=fun hT' hq=>by
   cases hr:Q86 std ty keep fn.results.toList s with
   |none=>rw[hr]at hT';subst hT';exact(show False from hq).elim
   |some q =>
    obtain⟨r,ob1⟩:=q;rw[hr]at hT';subst hT';obtain⟨ρ,r',l,h1,h2,h3,h4,h5,h6⟩:=(show FinOk ob res ob' .ret ⟨[(0,r)],ob1⟩ from hq);obtain⟨⟨l1,e1,a1⟩,l2,e2,a2⟩:=Q37 h4 h5;have hF:Fits ob1 ob' ρ:=Q4M _ _ _ e2 a2;obtain⟨v,g',k1,k2,k3,k4⟩:=Qd9 hT hs hr;exact⟨hs.defers,v,k1,v,g'.ren ρ,rfl,k2.ren hF h1,Q9I (QaI hF h1 k3 e1 a1) h6,QeL hF h1 h2 h3 k4⟩
  cases e with
  |normal=>exact fin rfl hq
  |ret=>exact fin rfl hq
  |exit i=>exact(show False from hq).elim
 ·simp;omega
 ·show ARel w g ob _ (lk t (ent 0 args))
  rw[QfN];simp only[Nat.zero_le,if_true,Nat.sub_zero];by_cases ht:t<args.length
  ·rw[getD_eq_getElem?_getD,getElem?_eq_getElem ht,Option.getD_some]
   have e:(vs.toArray++Array.replicate (fn.ntmps-vs.toArray.size) undef).getD t undef=vs[t]'(by omega):=by
    rw[Array.getD_eq_getD_getElem?,Array.getElem?_append_left (by simp;omega)]
    simp[show t<vs.length by omega]
   rw[e];exact(hL.2 t _ _ (getElem?_eq_getElem (by omega)) (getElem?_eq_getElem ht)).to
  ·rw[getD_eq_getElem?_getD,List.getElem?_eq_none (by omega)]
   trivial
theorem QlH{P:Program}{ty:Tys}(hT:TyOk P ty)(hm:P.follows .mixedOrders=true){cs:Nat->List AV->List Ob->Option (AV×List Ob)}{ord:Nat->OT}
  {f:Nat} {fn:Func} {c:Code} {args:List AV} {ob:List Ob} {res:AV} {ob':List Ob} (hf:P.funcs[f]?=some fn) (hb:fn.body=some c) (he:∀vs w,(callFunc f vs).run P w=.ok (.enter f vs) w)
  (hn:args.length<=fn.ntmps) (hd:Q4p fn.ntmps c=true) (ho:Q40 .any ty ord c=true)
  (h:∀w0 g0,(Q4 std ty cs ord c (Q53 std ty false fn.results.toList) ⟨ent 0 args,ob⟩).ok P w0 g0 ob fn.ntmps (FinOk ob res ob')):BCall P f args ob res ob' :=
 Qcg false hT hm hf hb he hn hd ho h
def tiB(P:Program)(x:TI):Bool:=x.zero.length == x.size&&(x.agg||x.size == 1)&&decide (x.bytes<=140000)&&x.flds.all (fun f=>(P.info? f.2).isSome)&&x.zero.all (·.oneCell')&&x.ok
theorem TiOk.of{P:Program}{t:Nat}{x:TI}(h1:(P.info? t).map (fun i=>(i.size,i.bytes,i.zero.map (·.cells.toList)))=some (x.size,x.bytes,some x.zero))
  (h2:(P.underlying t).map Q2B=some (x.agg,x.elem,x.flds,x.kind,x.sl,x.kd)) (hb:tiB P x=true):TiOk P t x:=by
 simp only[tiB,Bool.and_eq_true,Bool.or_eq_true,beq_iff_eq,decide_eq_true_eq]at hb;obtain⟨⟨⟨⟨⟨b1,b2⟩,b4⟩,b5⟩,b6⟩,b7⟩:=hb;exact⟨h1,h2,b1,fun h=>b2.resolve_left (by rw[h];simp),b4,b5,b6,b7⟩
theorem TyOk.nil{P:Program}:QeQ P []:=fun _ _ h=>by cases h
theorem TyOk.cons{P:Program}{t:Nat}{x:TI}{r:List (Nat×TI)}(h:TiOk P t x)(hr:QeQ P r):QeQ P ((t,x)::r):=fun u y hu=>by
 rcases List.mem_cons.1 hu with h1|h1
 ·cases h1;exact h
 ·exact hr u y h1
