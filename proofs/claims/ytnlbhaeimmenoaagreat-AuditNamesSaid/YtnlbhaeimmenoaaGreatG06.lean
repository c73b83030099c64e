/- Lemmas, conditions told -/
import Derived.Test.YtnlbhaeimmenoaaGreatG05
import Derived.Great.BuildSlice
set_option maxRecDepth 99999
set_option maxHeartbeats 0
set_option linter.unusedSimpArgs false
set_option linter.unusedVariables false
namespace Go.Proofs.YtnlbhaeimmenoaaGreat
open List(getElem?_set_ne getElem?_set_self length_set eq_nil_of_length_eq_zero getElem?_eq_getElem length_take getElem?_drop mem_of_getElem? all_eq_true length_append flatMap_cons append_assoc getElem?_map mem_map)
open Nat(le_refl zero_add le_trans add_mul)
open Go.RowKit Go.Lib
section
variable {w:World}{g:Gh}{ob:List Ob}
structure GhLe (g g':Gh) (ob ob':List Ob):Prop where
 A:∀b o,g'.A b o->g.A b o\/∃id,g.G b=some id
 G:∀b id,g'.G b=some id->g.G b=some id
 loc:g'.loc=g.loc
 len:ob'.length=ob.length
theorem GhLe.refl:GhLe g g ob ob:=⟨fun _ _ h=>.inl h,fun _ _ h=>h,rfl,rfl⟩
theorem GhLe.trans{g1 g2 g3:Gh}{o1 o2 o3:List Ob}(h:GhLe g1 g2 o1 o2)(k:GhLe g2 g3 o2 o3):GhLe g1 g3 o1 o3 :=
 ⟨fun b o h3=>by
  rcases k.A b o h3 with h2|⟨id,h2⟩
  ·exact h.A b o h2
  ·exact .inr ⟨id,h.G b id h2⟩,fun b id h3=>h.G b id (k.G b id h3),k.loc.trans h.loc,k.len.trans h.len⟩
theorem Ext.trans{w1 w2 w3:World}{g1 g2 g3:Gh}{o1 o2 o3:List Ob}(h:Ext w1 g1 o1 w2 g2 o2)(k:Ext w2 g2 o2 w3 g3 o3)(hl:o1.length<=o2.length):Ext w1 g1 o1 w3 g3 o3:=by
 refine⟨fun b o hA=>⟨(k.A b o (h.A b o hA).1).1,(k.A b o (h.A b o hA).1).2.trans (h.A b o hA).2⟩,fun id hid=>(k.loc id (by omega)).trans (h.loc id hid),fun id hi=>k.isb id (h.isb id hi),fun id hi=>k.isi id (h.isi id hi),fun id et sz fz e xs hr=>?_,fun b id hG hs=>?_⟩
 rotate_left
 ·obtain⟨et,sz,fz,fz',e,xs,xs',hr,yF⟩:=hs
  obtain⟨fz2,e2,xs2,h1,h2,h3⟩:=h.row id et sz fz e xs hr;obtain⟨fz3,e3,xs3,h4,h5,h6⟩:=k.row id et sz fz2 e2 xs2 h1;rw[h4]at yF;obtain⟨rfl,rfl,rfl⟩:fz3=fz'/\e3=e/\xs3=xs':=by simpa using yF
  obtain rfl:e2=e3:=by omega
  obtain⟨h7,h8⟩:=h.sub b id hG ⟨_,_,_,_,_,_,_,hr,h1⟩;obtain⟨h9,q9⟩:=k.sub b id ((h3 rfl).G hG) ⟨_,_,_,_,_,_,_,h1,h4⟩;exact⟨h9.trans h7,fun qu o hA=>h8 qu o (q9 (h7.trans qu) o hA)⟩
 obtain⟨fz2,e2,xs2,h1,h2,h3⟩:=h.row id et sz fz e xs hr;obtain⟨fz3,e3,xs3,h4,h5,h6⟩:=k.row id et sz fz2 e2 xs2 h1;refine⟨fz3,e3,xs3,h4,by omega,fun he=>?_⟩
 obtain rfl:e2=e:=by omega
 exact(h3 rfl).trans (h6 (by omega)) k.A fun b hG=>(h.sub b id hG ⟨_,_,_,_,_,_,_,hr,h1⟩).1
def Gh.frz(g:Gh)(b n:Nat):Gh:=⟨fun b' o=>g.A b' o\/(b'=b/\o<n),g.G,g.loc,g.sub⟩
theorem Q5S(M:Mem w g ob){id et sz ep:Nat}{fz:Bool}{xs:List AV}(h:ob[id]?=some (.row et sz fz ep xs)){v:Value}{ys:List AV}(hv:RowV w g id et sz v ys)(hl:ys.length<=xs.length) :
  ∃g',Mem w g' (ob.set id (.row et sz true ep xs))/\Ext w g ob w g' (ob.set id (.row et sz true ep xs))/\PRel w g'.A v (.slc sz ys)/\GhLe g g' ob (ob.set id (.row et sz true ep xs)):=by
 have hid:=Q8 h;-- whatever the cells that are frozen: those of one block of this row
 have key:∀(b n:Nat),g.G b=some id->g.sub b=false->b<w.heap.size->n<=xs.length * sz ->
   Mem w (g.frz b n) (ob.set id (.row et sz true ep xs))/\Ext w g ob w (g.frz b n) (ob.set id (.row et sz true ep xs))/\GhLe g (g.frz b n) ob (ob.set id (.row et sz true ep xs)):=by
  intro b n hG qu hb hn
  have E:Ext w g ob w (g.frz b n) (ob.set id (.row et sz true ep xs)):=by
   refine⟨fun b o h=>⟨.inl h,rfl⟩,fun _ _=>rfl,fun i hi=>?_,fun i hi=>?_,fun i et' sz' fz2 e xs2 hi=>?_,fun b' _ _ _=>⟨rfl,fun h1 _ h2=>h2.resolve_right fun h3=>by rw[h3.1,qu]at h1;cases h1⟩⟩
   ·have:i≠id:=by rintro rfl;rw[h]at hi;exact hi
    rw[getElem?_set_ne (Ne.symm this)];exact hi
   ·have:i≠id:=by rintro rfl;rw[h]at hi;exact hi
    rw[getElem?_set_ne (Ne.symm this)];exact hi
   ·by_cases e':i=id
    ·subst e'
     rw[h]at hi;obtain⟨rfl,rfl,rfl,rfl,rfl⟩:et=et'/\sz=sz'/\fz=fz2/\ep=e/\xs=xs2:=by simpa using hi
     exact⟨true,ep,xs,getElem?_set_self hid,le_refl _,fun _=>.inl ⟨rfl,fun b hG=>⟨hG,rfl⟩⟩⟩
    ·exact⟨fz2,e,xs2,by rw[getElem?_set_ne (Ne.symm e')];exact hi,le_refl _,fun _=>.inl ⟨rfl,fun b hG=>⟨hG,rfl⟩⟩⟩
  refine⟨⟨fun i cs hi=>?_,fun i cs hi j u hj=>?_,fun i y hi=>?_,fun b i hG=>⟨(M.own b i hG).1,by rw[length_set];exact(M.own b i hG).2⟩,fun b' o hA=>?_,fun i et' sz' fz2 e xs2 hi=>?_,fun b' hs=>?_,M.uniq⟩,E,
   ⟨fun b' o hA=>hA.imp_right fun⟨h1,_⟩=>⟨id,h1 ▸ hG⟩,fun _ _ h=>h,rfl,by simp⟩⟩
  ·have e':i≠id:=by rintro rfl;rw[getElem?_set_self hid]at hi;cases hi
   rw[getElem?_set_ne (Ne.symm e')]at hi;obtain⟨h1,cur,T,h2,h3⟩:=M.box i cs hi;exact⟨h1,cur,T,h2,h3.ext E⟩
  ·have e':i≠id:=by rintro rfl;rw[getElem?_set_self hid]at hi;cases hi
   rw[getElem?_set_ne (Ne.symm e')]at hi;obtain⟨h1,y,h2,h3⟩:=M.fbox i cs hi j u hj;exact⟨.inl h1,y,h2,h3.keep E.A⟩
  ·have e':i≠id:=by rintro rfl;rw[getElem?_set_self hid]at hi;cases hi
   rw[getElem?_set_ne (Ne.symm e')]at hi;exact⟨(M.iter i y hi).1,(M.iter i y hi).2.at (fun b o h=>⟨.inl h,rfl⟩) E.loc (by simp) rfl⟩
  ·rcases hA with hA|⟨rfl,ho⟩
   ·obtain⟨h1,h2⟩:=M.imm b' o hA
    refine⟨h1,fun i yL hs=>?_⟩
    obtain⟨et',sz',e,xs2,h3,h4⟩:=h2 i yL hs;by_cases e':i=id
    ·subst e'
     rw[h]at h3;obtain⟨rfl,rfl,rfl,rfl,rfl⟩:et=et'/\sz=sz'/\fz=true/\ep=e/\xs=xs2:=by simpa using h3
     exact⟨et,sz,ep,xs,getElem?_set_self hid,h4⟩
    ·exact⟨et',sz',e,xs2,by rw[getElem?_set_ne (Ne.symm e')];exact h3,h4⟩
   ·refine⟨hb,fun i yL _=>?_⟩
    have yL:g.G b'=some i:=yL;rw[hG]at yL;obtain rfl:id=i:=by simpa using yL
    exact⟨et,sz,ep,xs,getElem?_set_self hid,by omega⟩
  ·by_cases e':i=id
   ·subst e'
    rw[getElem?_set_self hid]at hi;obtain⟨rfl,rfl,rfl,rfl,rfl⟩:et=et'/\sz=sz'/\true=fz2/\ep=e/\xs=xs2:=by simpa using hi
    exact M.roww _ _ _ _ _ _ h
   ·rw[getElem?_set_ne (Ne.symm e')]at hi;exact M.roww i et' sz' fz2 e xs2 hi
  ·obtain⟨i,et',sz',fz2,e,xs2,h3,h4⟩:=M.nsub b' hs
   by_cases e':i=id
   ·subst e'
    exact⟨i,_,_,_,_,_,h3,getElem?_set_self hid⟩
   ·exact⟨i,et',sz',fz2,e,xs2,h3,by rw[getElem?_set_ne (Ne.symm e')];exact h4⟩
 obtain⟨zs,ho,hG,j7,hw,vL⟩:=hv;rcases ho.2 with ⟨rfl,h0⟩|⟨b,cap,cur,rfl,h3,h4,h5,h6,h7,h8⟩
 ·have zj:ys=[]:=eq_nil_of_length_eq_zero h0
  subst zj;-- nothing is frozen: some block,no cell
  have E:Mem w g (ob.set id (.row et sz true ep xs))/\Ext w g ob w g (ob.set id (.row et sz true ep xs))/\GhLe g g ob (ob.set id (.row et sz true ep xs)):=by
   have E:Ext w g ob w g (ob.set id (.row et sz true ep xs)):=by
    refine⟨fun b o h=>⟨h,rfl⟩,fun _ _=>rfl,fun i hi=>?_,fun i hi=>?_,fun i et' sz' fz2 e xs2 hi=>?_,fun _ _ _ _=>⟨rfl,fun _ _ h=>h⟩⟩
    ·have:i≠id:=by rintro rfl;rw[h]at hi;exact hi
     rw[getElem?_set_ne (Ne.symm this)];exact hi
    ·have:i≠id:=by rintro rfl;rw[h]at hi;exact hi
     rw[getElem?_set_ne (Ne.symm this)];exact hi
    ·by_cases e':i=id
     ·subst e'
      rw[h]at hi;obtain⟨rfl,rfl,rfl,rfl,rfl⟩:et=et'/\sz=sz'/\fz=fz2/\ep=e/\xs=xs2:=by simpa using hi
      exact⟨true,ep,xs,getElem?_set_self hid,le_refl _,fun _=>.inl ⟨rfl,fun b hG=>⟨hG,rfl⟩⟩⟩
     ·exact⟨fz2,e,xs2,by rw[getElem?_set_ne (Ne.symm e')];exact hi,le_refl _,fun _=>.inl ⟨rfl,fun b hG=>⟨hG,rfl⟩⟩⟩
   refine⟨⟨fun i cs hi=>?_,fun i cs hi j u hj=>?_,fun i y hi=>?_,fun b i hG=>⟨(M.own b i hG).1,by rw[length_set];exact(M.own b i hG).2⟩,fun b' o hA=>?_,fun i et' sz' fz2 e xs2 hi=>?_,fun b' hs=>?_,M.uniq⟩,E,⟨fun _ _ h=>.inl h,fun _ _ h=>h,rfl,by simp⟩⟩
   ·have e':i≠id:=by rintro rfl;rw[getElem?_set_self hid]at hi;cases hi
    rw[getElem?_set_ne (Ne.symm e')]at hi;obtain⟨h1,cur,T,h2,h3⟩:=M.box i cs hi;exact⟨h1,cur,T,h2,h3.ext E⟩
   ·have e':i≠id:=by rintro rfl;rw[getElem?_set_self hid]at hi;cases hi
    rw[getElem?_set_ne (Ne.symm e')]at hi;exact M.fbox i cs hi j u hj
   ·have e':i≠id:=by rintro rfl;rw[getElem?_set_self hid]at hi;cases hi
    rw[getElem?_set_ne (Ne.symm e')]at hi;exact⟨(M.iter i y hi).1,(M.iter i y hi).2.len (by simp)⟩
   ·obtain⟨h1,h2⟩:=M.imm b' o hA
    refine⟨h1,fun i yL hs=>?_⟩
    obtain⟨et',sz',e,xs2,h3,h4⟩:=h2 i yL hs;by_cases e':i=id
    ·subst e'
     rw[h]at h3;obtain⟨rfl,rfl,rfl,rfl,rfl⟩:et=et'/\sz=sz'/\fz=true/\ep=e/\xs=xs2:=by simpa using h3
     exact⟨et,sz,ep,xs,getElem?_set_self hid,h4⟩
    ·exact⟨et',sz',e,xs2,by rw[getElem?_set_ne (Ne.symm e')];exact h3,h4⟩
   ·by_cases e':i=id
    ·subst e'
     rw[getElem?_set_self hid]at hi;obtain⟨rfl,rfl,rfl,rfl,rfl⟩:et=et'/\sz=sz'/\true=fz2/\ep=e/\xs=xs2:=by simpa using hi
     exact M.roww _ _ _ _ _ _ h
    ·rw[getElem?_set_ne (Ne.symm e')]at hi;exact M.roww i et' sz' fz2 e xs2 hi
   ·obtain⟨i,et',sz',fz2,e,xs2,h3,h4⟩:=M.nsub b' hs
    by_cases e':i=id
    ·subst e'
     exact⟨i,_,_,_,_,_,h3,getElem?_set_self hid⟩
    ·exact⟨i,et',sz',fz2,e,xs2,h3,by rw[getElem?_set_ne (Ne.symm e')];exact h4⟩
  exact⟨g,E.1,E.2.1,PRel.nil _,E.2.2⟩
 ·have hb:b<w.heap.size:=(Array.getElem?_eq_some_iff.1 h4).1
  have qJ:=hG b rfl;obtain⟨M',E',L'⟩:=key b (ys.length * sz) qJ (vL.1 b rfl) hb (Nat.mul_le_mul_right _ hl);refine⟨_,M',E',?_,L'⟩;have kt:=j7.keep E'.A;have vK:=Q2F ys hw;have kN:zs.length=ys.length * sz:=by rw[j7.1,vK]
  refine PRel.slc b 0 cap sz ys (fun j=>zs.getD j undef) h5 h6 hw (fun j u hu=>?_) (fun j u hu=>?_)
  ·have hj:=Q8 hu
   rw[vK]at hj;refine⟨.inr ⟨rfl,by omega⟩,?_⟩
   have:=ho.cells (g:=b) rfl j zs[j] (getElem?_eq_getElem (by omega))
   rw[Addr.add_mid,zero_add]at this;rw[zero_add,this,List.getD_eq_getElem?_getD,getElem?_eq_getElem (by omega)];rfl
  ·have hj:=Q8 hu
   rw[vK]at hj;have h9:zs[j]?=some (zs.getD j undef):=by rw[List.getD_eq_getElem?_getD,getElem?_eq_getElem (by omega)];rfl
   exact kt.2 j _ u h9 hu
end
section
variable {w:World}{g:Gh}{ob:List Ob}
def Gh.frzBox(g:Gh)(b n:Nat):Gh:=⟨fun b' o=>g.A b' o\/(b'=b/\o<n),fun b'=>if b'=b then none else g.G b',g.loc,g.sub⟩
theorem QfH(M:Mem w g ob){id:Nat}{cs us:List AV}(h:ob[id]?=some (.box cs))(hu:∀(j:Nat) u,us[j]?=some u->∃y,w.cell? ⟨g.loc id,j,none⟩=some y/\PRel w g.A y u) :
  ∃g',Mem w g' (ob.set id (.fbox us))/\Ext w g ob w g' (ob.set id (.fbox us))/\GhLe g g' ob (ob.set id (.fbox us)) /\
   ∀(j:Nat) u,us[j]?=some u->g'.A (g.loc id) j/\∃y,w.cell? ⟨g.loc id,j,none⟩=some y/\PRel w g'.A y u:=by
 have hid:=Q8 h;obtain⟨hG,cur,T,hh,hc⟩:=M.box id cs h;have hb:=(M.own _ _ hG).1
 have ne:∀{b i:Nat},g.G b=some i->i≠id->b≠g.loc id:=by
  rintro b i h1 h2 rfl;rw[hG]at h1;exact h2 (by simpa using h1.symm)
 have G':∀{b i:Nat},g.G b=some i->i≠id->(g.frzBox (g.loc id) us.length).G b=some i:=fun h1 h2=>by simp only[Gh.frzBox];rw[if_neg (ne h1 h2)];exact h1
 have Gof:∀{b i:Nat},(g.frzBox (g.loc id) us.length).G b=some i->g.G b=some i:=fun {b i} h1=>by
  have h1:(if b=g.loc id then none else g.G b)=some i:=h1;split at h1
  ·cases h1
  ·exact h1
 have E:Ext w g ob w (g.frzBox (g.loc id) us.length) (ob.set id (.fbox us)):=by
  refine⟨fun b o h=>⟨.inl h,rfl⟩,fun _ _=>rfl,fun i hi=>?_,fun i hi=>?_,fun i et sz fz e xs hi=>?_,fun b i qJ hs=>⟨rfl,fun _ o h1=>h1.resolve_right fun h2=>?_⟩⟩
  rotate_right
  ·obtain⟨et,sz,fz,fz',e,xs,xs',h3,_⟩:=hs
   rw[h2.1,hG]at qJ;obtain rfl:id=i:=by simpa using qJ
   rw[h]at h3;cases h3
  ·by_cases e:i=id
   ·subst e;rw[getElem?_set_self hid];trivial
   ·rw[getElem?_set_ne (Ne.symm e)];exact hi
  ·have:i≠id:=by rintro rfl;rw[h]at hi;exact hi
   rw[getElem?_set_ne (Ne.symm this)];exact hi
  ·have:i≠id:=by rintro rfl;rw[h]at hi;cases hi
   exact⟨fz,e,xs,by rw[getElem?_set_ne (Ne.symm this)];exact hi,le_refl _,fun _=>.inl ⟨rfl,fun b qJ=>⟨G' qJ this,rfl⟩⟩⟩
 have new:∀(j:Nat) u,us[j]?=some u->(g.frzBox (g.loc id) us.length).A (g.loc id) j/\∃y,w.cell? ⟨g.loc id,j,none⟩=some y/\PRel w (g.frzBox (g.loc id) us.length).A y u:=fun j u hj=>by
  obtain⟨y,h1,h2⟩:=hu j u hj;exact⟨.inr ⟨rfl,Q8 hj⟩,y,h1,h2.keep E.A⟩
 refine⟨_,⟨fun i c hi=>?_,fun i c hi j u hj=>?_,fun i y hi=>?_,fun b i qJ=>?_,fun b o hA=>?_,fun i et sz fz e xs hi=>?_,fun b hs=>?_,fun b b' i h1 h2 hs jd=>?_⟩,E,⟨fun b o hA=>?_,fun b i qJ=>?_,rfl,by simp⟩,new⟩
 ·have e':i≠id:=by rintro rfl;rw[getElem?_set_self hid]at hi;cases hi
  rw[getElem?_set_ne (Ne.symm e')]at hi;obtain⟨h1,cur',T',h2,h3⟩:=M.box i c hi;exact⟨G' h1 e',cur',T',h2,h3.ext E⟩
 ·by_cases e':i=id
  ·subst e'
   rw[getElem?_set_self hid]at hi;obtain rfl:us=c:=by simpa using hi
   exact new j u hj
  ·rw[getElem?_set_ne (Ne.symm e')]at hi
   obtain⟨h1,y,h2,h3⟩:=M.fbox i c hi j u hj;exact⟨.inl h1,y,h2,h3.keep E.A⟩
 ·have e':i≠id:=by rintro rfl;rw[getElem?_set_self hid]at hi;cases hi
  rw[getElem?_set_ne (Ne.symm e')]at hi;obtain⟨h1,h2⟩:=M.iter i y hi;exact⟨G' h1 e',h2.at (fun b o h=>⟨.inl h,rfl⟩) E.loc (by simp) rfl⟩
 ·simp only[Gh.frzBox]at qJ
  split at qJ
  ·cases qJ
  ·rw[length_set];exact M.own b i qJ
 ·rcases hA with hA|⟨rfl,ho⟩
  ·obtain⟨h1,h2⟩:=M.imm b o hA
   refine⟨h1,fun i yL hs=>?_⟩
   have jI:=Qcq M h hA;simp only[Gh.frzBox]at yL;rw[if_neg jI]at yL;obtain⟨et,sz,e,xs,h3,h4⟩:=h2 i yL hs;have e':i≠id:=by rintro rfl;rw[h]at h3;cases h3
   exact⟨et,sz,e,xs,by rw[getElem?_set_ne (Ne.symm e')];exact h3,h4⟩
  ·refine⟨hb,fun i yL _=>?_⟩
   simp only[Gh.frzBox,if_true]at yL;cases yL
 ·have e':i≠id:=by rintro rfl;rw[getElem?_set_self hid]at hi;cases hi
  rw[getElem?_set_ne (Ne.symm e')]at hi;exact M.roww i et sz fz e xs hi
 ·obtain⟨i,et,sz,fz,e,xs,h3,h4⟩:=M.nsub b hs
  have e':i≠id:=by rintro rfl;rw[h]at h4;cases h4
  exact⟨i,et,sz,fz,e,xs,G' h3 e',by rw[getElem?_set_ne (Ne.symm e')];exact h4⟩
 ·exact M.uniq b b' i (Gof h1) (Gof h2) hs jd
 ·rcases hA with hA|⟨rfl,_⟩
  ·exact .inl hA
  ·exact .inr ⟨id,hG⟩
 ·simp only[Gh.frzBox]at qJ
  split at qJ
  ·cases qJ
  ·exact qJ
def QoZ(keep:Bool)(n:Nat):Prop:=∀(w:World)(g:Gh)(ob:List Ob)(v:Value)(x y:AV)(ob':List Ob),Mem w g ob->ARel0 w g ob v x->v.oneCell'=true->frz std keep n ob x=some (y,ob') ->
 ∃g',Mem w g' ob'/\Ext w g ob w g' ob'/\ARel0 w g' ob' v y/\GhLe g g' ob ob'/\(keep=false->PRel w g'.A v y)
theorem Q7k{keep:Bool}{n:Nat}(hn:QoZ keep n):∀(cs:List AV)(vs:List Value)(w:World)(g:Gh)(ob:List Ob)(us:List AV)(ob':List Ob),Mem w g ob->ARelC w g ob vs cs->Q4o (frz std keep n) ob cs=some (us,ob') ->
  ∃g',Mem w g' ob'/\Ext w g ob w g' ob'/\ARelC w g' ob' vs us/\GhLe g g' ob ob'/\(keep=false->∀(j:Nat) y u,vs[j]?=some y->us[j]?=some u->PRel w g'.A y u)
 | [],vs,w,g,ob,us,ob',M,h,he=>by
  obtain⟨rfl,rfl⟩:[]=us/\ob=ob':=by simpa[Q4o]using he
  have cX:vs=[]:=eq_nil_of_length_eq_zero h.1;subst cX;exact⟨g,M,Ext.refl,h,GhLe.refl,fun _ j y u h=>by simp at h⟩
 |x::xs,vs,w,g,ob,us,ob',M,h,he=>by
  cases vs with
  |nil=>exact absurd h.1 (by simp)
  |cons v vs =>
   simp only[Q4o]at he;split at he
   ·rename_i y ob1 h1
    split at he
    ·rename_i ys ob2 h2
     obtain⟨rfl,rfl⟩:y::ys=us/\ob2=ob':=by simpa using he
     have hv:=h.2 0 v x rfl rfl;obtain⟨g1,M1,E1,R1,L1,P1⟩:=hn w g ob v x y ob1 M hv.1 hv.2 h1;have hr:ARelC w g1 ob1 vs xs:=⟨by simpa using h.1,fun j y u hy hu=>⟨(h.2 (j+1) y u (by simpa using hy) (by simpa using hu)).1.ext E1,(h.2 (j+1) y u (by simpa using hy) (by simpa using hu)).2⟩⟩
     obtain⟨g2,M2,E2,R2,L2,P2⟩:=Q7k hn xs vs w g1 ob1 ys ob2 M1 hr h2;refine⟨g2,M2,E1.trans E2 (by rw[L1.len];exact le_refl _),⟨by simp[R2.1],fun j y' u hy hu=>?_⟩,L1.trans L2,fun hk j y' u hy hu=>?_⟩
     ·cases j with
      |zero =>
       obtain rfl:v=y':=by simpa using hy
       obtain rfl:y=u:=by simpa using hu
       exact⟨R1.ext E2,hv.2⟩
      |succ j=>exact R2.2 j y' u (by simpa using hy) (by simpa using hu)
     ·cases j with
      |zero =>
       obtain rfl:v=y':=by simpa using hy
       obtain rfl:y=u:=by simpa using hu
       exact(P1 hk).keep E2.A
      |succ j=>exact P2 hk j y' u (by simpa using hy) (by simpa using hu)
    ·cases he
   ·cases he
theorem Qga(keep:Bool):∀n,QoZ keep n
 |0=>fun w g ob v x y ob' M h ho he=>by simp[frz]at he
 |n+1=>fun w g ob v x y ob' M h ho he=>by
  have ih:=Qga keep n;cases x with
  |val a =>
   obtain⟨rfl,rfl⟩:AV.val a=y/\ob=ob':=by simpa[frz]using he
   exact⟨g,M,Ext.refl,h,GhLe.refl,fun _=>h⟩
  |kb t =>
   obtain⟨rfl,rfl⟩:AV.val (.bool t)=y/\ob=ob':=by simpa[frz]using he
   obtain rfl:v=.bool t:=h;exact⟨g,M,Ext.refl,PRel.val _ rfl,GhLe.refl,fun _=>PRel.val _ rfl⟩
  |slc a b =>
   obtain⟨rfl,rfl⟩:AV.slc a b=y/\ob=ob':=by simpa[frz]using he
   exact⟨g,M,Ext.refl,h,GhLe.refl,fun _=>h⟩
  |opt a =>
   obtain⟨rfl,rfl⟩:AV.opt a=y/\ob=ob':=by simpa[frz]using he
   exact⟨g,M,Ext.refl,h,GhLe.refl,fun _=>h⟩
  |ref a =>
   obtain⟨rfl,rfl⟩:AV.ref a=y/\ob=ob':=by simpa[frz]using he
   exact⟨g,M,Ext.refl,h,GhLe.refl,fun _=>h⟩
  |agg cs=>exact h.elim
  |tup cs=>exact h.elim
  |dead=>simp[frz]at he
  |rptr a b c d=>simp[frz]at he
  |iter a =>
   simp only[frz]at he;split at he
   ·rename_i hk;cases he;exact⟨g,M,Ext.refl,h,GhLe.refl,fun hf=>by rw[hf]at hk;cases hk⟩
   ·cases he
  |row id ep =>
   obtain⟨_,et,sz,fz,e,xs,h1,h2,h3⟩:=h;simp only[frz,h1]at he;split at he
   ·rename_i hep
    obtain⟨rfl,rfl⟩:AV.slc sz xs=y/\ob.set id (.row et sz true e xs)=ob':=by simpa using he
    obtain⟨g',M',E',R',L'⟩:=Q5S M h1 (h3 hep) (le_refl _);exact⟨g',M',E',R'.to0,L',fun _=>R'⟩
   ·cases he
  |rowk id ep k =>
   obtain⟨_,et,sz,fz,e,xs,h1,h2,h3⟩:=h;simp only[frz,h1]at he;split at he
   ·rename_i hep
    have jU:std.cut xs 0 k=xs.take k.toNat:=by simp[std]
    rw[jU]at he;obtain⟨rfl,rfl⟩:AV.slc sz (xs.take k.toNat)=y/\ob.set id (.row et sz true e xs)=ob':=by simpa using he
    obtain⟨g',M',E',R',L'⟩:=Q5S M h1 (h3 hep).2.2 (by rw[length_take];omega)
    exact⟨g',M',E',R'.to0,L',fun _=>R'⟩
   ·cases he
  |box id off =>
   simp only[frz]at he;cases keep with
   |true =>
    obtain⟨rfl,rfl⟩:AV.box id off=y/\ob=ob':=by simpa using he
    exact⟨g,M,Ext.refl,h,GhLe.refl,fun hk=>by cases hk⟩
   |false =>
    simp only[Bool.false_eq_true,if_false]at he;obtain⟨rfl,_⟩:=h;split at he
    ·rename_i cs hb
     obtain⟨hG,cur,T,hh,hc⟩:=M.box id cs hb;split at he
     ·rename_i us ob1 zU
      obtain⟨g1,M1,E1,R1,L1,P1⟩:=Q7k ih cs cur.toList w g ob us ob1 M hc zU;split at he
      ·rename_i c1 jg
       obtain⟨rfl,rfl⟩:AV.ref (us.drop off)=y/\ob1.set id (.fbox us)=ob':=by simpa using he
       have hul:us.length=cs.length:=by rw[<-R1.1,hc.1]
       have hcell:∀(j:Nat) u,us[j]?=some u->∃y,w.cell? ⟨g1.loc id,j,none⟩=some y/\PRel w g1.A y u:=fun j u hj=>by
        have vl:j<cur.size:=by have:=Q8 hj;rw[<-R1.1]at this;simpa using this
        refine⟨cur[j],by rw[L1.loc];simp[World.cell?,hh,vl],P1 rfl j _ u (by simp[vl]) hj⟩
       obtain⟨g2,M2,E2,L2,N2⟩:=QfH M1 jg hcell
       have R:PRel w g2.A (.pointer (some ⟨g.loc id,off,none⟩)) (.ref (us.drop off)):=by
        have e1:g1.loc id=g.loc id:=by rw[L1.loc]
        refine PRel.ref _ _ _ (fun j=>cur.getD (off+j) undef) (fun j u hj=>?_) (fun j u hj=>?_)
        ·rw[getElem?_drop]at hj
         obtain⟨h4,y,h5,h6⟩:=N2 _ u hj;rw[e1]at h4 h5;have vl:off+j<cur.size:=by have:=Q8 hj;rw[<-R1.1]at this;simpa using this
         refine⟨h4,?_⟩;simp[World.cell?,hh,vl]
        ·rw[getElem?_drop]at hj
         obtain⟨h4,y,h5,h6⟩:=N2 _ u hj;rw[e1]at h5;have vl:off+j<cur.size:=by have:=Q8 hj;rw[<-R1.1]at this;simpa using this
         have h7:cur.getD (off+j) undef=y:=by
          simp only[World.cell?,hh,Option.isSome_none,Bool.false_eq_true,if_false,Array.getElem?_eq_getElem vl,Option.some.injEq]at h5;rw[Array.getD_eq_getD_getElem?,Array.getElem?_eq_getElem vl];exact h5
         rw[h7];exact h6
       exact⟨g2,M2,E1.trans E2 (by rw[L1.len];exact le_refl _),R.to0,L1.trans L2,fun _=>R⟩
      ·cases he
     ·cases he
    ·rename_i cs hb
     obtain⟨rfl,rfl⟩:AV.ref (cs.drop off)=y/\ob=ob':=by simpa using he
     have R:PRel w g.A (.pointer (some ⟨g.loc id,off,none⟩)) (.ref (cs.drop off)):=by
      obtain⟨l,h1,h2⟩:=Q9C (q:=fun j y=>∀u,(cs.drop off)[j]?=some u->g.A (g.loc id) (off+j)/\w.cell? ⟨g.loc id,off+j,none⟩=some y/\PRel w g.A y u) (cs.drop off).length (fun j hj=>by
       have zE:=getElem?_eq_getElem hj;have hj3:=zE;rw[getElem?_drop]at hj3;obtain⟨h4,y,h5,h6⟩:=M.fbox id cs hb _ _ hj3;exact⟨y,fun u hu=>by rw[zE]at hu;cases hu;exact⟨h4,h5,h6⟩⟩)
      have vv:∀(j:Nat) u,(cs.drop off)[j]?=some u->l[j]?=some (l.getD j undef):=fun j u hu=>by
       have:=Q8 hu
       rw[List.getD_eq_getElem?_getD,getElem?_eq_getElem (by omega)];rfl
      exact PRel.ref _ _ _ (fun j=>l.getD j undef) (fun j u hu=>⟨(h2 j _ (vv j u hu) u hu).1,(h2 j _ (vv j u hu) u hu).2.1⟩) (fun j u hu=>(h2 j _ (vv j u hu) u hu).2.2)
     exact⟨g,M,Ext.refl,R.to0,GhLe.refl,fun _=>R⟩
    ·cases he
end
section
variable {w w':World}{g g':Gh}{ob ob':List Ob}
theorem Qqr{keep:Bool}{n:Nat}{v:Value}{x y:AV}(M:Mem w g ob)(h:ARel1 w g ob v x)(hl:x.live=true)(he:frz std keep n ob x=some (y,ob')) :
  ∃g',Mem w g' ob'/\Ext w g ob w g' ob'/\ARel1 w g' ob' v y/\GhLe g g' ob ob':=by
 have go:∀{x:AV},ARel0 w g ob v x->x.live=true->frz std keep n ob x=some (y,ob')->∃g',Mem w g' ob'/\Ext w g ob w g' ob'/\ARel1 w g' ob' v y/\GhLe g g' ob ob':=fun h hl he=>by
  obtain⟨g',h1,h2,h3,h4,_⟩:=Qga keep n w g ob v _ y ob' M h (h.one hl) he;exact⟨g',h1,h2,h3.to1,h4⟩
 cases x with
 |agg cs =>
  obtain⟨vs,rfl,hc⟩:=h;cases n with
  |zero=>simp[frz]at he
  |succ n =>
   simp only[frz]at he;obtain⟨⟨us,ob1⟩,h1,h2⟩:=Option.map_eq_some_iff.1 he;obtain⟨rfl,rfl⟩:AV.agg us=y/\ob1=ob':=by simpa using h2
   obtain⟨g',M',E',R',L',_⟩:=Q7k (Qga keep n) cs vs.toList w g ob us ob1 M hc h1;exact⟨g',M',E',⟨vs,rfl,R'⟩,L'⟩
 |val a=>exact go (x:=.val a) h hl he
 |slc a b=>exact go (x:=.slc a b) h hl he
 |ref a=>exact go (x:=.ref a) h hl he
 |opt a=>exact go (x:=.opt a) h hl he
 |tup a=>cases hl
 |box a b=>exact go (x:=.box a b) h hl he
 |row a b=>exact go (x:=.row a b) h hl he
 |rowk a b c=>exact go (x:=.rowk a b c) h hl he
 |rptr a b c d=>exact go (x:=.rptr a b c d) h hl he
 |kb a=>exact go (x:=.kb a) h hl he
 |iter a=>exact go (x:=.iter a) h hl he
 |dead=>cases hl
def Q2R(w:World)(g:Gh)(ob:List Ob)(vs:List Value)(xs:List AV):Prop:=vs.length=xs.length/\∀(j:Nat) v x,vs[j]?=some v->xs[j]?=some x->ARel1 w g ob v x
theorem Q7O{keep:Bool}{n:Nat}{x y:AV}(he:frz std keep n ob x=some (y,ob')):x.live=true:=by
 cases n with
 |zero=>simp[frz]at he
 |succ n=>cases x<;>first|rfl|(simp[frz]at he;done)
theorem ARel.to1{v:Value}{x:AV}(h:ARel w g ob v x)(hl:x.live=true):ARel1 w g ob v x:=by cases x<;>first|exact h|cases hl
theorem Q75{keep:Bool}{n:Nat}:∀(xs:List AV)(ob:List Ob)(ys:List AV)(ob':List Ob),Q4o (frz std keep n) ob xs=some (ys,ob')->∀x∈xs,x.live=true
 | [],_,_,_,_=>fun x h=>by cases h
 |x::xs,ob,ys,ob',he=>by
  simp only[Q4o]at he;split at he
  ·rename_i y ob1 h1
   split at he
   ·rename_i ys' ob2 h2
    intro z hz;cases hz with
    |head=>exact Q7O h1
    |tail _ hz=>exact Q75 xs ob1 ys' ob2 h2 z hz
   ·cases he
  ·cases he
theorem QmN{keep:Bool}{n:Nat}:∀(xs:List AV)(vs:List Value)(g:Gh)(ob:List Ob)(ys:List AV)(ob':List Ob),Mem w g ob->Q2R w g ob vs xs->Q4o (frz std keep n) ob xs=some (ys,ob') ->
  ∃g',Mem w g' ob'/\Ext w g ob w g' ob'/\Q2R w g' ob' vs ys/\GhLe g g' ob ob'
 | [],vs,g,ob,ys,ob',M,h,he=>by
  obtain⟨rfl,rfl⟩:[]=ys/\ob=ob':=by simpa[Q4o]using he
  exact⟨g,M,Ext.refl,h,GhLe.refl⟩
 |x::xs,vs,g,ob,ys,ob',M,h,he=>by
  cases vs with
  |nil=>exact absurd h.1 (by simp)
  |cons v vs =>
   simp only[Q4o]at he;split at he
   ·rename_i y ob1 h1
    split at he
    ·rename_i ys' ob2 h2
     obtain⟨rfl,rfl⟩:y::ys'=ys/\ob2=ob':=by simpa using he
     have hv:=h.2 0 v x rfl rfl;have hl:x.live=true:=Q7O h1;obtain⟨g1,M1,E1,R1,L1⟩:=Qqr M hv hl h1;have hr:Q2R w g1 ob1 vs xs:=⟨by simpa using h.1,fun j y u hy hu=>(h.2 (j+1) y u (by simpa using hy) (by simpa using hu)).ext E1⟩
     obtain⟨g2,M2,E2,R2,L2⟩:=QmN xs vs g1 ob1 ys' ob2 M1 hr h2;refine⟨g2,M2,E1.trans E2 (by rw[L1.len];exact le_refl _),⟨by simp[R2.1],fun j y' u hy hu=>?_⟩,L1.trans L2⟩
     cases j with
     |zero =>
      obtain rfl:v=y':=by simpa using hy
      obtain rfl:y=u:=by simpa using hu
      exact R1.ext E2
     |succ j=>exact R2.2 j y' u (by simpa using hy) (by simpa using hu)
    ·cases he
   ·cases he
theorem QkL{keep:Bool}{n:Nat}{v:Value}{x y:AV}(M:Mem w g ob)(h:ARel w g ob v x)(he:frz std keep n ob x=some (y,ob')) :
  ∃g',Mem w g' ob'/\Ext w g ob w g' ob'/\ARel w g' ob' v y/\GhLe g g' ob ob':=by
 obtain⟨g',h1,h2,h3,h4⟩:=Qqr M (h.to1 (Q7O he)) (Q7O he) he;exact⟨g',h1,h2,h3.to,h4⟩
structure Step (w:World) (g:Gh) (ob:List Ob) (w':World) (g':Gh) (ob':List Ob):Prop where
 os:w'.os=w.os
 tape:w'.tape=w.tape
 output:w'.output=w.output
 size:w.heap.size<=w'.heap.size
 keep:∀b,b<w.heap.size->g.G b=none->w'.heap[b]?=w.heap[b]?
 own:∀b id,g'.G b=some id->(∃id',g.G b=some id')\/w.heap.size<=b
 imm:∀b o,g'.A b o->g.A b o\/(∃id,g.G b=some id)\/w.heap.size<=b
 ext:Ext w g ob w' g' ob'
 len:ob.length<=ob'.length
theorem Step.refl:Step w g ob w g ob:=⟨rfl,rfl,rfl,le_refl _,fun _ _ _=>rfl,fun _ _ h=>.inl ⟨_,h⟩,fun _ _ h=>.inl h,Ext.refl,le_refl _⟩
theorem Step.trans{w1 w2 w3:World}{g1 g2 g3:Gh}{o1 o2 o3:List Ob}(h:Step w1 g1 o1 w2 g2 o2)(k:Step w2 g2 o2 w3 g3 o3):Step w1 g1 o1 w3 g3 o3:=by
 have none2:∀b,b<w1.heap.size->g1.G b=none->g2.G b=none:=fun b hb hG=>by
  cases h2:g2.G b with
  |none=>rfl
  |some id =>
   rcases h.own b id h2 with ⟨id',h3⟩|h3
   ·rw[hG]at h3;cases h3
   ·omega
 refine⟨k.os.trans h.os,k.tape.trans h.tape,k.output.trans h.output,le_trans h.size k.size,fun b hb hG=>?_,fun b id hG=>?_,fun b o hA=>?_,h.ext.trans k.ext h.len,le_trans h.len k.len⟩
 ·exact(k.keep b (Nat.lt_of_lt_of_le hb h.size) (none2 b hb hG)).trans (h.keep b hb hG)
 ·rcases k.own b id hG with ⟨id',h2⟩|h2
  ·exact h.own b id' h2
  ·exact .inr (le_trans h.size h2)
 ·rcases k.imm b o hA with h2|⟨id,h2⟩|h2
  ·exact h.imm b o h2
  ·rcases h.own b id h2 with h3|h3
   ·exact .inr (.inl h3)
   ·exact .inr (.inr h3)
  ·exact .inr (.inr (le_trans h.size h2))
theorem Step.ghost(E:Ext w g ob w g' ob')(L:GhLe g g' ob ob'):Step w g ob w g' ob' :=
 ⟨rfl,rfl,rfl,le_refl _,fun _ _ _=>rfl,fun b id h=>.inl ⟨id,L.G b id h⟩,fun b o h=>(L.A b o h).imp_right .inl,E,by rw[L.len];exact le_refl _⟩
def BCall(P:Program)(f:Nat)(args:List AV)(ob:List Ob)(res:AV)(ob':List Ob):Prop :=
 (∀vs w,(callFunc f vs).run P w=.ok (.enter f vs) w) /\
 ∀(w:World)(g:Gh)(vs:List Value),Mem w g ob->Q2R w g ob vs args ->
  Calls P f vs.toArray w fun e w'=>∃v g',e=.returned v/\Mem w' g' ob'/\ARel w' g' ob' v res/\Step w g ob w' g' ob'
structure Sim (w0:World) (g0:Gh) (o0:List Ob) (N:Nat) (s:St) (a:Act) (w:World):Prop where
 defers:a.defers=[]
 size:a.tmps.size=N
 rel:∃g,Mem w g s.ob/\Q1q w g s a/\Step w0 g0 o0 w g s.ob
def Ex.conv:Ex->Exit
 |.normal=>.normal
 |.exit i=>.exit i
 |.ret=>.ret
 |.pan v=>.panic [{ v,recovered:=false }]
def Qqp(P:Program)(f:Nat)(args:List AV)(ob:List Ob)(x:Value):Prop :=
 (∀vs w,(callFunc f vs).run P w=.ok (.enter f vs) w) /\
 ∀(w:World)(g:Gh)(vs:List Value),Mem w g ob->Q2R w g ob vs args ->
  Calls P f vs.toArray w fun e w'=>∃g' ob',e=.panicked [{ v:=x,recovered:=false }]/\Mem w' g' ob'/\Step w g ob w' g' ob'
def WP(P:Program)(w0:World)(g0:Gh)(o0:List Ob)(N:Nat)(c:Code)(Q:Ex->St->Prop)(s:St):Prop :=
 ∀a w,Sim w0 g0 o0 N s a w->c.wp P (fun e a' w'=>∃e' s',e=e'.conv/\(∀v,e'=.pan v->s'.tm=[])/\Sim w0 g0 o0 N s' a' w'/\Q e' s') a w
def Q4b:Value->Option Srt
 |.int k _=>some (.int k)
 |.bool _=>some .boo
 |.string _=>some .str
 |_=>none
def eqV:Value->Value->Bool
 |.int _ a,.int _ b=>a == b
 |.bool a,.bool b=>a == b
 |.string a,.string b=>a.toList == b.toList
 |_,_=>false
def Qfw(P:Program)(T:Nat)(sh:List Srt):Prop:=∀(xs ys:List Value)(x y:Operand)(W:World),xs.map Q4b=sh.map some->ys.map Q4b=sh.map some ->
 (eqGuard .eql T x y (.agg xs.toArray) (.agg ys.toArray)).run P W=.ok () W/\(eqGuard .neq T x y (.agg xs.toArray) (.agg ys.toArray)).run P W=.ok () W /\
 (binOp .eql T (.agg xs.toArray) (.agg ys.toArray)).run P W=.ok (.bool ((xs.zip ys).all fun q=>eqV q.1 q.2)) W /\
 (binOp .neq T (.agg xs.toArray) (.agg ys.toArray)).run P W=.ok (.bool !((xs.zip ys).all fun q=>eqV q.1 q.2)) W
def Q9o(P:Program)(T:Nat)(sh:List Srt):Prop:=(∀(xs:List Value)(b:Bool)(W:World),xs.map Q4b=sh.map some->(Instr.checkKey b 10000 T (.agg xs.toArray)).run P W=.ok () W) /\
 ∀(xs ys:List Value)(W:World),xs.map Q4b=sh.map some->ys.map Q4b=sh.map some->(Op.equal T (.agg xs.toArray) (.agg ys.toArray)).run P W=.ok ((xs.zip ys).all fun q=>eqV q.1 q.2) W
def Qah(kc:AV):Nat->List (AV×AV)->Option (Option (Nat×AV))
 |_,[]=>some none
 |j,(k,v)::r=>if Q9r k=Q9r kc then(match Qb1 std kc.cells k.cells with
  |some (_,b)=>if b=true then some (some (j,v))else Qah kc (j+1) r
  |none=>none)else none
def Tree.ok(P:Program)(w0:World)(g0:Gh)(o0:List Ob)(N:Nat)(Q:Ex->St->Prop):Tree->Prop
 |.leaf e s=>Q e s
 |.br c t f=>(c=true->t.ok P w0 g0 o0 N Q)/\(c=false->f.ok P w0 g0 o0 N Q)
 |.need q t=>q/\t.ok P w0 g0 o0 N Q
 |.call f args ob res ob' t=>BCall P f args ob res ob'/\t.ok P w0 g0 o0 N Q
 |.pan f args ob v=>Qqp P f args ob v/\∀ob',Q (.pan v) ⟨[],ob'⟩
 |.loop body s K=>WP P w0 g0 o0 N (.loop body) (fun e s'=>(K e s').ok P w0 g0 o0 N Q) s
 |.both a b=>a.ok P w0 g0 o0 N Q/\b.ok P w0 g0 o0 N Q
 |.either q a b=>(q->a.ok P w0 g0 o0 N Q)/\b.ok P w0 g0 o0 N Q
 |.ask T sh t=>Qfw P T sh/\t.ok P w0 g0 o0 N Q
 |.askK T sh t=>Q9o P T sh/\t.ok P w0 g0 o0 N Q
 |.nxt q es seen f t=>q/\(∀j p,es[j]?=some p->j ∉ seen->(f j p).ok P w0 g0 o0 N Q)/\((∀j,j<es.length->j∈seen)->t.ok P w0 g0 o0 N Q)
 |.prop q t=>q/\t.ok P w0 g0 o0 N Q
 |.look k es f n=>match Qah k 0 es with
  |some (some (j,v))=>(f j v).ok P w0 g0 o0 N Q
  |some none=>n.ok P w0 g0 o0 N Q
  |none=>False
 |.stuck _=>False
end
section
variable {w w':World}{g g':Gh}{ob ob':List Ob}
theorem Step.new(M:Mem w g ob)(o:Obj)(x:Ob):Step w g ob (w.alloc o) (g.new w ob) (ob++[x]):=by
 refine⟨rfl,rfl,rfl,by simp,fun b hb _=>Q48 hb,fun b id hG=>?_,fun b o h=>.inl h,Ext.new M o x,by simp⟩
 simp only[Gh.new]at hG;split at hG
 ·rename_i h;exact .inr (by omega)
 ·exact .inl ⟨id,hG⟩
theorem Q1V(b:Nat):∀(vs:List Value)(o:Nat)(W:World),(W.setCells b o vs).os=W.os/\(W.setCells b o vs).tape=W.tape/\(W.setCells b o vs).output=W.output
 | [],_,_=>⟨rfl,rfl,rfl⟩
 |v::r,o,W=>Q1V b r (o+1) (W.setCell ⟨b,o,none⟩ v)
theorem Step.store(M:Mem w g ob){id:Nat}{cs:List AV}(h:ob[id]?=some (.box cs))(off:Nat)(vs:List Value)(us:List AV):Step w g ob (w.setCells (g.loc id) off vs) g (ob.set id (.box us)):=by
 refine⟨?_,?_,?_,by rw[Q1W];exact le_refl _,fun b hb hG=>?_,fun b id hG=>.inl ⟨id,hG⟩,fun b o h=>.inl h,Ext.store M h off vs us,by simp⟩
 ·exact(Q1V _ _ _ _).1
 ·exact(Q1V _ _ _ _).2.1
 ·exact(Q1V _ _ _ _).2.2
 ·have vT:=(M.box id cs h).1
  exact Q14 (k:=0) (fun e=>by rw[e,vT]at hG;cases hG)
theorem Step.immNew(M:Mem w g ob)(hb:Below w.heap.size w w'):Step w g ob w' (g.imm w w') ob :=
 ⟨hb.os,hb.tape,hb.output,hb.size,fun b h _=>hb.block b h,fun b id hG=>.inl ⟨id,hG⟩,fun b o h=>by
  rcases h with h|⟨h,_⟩
  ·exact .inl h
  ·exact .inr (.inr h),Ext.immNew M hb,le_refl _⟩
theorem Step.grow(M:Mem w g ob){id et sz ep:Nat}{fz fz':Bool}{xs xs':List AV}(h:ob[id]?=some (.row et sz fz ep xs))
  {row vb:Option Nat} (hg:w.grownBy w' row) (jl:∀b,row=some b->g.G b=some id) (yZ:∀b,vb=some b->row=some b\/(w.heap.size<=b/\b<w'.heap.size)) (E:Ext w g ob w' (g.grow id vb) (ob.set id (.row et sz fz' (ep+1) xs'))) :
  Step w g ob w' (g.grow id vb) (ob.set id (.row et sz fz' (ep+1) xs')) :=
 ⟨hg.os,hg.tape,hg.output,hg.size,fun b hb hG=>hg.block b hb (fun e=>by rw[jl b e.symm]at hG;cases hG),fun b i hG=>by
  rcases Gh.grow_of hG with ⟨h1,_⟩|⟨h1,_⟩
  ·rcases yZ b h1 with h2|h2
   ·exact .inl ⟨_,jl b h2⟩
   ·exact .inr h2.1
  ·exact .inl ⟨i,h1⟩,fun b o h=>.inl h,E,by simp⟩
end
section
variable {w:World}{g:Gh}{ob:List Ob}
theorem Ext.reRow{id et sz e:Nat}{fz:Bool}{xs:List AV}(h:ob[id]?=some (.row et sz fz e xs))(fz':Bool)(xs':List AV):Ext w g ob w g (ob.set id (.row et sz fz' (e+1) xs')):=by
 have hid:=Q8 h;refine⟨fun b o h=>⟨h,rfl⟩,fun _ _=>rfl,fun i hi=>?_,fun i hi=>?_,fun i et' sz' fz2 e2 xs2 hi=>?_,fun _ _ _ _=>⟨rfl,fun _ _ h=>h⟩⟩
 ·have:i≠id:=by rintro rfl;rw[h]at hi;exact hi
  rw[getElem?_set_ne (Ne.symm this)];exact hi
 ·have:i≠id:=by rintro rfl;rw[h]at hi;exact hi
  rw[getElem?_set_ne (Ne.symm this)];exact hi
 ·by_cases e':i=id
  ·subst e'
   rw[h]at hi;cases hi;exact⟨fz',e+1,xs',getElem?_set_self hid,by omega,fun he=>by omega⟩
  ·exact⟨fz2,e2,xs2,by rw[getElem?_set_ne (Ne.symm e')];exact hi,le_refl _,fun _=>.inl ⟨rfl,fun b hG=>⟨hG,rfl⟩⟩⟩
theorem Mem.reRow(M:Mem w g ob){id et sz e:Nat}{xs:List AV}(h:ob[id]?=some (.row et sz false e xs)){xs':List AV}(hw:∀x∈xs',x.cells.length=sz):Mem w g (ob.set id (.row et sz false (e+1) xs')):=by
 have hid:=Q8 h;have E:=Ext.reRow (w:=w) (g:=g) h false xs';refine⟨fun i cs hi=>?_,fun i cs hi j u hj=>?_,fun i y hi=>?_,fun b i hG=>⟨(M.own b i hG).1,by rw[length_set];exact(M.own b i hG).2⟩,fun b o hA=>⟨(M.imm b o hA).1,fun i yL hs=>?_⟩,fun i et' sz' fz2 e2 xs2 hi=>?_,fun b hs=>?_,M.uniq⟩
 ·have e':i≠id:=by rintro rfl;rw[getElem?_set_self hid]at hi;cases hi
  rw[getElem?_set_ne (Ne.symm e')]at hi;obtain⟨h1,cur,T,h2,h3⟩:=M.box i cs hi;exact⟨h1,cur,T,h2,h3.ext E⟩
 ·have e':i≠id:=by rintro rfl;rw[getElem?_set_self hid]at hi;cases hi
  rw[getElem?_set_ne (Ne.symm e')]at hi;exact M.fbox i cs hi j u hj
 ·have e':i≠id:=by rintro rfl;rw[getElem?_set_self hid]at hi;cases hi
  rw[getElem?_set_ne (Ne.symm e')]at hi;exact⟨(M.iter i y hi).1,(M.iter i y hi).2.len (by simp)⟩
 ·obtain⟨et',sz',e2,xs2,h3,h4⟩:=(M.imm b o hA).2 i yL hs
  have e':i≠id:=by rintro rfl;rw[h]at h3;cases h3
  exact⟨et',sz',e2,xs2,by rw[getElem?_set_ne (Ne.symm e')];exact h3,h4⟩
 ·by_cases e':i=id
  ·subst e'
   rw[getElem?_set_self hid]at hi;cases hi;exact⟨(M.roww _ _ _ _ _ _ h).1,hw⟩
  ·rw[getElem?_set_ne (Ne.symm e')]at hi
   exact M.roww i _ _ _ _ _ hi
 ·obtain⟨i,et',sz',fz2,e2,xs2,h3,h4⟩:=M.nsub b hs
  by_cases e':i=id
  ·subst e'
   exact⟨i,_,_,_,_,_,h3,getElem?_set_self hid⟩
  ·exact⟨i,et',sz',fz2,e2,xs2,h3,by rw[getElem?_set_ne (Ne.symm e')];exact h4⟩
end
section
variable {P:Program}{ty:Tys}{w0:World}{g0:Gh}{o0:List Ob}{N:Nat}{Q:Ex->St->Prop}
def Q3f(ty:Tys):Op->Bool
 |.store _ _ _|.next _ _|.mapUpdate _ _ _ _=>false
 |.call { callee:=.builtin .append,.. }=>false
 |.call { callee:=.value f,argTypes,.. }=>!argTypes.toList.any (Qp8 ty)&&!Qo1 f
 |.convert s d _=>!(s == d&&(Q2 s ty).sl)
 |_=>true
def Q3U(ty:Tys)(P:Program)(w0:World)(g0:Gh)(o0:List Ob)(N:Nat)(Q:Ex->St->Prop)(K:St->Tree)(op:Op)(w1:World)(a:Act)(w:World):Prop:=(Q3f ty op=true->LeB w1 w)/\∃s,Sim w0 g0 o0 N s a w/\(K s).ok P w0 g0 o0 N Q
theorem Qid{w w':World}{g g':Gh}{s:St}{ob':List Ob}{a:Act}(hS:Q1q w g s a)(E:Ext w g s.ob w' g' ob'){d:Option Nat}(hd:∀t,d=some t->t<a.tmps.size){v:Value}{x:AV}(hv:ARel w' g' ob' v x) :
  Q1q w' g' (St.put ⟨s.tm,ob'⟩ d x) (a.put d v):=by
 intro t;cases d with
 |none=>exact(hS t).ext E
 |some d =>
  have jB:=hd d rfl;show ARel w' g' ob' ((a.tmps.setIfInBounds d v).getD t undef) (if t=d then x else lk t s.tm);by_cases e:t=d
  ·subst e
   rw[if_pos rfl];have:(a.tmps.setIfInBounds t v).getD t undef=v:=by simp[Array.getD_eq_getD_getElem?,jB]
   rw[this];exact hv
  ·rw[if_neg e]
   have:(a.tmps.setIfInBounds d v).getD t undef=a.tmps.getD t undef:=by
    simp only[Array.getD_eq_getD_getElem?];rw[Array.getElem?_setIfInBounds_ne (Ne.symm e)]
   rw[this];exact(hS t).ext E
theorem Q1z{s:St}{a:Act}{w w':World}{g g':Gh}{ob':List Ob}(hs:Sim w0 g0 o0 N s a w)(hS:Q1q w g s a)(h0:Step w0 g0 o0 w g s.ob)(M':Mem w' g' ob')(h1:Step w g s.ob w' g' ob')
  {d:Option Nat} (hd:∀t,d=some t->t<N) {v:Value} {x:AV} (hv:ARel w' g' ob' v x):Sim w0 g0 o0 N (St.put ⟨s.tm,ob'⟩ d x) (a.put d v) w':=by
 refine⟨?_,?_,g',?_,Qid hS h1.ext (fun t ht=>by rw[hs.size];exact hd t ht) hv,?_⟩
 ·cases d<;>exact hs.defers
 ·cases d with
  |none=>exact hs.size
  |some d=>show(a.tmps.setIfInBounds d v).size=N;rw[Array.size_setIfInBounds];exact hs.size
 ·cases d<;>exact M'
 ·cases d<;>exact h0.trans h1
theorem Q1v{S:Sem Value}{W W':World}{v:Value}(h:S.run P W=.ok v W'):(do pure (Next.value (<-S)):Sem Next).run P W=.ok (.value v) W':=by
 rw[Sem.run_bind,h];rfl
theorem Q49{o:Oper}{a:Act}{w w':World}{K:Act->World->Prop}{R:Exit->Act->World->Prop}{v:Value}(h:(execOp a.eval o).run P w=.ok (.value v) w')(hk:K (a.put o.dst v) w'):o.wp P a w K R:=by
 unfold Oper.wp;rw[h];exact hk
theorem Q7E{s:St}{a:Act}{w:World}(x:Operand)(hs:Sim w0 g0 o0 N s a w):Sim w0 g0 o0 N (Qbc std s x) a w:=by
 unfold Qbc;split
 ·rename_i t
  split
  ·rename_i id ep k hv
   split
   ·rename_i et sz e xs jQ
    split
    ·rename_i he
     subst he;obtain⟨g,M,hS,h0⟩:=hs.rel;have hr:=hS t;rw[hv]at hr;obtain⟨h1,et',sz',fz',e',xs',h2,h3,h4⟩:=hr;rw[jQ]at h2;cases h2;obtain⟨h5,h6,h7⟩:=h4 rfl;have ec:std.cut xs 0 k=xs.take k.toNat:=by simp[std]
     have E:=Ext.reRow (w:=w) (g:=g) jQ false (std.cut xs 0 k);have M':=M.reRow jQ (xs':=std.cut xs 0 k) (fun y hy=>(M.roww _ _ _ _ _ _ jQ).2 y (by rw[ec]at hy;exact List.mem_of_mem_take hy))
     refine⟨hs.defers,hs.size,g,M',fun u=>?_,h0.trans ⟨rfl,rfl,rfl,le_refl _,fun _ _ _=>rfl,fun b id h=>.inl ⟨id,h⟩,fun b o h=>.inl h,E,by simp⟩⟩
     show ARel w g _ _ (if u=t then .row id (e+1)else lk u s.tm);by_cases eu:u=t
     ·subst eu
      rw[if_pos rfl];exact⟨h1,et,sz,false,e+1,_,getElem?_set_self (Q8 jQ),le_refl _,fun _=>by rw[ec];exact h7⟩
     ·rw[if_neg eu];exact(hS u).ext E
    ·exact hs
   ·exact hs
  ·exact hs
 ·exact hs
theorem QdB{K:St->Tree}{o:Oper}{s:St}{a:Act}{w:World}{R:Exit->Act->World->Prop}(hs:Sim w0 g0 o0 N s a w)(hd:∀t,o.dst=some t->t<N)
  {x:AV} (hy:∀g,Mem w g s.ob->Q1q w g s a->Yld P w g s a o (Q92 o.op) x) (jA:(K (St.put s o.dst x)).ok P w0 g0 o0 N Q):o.wp P a w (Q3U ty P w0 g0 o0 N Q K o.op w) R:=by
 obtain⟨g,M,hS,h0⟩:=hs.rel;obtain⟨v,h1,h2⟩:=hy g M hS;exact Q49 (h1 w (fun _=>LeB.refl w)) ⟨fun _=>LeB.refl w,_,Q1z hs hS h0 M Step.refl hd h2,jA⟩
theorem Qm7(hT:TyOk P ty){K:St->Tree}{o:Oper}{s:St}{a:Act}{w:World}{R:Exit->Act->World->Prop}(hs:Sim w0 g0 o0 N s a w)(hd:∀t,o.dst=some t->t<N)
  {T:Nat} (ho:o.op=.alloc T) (hk:(Q2 T ty).ok=true) (jA:(K (St.put ⟨s.tm,s.ob++[.box ((Q2 T ty).zero.map .val)]⟩ o.dst (.box s.ob.length 0))).ok P w0 g0 o0 N Q):o.wp P a w (Q3U ty P w0 g0 o0 N Q K o.op w) R:=by
 obtain⟨g,M,hS,h0⟩:=hs.rel;have ti:=Q2v hT hk;obtain⟨z,hz,hzr⟩:=ti.zeroV
 have hr:(execOp a.eval o).run P w=.ok (.value (.pointer (some ⟨w.heap.size,0,none⟩))) (w.alloc (.cells z.cells T)):=by
  simp only[execOp,ho];refine Q1v ?_;simp only[Instr.alloc,Sem.run_bind,hzr,Result.andThen_ok,newVar,newRow,run_newObj,Sem.run_pure];rfl
 have hc:ARelC w g s.ob z.cells.toList ((Q2 T ty).zero.map .val):=by rw[hz];exact Qas ti.zone
 have M':=M.new (.cells z.cells T) (.box ((Q2 T ty).zero.map .val)) (fun cs h=>by cases h;exact⟨_,_,rfl,hc⟩) (fun cs h=>by cases h) (fun y h=>by cases h) (fun et sz fz e xs h=>by cases h)
 refine Q49 hr ⟨fun _=>(Below.refl _ w).alloc (le_refl _) _,_,Q1z hs hS h0 M' (Step.new M _ _) hd ?_,jA⟩
 refine⟨by simp[Gh.new],?_⟩
 rw[Q3q];trivial
theorem QpI{K:St->Tree}{o:Oper}{s:St}{a:Act}{w:World}{R:Exit->Act->World->Prop}(hs:Sim w0 g0 o0 N s a w)(hd:∀t,o.dst=some t->t<N)
  {T:Nat} {x:Operand} (ho:o.op=.box T x) (hl:(ev s x).live=true) (jA:(K (St.put ⟨s.tm,s.ob++[.box (ev s x).cells]⟩ o.dst (.box s.ob.length 0))).ok P w0 g0 o0 N Q):o.wp P a w (Q3U ty P w0 g0 o0 N Q K o.op w) R:=by
 obtain⟨g,M,hS,h0⟩:=hs.rel
 have hr:(execOp a.eval o).run P w=.ok (.value (.pointer (some ⟨w.heap.size,0,none⟩))) (w.alloc (.cells (a.eval x).cells T)):=by
  simp only[execOp,ho];refine Q1v ?_;simp only[Instr.box,Sem.run_bind,Result.andThen_ok,newVar,newRow,run_newObj,Sem.run_pure];rfl
 have hc:=(QE hS x).cells hl;have M':=M.new (.cells (a.eval x).cells T) (.box (ev s x).cells) (fun cs h=>by cases h;exact⟨_,_,rfl,hc⟩) (fun cs h=>by cases h) (fun y h=>by cases h) (fun et sz fz e xs h=>by cases h)
 refine Q49 hr ⟨fun _=>(Below.refl _ w).alloc (le_refl _) _,_,Q1z hs hS h0 M' (Step.new M _ _) hd ?_,jA⟩
 refine⟨by simp[Gh.new],?_⟩
 rw[Q3q];trivial
theorem QmA(hT:TyOk P ty){K:St->Tree}{o:Oper}{s:St}{a:Act}{w:World}{R:Exit->Act->World->Prop}(hs:Sim w0 g0 o0 N s a w)(hd:∀t,o.dst=some t->t<N)
  {T:Nat} {x y:Operand} (ho:o.op=.store T x y) {id off:Nat} {c:List AV} (hx:ev s x=.box id off) (hb:s.ob[id]?=some (.box c)) (hl:(ev s y).live=true) (hk:(Q2 T ty).ok=true)
  (jh:(ev s y).cells.length=(Q2 T ty).size) (jJ:off+(ev s y).cells.length<=c.length)
  (jA:(K (St.put ⟨s.tm,s.ob.set id (.box (setCells c off (ev s y).cells))⟩ o.dst .dead)).ok P w0 g0 o0 N Q):o.wp P a w (Q3U ty P w0 g0 o0 N Q K o.op w) R:=by
 obtain⟨g,M,hS,h0⟩:=hs.rel;have hc:=(QE hS y).cells hl;have jk:=QE hS x;rw[hx]at jk;have hv:a.eval x=.pointer (some ⟨g.loc id,off,none⟩):=jk.1;obtain⟨hG,cur,T',hh,ku⟩:=M.box id c hb;have jH:(a.eval y).cells.size=(ev s y).cells.length:=by simpa using hc.1
 have qW:cur.size=c.length:=by simpa using ku.1
 have h1:∀v∈(a.eval y).cells.toList,v.oneCell'=true:=fun v hv=>by
  obtain⟨j,hj,rfl⟩:=List.mem_iff_getElem.1 hv;exact(hc.2 j _ _ (getElem?_eq_getElem hj) (getElem?_eq_getElem (by rw[<-hc.1];exact hj))).2
 have jG:=run_storeCells_cells (P:=P) (g.loc id) off (a.eval y).cells.toList 0 w (fun j hj=>by
   have:off+j<cur.size:=by simp at hj;omega
   simp[World.cell?,hh,this]) (fun j hj=>by simp[World.frozen?,hh]) h1
 rw[Nat.add_zero]at jG;have xr:=(Q2v hT hk).size w
 have hr:(execOp a.eval o).run P w=.ok .skip (w.setCells (g.loc id) off (a.eval y).cells.toList):=by
  have jI:¬((a.eval y).cells.size≠(Q2 T ty).size):=by omega
  simp only[execOp,ho,Instr.storeAt,hv,Instr.sureAddr,storeVar,Sem.run_bind,Sem.run_pure,Result.andThen_ok,xr,jI,if_false,jG]
 have M':=M.store hb hc jJ;have:(execOp a.eval o).run P w=.ok .skip (w.setCells (g.loc id) off (a.eval y).cells.toList):=hr
 unfold Oper.wp;rw[hr];show Q3U ty P w0 g0 o0 N Q K o.op w (a.put o.dst undef) _;exact⟨fun h=>by simp[ho,Q3f]at h,_,Q1z hs hS h0 M' (Step.store M hb _ _ _) hd (v:=undef) (x:=.dead) trivial,jA⟩
theorem Qb0(hT:TyOk P ty){w:World}{s:St}{a:Act}{K:St->Tree}{o:Oper}{op:BinOp}{T T':Nat}{x y:Operand}(ho:o.op=.binOp op T x y T')
  {xs:List AV} (hn:Qq2 s x y=some xs) (hk:(Q2 T ty).kd=2) (b:Bool) (yM:op=if b then .eql else .neq)
  (jA:(std.emp xs->(K (St.put s o.dst (.val (.bool b)))).ok P w0 g0 o0 N Q)/\(K (St.put s o.dst (.val (.bool !b)))).ok P w0 g0 o0 N Q) :
  ∃z,(K (St.put s o.dst z)).ok P w0 g0 o0 N Q/\∀g rd,Q1q w g s a->Yld P w g s a o rd z:=by
 unfold Qq2 at hn;split at hn
 ·rename_i sz xs' n c hx hy
  obtain rfl:xs'=xs:=by simpa using hn
  by_cases hg:∃g,Q1q w g s a
  ·obtain⟨g,hS⟩:=hg
   have jk:=QE hS x;have kO:=QE hS y;rw[hx]at jk;rw[hy]at kO;have hyv:=kO.valEq;have jk:PRel w g.A (a.eval x) (.slc sz xs'):=jk;generalize hv:a.eval x=v at jk;cases jk with
   |nil =>
    refine⟨_,jA.1 rfl,fun g rd _=>Q1I (u:=.slice none 0 0) ho hv hyv (by simp) (by simp) (r:=.bool b) (fun W=>?_) rfl⟩
    have:=Q34 (P:=P) hT hk none 0 0 n c W
    subst yM;cases b
    ·exact this.2
    ·exact this.1
   |slc bk of cp _ _ f hc hm hw hcell hrel =>
    refine⟨_,jA.2,fun g rd _=>Q1I ho hv hyv (by simp) (by simp) (r:=.bool !b) (fun W=>?_) rfl⟩
    have:=Q34 (P:=P) hT hk (some ⟨bk,of,none⟩) xs'.length cp n c W
    subst yM;cases b
    ·exact this.2
    ·exact this.1
  ·exact⟨_,jA.2,fun g rd hS=>absurd ⟨g,hS⟩ hg⟩
 ·cases hn
theorem Q8Q{w:World}{g:Gh}{ob:List Ob}:∀(cs ds:List AV)(us vs:List Value)(sh:List Srt)(b:Bool),Qb1 std cs ds=some (sh,b)->ARelC w g ob us cs->ARelC w g ob vs ds ->
  us.map Q4b=sh.map some/\vs.map Q4b=sh.map some/\b=(us.zip vs).all fun q=>eqV q.1 q.2
 | [],[],us,vs,sh,b,h,hu,hv=>by
  obtain⟨rfl,rfl⟩:[]=sh/\true=b:=by simpa[Qb1]using h
  obtain rfl:us=[]:=eq_nil_of_length_eq_zero hu.1;obtain rfl:vs=[]:=eq_nil_of_length_eq_zero hv.1;exact⟨rfl,rfl,rfl⟩
 | [],_::_,_,_,_,_,h,_,_=>by cases h
 |_::_,[],_,_,_,_,h,_,_=>by cases h
 |x::r,y::r',us,vs,sh,b,h,hu,hv=>by
  cases us with
  |nil=>exact absurd hu.1 (by simp)
  |cons u us =>
   cases vs with
   |nil=>exact absurd hv.1 (by simp)
   |cons v vs =>
    simp only[Qb1]at h;split at h
    ·rename_i s1 b1 s2 b2 h1 h2
     obtain⟨rfl,rfl⟩:s1::s2=sh/\std.andB b1 b2=b:=by simpa using h
     obtain⟨i1,i2,i3⟩:=Q8Q r r' us vs s2 b2 h2 ⟨by simpa using hu.1,fun j a c ha hc=>hu.2 (j+1) a c (by simpa using ha) (by simpa using hc)⟩ ⟨by simpa using hv.1,fun j a c ha hc=>hv.2 (j+1) a c (by simpa using ha) (by simpa using hc)⟩
     have hu0:=(hu.2 0 u x rfl rfl).1;have zS:=(hv.2 0 v y rfl rfl).1;unfold eqC at h1;split at h1
     ·rename_i k a k' c
      split at h1
      ·rename_i hk
       subst hk;obtain⟨rfl,rfl⟩:Srt.int k=s1/\std.eqI a c=b1:=by simpa using h1
       cases(show u=_ from ARel.valEq (g:=g) (w:=w) (ob:=ob) hu0)
       cases(show v=_ from ARel.valEq (g:=g) (w:=w) (ob:=ob) zS)
       exact⟨by simp[Q4b,i1],by simp[Q4b,i2],by rw[i3];rfl⟩
      ·cases h1
     ·rename_i a c
      obtain⟨rfl,rfl⟩:Srt.boo=s1/\std.eqB a c=b1:=by simpa using h1
      cases(show u=_ from ARel.valEq (g:=g) (w:=w) (ob:=ob) hu0)
      cases(show v=_ from ARel.valEq (g:=g) (w:=w) (ob:=ob) zS)
      exact⟨by simp[Q4b,i1],by simp[Q4b,i2],by rw[i3];rfl⟩
     ·rename_i a c
      obtain⟨rfl,rfl⟩:Srt.str=s1/\std.eqS a c=b1:=by simpa using h1
      cases(show u=_ from ARel.valEq (g:=g) (w:=w) (ob:=ob) hu0)
      cases(show v=_ from ARel.valEq (g:=g) (w:=w) (ob:=ob) zS)
      exact⟨by simp[Q4b,i1],by simp[Q4b,i2],by rw[i3];rfl⟩
     ·cases h1
    ·cases h
theorem Qe7{w:World}{s:St}{a:Act}{o:Oper}{op:BinOp}{T T':Nat}{x y:Operand}(ho:o.op=.binOp op T x y T'){sh:List Srt}{b:Bool}(h:Qks std s op x y=some (sh,b))(he:Qfw P T sh){g:Gh}{rd:Bool}(hS:Q1q w g s a) :
  Yld P w g s a o rd (.val (.bool b)):=by
 unfold Qks at h;split at h
 ·rename_i cs ds hx hy
  split at h
  ·rename_i sh' b' hc
   have jk:=QE hS x;have kO:=QE hS y;rw[hx]at jk;rw[hy]at kO;obtain⟨us,hu,cY⟩:=jk;obtain⟨vs,hv,pL⟩:=kO;obtain⟨e1,e2,e3⟩:=Q8Q cs ds us.toList vs.toList sh' b' hc cY pL;split at h
   ·obtain⟨rfl,rfl⟩:sh'=sh/\b'=b:=by simpa using h
    refine Q2A (S:=do eqGuard .eql T x y (a.eval x) (a.eval y);binOp .eql T (a.eval x) (a.eval y)) (fun W=>by simp only[execOp,ho]) ⟨.bool b',fun W _=>?_,.val _ rfl⟩
    obtain⟨h1,_,h3,_⟩:=he us.toList vs.toList x y W e1 e2;rw[Sem.run_bind,hu,hv,h1];rw[e3];exact h3
   ·obtain⟨rfl,rfl⟩:sh'=sh/\std.notB b'=b:=by simpa using h
    refine Q2A (S:=do eqGuard .neq T x y (a.eval x) (a.eval y);binOp .neq T (a.eval x) (a.eval y)) (fun W=>by simp only[execOp,ho]) ⟨.bool !b',fun W _=>?_,.val _ rfl⟩
    obtain⟨_,h2,_,h4⟩:=he us.toList vs.toList x y W e1 e2;rw[Sem.run_bind,hu,hv,h2];rw[e3];exact h4
   ·cases h
  ·cases h
 ·cases h
theorem QhX(hT:TyOk P ty){w:World}{s:St}{a:Act}{cs:Nat->List AV->List Ob->Option (AV×List Ob)}{K:St->Tree}{o:Oper}{op:BinOp}{T T':Nat}{x y:Operand}(ho:o.op=.binOp op T x y T')
  (jA:(aop std ty cs K o s).ok P w0 g0 o0 N Q) :
  (Q37 std ty K o s o.op).ok P w0 g0 o0 N Q\/∃z,(K (St.put s o.dst z)).ok P w0 g0 o0 N Q/\∀g rd,Q1q w g s a->Yld P w g s a o rd z:=by
 simp only[aop,ho]at jA;split at jA
 ·rename_i xs hn
  right
  split at jA
  ·rename_i hk
   split at jA
   ·exact Qb0 hT ho hn hk true rfl jA
   ·exact Qb0 hT ho hn hk false rfl jA
   ·exact jA.elim
  ·exact jA.elim
 ·split at jA
  ·rename_i sh b he
   exact .inr ⟨_,jA.2,fun g rd hS=>Qe7 ho he jA.1 hS⟩
  ·left;rw[ho];exact jA
theorem Qee{s:St}{a:Act}{w:World}(x:Operand)(hs:Sim w0 g0 o0 N s a w):Sim w0 g0 o0 N (Qq4 std s x) a w:=by
 have go:∀(t:Nat)(v:AV)(ob:List Ob),frz std true 9 s.ob (lk t s.tm)=some (v,ob)->Sim w0 g0 o0 N ⟨(t,v)::s.tm,ob⟩ a w:=fun t v ob he=>by
  obtain⟨g,M,hS,h0⟩:=hs.rel;obtain⟨g',M',E,hr,hL⟩:=QkL M (hS t) he;refine⟨hs.defers,hs.size,g',M',fun u=>?_,h0.trans (Step.ghost E hL)⟩
  show ARel w g' _ _ (if u=t then v else lk u s.tm);by_cases eu:u=t
  ·subst eu
   rw[if_pos rfl];exact hr
  ·rw[if_neg eu];exact(hS u).ext E
 unfold Qq4;split
 ·rename_i t
  split
  ·rename_i id ep hv
   split
   ·rename_i v ob he
    exact go t v ob (by rw[hv];exact he)
   ·exact hs
  ·rename_i id ep k hv
   split
   ·rename_i v ob he
    exact go t v ob (by rw[hv];exact he)
   ·exact hs
  ·exact hs
 ·exact hs
end
section
variable {P:Program}{ty:Tys}{w0:World}{g0:Gh}{o0:List Ob}{N:Nat}{Q:Ex->St->Prop}{w w':World}{g g':Gh}{ob ob':List Ob}
theorem Qm9{v:Value}{x:AV}(h:ARel0 w g ob v x)(hp:x.pur0=true):PRel w g.A v x:=by cases x<;>first|exact h|cases hp
theorem Qc3{vs:List Value}{x:AV}{v:Value}(h:ARel1 w g ob v x)(hp:x.pur=true):Alike w g.A v.cells.toList x.cells:=by
 have hl:x.live=true:=by cases x<;>first|rfl|cases hp
 have hc:=h.to.cells hl;refine⟨hc.1,fun j y u hy hu=>Qm9 (hc.2 j y u hy hu).1 ?_⟩
 have hm:=mem_of_getElem? hu;cases x with
 |agg cs=>exact all_eq_true.1 hp u hm
 |val a=>obtain rfl:u=AV.val a:=by simpa[AV.cells]using hm
         rfl
 |slc a b=>obtain rfl:u=AV.slc a b:=by simpa[AV.cells]using hm
           rfl
 |opt a=>obtain rfl:u=AV.opt a:=by simpa[AV.cells]using hm
         rfl
 |ref a=>obtain rfl:u=AV.ref a:=by simpa[AV.cells]using hm
         rfl
 |_=>cases hp
theorem Q8N{sz:Nat}:∀(vs:List Value)(k:Nat)(c:Array Value),(∀v∈vs,v.cells.size=sz)->(k+vs.length) * sz<=c.size ->
  ∃c',Instr.fill (fun i=>some (i * sz,sz)) c ((vs.zipIdx k).map fun x=>(x.2,x.1))=some c'/\c'.toList=c.toList.take (k * sz)++(vs.flatMap (·.cells.toList)++c.toList.drop ((k+vs.length) * sz))
 | [],k,c,_,_=>⟨c,rfl,by simp⟩
 |v::r,k,c,hv,hl=>by
  have h1:=hv v List.mem_cons_self
  have jJ:k * sz+sz<=c.size:=by
   have:(k+1) * sz<=(k+(v::r).length) * sz:=Nat.mul_le_mul_right _ (by simp)
   rw[add_mul,Nat.one_mul]at this;omega
  have yJ:=Qf9 (k * sz) v.cells.toList 0 c;have e1:(v.cells.toList.take (c.size-(k * sz+0)))=v.cells.toList:=List.take_of_length_le (by simp;omega)
  rw[e1,Nat.add_zero,Array.length_toList,h1]at yJ;generalize vm:(v.cells.toList.zipIdx 0).foldl (fun cs (x:Value×Nat)=>cs.setIfInBounds (k * sz+x.2) x.1) c=c2 at yJ
  have kj:c2.size=c.size:=by
   have:=congrArg List.length yJ
   simp only[Array.length_toList,length_append,length_take,List.length_drop,h1]at this;omega
  obtain⟨c',h3,h4⟩:=Q8N r (k+1) c2 (fun v h=>hv v (List.mem_cons_of_mem _ h)) (by rw[kj];simpa[Nat.add_assoc,Nat.add_comm 1]using hl)
  refine⟨c',?_,?_⟩
  ·simp only[List.zipIdx_cons,List.map_cons,Instr.fill]
   rw[if_neg]
   ·rw[<-h3,<-vm]
    congr 1
    rw[<-Array.foldl_toList,Array.toList_zipIdx]
   ·simp only[Bool.or_eq_true,decide_eq_true_eq,bne_iff_ne,ne_eq,not_or]
    omega
  ·rw[h4,yJ]
   have e2:(k+1) * sz=k * sz+sz:=by rw[add_mul,Nat.one_mul]
   have e3:(k+1+r.length) * sz=k * sz+sz+r.length * sz:=by rw[add_mul,e2]
   have e4:(k+(v::r).length) * sz=k * sz+sz+r.length * sz:=by rw[List.length_cons,<-e3];congr 1;omega
   have h5:(c.toList.take (k * sz)).length=k * sz:=by rw[length_take,Array.length_toList];omega
   rw[e2,e3,e4,flatMap_cons];have h6:(v.cells.toList).length=sz:=by rw[Array.length_toList,h1]
   generalize hX:c.toList.take (k * sz)=X at h5
   have t1:(X++(v.cells.toList++c.toList.drop (k * sz+sz))).take (k * sz+sz)=X++v.cells.toList:=by
    rw[<-append_assoc];exact List.take_left' (by rw[length_append];omega)
   have t2:(X++(v.cells.toList++c.toList.drop (k * sz+sz))).drop (k * sz+sz+r.length * sz)=c.toList.drop (k * sz+sz+r.length * sz):=by
    rw[<-append_assoc,List.drop_append,List.drop_eq_nil_of_le (by rw[length_append];omega),List.nil_append,length_append,h5,h6,Nat.add_sub_cancel_left,List.drop_drop]
   rw[t1,t2];simp only[append_assoc]
theorem Q7b{A:Nat->Nat->Prop}:∀(vs:List Value)(xs:List AV),vs.length=xs.length->(∀(j:Nat) v x,vs[j]?=some v->xs[j]?=some x->Alike w A v.cells.toList x.cells)->Alike w A (vs.flatMap (·.cells.toList)) (QF xs)
 | [],xs,hl,_=>by
  have:xs=[]:=eq_nil_of_length_eq_zero hl.symm
  subst this;exact Alike.nil
 |v::vs,[],hl,_=>by simp at hl
 |v::vs,x::xs,hl,h=>by
  rw[flatMap_cons,QF,flatMap_cons];exact(h 0 v x rfl rfl).append (Q7b vs xs (by simpa using hl) (fun j v x h1 h2=>h (j+1) v x (by simpa using h1) (by simpa using h2)))
theorem KidV.nil{id:Nat}:KidV w g id (.slice none 0 0):=⟨0,[],World.ownsRow_nil _ _ _ _,fun b h=>by cases h⟩
theorem Mem.sub_lt(M:Mem w g ob){b:Nat}(h:g.sub b=true):b<w.heap.size:=by
 obtain⟨id,_,_,_,_,_,h1,_⟩:=M.nsub b h;exact(M.own b id h1).1
theorem Mem.sub_new(M:Mem w g ob){b:Nat}(h:w.heap.size<=b):g.sub b=false:=by
 cases hs:g.sub b with
 |false=>rfl
 |true=>have:=M.sub_lt hs;omega
theorem Q83{sz:Nat}:∀(xs:List AV),Q9E xs=true->(∀x∈xs,x.cells.length=sz)->∀(j:Nat) u,(QF xs)[j]?=some u->j % sz=1->u=.val (.slice none 0 0)
 | [],_,_,j,u,h,_=>by simp at h
 |x::r,hk,hw,j,u,h,hj=>by
  unfold Q9E at hk;split at hk
  ·rename_i a hc
   have hx:=hw x (List.mem_cons_self ..);have e:QF (x::r)=a :: .val (.slice none 0 0)::QF r:=by simp[hc]
   rw[e]at h;obtain rfl:2=sz:=by rw[hc]at hx;exact hx
   match j,h,hj with
   |0,_,hj=>cases hj
   |1,h,_=>simpa using h.symm
   |j+2,h,hj=>exact Q83 r hk (fun y hy=>hw y (List.mem_cons_of_mem _ hy)) j u (by simpa using h) (by omega)
  ·cases hk
theorem QeS{E sz:Nat}{xs:List AV}{ys:List Value}(hs:Qa3 E xs=true)(j7:Alike w g.A ys (QF xs))(hw:∀x∈xs,x.cells.length=sz)(he:E=Q4K){j:Nat}{y:Value}(hy:ys[j]?=some y)(hj:j % sz=1) :
  y=.slice none 0 0:=by
 simp only[Qa3,he,if_true]at hs;have hl:j<(QF xs).length:=by rw[<-j7.1];exact Q8 hy
 have hu:=getElem?_eq_getElem hl;have:=j7.2 j y _ hy hu
 rw[Q83 xs hs hw j _ hu hj]at this;exact(show y=_ from ARel.valEq (g:=g) (w:=w) (ob:=[]) this)
theorem Qbr(hT:TyOk P ty){K:St->Tree}{o:Oper}{s:St}{a:Act}{w:World}{R:Exit->Act->World->Prop}(hs:Sim w0 g0 o0 N s a w)(hd:∀t,o.dst=some t->t<N)
  {T len:Nat} {parts:Array (Nat×Operand)} (ho:o.op=.buildSlice T len parts) {xs:List AV} {ob:List Ob} (he:Q4o (frz std true 9) s.ob (parts.toList.map fun x=>ev s x.2)=some (xs,ob))
  (vL:Qa3 (Q2 T ty).elem xs=true) (jv:Q6o ty T (Q2 (Q2 T ty).elem ty).size=true) (h1:QlI (Q2 (Q2 T ty).elem ty).size xs=true) (hp:xs.all AV.pur=true) (jH:len<=4000) (jh:(Q2 (Q2 T ty).elem ty).size<=4000)
  (hi:parts.toList.map (·.1)=List.range len)
  (jA:(K (St.put ⟨s.tm,ob++[.row (Q2 T ty).elem (Q2 (Q2 T ty).elem ty).size false 0 xs]⟩ o.dst (.row ob.length 0))).ok P w0 g0 o0 N Q):o.wp P a w (Q3U ty P w0 g0 o0 N Q K o.op w) R:=by
 obtain⟨g,M,hS,h0⟩:=hs.rel
 have hL:Q2R w g s.ob (parts.toList.map fun x=>a.eval x.2) (parts.toList.map fun x=>ev s x.2):=by
  refine⟨by simp,fun j v x hv hx=>?_⟩
  rw[getElem?_map,Option.map_eq_some_iff]at hv hx;obtain⟨q,hq,rfl⟩:=hv;obtain⟨q',gk,rfl⟩:=hx;rw[hq]at gk;cases gk;have hr:=QE hS q.2;exact hr.to1 (Q75 _ _ _ _ he _ (mem_map.2 ⟨q,mem_of_getElem? hq,rfl⟩))
 obtain⟨g1,M1,E1,L1,G1⟩:=QmN _ _ g s.ob xs ob M hL he;obtain⟨e,hu,ql,te,zU,jf⟩:=Q4O hT jv;obtain⟨ie,z,gL,vU,cZ,xt,kM,_⟩:=te.i;rw[zU]at vU;subst ql;generalize hE:(Q2 T ty).elem=E at *;generalize hSZ:(Q2 E ty).size=sz at *;have hvl:(parts.toList.map fun x=>a.eval x.2).length=xs.length:=L1.1
 have qX:parts.toList.length=len:=by have:=congrArg List.length hi;simpa using this
 have jm:parts.size=len:=by simpa using qX
 have jr:xs.length=len:=by rw[<-hvl,List.length_map,qX]
 have hcs:∀(j:Nat) v x,(parts.toList.map fun x=>a.eval x.2)[j]?=some v->xs[j]?=some x->Alike w g1.A v.cells.toList x.cells/\x.cells.length=sz:=fun j v x hv hx =>
  ⟨Qc3 (vs:=[]) (L1.2 j v x hv hx) (all_eq_true.1 hp x (mem_of_getElem? hx)),by have:=all_eq_true.1 h1 x (mem_of_getElem? hx);simpa using this⟩
 have hv:∀v∈(parts.toList.map fun x=>a.eval x.2),v.cells.size=sz:=fun v hv=>by
  obtain⟨j,hj,rfl⟩:=List.mem_iff_getElem.1 hv;obtain⟨h2,h3⟩:=hcs j _ _ (getElem?_eq_getElem hj) (getElem?_eq_getElem (by omega))
  have:=h2.1
  rw[Array.length_toList]at this;omega
 have kw:(parts.map fun(i,x)=>(i,a.eval x)).toList=((parts.toList.map fun x=>a.eval x.2).zipIdx 0).map fun x=>(x.2,x.1):=by
  rw[Array.toList_map];refine List.ext_getElem? fun j=>?_
  simp only[getElem?_map,List.getElem?_zipIdx,zero_add];cases hj:parts.toList[j]? with
  |none=>rfl
  |some q =>
   have h4:(parts.toList.map (·.1))[j]?=some q.1:=by rw[getElem?_map,hj];rfl
   rw[hi,List.getElem?_range (by have:=Q8 hj;omega)]at h4
   obtain rfl:j=q.1:=by simpa using h4
   rfl
 obtain⟨c',hf,gH⟩:=Q8N (sz:=sz) (parts.toList.map fun x=>a.eval x.2) 0 ((Array.range (len * sz)).map (z.cells[· % z.cells.size]!)) hv (by simp[jm])
 have hcsz:c'.toList=(parts.toList.map fun x=>a.eval x.2).flatMap (·.cells.toList):=by
  rw[gH,Nat.zero_mul,List.take_zero,List.nil_append,zero_add,List.drop_eq_nil_of_le (by simp[jm]),List.append_nil]
 have j7:Alike w g1.A c'.toList (QF xs):=by
  rw[hcsz];exact Q7b _ _ hvl (fun j v x hv hx=>(hcs j v x hv hx).1)
 have hw:∀x∈xs,x.cells.length=sz:=fun x hx=>by have:=all_eq_true.1 h1 x hx;simpa using this
 have kx:c'.size=len * sz:=by
  have:=j7.1
  rw[Q2F xs hw,jr,Array.length_toList]at this;exact this
 have kz:¬len * sz > 2 ^ 24:=by
  have:len * sz<=4000 * 4000:=Nat.mul_le_mul jH jh
  omega
 have hr:(execOp a.eval o).run P w=.ok (.value (.slice (some ⟨w.heap.size,0,none⟩) len len)) (w.alloc (.cells c' E)):=by
  simp only[execOp,ho];refine Q1v ?_;by_cases h0:len * sz=0
  ·have:c'=#[]:=by apply Array.eq_empty_of_size_eq_zero;omega
   subst this
   have gi:len=0:=by
    rcases Nat.eq_zero_or_pos len with h|h
    ·exact h
    ·have:=Nat.mul_pos h jf;omega
   subst gi
   have hp0:parts=#[]:=by
    apply Array.ext';exact eq_nil_of_length_eq_zero qX
   subst hp0;simp[Instr.buildSlice,run_underlying hu,sizeOf,typeInfo,gL,Instr.fill,newRow];congr 2
   apply Array.eq_empty_of_size_eq_zero;simp
  ·refine run_buildSlice w T E len _ c' ie z hu gL xt (by rw[vU];exact kz) (by rw[vU];exact h0) ?_
   rw[vU,kw];exact hf
 have jl:RowV (w.alloc (.cells c' E)) (g1.new w ob) ob.length E sz (.slice (some ⟨w.heap.size,0,none⟩) len len) xs:=by
  refine⟨c'.toList,⟨by rw[Array.length_toList,kx,jr],.inr ⟨w.heap.size,len,c',by rw[jr],Nat.zero_le _,Q69 w _,by omega,by unfold maxLen;omega,kx,?_⟩⟩,fun b hb=>?_,j7.keep (Ext.new M1 (.cells c' E) (.row E sz false 0 xs)).A,hw,fun b hb=>?_,fun he j y hy hj=>?_⟩
  ·rw[jr,<-kx]
   exact List.take_of_length_le (by simp)
  ·obtain rfl:w.heap.size=b:=by simpa[Value.ownBlock]using hb
   simp[Gh.new]
  ·obtain rfl:w.heap.size=b:=by simpa[Value.ownBlock]using hb
   exact M1.sub_new (le_refl _)
  ·obtain rfl:=QeS vL j7 hw he hy hj
   exact⟨KidV.nil,fun _ _ b _ _ _ h=>by cases h⟩
 have M':=M1.new (.cells c' E) (.row E sz false 0 xs) (fun cs h=>by cases h) (fun cs h=>by cases h) (fun y h=>by cases h) (fun et sz' fz e ys h=>by cases h;exact⟨jf,hw⟩)
 have yN:Q1q w g1 ⟨s.tm,ob⟩ a:=fun t=>(hS t).ext E1
 refine Q49 hr ⟨fun _=>(Below.refl _ w).alloc (le_refl _) _,_,Q1z (s:=⟨s.tm,ob⟩) ⟨hs.defers,hs.size,g1,M1,yN,h0.trans (Step.ghost E1 G1)⟩ yN (h0.trans (Step.ghost E1 G1)) M' (Step.new M1 _ _) hd ?_,jA⟩
 exact⟨rfl,E,sz,false,0,xs,Q3q,le_refl _,fun _=>jl⟩
end
section
variable {P:Program}{ty:Tys}{w0:World}{g0:Gh}{o0:List Ob}{N:Nat}{Q:Ex->St->Prop}{w w':World}{g g':Gh}{ob ob':List Ob}
theorem Ext.addRow(x:Ob):Ext w g ob w g (ob++[x]) :=
 ⟨fun _ _ h=>⟨h,rfl⟩,fun _ _=>rfl,fun id h=>by rw[Q2B (Q4j h)];exact h,fun id h=>by rw[Q2B (Q5b h)];exact h,
  fun id et sz fz e xs h=>⟨fz,e,xs,by rw[Q2B (Q8 h)];exact h,le_refl _,fun _=>.inl ⟨rfl,fun _ h=>⟨h,rfl⟩⟩⟩,fun _ _ _ _=>⟨rfl,fun _ _ h=>h⟩⟩
theorem Mem.addRow(M:Mem w g ob){et sz:Nat}(hs:0<sz):Mem w g (ob++[.row et sz false 0 []]):=by
 have E:=Ext.addRow (w:=w) (g:=g) (ob:=ob) (.row et sz false 0 [])
 have last:∀{id:Nat}{y:Ob},(ob++[.row et sz false 0 []])[id]?=some y->id<ob.length/\ob[id]?=some y\/y=.row et sz false 0 []:=fun {id y} h=>by
  by_cases hl:id<ob.length
  ·rw[Q2B hl]at h;exact .inl ⟨hl,h⟩
  ·have hid:id=ob.length:=by have:=Q8 h;simp at this;omega
   subst hid;rw[Q3q]at h;exact .inr (by simpa using h.symm)
 refine⟨fun id cs h=>?_,fun id cs h j u hj=>?_,fun id y h=>?_,fun b id h=>⟨(M.own b id h).1,by have:=(M.own b id h).2;simp;omega⟩,fun b o hA=>⟨(M.imm b o hA).1,fun id hG hs=>?_⟩,fun id et' sz' fz e xs h=>?_,fun b hs=>?_,M.uniq⟩
 ·rcases last h with ⟨_,h⟩|h
  ·obtain⟨h1,cur,T,h2,h3⟩:=M.box id cs h
   exact⟨h1,cur,T,h2,h3.ext E⟩
  ·cases h
 ·rcases last h with ⟨_,h⟩|h
  ·exact M.fbox id cs h j u hj
  ·cases h
 ·rcases last h with ⟨_,h⟩|h
  ·exact⟨(M.iter id y h).1,(M.iter id y h).2.len (by simp)⟩
  ·cases h
 ·obtain⟨et',sz',e,xs,h3,h4⟩:=(M.imm b o hA).2 id hG hs
  exact⟨et',sz',e,xs,by rw[Q2B (Q8 h3)];exact h3,h4⟩
 ·rcases last h with ⟨_,h⟩|h
  ·exact M.roww id et' sz' fz e xs h
  ·cases h;exact⟨hs,fun x hx=>by cases hx⟩
 ·obtain⟨id,et',sz',fz,e,xs,h3,h4⟩:=M.nsub b hs
  exact⟨id,et',sz',fz,e,xs,h3,by rw[Q2B (Q8 h4)];exact h4⟩
theorem Step.addRow(x:Ob):Step w g ob w g (ob++[x]) :=
 ⟨rfl,rfl,rfl,le_refl _,fun _ _ _=>rfl,fun _ _ h=>.inl ⟨_,h⟩,fun _ _ h=>.inl h,Ext.addRow x,by simp⟩
theorem Qow(hT:TyOk P ty){s:St}(M:Mem w g s.ob){E U:Nat}{v:Value}{y:AV}(hv:ARel w g s.ob v y){sz:Nat}{news:List AV}(h:Qc6 std ty s E U y=some (sz,news))(jv:(Q2 E ty).size=sz)(jh:0<sz)
  (hw:∀x∈news,x.cells.length=sz) :
  ∃d zs,P.underlying U=some d/\((∃e',d=.slice e')\/d=.string)/\zs.length=news.length * sz/\Alike w g.A zs (QF news)/\(∀W,(Builtin.lenOf v).run P W=.ok news.length W) /\
   ∀W:World,W.heap=w.heap->(Builtin.firstCells sz news.length v).run P W=.ok zs.toArray W:=by
 unfold Qc6 at h;split at h
 ·rename_i b
  split at h
  ·rename_i hk
   obtain⟨rfl,rfl⟩:1=sz/\std.bytesS b=news:=by simpa using h
   have hb:std.isB (std.bytesS b):=fun x hx=>by
    obtain⟨n,_,rfl⟩:=mem_map.1 (show x∈b.data.toList.map _ from hx);exact⟨n,rfl⟩
   have hl:(std.bytesS b).length=b.size:=by show(b.data.toList.map _).length=_;simp
   rw[hv.valEq];refine⟨.string,strCells b,(Q4N hT hk.1 (by decide)).str hk.1,.inr rfl,by rw[strCells_length,hl,Nat.mul_one],?_,fun W=>by rw[hl];rfl,fun W _=>by rw[hl];exact run_firstCells_string W 1 b⟩
   rw[QaY hb];refine⟨by rw[strCells_length,hl],fun j y u hy hu=>?_⟩
   have hu:(b.data.toList.map fun x=>AV.val (.int .u8 x.toNat))[j]?=some u:=hu
   simp only[strCells,getElem?_map,Option.map_eq_some_iff]at hy hu;obtain⟨c,hc,rfl⟩:=hy;obtain⟨c',gH,rfl⟩:=hu;rw[hc]at gH;cases gH;exact PRel.val _ rfl
  ·cases h
 ·split at h
  ·rename_i hk
   obtain⟨_,rfl⟩:_/\[]=news:=by simpa using h
   rw[hv.valEq];exact⟨_,[],(QaK hT hk).slice hk,.inl ⟨_,rfl⟩,by simp,Alike.nil,fun W=>rfl,fun W _=>rfl⟩
  ·cases h
 ·split at h
  ·rename_i hk
   obtain⟨A,c,ys,rfl,hr,j7⟩:=Q4B M hv h;refine⟨_,ys,(QaK hT hk).slice hk,.inl ⟨_,rfl⟩,hr.len,j7,fun W=>rfl,fun W hW=>?_⟩
   rcases Nat.eq_zero_or_pos news.length with h0|h0
   ·have hy:ys=[]:=eq_nil_of_length_eq_zero (by rw[hr.len,h0,Nat.zero_mul])
    subst hy;rw[h0];cases A<;>simp[Builtin.firstCells,loadCells,loadCellsFrom]
   ·obtain⟨b,o,rfl,_,hc⟩:=hr.at_ h0
    refine run_firstCells_some (P:=P) W sz news.length _ _ _ ys hr.len (fun j u hj=>?_)
    rw[Addr.add_mid,show W.cell? ⟨b,o+j,none⟩=w.cell? ⟨b,o+j,none⟩ from by simp only[World.cell?,hW]]
    exact hc j u hj
  ·cases h
theorem Qef(hT:TyOk P ty){s:St}{a:Act}{w:World}(M:Mem w g ob){T U:Nat}{id et sz ep:Nat}{fz:Bool}{xs xs' news:List AV}(h:ob[id]?=some (.row et sz fz ep xs)){v:Value}
  (hv:RowV w g id et sz v xs') (hfz:fz=true->xs'=xs) (jv:Q6o ty T sz=true) (xu:et=(Q2 T ty).elem) {d:TypeDesc} {y:Value} {zs:List Value} (hu:P.underlying U=some d) (hd:(∃e',d=.slice e')\/d=.string)
  (kN:zs.length=news.length * sz) (j7:Alike w g.A zs (QF news)) (jH:∀W,(Builtin.lenOf y).run P W=.ok news.length W)
  (kr:∀W:World,W.heap=w.heap->(Builtin.firstCells sz news.length y).run P W=.ok zs.toArray W) (hw:∀x∈news,x.cells.length=sz) (vL:Qa3 et news=true) (hb:xs'.length+news.length<=1000000000) (tyR:TypeId) :
  ∃v' w',(Builtin.append_ #[T,U] tyR #[v,y]).run P w=.ok v' w'/\Mem w' (g.grow id v'.ownBlock) (ob.set id (.row et sz fz (ep+1) (xs'++news))) /\
   Step w g ob w' (g.grow id v'.ownBlock) (ob.set id (.row et sz fz (ep+1) (xs'++news)))/\RowV w' (g.grow id v'.ownBlock) id et sz v' (xs'++news):=by
 obtain⟨e,xv,ql,te,zU,jf⟩:=Q4O hT jv;obtain⟨ie,z,gL,vU,cZ,xt,kM,_⟩:=te.i;have j4:et=e:=xu.trans ql.symm;subst j4;obtain⟨ys,ho,hG,xA,xB,zj⟩:=hv
 have gx:z.cells.size=sz:=by
  have:=congrArg List.length kM
  rw[Array.length_toList,te.zl,zU]at this;exact this
 obtain⟨v',w',hr,h1,h2,h3,h4⟩:=QaU (P:=P) (w:=w) (ty:=tyR) xv hu hd gL xt (vU.trans zU) (by rw[cZ];exact te.by_) gx ho kN jH kr j7.one hb
 have jK:∀x∈xs'++news,x.cells.length=sz:=fun x hx=>by
  rcases List.mem_append.1 hx with hx|hx
  ·exact xB x hx
  ·exact hw x hx
 have yZ:∀b,v'.ownBlock=some b->v.ownBlock=some b\/(w.heap.size<=b/\b<w'.heap.size):=fun b hb=>by
  rcases h3 with h5|h5
  ·exact .inl (h5 ▸ hb)
  ·have jB:=(h1.lt b hb).2
   rw[hb]at h5;cases h5;exact .inr ⟨le_refl _,jB⟩
 obtain⟨E,M'⟩:=M.grow (fz':=fz) h (fun h=>h) h2 (fun b hb=>⟨hG b hb,zj.1 b hb⟩) yZ (n:=xs'.length) h4 (fun hf=>by rw[hfz hf];exact le_refl _) (fun hf=>by rw[length_append,hfz hf];omega) jK
 refine⟨v',w',hr,M',Step.grow M h h2 (fun b hb=>hG b hb) yZ E,ys++zs,by rw[length_append];exact h1,fun b hb=>?_,?_,jK,fun b hb=>?_,fun he j y hy hj=>?_⟩
 ·exact Gh.grow_self hb
 ·show Alike _ _ _ ((xs'++news).flatMap AV.cells)
  rw[List.flatMap_append];exact(xA.append j7).keep E.A
 ·rcases h3 with h3|h3
  ·exact zj.1 b (h3 ▸ hb)
  ·rw[hb]at h3
   obtain rfl:b=w.heap.size:=by simpa using h3
   exact M.sub_new (le_refl _)
 ·have hyl:ys.length=xs'.length * sz:=by rw[xA.1,Q2F xs' xB]
  have old:∀{j:Nat}{y:Value},(ys++zs)[j]?=some y->j % sz=1->(ys[j]?=some y)\/y=.slice none 0 0:=fun {j y} hy hj=>by
   by_cases jB:j<ys.length
   ·rw[List.getElem?_append_left jB]at hy;exact .inl hy
   ·rw[List.getElem?_append_right (by omega)]at hy
    refine .inr (QeS (g:=g) (w:=w) vL j7 hw he hy ?_);rw[hyl];have:j=(j-xs'.length * sz)+xs'.length * sz:=by omega
    rw[this,Nat.add_mul_mod_self_right]at hj;exact hj
  rcases old hy hj with h5|rfl
  ·obtain⟨⟨k,us,h6,h7⟩,h8⟩:=zj.2 he j y h5 hj
   have ne:∀{b:Nat},y.ownBlock=some b->some b≠v.ownBlock:=fun {b} hb h9=>by
    have:=zj.1 b h9.symm
    rw[(h7 b hb).2.1]at this;cases this
   refine⟨⟨k,us,Q3C h6 fun b hb=>?_,fun b hb=>?_⟩,fun i z b hz hi xC ya=>?_⟩
   ·exact h2.block b (M.own b id (h7 b hb).1).1 (ne hb)
   ·obtain⟨h9,q9,vn⟩:=h7 b hb
    exact⟨M.grow_sub (fun b hb=>⟨hG b hb,zj.1 b hb⟩) yZ h9 q9,q9,vn⟩
   ·rcases old hz hi with h9|rfl
    ·exact h8 i z b h9 hi xC ya
    ·cases xC
  ·exact⟨KidV.nil,fun _ _ b _ _ _ h=>by cases h⟩
theorem Qqy{s:St}(M:Mem w g s.ob){E U:Nat}{v:Value}{y:AV}(hv:ARel w g s.ob v y){sz:Nat}{news:List AV}(h:Qc6 std ty s E U y=some (sz,news)):∀x∈news,x.cells.length=sz:=by
 have cutw:∀{xs:List AV}{k:Int},(∀x∈xs,x.cells.length=sz)->∀x∈std.cut xs 0 k,x.cells.length=sz:=fun hw x hx=>by
  have:x∈(_:List AV):=hx
  exact hw x (List.mem_of_mem_drop (List.mem_of_mem_take hx))
 unfold Qc6 at h;split at h
 ·split at h
  ·obtain⟨rfl,rfl⟩:1=sz/\std.bytesS _=news:=by simpa using h
   intro x hx;obtain⟨n,_,rfl⟩:=mem_map.1 (show x∈List.map _ _ from hx);rfl
  ·cases h
 ·split at h
  ·obtain⟨_,rfl⟩:_/\[]=news:=by simpa using h
   intro x hx;cases hx
  ·cases h
 ·split at h
  ·cases y with
   |slc sz' l =>
    obtain⟨rfl,rfl⟩:sz'=sz/\l=news:=by simpa[Q7f]using h
    cases(show PRel w g.A v (.slc sz' l) from hv)with
    |nil=>intro x hx;cases hx
    |slc b o c _ _ f hc hm hw hcell hrel=>exact hw
   |row id ep =>
    obtain⟨_,et,sz',fz,e,xs',h1,h2,h3⟩:=hv;simp only[Q7f,h1]at h;split at h
    ·obtain⟨rfl,rfl⟩:sz'=sz/\xs'=news:=by simpa using h
     exact(M.roww _ _ _ _ _ _ h1).2
    ·cases h
   |rowk id ep k =>
    obtain⟨_,et,sz',fz,e,xs',h1,h2,h3⟩:=hv;simp only[Q7f,h1]at h;split at h
    ·obtain⟨rfl,rfl⟩:sz'=sz/\std.cut xs' 0 k=news:=by simpa using h
     exact cutw (M.roww _ _ _ _ _ _ h1).2
    ·cases h
   |_=>simp[Q7f]at h
  ·cases h
theorem Q5q(hT:TyOk P ty){K:St->Tree}{o:Oper}{s:St}{a:Act}{w:World}{R:Exit->Act->World->Prop}(hs:Sim w0 g0 o0 N s a w)(hd:∀t,o.dst=some t->t<N)
  {x y:Operand} {args:Array Operand} {tys:Array TypeId} (ho:o.op=.call { callee:=.builtin .append,args:=args,argTypes:=tys }) (ha:args.toList=[x,y]) {T U:Nat} (ht:tys.toList=[T,U])
  {ob:List Ob} (jQ:∀g,Mem w g s.ob->Mem w g ob/\Ext w g s.ob w g ob/\Step w g s.ob w g ob) {id et sz ep:Nat} {fz:Bool} {xs xs' news:List AV} (h:ob[id]?=some (.row et sz fz ep xs))
  (hv:∀g,Mem w g s.ob->Q1q w g s a->RowV w g id et sz (a.eval x) xs') (hfz:fz=true->xs'=xs) (jv:Q6o ty T sz=true) (xu:et=(Q2 T ty).elem)
  (zk:Qc6 std ty s et U (ev s y)=some (sz,news)) (vL:Qa3 et news=true) (hb:std.bnd xs' news)
  (jA:(K (St.put ⟨s.tm,ob.set id (.row et sz fz (ep+1) (std.app xs' news))⟩ o.dst (.row id (ep+1)))).ok P w0 g0 o0 N Q):o.wp P a w (Q3U ty P w0 g0 o0 N Q K o.op w) R:=by
 obtain⟨g,M,hS,h0⟩:=hs.rel;obtain⟨M1,E1,S1⟩:=jQ g M;obtain⟨e,xv,ql,te,zU,jf⟩:=Q4O hT jv;have kO:=QE hS y;have hw:=Qqy M kO zk;have hes':(Q2 et ty).size=sz:=by rw[xu,<-ql];exact zU
 obtain⟨d,zs,hu,hd',kN,j7,jH,kr⟩:=Qow hT M kO zk hes' jf hw;obtain⟨v',w',hr,M2,S2,R2⟩:=Qef hT (a:=a) (s:=s) M1 h (hv g M hS) hfz jv xu hu hd' kN j7 jH kr hw vL hb o.type;have hargs:args=#[x,y]:=by apply Array.ext';simpa using ha
 have htys:tys=#[T,U]:=by apply Array.ext';simpa using ht
 subst hargs htys
 have jc:(execOp a.eval o).run P w=.ok (.value v') w':=by
  obtain⟨cs,hc⟩:=Q5R (P:=P) (a:=a) ho w;rw[hc];show(do pure (Next.value (<-Builtin.append_ #[T,U] o.type (Array.map a.eval #[x,y]))):Sem Next).run P w=_
  refine Q1v ?_;simpa using hr
 have yN:Q1q w g ⟨s.tm,ob⟩ a:=fun t=>(hS t).ext E1
 have jO:Sim w0 g0 o0 N ⟨s.tm,ob⟩ a w:=⟨hs.defers,hs.size,g,M1,yN,h0.trans S1⟩;refine Q49 jc ⟨fun h=>by simp[ho,Q3f]at h,_,Q1z (s:=⟨s.tm,ob⟩) jO yN (h0.trans S1) M2 S2 hd ?_,jA⟩
 refine⟨?_,et,sz,fz,ep+1,xs'++news,getElem?_set_self (Q8 h),le_refl _,fun _=>R2⟩
 obtain⟨ys,xD,_⟩:=R2;rcases xD.2 with ⟨rfl,_⟩|⟨b,cap,cur,rfl,_⟩<;>rfl
end
section
variable {P:Program}{ty:Tys}{w0:World}{g0:Gh}{o0:List Ob}{N:Nat}{Q:Ex->St->Prop}{w w':World}{g g':Gh}{ob ob':List Ob}
theorem QkC(hT:TyOk P ty){K:St->Tree}{o:Oper}{s:St}{a:Act}{w:World}{R:Exit->Act->World->Prop}(hs:Sim w0 g0 o0 N s a w)(hd:∀t,o.dst=some t->t<N)
  {src dst:Nat} {x:Operand} (ho:o.op=.convert src dst x) {b:ByteArray} (hx:ev s x=.val (.string b)) (h1:(Q2 src ty).kd=6) (h2:(Q2 dst ty).sl=true) (h3:(Q2 (Q2 dst ty).elem ty).kind=some .u8) (hb:b.size<=1000000000)
  (jA:(K (St.put s o.dst (.slc 1 (std.bytesS b)))).ok P w0 g0 o0 N Q):o.wp P a w (Q3U ty P w0 g0 o0 N Q K o.op w) R:=by
 obtain⟨g,M,hS,h0⟩:=hs.rel;have jk:=QE hS x;rw[hx]at jk;have jO:=(Q4N hT h1 (by decide)).str h1
 have jV:=(QaK hT h2).slice h2;have zG:=(Q84 hT h3).int h3;have cH:=grownCap_ge w b.size 0 (Q2 dst ty).elem;have vG:=grownCap_le_maxLen w b.size 0 (Q2 dst ty).elem (by unfold maxLen;omega)
 have hr:=run_bytes_of_string (P:=P) w src dst _ b jO jV zG;generalize hC:bytesRow b (grownCap w b.size 0 (Q2 dst ty).elem)=C at hr;generalize grownCap w b.size 0 (Q2 dst ty).elem=c at *;have zH:Below w.heap.size w (w.drew.alloc (.cells C (Q2 dst ty).elem (C.size,C.size+1))):=(Below.refl _ w).drew.alloc (le_refl _) _;have M':=M.immNew zH
 have jc:(execOp a.eval o).run P w=.ok (.value (.slice (some ⟨w.heap.size,0,none⟩) b.size c)) (w.drew.alloc (.cells C (Q2 dst ty).elem (C.size,C.size+1))):=by
  simp only[execOp,ho,jk.valEq];exact Q1v hr
 have hl:(std.bytesS b).length=b.size:=by show(b.data.toList.map _).length=_;simp
 have hbb:std.isB (std.bytesS b):=fun x hx=>by
  obtain⟨n,_,rfl⟩:=mem_map.1 (show x∈b.data.toList.map _ from hx);exact⟨n,rfl⟩
 have hcell:∀(j:Nat) u,(QF (std.bytesS b))[j]?=some u->∃n:UInt8,C[j]?=some (.int .u8 n.toNat)/\u=.val (.int .u8 n.toNat):=fun j u hu=>by
  rw[QaY hbb]at hu;have hu:(b.data.toList.map fun x=>AV.val (.int .u8 x.toNat))[j]?=some u:=hu
  rw[getElem?_map,Option.map_eq_some_iff]at hu;obtain⟨n,hn,rfl⟩:=hu;have hj:=Q8 hn;refine⟨n,?_,rfl⟩;rw[<-hC,bytesRow,Array.getElem?_append_left (by simpa using hj)]
  rw[Array.getElem?_map,<-Array.getElem?_toList,hn];rfl
 have hA:∀j,(g.imm w (w.drew.alloc (.cells C (Q2 dst ty).elem (C.size,C.size+1)))).A w.heap.size j:=fun j=>.inr ⟨le_refl _,by simp⟩
 refine Q49 jc ⟨fun _=>zH,_,Q1z hs hS h0 M' (Step.immNew M zH) hd ?_,jA⟩
 have:=PRel.slc (w:=w.drew.alloc (.cells C (Q2 dst ty).elem (C.size,C.size+1))) (A:=(g.imm w (w.drew.alloc (.cells C (Q2 dst ty).elem (C.size,C.size+1)))).A) w.heap.size 0 c 1 (std.bytesS b) (fun j=>(C[j]?).getD undef) (by rw[hl];exact cH) vG
  (fun x hx=>by obtain⟨n,rfl⟩:=hbb x hx;rfl) (fun j u hu=>by
   obtain⟨n,h4,_⟩:=hcell j u hu;refine⟨hA _,?_⟩;rw[zero_add,h4];exact(World.cell?_alloc_mark w.drew C _ _ j).trans h4) (fun j u hu=>by
   obtain⟨n,h4,rfl⟩:=hcell j u hu;simp only[h4];exact PRel.val _ rfl)
 rw[hl]at this;exact this
theorem Q6M{b b' n:Nat}(h:b'≠b):(w.freeze ⟨b,n,none⟩ 1).heap[b']?=w.heap[b']?:=by
 unfold World.freeze;rw[if_neg (by decide)]
 simp only[Array.getElem?_modify];rw[if_neg (by omega)]
theorem Q8P{b n:Nat}(p:Addr):(w.freeze ⟨b,n,none⟩ 1).cell? p=w.cell? p:=by
 unfold World.freeze;rw[if_neg (by decide)]
 unfold World.cell?;simp only[Array.getElem?_modify];by_cases hb:b=p.block
 ·rw[if_pos hb]
  cases w.heap[p.block]? with
  |none=>rfl
  |some o=>cases o<;>rfl
 ·rw[if_neg hb]
theorem Qmu(M:Mem w g ob){id et sz e b:Nat}{fz:Bool}{xs:List AV}(h:ob[id]?=some (.row et sz fz e xs))(hG:g.G b=some id)(n:Nat) :
  Mem (w.freeze ⟨b,n,none⟩ 1) g (ob.set id (.row et sz fz (e+1) xs))/\Step w g ob (w.freeze ⟨b,n,none⟩ 1) g (ob.set id (.row et sz fz (e+1) xs)):=by
 have hid:=Q8 h
 have jh:(w.freeze ⟨b,n,none⟩ 1).heap.size=w.heap.size:=by
  unfold World.freeze;rw[if_neg (by decide)]
  simp
 have E:Ext w g ob (w.freeze ⟨b,n,none⟩ 1) g (ob.set id (.row et sz fz (e+1) xs)):=by
  refine⟨fun b o h=>⟨h,Q8P _⟩,fun _ _=>rfl,fun i hi=>?_,fun i hi=>?_,fun i et' sz' fz2 e2 xs2 hi=>?_,fun b' i _ _=>⟨rfl,fun _ _ h=>h⟩⟩
  ·have:i≠id:=by rintro rfl;rw[h]at hi;exact hi
   rw[getElem?_set_ne (Ne.symm this)];exact hi
  ·have:i≠id:=by rintro rfl;rw[h]at hi;exact hi
   rw[getElem?_set_ne (Ne.symm this)];exact hi
  ·by_cases e':i=id
   ·subst e'
    rw[h]at hi;obtain⟨rfl,rfl,rfl,rfl,rfl⟩:et=et'/\sz=sz'/\fz=fz2/\e=e2/\xs=xs2:=by simpa using hi
    exact⟨fz,e+1,xs,getElem?_set_self hid,by omega,fun he=>by omega⟩
   ·refine⟨fz2,e2,xs2,by rw[getElem?_set_ne (Ne.symm e')];exact hi,le_refl _,fun _=>.inl ⟨rfl,fun b' vT=>⟨vT,Q6M ?_⟩⟩⟩
    rintro rfl;rw[hG]at vT;exact e' (by simpa using vT.symm)
 refine⟨⟨fun i cs hi=>?_,fun i cs hi j u hj=>?_,fun i y hi=>?_,fun b i hG=>⟨by rw[jh];exact(M.own b i hG).1,by rw[length_set];exact(M.own b i hG).2⟩,fun b' o hA=>⟨by rw[jh];exact(M.imm b' o hA).1,fun i yL hs=>?_⟩,fun i et' sz' fz2 e2 xs2 hi=>?_,fun b' hs=>?_,M.uniq⟩,
  ⟨rfl,rfl,rfl,by rw[jh];exact le_refl _,fun b' _ hN=>Q6M (by rintro rfl;rw[hG]at hN;cases hN),fun b' i h=>.inl ⟨i,h⟩,fun b' o h=>.inl h,E,by simp⟩⟩
 ·have e':i≠id:=by rintro rfl;rw[getElem?_set_self hid]at hi;cases hi
  rw[getElem?_set_ne (Ne.symm e')]at hi;obtain⟨h1,cur,T,h2,h3⟩:=M.box i cs hi;refine⟨h1,cur,T,?_,h3.ext E⟩;rw[Q6M]
  ·exact h2
  ·intro hb
   rw[hb,hG]at h1;exact e' (by simpa using h1.symm)
 ·have e':i≠id:=by rintro rfl;rw[getElem?_set_self hid]at hi;cases hi
  rw[getElem?_set_ne (Ne.symm e')]at hi;obtain⟨h1,y,h2,h3⟩:=M.fbox i cs hi j u hj;exact⟨h1,y,by rw[Q8P];exact h2,h3.keep E.A⟩
 ·have e':i≠id:=by rintro rfl;rw[getElem?_set_self hid]at hi;cases hi
  rw[getElem?_set_ne (Ne.symm e')]at hi;obtain⟨h1,h2⟩:=M.iter i y hi;refine⟨h1,h2.at E.A E.loc (by simp) ?_⟩
  rw[Q6M]
  ·intro hb
   rw[hb,hG]at h1;exact e' (by simpa using h1.symm)
 ·obtain⟨et',sz',e2,xs2,h3,h4⟩:=(M.imm b' o hA).2 i yL hs
  by_cases e':i=id
  ·subst e'
   rw[h]at h3;obtain⟨rfl,rfl,rfl,rfl,rfl⟩:et=et'/\sz=sz'/\fz=true/\e=e2/\xs=xs2:=by simpa using h3
   exact⟨et,sz,e+1,xs,getElem?_set_self hid,h4⟩
  ·exact⟨et',sz',e2,xs2,by rw[getElem?_set_ne (Ne.symm e')];exact h3,h4⟩
 ·by_cases e':i=id
  ·subst e'
   rw[getElem?_set_self hid]at hi;cases hi;exact M.roww _ _ _ _ _ _ h
  ·rw[getElem?_set_ne (Ne.symm e')]at hi
   exact M.roww i _ _ _ _ _ hi
 ·obtain⟨i,et',sz',fz2,e2,xs2,h3,h4⟩:=M.nsub b' hs
  by_cases e':i=id
  ·subst e'
   exact⟨i,_,_,_,_,_,h3,getElem?_set_self hid⟩
  ·exact⟨i,et',sz',fz2,e2,xs2,h3,by rw[getElem?_set_ne (Ne.symm e')];exact h4⟩
theorem Qn9(hT:TyOk P ty){K:St->Tree}{o:Oper}{s:St}{a:Act}{w:World}{R:Exit->Act->World->Prop}(hs:Sim w0 g0 o0 N s a w)(hd:∀t,o.dst=some t->t<N)
  {src:Nat} {x:Operand} (ho:o.op=.convert src src x) {id et e:Nat} {xs:List AV} (hx:ev s x=.row id e) (jQ:s.ob[id]?=some (.row et 1 false e xs)) (h2:(Q2 src ty).sl=true) (h3:(Q2 (Q2 src ty).elem ty).kind=some .u8) (hm:xs≠[])
  (jA:(K (St.put ⟨s.tm,s.ob.set id (.row et 1 true (e+1) xs)⟩ o.dst (.slc 1 xs))).ok P w0 g0 o0 N Q):o.wp P a w (Q3U ty P w0 g0 o0 N Q K o.op w) R:=by
 obtain⟨g,M,hS,h0⟩:=hs.rel;have jk:=QE hS x;rw[hx]at jk;obtain⟨_,et',sz',fz',e',xs',h4,_,h5⟩:=jk;rw[jQ]at h4;cases h4;have jl:=h5 rfl;obtain⟨ys,jP,hG,j7,hw,vL⟩:=h5 rfl;have jV:=(QaK hT h2).slice h2;have zG:=(Q84 hT h3).int h3;obtain⟨g1,M1,E1,vB,hL1⟩:=Q5S M jQ jl (le_refl _);obtain⟨jH,hnil|⟨b,cap,cur,hv,jJ,pX,gE⟩⟩:=jP
 ·exfalso
  apply hm;exact eq_nil_of_length_eq_zero hnil.2
 have qJ:g.G b=some id:=hG b (by rw[hv];rfl)
 have hG1:g1.G b=some id:=by
  have:=(E1.row id et 1 false e xs jQ)
  obtain⟨fz1,e1,xs1,k1,k2,k3⟩:=this;rw[getElem?_set_self (Q8 jQ)]at k1;obtain⟨rfl,rfl,rfl⟩:true=fz1/\e=e1/\xs=xs1:=by simpa using k1
  exact(k3 rfl).G qJ
 have hob1:(s.ob.set id (.row et 1 true e xs))[id]?=some (.row et 1 true e xs):=getElem?_set_self (Q8 jQ);obtain⟨M2,S2⟩:=Qmu M1 hob1 hG1 cur.size;rw[List.set_set]at M2 S2
 have jc:(execOp a.eval o).run P w=.ok (.value (a.eval x)) (w.freeze ⟨b,cur.size,none⟩ 1):=by
  simp only[execOp,ho,hv];refine Q1v ?_;have yE:w.shape? b=some (et,cur.size):=by unfold World.shape?;rw[pX]
  simp[convert,run_underlying jV,run_underlying zG,markStringish,yE]
 have jG:=(Step.ghost (ob':=s.ob.set id (.row et 1 true e xs)) E1 hL1).trans S2;refine Q49 jc ⟨fun hq=>?_,_,Q1z (g':=g1) hs hS h0 M2 jG hd ?_,jA⟩
 ·simp[ho,Q3f,h2]at hq
 ·have:PRel (w.freeze ⟨b,cur.size,none⟩ 1) g1.A (a.eval x) (.slc 1 xs):=vB.keep fun b' o' h=>⟨h,Q8P _⟩
  exact this
theorem Qk0(hT:TyOk P ty){K:St->Tree}{o:Oper}{s:St}{a:Act}{w:World}{R:Exit->Act->World->Prop}(hs:Sim w0 g0 o0 N s a w)(hd:∀t,o.dst=some t->t<N)
  {T:Nat} {x:Operand} (ho:o.op=.range T x) {b:ByteArray} (hx:ev s x=.val (.string b)) (h1:(Q2 T ty).kd=6)
  (jA:(K (St.put ⟨s.tm,s.ob++[.iter (.str b 0)]⟩ o.dst (.iter s.ob.length))).ok P w0 g0 o0 N Q):o.wp P a w (Q3U ty P w0 g0 o0 N Q K o.op w) R:=by
 obtain⟨g,M,hS,h0⟩:=hs.rel;have jk:=QE hS x;rw[hx]at jk;have jO:=(Q4N hT h1 (by decide)).str h1
 have hr:(execOp a.eval o).run P w=.ok (.value (.pointer (some ⟨w.heap.size,0,none⟩))) (w.alloc (.stringIter b 0)):=by
  simp only[execOp,ho,jk.valEq];refine Q1v ?_;simp only[Instr.range,Sem.run_bind,run_underlying jO,Result.andThen_ok,Sem.run_pure,run_newObj];rfl
 have M':=M.new (.stringIter b 0) (.iter (.str b 0)) (fun cs h=>by cases h) (fun cs h=>by cases h) (fun y h=>by cases h;rfl) (fun et sz fz e xs h=>by cases h)
 refine Q49 hr ⟨fun _=>(Below.refl _ w).alloc (le_refl _) _,_,Q1z hs hS h0 M' (Step.new M _ _) hd ?_,jA⟩
 refine⟨false,by simp[Gh.new,Qbi],?_⟩
 rw[Q3q];rfl
theorem Q9R(M:Mem w g ob){id:Nat}{x x':It}{o':Obj}(h:ob[id]?=some (.iter x))(vw:∀{k:Bool},Q8w k (some (.iter x))->Q8w k (some (.iter x')))(hI:ItRel w g.A g.loc ob.length x' (some o')) :
  Mem { w with heap:=w.heap.setIfInBounds (g.loc id) o' } g (ob.set id (.iter x'))/\Step w g ob { w with heap:=w.heap.setIfInBounds (g.loc id) o' } g (ob.set id (.iter x')):=by
 have hid:=Q8 h;obtain⟨hG,hh⟩:=M.iter id x h;have jB:=(M.own _ _ hG).1
 have other:∀{k:Nat},k≠g.loc id->({ w with heap:=w.heap.setIfInBounds (g.loc id) o' }:World).heap[k]?=w.heap[k]?:=fun hk=>by
  show(w.heap.setIfInBounds _ _)[_]?=_
  rw[Array.getElem?_setIfInBounds_ne (Ne.symm hk)]
 have ne:∀{k i:Nat},g.G k=some i->i≠id->k≠g.loc id:=by
  rintro k i h1 h2 rfl;rw[hG]at h1;exact h2 (by simpa using h1.symm)
 have hA:∀k o,g.A k o->k≠g.loc id:=by
  rintro k o h1 rfl;obtain⟨et,sz,e,xs,h2,_⟩:=(M.imm _ _ h1).2 id hG (M.nosub hG fun _ _ _ _ _ h3=>by rw[h]at h3;cases h3)
  rw[h]at h2;cases h2
 have E:Ext w g ob { w with heap:=w.heap.setIfInBounds (g.loc id) o' } g (ob.set id (.iter x')):=by
  refine⟨fun k o h1=>⟨h1,World.cell?_of_block (w:=w) (other (hA k o h1))⟩,fun _ _=>rfl,fun i hi=>?_,fun i hi=>?_,fun i et sz fz e xs hi=>?_,fun _ _ _ _=>⟨rfl,fun _ _ h=>h⟩⟩
  ·have:i≠id:=by rintro rfl;rw[h]at hi;exact hi
   rw[getElem?_set_ne (Ne.symm this)];exact hi
  ·by_cases e:i=id
   ·subst e;rw[getElem?_set_self hid];rw[h]at hi;exact vw hi
   ·rw[getElem?_set_ne (Ne.symm e)];exact hi
  ·have:i≠id:=by rintro rfl;rw[h]at hi;cases hi
   exact⟨fz,e,xs,by rw[getElem?_set_ne (Ne.symm this)];exact hi,le_refl _,fun _=>.inl ⟨rfl,fun k hk=>⟨hk,other (ne hk this)⟩⟩⟩
 have jh:({ w with heap:=w.heap.setIfInBounds (g.loc id) o' }:World).heap.size=w.heap.size:=by show(w.heap.setIfInBounds _ _).size=_;simp
 refine⟨⟨fun i cs hi=>?_,fun i cs hi j u hj=>?_,fun i y hi=>?_,fun k i hk=>by rw[jh,length_set];exact M.own k i hk,fun k o h1=>?_,fun i et sz fz e xs hi=>?_,fun b hs=>?_,M.uniq⟩,
  ⟨rfl,rfl,rfl,by rw[jh];exact le_refl _,fun k _ hk=>other (fun e=>by rw[e,hG]at hk;cases hk),fun k i hk=>.inl ⟨i,hk⟩,fun _ _ h=>.inl h,E,by simp⟩⟩
 ·have e':i≠id:=by rintro rfl;rw[getElem?_set_self hid]at hi;cases hi
  rw[getElem?_set_ne (Ne.symm e')]at hi;obtain⟨h1,cur,T,h2,h3⟩:=M.box i cs hi;exact⟨h1,cur,T,(other (ne h1 e')).trans h2,h3.ext E⟩
 ·have e':i≠id:=by rintro rfl;rw[getElem?_set_self hid]at hi;cases hi
  rw[getElem?_set_ne (Ne.symm e')]at hi;obtain⟨h1,y,h2,h3⟩:=M.fbox i cs hi j u hj;exact⟨h1,y,(E.A _ _ h1).2.trans h2,h3.keep E.A⟩
 ·by_cases e':i=id
  ·subst e'
   rw[getElem?_set_self hid]at hi;obtain rfl:x'=y:=by simpa using hi
   exact⟨hG,hI.at E.A (fun _ _=>rfl) (by simp) (by show(w.heap.setIfInBounds _ _)[_]?=_;rw[Array.getElem?_setIfInBounds_self,if_pos jB])⟩
  ·rw[getElem?_set_ne (Ne.symm e')]at hi
   obtain⟨h1,h2⟩:=M.iter i y hi;exact⟨h1,h2.at E.A (fun _ _=>rfl) (by simp) (other (ne h1 e'))⟩
 ·obtain⟨h2,h3⟩:=M.imm k o h1
  refine⟨by rw[jh];exact h2,fun i hk hs=>?_⟩
  obtain⟨et,sz,e,xs,h4,h5⟩:=h3 i hk hs;have e':i≠id:=by rintro rfl;rw[h]at h4;cases h4
  exact⟨et,sz,e,xs,by rw[getElem?_set_ne (Ne.symm e')];exact h4,h5⟩
 ·have e':i≠id:=by rintro rfl;rw[getElem?_set_self hid]at hi;cases hi
  rw[getElem?_set_ne (Ne.symm e')]at hi;exact M.roww i et sz fz e xs hi
 ·obtain⟨i,et,sz,fz,e,xs,h3,h4⟩:=M.nsub b hs
  have e':i≠id:=by rintro rfl;rw[h]at h4;cases h4
  exact⟨i,et,sz,fz,e,xs,h3,by rw[getElem?_set_ne (Ne.symm e')];exact h4⟩
theorem Qoq{K:St->Tree}{o:Oper}{s:St}{a:Act}{w:World}{R:Exit->Act->World->Prop}(hs:Sim w0 g0 o0 N s a w)(hd:∀t,o.dst=some t->t<N)
  {it:Operand} (ho:o.op=.next it true) {id:Nat} (hi:ev s it=.iter id) {b:ByteArray} {pos:Nat} (jQ:s.ob[id]?=some (.iter (.str b pos)))
  (ht:std.itmore b pos=true->(K (St.put ⟨s.tm,s.ob.set id (.iter (.str b (std.itp b pos)))⟩ o.dst (.tup [.kb true,.val (.int .i64 (std.toI pos)),.val (.int .i32 (std.itr b pos))]))).ok P w0 g0 o0 N Q)
  (hf:std.itmore b pos=false->(K (St.put s o.dst (.tup [.kb false]))).ok P w0 g0 o0 N Q):o.wp P a w (Q3U ty P w0 g0 o0 N Q K o.op w) R:=by
 obtain⟨g,M,hS,h0⟩:=hs.rel;have gK:=QE hS it;rw[hi]at gK
 have hv:a.eval it=.pointer (some ⟨g.loc id,0,none⟩):=by
  obtain⟨k,h1,h2⟩:=gK;rw[jQ]at h2;obtain rfl:k=false:=h2;exact h1
 obtain⟨hG,hh⟩:=M.iter id _ jQ;have hh:w.heap[g.loc id]?=some (.stringIter b pos):=hh;have vv:(getObj (g.loc id)).run P w=.ok (.stringIter b pos) w:=by simp[getObj,Sem.run,hh]
 by_cases jB:pos<b.size
 ·obtain⟨M',S'⟩:=Q9R M (x':=.str b (std.itp b pos)) (o':=.stringIter b (std.itp b pos)) jQ (fun h=>h) rfl
  have hr:(execOp a.eval o).run P w=.ok (.value (.tuple #[.bool true,.int .i64 pos,.int .i32 ((Utf8.decode b pos).1:Int)])) { w with heap:=w.heap.setIfInBounds (g.loc id) (.stringIter b (std.itp b pos)) }:=by
   simp only[execOp,ho,hv];refine Q1v ?_
   have vy:(setObj (g.loc id) (.stringIter b (pos+(Utf8.decode b pos).2))).run P w=.ok () { w with heap:=w.heap.setIfInBounds (g.loc id) (.stringIter b (std.itp b pos)) }:=by
    simp only[setObj,Sem.run,hh];rfl
   simp only[Instr.next,Sem.run_bind,vv,Result.andThen_ok,jB,if_true,vy,Sem.run_pure,goInt]
  refine Q49 hr ⟨fun h=>by simp[ho,Q3f]at h,_,Q1z hs hS h0 M' S' hd ?_,ht (by show decide (pos<b.size)=true;simp[jB])⟩
  refine⟨_,rfl,rfl,fun j y u hy hu=>?_⟩
  match j,hy,hu with
  |0,hy,hu =>
   obtain rfl:Value.bool true=y:=by simpa using hy
   obtain rfl:AV.kb true=u:=by simpa using hu
   exact(rfl:Value.bool true=.bool true)
  |1,hy,hu =>
   obtain rfl:Value.int .i64 pos=y:=by simpa using hy
   obtain rfl:AV.val (.int .i64 (std.toI pos))=u:=by simpa using hu
   exact PRel.val _ rfl
  |2,hy,hu =>
   obtain rfl:Value.int .i32 ((Utf8.decode b pos).1:Int)=y:=by simpa using hy
   obtain rfl:AV.val (.int .i32 (std.itr b pos))=u:=by simpa using hu
   exact PRel.val _ rfl
  |j+3,hy,_=>simp at hy
 ·have hr:(execOp a.eval o).run P w=.ok (.value (.tuple #[.bool false])) w:=by
   simp only[execOp,ho,hv];refine Q1v ?_;simp only[Instr.next,Sem.run_bind,vv,Result.andThen_ok,jB,if_false,Sem.run_pure]
  refine Q49 hr ⟨fun h=>by simp[ho,Q3f]at h,_,Q1z hs hS h0 M Step.refl hd (x:=.tup [.kb false]) ?_,hf (by show decide (pos<b.size)=false;simp[jB])⟩
  refine⟨_,rfl,rfl,fun j y u hy hu=>?_⟩
  match j,hy,hu with
  |0,hy,hu =>
   obtain rfl:Value.bool false=y:=by simpa using hy
   obtain rfl:AV.kb false=u:=by simpa using hu
   exact(rfl:Value.bool false=.bool false)
  |j+1,hy,_=>simp at hy
end
