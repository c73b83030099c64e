/- Lemmas, conditions told -/
import Derived.Test.YtlaegncokadkkaaGreatG05
import Derived.Great.BuildSlice
set_option maxRecDepth 99999
set_option maxHeartbeats 0
set_option linter.unusedSimpArgs false
set_option linter.unusedVariables false
namespace Go.Proofs.YtlaegncokadkkaaGreat
open List(getElem?_set_ne getElem?_set_self length_set eq_nil_of_length_eq_zero getElem?_eq_getElem length_take getElem?_drop map_cons all_eq_true mem_of_getElem? length_append flatMap_cons append_assoc getElem?_map mem_map)
open Nat(le_refl zero_add le_trans add_mul)
open Go.RowKit Go.Lib
section
variable {w:World}{g:Gh}{ob:List Ob}
structure GhLe (g g':Gh) (ob ob':List Ob):Prop where
 A:∀b o,g'.A b o->g.A b o\/∃id,g.G b=some id
 G:∀b id,g'.G b=some id->g.G b=some id
 loc:g'.loc=g.loc
 len:ob'.length=ob.length
theorem GhLe.refl:GhLe g g ob ob:=⟨fun _ _ h=>.inl h,fun _ _ h=>h,rfl,rfl⟩
theorem GhLe.trans{g1 g2 g3:Gh}{o1 o2 o3:List Ob}(h:GhLe g1 g2 o1 o2)(k:GhLe g2 g3 o2 o3):GhLe g1 g3 o1 o3 :=
 ⟨fun b o h3=>by
  rcases k.A b o h3 with h2|⟨id,h2⟩
  ·exact h.A b o h2
  ·exact .inr ⟨id,h.G b id h2⟩,fun b id h3=>h.G b id (k.G b id h3),k.loc.trans h.loc,k.len.trans h.len⟩
theorem Ext.trans{w1 w2 w3:World}{g1 g2 g3:Gh}{o1 o2 o3:List Ob}(h:Ext w1 g1 o1 w2 g2 o2)(k:Ext w2 g2 o2 w3 g3 o3)(hl:o1.length<=o2.length):Ext w1 g1 o1 w3 g3 o3:=by
 refine⟨fun b o hA=>⟨(k.A b o (h.A b o hA).1).1,(k.A b o (h.A b o hA).1).2.trans (h.A b o hA).2⟩,fun id hid=>(k.loc id (by omega)).trans (h.loc id hid),fun id hi=>k.isb id (h.isb id hi),fun id hi=>k.isi id (h.isi id hi),fun id et sz fz e xs hr=>?_,fun b id hG hs=>?_⟩
 rotate_left
 ·obtain⟨et,sz,fz,fz',e,xs,xs',hr,vQ⟩:=hs
  obtain⟨fz2,e2,xs2,h1,h2,h3⟩:=h.row id et sz fz e xs hr;obtain⟨fz3,e3,xs3,h4,h5,h6⟩:=k.row id et sz fz2 e2 xs2 h1;rw[h4]at vQ;obtain⟨rfl,rfl,rfl⟩:fz3=fz'/\e3=e/\xs3=xs':=by simpa using vQ
  obtain rfl:e2=e3:=by omega
  obtain⟨h7,h8⟩:=h.sub b id hG ⟨_,_,_,_,_,_,_,hr,h1⟩;obtain⟨h9,qX⟩:=k.sub b id ((h3 rfl).G hG) ⟨_,_,_,_,_,_,_,h1,h4⟩;exact⟨h9.trans h7,fun vj o hA=>h8 vj o (qX (h7.trans vj) o hA)⟩
 obtain⟨fz2,e2,xs2,h1,h2,h3⟩:=h.row id et sz fz e xs hr;obtain⟨fz3,e3,xs3,h4,h5,h6⟩:=k.row id et sz fz2 e2 xs2 h1;refine⟨fz3,e3,xs3,h4,by omega,fun he=>?_⟩
 obtain rfl:e2=e:=by omega
 exact(h3 rfl).trans (h6 (by omega)) k.A fun b hG=>(h.sub b id hG ⟨_,_,_,_,_,_,_,hr,h1⟩).1
def Gh.frz(g:Gh)(b n:Nat):Gh:=⟨fun b' o=>g.A b' o\/(b'=b/\o<n),g.G,g.loc,g.sub⟩
theorem Q71(M:Mem w g ob){id et sz ep:Nat}{fz:Bool}{xs:List AV}(h:ob[id]?=some (.row et sz fz ep xs)){v:Value}{ys:List AV}(hv:RowV w g id et sz v ys)(hl:ys.length<=xs.length) :
  ∃g',Mem w g' (ob.set id (.row et sz true ep xs))/\Ext w g ob w g' (ob.set id (.row et sz true ep xs))/\PRel w g'.A v (.slc sz ys)/\GhLe g g' ob (ob.set id (.row et sz true ep xs)):=by
 have hid:=Q4 h;-- whatever the cells that are frozen: those of one block of this row
 have key:∀(b n:Nat),g.G b=some id->g.sub b=false->b<w.heap.size->n<=xs.length * sz ->
   Mem w (g.frz b n) (ob.set id (.row et sz true ep xs))/\Ext w g ob w (g.frz b n) (ob.set id (.row et sz true ep xs))/\GhLe g (g.frz b n) ob (ob.set id (.row et sz true ep xs)):=by
  intro b n hG vj hb hn
  have E:Ext w g ob w (g.frz b n) (ob.set id (.row et sz true ep xs)):=by
   refine⟨fun b o h=>⟨.inl h,rfl⟩,fun _ _=>rfl,fun i hi=>?_,fun i hi=>?_,fun i et' sz' fz2 e xs2 hi=>?_,fun b' _ _ _=>⟨rfl,fun h1 _ h2=>h2.resolve_right fun h3=>by rw[h3.1,vj]at h1;cases h1⟩⟩
   ·have:i≠id:=by rintro rfl;rw[h]at hi;exact hi
    rw[getElem?_set_ne (Ne.symm this)];exact hi
   ·have:i≠id:=by rintro rfl;rw[h]at hi;exact hi
    rw[getElem?_set_ne (Ne.symm this)];exact hi
   ·by_cases e':i=id
    ·subst e'
     rw[h]at hi;obtain⟨rfl,rfl,rfl,rfl,rfl⟩:et=et'/\sz=sz'/\fz=fz2/\ep=e/\xs=xs2:=by simpa using hi
     exact⟨true,ep,xs,getElem?_set_self hid,le_refl _,fun _=>.inl ⟨rfl,fun b hG=>⟨hG,rfl⟩⟩⟩
    ·exact⟨fz2,e,xs2,by rw[getElem?_set_ne (Ne.symm e')];exact hi,le_refl _,fun _=>.inl ⟨rfl,fun b hG=>⟨hG,rfl⟩⟩⟩
  refine⟨⟨fun i cs hi=>?_,fun i cs hi j u hj=>?_,fun i y hi=>?_,fun b i hG=>⟨(M.own b i hG).1,by rw[length_set];exact(M.own b i hG).2⟩,fun b' o hA=>?_,fun i et' sz' fz2 e xs2 hi=>?_,fun b' hs=>?_,M.uniq⟩,E,
   ⟨fun b' o hA=>hA.imp_right fun⟨h1,_⟩=>⟨id,h1 ▸ hG⟩,fun _ _ h=>h,rfl,by simp⟩⟩
  ·have e':i≠id:=by rintro rfl;rw[getElem?_set_self hid]at hi;cases hi
   rw[getElem?_set_ne (Ne.symm e')]at hi;obtain⟨h1,cur,T,h2,h3⟩:=M.box i cs hi;exact⟨h1,cur,T,h2,h3.ext E⟩
  ·have e':i≠id:=by rintro rfl;rw[getElem?_set_self hid]at hi;cases hi
   rw[getElem?_set_ne (Ne.symm e')]at hi;obtain⟨h1,y,h2,h3⟩:=M.fbox i cs hi j u hj;exact⟨.inl h1,y,h2,h3.keep E.A⟩
  ·have e':i≠id:=by rintro rfl;rw[getElem?_set_self hid]at hi;cases hi
   rw[getElem?_set_ne (Ne.symm e')]at hi;exact⟨(M.iter i y hi).1,(M.iter i y hi).2.at (fun b o h=>⟨.inl h,rfl⟩) E.loc (by simp) rfl⟩
  ·rcases hA with hA|⟨rfl,ho⟩
   ·obtain⟨h1,h2⟩:=M.imm b' o hA
    refine⟨h1,fun i vo hs=>?_⟩
    obtain⟨et',sz',e,xs2,h3,h4⟩:=h2 i vo hs;by_cases e':i=id
    ·subst e'
     rw[h]at h3;obtain⟨rfl,rfl,rfl,rfl,rfl⟩:et=et'/\sz=sz'/\fz=true/\ep=e/\xs=xs2:=by simpa using h3
     exact⟨et,sz,ep,xs,getElem?_set_self hid,h4⟩
    ·exact⟨et',sz',e,xs2,by rw[getElem?_set_ne (Ne.symm e')];exact h3,h4⟩
   ·refine⟨hb,fun i vo _=>?_⟩
    have vo:g.G b'=some i:=vo;rw[hG]at vo;obtain rfl:id=i:=by simpa using vo
    exact⟨et,sz,ep,xs,getElem?_set_self hid,by omega⟩
  ·by_cases e':i=id
   ·subst e'
    rw[getElem?_set_self hid]at hi;obtain⟨rfl,rfl,rfl,rfl,rfl⟩:et=et'/\sz=sz'/\true=fz2/\ep=e/\xs=xs2:=by simpa using hi
    exact M.roww _ _ _ _ _ _ h
   ·rw[getElem?_set_ne (Ne.symm e')]at hi;exact M.roww i et' sz' fz2 e xs2 hi
  ·obtain⟨i,et',sz',fz2,e,xs2,h3,h4⟩:=M.nsub b' hs
   by_cases e':i=id
   ·subst e'
    exact⟨i,_,_,_,_,_,h3,getElem?_set_self hid⟩
   ·exact⟨i,et',sz',fz2,e,xs2,h3,by rw[getElem?_set_ne (Ne.symm e')];exact h4⟩
 obtain⟨zs,ho,hG,jT,hw,qu⟩:=hv;rcases ho.2 with ⟨rfl,h0⟩|⟨b,cap,cur,rfl,h3,h4,h5,h6,h7,h8⟩
 ·have yx:ys=[]:=eq_nil_of_length_eq_zero h0
  subst yx;-- nothing is frozen: some block,no cell
  have E:Mem w g (ob.set id (.row et sz true ep xs))/\Ext w g ob w g (ob.set id (.row et sz true ep xs))/\GhLe g g ob (ob.set id (.row et sz true ep xs)):=by
   have E:Ext w g ob w g (ob.set id (.row et sz true ep xs)):=by
    refine⟨fun b o h=>⟨h,rfl⟩,fun _ _=>rfl,fun i hi=>?_,fun i hi=>?_,fun i et' sz' fz2 e xs2 hi=>?_,fun _ _ _ _=>⟨rfl,fun _ _ h=>h⟩⟩
    ·have:i≠id:=by rintro rfl;rw[h]at hi;exact hi
     rw[getElem?_set_ne (Ne.symm this)];exact hi
    ·have:i≠id:=by rintro rfl;rw[h]at hi;exact hi
     rw[getElem?_set_ne (Ne.symm this)];exact hi
    ·by_cases e':i=id
     ·subst e'
      rw[h]at hi;obtain⟨rfl,rfl,rfl,rfl,rfl⟩:et=et'/\sz=sz'/\fz=fz2/\ep=e/\xs=xs2:=by simpa using hi
      exact⟨true,ep,xs,getElem?_set_self hid,le_refl _,fun _=>.inl ⟨rfl,fun b hG=>⟨hG,rfl⟩⟩⟩
     ·exact⟨fz2,e,xs2,by rw[getElem?_set_ne (Ne.symm e')];exact hi,le_refl _,fun _=>.inl ⟨rfl,fun b hG=>⟨hG,rfl⟩⟩⟩
   refine⟨⟨fun i cs hi=>?_,fun i cs hi j u hj=>?_,fun i y hi=>?_,fun b i hG=>⟨(M.own b i hG).1,by rw[length_set];exact(M.own b i hG).2⟩,fun b' o hA=>?_,fun i et' sz' fz2 e xs2 hi=>?_,fun b' hs=>?_,M.uniq⟩,E,⟨fun _ _ h=>.inl h,fun _ _ h=>h,rfl,by simp⟩⟩
   ·have e':i≠id:=by rintro rfl;rw[getElem?_set_self hid]at hi;cases hi
    rw[getElem?_set_ne (Ne.symm e')]at hi;obtain⟨h1,cur,T,h2,h3⟩:=M.box i cs hi;exact⟨h1,cur,T,h2,h3.ext E⟩
   ·have e':i≠id:=by rintro rfl;rw[getElem?_set_self hid]at hi;cases hi
    rw[getElem?_set_ne (Ne.symm e')]at hi;exact M.fbox i cs hi j u hj
   ·have e':i≠id:=by rintro rfl;rw[getElem?_set_self hid]at hi;cases hi
    rw[getElem?_set_ne (Ne.symm e')]at hi;exact⟨(M.iter i y hi).1,(M.iter i y hi).2.len (by simp)⟩
   ·obtain⟨h1,h2⟩:=M.imm b' o hA
    refine⟨h1,fun i vo hs=>?_⟩
    obtain⟨et',sz',e,xs2,h3,h4⟩:=h2 i vo hs;by_cases e':i=id
    ·subst e'
     rw[h]at h3;obtain⟨rfl,rfl,rfl,rfl,rfl⟩:et=et'/\sz=sz'/\fz=true/\ep=e/\xs=xs2:=by simpa using h3
     exact⟨et,sz,ep,xs,getElem?_set_self hid,h4⟩
    ·exact⟨et',sz',e,xs2,by rw[getElem?_set_ne (Ne.symm e')];exact h3,h4⟩
   ·by_cases e':i=id
    ·subst e'
     rw[getElem?_set_self hid]at hi;obtain⟨rfl,rfl,rfl,rfl,rfl⟩:et=et'/\sz=sz'/\true=fz2/\ep=e/\xs=xs2:=by simpa using hi
     exact M.roww _ _ _ _ _ _ h
    ·rw[getElem?_set_ne (Ne.symm e')]at hi;exact M.roww i et' sz' fz2 e xs2 hi
   ·obtain⟨i,et',sz',fz2,e,xs2,h3,h4⟩:=M.nsub b' hs
    by_cases e':i=id
    ·subst e'
     exact⟨i,_,_,_,_,_,h3,getElem?_set_self hid⟩
    ·exact⟨i,et',sz',fz2,e,xs2,h3,by rw[getElem?_set_ne (Ne.symm e')];exact h4⟩
  exact⟨g,E.1,E.2.1,PRel.nil _,E.2.2⟩
 ·have hb:b<w.heap.size:=(Array.getElem?_eq_some_iff.1 h4).1
  have qR:=hG b rfl;obtain⟨M',E',L'⟩:=key b (ys.length * sz) qR (qu.1 b rfl) hb (Nat.mul_le_mul_right _ hl);refine⟨_,M',E',?_,L'⟩;have kL:=jT.keep E'.A;have qn:=Q22 ys hw;have cG:zs.length=ys.length * sz:=by rw[jT.1,qn]
  refine PRel.slc b 0 cap sz ys (fun j=>zs.getD j undef) h5 h6 hw (fun j u hu=>?_) (fun j u hu=>?_)
  ·have hj:=Q4 hu
   rw[qn]at hj;refine⟨.inr ⟨rfl,by omega⟩,?_⟩
   have:=ho.cells (g:=b) rfl j zs[j] (getElem?_eq_getElem (by omega))
   rw[Addr.add_mid,zero_add]at this;rw[zero_add,this,List.getD_eq_getElem?_getD,getElem?_eq_getElem (by omega)];rfl
  ·have hj:=Q4 hu
   rw[qn]at hj;have h9:zs[j]?=some (zs.getD j undef):=by rw[List.getD_eq_getElem?_getD,getElem?_eq_getElem (by omega)];rfl
   exact kL.2 j _ u h9 hu
end
section
variable {w:World}{g:Gh}{ob:List Ob}
def Gh.frzBox(g:Gh)(b n:Nat):Gh:=⟨fun b' o=>g.A b' o\/(b'=b/\o<n),fun b'=>if b'=b then none else g.G b',g.loc,g.sub⟩
theorem QeC(M:Mem w g ob){id:Nat}{cs us:List AV}(h:ob[id]?=some (.box cs))(hu:∀(j:Nat) u,us[j]?=some u->∃y,w.cell? ⟨g.loc id,j,none⟩=some y/\PRel w g.A y u) :
  ∃g',Mem w g' (ob.set id (.fbox us))/\Ext w g ob w g' (ob.set id (.fbox us))/\GhLe g g' ob (ob.set id (.fbox us)) /\
   ∀(j:Nat) u,us[j]?=some u->g'.A (g.loc id) j/\∃y,w.cell? ⟨g.loc id,j,none⟩=some y/\PRel w g'.A y u:=by
 have hid:=Q4 h;obtain⟨hG,cur,T,hh,hc⟩:=M.box id cs h;have hb:=(M.own _ _ hG).1
 have ne:∀{b i:Nat},g.G b=some i->i≠id->b≠g.loc id:=by
  rintro b i h1 h2 rfl;rw[hG]at h1;exact h2 (by simpa using h1.symm)
 have G':∀{b i:Nat},g.G b=some i->i≠id->(g.frzBox (g.loc id) us.length).G b=some i:=fun h1 h2=>by simp only[Gh.frzBox];rw[if_neg (ne h1 h2)];exact h1
 have Gof:∀{b i:Nat},(g.frzBox (g.loc id) us.length).G b=some i->g.G b=some i:=fun {b i} h1=>by
  have h1:(if b=g.loc id then none else g.G b)=some i:=h1;split at h1
  ·cases h1
  ·exact h1
 have E:Ext w g ob w (g.frzBox (g.loc id) us.length) (ob.set id (.fbox us)):=by
  refine⟨fun b o h=>⟨.inl h,rfl⟩,fun _ _=>rfl,fun i hi=>?_,fun i hi=>?_,fun i et sz fz e xs hi=>?_,fun b i qR hs=>⟨rfl,fun _ o h1=>h1.resolve_right fun h2=>?_⟩⟩
  rotate_right
  ·obtain⟨et,sz,fz,fz',e,xs,xs',h3,_⟩:=hs
   rw[h2.1,hG]at qR;obtain rfl:id=i:=by simpa using qR
   rw[h]at h3;cases h3
  ·by_cases e:i=id
   ·subst e;rw[getElem?_set_self hid];trivial
   ·rw[getElem?_set_ne (Ne.symm e)];exact hi
  ·have:i≠id:=by rintro rfl;rw[h]at hi;exact hi
   rw[getElem?_set_ne (Ne.symm this)];exact hi
  ·have:i≠id:=by rintro rfl;rw[h]at hi;cases hi
   exact⟨fz,e,xs,by rw[getElem?_set_ne (Ne.symm this)];exact hi,le_refl _,fun _=>.inl ⟨rfl,fun b qR=>⟨G' qR this,rfl⟩⟩⟩
 have new:∀(j:Nat) u,us[j]?=some u->(g.frzBox (g.loc id) us.length).A (g.loc id) j/\∃y,w.cell? ⟨g.loc id,j,none⟩=some y/\PRel w (g.frzBox (g.loc id) us.length).A y u:=fun j u hj=>by
  obtain⟨y,h1,h2⟩:=hu j u hj;exact⟨.inr ⟨rfl,Q4 hj⟩,y,h1,h2.keep E.A⟩
 refine⟨_,⟨fun i c hi=>?_,fun i c hi j u hj=>?_,fun i y hi=>?_,fun b i qR=>?_,fun b o hA=>?_,fun i et sz fz e xs hi=>?_,fun b hs=>?_,fun b b' i h1 h2 hs jf=>?_⟩,E,⟨fun b o hA=>?_,fun b i qR=>?_,rfl,by simp⟩,new⟩
 ·have e':i≠id:=by rintro rfl;rw[getElem?_set_self hid]at hi;cases hi
  rw[getElem?_set_ne (Ne.symm e')]at hi;obtain⟨h1,cur',T',h2,h3⟩:=M.box i c hi;exact⟨G' h1 e',cur',T',h2,h3.ext E⟩
 ·by_cases e':i=id
  ·subst e'
   rw[getElem?_set_self hid]at hi;obtain rfl:us=c:=by simpa using hi
   exact new j u hj
  ·rw[getElem?_set_ne (Ne.symm e')]at hi
   obtain⟨h1,y,h2,h3⟩:=M.fbox i c hi j u hj;exact⟨.inl h1,y,h2,h3.keep E.A⟩
 ·have e':i≠id:=by rintro rfl;rw[getElem?_set_self hid]at hi;cases hi
  rw[getElem?_set_ne (Ne.symm e')]at hi;obtain⟨h1,h2⟩:=M.iter i y hi;exact⟨G' h1 e',h2.at (fun b o h=>⟨.inl h,rfl⟩) E.loc (by simp) rfl⟩
 ·simp only[Gh.frzBox]at qR
  split at qR
  ·cases qR
  ·rw[length_set];exact M.own b i qR
 ·rcases hA with hA|⟨rfl,ho⟩
  ·obtain⟨h1,h2⟩:=M.imm b o hA
   refine⟨h1,fun i vo hs=>?_⟩
   have jL:=Qb4 M h hA;simp only[Gh.frzBox]at vo;rw[if_neg jL]at vo;obtain⟨et,sz,e,xs,h3,h4⟩:=h2 i vo hs;have e':i≠id:=by rintro rfl;rw[h]at h3;cases h3
   exact⟨et,sz,e,xs,by rw[getElem?_set_ne (Ne.symm e')];exact h3,h4⟩
  ·refine⟨hb,fun i vo _=>?_⟩
   simp only[Gh.frzBox,if_true]at vo;cases vo
 ·have e':i≠id:=by rintro rfl;rw[getElem?_set_self hid]at hi;cases hi
  rw[getElem?_set_ne (Ne.symm e')]at hi;exact M.roww i et sz fz e xs hi
 ·obtain⟨i,et,sz,fz,e,xs,h3,h4⟩:=M.nsub b hs
  have e':i≠id:=by rintro rfl;rw[h]at h4;cases h4
  exact⟨i,et,sz,fz,e,xs,G' h3 e',by rw[getElem?_set_ne (Ne.symm e')];exact h4⟩
 ·exact M.uniq b b' i (Gof h1) (Gof h2) hs jf
 ·rcases hA with hA|⟨rfl,_⟩
  ·exact .inl hA
  ·exact .inr ⟨id,hG⟩
 ·simp only[Gh.frzBox]at qR
  split at qR
  ·cases qR
  ·exact qR
def Qml(keep:Bool)(n:Nat):Prop:=∀(w:World)(g:Gh)(ob:List Ob)(v:Value)(x y:AV)(ob':List Ob),Mem w g ob->ARel0 w g ob v x->v.oneCell'=true->frz std keep n ob x=some (y,ob') ->
 ∃g',Mem w g' ob'/\Ext w g ob w g' ob'/\ARel0 w g' ob' v y/\GhLe g g' ob ob'/\(keep=false->PRel w g'.A v y)
theorem Q6U{keep:Bool}{n:Nat}(hn:Qml keep n):∀(cs:List AV)(vs:List Value)(w:World)(g:Gh)(ob:List Ob)(us:List AV)(ob':List Ob),Mem w g ob->ARelC w g ob vs cs->Q3M (frz std keep n) ob cs=some (us,ob') ->
  ∃g',Mem w g' ob'/\Ext w g ob w g' ob'/\ARelC w g' ob' vs us/\GhLe g g' ob ob'/\(keep=false->∀(j:Nat) y u,vs[j]?=some y->us[j]?=some u->PRel w g'.A y u)
 | [],vs,w,g,ob,us,ob',M,h,he=>by
  obtain⟨rfl,rfl⟩:[]=us/\ob=ob':=by simpa[Q3M]using he
  have gW:vs=[]:=eq_nil_of_length_eq_zero h.1;subst gW;exact⟨g,M,Ext.refl,h,GhLe.refl,fun _ j y u h=>by simp at h⟩
 |x::xs,vs,w,g,ob,us,ob',M,h,he=>by
  cases vs with
  |nil=>exact absurd h.1 (by simp)
  |cons v vs =>
   simp only[Q3M]at he;split at he
   ·rename_i y ob1 h1
    split at he
    ·rename_i ys ob2 h2
     obtain⟨rfl,rfl⟩:y::ys=us/\ob2=ob':=by simpa using he
     have hv:=h.2 0 v x rfl rfl;obtain⟨g1,M1,E1,R1,L1,P1⟩:=hn w g ob v x y ob1 M hv.1 hv.2 h1;have hr:ARelC w g1 ob1 vs xs:=⟨by simpa using h.1,fun j y u hy hu=>⟨(h.2 (j+1) y u (by simpa using hy) (by simpa using hu)).1.ext E1,(h.2 (j+1) y u (by simpa using hy) (by simpa using hu)).2⟩⟩
     obtain⟨g2,M2,E2,R2,L2,P2⟩:=Q6U hn xs vs w g1 ob1 ys ob2 M1 hr h2;refine⟨g2,M2,E1.trans E2 (by rw[L1.len];exact le_refl _),⟨by simp[R2.1],fun j y' u hy hu=>?_⟩,L1.trans L2,fun hk j y' u hy hu=>?_⟩
     ·cases j with
      |zero =>
       obtain rfl:v=y':=by simpa using hy
       obtain rfl:y=u:=by simpa using hu
       exact⟨R1.ext E2,hv.2⟩
      |succ j=>exact R2.2 j y' u (by simpa using hy) (by simpa using hu)
     ·cases j with
      |zero =>
       obtain rfl:v=y':=by simpa using hy
       obtain rfl:y=u:=by simpa using hu
       exact(P1 hk).keep E2.A
      |succ j=>exact P2 hk j y' u (by simpa using hy) (by simpa using hu)
    ·cases he
   ·cases he
theorem QeL(keep:Bool):∀n,Qml keep n
 |0=>fun w g ob v x y ob' M h ho he=>by simp[frz]at he
 |n+1=>fun w g ob v x y ob' M h ho he=>by
  have ih:=QeL keep n;cases x with
  |val a =>
   obtain⟨rfl,rfl⟩:AV.val a=y/\ob=ob':=by simpa[frz]using he
   exact⟨g,M,Ext.refl,h,GhLe.refl,fun _=>h⟩
  |kb t =>
   obtain⟨rfl,rfl⟩:AV.val (.bool t)=y/\ob=ob':=by simpa[frz]using he
   obtain rfl:v=.bool t:=h;exact⟨g,M,Ext.refl,PRel.val _ rfl,GhLe.refl,fun _=>PRel.val _ rfl⟩
  |slc a b =>
   obtain⟨rfl,rfl⟩:AV.slc a b=y/\ob=ob':=by simpa[frz]using he
   exact⟨g,M,Ext.refl,h,GhLe.refl,fun _=>h⟩
  |opt a =>
   obtain⟨rfl,rfl⟩:AV.opt a=y/\ob=ob':=by simpa[frz]using he
   exact⟨g,M,Ext.refl,h,GhLe.refl,fun _=>h⟩
  |ref a =>
   obtain⟨rfl,rfl⟩:AV.ref a=y/\ob=ob':=by simpa[frz]using he
   exact⟨g,M,Ext.refl,h,GhLe.refl,fun _=>h⟩
  |agg cs=>exact h.elim
  |tup cs=>exact h.elim
  |dead=>simp[frz]at he
  |rptr a b c d=>simp[frz]at he
  |iter a =>
   simp only[frz]at he;split at he
   ·rename_i hk;cases he;exact⟨g,M,Ext.refl,h,GhLe.refl,fun hf=>by rw[hf]at hk;cases hk⟩
   ·cases he
  |clo a b c d =>
   simp only[frz]at he;split at he
   ·rename_i hk;cases he;exact⟨g,M,Ext.refl,h,GhLe.refl,fun hf=>by rw[hf]at hk;cases hk⟩
   ·cases he
  |row id ep =>
   obtain⟨_,et,sz,fz,e,xs,h1,h2,h3⟩:=h;simp only[frz,h1]at he;split at he
   ·rename_i nW
    obtain⟨rfl,rfl⟩:AV.slc sz xs=y/\ob.set id (.row et sz true e xs)=ob':=by simpa using he
    obtain⟨g',M',E',R',L'⟩:=Q71 M h1 (h3 nW) (le_refl _);exact⟨g',M',E',R'.to0,L',fun _=>R'⟩
   ·cases he
  |rowk id ep k =>
   obtain⟨_,et,sz,fz,e,xs,h1,h2,h3⟩:=h;simp only[frz,h1]at he;split at he
   ·rename_i nW
    have jH:std.cut xs 0 k=xs.take k.toNat:=by simp[std]
    rw[jH]at he;obtain⟨rfl,rfl⟩:AV.slc sz (xs.take k.toNat)=y/\ob.set id (.row et sz true e xs)=ob':=by simpa using he
    obtain⟨g',M',E',R',L'⟩:=Q71 M h1 (h3 nW).2.2 (by rw[length_take];omega)
    exact⟨g',M',E',R'.to0,L',fun _=>R'⟩
   ·cases he
  |box id off =>
   simp only[frz]at he;cases keep with
   |true =>
    obtain⟨rfl,rfl⟩:AV.box id off=y/\ob=ob':=by simpa using he
    exact⟨g,M,Ext.refl,h,GhLe.refl,fun hk=>by cases hk⟩
   |false =>
    simp only[Bool.false_eq_true,if_false]at he;obtain⟨rfl,_⟩:=h;split at he
    ·rename_i cs hb
     obtain⟨hG,cur,T,hh,hc⟩:=M.box id cs hb;split at he
     ·rename_i us ob1 qO
      obtain⟨g1,M1,E1,R1,L1,P1⟩:=Q6U ih cs cur.toList w g ob us ob1 M hc qO;split at he
      ·rename_i c1 j9
       obtain⟨rfl,rfl⟩:AV.ref (us.drop off)=y/\ob1.set id (.fbox us)=ob':=by simpa using he
       have hul:us.length=cs.length:=by rw[<-R1.1,hc.1]
       have hcell:∀(j:Nat) u,us[j]?=some u->∃y,w.cell? ⟨g1.loc id,j,none⟩=some y/\PRel w g1.A y u:=fun j u hj=>by
        have vY:j<cur.size:=by have:=Q4 hj;rw[<-R1.1]at this;simpa using this
        refine⟨cur[j],by rw[L1.loc];simp[World.cell?,hh,vY],P1 rfl j _ u (by simp[vY]) hj⟩
       obtain⟨g2,M2,E2,L2,N2⟩:=QeC M1 j9 hcell
       have R:PRel w g2.A (.pointer (some ⟨g.loc id,off,none⟩)) (.ref (us.drop off)):=by
        have e1:g1.loc id=g.loc id:=by rw[L1.loc]
        refine PRel.ref _ _ _ (fun j=>cur.getD (off+j) undef) (fun j u hj=>?_) (fun j u hj=>?_)
        ·rw[getElem?_drop]at hj
         obtain⟨h4,y,h5,h6⟩:=N2 _ u hj;rw[e1]at h4 h5;have vY:off+j<cur.size:=by have:=Q4 hj;rw[<-R1.1]at this;simpa using this
         refine⟨h4,?_⟩;simp[World.cell?,hh,vY]
        ·rw[getElem?_drop]at hj
         obtain⟨h4,y,h5,h6⟩:=N2 _ u hj;rw[e1]at h5;have vY:off+j<cur.size:=by have:=Q4 hj;rw[<-R1.1]at this;simpa using this
         have h7:cur.getD (off+j) undef=y:=by
          simp only[World.cell?,hh,Option.isSome_none,Bool.false_eq_true,if_false,Array.getElem?_eq_getElem vY,Option.some.injEq]at h5;rw[Array.getD_eq_getD_getElem?,Array.getElem?_eq_getElem vY];exact h5
         rw[h7];exact h6
       exact⟨g2,M2,E1.trans E2 (by rw[L1.len];exact le_refl _),R.to0,L1.trans L2,fun _=>R⟩
      ·cases he
     ·cases he
    ·rename_i cs hb
     obtain⟨rfl,rfl⟩:AV.ref (cs.drop off)=y/\ob=ob':=by simpa using he
     have R:PRel w g.A (.pointer (some ⟨g.loc id,off,none⟩)) (.ref (cs.drop off)):=by
      obtain⟨l,h1,h2⟩:=Q90 (q:=fun j y=>∀u,(cs.drop off)[j]?=some u->g.A (g.loc id) (off+j)/\w.cell? ⟨g.loc id,off+j,none⟩=some y/\PRel w g.A y u) (cs.drop off).length (fun j hj=>by
       have yb:=getElem?_eq_getElem hj;have hj3:=yb;rw[getElem?_drop]at hj3;obtain⟨h4,y,h5,h6⟩:=M.fbox id cs hb _ _ hj3;exact⟨y,fun u hu=>by rw[yb]at hu;cases hu;exact⟨h4,h5,h6⟩⟩)
      have vU:∀(j:Nat) u,(cs.drop off)[j]?=some u->l[j]?=some (l.getD j undef):=fun j u hu=>by
       have:=Q4 hu
       rw[List.getD_eq_getElem?_getD,getElem?_eq_getElem (by omega)];rfl
      exact PRel.ref _ _ _ (fun j=>l.getD j undef) (fun j u hu=>⟨(h2 j _ (vU j u hu) u hu).1,(h2 j _ (vU j u hu) u hu).2.1⟩) (fun j u hu=>(h2 j _ (vU j u hu) u hu).2.2)
     exact⟨g,M,Ext.refl,R.to0,GhLe.refl,fun _=>R⟩
    ·cases he
end
section
variable {w w':World}{g g':Gh}{ob ob':List Ob}
theorem Qon{keep:Bool}{n:Nat}{v:Value}{x y:AV}(M:Mem w g ob)(h:ARel1 w g ob v x)(hl:x.live=true)(he:frz std keep n ob x=some (y,ob')) :
  ∃g',Mem w g' ob'/\Ext w g ob w g' ob'/\ARel1 w g' ob' v y/\GhLe g g' ob ob':=by
 have go:∀{x:AV},ARel0 w g ob v x->x.live=true->frz std keep n ob x=some (y,ob')->∃g',Mem w g' ob'/\Ext w g ob w g' ob'/\ARel1 w g' ob' v y/\GhLe g g' ob ob':=fun h hl he=>by
  obtain⟨g',h1,h2,h3,h4,_⟩:=QeL keep n w g ob v _ y ob' M h (h.one hl) he;exact⟨g',h1,h2,h3.to1,h4⟩
 cases x with
 |agg cs =>
  obtain⟨vs,rfl,hc⟩:=h;cases n with
  |zero=>simp[frz]at he
  |succ n =>
   simp only[frz]at he;obtain⟨⟨us,ob1⟩,h1,h2⟩:=Option.map_eq_some_iff.1 he;obtain⟨rfl,rfl⟩:AV.agg us=y/\ob1=ob':=by simpa using h2
   obtain⟨g',M',E',R',L',_⟩:=Q6U (QeL keep n) cs vs.toList w g ob us ob1 M hc h1;exact⟨g',M',E',⟨vs,rfl,R'⟩,L'⟩
 |val a=>exact go (x:=.val a) h hl he
 |slc a b=>exact go (x:=.slc a b) h hl he
 |ref a=>exact go (x:=.ref a) h hl he
 |opt a=>exact go (x:=.opt a) h hl he
 |tup a=>cases hl
 |box a b=>exact go (x:=.box a b) h hl he
 |row a b=>exact go (x:=.row a b) h hl he
 |rowk a b c=>exact go (x:=.rowk a b c) h hl he
 |rptr a b c d=>exact go (x:=.rptr a b c d) h hl he
 |kb a=>exact go (x:=.kb a) h hl he
 |iter a=>exact go (x:=.iter a) h hl he
 |clo a b c d=>exact go (x:=.clo a b c d) h hl he
 |dead=>cases hl
def Q1D(w:World)(g:Gh)(ob:List Ob)(vs:List Value)(xs:List AV):Prop:=vs.length=xs.length/\∀(j:Nat) v x,vs[j]?=some v->xs[j]?=some x->ARel1 w g ob v x
theorem Q7g{keep:Bool}{n:Nat}{x y:AV}(he:frz std keep n ob x=some (y,ob')):x.live=true:=by
 cases n with
 |zero=>simp[frz]at he
 |succ n=>cases x<;>first|rfl|(simp[frz]at he;done)
theorem ARel.to1{v:Value}{x:AV}(h:ARel w g ob v x)(hl:x.live=true):ARel1 w g ob v x:=by cases x<;>first|exact h|cases hl
theorem Q6v{keep:Bool}{n:Nat}:∀(xs:List AV)(ob:List Ob)(ys:List AV)(ob':List Ob),Q3M (frz std keep n) ob xs=some (ys,ob')->∀x∈xs,x.live=true
 | [],_,_,_,_=>fun x h=>by cases h
 |x::xs,ob,ys,ob',he=>by
  simp only[Q3M]at he;split at he
  ·rename_i y ob1 h1
   split at he
   ·rename_i ys' ob2 h2
    intro z hz;cases hz with
    |head=>exact Q7g h1
    |tail _ hz=>exact Q6v xs ob1 ys' ob2 h2 z hz
   ·cases he
  ·cases he
theorem QlE{keep:Bool}{n:Nat}:∀(xs:List AV)(vs:List Value)(g:Gh)(ob:List Ob)(ys:List AV)(ob':List Ob),Mem w g ob->Q1D w g ob vs xs->Q3M (frz std keep n) ob xs=some (ys,ob') ->
  ∃g',Mem w g' ob'/\Ext w g ob w g' ob'/\Q1D w g' ob' vs ys/\GhLe g g' ob ob'
 | [],vs,g,ob,ys,ob',M,h,he=>by
  obtain⟨rfl,rfl⟩:[]=ys/\ob=ob':=by simpa[Q3M]using he
  exact⟨g,M,Ext.refl,h,GhLe.refl⟩
 |x::xs,vs,g,ob,ys,ob',M,h,he=>by
  cases vs with
  |nil=>exact absurd h.1 (by simp)
  |cons v vs =>
   simp only[Q3M]at he;split at he
   ·rename_i y ob1 h1
    split at he
    ·rename_i ys' ob2 h2
     obtain⟨rfl,rfl⟩:y::ys'=ys/\ob2=ob':=by simpa using he
     have hv:=h.2 0 v x rfl rfl;have hl:x.live=true:=Q7g h1;obtain⟨g1,M1,E1,R1,L1⟩:=Qon M hv hl h1;have hr:Q1D w g1 ob1 vs xs:=⟨by simpa using h.1,fun j y u hy hu=>(h.2 (j+1) y u (by simpa using hy) (by simpa using hu)).ext E1⟩
     obtain⟨g2,M2,E2,R2,L2⟩:=QlE xs vs g1 ob1 ys' ob2 M1 hr h2;refine⟨g2,M2,E1.trans E2 (by rw[L1.len];exact le_refl _),⟨by simp[R2.1],fun j y' u hy hu=>?_⟩,L1.trans L2⟩
     cases j with
     |zero =>
      obtain rfl:v=y':=by simpa using hy
      obtain rfl:y=u:=by simpa using hu
      exact R1.ext E2
     |succ j=>exact R2.2 j y' u (by simpa using hy) (by simpa using hu)
    ·cases he
   ·cases he
theorem Qjr{keep:Bool}{n:Nat}{v:Value}{x y:AV}(M:Mem w g ob)(h:ARel w g ob v x)(he:frz std keep n ob x=some (y,ob')) :
  ∃g',Mem w g' ob'/\Ext w g ob w g' ob'/\ARel w g' ob' v y/\GhLe g g' ob ob':=by
 obtain⟨g',h1,h2,h3,h4⟩:=Qon M (h.to1 (Q7g he)) (Q7g he) he;exact⟨g',h1,h2,h3.to,h4⟩
structure Step (w:World) (g:Gh) (ob:List Ob) (w':World) (g':Gh) (ob':List Ob):Prop where
 os:w'.os=w.os
 tape:w'.tape=w.tape
 output:w'.output=w.output
 size:w.heap.size<=w'.heap.size
 keep:∀b,b<w.heap.size->g.G b=none->w'.heap[b]?=w.heap[b]?
 own:∀b id,g'.G b=some id->(∃id',g.G b=some id')\/w.heap.size<=b
 imm:∀b o,g'.A b o->g.A b o\/(∃id,g.G b=some id)\/w.heap.size<=b
 ext:Ext w g ob w' g' ob'
 len:ob.length<=ob'.length
theorem Step.refl:Step w g ob w g ob:=⟨rfl,rfl,rfl,le_refl _,fun _ _ _=>rfl,fun _ _ h=>.inl ⟨_,h⟩,fun _ _ h=>.inl h,Ext.refl,le_refl _⟩
theorem Step.trans{w1 w2 w3:World}{g1 g2 g3:Gh}{o1 o2 o3:List Ob}(h:Step w1 g1 o1 w2 g2 o2)(k:Step w2 g2 o2 w3 g3 o3):Step w1 g1 o1 w3 g3 o3:=by
 have none2:∀b,b<w1.heap.size->g1.G b=none->g2.G b=none:=fun b hb hG=>by
  cases h2:g2.G b with
  |none=>rfl
  |some id =>
   rcases h.own b id h2 with ⟨id',h3⟩|h3
   ·rw[hG]at h3;cases h3
   ·omega
 refine⟨k.os.trans h.os,k.tape.trans h.tape,k.output.trans h.output,le_trans h.size k.size,fun b hb hG=>?_,fun b id hG=>?_,fun b o hA=>?_,h.ext.trans k.ext h.len,le_trans h.len k.len⟩
 ·exact(k.keep b (Nat.lt_of_lt_of_le hb h.size) (none2 b hb hG)).trans (h.keep b hb hG)
 ·rcases k.own b id hG with ⟨id',h2⟩|h2
  ·exact h.own b id' h2
  ·exact .inr (le_trans h.size h2)
 ·rcases k.imm b o hA with h2|⟨id,h2⟩|h2
  ·exact h.imm b o h2
  ·rcases h.own b id h2 with h3|h3
   ·exact .inr (.inl h3)
   ·exact .inr (.inr h3)
  ·exact .inr (.inr (le_trans h.size h2))
theorem Step.ghost(E:Ext w g ob w g' ob')(L:GhLe g g' ob ob'):Step w g ob w g' ob' :=
 ⟨rfl,rfl,rfl,le_refl _,fun _ _ _=>rfl,fun b id h=>.inl ⟨id,L.G b id h⟩,fun b o h=>(L.A b o h).imp_right .inl,E,by rw[L.len];exact le_refl _⟩
def BCall(P:Program)(f:Nat)(args:List AV)(ob:List Ob)(res:AV)(ob':List Ob):Prop :=
 (∀vs w,(callFunc f vs).run P w=.ok (.enter f vs) w) /\
 ∀(w:World)(g:Gh)(vs:List Value),Mem w g ob->Q1D w g ob vs args ->
  Calls P f vs.toArray w fun e w'=>∃v g',e=.returned v/\Mem w' g' ob'/\ARel w' g' ob' v res/\Step w g ob w' g' ob'
structure Sim (Df:List Deferred) (w0:World) (g0:Gh) (o0:List Ob) (N:Nat) (s:St) (a:Act) (w:World):Prop where
 defers:a.defers=Df
 size:a.tmps.size=N
 rel:∃g,Mem w g s.ob/\QW w g s a/\Step w0 g0 o0 w g s.ob
def Ex.conv:Ex->Exit
 |.normal=>.normal
 |.exit i=>.exit i
 |.ret=>.ret
 |.pan v=>.panic [{ v,recovered:=false }]
def QnX(P:Program)(f:Nat)(args:List AV)(ob:List Ob)(x:Value):Prop :=
 (∀vs w,(callFunc f vs).run P w=.ok (.enter f vs) w) /\
 ∀(w:World)(g:Gh)(vs:List Value),Mem w g ob->Q1D w g ob vs args ->
  Calls P f vs.toArray w fun e w'=>∃g' ob',e=.panicked [{ v:=x,recovered:=false }]/\Mem w' g' ob'/\Step w g ob w' g' ob'
def WP(Df:List Deferred)(P:Program)(w0:World)(g0:Gh)(o0:List Ob)(N:Nat)(c:Code)(Q:Ex->St->Prop)(s:St):Prop :=
 ∀a w,Sim Df w0 g0 o0 N s a w->c.wp P (fun e a' w'=>∃e' s',e=e'.conv/\(∀v,e'=.pan v->s'.tm=[])/\Sim Df w0 g0 o0 N s' a' w'/\Q e' s') a w
def Q3B:Value->Option Srt
 |.int k _=>some (.int k)
 |.bool _=>some .boo
 |.string _=>some .str
 |_=>none
def eqV:Value->Value->Bool
 |.int _ a,.int _ b=>a == b
 |.bool a,.bool b=>a == b
 |.string a,.string b=>a.toList == b.toList
 |_,_=>false
def QbQ(P:Program)(T:Nat)(sh:List Srt):Prop:=∀(xs ys:List Value)(x y:Operand)(W:World),xs.map Q3B=sh.map some->ys.map Q3B=sh.map some ->
 (eqGuard .eql T x y (.agg xs.toArray) (.agg ys.toArray)).run P W=.ok () W/\(eqGuard .neq T x y (.agg xs.toArray) (.agg ys.toArray)).run P W=.ok () W /\
 (binOp .eql T (.agg xs.toArray) (.agg ys.toArray)).run P W=.ok (.bool ((xs.zip ys).all fun q=>eqV q.1 q.2)) W /\
 (binOp .neq T (.agg xs.toArray) (.agg ys.toArray)).run P W=.ok (.bool !((xs.zip ys).all fun q=>eqV q.1 q.2)) W
def Q7l(P:Program)(T:Nat)(sh:List Srt):Prop:=(∀(xs:List Value)(b:Bool)(W:World),xs.map Q3B=sh.map some->(Instr.checkKey b 10000 T (.agg xs.toArray)).run P W=.ok () W) /\
 ∀(xs ys:List Value)(W:World),xs.map Q3B=sh.map some->ys.map Q3B=sh.map some->(Op.equal T (.agg xs.toArray) (.agg ys.toArray)).run P W=.ok ((xs.zip ys).all fun q=>eqV q.1 q.2) W
def Qbt(kc:AV):Nat->List (AV×AV)->Option (Option (Nat×AV))
 |_,[]=>some none
 |j,(k,v)::r=>if Qd5 k=Qd5 kc then(match QcS std kc.cells k.cells with
  |some (_,b)=>if b=true then some (some (j,v))else Qbt kc (j+1) r
  |none=>none)else none
def Tree.ok(Df:List Deferred)(P:Program)(w0:World)(g0:Gh)(o0:List Ob)(N:Nat)(Q:Ex->St->Prop):Tree->Prop
 |.leaf e s=>Q e s
 |.br c t f=>(c=true->t.ok Df P w0 g0 o0 N Q)/\(c=false->f.ok Df P w0 g0 o0 N Q)
 |.need q t=>q/\t.ok Df P w0 g0 o0 N Q
 |.call f args ob res ob' t=>BCall P f args ob res ob'/\t.ok Df P w0 g0 o0 N Q
 |.pan f args ob v=>QnX P f args ob v/\∀ob',Q (.pan v) ⟨[],ob'⟩
 |.loop body s K=>WP Df P w0 g0 o0 N (.loop body) (fun e s'=>(K e s').ok Df P w0 g0 o0 N Q) s
 |.both a b=>a.ok Df P w0 g0 o0 N Q/\b.ok Df P w0 g0 o0 N Q
 |.either q a b=>(q->a.ok Df P w0 g0 o0 N Q)/\b.ok Df P w0 g0 o0 N Q
 |.ask T sh t=>QbQ P T sh/\t.ok Df P w0 g0 o0 N Q
 |.askK T sh t=>Q7l P T sh/\t.ok Df P w0 g0 o0 N Q
 |.nxt q es seen f t=>q/\(∀j p,es[j]?=some p->j ∉ seen->(f j p).ok Df P w0 g0 o0 N Q)/\((∀j,j<es.length->j∈seen)->t.ok Df P w0 g0 o0 N Q)
 |.prop q t=>q/\t.ok Df P w0 g0 o0 N Q
 |.look k es f n=>match Qbt k 0 es with
  |some (some (j,v))=>(f j v).ok Df P w0 g0 o0 N Q
  |some none=>n.ok Df P w0 g0 o0 N Q
  |none=>False
 |.stuck _=>False
end
abbrev Eqs:=List (AV×AV)
def both:Option Eqs->Option Eqs->Option Eqs
 |some a,some b=>some (a++b)
 |_,_=>none
def Q4g(ob ob':List Ob)(ρ:List (Option Nat))(x x':AV):Option Eqs :=
 match x' with
 |.dead=>some []
 |.box j off=>match ρ[j]? with
  |some (some i)=>some [(x,.box i off)]
  |_=>none
 |.iter j=>match ρ[j]? with
  |some (some i)=>some [(x,.iter i)]
  |_=>none
 |.clo f j off t=>match ρ[j]? with
  |some (some i)=>some [(x,.clo f i off t)]
  |_=>none
 |.row j e'=>match ob'[j]? with
  |some (.row _ _ _ e2 xs)=>if e2=e' then(match ρ[j]? with
   |some (some i)=>(match ob[i]? with
    |some (.row _ _ _ e _)=>some [(x,.row i e)]
    |_=>none)
   |some none=>some [(x,.val (.slice none 0 0)),(.slc 0 xs,.slc 0 [])]
   |none=>none)else none
  |_=>none
 |.val (.bool b)=>match x with
  |.kb c=>some [(.kb c,.kb b)]
  |_=>some [(x,.val (.bool b))]
 |.val v=>some [(x,.val v)]
 |.slc sz xs=>some [(x,.slc sz xs)]
 |.ref cs=>some [(x,.ref cs)]
 |.opt y=>some [(x,.opt y)]
 |.kb b=>some [(x,.kb b)]
 |_=>none
def QbH(ob ob':List Ob)(ρ:List (Option Nat)):List AV->List AV->Option Eqs
 | [],[]=>some []
 |x::r,x'::r'=>both (Q4g ob ob' ρ x x') (QbH ob ob' ρ r r')
 |_,_=>none
def Q8R(ob ob':List Ob)(ρ:List (Option Nat))(x x':AV):Option Eqs :=
 match x' with
 |.agg cs'=>match x with
  |.agg cs=>QbH ob ob' ρ cs cs'
  |_=>none
 |_=>Q4g ob ob' ρ x x'
def Qnp(s s':St)(ρ:List (Option Nat)):List (Nat×AV)->Option Eqs
 | []=>some []
 |(t,x')::r=>both (Q8R s.ob s'.ob ρ (lk t s.tm) x') (Qnp s s' ρ r)
def Q5s:List (AV×AV)->List AV
 | []=>[]
 |(a,b)::r=>a::b::Q5s r
theorem Q6u:∀{l m:List (AV×AV)},Q5s l=Q5s m->l=m
 | [],[],_=>rfl
 | [],(_,_)::_,h=>by cases h
 |(_,_)::_,[],h=>by cases h
 |(a,b)::r,(c,d)::q,h=>by
  simp only[Q5s,List.cons.injEq]at h;rw[h.1,h.2.1,Q6u h.2.2]
theorem Qbv:∀{l m:List Nat},l.map (AV.box 0)=m.map (AV.box 0)->l=m
 | [],[],_=>rfl
 | [],_::_,h=>by cases h
 |_::_,[],h=>by cases h
 |a::r,b::q,h=>by
  simp only[map_cons,List.cons.injEq,AV.box.injEq]at h;rw[h.1.2,Qbv h.2]
def Q2X(ob ob':List Ob)(ρ:List (Option Nat))(i:Option Nat)(o':Ob):Option Eqs :=
 match i with
 |some i=>match o',ob[i]? with
  |.box cs',some (.box cs)=>QbH ob ob' ρ cs cs'
  |.fbox cs',some (.fbox cs)=>some [(.slc 0 cs,.slc 0 cs')]
  |.row et sz fz _ xs',some (.row et2 sz2 fz2 _ xs)=>if et=et2/\sz=sz2/\(fz2=true->fz=true)then some [(.slc 0 xs,.slc 0 xs')]else none
  |.iter (.str b p),some (.iter (.str b2 p2))=>some [(.val (.string b2),.val (.string b)),(.box 0 p2,.box 0 p)]
  |.iter (.map es),some (.iter (.map es2))=>some [(.tup (Q5s es2),.tup (Q5s es))]
  |.iter (.mit m es sn none),some (.iter (.mit m2 es2 sn2 _))=>if ρ[m]?=some (some m2)then some [(.tup (Q5s es2),.tup (Q5s es)),(.tup (sn2.map (AV.box 0)),.tup (sn.map (AV.box 0)))]else none
  |_,_=>none
 |none=>match o' with
  |.row _ sz fz _ xs=>if 0<sz/\fz=false then some [(.slc 0 xs,.slc 0 [])]else none
  |_=>none
def Q7C(ob ob':List Ob)(ρ:List (Option Nat)):List (Option Nat)->List Ob->Option Eqs
 | [],[]=>some []
 |i::r,o::r'=>both (Q2X ob ob' ρ i o) (Q7C ob ob' ρ r r')
 |_,_=>none
def QdV(o0 ob ob':List Ob)(ρ:List (Option Nat)):Bool:=(List.range o0.length).all fun j=>ρ[j]? == some (some j)&&(match o0[j]?,ob[j]?,ob'[j]? with
 |some (.row _ _ _ e0 _),some (.row _ _ _ e _),some (.row _ _ _ e' _)=>e == e'||decide (e0<e')
 |_,_,_=>true)
def Q33(o0:List Ob)(ρ:List (Option Nat))(s s':St):Option Eqs :=
 if Q1N ρ=true/\QdV o0 s.ob s'.ob ρ=true/\o0.length<=ρ.length then both (Qnp s s' ρ s'.tm) (Q7C s.ob s'.ob ρ ρ s'.ob)else none
def Qf:Eqs->Prop
 | []=>True
 |(a,b)::r=>a=b/\Qf r
theorem Q3c{a b:Eqs}:Qf (a++b)↔Qf a/\Qf b:=by
 induction a with
 |nil=>simp[Qf]
 |cons x r ih=>obtain⟨u,v⟩:=x;simp[Qf,ih,and_assoc]
theorem Q1y{x y:Option Eqs}{l:Eqs}(h:both x y=some l)(hl:Qf l):(∃a,x=some a/\Qf a)/\∃b,y=some b/\Qf b:=by
 cases x with
 |none=>cases h
 |some a =>
  cases y with
  |none=>cases h
  |some b =>
   obtain rfl:a++b=l:=by simpa[both]using h
   exact⟨⟨a,rfl,(Q3c.1 hl).1⟩,b,rfl,(Q3c.1 hl).2⟩
def Gh.ren(g:Gh)(ρ:List (Option Nat)):Gh:=⟨g.A,fun b=>(g.G b).bind (QgF ρ),fun j=>match ρ[j]? with|some (some i)=>g.loc i|_=>0,fun b=>g.sub b&&((g.G b).bind (QgF ρ)).isSome⟩
section
variable {w:World}{g:Gh}{ob ob':List Ob}{ρ:List (Option Nat)}
theorem Qdk{i j:Nat}(h:QgF ρ i=some j):ρ[j]?=some (some i):=by
 have:=List.find?_some h
 simpa using this
theorem Q66(h:Q1N ρ=true){i j:Nat}(hj:ρ[j]?=some (some i)):QgF ρ i=some j:=by
 have:=all_eq_true.1 h j (List.mem_range.2 (Q4 hj))
 rw[hj]at this;simpa using this
theorem Q1v{i j:Nat}(hj:ρ[j]?=some (some i)):(g.ren ρ).loc j=g.loc i:=by simp[Gh.ren,hj]
theorem Q4Y(h:Q1N ρ=true){i j b:Nat}(hj:ρ[j]?=some (some i))(hG:g.G b=some i):(g.ren ρ).G b=some j:=by
 simp[Gh.ren,hG,Q66 h hj]
theorem Q2E{j b:Nat}(hG:(g.ren ρ).G b=some j):∃i,ρ[j]?=some (some i)/\g.G b=some i:=by
 simp only[Gh.ren,Option.bind_eq_some_iff]at hG;obtain⟨i,h1,h2⟩:=hG;exact⟨i,Qdk h2,h1⟩
theorem Q3a(h:Q1N ρ=true){i j b:Nat}(hj:ρ[j]?=some (some i))(hG:g.G b=some i):(g.ren ρ).sub b=g.sub b:=by
 simp[Gh.ren,hG,Q66 h hj]
theorem Q2B:∀(r:List (Option Nat)) (os:List Ob) (l:Eqs),Q7C ob ob' ρ r os=some l->Qf l->r.length=os.length/\∀(j:Nat) i o,r[j]?=some i->os[j]?=some o->∃l,Q2X ob ob' ρ i o=some l/\Qf l
 | [],[],_,_,_=>⟨rfl,fun j i o h=>by simp at h⟩
 | [],_::_,_,h,_=>by cases h
 |_::_,[],_,h,_=>by cases h
 |i::r,o::os,l,h,hl=>by
  obtain⟨h1,b,h2,hb⟩:=Q1y h hl;obtain⟨hn,ih⟩:=Q2B r os b h2 hb;refine⟨by simp[hn],fun j i' o' hi ho=>?_⟩
  cases j with
  |zero =>
   obtain rfl:i=i':=by simpa using hi
   obtain rfl:o=o':=by simpa using ho
   exact h1
  |succ j=>exact ih j i' o' (by simpa using hi) (by simpa using ho)
theorem Qdi:∀(r r':List AV)(l:Eqs),QbH ob ob' ρ r r'=some l->Qf l->r.length=r'.length/\∀(j:Nat) x x',r[j]?=some x->r'[j]?=some x'->∃l,Q4g ob ob' ρ x x'=some l/\Qf l
 | [],[],_,_,_=>⟨rfl,fun j i o h=>by simp at h⟩
 | [],_::_,_,h,_=>by cases h
 |_::_,[],_,h,_=>by cases h
 |i::r,o::os,l,h,hl=>by
  obtain⟨h1,b,h2,hb⟩:=Q1y h hl;obtain⟨hn,ih⟩:=Qdi r os b h2 hb;refine⟨by simp[hn],fun j i' o' hi ho=>?_⟩
  cases j with
  |zero =>
   obtain rfl:i=i':=by simpa using hi
   obtain rfl:o=o':=by simpa using ho
   exact h1
  |succ j=>exact ih j i' o' (by simpa using hi) (by simpa using ho)
def Fits(ob ob':List Ob)(ρ:List (Option Nat)):Prop:=ρ.length=ob'.length/\∀(j:Nat) i o,ρ[j]?=some i->ob'[j]?=some o->∃l,Q2X ob ob' ρ i o=some l/\Qf l
theorem Fits.at_(h:Fits ob ob' ρ){i j:Nat}(hj:ρ[j]?=some (some i)):∃o,ob'[j]?=some o/\∃l,Q2X ob ob' ρ (some i) o=some l/\Qf l:=by
 have hl:j<ob'.length:=h.1 ▸ Q4 hj;exact⟨_,getElem?_eq_getElem hl,h.2 j _ _ hj (getElem?_eq_getElem hl)⟩
theorem Fits.isB(h:Fits ob ob' ρ){i j:Nat}(hj:ρ[j]?=some (some i))(hb:Q5r ob[i]?):Q5r ob'[j]?:=by
 obtain⟨o,vn,l,h1,_⟩:=h.at_ hj;rw[vn];cases jK:ob[i]? with
 |none=>rw[jK]at hb;exact hb.elim
 |some q =>
  rw[jK]at hb;cases q<;>first|exact hb.elim|(cases o<;>first|trivial|(simp[Q2X,jK]at h1;done))
theorem Fits.isI(h:Fits ob ob' ρ){k:Bool}{i j:Nat}(hj:ρ[j]?=some (some i))(hb:Q8T k ob[i]?):Q8T k ob'[j]?:=by
 obtain⟨o,vn,l,h1,_⟩:=h.at_ hj;rw[vn];cases jK:ob[i]? with
 |none=>rw[jK]at hb;exact hb.elim
 |some q =>
  rw[jK]at hb;cases q with
  |iter y=>cases y<;>(cases o with
   |iter z=>cases z<;>first|exact hb|(simp[Q2X,jK]at h1;done)
   |_=>simp[Q2X,jK]at h1)
  |_=>exact hb.elim
theorem Fits.row(h:Fits ob ob' ρ){i j et sz e:Nat}{fz:Bool}{xs:List AV}(hj:ρ[j]?=some (some i))(hb:ob[i]?=some (.row et sz fz e xs)):∃fz' e',ob'[j]?=some (.row et sz fz' e' xs)/\(fz=true->fz'=true):=by
 have hl:j<ob'.length:=h.1 ▸ Q4 hj;obtain⟨l,h1,h2⟩:=h.2 j _ _ hj (getElem?_eq_getElem hl);rw[getElem?_eq_getElem hl];cases ho:ob'[j]with
 |row et' sz' fz' e' xs' =>
  simp only[Q2X,ho,hb]at h1;split at h1
  ·rename_i hk
   obtain⟨rfl,rfl,hk⟩:=hk;cases h1;obtain⟨h3,_⟩:=h2;cases h3;exact⟨fz',e',rfl,hk⟩
  ·cases h1
 |_=>simp[Q2X,ho,hb]at h1
theorem QdQ(hF:Fits ob ob' ρ)(ho:Q1N ρ=true){v:Value}{x x':AV}{l:Eqs}(h:ARel0 w g ob v x)(he:Q4g ob ob' ρ x x'=some l)(hl:Qf l):ARel0 w (g.ren ρ) ob' v x':=by
 have one:∀y,some [(x,y)]=some l->x=y:=fun y hy=>by cases hy;exact hl.1
 cases x' with
 |dead=>trivial
 |box j off =>
  simp only[Q4g]at he;split at he
  ·rename_i i hj
   cases one _ he;exact⟨by rw[Q1v hj];exact h.1,hF.isB hj h.2⟩
  ·cases he
 |iter j =>
  simp only[Q4g]at he;split at he
  ·rename_i i hj
   cases one _ he;obtain⟨k,h1,h2⟩:=h;exact⟨k,by rw[Q1v hj];exact h1,hF.isI hj h2⟩
  ·cases he
 |clo f j off t =>
  simp only[Q4g]at he;split at he
  ·rename_i i hj
   cases one _ he;exact⟨by rw[Q1v hj];exact h.1,hF.isB hj h.2⟩
  ·cases he
 |row j e' =>
  simp only[Q4g]at he;split at he
  ·rename_i et' sz' fz' e2 xs' vq
   split at he
   ·rename_i qS
    subst qS;split at he
    ·rename_i i hj
     split at he
     ·rename_i et sz fz e xs jK
      cases one _ he;obtain⟨h1,et3,sz3,fz3,e3,xs3,h2,h3,h4⟩:=h;rw[jK]at h2;cases h2;obtain⟨fz4,e4,h5,h6⟩:=hF.row hj jK;rw[vq]at h5;cases h5;refine⟨h1,_,_,_,_,_,vq,le_refl _,fun _=>?_⟩
      obtain⟨ys,h7,h8,h9,qX,v8⟩:=h4 rfl;exact⟨ys,h7,fun b hb=>Q4Y ho hj (h8 b hb),h9,qX,v8.ext h8 fun b hb=>⟨Q4Y ho hj hb,Q3a ho hj hb,fun _=>⟨rfl,fun _ h=>h⟩⟩⟩
     ·cases he
    ·rename_i hj
     cases he;obtain⟨h1,h2,_⟩:=hl;subst h1;cases h2;cases(show v=_ from ARel.valEq (g:=g) (w:=w) (ob:=ob) h)
     refine⟨rfl,_,_,_,_,_,vq,le_refl _,fun _=>⟨[],World.ownsRow_nil _ _ _ _,(fun b h=>by cases h),Alike.nil,(fun x h=>by cases h),(fun b h=>by cases h),(fun _ j y h=>by simp at h)⟩⟩
    ·cases he
   ·cases he
  ·cases he
 |val u =>
  have gen:x=.val u->ARel0 w (g.ren ρ) ob' v (.val u):=fun e=>by subst e;exact h
  cases u with
  |bool b =>
   simp only[Q4g]at he;split at he
   ·rename_i c
    cases he;obtain⟨h1,_⟩:=hl;cases h1;have e:v=.bool b:=h;subst e;exact PRel.val _ rfl
   ·exact gen (one _ he)
  |_=>exact gen (one _ he)
 |slc sz xs=>cases one _ he;exact h
 |ref cs=>cases one _ he;exact h
 |opt y=>cases one _ he;exact h
 |kb b=>cases one _ he;exact h
 |_=>cases he
theorem Qcz(hF:Fits ob ob' ρ)(ho:Q1N ρ=true){vs:List Value}{cs cs':List AV}{l:Eqs}(h:ARelC w g ob vs cs)(he:QbH ob ob' ρ cs cs'=some l)(hl:Qf l):ARelC w (g.ren ρ) ob' vs cs':=by
 obtain⟨hn,hg⟩:=Qdi _ _ _ he hl;refine⟨by rw[h.1,hn],fun j y u hy hu=>?_⟩
 have hj:j<cs.length:=by rw[hn];exact Q4 hu
 obtain⟨l',h1,h2⟩:=hg j _ _ (getElem?_eq_getElem hj) hu;obtain⟨h3,h4⟩:=h.2 j y _ hy (getElem?_eq_getElem hj);exact⟨QdQ hF ho h3 h1 h2,h4⟩
theorem Qhj{x x':AV}{l:Eqs}(he:Q4g ob ob' ρ x x'=some l)(hl:Qf l):x'=.dead\/((∀cs,x≠.agg cs)/\∀cs,x≠.tup cs):=by
 have one:∀y,some [(x,y)]=some l->x=y:=fun y hy=>by cases hy;exact hl.1
 have fin:∀y,x=y->((∀cs,y≠.agg cs)/\∀cs,y≠.tup cs)->x'=.dead\/((∀cs,x≠.agg cs)/\∀cs,x≠.tup cs):=fun y h hy=>.inr (h ▸ hy)
 cases x' with
 |dead=>exact .inl rfl
 |box j off =>
  simp only[Q4g]at he;split at he
  ·exact fin _ (one _ he) ⟨(fun cs h=>by cases h),(fun cs h=>by cases h)⟩
  ·cases he
 |iter j =>
  simp only[Q4g]at he;split at he
  ·exact fin _ (one _ he) ⟨(fun cs h=>by cases h),(fun cs h=>by cases h)⟩
  ·cases he
 |clo f j off t =>
  simp only[Q4g]at he;split at he
  ·exact fin _ (one _ he) ⟨(fun cs h=>by cases h),(fun cs h=>by cases h)⟩
  ·cases he
 |row j e' =>
  simp only[Q4g]at he;split at he
  ·split at he
   ·split at he
    ·split at he
     ·exact fin _ (one _ he) ⟨(fun cs h=>by cases h),(fun cs h=>by cases h)⟩
     ·cases he
    ·cases he
     exact fin _ hl.1 ⟨(fun cs h=>by cases h),(fun cs h=>by cases h)⟩
    ·cases he
   ·cases he
  ·cases he
 |val u =>
  cases u with
  |bool b =>
   simp only[Q4g]at he;split at he
   ·exact .inr ⟨(fun cs h=>by cases h),(fun cs h=>by cases h)⟩
   ·exact fin _ (one _ he) ⟨(fun cs h=>by cases h),(fun cs h=>by cases h)⟩
  |_=>exact fin _ (one _ he) ⟨(fun cs h=>by cases h),(fun cs h=>by cases h)⟩
 |slc sz xs=>exact fin _ (one _ he) ⟨(fun cs h=>by cases h),(fun cs h=>by cases h)⟩
 |ref cs=>exact fin _ (one _ he) ⟨(fun cs h=>by cases h),(fun cs h=>by cases h)⟩
 |opt y=>exact fin _ (one _ he) ⟨(fun cs h=>by cases h),(fun cs h=>by cases h)⟩
 |kb b=>exact fin _ (one _ he) ⟨(fun cs h=>by cases h),(fun cs h=>by cases h)⟩
 |_=>cases he
theorem Q7D(hF:Fits ob ob' ρ)(ho:Q1N ρ=true){v:Value}{x x':AV}{l:Eqs}(h:ARel w g ob v x)(he:Q8R ob ob' ρ x x'=some l)(hl:Qf l):ARel w (g.ren ρ) ob' v x':=by
 have gen:Q4g ob ob' ρ x x'=some l->ARel w (g.ren ρ) ob' v x':=fun he=>by
  have hx:ARel0 w g ob v x\/x'=.dead:=by
   rcases Qhj he hl with h1|⟨h1,h2⟩
   ·exact .inr h1
   ·left
    cases x<;>first|exact h|exact absurd rfl (h1 _)|exact absurd rfl (h2 _)
  rcases hx with hx|rfl
  ·exact(QdQ hF ho hx he hl).to
  ·trivial
 cases x' with
 |agg cs' =>
  simp only[Q8R]at he;split at he
  ·obtain⟨vs,rfl,hc⟩:=h
   exact⟨vs,rfl,Qcz hF ho hc he hl⟩
  ·cases he
 |_=>exact gen he
theorem Mem.ren(M:Mem w g ob)(hF:Fits ob ob' ρ)(ho:Q1N ρ=true):Mem w (g.ren ρ) ob':=by
 have get:∀(j:Nat) o,ob'[j]?=some o->∃i,ρ[j]?=some i/\∃l,Q2X ob ob' ρ i o=some l/\Qf l:=fun j o h=>by
  have hj:j<ρ.length:=hF.1 ▸ Q4 h;exact⟨_,getElem?_eq_getElem hj,hF.2 j _ o (getElem?_eq_getElem hj) h⟩
 refine⟨fun j cs' h=>?_,fun j cs' h k u hk=>?_,fun j y h=>?_,fun b j h=>?_,fun b o hA=>⟨(M.imm b o hA).1,fun j h hs=>?_⟩,fun j et sz fz e xs h=>?_,fun b hs=>?_,fun b b' j h1 h2 hs jf=>?_⟩
 ·obtain⟨i,hi,l,h1,h2⟩:=get j _ h
  cases i with
  |none=>cases h1
  |some i =>
   simp only[Q2X]at h1;split at h1<;>first|(rename_i jj _;cases jj;done)|skip
   ·rename_i cs2 cs jj jK
    cases jj;obtain⟨hG,cur,T,h3,h4⟩:=M.box i cs jK;exact⟨by rw[Q1v hi];exact Q4Y ho hi hG,cur,T,by rw[Q1v hi];exact h3,Qcz hF ho h4 h1 h2⟩
   ·cases h1
 ·obtain⟨i,hi,l,h1,h2⟩:=get j _ h
  cases i with
  |none=>cases h1
  |some i =>
   simp only[Q2X]at h1;split at h1<;>first|(rename_i jj _;cases jj;done)|skip
   ·rename_i cs2 cs jj jK
    cases jj;cases h1;obtain⟨h3,_⟩:=h2;cases h3;have:=M.fbox i _ jK k u hk
    rw[Q1v hi];exact this
   ·cases h1
 ·obtain⟨i,hi,l,h1,h2⟩:=get j _ h
  cases i with
  |none=>cases h1
  |some i =>
   simp only[Q2X]at h1;split at h1<;>first|(rename_i jj _;cases jj;done)|skip
   ·rename_i jj jK
    cases jj;cases h1;obtain⟨h3,h4,_⟩:=h2;cases h3;cases h4;obtain⟨hG,h5⟩:=M.iter i _ jK;exact⟨by rw[Q1v hi];exact Q4Y ho hi hG,by rw[Q1v hi];exact h5⟩
   ·rename_i jj jK
    cases jj;cases h1;obtain⟨h3,_⟩:=h2;obtain rfl:=Q6u (AV.tup.inj h3);obtain⟨hG,h5⟩:=M.iter i _ jK;exact⟨by rw[Q1v hi];exact Q4Y ho hi hG,by rw[Q1v hi];exact h5⟩
   ·rename_i jj jK
    cases jj;split at h1
    ·rename_i hm
     cases h1;obtain⟨h3,h4,_⟩:=h2;obtain rfl:=Q6u (AV.tup.inj h3);obtain rfl:=Qbv (AV.tup.inj h4);obtain⟨hG,h5,sn',h6,h7,_⟩:=M.iter i _ jK;exact⟨by rw[Q1v hi];exact Q4Y ho hi hG,hF.1 ▸ Q4 hm,sn',by rw[Q1v hi,Q1v hm];exact h6,h7,fun _ _ h=>by cases h⟩
    ·cases h1
   ·cases h1
 ·obtain⟨i,hi,hG⟩:=Q2E h
  exact⟨(M.own b i hG).1,hF.1 ▸ Q4 hi⟩
 ·obtain⟨i,hi,hG⟩:=Q2E h
  obtain⟨et,sz,e,xs,h1,h2⟩:=(M.imm b o hA).2 i hG (by rw[<-Q3a ho hi hG];exact hs)
  obtain⟨fz',e',h3,h4⟩:=hF.row hi h1;obtain rfl:=h4 rfl;exact⟨et,sz,e',xs,h3,h2⟩
 ·obtain⟨i,hi,l,h1,h2⟩:=get j _ h
  cases i with
  |none =>
   simp only[Q2X]at h1;split at h1
   ·rename_i hk
    cases h1;obtain⟨h3,_⟩:=h2;cases h3;exact⟨hk.1,fun x h=>by cases h⟩
   ·cases h1
  |some i =>
   simp only[Q2X]at h1;split at h1<;>first|(rename_i jj _;cases jj;done)|skip
   ·rename_i jj jK
    cases jj;split at h1
    ·rename_i hk
     obtain⟨rfl,rfl,_⟩:=hk;cases h1;obtain⟨h3,_⟩:=h2;cases h3;exact M.roww i _ _ _ _ _ jK
    ·cases h1
   ·cases h1
 ·simp only[Gh.ren,Bool.and_eq_true]at hs
  obtain⟨j,hj⟩:=Option.isSome_iff_exists.1 hs.2;obtain⟨i,et,sz,fz,e,xs,h1,h2⟩:=M.nsub b hs.1;obtain⟨i',hi,hG⟩:=Q2E (g:=g) (ρ:=ρ) hj;rw[h1]at hG;obtain rfl:i=i':=by simpa using hG
  obtain⟨fz',e',h3,_⟩:=hF.row hi h2;exact⟨j,_,_,_,_,_,hj,h3⟩
 ·obtain⟨i,hi,hG⟩:=Q2E h1
  obtain⟨i',gX,vB⟩:=Q2E h2
  obtain rfl:i=i':=by
   have:=hi.symm.trans gX
   simpa using this
  exact M.uniq b b' i hG vB (by rw[<-Q3a ho hi hG];exact hs) (by rw[<-Q3a ho gX vB];exact jf)
end
section
variable {w w':World}{g g':Gh}{ob ob':List Ob}
theorem Step.new(M:Mem w g ob)(o:Obj)(x:Ob):Step w g ob (w.alloc o) (g.new w ob) (ob++[x]):=by
 refine⟨rfl,rfl,rfl,by simp,fun b hb _=>Q3G hb,fun b id hG=>?_,fun b o h=>.inl h,Ext.new M o x,by simp⟩
 simp only[Gh.new]at hG;split at hG
 ·rename_i h;exact .inr (by omega)
 ·exact .inl ⟨id,hG⟩
theorem Q1n(b:Nat):∀(vs:List Value)(o:Nat)(W:World),(W.setCells b o vs).os=W.os/\(W.setCells b o vs).tape=W.tape/\(W.setCells b o vs).output=W.output
 | [],_,_=>⟨rfl,rfl,rfl⟩
 |v::r,o,W=>Q1n b r (o+1) (W.setCell ⟨b,o,none⟩ v)
theorem Step.store(M:Mem w g ob){id:Nat}{cs:List AV}(h:ob[id]?=some (.box cs))(off:Nat)(vs:List Value)(us:List AV):Step w g ob (w.setCells (g.loc id) off vs) g (ob.set id (.box us)):=by
 refine⟨?_,?_,?_,by rw[Q1o];exact le_refl _,fun b hb hG=>?_,fun b id hG=>.inl ⟨id,hG⟩,fun b o h=>.inl h,Ext.store M h off vs us,by simp⟩
 ·exact(Q1n _ _ _ _).1
 ·exact(Q1n _ _ _ _).2.1
 ·exact(Q1n _ _ _ _).2.2
 ·have vB:=(M.box id cs h).1
  exact QH (k:=0) (fun e=>by rw[e,vB]at hG;cases hG)
theorem Step.immNew(M:Mem w g ob)(hb:Below w.heap.size w w'):Step w g ob w' (g.imm w w') ob :=
 ⟨hb.os,hb.tape,hb.output,hb.size,fun b h _=>hb.block b h,fun b id hG=>.inl ⟨id,hG⟩,fun b o h=>by
  rcases h with h|⟨h,_⟩
  ·exact .inl h
  ·exact .inr (.inr h),Ext.immNew M hb,le_refl _⟩
theorem Step.grow(M:Mem w g ob){id et sz ep:Nat}{fz fz':Bool}{xs xs':List AV}(h:ob[id]?=some (.row et sz fz ep xs))
  {row vb:Option Nat} (hg:w.grownBy w' row) (jY:∀b,row=some b->g.G b=some id) (yE:∀b,vb=some b->row=some b\/(w.heap.size<=b/\b<w'.heap.size)) (E:Ext w g ob w' (g.grow id vb) (ob.set id (.row et sz fz' (ep+1) xs'))) :
  Step w g ob w' (g.grow id vb) (ob.set id (.row et sz fz' (ep+1) xs')) :=
 ⟨hg.os,hg.tape,hg.output,hg.size,fun b hb hG=>hg.block b hb (fun e=>by rw[jY b e.symm]at hG;cases hG),fun b i hG=>by
  rcases Gh.grow_of hG with ⟨h1,_⟩|⟨h1,_⟩
  ·rcases yE b h1 with h2|h2
   ·exact .inl ⟨_,jY b h2⟩
   ·exact .inr h2.1
  ·exact .inl ⟨i,h1⟩,fun b o h=>.inl h,E,by simp⟩
end
section
variable {w:World}{g:Gh}{ob:List Ob}
theorem Ext.reRow{id et sz e:Nat}{fz:Bool}{xs:List AV}(h:ob[id]?=some (.row et sz fz e xs))(fz':Bool)(xs':List AV):Ext w g ob w g (ob.set id (.row et sz fz' (e+1) xs')):=by
 have hid:=Q4 h;refine⟨fun b o h=>⟨h,rfl⟩,fun _ _=>rfl,fun i hi=>?_,fun i hi=>?_,fun i et' sz' fz2 e2 xs2 hi=>?_,fun _ _ _ _=>⟨rfl,fun _ _ h=>h⟩⟩
 ·have:i≠id:=by rintro rfl;rw[h]at hi;exact hi
  rw[getElem?_set_ne (Ne.symm this)];exact hi
 ·have:i≠id:=by rintro rfl;rw[h]at hi;exact hi
  rw[getElem?_set_ne (Ne.symm this)];exact hi
 ·by_cases e':i=id
  ·subst e'
   rw[h]at hi;cases hi;exact⟨fz',e+1,xs',getElem?_set_self hid,by omega,fun he=>by omega⟩
  ·exact⟨fz2,e2,xs2,by rw[getElem?_set_ne (Ne.symm e')];exact hi,le_refl _,fun _=>.inl ⟨rfl,fun b hG=>⟨hG,rfl⟩⟩⟩
theorem Mem.reRow(M:Mem w g ob){id et sz e:Nat}{xs:List AV}(h:ob[id]?=some (.row et sz false e xs)){xs':List AV}(hw:∀x∈xs',x.cells.length=sz):Mem w g (ob.set id (.row et sz false (e+1) xs')):=by
 have hid:=Q4 h;have E:=Ext.reRow (w:=w) (g:=g) h false xs';refine⟨fun i cs hi=>?_,fun i cs hi j u hj=>?_,fun i y hi=>?_,fun b i hG=>⟨(M.own b i hG).1,by rw[length_set];exact(M.own b i hG).2⟩,fun b o hA=>⟨(M.imm b o hA).1,fun i vo hs=>?_⟩,fun i et' sz' fz2 e2 xs2 hi=>?_,fun b hs=>?_,M.uniq⟩
 ·have e':i≠id:=by rintro rfl;rw[getElem?_set_self hid]at hi;cases hi
  rw[getElem?_set_ne (Ne.symm e')]at hi;obtain⟨h1,cur,T,h2,h3⟩:=M.box i cs hi;exact⟨h1,cur,T,h2,h3.ext E⟩
 ·have e':i≠id:=by rintro rfl;rw[getElem?_set_self hid]at hi;cases hi
  rw[getElem?_set_ne (Ne.symm e')]at hi;exact M.fbox i cs hi j u hj
 ·have e':i≠id:=by rintro rfl;rw[getElem?_set_self hid]at hi;cases hi
  rw[getElem?_set_ne (Ne.symm e')]at hi;exact⟨(M.iter i y hi).1,(M.iter i y hi).2.len (by simp)⟩
 ·obtain⟨et',sz',e2,xs2,h3,h4⟩:=(M.imm b o hA).2 i vo hs
  have e':i≠id:=by rintro rfl;rw[h]at h3;cases h3
  exact⟨et',sz',e2,xs2,by rw[getElem?_set_ne (Ne.symm e')];exact h3,h4⟩
 ·by_cases e':i=id
  ·subst e'
   rw[getElem?_set_self hid]at hi;cases hi;exact⟨(M.roww _ _ _ _ _ _ h).1,hw⟩
  ·rw[getElem?_set_ne (Ne.symm e')]at hi
   exact M.roww i _ _ _ _ _ hi
 ·obtain⟨i,et',sz',fz2,e2,xs2,h3,h4⟩:=M.nsub b hs
  by_cases e':i=id
  ·subst e'
   exact⟨i,_,_,_,_,_,h3,getElem?_set_self hid⟩
  ·exact⟨i,et',sz',fz2,e2,xs2,h3,by rw[getElem?_set_ne (Ne.symm e')];exact h4⟩
end
section
variable {P:Program}{ty:Tys}{Df:List Deferred}{w0:World}{g0:Gh}{o0:List Ob}{N:Nat}{Q:Ex->St->Prop}
def Q2m(ty:Tys):Op->Bool
 |.store _ _ _|.next _ _|.mapUpdate _ _ _ _=>false
 |.call { callee:=.builtin .append,.. }=>false
 |.call { callee:=.value f,argTypes,.. }=>!argTypes.toList.any (Qna ty)&&!QkY f&&!Qnf f argTypes
 |.convert s d _=>!(s == d&&(Q1 s ty).sl)
 |_=>true
def Q30(Df:List Deferred)(ty:Tys)(P:Program)(w0:World)(g0:Gh)(o0:List Ob)(N:Nat)(Q:Ex->St->Prop)(K:St->Tree)(op:Op)(w1:World)(a:Act)(w:World):Prop:=(Q2m ty op=true->LeB w1 w)/\∃s,Sim Df w0 g0 o0 N s a w/\(K s).ok Df P w0 g0 o0 N Q
theorem QhP{w w':World}{g g':Gh}{s:St}{ob':List Ob}{a:Act}(hS:QW w g s a)(E:Ext w g s.ob w' g' ob'){d:Option Nat}(hd:∀t,d=some t->t<a.tmps.size){v:Value}{x:AV}(hv:ARel w' g' ob' v x) :
  QW w' g' (St.put ⟨s.tm,ob'⟩ d x) (a.put d v):=by
 intro t;cases d with
 |none=>exact(hS t).ext E
 |some d =>
  have jE:=hd d rfl;show ARel w' g' ob' ((a.tmps.setIfInBounds d v).getD t undef) (if t=d then x else lk t s.tm);by_cases e:t=d
  ·subst e
   rw[if_pos rfl];have:(a.tmps.setIfInBounds t v).getD t undef=v:=by simp[Array.getD_eq_getD_getElem?,jE]
   rw[this];exact hv
  ·rw[if_neg e]
   have:(a.tmps.setIfInBounds d v).getD t undef=a.tmps.getD t undef:=by
    simp only[Array.getD_eq_getD_getElem?];rw[Array.getElem?_setIfInBounds_ne (Ne.symm e)]
   rw[this];exact(hS t).ext E
theorem Q12{s:St}{a:Act}{w w':World}{g g':Gh}{ob':List Ob}(hs:Sim Df w0 g0 o0 N s a w)(hS:QW w g s a)(h0:Step w0 g0 o0 w g s.ob)(M':Mem w' g' ob')(h1:Step w g s.ob w' g' ob')
  {d:Option Nat} (hd:∀t,d=some t->t<N) {v:Value} {x:AV} (hv:ARel w' g' ob' v x):Sim Df w0 g0 o0 N (St.put ⟨s.tm,ob'⟩ d x) (a.put d v) w':=by
 refine⟨?_,?_,g',?_,QhP hS h1.ext (fun t ht=>by rw[hs.size];exact hd t ht) hv,?_⟩
 ·cases d<;>exact hs.defers
 ·cases d with
  |none=>exact hs.size
  |some d=>show(a.tmps.setIfInBounds d v).size=N;rw[Array.size_setIfInBounds];exact hs.size
 ·cases d<;>exact M'
 ·cases d<;>exact h0.trans h1
theorem Q11{S:Sem Value}{W W':World}{v:Value}(h:S.run P W=.ok v W'):(do pure (Next.value (<-S)):Sem Next).run P W=.ok (.value v) W':=by
 rw[Sem.run_bind,h];rfl
theorem Q3k{o:Oper}{a:Act}{w w':World}{K:Act->World->Prop}{R:Exit->Act->World->Prop}{v:Value}(h:(execOp a.eval o).run P w=.ok (.value v) w')(hk:K (a.put o.dst v) w'):o.wp P a w K R:=by
 unfold Oper.wp;rw[h];exact hk
theorem Q7a{s:St}{a:Act}{w:World}(x:Operand)(hs:Sim Df w0 g0 o0 N s a w):Sim Df w0 g0 o0 N (Qab std s x) a w:=by
 unfold Qab;split
 ·rename_i t
  split
  ·rename_i id ep k hv
   split
   ·rename_i et sz e xs jK
    split
    ·rename_i he
     subst he;obtain⟨g,M,hS,h0⟩:=hs.rel;have hr:=hS t;rw[hv]at hr;obtain⟨h1,et',sz',fz',e',xs',h2,h3,h4⟩:=hr;rw[jK]at h2;cases h2;obtain⟨h5,h6,h7⟩:=h4 rfl;have ec:std.cut xs 0 k=xs.take k.toNat:=by simp[std]
     have E:=Ext.reRow (w:=w) (g:=g) jK false (std.cut xs 0 k);have M':=M.reRow jK (xs':=std.cut xs 0 k) (fun y hy=>(M.roww _ _ _ _ _ _ jK).2 y (by rw[ec]at hy;exact List.mem_of_mem_take hy))
     refine⟨hs.defers,hs.size,g,M',fun u=>?_,h0.trans ⟨rfl,rfl,rfl,le_refl _,fun _ _ _=>rfl,fun b id h=>.inl ⟨id,h⟩,fun b o h=>.inl h,E,by simp⟩⟩
     show ARel w g _ _ (if u=t then .row id (e+1)else lk u s.tm);by_cases eu:u=t
     ·subst eu
      rw[if_pos rfl];exact⟨h1,et,sz,false,e+1,_,getElem?_set_self (Q4 jK),le_refl _,fun _=>by rw[ec];exact h7⟩
     ·rw[if_neg eu];exact(hS u).ext E
    ·exact hs
   ·exact hs
  ·exact hs
 ·exact hs
theorem Qea{K:St->Tree}{o:Oper}{s:St}{a:Act}{w:World}{R:Exit->Act->World->Prop}(hs:Sim Df w0 g0 o0 N s a w)(hd:∀t,o.dst=some t->t<N)
  {x:AV} (hy:∀g,Mem w g s.ob->QW w g s a->Yld P w g s a o (Q8g o.op) x) (jB:(K (St.put s o.dst x)).ok Df P w0 g0 o0 N Q):o.wp P a w (Q30 Df ty P w0 g0 o0 N Q K o.op w) R:=by
 obtain⟨g,M,hS,h0⟩:=hs.rel;obtain⟨v,h1,h2⟩:=hy g M hS;exact Q3k (h1 w (fun _=>LeB.refl w)) ⟨fun _=>LeB.refl w,_,Q12 hs hS h0 M Step.refl hd h2,jB⟩
theorem Qiq(hT:TyOk P ty){K:St->Tree}{o:Oper}{s:St}{a:Act}{w:World}{R:Exit->Act->World->Prop}(hs:Sim Df w0 g0 o0 N s a w)(hd:∀t,o.dst=some t->t<N)
  {T:Nat} (ho:o.op=.alloc T) (hk:(Q1 T ty).ok=true) (jB:(K (St.put ⟨s.tm,s.ob++[.box ((Q1 T ty).zero.map .val)]⟩ o.dst (.box s.ob.length 0))).ok Df P w0 g0 o0 N Q):o.wp P a w (Q30 Df ty P w0 g0 o0 N Q K o.op w) R:=by
 obtain⟨g,M,hS,h0⟩:=hs.rel;have ti:=Q1S hT hk;obtain⟨z,hz,nX⟩:=ti.zeroV
 have hr:(execOp a.eval o).run P w=.ok (.value (.pointer (some ⟨w.heap.size,0,none⟩))) (w.alloc (.cells z.cells T)):=by
  simp only[execOp,ho];refine Q11 ?_;simp only[Instr.alloc,Sem.run_bind,nX,Result.andThen_ok,newVar,newRow,run_newObj,Sem.run_pure];rfl
 have hc:ARelC w g s.ob z.cells.toList ((Q1 T ty).zero.map .val):=by rw[hz];exact Q7f ti.zone
 have M':=M.new (.cells z.cells T) (.box ((Q1 T ty).zero.map .val)) (fun cs h=>by cases h;exact⟨_,_,rfl,hc⟩) (fun cs h=>by cases h) (fun y h=>by cases h) (fun et sz fz e xs h=>by cases h)
 refine Q3k hr ⟨fun _=>(Below.refl _ w).alloc (le_refl _) _,_,Q12 hs hS h0 M' (Step.new M _ _) hd ?_,jB⟩
 refine⟨by simp[Gh.new],?_⟩
 rw[Q2p];trivial
theorem QmC{K:St->Tree}{o:Oper}{s:St}{a:Act}{w:World}{R:Exit->Act->World->Prop}(hs:Sim Df w0 g0 o0 N s a w)(hd:∀t,o.dst=some t->t<N)
  {T:Nat} {x:Operand} (ho:o.op=.box T x) (hl:(ev s x).live=true) (jB:(K (St.put ⟨s.tm,s.ob++[.box (ev s x).cells]⟩ o.dst (.box s.ob.length 0))).ok Df P w0 g0 o0 N Q):o.wp P a w (Q30 Df ty P w0 g0 o0 N Q K o.op w) R:=by
 obtain⟨g,M,hS,h0⟩:=hs.rel
 have hr:(execOp a.eval o).run P w=.ok (.value (.pointer (some ⟨w.heap.size,0,none⟩))) (w.alloc (.cells (a.eval x).cells T)):=by
  simp only[execOp,ho];refine Q11 ?_;simp only[Instr.box,Sem.run_bind,Result.andThen_ok,newVar,newRow,run_newObj,Sem.run_pure];rfl
 have hc:=(Qo hS x).cells hl;have M':=M.new (.cells (a.eval x).cells T) (.box (ev s x).cells) (fun cs h=>by cases h;exact⟨_,_,rfl,hc⟩) (fun cs h=>by cases h) (fun y h=>by cases h) (fun et sz fz e xs h=>by cases h)
 refine Q3k hr ⟨fun _=>(Below.refl _ w).alloc (le_refl _) _,_,Q12 hs hS h0 M' (Step.new M _ _) hd ?_,jB⟩
 refine⟨by simp[Gh.new],?_⟩
 rw[Q2p];trivial
theorem Qie(hT:TyOk P ty){K:St->Tree}{o:Oper}{s:St}{a:Act}{w:World}{R:Exit->Act->World->Prop}(hs:Sim Df w0 g0 o0 N s a w)(hd:∀t,o.dst=some t->t<N)
  {T:Nat} {x y:Operand} (ho:o.op=.store T x y) {id off:Nat} {c:List AV} (hx:ev s x=.box id off) (hb:s.ob[id]?=some (.box c)) (hl:(ev s y).live=true) (hk:(Q1 T ty).ok=true)
  (j6:(ev s y).cells.length=(Q1 T ty).size) (jF:off+(ev s y).cells.length<=c.length)
  (jB:(K (St.put ⟨s.tm,s.ob.set id (.box (setCells c off (ev s y).cells))⟩ o.dst .dead)).ok Df P w0 g0 o0 N Q):o.wp P a w (Q30 Df ty P w0 g0 o0 N Q K o.op w) R:=by
 obtain⟨g,M,hS,h0⟩:=hs.rel;have hc:=(Qo hS y).cells hl;have jn:=Qo hS x;rw[hx]at jn;have hv:a.eval x=.pointer (some ⟨g.loc id,off,none⟩):=jn.1;obtain⟨hG,cur,T',hh,kM⟩:=M.box id c hb;have jC:(a.eval y).cells.size=(ev s y).cells.length:=by simpa using hc.1
 have qY:cur.size=c.length:=by simpa using kM.1
 have h1:∀v∈(a.eval y).cells.toList,v.oneCell'=true:=fun v hv=>by
  obtain⟨j,hj,rfl⟩:=List.mem_iff_getElem.1 hv;exact(hc.2 j _ _ (getElem?_eq_getElem hj) (getElem?_eq_getElem (by rw[<-hc.1];exact hj))).2
 have jI:=run_storeCells_cells (P:=P) (g.loc id) off (a.eval y).cells.toList 0 w (fun j hj=>by
   have:off+j<cur.size:=by simp at hj;omega
   simp[World.cell?,hh,this]) (fun j hj=>by simp[World.frozen?,hh]) h1
 rw[Nat.add_zero]at jI;have kr:=(Q1S hT hk).size w
 have hr:(execOp a.eval o).run P w=.ok .skip (w.setCells (g.loc id) off (a.eval y).cells.toList):=by
  have jL:¬((a.eval y).cells.size≠(Q1 T ty).size):=by omega
  simp only[execOp,ho,Instr.storeAt,hv,Instr.sureAddr,storeVar,Sem.run_bind,Sem.run_pure,Result.andThen_ok,kr,jL,if_false,jI]
 have M':=M.store hb hc jF;have:(execOp a.eval o).run P w=.ok .skip (w.setCells (g.loc id) off (a.eval y).cells.toList):=hr
 unfold Oper.wp;rw[hr];show Q30 Df ty P w0 g0 o0 N Q K o.op w (a.put o.dst undef) _;exact⟨fun h=>by simp[ho,Q2m]at h,_,Q12 hs hS h0 M' (Step.store M hb _ _ _) hd (v:=undef) (x:=.dead) trivial,jB⟩
theorem Qao(hT:TyOk P ty){w:World}{s:St}{a:Act}{K:St->Tree}{o:Oper}{op:BinOp}{T T':Nat}{x y:Operand}(ho:o.op=.binOp op T x y T')
  {xs:List AV} (hn:Qns s x y=some xs) (hk:(Q1 T ty).kd=2) (b:Bool) (vr:op=if b then .eql else .neq)
  (jB:(std.emp xs->(K (St.put s o.dst (.val (.bool b)))).ok Df P w0 g0 o0 N Q)/\(K (St.put s o.dst (.val (.bool !b)))).ok Df P w0 g0 o0 N Q) :
  ∃z,(K (St.put s o.dst z)).ok Df P w0 g0 o0 N Q/\∀g rd,QW w g s a->Yld P w g s a o rd z:=by
 unfold Qns at hn;split at hn
 ·rename_i sz xs' n c hx hy
  obtain rfl:xs'=xs:=by simpa using hn
  by_cases hg:∃g,QW w g s a
  ·obtain⟨g,hS⟩:=hg
   have jn:=Qo hS x;have cH:=Qo hS y;rw[hx]at jn;rw[hy]at cH;have hyv:=cH.valEq;have jn:PRel w g.A (a.eval x) (.slc sz xs'):=jn;generalize hv:a.eval x=v at jn;cases jn with
   |nil =>
    refine⟨_,jB.1 rfl,fun g rd _=>QR (u:=.slice none 0 0) ho hv hyv (by simp) (by simp) (r:=.bool b) (fun W=>?_) rfl⟩
    have:=Q2x (P:=P) hT hk none 0 0 n c W
    subst vr;cases b
    ·exact this.2
    ·exact this.1
   |slc bk of cp _ _ f hc hm hw hcell hrel =>
    refine⟨_,jB.2,fun g rd _=>QR ho hv hyv (by simp) (by simp) (r:=.bool !b) (fun W=>?_) rfl⟩
    have:=Q2x (P:=P) hT hk (some ⟨bk,of,none⟩) xs'.length cp n c W
    subst vr;cases b
    ·exact this.2
    ·exact this.1
  ·exact⟨_,jB.2,fun g rd hS=>absurd ⟨g,hS⟩ hg⟩
 ·cases hn
theorem Q8k{w:World}{g:Gh}{ob:List Ob}:∀(cs ds:List AV)(us vs:List Value)(sh:List Srt)(b:Bool),QcS std cs ds=some (sh,b)->ARelC w g ob us cs->ARelC w g ob vs ds ->
  us.map Q3B=sh.map some/\vs.map Q3B=sh.map some/\b=(us.zip vs).all fun q=>eqV q.1 q.2
 | [],[],us,vs,sh,b,h,hu,hv=>by
  obtain⟨rfl,rfl⟩:[]=sh/\true=b:=by simpa[QcS]using h
  obtain rfl:us=[]:=eq_nil_of_length_eq_zero hu.1;obtain rfl:vs=[]:=eq_nil_of_length_eq_zero hv.1;exact⟨rfl,rfl,rfl⟩
 | [],_::_,_,_,_,_,h,_,_=>by cases h
 |_::_,[],_,_,_,_,h,_,_=>by cases h
 |x::r,y::r',us,vs,sh,b,h,hu,hv=>by
  cases us with
  |nil=>exact absurd hu.1 (by simp)
  |cons u us =>
   cases vs with
   |nil=>exact absurd hv.1 (by simp)
   |cons v vs =>
    simp only[QcS]at h;split at h
    ·rename_i s1 b1 s2 b2 h1 h2
     obtain⟨rfl,rfl⟩:s1::s2=sh/\std.andB b1 b2=b:=by simpa using h
     obtain⟨i1,i2,i3⟩:=Q8k r r' us vs s2 b2 h2 ⟨by simpa using hu.1,fun j a c ha hc=>hu.2 (j+1) a c (by simpa using ha) (by simpa using hc)⟩ ⟨by simpa using hv.1,fun j a c ha hc=>hv.2 (j+1) a c (by simpa using ha) (by simpa using hc)⟩
     have nY:=(hu.2 0 u x rfl rfl).1;have ym:=(hv.2 0 v y rfl rfl).1;unfold eqC at h1;split at h1
     ·rename_i k a k' c
      split at h1
      ·rename_i hk
       subst hk;obtain⟨rfl,rfl⟩:Srt.int k=s1/\std.eqI a c=b1:=by simpa using h1
       cases(show u=_ from ARel.valEq (g:=g) (w:=w) (ob:=ob) nY)
       cases(show v=_ from ARel.valEq (g:=g) (w:=w) (ob:=ob) ym)
       exact⟨by simp[Q3B,i1],by simp[Q3B,i2],by rw[i3];rfl⟩
      ·cases h1
     ·rename_i a c
      obtain⟨rfl,rfl⟩:Srt.boo=s1/\std.eqB a c=b1:=by simpa using h1
      cases(show u=_ from ARel.valEq (g:=g) (w:=w) (ob:=ob) nY)
      cases(show v=_ from ARel.valEq (g:=g) (w:=w) (ob:=ob) ym)
      exact⟨by simp[Q3B,i1],by simp[Q3B,i2],by rw[i3];rfl⟩
     ·rename_i a c
      obtain⟨rfl,rfl⟩:Srt.str=s1/\std.eqS a c=b1:=by simpa using h1
      cases(show u=_ from ARel.valEq (g:=g) (w:=w) (ob:=ob) nY)
      cases(show v=_ from ARel.valEq (g:=g) (w:=w) (ob:=ob) ym)
      exact⟨by simp[Q3B,i1],by simp[Q3B,i2],by rw[i3];rfl⟩
     ·cases h1
    ·cases h
theorem QdF{w:World}{s:St}{a:Act}{o:Oper}{op:BinOp}{T T':Nat}{x y:Operand}(ho:o.op=.binOp op T x y T'){sh:List Srt}{b:Bool}(h:Qic std s op x y=some (sh,b))(he:QbQ P T sh){g:Gh}{rd:Bool}(hS:QW w g s a) :
  Yld P w g s a o rd (.val (.bool b)):=by
 unfold Qic at h;split at h
 ·rename_i cs ds hx hy
  split at h
  ·rename_i sh' b' hc
   have jn:=Qo hS x;have cH:=Qo hS y;rw[hx]at jn;rw[hy]at cH;obtain⟨us,hu,cM⟩:=jn;obtain⟨vs,hv,pJ⟩:=cH;obtain⟨e1,e2,e3⟩:=Q8k cs ds us.toList vs.toList sh' b' hc cM pJ;split at h
   ·obtain⟨rfl,rfl⟩:sh'=sh/\b'=b:=by simpa using h
    refine Q1F (S:=do eqGuard .eql T x y (a.eval x) (a.eval y);binOp .eql T (a.eval x) (a.eval y)) (fun W=>by simp only[execOp,ho]) ⟨.bool b',fun W _=>?_,.val _ rfl⟩
    obtain⟨h1,_,h3,_⟩:=he us.toList vs.toList x y W e1 e2;rw[Sem.run_bind,hu,hv,h1];rw[e3];exact h3
   ·obtain⟨rfl,rfl⟩:sh'=sh/\std.notB b'=b:=by simpa using h
    refine Q1F (S:=do eqGuard .neq T x y (a.eval x) (a.eval y);binOp .neq T (a.eval x) (a.eval y)) (fun W=>by simp only[execOp,ho]) ⟨.bool !b',fun W _=>?_,.val _ rfl⟩
    obtain⟨_,h2,_,h4⟩:=he us.toList vs.toList x y W e1 e2;rw[Sem.run_bind,hu,hv,h2];rw[e3];exact h4
   ·cases h
  ·cases h
 ·cases h
theorem Qfu(hT:TyOk P ty){w:World}{s:St}{a:Act}{cs:Nat->List AV->List Ob->Option (AV×List Ob)}{K:St->Tree}{o:Oper}{op:BinOp}{T T':Nat}{x y:Operand}(ho:o.op=.binOp op T x y T')
  (jB:(aop std ty cs K o s).ok Df P w0 g0 o0 N Q) :
  (Q2u std ty K o s o.op).ok Df P w0 g0 o0 N Q\/∃z,(K (St.put s o.dst z)).ok Df P w0 g0 o0 N Q/\∀g rd,QW w g s a->Yld P w g s a o rd z:=by
 simp only[aop,ho]at jB;split at jB
 ·rename_i xs hn
  right
  split at jB
  ·rename_i hk
   split at jB
   ·exact Qao hT ho hn hk true rfl jB
   ·exact Qao hT ho hn hk false rfl jB
   ·exact jB.elim
  ·exact jB.elim
 ·split at jB
  ·rename_i sh b he
   exact .inr ⟨_,jB.2,fun g rd hS=>QdF ho he jB.1 hS⟩
  ·left;rw[ho];exact jB
theorem Qdn{s:St}{a:Act}{w:World}(x:Operand)(hs:Sim Df w0 g0 o0 N s a w):Sim Df w0 g0 o0 N (Qnc std s x) a w:=by
 have go:∀(t:Nat)(v:AV)(ob:List Ob),frz std true 9 s.ob (lk t s.tm)=some (v,ob)->Sim Df w0 g0 o0 N ⟨(t,v)::s.tm,ob⟩ a w:=fun t v ob he=>by
  obtain⟨g,M,hS,h0⟩:=hs.rel;obtain⟨g',M',E,hr,hL⟩:=Qjr M (hS t) he;refine⟨hs.defers,hs.size,g',M',fun u=>?_,h0.trans (Step.ghost E hL)⟩
  show ARel w g' _ _ (if u=t then v else lk u s.tm);by_cases eu:u=t
  ·subst eu
   rw[if_pos rfl];exact hr
  ·rw[if_neg eu];exact(hS u).ext E
 unfold Qnc;split
 ·rename_i t
  split
  ·rename_i id ep hv
   split
   ·rename_i v ob he
    exact go t v ob (by rw[hv];exact he)
   ·exact hs
  ·rename_i id ep k hv
   split
   ·rename_i v ob he
    exact go t v ob (by rw[hv];exact he)
   ·exact hs
  ·exact hs
 ·exact hs
end
section
variable {P:Program}{ty:Tys}{Df:List Deferred}{w0:World}{g0:Gh}{o0:List Ob}{N:Nat}{Q:Ex->St->Prop}{w w':World}{g g':Gh}{ob ob':List Ob}
theorem Qjg{v:Value}{x:AV}(h:ARel0 w g ob v x)(hp:x.pur0=true):PRel w g.A v x:=by cases x<;>first|exact h|cases hp
theorem Qbo{vs:List Value}{x:AV}{v:Value}(h:ARel1 w g ob v x)(hp:x.pur=true):Alike w g.A v.cells.toList x.cells:=by
 have hl:x.live=true:=by cases x<;>first|rfl|cases hp
 have hc:=h.to.cells hl;refine⟨hc.1,fun j y u hy hu=>Qjg (hc.2 j y u hy hu).1 ?_⟩
 have hm:=mem_of_getElem? hu;cases x with
 |agg cs=>exact all_eq_true.1 hp u hm
 |val a=>obtain rfl:u=AV.val a:=by simpa[AV.cells]using hm
         rfl
 |slc a b=>obtain rfl:u=AV.slc a b:=by simpa[AV.cells]using hm
           rfl
 |opt a=>obtain rfl:u=AV.opt a:=by simpa[AV.cells]using hm
         rfl
 |ref a=>obtain rfl:u=AV.ref a:=by simpa[AV.cells]using hm
         rfl
 |_=>cases hp
theorem Q8h{sz:Nat}:∀(vs:List Value)(k:Nat)(c:Array Value),(∀v∈vs,v.cells.size=sz)->(k+vs.length) * sz<=c.size ->
  ∃c',Instr.fill (fun i=>some (i * sz,sz)) c ((vs.zipIdx k).map fun x=>(x.2,x.1))=some c'/\c'.toList=c.toList.take (k * sz)++(vs.flatMap (·.cells.toList)++c.toList.drop ((k+vs.length) * sz))
 | [],k,c,_,_=>⟨c,rfl,by simp⟩
 |v::r,k,c,hv,hl=>by
  have h1:=hv v List.mem_cons_self
  have jF:k * sz+sz<=c.size:=by
   have:(k+1) * sz<=(k+(v::r).length) * sz:=Nat.mul_le_mul_right _ (by simp)
   rw[add_mul,Nat.one_mul]at this;omega
  have vm:=Qe4 (k * sz) v.cells.toList 0 c;have e1:(v.cells.toList.take (c.size-(k * sz+0)))=v.cells.toList:=List.take_of_length_le (by simp;omega)
  rw[e1,Nat.add_zero,Array.length_toList,h1]at vm;generalize yO:(v.cells.toList.zipIdx 0).foldl (fun cs (x:Value×Nat)=>cs.setIfInBounds (k * sz+x.2) x.1) c=c2 at vm
  have kF:c2.size=c.size:=by
   have:=congrArg List.length vm
   simp only[Array.length_toList,length_append,length_take,List.length_drop,h1]at this;omega
  obtain⟨c',h3,h4⟩:=Q8h r (k+1) c2 (fun v h=>hv v (List.mem_cons_of_mem _ h)) (by rw[kF];simpa[Nat.add_assoc,Nat.add_comm 1]using hl)
  refine⟨c',?_,?_⟩
  ·simp only[List.zipIdx_cons,map_cons,Instr.fill]
   rw[if_neg]
   ·rw[<-h3,<-yO]
    congr 1
    rw[<-Array.foldl_toList,Array.toList_zipIdx]
   ·simp only[Bool.or_eq_true,decide_eq_true_eq,bne_iff_ne,ne_eq,not_or]
    omega
  ·rw[h4,vm]
   have e2:(k+1) * sz=k * sz+sz:=by rw[add_mul,Nat.one_mul]
   have e3:(k+1+r.length) * sz=k * sz+sz+r.length * sz:=by rw[add_mul,e2]
   have e4:(k+(v::r).length) * sz=k * sz+sz+r.length * sz:=by rw[List.length_cons,<-e3];congr 1;omega
   have h5:(c.toList.take (k * sz)).length=k * sz:=by rw[length_take,Array.length_toList];omega
   rw[e2,e3,e4,flatMap_cons];have h6:(v.cells.toList).length=sz:=by rw[Array.length_toList,h1]
   generalize hX:c.toList.take (k * sz)=X at h5
   have t1:(X++(v.cells.toList++c.toList.drop (k * sz+sz))).take (k * sz+sz)=X++v.cells.toList:=by
    rw[<-append_assoc];exact List.take_left' (by rw[length_append];omega)
   have t2:(X++(v.cells.toList++c.toList.drop (k * sz+sz))).drop (k * sz+sz+r.length * sz)=c.toList.drop (k * sz+sz+r.length * sz):=by
    rw[<-append_assoc,List.drop_append,List.drop_eq_nil_of_le (by rw[length_append];omega),List.nil_append,length_append,h5,h6,Nat.add_sub_cancel_left,List.drop_drop]
   rw[t1,t2];simp only[append_assoc]
theorem Q6C{A:Nat->Nat->Prop}:∀(vs:List Value)(xs:List AV),vs.length=xs.length->(∀(j:Nat) v x,vs[j]?=some v->xs[j]?=some x->Alike w A v.cells.toList x.cells)->Alike w A (vs.flatMap (·.cells.toList)) (Qp xs)
 | [],xs,hl,_=>by
  have:xs=[]:=eq_nil_of_length_eq_zero hl.symm
  subst this;exact Alike.nil
 |v::vs,[],hl,_=>by simp at hl
 |v::vs,x::xs,hl,h=>by
  rw[flatMap_cons,Qp,flatMap_cons];exact(h 0 v x rfl rfl).append (Q6C vs xs (by simpa using hl) (fun j v x h1 h2=>h (j+1) v x (by simpa using h1) (by simpa using h2)))
theorem KidV.nil{id:Nat}:KidV w g id (.slice none 0 0):=⟨0,[],World.ownsRow_nil _ _ _ _,fun b h=>by cases h⟩
theorem Mem.sub_lt(M:Mem w g ob){b:Nat}(h:g.sub b=true):b<w.heap.size:=by
 obtain⟨id,_,_,_,_,_,h1,_⟩:=M.nsub b h;exact(M.own b id h1).1
theorem Mem.sub_new(M:Mem w g ob){b:Nat}(h:w.heap.size<=b):g.sub b=false:=by
 cases hs:g.sub b with
 |false=>rfl
 |true=>have:=M.sub_lt hs;omega
theorem Q7B{sz:Nat}:∀(xs:List AV),Q8W xs=true->(∀x∈xs,x.cells.length=sz)->∀(j:Nat) u,(Qp xs)[j]?=some u->j % sz=1->u=.val (.slice none 0 0)
 | [],_,_,j,u,h,_=>by simp at h
 |x::r,hk,hw,j,u,h,hj=>by
  unfold Q8W at hk;split at hk
  ·rename_i a hc
   have hx:=hw x (List.mem_cons_self ..);have e:Qp (x::r)=a :: .val (.slice none 0 0)::Qp r:=by simp[hc]
   rw[e]at h;obtain rfl:2=sz:=by rw[hc]at hx;exact hx
   match j,h,hj with
   |0,_,hj=>cases hj
   |1,h,_=>simpa using h.symm
   |j+2,h,hj=>exact Q7B r hk (fun y hy=>hw y (List.mem_cons_of_mem _ hy)) j u (by simpa using h) (by omega)
  ·cases hk
theorem QcR{E sz:Nat}{xs:List AV}{ys:List Value}(hs:Q9n E xs=true)(jT:Alike w g.A ys (Qp xs))(hw:∀x∈xs,x.cells.length=sz)(he:E=Q4e){j:Nat}{y:Value}(hy:ys[j]?=some y)(hj:j % sz=1) :
  y=.slice none 0 0:=by
 simp only[Q9n,he,if_true]at hs;have hl:j<(Qp xs).length:=by rw[<-jT.1];exact Q4 hy
 have hu:=getElem?_eq_getElem hl;have:=jT.2 j y _ hy hu
 rw[Q7B xs hs hw j _ hu hj]at this;exact(show y=_ from ARel.valEq (g:=g) (w:=w) (ob:=[]) this)
theorem Qaw(hT:TyOk P ty){K:St->Tree}{o:Oper}{s:St}{a:Act}{w:World}{R:Exit->Act->World->Prop}(hs:Sim Df w0 g0 o0 N s a w)(hd:∀t,o.dst=some t->t<N)
  {T len:Nat} {parts:Array (Nat×Operand)} (ho:o.op=.buildSlice T len parts) {xs:List AV} {ob:List Ob} (he:Q3M (frz std true 9) s.ob (parts.toList.map fun x=>ev s x.2)=some (xs,ob))
  (qu:Q9n (Q1 T ty).elem xs=true) (j5:Q56 ty T (Q1 (Q1 T ty).elem ty).size=true) (h1:Qk1 (Q1 (Q1 T ty).elem ty).size xs=true) (hp:xs.all AV.pur=true) (jC:len<=4000) (j6:(Q1 (Q1 T ty).elem ty).size<=4000)
  (hi:parts.toList.map (·.1)=List.range len)
  (jB:(K (St.put ⟨s.tm,ob++[.row (Q1 T ty).elem (Q1 (Q1 T ty).elem ty).size false 0 xs]⟩ o.dst (.row ob.length 0))).ok Df P w0 g0 o0 N Q):o.wp P a w (Q30 Df ty P w0 g0 o0 N Q K o.op w) R:=by
 obtain⟨g,M,hS,h0⟩:=hs.rel
 have hL:Q1D w g s.ob (parts.toList.map fun x=>a.eval x.2) (parts.toList.map fun x=>ev s x.2):=by
  refine⟨by simp,fun j v x hv hx=>?_⟩
  rw[getElem?_map,Option.map_eq_some_iff]at hv hx;obtain⟨q,hq,rfl⟩:=hv;obtain⟨q',vV,rfl⟩:=hx;rw[hq]at vV;cases vV;have hr:=Qo hS q.2;exact hr.to1 (Q6v _ _ _ _ he _ (mem_map.2 ⟨q,mem_of_getElem? hq,rfl⟩))
 obtain⟨g1,M1,E1,L1,G1⟩:=QlE _ _ g s.ob xs ob M hL he;obtain⟨e,hu,qS,te,qO,j4⟩:=Q3E hT j5;obtain⟨ie,z,yy,qg,z7,cU,gV,_⟩:=te.i;rw[qO]at qg;subst qS;generalize hE:(Q1 T ty).elem=E at *;generalize hSZ:(Q1 E ty).size=sz at *;have hvl:(parts.toList.map fun x=>a.eval x.2).length=xs.length:=L1.1
 have jw:parts.toList.length=len:=by have:=congrArg List.length hi;simpa using this
 have qD:parts.size=len:=by simpa using jw
 have qt:xs.length=len:=by rw[<-hvl,List.length_map,jw]
 have hcs:∀(j:Nat) v x,(parts.toList.map fun x=>a.eval x.2)[j]?=some v->xs[j]?=some x->Alike w g1.A v.cells.toList x.cells/\x.cells.length=sz:=fun j v x hv hx =>
  ⟨Qbo (vs:=[]) (L1.2 j v x hv hx) (all_eq_true.1 hp x (mem_of_getElem? hx)),by have:=all_eq_true.1 h1 x (mem_of_getElem? hx);simpa using this⟩
 have hv:∀v∈(parts.toList.map fun x=>a.eval x.2),v.cells.size=sz:=fun v hv=>by
  obtain⟨j,hj,rfl⟩:=List.mem_iff_getElem.1 hv;obtain⟨h2,h3⟩:=hcs j _ _ (getElem?_eq_getElem hj) (getElem?_eq_getElem (by omega))
  have:=h2.1
  rw[Array.length_toList]at this;omega
 have kN:(parts.map fun(i,x)=>(i,a.eval x)).toList=((parts.toList.map fun x=>a.eval x.2).zipIdx 0).map fun x=>(x.2,x.1):=by
  rw[Array.toList_map];refine List.ext_getElem? fun j=>?_
  simp only[getElem?_map,List.getElem?_zipIdx,zero_add];cases hj:parts.toList[j]? with
  |none=>rfl
  |some q =>
   have h4:(parts.toList.map (·.1))[j]?=some q.1:=by rw[getElem?_map,hj];rfl
   rw[hi,List.getElem?_range (by have:=Q4 hj;omega)]at h4
   obtain rfl:j=q.1:=by simpa using h4
   rfl
 obtain⟨c',hf,zH⟩:=Q8h (sz:=sz) (parts.toList.map fun x=>a.eval x.2) 0 ((Array.range (len * sz)).map (z.cells[· % z.cells.size]!)) hv (by simp[qD])
 have nZ:c'.toList=(parts.toList.map fun x=>a.eval x.2).flatMap (·.cells.toList):=by
  rw[zH,Nat.zero_mul,List.take_zero,List.nil_append,zero_add,List.drop_eq_nil_of_le (by simp[qD]),List.append_nil]
 have jT:Alike w g1.A c'.toList (Qp xs):=by
  rw[nZ];exact Q6C _ _ hvl (fun j v x hv hx=>(hcs j v x hv hx).1)
 have hw:∀x∈xs,x.cells.length=sz:=fun x hx=>by have:=all_eq_true.1 h1 x hx;simpa using this
 have kO:c'.size=len * sz:=by
  have:=jT.1
  rw[Q22 xs hw,qt,Array.length_toList]at this;exact this
 have kP:¬len * sz > 2 ^ 24:=by
  have:len * sz<=4000 * 4000:=Nat.mul_le_mul jC j6
  omega
 have hr:(execOp a.eval o).run P w=.ok (.value (.slice (some ⟨w.heap.size,0,none⟩) len len)) (w.alloc (.cells c' E)):=by
  simp only[execOp,ho];refine Q11 ?_;by_cases h0:len * sz=0
  ·have:c'=#[]:=by apply Array.eq_empty_of_size_eq_zero;omega
   subst this
   have gv:len=0:=by
    rcases Nat.eq_zero_or_pos len with h|h
    ·exact h
    ·have:=Nat.mul_pos h j4;omega
   subst gv
   have nA:parts=#[]:=by
    apply Array.ext';exact eq_nil_of_length_eq_zero jw
   subst nA;simp[Instr.buildSlice,run_underlying hu,sizeOf,typeInfo,yy,Instr.fill,newRow];congr 2
   apply Array.eq_empty_of_size_eq_zero;simp
  ·refine run_buildSlice w T E len _ c' ie z hu yy cU (by rw[qg];exact kP) (by rw[qg];exact h0) ?_
   rw[qg,kN];exact hf
 have jY:RowV (w.alloc (.cells c' E)) (g1.new w ob) ob.length E sz (.slice (some ⟨w.heap.size,0,none⟩) len len) xs:=by
  refine⟨c'.toList,⟨by rw[Array.length_toList,kO,qt],.inr ⟨w.heap.size,len,c',by rw[qt],Nat.zero_le _,Q5D w _,by omega,by unfold maxLen;omega,kO,?_⟩⟩,fun b hb=>?_,jT.keep (Ext.new M1 (.cells c' E) (.row E sz false 0 xs)).A,hw,fun b hb=>?_,fun he j y hy hj=>?_⟩
  ·rw[qt,<-kO]
   exact List.take_of_length_le (by simp)
  ·obtain rfl:w.heap.size=b:=by simpa[Value.ownBlock]using hb
   simp[Gh.new]
  ·obtain rfl:w.heap.size=b:=by simpa[Value.ownBlock]using hb
   exact M1.sub_new (le_refl _)
  ·obtain rfl:=QcR qu jT hw he hy hj
   exact⟨KidV.nil,fun _ _ b _ _ _ h=>by cases h⟩
 have M':=M1.new (.cells c' E) (.row E sz false 0 xs) (fun cs h=>by cases h) (fun cs h=>by cases h) (fun y h=>by cases h) (fun et sz' fz e ys h=>by cases h;exact⟨j4,hw⟩)
 have yP:QW w g1 ⟨s.tm,ob⟩ a:=fun t=>(hS t).ext E1
 refine Q3k hr ⟨fun _=>(Below.refl _ w).alloc (le_refl _) _,_,Q12 (s:=⟨s.tm,ob⟩) ⟨hs.defers,hs.size,g1,M1,yP,h0.trans (Step.ghost E1 G1)⟩ yP (h0.trans (Step.ghost E1 G1)) M' (Step.new M1 _ _) hd ?_,jB⟩
 exact⟨rfl,E,sz,false,0,xs,Q2p,le_refl _,fun _=>jY⟩
end
section
variable {P:Program}{ty:Tys}{Df:List Deferred}{w0:World}{g0:Gh}{o0:List Ob}{N:Nat}{Q:Ex->St->Prop}{w w':World}{g g':Gh}{ob ob':List Ob}
theorem Ext.addRow(x:Ob):Ext w g ob w g (ob++[x]) :=
 ⟨fun _ _ h=>⟨h,rfl⟩,fun _ _=>rfl,fun id h=>by rw[Q1Z (Q2O h)];exact h,fun id h=>by rw[Q1Z (Q3X h)];exact h,
  fun id et sz fz e xs h=>⟨fz,e,xs,by rw[Q1Z (Q4 h)];exact h,le_refl _,fun _=>.inl ⟨rfl,fun _ h=>⟨h,rfl⟩⟩⟩,fun _ _ _ _=>⟨rfl,fun _ _ h=>h⟩⟩
theorem Mem.addRow(M:Mem w g ob){et sz:Nat}(hs:0<sz):Mem w g (ob++[.row et sz false 0 []]):=by
 have E:=Ext.addRow (w:=w) (g:=g) (ob:=ob) (.row et sz false 0 [])
 have last:∀{id:Nat}{y:Ob},(ob++[.row et sz false 0 []])[id]?=some y->id<ob.length/\ob[id]?=some y\/y=.row et sz false 0 []:=fun {id y} h=>by
  by_cases hl:id<ob.length
  ·rw[Q1Z hl]at h;exact .inl ⟨hl,h⟩
  ·have hid:id=ob.length:=by have:=Q4 h;simp at this;omega
   subst hid;rw[Q2p]at h;exact .inr (by simpa using h.symm)
 refine⟨fun id cs h=>?_,fun id cs h j u hj=>?_,fun id y h=>?_,fun b id h=>⟨(M.own b id h).1,by have:=(M.own b id h).2;simp;omega⟩,fun b o hA=>⟨(M.imm b o hA).1,fun id hG hs=>?_⟩,fun id et' sz' fz e xs h=>?_,fun b hs=>?_,M.uniq⟩
 ·rcases last h with ⟨_,h⟩|h
  ·obtain⟨h1,cur,T,h2,h3⟩:=M.box id cs h
   exact⟨h1,cur,T,h2,h3.ext E⟩
  ·cases h
 ·rcases last h with ⟨_,h⟩|h
  ·exact M.fbox id cs h j u hj
  ·cases h
 ·rcases last h with ⟨_,h⟩|h
  ·exact⟨(M.iter id y h).1,(M.iter id y h).2.len (by simp)⟩
  ·cases h
 ·obtain⟨et',sz',e,xs,h3,h4⟩:=(M.imm b o hA).2 id hG hs
  exact⟨et',sz',e,xs,by rw[Q1Z (Q4 h3)];exact h3,h4⟩
 ·rcases last h with ⟨_,h⟩|h
  ·exact M.roww id et' sz' fz e xs h
  ·cases h;exact⟨hs,fun x hx=>by cases hx⟩
 ·obtain⟨id,et',sz',fz,e,xs,h3,h4⟩:=M.nsub b hs
  exact⟨id,et',sz',fz,e,xs,h3,by rw[Q1Z (Q4 h4)];exact h4⟩
theorem Step.addRow(x:Ob):Step w g ob w g (ob++[x]) :=
 ⟨rfl,rfl,rfl,le_refl _,fun _ _ _=>rfl,fun _ _ h=>.inl ⟨_,h⟩,fun _ _ h=>.inl h,Ext.addRow x,by simp⟩
theorem QlQ(hT:TyOk P ty){s:St}(M:Mem w g s.ob){E U:Nat}{v:Value}{y:AV}(hv:ARel w g s.ob v y){sz:Nat}{news:List AV}(h:QaP std ty s E U y=some (sz,news))(j5:(Q1 E ty).size=sz)(j6:0<sz)
  (hw:∀x∈news,x.cells.length=sz) :
  ∃d zs,P.underlying U=some d/\((∃e',d=.slice e')\/d=.string)/\zs.length=news.length * sz/\Alike w g.A zs (Qp news)/\(∀W,(Builtin.lenOf v).run P W=.ok news.length W) /\
   ∀W:World,W.heap=w.heap->(Builtin.firstCells sz news.length v).run P W=.ok zs.toArray W:=by
 unfold QaP at h;split at h
 ·rename_i b
  split at h
  ·rename_i hk
   obtain⟨rfl,rfl⟩:1=sz/\std.bytesS b=news:=by simpa using h
   have hb:std.isB (std.bytesS b):=fun x hx=>by
    obtain⟨n,_,rfl⟩:=mem_map.1 (show x∈b.data.toList.map _ from hx);exact⟨n,rfl⟩
   have hl:(std.bytesS b).length=b.size:=by show(b.data.toList.map _).length=_;simp
   rw[hv.valEq];refine⟨.string,strCells b,(Q3N hT hk.1 (by decide)).str hk.1,.inr rfl,by rw[strCells_length,hl,Nat.mul_one],?_,fun W=>by rw[hl];rfl,fun W _=>by rw[hl];exact run_firstCells_string W 1 b⟩
   rw[Q9P hb];refine⟨by rw[strCells_length,hl],fun j y u hy hu=>?_⟩
   have hu:(b.data.toList.map fun x=>AV.val (.int .u8 x.toNat))[j]?=some u:=hu
   simp only[strCells,getElem?_map,Option.map_eq_some_iff]at hy hu;obtain⟨c,hc,rfl⟩:=hy;obtain⟨c',zH,rfl⟩:=hu;rw[hc]at zH;cases zH;exact PRel.val _ rfl
  ·cases h
 ·split at h
  ·rename_i hk
   obtain⟨_,rfl⟩:_/\[]=news:=by simpa using h
   rw[hv.valEq];exact⟨_,[],(Q9R hT hk).slice hk,.inl ⟨_,rfl⟩,by simp,Alike.nil,fun W=>rfl,fun W _=>rfl⟩
  ·cases h
 ·split at h
  ·rename_i hk
   obtain⟨A,c,ys,rfl,hr,jT⟩:=Q40 M hv h;refine⟨_,ys,(Q9R hT hk).slice hk,.inl ⟨_,rfl⟩,hr.len,jT,fun W=>rfl,fun W hW=>?_⟩
   rcases Nat.eq_zero_or_pos news.length with h0|h0
   ·have hy:ys=[]:=eq_nil_of_length_eq_zero (by rw[hr.len,h0,Nat.zero_mul])
    subst hy;rw[h0];cases A<;>simp[Builtin.firstCells,loadCells,loadCellsFrom]
   ·obtain⟨b,o,rfl,_,hc⟩:=hr.at_ h0
    refine run_firstCells_some (P:=P) W sz news.length _ _ _ ys hr.len (fun j u hj=>?_)
    rw[Addr.add_mid,show W.cell? ⟨b,o+j,none⟩=w.cell? ⟨b,o+j,none⟩ from by simp only[World.cell?,hW]]
    exact hc j u hj
  ·cases h
theorem Qda(hT:TyOk P ty){s:St}{a:Act}{w:World}(M:Mem w g ob){T U:Nat}{id et sz ep:Nat}{fz:Bool}{xs xs' news:List AV}(h:ob[id]?=some (.row et sz fz ep xs)){v:Value}
  (hv:RowV w g id et sz v xs') (hfz:fz=true->xs'=xs) (j5:Q56 ty T sz=true) (kt:et=(Q1 T ty).elem) {d:TypeDesc} {y:Value} {zs:List Value} (hu:P.underlying U=some d) (hd:(∃e',d=.slice e')\/d=.string)
  (cG:zs.length=news.length * sz) (jT:Alike w g.A zs (Qp news)) (jC:∀W,(Builtin.lenOf y).run P W=.ok news.length W)
  (kK:∀W:World,W.heap=w.heap->(Builtin.firstCells sz news.length y).run P W=.ok zs.toArray W) (hw:∀x∈news,x.cells.length=sz) (qu:Q9n et news=true) (hb:xs'.length+news.length<=1000000000) (tyR:TypeId) :
  ∃v' w',(Builtin.append_ #[T,U] tyR #[v,y]).run P w=.ok v' w'/\Mem w' (g.grow id v'.ownBlock) (ob.set id (.row et sz fz (ep+1) (xs'++news))) /\
   Step w g ob w' (g.grow id v'.ownBlock) (ob.set id (.row et sz fz (ep+1) (xs'++news)))/\RowV w' (g.grow id v'.ownBlock) id et sz v' (xs'++news):=by
 obtain⟨e,hT1,qS,te,qO,j4⟩:=Q3E hT j5;obtain⟨ie,z,yy,qg,z7,cU,gV,_⟩:=te.i;have jj:et=e:=kt.trans qS.symm;subst jj;obtain⟨ys,ho,hG,kQ,kS,yx⟩:=hv
 have gJ:z.cells.size=sz:=by
  have:=congrArg List.length gV
  rw[Array.length_toList,te.zl,qO]at this;exact this
 obtain⟨v',w',hr,h1,h2,h3,h4⟩:=Qap (P:=P) (w:=w) (ty:=tyR) hT1 hu hd yy cU (qg.trans qO) (by rw[z7];exact te.by_) gJ ho cG jC kK jT.one hb
 have yq:∀x∈xs'++news,x.cells.length=sz:=fun x hx=>by
  rcases List.mem_append.1 hx with hx|hx
  ·exact kS x hx
  ·exact hw x hx
 have yE:∀b,v'.ownBlock=some b->v.ownBlock=some b\/(w.heap.size<=b/\b<w'.heap.size):=fun b hb=>by
  rcases h3 with h5|h5
  ·exact .inl (h5 ▸ hb)
  ·have jE:=(h1.lt b hb).2
   rw[hb]at h5;cases h5;exact .inr ⟨le_refl _,jE⟩
 obtain⟨E,M'⟩:=M.grow (fz':=fz) h (fun h=>h) h2 (fun b hb=>⟨hG b hb,yx.1 b hb⟩) yE (n:=xs'.length) h4 (fun hf=>by rw[hfz hf];exact le_refl _) (fun hf=>by rw[length_append,hfz hf];omega) yq
 refine⟨v',w',hr,M',Step.grow M h h2 (fun b hb=>hG b hb) yE E,ys++zs,by rw[length_append];exact h1,fun b hb=>?_,?_,yq,fun b hb=>?_,fun he j y hy hj=>?_⟩
 ·exact Gh.grow_self hb
 ·show Alike _ _ _ ((xs'++news).flatMap AV.cells)
  rw[List.flatMap_append];exact(kQ.append jT).keep E.A
 ·rcases h3 with h3|h3
  ·exact yx.1 b (h3 ▸ hb)
  ·rw[hb]at h3
   obtain rfl:b=w.heap.size:=by simpa using h3
   exact M.sub_new (le_refl _)
 ·have n7:ys.length=xs'.length * sz:=by rw[kQ.1,Q22 xs' kS]
  have old:∀{j:Nat}{y:Value},(ys++zs)[j]?=some y->j % sz=1->(ys[j]?=some y)\/y=.slice none 0 0:=fun {j y} hy hj=>by
   by_cases jE:j<ys.length
   ·rw[List.getElem?_append_left jE]at hy;exact .inl hy
   ·rw[List.getElem?_append_right (by omega)]at hy
    refine .inr (QcR (g:=g) (w:=w) qu jT hw he hy ?_);rw[n7];have:j=(j-xs'.length * sz)+xs'.length * sz:=by omega
    rw[this,Nat.add_mul_mod_self_right]at hj;exact hj
  rcases old hy hj with h5|rfl
  ·obtain⟨⟨k,us,h6,h7⟩,h8⟩:=yx.2 he j y h5 hj
   have ne:∀{b:Nat},y.ownBlock=some b->some b≠v.ownBlock:=fun {b} hb h9=>by
    have:=yx.1 b h9.symm
    rw[(h7 b hb).2.1]at this;cases this
   refine⟨⟨k,us,Q2U h6 fun b hb=>?_,fun b hb=>?_⟩,fun i z b hz hi kT yF=>?_⟩
   ·exact h2.block b (M.own b id (h7 b hb).1).1 (ne hb)
   ·obtain⟨h9,qX,v8⟩:=h7 b hb
    exact⟨M.grow_sub (fun b hb=>⟨hG b hb,yx.1 b hb⟩) yE h9 qX,qX,v8⟩
   ·rcases old hz hi with h9|rfl
    ·exact h8 i z b h9 hi kT yF
    ·cases kT
  ·exact⟨KidV.nil,fun _ _ b _ _ _ h=>by cases h⟩
theorem Qo8{s:St}(M:Mem w g s.ob){E U:Nat}{v:Value}{y:AV}(hv:ARel w g s.ob v y){sz:Nat}{news:List AV}(h:QaP std ty s E U y=some (sz,news)):∀x∈news,x.cells.length=sz:=by
 have cutw:∀{xs:List AV}{k:Int},(∀x∈xs,x.cells.length=sz)->∀x∈std.cut xs 0 k,x.cells.length=sz:=fun hw x hx=>by
  have:x∈(_:List AV):=hx
  exact hw x (List.mem_of_mem_drop (List.mem_of_mem_take hx))
 unfold QaP at h;split at h
 ·split at h
  ·obtain⟨rfl,rfl⟩:1=sz/\std.bytesS _=news:=by simpa using h
   intro x hx;obtain⟨n,_,rfl⟩:=mem_map.1 (show x∈List.map _ _ from hx);rfl
  ·cases h
 ·split at h
  ·obtain⟨_,rfl⟩:_/\[]=news:=by simpa using h
   intro x hx;cases hx
  ·cases h
 ·split at h
  ·cases y with
   |slc sz' l =>
    obtain⟨rfl,rfl⟩:sz'=sz/\l=news:=by simpa[Q6G]using h
    cases(show PRel w g.A v (.slc sz' l) from hv)with
    |nil=>intro x hx;cases hx
    |slc b o c _ _ f hc hm hw hcell hrel=>exact hw
   |row id ep =>
    obtain⟨_,et,sz',fz,e,xs',h1,h2,h3⟩:=hv;simp only[Q6G,h1]at h;split at h
    ·obtain⟨rfl,rfl⟩:sz'=sz/\xs'=news:=by simpa using h
     exact(M.roww _ _ _ _ _ _ h1).2
    ·cases h
   |rowk id ep k =>
    obtain⟨_,et,sz',fz,e,xs',h1,h2,h3⟩:=hv;simp only[Q6G,h1]at h;split at h
    ·obtain⟨rfl,rfl⟩:sz'=sz/\std.cut xs' 0 k=news:=by simpa using h
     exact cutw (M.roww _ _ _ _ _ _ h1).2
    ·cases h
   |_=>simp[Q6G]at h
  ·cases h
theorem Q4C(hT:TyOk P ty){K:St->Tree}{o:Oper}{s:St}{a:Act}{w:World}{R:Exit->Act->World->Prop}(hs:Sim Df w0 g0 o0 N s a w)(hd:∀t,o.dst=some t->t<N)
  {x y:Operand} {args:Array Operand} {tys:Array TypeId} (ho:o.op=.call { callee:=.builtin .append,args:=args,argTypes:=tys }) (ha:args.toList=[x,y]) {T U:Nat} (ht:tys.toList=[T,U])
  {ob:List Ob} (jK:∀g,Mem w g s.ob->Mem w g ob/\Ext w g s.ob w g ob/\Step w g s.ob w g ob) {id et sz ep:Nat} {fz:Bool} {xs xs' news:List AV} (h:ob[id]?=some (.row et sz fz ep xs))
  (hv:∀g,Mem w g s.ob->QW w g s a->RowV w g id et sz (a.eval x) xs') (hfz:fz=true->xs'=xs) (j5:Q56 ty T sz=true) (kt:et=(Q1 T ty).elem)
  (yz:QaP std ty s et U (ev s y)=some (sz,news)) (qu:Q9n et news=true) (hb:std.bnd xs' news)
  (jB:(K (St.put ⟨s.tm,ob.set id (.row et sz fz (ep+1) (std.app xs' news))⟩ o.dst (.row id (ep+1)))).ok Df P w0 g0 o0 N Q):o.wp P a w (Q30 Df ty P w0 g0 o0 N Q K o.op w) R:=by
 obtain⟨g,M,hS,h0⟩:=hs.rel;obtain⟨M1,E1,S1⟩:=jK g M;obtain⟨e,hT1,qS,te,qO,j4⟩:=Q3E hT j5;have cH:=Qo hS y;have hw:=Qo8 M cH yz;have n8:(Q1 et ty).size=sz:=by rw[kt,<-qS];exact qO
 obtain⟨d,zs,hu,hd',cG,jT,jC,kK⟩:=QlQ hT M cH yz n8 j4 hw;obtain⟨v',w',hr,M2,S2,R2⟩:=Qda hT (a:=a) (s:=s) M1 h (hv g M hS) hfz j5 kt hu hd' cG jT jC kK hw qu hb o.type;have hargs:args=#[x,y]:=by apply Array.ext';simpa using ha
 have n9:tys=#[T,U]:=by apply Array.ext';simpa using ht
 subst hargs n9
 have jQ:(execOp a.eval o).run P w=.ok (.value v') w':=by
  obtain⟨cs,hc⟩:=Q5l (P:=P) (a:=a) ho w;rw[hc];show(do pure (Next.value (<-Builtin.append_ #[T,U] o.type (Array.map a.eval #[x,y]))):Sem Next).run P w=_
  refine Q11 ?_;simpa using hr
 have yP:QW w g ⟨s.tm,ob⟩ a:=fun t=>(hS t).ext E1
 have jr:Sim Df w0 g0 o0 N ⟨s.tm,ob⟩ a w:=⟨hs.defers,hs.size,g,M1,yP,h0.trans S1⟩;refine Q3k jQ ⟨fun h=>by simp[ho,Q2m]at h,_,Q12 (s:=⟨s.tm,ob⟩) jr yP (h0.trans S1) M2 S2 hd ?_,jB⟩
 refine⟨?_,et,sz,fz,ep+1,xs'++news,getElem?_set_self (Q4 h),le_refl _,fun _=>R2⟩
 obtain⟨ys,kU,_⟩:=R2;rcases kU.2 with ⟨rfl,_⟩|⟨b,cap,cur,rfl,_⟩<;>rfl
end
