/- Lemmas, conditions told -/
import Derived.Sort.Walk0
import Derived.Test.YtnlbhaeimmenoaaGreatChecked
import Derived.KernelRfl
import Derived.WalkKit
import Derived.WalkSpells
import Derived.WalkLawsBesides
import Derived.Lib.Hide
import Derived.Deep.LoopGhost
import Derived.Deep.Draws
import Derived.Deep.AppendLies
import Derived.Maps.AppendAt
import Derived.Deep.QuietTactic
import Derived.BigQuiet
import Derived.Handy
import Derived.Shelf.Abstract
import Derived.OrdersHeld
import Derived.Lib.MapLaws
import Derived.Laws.Cover4
import Derived.OpenShut
import Derived.Laws.BytesString
import Derived.Deep.RegionWith
import Derived.Deep.RegionHeld3
import Derived.Lib.AppendZeros
set_option maxRecDepth 99999
set_option maxHeartbeats 0
set_option linter.unusedSimpArgs false
set_option linter.unusedVariables false
namespace Go.Proofs.YtnlbhaeimmenoaaGreat
open List(not_lt append_assoc length_take getElem?_eq_getElem le_trans length_drop pairwise_cons mem_cons append_nil lt_trans mem_singleton mem_cons_self map_cons count_eq_zero lt_irrefl mem_cons_of_mem cons_append length_cons mem_map map_map getElem?_map map_nil nil_append getD_cons_zero getD_cons_succ)
open Lib(hid)
open Nat(le_refl zero_le zero_add)
open Option(getD_some map_eq_some_iff)
section
abbrev Nam:=List UInt8
def ltN(a b:Nam):Bool:=Op.bytesLess a b
theorem Qop(a b:Nam):ltN a b=true↔a<b:=by rw[ltN,bytesLess_eq];simp
theorem Qpl(a b:Nam):ltN a b=false↔b<=a:=by
 rw[ltN,bytesLess_eq,decide_eq_false_iff_not];exact not_lt
def kGo(n:Nam)(l:List Nam):Nat->Nat
 |0=>0
 |j+1=>if ltN n (l[j]?.getD [])=true then kGo n l j else j+1
def Q66(l:List Nam)(n:Nam):List Nam:=l.take (kGo n l l.length)++[n]++l.drop (kGo n l l.length)
theorem Qdi(n:Nam)(l:List Nam):∀j,kGo n l j<=j
 |0=>le_refl _
 |j+1=>by
  rw[kGo];split
  ·exact Nat.le_succ_of_le (Qdi n l j)
  ·exact le_refl _
theorem QlQ(n:Nam)(l:List Nam):∀j,∀i,kGo n l j<=i->i<j->n<l[i]?.getD []
 |0,i,_,h=>by omega
 |j+1,i,h,h2=>by
  rw[kGo]at h;split at h
  ·rename_i hl
   by_cases e:i=j
   ·subst e;exact(Qop _ _).1 hl
   ·exact QlQ n l j i h (by omega)
  ·omega
theorem Ql8(n:Nam)(l:List Nam):∀j,0<kGo n l j->l[kGo n l j-1]?.getD []<=n
 |0,h=>by cases h
 |j+1,h=>by
  rw[kGo]at h ⊢;split at h
  ·rename_i hl
   rw[if_pos hl];exact Ql8 n l j h
  ·rename_i hl
   rw[if_neg hl];exact(Qpl _ _).1 (by simpa using hl)
abbrev QeF(l:List Nam):Prop:=l.Pairwise (·<=·)
theorem Qcn(l:List Nam)(n:Nam):(Q66 l n).Perm (n::l):=by
 have h:(l.take (kGo n l l.length)++[n]++l.drop (kGo n l l.length)).Perm ([n]++(l.take (kGo n l l.length)++l.drop (kGo n l l.length))):=by
  rw[<-append_assoc];exact List.Perm.append_right _ List.perm_append_comm
 rw[List.take_append_drop]at h;exact h
theorem QdM{l:List Nam}(h:QeF l)(n:Nam):QeF (Q66 l n):=by
 have hk:=Qdi n l l.length
 have qH:∀x∈l.take (kGo n l l.length),x<=n:=fun x hx=>by
  obtain⟨i,hi,rfl⟩:=List.mem_iff_getElem.1 hx;rw[length_take]at hi;have h1:=Ql8 n l l.length (by omega)
  rw[getElem?_eq_getElem (by omega),getD_some]at h1
  rw[List.getElem_take];by_cases e:i=kGo n l l.length-1
  ·subst e;exact h1
  ·exact le_trans (List.pairwise_iff_getElem.1 h i (kGo n l l.length-1) (by omega) (by omega) (by omega)) h1
 have hgr:∀x∈l.drop (kGo n l l.length),n<=x:=fun x hx=>by
  obtain⟨i,hi,rfl⟩:=List.mem_iff_getElem.1 hx;rw[length_drop]at hi;have h1:=QlQ n l l.length (kGo n l l.length+i) (by omega) (by omega)
  rw[getElem?_eq_getElem (by omega),getD_some]at h1
  rw[List.getElem_drop];exact List.le_of_lt h1
 unfold Q66;rw[append_assoc];refine List.pairwise_append.2 ⟨h.sublist (List.take_sublist _ _),pairwise_cons.2 ⟨hgr,h.sublist (List.drop_sublist _ _)⟩,fun a ha b hb=>?_⟩
 rcases mem_cons.1 hb with rfl|hb
 ·exact qH a ha
 ·exact le_trans (qH a ha) (hgr b hb)
def Q2t(l:List Nam):List Nam:=l.foldl Q66 []
theorem Qam:∀(l a:List Nam),QeF a->QeF (l.foldl Q66 a)/\(l.foldl Q66 a).Perm (a++l)
 | [],a,h=>⟨h,by rw[append_nil];exact List.Perm.refl _⟩
 |n::r,a,h=>by
  obtain⟨h1,h2⟩:=Qam r (Q66 a n) (QdM h n);refine⟨h1,h2.trans ?_⟩;have h3:(Q66 a n++r).Perm (n::a++r):=(Qcn a n).append_right r;exact h3.trans (List.perm_middle (l₁:=a) (l₂:=r) (a:=n)).symm
theorem Q62(l:List Nam):QeF (Q2t l):=(Qam l [] List.Pairwise.nil).1
theorem Q4M(l:List Nam):(Q2t l).Perm l:=(Qam l [] List.Pairwise.nil).2
def Q5I:Nat->List Nam->List (Nam×Nat)
 |_,[]=>[]
 |n,[s]=>[(s,n+1)]
 |n,s::t::r=>if t=s then Q5I (n+1) (t::r)else(s,n+1)::Q5I 0 (t::r)
theorem Q6b{a b:Nam}(h:a<=b)(hn:¬b=a):a<b:=by
 rcases Classical.em (a<b)with h2|h2
 ·exact h2
 ·exact absurd (List.le_antisymm (not_lt.1 h2) h) hn
theorem QiB{a b c:Nam}(h:a<b)(h2:b<=c):a<c:=by
 rcases Classical.em (c=b)with rfl|e
 ·exact h
 ·exact lt_trans h (Q6b h2 e)
theorem Qd3:∀(l:List Nam)(s:Nam)(n:Nat),QeF (s::l) ->
  ((Q5I n (s::l)).map Prod.fst).Pairwise (· < ·)/\(∀x,x∈(Q5I n (s::l)).map Prod.fst↔x∈s::l)/\∀q∈Q5I n (s::l),q.2=(s::l).count q.1+if q.1=s then n else 0
 | [],s,n,_=>by
  refine⟨List.pairwise_singleton _ _,fun x=>by simp[Q5I],fun q hq=>?_⟩
  simp only[Q5I,mem_singleton]at hq;subst hq;simp;omega
 |t::r,s,n,h=>by
  obtain⟨hs,hr⟩:=pairwise_cons.1 h;rw[Q5I];split
  ·rename_i e
   subst e;obtain⟨h1,h2,h3⟩:=Qd3 r t (n+1) hr;refine⟨h1,fun x=>by rw[h2 x];simp,fun q hq=>?_⟩
   rw[h3 q hq,List.count_cons (a:=q.1) (b:=t) (l:=t::r)];by_cases e:q.1=t
   ·rw[if_pos e,if_pos e,e];simp;omega
   ·rw[if_neg e,if_neg e,if_neg (by simpa using fun h=>e h.symm)];
  ·rename_i e
   obtain⟨h1,h2,h3⟩:=Qd3 r t 0 hr
   have jB:∀x∈t::r,s<x:=fun x hx=>by
    have jG:s<t:=Q6b (hs t mem_cons_self) e;rcases mem_cons.1 hx with rfl|hx
    ·exact jG
    ·exact QiB jG ((pairwise_cons.1 hr).1 x hx)
   refine⟨?_,fun x=>?_,fun q hq=>?_⟩
   ·rw[map_cons]
    exact pairwise_cons.2 ⟨fun x hx=>jB x ((h2 x).1 hx),h1⟩
   ·rw[map_cons,mem_cons,h2 x,<-mem_cons]
   ·rcases mem_cons.1 hq with rfl|hq
    ·have h0:(t::r).count s=0:=count_eq_zero.2 fun hm=>lt_irrefl s (jB s hm)
     rw[List.count_cons_self,h0,if_pos rfl];omega
    ·have hm:=(h2 q.1).1 (List.mem_map_of_mem hq)
     have jI:¬q.1=s:=fun e=>lt_irrefl s (by have:=jB _ hm;rw[e]at this;exact this)
     rw[h3 q hq,if_neg jI,List.count_cons_of_ne (fun e=>jI e.symm)]
     split<;>rfl
def Q3X(l:List Nam):List (Nam×Nat):=Q5I 0 l
theorem Q8B:∀{a b:List Nam},a.Pairwise (· < ·)->b.Pairwise (· < ·)->(∀x,x∈a↔x∈b)->a=b
 | [],[],_,_,_=>rfl
 | [],y::s,_,_,h=>absurd ((h y).2 mem_cons_self) (by simp)
 |x::r,[],_,_,h=>absurd ((h x).1 mem_cons_self) (by simp)
 |x::r,y::s,ha,hb,h=>by
  obtain⟨h1,h2⟩:=pairwise_cons.1 ha;obtain⟨h3,h4⟩:=pairwise_cons.1 hb
  have e:x=y:=by
   rcases mem_cons.1 ((h x).1 mem_cons_self)with e|e
   ·exact e
   ·rcases mem_cons.1 ((h y).2 mem_cons_self)with e2|e2
    ·exact e2.symm
    ·exact absurd (lt_trans (h3 x e) (h1 y e2)) (lt_irrefl y)
  subst e;rw[Q8B h2 h4 fun z=>?_]
  have hz:=h z;rw[mem_cons,mem_cons]at hz;exact⟨fun hm=>(hz.1 (.inr hm)).resolve_left fun e=>lt_irrefl x (e ▸ h1 z hm),fun hm=>(hz.2 (.inr hm)).resolve_left fun e=>lt_irrefl x (e ▸ h3 z hm)⟩
def Q3Z(s:Nam):List (Nam×Nat)->List (Nam×Nat)
 | []=>[(s,1)]
 |(t,c)::r=>if t=s then(t,c+1)::r else(t,c)::Q3Z s r
def Qbq(l:List Nam):List (Nam×Nat):=l.foldl (fun m s=>Q3Z s m) []
theorem QbW(s:Nam):∀m:List (Nam×Nat),(Q3Z s m).map Prod.fst=if s∈m.map Prod.fst then m.map Prod.fst else m.map Prod.fst++[s]
 | []=>by simp[Q3Z]
 |(t,c)::r=>by
  rw[Q3Z];split
  ·rename_i e
   subst e;simp
  ·rename_i e
   rw[map_cons,QbW s r,map_cons];by_cases h:s∈r.map Prod.fst
   ·rw[if_pos h,if_pos (mem_cons_of_mem _ h)]
   ·rw[if_neg h,if_neg (fun h2=>(mem_cons.1 h2).elim (fun h2=>e h2.symm) h),cons_append]
structure CntOk (l:List Nam) (m:List (Nam×Nat)):Prop where
 nd:(m.map Prod.fst).Nodup
 mem:∀x,x∈m.map Prod.fst↔x∈l
 cnt:∀q∈m,q.2=l.count q.1
theorem Qf7{s:Nam}:∀{m:List (Nam×Nat)} {q:Nam×Nat},(m.map Prod.fst).Nodup->q∈Q3Z s m->(q.1=s/\((∃c,(s,c)∈m/\q.2=c+1)\/(s ∉ m.map Prod.fst/\q.2=1)))\/(q.1≠s/\q∈m)
 | [],q,_,h=>by
  simp only[Q3Z,mem_singleton]at h;subst h;exact .inl ⟨rfl,.inr ⟨by simp,rfl⟩⟩
 |(t,c)::r,q,hn,h=>by
  rw[map_cons]at hn;obtain⟨h1,h2⟩:=List.nodup_cons.1 hn;rw[Q3Z]at h;split at h
  ·rename_i e
   subst e;rcases mem_cons.1 h with rfl|h
   ·exact .inl ⟨rfl,.inl ⟨c,mem_cons_self,rfl⟩⟩
   ·exact .inr ⟨fun e=>h1 (by have:=List.mem_map_of_mem (f:=Prod.fst) h;rw[e]at this;exact this),mem_cons_of_mem _ h⟩
  ·rename_i e
   rcases mem_cons.1 h with rfl|h
   ·exact .inr ⟨e,mem_cons_self⟩
   ·rcases Qf7 h2 h with ⟨h3,⟨c2,h4,h5⟩|⟨h4,h5⟩⟩|⟨h3,h4⟩
    ·exact .inl ⟨h3,.inl ⟨c2,mem_cons_of_mem _ h4,h5⟩⟩
    ·refine .inl ⟨h3,.inr ⟨?_,h5⟩⟩
     rw[map_cons,mem_cons];rintro(h6|h6)
     ·exact e h6.symm
     ·exact h4 h6
    ·exact .inr ⟨h3,mem_cons_of_mem _ h4⟩
theorem CntOk.add{l:List Nam}{m:List (Nam×Nat)}(h:CntOk l m)(s:Nam):CntOk (l++[s]) (Q3Z s m):=by
 have hk:=QbW s m;refine⟨?_,fun x=>?_,fun q hq=>?_⟩
 ·rw[hk]
  split
  ·exact h.nd
  ·rename_i hs
   exact List.nodup_append.2 ⟨h.nd,by simp,fun a ha b hb=>by
    obtain rfl:b=s:=by simpa using hb
    rintro rfl;exact hs ha⟩
 ·rw[hk,List.mem_append,mem_singleton]
  split
  ·rename_i hs
   rw[h.mem x];exact⟨.inl,fun h2=>h2.elim id fun e=>by rw[e];exact(h.mem s).1 hs⟩
  ·rw[List.mem_append,mem_singleton,h.mem x]
 ·rw[List.count_append]
  rcases Qf7 h.nd hq with ⟨h1,⟨c,h2,h3⟩|⟨h2,h3⟩⟩|⟨h1,h2⟩
  ·have h4:c=l.count s:=h.cnt _ h2
   rw[h3,h1,h4];simp
  ·have:l.count s=0:=count_eq_zero.2 fun hm=>h2 ((h.mem s).2 hm)
   rw[h3,h1,this];simp
  ·rw[h.cnt q h2,count_eq_zero.2 (show q.1 ∉ [s] by simpa using h1)];rfl
theorem Qhq:∀(l p:List Nam)(m:List (Nam×Nat)),CntOk p m->CntOk (p++l) (l.foldl (fun m s=>Q3Z s m) m)
 | [],p,m,h=>by rw[append_nil];exact h
 |s::r,p,m,h=>by
  have:=Qhq r (p++[s]) _ (h.add s)
  rw[append_assoc]at this;exact this
theorem Qdk(l:List Nam):CntOk l (Qbq l):=Qhq l [] [] ⟨List.nodup_nil,fun x=>by simp,fun q hq=>by cases hq⟩
theorem QeY(s:Nam):∀m:List (Nam×Nat),(Q3Z s m).length<=m.length+1
 | []=>le_refl _
 |(t,c)::r=>by
  rw[Q3Z];split
  ·simp
  ·have:=QeY s r
   simp only[length_cons];omega
theorem Qh4:∀(l:List Nam)(m:List (Nam×Nat)),(l.foldl (fun m s=>Q3Z s m) m).length<=m.length+l.length
 | [],m=>le_refl _
 |s::r,m=>by
  have h1:=Qh4 r (Q3Z s m);have h2:=QeY s m;rw[List.foldl_cons,length_cons];omega
def Q3j(s:Nam)(m:List (Nam×Nat)):Nat:=((m.find? fun q=>decide (q.1=s)).map Prod.snd).getD 0
theorem Qd8{l:List Nam}{m:List (Nam×Nat)}(h:CntOk l m)(s:Nam):Q3j s m=l.count s:=by
 unfold Q3j;cases hf:m.find? fun q=>decide (q.1=s)with
 |none =>
  have:l.count s=0:=count_eq_zero.2 fun hm=>by
   obtain⟨q,hq,rfl⟩:=mem_map.1 ((h.mem s).2 hm);have:=List.find?_eq_none.1 hf q hq
   simp at this
  rw[this];rfl
 |some q =>
  have h1:=List.find?_some hf;have h2:=List.mem_of_find?_eq_some hf;have h1:q.1=s:=by simpa using h1
  rw[<-h1];exact h.cnt q h2
def leN(x y:Nam):Bool:=decide (x<=y)
theorem Q5T{l:List Nam}(h:l.Nodup):(l.mergeSort leN).Pairwise (· < ·):=by
 have hs:(l.mergeSort leN).Pairwise (fun a b=>leN a b=true):=List.pairwise_mergeSort (fun a b c h1 h2=>by simp only[leN,decide_eq_true_eq]at *;exact le_trans h1 h2) (fun a b=>by simp only[leN,Bool.or_eq_true,decide_eq_true_eq];exact List.le_total a b) l
 have hn:(l.mergeSort leN).Nodup:=((List.mergeSort_perm l leN).nodup_iff).2 h;refine(hs.and hn).imp fun {a b} pK=>?_
 have h1:a<=b:=by simpa[leN]using pK.1
 exact Q6b h1 fun e=>pK.2 e.symm
theorem Qji(l ks:List Nam)(hk:ks.Perm ((Qbq l).map Prod.fst)):(ks.mergeSort leN).map (fun s=>(s,Q3j s (Qbq l)))=Q3X (Q2t l):=by
 have hc:=Qdk l;have h1:=Q5T (hk.nodup_iff.2 hc.nd)
 have hm:∀x,x∈ks.mergeSort leN↔x∈l:=fun x=>by
  rw[(List.mergeSort_perm ks leN).mem_iff,hk.mem_iff,hc.mem x]
 have hp:=Q4M l;have hs:=Q62 l;unfold Q3X;cases hS:Q2t l with
 |nil =>
  rw[hS]at hp
  have:ks.mergeSort leN=[]:=List.eq_nil_iff_forall_not_mem.2 fun x hx=>by
   have:=hp.mem_iff.2 ((hm x).1 hx)
   cases this
  rw[this];rfl
 |cons s r =>
  rw[hS]at hp hs;obtain⟨h2,h3,h4⟩:=Qd3 r s 0 hs;have e:ks.mergeSort leN=(Q5I 0 (s::r)).map Prod.fst:=Q8B h1 h2 fun x=>by rw[hm x,h3 x,hp.mem_iff]
  rw[e,map_map]
  have:∀q∈Q5I 0 (s::r),((fun s=>(s,Q3j s (Qbq l))) ∘ Prod.fst) q=id q:=fun q hq=>by
   have:=h4 q hq
   show(q.1,Q3j q.1 (Qbq l))=q
   rw[Qd8 hc,<-hp.count_eq q.1];rw[show(s::r).count q.1=q.2 by rw[this];split<;>rfl]
  rw[List.map_congr_left this,List.map_id]
theorem Q86:∀(n:Nat)(l:List Nat),l.Nodup->(∀x∈l,x<n)->l.length<=n
 |0,l,_,h=>by
  cases l with
  |nil=>exact le_refl _
  |cons x r=>exact absurd (h x mem_cons_self) (by omega)
 |n+1,l,hn,h=>by
  by_cases hm:n∈l
  ·have h1:=Q86 n (l.erase n) (hn.erase n) fun x hx=>by
    have h2:=(List.Nodup.mem_erase_iff hn).1 hx;have:=h x h2.2
    omega
   rw[List.length_erase_of_mem hm]at h1;omega
  ·have:=Q86 n l hn fun x hx=>by
    have:=h x hx
    have:x≠n:=fun e=>hm (e ▸ hx)
    omega
   omega
def QbY(m:List (Nam×Nat))(j:Nat):Nam:=(m[j]?.getD ([],0)).1
def Q2C(m:List (Nam×Nat))(seen:List Nat):List Nam:=seen.map (QbY m)
theorem QlM(m:List (Nam×Nat))(seen:List Nat)(hn:seen.Nodup)(jB:∀j∈seen,j<m.length)(qH:∀j,j<m.length->j∈seen):(Q2C m seen).Perm (m.map Prod.fst):=by
 have hp:seen.Perm (List.range m.length):=(List.perm_ext_iff_of_nodup hn List.nodup_range).2 fun j=>⟨fun h=>List.mem_range.2 (jB j h),fun h=>qH j (List.mem_range.1 h)⟩
 have h2:=hp.map (QbY m)
 have h3:(List.range m.length).map (QbY m)=m.map Prod.fst:=by
  refine List.ext_getElem (by simp) fun i h1 h2=>?_
  have h3:i<m.length:=by simpa using h2
  simp[QbY,getElem?_eq_getElem h3]
 rw[h3]at h2;exact h2
end
section
open Go.RowKit
structure Rd (w:World) (S:Nat->Prop) (size:Nat) (A:Option Addr) (n c:Nat) (xs:List Value):Prop where
 len:xs.length=n * size
 le:n<=c
 max:c<=maxLen
 nil:A=none->c=0
 at_:0<n->∃b o,A=some ⟨b,o,none⟩/\S b/\∀j u,xs[j]?=some u->w.cell? ⟨b,o+j,none⟩=some u
section
variable {w w':World}{S T:Nat->Prop}{size n c:Nat}{A:Option Addr}{xs:List Value}
theorem Rd.none_:Rd w S size none 0 0 []:=⟨by simp,le_refl _,zero_le _,fun _=>rfl,fun h=>absurd h (by omega)⟩
theorem Rd.one{k:Nat}(h:Rd w S 1 A n c xs)(hk:k<n):∃b o u,A=some ⟨b,o,none⟩/\S b/\xs[k]?=some u/\w.cell? ⟨b,o+k,none⟩=some u:=by
 obtain⟨b,o,e,hb,hc⟩:=h.at_ (by omega)
 have hl:k<xs.length:=by have:=h.len;omega
 exact⟨b,o,xs[k],e,hb,getElem?_eq_getElem hl,hc k _ (getElem?_eq_getElem hl)⟩
theorem Rd.keep(h:Rd w S size A n c xs)(hk:∀b,S b->b<w.heap.size->w'.heap[b]?=w.heap[b]?):Rd w' S size A n c xs :=
 ⟨h.len,h.le,h.max,h.nil,fun hn=>by
  obtain⟨b,o,e,hb,hc⟩:=h.at_ hn;refine⟨b,o,e,hb,fun j u hu=>?_⟩
  have h0:=hc j u hu;have jB:=World.block_lt_of_cell? w _ h0;exact(World.cell?_of_block (w:=w) (hk _ hb jB)).trans h0⟩
theorem Rd.more(h:Rd w S size A n c xs)(hS:∀b,S b->T b):Rd w T size A n c xs :=
 ⟨h.len,h.le,h.max,h.nil,fun hn=>by
  obtain⟨b,o,e,hb,hc⟩:=h.at_ hn;exact⟨b,o,e,hS _ hb,hc⟩⟩
theorem Rd.below(h:Rd w S size A n c xs)(hb:Below w.heap.size w w'):Rd w' S size A n c xs:=h.keep fun b _ jB=>hb.block b jB
theorem Rd.alloc(h:Rd w S size A n c xs)(o:Obj):Rd (w.alloc o) S size A n c xs:=h.keep fun b _ jB=>Below.heap_alloc w o b jB
theorem Rd.drew(h:Rd w S size A n c xs):Rd w.drew S size A n c xs:=h.keep fun _ _ _=>rfl
theorem Rd.drewN(h:Rd w S size A n c xs)(k:Nat):Rd (w.drewN k) S size A n c xs:=h.keep fun _ _ _=>rfl
theorem Rd.setCell(h:Rd w S size A n c xs){p:Addr}(hp:¬S p.block)(u:Value):Rd (w.setCell p u) S size A n c xs :=
 h.keep fun b hs _=>Below.heap_setCell w p u b (fun e=>hp (e ▸ hs))
theorem Rd.grown{row:Option Nat}(h:Rd w S size A n c xs)(hg:w.grownBy w' row)(hr:∀g,row=some g->¬S g):Rd w' S size A n c xs :=
 h.keep fun b hs jB=>hg.block b jB (fun e=>hr b e.symm hs)
theorem Rd.cut(h:Rd w S size A n c xs){k:Nat}(hk:k<=n) :
  Rd w S size (if c=k then A else A.map (·.add (k * size))) (n-k) (c-k) (xs.drop (k * size)):=by
 refine⟨by rw[length_drop,h.len,Nat.sub_mul],by have:=h.le;omega,by have:=h.max;omega,fun hA=>?_,fun hn=>?_⟩
 ·by_cases e:c=k
  ·omega
  ·rw[if_neg e]at hA
   have:A=none:=by cases A<;>simp_all
   have:=h.nil this
   omega
 ·obtain⟨b,o,rfl,hb,hcell⟩:=h.at_ (by omega)
  have:=h.le
  rw[if_neg (by omega)]
  refine⟨b,o+k * size,by simp[Addr.add_lit],hb,fun j u hu=>?_⟩
  rw[Nat.add_assoc];exact hcell _ u (by rw[<-hu,List.getElem?_drop])
theorem Rd.take(h:Rd w S size A n c xs){k:Nat}(hk:k<=n):Rd w S size A k c (xs.take (k * size)):=by
 refine⟨?_,by have:=h.le;omega,h.max,h.nil,fun hn=>?_⟩
 ·rw[length_take,h.len]
  exact Nat.min_eq_left (Nat.mul_le_mul_right _ hk)
 ·obtain⟨b,o,rfl,hb,hcell⟩:=h.at_ (by omega)
  refine⟨b,o,rfl,hb,fun j u hu=>hcell j u ?_⟩
  rw[List.getElem?_take]at hu;split at hu
  ·exact hu
  ·cases hu
theorem Rd.of_own{base:Nat}{e:TypeId}(h:w.ownsRow base e size (.slice A n c) n xs):Rd w (fun b=>base<=b) size A n c xs:=by
 obtain⟨hl,h2⟩:=h;rcases h2 with ⟨h2,h3⟩|⟨g,cap,cur,hv,hb,hh,hn,hm,hs,ht⟩
 ·injection h2 with h4 h5 h6
  subst h4 h5 h6;exact⟨hl,le_refl _,zero_le _,fun _=>rfl,fun h=>absurd h (by omega)⟩
 ·injection hv with h4 h5 h6
  subst h4 h6;refine⟨hl,hn,hm,(fun h=>by cases h),fun h0=>⟨_,_,rfl,hb,?_⟩⟩
  intro j u hu;have jP:w.ownsRow base e size (.slice (some ⟨g,0,none⟩) n c) n xs:=⟨hl,.inr ⟨g,c,cur,rfl,hb,hh,hn,hm,hs,ht⟩⟩;have:=jP.cells rfl j u hu
  rw[Addr.add_lit]at this;exact this
end
theorem Rd.cutL{P:Program}{t:TypeId}{w:World}{S:Nat->Prop}{size n c:Nat}{A:Option Addr}{xs:List Value}(h:Rd w S size A n c xs)
  (ht:P.underlying t=some (.slice (P.elem t))) (hz:∀w,(sizeOf (P.elem t)).run P w=.ok size w) {k:Nat} (hk:k<=n) :
  ∃A',Rd w S size A' (n-k) (c-k) (xs.drop (k * size))/\∀W,(Instr.slice t (.slice A n c) (some (.int .i64 k)) none none).run P W=.ok (.slice A' (n-k) (c-k)) W:=by
 refine⟨_,h.cut hk,fun W=>?_⟩
 rw[run_slice_l W t A n c ht .i64 k (by omega) (by omega),hz]
 rfl
theorem Rd.cutLH{P:Program}{t:TypeId}{w:World}{S:Nat->Prop}{size n c:Nat}{A:Option Addr}{xs:List Value}(h:Rd w S size A n c xs)
  (ht:P.underlying t=some (.slice (P.elem t))) (hz:∀w,(sizeOf (P.elem t)).run P w=.ok size w) {j k:Nat} (hj:j<=k) (hk:k<=n) :
  ∃A',Rd w S size A' (k-j) (c-j) ((xs.drop (j * size)).take ((k-j) * size)) /\
   ∀W,(Instr.slice t (.slice A n c) (some (.int .i64 j)) (some (.int .i64 k)) none).run P W=.ok (.slice A' (k-j) (c-j)) W:=by
 refine⟨_,(h.cut (k:=j) (by omega)).take (k:=k-j) (by omega),fun W=>?_⟩
 have:=h.le
 rw[run_slice_lh W t A n c ht .i64 .i64 j k (by omega) (by omega) (by omega),hz]
 rfl
theorem Rd.lit(w:World)(t:TypeId)(cs:Array Value)(size n:Nat)(hs:cs.size=n * size)(hm:n<=maxLen) :
  Rd (w.alloc (.cells cs t)) (fun b=>w.heap.size<=b) size (some ⟨w.heap.size,0,none⟩) n n cs.toList :=
 ⟨by simpa using hs,le_refl _,hm,fun h=>(by cases h),fun _=>⟨_,_,rfl,le_refl _,fun j u hu=>by
  rw[World.cell?_alloc_at _ _ _ _ rfl,zero_add];simpa using hu⟩⟩
theorem Q2q{w:World}{base:Nat}{e:TypeId}{size n:Nat}{v:Value}{xs:List Value}(h:w.ownsRow base e size v n xs) :
  ∃A c,v=.slice A n c/\Rd w (fun b=>base<=b) size A n c xs:=by
 have h':=h;rcases h.2 with ⟨rfl,rfl⟩|⟨g,cap,cur,rfl,_⟩
 ·exact⟨none,0,rfl,Rd.of_own h'⟩
 ·exact⟨some ⟨g,0,none⟩,cap,rfl,Rd.of_own h'⟩
def Q7p(P:Program)(g:Nat)(caps:Array Value)(p:Int->Bool)(w:World):Prop :=
 ∀(W:World)(r:Int),Below w.heap.size w W->Calls P g (#[.int .i32 r]++caps) W fun e W'=>e=.returned (.bool (p r))/\Below W.heap.size W W'
theorem Q18{a b:Bool}(h:a=b):Ending.returned (.bool a)=.returned (.bool b):=by rw[h]
theorem Q1l{k:IntKind}{a b:Int}(h:a=b):Ending.returned (.int k a)=.returned (.int k b):=by rw[h]
theorem Q6g{k:IntKind}{a:Int}{b:Bool}{x:Int×Bool}(h:x=(a,b)):Ending.returned (.tuple #[.int k a,.bool b])=.returned (.tuple #[.int k x.1,.bool x.2]):=by rw[h]
theorem Q1x{B:Nat}{a w:World}(h:Below B a w)(n:Nat):Below B a (w.drewN n):=⟨h.os,h.tape,h.output,h.size,h.block⟩
theorem Q76{w w1 w2:World}(h:Below w.heap.size w w1)(h2:Below w1.heap.size w1 w2):Below w.heap.size w w2:=h.trans (h2.mono h.size)
abbrev rc(l:List Int):List Value:=l.map (Value.int .i32)
theorem QkF{l:List Int}{k:Nat}{u:Value}(h:(rc l)[k]?=some u):∃h:k<l.length,u=.int .i32 l[k]:=by
 simp only[rc,getElem?_map,map_eq_some_iff]at h;obtain⟨a,ha,rfl⟩:=h;obtain⟨hk,rfl⟩:=List.getElem?_eq_some_iff.1 ha;exact⟨hk,rfl⟩
end
section
open Go.RowKit Tryz
section
variable {P:Program} (w:World)
theorem Q8n(base:Nat)(t ty e:TypeId)(i:TypeInfo)(size:Nat)(ht:P.underlying t=some (.slice e))(hi:P.info? e=some i)
  (v:Value) (n:Nat) (xs:List Value) (jP:w.ownsRow base e size v n xs) (c:Nat):(Builtin.append_ #[t,t] ty #[v,.slice none 0 c]).run P w=.ok v w:=by
 rcases jP.2 with ⟨rfl,rfl⟩|⟨g,cap,cur,rfl,_,_,hnc,_⟩
 ·simp[Builtin.append_,run_underlying ht,sizeOf,typeInfo,hi,Builtin.lenOf,Builtin.firstCells]
 ·simp[Builtin.append_,run_underlying ht,sizeOf,typeInfo,hi,Builtin.lenOf,Builtin.firstCells,hnc,storeCells]
theorem QbF(base:Nat)(t ty e:TypeId)(i:TypeInfo)(z:Value)(size bytes:Nat)(ht:P.underlying t=some (.slice e))(hi:P.info? e=some i)(hz:i.zero=some z)
  (yc:i.size=size) (kX:i.bytes=bytes) (gx:z.cells.size=size) (jh:0<size)
  (v:Value) (n:Nat) (xs:List Value) (jP:w.ownsRow base e size v n xs)
  (S:Nat->Prop) (A:Option Addr) (m c:Nat) (news:List Value) (hr:Rd w S size A m c news) (h1:∀u∈news,u.oneCell'=true)
  (h63:n+m<=maxLen) (yz:(n+m) * bytes<=140737488355328) (qd:base<=w.heap.size) :
  ∃v' w',(Builtin.append_ #[t,t] ty #[v,.slice A m c]).run P w=.ok v' w'/\w'.ownsRow base e size v' (n+m) (xs++news)/\w.grownBy w' v.ownBlock /\
   (v'.ownBlock=v.ownBlock\/v'.ownBlock=some w.heap.size):=by
 rcases A with _|ad
 ·have hm:m=0:=by have:=hr.nil rfl;have:=hr.le;omega
  subst hm;have hn:news=[]:=List.eq_nil_of_length_eq_zero (by simpa using hr.len)
  subst hn;exact⟨v,w,Q8n w base t ty e i size ht hi v n xs jP c,by simpa using jP,World.grownBy.refl w _,.inl rfl⟩
 ·have kY:∀j u,news[j]?=some u->w.cell? (ad.add j)=some u:=by
   intro j u hu;rcases Nat.eq_zero_or_pos m with h0|h0
   ·subst h0
    have hn:news=[]:=List.eq_nil_of_length_eq_zero (by simpa using hr.len)
    subst hn;simp at hu
   ·obtain⟨b,o,h,_,hc⟩:=hr.at_ h0
    injection h with h
    subst h;rw[Addr.add_lit];exact hc j u hu
  obtain⟨v',w',jc,h2,h3,_,h5⟩:=run_append_own_at (P:=P) w base t ty e i z size bytes ht hi hz yc kX gx jh v n xs jP ad m c news hr.len kY h1 h63 yz qd;exact⟨v',w',jc,h2,h3,h5⟩
theorem Q41{ops:Array Oper}{rest:List Oper}{o:Oper}{a:Act}{Q:Exit->Act->World->Prop}(ze:o.guard=none)(s x:Operand)(t:TypeId)
  (ho:o.op=.call { callee:=.builtin .append,args:=#[s,x],argTypes:=#[t,t] })
  (base:Nat) (e:TypeId) (i:TypeInfo) (z:Value) (size bytes:Nat) (ht:P.underlying t=some (.slice e)) (hi:P.info? e=some i) (hz:i.zero=some z)
  (yc:i.size=size) (kX:i.bytes=bytes) (gx:z.cells.size=size) (jh:0<size)
  (v:Value) (n:Nat) (xs:List Value) (hs:a.eval s=v) (jP:w.ownsRow base e size v n xs)
  (S:Nat->Prop) (A:Option Addr) (m c:Nat) (news:List Value) (hx:a.eval x=.slice A m c) (hr:Rd w S size A m c news) (h1:∀u∈news,u.oneCell'=true)
  (h63:n+m<=maxLen) (yz:(n+m) * bytes<=140737488355328) (qd:base<=w.heap.size)
  (h:∀v' w',w'.ownsRow base e size v' (n+m) (xs++news)->w.grownBy w' v.ownBlock->(v'.ownBlock=v.ownBlock\/v'.ownBlock=some w.heap.size)->wpList P ops Q rest (a.put o.dst v') w'):wpList P ops Q (o::rest) a w:=by
 refine wpList_plain ze fun K hK=>?_
 obtain⟨v',w',jc,h2,h3,h4⟩:=QbF (P:=P) w base t o.type e i z size bytes ht hi hz yc kX gx jh v n xs jP S A m c news hr h1 h63 yz qd;unfold Oper.wp execOp;simp only[ho,resolve,invoke,builtin,Sem.run_bind,Sem.run_pure,Result.andThen_ok,List.map_toArray,map_cons,map_nil,hs,hx,jc];exact hK _ _ (h v' w' h2 h3 h4)
end
theorem QpR:(prog.info? 21).map (fun i=>(i.zero,i.size,i.bytes))=some (some (.int .i32 0),1,4):=by kernel_rfl
theorem Qmc{w:World}{base base':Nat}{e:TypeId}{size n:Nat}{v:Value}{xs:List Value}(h:w.ownsRow base e size v n xs)(hb:base'<=base):w.ownsRow base' e size v n xs:=by
 obtain⟨h1,h2⟩:=h;refine⟨h1,?_⟩;rcases h2 with h2|⟨g,cap,cur,hv,hg,r⟩
 ·exact .inl h2
 ·exact .inr ⟨g,cap,cur,hv,Nat.le_trans hb hg,r⟩
theorem Qcf{w w':World}{base:Nat}{e:TypeId}{size n:Nat}{v:Value}{xs:List Value}(h:w.ownsRow base e size v n xs)(hb:Below w.heap.size w w'):w'.ownsRow base e size v n xs :=
 h.kept (row:=none) ⟨hb.os,hb.tape,hb.output,hb.size,fun k hk _=>hb.block k hk⟩ (by cases v.ownBlock<;>simp)
theorem Q6J{w wr w1:World}{e:TypeId}{size n:Nat}{v:Value}{xs:List Value}{base:Nat}(hb:Below base w wr)(jJ:base<=wr.heap.size)(jP:wr.ownsRow base e size v n xs)(hg:wr.grownBy w1 v.ownBlock):Below base w w1 :=
 hb.grown hg jJ (fun k hk=>(jP.lt k hk).1)
end
section
open Go.RowKit Go.Lib
section
variable {P:Program}{ops:Array Oper}{Q:Exit->Act->World->Prop}{md:Region.Mode}{Le:World->World->Prop}
def wpU(P:Program)(md:Region.Mode)(ops:Array Oper)(Le:World->World->Prop)(Q:Exit->Act->World->Prop):Nat->Array Bool->Act->World->Prop
 |0,listed,a,w=>Region.ready md ops listed=[]/\∀W,Le w W->Q .normal a W
 |n+1,listed,a,w=>(Region.ready md ops listed=[]->∀W,Le w W->Q .normal a W) /\
   ∀i∈Region.ready md ops listed,∀W,Le w W->wpOp P ops Q i (fun a' w'=>Le W w'/\wpU P md ops Le Q n (listed.setIfInBounds i true) a' w') a W
theorem QlW(ht:∀a b c,Le a b->Le b c->Le a c):∀(n:Nat)(listed:Array Bool)(a:Act)(w W:World),wpU P md ops Le Q n listed a w->Le w W->wpU P md ops Le Q n listed a W
 |0,_,_,_,_,h,hW=>⟨h.1,fun V hV=>h.2 V (ht _ _ _ hW hV)⟩
 |_+1,_,_,_,_,h,hW=>⟨fun h0 V hV=>h.1 h0 V (ht _ _ _ hW hV),fun i hi V hV=>h.2 i hi V (ht _ _ _ hW hV)⟩
theorem Qab(vQ:∀a,Le a a):∀(n:Nat)(listed:Array Bool)(a:Act)(w:World),wpU P md ops Le Q n listed a w->wpAny P md ops Q n listed a w
 |0,_,_,_,h=>⟨h.1,h.2 _ (vQ _)⟩
 |n+1,_,_,_,h=>⟨fun h0=>h.1 h0 _ (vQ _),fun i hi=>wpOp_mono (fun a' w' h'=>Qab vQ n _ a' w' h'.2) (h.2 i hi _ (vQ _))⟩
theorem YieldsIf.weaken{S T:World->Prop}{o:Oper}{v:Value}{a:Act}(h:YieldsIf P ops S o v a)(hT:∀w,T w->S w):YieldsIf P ops T o v a :=
 h.imp (fun⟨h1,h2⟩=>⟨h1,fun w hw=>h2 w (hT w hw)⟩) id
theorem Qc2(vQ:∀a,Le a a)(ht:∀a b c,Le a b->Le b c->Le a c){i:Nat}{oi:Oper}{v:Value}(hi:ops[i]?=some oi)
  (gD:∀(j:Nat)(o:Oper) cs b,ops[j]?=some o->o.op≠.select cs b)
  (hQ:∀c a w,Q (.panic c) (a.put oi.dst v) w->Q (.panic c) a w) :
  ∀(n:Nat)(listed:Array Bool)(a:Act)(w:World),
   (∀j oj,ops[j]?=some oj->j≠i->listed.getD j true=false->(∀e∈oj.after,Region.binds md e=true->e.on≠i)->oi.apart ops oj=true) ->
   i∈Region.ready md ops listed->YieldsIf P ops (Le w) oi v a ->
   wpU P md ops Le Q n (listed.setIfInBounds i true) (a.put oi.dst v) w->wpU P md ops Le Q (n+1) listed a w:=by
 intro n;induction n with
 |zero =>
  intro listed a w _ hr hy H;refine⟨fun h=>(by rw[h]at hr;cases hr),fun j hj W hW=>?_⟩
  by_cases qg:j=i
  ·subst qg;exact hy.wpOp hi hW ⟨vQ _,QlW ht _ _ _ _ _ H hW⟩
  ·have:=ready_mono hj qg
   rw[H.1]at this;cases this
 |succ n ih =>
  intro listed a w yd hr hy H;refine⟨fun h=>(by rw[h]at hr;cases hr),fun j hj W hW=>?_⟩
  by_cases qg:j=i
  ·subst qg;exact hy.wpOp hi hW ⟨vQ _,QlW ht _ _ _ _ _ H hW⟩
  ·have h1:=H.2 j (ready_mono hj qg) W hW
   obtain⟨zB,oj,gy,qH⟩:=mem_ready.1 hj
   have vA:∀e∈oj.after,Region.binds md e=true->e.on≠i:=fun e he hb j4=>by
    have h1:=qH e he hb;have h0:=(mem_ready.1 hr).1;rw[j4]at h1;rcases Nat.lt_or_ge i listed.size with h'|h'
    ·simp[h']at h0 h1;rw[h0]at h1;cases h1
    ·simp[Array.getElem?_eq_none h']at h1
   have h2:=wpOp_putIf (S:=Le w) gy (yd j oj gy qg zB vA) (fun cs b=>gD i oi cs b hi) (fun cs b=>gD j oj cs b gy) hQ hy h1
   have zC:∀k ok,ops[k]?=some ok->k≠i->(listed.setIfInBounds j true).getD k true=false ->
     (∀e∈ok.after,Region.binds md e=true->e.on≠i)->oi.apart ops ok=true:=fun k ok hk kZ zf vJ=>by
    refine yd k ok hk kZ ?_ vJ;by_cases yt:j=k
    ·subst yt;exact zB
    ·rw[getD_set_ne true yt]at zf;exact zf
   refine wpOp_mono (fun a' w' h3=>⟨h3.2.1,ih (listed.setIfInBounds j true) a' w' zC (ready_mono hr (Ne.symm qg)) (YieldsIf.weaken h3.1 fun V hV=>ht _ _ _ (ht _ _ _ hW h3.2.1) hV) ?_⟩) h2
   rw[Array.setIfInBounds_comm _ _ qg];exact h3.2.2
def Q5V(md:Region.Mode)(ops:Array Oper):List (Nat×Bool)->Array Bool->Bool
 | [],listed=>(Region.ready md ops listed).isEmpty
 |(i,s)::rest,listed=>(if s then(Region.ready md ops listed).contains i&&Region.free md ops listed i else Region.ready md ops listed == [i])&&Q5V md ops rest (listed.setIfInBounds i true)
def Q47(P:Program)(ops:Array Oper)(Le:World->World->Prop)(Q:Exit->Act->World->Prop):List (Nat×Bool)->Act->World->Prop
 | [],a,w=>∀W,Le w W->Q .normal a W
 |(i,s)::rest,a,w=>match ops[i]? with
  |none=>True
  |some o=>if s then
    (if Region.wanted o (yielded ops a.tmps)then ∃v,(∀W,Le w W->(execOp a.eval o).run P W=.ok (.value v) W)/\Q47 P ops Le Q rest (a.put o.dst v) w else Q47 P ops Le Q rest (a.put o.dst undef) w)
   else ∀W,Le w W->if Region.wanted o (yielded ops a.tmps)then o.wp P a W (fun a' w'=>Le W w'/\Q47 P ops Le Q rest a' w') Q else Q47 P ops Le Q rest (a.put o.dst undef) W
theorem QaP{i:Nat}{listed:Array Bool}(h:i∈Region.ready md ops listed):∃o,ops[i]?=some o:=by
 obtain⟨_,o,ho,_⟩:=mem_ready.1 h;exact⟨o,ho⟩
theorem Q6V(hQ:∀c a (d:Tmp) v w,Q (.panic c) (a.put (some d) v) w->Q (.panic c) a w)(c:List PanicEntry)(a:Act)(d:Option Tmp)(v:Value)(w:World)
  (h:Q (.panic c) (a.put d v) w):Q (.panic c) a w:=by
 cases d with
 |none=>exact h
 |some d=>exact hQ c a d v w h
theorem Q46(vQ:∀a,Le a a)(ht:∀a b c,Le a b->Le b c->Le a c)(hs:Region.noSelect ops=true)
  (hQ:∀c a (d:Tmp) v w,Q (.panic c) (a.put (some d) v) w->Q (.panic c) a w) :
  ∀(ord:List (Nat×Bool)) (listed:Array Bool) (a:Act) (w:World),Q5V md ops ord listed=true->Q47 P ops Le Q ord a w->wpU P md ops Le Q ord.length listed a w
 | [],listed,a,w,hB,h=>⟨by simpa[Q5V]using hB,h⟩
 |(i,true)::rest,listed,a,w,hB,h=>by
  simp only[Q5V,if_true,Bool.and_eq_true]at hB;obtain⟨⟨hr,hf⟩,hB⟩:=hB;obtain⟨o,ho⟩:=QaP (by simpa using hr)
  simp only[Q47,ho,if_true]at h;by_cases hw:Region.wanted o (yielded ops a.tmps)=true
  ·simp only[hw,if_true]at h
   obtain⟨v,hv,h⟩:=h;exact Qc2 vQ ht ho (Region.noSelect_spec hs) (fun c a w=>Q6V hQ c a _ _ w) _ listed a w (Region.free_spec ho hf) (by simpa using hr) (.inl ⟨hw,hv⟩) (Q46 vQ ht hs hQ rest _ _ _ hB h)
  ·simp only[hw]at h
   exact Qc2 vQ ht ho (Region.noSelect_spec hs) (fun c a w=>Q6V hQ c a _ _ w) _ listed a w (Region.free_spec ho hf) (by simpa using hr) (.inr ⟨by simpa using hw,rfl⟩) (Q46 vQ ht hs hQ rest _ _ _ hB h)
 |(i,false)::rest,listed,a,w,hB,h=>by
  simp only[Q5V,Bool.and_eq_true,Bool.false_eq_true,if_false,beq_iff_eq]at hB;obtain⟨hr,hB⟩:=hB;obtain⟨o,ho⟩:=QaP (i:=i) (by rw[hr];simp)
  simp only[Q47,ho,Bool.false_eq_true,if_false]at h;refine⟨fun h0=>(by rw[hr]at h0;cases h0),fun j hj W hW=>?_⟩
  rw[hr]at hj;obtain rfl:=mem_singleton.1 hj;have h1:=h W hW;unfold wpOp;simp only[ho];split
  ·rename_i hw
   simp only[hw,if_true]at h1;exact .inl (Oper.wp_mono (fun a' w' h'=>⟨h'.1,Q46 vQ ht hs hQ rest _ _ _ hB h'.2⟩) h1)
  ·rename_i hw
   simp only[hw]at h1;exact⟨vQ _,Q46 vQ ht hs hQ rest _ _ _ hB h1⟩
theorem Qjl{a:Act}{w:World}(h:∀W,Le w W->Q .normal a W):Q47 P ops Le Q [] a w:=h
theorem Q9d{i:Nat}{o:Oper}{rest:List (Nat×Bool)}{a:Act}{w:World}(ho:ops[i]?=some o)
  (h:∀K:Act->Prop,Hid (∀a,Q47 P ops Le Q rest a w->K a)->if Region.wanted o (yielded ops a.tmps)then ∃v,(∀W,Le w W->(execOp a.eval o).run P W=.ok (.value v) W)/\K (a.put o.dst v)else K (a.put o.dst undef)) :
  Q47 P ops Le Q ((i,true)::rest) a w:=by
 simp only[Q47,ho,if_true];exact h _ (fun _ h=>h)
theorem Qg1{i:Nat}{o:Oper}{rest:List (Nat×Bool)}{a:Act}{w:World}(ho:ops[i]?=some o)
  (h:∀(K:Act->World->Prop)(W:World),Hid (Le w W)->Hid (∀a w',Le W w'->Q47 P ops Le Q rest a w'->K a w')->if Region.wanted o (yielded ops a.tmps)then o.wp P a W K Q else(Le W W->K (a.put o.dst undef) W)) (vQ:∀a,Le a a) :
  Q47 P ops Le Q ((i,false)::rest) a w:=by
 simp only[Q47,ho,Bool.false_eq_true,if_false];intro W hW;have h1:=h (fun a' w'=>Le W w'/\Q47 P ops Le Q rest a' w') W hW (fun _ _ h1 h2=>⟨h1,h2⟩)
 split
 ·rename_i hw;simpa only[hw,if_true]using h1
 ·rename_i hw
  simp only[hw]at h1;exact(h1 (vQ W)).2
abbrev LeB(w W:World):Prop:=Below w.heap.size w W
theorem LeB.refl(w:World):LeB w w:=Below.refl _ w
theorem LeB.trans(a b c:World)(h:LeB a b)(k:LeB b c):LeB a c:=Below.trans h (Below.mono k h.size)
theorem LeB.drew(w:World):LeB w w.drew:=(Below.refl _ w).drew
theorem QbJ{id:Nat}{a:Act}{w:World}{l:List Oper}(vQ:∀a,Le a a)(ht:∀a b c,Le a b->Le b c->Le a c)(ord:List (Nat×Bool))(hm:P.follows .mixedOrders=true)
  (hB:(Region.noSelect l.toArray&&ord.length == l.length&&Q5V .any l.toArray ord (Array.replicate l.length false))=true)
  (hQ:∀c a (d:Tmp) v w,Q (.panic c) (a.put (some d) v) w->Q (.panic c) a w)
  (h:Q47 P l.toArray Le Q ord a w.drew):(Code.region id l.toArray true).wp P Q a w:=by
 simp only[Bool.and_eq_true,beq_iff_eq]at hB;obtain⟨⟨h1,h2⟩,h3⟩:=hB;refine wp_region_any hm (Qab vQ _ _ _ _ ?_);have:=Q46 vQ ht h1 hQ ord _ a _ h3 h
 rw[h2]at this;simpa using this
theorem Qa7{id:Nat}{a:Act}{w:World}{l:List Oper}(ord:List (Nat×Bool))(hm:P.follows .mixedOrders=true)
  (hB:(Region.noSelect l.toArray&&ord.length == l.length&&Q5V .any l.toArray ord (Array.replicate l.length false))=true)
  (hQ:∀c a (d:Tmp) v w,Q (.panic c) (a.put (some d) v) w->Q (.panic c) a w)
  (h:∀W,Hid (LeB w W)->Q47 P l.toArray LeB Q ord a W):(Code.region id l.toArray true).wp P Q a w :=
 QbJ LeB.refl LeB.trans ord hm hB hQ (h _ (LeB.drew w))
end
theorem Rd.litN(w:World)(B:Nat)(hB:w.heap.size=B)(t:TypeId)(cs:Array Value)(size n:Nat)(hs:cs.size=n * size)(hm:n<=maxLen) :
  Rd (w.alloc (.cells cs t)) (fun b=>B<=b) size (some ⟨B,0,none⟩) n n cs.toList:=by
 subst hB;exact Rd.lit w t cs size n hs hm
abbrev LeG(row:Option Nat)(w W:World):Prop:=w.grownBy W row
theorem LeG.refl(row:Option Nat)(w:World):LeG row w w:=⟨rfl,rfl,rfl,le_refl _,fun _ _ _=>rfl⟩
theorem LeG.trans(row:Option Nat)(a b c:World)(h:LeG row a b)(k:LeG row b c):LeG row a c :=
 ⟨k.os.trans h.os,k.tape.trans h.tape,k.output.trans h.output,Nat.le_trans h.size k.size,fun i hi jI=>(k.block i (Nat.lt_of_lt_of_le hi h.size) jI).trans (h.block i hi jI)⟩
theorem LeG.cell{row:Option Nat}{w W:World}(h:LeG row w W){p:Addr}{v:Value}(hc:w.cell? p=some v)(hp:row≠some p.block):W.cell? p=some v :=
 (World.cell?_of_block (h.block _ (World.block_lt_of_cell? w p hc) (fun e=>hp e.symm))).trans hc
section
variable {P:Program}{ops:Array Oper}{Q:Exit->Act->World->Prop}{md:Region.Mode}{Le:World->World->Prop}
end
def Qy(r:Int):Nat:=if r<0\/1114111<r\/(55296<=r/\r<=57343)then 0 else if r<128 then 1 else if r<2048 then 2 else if r<65536 then 3 else 4
def Qo(l:List UInt8):Int×Nat:=if(decodeL l).1=65533/\(decodeL l).2=1 then(-1,1)else(((decodeL l).1:Int),(decodeL l).2)
def Q22:Nat->Nat->List UInt8->List (Int×Nat×Nat)
 |0,_,_=>[]
 |_+1,_,[]=>[]
 |k+1,off,b::t=>((Qo (b::t)).1,off,(Qo (b::t)).2)::Q22 k (off+(Qo (b::t)).2) ((b::t).drop (Qo (b::t)).2)
def Q50(l:List UInt8):List (Int×Nat×Nat):=Q22 l.length 0 l
theorem Q2G(x:Int)(h:0<=x/\x<256):(x.toNat.toUInt8).toNat=x.toNat:=by
 show(UInt8.ofNat x.toNat).toNat=_
 rw[UInt8.toNat_ofNat'];omega
theorem Q4z(v:Int)(h:0<Qy v):(encodeRune v).length=Qy v:=by
 unfold Qy at h ⊢;split at h
 ·omega
 ·rename_i h1
  rw[if_neg h1];unfold encodeRune;rw[List.length_map];split
  ·rw[encodeRuneZ_one (by omega) (by omega)];rfl
  ·split
   ·rw[encodeRuneZ_two (by omega) (by omega)];rfl
   ·split
    ·rw[encodeRuneZ_three (by omega)];rfl
    ·rw[encodeRuneZ_four (by omega) (by omega)];rfl
theorem QbA(v:Int)(h:0<Qy v)(t:List UInt8):decodeL (encodeRune v++t)=(v.toNat,Qy v):=by
 rw[decodeL_N];have hl:=Q4z v h;unfold Qy at h hl ⊢;split at h
 ·omega
 ·rename_i h1
  rw[if_neg h1]at hl ⊢;unfold encodeRune at hl ⊢;by_cases h2:v<128
  ·rw[encodeRuneZ_one (by omega) (by omega),if_pos h2]
   simp only[map_cons,map_nil,cons_append,nil_append,getD_cons_zero];rw[Q2G v (by omega),decodeN,if_pos (by omega)]
  ·rw[if_neg h2]at hl ⊢
   by_cases h3:v<2048
   ·rw[encodeRuneZ_two (by omega) (by omega),if_pos h3]
    simp only[map_cons,map_nil,cons_append,nil_append,getD_cons_zero,getD_cons_succ,length_cons];rw[Q2G _ (by omega),Q2G _ (by omega),decodeN,if_neg (by omega),if_pos (by omega),if_pos (by omega)]
    simp only[Prod.mk.injEq,and_true];omega
   ·rw[if_neg h3]at hl ⊢
    by_cases h4:v<65536
    ·rw[encodeRuneZ_three (by omega),if_pos h4]
     simp only[map_cons,map_nil,cons_append,nil_append,getD_cons_zero,getD_cons_succ,length_cons];rw[Q2G _ (by omega),Q2G _ (by omega),Q2G _ (by omega),decodeN,if_neg (by omega),if_neg (by omega),if_pos (by omega),if_pos (by omega)]
     simp only[Prod.mk.injEq,and_true];omega
    ·rw[encodeRuneZ_four (by omega) (by omega),if_neg h4]
     simp only[map_cons,map_nil,cons_append,nil_append,getD_cons_zero,getD_cons_succ,length_cons];rw[Q2G _ (by omega),Q2G _ (by omega),Q2G _ (by omega),Q2G _ (by omega),decodeN,if_neg (by omega),if_neg (by omega),if_neg (by omega),if_pos (by omega),if_pos (by omega)]
     simp only[Prod.mk.injEq,and_true];omega
theorem Q4U(v:Int)(h:0<Qy v)(t:List UInt8):Qo (encodeRune v++t)=(v,Qy v):=by
 have hd:=QbA v h t;have hv:0<=v:=by unfold Qy at h;split at h<;>omega
 rw[Qo,hd];simp only
 rw[if_neg]
 ·rw[Int.toNat_of_nonneg hv]
 ·rintro⟨h1,h2⟩
  have:v=65533:=by omega
  subst this;revert h2;decide
theorem Q4Y(l:List UInt8):1<=(Qo l).2:=by
 unfold Qo;split
 ·exact le_refl _
 ·exact decodeL_width l
theorem Q5s(l:List UInt8)(h:l≠[]):(Qo l).2<=l.length:=by
 unfold Qo;split
 ·exact List.length_pos_iff.2 h
 ·exact decodeL_le l h
theorem Q4q(l:List UInt8):-1<=(Qo l).1/\(Qo l).1<=1114111:=by
 unfold Qo;split
 ·exact⟨by simp,by simp⟩
 ·have:=decodeL_rune l;refine⟨?_,?_⟩<;>dsimp only<;>omega
theorem QfU(l:List UInt8)(h:(Qo l).1=-1)(v:Int)(hv:0<Qy v):¬ ∃t,l=encodeRune v++t:=by
 rintro⟨t,rfl⟩;rw[Q4U v hv]at h;simp only at h
 subst h;exact absurd hv (by decide)
theorem Q5i(l:List UInt8)(jI:l≠[])(h:(Qo l).1≠-1):l.take (Qo l).2=encodeRune (Qo l).1:=by
 have h':¬((decodeL l).1=65533/\(decodeL l).2=1):=fun hh=>h (by rw[Qo,if_pos hh])
 have:=encode_decode l jI h'
 rw[Qo,if_neg h'];exact this.symm
theorem Q32(k off:Nat):Q22 k off []=[]:=by cases k<;>rfl
theorem Qd4(k:Nat):∀(j off:Nat)(l:List UInt8),l.length<=k->l.length<=j->Q22 k off l=Q22 j off l:=by
 induction k with
 |zero=>intro j off l h1 h2;have:l=[]:=List.eq_nil_of_length_eq_zero (by omega);subst this;rw[Q32,Q32]
 |succ k ih =>
  intro j off l h1 h2;cases l with
  |nil=>rw[Q32,Q32]
  |cons b t =>
   cases j with
   |zero=>simp at h2
   |succ j =>
    simp only[Q22];have hp:=Q4Y (b::t);rw[ih j _ _ (by rw[length_drop];simp only[length_cons]at h1 ⊢;omega) (by rw[length_drop];simp only[length_cons]at h2 ⊢;omega)]
theorem Q8f(off:Nat)(l:List UInt8)(h:l≠[]):Q22 l.length off l=((Qo l).1,off,(Qo l).2)::Q22 (l.drop (Qo l).2).length (off+(Qo l).2) (l.drop (Qo l).2):=by
 cases l with
 |nil=>exact absurd rfl h
 |cons b t =>
  have hp:=Q4Y (b::t);show Q22 (t.length+1) off (b::t)=_;simp only[Q22];rw[Qd4 t.length _ _ _ (by rw[length_drop];simp only[length_cons];omega) (le_refl _)]
end
section
open Go.RowKit
theorem QbZ{k:IntKind}{w:World}{a:Option Addr}{len cap:Nat}{zs:List Int}
  (h:(a=none/\len=0/\cap=0/\zs=[])\/∃x,a=some x/\len<=cap/\cap<=maxLen/\zs.length=cap/\(∀i,i<zs.length->w.cell? (x.add i)=some (.int k (zs.getD i 0)))/\∀n∈zs,(Lit.int k n).wf=true) :
  Rd w (fun b=>b<w.heap.size) 1 a len cap ((zs.take len).map (Value.int k))/\∀n∈zs.take len,(Lit.int k n).wf=true:=by
 rcases h with ⟨rfl,rfl,rfl,rfl⟩|⟨x,rfl,h1,h2,h3,h4,h5⟩
 ·exact⟨Rd.none_,by simp⟩
 ·refine⟨⟨by simp;omega,h1,h2,(fun h=>by cases h),fun h0=>?_⟩,fun n hn=>h5 n (List.mem_of_mem_take hn)⟩
  obtain⟨b,off,rfl,hc⟩:=ints_at h4 (by omega)
  have jB:b<w.heap.size:=World.block_lt_of_cell? w _ (hc 0 (by omega))
  refine⟨b,off,rfl,jB,fun j u hu=>?_⟩
  rw[getElem?_map,map_eq_some_iff]at hu;obtain⟨z,hz,rfl⟩:=hu;rw[List.getElem?_take]at hz;split at hz
  ·obtain⟨hj,rfl⟩:=List.getElem?_eq_some_iff.1 hz
   rw[hc j hj];simp[List.getD,hj]
  ·cases hz
def Qgv(r:Int):List UInt8:=(Utf8.encode r).data.toList
theorem QeM(l:List Int):∀s:ByteArray,(l.foldl (fun r n=>r++Utf8.encode n) s).data.toList=s.data.toList++l.flatMap Qgv:=by
 induction l with
 |nil=>intro s;simp
 |cons a t ih =>
  intro s;rw[List.foldl_cons,ih];simp[Qgv,ByteArray.data_append]
theorem Q8j(l:List Int):(runesBytes l).data.toList=l.flatMap Qgv:=by
 rw[runesBytes,QeM];rfl
theorem Qgt(r:Int)(h0:0<=r)(h1:r<128):Qgv r=[UInt8.ofNat r.toNat]:=by
 have hv:Utf8.valid r=true:=by simp[Utf8.valid];omega
 unfold Qgv Utf8.encode;simp only[hv,if_true];rw[if_pos (by omega)]
end
section
open Go.RowKit Go.Lib Tryz
theorem Q8K(r:Int)(w:World):Calls prog 104 #[.int .i32 r] w fun e w'=>e=.returned (.int .i64 (Qy r))/\w=w':=by
 by_cases h1:r<0
 ·go_enter func104,ntmps104
  go_wp2
  go_ret
  exact⟨Q1l (by rw[Qy,if_pos (by omega)];rfl),rfl⟩
 ·by_cases h2:1114111<r
  ·go_enter func104,ntmps104
   go_wp2
   go_ret
   exact⟨Q1l (by rw[Qy,if_pos (by omega)];rfl),rfl⟩
  ·by_cases h3:55296<=r
   ·by_cases h4:r<=57343
    ·go_enter func104,ntmps104
     go_wp2
     go_ret
     exact⟨Q1l (by rw[Qy,if_pos (by omega)];rfl),rfl⟩
    ·by_cases h5:r<65536
     all_goals
      go_enter func104,ntmps104
      go_wp2
      go_ret
      exact⟨Q1l (by rw[Qy,if_neg (by omega),if_neg (by omega),if_neg (by omega)];first|(rw[if_pos (by omega)];rfl)|(rw[if_neg (by omega)];rfl)),rfl⟩
   ·by_cases h4:r<128
    ·go_enter func104,ntmps104
     go_wp2
     go_ret
     exact⟨Q1l (by rw[Qy,if_neg (by omega),if_pos (by omega)];rfl),rfl⟩
    ·by_cases h5:r<2048
     ·go_enter func104,ntmps104
      go_wp2
      go_ret
      exact⟨Q1l (by rw[Qy,if_neg (by omega),if_neg (by omega),if_pos (by omega)];rfl),rfl⟩
     ·go_enter func104,ntmps104
      go_wp2
      go_ret
      exact⟨Q1l (by rw[Qy,if_neg (by omega),if_neg (by omega),if_neg (by omega),if_pos (by omega)];rfl),rfl⟩
theorem QgA(r:Int)(w:World):Calls prog 158 #[.int .i32 r] w fun e w'=>e=.returned (.int .i64 (Qy r))/\w=w':=by
 by_cases h1:r<0
 ·go_enter func158,ntmps158
  go_wp2
  go_ret
  exact⟨Q1l (by rw[Qy,if_pos (by omega)];rfl),rfl⟩
 ·by_cases h2:1114111<r
  ·go_enter func158,ntmps158
   go_wp2
   go_ret
   exact⟨Q1l (by rw[Qy,if_pos (by omega)];rfl),rfl⟩
  ·by_cases h3:55296<=r
   ·by_cases h4:r<=57343
    ·go_enter func158,ntmps158
     go_wp2
     go_ret
     exact⟨Q1l (by rw[Qy,if_pos (by omega)];rfl),rfl⟩
    ·by_cases h5:r<65536
     all_goals
      go_enter func158,ntmps158
      go_wp2
      go_ret
      exact⟨Q1l (by rw[Qy,if_neg (by omega),if_neg (by omega),if_neg (by omega)];first|(rw[if_pos (by omega)];rfl)|(rw[if_neg (by omega)];rfl)),rfl⟩
   ·by_cases h4:r<128
    ·go_enter func158,ntmps158
     go_wp2
     go_ret
     exact⟨Q1l (by rw[Qy,if_neg (by omega),if_pos (by omega)];rfl),rfl⟩
    ·by_cases h5:r<2048
     ·go_enter func158,ntmps158
      go_wp2
      go_ret
      exact⟨Q1l (by rw[Qy,if_neg (by omega),if_neg (by omega),if_pos (by omega)];rfl),rfl⟩
     ·go_enter func158,ntmps158
      go_wp2
      go_ret
      exact⟨Q1l (by rw[Qy,if_neg (by omega),if_neg (by omega),if_neg (by omega),if_pos (by omega)];rfl),rfl⟩
abbrev bc(l:List UInt8):List Value:=l.map fun b=>.int .u8 b.toNat
abbrev Q1i(l:List (Int×Nat×Nat)):List Value:=l.flatMap fun x=>[.int .i32 x.1,.int .i64 x.2.1,.int .i64 x.2.2]
theorem QoH:(prog.info? 116).map (fun i=>(i.zero,i.size,i.bytes))=some (some (.agg #[.int .i32 0,.int .i64 0,.int .i64 0]),3,24):=by kernel_rfl
theorem Qdn(w:World){ops:Array Oper}{rest:List Oper}{o:Oper}{a:Act}{Q:Exit->Act->World->Prop}(hgd:o.guard=none)(s x:Operand)
  (ho:o.op=.call { callee:=.builtin .append,args:=#[s,x],argTypes:=#[114,114] })
  (base:Nat) (v:Value) (n:Nat) (xs:List Value) (hs:a.eval s=v) (hown:w.ownsRow base 116 3 v n xs)
  (S:Nat->Prop) (A:Option Addr) (m c:Nat) (ys:List Value) (hx:a.eval x=.slice A m c) (hr:Rd w S 3 A m c ys) (h1:∀u∈ys,u.oneCell'=true)
  (hlen:n+m<=1000000000) (hbase:base<=w.heap.size)
  (h:∀A' c' w',w'.ownsRow base 116 3 (.slice A' (n+m) c') (n+m) (xs++ys)->w.grownBy w' v.ownBlock->((Value.slice A' (n+m) c').ownBlock=v.ownBlock\/(Value.slice A' (n+m) c').ownBlock=some w.heap.size) ->
    c'<=9223372036854775807->wpList prog ops Q rest (a.put o.dst (.slice A' (n+m) c')) w') :
  wpList prog ops Q (o::rest) a w:=by
 obtain⟨i0,hi,hz0,hz1,hz2⟩:=info_parts QoH;refine Q41 w hgd s x 114 ho base 116 i0 _ 3 24 underlying114 hi hz0 hz1 hz2 rfl (by omega) v n xs hs hown S A m c ys hx hr h1 (by simp only[maxLen];omega) (by omega) hbase ?_
 intro v' w' h1 h2 h3;obtain⟨A',c',rfl,hr'⟩:=Q2q h1;exact h A' c' w' h1 h2 h3 hr'.max
theorem Qpz:(prog.info? 99).map (fun i=>(i.zero,i.size,i.bytes))=some (some (.agg #[.int .i32 0,.int .i64 0,.int .i64 0]),3,24):=by kernel_rfl
theorem QbI(w:World){ops:Array Oper}{rest:List Oper}{o:Oper}{a:Act}{Q:Exit->Act->World->Prop}(hgd:o.guard=none)(s x:Operand)
  (ho:o.op=.call { callee:=.builtin .append,args:=#[s,x],argTypes:=#[96,96] })
  (base:Nat) (v:Value) (n:Nat) (xs:List Value) (hs:a.eval s=v) (hown:w.ownsRow base 99 3 v n xs)
  (S:Nat->Prop) (A:Option Addr) (m c:Nat) (ys:List Value) (hx:a.eval x=.slice A m c) (hr:Rd w S 3 A m c ys) (h1:∀u∈ys,u.oneCell'=true)
  (hlen:n+m<=1000000000) (hbase:base<=w.heap.size)
  (h:∀A' c' w',w'.ownsRow base 99 3 (.slice A' (n+m) c') (n+m) (xs++ys)->w.grownBy w' v.ownBlock->((Value.slice A' (n+m) c').ownBlock=v.ownBlock\/(Value.slice A' (n+m) c').ownBlock=some w.heap.size) ->
    c'<=9223372036854775807->wpList prog ops Q rest (a.put o.dst (.slice A' (n+m) c')) w') :
  wpList prog ops Q (o::rest) a w:=by
 obtain⟨i0,hi,hz0,hz1,hz2⟩:=info_parts Qpz;refine Q41 w hgd s x 96 ho base 99 i0 _ 3 24 underlying96 hi hz0 hz1 hz2 rfl (by omega) v n xs hs hown S A m c ys hx hr h1 (by simp only[maxLen];omega) (by omega) hbase ?_
 intro v' w' h1 h2 h3;obtain⟨A',c',rfl,hr'⟩:=Q2q h1;exact h A' c' w' h1 h2 h3 hr'.max
theorem Qge(s:ByteArray)(at_:Nat)(hat:at_<s.size)(h:(Utf8.decode s at_).1≠65533):Qo (s.data.toList.drop at_)=(((Utf8.decode s at_).1:Int),Qy (Utf8.decode s at_).1):=by
 have hne:s.data.toList.drop at_≠[]:=by
  intro h0;have:=congrArg List.length h0
  simp at this;have:s.data.size=s.size:=rfl
  omega
 rw[<-decodeL_drop]at h ⊢;have hv:=Q5i (s.data.toList.drop at_) hne;rw[Qo,if_neg (fun hh=>h hh.1)]at hv ⊢
 have h2:=runeLen_decode _ h;have hw:=decodeL_width (s.data.toList.drop at_);have hle:=decodeL_le _ hne;refine Prod.ext rfl ?_;show(decodeL (s.data.toList.drop at_)).2=_
 generalize (decodeL (s.data.toList.drop at_)).1=c at h2 ⊢;generalize (decodeL (s.data.toList.drop at_)).2=n at h2 hw ⊢;unfold runeLen at h2;unfold Qy;repeat' split at h2
 all_goals (dsimp only;first|omega|((repeat' split)<;>omega))
theorem Qgk(s:ByteArray)(at_:Nat)(hat:at_<s.size)(h:(Utf8.decode s at_).1=65533) :
  Qo (s.data.toList.drop at_)=if(s.data.toList.drop at_).take 3=[239,191,189]then(65533,3)else(-1,1):=by
 have hne:s.data.toList.drop at_≠[]:=by
  intro h0;have:=congrArg List.length h0
  simp at this;have:s.data.size=s.size:=rfl
  omega
 rw[<-decodeL_drop]at h;generalize s.data.toList.drop at_=l at h hne ⊢;split
 ·rename_i h3
  have he:encodeRune 65533=[239,191,189]:=by decide
  have hl:l=encodeRune 65533++l.drop 3:=by rw[he,<-h3,List.take_append_drop]
  rw[hl,Q4U 65533 (by decide)]
  rfl
 ·rename_i h3
  by_cases h1:(decodeL l).2=1
  ·rw[Qo,if_pos ⟨h,h1⟩]
  ·exfalso
   have he:=encode_decode l hne (fun hh=>h1 hh.2)
   rw[h]at he;have he2:encodeRune ((65533:Nat):Int)=[239,191,189]:=by decide
   rw[he2]at he;have hlen:=congrArg List.length he;have hle:=decodeL_le l hne;rw[length_take]at hlen;have:(decodeL l).2=3:=by simp at hlen;omega
   rw[this]at he;exact h3 he.symm
theorem Qim(s:ByteArray)(at_:Nat)(hat:at_<s.size)(hs:s.size<=1000000000)(w:World) :
  Calls prog 127 #[.string s,.int .i64 at_,.int .i32 (Utf8.decode s at_).1] w fun e w' =>
   e=.returned (.tuple #[.int .i32 (Qo (s.data.toList.drop at_)).1,.int .i64 (Qo (s.data.toList.drop at_)).2])/\w=w':=by
 have hle:=decode_le s at_;by_cases h:(Utf8.decode s at_).1=65533
 ·have HF:=hid (Qgk s at_ hat h)
  rw[h];by_cases h3:(s.size:Int)-(at_:Int)<3
  ·have HN:Hid (Qo (s.data.toList.drop at_)=(-1,1)):=by
    rw[Hid,HF.out,if_neg];intro hh;have:=congrArg List.length hh
    simp at this;have:s.data.size=s.size:=rfl
    omega
   generalize Qo (s.data.toList.drop at_)=p at HN ⊢;clear h HF;go_enter func127,ntmps127
   go_wp2
   go_ret2
   exact⟨by rw[HN.out];rfl,rfl⟩
  ·have hx:(s.extract at_ (at_+3)).toList=(s.data.toList.drop at_).take 3:=by
    rw[ByteArray.toList_eq,extract_data,Nat.add_sub_cancel_left]
   have HW:=hid (Q8K 65533 w);have h4:at_+3<=s.size:=by omega
   by_cases he:(s.data.toList.drop at_).take 3=[239,191,189]
   ·have HN:Hid (Qo (s.data.toList.drop at_)=(65533,3)):=by rw[Hid,HF.out,if_pos he]
    have hb:((s.extract at_ (at_+3)).toList == [239,191,189])=true:=by rw[hx,he];rfl
    generalize Qo (s.data.toList.drop at_)=p at HN ⊢;clear h HF hx he;go_enter func127,ntmps127
    go_wp2_with fail
    refine HW.out.mono ?_;rintro e w' ⟨rfl,rfl⟩;go_wp2
    go_ret2
    exact⟨by rw[HN.out];rfl,rfl⟩
   ·have HN:Hid (Qo (s.data.toList.drop at_)=(-1,1)):=by rw[Hid,HF.out,if_neg he]
    have hb:((s.extract at_ (at_+3)).toList == [239,191,189])=false:=by rw[hx,beq_eq_false_iff_ne];exact he
    generalize Qo (s.data.toList.drop at_)=p at HN ⊢;clear h HF hx he;go_enter func127,ntmps127
    go_wp2
    go_ret2
    exact⟨by rw[HN.out];rfl,rfl⟩
 ·have HN:=hid (Qge s at_ hat h)
  have hb:(((Utf8.decode s at_).1:Int) == 65533)=false:=by rw[beq_eq_false_iff_ne];omega
  generalize Qo (s.data.toList.drop at_)=p at HN ⊢;generalize (Utf8.decode s at_).1=c at HN hb hle h ⊢;have HW:=hid (Q8K c w);clear h;go_enter func127,ntmps127
  go_wp2_with fail
  refine HW.out.mono ?_;rintro e w' ⟨rfl,rfl⟩;go_wp2
  go_ret2
  exact⟨by rw[HN.out];rfl,rfl⟩
theorem QlG{l:List UInt8}{k:Nat}{u:Value}(h:(bc l)[k]?=some u):∃h:k<l.length,u=.int .u8 (l[k]).toNat:=by
 simp only[bc,getElem?_map,map_eq_some_iff]at h;obtain⟨a,ha,rfl⟩:=h;obtain⟨hk,rfl⟩:=List.getElem?_eq_some_iff.1 ha;exact⟨hk,rfl⟩
theorem Qpx(l:List UInt8):∀u∈bc l,u.oneCell'=true:=by
 intro u hu;obtain⟨_,_,rfl⟩:=mem_map.1 hu;rfl
theorem Qdq{w:World}{S:Nat->Prop}{A:Option Addr}{n c:Nat}{l:List UInt8}(h:Rd w S 1 A n c (bc l)):n=l.length:=by have:=h.len;simpa using this.symm
theorem Q38{P:Program}{w:World}{S:Nat->Prop}{A:Option Addr}{n c:Nat}{l:List UInt8}(h:Rd w S 1 A n c (bc l))(src dst e:TypeId)
  (hs:P.underlying src=some (.slice e)) (he:P.underlying e=some (.int .u8)) (hd:P.underlying dst=some .string) :
  (convert src dst (.slice A n c)).run P w=.ok (.string ⟨l.toArray⟩) w:=by
 obtain rfl:=Qdq h;rcases A with _|ad
 ·have:=h.nil rfl
  have:=h.le
  have:l=[]:=List.eq_nil_of_length_eq_zero (by omega)
  subst this;rw[run_convert_bytes_string w src dst e _ _ _ hs he hd];rfl
 ·refine run_convert_bytes_back w src dst e ad c l hs he hd fun j hj=>?_
  obtain⟨b,o,ha,_,hc⟩:=h.at_ (by omega)
  injection ha with ha
  subst ha;rw[Addr.add_lit];exact hc j _ (by simp[bc,hj])
theorem Q5z(a b:List (Int×Nat×Nat)):Q1i (a++b)=Q1i a++Q1i b:=by simp[Q1i]
theorem Q7a(l:List (Int×Nat×Nat)):∀u∈Q1i l,u.oneCell'=true:=by
 intro u hu;simp only[Q1i,List.mem_flatMap,mem_cons,List.not_mem_nil,or_false]at hu;obtain⟨x,_,rfl|rfl|rfl⟩:=hu<;>rfl
theorem Q44(l:List (Int×Nat×Nat)):(Q1i l).length=l.length * 3:=by
 induction l with
 |nil=>rfl
 |cons a t ih=>simp only[Q1i,List.flatMap_cons,List.length_append,length_cons,List.length_nil]at ih ⊢;omega
structure IterAt (w wr:World) (s:ByteArray) (pos:Nat):Prop where
 blk:wr.heap[w.heap.size]?=some (.stringIter s pos)
 below:Below w.heap.size w wr
theorem IterAt.lt{w wr:World}{s:ByteArray}{pos:Nat}(h:IterAt w wr s pos):w.heap.size<wr.heap.size:=(Array.getElem?_eq_some_iff.1 h.blk).1
def World.iterSet(w:World)(b:Nat)(s:ByteArray)(pos:Nat):World:={ w with heap:=w.heap.setIfInBounds b (.stringIter s pos) }
theorem Q9k{P:Program}{w wr:World}{s:ByteArray}{pos:Nat}(h:IterAt w wr s pos)(ty:TypeId)(hp:pos<s.size) :
  (Instr.next (.pointer (some ⟨w.heap.size,0,none⟩)) true ty).run P wr=.ok (.tuple #[.bool true,.int .i64 pos,.int .i32 (Utf8.decode s pos).1]) (World.iterSet wr w.heap.size s (pos+(Utf8.decode s pos).2)):=by
 simp only[Instr.next,getObj,setObj,Sem.run_bind,Sem.run,h.blk,Result.andThen,hp,if_true]
 simp[goInt,World.iterSet]
theorem Qby{P:Program}{w wr:World}{s:ByteArray}{pos:Nat}(h:IterAt w wr s pos)(ty:TypeId)(hp:¬pos<s.size) :
  (Instr.next (.pointer (some ⟨w.heap.size,0,none⟩)) true ty).run P wr=.ok (.tuple #[.bool false]) wr:=by
 simp[Instr.next,getObj,Sem.run,h.blk,hp]
theorem IterAt.set{w wr:World}{s:ByteArray}{pos pos':Nat}(h:IterAt w wr s pos):IterAt w (World.iterSet wr w.heap.size s pos') s pos':=by
 have hlt:=h.lt;refine⟨?_,h.below.trans ⟨rfl,rfl,rfl,?_,fun k hk=>?_⟩⟩
 ·show(wr.heap.setIfInBounds w.heap.size _)[w.heap.size]?=_
  rw[Array.getElem?_setIfInBounds_self_of_lt hlt]
 ·show wr.heap.size<=(wr.heap.setIfInBounds w.heap.size _).size
  simp
 ·show(wr.heap.setIfInBounds w.heap.size _)[k]?=_
  rw[Array.getElem?_setIfInBounds_ne (by omega)]
theorem QbG(w:World)(b:Nat)(s:ByteArray)(pos:Nat):w.grownBy (World.iterSet w b s pos) (some b) :=
 ⟨rfl,rfl,rfl,by simp[World.iterSet],fun k _ hne=>by
  show(w.heap.setIfInBounds b _)[k]?=_
  rw[Array.getElem?_setIfInBounds_ne (fun e=>hne (by rw[e]))]⟩
theorem IterAt.grown{w wr w2:World}{s:ByteArray}{pos:Nat}{row:Option Nat}(h:IterAt w wr s pos)(hg:wr.grownBy w2 row)(hr:∀g,row=some g->w.heap.size<g):IterAt w w2 s pos :=
 ⟨(hg.block w.heap.size h.lt (fun e=>by have:=hr _ e.symm;omega)).trans h.blk,h.below.grown hg h.below.size (fun k hk=>by have:=hr k hk;omega)⟩
theorem IterAt.alloc{w wr:World}{s:ByteArray}{pos:Nat}(h:IterAt w wr s pos)(o:Obj):IterAt w (wr.alloc o) s pos :=
 ⟨(Below.heap_alloc wr o _ h.lt).trans h.blk,h.below.alloc h.below.size o⟩
theorem IterAt.start(w:World)(s:ByteArray):IterAt w (w.iter s 0) s 0:=⟨World.iter_heap w s 0,(Below.refl _ w).alloc (le_refl _) _⟩
theorem QiW(s:ByteArray)(pos:Nat):1<=(Utf8.decode s pos).2:=by rw[<-decodeL_drop];exact decodeL_width _
theorem Qiq(s:ByteArray)(pos:Nat):(Qo (s.data.toList.drop pos)).2=(Utf8.decode s pos).2:=by
 rw[Qo,decodeL_drop];split
 ·rename_i h;exact h.2.symm
 ·rfl
theorem Qjs(S:Nat->Prop)(A:Option Addr)(n c:Nat)(l:List UInt8)(w:World)(hr:Rd w S 1 A n c (bc l))(hlen:l.length<=300000000) :
  Calls prog 93 #[.slice A n c] w fun e w'=>∃v,e=.returned v/\(∃n',w'.ownsRow w.heap.size 116 3 v n' (Q1i (Q50 l)))/\Below w.heap.size w w':=by
 have hcv:=Q38 hr 22 9 5 underlying22 underlying5 underlying9;obtain rfl:=Qdq hr;obtain⟨s,hs⟩:∃s:ByteArray,s=⟨l.toArray⟩:=⟨_,rfl⟩;rw[<-hs]at hcv;have hsz:s.size=l.length:=by rw[hs];simp[ByteArray.size]
 have hsl:s.data.toList=l:=by rw[hs]
 have HS:=hid hs;have hsb:s.size<=300000000:=by omega
 have HSL:=hid hsl;have HSZ:=hid hsz;clear hs hsl hsz hr;go_enter func93,ntmps93
 go_wp2
 go_loopw [3] (fun v wr=>∃(pos:Nat) (o:List (Int×Nat×Nat)),Hid (IterAt w wr s pos)/\Hid (Q50 l=o++Q22 (l.drop pos).length pos (l.drop pos))/\o.length<=pos /\
   Hid (∃n',wr.ownsRow (w.heap.size+1) 116 3 v n' (Q1i o))/\pos<=s.size)
  (fun _ wr=>s.size-wr.iterPos w.heap.size)
 case atStart=>exact⟨0,[],IterAt.start w s,by simp[Hid,Q50],le_refl _,⟨0,World.ownsRow_nil _ _ _ _⟩,zero_le _⟩
 case round =>
  obtain⟨pos,o,HI,HS2,hol,HO,hpos⟩:=hrel;obtain⟨no,HO⟩:=HO.out;have hno:no=o.length:=by have:=HO.1;rw[Q44]at this;omega
  obtain⟨Ao,co,rfl,hro⟩:=Q2q HO;have hco:co<=9223372036854775807:=hro.max;have HO:=hid HO;have hnob:no<=300000000:=by omega
  have HNO:=hid hno;clear hro hno;by_cases hlt:pos<s.size
  ·have hnx:∀ty,(Instr.next (.pointer (some ⟨w.heap.size,0,none⟩)) true ty).run prog wr=_:=fun ty=>Q9k HI.out ty hlt
   have HI2:=hid (HI.out.set (pos':=pos+(Utf8.decode s pos).2))
   have HO2:=hid (HO.out.kept (QbG wr w.heap.size s (pos+(Utf8.decode s pos).2)) (by
    cases hb:Value.ownBlock (.slice Ao no co)with
    |none=>exact .inl rfl
    |some g=>right;have:=(HO.out.lt g hb).1;intro h;injection h;omega))
   generalize hW2:World.iterSet wr w.heap.size s (pos+(Utf8.decode s pos).2)=w2 at hnx HI2 HO2;have HFD:=hid (Qiq s pos);have HP:=hid (Qim s pos hlt (by omega) w2)
   have hdw:=QiW s pos;have hfr:=Q4q (s.data.toList.drop pos)
   have HMS:Hid (pos+(Utf8.decode s pos).2<=s.size):=by
    rw[Hid,<-HFD.out]
    have hne:s.data.toList.drop pos≠[]:=by
     intro h0;have:=congrArg List.length h0
     simp at this;have:s.data.size=s.size:=rfl
     omega
    have:=Q5s _ hne
    rw[length_drop]at this;have:s.data.toList.length=s.size:=by simp
    omega
   have HST:Hid (Q50 l=(o++[((Qo (s.data.toList.drop pos)).1,pos,(Qo (s.data.toList.drop pos)).2)])++Q22 (l.drop (pos+(Utf8.decode s pos).2)).length (pos+(Utf8.decode s pos).2) (l.drop (pos+(Utf8.decode s pos).2))):=by
    have hne:l.drop pos≠[]:=by
     intro h0;have:=congrArg List.length h0
     simp at this;have:=HSZ.out
     omega
    rw[Hid,HS2.out,Q8f pos _ hne,List.drop_drop,HSL.out,<-HSL.out,HFD.out];simp
   generalize hd2:(Utf8.decode s pos).2=dw at hnx HI2 HFD hdw HMS HST hW2;generalize Qo (s.data.toList.drop pos)=p at HP HFD HST hfr;generalize (Utf8.decode s pos).1=dr at hnx HP;clear hW2 hd2;go_wp2_with fail
   refine HP.out.mono ?_;rintro e w3 ⟨rfl,rfl⟩
   go_wp2_with (first
    |(at_builtin
      refine Qdn _ rfl (.tmp 24) (.tmp 29) rfl (w.heap.size+1) _ _ (Q1i o) rfl (HO2.out.alloc _) _ _ 1 1 (Q1i [(p.1,pos,p.2)]) rfl (Rd.lit w2 _ #[.int .i32 p.1,.int .i64 pos,.int .i64 p.2] 3 1 rfl (by decide)) (Q7a _) (by omega) (by have:=HI2.out.lt;simp;omega) ?_
      intro A4 c4 w4 hown4 hg4 _ _;have HI4:=hid ((HI2.out.alloc (.cells #[.int .i32 p.1,.int .i64 pos,.int .i64 p.2] 116)).grown hg4 (fun g hg=>(HO2.out.lt g hg).1))
      have HO4:=hid hown4;clear hown4 hg4))
   go_roundw
   case rel =>
    refine⟨pos+dw,_,HI4.out,HST.out,?_,⟨_,by rw[Q5z];exact HO4.out⟩,HMS.out⟩
    simp;omega
   case measure =>
    simp[World.iterPos,HI4.out.blk,HI.out.blk];omega
  ·have hnx:∀ty,(Instr.next (.pointer (some ⟨w.heap.size,0,none⟩)) true ty).run prog wr=_:=fun ty=>Qby HI.out ty hlt
   have HE:Hid (Q50 l=o):=by
    have:l.drop pos=[]:=List.drop_eq_nil_of_le (by have:=HSZ.out;omega)
    rw[Hid,HS2.out,this,Q32,append_nil]
   go_wp2
   go_ret
   exact⟨_,rfl,⟨_,by rw[HE.out];exact Qmc HO.out (by omega)⟩,HI.out.below⟩
def BytesV(w:World)(v:Value)(l:List UInt8):Prop:=∃A n c,v=.slice A n c/\Rd w (fun _=>True) 1 A n c (bc l)
theorem BytesV.of_own{w:World}{base:Nat}{e:TypeId}{v:Value}{n:Nat}{l:List UInt8}(h:w.ownsRow base e 1 v n (bc l)):BytesV w v l:=by
 obtain⟨A,c,rfl,hr⟩:=Q2q h;exact⟨A,n,c,rfl,hr.more fun _ _=>trivial⟩
theorem BytesV.of_rd{w:World}{S:Nat->Prop}{A:Option Addr}{n c:Nat}{l:List UInt8}(h:Rd w S 1 A n c (bc l)):BytesV w (.slice A n c) l:=⟨A,n,c,rfl,h.more fun _ _=>trivial⟩
theorem BytesV.below{w w':World}{v:Value}{l:List UInt8}(h:BytesV w v l)(hb:Below w.heap.size w w'):BytesV w' v l:=by
 obtain⟨A,n,c,rfl,hr⟩:=h;exact⟨A,n,c,rfl,hr.below hb⟩
def Q2U(r:Int):List UInt8:=if Qy r=0 then []else encodeRune r
theorem Qe5(r:Int)(h:0<Qy r)(zs:List Int)(hz:encodeRuneZ r=zs):bc (Q2U r)=zs.map (Value.int .u8):=by
 rw[Q2U,if_neg (by omega),encodeRune,hz,bc,map_map]
 apply List.map_congr_left;intro x hx;have:=encodeRuneZ_byte r x (by rw[hz];exact hx)
 simp only[Function.comp];rw[Q2G x (by omega),Int.toNat_of_nonneg this.1]
theorem Q6K(w:World)(t:TypeId)(cs:Array Value)(l:List UInt8)(n:Nat)(hn:cs.size=n)(hm:n<=maxLen)(h:bc l=cs.toList) :
  BytesV (w.alloc (.cells cs t)) (.slice (some ⟨w.heap.size,0,none⟩) n n) l:=by
 have hr:=Rd.lit w t cs 1 n (by omega) hm
 rw[<-h]at hr;exact⟨_,_,_,rfl,hr.more fun _ _=>trivial⟩
theorem Qkk(r:Int)(w:World)(hlo:-2147483648<=r)(hhi:r<=2147483647):Calls prog 141 #[.int .i32 r] w fun e w'=>∃v,e=.returned v/\BytesV w' v (Q2U r)/\Below w.heap.size w w':=by
 have HW:=hid (QgA r w);by_cases h0:Qy r=0
 ·have HR:Hid (Q2U r=[]):=by rw[Hid,Q2U,if_pos h0]
  rw[h0]at HW;clear h0;go_enter func141,ntmps141
  go_wp2_with fail
  refine HW.out.mono ?_;rintro e w' ⟨rfl,rfl⟩;go_wp2
  go_ret
  exact⟨_,rfl,by rw[HR.out];exact⟨none,0,0,rfl,Rd.none_⟩,Below.refl _ _⟩
 ·have hpos:0<Qy r:=by omega
  have hc:=Qe5 r hpos;have hr:0<=r/\r<=1114111:=by unfold Qy at h0;split at h0<;>omega
  by_cases h1:r<128
  ·have e1:Qy r=1:=by unfold Qy at h0 ⊢;repeat' split at h0
                      all_goals (repeat' split)<;>omega
   have HC:=hid (hc _ (encodeRuneZ_one hr.1 (by omega)))
   rw[e1]at HW;clear hc h0 hpos e1;obtain⟨hr1,hr2⟩:=hr;go_enter func141,ntmps141
   go_wp2_with fail
   refine HW.out.mono ?_;rintro e w' ⟨rfl,rfl⟩;go_wp2
   go_ret
   exact⟨_,rfl,Q6K _ _ _ _ _ rfl (by decide) HC.out,(Below.refl _ _).alloc (le_refl _) _⟩
  ·by_cases h2:r<2048
   ·have e1:Qy r=2:=by unfold Qy at h0 ⊢;repeat' split at h0
                       all_goals (repeat' split)<;>omega
    have HC:=hid (hc _ (encodeRuneZ_two (by omega) (by omega)))
    rw[e1]at HW;clear hc h0 hpos e1;obtain⟨hr1,hr2⟩:=hr;go_enter func141,ntmps141
    go_wp2_with fail
    refine HW.out.mono ?_;rintro e w' ⟨rfl,rfl⟩;go_wp2
    go_ret
    exact⟨_,rfl,Q6K _ _ _ _ _ rfl (by decide) HC.out,(Below.refl _ _).alloc (le_refl _) _⟩
   ·by_cases h3:r<65536
    ·have e1:Qy r=3:=by unfold Qy at h0 ⊢;repeat' split at h0
                        all_goals (repeat' split)<;>omega
     have h5:¬(55296<=r/\r<=57343):=by unfold Qy at h0;split at h0<;>omega
     have HC:=hid (hc _ (encodeRuneZ_three (by omega)))
     rw[e1]at HW;clear hc h0 hpos e1 h5;obtain⟨hr1,hr2⟩:=hr;go_enter func141,ntmps141
     go_wp2_with fail
     refine HW.out.mono ?_;rintro e w' ⟨rfl,rfl⟩;go_wp2
     go_ret
     exact⟨_,rfl,Q6K _ _ _ _ _ rfl (by decide) HC.out,(Below.refl _ _).alloc (le_refl _) _⟩
    ·have e1:Qy r=4:=by unfold Qy at h0 ⊢;repeat' split at h0
                        all_goals (repeat' split)<;>omega
     have HC:=hid (hc _ (encodeRuneZ_four (by omega) (by omega)))
     rw[e1]at HW;clear hc h0 hpos e1;obtain⟨hr1,hr2⟩:=hr;go_enter func141,ntmps141
     go_wp2_with fail
     refine HW.out.mono ?_;rintro e w' ⟨rfl,rfl⟩;go_wp2
     go_ret
     exact⟨_,rfl,Q6K _ _ _ _ _ rfl (by decide) HC.out,(Below.refl _ _).alloc (le_refl _) _⟩
def Q57:Nat->Int
 |2=>192
 |3=>224
 |4=>240
 |_=>0
def Q3J(l:List UInt8)(i:Nat):Int:=(l.getD i 0).toNat
def vp(l:List UInt8)(n:Nat):Nat->Int
 |0=>Q3J l 0-Q57 n
 |j+1=>64 * vp l n j+Q3J l (j+1)-128
def hit(l:List UInt8)(n:Nat):Prop:=0<=vp l n (n-1)/\vp l n (n-1)<=1114111/\Q2U (vp l n (n-1))=l.take n
theorem Q3a(l:List UInt8)(i:Nat):0<=Q3J l i/\Q3J l i<256:=by
 unfold Q3J;have:=(l.getD i 0).toNat_lt;omega
theorem Qlv(l:List UInt8)(n j:Nat)(hj:j<=3):-1000000000<=vp l n j/\vp l n j<=1000000000:=by
 have h0:=Q3a l 0;have h1:=Q3a l 1;have h2:=Q3a l 2;have h3:=Q3a l 3;have hl:0<=Q57 n/\Q57 n<=240:=by unfold Q57;split<;>omega
 match j,hj with
 |0,_=>simp only[vp];omega
 |1,_=>simp only[vp,zero_add];omega
 |2,_=>simp only[vp,zero_add,Nat.reduceAdd];omega
 |3,_=>simp only[vp,zero_add,Nat.reduceAdd];omega
theorem Qie(l:List UInt8)(n:Nat)(h1:1<=n)(hn:n<=l.length)(h:hit l n):Qo l=(vp l n (n-1),n):=by
 obtain⟨_,_,h⟩:=h;generalize vp l n (n-1)=v at h ⊢;have hlen:=congrArg List.length h;rw[length_take,Nat.min_eq_left hn]at hlen
 have hw:0<Qy v:=by
  rcases Nat.eq_zero_or_pos (Qy v)with h0|h0
  ·rw[Q2U,if_pos h0]at hlen
   simp at hlen;omega
  ·exact h0
 rw[Q2U,if_neg (by omega)]at h hlen
 rw[Q4z v hw]at hlen;have:l=encodeRune v++l.drop n:=by rw[h,List.take_append_drop]
 rw[this,Q4U v hw,hlen]
theorem Qce(l:List UInt8)(n i:Nat)(h:i<n):l.getD i 0=(l.take n).getD i 0:=by simp[List.getD,h]
theorem Qgo(l:List UInt8)(hne:l≠[])(h:∀n,1<=n->n<=4->n<=l.length->¬hit l n):Qo l=(-1,1):=by
 by_cases hb:(Qo l).1=-1
 ·have hd:=hb
  unfold Qo at hd ⊢;split at hd
  ·rename_i h1;rw[if_pos h1]
  ·exfalso;simp only at hd;omega
 ·exfalso
  have hg:=Q5i l hne hb;have hle:=Q5s l hne;have hpos:=Q4Y l;have hr:=Q4q l
  have hd:(Qo l).1=((decodeL l).1:Int):=by
   unfold Qo at hb ⊢;split
   ·rename_i h1;rw[if_pos h1]at hb;exact absurd rfl hb
   ·rfl
  generalize hv:(Qo l).1=v at hb hg hr hd;generalize (Qo l).2=n at hg hle hpos;have hlen:=congrArg List.length hg;rw[length_take,Nat.min_eq_left hle]at hlen
  have hsur:¬(55296<=v/\v<=57343):=by
   intro hs;have h1:v=((decodeL l).1:Int):=hd;have h2:=decodeL_N l;rcases decodeN_shape l.length (l.getD 0 0).toNat (l.getD 1 0).toNat (l.getD 2 0).toNat (l.getD 3 0).toNat with ⟨c,e⟩|⟨c1,c2,c3,cv,e⟩|⟨c1,c2,c3,c4,cv,cs,e⟩|⟨c1,c2,c3,c4,c5,cv,cw,e⟩|e
   all_goals (rw[e]at h2;rw[h2]at h1;dsimp only at h1;omega)
  have hw:0<Qy v:=by unfold Qy;rw[if_neg (by omega)];repeat' split
                     all_goals omega
  have hrf:Q2U v=encodeRune v:=by rw[Q2U,if_neg (by omega)]
  have hn4:n=Qy v:=by rw[hlen,Q4z v hw]
  have hb0:=Qce l n 0 (by omega)
  have hvp:vp l n (n-1)=v:=by
   have key:∀i,i<n->Q3J l i=(encodeRuneZ v).getD i 0:=by
    intro i hi;unfold Q3J;rw[Qce l n i hi,hg,encodeRune]
    have hil:i<(encodeRuneZ v).length:=by
     have:=Q4z v hw
     rw[encodeRune,List.length_map]at this;omega
    have hz:=encodeRuneZ_byte v (encodeRuneZ v)[i] (List.getElem_mem hil);simp only[List.getD,getElem?_map,getElem?_eq_getElem hil,Option.map_some,getD_some];rw[Q2G _ (by omega),Int.toNat_of_nonneg hz.1]
   rw[hn4]at key ⊢;unfold Qy at hw key ⊢;rw[if_neg (by omega)]at key ⊢
   by_cases h1:v<128
   ·rw[if_pos h1]at key ⊢
    have k0:=key 0 (by omega)
    rw[encodeRuneZ_one (by omega) (by omega)]at k0
    show vp l 1 0=v;simp only[vp,Q57,k0];simp
   ·rw[if_neg h1]at key ⊢
    by_cases h2:v<2048
    ·rw[if_pos h2]at key ⊢
     have k0:=key 0 (by omega)
     have k1:=key 1 (by omega)
     rw[encodeRuneZ_two (by omega) (by omega)]at k0 k1
     show vp l 2 1=v;simp only[vp,Q57,zero_add,k0,k1,getD_cons_zero,getD_cons_succ];omega
    ·rw[if_neg h2]at key ⊢
     by_cases h3:v<65536
     ·rw[if_pos h3]at key ⊢
      have k0:=key 0 (by omega)
      have k1:=key 1 (by omega)
      have k2:=key 2 (by omega)
      rw[encodeRuneZ_three (by omega)]at k0 k1 k2
      show vp l 3 2=v;simp only[vp,Q57,zero_add,Nat.reduceAdd,k0,k1,k2,getD_cons_zero,getD_cons_succ];omega
     ·rw[if_neg h3]at key ⊢
      have k0:=key 0 (by omega)
      have k1:=key 1 (by omega)
      have k2:=key 2 (by omega)
      have k3:=key 3 (by omega)
      rw[encodeRuneZ_four (by omega) (by omega)]at k0 k1 k2 k3
      show vp l 4 3=v;simp only[vp,Q57,zero_add,Nat.reduceAdd,k0,k1,k2,k3,getD_cons_zero,getD_cons_succ];omega
  refine h n hpos ?_ hle ⟨by rw[hvp];omega,by rw[hvp];omega,by rw[hvp,hrf,hg]⟩
  rw[hn4];unfold Qy;repeat' split
  all_goals omega
theorem QiV(S:Nat->Prop)(A:Option Addr)(n c:Nat)(l:List UInt8)(w:World)(hr:Rd w S 1 A n c (bc l))(hlen:l.length<=1000000000) :
  Calls prog 111 #[.slice A n c] w fun e w' =>
   e=.returned (.tuple #[.int .i32 (if l=[]then 0 else(Qo l).1),.int .i64 (if l=[]then(0:Nat)else(Qo l).2:Nat)])/\Below w.heap.size w w':=by
 obtain rfl:=Qdq hr;have hle:=hr.le;have hmx:c<=9223372036854775807:=hr.max;cases hl:l with
 |nil =>
  subst hl;go_enter func111,ntmps111
  go_wp2
  go_ret2
  exact⟨rfl,Below.refl _ _⟩
 |cons b0 t0 =>
  rw[<-hl,if_neg (by rw[hl];simp),if_neg (by rw[hl];simp)]
  have hpos:0<l.length:=by rw[hl];simp
  have hd0:((l.length:Int) == 0)=false:=by rw[beq_eq_false_iff_ne];omega
  have hd1:(l.length == 0)=false:=by rw[beq_eq_false_iff_ne];omega
  clear hl b0 t0;have HR:=hid hr;clear hr;go_enter func111,ntmps111
  go_wp2
  have HC:Hid (∀j,j<=4->(w.alloc (.cells #[.int .i64 0,.int .i64 0,.int .i64 192,.int .i64 224,.int .i64 240] 3)).cell? ⟨w.heap.size,j,none⟩=some (.int .i64 (Q57 j))):=by
   intro j hj;rw[World.cell?_alloc_at _ _ _ _ rfl];match j,hj with
   |0,_=>rfl
   |1,_=>rfl
   |2,_=>rfl
   |3,_=>rfl
   |4,_=>rfl
  have HR0:=hid (HR.out.alloc (.cells #[.int .i64 0,.int .i64 0,.int .i64 192,.int .i64 224,.int .i64 240] 3));have HB0:Hid (Below w.heap.size w (w.alloc (.cells #[.int .i64 0,.int .i64 0,.int .i64 192,.int .i64 224,.int .i64 240] 3))):=(Below.refl _ _).alloc (le_refl _) _;have hsz:(w.alloc (.cells #[.int .i64 0,.int .i64 0,.int .i64 192,.int .i64 224,.int .i64 240] 3)).heap.size=w.heap.size+1:=by simp
  generalize w.alloc (.cells #[.int .i64 0,.int .i64 0,.int .i64 192,.int .i64 224,.int .i64 240] 3)=W0 at HC HR0 HB0 hsz;have HSZ:=hid hsz;clear hsz;go_loopw [5] (fun i wr=>∃k:Nat,1<=k/\k<=5/\k<=l.length+1/\i=.int .i64 k/\Hid (∀m,1<=m->m<k->¬hit l m)/\Hid (Below W0.heap.size W0 wr)) (fun i _=>5-(RowKit.intOf i).toNat)
  case atStart=>exact⟨1,by omega,by omega,by omega,rfl,fun m h1 h2=>absurd h1 (by omega),Below.refl _ _⟩
  case round =>
   obtain⟨k,hk1,hk5,hkl,rfl,HN,HB⟩:=hrel;by_cases hin:k<=4/\k<=l.length
   ·obtain⟨h4,hkl2⟩:=hin
    obtain⟨b,o,u,rfl,_,hu,hc0⟩:=(HR0.out.below HB.out).one hpos;obtain⟨hp0,rfl⟩:=QlG hu;clear hu
    have hc0':wr.cell? ⟨b,o,none⟩=some (.int .u8 (Q3J l 0)):=by
     rw[Nat.add_zero]at hc0;rw[hc0];simp[Q3J,List.getD,hp0]
    clear hc0;have hlead:wr.cell? ⟨w.heap.size,k,none⟩=some (.int .i64 (Q57 k)):=(HB.out.cell (p:=⟨w.heap.size,k,none⟩) (by show w.heap.size<W0.heap.size;have:=HSZ.out;omega)).trans (HC.out k h4)
    have hb0:=Q3a l 0;have hll:0<=Q57 k/\Q57 k<=240:=by unfold Q57;split<;>omega
    have HV0:Hid (vp l k 0=Q3J l 0-Q57 k):=rfl;go_wp2
    go_quiet (fail)
    go_wp2
    have HB1:=hid (Q1x HB.out nq);generalize wr.drewN nq=w1 at HB1;clear hc0' hlead;go_loop [6,7] (fun v i=>∃j:Nat,j+1<=k/\i=.int .i64 ((j:Int)+1)/\v=.int .i64 (vp l k j)) (fun _ i=>k-(RowKit.intOf i).toNat)
    case atStart=>exact⟨0,hk1,rfl,by rw[HV0.out]⟩
    case round =>
     obtain⟨j,hj,rfl,rfl⟩:=hrel;have hvr:=Qlv l k j (by omega)
     by_cases hjk:j+1<k
     ·obtain⟨b2,o2,u,hA,_,hu,hc1⟩:=(HR0.out.below HB1.out).one (k:=j+1) (by omega)
      injection hA with hA
      injection hA with e1 e2
      subst e1 e2;obtain⟨hp1,rfl⟩:=QlG hu;clear hu
      have hc1':w1.cell? ⟨b,o+(j+1),none⟩=some (.int .u8 (Q3J l (j+1))):=by
       rw[hc1];simp[Q3J,List.getD,hp1]
      have hb1:=Q3a l (j+1);have hjk':(j:Int)+1<(k:Int):=by omega
      have hjl:(j:Int)+1<(l.length:Int):=by omega
      have HV1:Hid (vp l k (j+1)=64 * vp l k j+Q3J l (j+1)-128):=rfl;clear hc1;generalize vp l k j=v at hvr HV1 ⊢;generalize Q3J l (j+1)=b1 at hc1' hb1 HV1;go_wp2
      go_round
      case rel=>exact⟨j+1,by omega,by go_num,by rw[HV1.out]⟩
      case measure=>simp[RowKit.intOf];omega
     ·have hjk':¬(j:Int)+1<(k:Int):=by omega
      have ej:j=k-1:=by omega
      subst ej;generalize hv:vp l k (k-1)=v at hvr ⊢;have HV:=hid hv;clear hv;by_cases hv0:0<=v/\v<=1114111
      ·obtain⟨hv1,hv2⟩:=hv0
       have hv3:decide (0<=v)=true:=by simpa using hv1
       have hv4:decide (v<=1114111)=true:=by simpa using hv2
       have HT:=hid ((HR0.out.below HB1.out).take (k:=k) (by omega))
       have htk:(bc l).take (k * 1)=bc (l.take k):=by rw[Nat.mul_one,bc,bc,List.map_take]
       rw[htk]at HT;clear htk
       have hcb:∀W,Below w1.heap.size w1 W->(convert 22 9 (.slice (some ⟨b,o,none⟩) k c)).run prog W=.ok (.string ⟨(l.take k).toArray⟩) W:=fun W hW =>
        Q38 (HT.out.below hW) 22 9 5 underlying22 underlying5 underlying9
       have hcb1:=hcb w1.drew ((Below.refl _ w1).drew);have HCB:=hid hcb;generalize htl:l.take k=tl at hcb1 HCB;have HTL:=hid htl;clear htl hcb;go_wp2
       refine Qa7 [(0,true),(1,true),(2,true),(3,true),(4,true),(5,true),(6,true),(7,true),(8,true),(11,true),(12,true),(13,true),(14,true),(9,false),(10,true),(15,true),(16,true)] (by kernel_rfl) (by kernel_rfl) (fun _ _ _ _ _ h=>h) ?_
       intro wd HLE;have hcbd:∀W,LeB wd W->(convert 22 9 (.slice (some ⟨b,o,none⟩) k c)).run prog W=.ok (.string ⟨tl.toArray⟩) W:=fun W hW=>HCB.out W (LeB.trans _ _ _ HLE.out hW)
       have hkc:k<=c:=by omega
       repeat (refine Q9d rfl (fun K hK=>?_);go_simp;first|(refine hK.out _ ?_;clear hK K)|(apply Exists.intro;refine⟨fun W hW=>?_,hK.out _ ?_⟩;(first|rfl|(rw[hcbd W hW];rfl));clear hK K))
       have hwr:IntKind.i32.wrap v=v:=IntWalk.i32_in v (by omega)
       refine Qg1 rfl (fun K W HLW hK=>?_) LeB.refl
       go_simp
       refine(Qkk v _ (by omega) (by omega)).mono ?_
       rintro e w2 ⟨v2,rfl,⟨A2,n2,c2,rfl,hr2⟩,hb2⟩;go_simp
       refine hK.out _ _ hb2 ?_;clear hK K
       have hcr:∀W,LeB w2 W->(convert 22 9 (.slice A2 n2 c2)).run prog W=_:=fun W hW =>
        Q38 (hr2.below hW) 22 9 5 underlying22 underlying5 underlying9
       repeat (refine Q9d rfl (fun K hK=>?_);go_simp;first|(refine hK.out _ ?_;clear hK K)|(apply Exists.intro;refine⟨fun W hW=>?_,hK.out _ ?_⟩;(first|rfl|(rw[hcr W hW];rfl));clear hK K))
       refine Qjl (fun W2 hW2=>?_)
       have HBX:=hid (Below.trans HB0.out ((HB1.out.trans (Below.mono HLE.out HB1.out.size) |>.trans (Below.mono HLW.out (Nat.le_trans HB1.out.size HLE.out.size)) |>.trans (Below.mono hb2 (Nat.le_trans HB1.out.size (Nat.le_trans HLE.out.size HLW.out.size))) |>.trans (Below.mono hW2 (Nat.le_trans HB1.out.size (Nat.le_trans HLE.out.size (Nat.le_trans HLW.out.size hb2.size))))).mono HB0.out.size))
       have HBY:=hid (HB1.out.trans (Below.mono HLE.out HB1.out.size) |>.trans (Below.mono HLW.out (Nat.le_trans HB1.out.size HLE.out.size)) |>.trans (Below.mono hb2 (Nat.le_trans HB1.out.size (Nat.le_trans HLE.out.size HLW.out.size))) |>.trans (Below.mono hW2 (Nat.le_trans HB1.out.size (Nat.le_trans HLE.out.size (Nat.le_trans HLW.out.size hb2.size)))))
       clear hcr hb2 hW2 HLW HLE hr2;go_wp2
       ·rename_i heqb
        have heq:Q2U v=tl:=by simpa using heqb
        have hh:hit l k:=⟨by rw[HV.out];exact hv1,by rw[HV.out];exact hv2,by rw[HV.out,heq,HTL.out]⟩
        have hf:=Qie l k hk1 hkl2 hh;rw[HV.out]at hf;go_ret2
        exact⟨by first|rfl|(rw[hf];rfl),HBX.out⟩
       ·rename_i heqb
        have heq:¬Q2U v=tl:=by simpa using heqb
        refine⟨⟨k+1,by omega,by omega,by omega,by go_num,?_,HBY.out⟩,by simp[RowKit.intOf];omega⟩
        intro m h1 h2 hm;by_cases hmk:m=k
        ·subst hmk
         obtain⟨_,_,h3⟩:=hm;rw[HV.out,HTL.out]at h3;exact heq h3
        ·exact HN.out m h1 (by omega) hm
      ·have hnh:¬hit l k:=fun hm=>hv0 ⟨by rw[<-HV.out];exact hm.1,by rw[<-HV.out];exact hm.2.1⟩
       have fin:∀(n:Nat),Hid (Below W0.heap.size W0 (w1.drewN n)):=fun n=>Q1x HB1.out n
       by_cases hv1:0<=v
       ·have hv2:¬v<=1114111:=fun h=>hv0 ⟨hv1,h⟩
        have hv3:decide (0<=v)=true:=by simpa using hv1
        have hv4:decide (v<=1114111)=false:=by simpa using hv2
        go_wp2
        go_quiet (fail)
        go_wp2
        have HBY:=fin nq;generalize w1.drewN nq=W2 at HBY;go_round
        case rel =>
         refine⟨k+1,by omega,by omega,by omega,by go_num,?_,HBY.out⟩
         intro m h1 h2 hm;by_cases hmk:m=k
         ·subst hmk;exact hnh hm
         ·exact HN.out m h1 (by omega) hm
        case measure=>simp[RowKit.intOf];omega
       ·have hv3:decide (0<=v)=false:=by simpa using hv1
        go_wp2
        go_quiet (fail)
        go_wp2
        have HBY:=fin nq;generalize w1.drewN nq=W2 at HBY;go_round
        case rel =>
         refine⟨k+1,by omega,by omega,by omega,by go_num,?_,HBY.out⟩
         intro m h1 h2 hm;by_cases hmk:m=k
         ·subst hmk;exact hnh hm
         ·exact HN.out m h1 (by omega) hm
        case measure=>simp[RowKit.intOf];omega
   ·have hmiss:Qo l=(-1,1):=Qgo l (by intro h;rw[h]at hpos;exact absurd hpos (by simp)) fun n h1 h4 hl hh=>HN.out n h1 (by omega) hh
    have HBX:=hid (HB0.out.trans (HB.out.mono HB0.out.size));by_cases h4:k<=4
    ·have h5:¬k<=l.length:=fun h=>hin ⟨h4,h⟩
     go_wp2
     go_ret2
     exact⟨by first|rfl|(rw[hmiss];rfl),HBX.out⟩
    ·go_wp2
     go_ret2
     exact⟨by first|rfl|(rw[hmiss];rfl),HBX.out⟩
theorem QfZ(S:Nat->Prop)(A:Option Addr)(n c:Nat)(l:List UInt8)(w:World)(hr:Rd w S 1 A n c (bc l))(hlen:l.length<=300000000) :
  Calls prog 79 #[.slice A n c] w fun e w'=>∃v,e=.returned v/\(∃n',w'.ownsRow w.heap.size 99 3 v n' (Q1i (Q50 l)))/\Below w.heap.size w w':=by
 obtain rfl:=Qdq hr;have hle:=hr.le;have hmx:c<=9223372036854775807:=hr.max;have HR:=hid hr;clear hr;go_enter func79,ntmps79
 go_wp2
 go_loopw [3,4] (fun v i wr=>∃(pos:Nat) (o:List (Int×Nat×Nat)),i=.int .i64 pos/\Hid (Below w.heap.size w wr)/\Hid (Q50 l=o++Q22 (l.drop pos).length pos (l.drop pos))/\o.length<=pos /\
   Hid (∃n',wr.ownsRow w.heap.size 99 3 v n' (Q1i o))/\pos<=l.length)
  (fun _ i _=>l.length-(RowKit.intOf i).toNat)
 case atStart=>exact⟨0,[],rfl,Below.refl _ _,by simp[Hid,Q50],le_refl _,⟨0,World.ownsRow_nil _ _ _ _⟩,zero_le _⟩
 case round =>
  obtain⟨pos,o,rfl,HB,HS2,hol,HO,hpos⟩:=hrel;obtain⟨no,HO⟩:=HO.out;have hno:no=o.length:=by have:=HO.1;rw[Q44]at this;omega
  obtain⟨Ao,co,rfl,hro⟩:=Q2q HO;have hco:co<=9223372036854775807:=hro.max;have HO:=hid HO;have hnob:no<=300000000:=by omega
  have HNO:=hid hno;clear hro hno;by_cases hlt:pos<l.length
  ·have hdl:(l.drop pos).length=l.length-pos:=length_drop
   obtain⟨A',hcut,hsl⟩:=(HR.out.below HB.out).cutL underlying22 (fun _=>by simp[go_sem]) (P:=prog) (k:=pos) (by omega)
   rw[Nat.mul_one,<-List.map_drop]at hcut
   have hne:l.drop pos≠[]:=by
    intro h0;rw[h0]at hdl;simp at hdl;omega
   have HF:=hid (QiV S A' (l.length-pos) (c-pos) (l.drop pos) wr hcut (by omega))
   have hfl:=Q5s _ hne;have hfp:=Q4Y (l.drop pos);have hfr:=Q4q (l.drop pos)
   have HST:Hid (Q50 l=(o++[((Qo (l.drop pos)).1,pos,(Qo (l.drop pos)).2)])++Q22 (l.drop (pos+(Qo (l.drop pos)).2)).length (pos+(Qo (l.drop pos)).2) (l.drop (pos+(Qo (l.drop pos)).2))):=by
    rw[Hid,HS2.out,Q8f pos _ hne,List.drop_drop];simp
   rw[if_neg hne,if_neg hne]at HF;generalize Qo (l.drop pos)=p at HF hfl hfp HST hfr;clear hcut;go_wp2_with fail
   refine HF.out.mono ?_;rintro e w2 ⟨rfl,hb2⟩;have HB2:=hid (HB.out.trans (hb2.mono HB.out.size));have HO2:=hid (Qcf HO.out hb2);clear hb2
   go_wp2_with (first
    |(at_builtin
      refine QbI _ rfl (.tmp 18) (.tmp 23) rfl w.heap.size _ _ (Q1i o) rfl (HO2.out.alloc _) _ _ 1 1 (Q1i [(p.1,pos,p.2)]) rfl (Rd.lit w2 _ #[.int .i32 p.1,.int .i64 pos,.int .i64 p.2] 3 1 rfl (by decide)) (Q7a _) (by omega) (by have:=HB2.out.size;simp;omega) ?_
      intro A4 c4 w4 hown4 hg4 _ _;have hb4:=Q6J (HB2.out.alloc HB2.out.size (.cells #[.int .i32 p.1,.int .i64 pos,.int .i64 p.2] 99)) (by have:=HB2.out.size;simp;omega) (HO2.out.alloc _) hg4
      have HB4:=hid hb4;have HO4:=hid hown4;clear hown4 hg4 hb4))
   go_roundw
   case rel =>
    refine⟨pos+p.2,_,by go_num,HB4.out,HST.out,?_,⟨_,by rw[Q5z];exact HO4.out⟩,by omega⟩
    simp;omega
   case measure=>simp[RowKit.intOf];omega
  ·have HE:Hid (Q50 l=o):=by
    have:l.drop pos=[]:=List.drop_eq_nil_of_le (by omega)
    rw[Hid,HS2.out,this,Q32,append_nil]
   go_wp2
   go_ret
   exact⟨_,rfl,⟨_,by rw[HE.out];exact HO.out⟩,HB.out⟩
end
section
open Go.RowKit
def RunesV(w:World)(v:Value)(l:List Int):Prop:=∃A n c,v=.slice A n c/\Rd w (fun _=>True) 1 A n c (rc l)
theorem RunesV.of_own{w:World}{base:Nat}{e:TypeId}{v:Value}{n:Nat}{l:List Int}(h:w.ownsRow base e 1 v n (rc l)):RunesV w v l:=by
 obtain⟨A,c,rfl,hr⟩:=Q2q h;exact⟨A,n,c,rfl,hr.more fun _ _=>trivial⟩
theorem RunesV.of_rd{w:World}{S:Nat->Prop}{A:Option Addr}{n c:Nat}{l:List Int}(h:Rd w S 1 A n c (rc l)):RunesV w (.slice A n c) l:=⟨A,n,c,rfl,h.more fun _ _=>trivial⟩
theorem RunesV.below{w w':World}{v:Value}{l:List Int}(h:RunesV w v l)(hb:Below w.heap.size w w'):RunesV w' v l:=by
 obtain⟨A,n,c,rfl,hr⟩:=h;exact⟨A,n,c,rfl,hr.below hb⟩
theorem RunesV.alloc{w:World}{v:Value}{l:List Int}(h:RunesV w v l)(o:Obj):RunesV (w.alloc o) v l:=by
 obtain⟨A,n,c,rfl,hr⟩:=h;exact⟨A,n,c,rfl,hr.alloc o⟩
structure RowsV (w:World) (A:Option Addr) (n c:Nat) (ls:List (List Int)) (vs:List Value):Prop where
 rd:Rd w (fun _=>True) 1 A n c vs
 len:vs.length=ls.length
 each:∀(i:Nat)(v:Value)(l:List Int),vs[i]?=some v->ls[i]?=some l->RunesV w v l
theorem RowsV.below{w w':World}{A:Option Addr}{n c:Nat}{ls:List (List Int)}{vs:List Value}(h:RowsV w A n c ls vs)(hb:Below w.heap.size w w'):RowsV w' A n c ls vs :=
 ⟨h.rd.below hb,h.len,fun i v l h1 h2=>(h.each i v l h1 h2).below hb⟩
end
section
open Go.RowKit Go.Lib
end
section
open Go.RowKit Tryz
def Qb(r:Int):Bool:=r == 32||r == 9||r == 10||r == 13
theorem QjD(r:Int)(w:World):Calls prog 135 #[.int .i32 r] w fun e w'=>e=.returned (.bool (Qb r))/\w=w':=by
 go_enter func135,ntmps135
 go_wp2
 all_goals (go_ret;exact⟨Q18 (by simp[Qb, *]),rfl⟩)
theorem Qpt(fn:Fn)(a b:Array Value)(w:World):(binOp .eql 173 (.func fn a b) .nilFunc).run prog w=.ok (.bool false) w:=by kernel_rfl
def Q2L(p:Int->Bool)(l:List Int):Int->Nat:=fun from_=>if from_<0\/(l.length:Int)<from_ then 0 else((l.drop from_.toNat).takeWhile p).length
theorem Qd0{p:Int->Bool}(l:List Int)(k:Nat)(hk:k<l.length)(hp:p l[k]=false)(h:∀j,(hj:j<k)->p (l[j]'(by omega))=true):(l.takeWhile p).length=k:=by
 induction l generalizing k with
 |nil=>simp at hk
 |cons a t ih =>
  cases k with
  |zero=>simp at hp;simp[hp]
  |succ k =>
   have h0:p a=true:=h 0 (by omega)
   simp only[List.takeWhile_cons,h0,if_true,length_cons];rw[ih k (by simpa using hk) (by simpa using hp) (fun j hj=>by have:=h (j+1) (by omega);simpa using this)]
theorem QbE{p:Int->Bool}(l:List Int)(h:∀j,(hj:j<l.length)->p l[j]=true):(l.takeWhile p).length=l.length:=by
 induction l with
 |nil=>rfl
 |cons a t ih =>
  have h0:p a=true:=h 0 (by simp)
  simp only[List.takeWhile_cons,h0,if_true,length_cons];rw[ih (fun j hj=>by have:=h (j+1) (by simp;omega);simpa using this)]
theorem Q85(S:Nat->Prop)(A:Option Addr)(n c:Nat)(l:List Int)(from_:Int)(g:Nat)(caps:Array Value)(p:Int->Bool)(w:World)
  (eg:∀args w,(callFunc g args).run prog w=.ok (.enter g args) w)
  (hr:Rd w S 1 A n c (rc l)) (hp:Q7p prog g caps p w) :
  Calls prog 131 #[.slice A n c,.int .i64 from_,.func (.func g) #[] caps] w fun e w'=>e=.returned (.int .i64 (Q2L p l from_))/\Below w.heap.size w w':=by
 have hl:n=l.length:=by have:=hr.len;simpa using this.symm
 have hle:=hr.le;have hmx:=hr.max;have hmx:c<=9223372036854775807:=hmx;subst hl;have heq:=Qpt (.func g) #[] caps;by_cases h1:from_<0
 ·go_enter func131,ntmps131
  go_wp2
  go_ret
  exact⟨Q1l (by simp[Q2L,h1]),Below.refl _ _⟩
 ·by_cases h2:(l.length:Int)<from_
  ·go_enter func131,ntmps131
   go_wp2
   go_ret
   exact⟨Q1l (by simp[Q2L,h2]),Below.refl _ _⟩
  ·obtain⟨k,rfl⟩:=Int.eq_ofNat_of_zero_le (show 0<=from_ by omega)
   have hk:k<=l.length:=by omega
   obtain⟨A',hr2,hsl⟩:=hr.cutL underlying28 (fun _=>by simp[go_sem]) hk (P:=prog)
   have hrest:(rc l).drop (k * 1)=rc (l.drop k):=by simp[rc]
   rw[hrest]at hr2;have HF:Hid (Q2L p l (k:Int)=((l.drop k).takeWhile p).length):=hid (by simp[Q2L,h1,h2])
   have HR:=hid hr2;have HP:=hid hp;have hd1:decide ((k:Int)<0)=false:=by simp
   have hd2:decide (l.length<k)=false:=by simp;omega
   clear h1 h2 hrest hr hr2 hp;go_enter func131,ntmps131
   go_wp2
   obtain⟨m,hm⟩:∃m,m=l.drop k:=⟨_,rfl⟩;have hml:m.length=l.length-k:=by rw[hm];simp
   rw[<-hm]at HR HF;clear hm;have HML:=hid hml;clear hml;go_loopw [25] (fun i wr=>∃j:Nat,j<=l.length-k/\i=.int .i64 j/\Hid (Below w.heap.size w wr)/\Hid (∀q,q<j->∀h:q<m.length,p m[q]=true)) (fun i _=>l.length-(RowKit.intOf i).toNat)
   case atStart=>exact⟨0,zero_le _,rfl,Below.refl _ _,fun q hq=>absurd hq (by omega)⟩
   case round =>
    obtain⟨j,hj,rfl,HB,HQ⟩:=hrel;by_cases hlt:j<l.length-k
    ·obtain⟨b,o,u,rfl,_,hu,hc⟩:=(HR.out.below HB.out).one hlt
     obtain⟨hjm,rfl⟩:=QkF hu;clear hu;have hcall:=HP.out wr m[j] HB.out;cases hq:p m[j]with
     |true =>
      rw[hq]at hcall;have HCALL:=hid hcall;have HQ1:=hid hq;clear hq hcall;generalize m[j]=r at hc HCALL;go_wp2_with (go_at_fn g;refine HCALL.out.mono ?_;rintro e w' ⟨rfl,hb'⟩);go_roundw
      case rel=>exact⟨j+1,by omega,by go_num,Q76 HB.out hb',fun q hq h=>by
       rcases Nat.lt_succ_iff_lt_or_eq.1 hq with h1|h1
       ·exact HQ.out q h1 h
       ·subst h1;exact HQ1.out⟩
      case measure=>simp[RowKit.intOf];omega
     |false =>
      rw[hq]at hcall;have HCALL:=hid hcall;have HQ1:=hid hq;clear hq hcall;generalize m[j]=r at hc HCALL;go_wp2_with (go_at_fn g;refine HCALL.out.mono ?_;rintro e w' ⟨rfl,hb'⟩);go_ret
      refine⟨Q1l ?_,Q76 HB.out hb'⟩;rw[HF.out,Qd0 m j hjm HQ1.out (fun q hq=>HQ.out q hq (by omega))]
    ·go_wp2
     go_ret
     refine⟨Q1l ?_,HB.out⟩;have hm:=HML.out;rw[HF.out,QbE m (fun q hq=>HQ.out q (by omega) hq)]
     omega
abbrev Q5L(sp:List (Int×Int)):List Value:=sp.flatMap fun x=>[.int .i32 x.1,.int .i32 x.2]
def Q7u(r:Int)(sp:List (Int×Int)):Bool:=sp.any fun x=>decide (x.1<=r)&&decide (r<=x.2)
theorem Qbz(sp:List (Int×Int))(j:Nat)(hj:j<sp.length):(Q5L sp)[j * 2]?=some (.int .i32 sp[j].1)/\(Q5L sp)[j * 2+1]?=some (.int .i32 sp[j].2):=by
 induction sp generalizing j with
 |nil=>simp at hj
 |cons a t ih =>
  cases j with
  |zero=>simp[Q5L]
  |succ j =>
   have:=ih j (by simpa using hj)
   have e1:(j+1) * 2=j * 2+2:=by omega
   rw[e1];simpa[Q5L]using this
theorem QjC(r:Int)(sp:List (Int×Int))(j:Nat)(hj:j<sp.length) :
  Q7u r (sp.take (j+1))=(Q7u r (sp.take j)||(decide (sp[j].1<=r)&&decide (r<=sp[j].2))):=by
 simp only[Q7u,List.take_succ_eq_append_getElem hj,List.any_append];simp
theorem Qm3(r:Int)(sp:List (Int×Int))(j:Nat)(hj:j<sp.length)(h1:sp[j].1<=r)(h2:r<=sp[j].2):Q7u r sp=true:=by
 simp only[Q7u,List.any_eq_true];exact⟨sp[j],List.getElem_mem hj,by simp[h1,h2]⟩
theorem QjY(S:Nat->Prop)(A:Option Addr)(n c:Nat)(r:Int)(sp:List (Int×Int))(w:World)(hr:Rd w S 2 A n c (Q5L sp))(hn:n=sp.length) :
  Calls prog 169 #[.int .i32 r,.slice A n c] w fun e w'=>e=.returned (.bool (Q7u r sp))/\Below w.heap.size w w':=by
 have hle:=hr.le;have hmx:c<=9223372036854775807:=hr.max;subst hn;have HR:=hid hr;clear hr;go_enter func169,ntmps169
 go_wp2
 go_loopw [9] (fun i wr=>∃j:Nat,j<=sp.length/\i=.int .i64 j/\Hid (Below w.heap.size w wr)/\Hid (Q7u r (sp.take j)=false)) (fun i _=>sp.length-(RowKit.intOf i).toNat)
 case atStart=>exact⟨0,zero_le _,rfl,Below.refl _ _,rfl⟩
 case round =>
  obtain⟨j,hj,rfl,HB,HQ⟩:=hrel;by_cases hlt:j<sp.length
  ·obtain⟨b,o,rfl,_,hcs⟩:=(HR.out.below HB.out).at_ (by omega)
   obtain⟨g0,g1⟩:=Qbz sp j hlt;have hc0:=hcs _ _ g0;have hc1:wr.cell? ⟨b,o+j * 2+1,none⟩=_:=hcs _ _ g1;clear g0 g1 hcs;generalize e0:sp[j].1=lo at hc0;generalize e1:sp[j].2=hi at hc1;have HS:=hid (QjC r sp j hlt);rw[e0,e1]at HS;have HN:=hid (Qm3 r sp j hlt);rw[e0,e1]at HN;clear e0 e1;go_wp2
   ·go_ret
    exact⟨Q18 (by rw[HN.out (by assumption) (by assumption)]),(HB.out.alloc HB.out.size _).trans (Below.refl _ _)⟩
   ·go_roundw
    case rel =>
     have h:hi<r:=by assumption
     exact⟨j+1,by omega,by go_num,HB.out.alloc HB.out.size _,by rw[Hid,HS.out,HQ.out];simp;omega⟩
    case measure=>simp[RowKit.intOf];omega
   ·go_roundw
    case rel =>
     have h:¬lo<=r:=by assumption
     exact⟨j+1,by omega,by go_num,HB.out.alloc HB.out.size _,by rw[Hid,HS.out,HQ.out];simp;omega⟩
    case measure=>simp[RowKit.intOf];omega
  ·have e:sp.take j=sp:=List.take_of_length_le (by omega)
   rw[e]at HQ;clear e;go_wp2
   go_ret
   exact⟨Q18 HQ.out.symm,HB.out⟩
