/-
  Parts of the proof, joined: Base Own Mix MixG ScanP Str StrB Scan Items ScanR ScanQ ItemsR Slices Runes Class ClassB RefC Name Put PutB PutC PutD PutE Esc EscB EscC Norm NormB EscD EscE LexA LexB LexE LexF RfA RfC LxA LxB LxC LxD LexC RfD. Conditions: as each theorem says.
-/
import Derived.Test.YthbjpdijafccjaaGreatChecked
import Derived.KernelRfl
import Derived.WalkKit
import Derived.WalkSpells
import Derived.WalkLawsBesides
import Derived.Lib.Hide
import Derived.Deep.LoopGhost
import Derived.Deep.Draws
import Derived.Deep.AppendLies
import Derived.Maps.AppendAt
import Derived.Deep.QuietTactic
import Derived.BigQuiet
import Derived.Handy
import Derived.Shelf.Abstract
import Derived.OrdersHeld
import Derived.Lib.MapLaws
import Derived.Laws.Cover4
import Derived.OpenShut
import Derived.Laws.BytesString
import Derived.Deep.RegionWith
import Derived.Deep.RegionHeld3
import Derived.Lib.AppendZeros
import Derived.Lib.AppendStr
import Derived.Deep.MidRow
set_option maxRecDepth 100000
set_option maxHeartbeats 8000000
namespace Go.Proofs.YthbjpdijafccjaaGreat
open Go.RowKit
structure Rd (w:World) (S:Nat→Prop) (size:Nat) (A:Option Addr) (n c:Nat) (xs:List Value):Prop where
 len:xs.length=n * size
 le:n≤c
 max:c≤maxLen
 nil:A=none→c=0
 at_:0<n→∃ b o,A=some ⟨b,o,none⟩∧S b∧∀ j u,xs[j]?=some u→w.cell? ⟨b,o+j,none⟩=some u
section
variable {w w':World} {S T:Nat→Prop} {size n c:Nat} {A:Option Addr} {xs:List Value}
theorem Rd.none_:Rd w S size none 0 0 []:=⟨by simp,Nat.le_refl _,Nat.zero_le _,fun _=>rfl,fun h=>absurd h (by omega)⟩
theorem Rd.one {k:Nat}(h:Rd w S 1 A n c xs)(hk:k<n):∃ b o u,A=some ⟨b,o,none⟩∧S b∧xs[k]?=some u∧w.cell? ⟨b,o+k,none⟩=some u:=by
 obtain⟨b,o,e,hb,hc⟩:=h.at_ (by omega)
 have hl:k<xs.length:=by have:=h.len;omega
 exact⟨b,o,xs[k],e,hb,List.getElem?_eq_getElem hl,hc k _ (List.getElem?_eq_getElem hl)⟩
theorem Rd.keep (h:Rd w S size A n c xs)(hk:∀ b,S b→b<w.heap.size→w'.heap[b]?=w.heap[b]?):Rd w' S size A n c xs :=
 ⟨h.len,h.le,h.max,h.nil,fun hn=>by
  obtain⟨b,o,e,hb,hc⟩:=h.at_ hn
  refine⟨b,o,e,hb,fun j u hu=>?_⟩
  have h0:=hc j u hu
  have hlt:=World.block_lt_of_cell? w _ h0
  exact (World.cell?_of_block (w:=w) (hk _ hb hlt)).trans h0⟩
theorem Rd.more (h:Rd w S size A n c xs)(hS:∀ b,S b→T b):Rd w T size A n c xs :=
 ⟨h.len,h.le,h.max,h.nil,fun hn=>by
  obtain⟨b,o,e,hb,hc⟩:=h.at_ hn
  exact⟨b,o,e,hS _ hb,hc⟩⟩
theorem Rd.below (h:Rd w S size A n c xs)(hb:Below w.heap.size w w'):Rd w' S size A n c xs:=h.keep fun b _ hlt=>hb.block b hlt
theorem Rd.alloc (h:Rd w S size A n c xs)(o:Obj):Rd (w.alloc o) S size A n c xs:=h.keep fun b _ hlt=>Below.heap_alloc w o b hlt
theorem Rd.drew (h:Rd w S size A n c xs):Rd w.drew S size A n c xs:=h.keep fun _ _ _=>rfl
theorem Rd.drewN (h:Rd w S size A n c xs)(k:Nat):Rd (w.drewN k) S size A n c xs:=h.keep fun _ _ _=>rfl
theorem Rd.setCell (h:Rd w S size A n c xs){p:Addr}(hp:¬ S p.block)(u:Value):Rd (w.setCell p u) S size A n c xs :=
 h.keep fun b hs _=>Below.heap_setCell w p u b (fun e=>hp (e ▸ hs))
theorem Rd.grown {row:Option Nat}(h:Rd w S size A n c xs)(hg:w.grownBy w' row)(hr:∀ g,row=some g→¬ S g):Rd w' S size A n c xs :=
 h.keep fun b hs hlt=>hg.block b hlt (fun e=>hr b e.symm hs)
theorem Rd.cut (h:Rd w S size A n c xs){k:Nat}(hk:k≤n) :
  Rd w S size (if c=k then A else A.map (·.add (k * size))) (n-k) (c-k) (xs.drop (k * size)):=by
 refine⟨by rw[List.length_drop,h.len,Nat.sub_mul],by have:=h.le;omega,by have:=h.max;omega,fun hA=>?_,fun hn=>?_⟩
 ·by_cases e:c=k
  ·omega
  ·rw[if_neg e] at hA
   have:A=none:=by cases A<;>simp_all
   have:=h.nil this
   omega
 ·obtain⟨b,o,rfl,hb,hcell⟩:=h.at_ (by omega)
  have:=h.le
  rw[if_neg (by omega)]
  refine⟨b,o+k * size,by simp[Addr.add_lit],hb,fun j u hu=>?_⟩
  rw[Nat.add_assoc]
  exact hcell _ u (by rw[←hu,List.getElem?_drop])
theorem Rd.take (h:Rd w S size A n c xs){k:Nat}(hk:k≤n):Rd w S size A k c (xs.take (k * size)):=by
 refine⟨?_,by have:=h.le;omega,h.max,h.nil,fun hn=>?_⟩
 ·rw[List.length_take,h.len]
  exact Nat.min_eq_left (Nat.mul_le_mul_right _ hk)
 ·obtain⟨b,o,rfl,hb,hcell⟩:=h.at_ (by omega)
  refine⟨b,o,rfl,hb,fun j u hu=>hcell j u ?_⟩
  rw[List.getElem?_take] at hu
  split at hu
  ·exact hu
  ·cases hu
theorem Rd.of_own {base:Nat}{e:TypeId}(h:w.ownsRow base e size (.slice A n c) n xs):Rd w (fun b=>base≤b) size A n c xs:=by
 obtain⟨hl,h2⟩:=h
 rcases h2 with ⟨h2,h3⟩|⟨g,cap,cur,hv,hb,hh,hn,hm,hs,ht⟩
 ·injection h2 with h4 h5 h6
  subst h4 h5 h6
  exact⟨hl,Nat.le_refl _,Nat.zero_le _,fun _=>rfl,fun h=>absurd h (by omega)⟩
 ·injection hv with h4 h5 h6
  subst h4 h6
  refine⟨hl,hn,hm,(fun h=>by cases h),fun h0=>⟨_,_,rfl,hb,?_⟩⟩
  intro j u hu
  have hown:w.ownsRow base e size (.slice (some ⟨g,0,none⟩) n c) n xs:=⟨hl,.inr ⟨g,c,cur,rfl,hb,hh,hn,hm,hs,ht⟩⟩
  have:=hown.cells rfl j u hu
  rw[Addr.add_lit] at this
  exact this
end
theorem Rd.cutL {P:Program}{t:TypeId}{w:World}{S:Nat→Prop}{size n c:Nat}{A:Option Addr}{xs:List Value}(h:Rd w S size A n c xs)
  (ht:P.underlying t=some (.slice (P.elem t))) (hz:∀ w,(sizeOf (P.elem t)).run P w=.ok size w) {k:Nat} (hk:k≤n) :
  ∃ A',Rd w S size A' (n-k) (c-k) (xs.drop (k * size))∧∀ W,(Instr.slice t (.slice A n c) (some (.int .i64 k)) none none).run P W=.ok (.slice A' (n-k) (c-k)) W:=by
 refine⟨_,h.cut hk,fun W=>?_⟩
 rw[run_slice_l W t A n c ht .i64 k (by omega) (by omega),hz]
 rfl
theorem Rd.lit (w:World)(t:TypeId)(cs:Array Value)(size n:Nat)(hs:cs.size=n * size)(hm:n≤maxLen) :
  Rd (w.alloc (.cells cs t)) (fun b=>w.heap.size≤b) size (some ⟨w.heap.size,0,none⟩) n n cs.toList :=
 ⟨by simpa using hs,Nat.le_refl _,hm,fun h=>(by cases h),fun _=>⟨_,_,rfl,Nat.le_refl _,fun j u hu=>by
  rw[World.cell?_alloc_at _ _ _ _ rfl,Nat.zero_add];simpa using hu⟩⟩
theorem Q47 {w:World}{base:Nat}{e:TypeId}{size n:Nat}{v:Value}{xs:List Value}(h:w.ownsRow base e size v n xs) :
  ∃ A c,v=.slice A n c∧Rd w (fun b=>base≤b) size A n c xs:=by
 have h':=h
 rcases h.2 with ⟨rfl,rfl⟩|⟨g,cap,cur,rfl,_⟩
 ·exact⟨none,0,rfl,Rd.of_own h'⟩
 ·exact⟨some ⟨g,0,none⟩,cap,rfl,Rd.of_own h'⟩
def Q7f (P:Program)(g:Nat)(caps:Array Value)(p:Int→Bool)(w:World):Prop :=
 ∀ (W:World) (r:Int),Below w.heap.size w W→Calls P g (#[.int .i32 r]++caps) W fun e W'=>e=.returned (.bool (p r))∧Below W.heap.size W W'
theorem Q14 {a b:Bool}(h:a=b):Ending.returned (.bool a)=.returned (.bool b):=by rw[h]
theorem Q1n {k:IntKind}{a b:Int}(h:a=b):Ending.returned (.int k a)=.returned (.int k b):=by rw[h]
theorem Q6i {k:IntKind}{a:Int}{b:Bool}{x:Int×Bool}(h:x=(a,b)):Ending.returned (.tuple #[.int k a,.bool b])=.returned (.tuple #[.int k x.1,.bool x.2]):=by rw[h]
theorem Q1y {B:Nat}{a w:World}(h:Below B a w)(n:Nat):Below B a (w.drewN n):=⟨h.os,h.tape,h.output,h.size,h.block⟩
theorem Q6w {w w1 w2:World}(h:Below w.heap.size w w1)(h2:Below w1.heap.size w1 w2):Below w.heap.size w w2:=h.trans (h2.mono h.size)
abbrev rc (l:List Int):List Value:=l.map (Value.int .i32)
theorem Qjt {l:List Int}{k:Nat}{u:Value}(h:(rc l)[k]?=some u):∃ h:k<l.length,u=.int .i32 l[k]:=by
 simp only[rc,List.getElem?_map,Option.map_eq_some_iff] at h
 obtain⟨a,ha,rfl⟩:=h
 obtain⟨hk,rfl⟩:=List.getElem?_eq_some_iff.1 ha
 exact⟨hk,rfl⟩
end Go.Proofs.YthbjpdijafccjaaGreat
namespace Go.Proofs.YthbjpdijafccjaaGreat
open Go.RowKit Tryz
section
variable {P:Program} (w:World)
theorem Q7s (base:Nat)(t ty e:TypeId)(i:TypeInfo)(size:Nat)(ht:P.underlying t=some (.slice e))(hi:P.info? e=some i)
  (v:Value) (n:Nat) (xs:List Value) (hown:w.ownsRow base e size v n xs) (c:Nat):(Builtin.append_ #[t,t] ty #[v,.slice none 0 c]).run P w=.ok v w:=by
 rcases hown.2 with ⟨rfl,rfl⟩|⟨g,cap,cur,rfl,_,_,hnc,_⟩
 ·simp[Builtin.append_,run_underlying ht,sizeOf,typeInfo,hi,Builtin.lenOf,Builtin.firstCells]
 ·simp[Builtin.append_,run_underlying ht,sizeOf,typeInfo,hi,Builtin.lenOf,Builtin.firstCells,hnc,storeCells]
theorem Qax (base:Nat)(t ty e:TypeId)(i:TypeInfo)(z:Value)(size bytes:Nat)(ht:P.underlying t=some (.slice e))(hi:P.info? e=some i)(hz:i.zero=some z)
  (hsize:i.size=size) (hby:i.bytes=bytes) (hzs:z.cells.size=size) (hsz:0<size)
  (v:Value) (n:Nat) (xs:List Value) (hown:w.ownsRow base e size v n xs)
  (S:Nat→Prop) (A:Option Addr) (m c:Nat) (news:List Value) (hr:Rd w S size A m c news) (h1:∀ u∈news,u.oneCell'=true)
  (h63:n+m≤maxLen) (hbytes:(n+m) * bytes≤140737488355328) (hbase:base≤w.heap.size) :
  ∃ v' w',(Builtin.append_ #[t,t] ty #[v,.slice A m c]).run P w=.ok v' w'∧w'.ownsRow base e size v' (n+m) (xs++news)∧w.grownBy w' v.ownBlock ∧
   (v'.ownBlock=v.ownBlock∨v'.ownBlock=some w.heap.size):=by
 rcases A with _|ad
 ·have hm:m=0:=by have:=hr.nil rfl;have:=hr.le;omega
  subst hm
  have hn:news=[]:=List.eq_nil_of_length_eq_zero (by simpa using hr.len)
  subst hn
  exact⟨v,w,Q7s w base t ty e i size ht hi v n xs hown c,by simpa using hown,World.grownBy.refl w _,.inl rfl⟩
 ·have hcells:∀ j u,news[j]?=some u→w.cell? (ad.add j)=some u:=by
   intro j u hu
   rcases Nat.eq_zero_or_pos m with h0|h0
   ·subst h0
    have hn:news=[]:=List.eq_nil_of_length_eq_zero (by simpa using hr.len)
    subst hn
    simp at hu
   ·obtain⟨b,o,h,_,hc⟩:=hr.at_ h0
    injection h with h
    subst h
    rw[Addr.add_lit]
    exact hc j u hu
  obtain⟨v',w',hrun,h2,h3,_,h5⟩:=run_append_own_at (P:=P) w base t ty e i z size bytes ht hi hz hsize hby hzs hsz v n xs hown ad m c news hr.len hcells h1 h63 hbytes hbase
  exact⟨v',w',hrun,h2,h3,h5⟩
theorem Q5g {ops:Array Oper}{rest:List Oper}{o:Oper}{a:Act}{Q:Exit→Act→World→Prop}(hgd:o.guard=none)(s x:Operand)(t:TypeId)
  (ho:o.op=.call { callee:=.builtin .append,args:=#[s,x],argTypes:=#[t,t] })
  (base:Nat) (e:TypeId) (i:TypeInfo) (z:Value) (size bytes:Nat) (ht:P.underlying t=some (.slice e)) (hi:P.info? e=some i) (hz:i.zero=some z)
  (hsize:i.size=size) (hby:i.bytes=bytes) (hzs:z.cells.size=size) (hsz:0<size)
  (v:Value) (n:Nat) (xs:List Value) (hs:a.eval s=v) (hown:w.ownsRow base e size v n xs)
  (S:Nat→Prop) (A:Option Addr) (m c:Nat) (news:List Value) (hx:a.eval x=.slice A m c) (hr:Rd w S size A m c news) (h1:∀ u∈news,u.oneCell'=true)
  (h63:n+m≤maxLen) (hbytes:(n+m) * bytes≤140737488355328) (hbase:base≤w.heap.size)
  (h:∀ v' w',w'.ownsRow base e size v' (n+m) (xs++news)→w.grownBy w' v.ownBlock→(v'.ownBlock=v.ownBlock∨v'.ownBlock=some w.heap.size)→wpList P ops Q rest (a.put o.dst v') w'):wpList P ops Q (o::rest) a w:=by
 refine wpList_plain hgd fun K hK=>?_
 obtain⟨v',w',hrun,h2,h3,h4⟩:=Qax (P:=P) w base t o.type e i z size bytes ht hi hz hsize hby hzs hsz v n xs hown S A m c news hr h1 h63 hbytes hbase
 unfold Oper.wp execOp
 simp only[ho,resolve,invoke,builtin,Sem.run_bind,Sem.run_pure,Result.andThen_ok,List.map_toArray,List.map_cons,List.map_nil,hs,hx,hrun]
 exact hK _ _ (h v' w' h2 h3 h4)
end
theorem Qlo:(prog.info? 21).map (fun i=>(i.zero,i.size,i.bytes))=some (some (.int .i32 0),1,4):=by kernel_rfl
theorem QhQ {w:World}{base base':Nat}{e:TypeId}{size n:Nat}{v:Value}{xs:List Value}(h:w.ownsRow base e size v n xs)(hb:base'≤base):w.ownsRow base' e size v n xs:=by
 obtain⟨h1,h2⟩:=h
 refine⟨h1,?_⟩
 rcases h2 with h2|⟨g,cap,cur,hv,hg,r⟩
 ·exact .inl h2
 ·exact .inr ⟨g,cap,cur,hv,Nat.le_trans hb hg,r⟩
theorem Qgt {w w':World}{base:Nat}{e:TypeId}{size n:Nat}{v:Value}{xs:List Value}(h:w.ownsRow base e size v n xs)(hb:Below w.heap.size w w'):w'.ownsRow base e size v n xs :=
 h.kept (row:=none) ⟨hb.os,hb.tape,hb.output,hb.size,fun k hk _=>hb.block k hk⟩ (by cases v.ownBlock<;>simp)
theorem QaM {w wr w1:World}{e:TypeId}{size n:Nat}{v:Value}{xs:List Value}{base:Nat}(hb:Below base w wr)(hle:base≤wr.heap.size)(hown:wr.ownsRow base e size v n xs)(hg:wr.grownBy w1 v.ownBlock):Below base w w1 :=
 hb.grown hg hle (fun k hk=>(hown.lt k hk).1)
end Go.Proofs.YthbjpdijafccjaaGreat
namespace Go.Proofs.YthbjpdijafccjaaGreat
open Go.RowKit Go.Lib
section
variable {P:Program} {ops:Array Oper} {Q:Exit→Act→World→Prop} {md:Region.Mode} {Le:World→World→Prop}
def wpU (P:Program)(md:Region.Mode)(ops:Array Oper)(Le:World→World→Prop)(Q:Exit→Act→World→Prop):Nat→Array Bool→Act→World→Prop
 |0,listed,a,w=>Region.ready md ops listed=[]∧∀ W,Le w W→Q .normal a W
 |n+1,listed,a,w=>(Region.ready md ops listed=[]→∀ W,Le w W→Q .normal a W) ∧
   ∀ i∈Region.ready md ops listed,∀ W,Le w W→wpOp P ops Q i (fun a' w'=>Le W w'∧wpU P md ops Le Q n (listed.setIfInBounds i true) a' w') a W
theorem QiT (ht:∀ a b c,Le a b→Le b c→Le a c):∀ (n:Nat) (listed:Array Bool) (a:Act) (w W:World),wpU P md ops Le Q n listed a w→Le w W→wpU P md ops Le Q n listed a W
 |0,_,_,_,_,h,hW=>⟨h.1,fun V hV=>h.2 V (ht _ _ _ hW hV)⟩
 |_+1,_,_,_,_,h,hW=>⟨fun h0 V hV=>h.1 h0 V (ht _ _ _ hW hV),fun i hi V hV=>h.2 i hi V (ht _ _ _ hW hV)⟩
theorem Qa9 (hrf:∀ a,Le a a):∀ (n:Nat) (listed:Array Bool) (a:Act) (w:World),wpU P md ops Le Q n listed a w→wpAny P md ops Q n listed a w
 |0,_,_,_,h=>⟨h.1,h.2 _ (hrf _)⟩
 |n+1,_,_,_,h=>⟨fun h0=>h.1 h0 _ (hrf _),fun i hi=>wpOp_mono (fun a' w' h'=>Qa9 hrf n _ a' w' h'.2) (h.2 i hi _ (hrf _))⟩
theorem YieldsIf.weaken {S T:World→Prop}{o:Oper}{v:Value}{a:Act}(h:YieldsIf P ops S o v a)(hT:∀ w,T w→S w):YieldsIf P ops T o v a :=
 h.imp (fun⟨h1,h2⟩=>⟨h1,fun w hw=>h2 w (hT w hw)⟩) id
theorem QaL (hrf:∀ a,Le a a)(ht:∀ a b c,Le a b→Le b c→Le a c){i:Nat}{oi:Oper}{v:Value}(hi:ops[i]?=some oi)
  (hsel:∀ (j:Nat) (o:Oper) cs b,ops[j]?=some o→o.op≠.select cs b)
  (hQ:∀ c a w,Q (.panic c) (a.put oi.dst v) w→Q (.panic c) a w) :
  ∀ (n:Nat) (listed:Array Bool) (a:Act) (w:World),
   (∀ j oj,ops[j]?=some oj→j≠i→listed.getD j true=false→(∀ e∈oj.after,Region.binds md e=true→e.on≠i)→oi.apart ops oj=true) →
   i∈Region.ready md ops listed→YieldsIf P ops (Le w) oi v a →
   wpU P md ops Le Q n (listed.setIfInBounds i true) (a.put oi.dst v) w→wpU P md ops Le Q (n+1) listed a w:=by
 intro n
 induction n with
 |zero =>
  intro listed a w _ hr hy H
  refine⟨fun h=>(by rw[h] at hr;cases hr),fun j hj W hW=>?_⟩
  by_cases hji:j=i
  ·subst hji;exact hy.wpOp hi hW ⟨hrf _,QiT ht _ _ _ _ _ H hW⟩
  ·have:=ready_mono hj hji
   rw[H.1] at this
   cases this
 |succ n ih =>
  intro listed a w hfree hr hy H
  refine⟨fun h=>(by rw[h] at hr;cases hr),fun j hj W hW=>?_⟩
  by_cases hji:j=i
  ·subst hji;exact hy.wpOp hi hW ⟨hrf _,QiT ht _ _ _ _ _ H hW⟩
  ·have h1:=H.2 j (ready_mono hj hji) W hW
   obtain⟨hjun,oj,hoj,hall⟩:=mem_ready.1 hj
   have hnot:∀ e∈oj.after,Region.binds md e=true→e.on≠i:=fun e he hb heq=>by
    have h1:=hall e he hb
    have h0:=(mem_ready.1 hr).1
    rw[heq] at h1
    rcases Nat.lt_or_ge i listed.size with h'|h'
    ·simp[h'] at h0 h1;rw[h0] at h1;cases h1
    ·simp[Array.getElem?_eq_none h'] at h1
   have h2:=wpOp_putIf (S:=Le w) hoj (hfree j oj hoj hji hjun hnot) (fun cs b=>hsel i oi cs b hi) (fun cs b=>hsel j oj cs b hoj) hQ hy h1
   have hfree':∀ k ok,ops[k]?=some ok→k≠i→(listed.setIfInBounds j true).getD k true=false →
     (∀ e∈ok.after,Region.binds md e=true→e.on≠i)→oi.apart ops ok=true:=fun k ok hk hki hun hno=>by
    refine hfree k ok hk hki ?_ hno
    by_cases hjk:j=k
    ·subst hjk;exact hjun
    ·rw[getD_set_ne true hjk] at hun;exact hun
   refine wpOp_mono (fun a' w' h3=>⟨h3.2.1,ih (listed.setIfInBounds j true) a' w' hfree' (ready_mono hr (Ne.symm hji)) (YieldsIf.weaken h3.1 fun V hV=>ht _ _ _ (ht _ _ _ hW h3.2.1) hV) ?_⟩) h2
   rw[Array.setIfInBounds_comm _ _ hji]
   exact h3.2.2
def Q5H (md:Region.Mode)(ops:Array Oper):List (Nat×Bool)→Array Bool→Bool
 | [],listed=>(Region.ready md ops listed).isEmpty
 |(i,s)::rest,listed=>(if s then (Region.ready md ops listed).contains i&&Region.free md ops listed i else Region.ready md ops listed == [i])&&Q5H md ops rest (listed.setIfInBounds i true)
def Q42 (P:Program)(ops:Array Oper)(Le:World→World→Prop)(Q:Exit→Act→World→Prop):List (Nat×Bool)→Act→World→Prop
 | [],a,w=>∀ W,Le w W→Q .normal a W
 |(i,s)::rest,a,w=>match ops[i]? with
  |none=>True
  |some o=>if s then
    (if Region.wanted o (yielded ops a.tmps) then ∃ v,(∀ W,Le w W→(execOp a.eval o).run P W=.ok (.value v) W)∧Q42 P ops Le Q rest (a.put o.dst v) w else Q42 P ops Le Q rest (a.put o.dst undef) w)
   else ∀ W,Le w W→if Region.wanted o (yielded ops a.tmps) then o.wp P a W (fun a' w'=>Le W w'∧Q42 P ops Le Q rest a' w') Q else Q42 P ops Le Q rest (a.put o.dst undef) W
theorem Q9N {i:Nat}{listed:Array Bool}(h:i∈Region.ready md ops listed):∃ o,ops[i]?=some o:=by
 obtain⟨_,o,ho,_⟩:=mem_ready.1 h
 exact⟨o,ho⟩
theorem Q6t (hQ:∀ c a (d:Tmp) v w,Q (.panic c) (a.put (some d) v) w→Q (.panic c) a w)(c:List PanicEntry)(a:Act)(d:Option Tmp)(v:Value)(w:World)
  (h:Q (.panic c) (a.put d v) w):Q (.panic c) a w:=by
 cases d with
 |none=>exact h
 |some d=>exact hQ c a d v w h
theorem Q3Y (hrf:∀ a,Le a a)(ht:∀ a b c,Le a b→Le b c→Le a c)(hs:Region.noSelect ops=true)
  (hQ:∀ c a (d:Tmp) v w,Q (.panic c) (a.put (some d) v) w→Q (.panic c) a w) :
  ∀ (ord:List (Nat×Bool)) (listed:Array Bool) (a:Act) (w:World),Q5H md ops ord listed=true→Q42 P ops Le Q ord a w→wpU P md ops Le Q ord.length listed a w
 | [],listed,a,w,hB,h=>⟨by simpa[Q5H] using hB,h⟩
 |(i,true)::rest,listed,a,w,hB,h=>by
  simp only[Q5H,if_true,Bool.and_eq_true] at hB
  obtain⟨⟨hr,hf⟩,hB⟩:=hB
  obtain⟨o,ho⟩:=Q9N (by simpa using hr)
  simp only[Q42,ho,if_true] at h
  by_cases hw:Region.wanted o (yielded ops a.tmps)=true
  ·simp only[hw,if_true] at h
   obtain⟨v,hv,h⟩:=h
   exact QaL hrf ht ho (Region.noSelect_spec hs) (fun c a w=>Q6t hQ c a _ _ w) _ listed a w (Region.free_spec ho hf) (by simpa using hr) (.inl ⟨hw,hv⟩) (Q3Y hrf ht hs hQ rest _ _ _ hB h)
  ·simp only[hw] at h
   exact QaL hrf ht ho (Region.noSelect_spec hs) (fun c a w=>Q6t hQ c a _ _ w) _ listed a w (Region.free_spec ho hf) (by simpa using hr) (.inr ⟨by simpa using hw,rfl⟩) (Q3Y hrf ht hs hQ rest _ _ _ hB h)
 |(i,false)::rest,listed,a,w,hB,h=>by
  simp only[Q5H,Bool.and_eq_true,Bool.false_eq_true,if_false,beq_iff_eq] at hB
  obtain⟨hr,hB⟩:=hB
  obtain⟨o,ho⟩:=Q9N (i:=i) (by rw[hr];simp)
  simp only[Q42,ho,Bool.false_eq_true,if_false] at h
  refine⟨fun h0=>(by rw[hr] at h0;cases h0),fun j hj W hW=>?_⟩
  rw[hr] at hj
  obtain rfl:=List.mem_singleton.1 hj
  have h1:=h W hW
  unfold wpOp
  simp only[ho]
  split
  ·rename_i hw
   simp only[hw,if_true] at h1
   exact .inl (Oper.wp_mono (fun a' w' h'=>⟨h'.1,Q3Y hrf ht hs hQ rest _ _ _ hB h'.2⟩) h1)
  ·rename_i hw
   simp only[hw] at h1
   exact⟨hrf _,Q3Y hrf ht hs hQ rest _ _ _ hB h1⟩
theorem QgD {a:Act}{w:World}(h:∀ W,Le w W→Q .normal a W):Q42 P ops Le Q [] a w:=h
theorem Q8n {i:Nat}{o:Oper}{rest:List (Nat×Bool)}{a:Act}{w:World}(ho:ops[i]?=some o)
  (h:∀ K:Act→Prop,Hid (∀ a,Q42 P ops Le Q rest a w→K a)→if Region.wanted o (yielded ops a.tmps) then ∃ v,(∀ W,Le w W→(execOp a.eval o).run P W=.ok (.value v) W)∧K (a.put o.dst v) else K (a.put o.dst undef)) :
  Q42 P ops Le Q ((i,true)::rest) a w:=by
 simp only[Q42,ho,if_true]
 exact h _ (fun _ h=>h)
theorem QdX {i:Nat}{o:Oper}{rest:List (Nat×Bool)}{a:Act}{w:World}(ho:ops[i]?=some o)
  (h:∀ (K:Act→World→Prop) (W:World),Hid (Le w W)→Hid (∀ a w',Le W w'→Q42 P ops Le Q rest a w'→K a w')→if Region.wanted o (yielded ops a.tmps) then o.wp P a W K Q else (Le W W→K (a.put o.dst undef) W)) (hrf:∀ a,Le a a) :
  Q42 P ops Le Q ((i,false)::rest) a w:=by
 simp only[Q42,ho,Bool.false_eq_true,if_false]
 intro W hW
 have h1:=h (fun a' w'=>Le W w'∧Q42 P ops Le Q rest a' w') W hW (fun _ _ h1 h2=>⟨h1,h2⟩)
 split
 ·rename_i hw;simpa only[hw,if_true] using h1
 ·rename_i hw
  simp only[hw] at h1
  exact (h1 (hrf W)).2
abbrev LeB (w W:World):Prop:=Below w.heap.size w W
theorem LeB.refl (w:World):LeB w w:=Below.refl _ w
theorem LeB.trans (a b c:World)(h:LeB a b)(k:LeB b c):LeB a c:=Below.trans h (Below.mono k h.size)
theorem LeB.drew (w:World):LeB w w.drew:=(Below.refl _ w).drew
theorem Qaf {id:Nat}{a:Act}{w:World}{l:List Oper}(hrf:∀ a,Le a a)(ht:∀ a b c,Le a b→Le b c→Le a c)(ord:List (Nat×Bool))(hm:P.follows .mixedOrders=true)
  (hB:(Region.noSelect l.toArray&&ord.length == l.length&&Q5H .any l.toArray ord (Array.replicate l.length false))=true)
  (hQ:∀ c a (d:Tmp) v w,Q (.panic c) (a.put (some d) v) w→Q (.panic c) a w)
  (h:Q42 P l.toArray Le Q ord a w.drew):(Code.region id l.toArray true).wp P Q a w:=by
 simp only[Bool.and_eq_true,beq_iff_eq] at hB
 obtain⟨⟨h1,h2⟩,h3⟩:=hB
 refine wp_region_any hm (Qa9 hrf _ _ _ _ ?_)
 have:=Q3Y hrf ht h1 hQ ord _ a _ h3 h
 rw[h2] at this
 simpa using this
theorem Q9c {id:Nat}{a:Act}{w:World}{l:List Oper}(ord:List (Nat×Bool))(hm:P.follows .mixedOrders=true)
  (hB:(Region.noSelect l.toArray&&ord.length == l.length&&Q5H .any l.toArray ord (Array.replicate l.length false))=true)
  (hQ:∀ c a (d:Tmp) v w,Q (.panic c) (a.put (some d) v) w→Q (.panic c) a w)
  (h:∀ W,Hid (LeB w W)→Q42 P l.toArray LeB Q ord a W):(Code.region id l.toArray true).wp P Q a w :=
 Qaf LeB.refl LeB.trans ord hm hB hQ (h _ (LeB.drew w))
end
theorem Rd.litN (w:World)(B:Nat)(hB:w.heap.size=B)(t:TypeId)(cs:Array Value)(size n:Nat)(hs:cs.size=n * size)(hm:n≤maxLen) :
  Rd (w.alloc (.cells cs t)) (fun b=>B≤b) size (some ⟨B,0,none⟩) n n cs.toList:=by
 subst hB;exact Rd.lit w t cs size n hs hm
end Go.Proofs.YthbjpdijafccjaaGreat
namespace Go.Proofs.YthbjpdijafccjaaGreat
open Go.RowKit Go.Lib
abbrev LeG (row:Option Nat)(w W:World):Prop:=w.grownBy W row
theorem LeG.refl (row:Option Nat)(w:World):LeG row w w:=⟨rfl,rfl,rfl,Nat.le_refl _,fun _ _ _=>rfl⟩
theorem LeG.trans (row:Option Nat)(a b c:World)(h:LeG row a b)(k:LeG row b c):LeG row a c :=
 ⟨k.os.trans h.os,k.tape.trans h.tape,k.output.trans h.output,Nat.le_trans h.size k.size,fun i hi hne=>(k.block i (Nat.lt_of_lt_of_le hi h.size) hne).trans (h.block i hi hne)⟩
theorem LeG.cell {row:Option Nat}{w W:World}(h:LeG row w W){p:Addr}{v:Value}(hc:w.cell? p=some v)(hp:row≠some p.block):W.cell? p=some v :=
 (World.cell?_of_block (h.block _ (World.block_lt_of_cell? w p hc) (fun e=>hp e.symm))).trans hc
section
variable {P:Program} {ops:Array Oper} {Q:Exit→Act→World→Prop} {md:Region.Mode} {Le:World→World→Prop}
end
end Go.Proofs.YthbjpdijafccjaaGreat
namespace Go.Proofs.YthbjpdijafccjaaGreat
open Go.RowKit Go.Lib
def Qw (r:Int):Nat:=if r<0∨1114111<r∨(55296≤r∧r≤57343) then 0 else if r<128 then 1 else if r<2048 then 2 else if r<65536 then 3 else 4
def Qm (l:List UInt8):Int×Nat:=if (decodeL l).1=65533∧(decodeL l).2=1 then (-1,1) else (((decodeL l).1:Int),(decodeL l).2)
def Q1S:Nat→Nat→List UInt8→List (Int×Nat×Nat)
 |0,_,_=>[]
 |_+1,_,[]=>[]
 |k+1,off,b::t=>((Qm (b::t)).1,off,(Qm (b::t)).2)::Q1S k (off+(Qm (b::t)).2) ((b::t).drop (Qm (b::t)).2)
def Q4L (l:List UInt8):List (Int×Nat×Nat):=Q1S l.length 0 l
theorem Q2y (x:Int)(h:0≤x∧x<256):(x.toNat.toUInt8).toNat=x.toNat:=by
 show (UInt8.ofNat x.toNat).toNat=_
 rw[UInt8.toNat_ofNat'];omega
theorem Q5r (v:Int)(h:0<Qw v):(encodeRune v).length=Qw v:=by
 unfold Qw at h ⊢
 split at h
 ·omega
 ·rename_i h1
  rw[if_neg h1]
  unfold encodeRune
  rw[List.length_map]
  split
  ·rw[encodeRuneZ_one (by omega) (by omega)];rfl
  ·split
   ·rw[encodeRuneZ_two (by omega) (by omega)];rfl
   ·split
    ·rw[encodeRuneZ_three (by omega)];rfl
    ·rw[encodeRuneZ_four (by omega) (by omega)];rfl
theorem Qal (v:Int)(h:0<Qw v)(t:List UInt8):decodeL (encodeRune v++t)=(v.toNat,Qw v):=by
 rw[decodeL_N]
 have hl:=Q5r v h
 unfold Qw at h hl ⊢
 split at h
 ·omega
 ·rename_i h1
  rw[if_neg h1] at hl ⊢
  unfold encodeRune at hl ⊢
  by_cases h2:v<128
  ·rw[encodeRuneZ_one (by omega) (by omega),if_pos h2]
   simp only[List.map_cons,List.map_nil,List.cons_append,List.nil_append,List.getD_cons_zero]
   rw[Q2y v (by omega),decodeN,if_pos (by omega)]
  ·rw[if_neg h2] at hl ⊢
   by_cases h3:v<2048
   ·rw[encodeRuneZ_two (by omega) (by omega),if_pos h3]
    simp only[List.map_cons,List.map_nil,List.cons_append,List.nil_append,List.getD_cons_zero,List.getD_cons_succ,List.length_cons]
    rw[Q2y _ (by omega),Q2y _ (by omega),decodeN,if_neg (by omega),if_pos (by omega),if_pos (by omega)]
    simp only[Prod.mk.injEq,and_true]
    omega
   ·rw[if_neg h3] at hl ⊢
    by_cases h4:v<65536
    ·rw[encodeRuneZ_three (by omega),if_pos h4]
     simp only[List.map_cons,List.map_nil,List.cons_append,List.nil_append,List.getD_cons_zero,List.getD_cons_succ,List.length_cons]
     rw[Q2y _ (by omega),Q2y _ (by omega),Q2y _ (by omega),decodeN,if_neg (by omega),if_neg (by omega),if_pos (by omega),if_pos (by omega)]
     simp only[Prod.mk.injEq,and_true]
     omega
    ·rw[encodeRuneZ_four (by omega) (by omega),if_neg h4]
     simp only[List.map_cons,List.map_nil,List.cons_append,List.nil_append,List.getD_cons_zero,List.getD_cons_succ,List.length_cons]
     rw[Q2y _ (by omega),Q2y _ (by omega),Q2y _ (by omega),Q2y _ (by omega),decodeN,if_neg (by omega),if_neg (by omega),if_neg (by omega),if_pos (by omega),if_pos (by omega)]
     simp only[Prod.mk.injEq,and_true]
     omega
theorem Q3P (v:Int)(h:0<Qw v)(t:List UInt8):Qm (encodeRune v++t)=(v,Qw v):=by
 have hd:=Qal v h t
 have hv:0≤v:=by unfold Qw at h;split at h<;>omega
 rw[Qm,hd]
 simp only
 rw[if_neg]
 ·rw[Int.toNat_of_nonneg hv]
 ·rintro⟨h1,h2⟩
  have:v=65533:=by omega
  subst this
  revert h2
  decide
theorem Q4C (l:List UInt8):1≤(Qm l).2:=by
 unfold Qm;split
 ·exact Nat.le_refl _
 ·exact decodeL_width l
theorem Q5w (l:List UInt8)(h:l≠[]):(Qm l).2≤l.length:=by
 unfold Qm;split
 ·exact List.length_pos_iff.2 h
 ·exact decodeL_le l h
theorem Q4f (l:List UInt8):-1≤(Qm l).1∧(Qm l).1≤1114111:=by
 unfold Qm;split
 ·exact⟨by simp,by simp⟩
 ·have:=decodeL_rune l;refine⟨?_,?_⟩<;>dsimp only<;>omega
theorem QdQ (l:List UInt8)(h:(Qm l).1=-1)(v:Int)(hv:0<Qw v):¬ ∃ t,l=encodeRune v++t:=by
 rintro⟨t,rfl⟩
 rw[Q3P v hv] at h
 simp only at h
 subst h
 exact absurd hv (by decide)
theorem Q4R (l:List UInt8)(hne:l≠[])(h:(Qm l).1≠-1):l.take (Qm l).2=encodeRune (Qm l).1:=by
 have h':¬ ((decodeL l).1=65533∧(decodeL l).2=1):=fun hh=>h (by rw[Qm,if_pos hh])
 have:=encode_decode l hne h'
 rw[Qm,if_neg h']
 exact this.symm
theorem Q2p (k off:Nat):Q1S k off []=[]:=by cases k<;>rfl
theorem QbN (k:Nat):∀ (j off:Nat) (l:List UInt8),l.length≤k→l.length≤j→Q1S k off l=Q1S j off l:=by
 induction k with
 |zero=>intro j off l h1 h2;have:l=[]:=List.eq_nil_of_length_eq_zero (by omega);subst this;rw[Q2p,Q2p]
 |succ k ih =>
  intro j off l h1 h2
  cases l with
  |nil=>rw[Q2p,Q2p]
  |cons b t =>
   cases j with
   |zero=>simp at h2
   |succ j =>
    simp only[Q1S]
    have hp:=Q4C (b::t)
    rw[ih j _ _ (by rw[List.length_drop];simp only[List.length_cons] at h1 ⊢;omega) (by rw[List.length_drop];simp only[List.length_cons] at h2 ⊢;omega)]
theorem Q5y (off:Nat)(l:List UInt8)(h:l≠[]):Q1S l.length off l=((Qm l).1,off,(Qm l).2)::Q1S (l.drop (Qm l).2).length (off+(Qm l).2) (l.drop (Qm l).2):=by
 cases l with
 |nil=>exact absurd rfl h
 |cons b t =>
  have hp:=Q4C (b::t)
  show Q1S (t.length+1) off (b::t)=_
  simp only[Q1S]
  rw[QbN t.length _ _ _ (by rw[List.length_drop];simp only[List.length_cons];omega) (Nat.le_refl _)]
end Go.Proofs.YthbjpdijafccjaaGreat
namespace Go.Proofs.YthbjpdijafccjaaGreat
open Go.RowKit
theorem Qb8 {k:IntKind}{w:World}{a:Option Addr}{len cap:Nat}{zs:List Int}
  (h:(a=none∧len=0∧cap=0∧zs=[])∨∃ x,a=some x∧len≤cap∧cap≤maxLen∧zs.length=cap∧(∀ i,i<zs.length→w.cell? (x.add i)=some (.int k (zs.getD i 0)))∧∀ n∈zs,(Lit.int k n).wf=true) :
  Rd w (fun b=>b<w.heap.size) 1 a len cap ((zs.take len).map (Value.int k))∧∀ n∈zs.take len,(Lit.int k n).wf=true:=by
 rcases h with ⟨rfl,rfl,rfl,rfl⟩|⟨x,rfl,h1,h2,h3,h4,h5⟩
 ·exact⟨Rd.none_,by simp⟩
 ·refine⟨⟨by simp;omega,h1,h2,(fun h=>by cases h),fun h0=>?_⟩,fun n hn=>h5 n (List.mem_of_mem_take hn)⟩
  obtain⟨b,off,rfl,hc⟩:=ints_at h4 (by omega)
  have hlt:b<w.heap.size:=World.block_lt_of_cell? w _ (hc 0 (by omega))
  refine⟨b,off,rfl,hlt,fun j u hu=>?_⟩
  rw[List.getElem?_map,Option.map_eq_some_iff] at hu
  obtain⟨z,hz,rfl⟩:=hu
  rw[List.getElem?_take] at hz
  split at hz
  ·obtain⟨hj,rfl⟩:=List.getElem?_eq_some_iff.1 hz
   rw[hc j hj]
   simp[List.getD,hj]
  ·cases hz
def QdN (r:Int):List UInt8:=(Utf8.encode r).data.toList
theorem Qcc (l:List Int):∀ s:ByteArray,(l.foldl (fun r n=>r++Utf8.encode n) s).data.toList=s.data.toList++l.flatMap QdN:=by
 induction l with
 |nil=>intro s;simp
 |cons a t ih =>
  intro s
  rw[List.foldl_cons,ih]
  simp[QdN,ByteArray.data_append]
theorem Q4O (l:List Int):(runesBytes l).data.toList=l.flatMap QdN:=by
 rw[runesBytes,Qcc];rfl
theorem Qee (r:Int)(h0:0≤r)(h1:r<128):QdN r=[UInt8.ofNat r.toNat]:=by
 have hv:Utf8.valid r=true:=by simp[Utf8.valid];omega
 unfold QdN Utf8.encode
 simp only[hv,if_true]
 rw[if_pos (by omega)]
end Go.Proofs.YthbjpdijafccjaaGreat
namespace Go.Proofs.YthbjpdijafccjaaGreat
open Go.RowKit Go.Lib Tryz
theorem Qb2 (r:Int)(w:World):Calls prog 93 #[.int .i32 r] w fun e w'=>e=.returned (.int .i64 (Qw r))∧w=w':=by
 by_cases h1:r<0
 ·go_enter func93,ntmps93
  go_wp2
  go_ret
  exact⟨Q1n (by rw[Qw,if_pos (by omega)];rfl),rfl⟩
 ·by_cases h2:1114111<r
  ·go_enter func93,ntmps93
   go_wp2
   go_ret
   exact⟨Q1n (by rw[Qw,if_pos (by omega)];rfl),rfl⟩
  ·by_cases h3:55296≤r
   ·by_cases h4:r≤57343
    ·go_enter func93,ntmps93
     go_wp2
     go_ret
     exact⟨Q1n (by rw[Qw,if_pos (by omega)];rfl),rfl⟩
    ·by_cases h5:r<65536
     all_goals
      go_enter func93,ntmps93
      go_wp2
      go_ret
      exact⟨Q1n (by rw[Qw,if_neg (by omega),if_neg (by omega),if_neg (by omega)];first|(rw[if_pos (by omega)];rfl)|(rw[if_neg (by omega)];rfl)),rfl⟩
   ·by_cases h4:r<128
    ·go_enter func93,ntmps93
     go_wp2
     go_ret
     exact⟨Q1n (by rw[Qw,if_neg (by omega),if_pos (by omega)];rfl),rfl⟩
    ·by_cases h5:r<2048
     ·go_enter func93,ntmps93
      go_wp2
      go_ret
      exact⟨Q1n (by rw[Qw,if_neg (by omega),if_neg (by omega),if_pos (by omega)];rfl),rfl⟩
     ·go_enter func93,ntmps93
      go_wp2
      go_ret
      exact⟨Q1n (by rw[Qw,if_neg (by omega),if_neg (by omega),if_neg (by omega),if_pos (by omega)];rfl),rfl⟩
theorem QdY (r:Int)(w:World):Calls prog 130 #[.int .i32 r] w fun e w'=>e=.returned (.int .i64 (Qw r))∧w=w':=by
 by_cases h1:r<0
 ·go_enter func130,ntmps130
  go_wp2
  go_ret
  exact⟨Q1n (by rw[Qw,if_pos (by omega)];rfl),rfl⟩
 ·by_cases h2:1114111<r
  ·go_enter func130,ntmps130
   go_wp2
   go_ret
   exact⟨Q1n (by rw[Qw,if_pos (by omega)];rfl),rfl⟩
  ·by_cases h3:55296≤r
   ·by_cases h4:r≤57343
    ·go_enter func130,ntmps130
     go_wp2
     go_ret
     exact⟨Q1n (by rw[Qw,if_pos (by omega)];rfl),rfl⟩
    ·by_cases h5:r<65536
     all_goals
      go_enter func130,ntmps130
      go_wp2
      go_ret
      exact⟨Q1n (by rw[Qw,if_neg (by omega),if_neg (by omega),if_neg (by omega)];first|(rw[if_pos (by omega)];rfl)|(rw[if_neg (by omega)];rfl)),rfl⟩
   ·by_cases h4:r<128
    ·go_enter func130,ntmps130
     go_wp2
     go_ret
     exact⟨Q1n (by rw[Qw,if_neg (by omega),if_pos (by omega)];rfl),rfl⟩
    ·by_cases h5:r<2048
     ·go_enter func130,ntmps130
      go_wp2
      go_ret
      exact⟨Q1n (by rw[Qw,if_neg (by omega),if_neg (by omega),if_pos (by omega)];rfl),rfl⟩
     ·go_enter func130,ntmps130
      go_wp2
      go_ret
      exact⟨Q1n (by rw[Qw,if_neg (by omega),if_neg (by omega),if_neg (by omega),if_pos (by omega)];rfl),rfl⟩
abbrev bc (l:List UInt8):List Value:=l.map fun b=>.int .u8 b.toNat
abbrev Q1l (l:List (Int×Nat×Nat)):List Value:=l.flatMap fun x=>[.int .i32 x.1,.int .i64 x.2.1,.int .i64 x.2.2]
theorem Qnb:(prog.info? 84).map (fun i=>(i.zero,i.size,i.bytes))=some (some (.agg #[.int .i32 0,.int .i64 0,.int .i64 0]),3,24):=by kernel_rfl
theorem QbS (w:World){ops:Array Oper}{rest:List Oper}{o:Oper}{a:Act}{Q:Exit→Act→World→Prop}(hgd:o.guard=none)(s x:Operand)
  (ho:o.op=.call { callee:=.builtin .append,args:=#[s,x],argTypes:=#[81,81] })
  (base:Nat) (v:Value) (n:Nat) (xs:List Value) (hs:a.eval s=v) (hown:w.ownsRow base 84 3 v n xs)
  (S:Nat→Prop) (A:Option Addr) (m c:Nat) (ys:List Value) (hx:a.eval x=.slice A m c) (hr:Rd w S 3 A m c ys) (h1:∀ u∈ys,u.oneCell'=true)
  (hlen:n+m≤1000000000) (hbase:base≤w.heap.size)
  (h:∀ A' c' w',w'.ownsRow base 84 3 (.slice A' (n+m) c') (n+m) (xs++ys)→w.grownBy w' v.ownBlock→((Value.slice A' (n+m) c').ownBlock=v.ownBlock∨(Value.slice A' (n+m) c').ownBlock=some w.heap.size) →
    c'≤9223372036854775807→wpList prog ops Q rest (a.put o.dst (.slice A' (n+m) c')) w') :
  wpList prog ops Q (o::rest) a w:=by
 obtain⟨i0,hi,hz0,hz1,hz2⟩:=info_parts Qnb
 refine Q5g w hgd s x 81 ho base 84 i0 _ 3 24 underlying81 hi hz0 hz1 hz2 rfl (by omega) v n xs hs hown S A m c ys hx hr h1 (by simp only[maxLen];omega) (by omega) hbase ?_
 intro v' w' h1 h2 h3
 obtain⟨A',c',rfl,hr'⟩:=Q47 h1
 exact h A' c' w' h1 h2 h3 hr'.max
theorem Qna:(prog.info? 101).map (fun i=>(i.zero,i.size,i.bytes))=some (some (.agg #[.int .i32 0,.int .i64 0,.int .i64 0]),3,24):=by kernel_rfl
theorem Qao (w:World){ops:Array Oper}{rest:List Oper}{o:Oper}{a:Act}{Q:Exit→Act→World→Prop}(hgd:o.guard=none)(s x:Operand)
  (ho:o.op=.call { callee:=.builtin .append,args:=#[s,x],argTypes:=#[99,99] })
  (base:Nat) (v:Value) (n:Nat) (xs:List Value) (hs:a.eval s=v) (hown:w.ownsRow base 101 3 v n xs)
  (S:Nat→Prop) (A:Option Addr) (m c:Nat) (ys:List Value) (hx:a.eval x=.slice A m c) (hr:Rd w S 3 A m c ys) (h1:∀ u∈ys,u.oneCell'=true)
  (hlen:n+m≤1000000000) (hbase:base≤w.heap.size)
  (h:∀ A' c' w',w'.ownsRow base 101 3 (.slice A' (n+m) c') (n+m) (xs++ys)→w.grownBy w' v.ownBlock→((Value.slice A' (n+m) c').ownBlock=v.ownBlock∨(Value.slice A' (n+m) c').ownBlock=some w.heap.size) →
    c'≤9223372036854775807→wpList prog ops Q rest (a.put o.dst (.slice A' (n+m) c')) w') :
  wpList prog ops Q (o::rest) a w:=by
 obtain⟨i0,hi,hz0,hz1,hz2⟩:=info_parts Qna
 refine Q5g w hgd s x 99 ho base 101 i0 _ 3 24 underlying99 hi hz0 hz1 hz2 rfl (by omega) v n xs hs hown S A m c ys hx hr h1 (by simp only[maxLen];omega) (by omega) hbase ?_
 intro v' w' h1 h2 h3
 obtain⟨A',c',rfl,hr'⟩:=Q47 h1
 exact h A' c' w' h1 h2 h3 hr'.max
theorem QeI (s:ByteArray)(at_:Nat)(hat:at_<s.size)(h:(Utf8.decode s at_).1≠65533):Qm (s.data.toList.drop at_)=(((Utf8.decode s at_).1:Int),Qw (Utf8.decode s at_).1):=by
 have hne:s.data.toList.drop at_≠[]:=by
  intro h0
  have:=congrArg List.length h0
  simp at this
  have:s.data.size=s.size:=rfl
  omega
 rw[←decodeL_drop] at h ⊢
 have hv:=Q4R (s.data.toList.drop at_) hne
 rw[Qm,if_neg (fun hh=>h hh.1)] at hv ⊢
 have h2:=runeLen_decode _ h
 have hw:=decodeL_width (s.data.toList.drop at_)
 have hle:=decodeL_le _ hne
 refine Prod.ext rfl ?_
 show (decodeL (s.data.toList.drop at_)).2=_
 generalize (decodeL (s.data.toList.drop at_)).1=c at h2 ⊢
 generalize (decodeL (s.data.toList.drop at_)).2=n at h2 hw ⊢
 unfold runeLen at h2
 unfold Qw
 repeat' split at h2
 all_goals (dsimp only;first|omega|((repeat' split)<;>omega))
theorem Qed (s:ByteArray)(at_:Nat)(hat:at_<s.size)(h:(Utf8.decode s at_).1=65533) :
  Qm (s.data.toList.drop at_)=if (s.data.toList.drop at_).take 3=[239,191,189] then (65533,3) else (-1,1):=by
 have hne:s.data.toList.drop at_≠[]:=by
  intro h0
  have:=congrArg List.length h0
  simp at this
  have:s.data.size=s.size:=rfl
  omega
 rw[←decodeL_drop] at h
 generalize s.data.toList.drop at_=l at h hne ⊢
 split
 ·rename_i h3
  have he:encodeRune 65533=[239,191,189]:=by decide
  have hl:l=encodeRune 65533++l.drop 3:=by rw[he,←h3,List.take_append_drop]
  rw[hl,Q3P 65533 (by decide)]
  rfl
 ·rename_i h3
  by_cases h1:(decodeL l).2=1
  ·rw[Qm,if_pos ⟨h,h1⟩]
  ·exfalso
   have he:=encode_decode l hne (fun hh=>h1 hh.2)
   rw[h] at he
   have he2:encodeRune ((65533:Nat):Int)=[239,191,189]:=by decide
   rw[he2] at he
   have hlen:=congrArg List.length he
   have hle:=decodeL_le l hne
   rw[List.length_take] at hlen
   have:(decodeL l).2=3:=by simp at hlen;omega
   rw[this] at he
   exact h3 he.symm
theorem Qge (s:ByteArray)(at_:Nat)(hat:at_<s.size)(hs:s.size≤1000000000)(w:World) :
  Calls prog 71 #[.string s,.int .i64 at_,.int .i32 (Utf8.decode s at_).1] w fun e w' =>
   e=.returned (.tuple #[.int .i32 (Qm (s.data.toList.drop at_)).1,.int .i64 (Qm (s.data.toList.drop at_)).2])∧w=w':=by
 have hle:=decode_le s at_
 by_cases h:(Utf8.decode s at_).1=65533
 ·have HF:=Lib.hid (Qed s at_ hat h)
  rw[h]
  by_cases h3:(s.size:Int)-(at_:Int)<3
  ·have HN:Hid (Qm (s.data.toList.drop at_)=(-1,1)):=by
    rw[Hid,HF.out,if_neg]
    intro hh
    have:=congrArg List.length hh
    simp at this
    have:s.data.size=s.size:=rfl
    omega
   generalize Qm (s.data.toList.drop at_)=p at HN ⊢
   clear h HF
   go_enter func71,ntmps71
   go_wp2
   go_ret2
   exact⟨by rw[HN.out];rfl,rfl⟩
  ·have hx:(s.extract at_ (at_+3)).toList=(s.data.toList.drop at_).take 3:=by
    rw[ByteArray.toList_eq,extract_data,Nat.add_sub_cancel_left]
   have HW:=Lib.hid (Qb2 65533 w)
   have h4:at_+3≤s.size:=by omega
   by_cases he:(s.data.toList.drop at_).take 3=[239,191,189]
   ·have HN:Hid (Qm (s.data.toList.drop at_)=(65533,3)):=by rw[Hid,HF.out,if_pos he]
    have hb:((s.extract at_ (at_+3)).toList == [239,191,189])=true:=by rw[hx,he];rfl
    generalize Qm (s.data.toList.drop at_)=p at HN ⊢
    clear h HF hx he
    go_enter func71,ntmps71
    go_wp2_with fail
    refine HW.out.mono ?_
    rintro e w' ⟨rfl,rfl⟩
    go_wp2
    go_ret2
    exact⟨by rw[HN.out];rfl,rfl⟩
   ·have HN:Hid (Qm (s.data.toList.drop at_)=(-1,1)):=by rw[Hid,HF.out,if_neg he]
    have hb:((s.extract at_ (at_+3)).toList == [239,191,189])=false:=by rw[hx,beq_eq_false_iff_ne];exact he
    generalize Qm (s.data.toList.drop at_)=p at HN ⊢
    clear h HF hx he
    go_enter func71,ntmps71
    go_wp2
    go_ret2
    exact⟨by rw[HN.out];rfl,rfl⟩
 ·have HN:=Lib.hid (QeI s at_ hat h)
  have hb:(((Utf8.decode s at_).1:Int) == 65533)=false:=by rw[beq_eq_false_iff_ne];omega
  generalize Qm (s.data.toList.drop at_)=p at HN ⊢
  generalize (Utf8.decode s at_).1=c at HN hb hle h ⊢
  have HW:=Lib.hid (Qb2 c w)
  clear h
  go_enter func71,ntmps71
  go_wp2_with fail
  refine HW.out.mono ?_
  rintro e w' ⟨rfl,rfl⟩
  go_wp2
  go_ret2
  exact⟨by rw[HN.out];rfl,rfl⟩
theorem QiJ {l:List UInt8}{k:Nat}{u:Value}(h:(bc l)[k]?=some u):∃ h:k<l.length,u=.int .u8 (l[k]).toNat:=by
 simp only[bc,List.getElem?_map,Option.map_eq_some_iff] at h
 obtain⟨a,ha,rfl⟩:=h
 obtain⟨hk,rfl⟩:=List.getElem?_eq_some_iff.1 ha
 exact⟨hk,rfl⟩
theorem QbX {w:World}{S:Nat→Prop}{A:Option Addr}{n c:Nat}{l:List UInt8}(h:Rd w S 1 A n c (bc l)):n=l.length:=by have:=h.len;simpa using this.symm
theorem Q2Z {P:Program}{w:World}{S:Nat→Prop}{A:Option Addr}{n c:Nat}{l:List UInt8}(h:Rd w S 1 A n c (bc l))(src dst e:TypeId)
  (hs:P.underlying src=some (.slice e)) (he:P.underlying e=some (.int .u8)) (hd:P.underlying dst=some .string) :
  (convert src dst (.slice A n c)).run P w=.ok (.string ⟨l.toArray⟩) w:=by
 obtain rfl:=QbX h
 rcases A with _|ad
 ·have:=h.nil rfl
  have:=h.le
  have:l=[]:=List.eq_nil_of_length_eq_zero (by omega)
  subst this
  rw[run_convert_bytes_string w src dst e _ _ _ hs he hd]
  rfl
 ·refine run_convert_bytes_back w src dst e ad c l hs he hd fun j hj=>?_
  obtain⟨b,o,ha,_,hc⟩:=h.at_ (by omega)
  injection ha with ha
  subst ha
  rw[Addr.add_lit]
  exact hc j _ (by simp[bc,hj])
theorem Q5j (a b:List (Int×Nat×Nat)):Q1l (a++b)=Q1l a++Q1l b:=by simp[Q1l]
theorem Q6Q (l:List (Int×Nat×Nat)):∀ u∈Q1l l,u.oneCell'=true:=by
 intro u hu
 simp only[Q1l,List.mem_flatMap,List.mem_cons,List.not_mem_nil,or_false] at hu
 obtain⟨x,_,rfl|rfl|rfl⟩:=hu<;>rfl
theorem Q3T (l:List (Int×Nat×Nat)):(Q1l l).length=l.length * 3:=by
 induction l with
 |nil=>rfl
 |cons a t ih=>simp only[Q1l,List.flatMap_cons,List.length_append,List.length_cons,List.length_nil] at ih ⊢;omega
structure IterAt (w wr:World) (s:ByteArray) (pos:Nat):Prop where
 blk:wr.heap[w.heap.size]?=some (.stringIter s pos)
 below:Below w.heap.size w wr
theorem IterAt.lt {w wr:World}{s:ByteArray}{pos:Nat}(h:IterAt w wr s pos):w.heap.size<wr.heap.size:=(Array.getElem?_eq_some_iff.1 h.blk).1
def World.iterSet (w:World)(b:Nat)(s:ByteArray)(pos:Nat):World:={ w with heap:=w.heap.setIfInBounds b (.stringIter s pos) }
theorem QcJ {P:Program}{w wr:World}{s:ByteArray}{pos:Nat}(h:IterAt w wr s pos)(ty:TypeId)(hp:pos<s.size) :
  (Instr.next (.pointer (some ⟨w.heap.size,0,none⟩)) true ty).run P wr=.ok (.tuple #[.bool true,.int .i64 pos,.int .i32 (Utf8.decode s pos).1]) (World.iterSet wr w.heap.size s (pos+(Utf8.decode s pos).2)):=by
 simp only[Instr.next,getObj,setObj,Sem.run_bind,Sem.run,h.blk,Result.andThen,hp,if_true]
 simp[goInt,World.iterSet]
theorem Qai {P:Program}{w wr:World}{s:ByteArray}{pos:Nat}(h:IterAt w wr s pos)(ty:TypeId)(hp:¬ pos<s.size) :
  (Instr.next (.pointer (some ⟨w.heap.size,0,none⟩)) true ty).run P wr=.ok (.tuple #[.bool false]) wr:=by
 simp[Instr.next,getObj,Sem.run,h.blk,hp]
theorem IterAt.set {w wr:World}{s:ByteArray}{pos pos':Nat}(h:IterAt w wr s pos):IterAt w (World.iterSet wr w.heap.size s pos') s pos':=by
 have hlt:=h.lt
 refine⟨?_,h.below.trans ⟨rfl,rfl,rfl,?_,fun k hk=>?_⟩⟩
 ·show (wr.heap.setIfInBounds w.heap.size _)[w.heap.size]?=_
  rw[Array.getElem?_setIfInBounds_self_of_lt hlt]
 ·show wr.heap.size≤(wr.heap.setIfInBounds w.heap.size _).size
  simp
 ·show (wr.heap.setIfInBounds w.heap.size _)[k]?=_
  rw[Array.getElem?_setIfInBounds_ne (by omega)]
theorem Qan (w:World)(b:Nat)(s:ByteArray)(pos:Nat):w.grownBy (World.iterSet w b s pos) (some b) :=
 ⟨rfl,rfl,rfl,by simp[World.iterSet],fun k _ hne=>by
  show (w.heap.setIfInBounds b _)[k]?=_
  rw[Array.getElem?_setIfInBounds_ne (fun e=>hne (by rw[e]))]⟩
theorem IterAt.grown {w wr w2:World}{s:ByteArray}{pos:Nat}{row:Option Nat}(h:IterAt w wr s pos)(hg:wr.grownBy w2 row)(hr:∀ g,row=some g→w.heap.size<g):IterAt w w2 s pos :=
 ⟨(hg.block w.heap.size h.lt (fun e=>by have:=hr _ e.symm;omega)).trans h.blk,h.below.grown hg h.below.size (fun k hk=>by have:=hr k hk;omega)⟩
theorem IterAt.alloc {w wr:World}{s:ByteArray}{pos:Nat}(h:IterAt w wr s pos)(o:Obj):IterAt w (wr.alloc o) s pos :=
 ⟨(Below.heap_alloc wr o _ h.lt).trans h.blk,h.below.alloc h.below.size o⟩
theorem IterAt.start (w:World)(s:ByteArray):IterAt w (w.iter s 0) s 0:=⟨World.iter_heap w s 0,(Below.refl _ w).alloc (Nat.le_refl _) _⟩
theorem Qgh (s:ByteArray)(pos:Nat):1≤(Utf8.decode s pos).2:=by rw[←decodeL_drop];exact decodeL_width _
theorem Qhd (s:ByteArray)(pos:Nat):(Qm (s.data.toList.drop pos)).2=(Utf8.decode s pos).2:=by
 rw[Qm,decodeL_drop]
 split
 ·rename_i h;exact h.2.symm
 ·rfl
theorem QfV (S:Nat→Prop)(A:Option Addr)(n c:Nat)(l:List UInt8)(w:World)(hr:Rd w S 1 A n c (bc l))(hlen:l.length≤300000000) :
  Calls prog 50 #[.slice A n c] w fun e w'=>∃ v,e=.returned v∧(∃ n',w'.ownsRow w.heap.size 84 3 v n' (Q1l (Q4L l)))∧Below w.heap.size w w':=by
 have hcv:=Q2Z hr 22 9 5 underlying22 underlying5 underlying9
 obtain rfl:=QbX hr
 obtain⟨s,hs⟩:∃ s:ByteArray,s=⟨l.toArray⟩:=⟨_,rfl⟩
 rw[←hs] at hcv
 have hsz:s.size=l.length:=by rw[hs];simp[ByteArray.size]
 have hsl:s.data.toList=l:=by rw[hs]
 have HS:=Lib.hid hs
 have hsb:s.size≤300000000:=by omega
 have HSL:=Lib.hid hsl
 have HSZ:=Lib.hid hsz
 clear hs hsl hsz hr
 go_enter func50,ntmps50
 go_wp2
 go_loopw [3] (fun v wr=>∃ (pos:Nat) (o:List (Int×Nat×Nat)),Hid (IterAt w wr s pos)∧Hid (Q4L l=o++Q1S (l.drop pos).length pos (l.drop pos))∧o.length≤pos ∧
   Hid (∃ n',wr.ownsRow (w.heap.size+1) 84 3 v n' (Q1l o))∧pos≤s.size)
  (fun _ wr=>s.size-wr.iterPos w.heap.size)
 case atStart=>exact⟨0,[],IterAt.start w s,by simp[Hid,Q4L],Nat.le_refl _,⟨0,World.ownsRow_nil _ _ _ _⟩,Nat.zero_le _⟩
 case round =>
  obtain⟨pos,o,HI,HS2,hol,HO,hpos⟩:=hrel
  obtain⟨no,HO⟩:=HO.out
  have hno:no=o.length:=by have:=HO.1;rw[Q3T] at this;omega
  obtain⟨Ao,co,rfl,hro⟩:=Q47 HO
  have hco:co≤9223372036854775807:=hro.max
  have HO:=Lib.hid HO
  have hnob:no≤300000000:=by omega
  have HNO:=Lib.hid hno
  clear hro hno
  by_cases hlt:pos<s.size
  ·have hnx:∀ ty,(Instr.next (.pointer (some ⟨w.heap.size,0,none⟩)) true ty).run prog wr=_:=fun ty=>QcJ HI.out ty hlt
   have HI2:=Lib.hid (HI.out.set (pos':=pos+(Utf8.decode s pos).2))
   have HO2:=Lib.hid (HO.out.kept (Qan wr w.heap.size s (pos+(Utf8.decode s pos).2)) (by
    cases hb:Value.ownBlock (.slice Ao no co) with
    |none=>exact .inl rfl
    |some g=>right;have:=(HO.out.lt g hb).1;intro h;injection h;omega))
   generalize hW2:World.iterSet wr w.heap.size s (pos+(Utf8.decode s pos).2)=w2 at hnx HI2 HO2
   have HFD:=Lib.hid (Qhd s pos)
   have HP:=Lib.hid (Qge s pos hlt (by omega) w2)
   have hdw:=Qgh s pos
   have hfr:=Q4f (s.data.toList.drop pos)
   have HMS:Hid (pos+(Utf8.decode s pos).2≤s.size):=by
    rw[Hid,←HFD.out]
    have hne:s.data.toList.drop pos≠[]:=by
     intro h0
     have:=congrArg List.length h0
     simp at this
     have:s.data.size=s.size:=rfl
     omega
    have:=Q5w _ hne
    rw[List.length_drop] at this
    have:s.data.toList.length=s.size:=by simp
    omega
   have HST:Hid (Q4L l=(o++[((Qm (s.data.toList.drop pos)).1,pos,(Qm (s.data.toList.drop pos)).2)])++Q1S (l.drop (pos+(Utf8.decode s pos).2)).length (pos+(Utf8.decode s pos).2) (l.drop (pos+(Utf8.decode s pos).2))):=by
    have hne:l.drop pos≠[]:=by
     intro h0
     have:=congrArg List.length h0
     simp at this
     have:=HSZ.out
     omega
    rw[Hid,HS2.out,Q5y pos _ hne,List.drop_drop,HSL.out,←HSL.out,HFD.out]
    simp
   generalize hd2:(Utf8.decode s pos).2=dw at hnx HI2 HFD hdw HMS HST hW2
   generalize Qm (s.data.toList.drop pos)=p at HP HFD HST hfr
   generalize (Utf8.decode s pos).1=dr at hnx HP
   clear hW2 hd2
   go_wp2_with fail
   refine HP.out.mono ?_
   rintro e w3 ⟨rfl,rfl⟩
   go_wp2_with (first
    |(at_builtin
      refine QbS _ rfl (.tmp 24) (.tmp 29) rfl (w.heap.size+1) _ _ (Q1l o) rfl (HO2.out.alloc _) _ _ 1 1 (Q1l [(p.1,pos,p.2)]) rfl (Rd.lit w2 _ #[.int .i32 p.1,.int .i64 pos,.int .i64 p.2] 3 1 rfl (by decide)) (Q6Q _) (by omega) (by have:=HI2.out.lt;simp;omega) ?_
      intro A4 c4 w4 hown4 hg4 _ _
      have HI4:=Lib.hid ((HI2.out.alloc (.cells #[.int .i32 p.1,.int .i64 pos,.int .i64 p.2] 84)).grown hg4 (fun g hg=>(HO2.out.lt g hg).1))
      have HO4:=Lib.hid hown4
      clear hown4 hg4))
   go_roundw
   case rel =>
    refine⟨pos+dw,_,HI4.out,HST.out,?_,⟨_,by rw[Q5j];exact HO4.out⟩,HMS.out⟩
    simp;omega
   case measure =>
    simp[World.iterPos,HI4.out.blk,HI.out.blk]
    omega
  ·have hnx:∀ ty,(Instr.next (.pointer (some ⟨w.heap.size,0,none⟩)) true ty).run prog wr=_:=fun ty=>Qai HI.out ty hlt
   have HE:Hid (Q4L l=o):=by
    have:l.drop pos=[]:=List.drop_eq_nil_of_le (by have:=HSZ.out;omega)
    rw[Hid,HS2.out,this,Q2p,List.append_nil]
   go_wp2
   go_ret
   exact⟨_,rfl,⟨_,by rw[HE.out];exact QhQ HO.out (by omega)⟩,HI.out.below⟩
def BytesV (w:World)(v:Value)(l:List UInt8):Prop:=∃ A n c,v=.slice A n c∧Rd w (fun _=>True) 1 A n c (bc l)
theorem BytesV.of_own {w:World}{base:Nat}{e:TypeId}{v:Value}{n:Nat}{l:List UInt8}(h:w.ownsRow base e 1 v n (bc l)):BytesV w v l:=by
 obtain⟨A,c,rfl,hr⟩:=Q47 h
 exact⟨A,n,c,rfl,hr.more fun _ _=>trivial⟩
theorem BytesV.of_rd {w:World}{S:Nat→Prop}{A:Option Addr}{n c:Nat}{l:List UInt8}(h:Rd w S 1 A n c (bc l)):BytesV w (.slice A n c) l:=⟨A,n,c,rfl,h.more fun _ _=>trivial⟩
theorem BytesV.below {w w':World}{v:Value}{l:List UInt8}(h:BytesV w v l)(hb:Below w.heap.size w w'):BytesV w' v l:=by
 obtain⟨A,n,c,rfl,hr⟩:=h
 exact⟨A,n,c,rfl,hr.below hb⟩
def Q4d (r:Int):List UInt8:=if Qw r=0 then [] else encodeRune r
theorem Qd0 (r:Int)(h:0<Qw r)(zs:List Int)(hz:encodeRuneZ r=zs):bc (Q4d r)=zs.map (Value.int .u8):=by
 rw[Q4d,if_neg (by omega),encodeRune,hz,bc,List.map_map]
 apply List.map_congr_left
 intro x hx
 have:=encodeRuneZ_byte r x (by rw[hz];exact hx)
 simp only[Function.comp]
 rw[Q2y x (by omega),Int.toNat_of_nonneg this.1]
theorem Q6K (w:World)(t:TypeId)(cs:Array Value)(l:List UInt8)(n:Nat)(hn:cs.size=n)(hm:n≤maxLen)(h:bc l=cs.toList) :
  BytesV (w.alloc (.cells cs t)) (.slice (some ⟨w.heap.size,0,none⟩) n n) l:=by
 have hr:=Rd.lit w t cs 1 n (by omega) hm
 rw[←h] at hr
 exact⟨_,_,_,rfl,hr.more fun _ _=>trivial⟩
theorem Qjp (r:Int)(w:World)(hlo:-2147483648≤r)(hhi:r≤2147483647):Calls prog 108 #[.int .i32 r] w fun e w'=>∃ v,e=.returned v∧BytesV w' v (Q4d r)∧Below w.heap.size w w':=by
 have HW:=Lib.hid (QdY r w)
 by_cases h0:Qw r=0
 ·have HR:Hid (Q4d r=[]):=by rw[Hid,Q4d,if_pos h0]
  rw[h0] at HW
  clear h0
  go_enter func108,ntmps108
  go_wp2_with fail
  refine HW.out.mono ?_
  rintro e w' ⟨rfl,rfl⟩
  go_wp2
  go_ret
  exact⟨_,rfl,by rw[HR.out];exact⟨none,0,0,rfl,Rd.none_⟩,Below.refl _ _⟩
 ·have hpos:0<Qw r:=by omega
  have hc:=Qd0 r hpos
  have hr:0≤r∧r≤1114111:=by unfold Qw at h0;split at h0<;>omega
  by_cases h1:r<128
  ·have e1:Qw r=1:=by unfold Qw at h0 ⊢;repeat' split at h0
                      all_goals (repeat' split)<;>omega
   have HC:=Lib.hid (hc _ (encodeRuneZ_one hr.1 (by omega)))
   rw[e1] at HW
   clear hc h0 hpos e1
   obtain⟨hr1,hr2⟩:=hr
   go_enter func108,ntmps108
   go_wp2_with fail
   refine HW.out.mono ?_
   rintro e w' ⟨rfl,rfl⟩
   go_wp2
   go_ret
   exact⟨_,rfl,Q6K _ _ _ _ _ rfl (by decide) HC.out,(Below.refl _ _).alloc (Nat.le_refl _) _⟩
  ·by_cases h2:r<2048
   ·have e1:Qw r=2:=by unfold Qw at h0 ⊢;repeat' split at h0
                       all_goals (repeat' split)<;>omega
    have HC:=Lib.hid (hc _ (encodeRuneZ_two (by omega) (by omega)))
    rw[e1] at HW
    clear hc h0 hpos e1
    obtain⟨hr1,hr2⟩:=hr
    go_enter func108,ntmps108
    go_wp2_with fail
    refine HW.out.mono ?_
    rintro e w' ⟨rfl,rfl⟩
    go_wp2
    go_ret
    exact⟨_,rfl,Q6K _ _ _ _ _ rfl (by decide) HC.out,(Below.refl _ _).alloc (Nat.le_refl _) _⟩
   ·by_cases h3:r<65536
    ·have e1:Qw r=3:=by unfold Qw at h0 ⊢;repeat' split at h0
                        all_goals (repeat' split)<;>omega
     have h5:¬ (55296≤r∧r≤57343):=by unfold Qw at h0;split at h0<;>omega
     have HC:=Lib.hid (hc _ (encodeRuneZ_three (by omega)))
     rw[e1] at HW
     clear hc h0 hpos e1 h5
     obtain⟨hr1,hr2⟩:=hr
     go_enter func108,ntmps108
     go_wp2_with fail
     refine HW.out.mono ?_
     rintro e w' ⟨rfl,rfl⟩
     go_wp2
     go_ret
     exact⟨_,rfl,Q6K _ _ _ _ _ rfl (by decide) HC.out,(Below.refl _ _).alloc (Nat.le_refl _) _⟩
    ·have e1:Qw r=4:=by unfold Qw at h0 ⊢;repeat' split at h0
                        all_goals (repeat' split)<;>omega
     have HC:=Lib.hid (hc _ (encodeRuneZ_four (by omega) (by omega)))
     rw[e1] at HW
     clear hc h0 hpos e1
     obtain⟨hr1,hr2⟩:=hr
     go_enter func108,ntmps108
     go_wp2_with fail
     refine HW.out.mono ?_
     rintro e w' ⟨rfl,rfl⟩
     go_wp2
     go_ret
     exact⟨_,rfl,Q6K _ _ _ _ _ rfl (by decide) HC.out,(Below.refl _ _).alloc (Nat.le_refl _) _⟩
def Q4P:Nat→Int
 |2=>192
 |3=>224
 |4=>240
 |_=>0
def Q3A (l:List UInt8)(i:Nat):Int:=(l.getD i 0).toNat
def vp (l:List UInt8)(n:Nat):Nat→Int
 |0=>Q3A l 0-Q4P n
 |j+1=>64 * vp l n j+Q3A l (j+1)-128
def hit (l:List UInt8)(n:Nat):Prop:=0≤vp l n (n-1)∧vp l n (n-1)≤1114111∧Q4d (vp l n (n-1))=l.take n
theorem Q2W (l:List UInt8)(i:Nat):0≤Q3A l i∧Q3A l i<256:=by
 unfold Q3A;have:=(l.getD i 0).toNat_lt;omega
theorem Qj4 (l:List UInt8)(n j:Nat)(hj:j≤3):-1000000000≤vp l n j∧vp l n j≤1000000000:=by
 have h0:=Q2W l 0
 have h1:=Q2W l 1
 have h2:=Q2W l 2
 have h3:=Q2W l 3
 have hl:0≤Q4P n∧Q4P n≤240:=by unfold Q4P;split<;>omega
 match j,hj with
 |0,_=>simp only[vp];omega
 |1,_=>simp only[vp,Nat.zero_add];omega
 |2,_=>simp only[vp,Nat.zero_add,Nat.reduceAdd];omega
 |3,_=>simp only[vp,Nat.zero_add,Nat.reduceAdd];omega
theorem Qg5 (l:List UInt8)(n:Nat)(h1:1≤n)(hn:n≤l.length)(h:hit l n):Qm l=(vp l n (n-1),n):=by
 obtain⟨_,_,h⟩:=h
 generalize vp l n (n-1)=v at h ⊢
 have hlen:=congrArg List.length h
 rw[List.length_take,Nat.min_eq_left hn] at hlen
 have hw:0<Qw v:=by
  rcases Nat.eq_zero_or_pos (Qw v) with h0|h0
  ·rw[Q4d,if_pos h0] at hlen
   simp at hlen
   omega
  ·exact h0
 rw[Q4d,if_neg (by omega)] at h hlen
 rw[Q5r v hw] at hlen
 have:l=encodeRune v++l.drop n:=by rw[h,List.take_append_drop]
 rw[this,Q3P v hw,hlen]
theorem QaO (l:List UInt8)(n i:Nat)(h:i<n):l.getD i 0=(l.take n).getD i 0:=by simp[List.getD,h]
theorem Qeq (l:List UInt8)(hne:l≠[])(h:∀ n,1≤n→n≤4→n≤l.length→¬ hit l n):Qm l=(-1,1):=by
 by_cases hb:(Qm l).1=-1
 ·have hd:=hb
  unfold Qm at hd ⊢
  split at hd
  ·rename_i h1;rw[if_pos h1]
  ·exfalso;simp only at hd;omega
 ·exfalso
  have hg:=Q4R l hne hb
  have hle:=Q5w l hne
  have hpos:=Q4C l
  have hr:=Q4f l
  have hd:(Qm l).1=((decodeL l).1:Int):=by
   unfold Qm at hb ⊢
   split
   ·rename_i h1;rw[if_pos h1] at hb;exact absurd rfl hb
   ·rfl
  generalize hv:(Qm l).1=v at hb hg hr hd
  generalize (Qm l).2=n at hg hle hpos
  have hlen:=congrArg List.length hg
  rw[List.length_take,Nat.min_eq_left hle] at hlen
  have hsur:¬ (55296≤v∧v≤57343):=by
   intro hs
   have h1:v=((decodeL l).1:Int):=hd
   have h2:=decodeL_N l
   rcases decodeN_shape l.length (l.getD 0 0).toNat (l.getD 1 0).toNat (l.getD 2 0).toNat (l.getD 3 0).toNat with ⟨c,e⟩|⟨c1,c2,c3,cv,e⟩|⟨c1,c2,c3,c4,cv,cs,e⟩|⟨c1,c2,c3,c4,c5,cv,cw,e⟩|e
   all_goals (rw[e] at h2;rw[h2] at h1;dsimp only at h1;omega)
  have hw:0<Qw v:=by unfold Qw;rw[if_neg (by omega)];repeat' split
                     all_goals omega
  have hrf:Q4d v=encodeRune v:=by rw[Q4d,if_neg (by omega)]
  have hn4:n=Qw v:=by rw[hlen,Q5r v hw]
  have hb0:=QaO l n 0 (by omega)
  have hvp:vp l n (n-1)=v:=by
   have key:∀ i,i<n→Q3A l i=(encodeRuneZ v).getD i 0:=by
    intro i hi
    unfold Q3A
    rw[QaO l n i hi,hg,encodeRune]
    have hil:i<(encodeRuneZ v).length:=by
     have:=Q5r v hw
     rw[encodeRune,List.length_map] at this
     omega
    have hz:=encodeRuneZ_byte v (encodeRuneZ v)[i] (List.getElem_mem hil)
    simp only[List.getD,List.getElem?_map,List.getElem?_eq_getElem hil,Option.map_some,Option.getD_some]
    rw[Q2y _ (by omega),Int.toNat_of_nonneg hz.1]
   rw[hn4] at key ⊢
   unfold Qw at hw key ⊢
   rw[if_neg (by omega)] at key ⊢
   by_cases h1:v<128
   ·rw[if_pos h1] at key ⊢
    have k0:=key 0 (by omega)
    rw[encodeRuneZ_one (by omega) (by omega)] at k0
    show vp l 1 0=v
    simp only[vp,Q4P,k0]
    simp
   ·rw[if_neg h1] at key ⊢
    by_cases h2:v<2048
    ·rw[if_pos h2] at key ⊢
     have k0:=key 0 (by omega)
     have k1:=key 1 (by omega)
     rw[encodeRuneZ_two (by omega) (by omega)] at k0 k1
     show vp l 2 1=v
     simp only[vp,Q4P,Nat.zero_add,k0,k1,List.getD_cons_zero,List.getD_cons_succ]
     omega
    ·rw[if_neg h2] at key ⊢
     by_cases h3:v<65536
     ·rw[if_pos h3] at key ⊢
      have k0:=key 0 (by omega)
      have k1:=key 1 (by omega)
      have k2:=key 2 (by omega)
      rw[encodeRuneZ_three (by omega)] at k0 k1 k2
      show vp l 3 2=v
      simp only[vp,Q4P,Nat.zero_add,Nat.reduceAdd,k0,k1,k2,List.getD_cons_zero,List.getD_cons_succ]
      omega
     ·rw[if_neg h3] at key ⊢
      have k0:=key 0 (by omega)
      have k1:=key 1 (by omega)
      have k2:=key 2 (by omega)
      have k3:=key 3 (by omega)
      rw[encodeRuneZ_four (by omega) (by omega)] at k0 k1 k2 k3
      show vp l 4 3=v
      simp only[vp,Q4P,Nat.zero_add,Nat.reduceAdd,k0,k1,k2,k3,List.getD_cons_zero,List.getD_cons_succ]
      omega
  refine h n hpos ?_ hle ⟨by rw[hvp];omega,by rw[hvp];omega,by rw[hvp,hrf,hg]⟩
  rw[hn4];unfold Qw;repeat' split
  all_goals omega
theorem Qhe (S:Nat→Prop)(A:Option Addr)(n c:Nat)(l:List UInt8)(w:World)(hr:Rd w S 1 A n c (bc l))(hlen:l.length≤1000000000) :
  Calls prog 82 #[.slice A n c] w fun e w' =>
   e=.returned (.tuple #[.int .i32 (if l=[] then 0 else (Qm l).1),.int .i64 (if l=[] then (0:Nat) else (Qm l).2:Nat)])∧Below w.heap.size w w':=by
 obtain rfl:=QbX hr
 have hle:=hr.le
 have hmx:c≤9223372036854775807:=hr.max
 cases hl:l with
 |nil =>
  subst hl
  go_enter func82,ntmps82
  go_wp2
  go_ret2
  exact⟨rfl,Below.refl _ _⟩
 |cons b0 t0 =>
  rw[←hl,if_neg (by rw[hl];simp),if_neg (by rw[hl];simp)]
  have hpos:0<l.length:=by rw[hl];simp
  have hd0:((l.length:Int) == 0)=false:=by rw[beq_eq_false_iff_ne];omega
  have hd1:(l.length == 0)=false:=by rw[beq_eq_false_iff_ne];omega
  clear hl b0 t0
  have HR:=Lib.hid hr
  clear hr
  go_enter func82,ntmps82
  go_wp2
  have HC:Hid (∀ j,j≤4→(w.alloc (.cells #[.int .i64 0,.int .i64 0,.int .i64 192,.int .i64 224,.int .i64 240] 3)).cell? ⟨w.heap.size,j,none⟩=some (.int .i64 (Q4P j))):=by
   intro j hj
   rw[World.cell?_alloc_at _ _ _ _ rfl]
   match j,hj with
   |0,_=>rfl
   |1,_=>rfl
   |2,_=>rfl
   |3,_=>rfl
   |4,_=>rfl
  have HR0:=Lib.hid (HR.out.alloc (.cells #[.int .i64 0,.int .i64 0,.int .i64 192,.int .i64 224,.int .i64 240] 3))
  have HB0:Hid (Below w.heap.size w (w.alloc (.cells #[.int .i64 0,.int .i64 0,.int .i64 192,.int .i64 224,.int .i64 240] 3))):=(Below.refl _ _).alloc (Nat.le_refl _) _
  have hsz:(w.alloc (.cells #[.int .i64 0,.int .i64 0,.int .i64 192,.int .i64 224,.int .i64 240] 3)).heap.size=w.heap.size+1:=by simp
  generalize w.alloc (.cells #[.int .i64 0,.int .i64 0,.int .i64 192,.int .i64 224,.int .i64 240] 3)=W0 at HC HR0 HB0 hsz
  have HSZ:=Lib.hid hsz
  clear hsz
  go_loopw [5] (fun i wr=>∃ k:Nat,1≤k∧k≤5∧k≤l.length+1∧i=.int .i64 k∧Hid (∀ m,1≤m→m<k→¬ hit l m)∧Hid (Below W0.heap.size W0 wr)) (fun i _=>5-(intOf i).toNat)
  case atStart=>exact⟨1,by omega,by omega,by omega,rfl,fun m h1 h2=>absurd h1 (by omega),Below.refl _ _⟩
  case round =>
   obtain⟨k,hk1,hk5,hkl,rfl,HN,HB⟩:=hrel
   by_cases hin:k≤4∧k≤l.length
   ·obtain⟨h4,hkl2⟩:=hin
    obtain⟨b,o,u,rfl,_,hu,hc0⟩:=(HR0.out.below HB.out).one hpos
    obtain⟨hp0,rfl⟩:=QiJ hu
    clear hu
    have hc0':wr.cell? ⟨b,o,none⟩=some (.int .u8 (Q3A l 0)):=by
     rw[Nat.add_zero] at hc0;rw[hc0];simp[Q3A,List.getD,hp0]
    clear hc0
    have hlead:wr.cell? ⟨w.heap.size,k,none⟩=some (.int .i64 (Q4P k)):=(HB.out.cell (p:=⟨w.heap.size,k,none⟩) (by show w.heap.size<W0.heap.size;have:=HSZ.out;omega)).trans (HC.out k h4)
    have hb0:=Q2W l 0
    have hll:0≤Q4P k∧Q4P k≤240:=by unfold Q4P;split<;>omega
    have HV0:Hid (vp l k 0=Q3A l 0-Q4P k):=rfl
    go_wp2
    go_quiet (fail)
    go_wp2
    have HB1:=Lib.hid (Q1y HB.out nq)
    generalize wr.drewN nq=w1 at HB1
    clear hc0' hlead
    go_loop [6,7] (fun v i=>∃ j:Nat,j+1≤k∧i=.int .i64 ((j:Int)+1)∧v=.int .i64 (vp l k j)) (fun _ i=>k-(intOf i).toNat)
    case atStart=>exact⟨0,hk1,rfl,by rw[HV0.out]⟩
    case round =>
     obtain⟨j,hj,rfl,rfl⟩:=hrel
     have hvr:=Qj4 l k j (by omega)
     by_cases hjk:j+1<k
     ·obtain⟨b2,o2,u,hA,_,hu,hc1⟩:=(HR0.out.below HB1.out).one (k:=j+1) (by omega)
      injection hA with hA
      injection hA with e1 e2
      subst e1 e2
      obtain⟨hp1,rfl⟩:=QiJ hu
      clear hu
      have hc1':w1.cell? ⟨b,o+(j+1),none⟩=some (.int .u8 (Q3A l (j+1))):=by
       rw[hc1];simp[Q3A,List.getD,hp1]
      have hb1:=Q2W l (j+1)
      have hjk':(j:Int)+1<(k:Int):=by omega
      have hjl:(j:Int)+1<(l.length:Int):=by omega
      have HV1:Hid (vp l k (j+1)=64 * vp l k j+Q3A l (j+1)-128):=rfl
      clear hc1
      generalize vp l k j=v at hvr HV1 ⊢
      generalize Q3A l (j+1)=b1 at hc1' hb1 HV1
      go_wp2
      go_round
      case rel=>exact⟨j+1,by omega,by go_num,by rw[HV1.out]⟩
      case measure=>simp[intOf];omega
     ·have hjk':¬ (j:Int)+1<(k:Int):=by omega
      have ej:j=k-1:=by omega
      subst ej
      generalize hv:vp l k (k-1)=v at hvr ⊢
      have HV:=Lib.hid hv
      clear hv
      by_cases hv0:0≤v∧v≤1114111
      ·obtain⟨hv1,hv2⟩:=hv0
       have hv3:decide (0≤v)=true:=by simpa using hv1
       have hv4:decide (v≤1114111)=true:=by simpa using hv2
       have HT:=Lib.hid ((HR0.out.below HB1.out).take (k:=k) (by omega))
       have htk:(bc l).take (k * 1)=bc (l.take k):=by rw[Nat.mul_one,bc,bc,List.map_take]
       rw[htk] at HT
       clear htk
       have hcb:∀ W,Below w1.heap.size w1 W→(convert 22 9 (.slice (some ⟨b,o,none⟩) k c)).run prog W=.ok (.string ⟨(l.take k).toArray⟩) W:=fun W hW =>
        Q2Z (HT.out.below hW) 22 9 5 underlying22 underlying5 underlying9
       have hcb1:=hcb w1.drew ((Below.refl _ w1).drew)
       have HCB:=Lib.hid hcb
       generalize htl:l.take k=tl at hcb1 HCB
       have HTL:=Lib.hid htl
       clear htl hcb
       go_wp2
       refine Q9c [(0,true),(1,true),(2,true),(3,true),(4,true),(5,true),(6,true),(7,true),(8,true),(11,true),(12,true),(13,true),(14,true),(9,false),(10,true),(15,true),(16,true)] (by kernel_rfl) (by kernel_rfl) (fun _ _ _ _ _ h=>h) ?_
       intro wd HLE
       have hcbd:∀ W,LeB wd W→(convert 22 9 (.slice (some ⟨b,o,none⟩) k c)).run prog W=.ok (.string ⟨tl.toArray⟩) W:=fun W hW=>HCB.out W (LeB.trans _ _ _ HLE.out hW)
       have hkc:k≤c:=by omega
       repeat (refine Q8n rfl (fun K hK=>?_);go_simp;first|(refine hK.out _ ?_;clear hK K)|(apply Exists.intro;refine⟨fun W hW=>?_,hK.out _ ?_⟩;(first|rfl|(rw[hcbd W hW];rfl));clear hK K))
       have hwr:IntKind.i32.wrap v=v:=IntWalk.i32_in v (by omega)
       refine QdX rfl (fun K W HLW hK=>?_) LeB.refl
       go_simp
       refine (Qjp v _ (by omega) (by omega)).mono ?_
       rintro e w2 ⟨v2,rfl,⟨A2,n2,c2,rfl,hr2⟩,hb2⟩
       go_simp
       refine hK.out _ _ hb2 ?_
       clear hK K
       have hcr:∀ W,LeB w2 W→(convert 22 9 (.slice A2 n2 c2)).run prog W=_:=fun W hW =>
        Q2Z (hr2.below hW) 22 9 5 underlying22 underlying5 underlying9
       repeat (refine Q8n rfl (fun K hK=>?_);go_simp;first|(refine hK.out _ ?_;clear hK K)|(apply Exists.intro;refine⟨fun W hW=>?_,hK.out _ ?_⟩;(first|rfl|(rw[hcr W hW];rfl));clear hK K))
       refine QgD (fun W2 hW2=>?_)
       have HBX:=Lib.hid (Below.trans HB0.out ((HB1.out.trans (Below.mono HLE.out HB1.out.size) |>.trans (Below.mono HLW.out (Nat.le_trans HB1.out.size HLE.out.size)) |>.trans (Below.mono hb2 (Nat.le_trans HB1.out.size (Nat.le_trans HLE.out.size HLW.out.size))) |>.trans (Below.mono hW2 (Nat.le_trans HB1.out.size (Nat.le_trans HLE.out.size (Nat.le_trans HLW.out.size hb2.size))))).mono HB0.out.size))
       have HBY:=Lib.hid (HB1.out.trans (Below.mono HLE.out HB1.out.size) |>.trans (Below.mono HLW.out (Nat.le_trans HB1.out.size HLE.out.size)) |>.trans (Below.mono hb2 (Nat.le_trans HB1.out.size (Nat.le_trans HLE.out.size HLW.out.size))) |>.trans (Below.mono hW2 (Nat.le_trans HB1.out.size (Nat.le_trans HLE.out.size (Nat.le_trans HLW.out.size hb2.size)))))
       clear hcr hb2 hW2 HLW HLE hr2
       go_wp2
       ·rename_i heqb
        have heq:Q4d v=tl:=by simpa using heqb
        have hh:hit l k:=⟨by rw[HV.out];exact hv1,by rw[HV.out];exact hv2,by rw[HV.out,heq,HTL.out]⟩
        have hf:=Qg5 l k hk1 hkl2 hh
        rw[HV.out] at hf
        go_ret2
        exact⟨by first|rfl|(rw[hf];rfl),HBX.out⟩
       ·rename_i heqb
        have heq:¬ Q4d v=tl:=by simpa using heqb
        refine⟨⟨k+1,by omega,by omega,by omega,by go_num,?_,HBY.out⟩,by simp[intOf];omega⟩
        intro m h1 h2 hm
        by_cases hmk:m=k
        ·subst hmk
         obtain⟨_,_,h3⟩:=hm
         rw[HV.out,HTL.out] at h3
         exact heq h3
        ·exact HN.out m h1 (by omega) hm
      ·have hnh:¬ hit l k:=fun hm=>hv0 ⟨by rw[←HV.out];exact hm.1,by rw[←HV.out];exact hm.2.1⟩
       have fin:∀ (n:Nat),Hid (Below W0.heap.size W0 (w1.drewN n)):=fun n=>Q1y HB1.out n
       by_cases hv1:0≤v
       ·have hv2:¬ v≤1114111:=fun h=>hv0 ⟨hv1,h⟩
        have hv3:decide (0≤v)=true:=by simpa using hv1
        have hv4:decide (v≤1114111)=false:=by simpa using hv2
        go_wp2
        go_quiet (fail)
        go_wp2
        have HBY:=fin nq
        generalize w1.drewN nq=W2 at HBY
        go_round
        case rel =>
         refine⟨k+1,by omega,by omega,by omega,by go_num,?_,HBY.out⟩
         intro m h1 h2 hm
         by_cases hmk:m=k
         ·subst hmk;exact hnh hm
         ·exact HN.out m h1 (by omega) hm
        case measure=>simp[intOf];omega
       ·have hv3:decide (0≤v)=false:=by simpa using hv1
        go_wp2
        go_quiet (fail)
        go_wp2
        have HBY:=fin nq
        generalize w1.drewN nq=W2 at HBY
        go_round
        case rel =>
         refine⟨k+1,by omega,by omega,by omega,by go_num,?_,HBY.out⟩
         intro m h1 h2 hm
         by_cases hmk:m=k
         ·subst hmk;exact hnh hm
         ·exact HN.out m h1 (by omega) hm
        case measure=>simp[intOf];omega
   ·have hmiss:Qm l=(-1,1):=Qeq l (by intro h;rw[h] at hpos;exact absurd hpos (by simp)) fun n h1 h4 hl hh=>HN.out n h1 (by omega) hh
    have HBX:=Lib.hid (HB0.out.trans (HB.out.mono HB0.out.size))
    by_cases h4:k≤4
    ·have h5:¬ k≤l.length:=fun h=>hin ⟨h4,h⟩
     go_wp2
     go_ret2
     exact⟨by first|rfl|(rw[hmiss];rfl),HBX.out⟩
    ·go_wp2
     go_ret2
     exact⟨by first|rfl|(rw[hmiss];rfl),HBX.out⟩
theorem Qec (S:Nat→Prop)(A:Option Addr)(n c:Nat)(l:List UInt8)(w:World)(hr:Rd w S 1 A n c (bc l))(hlen:l.length≤300000000) :
  Calls prog 62 #[.slice A n c] w fun e w'=>∃ v,e=.returned v∧(∃ n',w'.ownsRow w.heap.size 101 3 v n' (Q1l (Q4L l)))∧Below w.heap.size w w':=by
 obtain rfl:=QbX hr
 have hle:=hr.le
 have hmx:c≤9223372036854775807:=hr.max
 have HR:=Lib.hid hr
 clear hr
 go_enter func62,ntmps62
 go_wp2
 go_loopw [3,4] (fun v i wr=>∃ (pos:Nat) (o:List (Int×Nat×Nat)),i=.int .i64 pos∧Hid (Below w.heap.size w wr)∧Hid (Q4L l=o++Q1S (l.drop pos).length pos (l.drop pos))∧o.length≤pos ∧
   Hid (∃ n',wr.ownsRow w.heap.size 101 3 v n' (Q1l o))∧pos≤l.length)
  (fun _ i _=>l.length-(intOf i).toNat)
 case atStart=>exact⟨0,[],rfl,Below.refl _ _,by simp[Hid,Q4L],Nat.le_refl _,⟨0,World.ownsRow_nil _ _ _ _⟩,Nat.zero_le _⟩
 case round =>
  obtain⟨pos,o,rfl,HB,HS2,hol,HO,hpos⟩:=hrel
  obtain⟨no,HO⟩:=HO.out
  have hno:no=o.length:=by have:=HO.1;rw[Q3T] at this;omega
  obtain⟨Ao,co,rfl,hro⟩:=Q47 HO
  have hco:co≤9223372036854775807:=hro.max
  have HO:=Lib.hid HO
  have hnob:no≤300000000:=by omega
  have HNO:=Lib.hid hno
  clear hro hno
  by_cases hlt:pos<l.length
  ·have hdl:(l.drop pos).length=l.length-pos:=List.length_drop
   obtain⟨A',hcut,hsl⟩:=(HR.out.below HB.out).cutL underlying22 (fun _=>by simp[go_sem]) (P:=prog) (k:=pos) (by omega)
   rw[Nat.mul_one,←List.map_drop] at hcut
   have hne:l.drop pos≠[]:=by
    intro h0
    rw[h0] at hdl
    simp at hdl
    omega
   have HF:=Lib.hid (Qhe S A' (l.length-pos) (c-pos) (l.drop pos) wr hcut (by omega))
   have hfl:=Q5w _ hne
   have hfp:=Q4C (l.drop pos)
   have hfr:=Q4f (l.drop pos)
   have HST:Hid (Q4L l=(o++[((Qm (l.drop pos)).1,pos,(Qm (l.drop pos)).2)])++Q1S (l.drop (pos+(Qm (l.drop pos)).2)).length (pos+(Qm (l.drop pos)).2) (l.drop (pos+(Qm (l.drop pos)).2))):=by
    rw[Hid,HS2.out,Q5y pos _ hne,List.drop_drop]
    simp
   rw[if_neg hne,if_neg hne] at HF
   generalize Qm (l.drop pos)=p at HF hfl hfp HST hfr
   clear hcut
   go_wp2_with fail
   refine HF.out.mono ?_
   rintro e w2 ⟨rfl,hb2⟩
   have HB2:=Lib.hid (HB.out.trans (hb2.mono HB.out.size))
   have HO2:=Lib.hid (Qgt HO.out hb2)
   clear hb2
   go_wp2_with (first
    |(at_builtin
      refine Qao _ rfl (.tmp 18) (.tmp 23) rfl w.heap.size _ _ (Q1l o) rfl (HO2.out.alloc _) _ _ 1 1 (Q1l [(p.1,pos,p.2)]) rfl (Rd.lit w2 _ #[.int .i32 p.1,.int .i64 pos,.int .i64 p.2] 3 1 rfl (by decide)) (Q6Q _) (by omega) (by have:=HB2.out.size;simp;omega) ?_
      intro A4 c4 w4 hown4 hg4 _ _
      have hb4:=QaM (HB2.out.alloc HB2.out.size (.cells #[.int .i32 p.1,.int .i64 pos,.int .i64 p.2] 101)) (by have:=HB2.out.size;simp;omega) (HO2.out.alloc _) hg4
      have HB4:=Lib.hid hb4
      have HO4:=Lib.hid hown4
      clear hown4 hg4 hb4))
   go_roundw
   case rel =>
    refine⟨pos+p.2,_,by go_num,HB4.out,HST.out,?_,⟨_,by rw[Q5j];exact HO4.out⟩,by omega⟩
    simp;omega
   case measure=>simp[intOf];omega
  ·have HE:Hid (Q4L l=o):=by
    have:l.drop pos=[]:=List.drop_eq_nil_of_le (by omega)
    rw[Hid,HS2.out,this,Q2p,List.append_nil]
   go_wp2
   go_ret
   exact⟨_,rfl,⟨_,by rw[HE.out];exact HO.out⟩,HB.out⟩
end Go.Proofs.YthbjpdijafccjaaGreat
namespace Go.Proofs.YthbjpdijafccjaaGreat
open Go.RowKit
def RunesV (w:World)(v:Value)(l:List Int):Prop:=∃ A n c,v=.slice A n c∧Rd w (fun _=>True) 1 A n c (rc l)
theorem RunesV.of_own {w:World}{base:Nat}{e:TypeId}{v:Value}{n:Nat}{l:List Int}(h:w.ownsRow base e 1 v n (rc l)):RunesV w v l:=by
 obtain⟨A,c,rfl,hr⟩:=Q47 h
 exact⟨A,n,c,rfl,hr.more fun _ _=>trivial⟩
theorem RunesV.of_rd {w:World}{S:Nat→Prop}{A:Option Addr}{n c:Nat}{l:List Int}(h:Rd w S 1 A n c (rc l)):RunesV w (.slice A n c) l:=⟨A,n,c,rfl,h.more fun _ _=>trivial⟩
theorem RunesV.below {w w':World}{v:Value}{l:List Int}(h:RunesV w v l)(hb:Below w.heap.size w w'):RunesV w' v l:=by
 obtain⟨A,n,c,rfl,hr⟩:=h
 exact⟨A,n,c,rfl,hr.below hb⟩
theorem RunesV.alloc {w:World}{v:Value}{l:List Int}(h:RunesV w v l)(o:Obj):RunesV (w.alloc o) v l:=by
 obtain⟨A,n,c,rfl,hr⟩:=h
 exact⟨A,n,c,rfl,hr.alloc o⟩
structure RowsV (w:World) (A:Option Addr) (n c:Nat) (ls:List (List Int)) (vs:List Value):Prop where
 rd:Rd w (fun _=>True) 1 A n c vs
 len:vs.length=ls.length
 each:∀ (i:Nat) (v:Value) (l:List Int),vs[i]?=some v→ls[i]?=some l→RunesV w v l
theorem RowsV.below {w w':World}{A:Option Addr}{n c:Nat}{ls:List (List Int)}{vs:List Value}(h:RowsV w A n c ls vs)(hb:Below w.heap.size w w'):RowsV w' A n c ls vs :=
 ⟨h.rd.below hb,h.len,fun i v l h1 h2=>(h.each i v l h1 h2).below hb⟩
end Go.Proofs.YthbjpdijafccjaaGreat
namespace Go.Proofs.YthbjpdijafccjaaGreat
open Go.RowKit Go.Lib
end Go.Proofs.YthbjpdijafccjaaGreat
namespace Go.Proofs.YthbjpdijafccjaaGreat
open Go.RowKit Tryz
def Qc (r:Int):Bool:=r == 32||r == 9||r == 10||r == 13
theorem Qgo (r:Int)(w:World):Calls prog 128 #[.int .i32 r] w fun e w'=>e=.returned (.bool (Qc r))∧w=w':=by
 go_enter func128,ntmps128
 go_wp2
 all_goals (go_ret;exact⟨Q14 (by simp[Qc, *]),rfl⟩)
theorem Qm4 (fn:Fn)(a b:Array Value)(w:World):(binOp .eql 153 (.func fn a b) .nilFunc).run prog w=.ok (.bool false) w:=by kernel_rfl
def Q2Q (p:Int→Bool)(l:List Int):Int→Nat:=fun from_=>if from_<0∨(l.length:Int)<from_ then 0 else ((l.drop from_.toNat).takeWhile p).length
theorem QbU {p:Int→Bool}(l:List Int)(k:Nat)(hk:k<l.length)(hp:p l[k]=false)(h:∀ j,(hj:j<k)→p (l[j]'(by omega))=true):(l.takeWhile p).length=k:=by
 induction l generalizing k with
 |nil=>simp at hk
 |cons a t ih =>
  cases k with
  |zero=>simp at hp;simp[hp]
  |succ k =>
   have h0:p a=true:=h 0 (by omega)
   simp only[List.takeWhile_cons,h0,if_true,List.length_cons]
   rw[ih k (by simpa using hk) (by simpa using hp) (fun j hj=>by have:=h (j+1) (by omega);simpa using this)]
theorem Qak {p:Int→Bool}(l:List Int)(h:∀ j,(hj:j<l.length)→p l[j]=true):(l.takeWhile p).length=l.length:=by
 induction l with
 |nil=>rfl
 |cons a t ih =>
  have h0:p a=true:=h 0 (by simp)
  simp only[List.takeWhile_cons,h0,if_true,List.length_cons]
  rw[ih (fun j hj=>by have:=h (j+1) (by simp;omega);simpa using this)]
theorem Q7C (S:Nat→Prop)(A:Option Addr)(n c:Nat)(l:List Int)(from_:Int)(g:Nat)(caps:Array Value)(p:Int→Bool)(w:World)
  (eg:∀ args w,(callFunc g args).run prog w=.ok (.enter g args) w)
  (hr:Rd w S 1 A n c (rc l)) (hp:Q7f prog g caps p w) :
  Calls prog 75 #[.slice A n c,.int .i64 from_,.func (.func g) #[] caps] w fun e w'=>e=.returned (.int .i64 (Q2Q p l from_))∧Below w.heap.size w w':=by
 have hl:n=l.length:=by have:=hr.len;simpa using this.symm
 have hle:=hr.le
 have hmx:=hr.max
 have hmx:c≤9223372036854775807:=hmx
 subst hl
 have heq:=Qm4 (.func g) #[] caps
 by_cases h1:from_<0
 ·go_enter func75,ntmps75
  go_wp2
  go_ret
  exact⟨Q1n (by simp[Q2Q,h1]),Below.refl _ _⟩
 ·by_cases h2:(l.length:Int)<from_
  ·go_enter func75,ntmps75
   go_wp2
   go_ret
   exact⟨Q1n (by simp[Q2Q,h2]),Below.refl _ _⟩
  ·obtain⟨k,rfl⟩:=Int.eq_ofNat_of_zero_le (show 0≤from_ by omega)
   have hk:k≤l.length:=by omega
   obtain⟨A',hr2,hsl⟩:=hr.cutL underlying24 (fun _=>by simp[go_sem]) hk (P:=prog)
   have hrest:(rc l).drop (k * 1)=rc (l.drop k):=by simp[rc]
   rw[hrest] at hr2
   have HF:Hid (Q2Q p l (k:Int)=((l.drop k).takeWhile p).length):=Lib.hid (by simp[Q2Q,h1,h2])
   have HR:=Lib.hid hr2
   have HP:=Lib.hid hp
   have hd1:decide ((k:Int)<0)=false:=by simp
   have hd2:decide (l.length<k)=false:=by simp;omega
   clear h1 h2 hrest hr hr2 hp
   go_enter func75,ntmps75
   go_wp2
   obtain⟨m,hm⟩:∃ m,m=l.drop k:=⟨_,rfl⟩
   have hml:m.length=l.length-k:=by rw[hm];simp
   rw[←hm] at HR HF
   clear hm
   have HML:=Lib.hid hml
   clear hml
   go_loopw [25] (fun i wr=>∃ j:Nat,j≤l.length-k∧i=.int .i64 j∧Hid (Below w.heap.size w wr)∧Hid (∀ q,q<j→∀ h:q<m.length,p m[q]=true)) (fun i _=>l.length-(intOf i).toNat)
   case atStart=>exact⟨0,Nat.zero_le _,rfl,Below.refl _ _,fun q hq=>absurd hq (by omega)⟩
   case round =>
    obtain⟨j,hj,rfl,HB,HQ⟩:=hrel
    by_cases hlt:j<l.length-k
    ·obtain⟨b,o,u,rfl,_,hu,hc⟩:=(HR.out.below HB.out).one hlt
     obtain⟨hjm,rfl⟩:=Qjt hu
     clear hu
     have hcall:=HP.out wr m[j] HB.out
     cases hq:p m[j] with
     |true =>
      rw[hq] at hcall
      have HCALL:=Lib.hid hcall
      have HQ1:=Lib.hid hq
      clear hq hcall
      generalize m[j]=r at hc HCALL
      go_wp2_with (go_at_fn g;refine HCALL.out.mono ?_;rintro e w' ⟨rfl,hb'⟩)
      go_roundw
      case rel=>exact⟨j+1,by omega,by go_num,Q6w HB.out hb',fun q hq h=>by
       rcases Nat.lt_succ_iff_lt_or_eq.1 hq with h1|h1
       ·exact HQ.out q h1 h
       ·subst h1;exact HQ1.out⟩
      case measure=>simp[intOf];omega
     |false =>
      rw[hq] at hcall
      have HCALL:=Lib.hid hcall
      have HQ1:=Lib.hid hq
      clear hq hcall
      generalize m[j]=r at hc HCALL
      go_wp2_with (go_at_fn g;refine HCALL.out.mono ?_;rintro e w' ⟨rfl,hb'⟩)
      go_ret
      refine⟨Q1n ?_,Q6w HB.out hb'⟩
      rw[HF.out,QbU m j hjm HQ1.out (fun q hq=>HQ.out q hq (by omega))]
    ·go_wp2
     go_ret
     refine⟨Q1n ?_,HB.out⟩
     have hm:=HML.out
     rw[HF.out,Qak m (fun q hq=>HQ.out q (by omega) hq)]
     omega
abbrev Q5q (sp:List (Int×Int)):List Value:=sp.flatMap fun x=>[.int .i32 x.1,.int .i32 x.2]
def Q79 (r:Int)(sp:List (Int×Int)):Bool:=sp.any fun x=>decide (x.1≤r)&&decide (r≤x.2)
theorem Qav (sp:List (Int×Int))(j:Nat)(hj:j<sp.length):(Q5q sp)[j * 2]?=some (.int .i32 sp[j].1)∧(Q5q sp)[j * 2+1]?=some (.int .i32 sp[j].2):=by
 induction sp generalizing j with
 |nil=>simp at hj
 |cons a t ih =>
  cases j with
  |zero=>simp[Q5q]
  |succ j =>
   have:=ih j (by simpa using hj)
   have e1:(j+1) * 2=j * 2+2:=by omega
   rw[e1]
   simpa[Q5q] using this
theorem Qgf (r:Int)(sp:List (Int×Int))(j:Nat)(hj:j<sp.length) :
  Q79 r (sp.take (j+1))=(Q79 r (sp.take j)||(decide (sp[j].1≤r)&&decide (r≤sp[j].2))):=by
 simp only[Q79,List.take_succ_eq_append_getElem hj,List.any_append]
 simp
theorem QhA (r:Int)(sp:List (Int×Int))(j:Nat)(hj:j<sp.length)(h1:sp[j].1≤r)(h2:r≤sp[j].2):Q79 r sp=true:=by
 simp only[Q79,List.any_eq_true]
 exact⟨sp[j],List.getElem_mem hj,by simp[h1,h2]⟩
theorem Qj9 (S:Nat→Prop)(A:Option Addr)(n c:Nat)(r:Int)(sp:List (Int×Int))(w:World)(hr:Rd w S 2 A n c (Q5q sp))(hn:n=sp.length) :
  Calls prog 134 #[.int .i32 r,.slice A n c] w fun e w'=>e=.returned (.bool (Q79 r sp))∧Below w.heap.size w w':=by
 have hle:=hr.le
 have hmx:c≤9223372036854775807:=hr.max
 subst hn
 have HR:=Lib.hid hr
 clear hr
 go_enter func134,ntmps134
 go_wp2
 go_loopw [9] (fun i wr=>∃ j:Nat,j≤sp.length∧i=.int .i64 j∧Hid (Below w.heap.size w wr)∧Hid (Q79 r (sp.take j)=false)) (fun i _=>sp.length-(intOf i).toNat)
 case atStart=>exact⟨0,Nat.zero_le _,rfl,Below.refl _ _,rfl⟩
 case round =>
  obtain⟨j,hj,rfl,HB,HQ⟩:=hrel
  by_cases hlt:j<sp.length
  ·obtain⟨b,o,rfl,_,hcs⟩:=(HR.out.below HB.out).at_ (by omega)
   obtain⟨g0,g1⟩:=Qav sp j hlt
   have hc0:=hcs _ _ g0
   have hc1:wr.cell? ⟨b,o+j * 2+1,none⟩=_:=hcs _ _ g1
   clear g0 g1 hcs
   generalize e0:sp[j].1=lo at hc0
   generalize e1:sp[j].2=hi at hc1
   have HS:=Lib.hid (Qgf r sp j hlt)
   rw[e0,e1] at HS
   have HN:=Lib.hid (QhA r sp j hlt)
   rw[e0,e1] at HN
   clear e0 e1
   go_wp2
   ·go_ret
    exact⟨Q14 (by rw[HN.out (by assumption) (by assumption)]),(HB.out.alloc HB.out.size _).trans (Below.refl _ _)⟩
   ·go_roundw
    case rel =>
     have h:hi<r:=by assumption
     exact⟨j+1,by omega,by go_num,HB.out.alloc HB.out.size _,by rw[Hid,HS.out,HQ.out];simp;omega⟩
    case measure=>simp[intOf];omega
   ·go_roundw
    case rel =>
     have h:¬ lo≤r:=by assumption
     exact⟨j+1,by omega,by go_num,HB.out.alloc HB.out.size _,by rw[Hid,HS.out,HQ.out];simp;omega⟩
    case measure=>simp[intOf];omega
  ·have e:sp.take j=sp:=List.take_of_length_le (by omega)
   rw[e] at HQ
   clear e
   go_wp2
   go_ret
   exact⟨Q14 HQ.out.symm,HB.out⟩
def startSp:List (Int×Int):=[(97,122),(65,90),(58,58),(95,95),(0xC0,0xD6),(0xD8,0xF6),(0xF8,0x2FF),(0x370,0x37D),
 (0x37F,0x1FFF),(0x200C,0x200D),(0x2070,0x218F),(0x2C00,0x2FEF),(0x3001,0xD7FF),(0xF900,0xFDCF),(0xFDF0,0xFFFD),(0x10000,0xEFFFF)]
def moreSp:List (Int×Int):=[(48,57),(45,46),(0xB7,0xB7),(0x300,0x36F),(0x203F,0x2040)]
def Qn (r:Int):Bool:=Q79 r startSp
def Qs (r:Int):Bool:=Qn r||Q79 r moreSp
theorem Q6R (r:Int)(w:World):Calls prog 123 #[.int .i32 r] w fun e w'=>e=.returned (.bool (Qn r))∧Below w.heap.size w w':=by
 go_enter func123,ntmps123
 go_wp2_with fail
 refine (Qj9 _ _ 16 16 r startSp _ (Rd.lit w _ _ 2 16 rfl (by decide)) rfl).mono ?_
 rintro e w' ⟨rfl,hb⟩
 go_wp2
 go_ret
 exact⟨rfl,Q6w ((Below.refl _ _).alloc (Nat.le_refl _) _) hb⟩
theorem Qbr (r:Int)(w:World):Calls prog 124 #[.int .i32 r] w fun e w'=>e=.returned (.bool (Qs r))∧Below w.heap.size w w':=by
 have HN:=Lib.hid (Q6R r w)
 cases hq:Qn r with
 |true =>
  rw[hq] at HN
  have HI:Hid (Qs r=true):=by rw[Hid,Qs,hq];rfl
  clear hq
  go_enter func124,ntmps124
  go_wp2_with (go_at_call 123;refine HN.out.mono ?_;rintro e w' ⟨rfl,hb⟩)
  go_ret
  exact⟨Q14 HI.out.symm,hb⟩
 |false =>
  rw[hq] at HN
  have HI:Hid (Qs r=Q79 r moreSp):=by rw[Hid,Qs,hq];rfl
  clear hq
  go_enter func124,ntmps124
  go_wp2_with (go_at_call 123;refine HN.out.mono ?_;rintro e w' ⟨rfl,hb⟩)
  refine (Qj9 _ _ 5 5 r moreSp _ (Rd.lit w' _ _ 2 5 rfl (by decide)) rfl).mono ?_
  rintro e w2 ⟨rfl,hb2⟩
  go_wp2
  go_ret
  exact⟨Q14 HI.out.symm,Q6w (hb.alloc hb.size _) hb2⟩
def Q57 (r:Int):Int×Bool:=if r<48∨57<r then (0,false) else (r-48,true)
def Q8X (r:Int):Int×Bool:=if 97≤r∧r≤102 then (r-97+10,true) else if 65≤r∧r≤70 then (r-65+10,true) else Q57 r
theorem QaC (r:Int)(w:World):Calls prog 126 #[.int .i32 r] w fun e w'=>e=.returned (.tuple #[.int .i64 (Q57 r).1,.bool (Q57 r).2])∧w=w':=by
 by_cases h1:r<48
 ·go_enter func126,ntmps126
  go_wp2
  go_ret2
  exact⟨Q6i (if_pos (.inl h1)),rfl⟩
 ·by_cases h2:57<r
  ·go_enter func126,ntmps126
   go_wp2
   go_ret2
   exact⟨Q6i (if_pos (.inr h2)),rfl⟩
  ·go_enter func126,ntmps126
   go_wp2
   go_ret2
   exact⟨Q6i (if_neg (by omega)),rfl⟩
theorem QjV (r:Int)(w:World):Calls prog 127 #[.int .i32 r] w fun e w'=>e=.returned (.tuple #[.int .i64 (Q8X r).1,.bool (Q8X r).2])∧w=w':=by
 have HD:=Lib.hid (QaC r w)
 by_cases h1:97≤r∧r≤102
 ·obtain⟨h2,h3⟩:=h1
  go_enter func127,ntmps127
  go_wp2
  go_ret2
  exact⟨Q6i (if_pos ⟨h2,h3⟩),rfl⟩
 ·by_cases h2:65≤r∧r≤70
  ·obtain⟨h3,h4⟩:=h2
   have h5:¬ 97≤r:=by omega
   clear h1
   go_enter func127,ntmps127
   go_wp2
   go_ret2
   exact⟨Q6i (by rw[Q8X,if_neg (by omega),if_pos ⟨h3,h4⟩]),rfl⟩
  ·have HF:Hid (Q8X r=Q57 r):=by simp[Hid,Q8X,h1,h2]
   generalize Q8X r=z at HF ⊢
   generalize Q57 r=y at HD HF
   by_cases h3:97≤r
   ·have h4:¬ r≤102:=by omega
    have h5:65≤r:=by omega
    have h6:¬ r≤70:=by omega
    clear h1 h2
    go_enter func127,ntmps127
    go_wp2_with (go_at_call 126;refine HD.out.mono ?_;rintro e w' ⟨rfl,rfl⟩)
    go_ret2
    exact⟨Q6i HF.out,rfl⟩
   ·by_cases h5:65≤r
    ·have h6:¬ r≤70:=by omega
     clear h1 h2
     go_enter func127,ntmps127
     go_wp2_with (go_at_call 126;refine HD.out.mono ?_;rintro e w' ⟨rfl,rfl⟩)
     go_ret2
     exact⟨Q6i HF.out,rfl⟩
    ·clear h1 h2
     go_enter func127,ntmps127
     go_wp2_with (go_at_call 126;refine HD.out.mono ?_;rintro e w' ⟨rfl,rfl⟩)
     go_ret2
     exact⟨Q6i HF.out,rfl⟩
end Go.Proofs.YthbjpdijafccjaaGreat
namespace Go.Proofs.YthbjpdijafccjaaGreat
open Go.RowKit Go.Lib Tryz
def isF (r lo hi:Int):Bool:=decide (lo≤r)&&decide (r≤hi)
def Q5x (r:Int):Bool:=isF r 97 122||isF r 65 90
theorem Q2K (r lo hi:Int)(w:World):Calls prog 113 #[.int .i32 r,.int .i32 lo,.int .i32 hi] w fun e w'=>e=.returned (.bool (isF r lo hi))∧w=w':=by
 by_cases h:lo≤r
 ·go_enter func113,ntmps113
  go_wp2
  go_ret
  exact⟨Q14 (by simp[isF,h]),rfl⟩
 ·go_enter func113,ntmps113
  go_wp2
  go_ret
  exact⟨Q14 (by rw[isF,decide_eq_false (by omega)];rfl),rfl⟩
theorem Qi8 (r lo hi:Int):isF r lo hi=true↔lo≤r∧r≤hi:=by simp[isF]
theorem Qcv (r:Int):Q5x r=(isF r 97 122||isF r 65 90):=rfl
theorem Qep (r:Int):Qn r=(Q5x r||r == 58||r == 95||(if isF r 192 767 then r != 215&&r != 247 else if isF r 880 8191 then r != 894 else
  isF r 8204 8205||isF r 8304 8591||isF r 11264 12271||isF r 12289 55295||(isF r 63744 64975||isF r 65008 65533||isF r 65536 983039))):=by
 rw[Bool.eq_iff_iff]
 by_cases h1:isF r 192 767=true
 ·rw[if_pos h1]
  simp[isF] at h1
  simp[Qn,Q79,startSp,isF,Q5x];omega
 ·rw[if_neg h1]
  simp[isF] at h1
  by_cases h2:isF r 880 8191=true
  ·rw[if_pos h2]
   simp[isF] at h2
   simp[Qn,Q79,startSp,isF,Q5x];omega
  ·rw[if_neg h2]
   simp[isF] at h2
   simp[Qn,Q79,startSp,isF,Q5x];omega
theorem Qh6 (r:Int):Qs r=(Qn r||r == 45||r == 46||isF r 48 57||r == 183||isF r 768 879||r == 8255||r == 8256):=by
 rw[Bool.eq_iff_iff];simp only[Qs];cases Qn r<;>simp[Q79,moreSp,isF]<;>omega
theorem Qdu (r:Int)(w:World):Calls prog 112 #[.int .i32 r] w fun e w'=>e=.returned (.bool (Q5x r))∧w=w':=by
 rw[Qcv]
 have HI1:=fun w=>Lib.hid (Q2K r 97 122 w)
 have HI2:=fun w=>Lib.hid (Q2K r 65 90 w)
 generalize isF r 97 122=b1 at HI1 ⊢
 generalize isF r 65 90=b2 at HI2 ⊢
 go_enter func112,ntmps112
 go_wp2_with (first
  |(go_at_call_of 113 (Value.int .i32 97);refine (HI1 _).out.mono ?_;rintro e w' ⟨rfl,rfl⟩)
  |(go_at_call_of 113 (Value.int .i32 65);refine (HI2 _).out.mono ?_;rintro e w' ⟨rfl,rfl⟩))
 all_goals
  go_ret
  exact⟨Q14 (by first|rfl|simp_all),rfl⟩
theorem Q4y (r:Int)(w:World):Calls prog 89 #[.int .i32 r] w fun e w'=>e=.returned (.bool (Qn r))∧w=w':=by
 rw[Qep]
 have HL:=fun w=>Lib.hid (Qdu r w)
 have HI0:=fun w=>Lib.hid (Q2K r 192 767 w)
 have HI1:=fun w=>Lib.hid (Q2K r 880 8191 w)
 have HI2:=fun w=>Lib.hid (Q2K r 8204 8205 w)
 have HI3:=fun w=>Lib.hid (Q2K r 8304 8591 w)
 have HI4:=fun w=>Lib.hid (Q2K r 11264 12271 w)
 have HI5:=fun w=>Lib.hid (Q2K r 12289 55295 w)
 have HI6:=fun w=>Lib.hid (Q2K r 63744 64975 w)
 have HI7:=fun w=>Lib.hid (Q2K r 65008 65533 w)
 have HI8:=fun w=>Lib.hid (Q2K r 65536 983039 w)
 generalize Q5x r=bl at HL ⊢
 generalize isF r 192 767=b0 at HI0 ⊢
 generalize isF r 880 8191=b1 at HI1 ⊢
 generalize isF r 8204 8205=b2 at HI2 ⊢
 generalize isF r 8304 8591=b3 at HI3 ⊢
 generalize isF r 11264 12271=b4 at HI4 ⊢
 generalize isF r 12289 55295=b5 at HI5 ⊢
 generalize isF r 63744 64975=b6 at HI6 ⊢
 generalize isF r 65008 65533=b7 at HI7 ⊢
 generalize isF r 65536 983039=b8 at HI8 ⊢
 go_enter func89,ntmps89
 go_wp2_with (first
  |(go_at_call 112;refine (HL _).out.mono ?_;rintro e w' ⟨rfl,rfl⟩)
  |(go_at_call_of 113 (Value.int .i32 192);refine (HI0 _).out.mono ?_;rintro e w' ⟨rfl,rfl⟩)
  |(go_at_call_of 113 (Value.int .i32 880);refine (HI1 _).out.mono ?_;rintro e w' ⟨rfl,rfl⟩)
  |(go_at_call_of 113 (Value.int .i32 8204);refine (HI2 _).out.mono ?_;rintro e w' ⟨rfl,rfl⟩)
  |(go_at_call_of 113 (Value.int .i32 8304);refine (HI3 _).out.mono ?_;rintro e w' ⟨rfl,rfl⟩)
  |(go_at_call_of 113 (Value.int .i32 11264);refine (HI4 _).out.mono ?_;rintro e w' ⟨rfl,rfl⟩)
  |(go_at_call_of 113 (Value.int .i32 12289);refine (HI5 _).out.mono ?_;rintro e w' ⟨rfl,rfl⟩)
  |(go_at_call_of 113 (Value.int .i32 63744);refine (HI6 _).out.mono ?_;rintro e w' ⟨rfl,rfl⟩)
  |(go_at_call_of 113 (Value.int .i32 65008);refine (HI7 _).out.mono ?_;rintro e w' ⟨rfl,rfl⟩)
  |(go_at_call_of 113 (Value.int .i32 65536);refine (HI8 _).out.mono ?_;rintro e w' ⟨rfl,rfl⟩))
 all_goals
  go_ret
  exact⟨Q14 (by first|rfl|simp_all),rfl⟩
theorem Qae (r:Int)(w:World):Calls prog 132 #[.int .i32 r] w fun e w'=>e=.returned (.bool (Qs r))∧w=w':=by
 rw[Qh6]
 have HL:=fun w=>Lib.hid (Q4y r w)
 have HI1:=fun w=>Lib.hid (Q2K r 48 57 w)
 have HI2:=fun w=>Lib.hid (Q2K r 768 879 w)
 generalize Qn r=bl at HL ⊢
 generalize isF r 48 57=b1 at HI1 ⊢
 generalize isF r 768 879=b2 at HI2 ⊢
 go_enter func132,ntmps132
 go_wp2_with (first
  |(go_at_call 89;refine (HL _).out.mono ?_;rintro e w' ⟨rfl,rfl⟩)
  |(go_at_call_of 113 (Value.int .i32 48);refine (HI1 _).out.mono ?_;rintro e w' ⟨rfl,rfl⟩)
  |(go_at_call_of 113 (Value.int .i32 768);refine (HI2 _).out.mono ?_;rintro e w' ⟨rfl,rfl⟩))
 all_goals
  go_ret
  exact⟨Q14 (by first|rfl|simp_all),rfl⟩
theorem Rd.rune {w:World}{S:Nat→Prop}{n c:Nat}{A:Option Addr}{l:List Int}(h:Rd w S 1 A n c (rc l)){k:Nat}(hk:k<l.length) :
  ∃ b o,A=some ⟨b,o,none⟩∧w.cell? ⟨b,o+k,none⟩=some (.int .i32 l[k]):=by
 have hl:=h.len
 obtain⟨b,o,u,e,_,hu,hc⟩:=h.one (k:=k) (by simp at hl;omega)
 obtain⟨_,rfl⟩:=Qjt hu
 exact⟨b,o,e,hc⟩
theorem Rd.rlen {w:World}{S:Nat→Prop}{n c:Nat}{A:Option Addr}{l:List Int}(h:Rd w S 1 A n c (rc l)):n=l.length:=by have:=h.len;simpa using this.symm
theorem Qcy (w:World):Q7f prog 124 #[] Qs w:=fun W r _=>Qbr r W
theorem Qcj:∀ args w,(callFunc 124 args).run prog w=.ok (.enter 124 args) w:=enters_of func124 (by kernel_rfl) rfl
def Qg (l:List Int)(k:Nat):Nat:=match l[k]? with
 |none=>0
 |some r=>if Qn r then ((l.drop k).takeWhile Qs).length else 0
theorem Q9X (r:Int)(h:Qn r=true):Qs r=true:=by simp[Qs,h]
theorem Q7X (S:Nat→Prop)(A:Option Addr)(n c:Nat)(l:List Int)(k:Nat)(w:World)(hr:Rd w S 1 A n c (rc l))(hk:k≤1000000000) :
  Calls prog 100 #[.slice A n c,.int .i64 k] w fun e w'=>e=.returned (.int .i64 (Qg l k))∧Below w.heap.size w w':=by
 obtain rfl:=hr.rlen
 have hle:=hr.le
 have hmx:c≤9223372036854775807:=hr.max
 have HR:=Lib.hid hr
 clear hr
 by_cases hlt:k<l.length
 ·obtain⟨b,o,rfl,hc0⟩:=HR.out.rune hlt
  have hkl:¬ (k:Int) ≥ (l.length:Int):=by omega
  have HS:=fun w=>Lib.hid (Q6R l[k] w)
  have HL:Hid (Qg l k=if Qn l[k] then ((l.drop k).takeWhile Qs).length else 0):=by rw[Hid,Qg,List.getElem?_eq_getElem hlt]
  have HF:Hid (Q2Q Qs l k=((l.drop k).takeWhile Qs).length):=by rw[Hid,Q2Q,if_neg (by omega),Int.toNat_natCast]
  generalize l[k]=r at hc0 HS HL
  cases hs:Qn r with
  |true =>
   rw[hs] at HS HL
   go_enter func100,ntmps100
   go_wp2_with (first
    |(go_at_call 123;refine (HS _).out.mono ?_;rintro e w' ⟨rfl,hb⟩)
    |(go_at_call 75;refine (Q7C S _ l.length c l k _ #[] Qs w' Qcj (HR.out.below hb) (Qcy w')).mono ?_;rintro e w2 ⟨rfl,hb2⟩))
   go_ret
   exact⟨Q1n (by rw[HL.out,HF.out];rfl),hb.trans (hb2.mono hb.size)⟩
  |false =>
   rw[hs] at HS HL
   go_enter func100,ntmps100
   go_wp2_with (go_at_call 123;refine (HS _).out.mono ?_;rintro e w' ⟨rfl,hb⟩)
   go_ret
   exact⟨Q1n (by rw[HL.out];rfl),hb⟩
 ·have hkl:(k:Int) ≥ (l.length:Int):=by omega
  have HL:Hid (Qg l k=0):=by rw[Hid,Qg,List.getElem?_eq_none (by omega)]
  go_enter func100,ntmps100
  go_wp2
  go_ret
  exact⟨Q1n (by rw[HL.out];rfl),Below.refl _ _⟩
theorem Q6d (p:Int→Bool)(l:List Int)(k j:Nat)(h:∀ i,i<j→(h:k+i<l.length)→p l[k+i]=true)(hj:k+j≤l.length)
  (hs:∀ h:k+j<l.length,p l[k+j]=false):((l.drop k).takeWhile p).length=j:=by
 induction j generalizing k with
 |zero =>
  by_cases hk:k<l.length
  ·rw[List.drop_eq_getElem_cons hk,List.takeWhile_cons]
   have:=hs (by omega)
   simp only[Nat.add_zero] at this
   rw[this];rfl
  ·rw[List.drop_eq_nil_of_le (by omega)];rfl
 |succ j ih =>
  have hk:k<l.length:=by omega
  rw[List.drop_eq_getElem_cons hk,List.takeWhile_cons]
  have h0:=h 0 (by omega) (by omega)
  simp only[Nat.add_zero] at h0
  rw[h0]
  have:=ih (k+1) (fun i hi hl=>by
   have:=h (i+1) (by omega) (by omega)
   simpa[Nat.add_assoc,Nat.add_comm 1] using this) (by omega) (fun hl=>by
   have:=hs (by omega)
   simpa[Nat.add_assoc,Nat.add_comm 1] using this)
  simp[this]
theorem QgI (S:Nat→Prop)(A:Option Addr)(n c:Nat)(l:List Int)(k:Nat)(w:World)(hr:Rd w S 1 A n c (rc l))(hk:k≤1000000000)(hll:l.length≤1000000000) :
  Calls prog 116 #[.slice A n c,.int .i64 k] w fun e w'=>e=.returned (.int .i64 (Qg l k))∧w=w':=by
 obtain rfl:=hr.rlen
 have hle:=hr.le
 have hmx:c≤9223372036854775807:=hr.max
 have HR:=Lib.hid hr
 clear hr
 by_cases hlt:k<l.length
 ·obtain⟨b,o,rfl,hc0⟩:=HR.out.rune hlt
  have hkl:¬ (k:Int) ≥ (l.length:Int):=by omega
  have HL:Hid (Qg l k=if Qn l[k] then ((l.drop k).takeWhile Qs).length else 0):=by rw[Hid,Qg,List.getElem?_eq_getElem hlt]
  have HS:=fun w=>Lib.hid (Q4y l[k] w)
  cases hs:Qn l[k] with
  |true =>
   have HC0:=Lib.hid (Q9X _ hs)
   rw[hs] at HS HL
   generalize hrr:l[k]=r at hc0 HS HC0
   have HRR:=Lib.hid hrr
   clear hrr hs
   go_enter func116,ntmps116
   go_wp2_with (go_at_call 89;refine (HS _).out.mono ?_;rintro e w' ⟨rfl,rfl⟩)
   clear hc0
   go_loopw [5] (fun v wr=>wr=w∧∃ j:Nat,1≤j∧k+j≤l.length∧v=.int .i64 j∧Hid (∀ i,i<j→(h:k+i<l.length)→Qs l[k+i]=true)) (fun v _=>l.length-(intOf v).toNat)
   case atStart =>
    refine⟨rfl,1,by omega,by omega,rfl,fun i hi h=>?_⟩
    have e:i=0:=by omega
    subst e
    simp only[Nat.add_zero]
    rw[HRR.out];exact HC0.out
   case round =>
    obtain⟨rfl,j,hj1,hj2,rfl,HJ⟩:=hrel
    by_cases hlj:k+j<l.length
    ·obtain⟨b2,o2,hA,hc1⟩:=HR.out.rune hlj
     injection hA with hA
     injection hA with e1 e2
     subst e1 e2
     have hlj':(k:Int)+(j:Int)<(l.length:Int):=by omega
     have HM:=fun w=>Lib.hid (Qae l[k+j] w)
     cases hq:Qs l[k+j] with
     |true =>
      have HJ2:Hid (∀ i,i<j+1→(h:k+i<l.length)→Qs l[k+i]=true):=fun i hi h=>by
       by_cases e:i=j
       ·subst e;exact hq
       ·exact HJ.out i (by omega) h
      rw[hq] at HM
      clear hq
      generalize l[k+j]=r2 at hc1 HM
      go_wp2_with (go_at_call 132;refine (HM _).out.mono ?_;rintro e w' ⟨rfl,rfl⟩)
      go_roundw
      case rel=>exact⟨trivial,j+1,by omega,by omega,by go_num,HJ2.out⟩
      case measure=>simp[intOf];omega
     |false =>
      have HE:Hid (((l.drop k).takeWhile Qs).length=j):=Q6d _ l k j HJ.out (by omega) (fun h=>hq)
      rw[hq] at HM
      clear hq
      generalize l[k+j]=r2 at hc1 HM
      go_wp2_with (go_at_call 132;refine (HM _).out.mono ?_;rintro e w' ⟨rfl,rfl⟩)
      go_ret
      exact⟨Q1n (by rw[HL.out,HE.out];rfl),rfl⟩
    ·have hlj':¬ (k:Int)+(j:Int)<(l.length:Int):=by omega
     have HE:Hid (((l.drop k).takeWhile Qs).length=j):=Q6d _ l k j HJ.out (by omega) (fun h=>absurd h hlj)
     go_wp2
     go_ret
     exact⟨Q1n (by rw[HL.out,HE.out];rfl),rfl⟩
  |false =>
   rw[hs] at HS HL
   generalize l[k]=r at hc0 HS
   clear hs
   go_enter func116,ntmps116
   go_wp2_with (go_at_call 89;refine (HS _).out.mono ?_;rintro e w' ⟨rfl,rfl⟩)
   go_ret
   exact⟨Q1n (by rw[HL.out];rfl),rfl⟩
 ·have hkl:(k:Int) ≥ (l.length:Int):=by omega
  have HL:Hid (Qg l k=0):=by rw[Hid,Qg,List.getElem?_eq_none (by omega)]
  go_enter func116,ntmps116
  go_wp2
  go_ret
  exact⟨Q1n (by rw[HL.out];rfl),rfl⟩
end Go.Proofs.YthbjpdijafccjaaGreat
namespace Go.Proofs.YthbjpdijafccjaaGreat
open Go.RowKit Go.Lib
def bi (l:List UInt8):List Int:=l.map fun b=>(b.toNat:Int)
theorem Q7r {l:List Int}{k:Nat}(h:k<l.length):l.getD k 0=l[k]:=by simp[List.getD,h]
abbrev IterIn (wr:World)(ib:Nat)(s:ByteArray)(pos:Nat):Prop:=wr.heap[ib]?=some (.stringIter s pos)
theorem IterIn.lt {wr:World}{ib:Nat}{s:ByteArray}{pos:Nat}(h:IterIn wr ib s pos):ib<wr.heap.size:=(Array.getElem?_eq_some_iff.1 h).1
theorem IterIn.set {wr:World}{ib:Nat}{s:ByteArray}{pos pos':Nat}(h:IterIn wr ib s pos):IterIn (World.iterSet wr ib s pos') ib s pos':=by
 have hlt:=IterIn.lt h
 show (wr.heap.setIfInBounds ib _)[ib]?=_
 rw[Array.getElem?_setIfInBounds_self_of_lt hlt]
theorem IterIn.grown {wr w2:World}{ib:Nat}{s:ByteArray}{pos:Nat}{row:Option Nat}(h:IterIn wr ib s pos)(hg:wr.grownBy w2 row)(hr:row≠some ib):IterIn w2 ib s pos :=
 (hg.block ib (IterIn.lt h) (fun e=>hr e.symm)).trans h
theorem IterIn.alloc {wr:World}{ib:Nat}{s:ByteArray}{pos:Nat}(h:IterIn wr ib s pos)(o:Obj):IterIn (wr.alloc o) ib s pos:=(Below.heap_alloc wr o _ (IterIn.lt h)).trans h
theorem RunesV.lit (w:World)(B:Nat)(hB:w.heap.size=B)(t:TypeId)(l:List Int)(n:Nat)(hn:l.length=n)(hm:n≤maxLen)(cs:Array Value)(hcs:cs.toList=rc l):RunesV (w.alloc (.cells cs t)) (.slice (some ⟨B,0,none⟩) n n) l:=by
 subst hn
 refine .of_rd (S:=fun b=>B≤b) ?_
 have:=Rd.litN w B hB t cs 1 l.length (by have:=congrArg List.length hcs;simpa using this) hm
 rwa [hcs] at this
theorem RunesV.len {w:World}{v:Value}{l:List Int}(h:RunesV w v l):∃ A c,v=.slice A l.length c∧Rd w (fun _=>True) 1 A l.length c (rc l):=by
 obtain⟨A,n,c,rfl,hr⟩:=h
 obtain rfl:=hr.rlen
 exact⟨A,c,rfl,hr⟩
theorem RowsV.lit (w:World)(B:Nat)(hB:w.heap.size=B)(t:TypeId)(vs:List Value)(ls:List (List Int))(n:Nat)(hn:vs.length=n)(hl:vs.length=ls.length)(hm:n≤maxLen)
  (h:∀ (i:Nat) (v:Value) (l:List Int),vs[i]?=some v→ls[i]?=some l→RunesV w v l) (cs:Array Value) (hcs:cs.toList=vs):RowsV (w.alloc (.cells cs t)) (some ⟨B,0,none⟩) n n ls vs:=by
 subst hcs
 refine⟨?_,hl,fun i v l h1 h2=>(h i v l h1 h2).alloc _⟩
 subst hn
 exact (Rd.litN w B hB t cs 1 cs.toList.length (by simp) hm).more fun _ _=>trivial
theorem bt {a b c:World}(h:Below a.heap.size a b)(k:Below b.heap.size b c):Below a.heap.size a c:=h.trans (k.mono h.size)
theorem ba (w:World)(o:Obj):Below w.heap.size w (w.alloc o):=(Below.refl _ w).alloc (Nat.le_refl _) _
theorem bg {w w':World}{v:Value}{base:Nat}{e:TypeId}{size n:Nat}{xs:List Value}(hown:w.ownsRow base e size v n xs)(hg:w.grownBy w' v.ownBlock){w0:World}(hb:Below base w0 w)(hle:base≤w.heap.size):Below base w0 w':=QaM hb hle hown hg
theorem QaT {w1 w2:World}{p:Addr}{v:Value}(hb:Below w1.heap.size w1 w2)(h:w1.cell? p=some v):w2.cell? p=some v :=
 (World.cell?_of_block (hb.block _ (World.block_lt_of_cell? w1 p h))).trans h
theorem Rd.apart {w w':World}{B base n c m:Nat}{A:Option Addr}{xs ys:List Value}{e:TypeId}{size:Nat}{v:Value}(h:Rd w (fun b=>b<B) 1 A n c xs)(hown:w.ownsRow base e size v m ys)(hB:B≤base)(hg:w.grownBy w' v.ownBlock) :
  Rd w' (fun b=>b<B) 1 A n c xs :=
 h.grown hg fun g hg hb=>by
  have:=(hown.lt g hg).1
  have hb:g<B:=hb
  omega
end Go.Proofs.YthbjpdijafccjaaGreat
namespace Go.Proofs.YthbjpdijafccjaaGreat
open Go.RowKit
end Go.Proofs.YthbjpdijafccjaaGreat
namespace Go.Proofs.YthbjpdijafccjaaGreat
open Go.RowKit Tryz
theorem QiV (w:World):Q7f prog 128 #[] Qc w:=fun W r _=>(Qgo r W).mono fun _ _ ⟨h1,h2⟩=>⟨h1,h2 ▸ Below.refl _ _⟩
theorem Qji:∀ args w,(callFunc 128 args).run prog w=.ok (.enter 128 args) w:=enters_of func128 (by kernel_rfl) rfl
end Go.Proofs.YthbjpdijafccjaaGreat
namespace Go.Proofs.YthbjpdijafccjaaGreat
open Go.RowKit Go.Lib
abbrev Qch:=List (ByteArray×List Int)
def Q3o:Qch→List Value→List Value
 |p::ps,v::vs=>.string p.1::v::Q3o ps vs
 |_,_=>[]
theorem Q5X:∀ (ps:Qch) (vs:List Value) (k:Nat),(Q3o ps vs).take (k * 2)=Q3o (ps.take k) (vs.take k)
 |_,_,0=>by simp[Q3o]
 | [],_,k+1=>by simp[Q3o]
 |_::_,[],k+1=>by simp[Q3o]
 |p::ps,v::vs,k+1=>by
  have ih:=Q5X ps vs k
  rw[show (k+1) * 2=k * 2+1+1 by omega]
  simp[Q3o,ih]
structure PairsV (w:World) (S:Nat→Prop) (A:Option Addr) (n c:Nat) (ps:Qch) (vs:List Value):Prop where
 rd:Rd w S 2 A n c (Q3o ps vs)
 len:vs.length=ps.length
 each:∀ (k:Nat) (h:k<ps.length) (h2:k<vs.length),RunesV w vs[k] ps[k].2
theorem PairsV.below {w w':World}{S:Nat→Prop}{A:Option Addr}{n c:Nat}{ps:Qch}{vs:List Value}(h:PairsV w S A n c ps vs)(hb:Below w.heap.size w w'):PairsV w' S A n c ps vs :=
 ⟨h.rd.below hb,h.len,fun k h1 h2=>(h.each k h1 h2).below hb⟩
theorem PairsV.take {w:World}{S:Nat→Prop}{A:Option Addr}{n c:Nat}{ps:Qch}{vs:List Value}(h:PairsV w S A n c ps vs){k:Nat}(hk:k≤n):PairsV w S A k c (ps.take k) (vs.take k):=by
 refine⟨by rw[←Q5X];exact h.rd.take hk,by simp[h.len],fun j h1 h2=>?_⟩
 rw[List.getElem_take,List.getElem_take]
 exact h.each j _ _
theorem bb {B:Nat}{a b c:World}(h:Below B a b)(k:Below b.heap.size b c)(hB:B≤b.heap.size):Below B a c:=h.trans (k.mono hB)
end Go.Proofs.YthbjpdijafccjaaGreat
namespace Go.Proofs.YthbjpdijafccjaaGreat
open Go.RowKit Go.Lib Tryz
def Q3 (l:List Int)(k:Nat)(bs:List UInt8):Bool:=bs.all (fun b=>decide (b.toNat<128))&&((l.drop k).take bs.length == bi bs)
theorem Q8p (l:List Int)(k:Nat)(bs:List UInt8)(hl:k+bs.length≤l.length)
  (h:∀ i (h:i<bs.length),bs[i].toNat<128∧l[k+i]'(by omega)=bs[i].toNat):Q3 l k bs=true:=by
 rw[Q3,Bool.and_eq_true]
 refine⟨List.all_eq_true.2 fun b hb=>?_,?_⟩
 ·obtain⟨i,hi,rfl⟩:=List.getElem_of_mem hb
  exact decide_eq_true (h i hi).1
 ·rw[beq_iff_eq]
  apply List.ext_getElem
  ·simp[bi];omega
  ·intro i h1 h2
   rw[List.getElem_take,List.getElem_drop]
   have hi:i<bs.length:=by simpa[bi] using h2
   rw[(h i hi).2]
   simp[bi]
theorem Q8w (l:List Int)(k:Nat)(bs:List UInt8)(i:Nat)(hi:i<bs.length)(hl:k+i<l.length)(h:¬ (bs[i].toNat<128∧l[k+i]=bs[i].toNat)):Q3 l k bs=false:=by
 cases hs:Q3 l k bs with
 |false=>rfl
 |true =>
  exfalso
  rw[Q3,Bool.and_eq_true,beq_iff_eq] at hs
  obtain⟨h1,h2⟩:=hs
  refine h ⟨of_decide_eq_true (List.all_eq_true.1 h1 _ (List.getElem_mem hi)),?_⟩
  have h3:=congrArg (fun x=>x[i]?) h2
  simp only[List.getElem?_take,List.getElem?_drop,hi,if_true,bi,List.getElem?_map,List.getElem?_eq_getElem hi,List.getElem?_eq_getElem hl,Option.map_some,Option.some.injEq] at h3
  exact h3
theorem Q5J (l:List Int)(k:Nat)(bs:List UInt8)(h:l.length<k+bs.length)(hk:k≤l.length):Q3 l k bs=false:=by
 cases hs:Q3 l k bs with
 |false=>rfl
 |true =>
  exfalso
  rw[Q3,Bool.and_eq_true,beq_iff_eq] at hs
  have:=congrArg List.length hs.2
  simp[bi] at this
  omega
theorem Q21 (S:Nat→Prop)(A:Option Addr)(n c:Nat)(l:List Int)(k:Nat)(s:ByteArray)(w:World)(hr:Rd w S 1 A n c (rc l))(hk:k≤l.length)(hk9:l.length≤1000000000)(hs9:s.size≤1000000000) :
  Calls prog 96 #[.slice A n c,.int .i64 k,.string s] w fun e w'=>e=.returned (.bool (Q3 l k s.data.toList))∧Below w.heap.size w w':=by
 obtain rfl:=hr.rlen
 have hle:=hr.le
 have hmx:c≤9223372036854775807:=hr.max
 have HR:=Lib.hid hr
 clear hr
 have hsz:s.data.toList.length=s.size:=by simp
 have hkl:¬ (k:Int) > (l.length:Int):=by omega
 by_cases hshort:l.length<k+s.size
 ·have HE:=Lib.hid (Q5J l k s.data.toList (by omega) hk)
  have hsh:(l.length:Int)-(k:Int)<(s.size:Int):=by omega
  go_enter func96,ntmps96
  go_wp2
  go_ret
  exact⟨Q14 HE.out.symm,Below.refl _ _⟩
 ·have hsh:¬ (l.length:Int)-(k:Int)<(s.size:Int):=by omega
  go_enter func96,ntmps96
  go_wp2
  go_loopw [27] (fun i wr=>∃ j:Nat,j≤s.size∧i=.int .i64 j∧Hid (Below w.heap.size w wr)∧Hid (∀ i,i<j→(h1:i<s.data.toList.length)→(h2:k+i<l.length)→s.data.toList[i].toNat<128∧l[k+i]=s.data.toList[i].toNat)) (fun i _=>s.size-(intOf i).toNat)
  case atStart=>exact⟨0,Nat.zero_le _,rfl,Below.refl _ _,fun i h=>absurd h (by omega)⟩
  case round =>
   obtain⟨j,hj,rfl,HB,HJ⟩:=hrel
   by_cases hlt:j<s.size
   ·have hlt2:j<s.data.toList.length:=by omega
    have hlt3:j<s.data.size:=hlt
    have hkj:k+j<l.length:=by omega
    have hkj':(k:Int)+(j:Int)<(l.length:Int):=by omega
    obtain⟨b,o,rfl,hc0⟩:=(HR.out.below HB.out).rune hkj
    have hx:s.data.toList[j]=s.data[j]:=by simp
    have hb:=(s.data[j]).toNat_lt
    have hw:wrap32 ((s[j]).toNat:Int)=((s.data[j]).toNat:Int):=by
     show wrap32 ((s.data[j]).toNat:Int)=_
     rw[←IntWalk.i32_left];exact IntWalk.i32_in _ (by omega)
    have HM:=Lib.hid (Q8w l k s.data.toList j hlt2 hkj)
    have HX:=Lib.hid hx
    rw[hx] at HM
    have HJ2:(s.data[j]).toNat<128→l[k+j]=(s.data[j]).toNat→Hid (∀ i,i<j+1→(h1:i<s.data.toList.length)→(h2:k+i<l.length)→s.data.toList[i].toNat<128∧l[k+i]=s.data.toList[i].toNat):=fun e1 e2 i hi h1 h2=>by
     by_cases e:i=j
     ·subst e;rw[HX.out];exact⟨e1,e2⟩
     ·exact HJ.out i (by omega) h1 h2
    clear hx
    generalize l[k+j]=r at hc0 HM HJ2
    by_cases h128:(s.data[j]).toNat<128
    ·have hge:¬ ((s.data[j]).toNat:Int) ≥ 128:=by omega
     have hge3:decide ((128:Int)≤((s[j]).toNat:Int))=false:=by show decide ((128:Int)≤((s.data[j]).toNat:Int))=false;rw[decide_eq_false_iff_not];omega
     by_cases hrb:r=(s.data[j]).toNat
     ·have HJ3:=HJ2 h128 hrb
      have hn:(r != ((s.data[j]).toNat:Int))=false:=by simpa using hrb
      clear HJ2 HM
      go_wp2
      go_quiet (fail)
      go_wp2
      go_roundw
      case rel=>exact⟨j+1,by omega,by go_num,Q1y HB.out _,HJ3.out⟩
      case measure=>simp[intOf];omega
     ·have HE:Hid (Q3 l k s.data.toList=false):=HM.out fun h=>hrb h.2
      have hn:(r != ((s.data[j]).toNat:Int))=true:=by simpa using hrb
      clear HJ2 HM
      go_wp2
      go_quiet (fail)
      go_wp2
      go_ret
      exact⟨Q14 HE.out.symm,Q1y HB.out _⟩
    ·have hge:((s.data[j]).toNat:Int) ≥ 128:=by omega
     have hge3:decide ((128:Int)≤((s[j]).toNat:Int))=true:=by show decide ((128:Int)≤((s.data[j]).toNat:Int))=true;rw[decide_eq_true_iff];omega
     have HE:Hid (Q3 l k s.data.toList=false):=HM.out fun h=>h128 h.1
     clear HJ2 HM
     go_wp2
     go_quiet (fail)
     go_wp2
     go_ret
     exact⟨Q14 HE.out.symm,Q1y HB.out _⟩
   ·have HE:Hid (Q3 l k s.data.toList=true):=Q8p l k _ (by omega) fun i h=>HJ.out i (by omega) h (by omega)
    go_wp2
    go_ret
    exact⟨Q14 HE.out.symm,HB.out⟩
def Q3M (l:List Int)(k t:Nat)(bs:List UInt8):Option Nat:=(List.range' k (t+1-bs.length-k)).find? (fun i=>Q3 l i bs)
theorem Qbg (l:List Int)(k t:Nat)(bs:List UInt8)(j:Nat)(hk:k≤j)(ht:j+bs.length≤t)(h:∀ i,k≤i→i<j→Q3 l i bs=false)(hj:Q3 l j bs=true):Q3M l k t bs=some j:=by
 rw[Q3M,List.find?_range'_eq_some]
 exact⟨hj,List.mem_range'_1.2 ⟨hk,by omega⟩,fun i h1 h2=>by rw[h i h1 h2];rfl⟩
theorem Qa1 (l:List Int)(k t:Nat)(bs:List UInt8)(h:∀ i,k≤i→i+bs.length≤t→Q3 l i bs=false):Q3M l k t bs=none:=by
 rw[Q3M,List.find?_eq_none]
 intro i hi
 have:=List.mem_range'_1.1 hi
 rw[h i this.1 (by omega)]
 decide
theorem Qha (S:Nat→Prop)(A:Option Addr)(n c:Nat)(l:List Int)(k t:Nat)(s:ByteArray)(w:World)(hr:Rd w S 1 A n c (rc l))(hk:k≤l.length)(ht:t≤l.length)(hk9:l.length≤1000000000)(hs9:s.size≤1000000000) :
  Calls prog 119 #[.slice A n c,.int .i64 k,.int .i64 t,.string s] w fun e w'=>e=.returned (.tuple #[.int .i64 ((Q3M l k t s.data.toList).getD 0),.bool (Q3M l k t s.data.toList).isSome])∧Below w.heap.size w w':=by
 obtain rfl:=hr.rlen
 have hle:=hr.le
 have hmx:c≤9223372036854775807:=hr.max
 have HR:=Lib.hid hr
 clear hr
 have hkl:¬ (k:Int) > (l.length:Int):=by omega
 have htl:¬ (t:Int) > (l.length:Int):=by omega
 have hsz:s.data.toList.length=s.size:=by simp
 have HS:=fun W (j:Nat) (hj:j≤l.length) (h:Below w.heap.size w W)=>Lib.hid (Q21 S A l.length c l j s W (HR.out.below h) hj hk9 hs9)
 have HH:=Lib.hid (Qbg l k t s.data.toList)
 have HN:=Lib.hid (Qa1 l k t s.data.toList)
 generalize Q3M l k t s.data.toList=q at HH HN ⊢
 go_enter func119,ntmps119
 go_wp2
 go_loopw [10] (fun i wr=>∃ j:Nat,k≤j∧j≤l.length+1∧i=.int .i64 j∧Hid (Below w.heap.size w wr)∧Hid (∀ i,k≤i→i<j→Q3 l i s.data.toList=false)) (fun i _=>l.length+1-(intOf i).toNat)
 case atStart=>exact⟨k,Nat.le_refl _,by omega,rfl,Below.refl _ _,fun i h1 h2=>absurd h2 (by omega)⟩
 case round =>
  obtain⟨j,hj1,hj2,rfl,HB,HJ⟩:=hrel
  by_cases hlt:j+s.size≤t
  ·have hlt2:(j:Int)≤(t:Int)-(s.size:Int):=by omega
   have HC:=HS _ j (by omega) HB.out
   cases hq:Q3 l j s.data.toList with
   |true =>
    rw[hq] at HC
    have HE:Hid (q=some j):=HH.out j hj1 (by omega) HJ.out hq
    clear hq
    go_wp2_with (go_at_call 96;refine HC.out.mono ?_;rintro e w' ⟨rfl,hb⟩)
    go_ret2
    rw[HE.out]
    exact⟨rfl,HB.out.trans (hb.mono HB.out.size)⟩
   |false =>
    rw[hq] at HC
    have HJ2:Hid (∀ i,k≤i→i<j+1→Q3 l i s.data.toList=false):=fun i h1 h2=>by
     by_cases e:i=j
     ·subst e;exact hq
     ·exact HJ.out i h1 (by omega)
    clear hq
    go_wp2_with (go_at_call 96;refine HC.out.mono ?_;rintro e w' ⟨rfl,hb⟩)
    go_roundw
    case rel=>exact⟨j+1,by omega,by omega,by go_num,HB.out.trans (hb.mono HB.out.size),HJ2.out⟩
    case measure=>simp[intOf];omega
  ·have hlt2:¬ (j:Int)≤(t:Int)-(s.size:Int):=by omega
   have HE:Hid (q=none):=HN.out fun i h1 h2=>HJ.out i h1 (by omega)
   go_wp2
   go_ret2
   rw[HE.out]
   exact⟨rfl,HB.out⟩
def I32 (l:List Int):Prop:=∀ x∈l,-2147483648≤x∧x≤2147483647
theorem QcO (S:Nat→Prop)(A:Option Addr)(n c:Nat)(l:List Int)(k:Nat)(s:ByteArray)(w:World)(hr:Rd w S 1 A n c (rc l))(hk:k≤l.length)(hk9:l.length≤1000000000)(hs9:s.size≤1000000000)(hi:I32 l) :
  Calls prog 85 #[.slice A n c,.int .i64 k,.string s] w fun e w'=>e=.returned (.bool (Q3 l k s.data.toList))∧Below w.heap.size w w':=by
 obtain rfl:=hr.rlen
 have hle:=hr.le
 have hmx:c≤9223372036854775807:=hr.max
 have HR:=Lib.hid hr
 have HI:=Lib.hid hi
 clear hr hi
 have hsz:s.data.toList.length=s.size:=by simp
 have hkl:¬ (k:Int) > (l.length:Int):=by omega
 by_cases hshort:l.length<k+s.size
 ·have HE:=Lib.hid (Q5J l k s.data.toList (by omega) hk)
  have hsh:(s.size:Int) > (l.length:Int)-(k:Int):=by omega
  go_enter func85,ntmps85
  go_wp2
  go_ret
  exact⟨Q14 HE.out.symm,Below.refl _ _⟩
 ·have hsh:¬ (s.size:Int) > (l.length:Int)-(k:Int):=by omega
  go_enter func85,ntmps85
  go_wp2
  go_loopw [7] (fun i wr=>∃ j:Nat,j≤s.size∧i=.int .i64 j∧Hid (Below w.heap.size w wr)∧Hid (∀ i,i<j→(h1:i<s.data.toList.length)→(h2:k+i<l.length)→s.data.toList[i].toNat<128∧l[k+i]=s.data.toList[i].toNat)) (fun i _=>s.size-(intOf i).toNat)
  case atStart=>exact⟨0,Nat.zero_le _,rfl,Below.refl _ _,fun i h=>absurd h (by omega)⟩
  case round =>
   obtain⟨j,hj,rfl,HB,HJ⟩:=hrel
   by_cases hlt:j<s.size
   ·have hlt2:j<s.data.toList.length:=by omega
    have hlt3:j<s.data.size:=hlt
    have hkj:k+j<l.length:=by omega
    have hkj':(k:Int)+(j:Int)<(l.length:Int):=by omega
    obtain⟨b,o,rfl,hc0⟩:=(HR.out.below HB.out).rune hkj
    have hx:s.data.toList[j]=s.data[j]:=by simp
    have hb:=(s.data[j]).toNat_lt
    have hw:wrap64 ((s[j]).toNat:Int)=((s.data[j]).toNat:Int):=by
     show wrap64 ((s.data[j]).toNat:Int)=_
     exact IntWalk.wrap64_in _ (by omega)
    have hri:=HI.out _ (List.getElem_mem hkj)
    have HM:=Lib.hid (Q8w l k s.data.toList j hlt2 hkj)
    have HX:=Lib.hid hx
    rw[hx] at HM
    have HJ2:(s.data[j]).toNat<128→l[k+j]=(s.data[j]).toNat→Hid (∀ i,i<j+1→(h1:i<s.data.toList.length)→(h2:k+i<l.length)→s.data.toList[i].toNat<128∧l[k+i]=s.data.toList[i].toNat):=fun e1 e2 i hi h1 h2=>by
     by_cases e:i=j
     ·subst e;rw[HX.out];exact⟨e1,e2⟩
     ·exact HJ.out i (by omega) h1 h2
    clear hx
    generalize l[k+j]=r at hc0 HM HJ2 hri
    by_cases h128:(s.data[j]).toNat<128
    ·have hge:¬ ((s.data[j]).toNat:Int) > 127:=by omega
     have hge3:decide ((127:Int)<((s[j]).toNat:Int))=false:=by show decide ((127:Int)<((s.data[j]).toNat:Int))=false;rw[decide_eq_false_iff_not];omega
     by_cases hrb:r=(s.data[j]).toNat
     ·have HJ3:=HJ2 h128 hrb
      have hn:(r != ((s.data[j]).toNat:Int))=false:=by simpa using hrb
      clear HJ2 HM
      go_wp2
      go_quiet (fail)
      go_wp2
      go_roundw
      case rel=>exact⟨j+1,by omega,by go_num,Q1y HB.out _,HJ3.out⟩
      case measure=>simp[intOf];omega
     ·have HE:Hid (Q3 l k s.data.toList=false):=HM.out fun h=>hrb h.2
      have hn:(r != ((s.data[j]).toNat:Int))=true:=by simpa using hrb
      clear HJ2 HM
      go_wp2
      go_quiet (fail)
      go_wp2
      go_ret
      exact⟨Q14 HE.out.symm,Q1y HB.out _⟩
    ·have hge:((s.data[j]).toNat:Int) > 127:=by omega
     have hge3:decide ((127:Int)<((s[j]).toNat:Int))=true:=by show decide ((127:Int)<((s.data[j]).toNat:Int))=true;rw[decide_eq_true_iff];omega
     have HE:Hid (Q3 l k s.data.toList=false):=HM.out fun h=>h128 h.1
     clear HJ2 HM
     go_wp2
     go_quiet (fail)
     go_wp2
     go_ret
     exact⟨Q14 HE.out.symm,Q1y HB.out _⟩
   ·have HE:Hid (Q3 l k s.data.toList=true):=Q8p l k _ (by omega) fun i h=>HJ.out i (by omega) h (by omega)
    go_wp2
    go_ret
    exact⟨Q14 HE.out.symm,HB.out⟩
end Go.Proofs.YthbjpdijafccjaaGreat
namespace Go.Proofs.YthbjpdijafccjaaGreat
open Go.RowKit Go.Lib
def Q2l (l:List Int):List UInt8:=l.flatMap Q4d
theorem QgG (r:Int)(h:0<Qw r):QdN r=encodeRune r:=by
 unfold Qw at h
 split at h
 ·omega
 ·rename_i h1
  have hv:Utf8.valid r=true:=by simp[Utf8.valid];omega
  by_cases h2:r<128
  ·rw[Qee r (by omega) h2,encodeRune,encodeRuneZ_one (by omega) (by omega)];rfl
  ·unfold QdN Utf8.encode
   simp only[hv,if_true]
   rw[if_neg (by omega)]
   by_cases h3:r<2048
   ·rw[if_pos (by omega),encodeRune,encodeRuneZ_two (by omega) (by omega)]
    simp only[List.map_cons,List.map_nil]
    rw[show ((192+r / 64).toNat)=192+r.toNat / 64 by omega,show ((128+r % 64).toNat)=128+r.toNat % 64 by omega]
   ·rw[if_neg (by omega)]
    by_cases h4:r<65536
    ·rw[if_pos (by omega),encodeRune,encodeRuneZ_three (by omega)]
     simp only[List.map_cons,List.map_nil]
     rw[show ((224+r / 4096).toNat)=224+r.toNat / 4096 by omega,show ((128+r / 64 % 64).toNat)=128+r.toNat / 64 % 64 by omega,show ((128+r % 64).toNat)=128+r.toNat % 64 by omega]
    ·rw[if_neg (by omega),encodeRune,encodeRuneZ_four (by omega) (by omega)]
     simp only[List.map_cons,List.map_nil]
     rw[show ((240+r / 262144).toNat)=240+r.toNat / 262144 by omega,show ((128+r / 4096 % 64).toNat)=128+r.toNat / 4096 % 64 by omega,show ((128+r / 64 % 64).toNat)=128+r.toNat / 64 % 64 by omega,show ((128+r % 64).toNat)=128+r.toNat % 64 by omega]
def Q62 (r:Int):Bool:=(Q57 r).2
def Q6U (r:Int):Bool:=(Q8X r).2
def Q1p (l:List Int)(p n:Nat):Bool:=decide (0<n)&&(l[p+n]? == some 59)
def Q53 (l:List Int)(k:Nat):Nat:=((l.drop (k+2)).takeWhile Q62).length
def Q5E (l:List Int)(k:Nat):Nat:=((l.drop (k+3)).takeWhile Q6U).length
def Q1h (l:List Int)(k:Nat):Nat×Nat×Bool :=
 if Q3 l k [38,35,120]&&Q1p l (k+3) (Q5E l k) then (3,k+4+Q5E l k,true)
 else if Q3 l k [38,35]&&Q1p l (k+2) (Q53 l k) then (3,k+3+Q53 l k,true)
 else if Q1p l (k+1) (Qg l (k+1)) then (2,k+2+Qg l (k+1),true)
 else (11,k+1,false)
theorem Qeg (l:List Int)(k p:Nat):Qg l (k+p)=Qg (l.drop k) p:=by
 rw[Qg,Qg,List.getElem?_drop,List.drop_drop]
theorem QiP (l:List Int)(k:Nat):k<(Q1h l k).2.1:=by
 unfold Q1h
 repeat' split
 all_goals (simp only;omega)
theorem Q9K (l:List Int)(p n:Nat)(h:Q1p l p n=true):p+n<l.length:=by
 rw[Q1p,Bool.and_eq_true,beq_iff_eq] at h
 exact (List.getElem?_eq_some_iff.1 h.2).1
theorem Qku (l:List Int)(k:Nat)(hk:k<l.length):(Q1h l k).2.1≤l.length:=by
 unfold Q1h
 split
 ·rename_i h
  have:=Q9K _ _ _ (Bool.and_eq_true_iff.1 h).2
  simp only;omega
 ·split
  ·rename_i h
   have:=Q9K _ _ _ (Bool.and_eq_true_iff.1 h).2
   simp only;omega
  ·split
   ·rename_i h
    have:=Q9K _ _ _ h
    simp only;omega
   ·simp only;omega
end Go.Proofs.YthbjpdijafccjaaGreat
namespace Go.Proofs.YthbjpdijafccjaaGreat
open Go.RowKit Go.Lib Tryz
theorem QH {w W:World}{b o n:Nat}(h:w.there b o n)(hb:Below w.heap.size w W)(hlt:b<w.heap.size):W.there b o n:=fun j hj=>by
 obtain⟨h1,h2⟩:=h j hj
 refine⟨?_,?_⟩
 ·rw[World.cell?_of_block (hb.block _ hlt)];exact h1
 ·rw[World.frozen?_of_block (hb.block _ hlt)];exact h2
theorem Q2A (w:World)(cs:Array Value)(t:TypeId):(w.alloc (.cells cs t)).there w.heap.size 0 cs.size:=fun j hj=>by
 refine⟨?_,by simp⟩
 rw[World.cell?_alloc_at _ _ _ _ rfl]
 simp[hj]
theorem Qf {B:Nat}{w0 w:World}(h:Below B w0 w)(b:Nat)(hb:B≤b)(vs:List Value)(o:Nat):Below B w0 (w.setCells b o vs):=by
 induction vs generalizing o w with
 |nil=>exact h
 |cons v r ih=>exact ih (h.setCell hb _) (o+1)
theorem Qz {P:Program}{T:TypeId}{d:TypeDesc}(W:World)(B:Nat)(vs:List Value)(ht:W.there B 0 vs.length)(hi:(P.info? T).map (·.size)=some vs.length)
  (hu:P.underlying T=some d) (hd:d.isRow=true):(loadVar T ⟨B,0,none⟩).run P (W.setCells B 0 vs)=.ok (.agg vs.toArray) (W.setCells B 0 vs) :=
 run_loadVar_mid (P:=P) (W.setCells B 0 vs) B 0 T vs d (World.rangeAt_setCells_same W B 0 vs ht) hu hd hi
theorem Q6 {w:World}{b n:Nat}(h:w.there b 0 n)(i:Nat)(hi:i<n):(∃ v,w.cell? ⟨b,i,none⟩=some v)∧w.frozen? ⟨b,i,none⟩=false:=by
 have:=h i hi
 rw[Nat.zero_add] at this
 exact⟨Option.isSome_iff_exists.1 this.1,this.2⟩
theorem Qr {P:Program}{fn:Func}{t:Tmp}{T:TypeId}{a:Addr}{v:Value}{w:World}(h:fn.results=#[.cell t T])(tmps:Array Value)
  (ha:tmps.getD t undef=.pointer (some a)) (hl:(loadVar T a).run P w=.ok v w):(results fn tmps).run P w=.ok v w:=by
 have ha':tmps[t]?.getD undef=.pointer (some a):=by simpa using ha
 simp[results,h,ha',asAddr,hl]
theorem Q3V {P:Program}{fn:Func}{t u:Tmp}{T:TypeId}{a:Addr}{v:Value}{w:World}(h:fn.results=#[.cell t T,.tmp u])(tmps:Array Value)
  (ha:tmps.getD t undef=.pointer (some a)) (hl:(loadVar T a).run P w=.ok v w):(results fn tmps).run P w=.ok (.tuple #[v,tmps.getD u undef]) w:=by
 have ha':tmps[t]?.getD undef=.pointer (some a):=by simpa using ha
 simp[results,h,ha',asAddr,hl]
theorem QeC (r:Int)(w:World):Calls prog 102 #[.int .i32 r] w fun e w'=>e=.returned (.bool (Q62 r))∧w=w':=by
 have HD:=Lib.hid (QaC r w)
 generalize (Q57 r).1=d1 at HD
 have HQ:Hid (Q62 r=(Q57 r).2):=rfl
 generalize (Q57 r).2=d2 at HD HQ
 go_enter func102,ntmps102
 go_wp2_with fail
 refine HD.out.mono ?_
 rintro e w' ⟨rfl,rfl⟩
 go_wp2
 go_ret
 exact⟨Q14 HQ.out.symm,rfl⟩
theorem QiY (r:Int)(w:World):Calls prog 103 #[.int .i32 r] w fun e w'=>e=.returned (.bool (Q6U r))∧w=w':=by
 have HD:=Lib.hid (QjV r w)
 generalize (Q8X r).1=d1 at HD
 have HQ:Hid (Q6U r=(Q8X r).2):=rfl
 generalize (Q8X r).2=d2 at HD HQ
 go_enter func103,ntmps103
 go_wp2_with fail
 refine HD.out.mono ?_
 rintro e w' ⟨rfl,rfl⟩
 go_wp2
 go_ret
 exact⟨Q14 HQ.out.symm,rfl⟩
theorem Qgp (w:World):Q7f prog 102 #[] Q62 w:=fun W r _=>(QeC r W).mono fun _ _ ⟨h1,h2⟩=>⟨h1,h2 ▸ Below.refl _ _⟩
theorem QkC (w:World):Q7f prog 103 #[] Q6U w:=fun W r _=>(QiY r W).mono fun _ _ ⟨h1,h2⟩=>⟨h1,h2 ▸ Below.refl _ _⟩
theorem QgR:∀ args w,(callFunc 102 args).run prog w=.ok (.enter 102 args) w:=enters_of func102 (by kernel_rfl) rfl
theorem Qk3:∀ args w,(callFunc 103 args).run prog w=.ok (.enter 103 args) w:=enters_of func103 (by kernel_rfl) rfl
theorem Q8a (S:Nat→Prop)(A:Option Addr)(n c:Nat)(l:List Int)(p m:Nat)(w:World)(hr:Rd w S 1 A n c (rc l))(hp:p≤2000000000)(hm:m≤2000000000) :
  Calls prog 104 #[.slice A n c,.int .i64 p,.int .i64 m] w fun e w'=>e=.returned (.bool (Q1p l p m))∧w=w':=by
 obtain rfl:=hr.rlen
 have hle:=hr.le
 have hmx:c≤9223372036854775807:=hr.max
 by_cases h0:0<m
 ·have h0i:(m:Int) > 0:=by omega
  by_cases hlt:p+m<l.length
  ·have hlti:(p:Int)+(m:Int)<(l.length:Int):=by omega
   obtain⟨b,o,rfl,hc0⟩:=hr.rune hlt
   have HE:Hid (Q1p l p m=(l[p+m] == 59)):=by
    rw[Hid,Q1p,decide_eq_true h0,List.getElem?_eq_getElem hlt,Bool.true_and]
    rfl
   clear hr
   generalize l[p+m]=r at hc0 HE
   generalize Q1p l p m=q at HE ⊢
   go_enter func104,ntmps104
   go_wp2
   go_ret
   exact⟨Q14 HE.out.symm,rfl⟩
  ·have hlti:¬ (p:Int)+(m:Int)<(l.length:Int):=by omega
   have HE:Hid (Q1p l p m=false):=by rw[Hid,Q1p,decide_eq_true h0,List.getElem?_eq_none (by omega)];rfl
   clear hr
   go_enter func104,ntmps104
   go_wp2
   go_ret
   exact⟨Q14 HE.out.symm,rfl⟩
 ·have h0i:¬ (m:Int) > 0:=by omega
  have HE:Hid (Q1p l p m=false):=by rw[Hid,Q1p,decide_eq_false h0];rfl
  clear hr
  go_enter func104,ntmps104
  go_wp2
  go_ret
  exact⟨Q14 HE.out.symm,rfl⟩
def Q20 (t:Nat×Nat×Bool)(k:Nat):Value:=.agg #[.int .i64 t.1,.int .i64 k,.int .i64 t.2.1,.bool t.2.2]
theorem Qib (p:Int→Bool)(l:List Int)(k j:Nat):Q2Q p l ((min (k+j) l.length:Nat):Int)=((l.drop (k+j)).takeWhile p).length:=by
 rw[Q2Q,if_neg (by omega),Int.toNat_natCast]
 by_cases h:k+j≤l.length
 ·rw[Nat.min_eq_left h]
 ·rw[Nat.min_eq_right (by omega),List.drop_eq_nil_of_le (Nat.le_refl _),List.drop_eq_nil_of_le (by omega)]
theorem QjD (S:Nat→Prop)(A:Option Addr)(n c:Nat)(l:List Int)(k:Nat)(w:World)(hr:Rd w S 1 A n c (rc l))(hk:k<l.length)(hl9:l.length≤1000000000) :
  Calls prog 74 #[.slice A n c,.int .i64 k] w fun e w'=>e=.returned (Q20 (Q1h l k) k)∧Below w.heap.size w w':=by
 obtain rfl:=hr.rlen
 have hle:=hr.le
 have hmx:c≤9223372036854775807:=hr.max
 have HR:=Lib.hid hr
 have HRN:∀ W,Below w.heap.size w W→Hid (Calls prog 75 #[.slice A l.length c,.int .i64 (min (k+2) l.length:Nat),.func (.func 102) #[] #[]] W fun e w'=>e=.returned (.int .i64 (Q53 l k))∧Below W.heap.size W w'):=fun W h=>by
  have:=Q7C S A l.length c l (min (k+2) l.length:Nat) 102 #[] Q62 W QgR (HR.out.below h) (Qgp W)
  rwa [Qib] at this
 have HRX:∀ W,Below w.heap.size w W→Hid (Calls prog 75 #[.slice A l.length c,.int .i64 (min (k+3) l.length:Nat),.func (.func 103) #[] #[]] W fun e w'=>e=.returned (.int .i64 (Q5E l k))∧Below W.heap.size W w'):=fun W h=>by
  have:=Q7C S A l.length c l (min (k+3) l.length:Nat) 103 #[] Q6U W Qk3 (HR.out.below h) (QkC W)
  rwa [Qib] at this
 have hm2:∀ ts t W,(Builtin.min_ ts t #[.int .i64 ((k:Int)+2),.int .i64 (l.length:Int)]).run prog W=.ok (.int .i64 (min (k+2) l.length:Nat)) W:=fun ts t W=>by
  rw[run_min_int2]
  congr 2
  split<;>omega
 have hm3:∀ ts t W,(Builtin.min_ ts t #[.int .i64 ((k:Int)+3),.int .i64 (l.length:Int)]).run prog W=.ok (.int .i64 (min (k+3) l.length:Nat)) W:=fun ts t W=>by
  rw[run_min_int2]
  congr 2
  split<;>omega
 have HS1:∀ W,Below w.heap.size w W→Hid (Calls prog 96 #[.slice A l.length c,.int .i64 k,.string ⟨#[38,35,120]⟩] W fun e w'=>e=.returned (.bool (Q3 l k [38,35,120]))∧Below W.heap.size W w') :=
  fun W h=>Q21 S A l.length c l k ⟨#[38,35,120]⟩ W (HR.out.below h) (by omega) hl9 (by decide)
 have HS2:∀ W,Below w.heap.size w W→Hid (Calls prog 96 #[.slice A l.length c,.int .i64 k,.string ⟨#[38,35]⟩] W fun e w'=>e=.returned (.bool (Q3 l k [38,35]))∧Below W.heap.size W w') :=
  fun W h=>Q21 S A l.length c l k ⟨#[38,35]⟩ W (HR.out.below h) (by omega) hl9 (by decide)
 have hdn:Q53 l k≤1000000000:=by have:=(List.takeWhile_sublist Q62 (l:=l.drop (k+2))).length_le;rw[List.length_drop] at this;unfold Q53;omega
 have hxn:Q5E l k≤1000000000:=by have:=(List.takeWhile_sublist Q6U (l:=l.drop (k+3))).length_le;rw[List.length_drop] at this;unfold Q5E;omega
 have hln:Qg l (k+1)≤1000000000:=by
  rw[Qeg l k 1]
  unfold Qg
  split
  ·omega
  ·split
   ·have:=(List.takeWhile_sublist Qs (l:=(l.drop k).drop 1)).length_le
    simp only[List.length_drop] at this;omega
   ·omega
 have HLD:∀ W,Below w.heap.size w W→Hid (Calls prog 100 #[.slice A l.length c,.int .i64 ((k:Int)+1)] W fun e w'=>e=.returned (.int .i64 (Qg l (k+1)))∧Below W.heap.size W w'):=fun W h=>by
  rw[show ((k:Int)+1)=((k+1:Nat):Int) by omega]
  exact Q7X S A l.length c l (k+1) W (HR.out.below h) (by omega)
 have HE1:∀ W,Below w.heap.size w W→Hid (Calls prog 104 #[.slice A l.length c,.int .i64 ((k:Int)+3),.int .i64 (Q5E l k)] W fun e w'=>e=.returned (.bool (Q1p l (k+3) (Q5E l k)))∧W=w'):=fun W h=>by
  rw[show ((k:Int)+3)=((k+3:Nat):Int) by omega]
  exact Q8a S A l.length c l (k+3) (Q5E l k) W (HR.out.below h) (by omega) (by omega)
 have HE2:∀ W,Below w.heap.size w W→Hid (Calls prog 104 #[.slice A l.length c,.int .i64 ((k:Int)+2),.int .i64 (Q53 l k)] W fun e w'=>e=.returned (.bool (Q1p l (k+2) (Q53 l k)))∧W=w'):=fun W h=>by
  rw[show ((k:Int)+2)=((k+2:Nat):Int) by omega]
  exact Q8a S A l.length c l (k+2) (Q53 l k) W (HR.out.below h) (by omega) (by omega)
 have HE3:∀ W,Below w.heap.size w W→Hid (Calls prog 104 #[.slice A l.length c,.int .i64 ((k:Int)+1),.int .i64 (Qg l (k+1))] W fun e w'=>e=.returned (.bool (Q1p l (k+1) (Qg l (k+1))))∧W=w'):=fun W h=>by
  rw[show ((k:Int)+1)=((k+1:Nat):Int) by omega]
  exact Q8a S A l.length c l (k+1) (Qg l (k+1)) W (HR.out.below h) (by omega) (by omega)
 have HREF:Hid (Q1h l k=if Q3 l k [38,35,120]&&Q1p l (k+3) (Q5E l k) then (3,k+4+Q5E l k,true)
  else if Q3 l k [38,35]&&Q1p l (k+2) (Q53 l k) then (3,k+3+Q53 l k,true)
  else if Q1p l (k+1) (Qg l (k+1)) then (2,k+2+Qg l (k+1),true) else (11,k+1,false)):=rfl
 generalize Q3 l k [38,35,120]=s1 at HS1 HREF
 generalize Q3 l k [38,35]=s2 at HS2 HREF
 generalize Q1p l (k+3) (Q5E l k)=e1 at HE1 HREF
 generalize Q1p l (k+2) (Q53 l k)=e2 at HE2 HREF
 generalize Q1p l (k+1) (Qg l (k+1))=e3 at HE3 HREF
 generalize Q5E l k=x at HRX HE1 HREF hxn
 generalize Q53 l k=nd at HRN HE2 HREF hdn
 generalize Qg l (k+1)=d at HLD HE3 HREF hln
 generalize min (k+2) l.length=m2 at HRN hm2
 generalize min (k+3) l.length=m3 at HRX hm3
 clear hr
 go_enter func74,ntmps74
 go_wp2_with fail
 have HTH0:=Lib.hid (Q2A w #[.int .i64 0,.int .i64 0,.int .i64 0,.bool false] 95)
 have HB0:=Lib.hid (ba w (.cells #[.int .i64 0,.int .i64 0,.int .i64 0,.bool false] 95))
 have HSZ:Hid (w.heap.size+1≤(w.alloc (.cells #[.int .i64 0,.int .i64 0,.int .i64 0,.bool false] 95)).heap.size):=by simp[Hid]
 generalize w.alloc (.cells #[.int .i64 0,.int .i64 0,.int .i64 0,.bool false] 95)=W0 at HTH0 HB0 HSZ
 refine (HRN _ HB0.out).out.mono ?_
 rintro e w1 ⟨rfl,hb1⟩
 have HB1:=Lib.hid (HB0.out.trans (hb1.mono HB0.out.size))
 have HTH1:=Lib.hid (QH HTH0.out hb1 (by have:=HSZ.out;omega))
 have HLT:Hid (w.heap.size<w1.heap.size):=by have:=HSZ.out;have:=hb1.size;show _<_;omega
 clear hb1
 go_wp2_with fail
 refine (HRX _ HB1.out).out.mono ?_
 rintro e w2 ⟨rfl,hb2⟩
 have HB2:=Lib.hid (HB1.out.trans (hb2.mono HB1.out.size))
 have HTH2:=Lib.hid (QH HTH1.out hb2 HLT.out)
 have HLT:=Lib.hid (Nat.lt_of_lt_of_le HLT.out hb2.size)
 clear hb2
 go_wp2_with fail
 refine (HLD _ HB2.out).out.mono ?_
 rintro e w3 ⟨rfl,hb3⟩
 have HB3:=Lib.hid (HB2.out.trans (hb3.mono HB2.out.size))
 have HTH3:=Lib.hid (QH HTH2.out hb3 HLT.out)
 have HLT:=Lib.hid (Nat.lt_of_lt_of_le HLT.out hb3.size)
 clear hb3
 go_wp2_with fail
 refine (HS1 _ HB3.out).out.mono ?_
 rintro e w4 ⟨rfl,hb4⟩
 have HB4:=Lib.hid (HB3.out.trans (hb4.mono HB3.out.size))
 have HTH4:=Lib.hid (QH HTH3.out hb4 HLT.out)
 have HLT:=Lib.hid (Nat.lt_of_lt_of_le HLT.out hb4.size)
 clear hb4 HB0 HB1 HB2 HB3 HTH0 HTH1 HTH2 HTH3 HRN HRX HLD HS1
 cases s1 with
 |true =>
  go_wp2_with fail
  refine (HE1 _ HB4.out).out.mono ?_
  rintro e wx ⟨rfl,rfl⟩
  cases e1 with
  |true =>
   have HV:Hid (Q20 (Q1h l k) k=.agg #[.int .i64 3,.int .i64 k,.int .i64 ((k:Int)+4+(x:Int)),.bool true]):=by rw[Hid,HREF.out];simp[Q20]
   have HL9:=Lib.hid (Qz (P:=prog) (T:=95) w4 w.heap.size [.int .i64 3,.int .i64 k,.int .i64 ((k:Int)+4+(x:Int)),.bool true] HTH4.out (by kernel_rfl) underlying95 rfl)
   have HB9:=Lib.hid (Qf HB4.out w.heap.size (Nat.le_refl _) [.int .i64 3,.int .i64 k,.int .i64 ((k:Int)+4+(x:Int)),.bool true] 0)
   obtain⟨⟨z0,hz0⟩,hf0⟩:=Q6 HTH4.out 0 (by decide)
   obtain⟨⟨z1,hz1⟩,hf1⟩:=Q6 HTH4.out 1 (by decide)
   obtain⟨⟨z2,hz2⟩,hf2⟩:=Q6 HTH4.out 2 (by decide)
   obtain⟨⟨z3,hz3⟩,hf3⟩:=Q6 HTH4.out 3 (by decide)
   go_wp2
   refine bodyPost_ret (Qr rfl _ rfl HL9.out) rfl ?_
   rw[HV.out]
   exact⟨rfl,HB9.out⟩
  |false =>
   go_wp2_with fail
   refine (HS2 _ HB4.out).out.mono ?_
   rintro e w5 ⟨rfl,hb5⟩
   have HB5:=Lib.hid (HB4.out.trans (hb5.mono HB4.out.size))
   have HTH5:=Lib.hid (QH HTH4.out hb5 HLT.out)
   clear hb5
   cases s2 with
   |true =>
    go_wp2_with fail
    refine (HE2 _ HB5.out).out.mono ?_
    rintro e wx ⟨rfl,rfl⟩
    cases e2 with
    |true =>
     have HV:Hid (Q20 (Q1h l k) k=.agg #[.int .i64 3,.int .i64 k,.int .i64 ((k:Int)+3+(nd:Int)),.bool true]):=by rw[Hid,HREF.out];simp[Q20]
     have HL9:=Lib.hid (Qz (P:=prog) (T:=95) w5 w.heap.size [.int .i64 3,.int .i64 k,.int .i64 ((k:Int)+3+(nd:Int)),.bool true] HTH5.out (by kernel_rfl) underlying95 rfl)
     have HB9:=Lib.hid (Qf HB5.out w.heap.size (Nat.le_refl _) [.int .i64 3,.int .i64 k,.int .i64 ((k:Int)+3+(nd:Int)),.bool true] 0)
     obtain⟨⟨z0,hz0⟩,hf0⟩:=Q6 HTH5.out 0 (by decide)
     obtain⟨⟨z1,hz1⟩,hf1⟩:=Q6 HTH5.out 1 (by decide)
     obtain⟨⟨z2,hz2⟩,hf2⟩:=Q6 HTH5.out 2 (by decide)
     obtain⟨⟨z3,hz3⟩,hf3⟩:=Q6 HTH5.out 3 (by decide)
     go_wp2
     refine bodyPost_ret (Qr rfl _ rfl HL9.out) rfl ?_
     rw[HV.out]
     exact⟨rfl,HB9.out⟩
    |false =>
     go_wp2_with fail
     refine (HE3 _ HB5.out).out.mono ?_
     rintro e wx ⟨rfl,rfl⟩
     cases e3 with
     |true =>
      have HV:Hid (Q20 (Q1h l k) k=.agg #[.int .i64 2,.int .i64 k,.int .i64 ((k:Int)+2+(d:Int)),.bool true]):=by rw[Hid,HREF.out];simp[Q20]
      have HL9:=Lib.hid (Qz (P:=prog) (T:=95) w5 w.heap.size [.int .i64 2,.int .i64 k,.int .i64 ((k:Int)+2+(d:Int)),.bool true] HTH5.out (by kernel_rfl) underlying95 rfl)
      have HB9:=Lib.hid (Qf HB5.out w.heap.size (Nat.le_refl _) [.int .i64 2,.int .i64 k,.int .i64 ((k:Int)+2+(d:Int)),.bool true] 0)
      obtain⟨⟨z0,hz0⟩,hf0⟩:=Q6 HTH5.out 0 (by decide)
      obtain⟨⟨z1,hz1⟩,hf1⟩:=Q6 HTH5.out 1 (by decide)
      obtain⟨⟨z2,hz2⟩,hf2⟩:=Q6 HTH5.out 2 (by decide)
      obtain⟨⟨z3,hz3⟩,hf3⟩:=Q6 HTH5.out 3 (by decide)
      go_wp2
      refine bodyPost_ret (Qr rfl _ rfl HL9.out) rfl ?_
      rw[HV.out]
      exact⟨rfl,HB9.out⟩
     |false =>
      have HV:Hid (Q20 (Q1h l k) k=.agg #[.int .i64 11,.int .i64 k,.int .i64 ((k:Int)+1),.bool false]):=by rw[Hid,HREF.out];simp[Q20]
      have HL9:=Lib.hid (Qz (P:=prog) (T:=95) w5 w.heap.size [.int .i64 11,.int .i64 k,.int .i64 ((k:Int)+1),.bool false] HTH5.out (by kernel_rfl) underlying95 rfl)
      have HB9:=Lib.hid (Qf HB5.out w.heap.size (Nat.le_refl _) [.int .i64 11,.int .i64 k,.int .i64 ((k:Int)+1),.bool false] 0)
      obtain⟨⟨z0,hz0⟩,hf0⟩:=Q6 HTH5.out 0 (by decide)
      obtain⟨⟨z1,hz1⟩,hf1⟩:=Q6 HTH5.out 1 (by decide)
      obtain⟨⟨z2,hz2⟩,hf2⟩:=Q6 HTH5.out 2 (by decide)
      obtain⟨⟨z3,hz3⟩,hf3⟩:=Q6 HTH5.out 3 (by decide)
      go_wp2
      refine bodyPost_ret (Qr rfl _ rfl HL9.out) rfl ?_
      rw[HV.out]
      exact⟨rfl,HB9.out⟩
   |false =>
    go_wp2_with fail
    refine (HE3 _ HB5.out).out.mono ?_
    rintro e wx ⟨rfl,rfl⟩
    cases e3 with
    |true =>
     have HV:Hid (Q20 (Q1h l k) k=.agg #[.int .i64 2,.int .i64 k,.int .i64 ((k:Int)+2+(d:Int)),.bool true]):=by rw[Hid,HREF.out];simp[Q20]
     have HL9:=Lib.hid (Qz (P:=prog) (T:=95) w5 w.heap.size [.int .i64 2,.int .i64 k,.int .i64 ((k:Int)+2+(d:Int)),.bool true] HTH5.out (by kernel_rfl) underlying95 rfl)
     have HB9:=Lib.hid (Qf HB5.out w.heap.size (Nat.le_refl _) [.int .i64 2,.int .i64 k,.int .i64 ((k:Int)+2+(d:Int)),.bool true] 0)
     obtain⟨⟨z0,hz0⟩,hf0⟩:=Q6 HTH5.out 0 (by decide)
     obtain⟨⟨z1,hz1⟩,hf1⟩:=Q6 HTH5.out 1 (by decide)
     obtain⟨⟨z2,hz2⟩,hf2⟩:=Q6 HTH5.out 2 (by decide)
     obtain⟨⟨z3,hz3⟩,hf3⟩:=Q6 HTH5.out 3 (by decide)
     go_wp2
     refine bodyPost_ret (Qr rfl _ rfl HL9.out) rfl ?_
     rw[HV.out]
     exact⟨rfl,HB9.out⟩
    |false =>
     have HV:Hid (Q20 (Q1h l k) k=.agg #[.int .i64 11,.int .i64 k,.int .i64 ((k:Int)+1),.bool false]):=by rw[Hid,HREF.out];simp[Q20]
     have HL9:=Lib.hid (Qz (P:=prog) (T:=95) w5 w.heap.size [.int .i64 11,.int .i64 k,.int .i64 ((k:Int)+1),.bool false] HTH5.out (by kernel_rfl) underlying95 rfl)
     have HB9:=Lib.hid (Qf HB5.out w.heap.size (Nat.le_refl _) [.int .i64 11,.int .i64 k,.int .i64 ((k:Int)+1),.bool false] 0)
     obtain⟨⟨z0,hz0⟩,hf0⟩:=Q6 HTH5.out 0 (by decide)
     obtain⟨⟨z1,hz1⟩,hf1⟩:=Q6 HTH5.out 1 (by decide)
     obtain⟨⟨z2,hz2⟩,hf2⟩:=Q6 HTH5.out 2 (by decide)
     obtain⟨⟨z3,hz3⟩,hf3⟩:=Q6 HTH5.out 3 (by decide)
     go_wp2
     refine bodyPost_ret (Qr rfl _ rfl HL9.out) rfl ?_
     rw[HV.out]
     exact⟨rfl,HB9.out⟩
 |false =>
  go_wp2_with fail
  refine (HS2 _ HB4.out).out.mono ?_
  rintro e w5 ⟨rfl,hb5⟩
  have HB5:=Lib.hid (HB4.out.trans (hb5.mono HB4.out.size))
  have HTH5:=Lib.hid (QH HTH4.out hb5 HLT.out)
  clear hb5
  cases s2 with
  |true =>
   go_wp2_with fail
   refine (HE2 _ HB5.out).out.mono ?_
   rintro e wx ⟨rfl,rfl⟩
   cases e2 with
   |true =>
    have HV:Hid (Q20 (Q1h l k) k=.agg #[.int .i64 3,.int .i64 k,.int .i64 ((k:Int)+3+(nd:Int)),.bool true]):=by rw[Hid,HREF.out];simp[Q20]
    have HL9:=Lib.hid (Qz (P:=prog) (T:=95) w5 w.heap.size [.int .i64 3,.int .i64 k,.int .i64 ((k:Int)+3+(nd:Int)),.bool true] HTH5.out (by kernel_rfl) underlying95 rfl)
    have HB9:=Lib.hid (Qf HB5.out w.heap.size (Nat.le_refl _) [.int .i64 3,.int .i64 k,.int .i64 ((k:Int)+3+(nd:Int)),.bool true] 0)
    obtain⟨⟨z0,hz0⟩,hf0⟩:=Q6 HTH5.out 0 (by decide)
    obtain⟨⟨z1,hz1⟩,hf1⟩:=Q6 HTH5.out 1 (by decide)
    obtain⟨⟨z2,hz2⟩,hf2⟩:=Q6 HTH5.out 2 (by decide)
    obtain⟨⟨z3,hz3⟩,hf3⟩:=Q6 HTH5.out 3 (by decide)
    go_wp2
    refine bodyPost_ret (Qr rfl _ rfl HL9.out) rfl ?_
    rw[HV.out]
    exact⟨rfl,HB9.out⟩
   |false =>
    go_wp2_with fail
    refine (HE3 _ HB5.out).out.mono ?_
    rintro e wx ⟨rfl,rfl⟩
    cases e3 with
    |true =>
     have HV:Hid (Q20 (Q1h l k) k=.agg #[.int .i64 2,.int .i64 k,.int .i64 ((k:Int)+2+(d:Int)),.bool true]):=by rw[Hid,HREF.out];simp[Q20]
     have HL9:=Lib.hid (Qz (P:=prog) (T:=95) w5 w.heap.size [.int .i64 2,.int .i64 k,.int .i64 ((k:Int)+2+(d:Int)),.bool true] HTH5.out (by kernel_rfl) underlying95 rfl)
     have HB9:=Lib.hid (Qf HB5.out w.heap.size (Nat.le_refl _) [.int .i64 2,.int .i64 k,.int .i64 ((k:Int)+2+(d:Int)),.bool true] 0)
     obtain⟨⟨z0,hz0⟩,hf0⟩:=Q6 HTH5.out 0 (by decide)
     obtain⟨⟨z1,hz1⟩,hf1⟩:=Q6 HTH5.out 1 (by decide)
     obtain⟨⟨z2,hz2⟩,hf2⟩:=Q6 HTH5.out 2 (by decide)
     obtain⟨⟨z3,hz3⟩,hf3⟩:=Q6 HTH5.out 3 (by decide)
     go_wp2
     refine bodyPost_ret (Qr rfl _ rfl HL9.out) rfl ?_
     rw[HV.out]
     exact⟨rfl,HB9.out⟩
    |false =>
     have HV:Hid (Q20 (Q1h l k) k=.agg #[.int .i64 11,.int .i64 k,.int .i64 ((k:Int)+1),.bool false]):=by rw[Hid,HREF.out];simp[Q20]
     have HL9:=Lib.hid (Qz (P:=prog) (T:=95) w5 w.heap.size [.int .i64 11,.int .i64 k,.int .i64 ((k:Int)+1),.bool false] HTH5.out (by kernel_rfl) underlying95 rfl)
     have HB9:=Lib.hid (Qf HB5.out w.heap.size (Nat.le_refl _) [.int .i64 11,.int .i64 k,.int .i64 ((k:Int)+1),.bool false] 0)
     obtain⟨⟨z0,hz0⟩,hf0⟩:=Q6 HTH5.out 0 (by decide)
     obtain⟨⟨z1,hz1⟩,hf1⟩:=Q6 HTH5.out 1 (by decide)
     obtain⟨⟨z2,hz2⟩,hf2⟩:=Q6 HTH5.out 2 (by decide)
     obtain⟨⟨z3,hz3⟩,hf3⟩:=Q6 HTH5.out 3 (by decide)
     go_wp2
     refine bodyPost_ret (Qr rfl _ rfl HL9.out) rfl ?_
     rw[HV.out]
     exact⟨rfl,HB9.out⟩
  |false =>
   go_wp2_with fail
   refine (HE3 _ HB5.out).out.mono ?_
   rintro e wx ⟨rfl,rfl⟩
   cases e3 with
   |true =>
    have HV:Hid (Q20 (Q1h l k) k=.agg #[.int .i64 2,.int .i64 k,.int .i64 ((k:Int)+2+(d:Int)),.bool true]):=by rw[Hid,HREF.out];simp[Q20]
    have HL9:=Lib.hid (Qz (P:=prog) (T:=95) w5 w.heap.size [.int .i64 2,.int .i64 k,.int .i64 ((k:Int)+2+(d:Int)),.bool true] HTH5.out (by kernel_rfl) underlying95 rfl)
    have HB9:=Lib.hid (Qf HB5.out w.heap.size (Nat.le_refl _) [.int .i64 2,.int .i64 k,.int .i64 ((k:Int)+2+(d:Int)),.bool true] 0)
    obtain⟨⟨z0,hz0⟩,hf0⟩:=Q6 HTH5.out 0 (by decide)
    obtain⟨⟨z1,hz1⟩,hf1⟩:=Q6 HTH5.out 1 (by decide)
    obtain⟨⟨z2,hz2⟩,hf2⟩:=Q6 HTH5.out 2 (by decide)
    obtain⟨⟨z3,hz3⟩,hf3⟩:=Q6 HTH5.out 3 (by decide)
    go_wp2
    refine bodyPost_ret (Qr rfl _ rfl HL9.out) rfl ?_
    rw[HV.out]
    exact⟨rfl,HB9.out⟩
   |false =>
    have HV:Hid (Q20 (Q1h l k) k=.agg #[.int .i64 11,.int .i64 k,.int .i64 ((k:Int)+1),.bool false]):=by rw[Hid,HREF.out];simp[Q20]
    have HL9:=Lib.hid (Qz (P:=prog) (T:=95) w5 w.heap.size [.int .i64 11,.int .i64 k,.int .i64 ((k:Int)+1),.bool false] HTH5.out (by kernel_rfl) underlying95 rfl)
    have HB9:=Lib.hid (Qf HB5.out w.heap.size (Nat.le_refl _) [.int .i64 11,.int .i64 k,.int .i64 ((k:Int)+1),.bool false] 0)
    obtain⟨⟨z0,hz0⟩,hf0⟩:=Q6 HTH5.out 0 (by decide)
    obtain⟨⟨z1,hz1⟩,hf1⟩:=Q6 HTH5.out 1 (by decide)
    obtain⟨⟨z2,hz2⟩,hf2⟩:=Q6 HTH5.out 2 (by decide)
    obtain⟨⟨z3,hz3⟩,hf3⟩:=Q6 HTH5.out 3 (by decide)
    go_wp2
    refine bodyPost_ret (Qr rfl _ rfl HL9.out) rfl ?_
    rw[HV.out]
    exact⟨rfl,HB9.out⟩
def Q3a (r:Int):Bool:=r == 34||r == 39
def Q2i (l:List Int)(q:Int)(k:Nat):Nat×Bool:=if h:k<l.length then (if l[k]=q then (k+1,true) else Q2i l q (k+1)) else (l.length,false)
termination_by l.length-k
theorem Q5V (l:List Int)(q:Int)(k:Nat)(h:k<l.length)(hq:l[k]=q):Q2i l q k=(k+1,true):=by rw[Q2i,dif_pos h,if_pos hq]
theorem Q5f (l:List Int)(q:Int)(k:Nat)(h:k<l.length)(hq:l[k]≠q):Q2i l q k=Q2i l q (k+1):=by rw[Q2i,dif_pos h,if_neg hq]
theorem Q3B (l:List Int)(q:Int)(k:Nat)(h:¬ k<l.length):Q2i l q k=(l.length,false):=by rw[Q2i,dif_neg h]
theorem Qek (l:List Int)(q:Int):∀ (n k:Nat),l.length-k≤n→k≤l.length→k≤(Q2i l q k).1∧(Q2i l q k).1≤l.length∧(k<l.length→k<(Q2i l q k).1∨(Q2i l q k).1=l.length):=by
 intro n
 induction n with
 |zero =>
  intro k h hk
  rw[Q3B l q k (by omega)]
  simp only;omega
 |succ n ih =>
  intro k h hk
  by_cases hlt:k<l.length
  ·by_cases hq:l[k]=q
   ·rw[Q5V l q k hlt hq];simp only;omega
   ·rw[Q5f l q k hlt hq]
    have:=ih (k+1) (by omega) (by omega)
    omega
  ·rw[Q3B l q k hlt];simp only;omega
def Q12 (l:List Int)(k:Nat):Nat×Bool:=Q2i l (l.getD k 0) (k+1)
theorem Q2w (l:List Int)(k:Nat)(h:k<l.length):k<(Q12 l k).1∧(Q12 l k).1≤l.length:=by
 have:=Qek l (l.getD k 0) l.length (k+1) (by omega) (by omega)
 unfold Q12;omega
def QJ (l:List Int)(stops:Bool)(k:Nat):Nat×Bool :=
 if h:k<l.length then
  (if Q3a l[k] then QJ l stops (Q12 l k).1 else if l[k]=62 then (k,true) else if l[k]=60∧stops=true then (k,false) else QJ l stops (k+1))
 else (l.length,false)
termination_by l.length-k
decreasing_by
 ·have:=Q2w l k (by assumption);omega
 ·omega
theorem Q2b (l:List Int)(s:Bool)(k:Nat)(h:¬ k<l.length):QJ l s k=(l.length,false):=by rw[QJ,dif_neg h]
theorem Q4w (l:List Int)(s:Bool)(k:Nat)(h:k<l.length)(hq:Q3a l[k]=true):QJ l s k=QJ l s (Q12 l k).1:=by
 conv=>lhs;rw[QJ]
 rw[dif_pos h,if_pos hq]
theorem Q5h (l:List Int)(s:Bool)(k:Nat)(h:k<l.length)(hq:l[k]=62):QJ l s k=(k,true):=by
 rw[QJ,dif_pos h,if_neg (by rw[hq];decide),if_pos hq]
theorem Q6L (l:List Int)(k:Nat)(h:k<l.length)(hq:l[k]=60):QJ l true k=(k,false):=by
 rw[QJ,dif_pos h,if_neg (by rw[hq];decide),if_neg (by rw[hq];decide),if_pos ⟨hq,rfl⟩]
theorem Q44 (l:List Int)(s:Bool)(k:Nat)(h:k<l.length)(h1:Q3a l[k]=false)(h2:l[k]≠62)(h3:¬ (l[k]=60∧s=true)):QJ l s k=QJ l s (k+1):=by
 conv=>lhs;rw[QJ]
 rw[dif_pos h,if_neg (by simp[h1]),if_neg h2,if_neg h3]
theorem Q2T (l:List Int)(s:Bool):∀ (n k:Nat),l.length-k≤n→k≤l.length→k≤(QJ l s k).1∧(QJ l s k).1≤l.length∧((QJ l s k).2=true→(QJ l s k).1<l.length):=by
 intro n
 induction n with
 |zero =>
  intro k h hk
  rw[Q2b l s k (by omega)]
  simp;omega
 |succ n ih =>
  intro k h hk
  by_cases hlt:k<l.length
  ·cases hq:Q3a l[k] with
   |true =>
    have:=Q2w l k hlt
    have:=ih (Q12 l k).1 (by omega) (by omega)
    rw[Q4w l s k hlt hq];exact⟨by omega,by omega,this.2.2⟩
   |false =>
    by_cases h2:l[k]=62
    ·rw[Q5h l s k hlt h2];simp;omega
    ·by_cases h3:l[k]=60∧s=true
     ·obtain⟨h3,rfl⟩:=h3
      rw[Q6L l k hlt h3];simp;omega
     ·have:=ih (k+1) (by omega) (by omega)
      rw[Q44 l s k hlt hq h2 h3];exact⟨by omega,by omega,this.2.2⟩
  ·rw[Q2b l s k hlt]
   simp;omega
theorem Q94 (r:Int)(w:World):Calls prog 120 #[.int .i32 r] w fun e w'=>e=.returned (.bool (Q3a r))∧w=w':=by
 by_cases h:r=34
 ·subst h
  go_enter func120,ntmps120
  go_wp2
  go_ret
  exact⟨rfl,rfl⟩
 ·have hb:(r == 34)=false:=by simpa using h
  have HE:Hid (Q3a r=(r == 39)):=by rw[Hid,Q3a,hb,Bool.false_or]
  clear h
  go_enter func120,ntmps120
  go_wp2
  go_ret
  exact⟨Q14 HE.out.symm,rfl⟩
theorem Qa2 (S:Nat→Prop)(A:Option Addr)(n c:Nat)(l:List Int)(k:Nat)(w:World)(hr:Rd w S 1 A n c (rc l))(hk:k<l.length)(hl9:l.length≤1000000000) :
  Calls prog 121 #[.slice A n c,.int .i64 k] w fun e w'=>e=.returned (.tuple #[.int .i64 (Q12 l k).1,.bool (Q12 l k).2])∧Below w.heap.size w w':=by
 obtain rfl:=hr.rlen
 have hle:=hr.le
 have hmx:c≤9223372036854775807:=hr.max
 have HR:=Lib.hid hr
 have hki:(k:Int)<(l.length:Int):=by omega
 have HT:Hid (Q12 l k=Q2i l l[k] (k+1)):=by rw[Hid,Q12,Q7r hk]
 have HQ:=fun W (h:Below w.heap.size w W)=>Lib.hid ((HR.out.below h).rune hk)
 clear hr
 generalize Q12 l k=t at HT ⊢
 generalize l[k]=q at HT HQ
 go_enter func121,ntmps121
 go_wp2
 go_loopw [6] (fun i wr=>∃ j:Nat,k+1≤j∧j≤l.length∧i=.int .i64 j∧Hid (t=Q2i l q j)∧Hid (Below w.heap.size w wr)) (fun i _=>l.length-(intOf i).toNat)
 case atStart=>exact⟨k+1,Nat.le_refl _,by omega,by go_num,HT.out,Below.refl _ _⟩
 case round =>
  obtain⟨j,hj1,hj2,rfl,HJ,HB⟩:=hrel
  by_cases hlt:j<l.length
  ·have hji:(j:Int)<(l.length:Int):=by omega
   obtain⟨b,o,rfl,hc0⟩:=(HR.out.below HB.out).rune hlt
   obtain⟨b',o',hA,hc1⟩:=(HQ _ HB.out).out
   injection hA with hA
   injection hA with e1 e2
   subst e1 e2
   have HH:=Lib.hid (Q5V l q j hlt)
   have HM:=Lib.hid (Q5f l q j hlt)
   generalize l[j]=r at hc0 HH HM
   by_cases hq:r=q
   ·have HE:=Lib.hid (HJ.out.trans (HH.out hq))
    have hb:(r == q)=true:=by simpa using hq
    clear HH HM HJ hq
    go_wp2
    go_quiet (fail)
    go_wp2
    go_ret2
    rw[HE.out]
    exact⟨rfl,Q1y HB.out _⟩
   ·have HE:=Lib.hid (HJ.out.trans (HM.out hq))
    have hb:(r == q)=false:=by simpa using hq
    clear HH HM HJ hq
    go_wp2
    go_quiet (fail)
    go_wp2
    go_roundw
    case rel=>exact⟨j+1,by omega,by omega,by go_num,HE.out,Q1y HB.out _⟩
    case measure=>simp[intOf];omega
  ·have hji:¬ (j:Int)<(l.length:Int):=by omega
   have HE:=Lib.hid (HJ.out.trans (Q3B l q j hlt))
   clear HJ
   go_wp2
   go_ret2
   rw[HE.out]
   exact⟨rfl,HB.out⟩
theorem QaQ (S:Nat→Prop)(A:Option Addr)(n c:Nat)(l:List Int)(k:Nat)(s:Bool)(w:World)(hr:Rd w S 1 A n c (rc l))(hk:k≤l.length)(hl9:l.length≤1000000000) :
  Calls prog 125 #[.slice A n c,.int .i64 k,.bool s] w fun e w'=>e=.returned (.tuple #[.int .i64 (QJ l s k).1,.bool (QJ l s k).2])∧Below w.heap.size w w':=by
 obtain rfl:=hr.rlen
 have hle:=hr.le
 have hmx:c≤9223372036854775807:=hr.max
 have HR:=Lib.hid hr
 clear hr
 obtain⟨t,ht⟩:∃ t,t=QJ l s k:=⟨_,rfl⟩
 rw[←ht]
 have HT:=Lib.hid ht
 clear ht
 go_enter func125,ntmps125
 go_wp2
 go_loopw [1] (fun i wr=>∃ j:Nat,j≤l.length∧i=.int .i64 j∧Hid (t=QJ l s j)∧Hid (Below w.heap.size w wr)) (fun i _=>l.length-(intOf i).toNat)
 case atStart=>exact⟨k,hk,rfl,HT.out,Below.refl _ _⟩
 case round =>
  obtain⟨j,hj,rfl,HJ,HB⟩:=hrel
  by_cases hlt:j<l.length
  ·have hji:(j:Int)<(l.length:Int):=by omega
   obtain⟨b,o,rfl,hc0⟩:=(HR.out.below HB.out).rune hlt
   have HQT:=Lib.hid (Q94 l[j])
   have HQD:=Lib.hid (Qa2 S _ l.length c l j _ (HR.out.below HB.out) hlt hl9)
   obtain⟨hg1,hg2⟩:=Q2w l j hlt
   have H1:=Lib.hid (Q4w l s j hlt)
   have H2:=Lib.hid (Q5h l s j hlt)
   have H4:=Lib.hid (Q44 l s j hlt)
   have H3:=Lib.hid (show s=true→l[j]=60→QJ l s j=(j,false) from fun h h2=>by subst h;exact Q6L l j hlt h2)
   generalize l[j]=r at hc0 HQT H1 H2 H3 H4
   cases hq:Q3a r with
   |true =>
    have HE:=Lib.hid (HJ.out.trans (H1.out hq))
    have HQT2:=fun W=>Lib.hid (HQT.out W)
    rw[hq] at HQT2
    clear H1 H2 H3 H4 HJ hq HQT
    generalize (Q12 l j).1=nx at HE HQD hg1 hg2
    generalize (Q12 l j).2=nb at HQD
    go_wp2_with fail
    refine (HQT2 _).out.mono ?_
    rintro e wx ⟨rfl,rfl⟩
    go_wp2_with fail
    refine HQD.out.mono ?_
    rintro e w2 ⟨rfl,hb2⟩
    have HB2:=Lib.hid (HB.out.trans (hb2.mono HB.out.size))
    clear hb2
    go_wp2
    go_roundw
    case rel=>exact⟨nx,by omega,rfl,HE.out,HB2.out⟩
    case measure=>simp[intOf];omega
   |false =>
    have HQT2:=fun W=>Lib.hid (HQT.out W)
    rw[hq] at HQT2
    clear HQD hg1 hg2 HQT
    by_cases h62:r=62
    ·have HE:=Lib.hid (HJ.out.trans (H2.out h62))
     subst h62
     clear H1 H2 H3 H4 HJ hq
     go_wp2_with fail
     refine (HQT2 _).out.mono ?_
     rintro e wx ⟨rfl,rfl⟩
     go_wp2
     go_ret2
     rw[HE.out]
     exact⟨rfl,HB.out⟩
    ·have h62b:(r == 62)=false:=by simpa using h62
     by_cases h60:r=60
     ·subst h60
      cases s with
      |true =>
       have HE:=Lib.hid (HJ.out.trans (H3.out rfl rfl))
       clear H1 H2 H3 H4 HJ hq h62
       go_wp2_with fail
       refine (HQT2 _).out.mono ?_
       rintro e wx ⟨rfl,rfl⟩
       go_wp2
       go_ret2
       rw[HE.out]
       exact⟨rfl,HB.out⟩
      |false =>
       have HE:=Lib.hid (HJ.out.trans (H4.out hq h62 (by simp)))
       clear H1 H2 H3 H4 HJ hq h62
       go_wp2_with fail
       refine (HQT2 _).out.mono ?_
       rintro e wx ⟨rfl,rfl⟩
       go_wp2
       go_roundw
       case rel=>exact⟨j+1,by omega,by go_num,HE.out,HB.out⟩
       case measure=>simp[intOf];omega
     ·have h60b:(r == 60)=false:=by simpa using h60
      have HE:=Lib.hid (HJ.out.trans (H4.out hq h62 (fun h=>h60 h.1)))
      clear H1 H2 H3 H4 HJ hq h62 h60
      go_wp2_with fail
      refine (HQT2 _).out.mono ?_
      rintro e wx ⟨rfl,rfl⟩
      go_wp2
      go_roundw
      case rel=>exact⟨j+1,by omega,by go_num,HE.out,HB.out⟩
      case measure=>simp[intOf];omega
  ·have hji:¬ (j:Int)<(l.length:Int):=by omega
   have HE:=Lib.hid (HJ.out.trans (Q2b l s j hlt))
   clear HJ
   go_wp2
   go_ret2
   rw[HE.out]
   exact⟨rfl,HB.out⟩
def Q17 (l:List Int)(kd k skip:Nat)(bs:List UInt8):Nat×Nat×Bool:=match Q3M l (min (k+skip) l.length) l.length bs with
 |none=>(kd,l.length,false)
 |some j=>(kd,j+bs.length,true)
def Q2g (l:List Int)(k:Nat):Nat×Bool:=if h:k<l.length then (if l[k]=62 then (k+1,true) else if l[k]=60 then (k,false) else Q2g l (k+1)) else (l.length,false)
termination_by l.length-k
def Q3m (l:List Int)(k:Nat):Nat×Nat×Bool:=(10,(Q2g l (k+2)).1,(Q2g l (k+2)).2)
def Q1A (l:List Int)(k:Nat):Nat×Nat×Bool :=
 if (QJ l true (k+1)).2=false then (8,(QJ l true (k+1)).1,false)
 else if l[(QJ l true (k+1)).1-1]?=some 47 then (9,(QJ l true (k+1)).1+1,true) else (8,(QJ l true (k+1)).1+1,true)
theorem Qdh (l:List Int)(k:Nat)(h:k<l.length)(hq:l[k]=62):Q2g l k=(k+1,true):=by rw[Q2g,dif_pos h,if_pos hq]
theorem Qdc (l:List Int)(k:Nat)(h:k<l.length)(hq:l[k]=60):Q2g l k=(k,false):=by rw[Q2g,dif_pos h,if_neg (by rw[hq];decide),if_pos hq]
theorem Qa3 (l:List Int)(k:Nat)(h:k<l.length)(h1:l[k]≠62)(h2:l[k]≠60):Q2g l k=Q2g l (k+1):=by rw[Q2g,dif_pos h,if_neg h1,if_neg h2]
theorem Q87 (l:List Int)(k:Nat)(h:¬ k<l.length):Q2g l k=(l.length,false):=by rw[Q2g,dif_neg h]
theorem Q5W (S:Nat→Prop)(A:Option Addr)(n c:Nat)(l:List Int)(kd k skip:Nat)(s:ByteArray)(w:World)(hr:Rd w S 1 A n c (rc l))(hk:k≤l.length)(hsk:skip≤1000)(hl9:l.length≤1000000000)(hs9:s.size≤1000) :
  Calls prog 97 #[.slice A n c,.int .i64 kd,.int .i64 k,.int .i64 skip,.string s] w fun e w'=>e=.returned (Q20 (Q17 l kd k skip s.data.toList) k)∧Below w.heap.size w w':=by
 obtain rfl:=hr.rlen
 have hle:=hr.le
 have hmx:c≤9223372036854775807:=hr.max
 have HR:=Lib.hid hr
 clear hr
 have hm:∀ ts t W,(Builtin.min_ ts t #[.int .i64 ((k:Int)+(skip:Int)),.int .i64 (l.length:Int)]).run prog W=.ok (.int .i64 (min (k+skip) l.length:Nat)) W:=fun ts t W=>by
  rw[run_min_int2]
  congr 2
  split<;>omega
 have HF:=fun W (h:Below w.heap.size w W)=>Lib.hid (Qha S A l.length c l (min (k+skip) l.length) l.length s W (HR.out.below h) (by omega) (Nat.le_refl _) hl9 (by omega))
 have HT:Hid (Q17 l kd k skip s.data.toList=match Q3M l (min (k+skip) l.length) l.length s.data.toList with
  |none=>(kd,l.length,false)
  |some j=>(kd,j+s.data.toList.length,true)):=rfl
 have hfl:∀ j,Q3M l (min (k+skip) l.length) l.length s.data.toList=some j→j≤l.length:=fun j h=>by
  rw[Q3M,List.find?_range'_eq_some] at h
  have:=List.mem_range'_1.1 h.2.1
  omega
 have HSL:=Lib.hid (show s.data.toList.length=s.size by simp)
 generalize Q17 l kd k skip s.data.toList=t at HT ⊢
 generalize Q3M l (min (k+skip) l.length) l.length s.data.toList=q at HF HT hfl
 generalize min (k+skip) l.length=m2 at hm HF
 cases q with
 |none =>
  have HE:Hid (t=(kd,l.length,false)):=HT.out
  clear HT hfl
  go_enter func97,ntmps97
  go_wp2_with fail
  have HTH0:=Lib.hid (Q2A w #[.int .i64 0,.int .i64 0,.int .i64 0,.bool false] 95)
  have HB0:=Lib.hid (ba w (.cells #[.int .i64 0,.int .i64 0,.int .i64 0,.bool false] 95))
  have HSZ:Hid (w.heap.size<(w.alloc (.cells #[.int .i64 0,.int .i64 0,.int .i64 0,.bool false] 95)).heap.size):=by simp[Hid]
  generalize w.alloc (.cells #[.int .i64 0,.int .i64 0,.int .i64 0,.bool false] 95)=W0 at HTH0 HB0 HSZ
  refine (HF _ HB0.out).out.mono ?_
  rintro e w1 ⟨rfl,hb1⟩
  have HB1:=Lib.hid (HB0.out.trans (hb1.mono HB0.out.size))
  have HTH1:Hid (w1.there w.heap.size 0 4):=QH HTH0.out hb1 HSZ.out
  clear hb1 HTH0 HSZ
  have HL9:=Lib.hid (Qz (P:=prog) (T:=95) w1 w.heap.size [.int .i64 kd,.int .i64 k,.int .i64 (l.length),.bool false] HTH1.out (by kernel_rfl) underlying95 rfl)
  have HB9:=Lib.hid (Qf HB1.out w.heap.size (Nat.le_refl _) [.int .i64 kd,.int .i64 k,.int .i64 (l.length),.bool false] 0)
  obtain⟨⟨z0,hz0⟩,hf0⟩:=Q6 HTH1.out 0 (by decide)
  obtain⟨⟨z1,hz1⟩,hf1⟩:=Q6 HTH1.out 1 (by decide)
  obtain⟨⟨z2,hz2⟩,hf2⟩:=Q6 HTH1.out 2 (by decide)
  obtain⟨⟨z3,hz3⟩,hf3⟩:=Q6 HTH1.out 3 (by decide)
  go_wp2
  refine bodyPost_ret (Qr rfl _ rfl HL9.out) rfl ?_
  rw[HE.out]
  exact⟨by simp[Q20],HB9.out⟩
 |some j =>
  have HE:Hid (t=(kd,j+s.size,true)):=by rw[Hid,←HSL.out];exact HT.out
  have hfl:=hfl j rfl
  clear HT
  go_enter func97,ntmps97
  go_wp2_with fail
  have HTH0:=Lib.hid (Q2A w #[.int .i64 0,.int .i64 0,.int .i64 0,.bool false] 95)
  have HB0:=Lib.hid (ba w (.cells #[.int .i64 0,.int .i64 0,.int .i64 0,.bool false] 95))
  have HSZ:Hid (w.heap.size<(w.alloc (.cells #[.int .i64 0,.int .i64 0,.int .i64 0,.bool false] 95)).heap.size):=by simp[Hid]
  generalize w.alloc (.cells #[.int .i64 0,.int .i64 0,.int .i64 0,.bool false] 95)=W0 at HTH0 HB0 HSZ
  refine (HF _ HB0.out).out.mono ?_
  rintro e w1 ⟨rfl,hb1⟩
  have HB1:=Lib.hid (HB0.out.trans (hb1.mono HB0.out.size))
  have HTH1:Hid (w1.there w.heap.size 0 4):=QH HTH0.out hb1 HSZ.out
  clear hb1 HTH0 HSZ
  have HL9:=Lib.hid (Qz (P:=prog) (T:=95) w1 w.heap.size [.int .i64 kd,.int .i64 k,.int .i64 ((j:Int)+(s.size:Int)),.bool true] HTH1.out (by kernel_rfl) underlying95 rfl)
  have HB9:=Lib.hid (Qf HB1.out w.heap.size (Nat.le_refl _) [.int .i64 kd,.int .i64 k,.int .i64 ((j:Int)+(s.size:Int)),.bool true] 0)
  obtain⟨⟨z0,hz0⟩,hf0⟩:=Q6 HTH1.out 0 (by decide)
  obtain⟨⟨z1,hz1⟩,hf1⟩:=Q6 HTH1.out 1 (by decide)
  obtain⟨⟨z2,hz2⟩,hf2⟩:=Q6 HTH1.out 2 (by decide)
  obtain⟨⟨z3,hz3⟩,hf3⟩:=Q6 HTH1.out 3 (by decide)
  go_wp2
  refine bodyPost_ret (Qr rfl _ rfl HL9.out) rfl ?_
  rw[HE.out]
  exact⟨by simp[Q20],HB9.out⟩
theorem Qja (S:Nat→Prop)(A:Option Addr)(n c:Nat)(l:List Int)(k:Nat)(w:World)(hr:Rd w S 1 A n c (rc l))(hk:k+2≤l.length)(hl9:l.length≤1000000000) :
  Calls prog 99 #[.slice A n c,.int .i64 k] w fun e w'=>e=.returned (Q20 (Q3m l k) k)∧Below w.heap.size w w':=by
 obtain rfl:=hr.rlen
 have hle:=hr.le
 have hmx:c≤9223372036854775807:=hr.max
 have HR:=Lib.hid hr
 clear hr
 obtain⟨t,ht⟩:∃ t,t=Q2g l (k+2):=⟨_,rfl⟩
 have HT:=Lib.hid ht
 have HTT:Hid (Q3m l k=(10,t.1,t.2)):=by rw[Hid,ht];rfl
 clear ht
 go_enter func99,ntmps99
 go_wp2
 have HTH0:=Lib.hid (Q2A w #[.int .i64 0,.int .i64 0,.int .i64 0,.bool false] 95)
 have HB0:=Lib.hid (ba w (.cells #[.int .i64 0,.int .i64 0,.int .i64 0,.bool false] 95))
 have HSZ:Hid (w.heap.size<(w.alloc (.cells #[.int .i64 0,.int .i64 0,.int .i64 0,.bool false] 95)).heap.size):=by simp[Hid]
 generalize w.alloc (.cells #[.int .i64 0,.int .i64 0,.int .i64 0,.bool false] 95)=W0 at HTH0 HB0 HSZ
 have HR0:=Lib.hid (HR.out.below HB0.out)
 have HTH0:Hid (W0.there w.heap.size 0 4):=HTH0.out
 go_loopw [5] (fun i wr=>wr=W0∧∃ j:Nat,k+2≤j∧j≤l.length∧i=.int .i64 j∧Hid (t=Q2g l j)) (fun i _=>l.length-(intOf i).toNat)
 case atStart=>exact⟨rfl,k+2,Nat.le_refl _,by omega,by go_num,HT.out⟩
 case round =>
  obtain⟨rfl,j,hj1,hj2,rfl,HJ⟩:=hrel
  by_cases hlt:j<l.length
  ·have hji:(j:Int)<(l.length:Int):=by omega
   obtain⟨b,o,rfl,hc0⟩:=HR0.out.rune hlt
   have H1:=Lib.hid (Qdh l j hlt)
   have H2:=Lib.hid (Qdc l j hlt)
   have H3:=Lib.hid (Qa3 l j hlt)
   generalize l[j]=r at hc0 H1 H2 H3
   by_cases h62:r=62
   ·have HE:Hid (Q3m l k=(10,j+1,true)):=by rw[Hid,HTT.out,HJ.out.trans (H1.out h62)]
    subst h62
    clear H1 H2 H3 HJ HTT
    have HL9:=Lib.hid (Qz (P:=prog) (T:=95) wr w.heap.size [.int .i64 10,.int .i64 k,.int .i64 ((j:Int)+1),.bool true] HTH0.out (by kernel_rfl) underlying95 rfl)
    have HB9:=Lib.hid (Qf HB0.out w.heap.size (Nat.le_refl _) [.int .i64 10,.int .i64 k,.int .i64 ((j:Int)+1),.bool true] 0)
    obtain⟨⟨z0,hz0⟩,hf0⟩:=Q6 HTH0.out 0 (by decide)
    obtain⟨⟨z1,hz1⟩,hf1⟩:=Q6 HTH0.out 1 (by decide)
    obtain⟨⟨z2,hz2⟩,hf2⟩:=Q6 HTH0.out 2 (by decide)
    obtain⟨⟨z3,hz3⟩,hf3⟩:=Q6 HTH0.out 3 (by decide)
    go_wp2
    refine bodyPost_ret (Qr rfl _ rfl HL9.out) rfl ?_
    rw[HE.out]
    exact⟨by simp[Q20],HB9.out⟩
   ·have h62b:(r == 62)=false:=by simpa using h62
    by_cases h60:r=60
    ·have HE:Hid (Q3m l k=(10,j,false)):=by rw[Hid,HTT.out,HJ.out.trans (H2.out h60)]
     subst h60
     clear H1 H2 H3 HJ HTT h62
     have HL9:=Lib.hid (Qz (P:=prog) (T:=95) wr w.heap.size [.int .i64 10,.int .i64 k,.int .i64 (j),.bool false] HTH0.out (by kernel_rfl) underlying95 rfl)
     have HB9:=Lib.hid (Qf HB0.out w.heap.size (Nat.le_refl _) [.int .i64 10,.int .i64 k,.int .i64 (j),.bool false] 0)
     obtain⟨⟨z0,hz0⟩,hf0⟩:=Q6 HTH0.out 0 (by decide)
     obtain⟨⟨z1,hz1⟩,hf1⟩:=Q6 HTH0.out 1 (by decide)
     obtain⟨⟨z2,hz2⟩,hf2⟩:=Q6 HTH0.out 2 (by decide)
     obtain⟨⟨z3,hz3⟩,hf3⟩:=Q6 HTH0.out 3 (by decide)
     go_wp2
     refine bodyPost_ret (Qr rfl _ rfl HL9.out) rfl ?_
     rw[HE.out]
     exact⟨by simp[Q20],HB9.out⟩
    ·have h60b:(r == 60)=false:=by simpa using h60
     have HN:=Lib.hid (HJ.out.trans (H3.out h62 h60))
     clear H1 H2 H3 HJ h62 h60
     go_wp2
     go_roundw
     case rel=>exact⟨trivial,j+1,by omega,by omega,by go_num,HN.out⟩
     case measure=>simp[intOf];omega
  ·have hji:¬ (j:Int)<(l.length:Int):=by omega
   have HE:Hid (Q3m l k=(10,l.length,false)):=by rw[Hid,HTT.out,HJ.out.trans (Q87 l j hlt)]
   clear HJ HTT
   have HL9:=Lib.hid (Qz (P:=prog) (T:=95) wr w.heap.size [.int .i64 10,.int .i64 k,.int .i64 (l.length),.bool false] HTH0.out (by kernel_rfl) underlying95 rfl)
   have HB9:=Lib.hid (Qf HB0.out w.heap.size (Nat.le_refl _) [.int .i64 10,.int .i64 k,.int .i64 (l.length),.bool false] 0)
   obtain⟨⟨z0,hz0⟩,hf0⟩:=Q6 HTH0.out 0 (by decide)
   obtain⟨⟨z1,hz1⟩,hf1⟩:=Q6 HTH0.out 1 (by decide)
   obtain⟨⟨z2,hz2⟩,hf2⟩:=Q6 HTH0.out 2 (by decide)
   obtain⟨⟨z3,hz3⟩,hf3⟩:=Q6 HTH0.out 3 (by decide)
   go_wp2
   refine bodyPost_ret (Qr rfl _ rfl HL9.out) rfl ?_
   rw[HE.out]
   exact⟨by simp[Q20],HB9.out⟩
theorem QeD (S:Nat→Prop)(A:Option Addr)(n c:Nat)(l:List Int)(k:Nat)(w:World)(hr:Rd w S 1 A n c (rc l))(hk:k<l.length)(hl9:l.length≤1000000000) :
  Calls prog 101 #[.slice A n c,.int .i64 k] w fun e w'=>e=.returned (Q20 (Q1A l k) k)∧Below w.heap.size w w':=by
 obtain rfl:=hr.rlen
 have hle:=hr.le
 have hmx:c≤9223372036854775807:=hr.max
 have HR:=Lib.hid hr
 have HAN:∀ W,Below w.heap.size w W→Hid (Calls prog 125 #[.slice A l.length c,.int .i64 ((k:Int)+1),.bool true] W fun e w'=>e=.returned (.tuple #[.int .i64 (QJ l true (k+1)).1,.bool (QJ l true (k+1)).2])∧Below W.heap.size W w'):=fun W h=>by
  rw[show ((k:Int)+1)=((k+1:Nat):Int) by omega]
  exact QaQ S A l.length c l (k+1) true W (HR.out.below h) (by omega) hl9
 obtain⟨ha1,ha2,ha3⟩:=Q2T l true l.length (k+1) (by omega) (by omega)
 have HT:Hid (Q1A l k=if (QJ l true (k+1)).2=false then (8,(QJ l true (k+1)).1,false)
  else if l[(QJ l true (k+1)).1-1]?=some 47 then (9,(QJ l true (k+1)).1+1,true) else (8,(QJ l true (k+1)).1+1,true)):=rfl
 clear hr
 generalize (QJ l true (k+1)).1=j at HAN HT ha1 ha2 ha3
 generalize (QJ l true (k+1)).2=b at HAN HT ha3
 go_enter func101,ntmps101
 go_wp2_with fail
 have HTH0:=Lib.hid (Q2A w #[.int .i64 0,.int .i64 0,.int .i64 0,.bool false] 95)
 have HB0:=Lib.hid (ba w (.cells #[.int .i64 0,.int .i64 0,.int .i64 0,.bool false] 95))
 have HSZ:Hid (w.heap.size<(w.alloc (.cells #[.int .i64 0,.int .i64 0,.int .i64 0,.bool false] 95)).heap.size):=by simp[Hid]
 generalize w.alloc (.cells #[.int .i64 0,.int .i64 0,.int .i64 0,.bool false] 95)=W0 at HTH0 HB0 HSZ
 refine (HAN _ HB0.out).out.mono ?_
 rintro e w1 ⟨rfl,hb1⟩
 have HB1:=Lib.hid (HB0.out.trans (hb1.mono HB0.out.size))
 have HTH1:Hid (w1.there w.heap.size 0 4):=QH HTH0.out hb1 HSZ.out
 clear hb1 HTH0 HSZ HB0 HAN
 cases b with
 |false =>
  have HE:Hid (Q1A l k=(8,j,false)):=HT.out
  clear HT ha3
  have HL9:=Lib.hid (Qz (P:=prog) (T:=95) w1 w.heap.size [.int .i64 8,.int .i64 k,.int .i64 (j),.bool false] HTH1.out (by kernel_rfl) underlying95 rfl)
  have HB9:=Lib.hid (Qf HB1.out w.heap.size (Nat.le_refl _) [.int .i64 8,.int .i64 k,.int .i64 (j),.bool false] 0)
  obtain⟨⟨z0,hz0⟩,hf0⟩:=Q6 HTH1.out 0 (by decide)
  obtain⟨⟨z1,hz1⟩,hf1⟩:=Q6 HTH1.out 1 (by decide)
  obtain⟨⟨z2,hz2⟩,hf2⟩:=Q6 HTH1.out 2 (by decide)
  obtain⟨⟨z3,hz3⟩,hf3⟩:=Q6 HTH1.out 3 (by decide)
  go_wp2
  refine bodyPost_ret (Qr rfl _ rfl HL9.out) rfl ?_
  rw[HE.out]
  exact⟨by simp[Q20],HB9.out⟩
 |true =>
  have ha3:=ha3 rfl
  have hj1:j-1<l.length:=by omega
  have hj1i:(j:Int)-1<(l.length:Int):=by omega
  have hj0i:(0:Int)≤(j:Int)-1:=by omega
  obtain⟨b,o,rfl,hc0⟩:=(HR.out.below HB1.out).rune hj1
  have HT2:Hid (Q1A l k=if l[j-1]=47 then (9,j+1,true) else (8,j+1,true)):=by
   rw[Hid,HT.out,if_neg (by simp),List.getElem?_eq_getElem hj1]
   simp only[Option.some.injEq]
  generalize l[j-1]=r at hc0 HT2
  clear HT
  by_cases h47:r=47
  ·have HE:Hid (Q1A l k=(9,j+1,true)):=by rw[Hid,HT2.out,if_pos h47]
   subst h47
   clear HT2
   have HL9:=Lib.hid (Qz (P:=prog) (T:=95) w1 w.heap.size [.int .i64 9,.int .i64 k,.int .i64 ((j:Int)+1),.bool true] HTH1.out (by kernel_rfl) underlying95 rfl)
   have HB9:=Lib.hid (Qf HB1.out w.heap.size (Nat.le_refl _) [.int .i64 9,.int .i64 k,.int .i64 ((j:Int)+1),.bool true] 0)
   obtain⟨⟨z0,hz0⟩,hf0⟩:=Q6 HTH1.out 0 (by decide)
   obtain⟨⟨z1,hz1⟩,hf1⟩:=Q6 HTH1.out 1 (by decide)
   obtain⟨⟨z2,hz2⟩,hf2⟩:=Q6 HTH1.out 2 (by decide)
   obtain⟨⟨z3,hz3⟩,hf3⟩:=Q6 HTH1.out 3 (by decide)
   go_wp2
   refine bodyPost_ret (Qr rfl _ rfl HL9.out) rfl ?_
   rw[HE.out]
   exact⟨by simp[Q20],HB9.out⟩
  ·have HE:Hid (Q1A l k=(8,j+1,true)):=by rw[Hid,HT2.out,if_neg h47]
   have h47b:(r == 47)=false:=by simpa using h47
   clear HT2 h47
   have HL9:=Lib.hid (Qz (P:=prog) (T:=95) w1 w.heap.size [.int .i64 8,.int .i64 k,.int .i64 ((j:Int)+1),.bool true] HTH1.out (by kernel_rfl) underlying95 rfl)
   have HB9:=Lib.hid (Qf HB1.out w.heap.size (Nat.le_refl _) [.int .i64 8,.int .i64 k,.int .i64 ((j:Int)+1),.bool true] 0)
   obtain⟨⟨z0,hz0⟩,hf0⟩:=Q6 HTH1.out 0 (by decide)
   obtain⟨⟨z1,hz1⟩,hf1⟩:=Q6 HTH1.out 1 (by decide)
   obtain⟨⟨z2,hz2⟩,hf2⟩:=Q6 HTH1.out 2 (by decide)
   obtain⟨⟨z3,hz3⟩,hf3⟩:=Q6 HTH1.out 3 (by decide)
   go_wp2
   refine bodyPost_ret (Qr rfl _ rfl HL9.out) rfl ?_
   rw[HE.out]
   exact⟨by simp[Q20],HB9.out⟩
theorem Qco (l:List Int)(k t:Nat)(bs:List UInt8)(j:Nat)(h:Q3M l k t bs=some j):k≤j∧j<t+1-bs.length:=by
 rw[Q3M,List.find?_range'_eq_some] at h
 have:=List.mem_range'_1.1 h.2.1
 omega
theorem Q45 (l:List Int)(kd k skip:Nat)(bs:List UInt8)(hk:k<l.length)(hb:0<bs.length):k<(Q17 l kd k skip bs).2.1∧(Q17 l kd k skip bs).2.1≤l.length:=by
 unfold Q17
 cases h:Q3M l (min (k+skip) l.length) l.length bs with
 |none=>simp only;omega
 |some j =>
  have:=Qco l _ _ bs j h
  simp only;omega
def Q3i (l:List Int)(k:Nat):Nat×Bool :=
 if Q3 l k [60,33,45,45]=true then ((Q17 l 4 k 4 [45,45,62]).2.1,(Q17 l 4 k 4 [45,45,62]).2.2)
 else if Q3 l k [60,63]=true then ((Q17 l 5 k 2 [63,62]).2.1,(Q17 l 5 k 2 [63,62]).2.2)
 else if l.getD k 0=60 then (min ((QJ l false k).1+1) l.length,(QJ l false k).2)
 else (k+1,true)
theorem Q4W (l:List Int)(k:Nat)(hk:k<l.length):k<(Q3i l k).1∧(Q3i l k).1≤l.length:=by
 unfold Q3i
 split
 ·exact Q45 l 4 k 4 _ hk (by decide)
 ·split
  ·exact Q45 l 5 k 2 _ hk (by decide)
  ·split
   ·have:=Q2T l false l.length k (by omega) (by omega)
    simp only;omega
   ·simp only;omega
def Q3z (l:List Int)(k:Nat)(ok:Bool):Nat×Bool :=
 if h:k<l.length∧ok=true then (if l[k]'h.1=93 then (k+1,true) else Q3z l (Q3i l k).1 (Q3i l k).2) else (l.length,false)
termination_by l.length-k
decreasing_by
 have:=Q4W l k h.1;omega
theorem Q8b (l:List Int)(k:Nat)(h:k<l.length)(hq:l[k]=93):Q3z l k true=(k+1,true):=by rw[Q3z,dif_pos ⟨h,rfl⟩,if_pos hq]
theorem Q7g (l:List Int)(k:Nat)(h:k<l.length)(hq:l[k]≠93):Q3z l k true=Q3z l (Q3i l k).1 (Q3i l k).2:=by
 conv=>lhs;rw[Q3z]
 rw[dif_pos ⟨h,rfl⟩,if_neg hq]
theorem Q4j (l:List Int)(k:Nat)(ok:Bool)(h:¬ (k<l.length∧ok=true)):Q3z l k ok=(l.length,false):=by rw[Q3z,dif_neg h]
theorem QcZ (l:List Int):∀ (n k:Nat) (ok:Bool),l.length-k≤n→k≤l.length→(k<(Q3z l k ok).1∨(Q3z l k ok).1=l.length)∧(Q3z l k ok).1≤l.length:=by
 intro n
 induction n with
 |zero =>
  intro k ok h hk
  rw[Q4j l k ok (by omega)]
  simp
 |succ n ih =>
  intro k ok h hk
  by_cases hlt:k<l.length∧ok=true
  ·obtain⟨hlt,rfl⟩:=hlt
   by_cases hq:l[k]=93
   ·rw[Q8b l k hlt hq];simp only;omega
   ·have:=Q4W l k hlt
    have:=ih (Q3i l k).1 (Q3i l k).2 (by omega) (by omega)
    rw[Q7g l k hlt hq];omega
  ·rw[Q4j l k ok hlt];simp
def Q76 (l:List Int)(k:Nat):Nat×Bool:=Q3z l (k+1) true
theorem Qbz (S:Nat→Prop)(A:Option Addr)(n c:Nat)(l:List Int)(k:Nat)(w:World)(hr:Rd w S 1 A n c (rc l))(hk:k<l.length)(hl9:l.length≤1000000000) :
  Calls prog 133 #[.slice A n c,.int .i64 k] w fun e w'=>e=.returned (.tuple #[.int .i64 (Q3i l k).1,.bool (Q3i l k).2])∧Below w.heap.size w w':=by
 obtain rfl:=hr.rlen
 have hle:=hr.le
 have hmx:c≤9223372036854775807:=hr.max
 have HR:=Lib.hid hr
 have HS1:∀ W,Below w.heap.size w W→Hid (Calls prog 96 #[.slice A l.length c,.int .i64 k,.string ⟨#[60,33,45,45]⟩] W fun e w'=>e=.returned (.bool (Q3 l k [60,33,45,45]))∧Below W.heap.size W w') :=
  fun W h=>Q21 S A l.length c l k ⟨#[60,33,45,45]⟩ W (HR.out.below h) (by omega) hl9 (by decide)
 have HS2:∀ W,Below w.heap.size w W→Hid (Calls prog 96 #[.slice A l.length c,.int .i64 k,.string ⟨#[60,63]⟩] W fun e w'=>e=.returned (.bool (Q3 l k [60,63]))∧Below W.heap.size W w') :=
  fun W h=>Q21 S A l.length c l k ⟨#[60,63]⟩ W (HR.out.below h) (by omega) hl9 (by decide)
 have HU1:∀ W,Below w.heap.size w W→Hid (Calls prog 97 #[.slice A l.length c,.int .i64 4,.int .i64 k,.int .i64 4,.string ⟨#[45,45,62]⟩] W fun e w'=>e=.returned (Q20 (Q17 l 4 k 4 [45,45,62]) k)∧Below W.heap.size W w') :=
  fun W h=>Q5W S A l.length c l 4 k 4 ⟨#[45,45,62]⟩ W (HR.out.below h) (by omega) (by decide) hl9 (by decide)
 have HU2:∀ W,Below w.heap.size w W→Hid (Calls prog 97 #[.slice A l.length c,.int .i64 5,.int .i64 k,.int .i64 2,.string ⟨#[63,62]⟩] W fun e w'=>e=.returned (Q20 (Q17 l 5 k 2 [63,62]) k)∧Below W.heap.size W w') :=
  fun W h=>Q5W S A l.length c l 5 k 2 ⟨#[63,62]⟩ W (HR.out.below h) (by omega) (by decide) hl9 (by decide)
 have HAN:=fun W (h:Below w.heap.size w W)=>Lib.hid (QaQ S A l.length c l k false W (HR.out.below h) (by omega) hl9)
 obtain⟨ha1,ha2,_⟩:=Q2T l false l.length k (by omega) (by omega)
 have HT:Hid (Q3i l k=if Q3 l k [60,33,45,45]=true then ((Q17 l 4 k 4 [45,45,62]).2.1,(Q17 l 4 k 4 [45,45,62]).2.2)
  else if Q3 l k [60,63]=true then ((Q17 l 5 k 2 [63,62]).2.1,(Q17 l 5 k 2 [63,62]).2.2)
  else if l[k]=60 then (min ((QJ l false k).1+1) l.length,(QJ l false k).2) else (k+1,true)):=by rw[Hid,Q3i,Q7r hk]
 have HCK:=fun W (h:Below w.heap.size w W)=>Lib.hid ((HR.out.below h).rune hk)
 clear hr
 have hki:(k:Int)<(l.length:Int):=by omega
 generalize Q3i l k=t at HT ⊢
 generalize Q3 l k [60,33,45,45]=s1 at HS1 HT
 generalize Q3 l k [60,63]=s2 at HS2 HT
 generalize Q17 l 4 k 4 [45,45,62]=u1 at HU1 HT
 generalize Q17 l 5 k 2 [63,62]=u2 at HU2 HT
 generalize (QJ l false k).1=aj at HAN HT ha1 ha2
 generalize (QJ l false k).2=ab at HAN HT
 generalize l[k]=r at HCK HT
 obtain⟨k1,t1,w1b⟩:=u1
 obtain⟨k2,t2,w2b⟩:=u2
 have HU1:∀ W,Below w.heap.size w W→Hid (Calls prog 97 #[.slice A l.length c,.int .i64 4,.int .i64 k,.int .i64 4,.string ⟨#[45,45,62]⟩] W fun e w'=>e=.returned (.agg #[.int .i64 k1,.int .i64 k,.int .i64 t1,.bool w1b])∧Below W.heap.size W w'):=HU1
 have HU2:∀ W,Below w.heap.size w W→Hid (Calls prog 97 #[.slice A l.length c,.int .i64 5,.int .i64 k,.int .i64 2,.string ⟨#[63,62]⟩] W fun e w'=>e=.returned (.agg #[.int .i64 k2,.int .i64 k,.int .i64 t2,.bool w2b])∧Below W.heap.size W w'):=HU2
 have hm:∀ ts t W,(Builtin.min_ ts t #[.int .i64 ((aj:Int)+1),.int .i64 (l.length:Int)]).run prog W=.ok (.int .i64 (min (aj+1) l.length:Nat)) W:=fun ts t W=>by
  rw[run_min_int2]
  congr 2
  split<;>omega
 go_enter func133,ntmps133
 go_wp2_with fail
 refine (HS1 _ (Below.refl _ _)).out.mono ?_
 rintro e v1 ⟨rfl,hb1⟩
 have HB1:=Lib.hid hb1
 clear hb1 HS1
 cases s1 with
 |true =>
  have HE:Hid (t=(t1,w1b)):=HT.out
  clear HT
  go_wp2_with fail
  refine (HU1 _ HB1.out).out.mono ?_
  rintro e v2 ⟨rfl,hb2⟩
  have HB2:=Lib.hid (bt HB1.out hb2)
  clear hb2
  go_wp2
  go_quiet (fail)
  go_wp2
  go_ret2
  rw[HE.out]
  exact⟨rfl,Q1y (bt HB2.out (ba _ _)) _⟩
 |false =>
  go_wp2_with fail
  refine (HS2 _ HB1.out).out.mono ?_
  rintro e v2 ⟨rfl,hb2⟩
  have HB2:=Lib.hid (bt HB1.out hb2)
  clear hb2
  cases s2 with
  |true =>
   have HE:Hid (t=(t2,w2b)):=HT.out
   clear HT
   go_wp2_with fail
   refine (HU2 _ HB2.out).out.mono ?_
   rintro e v3 ⟨rfl,hb3⟩
   have HB3:=Lib.hid (bt HB2.out hb3)
   clear hb3
   go_wp2
   go_quiet (fail)
   go_wp2
   go_ret2
   rw[HE.out]
   exact⟨rfl,Q1y (bt HB3.out (ba _ _)) _⟩
  |false =>
   obtain⟨b,o,rfl,hc0⟩:=(HCK _ HB2.out).out
   by_cases h60:r=60
   ·have HE:Hid (t=(min (aj+1) l.length,ab)):=by rw[Hid,HT.out];simp[h60]
    subst h60
    clear HT HCK
    generalize min (aj+1) l.length=m2 at hm HE
    go_wp2_with fail
    refine (HAN _ HB2.out).out.mono ?_
    rintro e v3 ⟨rfl,hb3⟩
    have HB3:=Lib.hid (bt HB2.out hb3)
    clear hb3
    go_wp2
    go_ret2
    rw[HE.out]
    exact⟨rfl,HB3.out⟩
   ·have HE:Hid (t=(k+1,true)):=by rw[Hid,HT.out];simp[h60]
    have h60b:(r == 60)=false:=by simpa using h60
    clear HT HCK h60
    go_wp2
    go_ret2
    rw[HE.out]
    exact⟨by simp,HB2.out⟩
theorem Qex (S:Nat→Prop)(A:Option Addr)(n c:Nat)(l:List Int)(k:Nat)(w:World)(hr:Rd w S 1 A n c (rc l))(hk:k<l.length)(hl9:l.length≤1000000000) :
  Calls prog 122 #[.slice A n c,.int .i64 k] w fun e w'=>e=.returned (.tuple #[.int .i64 (Q76 l k).1,.bool (Q76 l k).2])∧Below w.heap.size w w':=by
 obtain rfl:=hr.rlen
 have hle:=hr.le
 have hmx:c≤9223372036854775807:=hr.max
 have HR:=Lib.hid hr
 clear hr
 have HT:Hid (Q76 l k=Q3z l (k+1) true):=rfl
 generalize Q76 l k=t at HT ⊢
 go_enter func122,ntmps122
 go_wp2
 go_loopw [1,6] (fun i o wr=>∃ (j:Nat) (ok:Bool),j≤l.length∧i=.int .i64 j∧o=.bool ok∧Hid (t=Q3z l j ok)∧Hid (Below w.heap.size w wr)) (fun i _ _=>l.length-(intOf i).toNat)
 case atStart=>exact⟨k+1,true,by omega,by go_num,rfl,HT.out,Below.refl _ _⟩
 case round =>
  obtain⟨j,ok,hj,rfl,rfl,HJ,HB⟩:=hrel
  by_cases hlt:j<l.length
  ·have hji:(j:Int)<(l.length:Int):=by omega
   cases ok with
   |true =>
    obtain⟨b,o,rfl,hc0⟩:=(HR.out.below HB.out).rune hlt
    have H1:=Lib.hid (Q8b l j hlt)
    have H2:=Lib.hid (Q7g l j hlt)
    have HDC:=Lib.hid (Qbz S _ l.length c l j _ (HR.out.below HB.out) hlt hl9)
    obtain⟨hd1,hd2⟩:=Q4W l j hlt
    generalize l[j]=r at hc0 H1 H2
    generalize (Q3i l j).1=dj at H2 HDC hd1 hd2
    generalize (Q3i l j).2=db at H2 HDC
    by_cases h93:r=93
    ·have HE:=Lib.hid (HJ.out.trans (H1.out h93))
     subst h93
     clear H1 H2 HJ HDC
     go_wp2
     go_ret2
     rw[HE.out]
     exact⟨by simp,HB.out⟩
    ·have HE:=Lib.hid (HJ.out.trans (H2.out h93))
     have h93b:(r == 93)=false:=by simpa using h93
     clear H1 H2 HJ h93
     go_wp2_with fail
     refine HDC.out.mono ?_
     rintro e v2 ⟨rfl,hb2⟩
     have HB2:=Lib.hid (HB.out.trans (hb2.mono HB.out.size))
     clear hb2
     go_wp2
     go_roundw
     case rel=>exact⟨dj,db,by omega,rfl,rfl,HE.out,HB2.out⟩
     case measure=>simp[intOf];omega
   |false =>
    have HE:=Lib.hid (HJ.out.trans (Q4j l j false (by simp)))
    clear HJ
    go_wp2
    go_ret2
    rw[HE.out]
    exact⟨rfl,HB.out⟩
  ·have hji:¬ (j:Int)<(l.length:Int):=by omega
   have HE:=Lib.hid (HJ.out.trans (Q4j l j ok (fun h=>hlt h.1)))
   clear HJ
   go_wp2
   go_ret2
   rw[HE.out]
   exact⟨rfl,HB.out⟩
theorem Q77 (l:List Int)(k:Nat)(hk:k<l.length):k<(Q76 l k).1∧(Q76 l k).1≤l.length:=by
 have:=QcZ l l.length (k+1) true (by omega) (by omega)
 unfold Q76;omega
def Q2h (l:List Int)(k:Nat)(ok:Bool):Nat×Bool :=
 if h:k<l.length∧ok=true then
  (if l[k]'h.1=62 then (k+1,true) else if Q3a (l[k]'h.1) then Q2h l (Q12 l k).1 (Q12 l k).2 else if l[k]'h.1=91 then Q2h l (Q76 l k).1 (Q76 l k).2 else Q2h l (k+1) true)
 else (l.length,false)
termination_by l.length-k
decreasing_by
 ·have:=Q2w l k h.1;omega
 ·have:=Q77 l k h.1;omega
 ·omega
theorem Q4p (l:List Int)(k:Nat)(ok:Bool)(h:¬ (k<l.length∧ok=true)):Q2h l k ok=(l.length,false):=by rw[Q2h,dif_neg h]
theorem Q8e (l:List Int)(k:Nat)(h:k<l.length)(hq:l[k]=62):Q2h l k true=(k+1,true):=by rw[Q2h,dif_pos ⟨h,rfl⟩,if_pos hq]
theorem Q89 (l:List Int)(k:Nat)(h:k<l.length)(h1:l[k]≠62)(hq:Q3a l[k]=true):Q2h l k true=Q2h l (Q12 l k).1 (Q12 l k).2:=by
 conv=>lhs;rw[Q2h]
 rw[dif_pos ⟨h,rfl⟩,if_neg h1,if_pos hq]
theorem Q8m (l:List Int)(k:Nat)(h:k<l.length)(hq:l[k]=91):Q2h l k true=Q2h l (Q76 l k).1 (Q76 l k).2:=by
 conv=>lhs;rw[Q2h]
 rw[dif_pos ⟨h,rfl⟩,if_neg (by rw[hq];decide),if_neg (by rw[hq];decide),if_pos hq]
theorem Q7b (l:List Int)(k:Nat)(h:k<l.length)(h1:l[k]≠62)(h2:Q3a l[k]=false)(h3:l[k]≠91):Q2h l k true=Q2h l (k+1) true:=by
 conv=>lhs;rw[Q2h]
 rw[dif_pos ⟨h,rfl⟩,if_neg h1,if_neg (by simp[h2]),if_neg h3]
def Q3G (l:List Int)(k:Nat):Nat×Nat×Bool:=(7,(Q2h l (k+9) true).1,(Q2h l (k+9) true).2)
def Q1D (l:List Int)(k:Nat):Nat×Nat×Bool :=
 if Q3 l k [60,33,45,45]=true then Q17 l 4 k 4 [45,45,62]
 else if Q3 l k [60,33,91,67,68,65,84,65,91]=true then Q17 l 6 k 9 [93,93,62]
 else if Q3 l k [60,63]=true then Q17 l 5 k 2 [63,62]
 else if Q3 l k [60,33,68,79,67,84,89,80,69]=true then Q3G l k
 else if Q3 l k [60,47]=true then Q3m l k
 else if 0<Qg l (k+1) then Q1A l k
 else (11,k+1,false)
def Q1M (r:Int):Bool:=r != 60&&(r != 38&&r != -1)
def Qk (l:List Int)(k:Nat):Nat×Nat×Bool :=
 if l.getD k 0=60 then Q1D l k else if l.getD k 0=38 then Q1h l k else if l.getD k 0=-1 then (11,k+1,false)
 else (1,k+((l.drop k).takeWhile Q1M).length,true)
theorem QbF (S:Nat→Prop)(A:Option Addr)(n c:Nat)(l:List Int)(k:Nat)(w:World)(hr:Rd w S 1 A n c (rc l))(hk:k+9≤l.length)(hl9:l.length≤1000000000) :
  Calls prog 98 #[.slice A n c,.int .i64 k] w fun e w'=>e=.returned (Q20 (Q3G l k) k)∧Below w.heap.size w w':=by
 obtain rfl:=hr.rlen
 have hle:=hr.le
 have hmx:c≤9223372036854775807:=hr.max
 have HR:=Lib.hid hr
 clear hr
 obtain⟨t,ht⟩:∃ t,t=Q2h l (k+9) true:=⟨_,rfl⟩
 have HT:=Lib.hid ht
 have HTT:Hid (Q3G l k=(7,t.1,t.2)):=by rw[Hid,ht];rfl
 clear ht
 go_enter func98,ntmps98
 go_wp2
 have HTH0:=Lib.hid (Q2A w #[.int .i64 0,.int .i64 0,.int .i64 0,.bool false] 95)
 have HB0:=Lib.hid (ba w (.cells #[.int .i64 0,.int .i64 0,.int .i64 0,.bool false] 95))
 have HSZ:Hid (w.heap.size<(w.alloc (.cells #[.int .i64 0,.int .i64 0,.int .i64 0,.bool false] 95)).heap.size):=by simp[Hid]
 generalize w.alloc (.cells #[.int .i64 0,.int .i64 0,.int .i64 0,.bool false] 95)=W0 at HTH0 HB0 HSZ
 have HTH0:Hid (W0.there w.heap.size 0 4):=HTH0.out
 go_loopw [5,6] (fun o i wr=>∃ (j:Nat) (ok:Bool),j≤l.length∧i=.int .i64 j∧o=.bool ok∧Hid (t=Q2h l j ok)∧Hid (Below w.heap.size w wr)∧Hid (wr.there w.heap.size 0 4)∧Hid (w.heap.size<wr.heap.size)) (fun _ i _=>l.length-(intOf i).toNat)
 case atStart=>exact⟨k+9,true,by omega,by go_num,rfl,HT.out,HB0.out,HTH0.out,HSZ.out⟩
 case round =>
  obtain⟨j,ok,hj,rfl,rfl,HJ,HB,HTH,HLT⟩:=hrel
  by_cases hlt:j<l.length
  ·have hji:(j:Int)<(l.length:Int):=by omega
   cases ok with
   |true =>
    obtain⟨b,o,rfl,hc0⟩:=(HR.out.below HB.out).rune hlt
    have H1:=Lib.hid (Q8e l j hlt)
    have H2:=Lib.hid (Q89 l j hlt)
    have H3:=Lib.hid (Q8m l j hlt)
    have H4:=Lib.hid (Q7b l j hlt)
    have HQT:=Lib.hid (Q94 l[j])
    have HQD:=Lib.hid (Qa2 S _ l.length c l j _ (HR.out.below HB.out) hlt hl9)
    have HSB:=Lib.hid (Qex S _ l.length c l j _ (HR.out.below HB.out) hlt hl9)
    obtain⟨hg1,hg2⟩:=Q2w l j hlt
    obtain⟨hs1,hs2⟩:=Q77 l j hlt
    generalize (Q12 l j).1=qj at HQD H2 hg1 hg2
    generalize (Q12 l j).2=qb at HQD H2
    generalize (Q76 l j).1=sj at HSB H3 hs1 hs2
    generalize (Q76 l j).2=sb at HSB H3
    generalize l[j]=r at hc0 HQT H1 H2 H3 H4
    by_cases h62:r=62
    ·have HE:Hid (Q3G l k=(7,j+1,true)):=by rw[Hid,HTT.out,HJ.out.trans (H1.out h62)]
     subst h62
     clear H1 H2 H3 H4 HJ HTT HQD HSB HQT
     have HL9:=Lib.hid (Qz (P:=prog) (T:=95) wr w.heap.size [.int .i64 7,.int .i64 k,.int .i64 ((j:Int)+1),.bool true] HTH.out (by kernel_rfl) underlying95 rfl)
     have HB9:=Lib.hid (Qf HB.out w.heap.size (Nat.le_refl _) [.int .i64 7,.int .i64 k,.int .i64 ((j:Int)+1),.bool true] 0)
     obtain⟨⟨z0,hz0⟩,hf0⟩:=Q6 HTH.out 0 (by decide)
     obtain⟨⟨z1,hz1⟩,hf1⟩:=Q6 HTH.out 1 (by decide)
     obtain⟨⟨z2,hz2⟩,hf2⟩:=Q6 HTH.out 2 (by decide)
     obtain⟨⟨z3,hz3⟩,hf3⟩:=Q6 HTH.out 3 (by decide)
     go_wp2
     refine bodyPost_ret (Qr rfl _ rfl HL9.out) rfl ?_
     rw[HE.out]
     exact⟨by simp[Q20],HB9.out⟩
    ·have h62b:(r == 62)=false:=by simpa using h62
     have HQT2:=fun W=>Lib.hid (HQT.out W)
     cases hq:Q3a r with
     |true =>
      have HN:=Lib.hid (HJ.out.trans (H2.out h62 hq))
      rw[hq] at HQT2
      clear H1 H2 H3 H4 HJ HSB HQT h62 hq
      go_wp2_with fail
      refine (HQT2 _).out.mono ?_
      rintro e wx ⟨rfl,rfl⟩
      go_wp2_with fail
      refine HQD.out.mono ?_
      rintro e v2 ⟨rfl,hb2⟩
      have HB2:=Lib.hid (HB.out.trans (hb2.mono HB.out.size))
      have HTH2:=Lib.hid (QH HTH.out hb2 HLT.out)
      have HLT2:=Lib.hid (Nat.lt_of_lt_of_le HLT.out hb2.size)
      clear hb2
      go_wp2
      go_roundw
      case rel=>exact⟨qj,qb,by omega,rfl,rfl,HN.out,HB2.out,HTH2.out,HLT2.out⟩
      case measure=>simp[intOf];omega
     |false =>
      rw[hq] at HQT2
      by_cases h91:r=91
      ·have HN:=Lib.hid (HJ.out.trans (H3.out h91))
       subst h91
       clear H1 H2 H3 H4 HJ HQD HQT h62 hq
       go_wp2_with fail
       refine (HQT2 _).out.mono ?_
       rintro e wx ⟨rfl,rfl⟩
       go_wp2_with fail
       refine HSB.out.mono ?_
       rintro e v2 ⟨rfl,hb2⟩
       have HB2:=Lib.hid (HB.out.trans (hb2.mono HB.out.size))
       have HTH2:=Lib.hid (QH HTH.out hb2 HLT.out)
       have HLT2:=Lib.hid (Nat.lt_of_lt_of_le HLT.out hb2.size)
       clear hb2
       go_wp2
       go_roundw
       case rel=>exact⟨sj,sb,by omega,rfl,rfl,HN.out,HB2.out,HTH2.out,HLT2.out⟩
       case measure=>simp[intOf];omega
      ·have HN:=Lib.hid (HJ.out.trans (H4.out h62 hq h91))
       have h91b:(r == 91)=false:=by simpa using h91
       clear H1 H2 H3 H4 HJ HQD HSB HQT h62 hq h91
       go_wp2_with fail
       refine (HQT2 _).out.mono ?_
       rintro e wx ⟨rfl,rfl⟩
       go_wp2
       go_roundw
       case rel=>exact⟨j+1,true,by omega,by go_num,rfl,HN.out,HB.out,HTH.out,HLT.out⟩
       case measure=>simp[intOf];omega
   |false =>
    have HE:Hid (Q3G l k=(7,l.length,false)):=by rw[Hid,HTT.out,HJ.out.trans (Q4p l j false (by simp))]
    clear HJ HTT
    have HL9:=Lib.hid (Qz (P:=prog) (T:=95) wr w.heap.size [.int .i64 7,.int .i64 k,.int .i64 (l.length),.bool false] HTH.out (by kernel_rfl) underlying95 rfl)
    have HB9:=Lib.hid (Qf HB.out w.heap.size (Nat.le_refl _) [.int .i64 7,.int .i64 k,.int .i64 (l.length),.bool false] 0)
    obtain⟨⟨z0,hz0⟩,hf0⟩:=Q6 HTH.out 0 (by decide)
    obtain⟨⟨z1,hz1⟩,hf1⟩:=Q6 HTH.out 1 (by decide)
    obtain⟨⟨z2,hz2⟩,hf2⟩:=Q6 HTH.out 2 (by decide)
    obtain⟨⟨z3,hz3⟩,hf3⟩:=Q6 HTH.out 3 (by decide)
    go_wp2
    refine bodyPost_ret (Qr rfl _ rfl HL9.out) rfl ?_
    rw[HE.out]
    exact⟨by simp[Q20],HB9.out⟩
  ·have hji:¬ (j:Int)<(l.length:Int):=by omega
   have HE:Hid (Q3G l k=(7,l.length,false)):=by rw[Hid,HTT.out,HJ.out.trans (Q4p l j ok (fun h=>hlt h.1))]
   clear HJ HTT
   have HL9:=Lib.hid (Qz (P:=prog) (T:=95) wr w.heap.size [.int .i64 7,.int .i64 k,.int .i64 (l.length),.bool false] HTH.out (by kernel_rfl) underlying95 rfl)
   have HB9:=Lib.hid (Qf HB.out w.heap.size (Nat.le_refl _) [.int .i64 7,.int .i64 k,.int .i64 (l.length),.bool false] 0)
   obtain⟨⟨z0,hz0⟩,hf0⟩:=Q6 HTH.out 0 (by decide)
   obtain⟨⟨z1,hz1⟩,hf1⟩:=Q6 HTH.out 1 (by decide)
   obtain⟨⟨z2,hz2⟩,hf2⟩:=Q6 HTH.out 2 (by decide)
   obtain⟨⟨z3,hz3⟩,hf3⟩:=Q6 HTH.out 3 (by decide)
   go_wp2
   refine bodyPost_ret (Qr rfl _ rfl HL9.out) rfl ?_
   rw[HE.out]
   exact⟨by simp[Q20],HB9.out⟩
end Go.Proofs.YthbjpdijafccjaaGreat
namespace Go.Proofs.YthbjpdijafccjaaGreat
open Go.RowKit Go.Lib
end Go.Proofs.YthbjpdijafccjaaGreat
namespace Go.Proofs.YthbjpdijafccjaaGreat
open Go.RowKit Go.Lib Tryz
theorem Qcx (S:Nat→Prop)(A:Option Addr)(n c:Nat)(l:List Int)(k:Nat)(w:World)(hr:Rd w S 1 A n c (rc l))(h38:l[k]?=some 38)(hl9:l.length≤1000000000) :
  Calls prog 52 #[.slice A n c,.int .i64 k] w fun e w'=>e=.returned (.tuple #[Q20 (Q1h l k) k,.bool true])∧Below w.heap.size w w':=by
 obtain rfl:=hr.rlen
 have hle:=hr.le
 have hmx:c≤9223372036854775807:=hr.max
 obtain⟨hk,h38⟩:=List.getElem?_eq_some_iff.1 h38
 obtain⟨b,o,rfl,hc0⟩:=hr.rune hk
 rw[h38] at hc0
 have hca:=fun ob=>QaT (ba w ob) hc0
 have hki:¬ (k:Int) ≥ (l.length:Int):=by omega
 have HRF:=fun W (h:Below w.heap.size w W)=>Lib.hid (QjD S _ _ c l k W (hr.below h) hk hl9)
 clear hr h38
 generalize Q1h l k=t at HRF ⊢
 obtain⟨kd,to,wh⟩:=t
 have HRF:∀ W,Below w.heap.size w W→Hid (Calls prog 74 #[.slice (some ⟨b,o,none⟩) l.length c,.int .i64 k] W fun e w'=>e=.returned (.agg #[.int .i64 kd,.int .i64 k,.int .i64 to,.bool wh])∧Below W.heap.size W w'):=HRF
 go_enter func52,ntmps52
 go_wp2_with fail
 have HTH0:=Lib.hid (Q2A w #[.int .i64 0,.int .i64 0,.int .i64 0,.bool false] 95)
 have HB0:=Lib.hid (ba w (.cells #[.int .i64 0,.int .i64 0,.int .i64 0,.bool false] 95))
 have HSZ:Hid (w.heap.size<(w.alloc (.cells #[.int .i64 0,.int .i64 0,.int .i64 0,.bool false] 95)).heap.size):=by simp[Hid]
 generalize w.alloc (.cells #[.int .i64 0,.int .i64 0,.int .i64 0,.bool false] 95)=W0 at HTH0 HB0 HSZ
 refine (HRF _ HB0.out).out.mono ?_
 rintro e w1 ⟨rfl,hb1⟩
 have HB1:=Lib.hid (HB0.out.trans (hb1.mono HB0.out.size))
 have hth:=QH HTH0.out hb1 HSZ.out
 have HL9:=Lib.hid (Qz (P:=prog) (T:=95) w1 w.heap.size [.int .i64 kd,.int .i64 k,.int .i64 to,.bool wh] hth (by kernel_rfl) underlying95 rfl)
 have HB9:=Lib.hid (Qf HB1.out w.heap.size (Nat.le_refl _) [.int .i64 kd,.int .i64 k,.int .i64 to,.bool wh] 0)
 obtain⟨⟨z0,hz0⟩,hf0⟩:=Q6 hth 0 (by decide)
 obtain⟨⟨z1,hz1⟩,hf1⟩:=Q6 hth 1 (by decide)
 obtain⟨⟨z2,hz2⟩,hf2⟩:=Q6 hth 2 (by decide)
 obtain⟨⟨z3,hz3⟩,hf3⟩:=Q6 hth 3 (by decide)
 clear hth hb1 HTH0 HRF
 go_wp2
 refine bodyPost_ret (Q3V rfl _ rfl HL9.out) rfl ?_
 exact⟨rfl,HB9.out⟩
end Go.Proofs.YthbjpdijafccjaaGreat
