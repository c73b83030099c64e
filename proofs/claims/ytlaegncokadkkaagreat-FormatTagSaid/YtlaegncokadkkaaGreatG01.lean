/- Lemmas, conditions told -/
import Derived.Test.YtlaegncokadkkaaGreatChecked
import Derived.KernelRfl
import Derived.WalkKit
import Derived.WalkSpells
import Derived.WalkLawsBesides
import Derived.Lib.Hide
import Derived.Deep.LoopGhost
import Derived.Deep.Draws
import Derived.Deep.AppendLies
import Derived.Maps.AppendAt
import Derived.Deep.QuietTactic
import Derived.BigQuiet
import Derived.Handy
import Derived.Shelf.Abstract
import Derived.OrdersHeld
import Derived.Lib.MapLaws
import Derived.Laws.Cover4
import Derived.OpenShut
import Derived.Laws.BytesString
import Derived.Lib.AppendZeros
import Derived.Deep.RegionWith
import Derived.Deep.RegionHeld3
set_option maxRecDepth 99999
set_option maxHeartbeats 0
set_option linter.unusedSimpArgs false
set_option linter.unusedVariables false
namespace Go.Proofs.YtlaegncokadkkaaGreat
open List(getElem?_eq_getElem length_drop length_take getElem?_map map_cons map_nil length_map cons_append nil_append getD_cons_zero getD_cons_succ length_cons map_append append_nil take_of_length_le)
open Lib(hid)
open Nat(le_refl zero_le zero_add le_trans)
section
open Go.RowKit
structure Rd (w:World) (S:Nat->Prop) (size:Nat) (A:Option Addr) (n c:Nat) (xs:List Value):Prop where
 len:xs.length=n * size
 le:n<=c
 max:c<=maxLen
 nil:A=none->c=0
 at_:0<n->∃b o,A=some ⟨b,o,none⟩/\S b/\∀j u,xs[j]?=some u->w.cell? ⟨b,o+j,none⟩=some u
section
variable {w w':World}{S T:Nat->Prop}{size n c:Nat}{A:Option Addr}{xs:List Value}
theorem Rd.none_:Rd w S size none 0 0 []:=⟨by simp,le_refl _,zero_le _,fun _=>rfl,fun h=>absurd h (by omega)⟩
theorem Rd.one{k:Nat}(h:Rd w S 1 A n c xs)(hk:k<n):∃b o u,A=some ⟨b,o,none⟩/\S b/\xs[k]?=some u/\w.cell? ⟨b,o+k,none⟩=some u:=by
 obtain⟨b,o,e,hb,hc⟩:=h.at_ (by omega)
 have hl:k<xs.length:=by have:=h.len;omega
 exact⟨b,o,xs[k],e,hb,getElem?_eq_getElem hl,hc k _ (getElem?_eq_getElem hl)⟩
theorem Rd.keep(h:Rd w S size A n c xs)(hk:∀b,S b->b<w.heap.size->w'.heap[b]?=w.heap[b]?):Rd w' S size A n c xs :=
 ⟨h.len,h.le,h.max,h.nil,fun hn=>by
  obtain⟨b,o,e,hb,hc⟩:=h.at_ hn;refine⟨b,o,e,hb,fun j u hu=>?_⟩
  have h0:=hc j u hu;have jE:=World.block_lt_of_cell? w _ h0;exact(World.cell?_of_block (w:=w) (hk _ hb jE)).trans h0⟩
theorem Rd.more(h:Rd w S size A n c xs)(hS:∀b,S b->T b):Rd w T size A n c xs :=
 ⟨h.len,h.le,h.max,h.nil,fun hn=>by
  obtain⟨b,o,e,hb,hc⟩:=h.at_ hn;exact⟨b,o,e,hS _ hb,hc⟩⟩
theorem Rd.below(h:Rd w S size A n c xs)(hb:Below w.heap.size w w'):Rd w' S size A n c xs:=h.keep fun b _ jE=>hb.block b jE
theorem Rd.alloc(h:Rd w S size A n c xs)(o:Obj):Rd (w.alloc o) S size A n c xs:=h.keep fun b _ jE=>Below.heap_alloc w o b jE
theorem Rd.cut(h:Rd w S size A n c xs){k:Nat}(hk:k<=n) :
  Rd w S size (if c=k then A else A.map (·.add (k * size))) (n-k) (c-k) (xs.drop (k * size)):=by
 refine⟨by rw[length_drop,h.len,Nat.sub_mul],by have:=h.le;omega,by have:=h.max;omega,fun hA=>?_,fun hn=>?_⟩
 ·by_cases e:c=k
  ·omega
  ·rw[if_neg e]at hA
   have:A=none:=by cases A<;>simp_all
   have:=h.nil this
   omega
 ·obtain⟨b,o,rfl,hb,hcell⟩:=h.at_ (by omega)
  have:=h.le
  rw[if_neg (by omega)]
  refine⟨b,o+k * size,by simp[Addr.add_lit],hb,fun j u hu=>?_⟩
  rw[Nat.add_assoc];exact hcell _ u (by rw[<-hu,List.getElem?_drop])
theorem Rd.take(h:Rd w S size A n c xs){k:Nat}(hk:k<=n):Rd w S size A k c (xs.take (k * size)):=by
 refine⟨?_,by have:=h.le;omega,h.max,h.nil,fun hn=>?_⟩
 ·rw[length_take,h.len]
  exact Nat.min_eq_left (Nat.mul_le_mul_right _ hk)
 ·obtain⟨b,o,rfl,hb,hcell⟩:=h.at_ (by omega)
  refine⟨b,o,rfl,hb,fun j u hu=>hcell j u ?_⟩
  rw[List.getElem?_take]at hu;split at hu
  ·exact hu
  ·cases hu
theorem Rd.of_own{base:Nat}{e:TypeId}(h:w.ownsRow base e size (.slice A n c) n xs):Rd w (fun b=>base<=b) size A n c xs:=by
 obtain⟨hl,h2⟩:=h;rcases h2 with ⟨h2,h3⟩|⟨g,cap,cur,hv,hb,hh,hn,hm,hs,ht⟩
 ·injection h2 with h4 h5 h6
  subst h4 h5 h6;exact⟨hl,le_refl _,zero_le _,fun _=>rfl,fun h=>absurd h (by omega)⟩
 ·injection hv with h4 h5 h6
  subst h4 h6;refine⟨hl,hn,hm,(fun h=>by cases h),fun h0=>⟨_,_,rfl,hb,?_⟩⟩
  intro j u hu;have jG:w.ownsRow base e size (.slice (some ⟨g,0,none⟩) n c) n xs:=⟨hl,.inr ⟨g,c,cur,rfl,hb,hh,hn,hm,hs,ht⟩⟩;have:=jG.cells rfl j u hu
  rw[Addr.add_lit]at this;exact this
end
theorem Rd.cutL{P:Program}{t:TypeId}{w:World}{S:Nat->Prop}{size n c:Nat}{A:Option Addr}{xs:List Value}(h:Rd w S size A n c xs)
  (ht:P.underlying t=some (.slice (P.elem t))) (hz:∀w,(sizeOf (P.elem t)).run P w=.ok size w) {k:Nat} (hk:k<=n) :
  ∃A',Rd w S size A' (n-k) (c-k) (xs.drop (k * size))/\∀W,(Instr.slice t (.slice A n c) (some (.int .i64 k)) none none).run P W=.ok (.slice A' (n-k) (c-k)) W:=by
 refine⟨_,h.cut hk,fun W=>?_⟩
 rw[run_slice_l W t A n c ht .i64 k (by omega) (by omega),hz]
 rfl
theorem Rd.cutLH{P:Program}{t:TypeId}{w:World}{S:Nat->Prop}{size n c:Nat}{A:Option Addr}{xs:List Value}(h:Rd w S size A n c xs)
  (ht:P.underlying t=some (.slice (P.elem t))) (hz:∀w,(sizeOf (P.elem t)).run P w=.ok size w) {j k:Nat} (hj:j<=k) (hk:k<=n) :
  ∃A',Rd w S size A' (k-j) (c-j) ((xs.drop (j * size)).take ((k-j) * size)) /\
   ∀W,(Instr.slice t (.slice A n c) (some (.int .i64 j)) (some (.int .i64 k)) none).run P W=.ok (.slice A' (k-j) (c-j)) W:=by
 refine⟨_,(h.cut (k:=j) (by omega)).take (k:=k-j) (by omega),fun W=>?_⟩
 have:=h.le
 rw[run_slice_lh W t A n c ht .i64 .i64 j k (by omega) (by omega) (by omega),hz]
 rfl
theorem Rd.lit(w:World)(t:TypeId)(cs:Array Value)(size n:Nat)(hs:cs.size=n * size)(hm:n<=maxLen) :
  Rd (w.alloc (.cells cs t)) (fun b=>w.heap.size<=b) size (some ⟨w.heap.size,0,none⟩) n n cs.toList :=
 ⟨by simpa using hs,le_refl _,hm,fun h=>(by cases h),fun _=>⟨_,_,rfl,le_refl _,fun j u hu=>by
  rw[World.cell?_alloc_at _ _ _ _ rfl,zero_add];simpa using hu⟩⟩
theorem Q14{w:World}{base:Nat}{e:TypeId}{size n:Nat}{v:Value}{xs:List Value}(h:w.ownsRow base e size v n xs) :
  ∃A c,v=.slice A n c/\Rd w (fun b=>base<=b) size A n c xs:=by
 have h':=h;rcases h.2 with ⟨rfl,rfl⟩|⟨g,cap,cur,rfl,_⟩
 ·exact⟨none,0,rfl,Rd.of_own h'⟩
 ·exact⟨some ⟨g,0,none⟩,cap,rfl,Rd.of_own h'⟩
def Q3I(P:Program)(g:Nat)(caps:Array Value)(p:Int->Bool)(w:World):Prop :=
 ∀(W:World)(r:Int),Below w.heap.size w W->Calls P g (#[.int .i32 r]++caps) W fun e W'=>e=.returned (.bool (p r))/\Below W.heap.size W W'
theorem Qw{a b:Bool}(h:a=b):Ending.returned (.bool a)=.returned (.bool b):=by rw[h]
theorem QX{k:IntKind}{a b:Int}(h:a=b):Ending.returned (.int k a)=.returned (.int k b):=by rw[h]
theorem Q5G{k:IntKind}{a:Int}{b:Bool}{x:Int×Bool}(h:x=(a,b)):Ending.returned (.tuple #[.int k a,.bool b])=.returned (.tuple #[.int k x.1,.bool x.2]):=by rw[h]
theorem QV{B:Nat}{a w:World}(h:Below B a w)(n:Nat):Below B a (w.drewN n):=⟨h.os,h.tape,h.output,h.size,h.block⟩
theorem Q4T{w w1 w2:World}(h:Below w.heap.size w w1)(h2:Below w1.heap.size w1 w2):Below w.heap.size w w2:=h.trans (h2.mono h.size)
abbrev rc(l:List Int):List Value:=l.map (Value.int .i32)
theorem Qcw{l:List Int}{k:Nat}{u:Value}(h:(rc l)[k]?=some u):∃h:k<l.length,u=.int .i32 l[k]:=by
 simp only[rc,getElem?_map,Option.map_eq_some_iff]at h;obtain⟨a,ha,rfl⟩:=h;obtain⟨hk,rfl⟩:=List.getElem?_eq_some_iff.1 ha;exact⟨hk,rfl⟩
end
section
open Go.RowKit Tryz
section
variable {P:Program} (w:World)
theorem Q7s(base:Nat)(t ty e:TypeId)(i:TypeInfo)(size:Nat)(ht:P.underlying t=some (.slice e))(hi:P.info? e=some i)
  (v:Value) (n:Nat) (xs:List Value) (jG:w.ownsRow base e size v n xs) (c:Nat):(Builtin.append_ #[t,t] ty #[v,.slice none 0 c]).run P w=.ok v w:=by
 rcases jG.2 with ⟨rfl,rfl⟩|⟨g,cap,cur,rfl,_,_,pl,_⟩
 ·simp[Builtin.append_,run_underlying ht,sizeOf,typeInfo,hi,Builtin.lenOf,Builtin.firstCells]
 ·simp[Builtin.append_,run_underlying ht,sizeOf,typeInfo,hi,Builtin.lenOf,Builtin.firstCells,pl,storeCells]
theorem QaC(base:Nat)(t ty e:TypeId)(i:TypeInfo)(z:Value)(size bytes:Nat)(ht:P.underlying t=some (.slice e))(hi:P.info? e=some i)(hz:i.zero=some z)
  (yJ:i.size=size) (gk:i.bytes=bytes) (gJ:z.cells.size=size) (j6:0<size)
  (v:Value) (n:Nat) (xs:List Value) (jG:w.ownsRow base e size v n xs)
  (S:Nat->Prop) (A:Option Addr) (m c:Nat) (news:List Value) (hr:Rd w S size A m c news) (h1:∀u∈news,u.oneCell'=true)
  (po:n+m<=maxLen) (yX:(n+m) * bytes<=140737488355328) (jz:base<=w.heap.size) :
  ∃v' w',(Builtin.append_ #[t,t] ty #[v,.slice A m c]).run P w=.ok v' w'/\w'.ownsRow base e size v' (n+m) (xs++news)/\w.grownBy w' v.ownBlock /\
   (v'.ownBlock=v.ownBlock\/v'.ownBlock=some w.heap.size):=by
 rcases A with _|ad
 ·have hm:m=0:=by have:=hr.nil rfl;have:=hr.le;omega
  subst hm;have hn:news=[]:=List.eq_nil_of_length_eq_zero (by simpa using hr.len)
  subst hn;exact⟨v,w,Q7s w base t ty e i size ht hi v n xs jG c,by simpa using jG,World.grownBy.refl w _,.inl rfl⟩
 ·have cm:∀j u,news[j]?=some u->w.cell? (ad.add j)=some u:=by
   intro j u hu;rcases Nat.eq_zero_or_pos m with h0|h0
   ·subst h0
    have hn:news=[]:=List.eq_nil_of_length_eq_zero (by simpa using hr.len)
    subst hn;simp at hu
   ·obtain⟨b,o,h,_,hc⟩:=hr.at_ h0
    injection h with h
    subst h;rw[Addr.add_lit];exact hc j u hu
  obtain⟨v',w',jQ,h2,h3,_,h5⟩:=run_append_own_at (P:=P) w base t ty e i z size bytes ht hi hz yJ gk gJ j6 v n xs jG ad m c news hr.len cm h1 po yX jz;exact⟨v',w',jQ,h2,h3,h5⟩
theorem Q2q{ops:Array Oper}{rest:List Oper}{o:Oper}{a:Act}{Q:Exit->Act->World->Prop}(vh:o.guard=none)(s x:Operand)(t:TypeId)
  (ho:o.op=.call { callee:=.builtin .append,args:=#[s,x],argTypes:=#[t,t] })
  (base:Nat) (e:TypeId) (i:TypeInfo) (z:Value) (size bytes:Nat) (ht:P.underlying t=some (.slice e)) (hi:P.info? e=some i) (hz:i.zero=some z)
  (yJ:i.size=size) (gk:i.bytes=bytes) (gJ:z.cells.size=size) (j6:0<size)
  (v:Value) (n:Nat) (xs:List Value) (hs:a.eval s=v) (jG:w.ownsRow base e size v n xs)
  (S:Nat->Prop) (A:Option Addr) (m c:Nat) (news:List Value) (hx:a.eval x=.slice A m c) (hr:Rd w S size A m c news) (h1:∀u∈news,u.oneCell'=true)
  (po:n+m<=maxLen) (yX:(n+m) * bytes<=140737488355328) (jz:base<=w.heap.size)
  (h:∀v' w',w'.ownsRow base e size v' (n+m) (xs++news)->w.grownBy w' v.ownBlock->(v'.ownBlock=v.ownBlock\/v'.ownBlock=some w.heap.size)->wpList P ops Q rest (a.put o.dst v') w'):wpList P ops Q (o::rest) a w:=by
 refine wpList_plain vh fun K hK=>?_
 obtain⟨v',w',jQ,h2,h3,h4⟩:=QaC (P:=P) w base t o.type e i z size bytes ht hi hz yJ gk gJ j6 v n xs jG S A m c news hr h1 po yX jz;unfold Oper.wp execOp;simp only[ho,resolve,invoke,builtin,Sem.run_bind,Sem.run_pure,Result.andThen_ok,List.map_toArray,map_cons,map_nil,hs,hx,jQ];exact hK _ _ (h v' w' h2 h3 h4)
end
theorem QnB(l:List Int):∀u∈rc l,u.oneCell'=true:=ints_oneCell .i32 l
theorem Qcl:(prog.info? 21).map (fun i=>(i.zero,i.size,i.bytes))=some (some (.int .i32 0),1,4):=by kernel_rfl
theorem Q5b(w:World){ops:Array Oper}{rest:List Oper}{o:Oper}{a:Act}{Q:Exit->Act->World->Prop}(vh:o.guard=none)(s x:Operand)
  (ho:o.op=.call { callee:=.builtin .append,args:=#[s,x],argTypes:=#[24,24] })
  (base:Nat) (v:Value) (n:Nat) (xs:List Int) (hs:a.eval s=v) (jG:w.ownsRow base 21 1 v n (rc xs))
  (S:Nat->Prop) (A:Option Addr) (m c:Nat) (ys:List Int) (hx:a.eval x=.slice A m c) (hr:Rd w S 1 A m c (rc ys))
  (jC:n+m<=1000000000) (jz:base<=w.heap.size)
  (h:∀A' c' w',w'.ownsRow base 21 1 (.slice A' (n+m) c') (n+m) (rc (xs++ys))->w.grownBy w' v.ownBlock->((Value.slice A' (n+m) c').ownBlock=v.ownBlock\/(Value.slice A' (n+m) c').ownBlock=some w.heap.size) ->
    c'<=9223372036854775807->wpList prog ops Q rest (a.put o.dst (.slice A' (n+m) c')) w') :
  wpList prog ops Q (o::rest) a w:=by
 obtain⟨i0,hi,jZ,j7,j8⟩:=info_parts Qcl;refine Q2q w vh s x 24 ho base 21 i0 _ 1 4 underlying24 hi jZ j7 j8 rfl (by omega) v n (rc xs) hs jG S A m c (rc ys) hx hr (QnB ys) (by simp only[maxLen];omega) (by omega) jz ?_
 intro v' w' h1 h2 h3;obtain⟨A',c',rfl,vQ⟩:=Q14 h1;exact h A' c' w' (by simpa[rc]using h1) h2 h3 vQ.max
theorem Q6T{w:World}{base:Nat}{e:TypeId}{v:Value}{n:Nat}{xs:List Int}(h:w.ownsRow base e 1 v n (rc xs)):n=xs.length:=by have:=h.1;simpa using this.symm
theorem Qai{w:World}{base base':Nat}{e:TypeId}{size n:Nat}{v:Value}{xs:List Value}(h:w.ownsRow base e size v n xs)(hb:base'<=base):w.ownsRow base' e size v n xs:=by
 obtain⟨h1,h2⟩:=h;refine⟨h1,?_⟩;rcases h2 with h2|⟨g,cap,cur,hv,hg,r⟩
 ·exact .inl h2
 ·exact .inr ⟨g,cap,cur,hv,le_trans hb hg,r⟩
theorem QaY{w w':World}{base:Nat}{e:TypeId}{size n:Nat}{v:Value}{xs:List Value}(h:w.ownsRow base e size v n xs)(hb:Below w.heap.size w w'):w'.ownsRow base e size v n xs :=
 h.kept (row:=none) ⟨hb.os,hb.tape,hb.output,hb.size,fun k hk _=>hb.block k hk⟩ (by cases v.ownBlock<;>simp)
theorem Q41{w wr w1:World}{e:TypeId}{size n:Nat}{v:Value}{xs:List Value}{base:Nat}(hb:Below base w wr)(jF:base<=wr.heap.size)(jG:wr.ownsRow base e size v n xs)(hg:wr.grownBy w1 v.ownBlock):Below base w w1 :=
 hb.grown hg jF (fun k hk=>(jG.lt k hk).1)
end
section
open Go.RowKit Go.Lib
section
variable {P:Program}{ops:Array Oper}{Q:Exit->Act->World->Prop}{md:Region.Mode}{Le:World->World->Prop}
def wpU(P:Program)(md:Region.Mode)(ops:Array Oper)(Le:World->World->Prop)(Q:Exit->Act->World->Prop):Nat->Array Bool->Act->World->Prop
 |0,listed,a,w=>Region.ready md ops listed=[]/\∀W,Le w W->Q .normal a W
 |n+1,listed,a,w=>(Region.ready md ops listed=[]->∀W,Le w W->Q .normal a W) /\
   ∀i∈Region.ready md ops listed,∀W,Le w W->wpOp P ops Q i (fun a' w'=>Le W w'/\wpU P md ops Le Q n (listed.setIfInBounds i true) a' w') a W
theorem QjZ(ht:∀a b c,Le a b->Le b c->Le a c):∀(n:Nat)(listed:Array Bool)(a:Act)(w W:World),wpU P md ops Le Q n listed a w->Le w W->wpU P md ops Le Q n listed a W
 |0,_,_,_,_,h,hW=>⟨h.1,fun V hV=>h.2 V (ht _ _ _ hW hV)⟩
 |_+1,_,_,_,_,h,hW=>⟨fun h0 V hV=>h.1 h0 V (ht _ _ _ hW hV),fun i hi V hV=>h.2 i hi V (ht _ _ _ hW hV)⟩
theorem Q97(vF:∀a,Le a a):∀(n:Nat)(listed:Array Bool)(a:Act)(w:World),wpU P md ops Le Q n listed a w->wpAny P md ops Q n listed a w
 |0,_,_,_,h=>⟨h.1,h.2 _ (vF _)⟩
 |n+1,_,_,_,h=>⟨fun h0=>h.1 h0 _ (vF _),fun i hi=>wpOp_mono (fun a' w' h'=>Q97 vF n _ a' w' h'.2) (h.2 i hi _ (vF _))⟩
theorem YieldsIf.weaken{S T:World->Prop}{o:Oper}{v:Value}{a:Act}(h:YieldsIf P ops S o v a)(hT:∀w,T w->S w):YieldsIf P ops T o v a :=
 h.imp (fun⟨h1,h2⟩=>⟨h1,fun w hw=>h2 w (hT w hw)⟩) id
theorem Qbi(vF:∀a,Le a a)(ht:∀a b c,Le a b->Le b c->Le a c){i:Nat}{oi:Oper}{v:Value}(hi:ops[i]?=some oi)
  (zS:∀(j:Nat)(o:Oper) cs b,ops[j]?=some o->o.op≠.select cs b)
  (hQ:∀c a w,Q (.panic c) (a.put oi.dst v) w->Q (.panic c) a w) :
  ∀(n:Nat)(listed:Array Bool)(a:Act)(w:World),
   (∀j oj,ops[j]?=some oj->j≠i->listed.getD j true=false->(∀e∈oj.after,Region.binds md e=true->e.on≠i)->oi.apart ops oj=true) ->
   i∈Region.ready md ops listed->YieldsIf P ops (Le w) oi v a ->
   wpU P md ops Le Q n (listed.setIfInBounds i true) (a.put oi.dst v) w->wpU P md ops Le Q (n+1) listed a w:=by
 intro n;induction n with
 |zero =>
  intro listed a w _ hr hy H;refine⟨fun h=>(by rw[h]at hr;cases hr),fun j hj W hW=>?_⟩
  by_cases qV:j=i
  ·subst qV;exact hy.wpOp hi hW ⟨vF _,QjZ ht _ _ _ _ _ H hW⟩
  ·have:=ready_mono hj qV
   rw[H.1]at this;cases this
 |succ n ih =>
  intro listed a w yK hr hy H;refine⟨fun h=>(by rw[h]at hr;cases hr),fun j hj W hW=>?_⟩
  by_cases qV:j=i
  ·subst qV;exact hy.wpOp hi hW ⟨vF _,QjZ ht _ _ _ _ _ H hW⟩
  ·have h1:=H.2 j (ready_mono hj qV) W hW
   obtain⟨yY,oj,gK,qa⟩:=mem_ready.1 hj
   have qm:∀e∈oj.after,Region.binds md e=true->e.on≠i:=fun e he hb jj=>by
    have h1:=qa e he hb;have h0:=(mem_ready.1 hr).1;rw[jj]at h1;rcases Nat.lt_or_ge i listed.size with h'|h'
    ·simp[h']at h0 h1;rw[h0]at h1;cases h1
    ·simp[Array.getElem?_eq_none h']at h1
   have h2:=wpOp_putIf (S:=Le w) gK (yK j oj gK qV yY qm) (fun cs b=>zS i oi cs b hi) (fun cs b=>zS j oj cs b gK) hQ hy h1
   have yZ:∀k ok,ops[k]?=some ok->k≠i->(listed.setIfInBounds j true).getD k true=false ->
     (∀e∈ok.after,Region.binds md e=true->e.on≠i)->oi.apart ops ok=true:=fun k ok hk cn yr vi=>by
    refine yK k ok hk cn ?_ vi;by_cases yt:j=k
    ·subst yt;exact yY
    ·rw[getD_set_ne true yt]at yr;exact yr
   refine wpOp_mono (fun a' w' h3=>⟨h3.2.1,ih (listed.setIfInBounds j true) a' w' yZ (ready_mono hr (Ne.symm qV)) (YieldsIf.weaken h3.1 fun V hV=>ht _ _ _ (ht _ _ _ hW h3.2.1) hV) ?_⟩) h2
   rw[Array.setIfInBounds_comm _ _ qV];exact h3.2.2
def Q53(md:Region.Mode)(ops:Array Oper):List (Nat×Bool)->Array Bool->Bool
 | [],listed=>(Region.ready md ops listed).isEmpty
 |(i,s)::rest,listed=>(if s then(Region.ready md ops listed).contains i&&Region.free md ops listed i else Region.ready md ops listed == [i])&&Q53 md ops rest (listed.setIfInBounds i true)
def Q3F(P:Program)(ops:Array Oper)(Le:World->World->Prop)(Q:Exit->Act->World->Prop):List (Nat×Bool)->Act->World->Prop
 | [],a,w=>∀W,Le w W->Q .normal a W
 |(i,s)::rest,a,w=>match ops[i]? with
  |none=>True
  |some o=>if s then
    (if Region.wanted o (yielded ops a.tmps)then ∃v,(∀W,Le w W->(execOp a.eval o).run P W=.ok (.value v) W)/\Q3F P ops Le Q rest (a.put o.dst v) w else Q3F P ops Le Q rest (a.put o.dst undef) w)
   else ∀W,Le w W->if Region.wanted o (yielded ops a.tmps)then o.wp P a W (fun a' w'=>Le W w'/\Q3F P ops Le Q rest a' w') Q else Q3F P ops Le Q rest (a.put o.dst undef) W
theorem Qa7{i:Nat}{listed:Array Bool}(h:i∈Region.ready md ops listed):∃o,ops[i]?=some o:=by
 obtain⟨_,o,ho,_⟩:=mem_ready.1 h;exact⟨o,ho⟩
theorem Q6m(hQ:∀c a (d:Tmp) v w,Q (.panic c) (a.put (some d) v) w->Q (.panic c) a w)(c:List PanicEntry)(a:Act)(d:Option Tmp)(v:Value)(w:World)
  (h:Q (.panic c) (a.put d v) w):Q (.panic c) a w:=by
 cases d with
 |none=>exact h
 |some d=>exact hQ c a d v w h
theorem Q3w(vF:∀a,Le a a)(ht:∀a b c,Le a b->Le b c->Le a c)(hs:Region.noSelect ops=true)
  (hQ:∀c a (d:Tmp) v w,Q (.panic c) (a.put (some d) v) w->Q (.panic c) a w) :
  ∀(ord:List (Nat×Bool)) (listed:Array Bool) (a:Act) (w:World),Q53 md ops ord listed=true->Q3F P ops Le Q ord a w->wpU P md ops Le Q ord.length listed a w
 | [],listed,a,w,hB,h=>⟨by simpa[Q53]using hB,h⟩
 |(i,true)::rest,listed,a,w,hB,h=>by
  simp only[Q53,if_true,Bool.and_eq_true]at hB;obtain⟨⟨hr,hf⟩,hB⟩:=hB;obtain⟨o,ho⟩:=Qa7 (by simpa using hr)
  simp only[Q3F,ho,if_true]at h;by_cases hw:Region.wanted o (yielded ops a.tmps)=true
  ·simp only[hw,if_true]at h
   obtain⟨v,hv,h⟩:=h;exact Qbi vF ht ho (Region.noSelect_spec hs) (fun c a w=>Q6m hQ c a _ _ w) _ listed a w (Region.free_spec ho hf) (by simpa using hr) (.inl ⟨hw,hv⟩) (Q3w vF ht hs hQ rest _ _ _ hB h)
  ·simp only[hw]at h
   exact Qbi vF ht ho (Region.noSelect_spec hs) (fun c a w=>Q6m hQ c a _ _ w) _ listed a w (Region.free_spec ho hf) (by simpa using hr) (.inr ⟨by simpa using hw,rfl⟩) (Q3w vF ht hs hQ rest _ _ _ hB h)
 |(i,false)::rest,listed,a,w,hB,h=>by
  simp only[Q53,Bool.and_eq_true,Bool.false_eq_true,if_false,beq_iff_eq]at hB;obtain⟨hr,hB⟩:=hB;obtain⟨o,ho⟩:=Qa7 (i:=i) (by rw[hr];simp)
  simp only[Q3F,ho,Bool.false_eq_true,if_false]at h;refine⟨fun h0=>(by rw[hr]at h0;cases h0),fun j hj W hW=>?_⟩
  rw[hr]at hj;obtain rfl:=List.mem_singleton.1 hj;have h1:=h W hW;unfold wpOp;simp only[ho];split
  ·rename_i hw
   simp only[hw,if_true]at h1;exact .inl (Oper.wp_mono (fun a' w' h'=>⟨h'.1,Q3w vF ht hs hQ rest _ _ _ hB h'.2⟩) h1)
  ·rename_i hw
   simp only[hw]at h1;exact⟨vF _,Q3w vF ht hs hQ rest _ _ _ hB h1⟩
theorem QgJ{a:Act}{w:World}(h:∀W,Le w W->Q .normal a W):Q3F P ops Le Q [] a w:=h
theorem Q8B{i:Nat}{o:Oper}{rest:List (Nat×Bool)}{a:Act}{w:World}(ho:ops[i]?=some o)
  (h:∀K:Act->Prop,Hid (∀a,Q3F P ops Le Q rest a w->K a)->if Region.wanted o (yielded ops a.tmps)then ∃v,(∀W,Le w W->(execOp a.eval o).run P W=.ok (.value v) W)/\K (a.put o.dst v)else K (a.put o.dst undef)) :
  Q3F P ops Le Q ((i,true)::rest) a w:=by
 simp only[Q3F,ho,if_true];exact h _ (fun _ h=>h)
theorem Qes{i:Nat}{o:Oper}{rest:List (Nat×Bool)}{a:Act}{w:World}(ho:ops[i]?=some o)
  (h:∀(K:Act->World->Prop)(W:World),Hid (Le w W)->Hid (∀a w',Le W w'->Q3F P ops Le Q rest a w'->K a w')->if Region.wanted o (yielded ops a.tmps)then o.wp P a W K Q else(Le W W->K (a.put o.dst undef) W)) (vF:∀a,Le a a) :
  Q3F P ops Le Q ((i,false)::rest) a w:=by
 simp only[Q3F,ho,Bool.false_eq_true,if_false];intro W hW;have h1:=h (fun a' w'=>Le W w'/\Q3F P ops Le Q rest a' w') W hW (fun _ _ h1 h2=>⟨h1,h2⟩)
 split
 ·rename_i hw;simpa only[hw,if_true]using h1
 ·rename_i hw
  simp only[hw]at h1;exact(h1 (vF W)).2
abbrev LeB(w W:World):Prop:=Below w.heap.size w W
theorem LeB.refl(w:World):LeB w w:=Below.refl _ w
theorem LeB.trans(a b c:World)(h:LeB a b)(k:LeB b c):LeB a c:=Below.trans h (Below.mono k h.size)
theorem LeB.drew(w:World):LeB w w.drew:=(Below.refl _ w).drew
theorem QaD{id:Nat}{a:Act}{w:World}{l:List Oper}(vF:∀a,Le a a)(ht:∀a b c,Le a b->Le b c->Le a c)(ord:List (Nat×Bool))(hm:P.follows .mixedOrders=true)
  (hB:(Region.noSelect l.toArray&&ord.length == l.length&&Q53 .any l.toArray ord (Array.replicate l.length false))=true)
  (hQ:∀c a (d:Tmp) v w,Q (.panic c) (a.put (some d) v) w->Q (.panic c) a w)
  (h:Q3F P l.toArray Le Q ord a w.drew):(Code.region id l.toArray true).wp P Q a w:=by
 simp only[Bool.and_eq_true,beq_iff_eq]at hB;obtain⟨⟨h1,h2⟩,h3⟩:=hB;refine wp_region_any hm (Q97 vF _ _ _ _ ?_);have:=Q3w vF ht h1 hQ ord _ a _ h3 h
 rw[h2]at this;simpa using this
theorem Qal{id:Nat}{a:Act}{w:World}{l:List Oper}(ord:List (Nat×Bool))(hm:P.follows .mixedOrders=true)
  (hB:(Region.noSelect l.toArray&&ord.length == l.length&&Q53 .any l.toArray ord (Array.replicate l.length false))=true)
  (hQ:∀c a (d:Tmp) v w,Q (.panic c) (a.put (some d) v) w->Q (.panic c) a w)
  (h:∀W,Hid (LeB w W)->Q3F P l.toArray LeB Q ord a W):(Code.region id l.toArray true).wp P Q a w :=
 QaD LeB.refl LeB.trans ord hm hB hQ (h _ (LeB.drew w))
end
theorem Rd.litN(w:World)(B:Nat)(hB:w.heap.size=B)(t:TypeId)(cs:Array Value)(size n:Nat)(hs:cs.size=n * size)(hm:n<=maxLen) :
  Rd (w.alloc (.cells cs t)) (fun b=>B<=b) size (some ⟨B,0,none⟩) n n cs.toList:=by
 subst hB;exact Rd.lit w t cs size n hs hm
section
variable {P:Program}{ops:Array Oper}{Q:Exit->Act->World->Prop}{md:Region.Mode}{Le:World->World->Prop}
end
def Qs(r:Int):Nat:=if r<0\/1114111<r\/(55296<=r/\r<=57343)then 0 else if r<128 then 1 else if r<2048 then 2 else if r<65536 then 3 else 4
def Qn(l:List UInt8):Int×Nat:=if(decodeL l).1=65533/\(decodeL l).2=1 then(-1,1)else(((decodeL l).1:Int),(decodeL l).2)
def Q1m:Nat->Nat->List UInt8->List (Int×Nat×Nat)
 |0,_,_=>[]
 |_+1,_,[]=>[]
 |k+1,off,b::t=>((Qn (b::t)).1,off,(Qn (b::t)).2)::Q1m k (off+(Qn (b::t)).2) ((b::t).drop (Qn (b::t)).2)
def Q1P(l:List UInt8):List (Int×Nat×Nat):=Q1m l.length 0 l
def Q1x(l:List UInt8):List Int:=(Q1P l).map (·.1)
theorem Q24(x:Int)(h:0<=x/\x<256):(x.toNat.toUInt8).toNat=x.toNat:=by
 show(UInt8.ofNat x.toNat).toNat=_
 rw[UInt8.toNat_ofNat'];omega
theorem Q4F(v:Int)(h:0<Qs v):(encodeRune v).length=Qs v:=by
 unfold Qs at h ⊢;split at h
 ·omega
 ·rename_i h1
  rw[if_neg h1];unfold encodeRune;rw[length_map];split
  ·rw[encodeRuneZ_one (by omega) (by omega)];rfl
  ·split
   ·rw[encodeRuneZ_two (by omega) (by omega)];rfl
   ·split
    ·rw[encodeRuneZ_three (by omega)];rfl
    ·rw[encodeRuneZ_four (by omega) (by omega)];rfl
theorem QaI(v:Int)(h:0<Qs v)(t:List UInt8):decodeL (encodeRune v++t)=(v.toNat,Qs v):=by
 rw[decodeL_N];have hl:=Q4F v h;unfold Qs at h hl ⊢;split at h
 ·omega
 ·rename_i h1
  rw[if_neg h1]at hl ⊢;unfold encodeRune at hl ⊢;by_cases h2:v<128
  ·rw[encodeRuneZ_one (by omega) (by omega),if_pos h2]
   simp only[map_cons,map_nil,cons_append,nil_append,getD_cons_zero];rw[Q24 v (by omega),decodeN,if_pos (by omega)]
  ·rw[if_neg h2]at hl ⊢
   by_cases h3:v<2048
   ·rw[encodeRuneZ_two (by omega) (by omega),if_pos h3]
    simp only[map_cons,map_nil,cons_append,nil_append,getD_cons_zero,getD_cons_succ,length_cons];rw[Q24 _ (by omega),Q24 _ (by omega),decodeN,if_neg (by omega),if_pos (by omega),if_pos (by omega)]
    simp only[Prod.mk.injEq,and_true];omega
   ·rw[if_neg h3]at hl ⊢
    by_cases h4:v<65536
    ·rw[encodeRuneZ_three (by omega),if_pos h4]
     simp only[map_cons,map_nil,cons_append,nil_append,getD_cons_zero,getD_cons_succ,length_cons];rw[Q24 _ (by omega),Q24 _ (by omega),Q24 _ (by omega),decodeN,if_neg (by omega),if_neg (by omega),if_pos (by omega),if_pos (by omega)]
     simp only[Prod.mk.injEq,and_true];omega
    ·rw[encodeRuneZ_four (by omega) (by omega),if_neg h4]
     simp only[map_cons,map_nil,cons_append,nil_append,getD_cons_zero,getD_cons_succ,length_cons];rw[Q24 _ (by omega),Q24 _ (by omega),Q24 _ (by omega),Q24 _ (by omega),decodeN,if_neg (by omega),if_neg (by omega),if_neg (by omega),if_pos (by omega),if_pos (by omega)]
     simp only[Prod.mk.injEq,and_true];omega
theorem Q9h(v:Int)(h:0<Qs v)(t:List UInt8):Qn (encodeRune v++t)=(v,Qs v):=by
 have hd:=QaI v h t;have hv:0<=v:=by unfold Qs at h;split at h<;>omega
 rw[Qn,hd];simp only
 rw[if_neg]
 ·rw[Int.toNat_of_nonneg hv]
 ·rintro⟨h1,h2⟩
  have:v=65533:=by omega
  subst this;revert h2;decide
theorem Q5i(l:List UInt8):1<=(Qn l).2:=by
 unfold Qn;split
 ·exact le_refl _
 ·exact decodeL_width l
theorem Q86(l:List UInt8)(h:l≠[]):(Qn l).2<=l.length:=by
 unfold Qn;split
 ·exact List.length_pos_iff.2 h
 ·exact decodeL_le l h
theorem Q5n(l:List UInt8):-1<=(Qn l).1/\(Qn l).1<=1114111:=by
 unfold Qn;split
 ·exact⟨by simp,by simp⟩
 ·have:=decodeL_rune l;refine⟨?_,?_⟩<;>dsimp only<;>omega
theorem Q8u(l:List UInt8)(jL:l≠[])(h:(Qn l).1≠-1):l.take (Qn l).2=encodeRune (Qn l).1:=by
 have h':¬((decodeL l).1=65533/\(decodeL l).2=1):=fun hh=>h (by rw[Qn,if_pos hh])
 have:=encode_decode l jL h'
 rw[Qn,if_neg h'];exact this.symm
theorem Q2R(k off:Nat):Q1m k off []=[]:=by cases k<;>rfl
theorem QbS(k:Nat):∀(j off:Nat)(l:List UInt8),l.length<=k->l.length<=j->Q1m k off l=Q1m j off l:=by
 induction k with
 |zero=>intro j off l h1 h2;have:l=[]:=List.eq_nil_of_length_eq_zero (by omega);subst this;rw[Q2R,Q2R]
 |succ k ih =>
  intro j off l h1 h2;cases l with
  |nil=>rw[Q2R,Q2R]
  |cons b t =>
   cases j with
   |zero=>simp at h2
   |succ j =>
    simp only[Q1m];have hp:=Q5i (b::t);rw[ih j _ _ (by rw[length_drop];simp only[length_cons]at h1 ⊢;omega) (by rw[length_drop];simp only[length_cons]at h2 ⊢;omega)]
theorem Q7t(off:Nat)(l:List UInt8)(h:l≠[]):Q1m l.length off l=((Qn l).1,off,(Qn l).2)::Q1m (l.drop (Qn l).2).length (off+(Qn l).2) (l.drop (Qn l).2):=by
 cases l with
 |nil=>exact absurd rfl h
 |cons b t =>
  have hp:=Q5i (b::t);show Q1m (t.length+1) off (b::t)=_;simp only[Q1m];rw[QbS t.length _ _ _ (by rw[length_drop];simp only[length_cons];omega) (le_refl _)]
end
section
open Go.RowKit
theorem QgM{k:IntKind}{w:World}{a:Option Addr}{len cap:Nat}{zs:List Int}
  (h:(a=none/\len=0/\cap=0/\zs=[])\/∃x,a=some x/\len<=cap/\cap<=maxLen/\zs.length=cap/\(∀i,i<zs.length->w.cell? (x.add i)=some (.int k (zs.getD i 0)))/\∀n∈zs,(Lit.int k n).wf=true) :
  Rd w (fun b=>b<w.heap.size) 1 a len cap ((zs.take len).map (Value.int k))/\∀n∈zs.take len,(Lit.int k n).wf=true:=by
 rcases h with ⟨rfl,rfl,rfl,rfl⟩|⟨x,rfl,h1,h2,h3,h4,h5⟩
 ·exact⟨Rd.none_,by simp⟩
 ·refine⟨⟨by simp;omega,h1,h2,(fun h=>by cases h),fun h0=>?_⟩,fun n hn=>h5 n (List.mem_of_mem_take hn)⟩
  obtain⟨b,off,rfl,hc⟩:=ints_at h4 (by omega)
  have jE:b<w.heap.size:=World.block_lt_of_cell? w _ (hc 0 (by omega))
  refine⟨b,off,rfl,jE,fun j u hu=>?_⟩
  rw[getElem?_map,Option.map_eq_some_iff]at hu;obtain⟨z,hz,rfl⟩:=hu;rw[List.getElem?_take]at hz;split at hz
  ·obtain⟨hj,rfl⟩:=List.getElem?_eq_some_iff.1 hz
   rw[hc j hj];simp[List.getD,hj]
  ·cases hz
def Qm3(r:Int):List UInt8:=(Utf8.encode r).data.toList
theorem Qef(r:Int)(h0:0<=r)(h1:r<128):Qm3 r=[UInt8.ofNat r.toNat]:=by
 have hv:Utf8.valid r=true:=by simp[Utf8.valid];omega
 unfold Qm3 Utf8.encode;simp only[hv,if_true];rw[if_pos (by omega)]
end
section
open Go.RowKit Go.Lib Tryz
theorem Q8b(r:Int)(w:World):Calls prog 121 #[.int .i32 r] w fun e w'=>e=.returned (.int .i64 (Qs r))/\w=w':=by
 by_cases h1:r<0
 ·go_enter func121,ntmps121
  go_wp2
  go_ret
  exact⟨QX (by rw[Qs,if_pos (by omega)];rfl),rfl⟩
 ·by_cases h2:1114111<r
  ·go_enter func121,ntmps121
   go_wp2
   go_ret
   exact⟨QX (by rw[Qs,if_pos (by omega)];rfl),rfl⟩
  ·by_cases h3:55296<=r
   ·by_cases h4:r<=57343
    ·go_enter func121,ntmps121
     go_wp2
     go_ret
     exact⟨QX (by rw[Qs,if_pos (by omega)];rfl),rfl⟩
    ·by_cases h5:r<65536
     all_goals
      go_enter func121,ntmps121
      go_wp2
      go_ret
      exact⟨QX (by rw[Qs,if_neg (by omega),if_neg (by omega),if_neg (by omega)];first|(rw[if_pos (by omega)];rfl)|(rw[if_neg (by omega)];rfl)),rfl⟩
   ·by_cases h4:r<128
    ·go_enter func121,ntmps121
     go_wp2
     go_ret
     exact⟨QX (by rw[Qs,if_neg (by omega),if_pos (by omega)];rfl),rfl⟩
    ·by_cases h5:r<2048
     ·go_enter func121,ntmps121
      go_wp2
      go_ret
      exact⟨QX (by rw[Qs,if_neg (by omega),if_neg (by omega),if_pos (by omega)];rfl),rfl⟩
     ·go_enter func121,ntmps121
      go_wp2
      go_ret
      exact⟨QX (by rw[Qs,if_neg (by omega),if_neg (by omega),if_neg (by omega),if_pos (by omega)];rfl),rfl⟩
theorem Qei(r:Int)(w:World):Calls prog 172 #[.int .i32 r] w fun e w'=>e=.returned (.int .i64 (Qs r))/\w=w':=by
 by_cases h1:r<0
 ·go_enter func172,ntmps172
  go_wp2
  go_ret
  exact⟨QX (by rw[Qs,if_pos (by omega)];rfl),rfl⟩
 ·by_cases h2:1114111<r
  ·go_enter func172,ntmps172
   go_wp2
   go_ret
   exact⟨QX (by rw[Qs,if_pos (by omega)];rfl),rfl⟩
  ·by_cases h3:55296<=r
   ·by_cases h4:r<=57343
    ·go_enter func172,ntmps172
     go_wp2
     go_ret
     exact⟨QX (by rw[Qs,if_pos (by omega)];rfl),rfl⟩
    ·by_cases h5:r<65536
     all_goals
      go_enter func172,ntmps172
      go_wp2
      go_ret
      exact⟨QX (by rw[Qs,if_neg (by omega),if_neg (by omega),if_neg (by omega)];first|(rw[if_pos (by omega)];rfl)|(rw[if_neg (by omega)];rfl)),rfl⟩
   ·by_cases h4:r<128
    ·go_enter func172,ntmps172
     go_wp2
     go_ret
     exact⟨QX (by rw[Qs,if_neg (by omega),if_pos (by omega)];rfl),rfl⟩
    ·by_cases h5:r<2048
     ·go_enter func172,ntmps172
      go_wp2
      go_ret
      exact⟨QX (by rw[Qs,if_neg (by omega),if_neg (by omega),if_pos (by omega)];rfl),rfl⟩
     ·go_enter func172,ntmps172
      go_wp2
      go_ret
      exact⟨QX (by rw[Qs,if_neg (by omega),if_neg (by omega),if_neg (by omega),if_pos (by omega)];rfl),rfl⟩
abbrev bc(l:List UInt8):List Value:=l.map fun b=>.int .u8 b.toNat
abbrev QB(l:List (Int×Nat×Nat)):List Value:=l.flatMap fun x=>[.int .i32 x.1,.int .i64 x.2.1,.int .i64 x.2.2]
theorem QkV:(prog.info? 190).map (fun i=>(i.zero,i.size,i.bytes))=some (some (.agg #[.int .i32 0,.int .i64 0,.int .i64 0]),3,24):=by kernel_rfl
theorem QbG(w:World){ops:Array Oper}{rest:List Oper}{o:Oper}{a:Act}{Q:Exit->Act->World->Prop}(hgd:o.guard=none)(s x:Operand)
  (ho:o.op=.call { callee:=.builtin .append,args:=#[s,x],argTypes:=#[188,188] })
  (base:Nat) (v:Value) (n:Nat) (xs:List Value) (hs:a.eval s=v) (hown:w.ownsRow base 190 3 v n xs)
  (S:Nat->Prop) (A:Option Addr) (m c:Nat) (ys:List Value) (hx:a.eval x=.slice A m c) (hr:Rd w S 3 A m c ys) (h1:∀u∈ys,u.oneCell'=true)
  (hlen:n+m<=1000000000) (hbase:base<=w.heap.size)
  (h:∀A' c' w',w'.ownsRow base 190 3 (.slice A' (n+m) c') (n+m) (xs++ys)->w.grownBy w' v.ownBlock->((Value.slice A' (n+m) c').ownBlock=v.ownBlock\/(Value.slice A' (n+m) c').ownBlock=some w.heap.size) ->
    c'<=9223372036854775807->wpList prog ops Q rest (a.put o.dst (.slice A' (n+m) c')) w') :
  wpList prog ops Q (o::rest) a w:=by
 obtain⟨i0,hi,hz0,hz1,hz2⟩:=info_parts QkV;refine Q2q w hgd s x 188 ho base 190 i0 _ 3 24 underlying188 hi hz0 hz1 hz2 rfl (by omega) v n xs hs hown S A m c ys hx hr h1 (by simp only[maxLen];omega) (by omega) hbase ?_
 intro v' w' h1 h2 h3;obtain⟨A',c',rfl,hr'⟩:=Q14 h1;exact h A' c' w' h1 h2 h3 hr'.max
theorem QlJ:(prog.info? 120).map (fun i=>(i.zero,i.size,i.bytes))=some (some (.agg #[.int .i32 0,.int .i64 0,.int .i64 0]),3,24):=by kernel_rfl
theorem Qaz(w:World){ops:Array Oper}{rest:List Oper}{o:Oper}{a:Act}{Q:Exit->Act->World->Prop}(hgd:o.guard=none)(s x:Operand)
  (ho:o.op=.call { callee:=.builtin .append,args:=#[s,x],argTypes:=#[117,117] })
  (base:Nat) (v:Value) (n:Nat) (xs:List Value) (hs:a.eval s=v) (hown:w.ownsRow base 120 3 v n xs)
  (S:Nat->Prop) (A:Option Addr) (m c:Nat) (ys:List Value) (hx:a.eval x=.slice A m c) (hr:Rd w S 3 A m c ys) (h1:∀u∈ys,u.oneCell'=true)
  (hlen:n+m<=1000000000) (hbase:base<=w.heap.size)
  (h:∀A' c' w',w'.ownsRow base 120 3 (.slice A' (n+m) c') (n+m) (xs++ys)->w.grownBy w' v.ownBlock->((Value.slice A' (n+m) c').ownBlock=v.ownBlock\/(Value.slice A' (n+m) c').ownBlock=some w.heap.size) ->
    c'<=9223372036854775807->wpList prog ops Q rest (a.put o.dst (.slice A' (n+m) c')) w') :
  wpList prog ops Q (o::rest) a w:=by
 obtain⟨i0,hi,hz0,hz1,hz2⟩:=info_parts QlJ;refine Q2q w hgd s x 117 ho base 120 i0 _ 3 24 underlying117 hi hz0 hz1 hz2 rfl (by omega) v n xs hs hown S A m c ys hx hr h1 (by simp only[maxLen];omega) (by omega) hbase ?_
 intro v' w' h1 h2 h3;obtain⟨A',c',rfl,hr'⟩:=Q14 h1;exact h A' c' w' h1 h2 h3 hr'.max
theorem Qff(s:ByteArray)(at_:Nat)(hat:at_<s.size)(h:(Utf8.decode s at_).1≠65533):Qn (s.data.toList.drop at_)=(((Utf8.decode s at_).1:Int),Qs (Utf8.decode s at_).1):=by
 have hne:s.data.toList.drop at_≠[]:=by
  intro h0;have:=congrArg List.length h0
  simp at this;have:s.data.size=s.size:=rfl
  omega
 rw[<-decodeL_drop]at h ⊢;have hv:=Q8u (s.data.toList.drop at_) hne;rw[Qn,if_neg (fun hh=>h hh.1)]at hv ⊢
 have h2:=runeLen_decode _ h;have hw:=decodeL_width (s.data.toList.drop at_);have hle:=decodeL_le _ hne;refine Prod.ext rfl ?_;show(decodeL (s.data.toList.drop at_)).2=_
 generalize (decodeL (s.data.toList.drop at_)).1=c at h2 ⊢;generalize (decodeL (s.data.toList.drop at_)).2=n at h2 hw ⊢;unfold runeLen at h2;unfold Qs;repeat' split at h2
 all_goals (dsimp only;first|omega|((repeat' split)<;>omega))
theorem Qfm(s:ByteArray)(at_:Nat)(hat:at_<s.size)(h:(Utf8.decode s at_).1=65533) :
  Qn (s.data.toList.drop at_)=if(s.data.toList.drop at_).take 3=[239,191,189]then(65533,3)else(-1,1):=by
 have hne:s.data.toList.drop at_≠[]:=by
  intro h0;have:=congrArg List.length h0
  simp at this;have:s.data.size=s.size:=rfl
  omega
 rw[<-decodeL_drop]at h;generalize s.data.toList.drop at_=l at h hne ⊢;split
 ·rename_i h3
  have he:encodeRune 65533=[239,191,189]:=by decide
  have hl:l=encodeRune 65533++l.drop 3:=by rw[he,<-h3,List.take_append_drop]
  rw[hl,Q9h 65533 (by decide)]
  rfl
 ·rename_i h3
  by_cases h1:(decodeL l).2=1
  ·rw[Qn,if_pos ⟨h,h1⟩]
  ·exfalso
   have he:=encode_decode l hne (fun hh=>h1 hh.2)
   rw[h]at he;have he2:encodeRune ((65533:Nat):Int)=[239,191,189]:=by decide
   rw[he2]at he;have hlen:=congrArg List.length he;have hle:=decodeL_le l hne;rw[length_take]at hlen;have:(decodeL l).2=3:=by simp at hlen;omega
   rw[this]at he;exact h3 he.symm
theorem QgL(s:ByteArray)(at_:Nat)(hat:at_<s.size)(hs:s.size<=1000000000)(w:World) :
  Calls prog 193 #[.string s,.int .i64 at_,.int .i32 (Utf8.decode s at_).1] w fun e w' =>
   e=.returned (.tuple #[.int .i32 (Qn (s.data.toList.drop at_)).1,.int .i64 (Qn (s.data.toList.drop at_)).2])/\w=w':=by
 have hle:=decode_le s at_;by_cases h:(Utf8.decode s at_).1=65533
 ·have HF:=hid (Qfm s at_ hat h)
  rw[h];by_cases h3:(s.size:Int)-(at_:Int)<3
  ·have HN:Hid (Qn (s.data.toList.drop at_)=(-1,1)):=by
    rw[Hid,HF.out,if_neg];intro hh;have:=congrArg List.length hh
    simp at this;have:s.data.size=s.size:=rfl
    omega
   generalize Qn (s.data.toList.drop at_)=p at HN ⊢;clear h HF;go_enter func193,ntmps193
   go_wp2
   go_ret2
   exact⟨by rw[HN.out];rfl,rfl⟩
  ·have hx:(s.extract at_ (at_+3)).toList=(s.data.toList.drop at_).take 3:=by
    rw[ByteArray.toList_eq,extract_data,Nat.add_sub_cancel_left]
   have HW:=hid (Q8b 65533 w);have h4:at_+3<=s.size:=by omega
   by_cases he:(s.data.toList.drop at_).take 3=[239,191,189]
   ·have HN:Hid (Qn (s.data.toList.drop at_)=(65533,3)):=by rw[Hid,HF.out,if_pos he]
    have hb:((s.extract at_ (at_+3)).toList == [239,191,189])=true:=by rw[hx,he];rfl
    generalize Qn (s.data.toList.drop at_)=p at HN ⊢;clear h HF hx he;go_enter func193,ntmps193
    go_wp2_with fail
    refine HW.out.mono ?_;rintro e w' ⟨rfl,rfl⟩;go_wp2
    go_ret2
    exact⟨by rw[HN.out];rfl,rfl⟩
   ·have HN:Hid (Qn (s.data.toList.drop at_)=(-1,1)):=by rw[Hid,HF.out,if_neg he]
    have hb:((s.extract at_ (at_+3)).toList == [239,191,189])=false:=by rw[hx,beq_eq_false_iff_ne];exact he
    generalize Qn (s.data.toList.drop at_)=p at HN ⊢;clear h HF hx he;go_enter func193,ntmps193
    go_wp2
    go_ret2
    exact⟨by rw[HN.out];rfl,rfl⟩
 ·have HN:=hid (Qff s at_ hat h)
  have hb:(((Utf8.decode s at_).1:Int) == 65533)=false:=by rw[beq_eq_false_iff_ne];omega
  generalize Qn (s.data.toList.drop at_)=p at HN ⊢;generalize (Utf8.decode s at_).1=c at HN hb hle h ⊢;have HW:=hid (Q8b c w);clear h;go_enter func193,ntmps193
  go_wp2_with fail
  refine HW.out.mono ?_;rintro e w' ⟨rfl,rfl⟩;go_wp2
  go_ret2
  exact⟨by rw[HN.out];rfl,rfl⟩
theorem QeA{l:List UInt8}{k:Nat}{u:Value}(h:(bc l)[k]?=some u):∃h:k<l.length,u=.int .u8 (l[k]).toNat:=by
 simp only[bc,getElem?_map,Option.map_eq_some_iff]at h;obtain⟨a,ha,rfl⟩:=h;obtain⟨hk,rfl⟩:=List.getElem?_eq_some_iff.1 ha;exact⟨hk,rfl⟩
theorem QmA(l:List UInt8):∀u∈bc l,u.oneCell'=true:=by
 intro u hu;obtain⟨_,_,rfl⟩:=List.mem_map.1 hu;rfl
theorem Qcb{w:World}{S:Nat->Prop}{A:Option Addr}{n c:Nat}{l:List UInt8}(h:Rd w S 1 A n c (bc l)):n=l.length:=by have:=h.len;simpa using this.symm
theorem Q2A{P:Program}{w:World}{S:Nat->Prop}{A:Option Addr}{n c:Nat}{l:List UInt8}(h:Rd w S 1 A n c (bc l))(src dst e:TypeId)
  (hs:P.underlying src=some (.slice e)) (he:P.underlying e=some (.int .u8)) (hd:P.underlying dst=some .string) :
  (convert src dst (.slice A n c)).run P w=.ok (.string ⟨l.toArray⟩) w:=by
 obtain rfl:=Qcb h;rcases A with _|ad
 ·have:=h.nil rfl
  have:=h.le
  have:l=[]:=List.eq_nil_of_length_eq_zero (by omega)
  subst this;rw[run_convert_bytes_string w src dst e _ _ _ hs he hd];rfl
 ·refine run_convert_bytes_back w src dst e ad c l hs he hd fun j hj=>?_
  obtain⟨b,o,ha,_,hc⟩:=h.at_ (by omega)
  injection ha with ha
  subst ha;rw[Addr.add_lit];exact hc j _ (by simp[bc,hj])
theorem Q4E{P:Program}(w:World)(s:ByteArray)(src dst e:TypeId)(hs:P.underlying src=some .string)(hd:P.underlying dst=some (.slice e))(he:P.underlying e=some (.int .u8))
  (hlen:s.size<=1000000000) :
  ∃A c w',(convert src dst (.string s)).run P w=.ok (.slice A s.size c) w'/\Rd w' (fun b=>w.heap.size<=b) 1 A s.size c (bc s.data.toList)/\Below w.heap.size w w'/\c<=9223372036854775807:=by
 have hge:=grownCap_ge w s.size 0 e;have hmx:=grownCap_le_maxLen w s.size 0 e (by unfold maxLen;omega)
 refine⟨_,_,_,run_bytes_of_string w src dst e s hs hd he,?_,(Below.refl _ w).drew.alloc (le_refl _) _,hmx⟩;have hsz:s.data.toList.length=s.size:=by simp
 refine⟨by simp[bc],hge,hmx,(fun h=>by cases h),fun _=>⟨_,_,rfl,le_refl _,fun j u hu=>?_⟩⟩
 obtain⟨hj,rfl⟩:=QeA hu;have hj2:j<s.data.size:=by simpa using hj
 rw[zero_add];refine(World.cell?_alloc_mark w.drew (bytesRow s (grownCap w s.size 0 e)) e _ j).trans ?_;rw[bytesRow,Array.getElem?_append_left (by simpa using hj2)]
 simp only[Array.getElem?_map,Array.getElem?_eq_getElem hj2,Option.map_some,Array.getElem_toList]
theorem Q4M(a b:List (Int×Nat×Nat)):QB (a++b)=QB a++QB b:=by simp[QB]
theorem Q6A(l:List (Int×Nat×Nat)):∀u∈QB l,u.oneCell'=true:=by
 intro u hu;simp only[QB,List.mem_flatMap,List.mem_cons,List.not_mem_nil,or_false]at hu;obtain⟨x,_,rfl|rfl|rfl⟩:=hu<;>rfl
theorem Q2a(l:List (Int×Nat×Nat)):(QB l).length=l.length * 3:=by
 induction l with
 |nil=>rfl
 |cons a t ih=>simp only[QB,List.flatMap_cons,List.length_append,length_cons,List.length_nil]at ih ⊢;omega
theorem Q7Z(k:Nat):∀(off:Nat)(l:List UInt8),(Q1m k off l).length<=k:=by
 induction k with
 |zero=>intro off l;simp[Q1m]
 |succ k ih =>
  intro off l;cases l with
  |nil=>simp[Q1m]
  |cons b t=>simp only[Q1m,length_cons];have:=ih (off+(Qn (b::t)).2) ((b::t).drop (Qn (b::t)).2);omega
end
section
open Go.RowKit Tryz
theorem QcG(n:Nat)(w:World)(hn:n<=1000000000) :
  Calls prog 37 #[.slice none 0 0,.int .i64 n] w fun e w'=>∃v,e=.returned v/\w'.ownsRow w.heap.size 21 1 v 0 (rc [])/\Below w.heap.size w w':=by
 obtain⟨i0,hi,hz0,hz1,hz2⟩:=info_parts Qcl;rcases Nat.eq_zero_or_pos n with rfl|h0
 ·go_enter func37,ntmps37
  go_wp2
  go_ret
  exact⟨_,rfl,World.ownsRow_nil _ _ _ _,Below.refl _ _⟩
 ·have hrz:∀ty,(Builtin.append_ #[24,3] ty #[.slice none 0 0,.int .i64 (n:Int)]).run prog w =
    .ok (.slice (some ⟨w.heap.size,0,none⟩) n (grownCap w n 0 21)) (w.drew.alloc (.cells (Builtin.zeroCells (Value.int .i32 0).cells n++Builtin.zeroCells (Value.int .i32 0).cells (grownCap w n 0 21-n)) 21)):=fun ty =>
   Lib.run_append_nil_zeros w 24 3 ty 21 i0 _ .i64 .i64 underlying24 underlying3 hi hz0 n h0 (by omega) (by omega) (by rw[hz2];omega)
  have hG:=grownCap_ge w n 0 21;have hG63:=grownCap_le_maxLen w n 0 21 (by unfold maxLen;omega)
  have hown:(w.drew.alloc (.cells (Builtin.zeroCells (Value.int .i32 0).cells n++Builtin.zeroCells (Value.int .i32 0).cells (grownCap w n 0 21-n)) 21)).ownsRow w.heap.size 21 1 (.slice (some ⟨w.heap.size,0,none⟩) 0 (grownCap w n 0 21)) 0 (rc []) :=
   ⟨by simp[rc],.inr ⟨w.heap.size,_,_,rfl,le_refl _,heap_alloc_new w.drew _,zero_le _,hG63,by
    simp only[Array.size_append,size_zeroCells];have:(Value.int IntKind.i32 0).cells.size=1:=rfl
    rw[this];omega,by simp[rc]⟩⟩
  have hG64:grownCap w n 0 21<=9223372036854775807:=hG63;generalize grownCap w n 0 21=G at hrz hG hG64 hown;generalize Builtin.zeroCells (Value.int .i32 0).cells n++Builtin.zeroCells (Value.int .i32 0).cells (G-n)=Z at hrz hown;have HOWN:=hid hown;clear hown hG63 hi hz0 hz1 hz2;have h2:¬((n:Int)<0):=by omega
  go_enter func37,ntmps37
  go_wp2_with (at_builtin;refine Lib.wpList_append_run _ rfl _ _ _ _ rfl _ _ rfl rfl _ _ (hrz _) ?_);go_ret
  exact⟨_,rfl,HOWN.out,(Below.refl _ w).drew.alloc (le_refl _) _⟩
def Qni(w:World)(v:Value)(l:List Int):Prop:=∃A n c,v=.slice A n c/\Rd w (fun _=>True) 1 A n c (rc l)
structure RowsV (w:World) (A:Option Addr) (n c:Nat) (ls:List (List Int)) (vs:List Value):Prop where
 rd:Rd w (fun _=>True) 1 A n c vs
 len:vs.length=ls.length
 each:∀(i:Nat)(v:Value)(l:List Int),vs[i]?=some v->ls[i]?=some l->Qni w v l
def Q2d(ls:List (List Int)):Nat:=(ls.map List.length).sum
theorem Q8A(ls:List (List Int))(j:Nat)(hj:j<ls.length):Q2d (ls.take (j+1))=Q2d (ls.take j)+ls[j].length:=by
 rw[Q2d,List.take_succ_eq_append_getElem hj];simp only[Q2d,map_append,List.sum_append,map_cons,map_nil,List.sum_cons,List.sum_nil,Nat.add_zero]
theorem Q6o(ls:List (List Int))(j:Nat):Q2d (ls.take j)<=Q2d ls:=by
 have:ls=ls.take j++ls.drop j:=(List.take_append_drop j ls).symm
 conv=>rhs;rw[this]
 simp only[Q2d,map_append,List.sum_append];omega
theorem Qhg(ls:List (List Int))(j:Nat)(hj:j<ls.length):(ls.take (j+1)).flatten=(ls.take j).flatten++ls[j]:=by
 rw[List.take_succ_eq_append_getElem hj,List.flatten_append];simp only[List.flatten_cons,List.flatten_nil,append_nil]
theorem Q8w(ls:List (List Int)):ls.flatten.length=Q2d ls:=by rw[List.length_flatten,Q2d]
theorem Qf9(A:Option Addr)(n c:Nat)(ls:List (List Int))(vs:List Value)(w:World)(hr:RowsV w A n c ls vs)(hsum:Q2d ls<=1000000000) :
  Calls prog 17 #[.slice A n c] w fun e w'=>∃v,e=.returned v/\(∃n',w'.ownsRow w.heap.size 21 1 v n' (rc ls.flatten))/\Below w.heap.size w w':=by
 have hle:=hr.rd.le;have hmx:c<=9223372036854775807:=hr.rd.max;have hl:n=ls.length:=by have:=hr.rd.len;have:=hr.len;omega
 subst hl;have HR:=hid hr;clear hr;go_enter func17,ntmps17
 go_wp2
 go_loopw [3,11] (fun s i wr=>∃(j:Nat),j<=ls.length/\i=.int .i64 j/\s=.int .i64 (Q2d (ls.take j):Nat)/\Hid (w=wr)) (fun _ i _=>ls.length-(intOf i).toNat)
 case atStart=>exact⟨0,zero_le _,rfl,rfl,rfl⟩
 case round =>
  obtain⟨j,hj,rfl,rfl,HW⟩:=hrel;have hw:=HW.out;subst hw;have hs1:=Q6o ls j;by_cases hlt:j<ls.length
  ·obtain⟨b,o,u,rfl,_,hu,hc⟩:=HR.out.rd.one hlt
   obtain⟨A',n',c',rfl,hrj⟩:=HR.out.each j u ls[j] hu (getElem?_eq_getElem hlt);have hn':n'=ls[j].length:=by have:=hrj.len;simpa using this.symm
   have hs2:=Q6o ls (j+1);have hs3:=Q8A ls j hlt;rw[<-hn']at hs3;have HS:=hid hs3;have hs4:Q2d (ls.take j)+n'<=1000000000:=by omega
   have hc':c'<=9223372036854775807:=hrj.max;clear hs3 hs2 hn' hu hrj;go_wp2
   go_roundw
   case rel=>exact⟨j+1,by omega,by go_num,by rw[HS.out];go_num,by first|rfl|exact trivial⟩
   case measure=>simp[intOf];omega
  ·have e:ls.take j=ls:=take_of_length_le (by omega)
   rw[e]at hs1 ⊢;clear e;generalize hsz:Q2d ls=sz at hs1 hsum;have HSZ:=hid hsz;clear hsz;go_wp2_with fail
   refine(QcG sz w hsum).mono ?_;rintro e w1 ⟨v1,rfl,hown1,hb1⟩;obtain⟨A1,c1,rfl,_⟩:=Q14 hown1;have HO1:=hid hown1;have HB1:=hid hb1;clear hown1 hb1;go_wp2
   go_loopw [6,27] (fun v i wr=>∃(k:Nat),k<=ls.length/\i=.int .i64 k/\Hid (∃n',wr.ownsRow w.heap.size 21 1 v n' (rc (ls.take k).flatten))/\Hid (Below w.heap.size w wr)) (fun _ i _=>ls.length-(intOf i).toNat)
   case atStart=>exact⟨0,zero_le _,rfl,⟨_,by simpa using HO1.out⟩,HB1.out⟩
   case round =>
    obtain⟨k,hk,rfl,HO,HB⟩:=hrel;obtain⟨no,HO⟩:=HO.out;have hno:no=(ls.take k).flatten.length:=Q6T HO
    have hno2:no<=1000000000:=by
     have:=Q6o ls k
     rw[hno,Q8w];have:=HSZ.out
     omega
    obtain⟨Ao,co,rfl,hro⟩:=Q14 HO;have hco:co<=9223372036854775807:=hro.max;have HO:=hid HO;have HNO:=hid hno;clear hro hno;by_cases hlt2:k<ls.length
    ·obtain⟨b,o,u,rfl,_,hu,hc⟩:=(HR.out.rd.below HB.out).one hlt2
     obtain⟨A',n',c',rfl,hrj⟩:=HR.out.each k u ls[k] hu (getElem?_eq_getElem hlt2);have hs2:=Q6o ls (k+1);have hs3:=Q8A ls k hlt2;have hn':n'=ls[k].length:=by have:=hrj.len;simpa using this.symm
     have hlen:no+n'<=1000000000:=by
      have h1:=HNO.out;have h2:=HSZ.out;rw[Q8w]at h1;omega
     have HF:=hid (Qhg ls k hlt2);have HJ:=hid (hrj.below HB.out);clear hs2 hs3 hn' hrj hu
     go_wp2_with (first
      |(at_builtin
        refine Q5b _ rfl (.tmp 31) (.tmp 32) rfl w.heap.size _ _ (ls.take k).flatten rfl HO.out _ _ n' _ ls[k] rfl HJ.out hlen HB.out.size ?_;intro A2 c2 w2 hown2 hg2 _ _;have HB2:=hid (Q41 HB.out HB.out.size HO.out hg2);have HO2:=hid hown2;clear hown2 hg2))
     go_roundw
     case rel=>exact⟨k+1,by omega,by go_num,⟨_,by rw[HF.out];exact HO2.out⟩,HB2.out⟩
     case measure=>simp[intOf];omega
    ·have e:ls.take k=ls:=take_of_length_le (by omega)
     rw[e]at HO;clear e;go_wp2
     go_ret
     exact⟨_,rfl,⟨_,HO.out⟩,HB.out⟩
end
section
open Go.RowKit Go.Lib Tryz
structure IterAt (w wr:World) (s:ByteArray) (pos:Nat):Prop where
 blk:wr.heap[w.heap.size]?=some (.stringIter s pos)
 below:Below w.heap.size w wr
theorem IterAt.lt{w wr:World}{s:ByteArray}{pos:Nat}(h:IterAt w wr s pos):w.heap.size<wr.heap.size:=(Array.getElem?_eq_some_iff.1 h.blk).1
def World.iterSet(w:World)(b:Nat)(s:ByteArray)(pos:Nat):World:={ w with heap:=w.heap.setIfInBounds b (.stringIter s pos) }
theorem run_next_at{P:Program}{w wr:World}{s:ByteArray}{pos:Nat}(h:IterAt w wr s pos)(ty:TypeId)(hp:pos<s.size) :
  (Instr.next (.pointer (some ⟨w.heap.size,0,none⟩)) true ty).run P wr=.ok (.tuple #[.bool true,.int .i64 pos,.int .i32 (Utf8.decode s pos).1]) (World.iterSet wr w.heap.size s (pos+(Utf8.decode s pos).2)):=by
 simp only[Instr.next,getObj,setObj,Sem.run_bind,Sem.run,h.blk,Result.andThen,hp,if_true]
 simp[goInt,World.iterSet]
theorem QaH{P:Program}{w wr:World}{s:ByteArray}{pos:Nat}(h:IterAt w wr s pos)(ty:TypeId)(hp:¬pos<s.size) :
  (Instr.next (.pointer (some ⟨w.heap.size,0,none⟩)) true ty).run P wr=.ok (.tuple #[.bool false]) wr:=by
 simp[Instr.next,getObj,Sem.run,h.blk,hp]
theorem IterAt.set{w wr:World}{s:ByteArray}{pos pos':Nat}(h:IterAt w wr s pos):IterAt w (World.iterSet wr w.heap.size s pos') s pos':=by
 have hlt:=h.lt;refine⟨?_,h.below.trans ⟨rfl,rfl,rfl,?_,fun k hk=>?_⟩⟩
 ·show(wr.heap.setIfInBounds w.heap.size _)[w.heap.size]?=_
  rw[Array.getElem?_setIfInBounds_self_of_lt hlt]
 ·show wr.heap.size<=(wr.heap.setIfInBounds w.heap.size _).size
  simp
 ·show(wr.heap.setIfInBounds w.heap.size _)[k]?=_
  rw[Array.getElem?_setIfInBounds_ne (by omega)]
theorem QaB(w:World)(b:Nat)(s:ByteArray)(pos:Nat):w.grownBy (World.iterSet w b s pos) (some b) :=
 ⟨rfl,rfl,rfl,by simp[World.iterSet],fun k _ hne=>by
  show(w.heap.setIfInBounds b _)[k]?=_
  rw[Array.getElem?_setIfInBounds_ne (fun e=>hne (by rw[e]))]⟩
theorem IterAt.grown{w wr w2:World}{s:ByteArray}{pos:Nat}{row:Option Nat}(h:IterAt w wr s pos)(hg:wr.grownBy w2 row)(hr:∀g,row=some g->w.heap.size<g):IterAt w w2 s pos :=
 ⟨(hg.block w.heap.size h.lt (fun e=>by have:=hr _ e.symm;omega)).trans h.blk,h.below.grown hg h.below.size (fun k hk=>by have:=hr k hk;omega)⟩
theorem IterAt.alloc{w wr:World}{s:ByteArray}{pos:Nat}(h:IterAt w wr s pos)(o:Obj):IterAt w (wr.alloc o) s pos :=
 ⟨(Below.heap_alloc wr o _ h.lt).trans h.blk,h.below.alloc h.below.size o⟩
theorem IterAt.start(w:World)(s:ByteArray):IterAt w (w.iter s 0) s 0:=⟨World.iter_heap w s 0,(Below.refl _ w).alloc (le_refl _) _⟩
theorem Qhf(s:ByteArray)(pos:Nat):1<=(Utf8.decode s pos).2:=by rw[<-decodeL_drop];exact decodeL_width _
theorem QhM(s:ByteArray)(pos:Nat):(Qn (s.data.toList.drop pos)).2=(Utf8.decode s pos).2:=by
 rw[Qn,decodeL_drop];split
 ·rename_i h;exact h.2.symm
 ·rfl
theorem Qbf(S:Nat->Prop)(A:Option Addr)(n c:Nat)(l:List UInt8)(w:World)(hr:Rd w S 1 A n c (bc l))(hlen:l.length<=300000000) :
  Calls prog 143 #[.slice A n c] w fun e w'=>∃v,e=.returned v/\(∃n',w'.ownsRow w.heap.size 190 3 v n' (QB (Q1P l)))/\Below w.heap.size w w':=by
 have hcv:=Q2A hr 64 9 5 underlying64 underlying5 underlying9;obtain rfl:=Qcb hr;obtain⟨s,hs⟩:∃s:ByteArray,s=⟨l.toArray⟩:=⟨_,rfl⟩;rw[<-hs]at hcv;have hsz:s.size=l.length:=by rw[hs];simp[ByteArray.size]
 have hsl:s.data.toList=l:=by rw[hs]
 have HS:=hid hs;have hsb:s.size<=300000000:=by omega
 have HSL:=hid hsl;have HSZ:=hid hsz;clear hs hsl hsz hr;go_enter func143,ntmps143
 go_wp2
 go_loopw [3] (fun v wr=>∃(pos:Nat) (o:List (Int×Nat×Nat)),Hid (IterAt w wr s pos)/\Hid (Q1P l=o++Q1m (l.drop pos).length pos (l.drop pos))/\o.length<=pos /\
   Hid (∃n',wr.ownsRow (w.heap.size+1) 190 3 v n' (QB o))/\pos<=s.size)
  (fun _ wr=>s.size-wr.iterPos w.heap.size)
 case atStart=>exact⟨0,[],IterAt.start w s,by simp[Hid,Q1P],le_refl _,⟨0,World.ownsRow_nil _ _ _ _⟩,zero_le _⟩
 case round =>
  obtain⟨pos,o,HI,HS2,hol,HO,hpos⟩:=hrel;obtain⟨no,HO⟩:=HO.out;have hno:no=o.length:=by have:=HO.1;rw[Q2a]at this;omega
  obtain⟨Ao,co,rfl,hro⟩:=Q14 HO;have hco:co<=9223372036854775807:=hro.max;have HO:=hid HO;have hnob:no<=300000000:=by omega
  have HNO:=hid hno;clear hro hno;by_cases hlt:pos<s.size
  ·have hnx:∀ty,(Instr.next (.pointer (some ⟨w.heap.size,0,none⟩)) true ty).run prog wr=_:=fun ty=>run_next_at HI.out ty hlt
   have HI2:=hid (HI.out.set (pos':=pos+(Utf8.decode s pos).2))
   have HO2:=hid (HO.out.kept (QaB wr w.heap.size s (pos+(Utf8.decode s pos).2)) (by
    cases hb:Value.ownBlock (.slice Ao no co)with
    |none=>exact .inl rfl
    |some g=>right;have:=(HO.out.lt g hb).1;intro h;injection h;omega))
   generalize hW2:World.iterSet wr w.heap.size s (pos+(Utf8.decode s pos).2)=w2 at hnx HI2 HO2;have HFD:=hid (QhM s pos);have HP:=hid (QgL s pos hlt (by omega) w2)
   have hdw:=Qhf s pos;have hfr:=Q5n (s.data.toList.drop pos)
   have HMS:Hid (pos+(Utf8.decode s pos).2<=s.size):=by
    rw[Hid,<-HFD.out]
    have hne:s.data.toList.drop pos≠[]:=by
     intro h0;have:=congrArg List.length h0
     simp at this;have:s.data.size=s.size:=rfl
     omega
    have:=Q86 _ hne
    rw[length_drop]at this;have:s.data.toList.length=s.size:=by simp
    omega
   have HST:Hid (Q1P l=(o++[((Qn (s.data.toList.drop pos)).1,pos,(Qn (s.data.toList.drop pos)).2)])++Q1m (l.drop (pos+(Utf8.decode s pos).2)).length (pos+(Utf8.decode s pos).2) (l.drop (pos+(Utf8.decode s pos).2))):=by
    have hne:l.drop pos≠[]:=by
     intro h0;have:=congrArg List.length h0
     simp at this;have:=HSZ.out
     omega
    rw[Hid,HS2.out,Q7t pos _ hne,List.drop_drop,HSL.out,<-HSL.out,HFD.out];simp
   generalize hd2:(Utf8.decode s pos).2=dw at hnx HI2 HFD hdw HMS HST hW2;generalize Qn (s.data.toList.drop pos)=p at HP HFD HST hfr;generalize (Utf8.decode s pos).1=dr at hnx HP;clear hW2 hd2;go_wp2_with fail
   refine HP.out.mono ?_;rintro e w3 ⟨rfl,rfl⟩
   go_wp2_with (first
    |(at_builtin
      refine QbG _ rfl (.tmp 24) (.tmp 29) rfl (w.heap.size+1) _ _ (QB o) rfl (HO2.out.alloc _) _ _ 1 1 (QB [(p.1,pos,p.2)]) rfl (Rd.lit w2 _ #[.int .i32 p.1,.int .i64 pos,.int .i64 p.2] 3 1 rfl (by decide)) (Q6A _) (by omega) (by have:=HI2.out.lt;simp;omega) ?_
      intro A4 c4 w4 hown4 hg4 _ _;have HI4:=hid ((HI2.out.alloc (.cells #[.int .i32 p.1,.int .i64 pos,.int .i64 p.2] 190)).grown hg4 (fun g hg=>(HO2.out.lt g hg).1))
      have HO4:=hid hown4;clear hown4 hg4))
   go_roundw
   case rel =>
    refine⟨pos+dw,_,HI4.out,HST.out,?_,⟨_,by rw[Q4M];exact HO4.out⟩,HMS.out⟩
    simp;omega
   case measure =>
    simp[World.iterPos,HI4.out.blk,HI.out.blk];omega
  ·have hnx:∀ty,(Instr.next (.pointer (some ⟨w.heap.size,0,none⟩)) true ty).run prog wr=_:=fun ty=>QaH HI.out ty hlt
   have HE:Hid (Q1P l=o):=by
    have:l.drop pos=[]:=List.drop_eq_nil_of_le (by have:=HSZ.out;omega)
    rw[Hid,HS2.out,this,Q2R,append_nil]
   go_wp2
   go_ret
   exact⟨_,rfl,⟨_,by rw[HE.out];exact Qai HO.out (by omega)⟩,HI.out.below⟩
def Qi8(w:World)(v:Value)(l:List UInt8):Prop:=∃A n c,v=.slice A n c/\Rd w (fun _=>True) 1 A n c (bc l)
def Q2S(r:Int):List UInt8:=if Qs r=0 then []else encodeRune r
theorem Qdj(r:Int)(h:0<Qs r)(zs:List Int)(hz:encodeRuneZ r=zs):bc (Q2S r)=zs.map (Value.int .u8):=by
 rw[Q2S,if_neg (by omega),encodeRune,hz,bc,List.map_map]
 apply List.map_congr_left;intro x hx;have:=encodeRuneZ_byte r x (by rw[hz];exact hx)
 simp only[Function.comp];rw[Q24 x (by omega),Int.toNat_of_nonneg this.1]
theorem Q6c(w:World)(t:TypeId)(cs:Array Value)(l:List UInt8)(n:Nat)(hn:cs.size=n)(hm:n<=maxLen)(h:bc l=cs.toList) :
  Qi8 (w.alloc (.cells cs t)) (.slice (some ⟨w.heap.size,0,none⟩) n n) l:=by
 have hr:=Rd.lit w t cs 1 n (by omega) hm
 rw[<-h]at hr;exact⟨_,_,_,rfl,hr.more fun _ _=>trivial⟩
theorem Qkj(r:Int)(w:World)(hlo:-2147483648<=r)(hhi:r<=2147483647):Calls prog 128 #[.int .i32 r] w fun e w'=>∃v,e=.returned v/\Qi8 w' v (Q2S r)/\Below w.heap.size w w':=by
 have HW:=hid (Qei r w);by_cases h0:Qs r=0
 ·have HR:Hid (Q2S r=[]):=by rw[Hid,Q2S,if_pos h0]
  rw[h0]at HW;clear h0;go_enter func128,ntmps128
  go_wp2_with fail
  refine HW.out.mono ?_;rintro e w' ⟨rfl,rfl⟩;go_wp2
  go_ret
  exact⟨_,rfl,by rw[HR.out];exact⟨none,0,0,rfl,Rd.none_⟩,Below.refl _ _⟩
 ·have hpos:0<Qs r:=by omega
  have hc:=Qdj r hpos;have hr:0<=r/\r<=1114111:=by unfold Qs at h0;split at h0<;>omega
  by_cases h1:r<128
  ·have e1:Qs r=1:=by unfold Qs at h0 ⊢;repeat' split at h0
                      all_goals (repeat' split)<;>omega
   have HC:=hid (hc _ (encodeRuneZ_one hr.1 (by omega)))
   rw[e1]at HW;clear hc h0 hpos e1;obtain⟨hr1,hr2⟩:=hr;go_enter func128,ntmps128
   go_wp2_with fail
   refine HW.out.mono ?_;rintro e w' ⟨rfl,rfl⟩;go_wp2
   go_ret
   exact⟨_,rfl,Q6c _ _ _ _ _ rfl (by decide) HC.out,(Below.refl _ _).alloc (le_refl _) _⟩
  ·by_cases h2:r<2048
   ·have e1:Qs r=2:=by unfold Qs at h0 ⊢;repeat' split at h0
                       all_goals (repeat' split)<;>omega
    have HC:=hid (hc _ (encodeRuneZ_two (by omega) (by omega)))
    rw[e1]at HW;clear hc h0 hpos e1;obtain⟨hr1,hr2⟩:=hr;go_enter func128,ntmps128
    go_wp2_with fail
    refine HW.out.mono ?_;rintro e w' ⟨rfl,rfl⟩;go_wp2
    go_ret
    exact⟨_,rfl,Q6c _ _ _ _ _ rfl (by decide) HC.out,(Below.refl _ _).alloc (le_refl _) _⟩
   ·by_cases h3:r<65536
    ·have e1:Qs r=3:=by unfold Qs at h0 ⊢;repeat' split at h0
                        all_goals (repeat' split)<;>omega
     have h5:¬(55296<=r/\r<=57343):=by unfold Qs at h0;split at h0<;>omega
     have HC:=hid (hc _ (encodeRuneZ_three (by omega)))
     rw[e1]at HW;clear hc h0 hpos e1 h5;obtain⟨hr1,hr2⟩:=hr;go_enter func128,ntmps128
     go_wp2_with fail
     refine HW.out.mono ?_;rintro e w' ⟨rfl,rfl⟩;go_wp2
     go_ret
     exact⟨_,rfl,Q6c _ _ _ _ _ rfl (by decide) HC.out,(Below.refl _ _).alloc (le_refl _) _⟩
    ·have e1:Qs r=4:=by unfold Qs at h0 ⊢;repeat' split at h0
                        all_goals (repeat' split)<;>omega
     have HC:=hid (hc _ (encodeRuneZ_four (by omega) (by omega)))
     rw[e1]at HW;clear hc h0 hpos e1;obtain⟨hr1,hr2⟩:=hr;go_enter func128,ntmps128
     go_wp2_with fail
     refine HW.out.mono ?_;rintro e w' ⟨rfl,rfl⟩;go_wp2
     go_ret
     exact⟨_,rfl,Q6c _ _ _ _ _ rfl (by decide) HC.out,(Below.refl _ _).alloc (le_refl _) _⟩
def Q4v:Nat->Int
 |2=>192
 |3=>224
 |4=>240
 |_=>0
def Q34(l:List UInt8)(i:Nat):Int:=(l.getD i 0).toNat
def vp(l:List UInt8)(n:Nat):Nat->Int
 |0=>Q34 l 0-Q4v n
 |j+1=>64 * vp l n j+Q34 l (j+1)-128
def hit(l:List UInt8)(n:Nat):Prop:=0<=vp l n (n-1)/\vp l n (n-1)<=1114111/\Q2S (vp l n (n-1))=l.take n
theorem Q2v(l:List UInt8)(i:Nat):0<=Q34 l i/\Q34 l i<256:=by
 unfold Q34;have:=(l.getD i 0).toNat_lt;omega
theorem QjK(l:List UInt8)(n j:Nat)(hj:j<=3):-1000000000<=vp l n j/\vp l n j<=1000000000:=by
 have h0:=Q2v l 0;have h1:=Q2v l 1;have h2:=Q2v l 2;have h3:=Q2v l 3;have hl:0<=Q4v n/\Q4v n<=240:=by unfold Q4v;split<;>omega
 match j,hj with
 |0,_=>simp only[vp];omega
 |1,_=>simp only[vp,zero_add];omega
 |2,_=>simp only[vp,zero_add,Nat.reduceAdd];omega
 |3,_=>simp only[vp,zero_add,Nat.reduceAdd];omega
theorem Qhh(l:List UInt8)(n:Nat)(h1:1<=n)(hn:n<=l.length)(h:hit l n):Qn l=(vp l n (n-1),n):=by
 obtain⟨_,_,h⟩:=h;generalize vp l n (n-1)=v at h ⊢;have hlen:=congrArg List.length h;rw[length_take,Nat.min_eq_left hn]at hlen
 have hw:0<Qs v:=by
  rcases Nat.eq_zero_or_pos (Qs v)with h0|h0
  ·rw[Q2S,if_pos h0]at hlen
   simp at hlen;omega
  ·exact h0
 rw[Q2S,if_neg (by omega)]at h hlen
 rw[Q4F v hw]at hlen;have:l=encodeRune v++l.drop n:=by rw[h,List.take_append_drop]
 rw[this,Q9h v hw,hlen]
theorem Qbl(l:List UInt8)(n i:Nat)(h:i<n):l.getD i 0=(l.take n).getD i 0:=by simp[List.getD,h]
theorem Qf2(l:List UInt8)(hne:l≠[])(h:∀n,1<=n->n<=4->n<=l.length->¬hit l n):Qn l=(-1,1):=by
 by_cases hb:(Qn l).1=-1
 ·have hd:=hb
  unfold Qn at hd ⊢;split at hd
  ·rename_i h1;rw[if_pos h1]
  ·exfalso;simp only at hd;omega
 ·exfalso
  have hg:=Q8u l hne hb;have hle:=Q86 l hne;have hpos:=Q5i l;have hr:=Q5n l
  have hd:(Qn l).1=((decodeL l).1:Int):=by
   unfold Qn at hb ⊢;split
   ·rename_i h1;rw[if_pos h1]at hb;exact absurd rfl hb
   ·rfl
  generalize hv:(Qn l).1=v at hb hg hr hd;generalize (Qn l).2=n at hg hle hpos;have hlen:=congrArg List.length hg;rw[length_take,Nat.min_eq_left hle]at hlen
  have hsur:¬(55296<=v/\v<=57343):=by
   intro hs;have h1:v=((decodeL l).1:Int):=hd;have h2:=decodeL_N l;rcases decodeN_shape l.length (l.getD 0 0).toNat (l.getD 1 0).toNat (l.getD 2 0).toNat (l.getD 3 0).toNat with ⟨c,e⟩|⟨c1,c2,c3,cv,e⟩|⟨c1,c2,c3,c4,cv,cs,e⟩|⟨c1,c2,c3,c4,c5,cv,cw,e⟩|e
   all_goals (rw[e]at h2;rw[h2]at h1;dsimp only at h1;omega)
  have hw:0<Qs v:=by unfold Qs;rw[if_neg (by omega)];repeat' split
                     all_goals omega
  have hrf:Q2S v=encodeRune v:=by rw[Q2S,if_neg (by omega)]
  have hn4:n=Qs v:=by rw[hlen,Q4F v hw]
  have hb0:=Qbl l n 0 (by omega)
  have hvp:vp l n (n-1)=v:=by
   have key:∀i,i<n->Q34 l i=(encodeRuneZ v).getD i 0:=by
    intro i hi;unfold Q34;rw[Qbl l n i hi,hg,encodeRune]
    have hil:i<(encodeRuneZ v).length:=by
     have:=Q4F v hw
     rw[encodeRune,length_map]at this;omega
    have hz:=encodeRuneZ_byte v (encodeRuneZ v)[i] (List.getElem_mem hil);simp only[List.getD,getElem?_map,getElem?_eq_getElem hil,Option.map_some,Option.getD_some];rw[Q24 _ (by omega),Int.toNat_of_nonneg hz.1]
   rw[hn4]at key ⊢;unfold Qs at hw key ⊢;rw[if_neg (by omega)]at key ⊢
   by_cases h1:v<128
   ·rw[if_pos h1]at key ⊢
    have k0:=key 0 (by omega)
    rw[encodeRuneZ_one (by omega) (by omega)]at k0
    show vp l 1 0=v;simp only[vp,Q4v,k0];simp
   ·rw[if_neg h1]at key ⊢
    by_cases h2:v<2048
    ·rw[if_pos h2]at key ⊢
     have k0:=key 0 (by omega)
     have k1:=key 1 (by omega)
     rw[encodeRuneZ_two (by omega) (by omega)]at k0 k1
     show vp l 2 1=v;simp only[vp,Q4v,zero_add,k0,k1,getD_cons_zero,getD_cons_succ];omega
    ·rw[if_neg h2]at key ⊢
     by_cases h3:v<65536
     ·rw[if_pos h3]at key ⊢
      have k0:=key 0 (by omega)
      have k1:=key 1 (by omega)
      have k2:=key 2 (by omega)
      rw[encodeRuneZ_three (by omega)]at k0 k1 k2
      show vp l 3 2=v;simp only[vp,Q4v,zero_add,Nat.reduceAdd,k0,k1,k2,getD_cons_zero,getD_cons_succ];omega
     ·rw[if_neg h3]at key ⊢
      have k0:=key 0 (by omega)
      have k1:=key 1 (by omega)
      have k2:=key 2 (by omega)
      have k3:=key 3 (by omega)
      rw[encodeRuneZ_four (by omega) (by omega)]at k0 k1 k2 k3
      show vp l 4 3=v;simp only[vp,Q4v,zero_add,Nat.reduceAdd,k0,k1,k2,k3,getD_cons_zero,getD_cons_succ];omega
  refine h n hpos ?_ hle ⟨by rw[hvp];omega,by rw[hvp];omega,by rw[hvp,hrf,hg]⟩
  rw[hn4];unfold Qs;repeat' split
  all_goals omega
theorem Qhp(S:Nat->Prop)(A:Option Addr)(n c:Nat)(l:List UInt8)(w:World)(hr:Rd w S 1 A n c (bc l))(hlen:l.length<=1000000000) :
  Calls prog 89 #[.slice A n c] w fun e w' =>
   e=.returned (.tuple #[.int .i32 (if l=[]then 0 else(Qn l).1),.int .i64 (if l=[]then(0:Nat)else(Qn l).2:Nat)])/\Below w.heap.size w w':=by
 obtain rfl:=Qcb hr;have hle:=hr.le;have hmx:c<=9223372036854775807:=hr.max;cases hl:l with
 |nil =>
  subst hl;go_enter func89,ntmps89
  go_wp2
  go_ret2
  exact⟨rfl,Below.refl _ _⟩
 |cons b0 t0 =>
  rw[<-hl,if_neg (by rw[hl];simp),if_neg (by rw[hl];simp)]
  have hpos:0<l.length:=by rw[hl];simp
  have hd0:((l.length:Int) == 0)=false:=by rw[beq_eq_false_iff_ne];omega
  have hd1:(l.length == 0)=false:=by rw[beq_eq_false_iff_ne];omega
  clear hl b0 t0;have HR:=hid hr;clear hr;go_enter func89,ntmps89
  go_wp2
  have HC:Hid (∀j,j<=4->(w.alloc (.cells #[.int .i64 0,.int .i64 0,.int .i64 192,.int .i64 224,.int .i64 240] 3)).cell? ⟨w.heap.size,j,none⟩=some (.int .i64 (Q4v j))):=by
   intro j hj;rw[World.cell?_alloc_at _ _ _ _ rfl];match j,hj with
   |0,_=>rfl
   |1,_=>rfl
   |2,_=>rfl
   |3,_=>rfl
   |4,_=>rfl
  have HR0:=hid (HR.out.alloc (.cells #[.int .i64 0,.int .i64 0,.int .i64 192,.int .i64 224,.int .i64 240] 3));have HB0:Hid (Below w.heap.size w (w.alloc (.cells #[.int .i64 0,.int .i64 0,.int .i64 192,.int .i64 224,.int .i64 240] 3))):=(Below.refl _ _).alloc (le_refl _) _;have hsz:(w.alloc (.cells #[.int .i64 0,.int .i64 0,.int .i64 192,.int .i64 224,.int .i64 240] 3)).heap.size=w.heap.size+1:=by simp
  generalize w.alloc (.cells #[.int .i64 0,.int .i64 0,.int .i64 192,.int .i64 224,.int .i64 240] 3)=W0 at HC HR0 HB0 hsz;have HSZ:=hid hsz;clear hsz;go_loopw [5] (fun i wr=>∃k:Nat,1<=k/\k<=5/\k<=l.length+1/\i=.int .i64 k/\Hid (∀m,1<=m->m<k->¬hit l m)/\Hid (Below W0.heap.size W0 wr)) (fun i _=>5-(intOf i).toNat)
  case atStart=>exact⟨1,by omega,by omega,by omega,rfl,fun m h1 h2=>absurd h1 (by omega),Below.refl _ _⟩
  case round =>
   obtain⟨k,hk1,hk5,hkl,rfl,HN,HB⟩:=hrel;by_cases hin:k<=4/\k<=l.length
   ·obtain⟨h4,hkl2⟩:=hin
    obtain⟨b,o,u,rfl,_,hu,hc0⟩:=(HR0.out.below HB.out).one hpos;obtain⟨hp0,rfl⟩:=QeA hu;clear hu
    have hc0':wr.cell? ⟨b,o,none⟩=some (.int .u8 (Q34 l 0)):=by
     rw[Nat.add_zero]at hc0;rw[hc0];simp[Q34,List.getD,hp0]
    clear hc0;have hlead:wr.cell? ⟨w.heap.size,k,none⟩=some (.int .i64 (Q4v k)):=(HB.out.cell (p:=⟨w.heap.size,k,none⟩) (by show w.heap.size<W0.heap.size;have:=HSZ.out;omega)).trans (HC.out k h4)
    have hb0:=Q2v l 0;have hll:0<=Q4v k/\Q4v k<=240:=by unfold Q4v;split<;>omega
    have HV0:Hid (vp l k 0=Q34 l 0-Q4v k):=rfl;go_wp2
    go_quiet (fail)
    go_wp2
    have HB1:=hid (QV HB.out nq);generalize wr.drewN nq=w1 at HB1;clear hc0' hlead;go_loop [6,7] (fun v i=>∃j:Nat,j+1<=k/\i=.int .i64 ((j:Int)+1)/\v=.int .i64 (vp l k j)) (fun _ i=>k-(intOf i).toNat)
    case atStart=>exact⟨0,hk1,rfl,by rw[HV0.out]⟩
    case round =>
     obtain⟨j,hj,rfl,rfl⟩:=hrel;have hvr:=QjK l k j (by omega)
     by_cases hjk:j+1<k
     ·obtain⟨b2,o2,u,hA,_,hu,hc1⟩:=(HR0.out.below HB1.out).one (k:=j+1) (by omega)
      injection hA with hA
      injection hA with e1 e2
      subst e1 e2;obtain⟨hp1,rfl⟩:=QeA hu;clear hu
      have hc1':w1.cell? ⟨b,o+(j+1),none⟩=some (.int .u8 (Q34 l (j+1))):=by
       rw[hc1];simp[Q34,List.getD,hp1]
      have hb1:=Q2v l (j+1);have hjk':(j:Int)+1<(k:Int):=by omega
      have hjl:(j:Int)+1<(l.length:Int):=by omega
      have HV1:Hid (vp l k (j+1)=64 * vp l k j+Q34 l (j+1)-128):=rfl;clear hc1;generalize vp l k j=v at hvr HV1 ⊢;generalize Q34 l (j+1)=b1 at hc1' hb1 HV1;go_wp2
      go_round
      case rel=>exact⟨j+1,by omega,by go_num,by rw[HV1.out]⟩
      case measure=>simp[intOf];omega
     ·have hjk':¬(j:Int)+1<(k:Int):=by omega
      have ej:j=k-1:=by omega
      subst ej;generalize hv:vp l k (k-1)=v at hvr ⊢;have HV:=hid hv;clear hv;by_cases hv0:0<=v/\v<=1114111
      ·obtain⟨hv1,hv2⟩:=hv0
       have hv3:decide (0<=v)=true:=by simpa using hv1
       have hv4:decide (v<=1114111)=true:=by simpa using hv2
       have HT:=hid ((HR0.out.below HB1.out).take (k:=k) (by omega))
       have htk:(bc l).take (k * 1)=bc (l.take k):=by rw[Nat.mul_one,bc,bc,List.map_take]
       rw[htk]at HT;clear htk
       have hcb:∀W,Below w1.heap.size w1 W->(convert 64 9 (.slice (some ⟨b,o,none⟩) k c)).run prog W=.ok (.string ⟨(l.take k).toArray⟩) W:=fun W hW =>
        Q2A (HT.out.below hW) 64 9 5 underlying64 underlying5 underlying9
       have hcb1:=hcb w1.drew ((Below.refl _ w1).drew);have HCB:=hid hcb;generalize htl:l.take k=tl at hcb1 HCB;have HTL:=hid htl;clear htl hcb;go_wp2
       refine Qal [(0,true),(1,true),(2,true),(3,true),(4,true),(5,true),(6,true),(7,true),(8,true),(11,true),(12,true),(13,true),(14,true),(9,false),(10,true),(15,true),(16,true)] (by kernel_rfl) (by kernel_rfl) (fun _ _ _ _ _ h=>h) ?_
       intro wd HLE;have hcbd:∀W,LeB wd W->(convert 64 9 (.slice (some ⟨b,o,none⟩) k c)).run prog W=.ok (.string ⟨tl.toArray⟩) W:=fun W hW=>HCB.out W (LeB.trans _ _ _ HLE.out hW)
       have hkc:k<=c:=by omega
       repeat (refine Q8B rfl (fun K hK=>?_);go_simp;first|(refine hK.out _ ?_;clear hK K)|(apply Exists.intro;refine⟨fun W hW=>?_,hK.out _ ?_⟩;(first|rfl|(rw[hcbd W hW];rfl));clear hK K))
       have hwr:IntKind.i32.wrap v=v:=IntWalk.i32_in v (by omega)
       refine Qes rfl (fun K W HLW hK=>?_) LeB.refl
       go_simp
       refine(Qkj v _ (by omega) (by omega)).mono ?_
       rintro e w2 ⟨v2,rfl,⟨A2,n2,c2,rfl,hr2⟩,hb2⟩;go_simp
       refine hK.out _ _ hb2 ?_;clear hK K
       have hcr:∀W,LeB w2 W->(convert 64 9 (.slice A2 n2 c2)).run prog W=_:=fun W hW =>
        Q2A (hr2.below hW) 64 9 5 underlying64 underlying5 underlying9
       repeat (refine Q8B rfl (fun K hK=>?_);go_simp;first|(refine hK.out _ ?_;clear hK K)|(apply Exists.intro;refine⟨fun W hW=>?_,hK.out _ ?_⟩;(first|rfl|(rw[hcr W hW];rfl));clear hK K))
       refine QgJ (fun W2 hW2=>?_)
       have HBX:=hid (Below.trans HB0.out ((HB1.out.trans (Below.mono HLE.out HB1.out.size) |>.trans (Below.mono HLW.out (le_trans HB1.out.size HLE.out.size)) |>.trans (Below.mono hb2 (le_trans HB1.out.size (le_trans HLE.out.size HLW.out.size))) |>.trans (Below.mono hW2 (le_trans HB1.out.size (le_trans HLE.out.size (le_trans HLW.out.size hb2.size))))).mono HB0.out.size))
       have HBY:=hid (HB1.out.trans (Below.mono HLE.out HB1.out.size) |>.trans (Below.mono HLW.out (le_trans HB1.out.size HLE.out.size)) |>.trans (Below.mono hb2 (le_trans HB1.out.size (le_trans HLE.out.size HLW.out.size))) |>.trans (Below.mono hW2 (le_trans HB1.out.size (le_trans HLE.out.size (le_trans HLW.out.size hb2.size)))))
       clear hcr hb2 hW2 HLW HLE hr2;go_wp2
       ·rename_i heqb
        have heq:Q2S v=tl:=by simpa using heqb
        have hh:hit l k:=⟨by rw[HV.out];exact hv1,by rw[HV.out];exact hv2,by rw[HV.out,heq,HTL.out]⟩
        have hf:=Qhh l k hk1 hkl2 hh;rw[HV.out]at hf;go_ret2
        exact⟨by first|rfl|(rw[hf];rfl),HBX.out⟩
       ·rename_i heqb
        have heq:¬Q2S v=tl:=by simpa using heqb
        refine⟨⟨k+1,by omega,by omega,by omega,by go_num,?_,HBY.out⟩,by simp[intOf];omega⟩
        intro m h1 h2 hm;by_cases hmk:m=k
        ·subst hmk
         obtain⟨_,_,h3⟩:=hm;rw[HV.out,HTL.out]at h3;exact heq h3
        ·exact HN.out m h1 (by omega) hm
      ·have hnh:¬hit l k:=fun hm=>hv0 ⟨by rw[<-HV.out];exact hm.1,by rw[<-HV.out];exact hm.2.1⟩
       have fin:∀(n:Nat),Hid (Below W0.heap.size W0 (w1.drewN n)):=fun n=>QV HB1.out n
       by_cases hv1:0<=v
       ·have hv2:¬v<=1114111:=fun h=>hv0 ⟨hv1,h⟩
        have hv3:decide (0<=v)=true:=by simpa using hv1
        have hv4:decide (v<=1114111)=false:=by simpa using hv2
        go_wp2
        go_quiet (fail)
        go_wp2
        have HBY:=fin nq;generalize w1.drewN nq=W2 at HBY;go_round
        case rel =>
         refine⟨k+1,by omega,by omega,by omega,by go_num,?_,HBY.out⟩
         intro m h1 h2 hm;by_cases hmk:m=k
         ·subst hmk;exact hnh hm
         ·exact HN.out m h1 (by omega) hm
        case measure=>simp[intOf];omega
       ·have hv3:decide (0<=v)=false:=by simpa using hv1
        go_wp2
        go_quiet (fail)
        go_wp2
        have HBY:=fin nq;generalize w1.drewN nq=W2 at HBY;go_round
        case rel =>
         refine⟨k+1,by omega,by omega,by omega,by go_num,?_,HBY.out⟩
         intro m h1 h2 hm;by_cases hmk:m=k
         ·subst hmk;exact hnh hm
         ·exact HN.out m h1 (by omega) hm
        case measure=>simp[intOf];omega
   ·have hmiss:Qn l=(-1,1):=Qf2 l (by intro h;rw[h]at hpos;exact absurd hpos (by simp)) fun n h1 h4 hl hh=>HN.out n h1 (by omega) hh
    have HBX:=hid (HB0.out.trans (HB.out.mono HB0.out.size));by_cases h4:k<=4
    ·have h5:¬k<=l.length:=fun h=>hin ⟨h4,h⟩
     go_wp2
     go_ret2
     exact⟨by first|rfl|(rw[hmiss];rfl),HBX.out⟩
    ·go_wp2
     go_ret2
     exact⟨by first|rfl|(rw[hmiss];rfl),HBX.out⟩
theorem Qez(S:Nat->Prop)(A:Option Addr)(n c:Nat)(l:List UInt8)(w:World)(hr:Rd w S 1 A n c (bc l))(hlen:l.length<=300000000) :
  Calls prog 55 #[.slice A n c] w fun e w'=>∃v,e=.returned v/\(∃n',w'.ownsRow w.heap.size 120 3 v n' (QB (Q1P l)))/\Below w.heap.size w w':=by
 obtain rfl:=Qcb hr;have hle:=hr.le;have hmx:c<=9223372036854775807:=hr.max;have HR:=hid hr;clear hr;go_enter func55,ntmps55
 go_wp2
 go_loopw [3,4] (fun v i wr=>∃(pos:Nat) (o:List (Int×Nat×Nat)),i=.int .i64 pos/\Hid (Below w.heap.size w wr)/\Hid (Q1P l=o++Q1m (l.drop pos).length pos (l.drop pos))/\o.length<=pos /\
   Hid (∃n',wr.ownsRow w.heap.size 120 3 v n' (QB o))/\pos<=l.length)
  (fun _ i _=>l.length-(intOf i).toNat)
 case atStart=>exact⟨0,[],rfl,Below.refl _ _,by simp[Hid,Q1P],le_refl _,⟨0,World.ownsRow_nil _ _ _ _⟩,zero_le _⟩
 case round =>
  obtain⟨pos,o,rfl,HB,HS2,hol,HO,hpos⟩:=hrel;obtain⟨no,HO⟩:=HO.out;have hno:no=o.length:=by have:=HO.1;rw[Q2a]at this;omega
  obtain⟨Ao,co,rfl,hro⟩:=Q14 HO;have hco:co<=9223372036854775807:=hro.max;have HO:=hid HO;have hnob:no<=300000000:=by omega
  have HNO:=hid hno;clear hro hno;by_cases hlt:pos<l.length
  ·have hdl:(l.drop pos).length=l.length-pos:=length_drop
   obtain⟨A',hcut,hsl⟩:=(HR.out.below HB.out).cutL underlying64 (fun _=>by simp[go_sem]) (P:=prog) (k:=pos) (by omega)
   rw[Nat.mul_one,<-List.map_drop]at hcut
   have hne:l.drop pos≠[]:=by
    intro h0;rw[h0]at hdl;simp at hdl;omega
   have HF:=hid (Qhp S A' (l.length-pos) (c-pos) (l.drop pos) wr hcut (by omega))
   have hfl:=Q86 _ hne;have hfp:=Q5i (l.drop pos);have hfr:=Q5n (l.drop pos)
   have HST:Hid (Q1P l=(o++[((Qn (l.drop pos)).1,pos,(Qn (l.drop pos)).2)])++Q1m (l.drop (pos+(Qn (l.drop pos)).2)).length (pos+(Qn (l.drop pos)).2) (l.drop (pos+(Qn (l.drop pos)).2))):=by
    rw[Hid,HS2.out,Q7t pos _ hne,List.drop_drop];simp
   rw[if_neg hne,if_neg hne]at HF;generalize Qn (l.drop pos)=p at HF hfl hfp HST hfr;clear hcut;go_wp2_with fail
   refine HF.out.mono ?_;rintro e w2 ⟨rfl,hb2⟩;have HB2:=hid (HB.out.trans (hb2.mono HB.out.size));have HO2:=hid (QaY HO.out hb2);clear hb2
   go_wp2_with (first
    |(at_builtin
      refine Qaz _ rfl (.tmp 18) (.tmp 23) rfl w.heap.size _ _ (QB o) rfl (HO2.out.alloc _) _ _ 1 1 (QB [(p.1,pos,p.2)]) rfl (Rd.lit w2 _ #[.int .i32 p.1,.int .i64 pos,.int .i64 p.2] 3 1 rfl (by decide)) (Q6A _) (by omega) (by have:=HB2.out.size;simp;omega) ?_
      intro A4 c4 w4 hown4 hg4 _ _;have hb4:=Q41 (HB2.out.alloc HB2.out.size (.cells #[.int .i32 p.1,.int .i64 pos,.int .i64 p.2] 120)) (by have:=HB2.out.size;simp;omega) (HO2.out.alloc _) hg4
      have HB4:=hid hb4;have HO4:=hid hown4;clear hown4 hg4 hb4))
   go_roundw
   case rel =>
    refine⟨pos+p.2,_,by go_num,HB4.out,HST.out,?_,⟨_,by rw[Q4M];exact HO4.out⟩,by omega⟩
    simp;omega
   case measure=>simp[intOf];omega
  ·have HE:Hid (Q1P l=o):=by
    have:l.drop pos=[]:=List.drop_eq_nil_of_le (by omega)
    rw[Hid,HS2.out,this,Q2R,append_nil]
   go_wp2
   go_ret
   exact⟨_,rfl,⟨_,by rw[HE.out];exact HO.out⟩,HB.out⟩
theorem Q6D:∀(o:List (Int×Nat×Nat)) (k:Nat),(h:k<o.length) ->
  (QB o)[k * 3]?=some (.int .i32 o[k].1)/\(QB o)[k * 3+1]?=some (.int .i64 o[k].2.1)/\(QB o)[k * 3+2]?=some (.int .i64 o[k].2.2)
 | [],_,h=>absurd h (by simp)
 |x::t,0,_=>⟨rfl,rfl,rfl⟩
 |x::t,k+1,h=>by
  have ih:=Q6D t k (by simpa using h)
  have e:∀i,(QB (x::t))[(k+1) * 3+i]?=(QB t)[k * 3+i]?:=fun i=>by
   show(Value.int .i32 x.1 :: .int .i64 x.2.1 :: .int .i64 x.2.2::QB t)[(k+1) * 3+i]?=_
   rw[show(k+1) * 3+i=(k * 3+i)+1+1+1 by omega]
   rfl
  refine⟨(e 0).trans ih.1,(e 1).trans ih.2.1,(e 2).trans ih.2.2⟩
theorem Rd.item{w:World}{S:Nat->Prop}{n c:Nat}{A:Option Addr}{o:List (Int×Nat×Nat)}(h:Rd w S 3 A n c (QB o)){k:Nat}(hk:k<o.length) :
  ∃b u,A=some ⟨b,u,none⟩/\S b/\w.cell? ⟨b,u+k * 3,none⟩=some (.int .i32 o[k].1)/\w.cell? ⟨b,u+k * 3+1,none⟩=some (.int .i64 o[k].2.1)/\w.cell? ⟨b,u+k * 3+2,none⟩=some (.int .i64 o[k].2.2):=by
 have hl:=h.len;rw[Q2a]at hl;obtain⟨b,u,e,hb,hc⟩:=h.at_ (by omega)
 obtain⟨h1,h2,h3⟩:=Q6D o k hk;exact⟨b,u,e,hb,hc _ _ h1,hc _ _ h2,hc _ _ h3⟩
theorem Qev(l:List UInt8):(Q1x l).length<=l.length:=by
 rw[Q1x,length_map];exact Q7Z _ _ _
theorem Qf6(s:ByteArray)(w:World)(hlen:s.size<=300000000) :
  Calls prog 282 #[.string s] w fun e w'=>∃v,e=.returned v/\(∃n',w'.ownsRow w.heap.size 21 1 v n' (rc (Q1x s.data.toList)))/\Below w.heap.size w w':=by
 obtain⟨A0,c0,w1,hcv,hr,hb,hc0⟩:=Q4E (P:=prog) w s 9 64 5 underlying9 underlying64 underlying5 (by omega)
 have hll:s.data.toList.length=s.size:=by simp
 generalize s.data.toList=l at hr hll ⊢;have HR:=hid hr;have HB1:=hid hb;clear hr hb;go_enter func282,ntmps282
 go_wp2_with fail
 refine(Qbf _ A0 s.size c0 l w1 HR.out (by omega)).mono ?_
 rintro e w2 ⟨v,rfl,⟨n',hown⟩,hb2⟩;obtain⟨A,c,rfl,hro⟩:=Q14 hown;have hn:n'=(Q1P l).length:=by have:=hown.1;rw[Q2a]at this;omega
 have hil:(Q1P l).length<=l.length:=Q7Z _ _ _;have hco:c<=9223372036854775807:=hro.max;have hle:=hro.le;have HRF:Hid (Q1x l=(Q1P l).map (·.1)):=rfl;have HRO:=hid hro;have HB2:=hid (HB1.out.trans (hb2.mono HB1.out.size));clear hro hb2 hown;generalize Q1P l=its at hn hil HRF HRO;subst hn;go_wp2
 go_loopw [3,10] (fun v i wr=>∃(k:Nat),k<=its.length/\i=.int .i64 k/\Hid (∃n',wr.ownsRow w2.heap.size 21 1 v n' (rc ((its.take k).map (·.1))))/\Hid (Below w2.heap.size w2 wr))
  (fun _ i _=>its.length-(intOf i).toNat)
 case atStart=>exact⟨0,zero_le _,rfl,⟨0,by simpa using World.ownsRow_nil w2 w2.heap.size 21 1⟩,Below.refl _ _⟩
 case round =>
  obtain⟨k,hk,rfl,HO,HB⟩:=hrel;obtain⟨no,HO⟩:=HO.out;have hno:no=k:=by have:=Q6T HO;simp at this;omega
  subst hno;obtain⟨Ao,co,rfl,hro⟩:=Q14 HO;have hco2:co<=9223372036854775807:=hro.max;have HO:=hid HO;clear hro;by_cases hlt:no<its.length
  ·obtain⟨b,u,rfl,hbb,hc0,hc1,hc2⟩:=(HRO.out.below HB.out).item hlt
   have htk:(its.take (no+1)).map (·.1)=(its.take no).map (·.1)++[its[no].1]:=by rw[List.take_succ_eq_append_getElem hlt,map_append];rfl
   have HTK:=hid htk;clear htk;generalize its[no].1=r0 at hc0 HTK;generalize its[no].2.1=r1 at hc1;generalize its[no].2.2=r2 at hc2
   go_wp2_with (first
    |(at_builtin
      refine Q5b _ rfl (.tmp 14) (.tmp 17) rfl w2.heap.size _ _ _ rfl ((HO.out.alloc _).alloc _) _ _ 1 1 [r0] rfl (Rd.litN _ (wr.heap.size+1) (by simp) _ #[.int .i32 r0] 1 1 rfl (by decide)) (by omega) (by have:=HB.out.size;simp;omega) ?_
      intro A4 c4 w4 hown4 hg4 _ _;have hb4:=Q41 ((HB.out.alloc HB.out.size _).alloc (by have:=HB.out.size;simp;omega) _) (by have:=HB.out.size;simp;omega) ((HO.out.alloc _).alloc _) hg4
      have HB4:=hid hb4;have HO4:=hid hown4;clear hown4 hg4 hb4))
   go_roundw
   case rel=>exact⟨no+1,by omega,by go_num,⟨_,by rw[HTK.out];exact HO4.out⟩,HB4.out⟩
   case measure=>simp[intOf];omega
  ·have e:its.take no=its:=take_of_length_le (by omega)
   have HE:Hid (Q1x l=(its.take no).map (·.1)):=by rw[Hid,HRF.out,e]
   go_wp2
   go_ret
   exact⟨_,rfl,⟨_,by rw[HE.out];exact Qai HO.out (by have:=HB2.out.size;omega)⟩,HB2.out.trans (HB.out.mono HB2.out.size)⟩
theorem QeK(s:ByteArray)(w:World)(hlen:s.size<=300000000) :
  Calls prog 43 #[.string s] w fun e w'=>∃v,e=.returned v/\(∃n',w'.ownsRow w.heap.size 21 1 v n' (rc (Q1x s.data.toList)))/\Below w.heap.size w w':=by
 obtain⟨A0,c0,w1,hcv,hr,hb,hc0⟩:=Q4E (P:=prog) w s 9 64 5 underlying9 underlying64 underlying5 (by omega)
 have hll:s.data.toList.length=s.size:=by simp
 generalize s.data.toList=l at hr hll ⊢;have HR:=hid hr;have HB1:=hid hb;clear hr hb;go_enter func43,ntmps43
 go_wp2_with fail
 refine(Qez _ A0 s.size c0 l w1 HR.out (by omega)).mono ?_
 rintro e w2 ⟨v,rfl,⟨n',hown⟩,hb2⟩;obtain⟨A,c,rfl,hro⟩:=Q14 hown;have hn:n'=(Q1P l).length:=by have:=hown.1;rw[Q2a]at this;omega
 have hil:(Q1P l).length<=l.length:=Q7Z _ _ _;have hco:c<=9223372036854775807:=hro.max;have hle:=hro.le;have HRF:Hid (Q1x l=(Q1P l).map (·.1)):=rfl;have HRO:=hid hro;have HB2:=hid (HB1.out.trans (hb2.mono HB1.out.size));clear hro hb2 hown;generalize Q1P l=its at hn hil HRF HRO;subst hn;go_wp2
 go_loopw [3,10] (fun v i wr=>∃(k:Nat),k<=its.length/\i=.int .i64 k/\Hid (∃n',wr.ownsRow w2.heap.size 21 1 v n' (rc ((its.take k).map (·.1))))/\Hid (Below w2.heap.size w2 wr))
  (fun _ i _=>its.length-(intOf i).toNat)
 case atStart=>exact⟨0,zero_le _,rfl,⟨0,by simpa using World.ownsRow_nil w2 w2.heap.size 21 1⟩,Below.refl _ _⟩
 case round =>
  obtain⟨k,hk,rfl,HO,HB⟩:=hrel;obtain⟨no,HO⟩:=HO.out;have hno:no=k:=by have:=Q6T HO;simp at this;omega
  subst hno;obtain⟨Ao,co,rfl,hro⟩:=Q14 HO;have hco2:co<=9223372036854775807:=hro.max;have HO:=hid HO;clear hro;by_cases hlt:no<its.length
  ·obtain⟨b,u,rfl,hbb,hc0,hc1,hc2⟩:=(HRO.out.below HB.out).item hlt
   have htk:(its.take (no+1)).map (·.1)=(its.take no).map (·.1)++[its[no].1]:=by rw[List.take_succ_eq_append_getElem hlt,map_append];rfl
   have HTK:=hid htk;clear htk;generalize its[no].1=r0 at hc0 HTK;generalize its[no].2.1=r1 at hc1;generalize its[no].2.2=r2 at hc2
   go_wp2_with (first
    |(at_builtin
      refine Q5b _ rfl (.tmp 14) (.tmp 17) rfl w2.heap.size _ _ _ rfl ((HO.out.alloc _).alloc _) _ _ 1 1 [r0] rfl (Rd.litN _ (wr.heap.size+1) (by simp) _ #[.int .i32 r0] 1 1 rfl (by decide)) (by omega) (by have:=HB.out.size;simp;omega) ?_
      intro A4 c4 w4 hown4 hg4 _ _;have hb4:=Q41 ((HB.out.alloc HB.out.size _).alloc (by have:=HB.out.size;simp;omega) _) (by have:=HB.out.size;simp;omega) ((HO.out.alloc _).alloc _) hg4
      have HB4:=hid hb4;have HO4:=hid hown4;clear hown4 hg4 hb4))
   go_roundw
   case rel=>exact⟨no+1,by omega,by go_num,⟨_,by rw[HTK.out];exact HO4.out⟩,HB4.out⟩
   case measure=>simp[intOf];omega
  ·have e:its.take no=its:=take_of_length_le (by omega)
   have HE:Hid (Q1x l=(its.take no).map (·.1)):=by rw[Hid,HRF.out,e]
   go_wp2
   go_ret
   exact⟨_,rfl,⟨_,by rw[HE.out];exact Qai HO.out (by have:=HB2.out.size;omega)⟩,HB2.out.trans (HB.out.mono HB2.out.size)⟩
