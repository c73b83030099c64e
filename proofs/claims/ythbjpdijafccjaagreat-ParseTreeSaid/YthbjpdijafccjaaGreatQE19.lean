/-
  Parts of the proof, joined: Ye. Conditions: as each theorem says.
-/
import Derived.Test.YthbjpdijafccjaaGreatQE16
import Derived.Test.YthbjpdijafccjaaGreatQE15
set_option maxRecDepth 100000
set_option maxHeartbeats 8000000
namespace Go.Proofs.YthbjpdijafccjaaGreat
open Go.RowKit Go.Lib
structure Evr where
 do_:Int
 kind:Int
 b:Option (List UInt8)
 deriving Inhabited
def Evr.ev (x:Evr):Ev:=⟨x.do_,x.kind,x.b.getD []⟩
def Evr.ba (x:Evr):AV:=match x.b with|some b=>.slc 1 (Q2 b)|none=>Qct
def Evr.av (x:Evr):AV:=.agg [.val (.int .i64 x.do_),.val (.int .i64 x.kind),x.ba]
def QK (l:List Evr):List AV:=l.map Evr.av
theorem Q7H (a b:List Evr):QK (a++b)=QK a++QK b:=by simp[QK]
theorem Q69 (a:List Evr):(QK a).length=a.length:=by simp[QK]
structure RSt where
 op:List (List Int)
 ev:List Evr
 wr:List Dg
 deriving Inhabited
def Q2F (t:Txt)(c f u:Int)(s:RSt):RSt:=⟨s.op,s.ev,s.wr++[⟨Q1x t f,Q1x t u,c⟩]⟩
def Q1V (t:Txt)(b:List UInt8)(kind f u:Int)(s:RSt):RSt:=⟨s.op,s.ev++[⟨2,kind,some (Q13 t b f u)⟩],s.wr⟩
def Q2j (t:Txt)(a:Int)(s:RSt):RSt:=⟨s.op.take (s.op.length-1),s.ev++[⟨2,22,none⟩,⟨3,0,none⟩],s.wr++[⟨Q1x t a,Q1x t a,4⟩]⟩
def Q3q (op:List (List Int))(nm:List Int):Nat→Int
 |0=>-1
 |k+1=>if op[k]?.getD []=nm then k else Q3q op nm k
def Q1k (t:Txt)(f:Int)(k:Nat):Nat→RSt→RSt
 |0,s=>s
 |n+1,s=>if k<s.op.length then Q1k t f k n (Q2j t f s) else s
def Q58 (t:Txt)(b:List UInt8)(kind f u:Int)(s:RSt):RSt :=
 if 64≤s.op.length then Q1V t b kind f u (Q2F t 5 f u s)
 else Q1V t b kind f u ⟨s.op++[Qo t f u],s.ev++[⟨1,0,none⟩],s.wr⟩
def QcW (t:Txt)(b:List UInt8)(kind f u:Int)(s:RSt):RSt :=
 if Q3q s.op (Qo t f u) s.op.length<0 then Q1V t b kind f u (Q2F t 3 f u s)
 else
  let s1:=Q1V t b kind f u (Q1k t f ((Q3q s.op (Qo t f u) s.op.length).toNat+1) (s.op.length+1) s)
  ⟨s1.op.take (Q3q s.op (Qo t f u) s.op.length).toNat,s1.ev++[⟨3,0,none⟩],s1.wr⟩
def Q9i (t:Txt)(b:List UInt8)(kind f u:Int)(wh:Bool)(s:RSt):RSt :=
 let s1:=if wh=false then Q2F t 1 f u s else if (kind=8∨kind=9∨kind=10)∧(QR t.r f u).right=false then Q2F t 2 f u s else s
 if wh=true∧kind=8∧0<(Qo t f u).length then Q58 t b kind f u s1
 else if wh=true∧kind=10 then QcW t b kind f u s1
 else Q1V t b kind f u s1
def Q7o (t:Txt)(b:List UInt8)(s:RSt)(x:Tok):RSt:=Q9i t b x.kind x.from_ x.to x.whole s
def Qbx (t:Txt)(b:List UInt8)(s:RSt):RSt :=
 let s1:=(Q5P t.r).foldl (Q7o t b) s
 Q1k t t.r.length 0 (s1.op.length+1) s1
def Q7i (b:List UInt8):RSt:=⟨[],if 0<(QQ b).2 then [⟨2,23,some (b.take (QQ b).2.toNat)⟩] else [],[]⟩
def Q2v (b:List UInt8):RSt:=Qbx (Qd b) b (Q7i b)
theorem Qfq {l:List Node}(h:Wf l)(x:Node):∀ (f:Nat) (n:Int) (top:Bool),0≤n→n<l.length→spF (l++[x]) f n top=spF l f n top
 |0,_,_,_,_=>rfl
 |f+1,n,top,h0,h1=>by
  simp only[spF,Q2s h0 h1]
  have e1:pr (l++[x]) n=pr l n:=Q9r h x h0 h1
  have e2:(Qj l n).kids.flatMap (fun k=>spF (l++[x]) f k false)=(Qj l n).kids.flatMap (fun k=>spF l f k false):=by
   refine congrArg List.flatten (List.map_congr_left fun k hk=>?_)
   have:=h n h0 h1 k hk
   exact Qfq h x f k false this.1 (by omega)
  rw[e1,e2]
theorem QlF {l:List Node}(h:Wf l)(x:Node){n:Int}(top:Bool)(h0:0≤n)(h1:n<l.length):spV (l++[x]) n top=spV l n top:=Qfq h x _ n top h0 h1
def spL (l:List Node)(ks:List Int):List Ev:=ks.flatMap fun k=>spV l k false
theorem Q5G {l:List Node}(h:Wf l)(x:Node){ks:List Int}(hk:InR l ks):spL (l++[x]) ks=spL l ks :=
 congrArg List.flatten (List.map_congr_left fun k hk'=>QlF h x false (hk k hk').1 (hk k hk').2)
theorem QbI (l:List Node)(a b:List Int):spL l (a++b)=spL l a++spL l b:=by simp[spL]
theorem Q8U (l:List Node)(k:Int):spL l [k]=spV l k false:=by simp[spL]
theorem Qc8 {l:List Node}(h:Ar l){kind:Int}(hk:kind≠21)(bs:List UInt8):spV (l++[Qu kind bs]) l.length false=[⟨2,kind,bs⟩]:=by
 have ha:=Q3w h kind bs
 rw[Q9m ha.1.wf (by omega) (by simp only[List.length_append,List.length_singleton];omega),Q2a,if_pos ⟨hk,rfl⟩,ha.2];rfl
theorem Qg8 {l:List Node}(h:Ar l){ks:List Int}(hk:InR l ks):spV (l++[Q1e l 21 ks]) l.length false=⟨1,0,[]⟩::(spL l ks++[⟨3,0,[]⟩]):=by
 have ha:=Q6M h 21 hk
 rw[Q9m ha.1.wf (by omega) (by simp only[List.length_append,List.length_singleton];omega),Q2a,if_neg (fun e=>e.1 rfl),if_neg (by decide),if_neg (by decide)]
 show [_]++spL (l++[Q1e l 21 ks]) ks++_=_
 rw[Q5G h.wf _ hk];rfl
theorem Qkr {l:List Node}(h:Ar l){ks:List Int}(hk:InR l ks):spV (l++[Q1e l 20 ks]) l.length true=spL l ks:=by
 have ha:=Q6M h 20 hk
 rw[Q9m ha.1.wf (by omega) (by simp only[List.length_append,List.length_singleton];omega),Q2a,if_neg (fun e=>by cases e.2),if_pos rfl,if_pos rfl]
 show []++spL (l++[Q1e l 20 ks]) ks++[]=_
 rw[Q5G h.wf _ hk,List.nil_append,List.append_nil]
def evO (l:List Node)(x:Opn):List Ev:=⟨1,0,[]⟩::spL l x.kids
def evS (l:List Node)(s:List Opn):List Ev:=s.flatMap (evO l)
theorem Q6A (l:List Node)(s:List Opn)(x:Opn):evS l (s++[x])=evS l s++evO l x:=by simp[evS]
theorem Q8P {l:List Node}(h:Wf l)(x:Node){s:List Opn}(hs:∀ y∈s,InR l y.kids):evS (l++[x]) s=evS l s :=
 congrArg List.flatten (List.map_congr_left fun y hy=>by unfold evO;rw[Q5G h x (hs y hy)])
structure Rel (m:Mk) (s:RSt):Prop where
 op:s.op=(m.s.drop 1).map Opn.name
 wr:s.wr=m.d
 ev:(⟨1,0,[]⟩:Ev)::s.ev.map Evr.ev=evS m.n m.s
theorem Qg9 {s:List Opn}(hs:s≠[])(x:Opn):(s++[x]).drop 1=s.drop 1++[x]:=by
 cases s with
 |nil=>exact absurd rfl hs
 |cons a r=>rfl
section
variable {m:Mk} {s:RSt} {X:List UInt8} {B D:Nat}
theorem Rel.len (h:Rel m s):s.op.length=m.s.length-1:=by rw[h.op];simp
theorem Rel.wrong (h:Rel m s)(t:Txt)(c f u:Int):Rel (QP t c f u m) (Q2F t c f u s) :=
 ⟨h.op,by show s.wr++_=m.d++_;rw[h.wr],h.ev⟩
theorem Rel.leaf (hm:MkInv m X B D)(h:Rel m s){kind:Int}(hk:kind≠21)(bs:List UInt8)(q:Option (List UInt8))(hq:q.getD []=bs):Rel (Q2N m.n.length (Q1J (Qu kind bs) m)) ⟨s.op,s.ev++[⟨2,kind,q⟩],s.wr⟩:=by
 obtain⟨s0,hs0⟩:=Q25 hm.s1
 generalize QO m.s=y at hs0
 have hr:=hm.rng
 have ho:=h.op
 have he:=h.ev
 rw[hs0] at hr ho he
 have hr0:∀ z∈s0,InR m.n z.kids:=fun z hz=>hr z (List.mem_append_left _ hz)
 have hry:InR m.n y.kids:=hr y (by simp)
 refine⟨?_,h.wr,?_⟩
 ·show s.op=((Q1K m.n.length m.s).drop 1).map Opn.name
  rw[hs0,Q1T,ho]
  cases s0<;>simp
 ·show (⟨1,0,[]⟩:Ev)::(s.ev++[(⟨2,kind,q⟩:Evr)]).map Evr.ev=evS (m.n++[Qu kind bs]) (Q1K m.n.length m.s)
  rw[Q6A] at he
  rw[hs0,Q1T,Q6A,Q8P hm.ar.wf _ hr0]
  unfold evO
  rw[QbI,Q8U,Q5G hm.ar.wf _ hry,Qc8 hm.ar hk,List.map_append,←List.cons_append,he]
  unfold evO Evr.ev
  rw[←hq]
  simp
theorem Rel.push (hm:MkInv m X B D)(h:Rel m s)(bs:List UInt8)(nm:List Int)(k:Int)(hk:k≠21):Rel (Q2N m.n.length (Q1J (Qu k bs) { m with s:=m.s++[⟨nm,[]⟩] })) ⟨s.op++[nm],(s.ev++[⟨1,0,none⟩])++[⟨2,k,some bs⟩],s.wr⟩:=by
 have hne:m.s≠[]:=fun e=>by have:=hm.s1;rw[e] at this;simp at this
 refine⟨?_,h.wr,?_⟩
 ·show s.op++[nm]=((Q1K m.n.length (m.s++[⟨nm,[]⟩])).drop 1).map Opn.name
  rw[Q1T,Qg9 hne,List.map_append,←h.op];rfl
 ·show (⟨1,0,[]⟩:Ev)::((s.ev++[(⟨1,0,none⟩:Evr)])++[(⟨2,k,some bs⟩:Evr)]).map Evr.ev=evS (m.n++[Qu k bs]) (Q1K m.n.length (m.s++[⟨nm,[]⟩]))
  rw[Q1T,Q6A,Q8P hm.ar.wf _ hm.rng,←h.ev]
  unfold evO
  rw[List.nil_append,Q8U,Qc8 hm.ar hk]
  simp[Evr.ev]
theorem Qgj (s0:List Opn)(y x:Opn)(z:List Int):(((s0++[y]++[x]).drop 1).map Opn.name).take ((((s0++[y]++[x]).drop 1).map Opn.name).length-1)=((s0++[(⟨y.name,z⟩:Opn)]).drop 1).map Opn.name:=by
 cases s0 with
 |nil=>rfl
 |cons a r =>
  have e:((a::r++[y]++[x]).drop 1).map Opn.name=(r.map Opn.name++[y.name])++[x.name]:=by simp
  rw[e,List.length_append,List.length_singleton,Nat.add_sub_cancel,List.take_left]
  simp
theorem Rel.shut (hm:MkInv m X B D)(h:Rel m s)(hs:2≤m.s.length){kind:Int}(hk:kind≠21)(bs:List UInt8)(q:Option (List UInt8))(hq:q.getD []=bs) :
  Rel (Q1I m.n.length (Q1J (Qu kind bs) m)) ⟨s.op.take (s.op.length-1),s.ev++[⟨2,kind,q⟩,⟨3,0,none⟩],s.wr⟩:=by
 obtain⟨s0,y,hs1⟩:=Q8c hs
 generalize QO m.s=x at hs1
 obtain⟨en,es⟩:=QbL hs1 kind bs
 obtain⟨ha1,hp1⟩:=Q3w hm.ar kind bs
 have hr:=hm.rng
 have ho:=h.op
 have he:=h.ev
 rw[hs1] at hr ho he
 have hr0:∀ z∈s0,InR m.n z.kids:=fun z hz=>hr z (List.mem_append_left _ (List.mem_append_left _ hz))
 have hry:InR m.n y.kids:=hr y (List.mem_append_left _ (by simp))
 have hrx:InR m.n x.kids:=hr x (by simp)
 have hks:InR (m.n++[Qu kind bs]) (x.kids++[(m.n.length:Int)]):=fun k hk=>by
  rcases List.mem_append.1 hk with hk|hk
  ·exact hrx.more _ k hk
  ·obtain rfl:k=(m.n.length:Int):=by simpa using hk
   simp;omega
 have hsp:=Qg8 ha1 hks
 have e1:spL (m.n++[Qu kind bs]) (x.kids++[(m.n.length:Int)])=spL m.n x.kids++[⟨2,kind,bs⟩]:=by
  rw[QbI,Q8U,Q5G hm.ar.wf _ hrx,Qc8 hm.ar hk]
 rw[e1] at hsp
 obtain⟨l1,hl⟩:=exq (m.n++[Qu kind bs])
 rw[←hl] at hsp en es ha1
 generalize Q1e l1 21 (x.kids++[(m.n.length:Int)])=z at hsp en
 have up0:evS (l1++[z]) s0=evS m.n s0:=by
  rw[Q8P ha1.wf z (fun q hq=>by rw[hl];exact (hr0 q hq).more _),hl,Q8P hm.ar.wf _ hr0]
 have upy:spL (l1++[z]) y.kids=spL m.n y.kids:=by
  rw[Q5G ha1.wf z (by rw[hl];exact hry.more _),hl,Q5G hm.ar.wf _ hry]
 refine⟨?_,h.wr,?_⟩
 ·show s.op.take (s.op.length-1)=_
  rw[es,ho,Qgj]
 ·show (⟨1,0,[]⟩:Ev)::(s.ev++[(⟨2,kind,q⟩:Evr),⟨3,0,none⟩]).map Evr.ev=_
  rw[Q6A,Q6A] at he
  rw[en,es,Q6A,up0,List.map_append,←List.cons_append,he]
  unfold evO
  rw[QbI,Q8U,upy,hsp,←hq]
  simp[Evr.ev]
theorem Rel.miss (hm:MkInv m X B D)(h:Rel m s)(hs:2≤m.s.length)(t:Txt)(a:Int):Rel (Q2x t a m) (Q2j t a s) :=
 Rel.shut (Q1L hm t 4 a a) (h.wrong t 4 a a) hs (kind:=22) (by decide) [] none rfl
end
theorem Rel.missGo (t:Txt)(f:Int)(k:Nat){X:List UInt8}{B D:Nat}:∀ (n:Nat) (m:Mk) (s:RSt),MkInv m X B D→Rel m s→Rel (Go.Proofs.YthbjpdijafccjaaGreat.missGo t f k n m) (Q1k t f k n s)
 |0,m,s,_,h=>h
 |n+1,m,s,hm,h=>by
  show Rel (if _ then _ else _) (if _ then _ else _)
  rw[h.len]
  split
  ·exact Rel.missGo t f k n _ _ (Q4B hm (by omega) t f).1 (h.miss hm (by omega) t f)
  ·exact h
theorem Qfw (s:List Opn)(nm:List Int):∀ k,((Q1F s nm k:Nat):Int)=Q3q ((s.drop 1).map Opn.name) nm k+1
 |0=>rfl
 |k+1=>by
  unfold Q1F Q3q
  have e:((s.drop 1).map Opn.name)[k]?.getD []=(s[k+1]?.getD ⟨[],[]⟩).name:=by
   rw[List.getElem?_map,List.getElem?_drop,Nat.add_comm 1 k]
   cases s[k+1]?<;>rfl
  rw[e]
  split
  ·rfl
  ·exact Qfw s nm k
theorem Q97 (t:Txt)(f:Int)(k:Nat):∀ (n:Nat) (s:RSt),k≤s.op.length→s.op.length≤n+k→(Q1k t f k n s).op.length=k
 |0,s,h1,h2=>by show s.op.length=k;omega
 |n+1,s,h1,h2=>by
  show (if _ then _ else _:RSt).op.length=k
  split
  ·have e:(Q2j t f s).op.length=s.op.length-1:=by show (s.op.take (s.op.length-1)).length=_;rw[List.length_take];omega
   exact Q97 t f k n _ (by omega) (by omega)
  ·omega
section
variable {m:Mk} {s:RSt} {X:List UInt8} {B D:Nat} {t:Txt} {b:List UInt8} {f u:Int}
theorem Rel.lk (hm:MkInv m X B D)(h:Rel m s){kind:Int}(hk:kind≠21):Rel (lkF t b kind f u m) (Q1V t b kind f u s) :=
 Rel.leaf hm h hk (Q13 t b f u) (some (Q13 t b f u)) rfl
theorem Rel.start (hm:MkInv m X B D)(h:Rel m s){kind:Int}(hk:kind≠21):Rel (Q1u t b kind f u m) (Q58 t b kind f u s):=by
 have h1:=hm.s1
 unfold Q1u Q58
 rw[h.len]
 by_cases hc:64<m.s.length
 ·rw[if_pos hc,if_pos (by omega)]
  exact Rel.lk (Q1L hm t 5 f u) (h.wrong t 5 f u) hk
 ·rw[if_neg hc,if_neg (by omega)]
  exact Rel.push hm h (Q13 t b f u) (Qo t f u) kind hk
theorem Rel.end_ (hm:MkInv m X B D)(h:Rel m s){kind:Int}(hk:kind≠21):Rel (Q2I t b kind f u m) (QcW t b kind f u s):=by
 have h1:=hm.s1
 have hf:=Qfw m.s (Qo t f u) (m.s.length-1)
 have hle:=Q4D m.s (Qo t f u) (m.s.length-1)
 rw[←h.op] at hf
 unfold Q2I QcW
 rw[h.len]
 simp only
 generalize hK:Q1F m.s (Qo t f u) (m.s.length-1)=K at hf hle ⊢
 generalize hR:Q3q s.op (Qo t f u) (m.s.length-1)=r at hf ⊢
 by_cases hc:K=0
 ·rw[if_pos hc,if_pos (by omega)]
  exact Rel.lk (Q1L hm t 3 f u) (h.wrong t 3 f u) hk
 ·rw[if_neg hc,if_neg (by omega)]
  have hr:r.toNat+1=K:=by omega
  rw[show m.s.length-1+1=m.s.length by omega,hr]
  obtain⟨h3,h4⟩:=Q7d t f K m.s.length m hm (by omega) (by omega)
  have h5:=Rel.missGo t f K m.s.length m s hm h
  have h6:=h5.len
  have h7:=Rel.shut h3 h5 (by omega) hk (Q13 t b f u) (some (Q13 t b f u)) rfl
  have e:r.toNat=(Q1k t f K m.s.length s).op.length-1:=by omega
  show Rel _ ⟨(Q1k t f K m.s.length s).op.take r.toNat,((Q1k t f K m.s.length s).ev++[_])++[_],_⟩
  rw[e,List.append_assoc]
  exact h7
theorem Rel.token (hm:MkInv m X B D)(h:Rel m s){kind:Int}(hk:kind≠21)(wh:Bool):Rel (Q1Y t b kind f u wh m) (Q9i t b kind f u wh s):=by
 unfold Q1Y Q9i
 simp only
 generalize hm1:(if wh=false then QP t 1 f u m else if (kind=8∨kind=9∨kind=10)∧(QR t.r f u).right=false then QP t 2 f u m else m)=m1
 generalize hs1:(if wh=false then Q2F t 1 f u s else if (kind=8∨kind=9∨kind=10)∧(QR t.r f u).right=false then Q2F t 2 f u s else s)=s1
 have h3:∃ D',MkInv m1 X B D'∧Rel m1 s1:=by
  rw[←hm1,←hs1]
  split
  ·exact⟨_,Q1L hm t 1 f u,h.wrong t 1 f u⟩
  ·split
   ·exact⟨_,Q1L hm t 2 f u,h.wrong t 2 f u⟩
   ·exact⟨_,hm,h⟩
 obtain⟨D',h3,h4⟩:=h3
 split
 ·exact Rel.start h3 h4 hk
 ·split
  ·exact Rel.end_ h3 h4 hk
  ·exact Rel.lk h3 h4 hk
end
theorem Rel.toks {t:Txt}{b:List UInt8}(ok:TxtOk t b)(hr:t.r.length≤1000000):∀ (n k:Nat) (m:Mk) (s:RSt) (B D:Nat),t.r.length-k≤n→k≤t.r.length→MkI m (Q5R t b k) B D→Rel m s →
  Rel ((Q1U t.r k).foldl (Q63 t b) m) ((Q1U t.r k).foldl (Q7o t b) s)
 |0,k,m,s,B,D,h,hk,hi,hc=>by
  rw[Q1q (by omega)];exact hc
 |n+1,k,m,s,B,D,h,hk,hi,hc=>by
  by_cases hlt:k<t.r.length
  ·obtain⟨h1,h2,h3,h4⟩:=Q84 t.r hlt
   rw[Q1W hlt,List.foldl_cons,List.foldl_cons]
   have:=hi.token t b hr (Q11 t.r k).kind (Q11 t.r k).from_ (Q11 t.r k).to (Q11 t.r k).whole
   rw[h1,h2,Q5K ok (by omega) (by omega) (by omega)] at this
   have hkd:(Q11 t.r k).kind≠21:=by
    show (((Qk t.r k).1:Nat):Int)≠21
    have:=Q8u t.r k
    omega
   have h5:Rel (Q1Y t b (Q11 t.r k).kind k ((Qk t.r k).2.1:Nat) (Q11 t.r k).whole m) (Q7o t b s (Q11 t.r k)):=Rel.token hi.i hc hkd _
   exact Rel.toks ok hr n (Qk t.r k).2.1 _ _ (B+3) (D+3) (by omega) h4 this h5
  ·rw[Q1q hlt];exact hc
theorem Qh4 (b:List UInt8):Rel (Q3v b) (Q7i b):=by
 have h0:Rel mk0 ⟨[],[],[]⟩:=⟨rfl,rfl,rfl⟩
 unfold Q3v Q7i
 split
 ·exact Rel.leaf mk0_inv.i h0 (kind:=23) (by decide) _ (some _) rfl
 ·exact h0
theorem Qg6 (b:List UInt8)(hb:b.length≤100000):(Q2v b).wr=(QG b).d∧(Q2v b).ev.map Evr.ev=spV (Q15 (QG b)).n (QG b).n.length true:=by
 have hs:=Q66 b hb
 have ok:=(Q3D b).1
 have hi:=Q6v b
 obtain⟨h1,h2⟩:=Qbj ok hs.hr hi
 have h3:=Rel.toks ok hs.hr (Qd b).r.length 0 _ _ _ _ (by omega) (by omega) hi (Qh4 b)
 have h4:=(Q9z ok hs.hr (Qd b).r.length 0 _ _ _ (by omega) (by omega) hi)
 have hR:Rel (QG b) (Q2v b):=by
  show Rel (missGo _ _ _ _ _) (Q1k _ _ _ _ _)
  have e:=h3.len
  have hs1:=h4.i.s1
  show Rel (missGo (Qd b) _ 0 ((Q1U (Qd b).r 0).foldl (Q63 (Qd b) b) (Q3v b)).s.length ((Q1U (Qd b).r 0).foldl (Q63 (Qd b) b) (Q3v b))) (Q1k (Qd b) _ 0 (((Q1U (Qd b).r 0).foldl (Q7o (Qd b) b) (Q7i b)).op.length+1) ((Q1U (Qd b).r 0).foldl (Q7o (Qd b) b) (Q7i b)))
  rw[e,show ∀ x:Nat,1≤x→x-1+1=x from fun x hx=>by omega]
  ·exact Rel.missGo _ _ _ _ _ _ h4.i h3
  ·exact hs1
 refine⟨hR.wr,?_⟩
 have h2:(QG b).s.length=1:=h2
 obtain⟨x,hx⟩:=List.length_eq_one_iff.1 h2
 have hr:=h1.i.rng
 have hx':(Q86 (Qd b) b (Q3v b)).s=[x]:=hx
 rw[hx'] at hr
 have he:=hR.ev
 rw[hx] at he
 have he2:(Q2v b).ev.map Evr.ev=spL (QG b).n x.kids:=by
  have:evS (QG b).n [x]=⟨1,0,[]⟩::spL (QG b).n x.kids:=by simp[evS,evO]
  rw[this] at he
  exact (List.cons.inj he).2
 rw[he2]
 have e3:(Q15 (QG b)).n=(QG b).n++[Q1e (QG b).n 20 x.kids]:=by
  show (QG b).n++[Q1e (QG b).n 20 (QO (QG b).s).kids]=_
  rw[hx];rfl
 rw[e3]
 exact (Qkr h1.i.ar (hr x (by simp))).symm
end Go.Proofs.YthbjpdijafccjaaGreat
