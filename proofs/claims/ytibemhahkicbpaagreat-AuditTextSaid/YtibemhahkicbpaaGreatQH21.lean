/-
  Parts of the proof, joined: ClM ClC Uc. Conditions: as each theorem says.
-/
import Derived.Test.YtibemhahkicbpaaGreatQH20
import Derived.Test.YtibemhahkicbpaaGreatQH04
import Derived.Test.YtibemhahkicbpaaGreatQH11
set_option maxRecDepth 100000
set_option maxHeartbeats 8000000
namespace Go.Proofs.YtibemhahkicbpaaGreat
open Go.RowKit Go.Lib
def elM (l:List Node)(x:Node):Bool:=decide (x.kind=21)&&decide (Q2N l (x.kids.getLast?.getD (-1))=22)
def n01 (b:Bool):Nat:=if b then 1 else 0
def cmF (l:List Node):Nat→Int→Nat
 |0,_=>0
 |f+1,n=>n01 (elM l (Qk l n))+((Qk l n).kids.map (cmF l f)).sum
def cm (l:List Node)(n:Int):Nat:=cmF l (n.toNat+1) n
theorem Qbb {l:List Node}(hw:Wf l):∀ (f f':Nat) (n:Int),0≤n→n<l.length→n.toNat<f→n.toNat<f'→cmF l f n=cmF l f' n
 |0,_,_,_,_,h,_=>by omega
 |_+1,0,_,_,_,_,h=>by omega
 |f+1,f'+1,n,h0,h1,h2,h3=>by
  simp only[cmF]
  congr 2
  refine List.map_congr_left fun k hk=>?_
  have:=hw n h0 h1 k hk
  exact Qbb hw f f' k this.1 (by omega) (by omega) (by omega)
theorem Qja {l:List Node}(hw:Wf l){n:Int}(h0:0≤n)(h1:n<l.length):cm l n=n01 (elM l (Qk l n))+((Qk l n).kids.map (cm l)).sum:=by
 show cmF l (n.toNat+1) n=_
 simp only[cmF]
 congr 2
 refine List.map_congr_left fun k hk=>?_
 have:=hw n h0 h1 k hk
 exact Qbb hw _ _ k this.1 (by omega) (by omega) (by omega)
theorem Q4A {l:List Node}{x:Node}{n:Int}(h0:0≤n)(h1:n<l.length):Q2N (l++[x]) n=Q2N l n:=by unfold Q2N;rw[Q1Y h0 h1]
theorem Q7S {l:List Node}{x:Node}:Q2N (l++[x]) l.length=x.kind:=by unfold Q2N;rw[Q2r]
theorem QfU (l:List Node):Q2N l (-1)=0:=by unfold Q2N;rw[Q4c (by omega)];rfl
theorem QcT {l:List Node}{x:Node}(hx:InR l x.kids)(z:Node):elM (l++[z]) x=elM l x:=by
 unfold elM
 cases h:x.kids.getLast? with
 |none=>simp only[Option.getD_none,QfU]
 |some k =>
  have:=hx k (List.mem_of_getLast? h)
  simp only[Option.getD_some,Q4A this.1 this.2]
theorem Qdf {l:List Node}(h:Wf l)(x:Node):∀ (f:Nat) (n:Int),0≤n→n<l.length→cmF (l++[x]) f n=cmF l f n
 |0,_,_,_=>rfl
 |f+1,n,h0,h1=>by
  have hr:InR l (Qk l n).kids:=fun k hk=>by have:=h n h0 h1 k hk;omega
  simp only[cmF,Q1Y h0 h1,QcT hr]
  congr 2
  refine List.map_congr_left fun k hk=>?_
  have:=hr k hk
  exact Qdf h x f k this.1 this.2
theorem QiT {l:List Node}(h:Wf l)(x:Node){n:Int}(h0:0≤n)(h1:n<l.length):cm (l++[x]) n=cm l n:=Qdf h x _ n h0 h1
def cmL (l:List Node)(ks:List Int):Nat:=(ks.map (cm l)).sum
theorem Q4T {l:List Node}(h:Wf l)(x:Node){ks:List Int}(hk:InR l ks):cmL (l++[x]) ks=cmL l ks :=
 congrArg List.sum (List.map_congr_left fun k hk'=>QiT h x (hk k hk').1 (hk k hk').2)
theorem Qg1 {l:List Node}(h:Wf l){x:Node}(hx:InR l x.kids):cm (l++[x]) l.length=n01 (elM l x)+cmL l x.kids:=by
 rw[Qja (Q7P h hx) (by omega) (by simp only[List.length_append,List.length_singleton];omega),Q2r,QcT hx]
 exact congrArg (n01 (elM l x) + ·) (Q4T h x hx)
theorem Q77 (l:List Node)(a b:List Int):cmL l (a++b)=cmL l a+cmL l b:=by simp[cmL]
theorem Q75 (l:List Node)(k:Int):cmL l [k]=cm l k:=by simp[cmL]
def cmK (l:List Node)(s:List Opn):Nat:=(s.map fun x=>cmL l x.kids).sum
theorem Q53 (l:List Node)(s:List Opn)(x:Opn):cmK l (s++[x])=cmK l s+cmL l x.kids:=by simp[cmK]
theorem Q7a {l:List Node}(h:Wf l)(x:Node){s:List Opn}(hs:∀ y∈s,InR l y.kids):cmK (l++[x]) s=cmK l s :=
 congrArg List.sum (List.map_congr_left fun y hy=>Q4T h x (hs y hy))
theorem Qg8 (l:List Node){kind:Int}(hk:kind≠21)(bs:List UInt8):elM l (Ql kind bs)=false:=by
 unfold elM
 rw[decide_eq_false (show ¬ (Ql kind bs).kind=21 from hk)];rfl
theorem QgR (l:List Node)(kind:Int)(bs:List UInt8):InR l (Ql kind bs).kids:=fun k hk=>by cases hk
theorem Q9I {l:List Node}(h:Wf l){kind:Int}(hk:kind≠21)(bs:List UInt8):cm (l++[Ql kind bs]) l.length=0:=by
 rw[Qg1 h (QgR l kind bs),Qg8 l hk];rfl
def Qih (nm:List Int):Prop:=∃ r0 rs,nm=r0::rs∧QZ r0=true
def nmN (K:Int)(l:List Node)(n:Int):List Int:=Q5W (Q4I K (pr l n))
structure StOk (K:Int) (l:List Node) (y:Opn) (k0:Int) (r:List Int):Prop where
 k:y.kids=k0::r
 s:Q2N l k0=8
 n:nmN K l k0=y.name
 l:Qih y.name
structure ElIs (K:Int) (l:List Node) (ks:List Int) (k0:Int) (r:List Int) (kl:Int):Prop where
 k:ks=k0::(r++[kl])
 s:Q2N l k0=8
 ld:Qih (nmN K l k0)
 e:Q2N l kl=22∨(Q2N l kl=10∧nmN K l kl=nmN K l k0)
def QbP (K:Int)(l:List Node)(n:Int):Prop:=Q2N l n=21→∃ k0 r kl,ElIs K l (Qk l n).kids k0 r kl
theorem Qa3 (K:Int){l:List Node}(h:Wf l)(x:Node){n:Int}(h0:0≤n)(h1:n<l.length):nmN K (l++[x]) n=nmN K l n:=by unfold nmN;rw[Q9X h x h0 h1]
theorem StOk.old {K:Int}{l:List Node}(h:Wf l){y:Opn}{k0:Int}{r:List Int}(hr:InR l y.kids)(hs:StOk K l y k0 r)(x:Node):StOk K (l++[x]) y k0 r:=by
 have:=hr k0 (by rw[hs.k];simp)
 exact⟨hs.k,by rw[Q4A this.1 this.2];exact hs.s,by rw[Qa3 K h x this.1 this.2];exact hs.n,hs.l⟩
theorem ElIs.old {K:Int}{l:List Node}(h:Wf l){ks:List Int}{k0:Int}{r:List Int}{kl:Int}(hr:InR l ks)(hs:ElIs K l ks k0 r kl)(x:Node):ElIs K (l++[x]) ks k0 r kl:=by
 have h1:=hr k0 (by rw[hs.k];simp)
 have h2:=hr kl (by rw[hs.k];simp)
 refine⟨hs.k,?_,?_,?_⟩
 ·rw[Q4A h1.1 h1.2];exact hs.s
 ·rw[Qa3 K h x h1.1 h1.2];exact hs.ld
 ·rw[Q4A h2.1 h2.2,Qa3 K h x h1.1 h1.2,Qa3 K h x h2.1 h2.2];exact hs.e
theorem Qir {K:Int}{l:List Node}(h:Wf l){n:Int}(h0:0≤n)(h1:n<l.length)(he:QbP K l n)(x:Node):QbP K (l++[x]) n:=fun hk=>by
 rw[Q4A h0 h1] at hk
 obtain⟨k0,r,kl,hs⟩:=he hk
 rw[Q1Y h0 h1]
 exact⟨k0,r,kl,hs.old h (fun k hk=>by have:=h n h0 h1 k hk;omega) x⟩
theorem Q9B {K:Int}{l:List Node}(h:Wf l)(he:∀ n:Int,0≤n→n<l.length→QbP K l n){x:Node}(hx:QbP K (l++[x]) l.length):∀ n:Int,0≤n→n<(l++[x]).length→QbP K (l++[x]) n:=fun n h0 h1=>by
 simp only[List.length_append,List.length_singleton] at h1
 by_cases h2:n<l.length
 ·exact Qir h h0 h2 (he n h0 h2) x
 ·obtain rfl:n=l.length:=by omega
  exact hx
theorem QbR {K:Int}{l:List Node}{x:Node}(hk:x.kind≠21):QbP K (l++[x]) l.length:=fun h=>by
 rw[Q7S] at h;exact absurd h hk
theorem Q2i {s:List Opn}{x z:Opn}:z∈(s++[x]).drop 1↔z∈s.drop 1∨(s≠[]∧z=x):=by
 cases s<;>simp
structure CIn (K:Int) (m:Mk) (c:Nat):Prop where
 el:∀ n:Int,0≤n→n<m.n.length→QbP K m.n n
 st:∀ y∈m.s.drop 1,∃ k0 r,StOk K m.n y k0 r
 cm:cmK m.n m.s=c
section
variable {K:Int} {m:Mk} {X:List UInt8} {B D c:Nat}
theorem CIn.wrong (h:CIn K m c)(t:Txt)(d f u:Int):CIn K (Qu t d f u m) c:=⟨h.el,h.st,h.cm⟩
theorem CIn.leaf (h:MkInv m X B D)(hc:CIn K m c){kind:Int}(hk:kind≠21)(bs:List UInt8):CIn K (Q2d m.n.length (Q15 (Ql kind bs) m)) c:=by
 obtain⟨s0,hs0⟩:=Q1w h.s1
 generalize Qt m.s=y at hs0
 have hr:=h.rng
 have hst:=hc.st
 have hcm:=hc.cm
 rw[hs0] at hr hst hcm
 have hr0:∀ z∈s0,InR m.n z.kids:=fun z hz=>hr z (List.mem_append_left _ hz)
 have hry:InR m.n y.kids:=hr y (by simp)
 refine⟨?_,?_,?_⟩
 ·exact Q9B h.ar.wf hc.el (QbR hk)
 ·show ∀ z∈(Q1b m.n.length m.s).drop 1,∃ k0 r,StOk K (m.n++[Ql kind bs]) z k0 r
  rw[hs0,Q1E]
  intro z hz
  rcases Q2i.1 hz with hz|⟨hne,rfl⟩
  ·obtain⟨k0,r,hs⟩:=hst z (Q2i.2 (.inl hz))
   exact⟨k0,r,hs.old h.ar.wf (hr0 z (List.mem_of_mem_drop hz)) _⟩
  ·obtain⟨k0,r,hs⟩:=hst y (Q2i.2 (.inr ⟨hne,rfl⟩))
   have hs:=hs.old h.ar.wf hry (Ql kind bs)
   exact⟨k0,r++[(m.n.length:Int)],by show y.kids++_=_;rw[hs.k];rfl,hs.s,hs.n,hs.l⟩
 ·show cmK (m.n++[Ql kind bs]) (Q1b m.n.length m.s)=c
  rw[Q53] at hcm
  rw[hs0,Q1E,Q53,Q77,Q75,Q7a h.ar.wf _ hr0,Q4T h.ar.wf _ hry,Q9I h.ar.wf hk]
  exact hcm
theorem CIn.push (h:MkInv m X B D)(hc:CIn K m c)(bs:List UInt8){nm:List Int}(hn:Q5W (Q4I K bs)=nm)(hl:Qih nm):CIn K (Q2d m.n.length (Q15 (Ql 8 bs) { m with s:=m.s++[⟨nm,[]⟩] })) c:=by
 have ha:=(Q36 h.ar 8 bs)
 have hks:∀ z∈m.s,InR m.n z.kids:=h.rng
 refine⟨?_,?_,?_⟩
 ·exact Q9B h.ar.wf hc.el (QbR (by show (8:Int)≠21;decide))
 ·show ∀ z∈(Q1b m.n.length (m.s++[⟨nm,[]⟩])).drop 1,∃ k0 r,StOk K (m.n++[Ql 8 bs]) z k0 r
  rw[Q1E]
  intro z hz
  rcases Q2i.1 hz with hz|⟨hne,rfl⟩
  ·obtain⟨k0,r,hs⟩:=hc.st z hz
   exact⟨k0,r,hs.old h.ar.wf (hks z (List.mem_of_mem_drop hz)) _⟩
  ·refine⟨m.n.length,[],rfl,Q7S,?_,hl⟩
   unfold nmN
   rw[ha.2];exact hn
 ·show cmK (m.n++[Ql 8 bs]) (Q1b m.n.length (m.s++[⟨nm,[]⟩]))=c
  rw[Q1E,Q53,Q77,Q75,Q7a h.ar.wf _ hks,Q9I h.ar.wf (by decide)]
  exact hc.cm
theorem QcI {s0:List Opn}{y x:Opn}(hs1:m.s=s0++[y]++[x])(kind:Int)(bs:List UInt8) :
  (Q12 m.n.length (Q15 (Ql kind bs) m)).n=(m.n++[Ql kind bs])++[QQ (m.n++[Ql kind bs]) 21 (x.kids++[(m.n.length:Int)])]∧(Q12 m.n.length (Q15 (Ql kind bs) m)).s=s0++[⟨y.name,y.kids++[((m.n++[Ql kind bs]).length:Int)]⟩]:=by
 have eT:Qt (Q2d (m.n.length:Int) (Q15 (Ql kind bs) m)).s=⟨x.name,x.kids++[(m.n.length:Int)]⟩:=by
  show Qt (Q1b m.n.length m.s)=_
  rw[hs1,Q1E,Q6g]
 constructor
 ·show (m.n++[Ql kind bs])++[QQ (m.n++[Ql kind bs]) 21 (Qt (Q2d (m.n.length:Int) (Q15 (Ql kind bs) m)).s).kids]=_
  rw[eT]
 ·show Q1b ((m.n++[Ql kind bs]).length:Int) ((Q1b m.n.length m.s).take ((Q1b m.n.length m.s).length-1))=_
  have e2:(Q1b m.n.length m.s).take ((Q1b m.n.length m.s).length-1)=s0++[y]:=by
   rw[hs1,Q1E,show (s0++[y]++[(⟨x.name,x.kids++[(m.n.length:Int)]⟩:Opn)]).length-1=(s0++[y]).length by simp]
   exact List.take_left
  rw[e2,Q1E]
theorem Q8R {s:List Opn}(hs:2≤s.length):∃ s0 y,s=s0++[y]++[Qt s]:=by
 obtain⟨s1,hs1⟩:=Q1w (s:=s) (by omega)
 have hl1:1≤s1.length:=by rw[hs1] at hs;simp at hs;omega
 obtain⟨s0,hs0⟩:=Q1w hl1
 exact⟨s0,Qt s1,by rw[←hs0];exact hs1⟩
theorem CIn.shut (h:MkInv m X B D)(hc:CIn K m c)(hs:2≤m.s.length){kind:Int}(bs:List UInt8)(hk:kind=22∨(kind=10∧Q5W (Q4I K bs)=(Qt m.s).name)):CIn K (Q12 m.n.length (Q15 (Ql kind bs) m)) (c+n01 (decide (kind=22))):=by
 obtain⟨s0,y,hs1⟩:=Q8R hs
 generalize Qt m.s=x at hs1 hk
 obtain⟨en,es⟩:=QcI hs1 kind bs
 have hk21:kind≠21:=by omega
 obtain⟨ha1,hp1⟩:=Q36 h.ar kind bs
 have hr:=h.rng
 have hst:=hc.st
 have hcm:=hc.cm
 rw[hs1] at hr hst hcm
 have hr0:∀ z∈s0,InR m.n z.kids:=fun z hz=>hr z (List.mem_append_left _ (List.mem_append_left _ hz))
 have hry:InR m.n y.kids:=hr y (List.mem_append_left _ (by simp))
 have hrx:InR m.n x.kids:=hr x (by simp)
 have hks:InR (m.n++[Ql kind bs]) (x.kids++[(m.n.length:Int)]):=fun k hk=>by
  rcases List.mem_append.1 hk with hk|hk
  ·exact hrx.more _ k hk
  ·obtain rfl:k=(m.n.length:Int):=by simpa using hk
   simp;omega
 obtain⟨k0,r,hx⟩:=hst x (Q2i.2 (.inr ⟨by simp,rfl⟩))
 have hx1:=hx.old h.ar.wf hrx (Ql kind bs)
 obtain⟨l1,hl⟩:=exq (m.n++[Ql kind bs])
 have hl1:((m.n++[Ql kind bs]).length:Int)=l1.length:=by rw[hl]
 have hel1:=Q9B h.ar.wf hc.el (x:=Ql kind bs) (QbR hk21)
 have hnew:Q2N (m.n++[Ql kind bs]) m.n.length=kind:=Q7S
 have hnmn:nmN K (m.n++[Ql kind bs]) m.n.length=Q5W (Q4I K bs):=by unfold nmN;rw[hp1]
 have up0:∀ z:Node,cmK (l1++[z]) s0=cmK m.n s0:=fun z=>by
  rw[Q7a (by rw[hl];exact ha1.wf) z (fun q hq=>by rw[hl];exact (hr0 q hq).more _),hl,Q7a h.ar.wf _ hr0]
 have upy:∀ z:Node,cmL (l1++[z]) y.kids=cmL m.n y.kids:=fun z=>by
  rw[Q4T (by rw[hl];exact ha1.wf) z (by rw[hl];exact hry.more _),hl,Q4T h.ar.wf _ hry]
 have e1:cmL l1 (x.kids++[(m.n.length:Int)])=cmL m.n x.kids:=by
  rw[hl,Q77,Q75,Q4T h.ar.wf _ hrx,Q9I h.ar.wf hk21];rfl
 rw[←hl] at ha1 hks hx1 hel1 en es hnew hnmn
 obtain⟨z,hz⟩:=exq (QQ l1 21 (x.kids++[(m.n.length:Int)]))
 rw[←hz] at en
 have hzk:z.kids=x.kids++[(m.n.length:Int)]:=by rw[hz];rfl
 have hzm:elM l1 z=decide (kind=22):=by
  unfold elM
  rw[hzk,List.getLast?_concat,Option.getD_some,hnew,hz];rfl
 refine⟨?_,?_,?_⟩
 ·rw[en]
  refine Q9B ha1.wf hel1 (fun _=>⟨k0,r,m.n.length,?_⟩)
  rw[Q2r,hzk]
  refine ElIs.old ha1.wf hks ⟨by rw[hx1.k];rfl,hx1.s,?_,?_⟩ z
  ·rw[hx1.n];exact hx1.l
  ·rw[hnew,hnmn,hx1.n];exact hk
 ·rw[en,es]
  intro q hq
  rcases Q2i.1 hq with hq|⟨hne,rfl⟩
  ·obtain⟨q0,qr,hq1⟩:=hst q (Q2i.2 (.inl (Q2i.2 (.inl hq))))
   have hqr:=hr0 q (List.mem_of_mem_drop hq)
   have hq2:=hq1.old h.ar.wf hqr (Ql kind bs)
   rw[←hl] at hq2
   exact⟨q0,qr,hq2.old ha1.wf (by rw[hl];exact hqr.more _) z⟩
  ·obtain⟨q0,qr,hq1⟩:=hst y (Q2i.2 (.inl (Q2i.2 (.inr ⟨hne,rfl⟩))))
   have hq2:=hq1.old h.ar.wf hry (Ql kind bs)
   rw[←hl] at hq2
   have hq3:=hq2.old ha1.wf (by rw[hl];exact hry.more _) z
   exact⟨q0,qr++[(l1.length:Int)],by show y.kids++_=_;rw[hq3.k];rfl,hq3.s,hq3.n,hq3.l⟩
 ·rw[en,es,Q53,Q77,Q75,up0,upy,Qg1 ha1.wf (by rw[hzk];exact hks),hzm,hzk,e1]
  rw[Q53,Q53] at hcm
  omega
def Q8C (d:List Dg):Nat:=(d.filter fun x=>decide (x.c=4)).length
theorem Qat (d:List Dg)(x:Dg):Q8C (d++[x])=Q8C d+n01 (decide (x.c=4)):=by
 unfold Q8C n01
 rw[List.filter_append,List.length_append]
 by_cases h:x.c=4<;>simp[h]
def sz (m:Mk):Nat:=m.n.length+2 * m.s.length
structure CI (K:Int) (m:Mk) (S:Nat):Prop where
 c:CIn K m (Q8C m.d)
 z:2 * sz m≤S
theorem CI.wrong {S:Nat}(h:CI K m S)(t:Txt){d f u:Int}(hd:d≠4):CI K (Qu t d f u m) S:=by
 refine⟨?_,h.z⟩
 have:Q8C (Qu t d f u m).d=Q8C m.d:=by
  show Q8C (m.d++[_])=_
  rw[Qat,decide_eq_false (show ¬ d=4 from hd)];rfl
 rw[this]
 exact h.c.wrong t d f u
theorem CI.lk {S:Nat}(h:MkI m X B D)(hc:CI K m S)(t:Txt)(b:List UInt8){kind:Int}(hk:kind≠21)(f u:Int):CI K (lkF t b kind f u m) (S+2):=by
 refine⟨hc.c.leaf h.i hk _,?_⟩
 have:=hc.z
 show 2 * ((m.n++[_]).length+2 * (Q1b _ m.s).length)≤_
 unfold sz at this
 rw[Q3r]
 simp only[List.length_append,List.length_singleton]
 omega
theorem Qcn (last:Int)(hs:1≤m.s.length)(kind:Int)(bs:List UInt8):sz (Q12 last (Q15 (Ql kind bs) m))=sz m:=by
 have e1:(Q12 last (Q15 (Ql kind bs) m)).s.length=m.s.length-1:=by
  show (Q1b _ ((Q1b _ m.s).take ((Q1b _ m.s).length-1))).length=_
  rw[Q3r,List.length_take,Q3r];omega
 have e2:(Q12 last (Q15 (Ql kind bs) m)).n.length=m.n.length+2:=by
  show ((m.n++[_])++[_]).length=_
  simp
 unfold sz
 omega
theorem CI.miss {S:Nat}(h:MkI m X B D)(hc:CI K m S)(hs:2≤m.s.length)(t:Txt)(a:Int):CI K (Q1P t a m) S:=by
 refine⟨?_,?_⟩
 ·have h2:=CIn.shut (h.wrong t 4 a a).i (hc.c.wrong t 4 a a) hs (kind:=22) [] (.inl rfl)
  have:Q8C (Q1P t a m).d=Q8C m.d+1:=by
   show Q8C (m.d++[_])=_
   rw[Qat];rfl
  rw[this]
  exact h2
 ·have:sz (Q1P t a m)=sz m:=Qcn _ (by show 1≤m.s.length;omega) 22 []
  rw[this];exact hc.z
theorem Qcg (t:Txt)(a:Int)(hs:2≤m.s.length):(Q1P t a m).s.map Opn.name <+: m.s.map Opn.name:=by
 obtain⟨s0,y,hs1⟩:=Q8R hs
 have e:=(QcI (m:=Qu t 4 a a m) (s0:=s0) (y:=y) (x:=Qt m.s) hs1 22 []).2
 have e:(Q1P t a m).s=_:=e
 rw[e,hs1]
 exact⟨[(Qt m.s).name],by simp⟩
end
theorem CI.missGo {K:Int}(t:Txt)(f:Int)(k:Nat){X:List UInt8}{B D S:Nat}:∀ (n:Nat) (m:Mk),MkI m X B D→CI K m S→k+1≤m.s.length→m.s.length≤n+k+1→CI K (missGo t f k n m) S∧(Go.Proofs.YtibemhahkicbpaaGreat.missGo t f k n m).s.map Opn.name <+: m.s.map Opn.name
 |0,m,_,hc,_,_=>⟨hc,List.prefix_refl _⟩
 |n+1,m,h,hc,h1,h2=>by
  show CI K (if _ then _ else _) S∧(if _ then _ else _:Mk).s.map Opn.name <+: _
  split
  ·have h3:=Q3N h.i (by omega) t f
   have ih:=CI.missGo t f k n _ (h.miss (by omega) t f) (hc.miss h (by omega) t f) (by omega) (by omega)
   exact⟨ih.1,ih.2.trans (Qcg t f (by omega))⟩
  ·exact⟨hc,List.prefix_refl _⟩
theorem Q6h (s:List Opn)(nm:List Int):∀ k,Q1g s nm k≠0→(s[Q1g s nm k]?.getD ⟨[],[]⟩).name=nm
 |0,h=>absurd rfl h
 |k+1,h=>by
  unfold Q1g at h ⊢
  split at h
  ·rename_i h1
   rw[if_pos h1];exact h1
  ·rename_i h1
   rw[if_neg h1];exact Q6h s nm k h
theorem Q7u (b:List UInt8){f u:Int}(h0:0≤f)(h1:f≤u)(h2:u≤(Q9 b).r.length):Q5W (Q4I (Q9 b).kind (QM (Q9 b) b f u))=Qw (Q9 b) f u:=by
 rw[Qbm b h0 h1 h2,Q7W _ h0 h1 h2]
section
variable {m:Mk} {X:List UInt8} {B D S:Nat} {b:List UInt8} {f u:Int}
theorem CI.end_ (h:MkI m X B D)(hc:CI (Q9 b).kind m S)(h0:0≤f)(h1:f≤u)(h2:u≤(Q9 b).r.length):CI (Q9 b).kind (Q2b (Q9 b) b 10 f u m) (S+2):=by
 unfold Q2b
 have hs1:=h.i.s1
 have hle:=Q49 m.s (Qw (Q9 b) f u) (m.s.length-1)
 simp only
 split
 ·exact CI.lk (h.wrong (Q9 b) 3 f u) (hc.wrong (Q9 b) (by decide)) (Q9 b) b (by decide) f u
 ·rename_i hk0
  have hnm:=Q6h m.s (Qw (Q9 b) f u) (m.s.length-1) hk0
  obtain⟨k,hk⟩:=exq (Q1g m.s (Qw (Q9 b) f u) (m.s.length-1))
  rw[←hk] at hk0 hle hnm ⊢
  obtain⟨h3,h4⟩:=MkI.missGo (Q9 b) f k m.s.length m h (by omega) (by omega)
  obtain⟨h5,tl,h6⟩:=CI.missGo (Q9 b) f k m.s.length m h hc (by omega) (by omega)
  obtain⟨m1,hm1⟩:=exq (Go.Proofs.YtibemhahkicbpaaGreat.missGo (Q9 b) f k m.s.length m)
  rw[←hm1] at h3 h4 h5 h6 ⊢
  have htop:(Qt m1.s).name=Qw (Q9 b) f u:=by
   rw[←hnm]
   have e1:(m.s.map Opn.name)[k]?=(m1.s.map Opn.name)[k]?:=by
    rw[←h6,List.getElem?_append_left (by rw[List.length_map];omega)]
   rw[List.getElem?_map,List.getElem?_map] at e1
   unfold Qt
   rw[h4,Nat.add_sub_cancel]
   have hk1:k<m.s.length:=by omega
   have hk2:k<m1.s.length:=by omega
   rw[List.getElem?_eq_getElem hk1,List.getElem?_eq_getElem hk2] at e1 ⊢
   simp only[Option.map_some,Option.some.injEq] at e1
   exact e1.symm
  refine⟨?_,?_⟩
  ·have:=CIn.shut h3.i h5.c (by omega) (kind:=10) (QM (Q9 b) b f u) (.inr ⟨rfl,by rw[Q7u b h0 h1 h2,htop]⟩)
   exact this
  ·have e:sz (Q12 m1.n.length (Q1r (Q9 b) b 10 f u m1))=sz m1:=Qcn _ (by omega) 10 _
   rw[e]
   exact Nat.le_trans h5.z (by omega)
theorem CI.start (h:MkI m X B D)(hc:CI (Q9 b).kind m S)(h0:0≤f)(h1:f≤u)(h2:u≤(Q9 b).r.length)(hn:Qw (Q9 b) f u≠[]):CI (Q9 b).kind (QV (Q9 b) b 8 f u m) (S+6):=by
 unfold QV
 split
 ·have:=CI.lk (h.wrong (Q9 b) 5 f u) (hc.wrong (Q9 b) (by decide)) (Q9 b) b (kind:=8) (by decide) f u
  exact⟨this.c,Nat.le_trans this.z (by omega)⟩
 ·refine⟨hc.c.push h.i (QM (Q9 b) b f u) (Q7u b h0 h1 h2) (Q9a _ h0 h1 h2 hn).2,?_⟩
  have:=hc.z
  show 2 * ((m.n++[_]).length+2 * (Q1b _ (m.s++[_])).length)≤_
  unfold sz at this
  rw[Q3r]
  simp only[List.length_append,List.length_singleton]
  omega
theorem CI.token (h:MkI m X B D)(hc:CI (Q9 b).kind m S){kind:Int}(hk:kind≠21)(h0:0≤f)(h1:f<u)(h2:u≤(Q9 b).r.length)(wh:Bool):CI (Q9 b).kind (Q1A (Q9 b) b kind f u wh m) (S+3 * (u-f).toNat):=by
 unfold Q1A
 simp only
 generalize hm1:(if wh=false then Qu (Q9 b) 1 f u m else if (kind=8∨kind=9∨kind=10)∧(QJ (Q9 b).r f u).right=false then Qu (Q9 b) 2 f u m else m)=m1
 have h3:∃ D',MkI m1 X B D':=by
  rw[←hm1]
  split
  ·exact⟨_,h.wrong (Q9 b) 1 f u⟩
  ·split
   ·exact⟨_,h.wrong (Q9 b) 2 f u⟩
   ·exact⟨_,h⟩
 have hc1:CI (Q9 b).kind m1 S:=by
  rw[←hm1]
  split
  ·exact hc.wrong (Q9 b) (by decide)
  ·split
   ·exact hc.wrong (Q9 b) (by decide)
   ·exact hc
 obtain⟨D',h3⟩:=h3
 split
 ·rename_i hs
  obtain⟨_,rfl,hs⟩:=hs
  have hn:Qw (Q9 b) f u≠[]:=List.length_pos_iff.1 hs
  have h4:=CI.start h3 hc1 h0 (by omega) h2 hn
  have h5:=(Q9a _ h0 (by omega) h2 hn).1
  exact⟨h4.c,Nat.le_trans h4.z (by omega)⟩
 ·split
  ·rename_i hs
   obtain⟨_,rfl⟩:=hs
   have h4:=CI.end_ h3 hc1 h0 (by omega) h2
   exact⟨h4.c,Nat.le_trans h4.z (by omega)⟩
  ·have h4:=CI.lk h3 hc1 (Q9 b) b hk f u
   exact⟨h4.c,Nat.le_trans h4.z (by omega)⟩
end
theorem Qew (l:List Int)(k:Nat):(Q39 l k).1≠21:=by
 unfold Q39
 repeat' split
 all_goals (intro h;simp at h)
theorem Q5u (l:List Int)(kd k skip:Nat)(bs:List UInt8):(QP l kd k skip bs).1=kd:=by unfold QP;split<;>rfl
theorem Qbd (l:List Int)(k:Nat):(QA l k).1≠21:=by
 unfold QA
 split
 ·unfold Q26
  split
  ·rw[Q5u];decide
  ·split
   ·rw[Q5u];decide
   ·split
    ·rw[Q5u];decide
    ·split
     ·exact (by decide:(7:Nat)≠21)
     ·split
      ·exact (by decide:(10:Nat)≠21)
      ·split
       ·unfold Q1W
        repeat' split
        all_goals (intro h;simp at h)
       ·exact (by decide:(11:Nat)≠21)
 ·split
  ·exact Qew l k
  ·split
   ·exact (by decide:(11:Nat)≠21)
   ·exact (by decide:(1:Nat)≠21)
theorem CI.toks {b:List UInt8}(hb:b.length≤1000000):∀ (n k:Nat) (m:Mk) (B D S:Nat),(Q9 b).r.length-k≤n→k≤(Q9 b).r.length→MkI m (Q4B (Q9 b) b k) B D→CI (Q9 b).kind m S →
  CI (Q9 b).kind ((Q2q (Q9 b).r k).foldl (Q5R (Q9 b) b) m) (S+3 * ((Q9 b).r.length-k))
 |0,k,m,B,D,S,h,hk,hi,hc=>by
  rw[Q1o (by omega)]
  exact⟨hc.c,Nat.le_trans hc.z (by omega)⟩
 |n+1,k,m,B,D,S,h,hk,hi,hc=>by
  have ok:=(Q3d b).1
  have hr:(Q9 b).r.length≤1000000:=Nat.le_trans (Q3d b).2.2.1 hb
  by_cases hlt:k<(Q9 b).r.length
  ·obtain⟨h1,h2,h3,h4⟩:=Qa1 (Q9 b).r hlt
   rw[Q1X hlt,List.foldl_cons]
   have:=hi.token (Q9 b) b hr (QI (Q9 b).r k).kind (QI (Q9 b).r k).from_ (QI (Q9 b).r k).to (QI (Q9 b).r k).whole
   rw[h1,h2,Q5x ok (by omega) (by omega) (by omega)] at this
   have hkd:(QI (Q9 b).r k).kind≠21:=by
    show (((QA (Q9 b).r k).1:Nat):Int)≠21
    have:=Qbd (Q9 b).r k
    omega
   have hc2:=CI.token hi hc hkd (f:=k) (u:=((QA (Q9 b).r k).2.1:Nat)) (by omega) (by omega) (by omega) (QI (Q9 b).r k).whole
   have h5:=CI.toks hb n (QA (Q9 b).r k).2.1 _ (B+3) (D+3) _ (by omega) h4 this hc2
   have e:Q5R (Q9 b) b m (QI (Q9 b).r k)=Q1A (Q9 b) b (QI (Q9 b).r k).kind k ((QA (Q9 b).r k).2.1:Nat) (QI (Q9 b).r k).whole m:=rfl
   rw[e]
   exact⟨h5.c,Nat.le_trans h5.z (by omega)⟩
  ·rw[Q1o hlt]
   exact⟨hc.c,Nat.le_trans hc.z (by omega)⟩
end Go.Proofs.YtibemhahkicbpaaGreat
namespace Go.Proofs.YtibemhahkicbpaaGreat
open Go.RowKit Go.Lib Tryz
theorem Qfs (l:List Int)(hl:l.length≤1000000)(f u:Int)(h0:0≤f)(h1:f≤u)(h2:u≤l.length)(hne:Q40 ((l.drop f.toNat).take (u-f).toNat)≠[]) :
  BCall prog 50 [.agg [.val (.int .i64 0),.val (.int .i64 0),.slc 1 (Q5 l),.val (.slice none 0 0)],.val (.int .i64 f),.val (.int .i64 u)] [] (.val (.string ⟨(Q40 ((l.drop f.toNat).take (u-f).toNat)).toArray⟩)) []:=by
 obtain⟨i,rfl⟩:=Int.eq_ofNat_of_zero_le h0
 obtain⟨j,rfl⟩:=Int.eq_ofNat_of_zero_le (Int.le_trans h0 h1)
 have e1:((i:Int).toNat)=i:=Int.toNat_natCast i
 have e2:((j:Int)-(i:Int)).toNat=j-i:=by omega
 rw[e1,e2] at hne ⊢
 refine BCall.hand (enters_of func50 (by kernel_rfl) rfl) fun w g vs M hL=>?_
 obtain⟨v1,vs1,rfl,k1,hL⟩:=Q1e hL
 obtain⟨v2,vs2,rfl,k2,hL⟩:=Q1e hL
 obtain⟨v3,vs3,rfl,k3,hL⟩:=Q1e hL
 obtain rfl:=Q48 hL
 obtain rfl:=ARel.valEq (ob:=[]) k2
 obtain rfl:=ARel.valEq (ob:=[]) k3
 obtain⟨cs,rfl,hc⟩:=k1
 obtain⟨c0,c1,c2,c3,rfl⟩:∃ c0 c1 c2 c3,cs=#[c0,c1,c2,c3]:=by
  rcases cs with ⟨l4⟩
  match l4,hc.1 with
  | [a,b,c,d],_=>exact⟨a,b,c,d,rfl⟩
 obtain rfl:=ARel.valEq (ob:=[]) (hc.2 0 c0 _ rfl rfl).1
 obtain rfl:=ARel.valEq (ob:=[]) (hc.2 1 c1 _ rfl rfl).1
 obtain rfl:=ARel.valEq (ob:=[]) (hc.2 3 c3 _ rfl rfl).1
 obtain⟨A,c,rfl,hr⟩:=Q4C (hc.2 2 c2 _ rfl rfl).1 M
 exact (QaE _ A _ c l i j w hr (by omega) (by omega) hl hne).mono fun e w' ⟨h,hb⟩=>⟨_,h,hb,.val _ rfl⟩
theorem Q6Q {l:List Node}:∀ (k:Nat) (st:List Cur) (j:Nat),(Q1q l k st).length<k→Q1q l (k+j) st=Q1q l k st
 |0,st,j,h=>by cases h
 |k+1,st,j,h=>by
  rw[show k+1+j=(k+j)+1 by omega]
  unfold Q1q at h ⊢
  cases hg:st.getLast? with
  |none=>rfl
  |some x =>
   rw[hg] at h
   simp only[List.length_cons] at h
   simp only
   rw[Q6Q k _ j (by omega)]
noncomputable def aw33_tab:List (Nat×FnI):=[
 (34,⟨f34,f34.body.getD .skip,fun _=>.nil⟩),
 (31,⟨f31,f31.body.getD .skip,fun _=>.nil⟩),
 (69,⟨f69,f69.body.getD .skip,fun _=>.nil⟩),
 (122,⟨f122,f122.body.getD .skip,fun _=>.nil⟩),
 (29,⟨f29,f29.body.getD .skip,fun _=>.nil⟩),
 (67,⟨f67,f67.body.getD .skip,fun _=>.nil⟩),
 (118,⟨f118,f118.body.getD .skip,fun _=>.nil⟩),
 (70,⟨f70,f70.body.getD .skip,fun _=>.nil⟩),
 (55,⟨f55,f55.body.getD .skip,fun _=>.nil⟩),
 (115,⟨f115,f115.body.getD .skip,fun _=>.nil⟩),
 (117,⟨f117,f117.body.getD .skip,fun _=>.nil⟩),
 (123,⟨f123,f123.body.getD .skip,fun _=>.nil⟩),
 (61,⟨f61,f61.body.getD .skip,fun _=>.nil⟩),
 (64,⟨f64,f64.body.getD .skip,fun _=>.nil⟩),
 (125,⟨f125,f125.body.getD .skip,fun id=>match id with|1=>.th [0,1,3,4,5] (.fork (.of [2,6,7,8]) (.of [6,2,7,8]))|_=>.nil⟩),
 (59,⟨f59,f59.body.getD .skip,fun _=>.nil⟩),
 (150,⟨f150,f150.body.getD .skip,fun _=>.nil⟩),
 (124,⟨f124,f124.body.getD .skip,fun _=>.nil⟩),
 (149,⟨f149,f149.body.getD .skip,fun _=>.nil⟩),
 (191,⟨f191,f191.body.getD .skip,fun _=>.nil⟩),
 (219,⟨f219,f219.body.getD .skip,fun _=>.nil⟩),
 (173,⟨f173,f173.body.getD .skip,fun _=>.nil⟩)]
theorem Qay:Qdl aw33_tab:=by
 unfold aw33_tab
 refine⟨⟨Nat.le_of_ble_eq_true rfl,func34,rfl,by kernel_rfl⟩,?_⟩
 refine⟨⟨Nat.le_of_ble_eq_true rfl,func31,rfl,by kernel_rfl⟩,?_⟩
 refine⟨⟨Nat.le_of_ble_eq_true rfl,func69,rfl,by kernel_rfl⟩,?_⟩
 refine⟨⟨Nat.le_of_ble_eq_true rfl,func122,rfl,by kernel_rfl⟩,?_⟩
 refine⟨⟨Nat.le_of_ble_eq_true rfl,func29,rfl,by kernel_rfl⟩,?_⟩
 refine⟨⟨Nat.le_of_ble_eq_true rfl,func67,rfl,by kernel_rfl⟩,?_⟩
 refine⟨⟨Nat.le_of_ble_eq_true rfl,func118,rfl,by kernel_rfl⟩,?_⟩
 refine⟨⟨Nat.le_of_ble_eq_true rfl,func70,rfl,by kernel_rfl⟩,?_⟩
 refine⟨⟨Nat.le_of_ble_eq_true rfl,func55,rfl,by kernel_rfl⟩,?_⟩
 refine⟨⟨Nat.le_of_ble_eq_true rfl,func115,rfl,by kernel_rfl⟩,?_⟩
 refine⟨⟨Nat.le_of_ble_eq_true rfl,func117,rfl,by kernel_rfl⟩,?_⟩
 refine⟨⟨Nat.le_of_ble_eq_true rfl,func123,rfl,by kernel_rfl⟩,?_⟩
 refine⟨⟨Nat.le_of_ble_eq_true rfl,func61,rfl,by kernel_rfl⟩,?_⟩
 refine⟨⟨Nat.le_of_ble_eq_true rfl,func64,rfl,by kernel_rfl⟩,?_⟩
 refine⟨⟨Nat.le_of_ble_eq_true rfl,func125,rfl,by kernel_rfl⟩,?_⟩
 refine⟨⟨Nat.le_of_ble_eq_true rfl,func59,rfl,by kernel_rfl⟩,?_⟩
 refine⟨⟨Nat.le_of_ble_eq_true rfl,func150,rfl,by kernel_rfl⟩,?_⟩
 refine⟨⟨Nat.le_of_ble_eq_true rfl,func124,rfl,by kernel_rfl⟩,?_⟩
 refine⟨⟨Nat.le_of_ble_eq_true rfl,func149,rfl,by kernel_rfl⟩,?_⟩
 refine⟨⟨Nat.le_of_ble_eq_true rfl,func191,rfl,by kernel_rfl⟩,?_⟩
 refine⟨⟨Nat.le_of_ble_eq_true rfl,func219,rfl,by kernel_rfl⟩,?_⟩
 refine⟨⟨Nat.le_of_ble_eq_true rfl,func173,rfl,by kernel_rfl⟩,?_⟩
 exact trivial
def aw33_b:List UInt8:=[60,97,32,120,61,39,49,39,47,62]
def QbM:AV:=.agg [.val (.int .i64 0),.val (.int .i64 0),.slc 1 [.val (.int .i32 60),.val (.int .i32 97),.val (.int .i32 32),.val (.int .i32 120),.val (.int .i32 61),.val (.int .i32 39),.val (.int .i32 49),.val (.int .i32 39),.val (.int .i32 47),.val (.int .i32 62)],.slc 1 [.val (.int .i64 0),.val (.int .i64 1),.val (.int .i64 2),.val (.int .i64 3),.val (.int .i64 4),.val (.int .i64 5),.val (.int .i64 6),.val (.int .i64 7),.val (.int .i64 8),.val (.int .i64 9),.val (.int .i64 10)],.ref [.slc 6 [.agg [.val (.int .i64 9),.val (.int .i64 10),.val (.int .i64 1),.val (.bool true),.slc 1 [.val (.int .u8 60),.val (.int .u8 97),.val (.int .u8 32),.val (.int .u8 120),.val (.int .u8 61),.val (.int .u8 39),.val (.int .u8 49),.val (.int .u8 39),.val (.int .u8 47),.val (.int .u8 62)],.slc 1 []],.agg [.val (.int .i64 20),.val (.int .i64 10),.val (.int .i64 2),.val (.bool false),.slc 1 [],.slc 1 [.val (.int .i64 0)]]]],.val (.int .i64 1),.slc 3 []]
theorem QhX:Q7s (Q9 aw33_b) (QD aw33_b)=QbM:=by cbv
theorem QiJ:BCall prog 13 [.slc 1 (Q3 aw33_b)] [] QbM []:=by
 rw[←QhX];exact QcL aw33_b (by decide)
def QfX:List AV:=[.agg [.val (.int .i64 9),.val (.int .i64 10),.val (.int .i64 1),.val (.bool true),.slc 1 [.val (.int .u8 60),.val (.int .u8 97),.val (.int .u8 32),.val (.int .u8 120),.val (.int .u8 61),.val (.int .u8 39),.val (.int .u8 49),.val (.int .u8 39),.val (.int .u8 47),.val (.int .u8 62)],.slc 1 []],.agg [.val (.int .i64 20),.val (.int .i64 10),.val (.int .i64 2),.val (.bool false),.slc 1 [],.slc 1 [.val (.int .i64 0)]]]
def Qct:List AV:=[.agg [.ref [.slc 6 QfX],.val (.int .i64 1),.val (.int .i64 0),.val (.int .i64 0),.val (.pointer none)],.val (.int .i64 1073741824)]
def Q7d:AV:=.slc 5 [.agg [.opt (.ref [.slc 6 [.agg [.val (.int .i64 9),.val (.int .i64 10),.val (.int .i64 1),.val (.bool true),.slc 1 [.val (.int .u8 60),.val (.int .u8 97),.val (.int .u8 32),.val (.int .u8 120),.val (.int .u8 61),.val (.int .u8 39),.val (.int .u8 49),.val (.int .u8 39),.val (.int .u8 47),.val (.int .u8 62)],.slc 1 []],.agg [.val (.int .i64 20),.val (.int .i64 10),.val (.int .i64 2),.val (.bool false),.slc 1 [],.slc 1 [.val (.int .i64 0)]]]]),.val (.int .i64 1),.val (.int .i64 0),.val (.int .i64 0),.opt (.val (.pointer none))],.agg [.opt (.ref [.slc 6 [.agg [.val (.int .i64 9),.val (.int .i64 10),.val (.int .i64 1),.val (.bool true),.slc 1 [.val (.int .u8 60),.val (.int .u8 97),.val (.int .u8 32),.val (.int .u8 120),.val (.int .u8 61),.val (.int .u8 39),.val (.int .u8 49),.val (.int .u8 39),.val (.int .u8 47),.val (.int .u8 62)],.slc 1 []],.agg [.val (.int .i64 20),.val (.int .i64 10),.val (.int .i64 2),.val (.bool false),.slc 1 [],.slc 1 [.val (.int .i64 0)]]]]),.val (.int .i64 0),.val (.int .i64 0),.val (.int .i64 0),.opt (.ref [.ref [.slc 6 [.agg [.val (.int .i64 9),.val (.int .i64 10),.val (.int .i64 1),.val (.bool true),.slc 1 [.val (.int .u8 60),.val (.int .u8 97),.val (.int .u8 32),.val (.int .u8 120),.val (.int .u8 61),.val (.int .u8 39),.val (.int .u8 49),.val (.int .u8 39),.val (.int .u8 47),.val (.int .u8 62)],.slc 1 []],.agg [.val (.int .i64 20),.val (.int .i64 10),.val (.int .i64 2),.val (.bool false),.slc 1 [],.slc 1 [.val (.int .i64 0)]]]],.val (.int .i64 1),.val (.int .i64 0),.val (.int .i64 0),.opt (.val (.pointer none))])]]
theorem QiB:BCall prog 30 Qct [] Q7d []:=by
 have hO:=QaJ aw33_b (by decide)
 have h:=QeS (QE (QD aw33_b)).n aw33_b.length 400000 hO.ar (by decide) (by decide) (Cur.root (QD aw33_b).n.length) hO.root 1073741824 (by decide)
 have e0:(Q1q (QE (QD aw33_b)).n 30 [(Cur.root (QD aw33_b).n.length)]).length<30:=by
  have:(Q1q (QE (QD aw33_b)).n 30 [(Cur.root (QD aw33_b).n.length)]).length=(Q1C Q7d).length:=by cbv
  rw[this];decide
 have ew:Q8T (QE (QD aw33_b)).n (Cur.root (QD aw33_b).n.length) 1073741824=Q1q (QE (QD aw33_b)).n 30 [(Cur.root (QD aw33_b).n.length)]:=Q6Q 30 [(Cur.root (QD aw33_b).n.length)] 1073741794 e0
 rw[ew] at h
 have e2:AV.slc 5 (Qv (Q0 (QE (QD aw33_b)).n) (Q1q (QE (QD aw33_b)).n 30 [(Cur.root (QD aw33_b).n.length)]))=Q7d:=by cbv
 have e1:AV.agg ((Cur.root (QD aw33_b).n.length).el (Q0 (QE (QD aw33_b)).n))=.agg [.opt (.ref [.slc 6 QfX]),.val (.int .i64 1),.val (.int .i64 0),.val (.int .i64 0),.opt (.val (.pointer none))]:=by cbv
 rw[e1,e2] at h
 exact h.le ⟨⟨.inr (.inr (.inl ⟨rfl,trivial⟩)),.inl rfl,.inl rfl,.inl rfl,.inr (.inr (.inl ⟨rfl,trivial⟩)),trivial⟩,.inl rfl,trivial⟩
theorem Qin:BCall prog 48 [.val (.int .i64 0),.slc 1 (Q3 [60,97,32,120,61,39,49,39,47,62])] [] (.slc 3 [.agg [.val (.int .i32 60),.val (.int .i64 0),.val (.int .i64 1)],.agg [.val (.int .i32 97),.val (.int .i64 1),.val (.int .i64 1)],.agg [.val (.int .i32 32),.val (.int .i64 2),.val (.int .i64 1)],.agg [.val (.int .i32 120),.val (.int .i64 3),.val (.int .i64 1)],.agg [.val (.int .i32 61),.val (.int .i64 4),.val (.int .i64 1)],.agg [.val (.int .i32 39),.val (.int .i64 5),.val (.int .i64 1)],.agg [.val (.int .i32 49),.val (.int .i64 6),.val (.int .i64 1)],.agg [.val (.int .i32 39),.val (.int .i64 7),.val (.int .i64 1)],.agg [.val (.int .i32 47),.val (.int .i64 8),.val (.int .i64 1)],.agg [.val (.int .i32 62),.val (.int .i64 9),.val (.int .i64 1)]]) []:=by
 have e:AV.slc 3 (Q1n (Q6n 0 [60,97,32,120,61,39,49,39,47,62]))=.slc 3 [.agg [.val (.int .i32 60),.val (.int .i64 0),.val (.int .i64 1)],.agg [.val (.int .i32 97),.val (.int .i64 1),.val (.int .i64 1)],.agg [.val (.int .i32 32),.val (.int .i64 2),.val (.int .i64 1)],.agg [.val (.int .i32 120),.val (.int .i64 3),.val (.int .i64 1)],.agg [.val (.int .i32 61),.val (.int .i64 4),.val (.int .i64 1)],.agg [.val (.int .i32 39),.val (.int .i64 5),.val (.int .i64 1)],.agg [.val (.int .i32 49),.val (.int .i64 6),.val (.int .i64 1)],.agg [.val (.int .i32 39),.val (.int .i64 7),.val (.int .i64 1)],.agg [.val (.int .i32 47),.val (.int .i64 8),.val (.int .i64 1)],.agg [.val (.int .i32 62),.val (.int .i64 9),.val (.int .i64 1)]]:=by cbv
 rw[←e];exact Qbw _ _ (by decide)
theorem Qip:BCall prog 49 [.slc 1 (Q5 [60,97,32,120,61,39,49,39,47,62]),.val (.int .i64 0),.val (.int .i64 10)] [] (.agg [.val (.int .i64 2),.val (.int .i64 1),.val (.int .i64 2),.slc 9 [.agg [.val (.int .i64 2),.val (.int .i64 3),.val (.int .i64 4),.val (.int .i64 5),.val (.int .i64 5),.val (.int .i64 8),.val (.int .i64 7),.val (.int .i64 2),.val (.int .i64 8)]],.val (.bool true),.val (.bool true)]) []:=by
 have e:AV.agg [.val (.int .i64 (QJ [60,97,32,120,61,39,49,39,47,62] 0 10).name.kind),.val (.int .i64 (QJ [60,97,32,120,61,39,49,39,47,62] 0 10).name.from_),.val (.int .i64 (QJ [60,97,32,120,61,39,49,39,47,62] 0 10).name.to),.slc 9 (QO (QJ [60,97,32,120,61,39,49,39,47,62] 0 10).attrs),.val (.bool (QJ [60,97,32,120,61,39,49,39,47,62] 0 10).right),.val (.bool (QJ [60,97,32,120,61,39,49,39,47,62] 0 10).empty)]=.agg [.val (.int .i64 2),.val (.int .i64 1),.val (.int .i64 2),.slc 9 [.agg [.val (.int .i64 2),.val (.int .i64 3),.val (.int .i64 4),.val (.int .i64 5),.val (.int .i64 5),.val (.int .i64 8),.val (.int .i64 7),.val (.int .i64 2),.val (.int .i64 8)]],.val (.bool true),.val (.bool true)]:=by cbv
 rw[←e];exact QbK [60,97,32,120,61,39,49,39,47,62] (by decide) 0 10 (by decide) (by decide) (by decide)
theorem Qiq:BCall prog 50 [.agg [.val (.int .i64 0),.val (.int .i64 0),.slc 1 (Q5 [60,97,32,120,61,39,49,39,47,62]),.val (.slice none 0 0)],.val (.int .i64 3),.val (.int .i64 4)] [] (.val (.string ⟨#[120]⟩)) []:=by
 have e:AV.val (.string ⟨(Q40 ((([60,97,32,120,61,39,49,39,47,62]:List Int).drop (3:Int).toNat).take ((4:Int)-3).toNat)).toArray⟩)=.val (.string ⟨#[120]⟩):=by cbv
 rw[←e];exact Qfs [60,97,32,120,61,39,49,39,47,62] (by decide) 3 4 (by decide) (by decide) (by decide) (by decide)
theorem QiU:BCall prog 87 [.slc 1 (Q5 [60,97,32,120,61,39,49,39,47,62])] [] (.slc 4 [.agg [.val (.int .i64 9),.val (.int .i64 0),.val (.int .i64 10),.val (.bool true)]]) []:=by
 have e:AV.slc 4 (QL (Q3M [60,97,32,120,61,39,49,39,47,62]))=.slc 4 [.agg [.val (.int .i64 9),.val (.int .i64 0),.val (.int .i64 10),.val (.bool true)]]:=by cbv
 rw[←e];exact Q7T _ (by decide)
def QcX:List BE:=[
 ⟨13,[.slc 1 (Q3 aw33_b)],[],QbM,[]⟩,
 ⟨30,Qct,[],Q7d,[]⟩,
 ⟨48,[.val (.int .i64 0),.slc 1 (Q3 [60,97,32,120,61,39,49,39,47,62])],[],.slc 3 [.agg [.val (.int .i32 60),.val (.int .i64 0),.val (.int .i64 1)],.agg [.val (.int .i32 97),.val (.int .i64 1),.val (.int .i64 1)],.agg [.val (.int .i32 32),.val (.int .i64 2),.val (.int .i64 1)],.agg [.val (.int .i32 120),.val (.int .i64 3),.val (.int .i64 1)],.agg [.val (.int .i32 61),.val (.int .i64 4),.val (.int .i64 1)],.agg [.val (.int .i32 39),.val (.int .i64 5),.val (.int .i64 1)],.agg [.val (.int .i32 49),.val (.int .i64 6),.val (.int .i64 1)],.agg [.val (.int .i32 39),.val (.int .i64 7),.val (.int .i64 1)],.agg [.val (.int .i32 47),.val (.int .i64 8),.val (.int .i64 1)],.agg [.val (.int .i32 62),.val (.int .i64 9),.val (.int .i64 1)]],[]⟩,
 ⟨49,[.slc 1 (Q5 [60,97,32,120,61,39,49,39,47,62]),.val (.int .i64 0),.val (.int .i64 10)],[],.agg [.val (.int .i64 2),.val (.int .i64 1),.val (.int .i64 2),.slc 9 [.agg [.val (.int .i64 2),.val (.int .i64 3),.val (.int .i64 4),.val (.int .i64 5),.val (.int .i64 5),.val (.int .i64 8),.val (.int .i64 7),.val (.int .i64 2),.val (.int .i64 8)]],.val (.bool true),.val (.bool true)],[]⟩,
 ⟨50,[.agg [.val (.int .i64 0),.val (.int .i64 0),.slc 1 (Q5 [60,97,32,120,61,39,49,39,47,62]),.val (.slice none 0 0)],.val (.int .i64 3),.val (.int .i64 4)],[],.val (.string ⟨#[120]⟩),[]⟩,
 ⟨87,[.slc 1 (Q5 [60,97,32,120,61,39,49,39,47,62])],[],.slc 4 [.agg [.val (.int .i64 9),.val (.int .i64 0),.val (.int .i64 10),.val (.bool true)]],[]⟩]
theorem QfP:Qd0 QcX:=by
 unfold QcX
 refine⟨⟨rfl,QiJ⟩,?_⟩
 refine⟨⟨rfl,QiB⟩,?_⟩
 refine⟨⟨rfl,Qin⟩,?_⟩
 refine⟨⟨rfl,Qip⟩,?_⟩
 refine⟨⟨rfl,Qiq⟩,?_⟩
 refine⟨⟨rfl,QiU⟩,?_⟩
 exact trivial
def Qa6:Nat→List Srt→Bool:=Qjd
theorem QdX:∀ T sh,Qa6 T sh=true→QaV prog T sh:=Qgu
theorem Q8U:BCall prog 34 [] [] (.val (.bool true)) [] :=
 QjM Qay QfP (ask:=Qa6) QdX (lf:=100) (n:=40) (by kernel_rfl)
end Go.Proofs.YtibemhahkicbpaaGreat
