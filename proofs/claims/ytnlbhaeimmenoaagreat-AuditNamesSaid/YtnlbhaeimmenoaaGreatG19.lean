/- Lemmas, conditions told -/
import Derived.Test.YtnlbhaeimmenoaaGreatG18
set_option maxRecDepth 99999
set_option maxHeartbeats 0
set_option linter.unusedSimpArgs false
set_option linter.unusedVariables false
namespace Go.Proofs.YtnlbhaeimmenoaaGreat
open List(map_congr_left length_append length_singleton mem_append_left mem_append getElem?_map getElem?_eq_getElem foldl_cons append_nil nil_append map_append cons_append append_assoc mem_cons_self flatMap_cons flatMap_append take_length mem_cons length_cons)
open Nat(le_trans le_refl add_zero)
open Go.RowKit Go.Lib
def elM(l:List Node)(x:Node):Bool:=decide (x.kind=21)&&decide (QO l (x.kids.getLast?.getD (-1))=22)
def n01(b:Bool):Nat:=if b then 1 else 0
def cmF(l:List Node):Nat->Int->Nat
 |0,_=>0
 |f+1,n=>n01 (elM l (Qh l n))+((Qh l n).kids.map (cmF l f)).sum
def cm(l:List Node)(n:Int):Nat:=cmF l (n.toNat+1) n
theorem Qf1{l:List Node}(hw:Wf l):∀(f f':Nat)(n:Int),0<=n->n<l.length->n.toNat<f->n.toNat<f'->cmF l f n=cmF l f' n
 |0,_,_,_,_,h,_=>by omega
 |_+1,0,_,_,_,_,h=>by omega
 |f+1,f'+1,n,h0,h1,h2,h3=>by
  simp only[cmF];congr 2
  refine map_congr_left fun k hk=>?_
  have:=hw n h0 h1 k hk
  exact Qf1 hw f f' k this.1 (by omega) (by omega) (by omega)
theorem QqW{l:List Node}(hw:Wf l){n:Int}(h0:0<=n)(h1:n<l.length):cm l n=n01 (elM l (Qh l n))+((Qh l n).kids.map (cm l)).sum:=by
 show cmF l (n.toNat+1) n=_;simp only[cmF];congr 2
 refine map_congr_left fun k hk=>?_
 have:=hw n h0 h1 k hk
 exact Qf1 hw _ _ k this.1 (by omega) (by omega) (by omega)
theorem Q6e{l:List Node}{x:Node}{n:Int}(h0:0<=n)(h1:n<l.length):QO (l++[x]) n=QO l n:=by unfold QO;rw[Q2x h0 h1]
theorem Q4G{l:List Node}{x:Node}:QO (l++[x]) l.length=x.kind:=by unfold QO;rw[Q2e]
theorem Qma(l:List Node):QO l (-1)=0:=by unfold QO;rw[Q5P (by omega)];rfl
theorem QgP{l:List Node}{x:Node}(hx:InR l x.kids)(z:Node):elM (l++[z]) x=elM l x:=by
 unfold elM;cases h:x.kids.getLast? with
 |none=>simp only[Option.getD_none,Qma]
 |some k =>
  have:=hx k (List.mem_of_getLast? h)
  simp only[Option.getD_some,Q6e this.1 this.2]
theorem Qi5{l:List Node}(h:Wf l)(x:Node):∀(f:Nat)(n:Int),0<=n->n<l.length->cmF (l++[x]) f n=cmF l f n
 |0,_,_,_=>rfl
 |f+1,n,h0,h1=>by
  have hr:InR l (Qh l n).kids:=fun k hk=>by have:=h n h0 h1 k hk;omega
  simp only[cmF,Q2x h0 h1,QgP hr];congr 2
  refine map_congr_left fun k hk=>?_
  have:=hr k hk
  exact Qi5 h x f k this.1 this.2
theorem Qpa{l:List Node}(h:Wf l)(x:Node){n:Int}(h0:0<=n)(h1:n<l.length):cm (l++[x]) n=cm l n:=Qi5 h x _ n h0 h1
def cmL(l:List Node)(ks:List Int):Nat:=(ks.map (cm l)).sum
theorem Q73{l:List Node}(h:Wf l)(x:Node){ks:List Int}(hk:InR l ks):cmL (l++[x]) ks=cmL l ks :=
 congrArg List.sum (map_congr_left fun k yu=>Qpa h x (hk k yu).1 (hk k yu).2)
theorem QkI{l:List Node}(h:Wf l){x:Node}(hx:InR l x.kids):cm (l++[x]) l.length=n01 (elM l x)+cmL l x.kids:=by
 rw[QqW (Q9Q h hx) (by omega) (by simp only[length_append,length_singleton];omega),Q2e,QgP hx]
 exact congrArg (n01 (elM l x) + ·) (Q73 h x hx)
theorem Q9z(l:List Node)(a b:List Int):cmL l (a++b)=cmL l a+cmL l b:=by simp[cmL]
theorem Q9L(l:List Node)(k:Int):cmL l [k]=cm l k:=by simp[cmL]
def cmK(l:List Node)(s:List Opn):Nat:=(s.map fun x=>cmL l x.kids).sum
theorem Q6U(l:List Node)(s:List Opn)(x:Opn):cmK l (s++[x])=cmK l s+cmL l x.kids:=by simp[cmK]
theorem Q9N{l:List Node}(h:Wf l)(x:Node){s:List Opn}(hs:∀y∈s,InR l y.kids):cmK (l++[x]) s=cmK l s :=
 congrArg List.sum (map_congr_left fun y hy=>Q73 h x (hs y hy))
theorem Qkw(l:List Node){kind:Int}(hk:kind≠21)(bs:List UInt8):elM l (Qq kind bs)=false:=by
 unfold elM;rw[decide_eq_false (show ¬(Qq kind bs).kind=21 from hk)];rfl
theorem QmQ(l:List Node)(kind:Int)(bs:List UInt8):InR l (Qq kind bs).kids:=fun k hk=>by cases hk
theorem Qdm{l:List Node}(h:Wf l){kind:Int}(hk:kind≠21)(bs:List UInt8):cm (l++[Qq kind bs]) l.length=0:=by
 rw[QkI h (QmQ l kind bs),Qkw l hk];rfl
def Q7o(nm:List Int):Prop:=∃r0 rs,nm=r0::rs/\Qf r0=true
def nmN(K:Int)(l:List Node)(n:Int):List Int:=Q2i (Q1K K (pr l n))
structure StOk (K:Int) (l:List Node) (y:Opn) (k0:Int) (r:List Int):Prop where
 k:y.kids=k0::r
 s:QO l k0=8
 n:nmN K l k0=y.name
 l:Q7o y.name
structure ElIs (K:Int) (l:List Node) (ks:List Int) (k0:Int) (r:List Int) (kl:Int):Prop where
 k:ks=k0::(r++[kl])
 s:QO l k0=8
 ld:Q7o (nmN K l k0)
 e:QO l kl=22\/(QO l kl=10/\nmN K l kl=nmN K l k0)
def QgD(K:Int)(l:List Node)(n:Int):Prop:=QO l n=21->∃k0 r kl,ElIs K l (Qh l n).kids k0 r kl
theorem QcG(K:Int){l:List Node}(h:Wf l)(x:Node){n:Int}(h0:0<=n)(h1:n<l.length):nmN K (l++[x]) n=nmN K l n:=by unfold nmN;rw[Qaw h x h0 h1]
theorem StOk.old{K:Int}{l:List Node}(h:Wf l){y:Opn}{k0:Int}{r:List Int}(hr:InR l y.kids)(hs:StOk K l y k0 r)(x:Node):StOk K (l++[x]) y k0 r:=by
 have:=hr k0 (by rw[hs.k];simp)
 exact⟨hs.k,by rw[Q6e this.1 this.2];exact hs.s,by rw[QcG K h x this.1 this.2];exact hs.n,hs.l⟩
theorem ElIs.old{K:Int}{l:List Node}(h:Wf l){ks:List Int}{k0:Int}{r:List Int}{kl:Int}(hr:InR l ks)(hs:ElIs K l ks k0 r kl)(x:Node):ElIs K (l++[x]) ks k0 r kl:=by
 have h1:=hr k0 (by rw[hs.k];simp)
 have h2:=hr kl (by rw[hs.k];simp)
 refine⟨hs.k,?_,?_,?_⟩
 ·rw[Q6e h1.1 h1.2];exact hs.s
 ·rw[QcG K h x h1.1 h1.2];exact hs.ld
 ·rw[Q6e h2.1 h2.2,QcG K h x h1.1 h1.2,QcG K h x h2.1 h2.2];exact hs.e
theorem QpS{K:Int}{l:List Node}(h:Wf l){n:Int}(h0:0<=n)(h1:n<l.length)(he:QgD K l n)(x:Node):QgD K (l++[x]) n:=fun hk=>by
 rw[Q6e h0 h1]at hk;obtain⟨k0,r,kl,hs⟩:=he hk;rw[Q2x h0 h1];exact⟨k0,r,kl,hs.old h (fun k hk=>by have:=h n h0 h1 k hk;omega) x⟩
theorem QcT{K:Int}{l:List Node}(h:Wf l)(he:∀n:Int,0<=n->n<l.length->QgD K l n){x:Node}(hx:QgD K (l++[x]) l.length):∀n:Int,0<=n->n<(l++[x]).length->QgD K (l++[x]) n:=fun n h0 h1=>by
 simp only[length_append,length_singleton]at h1;by_cases h2:n<l.length
 ·exact QpS h h0 h2 (he n h0 h2) x
 ·obtain rfl:n=l.length:=by omega
  exact hx
theorem QfF{K:Int}{l:List Node}{x:Node}(hk:x.kind≠21):QgD K (l++[x]) l.length:=fun h=>by
 rw[Q4G]at h;exact absurd h hk
theorem Q3m{s:List Opn}{x z:Opn}:z∈(s++[x]).drop 1↔z∈s.drop 1\/(s≠[]/\z=x):=by
 cases s<;>simp
structure CIn (K:Int) (m:Mk) (c:Nat):Prop where
 el:∀n:Int,0<=n->n<m.n.length->QgD K m.n n
 st:∀y∈m.s.drop 1,∃k0 r,StOk K m.n y k0 r
 cm:cmK m.n m.s=c
section
variable {K:Int}{m:Mk}{X:List UInt8}{B D c:Nat}
theorem CIn.wrong(h:CIn K m c)(t:Txt)(d f u:Int):CIn K (QI t d f u m) c:=⟨h.el,h.st,h.cm⟩
theorem CIn.leaf(h:MkInv m X B D)(hc:CIn K m c){kind:Int}(hk:kind≠21)(bs:List UInt8):CIn K (Q2X m.n.length (Q1F (Qq kind bs) m)) c:=by
 obtain⟨s0,qM⟩:=Q26 h.s1;generalize QR m.s=y at qM;have hr:=h.rng;have jG:=hc.st;have zW:=hc.cm;rw[qM]at hr jG zW;have vC:∀z∈s0,InR m.n z.kids:=fun z hz=>hr z (mem_append_left _ hz)
 have v7:InR m.n y.kids:=hr y (by simp)
 refine⟨?_,?_,?_⟩
 ·exact QcT h.ar.wf hc.el (QfF hk)
 ·show ∀z∈(Q1N m.n.length m.s).drop 1,∃k0 r,StOk K (m.n++[Qq kind bs]) z k0 r
  rw[qM,Q1U];intro z hz;rcases Q3m.1 hz with hz|⟨jI,rfl⟩
  ·obtain⟨k0,r,hs⟩:=jG z (Q3m.2 (.inl hz))
   exact⟨k0,r,hs.old h.ar.wf (vC z (List.mem_of_mem_drop hz)) _⟩
  ·obtain⟨k0,r,hs⟩:=jG y (Q3m.2 (.inr ⟨jI,rfl⟩))
   have hs:=hs.old h.ar.wf v7 (Qq kind bs);exact⟨k0,r++[(m.n.length:Int)],by show y.kids++_=_;rw[hs.k];rfl,hs.s,hs.n,hs.l⟩
 ·show cmK (m.n++[Qq kind bs]) (Q1N m.n.length m.s)=c
  rw[Q6U]at zW;rw[qM,Q1U,Q6U,Q9z,Q9L,Q9N h.ar.wf _ vC,Q73 h.ar.wf _ v7,Qdm h.ar.wf hk];exact zW
theorem CIn.push(h:MkInv m X B D)(hc:CIn K m c)(bs:List UInt8){nm:List Int}(hn:Q2i (Q1K K bs)=nm)(hl:Q7o nm):CIn K (Q2X m.n.length (Q1F (Qq 8 bs) { m with s:=m.s++[⟨nm,[]⟩] })) c:=by
 have ha:=(Q3G h.ar 8 bs);have vM:∀z∈m.s,InR m.n z.kids:=h.rng;refine⟨?_,?_,?_⟩
 ·exact QcT h.ar.wf hc.el (QfF (by show(8:Int)≠21;decide))
 ·show ∀z∈(Q1N m.n.length (m.s++[⟨nm,[]⟩])).drop 1,∃k0 r,StOk K (m.n++[Qq 8 bs]) z k0 r
  rw[Q1U];intro z hz;rcases Q3m.1 hz with hz|⟨jI,rfl⟩
  ·obtain⟨k0,r,hs⟩:=hc.st z hz
   exact⟨k0,r,hs.old h.ar.wf (vM z (List.mem_of_mem_drop hz)) _⟩
  ·refine⟨m.n.length,[],rfl,Q4G,?_,hl⟩
   unfold nmN;rw[ha.2];exact hn
 ·show cmK (m.n++[Qq 8 bs]) (Q1N m.n.length (m.s++[⟨nm,[]⟩]))=c
  rw[Q1U,Q6U,Q9z,Q9L,Q9N h.ar.wf _ vM,Qdm h.ar.wf (by decide)]
  exact hc.cm
theorem Qdj{s0:List Opn}{y x:Opn}(jO:m.s=s0++[y]++[x])(kind:Int)(bs:List UInt8) :
  (Q1C m.n.length (Q1F (Qq kind bs) m)).n=(m.n++[Qq kind bs])++[Q15 (m.n++[Qq kind bs]) 21 (x.kids++[(m.n.length:Int)])]/\(Q1C m.n.length (Q1F (Qq kind bs) m)).s=s0++[⟨y.name,y.kids++[((m.n++[Qq kind bs]).length:Int)]⟩]:=by
 have eT:QR (Q2X (m.n.length:Int) (Q1F (Qq kind bs) m)).s=⟨x.name,x.kids++[(m.n.length:Int)]⟩:=by
  show QR (Q1N m.n.length m.s)=_;rw[jO,Q1U,Q7P]
 constructor
 ·show(m.n++[Qq kind bs])++[Q15 (m.n++[Qq kind bs]) 21 (QR (Q2X (m.n.length:Int) (Q1F (Qq kind bs) m)).s).kids]=_
  rw[eT]
 ·show Q1N ((m.n++[Qq kind bs]).length:Int) ((Q1N m.n.length m.s).take ((Q1N m.n.length m.s).length-1))=_
  have e2:(Q1N m.n.length m.s).take ((Q1N m.n.length m.s).length-1)=s0++[y]:=by
   rw[jO,Q1U,show(s0++[y]++[(⟨x.name,x.kids++[(m.n.length:Int)]⟩:Opn)]).length-1=(s0++[y]).length by simp]
   exact List.take_left
  rw[e2,Q1U]
theorem Q8M{s:List Opn}(hs:2<=s.length):∃s0 y,s=s0++[y]++[QR s]:=by
 obtain⟨s1,jO⟩:=Q26 (s:=s) (by omega)
 have yb:1<=s1.length:=by rw[jO]at hs;simp at hs;omega
 obtain⟨s0,qM⟩:=Q26 yb;exact⟨s0,QR s1,by rw[<-qM];exact jO⟩
theorem CIn.shut(h:MkInv m X B D)(hc:CIn K m c)(hs:2<=m.s.length){kind:Int}(bs:List UInt8)(hk:kind=22\/(kind=10/\Q2i (Q1K K bs)=(QR m.s).name)):CIn K (Q1C m.n.length (Q1F (Qq kind bs) m)) (c+n01 (decide (kind=22))):=by
 obtain⟨s0,y,jO⟩:=Q8M hs;generalize QR m.s=x at jO hk;obtain⟨en,es⟩:=Qdj jO kind bs;have po:kind≠21:=by omega
 obtain⟨qS,zg⟩:=Q3G h.ar kind bs;have hr:=h.rng;have jG:=hc.st;have zW:=hc.cm;rw[jO]at hr jG zW;have vC:∀z∈s0,InR m.n z.kids:=fun z hz=>hr z (mem_append_left _ (mem_append_left _ hz))
 have v7:InR m.n y.kids:=hr y (mem_append_left _ (by simp))
 have za:InR m.n x.kids:=hr x (by simp)
 have vM:InR (m.n++[Qq kind bs]) (x.kids++[(m.n.length:Int)]):=fun k hk=>by
  rcases mem_append.1 hk with hk|hk
  ·exact za.more _ k hk
  ·obtain rfl:k=(m.n.length:Int):=by simpa using hk
   simp;omega
 obtain⟨k0,r,hx⟩:=jG x (Q3m.2 (.inr ⟨by simp,rfl⟩))
 have gt:=hx.old h.ar.wf za (Qq kind bs);obtain⟨l1,hl⟩:=exq (m.n++[Qq kind bs]);have yb:((m.n++[Qq kind bs]).length:Int)=l1.length:=by rw[hl]
 have pq:=QcT h.ar.wf hc.el (x:=Qq kind bs) (QfF po);have xV:QO (m.n++[Qq kind bs]) m.n.length=kind:=Q4G;have pt:nmN K (m.n++[Qq kind bs]) m.n.length=Q2i (Q1K K bs):=by unfold nmN;rw[zg]
 have up0:∀z:Node,cmK (l1++[z]) s0=cmK m.n s0:=fun z=>by
  rw[Q9N (by rw[hl];exact qS.wf) z (fun q hq=>by rw[hl];exact(vC q hq).more _),hl,Q9N h.ar.wf _ vC]
 have upy:∀z:Node,cmL (l1++[z]) y.kids=cmL m.n y.kids:=fun z=>by
  rw[Q73 (by rw[hl];exact qS.wf) z (by rw[hl];exact v7.more _),hl,Q73 h.ar.wf _ v7]
 have e1:cmL l1 (x.kids++[(m.n.length:Int)])=cmL m.n x.kids:=by
  rw[hl,Q9z,Q9L,Q73 h.ar.wf _ za,Qdm h.ar.wf po];rfl
 rw[<-hl]at qS vM gt pq en es xV pt;obtain⟨z,hz⟩:=exq (Q15 l1 21 (x.kids++[(m.n.length:Int)]));rw[<-hz]at en;have pF:z.kids=x.kids++[(m.n.length:Int)]:=by rw[hz];rfl
 have hzm:elM l1 z=decide (kind=22):=by
  unfold elM;rw[pF,List.getLast?_concat,Option.getD_some,xV,hz];rfl
 refine⟨?_,?_,?_⟩
 ·rw[en]
  refine QcT qS.wf pq (fun _=>⟨k0,r,m.n.length,?_⟩)
  rw[Q2e,pF];refine ElIs.old qS.wf vM ⟨by rw[gt.k];rfl,gt.s,?_,?_⟩ z
  ·rw[gt.n];exact gt.l
  ·rw[xV,pt,gt.n];exact hk
 ·rw[en,es]
  intro q hq;rcases Q3m.1 hq with hq|⟨jI,rfl⟩
  ·obtain⟨q0,qr,z6⟩:=jG q (Q3m.2 (.inl (Q3m.2 (.inl hq))))
   have hqr:=vC q (List.mem_of_mem_drop hq);have vh:=z6.old h.ar.wf hqr (Qq kind bs);rw[<-hl]at vh;exact⟨q0,qr,vh.old qS.wf (by rw[hl];exact hqr.more _) z⟩
  ·obtain⟨q0,qr,z6⟩:=jG y (Q3m.2 (.inl (Q3m.2 (.inr ⟨jI,rfl⟩))))
   have vh:=z6.old h.ar.wf v7 (Qq kind bs);rw[<-hl]at vh;have nf:=vh.old qS.wf (by rw[hl];exact v7.more _) z
   exact⟨q0,qr++[(l1.length:Int)],by show y.kids++_=_;rw[nf.k];rfl,nf.s,nf.n,nf.l⟩
 ·rw[en,es,Q6U,Q9z,Q9L,up0,upy,QkI qS.wf (by rw[pF];exact vM),hzm,pF,e1]
  rw[Q6U,Q6U]at zW;omega
def Qbv(d:List Dg):Nat:=(d.filter fun x=>decide (x.c=4)).length
theorem Qet(d:List Dg)(x:Dg):Qbv (d++[x])=Qbv d+n01 (decide (x.c=4)):=by
 unfold Qbv n01;rw[List.filter_append,length_append];by_cases h:x.c=4<;>simp[h]
def sz(m:Mk):Nat:=m.n.length+2 * m.s.length
structure CI (K:Int) (m:Mk) (S:Nat):Prop where
 c:CIn K m (Qbv m.d)
 z:2 * sz m<=S
theorem CI.wrong{S:Nat}(h:CI K m S)(t:Txt){d f u:Int}(hd:d≠4):CI K (QI t d f u m) S:=by
 refine⟨?_,h.z⟩
 have:Qbv (QI t d f u m).d=Qbv m.d:=by
  show Qbv (m.d++[_])=_;rw[Qet,decide_eq_false (show ¬d=4 from hd)];rfl
 rw[this];exact h.c.wrong t d f u
theorem CI.lk{S:Nat}(h:MkI m X B D)(hc:CI K m S)(t:Txt)(b:List UInt8){kind:Int}(hk:kind≠21)(f u:Int):CI K (lkF t b kind f u m) (S+2):=by
 refine⟨hc.c.leaf h.i hk _,?_⟩;have:=hc.z
 show 2 * ((m.n++[_]).length+2 * (Q1N _ m.s).length)<=_;unfold sz at this;rw[Q4R];simp only[length_append,length_singleton];omega
theorem QgR(last:Int)(hs:1<=m.s.length)(kind:Int)(bs:List UInt8):sz (Q1C last (Q1F (Qq kind bs) m))=sz m:=by
 have e1:(Q1C last (Q1F (Qq kind bs) m)).s.length=m.s.length-1:=by
  show(Q1N _ ((Q1N _ m.s).take ((Q1N _ m.s).length-1))).length=_
  rw[Q4R,List.length_take,Q4R];omega
 have e2:(Q1C last (Q1F (Qq kind bs) m)).n.length=m.n.length+2:=by
  show((m.n++[_])++[_]).length=_
  simp
 unfold sz;omega
theorem CI.miss{S:Nat}(h:MkI m X B D)(hc:CI K m S)(hs:2<=m.s.length)(t:Txt)(a:Int):CI K (Q2n t a m) S:=by
 refine⟨?_,?_⟩
 ·have h2:=CIn.shut (h.wrong t 4 a a).i (hc.c.wrong t 4 a a) hs (kind:=22) [] (.inl rfl)
  have:Qbv (Q2n t a m).d=Qbv m.d+1:=by
   show Qbv (m.d++[_])=_;rw[Qet];rfl
  rw[this];exact h2
 ·have:sz (Q2n t a m)=sz m:=QgR _ (by show 1<=m.s.length;omega) 22 []
  rw[this];exact hc.z
theorem Qgc(t:Txt)(a:Int)(hs:2<=m.s.length):(Q2n t a m).s.map Opn.name <+: m.s.map Opn.name:=by
 obtain⟨s0,y,jO⟩:=Q8M hs;have e:=(Qdj (m:=QI t 4 a a m) (s0:=s0) (y:=y) (x:=QR m.s) jO 22 []).2;have e:(Q2n t a m).s=_:=e;rw[e,jO];exact⟨[(QR m.s).name],by simp⟩
end
theorem CI.missGo{K:Int}(t:Txt)(f:Int)(k:Nat){X:List UInt8}{B D S:Nat}:∀(n:Nat)(m:Mk),MkI m X B D->CI K m S->k+1<=m.s.length->m.s.length<=n+k+1->CI K (missGo t f k n m) S/\(Go.Proofs.YtnlbhaeimmenoaaGreat.missGo t f k n m).s.map Opn.name <+: m.s.map Opn.name
 |0,m,_,hc,_,_=>⟨hc,List.prefix_refl _⟩
 |n+1,m,h,hc,h1,h2=>by
  show CI K (if _ then _ else _) S/\(if _ then _ else _:Mk).s.map Opn.name <+: _;split
  ·have h3:=Q4X h.i (by omega) t f
   have ih:=CI.missGo t f k n _ (h.miss (by omega) t f) (hc.miss h (by omega) t f) (by omega) (by omega)
   exact⟨ih.1,ih.2.trans (Qgc t f (by omega))⟩
  ·exact⟨hc,List.prefix_refl _⟩
theorem Q7Q(s:List Opn)(nm:List Int):∀k,Q1H s nm k≠0->(s[Q1H s nm k]?.getD ⟨[],[]⟩).name=nm
 |0,h=>absurd rfl h
 |k+1,h=>by
  unfold Q1H at h ⊢;split at h
  ·rename_i h1
   rw[if_pos h1];exact h1
  ·rename_i h1
   rw[if_neg h1];exact Q7Q s nm k h
theorem Q7x(b:List UInt8){f u:Int}(h0:0<=f)(h1:f<=u)(h2:u<=(Q6 b).r.length):Q2i (Q1K (Q6 b).kind (QQ (Q6 b) b f u))=QC (Q6 b) f u:=by
 rw[Q9f b h0 h1 h2,Q7v _ h0 h1 h2]
section
variable {m:Mk}{X:List UInt8}{B D S:Nat}{b:List UInt8}{f u:Int}
theorem CI.end_(h:MkI m X B D)(hc:CI (Q6 b).kind m S)(h0:0<=f)(h1:f<=u)(h2:u<=(Q6 b).r.length):CI (Q6 b).kind (Q2u (Q6 b) b 10 f u m) (S+2):=by
 unfold Q2u;have jO:=h.i.s1;have jJ:=Q4F m.s (QC (Q6 b) f u) (m.s.length-1);simp only
 split
 ·exact CI.lk (h.wrong (Q6 b) 3 f u) (hc.wrong (Q6 b) (by decide)) (Q6 b) b (by decide) f u
 ·rename_i qI
  have qf:=Q7Q m.s (QC (Q6 b) f u) (m.s.length-1) qI;obtain⟨k,hk⟩:=exq (Q1H m.s (QC (Q6 b) f u) (m.s.length-1));rw[<-hk]at qI jJ qf ⊢;obtain⟨h3,h4⟩:=MkI.missGo (Q6 b) f k m.s.length m h (by omega) (by omega)
  obtain⟨h5,tl,h6⟩:=CI.missGo (Q6 b) f k m.s.length m h hc (by omega) (by omega)
  obtain⟨m1,jo⟩:=exq (Go.Proofs.YtnlbhaeimmenoaaGreat.missGo (Q6 b) f k m.s.length m);rw[<-jo]at h3 h4 h5 h6 ⊢
  have htop:(QR m1.s).name=QC (Q6 b) f u:=by
   rw[<-qf]
   have e1:(m.s.map Opn.name)[k]?=(m1.s.map Opn.name)[k]?:=by
    rw[<-h6,List.getElem?_append_left (by rw[List.length_map];omega)]
   rw[getElem?_map,getElem?_map]at e1;unfold QR;rw[h4,Nat.add_sub_cancel];have jT:k<m.s.length:=by omega
   have j1:k<m1.s.length:=by omega
   rw[getElem?_eq_getElem jT,getElem?_eq_getElem j1]at e1 ⊢;simp only[Option.map_some,Option.some.injEq]at e1;exact e1.symm
  refine⟨?_,?_⟩
  ·have:=CIn.shut h3.i h5.c (by omega) (kind:=10) (QQ (Q6 b) b f u) (.inr ⟨rfl,by rw[Q7x b h0 h1 h2,htop]⟩)
   exact this
  ·have e:sz (Q1C m1.n.length (Q2d (Q6 b) b 10 f u m1))=sz m1:=QgR _ (by omega) 10 _
   rw[e];exact le_trans h5.z (by omega)
theorem CI.start(h:MkI m X B D)(hc:CI (Q6 b).kind m S)(h0:0<=f)(h1:f<=u)(h2:u<=(Q6 b).r.length)(hn:QC (Q6 b) f u≠[]):CI (Q6 b).kind (Q1k (Q6 b) b 8 f u m) (S+6):=by
 unfold Q1k;split
 ·have:=CI.lk (h.wrong (Q6 b) 5 f u) (hc.wrong (Q6 b) (by decide)) (Q6 b) b (kind:=8) (by decide) f u
  exact⟨this.c,le_trans this.z (by omega)⟩
 ·refine⟨hc.c.push h.i (QQ (Q6 b) b f u) (Q7x b h0 h1 h2) (Q91 _ h0 h1 h2 hn).2,?_⟩
  have:=hc.z
  show 2 * ((m.n++[_]).length+2 * (Q1N _ (m.s++[_])).length)<=_;unfold sz at this;rw[Q4R];simp only[length_append,length_singleton];omega
theorem CI.token(h:MkI m X B D)(hc:CI (Q6 b).kind m S){kind:Int}(hk:kind≠21)(h0:0<=f)(h1:f<u)(h2:u<=(Q6 b).r.length)(wh:Bool):CI (Q6 b).kind (Q1E (Q6 b) b kind f u wh m) (S+3 * (u-f).toNat):=by
 unfold Q1E;simp only
 generalize jo:(if wh=false then QI (Q6 b) 1 f u m else if(kind=8\/kind=9\/kind=10)/\(QB (Q6 b).r f u).right=false then QI (Q6 b) 2 f u m else m)=m1
 have h3:∃D',MkI m1 X B D':=by
  rw[<-jo];split
  ·exact⟨_,h.wrong (Q6 b) 1 f u⟩
  ·split
   ·exact⟨_,h.wrong (Q6 b) 2 f u⟩
   ·exact⟨_,h⟩
 have vH:CI (Q6 b).kind m1 S:=by
  rw[<-jo];split
  ·exact hc.wrong (Q6 b) (by decide)
  ·split
   ·exact hc.wrong (Q6 b) (by decide)
   ·exact hc
 obtain⟨D',h3⟩:=h3;split
 ·rename_i hs
  obtain⟨_,rfl,hs⟩:=hs;have hn:QC (Q6 b) f u≠[]:=List.length_pos_iff.1 hs;have h4:=CI.start h3 vH h0 (by omega) h2 hn
  have h5:=(Q91 _ h0 (by omega) h2 hn).1
  exact⟨h4.c,le_trans h4.z (by omega)⟩
 ·split
  ·rename_i hs
   obtain⟨_,rfl⟩:=hs;have h4:=CI.end_ h3 vH h0 (by omega) h2
   exact⟨h4.c,le_trans h4.z (by omega)⟩
  ·have h4:=CI.lk h3 vH (Q6 b) b hk f u
   exact⟨h4.c,le_trans h4.z (by omega)⟩
end
theorem Qik(l:List Int)(k:Nat):(Q1e l k).1≠21:=by
 unfold Q1e;repeat' split
 all_goals (intro h;simp at h)
theorem Q40(l:List Int)(kd k skip:Nat)(bs:List UInt8):(QW l kd k skip bs).1=kd:=by unfold QW;split<;>rfl
theorem Q9b(l:List Int)(k:Nat):(Qd l k).1≠21:=by
 unfold Qd;split
 ·unfold Q1s
  split
  ·rw[Q40];decide
  ·split
   ·rw[Q40];decide
   ·split
    ·rw[Q40];decide
    ·split
     ·exact(by decide:(7:Nat)≠21)
     ·split
      ·exact(by decide:(10:Nat)≠21)
      ·split
       ·unfold Q1m
        repeat' split
        all_goals (intro h;simp at h)
       ·exact(by decide:(11:Nat)≠21)
 ·split
  ·exact Qik l k
  ·split
   ·exact(by decide:(11:Nat)≠21)
   ·exact(by decide:(1:Nat)≠21)
theorem CI.toks{b:List UInt8}(hb:b.length<=1000000):∀(n k:Nat)(m:Mk)(B D S:Nat),(Q6 b).r.length-k<=n->k<=(Q6 b).r.length->MkI m (Q67 (Q6 b) b k) B D->CI (Q6 b).kind m S ->
  CI (Q6 b).kind ((Q1L (Q6 b).r k).foldl (Q5U (Q6 b) b) m) (S+3 * ((Q6 b).r.length-k))
 |0,k,m,B,D,S,h,hk,hi,hc=>by
  rw[Q1a (by omega)]
  exact⟨hc.c,le_trans hc.z (by omega)⟩
 |n+1,k,m,B,D,S,h,hk,hi,hc=>by
  have ok:=(Q3t b).1;have hr:(Q6 b).r.length<=1000000:=le_trans (Q3t b).2.2.1 hb;by_cases jB:k<(Q6 b).r.length
  ·obtain⟨h1,h2,h3,h4⟩:=Qb2 (Q6 b).r jB
   rw[Q1w jB,foldl_cons];have:=hi.token (Q6 b) b hr (Q13 (Q6 b).r k).kind (Q13 (Q6 b).r k).from_ (Q13 (Q6 b).r k).to (Q13 (Q6 b).r k).whole
   rw[h1,h2,Q5X ok (by omega) (by omega) (by omega)]at this
   have jD:(Q13 (Q6 b).r k).kind≠21:=by
    show(((Qd (Q6 b).r k).1:Nat):Int)≠21
    have:=Q9b (Q6 b).r k
    omega
   have vm:=CI.token hi hc jD (f:=k) (u:=((Qd (Q6 b).r k).2.1:Nat)) (by omega) (by omega) (by omega) (Q13 (Q6 b).r k).whole
   have h5:=CI.toks hb n (Qd (Q6 b).r k).2.1 _ (B+3) (D+3) _ (by omega) h4 this vm
   have e:Q5U (Q6 b) b m (Q13 (Q6 b).r k)=Q1E (Q6 b) b (Q13 (Q6 b).r k).kind k ((Qd (Q6 b).r k).2.1:Nat) (Q13 (Q6 b).r k).whole m:=rfl;rw[e];exact⟨h5.c,le_trans h5.z (by omega)⟩
  ·rw[Q1a jB]
   exact⟨hc.c,le_trans hc.z (by omega)⟩
section
open Tryz
theorem QaL(l:List Int)(hl:l.length<=1000000)(f u:Int)(h0:0<=f)(h1:f<=u)(h2:u<=l.length)(jI:Q3h ((l.drop f.toNat).take (u-f).toNat)≠[]) :
  BCall prog 33 [.agg [.val (.int .i64 0),.val (.int .i64 0),.slc 1 (Q0 l),.val (.slice none 0 0)],.val (.int .i64 f),.val (.int .i64 u)] [] (.val (.string ⟨(Q3h ((l.drop f.toNat).take (u-f).toNat)).toArray⟩)) []:=by
 obtain⟨i,rfl⟩:=Int.eq_ofNat_of_zero_le h0;obtain⟨j,rfl⟩:=Int.eq_ofNat_of_zero_le (Int.le_trans h0 h1);have e1:((i:Int).toNat)=i:=Int.toNat_natCast i;have e2:((j:Int)-(i:Int)).toNat=j-i:=by omega
 rw[e1,e2]at jI ⊢;refine BCall.hand (enters_of func33 (by kernel_rfl) rfl) fun w g vs M hL=>?_
 obtain⟨v1,vs1,rfl,k1,hL⟩:=QX hL;obtain⟨v2,vs2,rfl,k2,hL⟩:=QX hL;obtain⟨v3,vs3,rfl,k3,hL⟩:=QX hL;obtain rfl:=Q2T hL;obtain rfl:=ARel.valEq (ob:=[]) k2;obtain rfl:=ARel.valEq (ob:=[]) k3;obtain⟨cs,rfl,hc⟩:=k1
 obtain⟨c0,c1,c2,c3,rfl⟩:∃c0 c1 c2 c3,cs=#[c0,c1,c2,c3]:=by
  rcases cs with ⟨l4⟩
  match l4,hc.1 with
  | [a,b,c,d],_=>exact⟨a,b,c,d,rfl⟩
 obtain rfl:=ARel.valEq (ob:=[]) (hc.2 0 c0 _ rfl rfl).1;obtain rfl:=ARel.valEq (ob:=[]) (hc.2 1 c1 _ rfl rfl).1;obtain rfl:=ARel.valEq (ob:=[]) (hc.2 3 c3 _ rfl rfl).1;obtain⟨A,c,rfl,hr⟩:=Q4g (hc.2 2 c2 _ rfl rfl).1 M;exact(QeQ _ A _ c l i j w hr (by omega) (by omega) hl jI).mono fun e w' ⟨h,hb⟩=>⟨_,h,hb,.val _ rfl⟩
theorem QpO(l:List Node)(c:Cur):BCall prog 13 [.agg (c.el (Q1 l))] [] (.val (.int .i64 c.n)) []:=by
 rw[Cur.el];obtain⟨cn,yV⟩:=exq c.n;obtain⟨cf,gu⟩:=exq c.f;obtain⟨ck,zZ⟩:=exq c.k;rw[<-yV,<-gu,<-zZ];refine fnN (cs0) func13 rfl fun _ _=>?_
 with_reducible refine cv2 (upO (Q1 l) c) (Q1 l) ?_
 exact .pure rfl (.inl rfl)
def nmS(r:List Int):ByteArray:=⟨(Q3h (Q2i r)).toArray⟩
def Qql(k1 k2 k0:Int)(ru:List AV)(rk rf rt:Int)(ra:List AV)(rr re:Bool)(st:ByteArray):Nat->List AV->List Ob->Option (AV×List Ob):=fun f args _=>match f,args with
 |1000010,_=>some (.val (.int .i64 k1),[])
 |1000023,_=>some (.val (.int .i64 k2),[])
 |30,[.ref [.slc 6 _],.val (.int .i64 _),.slc 1 _]=>some (.tup [.val (.int .i64 k0),.val (.bool true)],[])
 |31,[.agg _,.val (.int .i64 _)]=>some (.slc 1 ru,[])
 |32,[.slc 1 _,.val (.int .i64 _),.val (.int .i64 _)]=>some (.agg [.val (.int .i64 rk),.val (.int .i64 rf),.val (.int .i64 rt),.slc 9 ra,.val (.bool rr),.val (.bool re)],[])
 |33,[.agg _,.val (.int .i64 _),.val (.int .i64 _)]=>some (.val (.string st),[])
 |_,_=>none
structure NmOk (t:Txt) (m:Mk) (n:Int):Prop where
 p:PrOk (Qs m).n n
 l:Q7o (Q2i (ruN t.kind (Qs m).n n))
theorem QdP{nm:List Int}(h:Q7o nm):Q3h nm≠[]:=by
 obtain⟨r0,rs,rfl,h0⟩:=h;have hw:=QaB h0;have hb:r0≠-1:=by rintro rfl;exact absurd hw (by decide)
 have e:Q3h (r0::rs)=Q1D [r0]++Q3h rs:=by
  show(if r0=-1 then []else Q1D [r0])++Q3h rs=_
  rw[if_neg hb]
 have h1:(Q1D [r0]).length=Qy r0:=by
  have:Q1D [r0]=encodeRune r0:=by
   show Q2U r0++[]=_;rw[Q2U,if_neg (by omega),append_nil]
  rw[this,Q4z r0 hw]
 intro h2;have:=congrArg List.length h2
 rw[e,length_append,h1]at this;simp at this;omega
theorem QnC(t:Txt)(m:Mk)(ht:t.kind=0\/t.kind=1\/t.kind=2)(n:Int)(h:NmOk t m n)(hk:QO (Qs m).n n=8) :
  BCall prog 12 [Q7e t m,.val (.int .i64 n)] [] (.val (.string (nmS (ruN t.kind (Qs m).n n)))) []:=by
 have cK:=QfN (Qs m).n n;rw[show(Qh (Qs m).n n).kind=8 from hk]at cK;have cK2:=cK;have cA:=cK;have hp:(Q4a t.kind (pr (Qs m).n n)).length<=1000000:=le_trans (Q9T ht _) h.p.p;have cR:=QeZ t m n h.p hp;have je:=h.l;have qB:(ruN t.kind (Qs m).n n).length<=1000000:=by rw[ruN,Q1K,List.length_map];exact hp
 generalize ruN t.kind (Qs m).n n=r at cR je qB ⊢;have jS:=Q9M r 0 r.length (Int.le_refl 0) (by omega) (Int.le_refl _)
 have cD:=QaH r qB 0 r.length (Int.le_refl 0) (by omega) (Int.le_refl _)
 have cS:=QaL r qB (QB r 0 r.length).name.from_ (QB r 0 r.length).name.to jS.1 jS.2.1 jS.2.2 (QdP je);have eS:(⟨(Q3h ((r.drop (QB r 0 r.length).name.from_.toNat).take ((QB r 0 r.length).name.to-(QB r 0 r.length).name.from_).toNat)).toArray⟩:ByteArray)=nmS r:=rfl;rw[eS]at cS;clear eS jS je h hp ht hk;generalize nmS r=st at cS ⊢;obtain⟨nr,gr⟩:=QG r;rw[<-gr.eq]at cD cS;have jH:std.len (Q0 r)=nr:=by show((Q0 r).length:Int)=nr;rw[Qx,gr.eq]
 generalize (QB r 0 nr).name.kind=rk at cD;generalize (QB r 0 nr).name.from_=rf at cD cS;generalize (QB r 0 nr).name.to=rt at cD cS;generalize QL (QB r 0 nr).attrs=ra at cD;generalize (QB r 0 nr).right=rr at cD;generalize (QB r 0 nr).empty=re at cD;obtain⟨ro,vr⟩:=exq (m.n.length:Int);unfold Q7e at cR ⊢;rw[<-vr]at cR ⊢;generalize (Qs m).n=l at cR cK cK2 cA ⊢;generalize t.kind=K at cR ⊢;generalize t.bom=M at cR ⊢;generalize Q0 t.r=R at cR ⊢;generalize Q9 t.off=O at cR ⊢;generalize Q11 m.d=D at cR ⊢;clear vr gr;refine fnN (Qql 8 8 0 (Q0 r) rk rf rt ra rr re st) func12 rfl fun _ _=>?_
 with_reducible refine cv2 (Q0 r) (Q1 l) ?_
 rw[<-jH]at cD
 repeat' first
  |(with_reducible apply And.intro)
  |exact fun h=>absurd (show false=true from h) (by decide)
  |exact fun h=>absurd (show true=false from h) (by decide)
  |(intro _)
 all_goals first
  |exact cK
  |exact cK2
  |exact cA
  |exact cR
  |exact cD
  |exact cS
  |exact .pure rfl (.inl rfl)
end
structure Rp.lo (r:Rp) (i:Int):Prop where
 e4:0<=r.a4/\r.a4<=i
 e5:0<=r.a5/\r.a5<=1000000
 e6:0<=r.a6/\r.a6<=402 * i
 e7:0<=r.a7/\r.a7<=402 * i
section
open Tryz
section
variable {w w':World}{A':Nat->Nat->Prop}
end
theorem QkQ(b:List UInt8)(s:ByteArray):BCall prog 78 [.slc 1 (Q4 b),.val (.string s)] [] (.val (.bool (s.data.toList.isPrefixOf b))) []:=by
 obtain⟨n,hn⟩:=QG b;have jH:std.len (Q4 b)=n:=by show((Q4 b).length:Int)=n;rw[Q1c,hn.eq]
 obtain⟨z,hz⟩:∃z:Int,IsN s.size z:=⟨_,rfl⟩;have jh:std.szS s=z:=hz.eq.symm;refine fnN (cs0) func78 rfl fun _ _=>?_
 with_reducible refine cv1 (Q4 b) ?_
 have hzn:=hz.eq
 have key:std.cut (Q4 b) 0 z=Q4 (b.take s.size):=by
  show((Q4 b).drop (0:Int).toNat).take (z-0).toNat=_
  rw[hzn];simp[Q4,List.map_take]
 refine⟨fun h=>⟨?_,?_,.pure rfl (.inl ?_)⟩,fun h=>.pure rfl (.inl ?_)⟩
 ·have h:std.szS s<=std.len (Q4 b):=of_decide_eq_true h
  show 0<=(0:Int)/\0<=std.szS s/\std.szS s<=std.len (Q4 b);rw[jh]at h ⊢;omega
 ·show std.isB (std.cut (Q4 b) 0 (std.szS s))
  rw[jh,key];exact Qaq _
 ·show AV.val (.bool (std.eqS (std.strB (std.cut (Q4 b) 0 (std.szS s))) s))=_
  rw[jh,key,Qgh];show AV.val (.bool ((⟨(b.take s.size).toArray⟩:ByteArray).toList == s.toList))=_;rw[ByteArray.toList_eq,ByteArray.toList_eq];congr 2
  have e:s.size=s.data.toList.length:=by simp
  rw[Bool.eq_iff_iff,beq_iff_eq,List.isPrefixOf_iff_prefix,List.prefix_iff_eq_take,e];exact⟨fun h=>h.symm,fun h=>h.symm⟩
 ·have h:¬std.szS s<=std.len (Q4 b):=of_decide_eq_false h
  rw[jh,jH]at h
  have hx:s.data.toList.isPrefixOf b=false:=by
   cases hp:s.data.toList.isPrefixOf b with
   |false=>rfl
   |true =>
    exfalso;have:=(List.isPrefixOf_iff_prefix.1 hp).length_le
    have e:s.size=s.data.toList.length:=by simp
    have:=hn.eq
    omega
  rw[hx]
def Qra(bg:ByteArray->Bool):Nat->List AV->List Ob->Option (AV×List Ob):=fun f args _=>match f,args with
 |78,[.slc 1 _,.val (.string s)]=>some (.val (.bool (bg s)),[])
 |_,_=>none
def bgA(b:List UInt8)(s:ByteArray):Bool:=s.data.toList.isPrefixOf b
theorem Qig(b:List UInt8):BCall prog 36 [.slc 1 (Q4 b)] [] (.tup [.val (.int .i64 (QV b).1),.val (.int .i64 (QV b).2)]) []:=by
 have cB:=fun s=>QkQ b s
 have cB:∀s,BCall prog 78 [.slc 1 (Q4 b),.val (.string s)] [] (.val (.bool (bgA b s))) []:=cB;obtain⟨K,hK⟩:=exq (QV b);rw[<-hK];refine fnN (Qra (bgA b)) func36 rfl fun _ _=>?_
 with_reducible refine cv2 (bgA b) (Q4 b) ?_
 have e:K=if bgA b ⟨#[254,255]⟩=true then(1,2)else if bgA b ⟨#[255,254]⟩=true then(2,2)else if bgA b ⟨#[239,187,191]⟩=true then(0,3)else if bgA b ⟨#[0,60,0,63]⟩=true then(1,0)else if bgA b ⟨#[60,0,63,0]⟩=true then(2,0)else(0,0):=by
  rw[hK];unfold QV kR signsL bgA;simp only[List.drop_zero,List.find?];cases [254,255].isPrefixOf b<;>cases [255,254].isPrefixOf b<;>cases [239,187,191].isPrefixOf b<;>cases [0,60,0,63].isPrefixOf b<;>cases [60,0,63,0].isPrefixOf b<;>rfl
 rw[e];refine⟨cB _,fun h1=>?_,fun h1=>⟨cB _,fun h2=>?_,fun h2=>⟨cB _,fun h3=>?_,fun h3=>⟨cB _,fun h4=>?_,fun h4=>⟨cB _,fun h5=>?_,fun h5=>?_⟩⟩⟩⟩⟩
 all_goals
  simp only[*];exact .pure rfl ⟨.inl rfl,.inl rfl,trivial⟩
structure Ev where
 do_:Int
 kind:Int
 b:List UInt8
 deriving Inhabited,DecidableEq
def Ev.av(x:Ev):AV:=if x.do_=2 then .agg [.val (.int .i64 2),.val (.int .i64 x.kind),.slc 1 (Q4 x.b)]else .agg [.val (.int .i64 x.do_),.val (.int .i64 0),.val (.slice none 0 0)]
def spF(l:List Node):Nat->Int->Bool->List Ev
 |0,_,_=>[]
 |f+1,n,top=>if(Qh l n).kind≠21/\top=false then [⟨2,(Qh l n).kind,pr l n⟩]
  else(if top=true then []else [⟨1,0,[]⟩])++(Qh l n).kids.flatMap (fun k=>spF l f k false)++(if top=true then []else [⟨3,0,[]⟩])
def spV(l:List Node)(n:Int)(top:Bool):List Ev:=spF l (n.toNat+1) n top
theorem Qfa{l:List Node}(hw:Wf l):∀(f f':Nat)(n:Int)(top:Bool),0<=n->n<l.length->n.toNat<f->n.toNat<f'->spF l f n top=spF l f' n top
 |0,_,_,_,_,_,h,_=>by omega
 |_+1,0,_,_,_,_,_,h=>by omega
 |f+1,f'+1,n,top,h0,h1,h2,h3=>by
  simp only[spF]
  have:(Qh l n).kids.flatMap (fun k=>spF l f k false)=(Qh l n).kids.flatMap (fun k=>spF l f' k false):=by
   refine congrArg List.flatten (map_congr_left fun k hk=>?_)
   have:=hw n h0 h1 k hk
   exact Qfa hw f f' k false this.1 (by omega) (by omega) (by omega)
  rw[this]
theorem Qbj{l:List Node}(hw:Wf l){n:Int}(h0:0<=n)(h1:n<l.length)(top:Bool):spV l n top=if(Qh l n).kind≠21/\top=false then [⟨2,(Qh l n).kind,pr l n⟩]
  else(if top=true then []else [⟨1,0,[]⟩])++(Qh l n).kids.flatMap (fun k=>spV l k false)++(if top=true then []else [⟨3,0,[]⟩]):=by
 show spF l (n.toNat+1) n top=_;simp only[spF]
 have:(Qh l n).kids.flatMap (fun k=>spF l n.toNat k false)=(Qh l n).kids.flatMap (fun k=>spV l k false):=by
  refine congrArg List.flatten (map_congr_left fun k hk=>?_)
  have:=hw n h0 h1 k hk
  exact Qfa hw _ _ k false this.1 (by omega) (by omega) (by omega)
 rw[this]
def nxt(k:Int):Int:=k+1
end
structure Evr where
 do_:Int
 kind:Int
 b:Option (List UInt8)
 deriving Inhabited
def Evr.ev(x:Evr):Ev:=⟨x.do_,x.kind,x.b.getD []⟩
def Evr.ba(x:Evr):AV:=match x.b with|some b=>.slc 1 (Q4 b)|none=>Qos
def Evr.av(x:Evr):AV:=.agg [.val (.int .i64 x.do_),.val (.int .i64 x.kind),x.ba]
structure RSt where
 op:List (List Int)
 ev:List Evr
 wr:List Dg
 deriving Inhabited
def Q4P(t:Txt)(c f u:Int)(s:RSt):RSt:=⟨s.op,s.ev,s.wr++[⟨Q2c t f,Q2c t u,c⟩]⟩
def Q7U(t:Txt)(b:List UInt8)(kind f u:Int)(s:RSt):RSt:=⟨s.op,s.ev++[⟨2,kind,some (QQ t b f u)⟩],s.wr⟩
def Qm8(t:Txt)(a:Int)(s:RSt):RSt:=⟨s.op.take (s.op.length-1),s.ev++[⟨2,22,none⟩,⟨3,0,none⟩],s.wr++[⟨Q2c t a,Q2c t a,4⟩]⟩
def Q77(op:List (List Int))(nm:List Int):Nat->Int
 |0=>-1
 |k+1=>if op[k]?.getD []=nm then k else Q77 op nm k
def Q3I(t:Txt)(f:Int)(k:Nat):Nat->RSt->RSt
 |0,s=>s
 |n+1,s=>if k<s.op.length then Q3I t f k n (Qm8 t f s)else s
def Qdl(t:Txt)(b:List UInt8)(kind f u:Int)(s:RSt):RSt :=
 if 64<=s.op.length then Q7U t b kind f u (Q4P t 5 f u s)
 else Q7U t b kind f u ⟨s.op++[QC t f u],s.ev++[⟨1,0,none⟩],s.wr⟩
def Qo5(t:Txt)(b:List UInt8)(kind f u:Int)(s:RSt):RSt :=
 if Q77 s.op (QC t f u) s.op.length<0 then Q7U t b kind f u (Q4P t 3 f u s)
 else
  let s1:=Q7U t b kind f u (Q3I t f ((Q77 s.op (QC t f u) s.op.length).toNat+1) (s.op.length+1) s)
  ⟨s1.op.take (Q77 s.op (QC t f u) s.op.length).toNat,s1.ev++[⟨3,0,none⟩],s1.wr⟩
def Qba(t:Txt)(b:List UInt8)(kind f u:Int)(wh:Bool)(s:RSt):RSt :=
 let s1:=if wh=false then Q4P t 1 f u s else if(kind=8\/kind=9\/kind=10)/\(QB t.r f u).right=false then Q4P t 2 f u s else s
 if wh=true/\kind=8/\0<(QC t f u).length then Qdl t b kind f u s1
 else if wh=true/\kind=10 then Qo5 t b kind f u s1
 else Q7U t b kind f u s1
def QgL(t:Txt)(b:List UInt8)(s:RSt)(x:Tok):RSt:=Qba t b x.kind x.from_ x.to x.whole s
def Qr0(t:Txt)(b:List UInt8)(s:RSt):RSt :=
 let s1:=(Q2E t.r).foldl (QgL t b) s
 Q3I t t.r.length 0 (s1.op.length+1) s1
def Q5W(b:List UInt8):RSt:=⟨[],if 0<(QV b).2 then [⟨2,23,some (b.take (QV b).2.toNat)⟩]else [],[]⟩
def Qbd(b:List UInt8):RSt:=Qr0 (Q6 b) b (Q5W b)
theorem Qhe{l:List Node}(h:Wf l)(x:Node):∀(f:Nat)(n:Int)(top:Bool),0<=n->n<l.length->spF (l++[x]) f n top=spF l f n top
 |0,_,_,_,_=>rfl
 |f+1,n,top,h0,h1=>by
  simp only[spF,Q2x h0 h1];have e1:pr (l++[x]) n=pr l n:=Qaw h x h0 h1
  have e2:(Qh l n).kids.flatMap (fun k=>spF (l++[x]) f k false)=(Qh l n).kids.flatMap (fun k=>spF l f k false):=by
   refine congrArg List.flatten (map_congr_left fun k hk=>?_)
   have:=h n h0 h1 k hk
   exact Qhe h x f k false this.1 (by omega)
  rw[e1,e2]
theorem Qp7{l:List Node}(h:Wf l)(x:Node){n:Int}(top:Bool)(h0:0<=n)(h1:n<l.length):spV (l++[x]) n top=spV l n top:=Qhe h x _ n top h0 h1
def spL(l:List Node)(ks:List Int):List Ev:=ks.flatMap fun k=>spV l k false
theorem Q60{l:List Node}(h:Wf l)(x:Node){ks:List Int}(hk:InR l ks):spL (l++[x]) ks=spL l ks :=
 congrArg List.flatten (map_congr_left fun k yu=>Qp7 h x false (hk k yu).1 (hk k yu).2)
theorem Qdw(l:List Node)(a b:List Int):spL l (a++b)=spL l a++spL l b:=by simp[spL]
theorem Q9y(l:List Node)(k:Int):spL l [k]=spV l k false:=by simp[spL]
theorem QcN{l:List Node}(h:Ar l){kind:Int}(hk:kind≠21)(bs:List UInt8):spV (l++[Qq kind bs]) l.length false=[⟨2,kind,bs⟩]:=by
 have ha:=Q3G h kind bs;rw[Qbj ha.1.wf (by omega) (by simp only[length_append,length_singleton];omega),Q2e,if_pos ⟨hk,rfl⟩,ha.2];rfl
theorem QjG{l:List Node}(h:Ar l){ks:List Int}(hk:InR l ks):spV (l++[Q15 l 21 ks]) l.length false=⟨1,0,[]⟩::(spL l ks++[⟨3,0,[]⟩]):=by
 have ha:=Q6Q h 21 hk;rw[Qbj ha.1.wf (by omega) (by simp only[length_append,length_singleton];omega),Q2e,if_neg (fun e=>e.1 rfl),if_neg (by decide),if_neg (by decide)]
 show [_]++spL (l++[Q15 l 21 ks]) ks++_=_;rw[Q60 h.wf _ hk];rfl
theorem QnV{l:List Node}(h:Ar l){ks:List Int}(hk:InR l ks):spV (l++[Q15 l 20 ks]) l.length true=spL l ks:=by
 have ha:=Q6Q h 20 hk;rw[Qbj ha.1.wf (by omega) (by simp only[length_append,length_singleton];omega),Q2e,if_neg (fun e=>by cases e.2),if_pos rfl,if_pos rfl]
 show []++spL (l++[Q15 l 20 ks]) ks++[]=_;rw[Q60 h.wf _ hk,nil_append,append_nil]
def evO(l:List Node)(x:Opn):List Ev:=⟨1,0,[]⟩::spL l x.kids
def evS(l:List Node)(s:List Opn):List Ev:=s.flatMap (evO l)
theorem Q6T(l:List Node)(s:List Opn)(x:Opn):evS l (s++[x])=evS l s++evO l x:=by simp[evS]
theorem Q9K{l:List Node}(h:Wf l)(x:Node){s:List Opn}(hs:∀y∈s,InR l y.kids):evS (l++[x]) s=evS l s :=
 congrArg List.flatten (map_congr_left fun y hy=>by unfold evO;rw[Q60 h x (hs y hy)])
structure Rel (m:Mk) (s:RSt):Prop where
 op:s.op=(m.s.drop 1).map Opn.name
 wr:s.wr=m.d
 ev:(⟨1,0,[]⟩:Ev)::s.ev.map Evr.ev=evS m.n m.s
theorem QjO{s:List Opn}(hs:s≠[])(x:Opn):(s++[x]).drop 1=s.drop 1++[x]:=by
 cases s with
 |nil=>exact absurd rfl hs
 |cons a r=>rfl
section
variable {m:Mk}{s:RSt}{X:List UInt8}{B D:Nat}
theorem Rel.len(h:Rel m s):s.op.length=m.s.length-1:=by rw[h.op];simp
theorem Rel.wrong(h:Rel m s)(t:Txt)(c f u:Int):Rel (QI t c f u m) (Q4P t c f u s) :=
 ⟨h.op,by show s.wr++_=m.d++_;rw[h.wr],h.ev⟩
theorem Rel.leaf(hm:MkInv m X B D)(h:Rel m s){kind:Int}(hk:kind≠21)(bs:List UInt8)(q:Option (List UInt8))(hq:q.getD []=bs):Rel (Q2X m.n.length (Q1F (Qq kind bs) m)) ⟨s.op,s.ev++[⟨2,kind,q⟩],s.wr⟩:=by
 obtain⟨s0,qM⟩:=Q26 hm.s1;generalize QR m.s=y at qM;have hr:=hm.rng;have ho:=h.op;have he:=h.ev;rw[qM]at hr ho he;have vC:∀z∈s0,InR m.n z.kids:=fun z hz=>hr z (mem_append_left _ hz)
 have v7:InR m.n y.kids:=hr y (by simp)
 refine⟨?_,h.wr,?_⟩
 ·show s.op=((Q1N m.n.length m.s).drop 1).map Opn.name
  rw[qM,Q1U,ho];cases s0<;>simp
 ·show(⟨1,0,[]⟩:Ev)::(s.ev++[(⟨2,kind,q⟩:Evr)]).map Evr.ev=evS (m.n++[Qq kind bs]) (Q1N m.n.length m.s)
  rw[Q6T]at he;rw[qM,Q1U,Q6T,Q9K hm.ar.wf _ vC];unfold evO;rw[Qdw,Q9y,Q60 hm.ar.wf _ v7,QcN hm.ar hk,map_append,<-cons_append,he];unfold evO Evr.ev;rw[<-hq];simp
theorem Rel.push(hm:MkInv m X B D)(h:Rel m s)(bs:List UInt8)(nm:List Int)(k:Int)(hk:k≠21):Rel (Q2X m.n.length (Q1F (Qq k bs) { m with s:=m.s++[⟨nm,[]⟩] })) ⟨s.op++[nm],(s.ev++[⟨1,0,none⟩])++[⟨2,k,some bs⟩],s.wr⟩:=by
 have jI:m.s≠[]:=fun e=>by have:=hm.s1;rw[e]at this;simp at this
 refine⟨?_,h.wr,?_⟩
 ·show s.op++[nm]=((Q1N m.n.length (m.s++[⟨nm,[]⟩])).drop 1).map Opn.name
  rw[Q1U,QjO jI,map_append,<-h.op];rfl
 ·show(⟨1,0,[]⟩:Ev)::((s.ev++[(⟨1,0,none⟩:Evr)])++[(⟨2,k,some bs⟩:Evr)]).map Evr.ev=evS (m.n++[Qq k bs]) (Q1N m.n.length (m.s++[⟨nm,[]⟩]))
  rw[Q1U,Q6T,Q9K hm.ar.wf _ hm.rng,<-h.ev];unfold evO;rw[nil_append,Q9y,QcN hm.ar hk];simp[Evr.ev]
theorem QjK(s0:List Opn)(y x:Opn)(z:List Int):(((s0++[y]++[x]).drop 1).map Opn.name).take ((((s0++[y]++[x]).drop 1).map Opn.name).length-1)=((s0++[(⟨y.name,z⟩:Opn)]).drop 1).map Opn.name:=by
 cases s0 with
 |nil=>rfl
 |cons a r =>
  have e:((a::r++[y]++[x]).drop 1).map Opn.name=(r.map Opn.name++[y.name])++[x.name]:=by simp
  rw[e,length_append,length_singleton,Nat.add_sub_cancel,List.take_left];simp
theorem Rel.shut(hm:MkInv m X B D)(h:Rel m s)(hs:2<=m.s.length){kind:Int}(hk:kind≠21)(bs:List UInt8)(q:Option (List UInt8))(hq:q.getD []=bs) :
  Rel (Q1C m.n.length (Q1F (Qq kind bs) m)) ⟨s.op.take (s.op.length-1),s.ev++[⟨2,kind,q⟩,⟨3,0,none⟩],s.wr⟩:=by
 obtain⟨s0,y,jO⟩:=Q8M hs;generalize QR m.s=x at jO;obtain⟨en,es⟩:=Qdj jO kind bs;obtain⟨qS,zg⟩:=Q3G hm.ar kind bs;have hr:=hm.rng;have ho:=h.op;have he:=h.ev;rw[jO]at hr ho he;have vC:∀z∈s0,InR m.n z.kids:=fun z hz=>hr z (mem_append_left _ (mem_append_left _ hz))
 have v7:InR m.n y.kids:=hr y (mem_append_left _ (by simp))
 have za:InR m.n x.kids:=hr x (by simp)
 have vM:InR (m.n++[Qq kind bs]) (x.kids++[(m.n.length:Int)]):=fun k hk=>by
  rcases mem_append.1 hk with hk|hk
  ·exact za.more _ k hk
  ·obtain rfl:k=(m.n.length:Int):=by simpa using hk
   simp;omega
 have j8:=QjG qS vM
 have e1:spL (m.n++[Qq kind bs]) (x.kids++[(m.n.length:Int)])=spL m.n x.kids++[⟨2,kind,bs⟩]:=by
  rw[Qdw,Q9y,Q60 hm.ar.wf _ za,QcN hm.ar hk]
 rw[e1]at j8;obtain⟨l1,hl⟩:=exq (m.n++[Qq kind bs]);rw[<-hl]at j8 en es qS;generalize Q15 l1 21 (x.kids++[(m.n.length:Int)])=z at j8 en
 have up0:evS (l1++[z]) s0=evS m.n s0:=by
  rw[Q9K qS.wf z (fun q hq=>by rw[hl];exact(vC q hq).more _),hl,Q9K hm.ar.wf _ vC]
 have upy:spL (l1++[z]) y.kids=spL m.n y.kids:=by
  rw[Q60 qS.wf z (by rw[hl];exact v7.more _),hl,Q60 hm.ar.wf _ v7]
 refine⟨?_,h.wr,?_⟩
 ·show s.op.take (s.op.length-1)=_
  rw[es,ho,QjK]
 ·show(⟨1,0,[]⟩:Ev)::(s.ev++[(⟨2,kind,q⟩:Evr),⟨3,0,none⟩]).map Evr.ev=_
  rw[Q6T,Q6T]at he;rw[en,es,Q6T,up0,map_append,<-cons_append,he];unfold evO;rw[Qdw,Q9y,upy,j8,<-hq];simp[Evr.ev]
theorem Rel.miss(hm:MkInv m X B D)(h:Rel m s)(hs:2<=m.s.length)(t:Txt)(a:Int):Rel (Q2n t a m) (Qm8 t a s) :=
 Rel.shut (Q1Q hm t 4 a a) (h.wrong t 4 a a) hs (kind:=22) (by decide) [] none rfl
end
theorem Rel.missGo(t:Txt)(f:Int)(k:Nat){X:List UInt8}{B D:Nat}:∀(n:Nat)(m:Mk)(s:RSt),MkInv m X B D->Rel m s->Rel (Go.Proofs.YtnlbhaeimmenoaaGreat.missGo t f k n m) (Q3I t f k n s)
 |0,m,s,_,h=>h
 |n+1,m,s,hm,h=>by
  show Rel (if _ then _ else _) (if _ then _ else _);rw[h.len];split
  ·exact Rel.missGo t f k n _ _ (Q4X hm (by omega) t f).1 (h.miss hm (by omega) t f)
  ·exact h
theorem QhH(s:List Opn)(nm:List Int):∀k,((Q1H s nm k:Nat):Int)=Q77 ((s.drop 1).map Opn.name) nm k+1
 |0=>rfl
 |k+1=>by
  unfold Q1H Q77
  have e:((s.drop 1).map Opn.name)[k]?.getD []=(s[k+1]?.getD ⟨[],[]⟩).name:=by
   rw[getElem?_map,List.getElem?_drop,Nat.add_comm 1 k];cases s[k+1]?<;>rfl
  rw[e];split
  ·rfl
  ·exact QhH s nm k
section
variable {m:Mk}{s:RSt}{X:List UInt8}{B D:Nat}{t:Txt}{b:List UInt8}{f u:Int}
theorem Rel.lk(hm:MkInv m X B D)(h:Rel m s){kind:Int}(hk:kind≠21):Rel (lkF t b kind f u m) (Q7U t b kind f u s) :=
 Rel.leaf hm h hk (QQ t b f u) (some (QQ t b f u)) rfl
theorem Rel.start(hm:MkInv m X B D)(h:Rel m s){kind:Int}(hk:kind≠21):Rel (Q1k t b kind f u m) (Qdl t b kind f u s):=by
 have h1:=hm.s1;unfold Q1k Qdl;rw[h.len];by_cases hc:64<m.s.length
 ·rw[if_pos hc,if_pos (by omega)]
  exact Rel.lk (Q1Q hm t 5 f u) (h.wrong t 5 f u) hk
 ·rw[if_neg hc,if_neg (by omega)]
  exact Rel.push hm h (QQ t b f u) (QC t f u) kind hk
theorem Rel.end_(hm:MkInv m X B D)(h:Rel m s){kind:Int}(hk:kind≠21):Rel (Q2u t b kind f u m) (Qo5 t b kind f u s):=by
 have h1:=hm.s1;have hf:=QhH m.s (QC t f u) (m.s.length-1);have jJ:=Q4F m.s (QC t f u) (m.s.length-1);rw[<-h.op]at hf;unfold Q2u Qo5;rw[h.len];simp only
 generalize hK:Q1H m.s (QC t f u) (m.s.length-1)=K at hf jJ ⊢;generalize hR:Q77 s.op (QC t f u) (m.s.length-1)=r at hf ⊢;by_cases hc:K=0
 ·rw[if_pos hc,if_pos (by omega)]
  exact Rel.lk (Q1Q hm t 3 f u) (h.wrong t 3 f u) hk
 ·rw[if_neg hc,if_neg (by omega)]
  have hr:r.toNat+1=K:=by omega
  rw[show m.s.length-1+1=m.s.length by omega,hr]
  obtain⟨h3,h4⟩:=Q7i t f K m.s.length m hm (by omega) (by omega)
  have h5:=Rel.missGo t f K m.s.length m s hm h;have h6:=h5.len;have h7:=Rel.shut h3 h5 (by omega) hk (QQ t b f u) (some (QQ t b f u)) rfl
  have e:r.toNat=(Q3I t f K m.s.length s).op.length-1:=by omega
  show Rel _ ⟨(Q3I t f K m.s.length s).op.take r.toNat,((Q3I t f K m.s.length s).ev++[_])++[_],_⟩;rw[e,append_assoc];exact h7
theorem Rel.token(hm:MkInv m X B D)(h:Rel m s){kind:Int}(hk:kind≠21)(wh:Bool):Rel (Q1E t b kind f u wh m) (Qba t b kind f u wh s):=by
 unfold Q1E Qba;simp only
 generalize jo:(if wh=false then QI t 1 f u m else if(kind=8\/kind=9\/kind=10)/\(QB t.r f u).right=false then QI t 2 f u m else m)=m1;generalize jO:(if wh=false then Q4P t 1 f u s else if(kind=8\/kind=9\/kind=10)/\(QB t.r f u).right=false then Q4P t 2 f u s else s)=s1
 have h3:∃D',MkInv m1 X B D'/\Rel m1 s1:=by
  rw[<-jo,<-jO];split
  ·exact⟨_,Q1Q hm t 1 f u,h.wrong t 1 f u⟩
  ·split
   ·exact⟨_,Q1Q hm t 2 f u,h.wrong t 2 f u⟩
   ·exact⟨_,hm,h⟩
 obtain⟨D',h3,h4⟩:=h3;split
 ·exact Rel.start h3 h4 hk
 ·split
  ·exact Rel.end_ h3 h4 hk
  ·exact Rel.lk h3 h4 hk
end
theorem Rel.toks{t:Txt}{b:List UInt8}(ok:TxtOk t b)(hr:t.r.length<=1000000):∀(n k:Nat)(m:Mk)(s:RSt)(B D:Nat),t.r.length-k<=n->k<=t.r.length->MkI m (Q67 t b k) B D->Rel m s ->
  Rel ((Q1L t.r k).foldl (Q5U t b) m) ((Q1L t.r k).foldl (QgL t b) s)
 |0,k,m,s,B,D,h,hk,hi,hc=>by
  rw[Q1a (by omega)];exact hc
 |n+1,k,m,s,B,D,h,hk,hi,hc=>by
  by_cases jB:k<t.r.length
  ·obtain⟨h1,h2,h3,h4⟩:=Qb2 t.r jB
   rw[Q1w jB,foldl_cons,foldl_cons];have:=hi.token t b hr (Q13 t.r k).kind (Q13 t.r k).from_ (Q13 t.r k).to (Q13 t.r k).whole
   rw[h1,h2,Q5X ok (by omega) (by omega) (by omega)]at this
   have jD:(Q13 t.r k).kind≠21:=by
    show(((Qd t.r k).1:Nat):Int)≠21
    have:=Q9b t.r k
    omega
   have h5:Rel (Q1E t b (Q13 t.r k).kind k ((Qd t.r k).2.1:Nat) (Q13 t.r k).whole m) (QgL t b s (Q13 t.r k)):=Rel.token hi.i hc jD _;exact Rel.toks ok hr n (Qd t.r k).2.1 _ _ (B+3) (D+3) (by omega) h4 this h5
  ·rw[Q1a jB];exact hc
theorem QjJ(b:List UInt8):Rel (Q3e b) (Q5W b):=by
 have h0:Rel mk0 ⟨[],[],[]⟩:=⟨rfl,rfl,rfl⟩;unfold Q3e Q5W;split
 ·exact Rel.leaf mk0_inv.i h0 (kind:=23) (by decide) _ (some _) rfl
 ·exact h0
theorem Qjr(b:List UInt8)(hb:b.length<=100000):(Qbd b).wr=(Qc b).d/\(Qbd b).ev.map Evr.ev=spV (Qs (Qc b)).n (Qc b).n.length true:=by
 have hs:=Qbk b hb;have ok:=(Q3t b).1;have hi:=Q8v b;obtain⟨h1,h2⟩:=QhT ok hs.hr hi;have h3:=Rel.toks ok hs.hr (Q6 b).r.length 0 _ _ _ _ (by omega) (by omega) hi (QjJ b)
 have h4:=(Q9W ok hs.hr (Q6 b).r.length 0 _ _ _ (by omega) (by omega) hi)
 have hR:Rel (Qc b) (Qbd b):=by
  show Rel (missGo _ _ _ _ _) (Q3I _ _ _ _ _);have e:=h3.len;have jO:=h4.i.s1;show Rel (missGo (Q6 b) _ 0 ((Q1L (Q6 b).r 0).foldl (Q5U (Q6 b) b) (Q3e b)).s.length ((Q1L (Q6 b).r 0).foldl (Q5U (Q6 b) b) (Q3e b))) (Q3I (Q6 b) _ 0 (((Q1L (Q6 b).r 0).foldl (QgL (Q6 b) b) (Q5W b)).op.length+1) ((Q1L (Q6 b).r 0).foldl (QgL (Q6 b) b) (Q5W b)));rw[e,show ∀x:Nat,1<=x->x-1+1=x from fun x hx=>by omega]
  ·exact Rel.missGo _ _ _ _ _ _ h4.i h3
  ·exact jO
 refine⟨hR.wr,?_⟩;have h2:(Qc b).s.length=1:=h2;obtain⟨x,hx⟩:=List.length_eq_one_iff.1 h2;have hr:=h1.i.rng;have vz:(Q8D (Q6 b) b (Q3e b)).s=[x]:=hx;rw[vz]at hr;have he:=hR.ev;rw[hx]at he
 have he2:(Qbd b).ev.map Evr.ev=spL (Qc b).n x.kids:=by
  have:evS (Qc b).n [x]=⟨1,0,[]⟩::spL (Qc b).n x.kids:=by simp[evS,evO]
  rw[this]at he;exact(List.cons.inj he).2
 rw[he2]
 have e3:(Qs (Qc b)).n=(Qc b).n++[Q15 (Qc b).n 20 x.kids]:=by
  show(Qc b).n++[Q15 (Qc b).n 20 (QR (Qc b).s).kids]=_
  rw[hx];rfl
 rw[e3];exact(QnV h1.i.ar (hr x (by simp))).symm
def Qau(x:Node):Prop:=x.kind=21\/x.kids=[]
def MkL(m:Mk):Prop:=∀x∈m.n,Qau x
theorem Q59{l:List Node}(h:∀x∈l,Qau x){y:Node}(hy:Qau y):∀x∈l++[y],Qau x:=fun x hx=>by
 rcases mem_append.1 hx with hx|hx
 ·exact h x hx
 ·obtain rfl:x=y:=by simpa using hx
  exact hy
section
variable {m:Mk}
theorem MkL.lk(h:MkL m)(t:Txt)(b:List UInt8)(kind f u:Int):MkL (lkF t b kind f u m):=Q59 (y:=Qq kind _) h (.inr rfl)
theorem MkL.shut(h:MkL m)(kind:Int)(bs:List UInt8)(a:Int):MkL (Q1C a (Q1F (Qq kind bs) m)):=Q59 (y:=Q15 _ 21 _) (Q59 (y:=Qq kind bs) h (.inr rfl)) (.inl rfl)
theorem MkL.wrong(h:MkL m)(t:Txt)(c f u:Int):MkL (QI t c f u m):=h
theorem MkL.miss(h:MkL m)(t:Txt)(a:Int):MkL (Q2n t a m):=MkL.shut (m:=QI t 4 a a m) h _ _ _
end
theorem MkL.missGo(t:Txt)(f:Int)(k:Nat):∀(j:Nat)(m:Mk),MkL m->MkL (missGo t f k j m)
 |0,_,h=>h
 |j+1,m,h=>by
  show MkL (if _ then _ else _);split
  ·exact MkL.missGo t f k j _ (h.miss t _)
  ·exact h
section
variable {m:Mk}
theorem MkL.token(h:MkL m)(t:Txt)(b:List UInt8)(kind f u:Int)(wh:Bool):MkL (Q1E t b kind f u wh m):=by
 unfold Q1E;simp only
 generalize hm1:(if wh=false then QI t 1 f u m else if(kind=8\/kind=9\/kind=10)/\(QB t.r f u).right=false then QI t 2 f u m else m)=m1
 have h1:MkL m1:=by
  rw[<-hm1];split
  ·exact h
  ·split
   ·exact h
   ·exact h
 split
 ·unfold Q1k
  split
  ·exact MkL.lk (m:=QI t 5 f u m1) h1 t b kind f u
  ·exact MkL.lk (m:={ m1 with s:=m1.s++[⟨QC t f u,[]⟩] }) h1 t b kind f u
 ·split
  ·unfold Q2u
   simp only
   split
   ·exact MkL.lk (m:=QI t 3 f u m1) h1 t b kind f u
   ·exact MkL.shut (MkL.missGo t f _ _ _ h1) _ _ _
  ·exact h1.lk t b kind f u
end
theorem MkL.toks(t:Txt)(b:List UInt8):∀(ts:List Tok)(m:Mk),MkL m->MkL (ts.foldl (Q5U t b) m)
 | [],m,h=>h
 |x::ts,m,h=>by
  rw[foldl_cons];exact MkL.toks t b ts _ (h.token t b _ _ _ _)
theorem Qn8(b:List UInt8):MkL (Qc b):=by
 refine MkL.missGo _ _ _ _ _ (MkL.toks _ _ _ _ ?_);unfold Q3e;have h0:MkL mk0:=fun x hx=>by cases hx
 split
 ·exact Q59 (y:=Qq 23 _) h0 (.inr rfl)
 ·exact h0
theorem Qdz(b:List UInt8):∀n:Int,0<=n->n<(Qc b).n.length->Qau (Qh (Qs (Qc b)).n n):=fun n h0 h1=>by
 have hlt:n.toNat<(Qc b).n.length:=by omega
 have e:Qh (Qs (Qc b)).n n=(Qc b).n[n.toNat]:=by
  show Qh ((Qc b).n++[_]) n=_;rw[Qh,if_pos ⟨h0,by simp only[length_append,length_singleton];omega⟩,List.getElem?_append_left hlt,getElem?_eq_getElem hlt];rfl
 rw[e];exact Qn8 b _ (List.getElem_mem hlt)
def pz:Int->List Ev->List (Ev×Int)
 |_,[]=>[]
 |d,e::r=>if e.do_=1 then(e,d+1)::pz (d+1) r else if e.do_=3 then pz (d-1) r else(e,d)::pz d r
def evC(l:List Node):Cur->List (Ev×Int)
 |.root _=>[]
 |.kid n f k up=>if QO l n=21 then [(⟨1,0,[]⟩,Q2g l (.kid n f k up))]else [(⟨2,QO l n,pr l n⟩,Q2g l (.kid n f k up))]
def Qqs(l:List Node):Cur->Int
 |.root _=>0
 |.kid _ _ _ up=>Q2g l up
def QnE:Cur->Bool
 |.root _=>true
 |.kid ..=>false
def Qfg(l:List Node)(c:Cur):List (Ev×Int):=pz (Qqs l c) (spV l c.n (QnE c))
theorem Qgw(l:List Node)(hw:Wf l):∀(f:Nat)(n:Int),n.toNat<f->0<=n->n<l.length->∀(d:Int)(r:List Ev),pz d (spV l n false++r)=pz d (spV l n false)++pz d r
 |0,_,h,_,_,_,_=>by omega
 |f+1,n,h,h0,h1,d,r=>by
  rw[Qbj hw h0 h1];split
  ·rfl
  ·rw[if_neg (by decide),if_neg (by decide)]
   have key:∀(ks:List Int),(∀k∈ks,0<=k/\k<n)->∀(d:Int)(r:List Ev),pz d (ks.flatMap (fun k=>spV l k false)++r)=pz d (ks.flatMap (fun k=>spV l k false))++pz d r:=by
    intro ks;induction ks with
    |nil=>intro _ d r;rfl
    |cons k ks ih =>
     intro hk d r;obtain⟨k0,k1⟩:=hk k (mem_cons_self ..);have ih:=ih fun y hy=>hk y (List.mem_cons_of_mem _ hy)
     rw[flatMap_cons,append_assoc,Qgw l hw f k (by omega) k0 (by omega) d,Qgw l hw f k (by omega) k0 (by omega) d,ih d r,append_assoc]
   have hk:=hw n h0 h1;show pz d ((⟨1,0,[]⟩:Ev)::((Qh l n).kids.flatMap (fun k=>spV l k false)++[⟨3,0,[]⟩])++r)=pz d ((⟨1,0,[]⟩:Ev)::((Qh l n).kids.flatMap (fun k=>spV l k false)++[⟨3,0,[]⟩]))++pz d r
   have c1:∀q:List Ev,pz d ((⟨1,0,[]⟩:Ev)::q)=(⟨1,0,[]⟩,d+1)::pz (d+1) q:=fun q=>rfl
   rw[cons_append,c1,c1,append_assoc,key _ hk,key _ hk]
   have e3:pz (d+1) ([⟨3,0,[]⟩]++r)=pz d r:=by
    show pz (d+1-1) r=pz d r;rw[Int.add_sub_cancel]
   have e4:pz (d+1) [⟨3,0,[]⟩]=[]:=rfl;rw[e3,e4,append_nil,cons_append]
theorem QhU(l:List Node)(hw:Wf l)(ks:List Int)(hk:InR l ks)(d:Int)(r:List Ev):pz d (ks.flatMap (fun k=>spV l k false)++r)=ks.flatMap (fun k=>pz d (spV l k false))++pz d r:=by
 induction ks with
 |nil=>rfl
 |cons k ks ih =>
  obtain⟨k0,k1⟩:=hk k (mem_cons_self ..);rw[flatMap_cons,flatMap_cons,append_assoc,Qgw l hw (k.toNat+1) k (by omega) k0 k1,ih fun y hy=>hk y (List.mem_cons_of_mem _ hy),append_assoc]
theorem QeL(l:List Node)(c:Cur):∀k,k<=(Qi l c).length->(downs l c k).reverse.flatMap (Qfg l)=((Qi l c).take k).flatMap (fun n=>pz (Q2g l c) (spV l n false))
 |0,_=>rfl
 |k+1,h=>by
  have h1:k<(Qi l c).length:=h;have e:(Qi l c)[(k:Int).toNat]?.getD 0=(Qi l c)[k]:=by rw[Int.toNat_natCast,getElem?_eq_getElem h1];rfl
  have ih:=QeL l c k (by omega)
  show(Q2Y l c k::downs l c k).reverse.flatMap (Qfg l)=_
  rw[List.reverse_cons,flatMap_append,ih,List.take_add_one,getElem?_eq_getElem h1,flatMap_append];congr 1
  have e2:(Q2Y l c k).n=(Qi l c)[k]:=e;show Qfg l (Q2Y l c k)++[]=pz (Q2g l c) (spV l (Qi l c)[k] false)++[];rw[append_nil,append_nil];show pz (Q2g l c) (spV l (Q2Y l c k).n false)=_;rw[e2]
def QgI(R:Int):Cur->Prop
 |.root n=>n=R
 |.kid n _ _ _=>n<R
theorem QoA{l:List Node}{W C:Nat}{R:Int}(ha:Ar l)(hR:QO l R=20)(hL:∀n:Int,0<=n->n<R->Qau (Qh l n)){c:Cur}(hc:CurIn l W C c)(hr:QgI R c) :
  Qfg l c=evC l c++(downs l c (Qi l c).length).reverse.flatMap (Qfg l):=by
 rw[QeL l c _ (le_refl _),take_length];have hk:InR l (Qi l c):=hc.kids ha;have hsp:=Qbj ha.wf hc.h0 hc.h1 (QnE c);unfold Qfg;rw[hsp];cases c with
 |root n =>
  obtain rfl:n=R:=hr
  rw[if_neg (fun h=>by cases h.2),show QnE (.root n)=true from rfl,if_pos rfl,if_pos rfl,nil_append,show Q2g l (.root n)=0 from by
   show(if QO l n=21 then(1:Int)else 0)=0
   rw[hR];rfl]
  have:=QhU l ha.wf (Qi l (.root n)) hk 0 []
  rw[show pz 0 []=[] from rfl,append_nil,append_nil]at this;rw[append_nil];exact this
 |kid n f k up =>
  have hn:n<R:=hr;rw[show QnE (.kid n f k up)=false from rfl];by_cases h21:QO l n=21
  ·rw[if_neg (fun h=>h.1 h21),if_neg (by decide),if_neg (by decide)]
   have hd:Q2g l (.kid n f k up)=1+Q2g l up:=by
    show(if QO l n=21 then(1:Int)else 0)+Q2g l up=_
    rw[if_pos h21]
   have he:evC l (.kid n f k up)=[(⟨1,0,[]⟩,Q2g l (.kid n f k up))]:=by show(if QO l n=21 then _ else _)=_;rw[if_pos h21]
   rw[he,hd];have:=QhU l ha.wf (Qi l (.kid n f k up)) hk (Q2g l up+1) [⟨3,0,[]⟩]
   show(⟨1,0,[]⟩,Q2g l up+1)::pz (Q2g l up+1) ((Qi l (.kid n f k up)).flatMap (fun k=>spV l k false)++[⟨3,0,[]⟩])=_
   rw[this,Int.add_comm 1];show _::(_++[])=_;rw[append_nil];rfl
  ·rw[if_pos ⟨h21,rfl⟩]
   have hd:Q2g l (.kid n f k up)=Q2g l up:=by
    show(if QO l n=21 then(1:Int)else 0)+Q2g l up=_
    rw[if_neg h21,Int.zero_add]
   have he:evC l (.kid n f k up)=[(⟨2,QO l n,pr l n⟩,Q2g l (.kid n f k up))]:=by show(if QO l n=21 then _ else _)=_;rw[if_neg h21]
   have hkn:Qi l (.kid n f k up)=[]:=(hL n hc.h0 hn).resolve_left h21;rw[he,hd,hkn];rfl
theorem QcZ{l:List Node}{W C:Nat}{R:Int}(ha:Ar l){c:Cur}(hc:CurIn l W C c)(hr:QgI R c):∀k,k<=(Qi l c).length->∀x∈downs l c k,QgI R x
 |0,_,x,hx=>by cases hx
 |k+1,hk,x,hx=>by
  rcases mem_cons.1 hx with rfl|hx
  ·have hm:(Qi l c)[(k:Int).toNat]?.getD 0=(Qi l c)[k]:=by rw[Int.toNat_natCast,getElem?_eq_getElem (by omega)];rfl
   obtain⟨_,q1⟩:=ha.wf c.n hc.h0 hc.h1 _ (List.getElem_mem (by omega:k<(Qi l c).length))
   have q1:(Qi l c)[k]<c.n:=q1
   have hcr:c.n<=R:=by
    cases c with
    |root n=>exact Int.le_of_eq hr
    |kid n f k up=>exact Int.le_of_lt hr
   show(Qi l c)[(k:Int).toNat]?.getD 0<R
   rw[hm];omega
  ·exact QcZ ha hc hr k (by omega) x hx
theorem Qc1{l:List Node}{W C:Nat}{R:Int}(ha:Ar l)(hR:QO l R=20)(hL:∀n:Int,0<=n->n<R->Qau (Qh l n)):∀(n:Nat)(st:List Cur),(∀x∈st,CurIn l W C x/\QgI R x)->coC l st<=n->(Q23 l n st).flatMap (evC l)=st.reverse.flatMap (Qfg l)
 |0,st,_,h=>by
  have:=QcO l st
  obtain rfl:st=[]:=List.eq_nil_of_length_eq_zero (by omega)
  rfl
 |n+1,st,hin,h=>by
  by_cases hne:st=[]
  ·subst hne
   rw[Qb9];rfl
  ·obtain⟨st0,x,rfl⟩:∃st0 x,st=st0++[x]:=⟨st.dropLast,st.getLast hne,(List.dropLast_concat_getLast hne).symm⟩
   obtain⟨hx,hxr⟩:=hin x (by simp)
   have h5:coC l [x]=1+coL l (Qi l x):=by
    show co l x.n+0=_;rw[add_zero,Qch ha.wf hx.h0 hx.h1];rfl
   have hd:=Q8s l x _ (le_refl _);rw[take_length]at hd;rw[Q5e,h5]at h
   have ih:=Qc1 ha hR hL n (st0++downs l x (Qi l x).length) (fun y hy=>by
    rcases mem_append.1 hy with hy|hy
    ·exact hin y (mem_append_left _ hy)
    ·exact⟨Q7W ha hx _ (le_refl _) y hy,QcZ ha hx hxr _ (le_refl _) y hy⟩) (by rw[Q5e,hd];omega)
   rw[QaE,flatMap_cons,ih,List.reverse_append,List.reverse_append,flatMap_append,List.reverse_singleton,flatMap_append,<-append_assoc,<-QoA ha hR hL hx hxr];simp
theorem QoJ(b:List UInt8)(hb:b.length<=100000):(Q7c (Qs (Qc b)).n (.root (Qc b).n.length) 1073741824).flatMap (evC (Qs (Qc b)).n)=pz 0 (spV (Qs (Qc b)).n (Qc b).n.length true):=by
 have hO:=Q8r b hb;have hR:QO (Qs (Qc b)).n (Qc b).n.length=20:=Q4G
 have h:=Qc1 (W:=b.length) (C:=400000) hO.ar hR (Qdz b) 1073741824 [.root (Qc b).n.length] (fun x hx=>by
  obtain rfl:x=.root (Qc b).n.length:=by simpa using hx
  exact⟨hO.root,rfl⟩) (by
  show co (Qs (Qc b)).n (Qc b).n.length+0<=_;have:=hO.c
  omega)
 unfold Q7c;rw[h];show Qfg _ _++[]=_;rw[append_nil];rfl
def m1(L:List Ev):Nat:=(L.filter fun e=>decide (e.do_=1)).length
def m9(L:List Ev):Nat:=(L.filter fun e=>decide (e.do_≠1/\e.do_≠3/\e.kind=9)).length
def n1(L:List (Ev×Int)):Nat:=(L.filter fun p=>decide (p.1.do_=1)).length
structure Rp.txt (r q:Rp):Prop where
 a0:r.a0=q.a0
 a1:r.a1=q.a1
 a2:r.a2=q.a2
 a3:r.a3=q.a3
 t:[r.t0,r.t1,r.t2,r.t3,r.t4,r.t5,r.t6,r.t7,r.t8,r.t9,r.t10,r.t11]=[q.t0,q.t1,q.t2,q.t3,q.t4,q.t5,q.t6,q.t7,q.t8,q.t9,q.t10,q.t11]
theorem Rp.txt.refl(r:Rp):r.txt r:=⟨rfl,rfl,rfl,rfl,rfl⟩
theorem Rp.txt.trans{r q s:Rp}(h:r.txt q)(k:q.txt s):r.txt s:=⟨h.a0.trans k.a0,h.a1.trans k.a1,h.a2.trans k.a2,h.a3.trans k.a3,h.t.trans k.t⟩
def cw(ds:List Dg):Nat:=(ds.filter fun d=>decide (d.c=1)).length
def s1(s:RSt):Nat:=m1 (s.ev.map Evr.ev)
def s9(s:RSt):Nat:=m9 (s.ev.map Evr.ev)
structure Cnt (s u:RSt) (a b c:Nat):Prop where
 e1:s1 u=s1 s+a
 e9:s9 u=s9 s+b
 w:cw u.wr=cw s.wr+c
theorem Cnt.refl(s:RSt):Cnt s s 0 0 0:=⟨rfl,rfl,rfl⟩
theorem Cnt.trans{s u v:RSt}{a b c a' b' c':Nat}(h:Cnt s u a b c)(k:Cnt u v a' b' c'):Cnt s v (a+a') (b+b') (c+c'):=by
 obtain⟨h1,h2,h3⟩:=h;obtain⟨k1,k2,k3⟩:=k;exact⟨by omega,by omega,by omega⟩
def isT(e:Ev):Bool:=decide (e.do_≠1/\e.do_≠3/\(e.kind=8\/e.kind=9))
def sT(wt:List UInt8->Nat)(L:List Ev):Nat:=(L.map fun e=>if isT e=true then wt e.b else 0).sum
theorem Qmq(wt:List UInt8->Nat)(a b:List Ev):sT wt (a++b)=sT wt a+sT wt b:=by simp[sT]
structure SW (wt:List UInt8->Nat) (s u:RSt) (a:Nat):Prop where
 e:sT wt (u.ev.map Evr.ev)=sT wt (s.ev.map Evr.ev)+a
section
variable {wt:List UInt8->Nat}
theorem SW.refl(s:RSt):SW wt s s 0:=⟨rfl⟩
theorem SW.trans{s u v:RSt}{a b:Nat}(h:SW wt s u a)(k:SW wt u v b):SW wt s v (a+b):=⟨by rw[k.e,h.e];omega⟩
theorem SW.same{s u:RSt}(h:u.ev=s.ev):SW wt s u 0:=⟨by rw[h];rfl⟩
theorem SW.more(s:RSt)(op:List (List Int))(E:List Evr)(W:List Dg):SW wt s ⟨op,s.ev++E,W⟩ (sT wt (E.map Evr.ev)):=⟨by rw[map_append];exact Qmq _ _ _⟩
theorem Q7K(t:Txt)(b:List UInt8)(k f u:Int)(s:RSt):SW wt s (Q7U t b k f u s) (if k=8\/k=9 then wt (QQ t b f u)else 0):=by
 have h:SW wt s (Q7U t b k f u s) _:=SW.more s s.op [⟨2,k,some (QQ t b f u)⟩] s.wr
 have e:sT wt ([(⟨2,k,some (QQ t b f u)⟩:Evr)].map Evr.ev)=if k=8\/k=9 then wt (QQ t b f u)else 0:=by
  show(if isT ⟨2,k,QQ t b f u⟩=true then wt (QQ t b f u)else 0)+0=_
  rw[add_zero];by_cases hk:k=8\/k=9
  ·rw[if_pos hk,if_pos (by simpa[isT]using hk)]
  ·rw[if_neg hk,if_neg (by simpa[isT]using hk)]
 rw[e]at h;exact h
theorem Q8R(t:Txt)(f:Int)(k:Nat):∀(n:Nat)(s:RSt),SW wt s (Q3I t f k n s) 0
 |0,s=>.refl s
 |n+1,s=>by
  show SW wt s (if _ then _ else _) 0;split
  ·have h:SW wt s (Qm8 t f s) _:=SW.more s (s.op.take (s.op.length-1)) [⟨2,22,none⟩,⟨3,0,none⟩] (s.wr++[⟨Q2c t f,Q2c t f,4⟩])
   exact h.trans (Q8R t f k n _)
  ·exact .refl s
theorem Qm4(t:Txt)(b:List UInt8)(kind f u:Int)(wh:Bool)(s:RSt):SW wt s (Qba t b kind f u wh s) (if kind=8\/kind=9 then wt (QQ t b f u)else 0):=by
 unfold Qba;simp only
 generalize jO:(if wh=false then Q4P t 1 f u s else if(kind=8\/kind=9\/kind=10)/\(QB t.r f u).right=false then Q4P t 2 f u s else s)=s1
 have h1:SW wt s s1 0:=by
  rw[<-jO];split
  ·exact .same rfl
  ·split
   ·exact .same rfl
   ·exact .refl s
 clear jO
 have key:∀{v w:RSt}{a:Nat},SW wt s1 v 0->SW wt v w a->SW wt s w a:=fun h2 h3=>by
  have:=(h1.trans h2).trans h3
  rw[add_zero,Nat.zero_add]at this;exact this
 split
 ·unfold Qdl
  split
  ·exact key (.same (u:=Q4P t 5 f u s1) rfl) (Q7K t b kind f u _)
  ·exact key (SW.more s1 (s1.op++[QC t f u]) [⟨1,0,none⟩] s1.wr) (Q7K t b kind f u _)
 ·split
  ·unfold Qo5
   split
   ·exact key (.same (u:=Q4P t 3 f u s1) rfl) (Q7K t b kind f u _)
   ·have h2:=key (Q8R t f ((Q77 s1.op (QC t f u) s1.op.length).toNat+1) (s1.op.length+1) s1) (Q7K t b kind f u _)
    exact h2.trans (SW.more _ ((Q7U t b kind f u (Q3I t f ((Q77 s1.op (QC t f u) s1.op.length).toNat+1) (s1.op.length+1) s1)).op.take (Q77 s1.op (QC t f u) s1.op.length).toNat) [⟨3,0,none⟩] _)
  ·exact key (.refl s1) (Q7K t b kind f u s1)
theorem Qhl(t:Txt)(b:List UInt8):∀(ts:List Tok)(s:RSt),SW wt s (ts.foldl (QgL t b) s) (ts.map fun x=>if x.kind=8\/x.kind=9 then wt (QQ t b x.from_ x.to)else 0).sum
 | [],s=>.refl s
 |x::ts,s=>by
  rw[foldl_cons,List.map_cons,List.sum_cons];exact(Qm4 t b x.kind x.from_ x.to x.whole s).trans (Qhl t b ts _)
end
theorem Qlq(wt:List UInt8->Nat)(b:List UInt8):sT wt ((Qbd b).ev.map Evr.ev)=((Q2E (Q6 b).r).map fun x=>if x.kind=8\/x.kind=9 then wt (QQ (Q6 b) b x.from_ x.to)else 0).sum:=by
 have h1:=Qhl (wt:=wt) (Q6 b) b (Q2E (Q6 b).r) (Q5W b);have h4:=h1.trans (Q8R (Q6 b) (Q6 b).r.length 0 (((Q2E (Q6 b).r).foldl (QgL (Q6 b) b) (Q5W b)).op.length+1) _);have f1:sT wt ((Q5W b).ev.map Evr.ev)=0:=by unfold Q5W;split<;>rfl
 have:=h4.e
 rw[f1,Nat.zero_add]at this;exact this
def cD(ds:List Dg)(k:Int):Nat:=(ds.filter fun d=>decide (d.c=k)).length
theorem Q8Y{r:Int}(h:Qf r=true):r≠47/\r≠60/\r≠62/\Q2Q r=false/\Qb r=false:=by
 refine⟨?_,?_,?_,?_,?_⟩
 ·rintro rfl;exact absurd h (by decide)
 ·rintro rfl;exact absurd h (by decide)
 ·rintro rfl;exact absurd h (by decide)
 ·cases hq:Q2Q r with
  |false=>rfl
  |true =>
   have:r=34\/r=39:=by simpa[Q2Q]using hq
   rcases this with rfl|rfl<;>exact absurd h (by decide)
 ·cases hq:Qb r with
  |false=>rfl
  |true =>
   have:r=32\/r=9\/r=10\/r=13:=by simpa[Qb,or_assoc]using hq
   rcases this with rfl|rfl|rfl|rfl<;>exact absurd h (by decide)
theorem Qlb(r0:Int)(rs:List Int)(h:r0≠47):Qj (60::r0::rs) true=(1,1):=by
 have hs:Q3 (60::r0::rs) 0 [60,47]=false:=by
  cases hq:Q3 (60::r0::rs) 0 [60,47]with
  |false=>rfl
  |true =>
   exfalso;simp[Q3,bi]at hq;exact h hq
 unfold Qj;rw[if_neg (by rw[hs];simp),if_pos ⟨rfl,rfl⟩]
theorem Qgd(r0:Int)(rs:List Int)(h:Qf r0=true):(Qj (r0::rs) false).1=2/\1<=(Qj (r0::rs) false).2:=by
 have j8:Q2L Qb (r0::rs) 0=0:=by
  show(if _ then _ else _)=0
  rw[if_neg (by simp only[length_cons];omega)]
  show((r0::rs).takeWhile Qb).length=0
  rw[List.takeWhile_cons_of_neg (by rw[(Q8Y h).2.2.2.2];simp)];rfl
 have je:1<=Qk (r0::rs) 0:=by
  show 1<=(if Qf r0 then(((r0::rs).drop 0).takeWhile Qp).length else 0);rw[if_pos h];show 1<=((r0::rs).takeWhile Qp).length;rw[List.takeWhile_cons_of_pos (Q7z r0 h),length_cons];omega
 unfold Qj;rw[if_neg (by simp),if_neg (by simp),if_neg (by rw[j8];simp),if_pos (by omega)]
 exact⟨rfl,by show(1:Int)<=(Qk (r0::rs) 0:Int);omega⟩
theorem Qgn(r0:Int)(rs:List Int)(h:Qf r0=true):Q7o (Q2i (60::r0::rs)):=by
 obtain⟨p1,p2⟩:=Qgd r0 rs h
 have jI:Q2i (60::r0::rs)≠[]:=by
  have e1:QT (60::r0::rs) 0 (60::r0::rs).length=Qt 0 true (60::r0::rs):=by
   unfold QT;rw[Int.toNat_natCast,take_length];rfl
  have e2:QB (60::r0::rs) 0 (60::r0::rs).length=Q1f (Qt 0 true (60::r0::rs)):=by rw[QB,e1]
  have ep:Qt 0 true (60::r0::rs)=⟨1,0,1⟩::⟨2,1,1+(Qj (r0::rs) false).2⟩::Qt (1+(Qj (r0::rs) false).2) false ((r0::rs).drop (Qj (r0::rs) false).2.toNat):=by
   rw[Q1J (by simp),Qlb r0 rs (Q8Y h).1]
   show(⟨1,0,1⟩:TPart)::Qt 1 false (r0::rs)=_
   rw[Q1J (by simp),p1]
  have ht:QP (Qt 0 true (60::r0::rs)) 0 [1,2]=true:=by rw[ep];rfl
  have en:(Q1f (Qt 0 true (60::r0::rs))).name=⟨2,1,1+(Qj (r0::rs) false).2⟩:=by
   rw[Q6d,if_pos ht,ep];rfl
  show((60::r0::rs).drop (QB (60::r0::rs) 0 (60::r0::rs).length).name.from_.toNat).take ((QB (60::r0::rs) 0 (60::r0::rs).length).name.to-(QB (60::r0::rs) 0 (60::r0::rs).length).name.from_).toNat≠[]
  rw[e2,en];show((60::r0::rs).drop 1).take (1+(Qj (r0::rs) false).2-1).toNat≠[]
  obtain⟨q,hq⟩:∃q,(1+(Qj (r0::rs) false).2-1).toNat=q+1:=⟨(1+(Qj (r0::rs) false).2-1).toNat-1,by omega⟩
  rw[hq];simp
 have hl:=Q91 ⟨0,0,60::r0::rs,[]⟩ (f:=0) (u:=(60::r0::rs).length) (Int.le_refl 0) (by simp only[length_cons];omega) (Int.le_refl _) jI
 exact hl.2
theorem Qgb(l:List Int)(k:Nat)(h:(Qd l k).1=8\/(Qd l k).1=9):l.getD k 0=60/\0<Qk l (k+1)/\Qd l k=Q1m l k:=by
 unfold Qd at h ⊢;split
 ·rename_i jL
  rw[if_pos jL]at h;unfold Q1s at h ⊢;split
  ·rename_i c;rw[if_pos c,Q40]at h;omega
  ·rename_i c;rw[if_neg c]at h
   split
   ·rename_i c;rw[if_pos c,Q40]at h;omega
   ·rename_i c;rw[if_neg c]at h
    split
    ·rename_i c;rw[if_pos c,Q40]at h;omega
    ·rename_i c;rw[if_neg c]at h
     split
     ·rename_i c;rw[if_pos c]at h
      have h:(7:Nat)=8\/(7:Nat)=9:=h;omega
     ·rename_i c;rw[if_neg c]at h
      split
      ·rename_i c;rw[if_pos c]at h
       have h:(10:Nat)=8\/(10:Nat)=9:=h;omega
      ·rename_i c;rw[if_neg c]at h
       split
       ·rename_i c;exact⟨jL,c,rfl⟩
       ·rename_i c;rw[if_neg c]at h
        have h:(11:Nat)=8\/(11:Nat)=9:=h;omega
 ·rename_i jL
  rw[if_neg jL]at h;split at h
  ·exfalso
   revert h;unfold Q1e;repeat' split
   all_goals (intro h;simp at h)
  ·split at h
   ·have h:(11:Nat)=8\/(11:Nat)=9:=h
    omega
   ·have h:(1:Nat)=8\/(1:Nat)=9:=h
    omega
theorem QfM(l:List Int)(k:Nat)(hk:k<l.length)(h:Qf l[k]=true):k+1<=(QH l true k).1:=by
 obtain⟨_,jL,j0,hq,_⟩:=Q8Y h;rw[QH,dif_pos hk,if_neg (by rw[hq];simp),if_neg j0,if_neg (fun e=>jL e.1)]
 exact(Q2y l true l.length (k+1) (by omega) (by omega)).1
theorem QdU(l:List Int):∀(n k:Nat),l.length-k<=n->∀x∈Q1L l k,x.kind=8\/x.kind=9->Q7o (Q2i ((l.drop x.from_.toNat).take (x.to-x.from_).toNat))
 |0,k,h,x,hx=>by
  rw[Q1a (by omega)]at hx;cases hx
 |n+1,k,h,x,hx=>by
  by_cases jB:k<l.length
  ·rw[Q1w jB]at hx
   have hr:=Q2a l k jB;rcases mem_cons.1 hx with rfl|hx
   ·intro jD
    have jD:(Qd l k).1=8\/(Qd l k).1=9:=by
     rcases jD with h|h
     ·have h:(((Qd l k).1:Nat):Int)=8:=h;omega
     ·have h:(((Qd l k).1:Nat):Int)=9:=h;omega
    obtain⟨jL,je,jG⟩:=Qgb l k jD
    have jT:k+1<l.length:=by
     refine Nat.lt_of_not_le fun jJ=>?_
     rw[Qk,List.getElem?_eq_none jJ]at je;cases je
    have yh:Qf l[k+1]=true:=by
     rw[Qk,getElem?_eq_getElem jT]at je;cases hq:Qf l[k+1]with
     |true=>rfl
     |false=>simp[hq]at je
    have zN:k+2<=(Qd l k).2.1:=by
     have:=QfM l (k+1) jT yh
     rw[jG];unfold Q1m;split
     ·exact this
     ·split
      ·show k+2<=(QH l true (k+1)).1+1;omega
      ·show k+2<=(QH l true (k+1)).1+1;omega
    have jL:l[k]=60:=by rw[List.getD_eq_getElem?_getD,getElem?_eq_getElem jB]at jL;exact jL
    show Q7o (Q2i ((l.drop ((k:Nat):Int).toNat).take ((((Qd l k).2.1:Nat):Int)-((k:Nat):Int)).toNat));rw[Int.toNat_natCast,show((((Qd l k).2.1:Nat):Int)-((k:Nat):Int)).toNat=((Qd l k).2.1-k-2)+1+1 by omega,List.drop_eq_getElem_cons jB,List.drop_eq_getElem_cons jT,List.take_succ_cons,List.take_succ_cons,jL]
    exact Qgn _ _ yh
   ·exact QdU l n _ (by omega) x hx
  ·rw[Q1a jB]at hx;cases hx
theorem Qjp(l:List Int):∀x∈Q2E l,x.kind=8\/x.kind=9->Q7o (Q2i ((l.drop x.from_.toNat).take (x.to-x.from_).toNat)):=QdU l l.length 0 (by omega)
def Qhi(K:Int)(x:Node):Prop:=x.kind=8\/x.kind=9->Q7o (Q2i (Q1K K x.b))
def MkN(K:Int)(m:Mk):Prop:=∀x∈m.n,Qhi K x
theorem Q58{K:Int}{l:List Node}(h:∀x∈l,Qhi K x){y:Node}(hy:Qhi K y):∀x∈l++[y],Qhi K x:=fun x hx=>by
 rcases mem_append.1 hx with hx|hx
 ·exact h x hx
 ·obtain rfl:x=y:=by simpa using hx
  exact hy
section
variable {K:Int}{m:Mk}
theorem MkN.lk(h:MkN K m)(t:Txt)(b:List UInt8)(kind f u:Int)(hk:kind=8\/kind=9->Q7o (Q2i (Q1K K (QQ t b f u)))):MkN K (lkF t b kind f u m):=Q58 (y:=Qq kind (QQ t b f u)) h hk
theorem MkN.shut(h:MkN K m)(kind:Int)(bs:List UInt8)(a:Int)(hk:kind=10\/kind=22):MkN K (Q1C a (Q1F (Qq kind bs) m)) :=
 Q58 (y:=Q15 _ 21 _) (Q58 (y:=Qq kind bs) h (fun h2=>by
  have h2:kind=8\/kind=9:=h2;omega)) (fun h2=>by
  have h2:(21:Int)=8\/(21:Int)=9:=h2;omega)
theorem MkN.miss(h:MkN K m)(t:Txt)(a:Int):MkN K (Q2n t a m):=MkN.shut (m:=QI t 4 a a m) h _ _ _ (.inr rfl)
end
theorem MkN.missGo{K:Int}(t:Txt)(f:Int)(k:Nat):∀(j:Nat)(m:Mk),MkN K m->MkN K (missGo t f k j m)
 |0,_,h=>h
 |j+1,m,h=>by
  show MkN K (if _ then _ else _);split
  ·exact MkN.missGo t f k j _ (h.miss t _)
  ·exact h
section
variable {K:Int}{m:Mk}
theorem MkN.token(h:MkN K m)(t:Txt)(b:List UInt8)(kind f u:Int)(wh:Bool)(hk:kind=8\/kind=9->Q7o (Q2i (Q1K K (QQ t b f u)))):MkN K (Q1E t b kind f u wh m):=by
 unfold Q1E;simp only
 generalize jo:(if wh=false then QI t 1 f u m else if(kind=8\/kind=9\/kind=10)/\(QB t.r f u).right=false then QI t 2 f u m else m)=m1
 have h1:MkN K m1:=by
  rw[<-jo];split
  ·exact h
  ·split
   ·exact h
   ·exact h
 split
 ·unfold Q1k
  split
  ·exact MkN.lk (m:=QI t 5 f u m1) h1 t b kind f u hk
  ·exact MkN.lk (m:={ m1 with s:=m1.s++[⟨QC t f u,[]⟩] }) h1 t b kind f u hk
 ·split
  ·rename_i q9
   unfold Q2u;simp only
   split
   ·exact MkN.lk (m:=QI t 3 f u m1) h1 t b kind f u hk
   ·exact MkN.shut (MkN.missGo t f _ _ _ h1) _ _ _ (.inl q9.2)
  ·exact h1.lk t b kind f u hk
end
theorem MkN.toks{K:Int}(t:Txt)(b:List UInt8):∀(ts:List Tok)(m:Mk),(∀x∈ts,x.kind=8\/x.kind=9->Q7o (Q2i (Q1K K (QQ t b x.from_ x.to))))->MkN K m->MkN K (ts.foldl (Q5U t b) m)
 | [],m,_,h=>h
 |x::ts,m,hx,h=>by
  rw[foldl_cons];exact MkN.toks t b ts _ (fun y hy=>hx y (List.mem_cons_of_mem _ hy)) (h.token t b _ _ _ _ (hx x mem_cons_self))
theorem Qib(b:List UInt8):∀x∈Q2E (Q6 b).r,x.kind=8\/x.kind=9->Q7o (Q2i (Q1K (Q6 b).kind (QQ (Q6 b) b x.from_ x.to))):=fun x hx hk=>by
 have ho:=QaX (Q6 b).r x hx;rw[Q9f b ho.f0 (by have:=ho.f1;omega) ho.f2]
 exact Qjp (Q6 b).r x hx hk
theorem Qm1(b:List UInt8):MkN (Q6 b).kind (Qc b):=by
 refine MkN.missGo _ _ _ _ _ (MkN.toks _ _ _ _ (Qib b) ?_);unfold Q3e;have h0:MkN (Q6 b).kind mk0:=fun x hx=>by cases hx
 split
 ·exact Q58 (y:=Qq 23 _) h0 (fun h2=>by
   have h2:(23:Int)=8\/(23:Int)=9:=h2;omega)
 ·exact h0
section
open Tryz
def rAt(l:List Int)(i:Int):Int:=l[i.toNat]?.getD 0
theorem Qdg{l:List Int}{k:Nat}(h:k<l.length):rAt l k=l[k]:=by rw[rAt,Int.toNat_natCast,getElem?_eq_getElem h];rfl
theorem Qh2{l:List Int}{q i:Int}(h0:0<=i)(h1:i<l.length):Q2p l q i.toNat=if rAt l i=q then((i+1).toNat,true)else Q2p l q (i+1).toNat:=by
 have h2:i.toNat<l.length:=by omega
 have e:rAt l i=l[i.toNat]:=by rw[rAt,getElem?_eq_getElem h2];rfl
 rw[e];conv=>lhs;rw[Q2p,dif_pos h2]
 rw[show(i+1).toNat=i.toNat+1 by omega]
def Qu(l:List Int)(k:Int):Int:=if(Q16 l k.toNat).2=true then((Q16 l k.toNat).1:Nat)else -1
theorem QiR(l:List Int)(hl:l.length<=1000000000)(k:Int)(h0:0<=k)(h1:k<l.length):BCall prog 116 [.slc 1 (Q0 l),.val (.int .i64 k)] [] (.val (.int .i64 (Qu l k))) []:=by
 obtain⟨n,hn⟩:=QG l;obtain⟨R,hR⟩:=exq (Qu l k:Int);rw[<-hR];have jr:=Qx l;obtain⟨q,hq⟩:=exq (rAt l k)
 have hk:Q16 l k.toNat=Q2p l q (k+1).toNat:=by
  rw[Q16,List.getD_eq_getElem?_getD,hq,rAt,show(k+1).toNat=k.toNat+1 by omega]
 rw[Qu,hk]at hR;have ak:=QN (l:=l) h0 (by omega)
 have en:=hn.eq;have jT:k<n:=by omega
 clear hk;refine fnN (cs0) func116 rfl fun _ _=>?_
 with_reducible refine cv1 (Q0 l) ?_
 have jC:=QY hn;with_reducible repeat' first|refine aU jC ?_|refine And.intro ?_ ?_|intro hb
 refine Q1h (cs0) (Int) (fun i=>⟨[(0,.slc 1 (Q0 l)),(1,.val (.int .i64 k)),(5,.val (.int .i64 i))],[]⟩) (fun i=>k+1<=i/\i<=n/\Q2p l q i.toNat=Q2p l q (k+1).toNat) (fun i=>(n-i).toNat) (k+1) ?_ ?_ ?_
 ·exact⟨Int.le_refl _,by show k+1<=n;omega,rfl⟩
 ·exact⟨[],_,rfl,by simp[Qm,lk,std]⟩
 ·rintro i ⟨jN,jS,hi⟩
  have jN:k+1<=i:=jN;have jS:i<=n:=jS;have hi:Q2p l q i.toNat=Q2p l q (k+1).toNat:=hi;rcases Int.lt_or_eq_of_le jS with jB|j4
  ·have ai:=QN (l:=l) (i:=i) (by omega) (by omega)
   have jG:=Qh2 (l:=l) (q:=q) (i:=i) (by omega) (by omega)
   rw[hi]at jG;clear en jC hi;with_reducible refine cv1 (Q0 l) ?_
   have jC:=QY hn;have en:=hn.eq;with_reducible repeat' first|refine aU (zA ai <| zA ak <| zA jC <| zA jB jN) ?_|refine And.intro ?_ ?_|intro hb
   ·have j9:rAt l i=q:=by rw[hq];simpa[std,ai,ak,AV.cells,RowKit.intOf,rAt]using hb
    have qz:R=i+1:=by rw[hR,jG,if_pos j9,if_pos rfl];show(((i+1).toNat:Nat):Int)=_;omega
    with_reducible refine cv1 (Q0 l) ?_
    refine .pure rfl (.inl ?_);rw[qz];rfl
   ·have j9:¬rAt l i=q:=by rw[hq];simpa[std,ai,ak,AV.cells,RowKit.intOf,rAt]using hb
    rw[if_neg j9]at jG;exact⟨i+1,⟨by omega,by omega,jG.symm⟩,by omega,[],_,rfl,by simp[Qm,lk,std]⟩
  ·have vh:Q2p l q i.toNat=(l.length,false):=by rw[Q2p,dif_neg (by omega)]
   have qz:R=-1:=by rw[hR,<-hi,vh];rfl
   rw[j4];clear en jC hi vh;with_reducible refine cv1 (Q0 l) ?_
   have jC:=QY hn;with_reducible repeat' first|refine aU jC ?_|refine And.intro ?_ ?_|intro hb
   ·rw[if_pos trivial]
    with_reducible refine cv1 (Q0 l) ?_
    refine .pure rfl (.inl ?_);rw[qz]
def Q1r(kd k t:Int)(w:Bool):AV:=.agg [.val (.int .i64 kd),.val (.int .i64 k),.val (.int .i64 t),.val (.bool w)]
theorem Qkc{l:List Int}{i:Int}(h0:0<=i)(h1:i<l.length):Q2m l i.toNat=if rAt l i=62 then((i+1).toNat,true)else if rAt l i=60 then(i.toNat,false)else Q2m l (i+1).toNat:=by
 have h2:i.toNat<l.length:=by omega
 have e:rAt l i=l[i.toNat]:=by rw[rAt,getElem?_eq_getElem h2];rfl
 rw[e];conv=>lhs;rw[Q2m,dif_pos h2]
 rw[show(i+1).toNat=i.toNat+1 by omega]
theorem Qpm(l:List Int)(hl:l.length<=1000000000)(k:Int)(h0:0<=k)(h1:k+2<=l.length):BCall prog 84 [.slc 1 (Q0 l),.val (.int .i64 k)] [] (Q1r 10 k ((Q3l l k.toNat).2.1:Nat) (Q3l l k.toNat).2.2) []:=by
 obtain⟨n,hn⟩:=QG l;have jr:=Qx l;obtain⟨rt,zb⟩:=exq (((Q2m l (k+2).toNat).1:Nat):Int);obtain⟨rb,yY⟩:=exq ((Q2m l (k+2).toNat).2:Bool)
 have e:Q1r 10 k ((Q3l l k.toNat).2.1:Nat) (Q3l l k.toNat).2.2=Q1r 10 k rt rb:=by
  rw[zb,yY,Q3l,show(k+2).toNat=k.toNat+2 by omega]
 rw[e,Q1r];have en:=hn.eq;have jT:k+2<=n:=by omega
 clear e h1;refine fnN (cs0) func84 rfl fun _ _=>?_
 with_reducible refine cv1 (Q0 l) ?_
 have jC:=QY hn;with_reducible repeat' first|refine aU jC ?_|refine And.intro ?_ ?_|intro hb
 refine Q1h (cs0) (Int) (fun i=>⟨[(0,.slc 1 (Q0 l)),(1,.val (.int .i64 k)),(4,.box 0 0),(5,.val (.int .i64 i))],[.box [.val (.int .i64 0),.val (.int .i64 0),.val (.int .i64 0),.val (.bool false)]]⟩) (fun i=>k+2<=i/\i<=n/\Q2m l i.toNat=Q2m l (k+2).toNat) (fun i=>(n-i).toNat) (k+2) ?_ ?_ ?_
 ·exact⟨Int.le_refl _,jT,rfl⟩
 ·refine⟨[some 0],_,rfl,?_⟩
  exact eq0
 ·rintro i ⟨jN,jS,hi⟩
  have jN:k+2<=i:=jN;have jS:i<=n:=jS;have hi:Q2m l i.toNat=Q2m l (k+2).toNat:=hi;rcases Int.lt_or_eq_of_le jS with jB|j4
  ·have ai:=QN (l:=l) (i:=i) (by omega) (by omega)
   have jG:=Qkc (l:=l) (i:=i) (by omega) (by omega)
   rw[hi]at jG;clear en jC hi;with_reducible refine cv1 (Q0 l) ?_
   have jC:=QY hn;have en:=hn.eq;with_reducible repeat' first|refine aU (zA ai <| zA jC <| zA jB jN) ?_|refine And.intro ?_ ?_|intro hb
   ·have j9:rAt l i=62:=by simpa[std,ai,AV.cells,RowKit.intOf,rAt]using hb
    rw[if_pos j9]at jG;have yW:rt=i+1:=by rw[zb,jG];show(((i+1).toNat:Nat):Int)=_;omega
    have gS:rb=true:=by rw[yY,jG]
    with_reducible refine cv1 (Q0 l) ?_
    exact .pure rfl ⟨.inl rfl,.inl rfl,.inl (by rw[yW];rfl),.inl (by rw[gS]),trivial⟩
   ·rename_i j0
    have jg:¬rAt l i=62:=by simpa[std,ai,AV.cells,RowKit.intOf,rAt]using j0
    have j9:rAt l i=60:=by simpa[std,ai,AV.cells,RowKit.intOf,rAt]using hb
    rw[if_neg jg,if_pos j9]at jG;have yW:rt=i:=by rw[zb,jG];show((i.toNat:Nat):Int)=_;omega
    have gS:rb=false:=by rw[yY,jG]
    with_reducible refine cv1 (Q0 l) ?_
    exact .pure rfl ⟨.inl rfl,.inl rfl,.inl (by rw[yW]),.inl (by rw[gS]),trivial⟩
   ·rename_i j0
    have jg:¬rAt l i=62:=by simpa[std,ai,AV.cells,RowKit.intOf,rAt]using j0
    have j9:¬rAt l i=60:=by simpa[std,ai,AV.cells,RowKit.intOf,rAt]using hb
    rw[if_neg jg,if_neg j9]at jG;refine⟨i+1,⟨by omega,by omega,jG.symm⟩,by omega,[some 0],_,rfl,?_⟩
    exact eq0
  ·have vh:Q2m l i.toNat=(l.length,false):=by rw[Q2m,dif_neg (by omega)]
   have yW:rt=n:=by rw[zb,<-hi,vh,hn.eq]
   have j9:rb=false:=by rw[yY,<-hi,vh]
   rw[j4];clear en jC hi vh;with_reducible refine cv1 (Q0 l) ?_
   have jC:=QY hn;with_reducible repeat' first|refine aU jC ?_|refine And.intro ?_ ?_|intro hb
   ·rw[if_pos trivial]
    with_reducible refine cv1 (Q0 l) ?_
    exact .pure rfl ⟨.inl rfl,.inl rfl,.inl (by rw[yW];exact congrArg _ (congrArg _ jC)),.inl (by rw[j9]),trivial⟩
def Q6s(l:List Int)(f:Int)(bs:List UInt8):Int:=match Q3Y l f.toNat l.length bs with
 |none=>-1
 |some j=>(j:Int)
def Qqh(st:Int->Bool):Nat->List AV->List Ob->Option (AV×List Ob):=fun f args _=>match f,args with
 |81,[.slc 1 _,.val (.int .i64 k),.val (.string _)]=>some (.val (.bool (st k)),[])
 |_,_=>none
def stI(l:List Int)(bs:List UInt8)(k:Int):Bool:=Q3 l k.toNat bs
theorem Qno(l:List Int)(hl:l.length<=1000000000)(vi:I32 l)(f:Int)(h0:0<=f)(hf:f<=2000000000)(s:ByteArray)(hs:s.size<=1000000000) :
  BCall prog 114 [.slc 1 (Q0 l),.val (.int .i64 f),.val (.int .i64 l.length),.val (.string s)] [] (.val (.int .i64 (Q6s l f s.data.toList))) []:=by
 obtain⟨n,hn⟩:=QG l;have cS:∀k:Int,0<=k->k<=n->BCall prog 81 [.slc 1 (Q0 l),.val (.int .i64 k),.val (.string s)] [] (.val (.bool (stI l s.data.toList k))) []:=fun k k0 k1=>Qa l hl vi k k0 (by have:=hn.eq;omega) s hs
 have jr:=Qx l;have zD:s.data.toList.length=s.size:=by simp
 obtain⟨z,hz⟩:∃z:Int,IsN s.size z:=⟨_,rfl⟩;have jt:0<=z:=by have:=hz.eq;omega
 have jz:z<=1000000000:=by have:=hz.eq;omega
 have jh:std.szS s=z:=hz.eq.symm;obtain⟨R,hR⟩:=exq (Q6s l f s.data.toList:Int);rw[<-hR,<-hn.eq];obtain⟨bs,kQ⟩:=exq s.data.toList;rw[<-kQ]at zD hR cS;have qG:n<=1000000000:=by have:=hn.eq;omega
 clear kQ vi;refine fnN (Qqh (stI l bs)) func114 rfl fun _ _=>?_
 with_reducible refine cv2 (Q0 l) (stI l bs) ?_
 refine Q1h (Qqh (stI l bs)) (Int) (fun i=>⟨[(0,.slc 1 (Q0 l)),(2,.val (.int .i64 n)),(3,.val (.string s)),(9,.val (.int .i64 i))],[]⟩) (fun i=>f<=i/\i<=2000000001/\∀j:Nat,f.toNat<=j->j<i.toNat->Q3 l j bs=false) (fun i=>(n+1-i).toNat) f ?_ ?_ ?_
 ·exact⟨Int.le_refl _,by omega,fun j h1 h2=>by omega⟩
 ·refine⟨[],_,rfl,?_⟩
  exact eq0
 ·rintro i ⟨jN,jS,hi⟩
  have jN:f<=i:=jN;have jS:i<=2000000001:=jS;have hi:∀j:Nat,f.toNat<=j->j<i.toNat->Q3 l j bs=false:=hi
  have vW:¬(i<=n/\i+z<=n)->R=-1:=fun h=>by
   have vE:=hn.eq;have qA:=hz.eq;rw[hR,Q6s,Qap l f.toNat l.length bs (fun j h1 h2=>hi j h1 (by omega))]
  by_cases vH:i<=n
  ·by_cases vm:i+z<=n
   ·have cSi:=cS i (by omega) (by omega)
    clear vW;with_reducible refine cv2 (Q0 l) (stI l bs) ?_
    have jC:=QY hn;have ym:(s.size:Int)=z:=hz.eq.symm;with_reducible repeat' first|refine aU (zA jC <| zA ym <| zA vH <| zA vm jN) ?_|refine And.intro ?_ ?_|intro hb
    ·have hb:Q3 l i.toNat bs=true:=hb
     have qz:R=i:=by
      have vE:=hn.eq;have qA:=hz.eq;rw[hR,Q6s,Qci l f.toNat l.length bs i.toNat (by omega) (by omega) hi hb]
      show((i.toNat:Nat):Int)=i
      omega
     with_reducible refine cv2 (Q0 l) (stI l bs) ?_
     refine .pure rfl (.inl ?_);rw[qz]
    ·have hb:Q3 l i.toNat bs=false:=hb
     refine⟨i+1,⟨by omega,by omega,fun j h1 h2=>?_⟩,by omega,[],_,rfl,?_⟩
     ·by_cases hj:j<i.toNat
      ·exact hi j h1 hj
      ·obtain rfl:j=i.toNat:=by omega
       exact hb
     ·exact eq0
   ·have qz:=vW (fun h=>vm h.2)
    clear vW;with_reducible refine cv2 (Q0 l) (stI l bs) ?_
    have jC:=QY hn;have ym:(s.size:Int)=z:=hz.eq.symm;with_reducible repeat' first|refine aU (zA jC <| zA ym <| zA vH <| zA vm jN) ?_|refine And.intro ?_ ?_|intro hb
    all_goals
     rw[if_pos trivial];with_reducible refine cv2 (Q0 l) (stI l bs) ?_
     refine .pure rfl (.inl ?_);rw[qz]
  ·have qz:=vW (fun h=>vH h.1)
   clear vW;with_reducible refine cv2 (Q0 l) (stI l bs) ?_
   have jC:=QY hn;have ym:(s.size:Int)=z:=hz.eq.symm;with_reducible repeat' first|refine aU (zA jC <| zA ym <| zA vH jN) ?_|refine And.intro ?_ ?_|intro hb
   all_goals
    rw[if_pos trivial];with_reducible refine cv2 (Q0 l) (stI l bs) ?_
    refine .pure rfl (.inl ?_);rw[qz]
def Q3E(l:List Int)(f:Int)(bs:List UInt8):Int:=if Q6s l f bs<0 then(l.length:Int)else Q6s l f bs+(bs.length:Int)
def Q3D(l:List Int)(f:Int)(bs:List UInt8):Bool:=!decide (Q6s l f bs<0)
theorem Q5x(l:List Int)(kd k sk:Nat)(bs:List UInt8)(h:k+sk<=l.length):(QW l kd k sk bs).1=kd/\((QW l kd k sk bs).2.1:Int)=Q3E l ((k:Int)+sk) bs/\(QW l kd k sk bs).2.2=Q3D l ((k:Int)+sk) bs:=by
 unfold QW Q3E Q3D Q6s;rw[Nat.min_eq_left h,show((k:Int)+(sk:Int)).toNat=k+sk by omega]
 cases Q3Y l (k+sk) l.length bs with
 |none=>exact⟨rfl,rfl,rfl⟩
 |some j =>
  have:¬((j:Int)<0):=by omega
  simp only[if_neg this,decide_eq_false this];exact⟨trivial,by omega,rfl⟩
def QqY(R:Int):Nat->List AV->List Ob->Option (AV×List Ob):=fun f args _=>match f,args with
 |114,[.slc 1 _,.val (.int .i64 _),.val (.int .i64 _),.val (.string _)]=>some (.val (.int .i64 R),[])
 |_,_=>none
theorem Qld(l:List Int)(f:Int)(bs:List UInt8):Q6s l f bs<=l.length:=by
 unfold Q6s;cases h:Q3Y l f.toNat l.length bs with
 |none=>show(-1:Int)<=_;omega
 |some j=>have:=(Qfl l _ _ bs j h).2;show(j:Int)<=_;omega
theorem Q8d(l:List Int)(hl:l.length<=1000000000)(vi:I32 l)(kd k sk:Int)(h0:0<=k)(h1:0<=sk)(h2:k+sk<=l.length)(s:ByteArray)(hs:s.size<=1000000000) :
  BCall prog 82 [.slc 1 (Q0 l),.val (.int .i64 kd),.val (.int .i64 k),.val (.int .i64 sk),.val (.string s)] [] (Q1r kd k (Q3E l (k+sk) s.data.toList) (Q3D l (k+sk) s.data.toList)) []:=by
 have cF:=Qno l hl vi (k+sk) (by omega) (by omega) s hs
 have zD:s.data.toList.length=s.size:=by simp
 have hR1:=Qld l (k+sk) s.data.toList;obtain⟨n,hn⟩:=QG l;have jr:=Qx l;rw[<-hn.eq]at cF hR1 h2;obtain⟨z,hz⟩:∃z:Int,IsN s.size z:=⟨_,rfl⟩;have jt:0<=z:=by have:=hz.eq;omega
 have jz:z<=1000000000:=by have:=hz.eq;omega
 obtain⟨R,hR⟩:=exq (Q6s l (k+sk) s.data.toList:Int);have qG:n<=1000000000:=by have:=hn.eq;omega
 have e:Q1r kd k (Q3E l (k+sk) s.data.toList) (Q3D l (k+sk) s.data.toList)=Q1r kd k (if R<0 then n else R+z) (!decide (R<0)):=by
  rw[Q3E,Q3D,<-hR,zD,<-hn.eq,hz.eq]
 rw[e,Q1r];rw[<-hR]at cF hR1;clear e hR zD;obtain⟨T,jY⟩:=exq ((if R<0 then n else R+z));obtain⟨B,hB9⟩:=exq (!decide (R<0));rw[<-jY,<-hB9];obtain⟨fr,qy⟩:=exq (k+sk);rw[<-qy]at cF h2;refine fnN (QqY R) func82 rfl fun _ _=>?_
 with_reducible refine cv1 (Q0 l) ?_
 have jC:=QY hn;have ym:(s.size:Int)=z:=hz.eq.symm
 have cF2:BCall prog 114 [.slc 1 (Q0 l),.val (.int .i64 (std.add k sk)),.val (.int .i64 (std.len (Q0 l))),.val (.string s)] [] (.val (.int .i64 R)) []:=by
  rw[show std.add k sk=fr from qy.symm,show std.len (Q0 l)=n from jC];exact cF
 with_reducible repeat' first|refine aU (zA jC <| zA ym <| zA qy h2) ?_|refine And.intro ?_ ?_|intro hb
 ·have hb:R<0:=of_decide_eq_true hb
  rw[if_pos hb]at jY;exact .pure rfl ⟨.inl rfl,.inl rfl,.inl (by rw[jY];exact congrArg _ (congrArg _ jC)),.inl (by rw[hB9,decide_eq_true hb];rfl),trivial⟩
 ·have hb:¬R<0:=of_decide_eq_false hb
  show(-9223372036854775808:Int)<=R+s.size/\R+s.size<=(9223372036854775807:Int)
  omega
 ·have hb:¬R<0:=of_decide_eq_false hb
  rw[if_neg hb]at jY;exact .pure rfl ⟨.inl rfl,.inl rfl,.inl (by rw[jY,<-ym];rfl),.inl (by rw[hB9,decide_eq_false hb];rfl),trivial⟩
