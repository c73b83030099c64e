/- Lemmas, conditions told -/
import Derived.Test.YtibemhahkicbpaaGreatK29
set_option maxRecDepth 99999
set_option maxHeartbeats 0
set_option linter.unusedSimpArgs false
set_option linter.unusedVariables false
namespace Go.Proofs.YtibemhahkicbpaaGreat
open List(length_append length_singleton getElem_mem mem_cons)
open Go.RowKit Go.Lib
section
open Tryz
theorem Qdt(t:Txt)(b:List UInt8)(hs:Sml t b)(hu:Un t.r)(hr:t.r.length<=200000) :
  BCall prog 46 [.box 0 0] [.box [.slc 1 (Q2 b),.val (.int .i64 t.kind),.val (.int .i64 t.bom),.slc 1 (Q0 t.r),.slc 1 (Q9 t.off),.val (.slice none 0 0),.val (.slice none 0 0),.val (.slice none 0 0)]] (.box 0 0)
   [.box [.slc 1 (Q2 b),.val (.int .i64 t.kind),.val (.int .i64 t.bom),.slc 1 (Q0 t.r),.slc 1 (Q9 t.off),.row 2 1,.row 1 1,.row 3 1],.row 107 3 false 1 (Qv (QcN t b ⟨[],[],[]⟩).ev),.row 9 1 false 1 (Qz (QcN t b ⟨[],[],[]⟩).op),.row 157 3 false 1 (Qk (QcN t b ⟨[],[],[]⟩).wr)]:=by
 have h:=Q9m t b hs hu [] (by simp) hr
 exact h.tell [some 0,none] [some 0,some 1,some 2,some 3] rfl rfl rfl (Nat.le_of_ble_eq_true rfl) rfl (by simp[Qe,Qv]) (res':=.box 0 0) rfl (by simp[Qe]) (.inl rfl)
def QlA(kd bm:Int)(R O OP EV WR:List AV):Nat->List AV->List Ob->Option (AV×List Ob):=fun f _ ob=>match f with
 |45=>some (.agg [.val (.int .i64 kd),.val (.int .i64 bm),.slc 1 R,.slc 1 O],[])
 |46=>(match ob with
  | [.box [B,K,M,R',O',.val (.slice none 0 0),.row 1 0,.val (.slice none 0 0)],_]=>some (.box 0 0,[.box [B,K,M,R',O',.row 2 1,.row 1 1,.row 3 1],.row 107 3 false 1 EV,.row 9 1 false 1 OP,.row 157 3 false 1 WR])
  | [.box [B,K,M,R',O',.val (.slice none 0 0),.val (.slice none 0 0),.val (.slice none 0 0)]]=>some (.box 0 0,[.box [B,K,M,R',O',.row 2 1,.row 1 1,.row 3 1],.row 107 3 false 1 EV,.row 9 1 false 1 OP,.row 157 3 false 1 WR])
  |_=>none)
 |_=>none
theorem Qg2(b:List UInt8)(hb:b.length<=100000):BCall prog 14 [.slc 1 (Q2 b)] []
  (.ref [.slc 1 (Q2 b),.val (.int .i64 (Qb b).kind),.val (.int .i64 (Qb b).bom),.slc 1 (Q0 (Qb b).r),.slc 1 (Q9 (Qb b).off),.slc 1 (Qz (Q1b b).op),.slc 3 (Qv (Q1b b).ev),.slc 3 (Qk (Q1b b).wr)]) []:=by
 obtain⟨h1,h2,h3,h4,h5⟩:=Q3N b;have hs:=Q6r b hb;have hu:=QgK b;have yJ:=Q4h b;have cD:=Qc6 b (by omega) (by omega) (fun x hx=>by have:=h5 x hx;omega)
 have c1:=Q9m (Qb b) b hs hu [⟨2,23,some (b.take (QX b).2.toNat)⟩] (by simp) (by omega)
 have c0:=Qdt (Qb b) b hs hu (by omega)
 have hP:Q1b b=QcN (Qb b) b (Q2N b):=rfl;obtain⟨X,hX⟩:=exq (Q1b b);rw[<-hX]at hP ⊢;obtain⟨t,ht⟩:=exq (Qb b);have pS:t.bom=(QX b).2:=by rw[ht];rfl
 rw[<-ht]at cD c0 c1 hP ⊢;rw[<-pS]at c1 yJ;have hf:Q2N b=⟨[],if 0<t.bom then [⟨2,23,some (b.take t.bom.toNat)⟩]else [],[]⟩:=by rw[pS];rfl
 rw[hf]at hP;obtain⟨nb,vu⟩:=QE b;have nA:t.bom<=nb:=by rw[vu.eq];exact yJ.2
 have pW:=yJ.1
 have jS:std.cut (Q2 b) 0 t.bom=Q2 (b.take t.bom.toNat):=by
  show((Q2 b).drop (0:Int).toNat).take (t.bom-0).toNat=_
  simp[Q2,List.map_take]
 have jV:=Q11 b;clear h1 h2 h3 h4 h5 yJ hX ht pS hf;refine fnN (QlA t.kind t.bom (Q0 t.r) (Q9 t.off) (Qz X.op) (Qv X.ev) (Qk X.wr)) func14 rfl fun _ _=>?_
 with_reducible refine cv8 t.kind t.bom (Q0 t.r) (Q9 t.off) (Qz X.op) (Qv X.ev) (Qk X.wr) (Q2 b) ?_
 refine⟨cD,fun h=>⟨?_,?_,?_,.pure rfl (.inl rfl)⟩,fun h=>⟨?_,.pure rfl (.inl rfl)⟩⟩
 ·show 0<=(0:Int)/\0<=t.bom/\t.bom<=((Q2 b).length:Int)
  have:=vu.eq
  rw[jV];omega
 ·exact Nat.le_of_ble_eq_true rfl
 ·have h:0<t.bom:=of_decide_eq_true h
  rw[if_pos h]at hP;rw[<-hP]at c1;show BCall _ _ [.box 0 0] [.box [_,_,_,_,_,_,_,_],.row _ _ _ _ [.agg [_,_,.slc 1 (std.cut (Q2 b) 0 t.bom)]]] _ _;rw[jS];exact c1
 ·have h:¬0<t.bom:=of_decide_eq_false h
  rw[if_neg h]at hP;rw[<-hP]at c0;exact c0
end
theorem QrL(b:List UInt8):QuK (QL (Qu b)).n (Qu b).n.length:=fun n jP hk=>by
 by_cases h:0<=n/\n<(Qu b).n.length
 ·have jA:n.toNat<(Qu b).n.length:=by omega
  have e:Qn (QL (Qu b)).n n=(Qu b).n[n.toNat]:=by
   show Qn ((Qu b).n++[_]) n=_;rw[Qn,if_pos ⟨h.1,by simp only[length_append,length_singleton];omega⟩,List.getElem?_append_left jA,List.getElem?_eq_getElem jA];rfl
  have h2:=(Qdr b).n _ (getElem_mem jA);rw[<-e]at h2;rcases h2 with h2|h2
  ·exact h2.2
  ·exact absurd h2 hk
 ·have:Qn (QL (Qu b)).n n=Q9d:=Q80 (fun h2=>by
   have h3:n<((Qu b).n++[Q1i (Qu b).n 20 (QZ (Qu b).s).kids]).length:=h2.2;simp only[length_append,length_singleton]at h3;omega)
  rw[this]at hk;exact absurd rfl hk
theorem Qs3(b:List UInt8):Q1f (QL (Qu b)).n (Qu b).n.length=20:=by
 show Q1f ((Qu b).n++[_]) ((Qu b).n.length:Int)=20;rw[Qfc];rfl
theorem Qss(b:List UInt8)(hb:b.length<=100000):Shape (QL (Qu b)).n:=by
 have hc:=Qtn b hb;have hN:=Qeb b;refine⟨fun n h0 h1 hk=>?_,fun n h0 h1 hk=>?_,fun n h0 h1 hk x hx=>?_⟩
 ·obtain⟨k0,r,kl,h,_⟩:=hc n h0 h1 hk
  have jA:n.toNat<(QL (Qu b)).n.length:=by omega
  have e:Qn (QL (Qu b)).n n=(QL (Qu b)).n[n.toNat]:=by rw[Qn,if_pos ⟨h0,h1⟩,List.getElem?_eq_getElem jA];rfl
  have h2:=hN _ (getElem_mem jA);rw[<-e]at h2;rcases h2 with h2|h2
  ·exact h2
  ·rw[h]at h2;simp at h2
 ·obtain⟨k0,r,kl,h,h8,_⟩:=hc n h0 h1 hk
  exact⟨k0,r++[kl],h,by rw[h8];decide,by rw[h8];decide,by simp⟩
 ·obtain⟨k0,r,kl,h,_,h9⟩:=hc n h0 h1 hk
  rw[h]at hx
  have:x=kl:=by
   have h3:(k0::r++[kl]).getLast?=some x:=by simpa using hx
   rw[List.getLast?_concat]at h3;exact(Option.some.inj h3).symm
  rw[this];rcases h9 with h2|h2<;>(rw[h2];decide)
theorem QrB{l:List Node}{m:Nat}:∀(ks:List Int),(∀k∈ks,Qr3 (spF l m k false)=(pr l k).length)->Qr3 (ks.flatMap fun k=>spF l m k false)=QrC l ks
 | [],_=>rfl
 |k::r,h=>by
  rw[List.flatMap_cons,Qsu,h k List.mem_cons_self,Qrb,QrB r fun x hx=>h x (List.mem_cons_of_mem _ hx)]
theorem Qt5{l:List Node}(hw:Wf l)(hs:Shape l):∀(m:Nat)(n:Int),0<=n->n<l.length->n.toNat<m->Qr3 (spF l m n false)=(pr l n).length
 |0,_,_,_,h=>by omega
 |m+1,n,h0,h1,h2=>by
  by_cases hk:Q1f l n=21
  ·have jy:=hw n h0 h1
   have:=QrB (l:=l) (m:=m) (Qn l n).kids (fun k h=>Qt5 hw hs m k (jy k h).1 (by have:=jy k h;omega) (by have:=jy k h;omega))
   have e:spF l (m+1) n false=⟨1,0,[]⟩::((Qn l n).kids.flatMap fun k=>spF l m k false)++[⟨3,0,[]⟩]:=by
    rw[spF,if_neg (fun h=>h.1 hk),if_neg (by decide),if_neg (by decide)];rfl
   rw[e,List.cons_append,Qrk,Qsu,this,QsD hw hs h0 h1 hk];show((0:Nat):Int)+(QrC l (Qn l n).kids+Qr3 [⟨3,0,[]⟩])=_
   have:Qr3 [⟨3,0,[]⟩]=0:=rfl
   rw[this];omega
  ·have e:spF l (m+1) n false=[⟨2,Q1f l n,pr l n⟩]:=by rw[spF,if_pos ⟨hk,rfl⟩];rfl
   rw[e];simp[Qr3]
theorem Qt6{l:List Node}(ha:Ar l)(hs:Shape l){n:Int}(h0:0<=n)(h1:n<l.length):Qr3 (spV l n true)<=(pr l n).length:=by
 have jy:=ha.wf n h0 h1
 have e:spV l n true=(Qn l n).kids.flatMap fun k=>spF l n.toNat k false:=by
  rw[spV,spF,if_neg (fun h=>absurd h.2 (by decide)),if_pos rfl,if_pos rfl];simp
 have:=QrB (l:=l) (m:=n.toNat) (Qn l n).kids (fun k h=>Qt5 ha.wf hs _ k (jy k h).1 (by have:=jy k h;omega) (by have:=jy k h;omega))
 rw[e,this,Qh3 ha.wf h0 h1,length_append,List.length_flatMap,QrC];omega
theorem QrU{g:Int->List Int->Int->List El}{l:List Node}:∀(ks:List Int)(p:List Int)(i f:Int),∀e∈Qrg g l ks p i f,∃k i' f',e∈g k (p++[i']) f'
 | [],_,_,_,e,h=>by cases h
 |k::r,p,i,f,e,h=>by
  rw[Qrg]at h;rcases List.mem_append.1 h with h|h
  ·exact⟨_,_,_,h⟩
  ·exact QrU r p _ _ e h
theorem QsO(l:List Node):∀(m:Nat)(n:Int)(p:List Int)(f:Int),∀e∈elF l m n p f,e.path.length<=p.length+m
 |0,_,_,_,e,h=>by cases h
 |m+1,n,p,f,e,h=>by
  rw[elF]at h;split at h
  ·obtain rfl:=List.mem_singleton.1 h
   exact Nat.le_add_right _ _
  ·split at h
   ·rcases mem_cons.1 h with rfl|h
    ·exact Nat.le_add_right _ _
    ·obtain⟨k,i',f',h2⟩:=QrU _ _ _ _ e h
     have:=QsO l m k (p++[i']) f' e h2
     rw[length_append,length_singleton]at this;omega
   ·cases h
theorem Qt7{l:List Node}{n:Int}:∀e∈Qso l n,e.path.length<=n.toNat+1:=fun e he=>by
 obtain⟨k,i',f',h2⟩:=QrU _ _ _ _ e he;have:=QsO l n.toNat k ([]++[i']) f' e h2
 simp only[List.nil_append,length_singleton]at this;omega
theorem QtR{ev:List Ev}(hn:QqZ ev 0){B:Int}(hB:Qr3 ev<=B):((alF ev).o.length:Int)<=ev.length:=by
 obtain⟨d,h,_⟩:=Qsn hn hB ev.length (Nat.le_refl _)
 have e:Qrt ev (ev.length:Nat)=alF ev:=by
  rw[Qrt,Int.toNat_natCast,List.take_length];rfl
 rw[e]at h;exact h.ol
section
open Tryz
theorem Qv3{l:List Node}{c y:Cur}:∀k,y∈QuT l c k->∃j:Nat,j<k/\y=Q34 l c j
 |0,h=>by cases h
 |k+1,h=>by
  rcases mem_cons.1 h with rfl|h
  ·exact⟨k,Nat.lt_succ_self k,rfl⟩
  ·obtain⟨j,h1,h2⟩:=Qv3 k h
   exact⟨j,by omega,h2⟩
def AtW(l:List Node)(b:List UInt8)(rt:Int)(c:Cur):Prop:=QuV l b 400000 c/\QrY l b 400000 c/\(Q2U c:Int)+c.n<=rt+1
theorem AtW.down{l:List Node}{b:List UInt8}{rt:Int}(ha:Ar l)(ho:∀x∈l,Q4Q x){c:Cur}(h:AtW l b rt c){k:Nat}(hk:k<(Qg l c).length):AtW l b rt (Q34 l c k):=by
 obtain⟨h1,h2,h3⟩:=h;refine⟨⟨h1.1.down ha (by omega) (by omega),h1.2.down ha ho h1.1 (by omega) (by omega)⟩,⟨by omega,by omega,h1,h2⟩,?_⟩
 have hm:(Qg l c)[(k:Int).toNat]?.getD 0=(Qg l c)[k]:=by rw[Int.toNat_natCast,List.getElem?_eq_getElem hk];rfl
 have q:=(ha.wf c.n h1.1.h0 h1.1.h1 _ (getElem_mem hk)).2;have q1:(Qg l c)[k]<c.n:=q;show((Q2U c+1:Nat):Int)+(Qg l c)[(k:Int).toNat]?.getD 0<=rt+1
 rw[hm];omega
theorem AtW.walk{l:List Node}{b:List UInt8}{rt:Int}(ha:Ar l)(ho:∀x∈l,Q4Q x){c:Cur}(h:AtW l b rt c)(n:Nat):∀x∈Q6o l c n,AtW l b rt x :=
 Q6a (fun x hx y hy=>by
  obtain⟨j,h1,rfl⟩:=Qv3 _ hy;exact hx.down ha ho h1) n [c] (fun x hx=>by
  obtain rfl:=List.mem_singleton.1 hx;exact h)
theorem Qve{α β:Type}(f:α->List β)(hf:∀a,(f a).length<=1):∀l:List α,(l.flatMap f).length<=l.length
 | []=>Nat.le_refl _
 |a::l=>by have:=Qve f hf l;have:=hf a;rw[List.flatMap_cons,length_append,List.length_cons];omega
theorem Qvu(p:List Int):(hd0 p).length<=1:=by unfold hd0;split<;>simp
theorem PathAll_b(b0:List UInt8):BCall prog 5 [.slc 1 (Q2 b0)] [] (.val (.bool true)) []:=by
 have cS:=QnB b0;obtain⟨b,hb⟩:=exq (b0.take 400);have hl:b.length<=400:=by rw[hb,List.length_take];omega
 rw[<-hb]at cS;have hO:=Q8f b (by omega)
 have cP:=Qn7 b (by omega)
 have cR:=Qg2 b (by omega)
 obtain⟨hwr,hev⟩:=Q8S b (by omega)
 rw[hwr]at cR;have hN:=Qeb b;have hAt:QuV (QL (Qu b)).n b 400000 (.root (Qu b).n.length):=⟨hO.root,[],[],by show b=[]++(pr (QL (Qu b)).n (Qu b).n.length++[]);rw[hO.p];simp,rfl⟩
 have hSh:=Qss b (by omega)
 have hOn:=QrL b;have hrk:=Qs3 b;have hrt:=QcT (Qu b);have hn:=hO.n;have hco:=Qvp b (by omega)
 have hen:(Q1b b).ev.length<=1000000:=by
  have h1:=QlU hO.ar.wf ((Qu b).n.length+1) (Qu b).n.length true (by omega) (QcT _) (by omega)
  have h2:=hO.c;have h3:=congrArg List.length hev;rw[List.length_map]at h3;omega
 have hsB:Qr3 ((Q1b b).ev.map Evr.ev)<=1000000:=by
  rw[hev];have h1:=Qt6 hO.ar hSh (n:=(Qu b).n.length) (by omega) hrt
  rw[hO.p]at h1;omega
 have hnest:QqZ ((Q1b b).ev.map Evr.ev) 0:=by rw[hev];exact Qtc _
 have cAl:=QuE (.slc 1 (Q2 b)) (.val (.int .i64 (Qb b).kind)) (.val (.int .i64 (Qb b).bom)) (.slc 1 (Q0 (Qb b).r)) (.slc 1 (Q9 (Qb b).off)) (.slc 1 (Qz (Q1b b).op)) (.slc 3 (Qk (Qu b).d)) (Q1b b).ev hen hnest hsB
 have eAl:(alF ((Q1b b).ev.map Evr.ev)).o=Qso (QL (Qu b)).n (Qu b).n.length:=by
  rw[hev];exact Qu1 hO.ar.wf hSh (by omega) hrt
 have hal:=QtR hnest hsB;rw[eAl]at cAl hal;rw[List.length_map]at hal;have hre:QqN (QL (Qu b)).n (Qu b).n.length=false:=by rw[QqN,hrk];rfl
 have hpf:=Qv8 hO.ar (rt:=(Qu b).n.length) (by omega) hrt
 have cE:=QsB (Qb b) (Qu b) (QL (Qu b)).n rfl b 400000 hO.ar hN (by omega) (by omega) hAt [] (by decide) (fun x hx=>by cases hx)
 have eE:QqO (QL (Qu b)).n (QqQ (QL (Qu b)).n (.root (Qu b).n.length) 0) []=QqQ (QL (Qu b)).n (.root (Qu b).n.length) 0:=by
  cases QqQ (QL (Qu b)).n (.root (Qu b).n.length) 0<;>rfl
 rw[eE]at cE;have cC:=(Qir (Qb b) (Qu b)).res (res':=.agg ((Cur.root (Qu b).n.length).el (Q3 (QL (Qu b)).n))) ⟨.inr (.inr (.inl ⟨rfl,trivial⟩)),.inl rfl,.inl rfl,.inl rfl,.inl rfl,trivial⟩;have cWr:=Qob (QL (Qu b)).n b.length 400000 hO.ar (by omega) (by omega) (.root (Qu b).n.length) hO.root 1000 (by omega)
 have hW0:AtW (QL (Qu b)).n b (Qu b).n.length (.root (Qu b).n.length):=⟨hAt,trivial,by show((1:Nat):Int)+((Qu b).n.length:Int)<=_;omega⟩
 have cOf:=fun c hu hh=>QuM (Qb b) (Qu b) (QL (Qu b)).n rfl b 400000 hO.ar hN (by omega) (by omega) hAt c hu hh
 have hOw:∀(c:Cur)(k:Nat),AtW (QL (Qu b)).n b (Qu b).n.length c->∀x∈Q6o (QL (Qu b)).n c k,BCall prog 25 [Q8c (Qb b) (Qu b),.agg (x.el (Q3 (QL (Qu b)).n))] [] (.tup [.slc 1 (Q9 (ofO (QL (Qu b)).n (Qu b).n.length x).1),.val (.bool (ofO (QL (Qu b)).n (Qu b).n.length x).2)]) []:=fun c k hc x hx=>by
  obtain⟨h1,h2,h3⟩:=hc.walk hO.ar hN k x hx;have:=h1.1.h0
  exact cOf x h2 (by omega)
 have hwr2:=Qv2 (W:=b.length) (C:=400000) hO.ar hOn hre (c:=.root (Qu b).n.length) hO.root (Int.le_refl _) rfl (N:=1000) (by show co (QL (Qu b)).n (Qu b).n.length<=1000;omega)
 have hPE:(Qso (QL (Qu b)).n (Qu b).n.length).flatMap hdP=QuU (QL (Qu b)).n (.root (Qu b).n.length):=rfl;have hPl:=Qve hdP (fun x=>Qvu x.path) (Qso (QL (Qu b)).n (Qu b).n.length)
 have hwl:=Qbj (QL (Qu b)).n 1000 [.root (Qu b).n.length];have cA:=Qte
 have cA1:BCall prog 27 [Q8c (Qb b) (Qu b)] [] (.slc 1 (QuS ((Qso (QL (Qu b)).n (Qu b).n.length).flatMap hdP))) []:=by
  cases hs:QqQ (QL (Qu b)).n (.root (Qu b).n.length) 0 with
  |none =>
   rw[hs]at cE hpf;have e:(Qso (QL (Qu b)).n (Qu b).n.length).flatMap hdP=[]:=hpf;rw[e];exact Qvh _ _ _ _ _ _ _ cE
  |some c0 =>
   rw[hs]at cE hpf;have e:(Qso (QL (Qu b)).n (Qu b).n.length).flatMap hdP=QuU (QL (Qu b)).n c0:=hpf;obtain⟨k,k0,k1,e1,_,_⟩:=Qrn hs;have hkn:((k.toNat:Nat):Int)=k:=by omega
   have hk':k.toNat<(Qg (QL (Qu b)).n (.root (Qu b).n.length)).length:=by omega
   have hA0:=hW0.down hO.ar hN hk';have hC0:=Chain.le (rt:=(Qu b).n.length) hO.ar hO.root (Int.le_refl _) rfl hk';rw[hkn,<-e1]at hA0 hC0;have hco0:co (QL (Qu b)).n c0.n<=400000:=hA0.1.1.co;have hwp:=Qv2 (W:=b.length) (C:=400000) hO.ar hOn hre (c:=c0) hA0.1.1 hC0.2 hC0.1 (N:=1073741824) (by omega)
   have cW:=Qob (QL (Qu b)).n b.length 400000 hO.ar (by omega) (by omega) c0 hA0.1.1 1073741824 (by omega)
   have hwl0:(Q6o (QL (Qu b)).n c0 1073741824).length<=1000000:=by
    have h9:=Qvc hO.ar hA0.1.1 1073741824;omega
   have:=Qvj (Q0 (Qb b).r) (Q9 (Qb b).off) (Qk (Qu b).d) (QL (Qu b)).n (Qb b).kind (Qb b).bom (Qu b).n.length c0.n c0.f c0.k (upO (Q3 (QL (Qu b)).n) c0) (QcJ _ _) (Q6o (QL (Qu b)).n c0 1073741824) hwl0 cE cW (hOw c0 _ hA0)
   rw[hwp,<-e]at this;exact this
 exact Qvq (Q2 b0) (Q2 b) (Q0 (Qb b).r) (Q9 (Qb b).off) (Qk (Qu b).d) (Qz (Q1b b).op) (Qv (Q1b b).ev) (QL (Qu b)).n (Qb b).kind (Qb b).bom (Qu b).n.length
  ((Qso (QL (Qu b)).n (Qu b).n.length).flatMap hdP) (Qso (QL (Qu b)).n (Qu b).n.length) (Q6o (QL (Qu b)).n (.root (Qu b).n.length) 1000) (by omega) (fun x hx=>by
   have h1:=Qt7 x hx;obtain⟨j,s,_,h2⟩:=Qtv x hx;exact⟨by omega,by rw[h2];exact List.cons_ne_nil _ _⟩) rfl (by omega) (by have:(Q6o (QL (Qu b)).n (.root (Qu b).n.length) 1000).length<=1000:=hwl;omega) (by rw[hwr2,hPE]) cS cP cR cA1 cAl cC cWr (hOw _ _ hW0) cA
