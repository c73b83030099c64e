/- Lemmas, conditions told -/
import Derived.Test.YtibemhahkicbpaaGreatL33
set_option maxRecDepth 99999
set_option maxHeartbeats 0
set_option linter.unusedSimpArgs false
set_option linter.unusedVariables false
namespace Go.Proofs.YtibemhahkicbpaaGreat
open Go.RowKit Go.Lib
section
open Tryz
theorem Qdt(t:Txt)(b:List UInt8)(hs:Sml t b)(hu:Un t.r)(hr:t.r.length<=200000) :
  BCall prog 46 [.box 0 0] [.box [.slc 1 (Q2 b),.val (.int .i64 t.kind),.val (.int .i64 t.bom),.slc 1 (Q0 t.r),.slc 1 (Q9 t.off),.val (.slice none 0 0),.val (.slice none 0 0),.val (.slice none 0 0)]] (.box 0 0)
   [.box [.slc 1 (Q2 b),.val (.int .i64 t.kind),.val (.int .i64 t.bom),.slc 1 (Q0 t.r),.slc 1 (Q9 t.off),.row 2 1,.row 1 1,.row 3 1],.row 107 3 false 1 (Qv (QcN t b ⟨[],[],[]⟩).ev),.row 9 1 false 1 (Qz (QcN t b ⟨[],[],[]⟩).op),.row 157 3 false 1 (Qk (QcN t b ⟨[],[],[]⟩).wr)]:=by
 have h:=Q9m t b hs hu [] (by simp) hr
 exact h.tell [some 0,none] [some 0,some 1,some 2,some 3] rfl rfl rfl (Nat.le_of_ble_eq_true rfl) rfl (by simp[Qe,Qv]) (res':=.box 0 0) rfl (by simp[Qe]) (.inl rfl)
def QlA(kd bm:Int)(R O OP EV WR:List AV):Nat->List AV->List Ob->Option (AV×List Ob):=fun f _ ob=>match f with
 |45=>some (.agg [.val (.int .i64 kd),.val (.int .i64 bm),.slc 1 R,.slc 1 O],[])
 |46=>(match ob with
  | [.box [B,K,M,R',O',.val (.slice none 0 0),.row 1 0,.val (.slice none 0 0)],_]=>some (.box 0 0,[.box [B,K,M,R',O',.row 2 1,.row 1 1,.row 3 1],.row 107 3 false 1 EV,.row 9 1 false 1 OP,.row 157 3 false 1 WR])
  | [.box [B,K,M,R',O',.val (.slice none 0 0),.val (.slice none 0 0),.val (.slice none 0 0)]]=>some (.box 0 0,[.box [B,K,M,R',O',.row 2 1,.row 1 1,.row 3 1],.row 107 3 false 1 EV,.row 9 1 false 1 OP,.row 157 3 false 1 WR])
  |_=>none)
 |_=>none
theorem Qg2(b:List UInt8)(hb:b.length<=100000):BCall prog 14 [.slc 1 (Q2 b)] []
  (.ref [.slc 1 (Q2 b),.val (.int .i64 (Qb b).kind),.val (.int .i64 (Qb b).bom),.slc 1 (Q0 (Qb b).r),.slc 1 (Q9 (Qb b).off),.slc 1 (Qz (Q1b b).op),.slc 3 (Qv (Q1b b).ev),.slc 3 (Qk (Q1b b).wr)]) []:=by
 obtain⟨h1,h2,h3,h4,h5⟩:=Q3N b;have hs:=Q6r b hb;have hu:=QgK b;have yV:=Q4h b;have cD:=Qc6 b (by omega) (by omega) (fun x hx=>by have:=h5 x hx;omega)
 have c1:=Q9m (Qb b) b hs hu [⟨2,23,some (b.take (QX b).2.toNat)⟩] (by simp) (by omega)
 have c0:=Qdt (Qb b) b hs hu (by omega)
 have hP:Q1b b=QcN (Qb b) b (Q2N b):=rfl;obtain⟨X,hX⟩:=exq (Q1b b);rw[<-hX]at hP ⊢;obtain⟨t,ht⟩:=exq (Qb b);have pL:t.bom=(QX b).2:=by rw[ht];rfl
 rw[<-ht]at cD c0 c1 hP ⊢;rw[<-pL]at c1 yV;have hf:Q2N b=⟨[],if 0<t.bom then [⟨2,23,some (b.take t.bom.toNat)⟩]else [],[]⟩:=by rw[pL];rfl
 rw[hf]at hP;obtain⟨nb,vu⟩:=QE b;have pq:t.bom<=nb:=by rw[vu.eq];exact yV.2
 have pP:=yV.1
 have jS:std.cut (Q2 b) 0 t.bom=Q2 (b.take t.bom.toNat):=by
  show((Q2 b).drop (0:Int).toNat).take (t.bom-0).toNat=_
  simp[Q2,List.map_take]
 have jW:=Q11 b;clear h1 h2 h3 h4 h5 yV hX ht pL hf;refine fnN (QlA t.kind t.bom (Q0 t.r) (Q9 t.off) (Qz X.op) (Qv X.ev) (Qk X.wr)) func14 rfl fun _ _=>?_
 with_reducible refine cv8 t.kind t.bom (Q0 t.r) (Q9 t.off) (Qz X.op) (Qv X.ev) (Qk X.wr) (Q2 b) ?_
 refine⟨cD,fun h=>⟨?_,?_,?_,.pure rfl (.inl rfl)⟩,fun h=>⟨?_,.pure rfl (.inl rfl)⟩⟩
 ·show 0<=(0:Int)/\0<=t.bom/\t.bom<=((Q2 b).length:Int)
  have:=vu.eq
  rw[jW];omega
 ·exact Nat.le_of_ble_eq_true rfl
 ·have h:0<t.bom:=of_decide_eq_true h
  rw[if_pos h]at hP;rw[<-hP]at c1;show BCall _ _ [.box 0 0] [.box [_,_,_,_,_,_,_,_],.row _ _ _ _ [.agg [_,_,.slc 1 (std.cut (Q2 b) 0 t.bom)]]] _ _;rw[jS];exact c1
 ·have h:¬0<t.bom:=of_decide_eq_false h
  rw[if_neg h]at hP;rw[<-hP]at c0;exact c0
theorem Qt9(l:List Int):BCall prog 12 [.slc 1 (Q9 l)] [] (.slc 1 (Q9 (l.take 8))) []:=by
 have jE:=Q2w l;have h1:¬8<l.length->Q9 (l.take 8)=Q9 l:=fun h=>by rw[List.take_of_length_le (by omega)]
 have h2:std.cut (Q9 l) 0 8=Q9 (l.take 8):=by
  show((Q9 l).drop (0:Int).toNat).take (8-0:Int).toNat=_
  rw[Q9,Q9,List.map_take];rfl
 refine fnN (cs0) func12 rfl fun _ _=>?_
 with_reducible refine cv1 (Q9 l) ?_
 refine⟨fun h=>⟨?_,.pure rfl (.inl (by rw[<-h2]))⟩,fun h=>.pure rfl (.inl ?_)⟩
 ·have h:8<((Q9 l).length:Int):=of_decide_eq_true h
  show(0:Int)<=0/\(0:Int)<=8/\(8:Int)<=((Q9 l).length:Int)
  omega
 ·have h:¬8<((Q9 l).length:Int):=of_decide_eq_false h
  rw[h1 (by omega)]
end
theorem QrL(b:List UInt8):QuK (QL (Qu b)).n (Qu b).n.length:=fun n jQ hk=>by
 by_cases h:0<=n/\n<(Qu b).n.length
 ·have jA:n.toNat<(Qu b).n.length:=by omega
  have e:Qn (QL (Qu b)).n n=(Qu b).n[n.toNat]:=by
   show Qn ((Qu b).n++[_]) n=_;rw[Qn,if_pos ⟨h.1,by simp only[List.length_append,List.length_singleton];omega⟩,List.getElem?_append_left jA,List.getElem?_eq_getElem jA];rfl
  have h2:=(Qdr b).n _ (List.getElem_mem jA);rw[<-e]at h2;rcases h2 with h2|h2
  ·exact h2.2
  ·exact absurd h2 hk
 ·have:Qn (QL (Qu b)).n n=Q9d:=Q80 (fun h2=>by
   have h3:n<((Qu b).n++[Q1i (Qu b).n 20 (QZ (Qu b).s).kids]).length:=h2.2;simp only[List.length_append,List.length_singleton]at h3;omega)
  rw[this]at hk;exact absurd rfl hk
theorem Qs3(b:List UInt8):Q1f (QL (Qu b)).n (Qu b).n.length=20:=by
 show Q1f ((Qu b).n++[_]) ((Qu b).n.length:Int)=20;rw[Qfc];rfl
theorem QsG(b:List UInt8):∀n,Q1f (QL (Qu b)).n n=9->(Qn (QL (Qu b)).n n).kids=[]:=fun n h=>Decidable.byContradiction fun hk=>by
 by_cases hn:n=(Qu b).n.length
 ·rw[hn,Qs3]at h;exact absurd h (by decide)
 ·have:=QrL b n hn hk
  rw[h]at this;exact absurd this (by decide)
theorem Qss(b:List UInt8)(hb:b.length<=100000):Shape (QL (Qu b)).n:=by
 have hc:=Qtn b hb;have hN:=Qeb b;refine⟨fun n h0 h1 hk=>?_,fun n h0 h1 hk=>?_,fun n h0 h1 hk x hx=>?_⟩
 ·obtain⟨k0,r,kl,h,_⟩:=hc n h0 h1 hk
  have jA:n.toNat<(QL (Qu b)).n.length:=by omega
  have e:Qn (QL (Qu b)).n n=(QL (Qu b)).n[n.toNat]:=by rw[Qn,if_pos ⟨h0,h1⟩,List.getElem?_eq_getElem jA];rfl
  have h2:=hN _ (List.getElem_mem jA);rw[<-e]at h2;rcases h2 with h2|h2
  ·exact h2
  ·rw[h]at h2;simp at h2
 ·obtain⟨k0,r,kl,h,h8,_⟩:=hc n h0 h1 hk
  exact⟨k0,r++[kl],h,by rw[h8];decide,by rw[h8];decide,by simp⟩
 ·obtain⟨k0,r,kl,h,_,h9⟩:=hc n h0 h1 hk
  rw[h]at hx
  have:x=kl:=by
   have h3:(k0::r++[kl]).getLast?=some x:=by simpa using hx
   rw[List.getLast?_concat]at h3;exact(Option.some.inj h3).symm
  rw[this];rcases h9 with h2|h2<;>(rw[h2];decide)
theorem QrB{l:List Node}{m:Nat}:∀(ks:List Int),(∀k∈ks,Qr3 (spF l m k false)=(pr l k).length)->Qr3 (ks.flatMap fun k=>spF l m k false)=QrC l ks
 | [],_=>rfl
 |k::r,h=>by
  rw[List.flatMap_cons,Qsu,h k List.mem_cons_self,Qrb,QrB r fun x hx=>h x (List.mem_cons_of_mem _ hx)]
theorem Qt5{l:List Node}(hw:Wf l)(hs:Shape l):∀(m:Nat)(n:Int),0<=n->n<l.length->n.toNat<m->Qr3 (spF l m n false)=(pr l n).length
 |0,_,_,_,h=>by omega
 |m+1,n,h0,h1,h2=>by
  by_cases hk:Q1f l n=21
  ·have jd:=hw n h0 h1
   have:=QrB (l:=l) (m:=m) (Qn l n).kids (fun k h=>Qt5 hw hs m k (jd k h).1 (by have:=jd k h;omega) (by have:=jd k h;omega))
   have e:spF l (m+1) n false=⟨1,0,[]⟩::((Qn l n).kids.flatMap fun k=>spF l m k false)++[⟨3,0,[]⟩]:=by
    rw[spF,if_neg (fun h=>h.1 hk),if_neg (by decide),if_neg (by decide)];rfl
   rw[e,List.cons_append,Qrk,Qsu,this,QsD hw hs h0 h1 hk];show((0:Nat):Int)+(QrC l (Qn l n).kids+Qr3 [⟨3,0,[]⟩])=_
   have:Qr3 [⟨3,0,[]⟩]=0:=rfl
   rw[this];omega
  ·have e:spF l (m+1) n false=[⟨2,Q1f l n,pr l n⟩]:=by rw[spF,if_pos ⟨hk,rfl⟩];rfl
   rw[e];simp[Qr3]
theorem Qt6{l:List Node}(ha:Ar l)(hs:Shape l){n:Int}(h0:0<=n)(h1:n<l.length):Qr3 (spV l n true)<=(pr l n).length:=by
 have jd:=ha.wf n h0 h1
 have e:spV l n true=(Qn l n).kids.flatMap fun k=>spF l n.toNat k false:=by
  rw[spV,spF,if_neg (fun h=>absurd h.2 (by decide)),if_pos rfl,if_pos rfl];simp
 have:=QrB (l:=l) (m:=n.toNat) (Qn l n).kids (fun k h=>Qt5 ha.wf hs _ k (jd k h).1 (by have:=jd k h;omega) (by have:=jd k h;omega))
 rw[e,this,Qh3 ha.wf h0 h1,List.length_append,List.length_flatMap,QrC];omega
theorem QrU{g:Int->List Int->Int->List El}{l:List Node}:∀(ks:List Int)(p:List Int)(i f:Int),∀e∈Qrg g l ks p i f,∃k i' f',e∈g k (p++[i']) f'
 | [],_,_,_,e,h=>by cases h
 |k::r,p,i,f,e,h=>by
  rw[Qrg]at h;rcases List.mem_append.1 h with h|h
  ·exact⟨_,_,_,h⟩
  ·exact QrU r p _ _ e h
theorem QsO(l:List Node):∀(m:Nat)(n:Int)(p:List Int)(f:Int),∀e∈elF l m n p f,e.path.length<=p.length+m
 |0,_,_,_,e,h=>by cases h
 |m+1,n,p,f,e,h=>by
  rw[elF]at h;split at h
  ·obtain rfl:=List.mem_singleton.1 h
   exact Nat.le_add_right _ _
  ·split at h
   ·rcases List.mem_cons.1 h with rfl|h
    ·exact Nat.le_add_right _ _
    ·obtain⟨k,i',f',h2⟩:=QrU _ _ _ _ e h
     have:=QsO l m k (p++[i']) f' e h2
     rw[List.length_append,List.length_singleton]at this;omega
   ·cases h
theorem Qt7{l:List Node}{n:Int}:∀e∈Qso l n,e.path.length<=n.toNat+1:=fun e he=>by
 obtain⟨k,i',f',h2⟩:=QrU _ _ _ _ e he;have:=QsO l n.toNat k ([]++[i']) f' e h2
 simp only[List.nil_append,List.length_singleton]at this;omega
theorem QtR{ev:List Ev}(hn:QqZ ev 0){B:Int}(hB:Qr3 ev<=B):((alF ev).o.length:Int)<=ev.length:=by
 obtain⟨d,h,_⟩:=Qsn hn hB ev.length (Nat.le_refl _)
 have e:Qrt ev (ev.length:Nat)=alF ev:=by
  rw[Qrt,Int.toNat_natCast,List.take_length];rfl
 rw[e]at h;exact h.ol
theorem row_i64{w:World}{a:Option Addr}{len cap:Nat}{zs:List Int}(h:QqE .i64 w a len cap zs):∀x∈zs.take len,x<=9223372036854775807:=fun x hx=>by
 rcases h with ⟨_,_,_,rfl⟩|⟨_,_,_,_,_,_,hwf⟩
 ·simp at hx
 ·have h:=hwf x (List.mem_of_mem_take hx)
  simp only[Lit.wf,Bool.and_eq_true,decide_eq_true_eq]at h;exact h.2
theorem QsX{l:List Node}{b:List UInt8}{C:Nat}{c c':Cur}{x:Int}(hc:QuV l b C c)(hu:QrY l b C c)(h:QqQ l c x=some c'):QrY l b C c':=by
 obtain⟨k,h0,h1,rfl,_⟩:=Qrn h;exact⟨h0,h1,hc,hu⟩
theorem Qt0{l:List Node}{b:List UInt8}{C:Nat}(ha:Ar l)(ho:∀x∈l,Q4Q x):∀(p:List Int)(c c':Cur),QuV l b C c->QrY l b C c->QqO l (some c) p=some c'->QuV l b C c'/\QrY l b C c'
 | [],c,c',h1,h2,h=>by
  obtain rfl:c=c':=by simpa[QqO]using h
  exact⟨h1,h2⟩
 |x::p,c,c',h1,h2,h=>by
  rw[QqO]at h;split at h
  ·cases h
  ·cases hs:QqQ l c x with
   |none=>rw[hs,QqU]at h;cases h
   |some d =>
    rw[hs]at h;exact Qt0 ha ho p d c' (Qry ha ho h1 hs) (QsX h1 h2 hs) h
