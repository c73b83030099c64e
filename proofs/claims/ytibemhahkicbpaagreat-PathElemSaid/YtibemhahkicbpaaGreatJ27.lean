/- Lemmas, conditions told -/
import Derived.Test.YtibemhahkicbpaaGreatJ24
set_option maxRecDepth 99999
set_option maxHeartbeats 0
set_option linter.unusedSimpArgs false
set_option linter.unusedVariables false
namespace Go.Proofs.YtibemhahkicbpaaGreat
open Int(le_refl)
open Go.RowKit Go.Lib
section
open Tryz
def Qpv:List AV:=[.opt (.val (.pointer none)),.val (.int .i64 0),.val (.int .i64 0),.val (.int .i64 0),.opt (.val (.pointer none))]
theorem Qmr(l:List Node)(n:Int):BCall prog 61 [.agg ((Cur.root n).el (Q3 l))] [] (.tup [.agg Qpv,.val (.bool false)]) []:=by
 rw[Cur.el];refine fnN (cs0) func61 rfl fun _ _=>?_
 with_reducible refine cv1 (Q3 l) ?_
 refine⟨fun _=>.pure rfl ?_,fun h=>absurd (show true=false from h) (by decide)⟩
 exact⟨⟨.inr (.inr (.inl ⟨rfl,trivial⟩)),.inl rfl,.inl rfl,.inl rfl,.inr (.inr (.inl ⟨rfl,trivial⟩)),trivial⟩,.inl rfl,trivial⟩
theorem Qoy(l:List Node)(n f k:Int)(up:Cur):BCall prog 61 [.agg ((Cur.kid n f k up).el (Q3 l))] [] (.tup [.agg (up.el (Q3 l)),.val (.bool true)]) []:=by
 rw[Cur.el,Cur.el];have hU:Q56 (upO (Q3 l) up):=QcJ _ _;obtain⟨un,vo⟩:=exq up.n;obtain⟨uf,ko⟩:=exq up.f;obtain⟨uk,kO⟩:=exq up.k;have e:upO (Q3 l) (Cur.kid n f k up)=.ref [.ref [.slc 6 (Q3 l)],.val (.int .i64 un),.val (.int .i64 uf),.val (.int .i64 uk),.opt (upO (Q3 l) up)]:=by rw[vo,ko,kO];rfl
 rw[e,<-vo,<-ko,<-kO];show BCall _ _ [.agg [_,.val (.int .i64 n),.val (.int .i64 f),.val (.int .i64 k),_]] _ _ _;clear e vo ko kO;refine fnN (cs0) func61 rfl fun _ _=>?_
 with_reducible refine cv2 (upO (Q3 l) up) (Q3 l) ?_
 exact⟨fun h=>absurd (show false=true from h) (by decide),fun _=>⟨⟨trivial,rfl⟩,⟨trivial,rfl,rfl,rfl,hU,trivial⟩,.pure rfl ⟨⟨.inl rfl,.inl rfl,.inl rfl,.inl rfl,.inl rfl,trivial⟩,.inl rfl,trivial⟩⟩⟩
def Q16(l:List Node):Cur->Int
 |.root n=>if Q1f l n=21 then 1 else 0
 |.kid n _ _ up=>(if Q1f l n=21 then 1 else 0)+Q16 l up
def Q2U:Cur->Nat
 |.root _=>1
 |.kid _ _ _ up=>Q2U up+1
def upC:Cur->Cur
 |.root n=>.root n
 |.kid _ _ _ up=>up
def Q4g:Cur->Bool
 |.root _=>false
 |.kid _ _ _ _=>true
def pA(N:List AV):Bool->AV
 |true=>.ref [.slc 6 N]
 |false=>.val (.pointer none)
def nI:Bool->Cur->Int
 |true,c=>c.n
 |false,_=>0
def fI:Bool->Cur->Int
 |true,c=>c.f
 |false,_=>0
def kI:Bool->Cur->Int
 |true,c=>c.k
 |false,_=>0
def uA(N:List AV):Bool->Cur->AV
 |true,c=>upO N c
 |false,_=>.val (.pointer none)
def QjF(N:List AV)(ok:Bool)(c:Cur):List AV:=[.opt (pA N ok),.val (.int .i64 (nI ok c)),.val (.int .i64 (fI ok c)),.val (.int .i64 (kI ok c)),.opt (uA N ok c)]
theorem Qq7(l:List Node)(c:Cur):BCall prog 61 [.agg (QjF (Q3 l) true c)] [] (.tup [.agg (QjF (Q3 l) (Q4g c) (upC c)),.val (.bool (Q4g c))]) []:=by
 cases c with
 |root n=>exact Qmr l n
 |kid n f k up=>exact Qoy l n f k up
end
def Qr5(l:List Node):List Int->Int
 | []=>0
 |x::r=>(if QqN l x=true then 1 else 0)+Qr5 l r
theorem Qsp(l:List Node):∀(a b:List Int),Qr5 l (a++b)=Qr5 l a+Qr5 l b
 | [],b=>by simp[Qr5]
 |x::a,b=>by rw[List.cons_append,Qr5,Qr5,Qsp l a b];omega
theorem QrM(l:List Node):∀(a:List Int),0<=Qr5 l a/\Qr5 l a<=a.length
 | []=>⟨le_refl 0,le_refl 0⟩
 |x::a=>by
  have:=QrM l a
  rw[Qr5,List.length_cons];split<;>omega
def QrD(l:List Node):Cur->List Int->Option (List Int×Int×Int)
 |.root _,_=>none
 |.kid _ _ k u,o=>if Q1f l u.n=21 then QrD l u (o++[Qr5 l ((Qg l u).take k.toNat)])else some (o.reverse,Qr5 l ((Qg l u).take k.toNat),u.n)
def Qra:Cur->List Int
 |.root _=>[]
 |.kid _ _ k u=>Qra u++[k]
def Qrr(l:List Node)(rt:Int)(c:Cur)(p:List Int):Bool:=match QqO l (QqQ l (.root rt) 0) p with
 |none=>false
 |some d=>d.n == c.n&&decide (Qra d=Qra c)
def ofO(l:List Node)(rt:Int)(c:Cur):List Int×Bool :=
 if QqN l c.n=true then(match QrD l c []with
  |none=>([],false)
  |some (o,n,u)=>(o,decide (n=0)&&(decide (u=rt)&&Qrr l rt c o)))
 else([],false)
theorem Qsh{l:List Node}:∀(ks:List Int)(n i k:Int),QqT l ks n i=some k->Qr5 l (ks.take (k-i).toNat)=n
 | [],_,_,_,h=>by cases h
 |x::r,n,i,k,h=>by
  have hr:=QqW _ _ _ _ h;rw[QqT]at h;by_cases hx:QqN l x=true
  ·rw[if_pos hx]at h
   by_cases hn:n=0
   ·rw[if_pos hn]at h
    obtain rfl:i=k:=by simpa using h
    rw[Int.sub_self,hn];rfl
   ·rw[if_neg hn]at h
    have h2:=QqW _ _ _ _ h;have ih:=Qsh r (n-1) (i+1) k h;rw[show(k-i).toNat=(k-(i+1)).toNat+1 by omega,List.take_succ_cons,Qr5,if_pos hx,ih];omega
  ·rw[if_neg hx]at h
   have h2:=QqW _ _ _ _ h;have ih:=Qsh r n (i+1) k h;rw[show(k-i).toNat=(k-(i+1)).toNat+1 by omega,List.take_succ_cons,Qr5,if_neg hx,ih];omega
theorem Qrn{l:List Node}{c0 c1:Cur}{x:Int}(h:QqQ l c0 x=some c1):∃k:Int,0<=k/\k<(Qg l c0).length/\c1=Q34 l c0 k/\Qr5 l ((Qg l c0).take k.toNat)=x/\QqN l c1.n=true:=by
 obtain⟨k,h1,rfl⟩:=Option.map_eq_some_iff.1 h;obtain⟨h2,h3,h4⟩:=QqW _ _ _ _ h1;have h5:=Qsh _ _ _ _ h1;rw[Int.sub_zero]at h4 h5;exact⟨k,h2,by omega,rfl,h5,h4⟩
theorem Qu4{l:List Node}(qk:∀n,Q1f l n=9->(Qn l n).kids=[]){c:Cur}(he:QqN l c.n=true){k:Int}(h0:0<=k)(h1:k<(Qg l c).length):Q1f l c.n=21:=by
 have h2:Q1f l c.n=21\/Q1f l c.n=9:=by simpa[QqN]using he
 rcases h2 with h2|h2
 ·exact h2
 ·have:Qg l c=[]:=qk _ h2
  rw[this]at h1;have:k<0:=h1
  omega
theorem Qud{l:List Node}(qk:∀n,Q1f l n=9->(Qn l n).kids=[]):∀(ls:List Int)(c0 c:Cur),QqN l c0.n=true->QqO l (some c0) ls=some c->QqN l c.n=true/\∀o,QrD l c o=QrD l c0 (o++ls.reverse)
 | [],c0,c,he,h=>by
  obtain rfl:c0=c:=by simpa[QqO]using h
  exact⟨he,fun o=>by simp⟩
 |x::r,c0,c,he,h=>by
  rw[QqO]at h;split at h
  ·cases h
  ·cases hs:QqQ l c0 x with
   |none=>rw[hs,QqU]at h;cases h
   |some c1 =>
    rw[hs]at h;obtain⟨k,k0,k1,rfl,hc,he1⟩:=Qrn hs;obtain⟨h1,h2⟩:=Qud qk r _ c he1 h;refine⟨h1,fun o=>?_⟩
    rw[h2];show(if Q1f l c0.n=21 then QrD l c0 (o++r.reverse++[Qr5 l ((Qg l c0).take k.toNat)])else _)=_
    rw[if_pos (Qu4 qk he k0 k1),hc,List.reverse_cons,List.append_assoc]
theorem Qu6{l:List Node}(qk:∀n,Q1f l n=9->(Qn l n).kids=[]){rt:Int}(vP:Q1f l rt≠21){ls:List Int}{c:Cur}(h:QqO l (QqQ l (.root rt) 0) ls=some c):QqN l c.n=true/\ofO l rt c=(ls,true):=by
 cases hs:QqQ l (.root rt) 0 with
 |none=>rw[hs,QqU]at h;cases h
 |some c0 =>
  have h':=h;rw[hs]at h';obtain⟨k,k0,k1,e1,hc,he1⟩:=Qrn hs;obtain⟨h1,h2⟩:=Qud qk ls c0 c he1 h'
  have e2:QrD l c0 (([]:List Int)++ls.reverse)=some (ls,0,rt):=by
   rw[e1];show(if Q1f l rt=21 then _ else some ((([]:List Int)++ls.reverse).reverse,Qr5 l ((Qg l (.root rt)).take k.toNat),rt))=_
   rw[if_neg vP,hc];simp
  refine⟨h1,?_⟩;rw[ofO,if_pos h1,h2,e2];show(ls,(true&&(decide (rt=rt)&&Qrr l rt c ls)))=_
  rw[Qrr,h];simp
def QuK(l:List Node)(rt:Int):Prop:=∀n:Int,n≠rt->(Qn l n).kids≠[]->Q1f l n=21
def hd0:List Int->List (List Int)
 |0::s=>[s]
 |_=>[]
def ElS(l:List Node)(n:Int):Prop:=Q1f l n=21->∃k0 r kl,(Qn l n).kids=k0::(r++[kl])/\Q1f l k0=8/\(Q1f l kl=22\/Q1f l kl=10)
def StS(l:List Node)(y:Opn):Prop:=∃k0 r,y.kids=k0::r/\Q1f l k0=8
theorem StS.old{l:List Node}{y:Opn}(hr:InR l y.kids)(hs:StS l y)(x:Node):StS (l++[x]) y:=by
 obtain⟨k0,r,hk,h8⟩:=hs;have:=hr k0 (by rw[hk];simp)
 exact⟨k0,r,hk,by rw[Qqd this.1 this.2];exact h8⟩
theorem Qrz{l:List Node}(h:Wf l)(he:∀n:Int,0<=n->n<l.length->ElS l n){x:Node}(hx:ElS (l++[x]) l.length):∀n:Int,0<=n->n<(l++[x]).length->ElS (l++[x]) n:=fun n h0 h1=>by
 simp only[List.length_append,List.length_singleton]at h1;by_cases h2:n<l.length
 ·intro hk
  rw[Qqd h0 h2]at hk;obtain⟨k0,r,kl,e1,e2,e3⟩:=he n h0 h2 hk;have hr:∀k∈(Qn l n).kids,0<=k/\k<l.length:=fun k hk=>by have:=h n h0 h2 k hk;omega
  have q1:=hr k0 (by rw[e1];simp)
  have q2:=hr kl (by rw[e1];simp)
  rw[Q43 h0 h2];exact⟨k0,r,kl,e1,by rw[Qqd q1.1 q1.2];exact e2,by rw[Qqd q2.1 q2.2];exact e3⟩
 ·obtain rfl:n=l.length:=by omega
  exact hx
theorem QrI{l:List Node}{x:Node}(hk:x.kind≠21):ElS (l++[x]) l.length:=fun h=>by
 rw[Qfc]at h;exact absurd h hk
structure ShM (m:Mk):Prop where
 el:∀n:Int,0<=n->n<m.n.length->ElS m.n n
 st:∀y∈m.s.drop 1,StS m.n y
section
variable {m:Mk}{X:List UInt8}{B D:Nat}
theorem ShM.wrong(h:ShM m)(t:Txt)(d f u:Int):ShM (QV t d f u m):=⟨h.el,h.st⟩
theorem ShM.leaf(h:MkInv m X B D)(hc:ShM m){kind:Int}(hk:kind≠21)(bs:List UInt8):ShM (Q3g m.n.length (Q20 (QI kind bs) m)):=by
 obtain⟨s0,q8⟩:=Q2r h.s1;generalize QZ m.s=y at q8;have hr:=h.rng;have jH:=hc.st;rw[q8]at hr jH;refine⟨Qrz h.ar.wf hc.el (QrI hk),?_⟩;show ∀z∈(Q2k m.n.length m.s).drop 1,StS (m.n++[QI kind bs]) z;rw[q8,Q2D];intro z hz;rcases Qqa.1 hz with hz|⟨jQ,rfl⟩
 ·exact(jH z (Qqa.2 (.inl hz))).old (hr z (List.mem_append_left _ (List.mem_of_mem_drop hz))) _
 ·obtain⟨k0,r,e1,e2⟩:=(jH y (Qqa.2 (.inr ⟨jQ,rfl⟩))).old (hr y (by simp)) (QI kind bs)
  exact⟨k0,r++[(m.n.length:Int)],by show y.kids++_=_;rw[e1];rfl,e2⟩
theorem ShM.push(h:MkInv m X B D)(hc:ShM m)(bs:List UInt8)(nm:List Int):ShM (Q3g m.n.length (Q20 (QI 8 bs) { m with s:=m.s++[⟨nm,[]⟩] })):=by
 refine⟨Qrz h.ar.wf hc.el (QrI (by show(8:Int)≠21;decide)),?_⟩
 show ∀z∈(Q2k m.n.length (m.s++[⟨nm,[]⟩])).drop 1,StS (m.n++[QI 8 bs]) z;rw[Q2D];intro z hz;rcases Qqa.1 hz with hz|⟨jQ,rfl⟩
 ·exact(hc.st z hz).old (h.rng z (List.mem_of_mem_drop hz)) _
 ·exact⟨m.n.length,[],rfl,Qfc⟩
theorem ShM.shut(h:MkInv m X B D)(hc:ShM m)(hs:2<=m.s.length){kind:Int}(bs:List UInt8)(hk:kind=22\/kind=10):ShM (Q22 m.n.length (Q20 (QI kind bs) m)):=by
 obtain⟨s0,y,jM⟩:=QhW hs;generalize QZ m.s=x at jM;obtain⟨en,es⟩:=QmK jM kind bs;obtain⟨qy,_⟩:=Q4A h.ar kind bs;have hr:=h.rng;have jH:=hc.st;rw[jM]at hr jH;have vl:∀z∈s0,InR m.n z.kids:=fun z hz=>hr z (List.mem_append_left _ (List.mem_append_left _ hz))
 have yb:InR m.n y.kids:=hr y (List.mem_append_left _ (by simp))
 have gX:InR m.n x.kids:=hr x (by simp)
 obtain⟨k0,r,e1,e2⟩:=(jH x (Qqa.2 (.inr ⟨by simp,rfl⟩))).old gX (QI kind bs)
 have nX:=Qrz h.ar.wf hc.el (x:=QI kind bs) (QrI (by show kind≠21;omega))
 have nY:Q1f (m.n++[QI kind bs]) m.n.length=kind:=Qfc;have qB:0<=k0/\k0<m.n.length:=gX k0 (by rw[e1];simp)
 obtain⟨l1,hl⟩:=exq (m.n++[QI kind bs]);have yf:(l1.length:Int)=m.n.length+1:=by rw[hl];simp
 rw[<-hl]at qy e2 nX en es nY;obtain⟨z,hz⟩:=exq (Q1i l1 21 (x.kids++[(m.n.length:Int)]));rw[<-hz]at en;have hzk:z.kids=x.kids++[(m.n.length:Int)]:=by rw[hz];rfl
 refine⟨?_,?_⟩
 ·rw[en]
  refine Qrz qy.wf nX (fun _=>⟨k0,r,m.n.length,?_,?_,?_⟩)
  ·rw[Q36,hzk,e1];rfl
  ·rw[Qqd qB.1 (by omega)];exact e2
  ·rw[Qqd (by omega) (by omega),nY];exact hk
 ·rw[en,es]
  intro q hq;rcases Qqa.1 hq with hq|⟨jQ,rfl⟩
  ·have hqr:=vl q (List.mem_of_mem_drop hq)
   have vt:=(jH q (Qqa.2 (.inl (Qqa.2 (.inl hq))))).old hqr (QI kind bs);rw[<-hl]at vt;exact vt.old (by rw[hl];exact hqr.more _) z
  ·have vt:=(jH y (Qqa.2 (.inl (Qqa.2 (.inr ⟨jQ,rfl⟩))))).old yb (QI kind bs)
   rw[<-hl]at vt;obtain⟨q0,qr,f1,f2⟩:=vt.old (by rw[hl];exact yb.more _) z
   exact⟨q0,qr++[(l1.length:Int)],by show y.kids++_=_;rw[f1];rfl,f2⟩
end
theorem ShM.missGo(t:Txt)(f:Int)(k:Nat){X:List UInt8}{B D:Nat}:∀(n:Nat)(m:Mk),MkI m X B D->ShM m->k+1<=m.s.length->m.s.length<=n+k+1->ShM (missGo t f k n m)
 |0,m,_,hc,_,_=>hc
 |n+1,m,h,hc,h1,h2=>by
  show ShM (if _ then _ else _);split
  ·have h3:=Q5D h.i (by omega) t f
   exact ShM.missGo t f k n _ (h.miss (by omega) t f) (ShM.shut (h.wrong t 4 f f).i (hc.wrong t 4 f f) (by show 2<=m.s.length;omega) (kind:=22) [] (.inl rfl)) (by omega) (by omega)
  ·exact hc
section
variable {m:Mk}{X:List UInt8}{B D:Nat}
theorem ShM.token(h:MkI m X B D)(hc:ShM m)(t:Txt)(b:List UInt8){kind:Int}(hk:kind≠21)(f u:Int)(wh:Bool):ShM (Q26 t b kind f u wh m):=by
 unfold Q26;simp only
 generalize qF:(if wh=false then QV t 1 f u m else if(kind=8\/kind=9\/kind=10)/\(QD t.r f u).right=false then QV t 2 f u m else m)=m1
 have h3:∃D',MkI m1 X B D':=by
  rw[<-qF];split
  ·exact⟨_,h.wrong t 1 f u⟩
  ·split
   ·exact⟨_,h.wrong t 2 f u⟩
   ·exact⟨_,h⟩
 have vX:ShM m1:=by
  rw[<-qF];split
  ·exact hc.wrong t _ _ _
  ·split
   ·exact hc.wrong t _ _ _
   ·exact hc
 obtain⟨D',h3⟩:=h3;split
 ·rename_i hs
  obtain⟨_,rfl,_⟩:=hs;unfold Q1G;split
  ·exact ShM.leaf (h3.wrong t 5 f u).i (vX.wrong t 5 f u) (kind:=8) (by decide) (QU t b f u)
  ·exact ShM.push h3.i vX (QU t b f u) _
 ·split
  ·rename_i hs
   obtain⟨_,rfl⟩:=hs;unfold Q2Y;have jM:=h3.i.s1;have jJ:=Q61 m1.s (Qs t f u) (m1.s.length-1);simp only
   split
   ·exact ShM.leaf (h3.wrong t 3 f u).i (vX.wrong t 3 f u) (kind:=10) (by decide) (QU t b f u)
   ·rename_i qB
    obtain⟨k,hk⟩:=exq (Q2g m1.s (Qs t f u) (m1.s.length-1));rw[<-hk]at qB jJ ⊢;obtain⟨h5,h6⟩:=MkI.missGo t f k m1.s.length m1 h3 (by omega) (by omega)
    have h7:=ShM.missGo t f k m1.s.length m1 h3 vX (by omega) (by omega)
    exact ShM.shut h5.i h7 (by omega) (kind:=10) (QU t b f u) (.inr rfl)
  ·exact ShM.leaf h3.i vX hk (QU t b f u)
end
theorem ShM.toks{b:List UInt8}(hb:b.length<=1000000):∀(n k:Nat)(m:Mk)(B D:Nat),(Qb b).r.length-k<=n->k<=(Qb b).r.length->MkI m (Q6y (Qb b) b k) B D->ShM m ->
  ShM ((Q1S (Qb b).r k).foldl (Q7k (Qb b) b) m)
 |0,k,m,B,D,h,hk,hi,hc=>by
  rw[Q1k (by omega)];exact hc
 |n+1,k,m,B,D,h,hk,hi,hc=>by
  have ok:=(Q3N b).1;have hr:(Qb b).r.length<=1000000:=Nat.le_trans (Q3N b).2.2.1 hb;by_cases jA:k<(Qb b).r.length
  ·obtain⟨h1,h2,h3,h4⟩:=Q9S (Qb b).r jA
   rw[Q1O jA,List.foldl_cons];have:=hi.token (Qb b) b hr (Q1m (Qb b).r k).kind (Q1m (Qb b).r k).from_ (Q1m (Qb b).r k).to (Q1m (Qb b).r k).whole
   rw[h1,h2,Q7B ok (by omega) (by omega) (by omega)]at this
   have jD:(Q1m (Qb b).r k).kind≠21:=by
    show(((Ql (Qb b).r k).1:Nat):Int)≠21
    have:=Qf9 (Qb b).r k
    omega
   have yn:=ShM.token hi hc (Qb b) b jD k ((Ql (Qb b).r k).2.1:Nat) (Q1m (Qb b).r k).whole;exact ShM.toks hb n (Ql (Qb b).r k).2.1 _ (B+3) (D+3) (by omega) h4 this yn
  ·rw[Q1k jA];exact hc
theorem QtO(b:List UInt8):ShM (Q3s b):=by
 have h0:ShM mk0:=⟨fun n h0 h1=>by have h1:n<(0:Int):=h1;omega,fun y hy=>by cases hy⟩
 unfold Q3s;split
 ·exact ShM.leaf mk0_inv.i h0 (by decide) _
 ·exact h0
theorem Qtn(b:List UInt8)(hb:b.length<=100000):∀n:Int,0<=n->n<(QL (Qu b)).n.length->ElS (QL (Qu b)).n n:=by
 have hs:=Q6r b hb;have hi:=Q6Y b;have h1:=QaO hs.ok hs.hr (Qb b).r.length 0 _ _ _ (by omega) (by omega) hi
 have c1:=ShM.toks (b:=b) (by omega) (Qb b).r.length 0 _ _ _ (by omega) (by omega) hi (QtO b)
 have h2:=h1.i.s1;have c2:=ShM.missGo (Qb b) (Qb b).r.length 0 _ _ h1 c1 (by omega) (Nat.le_succ _)
 have c2:ShM (Qu b):=c2;obtain⟨h3,h4⟩:=Qda hs.ok hs.hr hi;have h3:MkI (Qu b) b (3+3 * (Qb b).r.length) (2+3 * (Qb b).r.length):=h3;exact Qrz h3.i.ar.wf c2.el (QrI (by show(20:Int)≠21;decide))
section
open Tryz
def pvI(k:Int):Int:=k + -1
theorem QtN(l:List Node)(hw:∀n,0<=Q1c l n)(n f k:Int)(u:Cur)(ok:CurOk l u)(hk:0<=k/\k<=1000000) :
  BCall prog 62 [.agg ((Cur.kid n f k u).el (Q3 l))] [] (.tup [.agg (dE l u (pvI k)),.val (.bool (dOk l u (pvI k)))]) []:=by
 have cB:=Qsr l hw n f k (-1) u ok hk (by omega)
 unfold pvI;unfold dE at cB ⊢;simp only[Cur.el]at cB ⊢;show BCall _ _ [.agg [.opt (.ref [.slc 6 (Q3 l)]),.val (.int .i64 n),.val (.int .i64 f),.val (.int .i64 k),.opt (upO (Q3 l) (Cur.kid n f k u))]] _ _ _;have cB:BCall prog 116 [.agg [.opt (.ref [.slc 6 (Q3 l)]),.val (.int .i64 n),.val (.int .i64 f),.val (.int .i64 k),.opt (upO (Q3 l) (Cur.kid n f k u))],.val (.int .i64 (-1))] [] (.tup [.agg [.opt (pE l u (k + -1)),.val (.int .i64 (nE l u (k + -1))),.val (.int .i64 (fE l u (k + -1))),.val (.int .i64 (kE l u (k + -1))),.opt (uE l u (k + -1))],.val (.bool (dOk l u (k + -1)))]) []:=cB;obtain⟨U,hU⟩:=exq (upO (Q3 l) (Cur.kid n f k u));rw[<-hU]at cB ⊢;clear hU;refine fnN (Qus (pE l u (k + -1)) (nE l u (k + -1)) (fE l u (k + -1)) (kE l u (k + -1)) (uE l u (k + -1)) (dOk l u (k + -1))) func62 rfl fun _ _=>?_
 with_reducible refine cv7 (pE l u (k + -1)) (nE l u (k + -1)) (fE l u (k + -1)) (kE l u (k + -1)) (uE l u (k + -1)) (dOk l u (k + -1)) (Q3 l) ?_
 exact⟨cB,.pure rfl ⟨⟨.inl rfl,.inl rfl,.inl rfl,.inl rfl,.inl rfl,trivial⟩,.inl rfl,trivial⟩⟩
theorem Qsi(l:List Node)(c:Cur):BCall prog 64 [.agg (c.el (Q3 l))] [] (.val (.int .i64 c.n)) []:=by
 rw[Cur.el];obtain⟨cn,qK⟩:=exq c.n;obtain⟨cf,qe⟩:=exq c.f;obtain⟨ck,qW⟩:=exq c.k;rw[<-qK,<-qe,<-qW];refine fnN (cs0) func64 rfl fun _ _=>?_
 with_reducible refine cv2 (upO (Q3 l) c) (Q3 l) ?_
 exact .pure rfl (.inl rfl)
theorem QtB(a b:List Int)(ha:a.length<=1000000)(hb:b.length<=1000000):BCall prog 119 [.slc 1 (Q9 a),.slc 1 (Q9 b)] [] (.val (.bool (decide (a=b)))) []:=by
 obtain⟨n,hn⟩:=QE a;obtain⟨m,hm⟩:=QE b;have kK:std.len (Q9 a)=n:=by show((Q9 a).length:Int)=n;rw[Q2w,hn.eq]
 have gU:std.len (Q9 b)=m:=by show((Q9 b).length:Int)=m;rw[Q2w,hm.eq]
 have qA:0<=n/\n<=1000000:=by rw[hn.eq];omega
 have ju:n=m↔a.length=b.length:=by rw[hn.eq,hm.eq];omega
 have jX:∀i:Int,0<=i->i<n->std.nth (std.cel (std.at_ (Q9 a) i)) 0=.val (.int .i64 (a[i.toNat]?.getD 0)):=fun i h0 h1=>QdH h0 (by rw[<-hn.eq];exact h1)
 have hbt:∀i:Int,0<=i->i<m->std.nth (std.cel (std.at_ (Q9 b) i)) 0=.val (.int .i64 (b[i.toNat]?.getD 0)):=fun i h0 h1=>QdH h0 (by rw[<-hm.eq];exact h1)
 have jH:∀i:Int,0<=i->i<n->n=m->a.take i.toNat=b.take i.toNat->(a.take (i+1).toNat=b.take (i+1).toNat↔a[i.toNat]?.getD 0=b[i.toNat]?.getD 0):=fun i h0 h1 h2 h3=>by
  have e1:=hn.eq;have e2:=hm.eq;rw[show(i+1).toNat=i.toNat+1 by omega]
  exact Qsc (by omega) (by omega) h3
 have qp:n=m->a.take n.toNat=b.take n.toNat->a=b:=fun h h2=>by
  have e1:=hn.eq;have e2:=hm.eq;rwa [List.take_of_length_le (by omega),List.take_of_length_le (by omega)]at h2
 obtain⟨R,hR⟩:=exq (decide (a=b));rw[<-hR];have hT:a=b->R=true:=fun h=>by rw[hR,h];simp
 have hF:¬a=b->R=false:=fun h=>by rw[hR];exact decide_eq_false h
 clear hR ha hb;refine fnN (cs0) func119 rfl fun _ _=>?_
 with_reducible refine cv2 (Q9 a) (Q9 b) ?_
 refine⟨fun h=>?_,fun h=>?_⟩
 ·have h:(!(std.len (Q9 a) == std.len (Q9 b)))=true:=h
  rw[kK,gU]at h;rw[hF (fun e=>by have:=ju.2 (congrArg List.length e);simp[this]at h)]
  exact .pure rfl (.inl rfl)
 ·have h:(!(std.len (Q9 a) == std.len (Q9 b)))=false:=h
  rw[kK,gU]at h;have ju:n=m:=by simpa using h
  refine Q1h (cs0) (Int) (fun i=>⟨[(0,.slc 1 (Q9 a)),(1,.slc 1 (Q9 b)),(12,.val (.int .i64 n)),(13,.val (.int .i64 i))],[]⟩) (fun i=>0<=i/\i<=n/\a.take i.toNat=b.take i.toNat) (fun i=>(n-i).toNat) 0 ?_ ?_ ?_
  ·exact⟨le_refl 0,qA.1,by simp⟩
  ·refine⟨[],_,rfl,?_⟩
   exact eq1 kK
  ·rintro i ⟨jL,vA,hi⟩
   have jL:0<=i:=jL;have vA:i<=n:=vA;have hi:a.take i.toNat=b.take i.toNat:=hi;with_reducible refine cv2 (Q9 a) (Q9 b) ?_
   refine⟨fun h2=>?_,fun h2=>?_⟩
   ·have jK:i<n:=of_decide_eq_true h2
    have hx:=jX i jL jK;have hy:=hbt i jL (ju ▸ jK);have hs:=jH i jL jK ju hi;refine⟨⟨jL,by show i<std.len (Q9 a);rw[kK];exact jK⟩,⟨QmM hx,trivial⟩,⟨jL,by show i<std.len (Q9 b);rw[gU,<-ju];exact jK⟩,⟨QmM hy,trivial⟩,fun h3=>?_,fun h3=>?_⟩
    ·have h3:(!(std.int (std.nth (std.cel (std.at_ (Q9 a) i)) 0) == std.int (std.nth (std.cel (std.at_ (Q9 b) i)) 0)))=true:=h3
     rw[Ql3 hx,Ql3 hy]at h3;rw[hF (fun e=>by rw[e]at h3;simp at h3)]
     with_reducible refine cv2 (Q9 a) (Q9 b) ?_
     exact .pure rfl (.inl rfl)
    ·have h3:(!(std.int (std.nth (std.cel (std.at_ (Q9 a) i)) 0) == std.int (std.nth (std.cel (std.at_ (Q9 b) i)) 0)))=false:=h3
     rw[Ql3 hx,Ql3 hy]at h3;refine⟨?_,i+1,⟨by omega,by omega,hs.2 (by simpa using h3)⟩,by omega,[],_,rfl,?_⟩
     ·show std.inR .i64 (i+1)
      rw[Qhr];omega
     ·exact eq0
   ·have jK:i=n:=by
     have h2:¬i<n:=of_decide_eq_false h2;omega
    rw[jK]at hi;rw[hT (qp ju hi),if_pos trivial];with_reducible refine cv2 (Q9 a) (Q9 b) ?_
    exact .pure rfl (.inl rfl)
def Qr9:Cur->List Int
 |.root _=>[]
 |.kid _ _ k u=>k::Qr9 u
theorem Qrm:∀c,Qra c=(Qr9 c).reverse
 |.root _=>rfl
 |.kid _ _ k u=>by rw[Qra,Qr9,List.reverse_cons,Qrm u]
theorem Qrp:∀c,(Qr9 c).length<Q2U c
 |.root _=>Nat.one_pos
 |.kid _ _ k u=>by have:=Qrp u;show(Qr9 u).length+1<Q2U u+1;omega
def Qr7(l:List AV):List AV:=l.reverse
theorem Qr1(l:List Int):Qr7 (Q9 l)=Q9 l.reverse:=by rw[Qr7,Q9,Q9,List.map_reverse]
def Quy(rv:List AV->List AV):Nat->List AV->List Ob->Option (AV×List Ob):=fun f args ob=>match f,args with
 |63,[.row 0 0]=>(match ob with
  | [.row t 1 false 0 xs]=>some (.tup [],[.row t 1 false 0 (rv xs)])
  |_=>none)
 |_,_=>none
def QuH(N:List AV):Option Cur->AV
 |none=>.box 0 0
 |some y=>.opt (upO N y)
def Qub(c:Cur):Option Cur->Cur
 |none=>c
 |some y=>upC y
theorem Qtx(l:List Node)(c:Cur)(hc:Q2U c<=1000000):BCall prog 120 [.agg (c.el (Q3 l))] [] (.slc 1 (Q9 (Qra c))) []:=by
 have jE:=Qrp c;obtain⟨R,hR⟩:=exq (Qr9 c);rw[Qrm,<-hR];rw[<-hR]at jE;rw[Cur.el];obtain⟨cn,qK⟩:=exq c.n;obtain⟨cf,qe⟩:=exq c.f;obtain⟨ck,qW⟩:=exq c.k;rw[<-qK,<-qe,<-qW];refine fnN (Quy Qr7) func120 rfl fun _ _=>?_
 with_reducible refine cv3 Qr7 (upO (Q3 l) c) (Q3 l) ?_
 refine Q1h (Quy Qr7) (Option Cur×List Int) (fun x=>⟨[(1,.box 0 0),(3,.row 1 0),(4,QuH (Q3 l) x.1)],[.box [.opt (.ref [.slc 6 (Q3 l)]),.val (.int .i64 cn),.val (.int .i64 cf),.val (.int .i64 ck),.opt (upO (Q3 l) c)],.row 3 1 false 0 (Q9 x.2)]⟩) (fun x=>x.2++Qr9 (Qub c x.1)=R/\(∀y,x.1=some y->Q4g y=true)) (fun x=>Q2U (Qub c x.1)+(if x.1.isSome=true then 0 else 1)) (none,[]) ?_ ?_ ?_
 ·exact⟨by rw[hR];rfl,fun y h=>by cases h⟩
 ·refine⟨[some 0,none],_,rfl,?_⟩
  exact eq0
 ·rintro⟨o,xs⟩ ⟨hJ,hk⟩
  have jq:xs.length<=1000000:=by
   have:=congrArg List.length hJ
   rw[List.length_append]at this;simp only at this
   omega
  have cR:=Qs0 xs jq;rw[<-Qr1]at cR
  have xi:∀v:Int,std.bnd (Q9 xs) [.val (.int .i64 v)]:=fun v=>by
   show(Q9 xs).length+1<=1000000000
   rw[Q2w];omega
  have j5:∀v:Int,std.app (Q9 xs) [.val (.int .i64 v)]=Q9 (xs++[v]):=fun v=>(Q4T xs [v]).symm
  cases o with
  |none =>
   have hJ:xs++Qr9 c=R:=hJ;obtain⟨U,hU⟩:=exq (upO (Q3 l) c);rw[<-hU];show Tree.ok _ _ _ _ _ _ (Q4 std tys _ _ _ _ ⟨[(1,.box 0 0),(3,.row 1 0),(4,.box 0 0)],_⟩);with_reducible refine cv3 Qr7 (Q3 l) (Q9 xs) ?_
   refine⟨fun h=>⟨xi ck,(some c,xs++[ck]),⟨?_,fun y h9=>?_⟩,?_,[some 0,some 1],_,rfl,?_⟩,fun h=>?_⟩
   ·cases c with
    |root n=>rw[hU]at h;exact absurd (show(!Q9k (.val (.pointer none)))=true from h) (by decide)
    |kid n f k u =>
     show(xs++[ck])++Qr9 u=R
     rw[<-hJ,qW,List.append_assoc];rfl
   ·obtain rfl:c=y:=by simpa using h9
    cases c with
    |root n=>rw[hU]at h;exact absurd (show(!Q9k (.val (.pointer none)))=true from h) (by decide)
    |kid n f k u=>rfl
   ·cases c with
    |root n=>rw[hU]at h;exact absurd (show(!Q9k (.val (.pointer none)))=true from h) (by decide)
    |kid n f k u =>
     show Q2U u+0<Q2U u+1+1;omega
   ·subst hU
    have e:=j5 ck;exact eq1 e
   ·have jl:Qr9 c=[]:=by
     cases c with
     |root n=>rfl
     |kid n f k u=>rw[hU]at h;exact absurd (show true=false from h) Bool.noConfusion
    rw[jl,List.append_nil]at hJ;rw[if_pos trivial];with_reducible refine cv3 Qr7 (Q3 l) (Q9 xs) ?_
    refine⟨cR,.pure rfl (.inl ?_)⟩;rw[Qr1,hJ]
  |some y =>
   cases y with
   |root n=>exact absurd (hk _ rfl) Bool.false_ne_true
   |kid n f k u =>
    have hJ:xs++Qr9 u=R:=hJ;obtain⟨un,vo⟩:=exq u.n;obtain⟨uf,ko⟩:=exq u.f;obtain⟨uk,kO⟩:=exq u.k;have e:QuH (Q3 l) (some (.kid n f k u))=.opt (.ref [.ref [.slc 6 (Q3 l)],.val (.int .i64 un),.val (.int .i64 uf),.val (.int .i64 uk),.opt (upO (Q3 l) u)]):=by rw[vo,ko,kO];rfl
    simp only
    rw[e];obtain⟨V,hV⟩:=exq (upO (Q3 l) u);rw[<-hV];with_reducible refine cv4 Qr7 (upO (Q3 l) c) (Q3 l) (Q9 xs) ?_
    have hVp:Q56 V:=by rw[hV];exact QcJ _ _
    refine⟨⟨trivial,rfl⟩,⟨hVp,trivial⟩,fun h=>⟨⟨trivial,rfl⟩,⟨QmM rfl,trivial⟩,xi uk,⟨trivial,rfl⟩,⟨hVp,trivial⟩,(some u,xs++[uk]),⟨?_,fun y h9=>?_⟩,?_,[some 0,some 1],_,rfl,?_⟩,fun h=>?_⟩
    ·cases u with
     |root n=>rw[hV]at h;exact absurd (show false=true from h) Bool.noConfusion
     |kid n f k w =>
      show(xs++[uk])++Qr9 w=R
      rw[<-hJ,kO,List.append_assoc];rfl
    ·obtain rfl:u=y:=by simpa using h9
     cases u with
     |root n=>rw[hV]at h;exact absurd (show false=true from h) Bool.noConfusion
     |kid n f k w=>rfl
    ·cases u with
     |root n=>rw[hV]at h;exact absurd (show false=true from h) Bool.noConfusion
     |kid n f k w =>
      show Q2U w+0<Q2U w+1+0;omega
    ·subst hV
     have e:=j5 uk;exact eq1 e
    ·have jl:Qr9 u=[]:=by
      cases u with
      |root n=>rfl
      |kid n f k w=>rw[hV]at h;exact absurd (show true=false from h) Bool.noConfusion
     rw[jl,List.append_nil]at hJ;rw[if_pos trivial];with_reducible refine cv4 Qr7 (upO (Q3 l) c) (Q3 l) (Q9 xs) ?_
     refine⟨cR,.pure rfl (.inl ?_)⟩;rw[Qr1,hJ]
theorem QrK{l:List Node}{c c':Cur}{x:Int}(h:QqQ l c x=some c'):Q2U c'=Q2U c+1:=by
 obtain⟨k,_,_,rfl,_⟩:=Qrn h;rfl
theorem QrT{l:List Node}:∀(p:List Int)(c c':Cur),QqO l (some c) p=some c'->Q2U c'=Q2U c+p.length
 | [],c,c',h=>by
  obtain rfl:c=c':=by simpa[QqO]using h
  rfl
 |x::p,c,c',h=>by
  rw[QqO]at h;split at h
  ·cases h
  ·cases hs:QqQ l c x with
   |none=>rw[hs,QqU]at h;cases h
   |some d =>
    rw[hs]at h;rw[QrT p d c' h,QrK hs,List.length_cons];omega
theorem Qsa{l:List Node}{rt:Int}{p:List Int}{d:Cur}(h:QqO l (QqQ l (.root rt) 0) p=some d):Q2U d=p.length+2:=by
 cases hs:QqQ l (.root rt) 0 with
 |none=>rw[hs,QqU]at h;cases h
 |some c =>
  rw[hs]at h;rw[QrT p c d h,QrK hs];show 1+1+p.length=_;omega
def Qug(q:AV)(n f k:Int)(u:AV)(ok:Bool)(P D:List AV)(eq:List AV->List AV->Bool)(cn:Int):Nat->List AV->List Ob->Option (AV×List Ob):=fun g args _=>match g,args with
 |15,[.agg _,.slc 1 _]=>some (.tup [.agg [.opt q,.val (.int .i64 n),.val (.int .i64 f),.val (.int .i64 k),.opt u],.val (.bool ok)],[])
 |1000018,_=>some (.val (.int .i64 n),[])
 |1000020,_=>some (.val (.int .i64 cn),[])
 |1000025,_=>some (.slc 1 D,[])
 |1000027,_=>some (.slc 1 P,[])
 |119,[.slc 1 a,.slc 1 b]=>some (.val (.bool (eq a b)),[])
 |_,_=>none
def Qu5(D P:List Int)(_ _:List AV):Bool:=decide (D=P)
theorem QtX(t:Txt)(m:Mk)(l:List Node)(hl:(QL m).n=l)(b:List UInt8)(C:Nat)(ha:Ar l)(ho:∀x∈l,Q4Q x)(hb:b.length<=1000000)(hC:C<=1000000)(hc:CurB l b C (.root m.n.length))(c:Cur)(hh:Q2U c<=1000000)(p:List Int)(hp:p.length<=900000)(qO:∀x∈p,x<=9223372036854775807) :
  BCall prog 65 [Q8c t m,.agg (c.el (Q3 l)),.slc 1 (Q9 p)] [] (.val (.bool (Qrr l m.n.length c p))) []:=by
 have cE:=QsB t m l hl b C ha ho hb hC hc p (by omega) qO
 have jH:Qrr l m.n.length c p=(match QqO l (QqQ l (.root m.n.length) 0) p with|none=>false|some d=>d.n == c.n&&decide (Qra d=Qra c)):=rfl
 have yD:∀d,QqO l (QqQ l (.root m.n.length) 0) p=some d->Q2U d=p.length+2:=fun d h=>Qsa h
 obtain⟨E,hE⟩:=exq (QqO l (QqQ l (.root m.n.length) 0) p);rw[<-hE]at cE jH yD;rw[jH];have cN:=Qsi l c;have cP:=Qtx l c hh;clear jH hE;unfold Q8c at cE ⊢;rw[hl]at cE ⊢;rw[Cur.el]at cN cP ⊢;obtain⟨cn,qK⟩:=exq c.n;obtain⟨cf,qe⟩:=exq c.f;obtain⟨ck,qW⟩:=exq c.k;rw[<-qK,<-qe,<-qW]at cN cP ⊢;obtain⟨PL,ze⟩:=exq (Qra c);rw[<-ze]at cP ⊢
 have jv:PL.length<=1000000:=by
  rw[ze,Qrm,List.length_reverse];have:=Qrp c
  omega
 obtain⟨rt,vP⟩:=exq (m.n.length:Int);rw[<-vP]at cE ⊢;clear hl vP hc qK qe qW ze;cases E with
 |none =>
  simp only[oC]at cE;refine fnO false (Qug (oP (Q3 l) none) 0 0 0 (oU (Q3 l) none) false (Q9 PL) (Q9 PL) (Qu5 PL PL) cn) (fun id=>match id with|2=> .of [0,1,2,4,3,5,6,7,8,9,11,10,12,13,14,15]|_=>.nil) func65 rfl fun _ _=>?_
  with_reducible refine Qqc (oP (Q3 l) none) (oU (Q3 l) none) (Q9 PL) (Qu5 PL PL) (upO (Q3 l) c) (Q3 l) (Q0 t.r) (Q9 t.off) (Qk m.d) (Q9 p) ?_
  exact⟨cE,.pure rfl (.inl rfl)⟩
 |some d =>
  have cNd:=Qsi l d;have cPd:=Qtx l d (by rw[yD d rfl];omega)
  have kx:(Qra d).length<=1000000:=by
   rw[Qrm,List.length_reverse];have:=Qrp d
   have:=yD d rfl
   omega
  have cQ:=QtB (Qra d) PL kx jv;obtain⟨DL,hDL⟩:=exq (Qra d);rw[<-hDL]at cPd cQ;simp only[oC]at cE;have e:(match some d with|none=>false|some d=>d.n == cn&&decide (Qra d=PL))=(d.n == cn&&decide (DL=PL)):=by rw[hDL]
  rw[e];have cE:BCall _ _ _ _ (.tup [.agg [.opt (.ref [.slc 6 (Q3 l)]),.val (.int .i64 d.n),.val (.int .i64 d.f),.val (.int .i64 d.k),.opt (upO (Q3 l) d)],.val (.bool true)]) _:=cE;rw[Cur.el]at cNd cPd;obtain⟨dn,zx⟩:=exq d.n;obtain⟨df,pL⟩:=exq d.f;obtain⟨dk,hdk⟩:=exq d.k;rw[<-zx,<-pL,<-hdk]at cNd cPd cE;rw[<-zx];clear zx pL hdk hDL e yD;refine fnO false (Qug (.ref [.slc 6 (Q3 l)]) dn df dk (upO (Q3 l) d) true (Q9 PL) (Q9 DL) (Qu5 DL PL) cn) (fun id=>match id with|2=> .of [0,1,2,4,3,5,6,7,8,9,11,10,12,13,14,15]|_=>.nil) func65 rfl fun _ _=>?_
  with_reducible refine Qqc (upO (Q3 l) d) (Q9 PL) (Q9 DL) (Qu5 DL PL) (upO (Q3 l) c) (Q3 l) (Q0 t.r) (Q9 t.off) (Qk m.d) (Q9 p) ?_
  refine⟨cE,cNd,cN,fun h=>⟨cPd,cP,cQ,.pure rfl (.inl ?_)⟩,fun h=>.pure rfl (.inl ?_)⟩
  ·have h:(dn == cn)=true:=h
   rw[h];rfl
  ·have h:(dn == cn)=false:=h
   rw[h];rfl
def QrY(l:List Node)(b:List UInt8)(C:Nat):Cur->Prop
 |.root _=>True
 |.kid _ _ k u=>0<=k/\k<(Qg l u).length/\CurB l b C u/\QrY l b C u
def QsM(el:Int->Bool)(kd:Int->Int)(q:AV)(un uf uk:Int)(uu:AV)(ib:Bool)(p0:Int->AV)(n0 f0 k0:Int->Int)(u0:Int->AV)(ok:Int->Bool)(pv:Int->Int)(rv:List AV->List AV)(sb:Bool):Nat->List AV->List Ob->Option (AV×List Ob):=fun g args ob=>match g,args with
 |60,[.agg [_,.val (.int .i64 n),_,_,_]]=>some (.val (.bool (el n)),[])
 |61,[.agg _]=>some (.tup [.agg [.opt q,.val (.int .i64 un),.val (.int .i64 uf),.val (.int .i64 uk),.opt uu],.val (.bool ib)],[])
 |62,[.agg [_,_,_,.val (.int .i64 k),_]]=>some (.tup [.agg [.opt (p0 (pv k)),.val (.int .i64 (n0 (pv k))),.val (.int .i64 (f0 (pv k))),.val (.int .i64 (k0 (pv k))),.opt (u0 (pv k))],.val (.bool (ok (pv k)))],[])
 |55,[.agg [_,.val (.int .i64 n),_,_,_]]=>some (.val (.int .i64 (kd n)),[])
 |64,[.agg [_,.val (.int .i64 n),_,_,_]]=>some (.val (.int .i64 n),[])
 |63,[.row 0 0]=>(match ob with
  | [.row t 1 false 0 xs]=>some (.tup [],[.row t 1 false 0 (rv xs)])
  |_=>none)
 |65,_=>some (.val (.bool sb),[])
 |_,_=>none
def Quz:Nat->List AV->List Ob->Option (AV×List Ob):=fun g _ _=>match g with
 |60=>some (.val (.bool true),[])
 |_=>none
def QuA:Nat->List AV->List Ob->Option (AV×List Ob):=fun g _ _=>match g with
 |60=>some (.val (.bool false),[])
 |_=>none
def Qu3(R:Option (List Int×Int×Int))(rt:Int)(st:List Int->Bool):AV:=match R with
 |none=>.tup [.slc 1 (Q9 []),.val (.bool false)]
 |some (o,n,u)=>.tup [.slc 1 (Q9 o),.val (.bool (decide (n=0)&&(decide (u=rt)&&st o)))]
def QuD(l:List Node)(st:List Int->Bool)(x:Cur×List Int):Nat->List AV->List Ob->Option (AV×List Ob) :=
 QsM (QqN l) (Q1f l) (pA (Q3 l) (Q4g x.1)) (nI (Q4g x.1) (upC x.1)) (fI (Q4g x.1) (upC x.1)) (kI (Q4g x.1) (upC x.1)) (uA (Q3 l) (Q4g x.1) (upC x.1)) (Q4g x.1)
  (pE l (upC x.1)) (nE l (upC x.1)) (fE l (upC x.1)) (kE l (upC x.1)) (uE l (upC x.1)) (dOk l (upC x.1)) pvI Qr7 (st x.2.reverse)
theorem QuJ(t:Txt)(m:Mk)(l:List Node)(hl:(QL m).n=l)(b:List UInt8)(C:Nat)(ha:Ar l)(hb:b.length<=1000000)(hC:C<=1000000)(c:Cur)(hu:QrY l b C c)(hh:Q2U c<=900000)(st:List Int->Bool)
  (jH:∀p:List Int,p.length<=900000->(∀x∈p,0<=x/\x<=1000000)->BCall prog 65 [Q8c t m,.agg (c.el (Q3 l)),.slc 1 (Q9 p)] [] (.val (.bool (st p))) []) (he:QqN l c.n=true) :
  BCall prog 25 [Q8c t m,.agg (c.el (Q3 l))] [] (Qu3 (QrD l c []) m.n.length st) []:=by
 have cL:=Qrj l c;rw[he]at cL;obtain⟨R,hR⟩:=exq (QrD l c []);rw[<-hR];obtain⟨rt,vP⟩:=exq (m.n.length:Int);unfold Q8c at jH ⊢;rw[hl]at jH ⊢;rw[<-vP]at jH ⊢;rw[Cur.el]at cL jH ⊢;obtain⟨cn,qK⟩:=exq c.n;obtain⟨cf,qe⟩:=exq c.f;obtain⟨ck,qW⟩:=exq c.k;rw[<-qK,<-qe,<-qW]at cL jH ⊢;have jW:QqN l cn=true:=by rw[qK];exact he
 refine fnO false (Quz) (fun id=>match id with|18=> .of [0,1,2,3,4,6,7,5,8,9,10,11,12,13,14,15,16,17]|_=>.nil) func25 rfl fun _ _=>?_
 with_reducible refine cv7 (upO (Q3 l) c) (Q3 l) (Q0 t.r) (Q9 t.off) (Qk m.d) t.kind t.bom ?_
 refine⟨cL,fun h=>absurd (show false=true from h) Bool.noConfusion,fun _=>?_⟩
 refine Q46 (cs:=QuD l st) (ord:=fun id=>match id with|18=> .of [0,1,2,3,4,6,7,5,8,9,10,11,12,13,14,15,16,17]|_=>.nil) Q6k (by kernel_rfl) (by kernel_rfl) (by kernel_rfl) (X:=Cur×List Int) (fun x=>⟨[(2,.box 0 0),(3,.box 1 0),(6,.row 2 0),(7,.box 3 0)],[.box [.val (.int .i64 t.kind),.val (.int .i64 t.bom),.slc 1 (Q0 t.r),.slc 1 (Q9 t.off),.ref [.slc 6 (Q3 l)],.val (.int .i64 rt),.slc 3 (Qk m.d)],.box [.opt (.ref [.slc 6 (Q3 l)]),.val (.int .i64 cn),.val (.int .i64 cf),.val (.int .i64 ck),.opt (upO (Q3 l) c)],.row 3 1 false 0 (Q9 x.2),.box [.opt (.ref [.slc 6 (Q3 l)]),.val (.int .i64 x.1.n),.val (.int .i64 x.1.f),.val (.int .i64 x.1.k),.opt (upO (Q3 l) x.1)]]⟩) (fun x=>QrD l x.1 x.2=R/\QrY l b C x.1/\x.2.length+Q2U x.1<=900000/\∀y∈x.2,0<=y/\y<=1000000) (fun x=>Q2U x.1) (c,[]) ?_ ?_ ?_
 ·exact⟨hR.symm,hu,by simpa using hh,fun y h=>by cases h⟩
 ·refine⟨[some 0,some 1,none,some 2],_,rfl,?_⟩
  subst qK qe qW;exact eq0
 ·rintro⟨x,out⟩ ⟨hJ,hux,yt,qO⟩
  have hJ:QrD l x out=R:=hJ;have hux:QrY l b C x:=hux;have yt:out.length+Q2U x<=900000:=yt;have qO:∀y∈out,0<=y/\y<=1000000:=qO;have cU:=Qq7 l x;cases x with
  |root n =>
   show Tree.ok _ _ _ _ _ _ (Q4 std tys (QsM (QqN l) (Q1f l) (.val (.pointer none)) 0 0 0 (.val (.pointer none)) false (pE l (.root n)) (nE l (.root n)) (fE l (.root n)) (kE l (.root n)) (uE l (.root n)) (dOk l (.root n)) pvI Qr7 (st out.reverse)) _ _ _ ⟨[(2,.box 0 0),(3,.box 1 0),(6,.row 2 0),(7,.box 3 0)],[_,_,_,.box [.opt (.ref [.slc 6 (Q3 l)]),.val (.int .i64 n),.val (.int .i64 0),.val (.int .i64 0),.opt (.val (.pointer none))]]⟩);generalize jW:QqN l=el;generalize jD:Q1f l=kd;generalize p6:pE l (.root n)=p0;generalize jt:nE l (.root n)=n0;generalize qh:fE l (.root n)=f0;generalize qB:kE l (.root n)=k0;generalize xP:uE l (.root n)=u0;generalize jC:dOk l (.root n)=ok;generalize ka:pvI=pv;with_reducible refine Qqc Qr7 (st out.reverse) (upO (Q3 l) c) (Q3 l) (Q0 t.r) (Q9 t.off) (Qk m.d) t.kind t.bom (Q9 out) ?_
   subst jW jD p6 jt qh qB xP jC ka;refine⟨cU,fun _=>?_,fun h=>absurd (show true=false from h) Bool.noConfusion⟩
   with_reducible refine cv8 (upO (Q3 l) c) (Q3 l) (Q0 t.r) (Q9 t.off) (Qk m.d) t.kind t.bom (Q9 out) ?_
   rw[<-hJ];exact .pure rfl ⟨.inr (.inl ⟨rfl,_,rfl⟩),.inl rfl,trivial⟩
  |kid n f k u =>
   obtain⟨qB,jU,hcu,huu⟩:=hux;have jC:=hcu.1.ok ha (by omega) hC
   obtain⟨z,hz⟩:=QE (Qg l u);have hz9:z<=1000000:=by rw[hz.eq];have:=jC.n;omega
   have hkz:k<z:=by rw[hz.eq];exact jU
   have cP:=QtN l ha.ok.w n f k u jC ⟨qB,by omega⟩
   have cR:=Qs0 out (by omega)
   rw[<-Qr1]at cR;have cS:=jH out.reverse (by rw[List.length_reverse];omega) (fun y hy=>qO y (List.mem_reverse.1 hy))
   have cK:=Qrc l u;have cN:=Qsi l u;have jK:∀j:Int,0<=j->j<z->dOk l u j=true:=fun j h0 h1=>decide_eq_true ⟨h0,by rw[<-hz.eq];exact h1⟩
   have g7:∀j:Int,¬0<=j->dOk l u j=false:=fun j h1=>decide_eq_false fun h=>h1 h.1
   have jW:∀j:Int,0<=j->j<z->BCall prog 60 [.agg (dE l u j)] [] (.val (.bool (QqN l (nE l u j)))) []:=fun j h0 h1=>by
    rw[Qrx (jK j h0 h1),nE,if_pos (jK j h0 h1)];exact Qrj l _
   have kp:∀j:Int,0<=j->j<z->BCall prog 62 [.agg (dE l u j)] [] (.tup [.agg (dE l u (pvI (kE l u j))),.val (.bool (dOk l u (pvI (kE l u j))))]) []:=fun j h0 h1=>by
    rw[Qrx (jK j h0 h1),kE,if_pos (jK j h0 h1)];exact QtN l ha.ok.w _ _ j u jC ⟨h0,by omega⟩
   have ki:∀j:Int,0<=j->j<z->kE l u j=j:=fun j h0 h1=>by rw[kE,if_pos (jK j h0 h1)]
   obtain⟨ce,vh⟩:=exq (fun j=>Qr5 l ((Qg l u).take j.toNat):Int->Int)
   have hce0:ce 0=0:=by rw[vh];rfl
   have nZ:∀j,0<=ce j/\ce j<=1000000:=fun j=>by
    have h1:=QrM l ((Qg l u).take j.toNat);rw[List.length_take]at h1;have:=hz.eq
    rw[vh];show 0<=Qr5 l ((Qg l u).take j.toNat)/\Qr5 l ((Qg l u).take j.toNat)<=1000000;omega
   have hces:∀j:Int,0<=j->j<z->ce (j+1)=ce j+(if QqN l (nE l u j)=true then 1 else 0):=fun j h0 h1=>by
    have zP:j.toNat<(Qg l u).length:=by have:=hz.eq;omega
    have e:nE l u j=(Qg l u)[j.toNat]:=by
     rw[nE,if_pos (jK j h0 h1)];show(Qg l u)[j.toNat]?.getD 0=_
     rw[List.getElem?_eq_getElem zP];rfl
    rw[vh,e];show Qr5 l ((Qg l u).take (j+1).toNat)=_;rw[show(j+1).toNat=j.toNat+1 by omega,List.take_add_one,List.getElem?_eq_getElem zP,Qsp]
    show _+((if QqN l (Qg l u)[j.toNat]=true then 1 else 0)+0)=_;rw[Int.add_zero]
   have j9:(if Q1f l u.n=21 then QrD l u (out++[ce k])else some (out.reverse,ce k,u.n))=R:=by rw[vh];exact hJ
   have hhu:Q2U u+1+out.length<=900000:=by
    have:Q2U (.kid n f k u)=Q2U u+1:=rfl
    omega
   have hkx:=ki k qB hkz;clear hJ vh yt cU;show Tree.ok _ _ _ _ _ _ (Q4 std tys (QsM (QqN l) (Q1f l) (.ref [.slc 6 (Q3 l)]) u.n u.f u.k (upO (Q3 l) u) true (pE l u) (nE l u) (fE l u) (kE l u) (uE l u) (dOk l u) pvI Qr7 (st out.reverse)) _ _ _ ⟨[(2,.box 0 0),(3,.box 1 0),(6,.row 2 0),(7,.box 3 0)],[_,_,_,.box [.opt (.ref [.slc 6 (Q3 l)]),.val (.int .i64 n),.val (.int .i64 f),.val (.int .i64 k),.opt (upO (Q3 l) (.kid n f k u))]]⟩);have cU:=Qoy l n f k u;simp only[Cur.el,dE]at cU cP jW kp cK cN;obtain⟨un,vo⟩:=exq u.n;obtain⟨uf,ko⟩:=exq u.f;obtain⟨uk,kO⟩:=exq u.k;rw[<-vo,<-ko,<-kO]at cU cK cN ⊢;rw[<-vo]at j9;obtain⟨X,hX⟩:=exq (upO (Q3 l) (.kid n f k u));rw[<-hX]at cU cP ⊢;generalize qU:st out.reverse=sb;generalize hU:upO (Q3 l) c=U;generalize zZ:t.kind=TK;generalize gh:t.bom=TM;generalize gi:Q0 t.r=RR;generalize hO:Q9 t.off=O;generalize vT:Qk m.d=D';generalize zY:Q9 out=XS;generalize hV:upO (Q3 l) u=V;generalize jW:QqN l=el;with_reducible refine Qqc (Q1f l) (pE l u) (nE l u) (fE l u) (kE l u) (uE l u) (dOk l u) pvI Qr7 (Q3 l) ?_
   subst qU hU zZ gh gi hO vT zY hV jW;refine⟨cU,fun h=>absurd (show false=true from h) Bool.noConfusion,fun _=>⟨cP,?_⟩⟩
   refine Quc (QsM (QqN l) (Q1f l) (.ref [.slc 6 (Q3 l)]) un uf uk (upO (Q3 l) u) true (pE l u) (nE l u) (fE l u) (kE l u) (uE l u) (dOk l u) pvI Qr7 (st out.reverse)) (fun id=>match id with|18=> .of [0,1,2,3,4,6,7,5,8,9,10,11,12,13,14,15,16,17]|_=>.nil) (Int×Int) (fun y=>⟨[(2,.box 0 0),(3,.box 1 0),(6,.row 2 0),(7,.box 3 0),(8,.box 4 0),(10,.val (.int .i64 y.2)),(11,.box 5 0),(12,.val (.bool (dOk l u y.1)))],[.box [.val (.int .i64 t.kind),.val (.int .i64 t.bom),.slc 1 (Q0 t.r),.slc 1 (Q9 t.off),.ref [.slc 6 (Q3 l)],.val (.int .i64 rt),.slc 3 (Qk m.d)],.box [.opt (.ref [.slc 6 (Q3 l)]),.val (.int .i64 cn),.val (.int .i64 cf),.val (.int .i64 ck),.opt (upO (Q3 l) c)],.row 3 1 false 0 (Q9 out),.box [.opt (.ref [.slc 6 (Q3 l)]),.val (.int .i64 n),.val (.int .i64 f),.val (.int .i64 k),.opt X],.box [.opt (.ref [.slc 6 (Q3 l)]),.val (.int .i64 un),.val (.int .i64 uf),.val (.int .i64 uk),.opt (upO (Q3 l) u)],.box [.opt (pE l u y.1),.val (.int .i64 (nE l u y.1)),.val (.int .i64 (fE l u y.1)),.val (.int .i64 (kE l u y.1)),.opt (uE l u y.1)]]⟩) (fun y=>-1<=y.1/\y.1<z/\0<=y.2/\y.2+ce (y.1+1)=ce k) (fun y=>(y.1+1).toNat) (pvI k,0) ?_ ?_ ?_
   ·refine⟨?_,?_,le_refl 0,?_⟩
    ·show -1<=k + -1;omega
    ·show k + -1<z;omega
    ·show 0+ce (k + -1+1)=ce k
     rw[show k + -1+1=k by omega];omega
   ·refine⟨[some 0,some 1,some 2,some 3,some 4,some 5],_,rfl,?_⟩
    exact eq0
   ·rintro⟨j,e⟩ ⟨zR,vq,he0,p4⟩
    have zR:-1<=j:=zR;have vq:j<z:=vq;have he0:0<=e:=he0;have p4:e+ce (j+1)=ce k:=p4;have hTk:=nZ k;have hTj:=nZ (j+1);generalize qU:st out.reverse=sb;generalize hU:upO (Q3 l) c=U;generalize zZ:t.kind=TK;generalize gh:t.bom=TM;generalize gi:Q0 t.r=RR;generalize hO:Q9 t.off=O;generalize vT:Qk m.d=D';generalize zY:Q9 out=XS;generalize hV:upO (Q3 l) u=V;generalize jW:QqN l=el;with_reducible refine Qqc (Q1f l) (pE l u) (nE l u) (fE l u) (kE l u) (uE l u) (dOk l u) pvI Qr7 (Q3 l) ?_
    subst qU hU zZ gh gi hO vT zY hV jW;refine⟨fun h=>?_,fun h=>?_⟩
    ·have hjp:0<=j:=by
      by_cases h9:0<=j
      ·exact h9
      ·rw[g7 j h9]at h;exact absurd h Bool.false_ne_true
     have vr:=ki j hjp vq;have cx:=kp j hjp vq;have cl:=jW j hjp vq;have hs:=hces j hjp vq;rw[vr]at cx cl;rw[vr];have ka:pvI j+1=j:=by show j + -1+1=j;omega
     refine⟨cl,fun h2=>⟨?_,cx,(pvI j,e+1),⟨by show -1<=j + -1;omega,by show j + -1<z;omega,by show 0<=e+1;omega,?_⟩,by show(pvI j+1).toNat<(j+1).toNat;rw[ka];omega,[some 0,some 1,some 2,some 3,some 4,some 6],_,rfl,?_⟩,fun h2=>⟨cx,(pvI j,e),⟨by show -1<=j + -1;omega,by show j + -1<z;omega,he0,?_⟩,by show(pvI j+1).toNat<(j+1).toNat;rw[ka];omega,[some 0,some 1,some 2,some 3,some 4,some 6],_,rfl,?_⟩⟩
     ·show std.inR .i64 (e+1)
      rw[Qhr];omega
     ·show e+1+ce (pvI j+1)=ce k
      rw[ka];rw[if_pos h2]at hs;omega
     ·exact eq0
     ·show e+ce (pvI j+1)=ce k
      rw[ka];have h2:QqN l (nE l u j)=false:=h2;rw[if_neg (by rw[h2];exact Bool.false_ne_true)]at hs
      omega
     ·exact eq0
    ·have hjm:j=-1:=by
      by_cases h9:0<=j
      ·rw[jK j h9 vq]at h;exact absurd h.symm Bool.false_ne_true
      ·omega
     have p4:e=ce k:=by
      rw[hjm]at p4;have e2:ce (-1+1)=0:=hce0;omega
     rw[if_pos trivial];generalize qU:st out.reverse=sb;generalize hU:upO (Q3 l) c=U;generalize zZ:t.kind=TK;generalize gh:t.bom=TM;generalize gi:Q0 t.r=RR;generalize hO:Q9 t.off=O;generalize vT:Qk m.d=D';generalize zY:Q9 out=XS;generalize hV:upO (Q3 l) u=V;generalize jW:QqN l=el;with_reducible refine Qqc (Q1f l) (pE l u) (nE l u) (fE l u) (kE l u) (uE l u) (dOk l u) pvI Qr7 (Q3 l) ?_
     subst qU hU zZ gh gi hO vT zY hV jW;rw[<-Qr1]at cS;refine⟨cK,fun h1=>?_,fun h1=>?_⟩
     ·have h1:(!(Q1f l un == 21))=true:=h1
      have jh:Q1f l un≠21:=by simpa using h1
      rw[if_neg jh,<-p4]at j9;have hR1:Qu3 R rt st=.tup [.slc 1 (Qr7 (Q9 out)),.val (.bool (decide (e=0)&&(decide (un=rt)&&st out.reverse)))]:=by rw[<-j9,Qu3,Qr1]
      rw[hR1];refine⟨cR,fun h2=>⟨cN,fun h3=>⟨cS,?_⟩,fun h3=>?_⟩,fun h2=>?_⟩
      ·have h2:(e == 0)=true:=h2
       have h3:(un == rt)=true:=h3;generalize qU:st out.reverse=sb;generalize hU:upO (Q3 l) c=U;generalize zZ:t.kind=TK;generalize gh:t.bom=TM;generalize gi:Q0 t.r=RR;generalize hO:Q9 t.off=O;generalize vT:Qk m.d=D';generalize zY:Q9 out=XS;generalize hV:upO (Q3 l) u=V;generalize jW:QqN l=el;with_reducible refine Qqc (Q1f l) (pE l u) (nE l u) (fE l u) (kE l u) (uE l u) (dOk l u) pvI Qr7 (Q3 l) ?_
       subst qU hU zZ gh gi hO vT zY hV jW;refine .pure rfl ⟨.inl rfl,.inl ?_,trivial⟩;rw[decide_eq_true (eq_of_beq h2),decide_eq_true (eq_of_beq h3)];rfl
      ·have h2:(e == 0)=true:=h2
       have h3:(un == rt)=false:=h3;generalize qU:st out.reverse=sb;generalize hU:upO (Q3 l) c=U;generalize zZ:t.kind=TK;generalize gh:t.bom=TM;generalize gi:Q0 t.r=RR;generalize hO:Q9 t.off=O;generalize vT:Qk m.d=D';generalize zY:Q9 out=XS;generalize hV:upO (Q3 l) u=V;generalize jW:QqN l=el;with_reducible refine Qqc (Q1f l) (pE l u) (nE l u) (fE l u) (kE l u) (uE l u) (dOk l u) pvI Qr7 (Q3 l) ?_
       subst qU hU zZ gh gi hO vT zY hV jW;refine .pure rfl ⟨.inl rfl,.inl ?_,trivial⟩;rw[decide_eq_false (fun h=>by rw[h]at h3;simp at h3:¬un=rt)];simp
      ·have h2:(e == 0)=false:=h2
       generalize qU:st out.reverse=sb;generalize hU:upO (Q3 l) c=U;generalize zZ:t.kind=TK;generalize gh:t.bom=TM;generalize gi:Q0 t.r=RR;generalize hO:Q9 t.off=O;generalize vT:Qk m.d=D';generalize zY:Q9 out=XS;generalize hV:upO (Q3 l) u=V;generalize jW:QqN l=el;with_reducible refine Qqc (Q1f l) (pE l u) (nE l u) (fE l u) (kE l u) (uE l u) (dOk l u) pvI Qr7 (Q3 l) ?_
       subst qU hU zZ gh gi hO vT zY hV jW;refine .pure rfl ⟨.inl rfl,.inl ?_,trivial⟩;rw[decide_eq_false (fun h=>by rw[h]at h2;simp at h2:¬e=0)];rfl
     ·have h1:(!(Q1f l un == 21))=false:=h1
      have jh:Q1f l un=21:=by simpa using h1
      rw[if_pos jh,<-p4]at j9
      have xi:std.bnd (Q9 out) [.val (.int .i64 e)]:=by
       show(Q9 out).length+1<=1000000000
       rw[Q2w];omega
      refine⟨xi,(u,out++[e]),⟨j9,huu,?_,fun y hy=>?_⟩,Nat.lt_succ_self _,[some 0,some 1,some 2,some 7],_,rfl,?_⟩
      ·show(out++[e]).length+Q2U u<=900000
       rw[List.length_append,List.length_singleton];omega
      ·rcases List.mem_append.1 hy with hy|hy
       ·exact qO y hy
       ·obtain rfl:=List.mem_singleton.1 hy
        omega
      ·have e9:std.app (Q9 out) [.val (.int .i64 e)]=Q9 (out++[e]):=(Q4T out [e]).symm
       subst vo ko kO;exact eq1 e9
theorem Qu0(t:Txt)(m:Mk)(l:List Node)(hl:(QL m).n=l)(c:Cur)(he:QqN l c.n=false) :
  BCall prog 25 [Q8c t m,.agg (c.el (Q3 l))] [] (.tup [.slc 1 (Q9 []),.val (.bool false)]) []:=by
 have cL:=Qrj l c;rw[he]at cL;obtain⟨rt,vP⟩:=exq (m.n.length:Int);unfold Q8c;rw[hl,<-vP];rw[Cur.el]at cL ⊢;obtain⟨cn,qK⟩:=exq c.n;obtain⟨cf,qe⟩:=exq c.f;obtain⟨ck,qW⟩:=exq c.k;rw[<-qK,<-qe,<-qW]at cL ⊢;clear he hl vP;refine fnO false (QuA) (fun id=>match id with|18=> .of [0,1,2,3,4,6,7,5,8,9,10,11,12,13,14,15,16,17]|_=>.nil) func25 rfl fun _ _=>?_
 with_reducible refine cv7 (upO (Q3 l) c) (Q3 l) (Q0 t.r) (Q9 t.off) (Qk m.d) t.kind t.bom ?_
 exact⟨cL,fun _=>.pure rfl ⟨.inr (.inl ⟨rfl,_,rfl⟩),.inl rfl,trivial⟩,fun h=>absurd (show true=false from h) Bool.noConfusion⟩
theorem QuM(t:Txt)(m:Mk)(l:List Node)(hl:(QL m).n=l)(b:List UInt8)(C:Nat)(ha:Ar l)(ho:∀x∈l,Q4Q x)(hb:b.length<=1000000)(hC:C<=1000000)(hc:CurB l b C (.root m.n.length))(c:Cur)(hu:QrY l b C c)(hh:Q2U c<=900000) :
  BCall prog 25 [Q8c t m,.agg (c.el (Q3 l))] [] (.tup [.slc 1 (Q9 (ofO l m.n.length c).1),.val (.bool (ofO l m.n.length c).2)]) []:=by
 cases he:QqN l c.n with
 |false =>
  have e:ofO l m.n.length c=([],false):=by rw[ofO,if_neg (by rw[he];exact Bool.false_ne_true)]
  rw[e];exact Qu0 t m l hl c he
 |true =>
  have h:=QuJ t m l hl b C ha hb hC c hu hh (Qrr l m.n.length c) (fun p hp hx=>QtX t m l hl b C ha ho hb hC hc c (by omega) p hp (fun x h=>by have:=hx x h;omega)) he
  have e:Qu3 (QrD l c []) m.n.length (Qrr l m.n.length c)=.tup [.slc 1 (Q9 (ofO l m.n.length c).1),.val (.bool (ofO l m.n.length c).2)]:=by
   rw[ofO,if_pos he];cases QrD l c []with
   |none=>rfl
   |some x=>rfl
  rw[<-e];exact h
def Qst(kd:Int->Int)(se:Int->Int->Int)(p0:Int->AV)(n0 f0 k0:Int->Int)(u0:Int->AV)(ok:Int->Bool)(nx:Int->Int):Nat->List AV->List Ob->Option (AV×List Ob):=fun g args _=>match g,args with
 |55,[.agg [_,.val (.int .i64 n),_,_,_]]=>some (.val (.int .i64 (kd n)),[])
 |23,[.agg [_,.val (.int .i64 n),.val (.int .i64 f),_,_]]=>some (.agg [.val (.int .i64 f),.val (.int .i64 (se n f))],[])
 |56,[.agg _,.val (.int .i64 k)]=>some (.tup [.agg [.opt (p0 k),.val (.int .i64 (n0 k)),.val (.int .i64 (f0 k)),.val (.int .i64 (k0 k)),.opt (u0 k)],.val (.bool (ok k))],[])
 |57,[.agg [_,_,_,.val (.int .i64 k),_]]=>some (.tup [.agg [.opt (p0 (nx k)),.val (.int .i64 (n0 (nx k))),.val (.int .i64 (f0 (nx k))),.val (.int .i64 (k0 (nx k))),.opt (u0 (nx k))],.val (.bool (ok (nx k)))],[])
 |_,_=>none
def Qrf(l:List Node)(n f:Int):Int:=f+Q1c l n
theorem QuB(l:List Node)(c:Cur)(hk:Q1f l c.n=9):BCall prog 21 [.agg (c.el (Q3 l))] [] (.tup [.agg (c.el (Q3 l)),.val (.bool true)]) []:=by
 have cK:=Qrc l c;obtain⟨cn,qK⟩:=exq c.n;obtain⟨cf,qe⟩:=exq c.f;obtain⟨ck,qW⟩:=exq c.k;simp only[Cur.el]at cK ⊢;rw[<-qK,<-qe,<-qW]at cK ⊢;rw[<-qK]at hk;refine fnN (Qst (Q1f l) (Qrf l) (pE l c) (nE l c) (fE l c) (kE l c) (uE l c) (dOk l c) nxt) func21 rfl fun _ _=>?_
 generalize hU:upO (Q3 l) c=U;with_reducible refine Qqc (Q1f l) (Qrf l) (pE l c) (nE l c) (fE l c) (kE l c) (uE l c) (dOk l c) nxt (Q3 l) ?_
 subst hU;refine⟨cK,fun h=>?_,fun h=>?_⟩
 ·exact .pure rfl ⟨⟨.inl rfl,.inl rfl,.inl rfl,.inl rfl,.inl rfl,trivial⟩,.inl rfl,trivial⟩
 ·have h:(Q1f l cn == 9)=false:=h
  rw[hk]at h;exact absurd h (by decide)
theorem QuI(l:List Node)(b:List UInt8)(C:Nat)(ha:Ar l)(hb:b.length<=1000000)(hC:C<=1000000)(c:Cur)(hc:CurB l b C c)(hk:Q1f l c.n=21):BCall prog 21 [.agg (c.el (Q3 l))] [] (.tup [.agg (dE l c 0),.val (.bool (dOk l c 0))]) []:=by
 have cK:=Qrc l c;have cD:=Qsl l c 0 ha.ok.w (hc.1.ok ha (by omega) hC)
 obtain⟨cn,qK⟩:=exq c.n;obtain⟨cf,qe⟩:=exq c.f;obtain⟨ck,qW⟩:=exq c.k;simp only[Cur.el,dE]at cK cD ⊢;rw[<-qK,<-qe,<-qW]at cK cD ⊢;rw[<-qK]at hk;refine fnN (Qst (Q1f l) (Qrf l) (pE l c) (nE l c) (fE l c) (kE l c) (uE l c) (dOk l c) nxt) func21 rfl fun _ _=>?_
 generalize hU:upO (Q3 l) c=U;with_reducible refine Qqc (Q1f l) (Qrf l) (pE l c) (nE l c) (fE l c) (kE l c) (uE l c) (dOk l c) nxt (Q3 l) ?_
 subst hU;refine⟨cK,fun h=>?_,fun h=>⟨fun h2=>⟨cD,?_⟩,fun h2=>?_⟩⟩
 ·have h:(Q1f l cn == 9)=true:=h
  rw[hk]at h;exact absurd h (by decide)
 ·exact .pure rfl ⟨⟨.inl rfl,.inl rfl,.inl rfl,.inl rfl,.inl rfl,trivial⟩,.inl rfl,trivial⟩
 ·have h2:(Q1f l cn == 21)=false:=h2
  rw[hk]at h2;exact absurd h2 (by decide)
theorem QtH(l:List Node)(c:Cur)(hk:Q1f l c.n≠21):BCall prog 22 [.agg (c.el (Q3 l))] [] (.tup [.agg [.val (.int .i64 0),.val (.int .i64 0)],.val (.bool false)]) []:=by
 have cK:=Qrc l c;obtain⟨cn,qK⟩:=exq c.n;obtain⟨cf,qe⟩:=exq c.f;obtain⟨ck,qW⟩:=exq c.k;simp only[Cur.el]at cK ⊢;rw[<-qK,<-qe,<-qW]at cK ⊢;rw[<-qK]at hk;have cD:¬(!(Q1f l cn == 21))=false:=by simpa using hk
 refine fnO false (Qst (Q1f l) (Qrf l) (pE l c) (nE l c) (fE l c) (kE l c) (uE l c) (dOk l c) nxt) (fun id=>match id with|11=>.of [0,3,7,1,2,4,5,6,8,9]|_=>.nil) func22 rfl fun _ _=>?_
 generalize hU:upO (Q3 l) c=U;with_reducible refine Qqc (Q1f l) (Qrf l) (pE l c) (nE l c) (fE l c) (kE l c) (uE l c) (dOk l c) nxt (Q3 l) ?_
 subst hU;refine⟨cK,fun h=>?_,fun h=>absurd h cD⟩
 exact .pure rfl ⟨⟨.inl rfl,.inl rfl,trivial⟩,.inl rfl,trivial⟩
theorem QtA(l:List Node)(b:List UInt8)(C:Nat)(ha:Ar l)(ho:∀x∈l,Q4Q x)(hb:b.length<=1000000)(hC:C<=1000000)(c:Cur)(hc:CurB l b C c)(hk:Q1f l c.n=21)(hz:0<(Qg l c).length) :
  BCall prog 22 [.agg (c.el (Q3 l))] [] (.tup [.agg [.val (.int .i64 (Qrf l (Q34 l c 0).n (Q34 l c 0).f)),.val (.int .i64 (Q34 l c ((Qg l c).length-1)).f)],.val (.bool true)]) []:=by
 have jC:=hc.1.ok ha (by omega) hC
 have cK:=Qrc l c;have cD:=Qsl l c 0 ha.ok.w jC;obtain⟨z,pB⟩:=QE (Qg l c);have hz9:z<=1000000:=by rw[pB.eq];have:=jC.n;omega
 have je:0<z:=by rw[pB.eq];omega
 have jK:∀k:Int,0<=k->k<z->dOk l c k=true:=fun k h0 h1=>decide_eq_true ⟨h0,by rw[<-pB.eq];exact h1⟩
 have g7:∀k:Int,¬k<z->dOk l c k=false:=fun k h1=>decide_eq_false fun h=>h1 (by rw[pB.eq];exact h.2)
 have yO:∀k:Int,0<=k->k<z->BCall prog 57 [.agg (dE l c k)] [] (.tup [.agg (dE l c (nxt (kE l c k))),.val (.bool (dOk l c (nxt (kE l c k))))]) []:=fun k h0 h1=>by
  rw[Qrx (jK k h0 h1),kE,if_pos (jK k h0 h1)];exact QsZ l ha.ok.w _ _ k c jC ⟨h0,by omega⟩
 have ki:∀k:Int,0<=k->k<z->nxt (kE l c k)=k+1:=fun k h0 h1=>by rw[kE,if_pos (jK k h0 h1)];rfl
 have ja:∀k:Int,0<=k->k<z->BCall prog 23 [.agg (dE l c k)] [] (.agg [.val (.int .i64 (fE l c k)),.val (.int .i64 (Qrf l (nE l c k) (fE l c k)))]) []:=fun k h0 h1=>by
  have hd:CurB l b C (Q34 l c k):=⟨hc.1.down ha h0 (by rw[<-pB.eq];exact h1),hc.2.down ha ho hc.1 h0 (by rw[<-pB.eq];exact h1)⟩
  rw[Qrx (jK k h0 h1),fE,nE,if_pos (jK k h0 h1),if_pos (jK k h0 h1)];refine QsP l _ ?_;have h2:=hd.1.f0;have h3:=hd.1.w;have h4:=(hd.1.wide ha).2;show 0<=(Q34 l c k).f+(Qn l (Q34 l c k).n).width/\(Q34 l c k).f+(Qn l (Q34 l c k).n).width<=9223372036854775807;omega
 have e1:Qrf l (Q34 l c 0).n (Q34 l c 0).f=Qrf l (nE l c 0) (fE l c 0):=by rw[fE,nE,if_pos (jK 0 (le_refl 0) je),if_pos (jK 0 (le_refl 0) je)]
 have e2:(Q34 l c ((Qg l c).length-1)).f=fE l c (z-1):=by rw[fE,if_pos (jK (z-1) (by omega) (by omega)),pB.eq]
 rw[e1,e2];clear e1 e2 hz;obtain⟨cn,qK⟩:=exq c.n;obtain⟨cf,qe⟩:=exq c.f;obtain⟨ck,qW⟩:=exq c.k;simp only[Cur.el,dE]at cK cD yO ja ⊢;rw[<-qK,<-qe,<-qW]at cK cD ⊢;rw[<-qK]at hk;have yI:¬(!(Q1f l cn == 21))=true:=by simpa using hk
 have cx:=yO 0 (le_refl 0) je;rw[ki 0 (le_refl 0) je]at cx;have yG:=ki 0 (le_refl 0) je;refine fnO false (Qst (Q1f l) (Qrf l) (pE l c) (nE l c) (fE l c) (kE l c) (uE l c) (dOk l c) nxt) (fun id=>match id with|11=>.of [0,3,7,1,2,4,5,6,8,9]|_=>.nil) func22 rfl fun _ _=>?_
 generalize hU:upO (Q3 l) c=U;with_reducible refine Qqc (Q1f l) (Qrf l) (pE l c) (nE l c) (fE l c) (kE l c) (uE l c) (dOk l c) nxt (Q3 l) ?_
 subst hU;refine⟨cK,fun h=>absurd h yI,fun h=>?_⟩
 rw[yG];refine⟨cD,cx,?_⟩;have q8:=ja 0 (le_refl 0) je;have hd0:=jK 0 (le_refl 0) je;refine Q1h (Qst (Q1f l) (Qrf l) (pE l c) (nE l c) (fE l c) (kE l c) (uE l c) (dOk l c) nxt) (Int) (fun q=>⟨[(2,.box 0 0),(4,.box 1 0),(5,.val (.bool (dOk l c 0))),(6,.box 2 0),(7,.box 3 0),(8,.val (.bool (dOk l c (q+1))))],[.box [.val (.int .i64 0),.val (.int .i64 0)],.box [.opt (pE l c 0),.val (.int .i64 (nE l c 0)),.val (.int .i64 (fE l c 0)),.val (.int .i64 (kE l c 0)),.opt (uE l c 0)],.box [.opt (pE l c q),.val (.int .i64 (nE l c q)),.val (.int .i64 (fE l c q)),.val (.int .i64 (kE l c q)),.opt (uE l c q)],.box [.opt (pE l c (q+1)),.val (.int .i64 (nE l c (q+1))),.val (.int .i64 (fE l c (q+1))),.val (.int .i64 (kE l c (q+1))),.opt (uE l c (q+1))]]⟩) (fun q=>0<=q/\q<z) (fun q=>(z-q).toNat) 0 ?_ ?_ ?_
 ·exact⟨le_refl 0,je⟩
 ·refine⟨[some 1,some 2,some 3,some 4],_,rfl,?_⟩
  exact eq0
 ·rintro q ⟨qx,zD⟩
  have qx:0<=q:=qx;have zD:q<z:=zD;obtain⟨q1,hq⟩:=exq (q+1);rw[<-hq];generalize hU:upO (Q3 l) c=U;with_reducible refine Qqc (Q1f l) (Qrf l) (pE l c) (nE l c) (fE l c) (kE l c) (uE l c) (dOk l c) nxt (Q3 l) ?_
  subst hU;refine⟨fun h2=>?_,fun h2=>?_⟩
  ·have vE:q1<z:=by
    by_cases h9:q1<z
    ·exact h9
    ·rw[g7 q1 h9]at h2;exact absurd h2 (by decide)
   have cy:=yO q1 (by omega) vE
   have vr:=ki q1 (by omega) vE
   rw[vr]at cy;rw[vr];refine⟨cy,q1,⟨by omega,vE⟩,by omega,[some 0,some 1,some 2,some 4],_,rfl,?_⟩
   exact eq0
  ·have vE:q=z-1:=by
    by_cases h9:q1<z
    ·rw[jK q1 (by omega) h9]at h2;exact absurd h2 (by decide)
    ·omega
   rw[if_pos trivial];have jM:=ja q qx zD;rw[<-vE];with_reducible refine cv9 (Q1f l) (Qrf l) (pE l c) (nE l c) (fE l c) (kE l c) (uE l c) (dOk l c) nxt ?_
   refine⟨q8,jM,.pure rfl ⟨⟨.inl rfl,.inl rfl,trivial⟩,.inl (by rw[hd0]),trivial⟩⟩
