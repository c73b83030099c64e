/- Lemmas, conditions told -/
import Derived.Test.YtibemhahkicbpaaGreatK18
set_option maxRecDepth 99999
set_option maxHeartbeats 0
set_option linter.unusedSimpArgs false
set_option linter.unusedVariables false
namespace Go.Proofs.YtibemhahkicbpaaGreat
open List(length_append length_singleton append_nil mem_append_left map_append getElem?_map foldl_cons getD_eq_getElem?_getD getElem?_eq_getElem length_map take_add_one length_cons)
open Int(le_refl)
open Go.RowKit Go.Lib
structure Evr where
 do_:Int
 kind:Int
 b:Option (List UInt8)
 deriving Inhabited
def Evr.ev(x:Evr):Ev:=⟨x.do_,x.kind,x.b.getD []⟩
def Evr.ba(x:Evr):AV:=match x.b with|some b=>.slc 1 (Q2 b)|none=>Qno
def Evr.av(x:Evr):AV:=.agg [.val (.int .i64 x.do_),.val (.int .i64 x.kind),x.ba]
def Qv(l:List Evr):List AV:=l.map Evr.av
theorem Q8i(a b:List Evr):Qv (a++b)=Qv a++Qv b:=by simp[Qv]
theorem Q6A(a:List Evr):(Qv a).length=a.length:=by simp[Qv]
structure RSt where
 op:List (List Int)
 ev:List Evr
 wr:List Dg
 deriving Inhabited
def Q1R(t:Txt)(c f u:Int)(s:RSt):RSt:=⟨s.op,s.ev,s.wr++[⟨Q1s t f,Q1s t u,c⟩]⟩
def Q1K(t:Txt)(b:List UInt8)(kind f u:Int)(s:RSt):RSt:=⟨s.op,s.ev++[⟨2,kind,some (QU t b f u)⟩],s.wr⟩
def Q2h(t:Txt)(a:Int)(s:RSt):RSt:=⟨s.op.take (s.op.length-1),s.ev++[⟨2,22,none⟩,⟨3,0,none⟩],s.wr++[⟨Q1s t a,Q1s t a,4⟩]⟩
def Q2G(op:List (List Int))(nm:List Int):Nat->Int
 |0=>-1
 |k+1=>if op[k]?.getD []=nm then k else Q2G op nm k
def Q1g(t:Txt)(f:Int)(k:Nat):Nat->RSt->RSt
 |0,s=>s
 |n+1,s=>if k<s.op.length then Q1g t f k n (Q2h t f s)else s
def Q4x(t:Txt)(b:List UInt8)(kind f u:Int)(s:RSt):RSt :=
 if 64<=s.op.length then Q1K t b kind f u (Q1R t 5 f u s)
 else Q1K t b kind f u ⟨s.op++[Qs t f u],s.ev++[⟨1,0,none⟩],s.wr⟩
def Qbt(t:Txt)(b:List UInt8)(kind f u:Int)(s:RSt):RSt :=
 if Q2G s.op (Qs t f u) s.op.length<0 then Q1K t b kind f u (Q1R t 3 f u s)
 else
  let s1:=Q1K t b kind f u (Q1g t f ((Q2G s.op (Qs t f u) s.op.length).toNat+1) (s.op.length+1) s)
  ⟨s1.op.take (Q2G s.op (Qs t f u) s.op.length).toNat,s1.ev++[⟨3,0,none⟩],s1.wr⟩
def Q63(t:Txt)(b:List UInt8)(kind f u:Int)(wh:Bool)(s:RSt):RSt :=
 let s1:=if wh=false then Q1R t 1 f u s else if(kind=8\/kind=9\/kind=10)/\(QD t.r f u).right=false then Q1R t 2 f u s else s
 if wh=true/\kind=8/\0<(Qs t f u).length then Q4x t b kind f u s1
 else if wh=true/\kind=10 then Qbt t b kind f u s1
 else Q1K t b kind f u s1
def Q64(t:Txt)(b:List UInt8)(s:RSt)(x:Tok):RSt:=Q63 t b x.kind x.from_ x.to x.whole s
def QcN(t:Txt)(b:List UInt8)(s:RSt):RSt :=
 let s1:=(Q1r t.r).foldl (Q64 t b) s
 Q1g t t.r.length 0 (s1.op.length+1) s1
def Q2N(b:List UInt8):RSt:=⟨[],if 0<(QX b).2 then [⟨2,23,some (b.take (QX b).2.toNat)⟩]else [],[]⟩
def Q1b(b:List UInt8):RSt:=QcN (Qb b) b (Q2N b)
theorem QgG{l:List Node}(h:Wf l)(x:Node):∀(f:Nat)(n:Int)(top:Bool),0<=n->n<l.length->spF (l++[x]) f n top=spF l f n top
 |0,_,_,_,_=>rfl
 |f+1,n,top,h0,h1=>by
  simp only[spF,Q43 h0 h1];have e1:pr (l++[x]) n=pr l n:=QdB h x h0 h1
  have e2:(Qn l n).kids.flatMap (fun k=>spF (l++[x]) f k false)=(Qn l n).kids.flatMap (fun k=>spF l f k false):=by
   refine congrArg List.flatten (List.map_congr_left fun k hk=>?_)
   have:=h n h0 h1 k hk
   exact QgG h x f k false this.1 (by omega)
  rw[e1,e2]
theorem Qon{l:List Node}(h:Wf l)(x:Node){n:Int}(top:Bool)(h0:0<=n)(h1:n<l.length):spV (l++[x]) n top=spV l n top:=QgG h x _ n top h0 h1
def spL(l:List Node)(ks:List Int):List Ev:=ks.flatMap fun k=>spV l k false
theorem Q5V{l:List Node}(h:Wf l)(x:Node){ks:List Int}(hk:InR l ks):spL (l++[x]) ks=spL l ks :=
 congrArg List.flatten (List.map_congr_left fun k yS=>Qon h x false (hk k yS).1 (hk k yS).2)
theorem Qdi(l:List Node)(a b:List Int):spL l (a++b)=spL l a++spL l b:=by simp[spL]
theorem Q9H(l:List Node)(k:Int):spL l [k]=spV l k false:=by simp[spL]
theorem QcK{l:List Node}(h:Ar l){kind:Int}(hk:kind≠21)(bs:List UInt8):spV (l++[QI kind bs]) l.length false=[⟨2,kind,bs⟩]:=by
 have ha:=Q4A h kind bs;rw[Q8I ha.1.wf (by omega) (by simp only[length_append,length_singleton];omega),Q36,if_pos ⟨hk,rfl⟩,ha.2];rfl
theorem QhU{l:List Node}(h:Ar l){ks:List Int}(hk:InR l ks):spV (l++[Q1i l 21 ks]) l.length false=⟨1,0,[]⟩::(spL l ks++[⟨3,0,[]⟩]):=by
 have ha:=Q6S h 21 hk;rw[Q8I ha.1.wf (by omega) (by simp only[length_append,length_singleton];omega),Q36,if_neg (fun e=>e.1 rfl),if_neg (by decide),if_neg (by decide)]
 show [_]++spL (l++[Q1i l 21 ks]) ks++_=_;rw[Q5V h.wf _ hk];rfl
theorem QmG{l:List Node}(h:Ar l){ks:List Int}(hk:InR l ks):spV (l++[Q1i l 20 ks]) l.length true=spL l ks:=by
 have ha:=Q6S h 20 hk;rw[Q8I ha.1.wf (by omega) (by simp only[length_append,length_singleton];omega),Q36,if_neg (fun e=>by cases e.2),if_pos rfl,if_pos rfl]
 show []++spL (l++[Q1i l 20 ks]) ks++[]=_;rw[Q5V h.wf _ hk,List.nil_append,append_nil]
def evO(l:List Node)(x:Opn):List Ev:=⟨1,0,[]⟩::spL l x.kids
def evS(l:List Node)(s:List Opn):List Ev:=s.flatMap (evO l)
theorem Q6P(l:List Node)(s:List Opn)(x:Opn):evS l (s++[x])=evS l s++evO l x:=by simp[evS]
theorem Q9A{l:List Node}(h:Wf l)(x:Node){s:List Opn}(hs:∀y∈s,InR l y.kids):evS (l++[x]) s=evS l s :=
 congrArg List.flatten (List.map_congr_left fun y hy=>by unfold evO;rw[Q5V h x (hs y hy)])
structure Rel (m:Mk) (s:RSt):Prop where
 op:s.op=(m.s.drop 1).map Opn.name
 wr:s.wr=m.d
 ev:(⟨1,0,[]⟩:Ev)::s.ev.map Evr.ev=evS m.n m.s
theorem QhY{s:List Opn}(hs:s≠[])(x:Opn):(s++[x]).drop 1=s.drop 1++[x]:=by
 cases s with
 |nil=>exact absurd rfl hs
 |cons a r=>rfl
section
variable {m:Mk}{s:RSt}{X:List UInt8}{B D:Nat}
theorem Rel.len(h:Rel m s):s.op.length=m.s.length-1:=by rw[h.op];simp
theorem Rel.wrong(h:Rel m s)(t:Txt)(c f u:Int):Rel (QV t c f u m) (Q1R t c f u s) :=
 ⟨h.op,by show s.wr++_=m.d++_;rw[h.wr],h.ev⟩
theorem Rel.leaf(hm:MkInv m X B D)(h:Rel m s){kind:Int}(hk:kind≠21)(bs:List UInt8)(q:Option (List UInt8))(hq:q.getD []=bs):Rel (Q3g m.n.length (Q20 (QI kind bs) m)) ⟨s.op,s.ev++[⟨2,kind,q⟩],s.wr⟩:=by
 obtain⟨s0,qa⟩:=Q2r hm.s1;generalize QZ m.s=y at qa;have hr:=hm.rng;have ho:=h.op;have he:=h.ev;rw[qa]at hr ho he;have vl:∀z∈s0,InR m.n z.kids:=fun z hz=>hr z (mem_append_left _ hz)
 have ya:InR m.n y.kids:=hr y (by simp)
 refine⟨?_,h.wr,?_⟩
 ·show s.op=((Q2k m.n.length m.s).drop 1).map Opn.name
  rw[qa,Q2D,ho];cases s0<;>simp
 ·show(⟨1,0,[]⟩:Ev)::(s.ev++[(⟨2,kind,q⟩:Evr)]).map Evr.ev=evS (m.n++[QI kind bs]) (Q2k m.n.length m.s)
  rw[Q6P]at he;rw[qa,Q2D,Q6P,Q9A hm.ar.wf _ vl];unfold evO;rw[Qdi,Q9H,Q5V hm.ar.wf _ ya,QcK hm.ar hk,map_append,<-List.cons_append,he];unfold evO Evr.ev;rw[<-hq];simp
theorem Rel.push(hm:MkInv m X B D)(h:Rel m s)(bs:List UInt8)(nm:List Int)(k:Int)(hk:k≠21):Rel (Q3g m.n.length (Q20 (QI k bs) { m with s:=m.s++[⟨nm,[]⟩] })) ⟨s.op++[nm],(s.ev++[⟨1,0,none⟩])++[⟨2,k,some bs⟩],s.wr⟩:=by
 have jP:m.s≠[]:=fun e=>by have:=hm.s1;rw[e]at this;simp at this
 refine⟨?_,h.wr,?_⟩
 ·show s.op++[nm]=((Q2k m.n.length (m.s++[⟨nm,[]⟩])).drop 1).map Opn.name
  rw[Q2D,QhY jP,map_append,<-h.op];rfl
 ·show(⟨1,0,[]⟩:Ev)::((s.ev++[(⟨1,0,none⟩:Evr)])++[(⟨2,k,some bs⟩:Evr)]).map Evr.ev=evS (m.n++[QI k bs]) (Q2k m.n.length (m.s++[⟨nm,[]⟩]))
  rw[Q2D,Q6P,Q9A hm.ar.wf _ hm.rng,<-h.ev];unfold evO;rw[List.nil_append,Q9H,QcK hm.ar hk];simp[Evr.ev]
theorem Qig(s0:List Opn)(y x:Opn)(z:List Int):(((s0++[y]++[x]).drop 1).map Opn.name).take ((((s0++[y]++[x]).drop 1).map Opn.name).length-1)=((s0++[(⟨y.name,z⟩:Opn)]).drop 1).map Opn.name:=by
 cases s0 with
 |nil=>rfl
 |cons a r =>
  have e:((a::r++[y]++[x]).drop 1).map Opn.name=(r.map Opn.name++[y.name])++[x.name]:=by simp
  rw[e,length_append,length_singleton,Nat.add_sub_cancel,List.take_left];simp
theorem Rel.shut(hm:MkInv m X B D)(h:Rel m s)(hs:2<=m.s.length){kind:Int}(hk:kind≠21)(bs:List UInt8)(q:Option (List UInt8))(hq:q.getD []=bs) :
  Rel (Q22 m.n.length (Q20 (QI kind bs) m)) ⟨s.op.take (s.op.length-1),s.ev++[⟨2,kind,q⟩,⟨3,0,none⟩],s.wr⟩:=by
 obtain⟨s0,y,jM⟩:=QhW hs;generalize QZ m.s=x at jM;obtain⟨en,es⟩:=QmK jM kind bs;obtain⟨qu,yb⟩:=Q4A hm.ar kind bs;have hr:=hm.rng;have ho:=h.op;have he:=h.ev;rw[jM]at hr ho he;have vl:∀z∈s0,InR m.n z.kids:=fun z hz=>hr z (mem_append_left _ (mem_append_left _ hz))
 have ya:InR m.n y.kids:=hr y (mem_append_left _ (by simp))
 have gS:InR m.n x.kids:=hr x (by simp)
 have yI:InR (m.n++[QI kind bs]) (x.kids++[(m.n.length:Int)]):=fun k hk=>by
  rcases List.mem_append.1 hk with hk|hk
  ·exact gS.more _ k hk
  ·obtain rfl:k=(m.n.length:Int):=by simpa using hk
   simp;omega
 have ja:=QhU qu yI
 have e1:spL (m.n++[QI kind bs]) (x.kids++[(m.n.length:Int)])=spL m.n x.kids++[⟨2,kind,bs⟩]:=by
  rw[Qdi,Q9H,Q5V hm.ar.wf _ gS,QcK hm.ar hk]
 rw[e1]at ja;obtain⟨l1,hl⟩:=exq (m.n++[QI kind bs]);rw[<-hl]at ja en es qu;generalize Q1i l1 21 (x.kids++[(m.n.length:Int)])=z at ja en
 have up0:evS (l1++[z]) s0=evS m.n s0:=by
  rw[Q9A qu.wf z (fun q hq=>by rw[hl];exact(vl q hq).more _),hl,Q9A hm.ar.wf _ vl]
 have upy:spL (l1++[z]) y.kids=spL m.n y.kids:=by
  rw[Q5V qu.wf z (by rw[hl];exact ya.more _),hl,Q5V hm.ar.wf _ ya]
 refine⟨?_,h.wr,?_⟩
 ·show s.op.take (s.op.length-1)=_
  rw[es,ho,Qig]
 ·show(⟨1,0,[]⟩:Ev)::(s.ev++[(⟨2,kind,q⟩:Evr),⟨3,0,none⟩]).map Evr.ev=_
  rw[Q6P,Q6P]at he;rw[en,es,Q6P,up0,map_append,<-List.cons_append,he];unfold evO;rw[Qdi,Q9H,upy,ja,<-hq];simp[Evr.ev]
theorem Rel.miss(hm:MkInv m X B D)(h:Rel m s)(hs:2<=m.s.length)(t:Txt)(a:Int):Rel (Q3l t a m) (Q2h t a s) :=
 Rel.shut (Q1P hm t 4 a a) (h.wrong t 4 a a) hs (kind:=22) (by decide) [] none rfl
end
theorem Rel.missGo(t:Txt)(f:Int)(k:Nat){X:List UInt8}{B D:Nat}:∀(n:Nat)(m:Mk)(s:RSt),MkInv m X B D->Rel m s->Rel (Go.Proofs.YtibemhahkicbpaaGreat.missGo t f k n m) (Q1g t f k n s)
 |0,m,s,_,h=>h
 |n+1,m,s,hm,h=>by
  show Rel (if _ then _ else _) (if _ then _ else _);rw[h.len];split
  ·exact Rel.missGo t f k n _ _ (Q5D hm (by omega) t f).1 (h.miss hm (by omega) t f)
  ·exact h
theorem QgH(s:List Opn)(nm:List Int):∀k,((Q2g s nm k:Nat):Int)=Q2G ((s.drop 1).map Opn.name) nm k+1
 |0=>rfl
 |k+1=>by
  unfold Q2g Q2G
  have e:((s.drop 1).map Opn.name)[k]?.getD []=(s[k+1]?.getD ⟨[],[]⟩).name:=by
   rw[getElem?_map,List.getElem?_drop,Nat.add_comm 1 k];cases s[k+1]?<;>rfl
  rw[e];split
  ·rfl
  ·exact QgH s nm k
theorem Qa8(t:Txt)(f:Int)(k:Nat):∀(n:Nat)(s:RSt),k<=s.op.length->s.op.length<=n+k->(Q1g t f k n s).op.length=k
 |0,s,h1,h2=>by show s.op.length=k;omega
 |n+1,s,h1,h2=>by
  show(if _ then _ else _:RSt).op.length=k
  split
  ·have e:(Q2h t f s).op.length=s.op.length-1:=by show(s.op.take (s.op.length-1)).length=_;rw[List.length_take];omega
   exact Qa8 t f k n _ (by omega) (by omega)
  ·omega
section
variable {m:Mk}{s:RSt}{X:List UInt8}{B D:Nat}{t:Txt}{b:List UInt8}{f u:Int}
theorem Rel.lk(hm:MkInv m X B D)(h:Rel m s){kind:Int}(hk:kind≠21):Rel (lkF t b kind f u m) (Q1K t b kind f u s) :=
 Rel.leaf hm h hk (QU t b f u) (some (QU t b f u)) rfl
theorem Rel.start(hm:MkInv m X B D)(h:Rel m s){kind:Int}(hk:kind≠21):Rel (Q1G t b kind f u m) (Q4x t b kind f u s):=by
 have h1:=hm.s1;unfold Q1G Q4x;rw[h.len];by_cases hc:64<m.s.length
 ·rw[if_pos hc,if_pos (by omega)]
  exact Rel.lk (Q1P hm t 5 f u) (h.wrong t 5 f u) hk
 ·rw[if_neg hc,if_neg (by omega)]
  exact Rel.push hm h (QU t b f u) (Qs t f u) kind hk
theorem Rel.end_(hm:MkInv m X B D)(h:Rel m s){kind:Int}(hk:kind≠21):Rel (Q2Y t b kind f u m) (Qbt t b kind f u s):=by
 have h1:=hm.s1;have hf:=QgH m.s (Qs t f u) (m.s.length-1);have jJ:=Q61 m.s (Qs t f u) (m.s.length-1);rw[<-h.op]at hf;unfold Q2Y Qbt;rw[h.len];simp only
 generalize hK:Q2g m.s (Qs t f u) (m.s.length-1)=K at hf jJ ⊢;generalize hR:Q2G s.op (Qs t f u) (m.s.length-1)=r at hf ⊢;by_cases hc:K=0
 ·rw[if_pos hc,if_pos (by omega)]
  exact Rel.lk (Q1P hm t 3 f u) (h.wrong t 3 f u) hk
 ·rw[if_neg hc,if_neg (by omega)]
  have hr:r.toNat+1=K:=by omega
  rw[show m.s.length-1+1=m.s.length by omega,hr]
  obtain⟨h3,h4⟩:=Q7R t f K m.s.length m hm (by omega) (by omega)
  have h5:=Rel.missGo t f K m.s.length m s hm h;have h6:=h5.len;have h7:=Rel.shut h3 h5 (by omega) hk (QU t b f u) (some (QU t b f u)) rfl
  have e:r.toNat=(Q1g t f K m.s.length s).op.length-1:=by omega
  show Rel _ ⟨(Q1g t f K m.s.length s).op.take r.toNat,((Q1g t f K m.s.length s).ev++[_])++[_],_⟩;rw[e,List.append_assoc];exact h7
theorem Rel.token(hm:MkInv m X B D)(h:Rel m s){kind:Int}(hk:kind≠21)(wh:Bool):Rel (Q26 t b kind f u wh m) (Q63 t b kind f u wh s):=by
 unfold Q26 Q63;simp only
 generalize jx:(if wh=false then QV t 1 f u m else if(kind=8\/kind=9\/kind=10)/\(QD t.r f u).right=false then QV t 2 f u m else m)=m1;generalize jM:(if wh=false then Q1R t 1 f u s else if(kind=8\/kind=9\/kind=10)/\(QD t.r f u).right=false then Q1R t 2 f u s else s)=s1
 have h3:∃D',MkInv m1 X B D'/\Rel m1 s1:=by
  rw[<-jx,<-jM];split
  ·exact⟨_,Q1P hm t 1 f u,h.wrong t 1 f u⟩
  ·split
   ·exact⟨_,Q1P hm t 2 f u,h.wrong t 2 f u⟩
   ·exact⟨_,hm,h⟩
 obtain⟨D',h3,h4⟩:=h3;split
 ·exact Rel.start h3 h4 hk
 ·split
  ·exact Rel.end_ h3 h4 hk
  ·exact Rel.lk h3 h4 hk
end
theorem Rel.toks{t:Txt}{b:List UInt8}(ok:TxtOk t b)(hr:t.r.length<=1000000):∀(n k:Nat)(m:Mk)(s:RSt)(B D:Nat),t.r.length-k<=n->k<=t.r.length->MkI m (Q6y t b k) B D->Rel m s ->
  Rel ((Q1S t.r k).foldl (Q7k t b) m) ((Q1S t.r k).foldl (Q64 t b) s)
 |0,k,m,s,B,D,h,hk,hi,hc=>by
  rw[Q1k (by omega)];exact hc
 |n+1,k,m,s,B,D,h,hk,hi,hc=>by
  by_cases jA:k<t.r.length
  ·obtain⟨h1,h2,h3,h4⟩:=Q9S t.r jA
   rw[Q1O jA,foldl_cons,foldl_cons];have:=hi.token t b hr (Q1m t.r k).kind (Q1m t.r k).from_ (Q1m t.r k).to (Q1m t.r k).whole
   rw[h1,h2,Q7B ok (by omega) (by omega) (by omega)]at this
   have jD:(Q1m t.r k).kind≠21:=by
    show(((Ql t.r k).1:Nat):Int)≠21
    have:=Qf9 t.r k
    omega
   have h5:Rel (Q26 t b (Q1m t.r k).kind k ((Ql t.r k).2.1:Nat) (Q1m t.r k).whole m) (Q64 t b s (Q1m t.r k)):=Rel.token hi.i hc jD _;exact Rel.toks ok hr n (Ql t.r k).2.1 _ _ (B+3) (D+3) (by omega) h4 this h5
  ·rw[Q1k jA];exact hc
theorem QhJ(b:List UInt8):Rel (Q3s b) (Q2N b):=by
 have h0:Rel mk0 ⟨[],[],[]⟩:=⟨rfl,rfl,rfl⟩;unfold Q3s Q2N;split
 ·exact Rel.leaf mk0_inv.i h0 (kind:=23) (by decide) _ (some _) rfl
 ·exact h0
theorem Q8S(b:List UInt8)(hb:b.length<=100000):(Q1b b).wr=(Qu b).d/\(Q1b b).ev.map Evr.ev=spV (QL (Qu b)).n (Qu b).n.length true:=by
 have hs:=Q6r b hb;have ok:=(Q3N b).1;have hi:=Q6Y b;obtain⟨h1,h2⟩:=Qda ok hs.hr hi;have h3:=Rel.toks ok hs.hr (Qb b).r.length 0 _ _ _ _ (by omega) (by omega) hi (QhJ b)
 have h4:=(QaO ok hs.hr (Qb b).r.length 0 _ _ _ (by omega) (by omega) hi)
 have hR:Rel (Qu b) (Q1b b):=by
  show Rel (missGo _ _ _ _ _) (Q1g _ _ _ _ _);have e:=h3.len;have jM:=h4.i.s1;show Rel (missGo (Qb b) _ 0 ((Q1S (Qb b).r 0).foldl (Q7k (Qb b) b) (Q3s b)).s.length ((Q1S (Qb b).r 0).foldl (Q7k (Qb b) b) (Q3s b))) (Q1g (Qb b) _ 0 (((Q1S (Qb b).r 0).foldl (Q64 (Qb b) b) (Q2N b)).op.length+1) ((Q1S (Qb b).r 0).foldl (Q64 (Qb b) b) (Q2N b)));rw[e,show ∀x:Nat,1<=x->x-1+1=x from fun x hx=>by omega]
  ·exact Rel.missGo _ _ _ _ _ _ h4.i h3
  ·exact jM
 refine⟨hR.wr,?_⟩;have h2:(Qu b).s.length=1:=h2;obtain⟨x,hx⟩:=List.length_eq_one_iff.1 h2;have hr:=h1.i.rng;have yG:(Q8R (Qb b) b (Q3s b)).s=[x]:=hx;rw[yG]at hr;have he:=hR.ev;rw[hx]at he
 have he2:(Q1b b).ev.map Evr.ev=spL (Qu b).n x.kids:=by
  have:evS (Qu b).n [x]=⟨1,0,[]⟩::spL (Qu b).n x.kids:=by simp[evS,evO]
  rw[this]at he;exact(List.cons.inj he).2
 rw[he2]
 have e3:(QL (Qu b)).n=(Qu b).n++[Q1i (Qu b).n 20 x.kids]:=by
  show(Qu b).n++[Q1i (Qu b).n 20 (QZ (Qu b).s).kids]=_
  rw[hx];rfl
 rw[e3];exact(QmG h1.i.ar (hr x (by simp))).symm
section
open Tryz
def QtI:Option (List UInt8)->AV
 |some b=>.slc 1 (Q2 b)
 |none=>.val (.slice none 0 0)
def El.av(x:El):AV:=.agg [.slc 1 (Q9 x.path),.val (.int .i64 x.fr),.val (.int .i64 x.to),.val (.int .i64 x.inn),.val (.int .i64 x.out),.val (.bool x.emp),QtI x.tag]
def QqM(l:List El):List AV:=l.map El.av
theorem QrG(a b:List El):QqM (a++b)=QqM a++QqM b:=by simp[QqM]
theorem QqV(a:List El):(QqM a).length=a.length:=by simp[QqM]
def Qu8(wi:List AV->Int->List AV)(P0:List AV):Nat->List AV->List Ob->Option (AV×List Ob):=fun f args _=>match f,args with
 |66,[.slc 1 l,.val (.int .i64 k)]=>some (.slc 1 (wi l k),[])
 |66,[.val (.slice none 0 0),.val (.int .i64 k)]=>some (.slc 1 (wi P0 k),[])
 |_,_=>none
def Qr4(l:List AV)(k:Int):List AV:=l++[.val (.int .i64 k)]
theorem Qtu(l:List Int):l[((l.length:Int)-1).toNat]?.getD 0=l.getLast?.getD 0:=by
 rw[List.getLast?_eq_getElem?,show((l.length:Int)-1).toNat=l.length-1 by omega]
theorem Qrq{l:List Int}(h:l.length≠0):std.nth (std.cel (std.at_ (Q9 l) (std.sub (std.len (Q9 l)) 1))) 0=.val (.int .i64 (l.getLast?.getD 0)):=by
 have e:std.sub (std.len (Q9 l)) 1=(l.length:Int)-1:=by
  show((Q9 l).length:Int)-1=_
  rw[Q2w]
 rw[e,QdH (by omega) (by omega),Qtu]
theorem Qtd{l:List Int}(h:l.length≠0)(v:Int):std.setx (Q9 l) (std.sub (std.len (Q9 l)) 1) 0 [.val (.int .i64 v)]=Q9 (l.dropLast++[v]):=by
 have e:std.sub (std.len (Q9 l)) 1=(l.length:Int)-1:=by
  show((Q9 l).length:Int)-1=_
  rw[Q2w]
 rw[e,QrP];congr 1
 obtain⟨a,x,rfl⟩:∃a x,l=a++[x]:=⟨l.dropLast,l.getLast (fun e=>h (by rw[e];rfl)),(List.dropLast_concat_getLast _).symm⟩
 have:((((a++[x]).length:Nat):Int)-1).toNat=a.length:=by simp
 rw[this];simp
theorem QrR(l:List Int):std.cut (Q9 l) 0 (std.sub (std.len (Q9 l)) 1)=Q9 l.dropLast:=by
 show((Q9 l).drop (0:Int).toNat).take (((Q9 l).length:Int)-1-0).toNat=_
 rw[Q2w,show(((l.length:Nat):Int)-1-0).toNat=l.length-1 by omega,List.dropLast_eq_take,Q9,Q9,List.map_take];rfl
theorem Qrl(o:List El)(k:Int)(off:Nat)(v:AV)(f:El->El)(hf:∀x:El,(f x).av=Qti x.av off [v])(h0:0<=k)(h1:k<o.length):std.setx (QqM o) k off [v]=QqM (o.modify k.toNat f):=by
 show(QqM o).set k.toNat (Qti ((QqM o).getD k.toNat .dead) off [v])=_
 have hk:k.toNat<o.length:=by omega
 have e:(QqM o).getD k.toNat .dead=(o[k.toNat]).av:=by rw[getD_eq_getElem?_getD,QqM,getElem?_map,getElem?_eq_getElem hk];rfl
 rw[e,<-hf];refine List.ext_getElem? fun j=>?_
 rw[QqM,QqM,getElem?_map,List.getElem?_modify,List.getElem?_set];by_cases hj:k.toNat=j
 ·subst hj
  rw[if_pos rfl,if_pos (by rw[length_map];exact hk),getElem?_eq_getElem hk];simp
 ·rw[if_neg hj,getElem?_map];cases o[j]?<;>simp[hj]
theorem Qts{o:List El}{k:Int}(h0:0<=k)(h1:k<o.length):std.nth (std.drp (std.cel (std.at_ (QqM o) k)) 3) 0=.val (.int .i64 (o[k.toNat]?.getD default).inn):=by
 have hk:k.toNat<o.length:=by omega
 show List.getD (List.drop 3 (AV.cells ((QqM o).getD k.toNat .dead))) 0 .dead=_;rw[getD_eq_getElem?_getD (l:=QqM o),QqM,getElem?_map,getElem?_eq_getElem hk];rfl
def Qrt(ev:List Ev)(i:Int):Al:=(ev.take i.toNat).foldl QqP ⟨[],[],[0],0,0,[]⟩
theorem Qs7{ev:List Ev}{i:Int}(h0:0<=i)(h1:i<ev.length):Qrt ev (i+1)=QqP (Qrt ev i) (ev[i.toNat]?.getD default):=by
 have hk:i.toNat<ev.length:=by omega
 unfold Qrt;rw[show(i+1).toNat=i.toNat+1 by omega,take_add_one,getElem?_eq_getElem hk,List.foldl_append];rfl
theorem Qsn{ev:List Ev}{B:Int}(hn:QqZ ev 0)(hB:Qr3 ev<=B):∀(k:Nat),k<=ev.length->∃d,AlOk d B k (Qrt ev k)/\QqZ (ev.drop k) d/\(Qrt ev k).at_+Qr3 (ev.drop k)<=B
 |0,_=>by
  have h0:=Qrv ev;refine⟨0,⟨rfl,rfl,rfl,fun x hx=>(List.not_mem_nil hx).elim,fun x hx=>?_,fun x hx=>(List.not_mem_nil hx).elim,⟨le_refl 0,by show 0<=B;omega⟩,⟨le_refl 0,by show 0<=B;omega⟩,le_refl 0,le_refl 0⟩,hn,by show 0+Qr3 ev<=B;omega⟩
  obtain rfl:x=0:=List.mem_singleton.1 hx;exact⟨le_refl 0,le_refl 0⟩
 |k+1,hk=>by
  obtain⟨d,h1,h2,h3⟩:=Qsn hn hB k (by omega)
  have yS:k<ev.length:=by omega
  rw[List.drop_eq_getElem_cons yS]at h2 h3;rw[Qrk]at h3;have h4:=Qrv (ev.drop (k+1));obtain⟨d',h5,h6⟩:=h1.step (by omega) h2 (by omega)
  have e:Qrt ev ((k+1:Nat):Int)=QqP (Qrt ev k) ev[k]:=by
   have:=Qs7 (ev:=ev) (i:=(k:Int)) (by omega) (by omega)
   rw[Int.toNat_natCast,getElem?_eq_getElem yS]at this;exact this
  refine⟨d',?_,h6,?_⟩
  ·rw[e];exact h5
  ·rw[e]
   have:(QqP (Qrt ev k) ev[k]).at_<=(Qrt ev k).at_+ev[k].b.length:=by
    unfold QqP;split
    ·show(Qrt ev k).at_<=_;omega
    ·split
     ·show(Qrt ev k).at_<=_;omega
     ·split<;>exact le_refl _
   omega
theorem QuE(c0 c1 c2 c3 c4 c5 c7:AV)(ev:List Evr)(hl:ev.length<=1000000)(zb:QqZ (ev.map Evr.ev) 0)(hB:Qr3 (ev.map Evr.ev)<=1000000) :
  BCall prog 28 [.ref [c0,c1,c2,c3,c4,c5,.slc 3 (Qv ev),c7]] [] (.slc 7 (QqM (alF (ev.map Evr.ev)).o)) []:=by
 obtain⟨n,hn⟩:=QE ev;have jF:std.len (Qv ev)=n:=by show((Qv ev).length:Int)=n;rw[Q6A,hn.eq]
 have jn:0<=n/\n<=1000000:=by rw[hn.eq];omega
 obtain⟨al,j1⟩:=exq (Qrt (ev.map Evr.ev):Int->Al)
 have q5:(alF (ev.map Evr.ev))=al n:=by
  rw[j1,Qrt,List.take_of_length_le (by rw[length_map];have:=hn.eq;omega)];rfl
 have jC:∀i:Int,0<=i->i<=n->∃d,AlOk d 1000000 i (al i)/\QqZ ((ev.map Evr.ev).drop i.toNat) d/\(al i).at_+Qr3 ((ev.map Evr.ev).drop i.toNat)<=1000000:=fun i h0 h1=>by
  have h:=Qsn zb hB i.toNat (by rw[length_map];have:=hn.eq;omega)
  rw[show((i.toNat:Nat):Int)=i by omega]at h
  rw[j1];exact h
 have jH:∀i:Int,0<=i->i<n->al (i+1)=QqP (al i) ((ev[i.toNat]?.getD default).ev):=fun i h0 h1=>by
  have h:=Qs7 (ev:=ev.map Evr.ev) (i:=i) h0 (by rw[length_map,<-hn.eq];exact h1)
  have hk:i.toNat<ev.length:=by have:=hn.eq;omega
  rw[getElem?_map,getElem?_eq_getElem hk]at h;rw[j1,h,getElem?_eq_getElem hk];rfl
 rw[q5];refine fnO false (Qu8 Qr4 []) (fun id=>match id with|11=> .of [0,1,2,3,4,5,7,8,9,10,11,12,13,14,6,15,16,17,18]|_=>.nil) func28 rfl fun _ _=>?_
 with_reducible refine cv2 Qr4 (Qv ev) ?_
 refine⟨⟨.inl rfl,trivial⟩,?_⟩;refine Q46 (cs:=(fun x:Int×Bool=>Qu8 Qr4 (Q9 (al x.1).pa))) (ord:=fun id=>match id with|11=> .of [0,1,2,3,4,5,7,8,9,10,11,12,13,14,6,15,16,17,18]|_=>.nil) Q6k (by kernel_rfl) (by kernel_rfl) (by kernel_rfl) (X:=Int×Bool) (fun x=>⟨[(3,.row 0 0),(4,.row 1 0),(5,.row 2 0),(6,.val (.int .i64 (al x.1).at_)),(7,.val (.int .i64 (al x.1).last)),(8,if x.2=true then .slc 1 (Q9 (al x.1).pa)else .val (.slice none 0 0)),(17,.slc 3 (Qv ev)),(18,.val (.int .i64 n)),(19,.val (.int .i64 x.1))],[.row 46 7 false 0 (QqM (al x.1).o),.row 3 1 false 0 (Q9 (al x.1).op),.row 3 1 false 0 (Q9 (al x.1).ct)]⟩) (fun x=>0<=x.1/\x.1<=n/\(x.2=false->(al x.1).pa=[])) (fun x=>(n-x.1).toNat) (0,false) ?_ ?_ ?_
 ·exact⟨le_refl 0,jn.1,fun _=>by rw[j1];rfl⟩
 ·refine⟨[none,none,some 0],_,rfl,?_⟩
  subst j1;exact eq1 jF
 ·rintro⟨i,fl⟩ ⟨jK,qh,vN⟩
  have jK:0<=i:=jK;have qh:i<=n:=qh;obtain⟨s,hs⟩:=exq (al i);have vN:fl=false->s.pa=[]:=by rw[hs];exact vN
  obtain⟨d,hA,hN,hB2⟩:=jC i jK qh;rw[<-hs]at hA hB2;simp only
  rw[<-hs];have qz:s.ct.length≠0:=by rw[hA.ct];omega
  have k7:=Qrq qz;obtain⟨cl,qq⟩:=exq (s.ct.getLast?.getD 0);have hclr:=hA.last_ct;rw[<-qq]at k7 hclr;have hCL:=Ql3 k7;have jR:=hA.ol;have hA0:=hA.a0
  have qN:(std.inb (std.sub (std.len (Q9 s.ct)) 1) (std.len (Q9 s.ct))).q:=by
   show 0<=((Q9 s.ct).length:Int)-1/\((Q9 s.ct).length:Int)-1<((Q9 s.ct).length:Int);rw[Q2w];omega
  have kj:=hA.dl;have hctl:s.ct.length<=1000001:=by have:=hA.ct;omega
  have qN9:(std.inR .i64 (std.sub (std.len (Q9 s.ct)) 1)).q:=by
   show -9223372036854775808<=((Q9 s.ct).length:Int)-1/\((Q9 s.ct).length:Int)-1<=9223372036854775807;rw[Q2w];omega
  have qI:i<n->(std.inR .i64 (std.add i 1)).q:=fun h=>by
   show -9223372036854775808<=i+1/\i+1<=9223372036854775807;omega
  have cW:=Qut s.pa cl (by rw[hA.pa];have:=hA.ct;omega)
  have eW:Q9 (s.pa++[cl])=Qr4 (Q9 s.pa) (std.int (std.nth (std.cel (std.at_ (Q9 s.ct) (std.sub (std.len (Q9 s.ct)) 1))) 0)):=by rw[hCL,Q4T];rfl
  have cW2:BCall prog 66 [.slc 1 (Q9 s.pa),.val (.int .i64 (std.int (std.nth (std.cel (std.at_ (Q9 s.ct) (std.sub (std.len (Q9 s.ct)) 1))) 0)))] [] (.slc 1 (Qr4 (Q9 s.pa) (std.int (std.nth (std.cel (std.at_ (Q9 s.ct) (std.sub (std.len (Q9 s.ct)) 1))) 0)))) []:=by
   rw[<-eW,hCL];exact cW
  have qC1:(std.inR .i64 (std.add (std.int (std.nth (std.cel (std.at_ (Q9 s.ct) (std.sub (std.len (Q9 s.ct)) 1))) 0)) 1)).q:=by
   rw[hCL];show -9223372036854775808<=cl+1/\cl+1<=9223372036854775807;omega
  have eC:std.setx (Q9 s.ct) (std.sub (std.len (Q9 s.ct)) 1) 0 [.val (.int .i64 (std.add (std.int (std.nth (std.cel (std.at_ (Q9 s.ct) (std.sub (std.len (Q9 s.ct)) 1))) 0)) 1))]=Q9 (QqY s.ct):=by
   rw[hCL,Qtd qz,qq];rfl
  have hcal:=Qrd qz;cases fl
  case' false =>
   have cz:=vN rfl;have cW2:BCall prog 66 [.val (.slice none 0 0),.val (.int .i64 (std.int (std.nth (std.cel (std.at_ (Q9 s.ct) (std.sub (std.len (Q9 s.ct)) 1))) 0)))] [] (.slc 1 (Qr4 (Q9 s.pa) (std.int (std.nth (std.cel (std.at_ (Q9 s.ct) (std.sub (std.len (Q9 s.ct)) 1))) 0)))) []:=cW2.le ⟨.inr (.inl ⟨rfl,_,by rw[cz];rfl⟩),.inl rfl,trivial⟩
   rw[if_neg Bool.false_ne_true];with_reducible refine cv8 Qr4 (Qv ev) (QqM s.o) (Q9 s.op) (Q9 s.ct) (Q9 s.pa) s.at_ s.last ?_
  case' true =>
   rw[if_pos rfl];with_reducible refine cv8 Qr4 (Qv ev) (QqM s.o) (Q9 s.op) (Q9 s.ct) (Q9 s.pa) s.at_ s.last ?_
  all_goals
   refine⟨fun h=>?_,fun h=>?_⟩
   ·have jL:i<n:=of_decide_eq_true h
    have hk:i.toNat<ev.length:=by have:=hn.eq;omega
    obtain⟨e,he⟩:=exq (ev[i.toNat])
    have j5:std.at_ (Qv ev) i=e.av:=by
     show(Qv ev).getD i.toNat .dead=_
     rw[getD_eq_getElem?_getD,Qv,getElem?_map,getElem?_eq_getElem hk,he];rfl
    have yu:(ev.map Evr.ev).drop i.toNat=e.ev::(ev.map Evr.ev).drop (i.toNat+1):=by
     rw[List.drop_eq_getElem_cons (by rw[length_map];exact hk),List.getElem_map,he]
    rw[yu]at hN hB2;rw[Qrk]at hB2;have ja:=Qrv ((ev.map Evr.ev).drop (i.toNat+1));have jI:al (i+1)=QqP s e.ev:=by rw[jH i jK jL,<-hs,getElem?_eq_getElem hk,he];rfl
    have nR:(std.all [std.hasI .i64 (std.nth (std.cel (std.at_ (Qv ev) i)) 0),std.hasI .i64 (std.nth (std.cel (std.at_ (Qv ev) i)) 1),std.hasL 1 (std.nth (std.cel (std.at_ (Qv ev) i)) 2)]).q:=by
     rw[j5];refine⟨rfl,rfl,?_,trivial⟩;show(std.hasL 1 e.ba).q
     unfold Evr.ba;split
     ·exact .inl rfl
     ·exact .inr rfl
    have hD:std.int (std.nth (std.cel (std.at_ (Qv ev) i)) 0)=e.do_:=by rw[j5];rfl
    have hK:std.int (std.nth (std.cel (std.at_ (Qv ev) i)) 1)=e.kind:=by rw[j5];rfl
    have hBb:std.lst (std.nth (std.cel (std.at_ (Qv ev) i)) 2)=Q2 e.ev.b:=by
     rw[j5];show Q2x e.ba=Q2 (e.b.getD []);unfold Evr.ba;cases e.b<;>rfl
    have eD:e.ev.do_=e.do_:=rfl;have eK:e.ev.kind=e.kind:=rfl;obtain⟨bb,pG⟩:=exq e.ev.b
    have xh:std.len (std.lst (std.nth (std.cel (std.at_ (Qv ev) i)) 2))=(bb.length:Int):=by
     rw[hBb,<-pG];show((Q2 bb).length:Int)=_
     rw[Q11]
    rw[<-pG]at hB2 hBb;unfold QqP at jI;rw[eD,eK,<-pG]at jI;rw[QqZ,eD]at hN
    have qAt:(std.inR .i64 (std.add s.at_ (std.len (std.lst (std.nth (std.cel (std.at_ (Qv ev) i)) 2))))).q:=by
     rw[xh];show -9223372036854775808<=s.at_+(bb.length:Int)/\s.at_+(bb.length:Int)<=9223372036854775807;omega
    have eAt:std.add s.at_ (std.len (std.lst (std.nth (std.cel (std.at_ (Qv ev) i)) 2)))=s.at_+(bb.length:Int):=by rw[xh];rfl
    refine⟨⟨jK,by show i<std.len (Qv ev);rw[jF];exact jL⟩,nR,qN9,fun h1=>?_,fun h1=>⟨fun h3=>?_,fun h3=>⟨fun h9=>?_,fun h9=>⟨fun ho=>?_,fun ho=>?_⟩⟩⟩⟩
    ·have e1:e.do_=1:=by rw[<-hD];exact eq_of_beq h1
     rw[if_pos e1,<-qq]at jI
     have eo:std.app (QqM s.o) [.agg [.slc 1 (Qr4 (Q9 s.pa) (std.int (std.nth (std.cel (std.at_ (Q9 s.ct) (std.sub (std.len (Q9 s.ct)) 1))) 0))),.val (.int .i64 s.at_),.val (.int .i64 0),.val (.int .i64 (-1)),.val (.int .i64 0),.val (.bool false),.val (.slice none 0 0)]]=QqM (al (i+1)).o:=by
      rw[jI,QrG,<-eW];rfl
     have ep:std.app (Q9 s.op) [.val (.int .i64 (std.len (QqM s.o)))]=Q9 (al (i+1)).op:=by
      rw[jI,Q4T];show Q9 s.op++[.val (.int .i64 ((QqM s.o).length:Int))]=_;rw[QqV];rfl
     have ec:std.app (std.setx (Q9 s.ct) (std.sub (std.len (Q9 s.ct)) 1) 0 [.val (.int .i64 (std.add (std.int (std.nth (std.cel (std.at_ (Q9 s.ct) (std.sub (std.len (Q9 s.ct)) 1))) 0)) 1))]) [.val (.int .i64 0)]=Q9 (al (i+1)).ct:=by
      rw[jI,eC,Q4T];rfl
     have ea:s.at_=(al (i+1)).at_:=by rw[jI]
     have el:s.last=(al (i+1)).last:=by rw[jI]
     have eq_:Qr4 (Q9 s.pa) (std.int (std.nth (std.cel (std.at_ (Q9 s.ct) (std.sub (std.len (Q9 s.ct)) 1))) 0))=Q9 (al (i+1)).pa:=by rw[jI,<-eW]
     have qb1:(std.bnd (std.setx (Q9 s.ct) (std.sub (std.len (Q9 s.ct)) 1) 0 [.val (.int .i64 (std.add (std.int (std.nth (std.cel (std.at_ (Q9 s.ct) (std.sub (std.len (Q9 s.ct)) 1))) 0)) 1))]) [.val (.int .i64 0)]).q:=by
      rw[eC];show(Q9 (QqY s.ct)).length+1<=1000000000
      rw[Q2w,hcal];omega
     refine⟨qN,⟨QmM k7,trivial⟩,cW2,qN,⟨QmM k7,trivial⟩,qC1,qN,qb1,?_,?_,qI jL,(i+1,true),⟨by show 0<=i+1;omega,by show i+1<=n;omega,fun h=>Bool.noConfusion h⟩,by show(n-(i+1)).toNat<(n-i).toNat;omega,[some 0,some 1,some 2],_,rfl,?_⟩
     ·show(Q9 s.op).length+1<=1000000000
      rw[Q2w,hA.op];omega
     ·show(QqM s.o).length+1<=1000000000
      rw[QqV];omega
     ·exact eq6 eo ep ec ea el eq_
    ·have e1:¬e.do_=1:=fun x=>by
      have h1:(std.int (std.nth (std.cel (std.at_ (Qv ev) i)) 0) == 1)=false:=h1;rw[hD,x]at h1;exact absurd h1 (by decide)
     have e3:e.do_=3:=by rw[<-hD];exact eq_of_beq h3
     rw[if_neg e1,if_pos e3]at jI hN;have jv:=hA.pa
     have jP:s.pa≠[]:=fun e=>by
      rw[e]at jv;have jv:0=d:=jv;have:=hN.1
      omega
     try exact absurd cz jP
     all_goals
      have yb:s.op.length≠0:=by rw[hA.op];have:=hN.1;omega
      have zO:=Qrq yb;obtain⟨pl,vv⟩:=exq (s.op.getLast?.getD 0);rw[<-vv]at zO;have za:=Ql3 zO
      have zV:0<=pl/\pl<s.o.length:=by
       cases hg:s.op.getLast? with
       |none=>exact absurd (congrArg List.length (List.getLast?_eq_none_iff.1 hg)) yb
       |some y =>
        rw[hg]at vv;rw[vv];exact hA.opr y (List.mem_of_getLast? hg)
      have hopl:=hA.op
      have qP:(std.inb (std.sub (std.len (Q9 s.op)) 1) (std.len (Q9 s.op))).q:=by
       show 0<=((Q9 s.op).length:Int)-1/\((Q9 s.op).length:Int)-1<((Q9 s.op).length:Int);rw[Q2w];omega
      have qP9:(std.inR .i64 (std.sub (std.len (Q9 s.op)) 1)).q:=by
       show -9223372036854775808<=((Q9 s.op).length:Int)-1/\((Q9 s.op).length:Int)-1<=9223372036854775807;rw[Q2w];omega
      have qPL:(std.inb (std.int (std.nth (std.cel (std.at_ (Q9 s.op) (std.sub (std.len (Q9 s.op)) 1))) 0)) (std.len (QqM s.o))).q:=by
       rw[za];show 0<=pl/\pl<((QqM s.o).length:Int);rw[QqV];exact zV
      have qPL2:∀off v,(std.inb (std.int (std.nth (std.cel (std.at_ (Q9 s.op) (std.sub (std.len (Q9 s.op)) 1))) 0)) (std.len (std.setx (QqM s.o) (std.int (std.nth (std.cel (std.at_ (Q9 s.op) (std.sub (std.len (Q9 s.op)) 1))) 0)) off v))).q:=fun off v=>by
       rw[za];show 0<=pl/\pl<((Qr8 (QqM s.o) pl.toNat off v).length:Int);rw[Qr0,QqV];exact zV
      rw[<-vv]at jI
      have eo:std.setx (std.setx (QqM s.o) (std.int (std.nth (std.cel (std.at_ (Q9 s.op) (std.sub (std.len (Q9 s.op)) 1))) 0)) 2 [.val (.int .i64 s.at_)]) (std.int (std.nth (std.cel (std.at_ (Q9 s.op) (std.sub (std.len (Q9 s.op)) 1))) 0)) 4 [.val (.int .i64 s.last)]=QqM (al (i+1)).o:=by
       rw[za,Qrl s.o pl 2 _ (fun x=>{ x with to:=s.at_ }) (fun x=>rfl) zV.1 zV.2,Qrl _ pl 4 _ (fun x=>{ x with out:=s.last }) (fun x=>rfl) zV.1 (by rw[List.length_modify];exact zV.2),List.modify_modify_eq,jI];rfl
      have ep:std.cut (Q9 s.op) 0 (std.sub (std.len (Q9 s.op)) 1)=Q9 (al (i+1)).op:=by rw[QrR,jI]
      have ec:std.cut (Q9 s.ct) 0 (std.sub (std.len (Q9 s.ct)) 1)=Q9 (al (i+1)).ct:=by rw[QrR,jI]
      have ea:s.at_=(al (i+1)).at_:=by rw[jI]
      have el:s.last=(al (i+1)).last:=by rw[jI]
      have eq_:std.cut (Q9 s.pa) 0 (std.sub (std.len (Q9 s.pa)) 1)=Q9 (al (i+1)).pa:=by rw[QrR,jI]
      refine⟨qP9,qP,⟨QmM zO,trivial⟩,qPL,qPL2 _ _,qP9,?_,?_,?_,?_,qI jL,(i+1,true),⟨by show 0<=i+1;omega,by show i+1<=n;omega,fun h=>Bool.noConfusion h⟩,by show(n-(i+1)).toNat<(n-i).toNat;omega,[some 0,some 1,some 2],_,rfl,?_⟩
      ·show(0:Int)<=0/\0<=((Q9 s.op).length:Int)-1/\((Q9 s.op).length:Int)-1<=((Q9 s.op).length:Int)
       rw[Q2w];omega
      ·show(0:Int)<=0/\0<=((Q9 s.ct).length:Int)-1/\((Q9 s.ct).length:Int)-1<=((Q9 s.ct).length:Int)
       rw[Q2w];omega
      ·show -9223372036854775808<=((Q9 s.pa).length:Int)-1/\((Q9 s.pa).length:Int)-1<=9223372036854775807
       rw[Q2w];omega
      ·show(0:Int)<=0/\0<=((Q9 s.pa).length:Int)-1/\((Q9 s.pa).length:Int)-1<=((Q9 s.pa).length:Int)
       rw[Q2w];have:=hN.1;omega
      ·exact eq6 eo ep ec ea el eq_
    ·have e1:¬e.do_=1:=fun x=>by
      have h1:(std.int (std.nth (std.cel (std.at_ (Qv ev) i)) 0) == 1)=false:=h1;rw[hD,x]at h1;exact absurd h1 (by decide)
     have e3:¬e.do_=3:=fun x=>by
      have h3:(std.int (std.nth (std.cel (std.at_ (Qv ev) i)) 0) == 3)=false:=h3;rw[hD,x]at h3;exact absurd h3 (by decide)
     rw[if_neg e1,if_neg e3]at jI;have e9:e.kind=9:=by rw[<-hK];exact eq_of_beq h9
     rw[if_pos e9,<-qq]at jI
     have eo:std.app (QqM s.o) [.agg [.slc 1 (Qr4 (Q9 s.pa) (std.int (std.nth (std.cel (std.at_ (Q9 s.ct) (std.sub (std.len (Q9 s.ct)) 1))) 0))),.val (.int .i64 s.at_),.val (.int .i64 (std.add s.at_ (std.len (std.lst (std.nth (std.cel (std.at_ (Qv ev) i)) 2))))),.val (.int .i64 0),.val (.int .i64 0),.val (.bool true),.slc 1 (std.lst (std.nth (std.cel (std.at_ (Qv ev) i)) 2))]]=QqM (al (i+1)).o:=by
      rw[jI,QrG,<-eW,eAt,hBb];rfl
     have ep:Q9 s.op=Q9 (al (i+1)).op:=by rw[jI]
     have ec:std.setx (Q9 s.ct) (std.sub (std.len (Q9 s.ct)) 1) 0 [.val (.int .i64 (std.add (std.int (std.nth (std.cel (std.at_ (Q9 s.ct) (std.sub (std.len (Q9 s.ct)) 1))) 0)) 1))]=Q9 (al (i+1)).ct:=by
      rw[jI,eC]
     have ea:std.add s.at_ (std.len (std.lst (std.nth (std.cel (std.at_ (Qv ev) i)) 2)))=(al (i+1)).at_:=by rw[jI];exact eAt
     have el:s.at_=(al (i+1)).last:=by rw[jI]
     have eqp:Q9 s.pa=Q9 (al (i+1)).pa:=by rw[jI]
     first
      |refine⟨qN,⟨QmM k7,trivial⟩,qAt,cW2,?_,qN,⟨QmM k7,trivial⟩,qC1,qN,qAt,qI jL,(i+1,false),⟨by show 0<=i+1;omega,by show i+1<=n;omega,fun _=>by show(al (i+1)).pa=[];rw[jI];exact cz⟩,by show(n-(i+1)).toNat<(n-i).toNat;omega,[some 0,some 1,some 2],_,rfl,?_⟩
      |refine⟨qN,⟨QmM k7,trivial⟩,qAt,cW2,?_,qN,⟨QmM k7,trivial⟩,qC1,qN,qAt,qI jL,(i+1,true),⟨by show 0<=i+1;omega,by show i+1<=n;omega,fun h=>Bool.noConfusion h⟩,by show(n-(i+1)).toNat<(n-i).toNat;omega,[some 0,some 1,some 2],_,rfl,?_⟩
     ·show(QqM s.o).length+1<=1000000000
      rw[QqV];omega
     ·exact eq6 eo ep ec ea el eqp
    ·have e1:¬e.do_=1:=fun x=>by
      have h1:(std.int (std.nth (std.cel (std.at_ (Qv ev) i)) 0) == 1)=false:=h1;rw[hD,x]at h1;exact absurd h1 (by decide)
     have e3:¬e.do_=3:=fun x=>by
      have h3:(std.int (std.nth (std.cel (std.at_ (Qv ev) i)) 0) == 3)=false:=h3;rw[hD,x]at h3;exact absurd h3 (by decide)
     rw[if_neg e1,if_neg e3]at jI
     have e9:¬e.kind=9:=fun x=>by
      have h9:(std.int (std.nth (std.cel (std.at_ (Qv ev) i)) 1) == 9)=false:=h9;rw[hK,x]at h9;exact absurd h9 (by decide)
     rw[if_neg e9]at jI
     have yb:s.op.length≠0:=fun e=>by
      have ho:0<((Q9 s.op).length:Int):=of_decide_eq_true ho;rw[Q2w,e]at ho;omega
     have gG:s.op≠[]:=fun e=>yb (by rw[e];rfl)
     have zO:=Qrq yb;obtain⟨pl,vv⟩:=exq (s.op.getLast?.getD 0);rw[<-vv]at zO;have za:=Ql3 zO
     have zV:0<=pl/\pl<s.o.length:=by
      cases hg:s.op.getLast? with
      |none=>exact absurd (congrArg List.length (List.getLast?_eq_none_iff.1 hg)) yb
      |some y =>
       rw[hg]at vv;rw[vv];exact hA.opr y (List.mem_of_getLast? hg)
     have hopl:=hA.op
     have qP:(std.inb (std.sub (std.len (Q9 s.op)) 1) (std.len (Q9 s.op))).q:=by
      show 0<=((Q9 s.op).length:Int)-1/\((Q9 s.op).length:Int)-1<((Q9 s.op).length:Int);rw[Q2w];omega
     have qP9:(std.inR .i64 (std.sub (std.len (Q9 s.op)) 1)).q:=by
      show -9223372036854775808<=((Q9 s.op).length:Int)-1/\((Q9 s.op).length:Int)-1<=9223372036854775807;rw[Q2w];omega
     have qPL:(std.inb (std.int (std.nth (std.cel (std.at_ (Q9 s.op) (std.sub (std.len (Q9 s.op)) 1))) 0)) (std.len (QqM s.o))).q:=by
      rw[za];show 0<=pl/\pl<((QqM s.o).length:Int);rw[QqV];exact zV
     have qPL2:∀off v,(std.inb (std.int (std.nth (std.cel (std.at_ (Q9 s.op) (std.sub (std.len (Q9 s.op)) 1))) 0)) (std.len (std.setx (QqM s.o) (std.int (std.nth (std.cel (std.at_ (Q9 s.op) (std.sub (std.len (Q9 s.op)) 1))) 0)) off v))).q:=fun off v=>by
      rw[za];show 0<=pl/\pl<((Qr8 (QqM s.o) pl.toNat off v).length:Int);rw[Qr0,QqV];exact zV
     have zr:=Qts zV.1 zV.2;rw[<-za]at zr;refine⟨qP9,qP,⟨QmM zO,trivial⟩,qPL,⟨QmM zr,trivial⟩,fun hi=>?_,fun hi=>?_⟩
     ·have hi:(s.o[pl.toNat]?.getD default).inn<0:=by
       have hi:std.int (std.nth (std.drp (std.cel (std.at_ (QqM s.o) (std.int (std.nth (std.cel (std.at_ (Q9 s.op) (std.sub (std.len (Q9 s.op)) 1))) 0)))) 3) 0)<0:=of_decide_eq_true hi;rw[Ql3 zr,za]at hi;exact hi
      rw[if_pos ⟨gG,by rw[<-vv];exact hi⟩,<-vv]at jI
      have eo:std.setx (std.setx (QqM s.o) (std.int (std.nth (std.cel (std.at_ (Q9 s.op) (std.sub (std.len (Q9 s.op)) 1))) 0)) 3 [.val (.int .i64 (std.add s.at_ (std.len (std.lst (std.nth (std.cel (std.at_ (Qv ev) i)) 2)))))]) (std.int (std.nth (std.cel (std.at_ (Q9 s.op) (std.sub (std.len (Q9 s.op)) 1))) 0)) 6 [.slc 1 (std.lst (std.nth (std.cel (std.at_ (Qv ev) i)) 2))]=QqM (al (i+1)).o:=by
       rw[za,eAt,hBb,Qrl s.o pl 3 _ (fun x=>{ x with inn:=s.at_+(bb.length:Int) }) (fun x=>rfl) zV.1 zV.2,Qrl _ pl 6 _ (fun x=>{ x with tag:=some bb }) (fun x=>rfl) zV.1 (by rw[List.length_modify];exact zV.2),List.modify_modify_eq,jI];rfl
      have ep:Q9 s.op=Q9 (al (i+1)).op:=by rw[jI]
      have ec:Q9 s.ct=Q9 (al (i+1)).ct:=by rw[jI]
      have ea:std.add s.at_ (std.len (std.lst (std.nth (std.cel (std.at_ (Qv ev) i)) 2)))=(al (i+1)).at_:=by rw[jI];exact eAt
      have el:s.at_=(al (i+1)).last:=by rw[jI]
      have eqp:Q9 s.pa=Q9 (al (i+1)).pa:=by rw[jI]
      first
       |refine⟨qP9,qP,⟨QmM zO,trivial⟩,qAt,qPL,qP9,qP,⟨QmM zO,trivial⟩,qPL2 _ _,qAt,qI jL,(i+1,false),⟨by show 0<=i+1;omega,by show i+1<=n;omega,fun _=>by show(al (i+1)).pa=[];rw[jI];exact cz⟩,by show(n-(i+1)).toNat<(n-i).toNat;omega,[some 0,some 1,some 2],_,rfl,?_⟩
       |refine⟨qP9,qP,⟨QmM zO,trivial⟩,qAt,qPL,qP9,qP,⟨QmM zO,trivial⟩,qPL2 _ _,qAt,qI jL,(i+1,true),⟨by show 0<=i+1;omega,by show i+1<=n;omega,fun h=>Bool.noConfusion h⟩,by show(n-(i+1)).toNat<(n-i).toNat;omega,[some 0,some 1,some 2],_,rfl,?_⟩
      exact eq6 eo ep ec ea el eqp
     ·have hi:¬(s.o[pl.toNat]?.getD default).inn<0:=by
       have hi:¬std.int (std.nth (std.drp (std.cel (std.at_ (QqM s.o) (std.int (std.nth (std.cel (std.at_ (Q9 s.op) (std.sub (std.len (Q9 s.op)) 1))) 0)))) 3) 0)<0:=of_decide_eq_false hi;rw[Ql3 zr,za]at hi;exact hi
      rw[if_neg (fun h=>hi (by rw[vv];exact h.2))]at jI
      have eo:QqM s.o=QqM (al (i+1)).o:=by rw[jI]
      have ep:Q9 s.op=Q9 (al (i+1)).op:=by rw[jI]
      have ec:Q9 s.ct=Q9 (al (i+1)).ct:=by rw[jI]
      have ea:std.add s.at_ (std.len (std.lst (std.nth (std.cel (std.at_ (Qv ev) i)) 2)))=(al (i+1)).at_:=by rw[jI];exact eAt
      have el:s.at_=(al (i+1)).last:=by rw[jI]
      have eqp:Q9 s.pa=Q9 (al (i+1)).pa:=by rw[jI]
      first
       |refine⟨qAt,qI jL,(i+1,false),⟨by show 0<=i+1;omega,by show i+1<=n;omega,fun _=>by show(al (i+1)).pa=[];rw[jI];exact cz⟩,by show(n-(i+1)).toNat<(n-i).toNat;omega,[some 0,some 1,some 2],_,rfl,?_⟩
       |refine⟨qAt,qI jL,(i+1,true),⟨by show 0<=i+1;omega,by show i+1<=n;omega,fun h=>Bool.noConfusion h⟩,by show(n-(i+1)).toNat<(n-i).toNat;omega,[some 0,some 1,some 2],_,rfl,?_⟩
      exact eq6 eo ep ec ea el eqp
    ·have e1:¬e.do_=1:=fun x=>by
      have h1:(std.int (std.nth (std.cel (std.at_ (Qv ev) i)) 0) == 1)=false:=h1;rw[hD,x]at h1;exact absurd h1 (by decide)
     have e3:¬e.do_=3:=fun x=>by
      have h3:(std.int (std.nth (std.cel (std.at_ (Qv ev) i)) 0) == 3)=false:=h3;rw[hD,x]at h3;exact absurd h3 (by decide)
     rw[if_neg e1,if_neg e3]at jI
     have e9:¬e.kind=9:=fun x=>by
      have h9:(std.int (std.nth (std.cel (std.at_ (Qv ev) i)) 1) == 9)=false:=h9;rw[hK,x]at h9;exact absurd h9 (by decide)
     rw[if_neg e9]at jI
     have gG:s.op=[]:=by
      have ho:¬0<((Q9 s.op).length:Int):=of_decide_eq_false ho;rw[Q2w]at ho;exact List.eq_nil_of_length_eq_zero (by omega)
     rw[if_neg (fun h=>h.1 gG)]at jI
     have eo:QqM s.o=QqM (al (i+1)).o:=by rw[jI]
     have ep:Q9 s.op=Q9 (al (i+1)).op:=by rw[jI]
     have ec:Q9 s.ct=Q9 (al (i+1)).ct:=by rw[jI]
     have ea:std.add s.at_ (std.len (std.lst (std.nth (std.cel (std.at_ (Qv ev) i)) 2)))=(al (i+1)).at_:=by rw[jI];exact eAt
     have el:s.at_=(al (i+1)).last:=by rw[jI]
     have eqp:Q9 s.pa=Q9 (al (i+1)).pa:=by rw[jI]
     first
      |refine⟨qAt,qI jL,(i+1,false),⟨by show 0<=i+1;omega,by show i+1<=n;omega,fun _=>by show(al (i+1)).pa=[];rw[jI];exact cz⟩,by show(n-(i+1)).toNat<(n-i).toNat;omega,[some 0,some 1,some 2],_,rfl,?_⟩
      |refine⟨qAt,qI jL,(i+1,true),⟨by show 0<=i+1;omega,by show i+1<=n;omega,fun h=>Bool.noConfusion h⟩,by show(n-(i+1)).toNat<(n-i).toNat;omega,[some 0,some 1,some 2],_,rfl,?_⟩
     exact eq6 eo ep ec ea el eqp
   ·have jL:i=n:=by
     have h:¬i<n:=of_decide_eq_false h;omega
    subst jL;rw[if_pos trivial];with_reducible refine cv7 (Qv ev) (QqM s.o) (Q9 s.op) (Q9 s.ct) (Q9 s.pa) s.at_ s.last ?_
    rw[<-hs];exact .pure rfl (.inl rfl)
end
section
open Tryz
def Qvw(SB T:List AV)(WV:AV)(PS LL:List AV)(C WA:List AV)(is:Bool)(O:List AV):Nat->List AV->List Ob->Option (AV×List Ob):=fun g _ _=>match g with
 |11=>some (.slc 1 SB,[])
 |13=>some (.agg T,[])
 |14=>some (WV,[])
 |27=>some (.slc 1 PS,[])
 |28=>some (.slc 7 LL,[])
 |29=>some (.agg C,[])
 |30=>some (.slc 5 WA,[])
 |25=>some (.tup [.slc 1 O,.val (.bool is)],[])
 |26=>some (.val (.bool true),[])
 |20=>some (.val (.bool true),[])
 |_=>none
def hdP(x:El):List (List Int):=hd0 x.path
theorem Qvq(B SB TR TO D OP E2:List AV)(l:List Node)(tk tm rt:Int)(P:List (List Int))(L:List El)(ws:List Cur)
  (hL:L.length<=1000000) (hp:∀x∈L,x.path.length<=1000000/\x.path≠[]) (hP:P=L.flatMap hdP) (hPl:P.length<=1000000) (hws:ws.length<=1000000) (hwP:(ws.flatMap (ofL l rt)).length=P.length)
  (cS:BCall prog 11 [.slc 1 B] [] (.slc 1 SB) [])
  (cP:BCall prog 13 [.slc 1 SB] [] (.agg [.val (.int .i64 tk),.val (.int .i64 tm),.slc 1 TR,.slc 1 TO,.ref [.slc 6 (Q3 l)],.val (.int .i64 rt),.slc 3 D]) []) (cR:BCall prog 14 [.slc 1 SB] [] (.ref [.slc 1 SB,.val (.int .i64 tk),.val (.int .i64 tm),.slc 1 TR,.slc 1 TO,.slc 1 OP,.slc 3 E2,.slc 3 D]) [])
  (cA1:BCall prog 27 [.agg [.val (.int .i64 tk),.val (.int .i64 tm),.slc 1 TR,.slc 1 TO,.ref [.slc 6 (Q3 l)],.val (.int .i64 rt),.slc 3 D]] [] (.slc 1 (QuS P)) []) (cA2:BCall prog 28 [.ref [.slc 1 SB,.val (.int .i64 tk),.val (.int .i64 tm),.slc 1 TR,.slc 1 TO,.slc 1 OP,.slc 3 E2,.slc 3 D]] [] (.slc 7 (QqM L)) [])
  (cC:BCall prog 29 [.agg [.val (.int .i64 tk),.val (.int .i64 tm),.slc 1 TR,.slc 1 TO,.ref [.slc 6 (Q3 l)],.val (.int .i64 rt),.slc 3 D]] [] (.agg [.opt (.ref [.slc 6 (Q3 l)]),.val (.int .i64 rt),.val (.int .i64 0),.val (.int .i64 0),.opt (.val (.pointer none))]) [])
  (cW:BCall prog 30 [.agg [.opt (.ref [.slc 6 (Q3 l)]),.val (.int .i64 rt),.val (.int .i64 0),.val (.int .i64 0),.opt (.val (.pointer none))],.val (.int .i64 1000)] [] (.slc 5 (QW (Q3 l) ws)) [])
  (cO:∀x∈ws,BCall prog 25 [.agg [.val (.int .i64 tk),.val (.int .i64 tm),.slc 1 TR,.slc 1 TO,.ref [.slc 6 (Q3 l)],.val (.int .i64 rt),.slc 3 D],.agg (x.el (Q3 l))] [] (.tup [.slc 1 (Q9 (ofO l rt x).1),.val (.bool (ofO l rt x).2)]) [])
  (cA:BCall prog 20 [] [] (.val (.bool true)) []) :
  BCall prog 5 [.slc 1 B] [] (.val (.bool true)) []:=by
 obtain⟨n,hn⟩:=QE L;have qR:std.len (QqM L)=n:=by show((QqM L).length:Int)=n;rw[QqV,hn.eq]
 obtain⟨np,nS⟩:=QE P;have xi:std.len (QuS P)=np:=by show((QuS P).length:Int)=np;rw[Qv6,nS.eq]
 have jn:0<=n/\n<=1000000:=by rw[hn.eq];omega
 have hnp0:0<=np/\np<=1000000:=by rw[nS.eq];omega
 refine fnN (Qvw SB ([.val (.int .i64 tk),.val (.int .i64 tm),.slc 1 TR,.slc 1 TO,.ref [.slc 6 (Q3 l)],.val (.int .i64 rt),.slc 3 D]) (.ref [.slc 1 SB,.val (.int .i64 tk),.val (.int .i64 tm),.slc 1 TR,.slc 1 TO,.slc 1 OP,.slc 3 E2,.slc 3 D]) (QuS P) (QqM L) ([.opt (.ref [.slc 6 (Q3 l)]),.val (.int .i64 rt),.val (.int .i64 0),.val (.int .i64 0),.opt (.val (.pointer none))]) (QW (Q3 l) ws) false []) func5 rfl fun _ _=>?_
 with_reducible refine cv4 (QuS P) (QqM L) (QW (Q3 l) ws) (Q3 l) ?_
 refine⟨cS,cP,cR,cA1,cA2,?_⟩;refine Q1h (Qvw SB ([.val (.int .i64 tk),.val (.int .i64 tm),.slc 1 TR,.slc 1 TO,.ref [.slc 6 (Q3 l)],.val (.int .i64 rt),.slc 3 D]) (.ref [.slc 1 SB,.val (.int .i64 tk),.val (.int .i64 tm),.slc 1 TR,.slc 1 TO,.slc 1 OP,.slc 3 E2,.slc 3 D]) (QuS P) (QqM L) ([.opt (.ref [.slc 6 (Q3 l)]),.val (.int .i64 rt),.val (.int .i64 0),.val (.int .i64 0),.opt (.val (.pointer none))]) (QW (Q3 l) ws) false []) (Int×Int) (fun x=>⟨[(3,.box 0 0),(5,.slc 1 (QuS P)),(6,.val (.int .i64 x.2)),(23,.slc 7 (QqM L)),(24,.val (.int .i64 n)),(25,.val (.int .i64 x.1))],[.box [.val (.int .i64 tk),.val (.int .i64 tm),.slc 1 TR,.slc 1 TO,.ref [.slc 6 (Q3 l)],.val (.int .i64 rt),.slc 3 D]]⟩) (fun x=>0<=x.1/\x.1<=n/\x.2=(((L.take x.1.toNat).flatMap hdP).length:Nat)) (fun x=>(n-x.1).toNat) (0,0) ?_ ?_ ?_
 ·exact⟨le_refl 0,jn.1,rfl⟩
 ·refine⟨[some 0],_,rfl,?_⟩
  exact eq1 qR
 ·rintro⟨i,nn⟩ ⟨jK,qh,yg⟩
  have jK:0<=i:=jK;have qh:i<=n:=qh;have yg:nn=(((L.take i.toNat).flatMap hdP).length:Nat):=yg;simp only
  with_reducible refine cv4 (QuS P) (QqM L) (QW (Q3 l) ws) (Q3 l) ?_
  refine⟨fun h=>?_,fun h=>?_⟩
  ·have jL:i<n:=of_decide_eq_true h
   have hk:i.toNat<L.length:=by have:=hn.eq;omega
   obtain⟨x,hx⟩:=exq (L[i.toNat])
   have ha:std.at_ (QqM L) i=x.av:=by
    show(QqM L).getD i.toNat .dead=_
    rw[getD_eq_getElem?_getD,QqM,getElem?_map,getElem?_eq_getElem hk,hx];rfl
   have hxp:=hp x (by rw[hx];exact List.getElem_mem hk)
   have nR:(std.all [std.hasL 1 (std.nth (std.cel (std.at_ (QqM L) i)) 0),std.hasI .i64 (std.nth (std.cel (std.at_ (QqM L) i)) 1),std.hasI .i64 (std.nth (std.cel (std.at_ (QqM L) i)) 2),std.hasI .i64 (std.nth (std.cel (std.at_ (QqM L) i)) 3),std.hasI .i64 (std.nth (std.cel (std.at_ (QqM L) i)) 4),std.hasB (std.nth (std.cel (std.at_ (QqM L) i)) 5),std.hasL 1 (std.nth (std.cel (std.at_ (QqM L) i)) 6)]).q:=by
    rw[ha];refine⟨.inl rfl,rfl,rfl,rfl,rfl,rfl,?_,trivial⟩;show(std.hasL 1 (QtI x.tag)).q
    unfold QtI;split
    ·exact .inl rfl
    ·exact .inr rfl
   have e0:std.lst (std.nth (std.cel (std.at_ (QqM L) i)) 0)=Q9 x.path:=by rw[ha];rfl
   obtain⟨p0,ps,hP0⟩:∃p0 ps,x.path=p0::ps:=by
    cases hq:x.path with
    |nil=>exact absurd hq hxp.2
    |cons a b=>exact⟨a,b,rfl⟩
   have jt:hdP x=if p0=0 then [ps]else []:=by
    rw[hdP,hP0];unfold hd0;split
    ·rename_i h9;injection h9 with h9 h8;rw[if_pos h9,h8]
    ·rename_i h9;rw[if_neg (fun e=>h9 ps (by rw[e]))]
   rw[hP0]at e0 hxp;have jv:=hxp.1;rw[length_cons]at jv
   have vM:(L.take (i+1).toNat).flatMap hdP=(L.take i.toNat).flatMap hdP++hdP x:=by
    rw[show(i+1).toNat=i.toNat+1 by omega,take_add_one,getElem?_eq_getElem hk,List.flatMap_append,hx];simp
   have hPs:P=(L.take i.toNat).flatMap hdP++(hdP x++(L.drop (i+1).toNat).flatMap hdP):=by
    rw[<-List.append_assoc,<-vM,<-List.flatMap_append,List.take_append_drop];exact hP
   have el:std.len (std.lst (std.nth (std.cel (std.at_ (QqM L) i)) 0))=(ps.length:Int)+1:=by
    rw[e0];show((Q9 (p0::ps)).length:Int)=_
    rw[Q2w,length_cons];omega
   have q0:(std.inb 0 (std.len (std.lst (std.nth (std.cel (std.at_ (QqM L) i)) 0)))).q:=by
    rw[el];show(0:Int)<=0/\0<(ps.length:Int)+1
    omega
   have q1:(std.cutok 1 (std.len (std.lst (std.nth (std.cel (std.at_ (QqM L) i)) 0))) (std.len (std.lst (std.nth (std.cel (std.at_ (QqM L) i)) 0)))).q:=by
    rw[el];show(0:Int)<=1/\(1:Int)<=(ps.length:Int)+1/\(ps.length:Int)+1<=(ps.length:Int)+1
    omega
   have eh:std.nth (std.cel (std.at_ (std.lst (std.nth (std.cel (std.at_ (QqM L) i)) 0)) 0)) 0=.val (.int .i64 p0):=by rw[e0];rfl
   have ec:std.cut (std.lst (std.nth (std.cel (std.at_ (QqM L) i)) 0)) 1 (std.len (std.lst (std.nth (std.cel (std.at_ (QqM L) i)) 0)))=Q9 ps:=by
    rw[el,e0];show List.take ((ps.length:Int)+1-1).toNat (List.drop (1:Int).toNat (Q9 (p0::ps)))=_;rw[show((ps.length:Int)+1-1).toNat=(Q9 ps).length by rw[Q2w];omega]
    exact List.take_length
   have qI:(std.inR .i64 (std.add i 1)).q:=by
    show std.inR .i64 (i+1);rw[Qhr];omega
   refine⟨⟨jK,by show i<std.len (QqM L);rw[qR];exact jL⟩,nR,q0,⟨QmM eh,trivial⟩,fun h1=>?_,fun h1=>?_⟩
   ·have h1:¬p0=0:=by
     have h1:(!(std.int (std.nth (std.cel (std.at_ (std.lst (std.nth (std.cel (std.at_ (QqM L) i)) 0)) 0)) 0) == 0))=true:=h1;rw[Ql3 eh]at h1;simpa using h1
    rw[if_neg h1]at jt;rw[jt,append_nil]at vM;refine⟨qI,(i+1,nn),⟨by show 0<=i+1;omega,by show i+1<=n;omega,by show nn=(((L.take (i+1).toNat).flatMap hdP).length:Nat);rw[vM];exact yg⟩,by show(n-(i+1)).toNat<(n-i).toNat;omega,[some 0],_,rfl,?_⟩
    exact eq0
   ·have h1:p0=0:=by
     have h1:(!(std.int (std.nth (std.cel (std.at_ (std.lst (std.nth (std.cel (std.at_ (QqM L) i)) 0)) 0)) 0) == 0))=false:=h1;rw[Ql3 eh]at h1;simpa using h1
    rw[if_pos h1]at jt;rw[jt]at vM hPs;have hlP:=congrArg List.length hPs;rw[length_append,length_append,length_singleton]at hlP;have hnp2:=nS.eq;have jA:nn<np:=by omega
    have hPn:P[nn.toNat]?=some ps:=by
     rw[hPs,yg,Int.toNat_natCast,List.getElem?_append_right (Nat.le_refl _),Nat.sub_self];rfl
    have cz:std.at_ (QuS P) nn=.slc 1 (Q9 ps):=by
     show(QuS P).getD nn.toNat .dead=_
     rw[getD_eq_getElem?_getD,QuS,getElem?_map,hPn];rfl
    have g0:std.leI (std.len (QuS P)) nn=false:=by rw[xi];exact decide_eq_false (by omega)
    have e9:std.lst (std.nth (std.cel (std.at_ (QuS P) nn)) 0)=Q9 ps:=by rw[cz];rfl
    have hqL:(std.hasL 1 (std.nth (std.cel (std.at_ (QuS P) nn)) 0)).q:=by rw[cz];exact .inl rfl
    have cM:=Qtl ps ps (by omega) (by omega)
    rw[decide_eq_true rfl]at cM;have cM2:BCall prog 26 [.slc 1 (std.lst (std.nth (std.cel (std.at_ (QuS P) nn)) 0)),.slc 1 (std.cut (std.lst (std.nth (std.cel (std.at_ (QqM L) i)) 0)) 1 (std.len (std.lst (std.nth (std.cel (std.at_ (QqM L) i)) 0))))] [] (.val (.bool true)) []:=by rw[ec,e9];exact cM
    refine⟨fun h2=>absurd (g0.symm.trans h2) Bool.noConfusion,fun _=>⟨⟨by show 0<=nn;omega,by show nn<std.len (QuS P);rw[xi];exact jA⟩,⟨hqL,trivial⟩,q1,cM2,fun h=>absurd (show false=true from h) Bool.noConfusion,fun _=>⟨?_,qI,(i+1,nn+1),⟨by show 0<=i+1;omega,by show i+1<=n;omega,?_⟩,by show(n-(i+1)).toNat<(n-i).toNat;omega,[some 0],_,rfl,?_⟩⟩⟩
    ·show std.inR .i64 (nn+1)
     rw[Qhr];omega
    ·show nn+1=(((L.take (i+1).toNat).flatMap hdP).length:Nat)
     rw[vM,length_append,length_singleton];omega
    ·exact eq0
  ·have jL:i=n:=by
    have h:¬i<n:=of_decide_eq_false h;omega
   have hnn2:nn=np:=by
    rw[yg,List.take_of_length_le (by have:=hn.eq;omega),<-hP];exact nS.eq.symm
   subst hnn2;rw[if_pos trivial];obtain⟨nw,xj⟩:=QE ws;have xg:std.len (QW (Q3 l) ws)=nw:=by show((QW (Q3 l) ws).length:Int)=nw;rw[Q3q,xj.eq]
   have hnw0:0<=nw/\nw<=1000000:=by rw[xj.eq];omega
   clear yg;with_reducible refine cv4 (QuS P) (QqM L) (QW (Q3 l) ws) (Q3 l) ?_
   refine⟨cC,cW,?_⟩;refine Q46 (cs:=(fun x:Int×Int=>Qvw SB ([.val (.int .i64 tk),.val (.int .i64 tm),.slc 1 TR,.slc 1 TO,.ref [.slc 6 (Q3 l)],.val (.int .i64 rt),.slc 3 D]) (.ref [.slc 1 SB,.val (.int .i64 tk),.val (.int .i64 tm),.slc 1 TR,.slc 1 TO,.slc 1 OP,.slc 3 E2,.slc 3 D]) (QuS P) (QqM L) ([.opt (.ref [.slc 6 (Q3 l)]),.val (.int .i64 rt),.val (.int .i64 0),.val (.int .i64 0),.opt (.val (.pointer none))]) (QW (Q3 l) ws) (ofO l rt (ws[x.1.toNat]?.getD (.root 0))).2 (Q9 (ofO l rt (ws[x.1.toNat]?.getD (.root 0))).1))) (ord:=fun _=>.nil) Q6k (by kernel_rfl) (by kernel_rfl) (by kernel_rfl) (X:=Int×Int) (fun x=>⟨[(3,.box 0 0),(5,.slc 1 (QuS P)),(6,.val (.int .i64 nn)),(9,.val (.int .i64 x.2)),(54,.slc 5 (QW (Q3 l) ws)),(55,.val (.int .i64 nw)),(56,.val (.int .i64 x.1))],[.box [.val (.int .i64 tk),.val (.int .i64 tm),.slc 1 TR,.slc 1 TO,.ref [.slc 6 (Q3 l)],.val (.int .i64 rt),.slc 3 D]]⟩) (fun x=>0<=x.1/\x.1<=nw/\x.2=(((ws.take x.1.toNat).flatMap (ofL l rt)).length:Nat)) (fun x=>(nw-x.1).toNat) (0,0) ?_ ?_ ?_
   ·exact⟨le_refl 0,hnw0.1,rfl⟩
   ·refine⟨[some 0],_,rfl,?_⟩
    exact eq1 xg
   ·rintro⟨j,kk⟩ ⟨z9,vj,vm⟩
    have z9:0<=j:=z9;have vj:j<=nw:=vj;have vm:kk=(((ws.take j.toNat).flatMap (ofL l rt)).length:Nat):=vm
    have yJ:kk<=1000000:=by
     have h9:∀zs:List Cur,(zs.flatMap (ofL l rt)).length<=zs.length:=fun zs=>by
      induction zs with
      |nil=>exact Nat.le_refl _
      |cons z zs ih =>
       have:(ofL l rt z).length<=1:=by unfold ofL;split<;>simp
       rw[List.flatMap_cons,length_append,length_cons];omega
     have:=h9 (ws.take j.toNat)
     rw[List.length_take]at this;omega
    obtain⟨y,hy⟩:=exq (ws[j.toNat]?.getD (.root 0));simp only
    rw[<-hy];obtain⟨O,hO⟩:=exq (Q9 (ofO l rt y).1);obtain⟨is,cy⟩:=exq ((ofO l rt y).2);rw[<-hO,<-cy];with_reducible refine cv4 (QuS P) (QqM L) (QW (Q3 l) ws) (Q3 l) ?_
    refine⟨fun h=>?_,fun h=>?_⟩
    ·have gO:j<nw:=of_decide_eq_true h
     have jf:j.toNat<ws.length:=by have:=xj.eq;omega
     have yf:y=ws[j.toNat]:=by rw[hy,getElem?_eq_getElem jf];rfl
     have j5:std.at_ (QW (Q3 l) ws) j=.agg (y.el (Q3 l)):=by
      show(QW (Q3 l) ws).getD j.toNat .dead=_
      rw[getD_eq_getElem?_getD,QW,getElem?_map,getElem?_eq_getElem jf,yf];rfl
     have hUy:Q56 (.opt (upO (Q3 l) y)):=QcJ _ _
     have hY0:(std.all [std.hasP (std.nth (std.cel (std.at_ (QW (Q3 l) ws) j)) 0),std.hasI .i64 (std.nth (std.cel (std.at_ (QW (Q3 l) ws) j)) 1),std.hasI .i64 (std.nth (std.cel (std.at_ (QW (Q3 l) ws) j)) 2),std.hasI .i64 (std.nth (std.cel (std.at_ (QW (Q3 l) ws) j)) 3),std.hasP (std.nth (std.cel (std.at_ (QW (Q3 l) ws) j)) 4)]).q:=by
      rw[j5];exact⟨trivial,rfl,rfl,rfl,hUy,trivial⟩
     have cO2:BCall prog 25 [.agg [.val (.int .i64 tk),.val (.int .i64 tm),.slc 1 TR,.slc 1 TO,.ref [.slc 6 (Q3 l)],.val (.int .i64 rt),.slc 3 D],.agg [.opt (std.uno (std.nth (std.cel (std.at_ (QW (Q3 l) ws) j)) 0)),.val (.int .i64 (std.int (std.nth (std.cel (std.at_ (QW (Q3 l) ws) j)) 1))),.val (.int .i64 (std.int (std.nth (std.cel (std.at_ (QW (Q3 l) ws) j)) 2))),.val (.int .i64 (std.int (std.nth (std.cel (std.at_ (QW (Q3 l) ws) j)) 3))),.opt (std.uno (std.nth (std.cel (std.at_ (QW (Q3 l) ws) j)) 4))]] [] (.tup [.slc 1 O,.val (.bool is)]) []:=by
      rw[j5,hO,cy];exact cO y (by rw[yf];exact List.getElem_mem jf)
     have vM:(ws.take (j+1).toNat).flatMap (ofL l rt)=(ws.take j.toNat).flatMap (ofL l rt)++ofL l rt y:=by
      rw[show(j+1).toNat=j.toNat+1 by omega,take_add_one,getElem?_eq_getElem jf,List.flatMap_append,yf];simp
     have qJ:(std.inR .i64 (std.add j 1)).q:=by
      show std.inR .i64 (j+1);rw[Qhr];omega
     refine⟨⟨z9,by show j<std.len (QW (Q3 l) ws);rw[xg];exact gO⟩,hY0,cO2,fun h2=>?_,fun h2=>?_⟩
     ·have e1:ofL l rt y=[(ofO l rt y).1]:=by rw[ofL,<-cy,h2];rfl
      rw[e1]at vM;refine⟨?_,qJ,(j+1,kk+1),⟨by show 0<=j+1;omega,by show j+1<=nw;omega,?_⟩,by show(nw-(j+1)).toNat<(nw-j).toNat;omega,[some 0],_,rfl,?_⟩
      ·show std.inR .i64 (kk+1)
       rw[Qhr];omega
      ·show kk+1=(((ws.take (j+1).toNat).flatMap (ofL l rt)).length:Nat)
       rw[vM,length_append,length_singleton];omega
      ·exact eq0
     ·have e1:ofL l rt y=[]:=by rw[ofL,<-cy,h2];rfl
      rw[e1,append_nil]at vM;refine⟨qJ,(j+1,kk),⟨by show 0<=j+1;omega,by show j+1<=nw;omega,by show kk=(((ws.take (j+1).toNat).flatMap (ofL l rt)).length:Nat);rw[vM];exact vm⟩,by show(nw-(j+1)).toNat<(nw-j).toNat;omega,[some 0],_,rfl,?_⟩
      exact eq0
    ·have gO:j=nw:=by
      have h:¬j<nw:=of_decide_eq_false h;omega
     have nT:kk=nn:=by
      rw[vm,List.take_of_length_le (by have:=xj.eq;omega),hwP];exact nS.eq.symm
     rw[nT,if_pos trivial];have g1:std.eqI nn (std.len (QuS P))=true:=by rw[xi];exact beq_self_eq_true nn
     have g2:std.eqI nn nn=true:=beq_self_eq_true nn;with_reducible refine cv4 (QuS P) (QqM L) (QW (Q3 l) ws) (Q3 l) ?_
     exact⟨fun _=>⟨fun _=>⟨cA,.pure rfl (.inl rfl)⟩,fun h=>absurd (g2.symm.trans h) Bool.noConfusion⟩,fun h=>absurd (g1.symm.trans h) Bool.noConfusion⟩
end
def ElS(l:List Node)(n:Int):Prop:=Q1f l n=21->∃k0 r kl,(Qn l n).kids=k0::(r++[kl])/\Q1f l k0=8/\(Q1f l kl=22\/Q1f l kl=10)
def StS(l:List Node)(y:Opn):Prop:=∃k0 r,y.kids=k0::r/\Q1f l k0=8
theorem StS.old{l:List Node}{y:Opn}(hr:InR l y.kids)(hs:StS l y)(x:Node):StS (l++[x]) y:=by
 obtain⟨k0,r,hk,h8⟩:=hs;have:=hr k0 (by rw[hk];simp)
 exact⟨k0,r,hk,by rw[Qqd this.1 this.2];exact h8⟩
theorem Qrz{l:List Node}(h:Wf l)(he:∀n:Int,0<=n->n<l.length->ElS l n){x:Node}(hx:ElS (l++[x]) l.length):∀n:Int,0<=n->n<(l++[x]).length->ElS (l++[x]) n:=fun n h0 h1=>by
 simp only[length_append,length_singleton]at h1;by_cases h2:n<l.length
 ·intro hk
  rw[Qqd h0 h2]at hk;obtain⟨k0,r,kl,e1,e2,e3⟩:=he n h0 h2 hk;have hr:∀k∈(Qn l n).kids,0<=k/\k<l.length:=fun k hk=>by have:=h n h0 h2 k hk;omega
  have q1:=hr k0 (by rw[e1];simp)
  have q2:=hr kl (by rw[e1];simp)
  rw[Q43 h0 h2];exact⟨k0,r,kl,e1,by rw[Qqd q1.1 q1.2];exact e2,by rw[Qqd q2.1 q2.2];exact e3⟩
 ·obtain rfl:n=l.length:=by omega
  exact hx
theorem QrI{l:List Node}{x:Node}(hk:x.kind≠21):ElS (l++[x]) l.length:=fun h=>by
 rw[Qfc]at h;exact absurd h hk
structure ShM (m:Mk):Prop where
 el:∀n:Int,0<=n->n<m.n.length->ElS m.n n
 st:∀y∈m.s.drop 1,StS m.n y
section
variable {m:Mk}{X:List UInt8}{B D:Nat}
theorem ShM.wrong(h:ShM m)(t:Txt)(d f u:Int):ShM (QV t d f u m):=⟨h.el,h.st⟩
theorem ShM.leaf(h:MkInv m X B D)(hc:ShM m){kind:Int}(hk:kind≠21)(bs:List UInt8):ShM (Q3g m.n.length (Q20 (QI kind bs) m)):=by
 obtain⟨s0,qa⟩:=Q2r h.s1;generalize QZ m.s=y at qa;have hr:=h.rng;have jH:=hc.st;rw[qa]at hr jH;refine⟨Qrz h.ar.wf hc.el (QrI hk),?_⟩;show ∀z∈(Q2k m.n.length m.s).drop 1,StS (m.n++[QI kind bs]) z;rw[qa,Q2D];intro z hz;rcases Qqa.1 hz with hz|⟨jP,rfl⟩
 ·exact(jH z (Qqa.2 (.inl hz))).old (hr z (mem_append_left _ (List.mem_of_mem_drop hz))) _
 ·obtain⟨k0,r,e1,e2⟩:=(jH y (Qqa.2 (.inr ⟨jP,rfl⟩))).old (hr y (by simp)) (QI kind bs)
  exact⟨k0,r++[(m.n.length:Int)],by show y.kids++_=_;rw[e1];rfl,e2⟩
theorem ShM.push(h:MkInv m X B D)(hc:ShM m)(bs:List UInt8)(nm:List Int):ShM (Q3g m.n.length (Q20 (QI 8 bs) { m with s:=m.s++[⟨nm,[]⟩] })):=by
 refine⟨Qrz h.ar.wf hc.el (QrI (by show(8:Int)≠21;decide)),?_⟩
 show ∀z∈(Q2k m.n.length (m.s++[⟨nm,[]⟩])).drop 1,StS (m.n++[QI 8 bs]) z;rw[Q2D];intro z hz;rcases Qqa.1 hz with hz|⟨jP,rfl⟩
 ·exact(hc.st z hz).old (h.rng z (List.mem_of_mem_drop hz)) _
 ·exact⟨m.n.length,[],rfl,Qfc⟩
theorem ShM.shut(h:MkInv m X B D)(hc:ShM m)(hs:2<=m.s.length){kind:Int}(bs:List UInt8)(hk:kind=22\/kind=10):ShM (Q22 m.n.length (Q20 (QI kind bs) m)):=by
 obtain⟨s0,y,jM⟩:=QhW hs;generalize QZ m.s=x at jM;obtain⟨en,es⟩:=QmK jM kind bs;obtain⟨qu,_⟩:=Q4A h.ar kind bs;have hr:=h.rng;have jH:=hc.st;rw[jM]at hr jH;have vl:∀z∈s0,InR m.n z.kids:=fun z hz=>hr z (mem_append_left _ (mem_append_left _ hz))
 have ya:InR m.n y.kids:=hr y (mem_append_left _ (by simp))
 have gS:InR m.n x.kids:=hr x (by simp)
 obtain⟨k0,r,e1,e2⟩:=(jH x (Qqa.2 (.inr ⟨by simp,rfl⟩))).old gS (QI kind bs)
 have nU:=Qrz h.ar.wf hc.el (x:=QI kind bs) (QrI (by show kind≠21;omega))
 have nV:Q1f (m.n++[QI kind bs]) m.n.length=kind:=Qfc;have qS:0<=k0/\k0<m.n.length:=gS k0 (by rw[e1];simp)
 obtain⟨l1,hl⟩:=exq (m.n++[QI kind bs]);have ye:(l1.length:Int)=m.n.length+1:=by rw[hl];simp
 rw[<-hl]at qu e2 nU en es nV;obtain⟨z,hz⟩:=exq (Q1i l1 21 (x.kids++[(m.n.length:Int)]));rw[<-hz]at en;have hzk:z.kids=x.kids++[(m.n.length:Int)]:=by rw[hz];rfl
 refine⟨?_,?_⟩
 ·rw[en]
  refine Qrz qu.wf nU (fun _=>⟨k0,r,m.n.length,?_,?_,?_⟩)
  ·rw[Q36,hzk,e1];rfl
  ·rw[Qqd qS.1 (by omega)];exact e2
  ·rw[Qqd (by omega) (by omega),nV];exact hk
 ·rw[en,es]
  intro q hq;rcases Qqa.1 hq with hq|⟨jP,rfl⟩
  ·have hqr:=vl q (List.mem_of_mem_drop hq)
   have vq:=(jH q (Qqa.2 (.inl (Qqa.2 (.inl hq))))).old hqr (QI kind bs);rw[<-hl]at vq;exact vq.old (by rw[hl];exact hqr.more _) z
  ·have vq:=(jH y (Qqa.2 (.inl (Qqa.2 (.inr ⟨jP,rfl⟩))))).old ya (QI kind bs)
   rw[<-hl]at vq;obtain⟨q0,qr,f1,f2⟩:=vq.old (by rw[hl];exact ya.more _) z
   exact⟨q0,qr++[(l1.length:Int)],by show y.kids++_=_;rw[f1];rfl,f2⟩
end
theorem ShM.missGo(t:Txt)(f:Int)(k:Nat){X:List UInt8}{B D:Nat}:∀(n:Nat)(m:Mk),MkI m X B D->ShM m->k+1<=m.s.length->m.s.length<=n+k+1->ShM (missGo t f k n m)
 |0,m,_,hc,_,_=>hc
 |n+1,m,h,hc,h1,h2=>by
  show ShM (if _ then _ else _);split
  ·have h3:=Q5D h.i (by omega) t f
   exact ShM.missGo t f k n _ (h.miss (by omega) t f) (ShM.shut (h.wrong t 4 f f).i (hc.wrong t 4 f f) (by show 2<=m.s.length;omega) (kind:=22) [] (.inl rfl)) (by omega) (by omega)
  ·exact hc
section
variable {m:Mk}{X:List UInt8}{B D:Nat}
theorem ShM.token(h:MkI m X B D)(hc:ShM m)(t:Txt)(b:List UInt8){kind:Int}(hk:kind≠21)(f u:Int)(wh:Bool):ShM (Q26 t b kind f u wh m):=by
 unfold Q26;simp only
 generalize jx:(if wh=false then QV t 1 f u m else if(kind=8\/kind=9\/kind=10)/\(QD t.r f u).right=false then QV t 2 f u m else m)=m1
 have h3:∃D',MkI m1 X B D':=by
  rw[<-jx];split
  ·exact⟨_,h.wrong t 1 f u⟩
  ·split
   ·exact⟨_,h.wrong t 2 f u⟩
   ·exact⟨_,h⟩
 have qz:ShM m1:=by
  rw[<-jx];split
  ·exact hc.wrong t _ _ _
  ·split
   ·exact hc.wrong t _ _ _
   ·exact hc
 obtain⟨D',h3⟩:=h3;split
 ·rename_i hs
  obtain⟨_,rfl,_⟩:=hs;unfold Q1G;split
  ·exact ShM.leaf (h3.wrong t 5 f u).i (qz.wrong t 5 f u) (kind:=8) (by decide) (QU t b f u)
  ·exact ShM.push h3.i qz (QU t b f u) _
 ·split
  ·rename_i hs
   obtain⟨_,rfl⟩:=hs;unfold Q2Y;have jM:=h3.i.s1;have jJ:=Q61 m1.s (Qs t f u) (m1.s.length-1);simp only
   split
   ·exact ShM.leaf (h3.wrong t 3 f u).i (qz.wrong t 3 f u) (kind:=10) (by decide) (QU t b f u)
   ·rename_i qS
    obtain⟨k,hk⟩:=exq (Q2g m1.s (Qs t f u) (m1.s.length-1));rw[<-hk]at qS jJ ⊢;obtain⟨h5,h6⟩:=MkI.missGo t f k m1.s.length m1 h3 (by omega) (by omega)
    have h7:=ShM.missGo t f k m1.s.length m1 h3 qz (by omega) (by omega)
    exact ShM.shut h5.i h7 (by omega) (kind:=10) (QU t b f u) (.inr rfl)
  ·exact ShM.leaf h3.i qz hk (QU t b f u)
end
theorem ShM.toks{b:List UInt8}(hb:b.length<=1000000):∀(n k:Nat)(m:Mk)(B D:Nat),(Qb b).r.length-k<=n->k<=(Qb b).r.length->MkI m (Q6y (Qb b) b k) B D->ShM m ->
  ShM ((Q1S (Qb b).r k).foldl (Q7k (Qb b) b) m)
 |0,k,m,B,D,h,hk,hi,hc=>by
  rw[Q1k (by omega)];exact hc
 |n+1,k,m,B,D,h,hk,hi,hc=>by
  have ok:=(Q3N b).1;have hr:(Qb b).r.length<=1000000:=Nat.le_trans (Q3N b).2.2.1 hb;by_cases jA:k<(Qb b).r.length
  ·obtain⟨h1,h2,h3,h4⟩:=Q9S (Qb b).r jA
   rw[Q1O jA,foldl_cons];have:=hi.token (Qb b) b hr (Q1m (Qb b).r k).kind (Q1m (Qb b).r k).from_ (Q1m (Qb b).r k).to (Q1m (Qb b).r k).whole
   rw[h1,h2,Q7B ok (by omega) (by omega) (by omega)]at this
   have jD:(Q1m (Qb b).r k).kind≠21:=by
    show(((Ql (Qb b).r k).1:Nat):Int)≠21
    have:=Qf9 (Qb b).r k
    omega
   have yP:=ShM.token hi hc (Qb b) b jD k ((Ql (Qb b).r k).2.1:Nat) (Q1m (Qb b).r k).whole;exact ShM.toks hb n (Ql (Qb b).r k).2.1 _ (B+3) (D+3) (by omega) h4 this yP
  ·rw[Q1k jA];exact hc
theorem QtO(b:List UInt8):ShM (Q3s b):=by
 have h0:ShM mk0:=⟨fun n h0 h1=>by have h1:n<(0:Int):=h1;omega,fun y hy=>by cases hy⟩
 unfold Q3s;split
 ·exact ShM.leaf mk0_inv.i h0 (by decide) _
 ·exact h0
theorem Qtn(b:List UInt8)(hb:b.length<=100000):∀n:Int,0<=n->n<(QL (Qu b)).n.length->ElS (QL (Qu b)).n n:=by
 have hs:=Q6r b hb;have hi:=Q6Y b;have h1:=QaO hs.ok hs.hr (Qb b).r.length 0 _ _ _ (by omega) (by omega) hi
 have c1:=ShM.toks (b:=b) (by omega) (Qb b).r.length 0 _ _ _ (by omega) (by omega) hi (QtO b)
 have h2:=h1.i.s1;have c2:=ShM.missGo (Qb b) (Qb b).r.length 0 _ _ h1 c1 (by omega) (Nat.le_succ _)
 have c2:ShM (Qu b):=c2;obtain⟨h3,h4⟩:=Qda hs.ok hs.hr hi;have h3:MkI (Qu b) b (3+3 * (Qb b).r.length) (2+3 * (Qb b).r.length):=h3;exact Qrz h3.i.ar.wf c2.el (QrI (by show(20:Int)≠21;decide))
section
open Tryz
def rAt(l:List Int)(i:Int):Int:=l[i.toNat]?.getD 0
theorem Qd4{l:List Int}{k:Nat}(h:k<l.length):rAt l k=l[k]:=by rw[rAt,Int.toNat_natCast,getElem?_eq_getElem h];rfl
theorem Qhy{l:List Int}{q i:Int}(h0:0<=i)(h1:i<l.length):Q2p l q i.toNat=if rAt l i=q then((i+1).toNat,true)else Q2p l q (i+1).toNat:=by
 have h2:i.toNat<l.length:=by omega
 have e:rAt l i=l[i.toNat]:=by rw[rAt,getElem?_eq_getElem h2];rfl
 rw[e];conv=>lhs;rw[Q2p,dif_pos h2]
 rw[show(i+1).toNat=i.toNat+1 by omega]
def QC(l:List Int)(k:Int):Int:=if(Q1a l k.toNat).2=true then((Q1a l k.toNat).1:Nat)else -1
theorem Qih(l:List Int)(hl:l.length<=1000000000)(k:Int)(h0:0<=k)(h1:k<l.length):BCall prog 195 [.slc 1 (Q0 l),.val (.int .i64 k)] [] (.val (.int .i64 (QC l k))) []:=by
 obtain⟨n,hn⟩:=QE l;obtain⟨R,hR⟩:=exq (QC l k:Int);rw[<-hR];have jq:=Qx l;obtain⟨q,hq⟩:=exq (rAt l k)
 have hk:Q1a l k.toNat=Q2p l q (k+1).toNat:=by
  rw[Q1a,getD_eq_getElem?_getD,hq,rAt,show(k+1).toNat=k.toNat+1 by omega]
 rw[QC,hk]at hR;have ak:=QJ (l:=l) h0 (by omega)
 have en:=hn.eq;have jU:k<n:=by omega
 clear hk;refine fnN (cs0) func195 rfl fun _ _=>?_
 with_reducible refine cv1 (Q0 l) ?_
 have jB:=Q15 hn;with_reducible repeat' first|refine aU jB ?_|refine zA ?_ ?_|intro hb
 refine Q1h (cs0) (Int) (fun i=>⟨[(0,.slc 1 (Q0 l)),(1,.val (.int .i64 k)),(5,.val (.int .i64 i))],[]⟩) (fun i=>k+1<=i/\i<=n/\Q2p l q i.toNat=Q2p l q (k+1).toNat) (fun i=>(n-i).toNat) (k+1) ?_ ?_ ?_
 ·exact⟨le_refl _,by show k+1<=n;omega,rfl⟩
 ·exact⟨[],_,rfl,by simp[Qe,lk,std]⟩
 ·rintro i ⟨jK,jL,hi⟩
  have jK:k+1<=i:=jK;have jL:i<=n:=jL;have hi:Q2p l q i.toNat=Q2p l q (k+1).toNat:=hi;rcases Int.lt_or_eq_of_le jL with jA|j6
  ·have ai:=QJ (l:=l) (i:=i) (by omega) (by omega)
   have jH:=Qhy (l:=l) (q:=q) (i:=i) (by omega) (by omega)
   rw[hi]at jH;clear en jB hi;with_reducible refine cv1 (Q0 l) ?_
   have jB:=Q15 hn;have en:=hn.eq;with_reducible repeat' first|refine aU (zA ai <| zA ak <| zA jB <| zA jA jK) ?_|refine zA ?_ ?_|intro hb
   ·have j8:rAt l i=q:=by rw[hq];simpa[std,ai,ak,AV.cells,intOf,rAt]using hb
    have vF:R=i+1:=by rw[hR,jH,if_pos j8,if_pos rfl];show(((i+1).toNat:Nat):Int)=_;omega
    with_reducible refine cv1 (Q0 l) ?_
    refine .pure rfl (.inl ?_);rw[vF];rfl
   ·have j8:¬rAt l i=q:=by rw[hq];simpa[std,ai,ak,AV.cells,intOf,rAt]using hb
    rw[if_neg j8]at jH;exact⟨i+1,⟨by omega,by omega,jH.symm⟩,by omega,[],_,rfl,by simp[Qe,lk,std]⟩
  ·have vq:Q2p l q i.toNat=(l.length,false):=by rw[Q2p,dif_neg (by omega)]
   have vF:R=-1:=by rw[hR,<-hi,vq];rfl
   rw[j6];clear en jB hi vq;with_reducible refine cv1 (Q0 l) ?_
   have jB:=Q15 hn;with_reducible repeat' first|refine aU jB ?_|refine zA ?_ ?_|intro hb
   ·rw[if_pos trivial]
    with_reducible refine cv1 (Q0 l) ?_
    refine .pure rfl (.inl ?_);rw[vF]
def Q1B(kd k t:Int)(w:Bool):AV:=.agg [.val (.int .i64 kd),.val (.int .i64 k),.val (.int .i64 t),.val (.bool w)]
theorem Qk6{l:List Int}{i:Int}(h0:0<=i)(h1:i<l.length):Q2q l i.toNat=if rAt l i=62 then((i+1).toNat,true)else if rAt l i=60 then(i.toNat,false)else Q2q l (i+1).toNat:=by
 have h2:i.toNat<l.length:=by omega
 have e:rAt l i=l[i.toNat]:=by rw[rAt,getElem?_eq_getElem h2];rfl
 rw[e];conv=>lhs;rw[Q2q,dif_pos h2]
 rw[show(i+1).toNat=i.toNat+1 by omega]
theorem Qoz(l:List Int)(hl:l.length<=1000000000)(k:Int)(h0:0<=k)(h1:k+2<=l.length):BCall prog 154 [.slc 1 (Q0 l),.val (.int .i64 k)] [] (Q1B 10 k ((Q3h l k.toNat).2.1:Nat) (Q3h l k.toNat).2.2) []:=by
 obtain⟨n,hn⟩:=QE l;have jq:=Qx l;obtain⟨rt,q7⟩:=exq (((Q2q l (k+2).toNat).1:Nat):Int);obtain⟨rb,vZ⟩:=exq ((Q2q l (k+2).toNat).2:Bool)
 have e:Q1B 10 k ((Q3h l k.toNat).2.1:Nat) (Q3h l k.toNat).2.2=Q1B 10 k rt rb:=by
  rw[q7,vZ,Q3h,show(k+2).toNat=k.toNat+2 by omega]
 rw[e,Q1B];have en:=hn.eq;have jU:k+2<=n:=by omega
 clear e h1;refine fnN (cs0) func154 rfl fun _ _=>?_
 with_reducible refine cv1 (Q0 l) ?_
 have jB:=Q15 hn;with_reducible repeat' first|refine aU jB ?_|refine zA ?_ ?_|intro hb
 refine Q1h (cs0) (Int) (fun i=>⟨[(0,.slc 1 (Q0 l)),(1,.val (.int .i64 k)),(4,.box 0 0),(5,.val (.int .i64 i))],[.box [.val (.int .i64 0),.val (.int .i64 0),.val (.int .i64 0),.val (.bool false)]]⟩) (fun i=>k+2<=i/\i<=n/\Q2q l i.toNat=Q2q l (k+2).toNat) (fun i=>(n-i).toNat) (k+2) ?_ ?_ ?_
 ·exact⟨le_refl _,jU,rfl⟩
 ·refine⟨[some 0],_,rfl,?_⟩
  exact eq0
 ·rintro i ⟨jK,jL,hi⟩
  have jK:k+2<=i:=jK;have jL:i<=n:=jL;have hi:Q2q l i.toNat=Q2q l (k+2).toNat:=hi;rcases Int.lt_or_eq_of_le jL with jA|j6
  ·have ai:=QJ (l:=l) (i:=i) (by omega) (by omega)
   have jH:=Qk6 (l:=l) (i:=i) (by omega) (by omega)
   rw[hi]at jH;clear en jB hi;with_reducible refine cv1 (Q0 l) ?_
   have jB:=Q15 hn;have en:=hn.eq;with_reducible repeat' first|refine aU (zA ai <| zA jB <| zA jA jK) ?_|refine zA ?_ ?_|intro hb
   ·have j8:rAt l i=62:=by simpa[std,ai,AV.cells,intOf,rAt]using hb
    rw[if_pos j8]at jH;have zB:rt=i+1:=by rw[q7,jH];show(((i+1).toNat:Nat):Int)=_;omega
    have gV:rb=true:=by rw[vZ,jH]
    with_reducible refine cv1 (Q0 l) ?_
    exact .pure rfl ⟨.inl rfl,.inl rfl,.inl (by rw[zB];rfl),.inl (by rw[gV]),trivial⟩
   ·rename_i j3
    have jg:¬rAt l i=62:=by simpa[std,ai,AV.cells,intOf,rAt]using j3
    have j8:rAt l i=60:=by simpa[std,ai,AV.cells,intOf,rAt]using hb
    rw[if_neg jg,if_pos j8]at jH;have zB:rt=i:=by rw[q7,jH];show((i.toNat:Nat):Int)=_;omega
    have gV:rb=false:=by rw[vZ,jH]
    with_reducible refine cv1 (Q0 l) ?_
    exact .pure rfl ⟨.inl rfl,.inl rfl,.inl (by rw[zB]),.inl (by rw[gV]),trivial⟩
   ·rename_i j3
    have jg:¬rAt l i=62:=by simpa[std,ai,AV.cells,intOf,rAt]using j3
    have j8:¬rAt l i=60:=by simpa[std,ai,AV.cells,intOf,rAt]using hb
    rw[if_neg jg,if_neg j8]at jH;refine⟨i+1,⟨by omega,by omega,jH.symm⟩,by omega,[some 0],_,rfl,?_⟩
    exact eq0
  ·have vq:Q2q l i.toNat=(l.length,false):=by rw[Q2q,dif_neg (by omega)]
   have zB:rt=n:=by rw[q7,<-hi,vq,hn.eq]
   have j8:rb=false:=by rw[vZ,<-hi,vq]
   rw[j6];clear en jB hi vq;with_reducible refine cv1 (Q0 l) ?_
   have jB:=Q15 hn;with_reducible repeat' first|refine aU jB ?_|refine zA ?_ ?_|intro hb
   ·rw[if_pos trivial]
    with_reducible refine cv1 (Q0 l) ?_
    exact .pure rfl ⟨.inl rfl,.inl rfl,.inl (by rw[zB];exact congrArg _ (congrArg _ jB)),.inl (by rw[j8]),trivial⟩
def Q6K(l:List Int)(f:Int)(bs:List UInt8):Int:=match Q3Z l f.toNat l.length bs with
 |none=>-1
 |some j=>(j:Int)
def QhS(st:Int->Bool):Nat->List AV->List Ob->Option (AV×List Ob):=fun f args _=>match f,args with
 |151,[.slc 1 _,.val (.int .i64 k),.val (.string _)]=>some (.val (.bool (st k)),[])
 |_,_=>none
def stI(l:List Int)(bs:List UInt8)(k:Int):Bool:=Q6 l k.toNat bs
theorem Qnv(l:List Int)(hl:l.length<=1000000000)(vw:I32 l)(f:Int)(h0:0<=f)(hf:f<=2000000000)(s:ByteArray)(hs:s.size<=1000000000) :
  BCall prog 193 [.slc 1 (Q0 l),.val (.int .i64 f),.val (.int .i64 l.length),.val (.string s)] [] (.val (.int .i64 (Q6K l f s.data.toList))) []:=by
 obtain⟨n,hn⟩:=QE l;have cS:∀k:Int,0<=k->k<=n->BCall prog 151 [.slc 1 (Q0 l),.val (.int .i64 k),.val (.string s)] [] (.val (.bool (stI l s.data.toList k))) []:=fun k k0 k1=>Qc l hl vw k k0 (by have:=hn.eq;omega) s hs
 have jq:=Qx l;have zd:s.data.toList.length=s.size:=by simp
 obtain⟨z,hz⟩:∃z:Int,IsN s.size z:=⟨_,rfl⟩;have jm:0<=z:=by have:=hz.eq;omega
 have qD:z<=1000000000:=by have:=hz.eq;omega
 have jh:std.szS s=z:=hz.eq.symm;obtain⟨R,hR⟩:=exq (Q6K l f s.data.toList:Int);rw[<-hR,<-hn.eq];obtain⟨bs,kV⟩:=exq s.data.toList;rw[<-kV]at zd hR cS;have qC:n<=1000000000:=by have:=hn.eq;omega
 clear kV vw;refine fnN (QhS (stI l bs)) func193 rfl fun _ _=>?_
 with_reducible refine cv2 (Q0 l) (stI l bs) ?_
 refine Q1h (QhS (stI l bs)) (Int) (fun i=>⟨[(0,.slc 1 (Q0 l)),(2,.val (.int .i64 n)),(3,.val (.string s)),(9,.val (.int .i64 i))],[]⟩) (fun i=>f<=i/\i<=2000000001/\∀j:Nat,f.toNat<=j->j<i.toNat->Q6 l j bs=false) (fun i=>(n+1-i).toNat) f ?_ ?_ ?_
 ·exact⟨le_refl _,by omega,fun j h1 h2=>by omega⟩
 ·refine⟨[],_,rfl,?_⟩
  exact eq0
 ·rintro i ⟨jK,jL,hi⟩
  have jK:f<=i:=jK;have jL:i<=2000000001:=jL;have hi:∀j:Nat,f.toNat<=j->j<i.toNat->Q6 l j bs=false:=hi
  have q5:¬(i<=n/\i+z<=n)->R=-1:=fun h=>by
   have vK:=hn.eq;have qE:=hz.eq;rw[hR,Q6K,Qb0 l f.toNat l.length bs (fun j h1 h2=>hi j h1 (by omega))]
  by_cases qz:i<=n
  ·by_cases yP:i+z<=n
   ·have cSi:=cS i (by omega) (by omega)
    clear q5;with_reducible refine cv2 (Q0 l) (stI l bs) ?_
    have jB:=Q15 hn;have yv:(s.size:Int)=z:=hz.eq.symm;with_reducible repeat' first|refine aU (zA jB <| zA yv <| zA qz <| zA yP jK) ?_|refine zA ?_ ?_|intro hb
    ·have hb:Q6 l i.toNat bs=true:=hb
     have vF:R=i:=by
      have vK:=hn.eq;have qE:=hz.eq;rw[hR,Q6K,Qc7 l f.toNat l.length bs i.toNat (by omega) (by omega) hi hb]
      show((i.toNat:Nat):Int)=i
      omega
     with_reducible refine cv2 (Q0 l) (stI l bs) ?_
     refine .pure rfl (.inl ?_);rw[vF]
    ·have hb:Q6 l i.toNat bs=false:=hb
     refine⟨i+1,⟨by omega,by omega,fun j h1 h2=>?_⟩,by omega,[],_,rfl,?_⟩
     ·by_cases hj:j<i.toNat
      ·exact hi j h1 hj
      ·obtain rfl:j=i.toNat:=by omega
       exact hb
     ·exact eq0
   ·have vF:=q5 (fun h=>yP h.2)
    clear q5;with_reducible refine cv2 (Q0 l) (stI l bs) ?_
    have jB:=Q15 hn;have yv:(s.size:Int)=z:=hz.eq.symm;with_reducible repeat' first|refine aU (zA jB <| zA yv <| zA qz <| zA yP jK) ?_|refine zA ?_ ?_|intro hb
    all_goals
     rw[if_pos trivial];with_reducible refine cv2 (Q0 l) (stI l bs) ?_
     refine .pure rfl (.inl ?_);rw[vF]
  ·have vF:=q5 (fun h=>qz h.1)
   clear q5;with_reducible refine cv2 (Q0 l) (stI l bs) ?_
   have jB:=Q15 hn;have yv:(s.size:Int)=z:=hz.eq.symm;with_reducible repeat' first|refine aU (zA jB <| zA yv <| zA qz jK) ?_|refine zA ?_ ?_|intro hb
   all_goals
    rw[if_pos trivial];with_reducible refine cv2 (Q0 l) (stI l bs) ?_
    refine .pure rfl (.inl ?_);rw[vF]
def Q3C(l:List Int)(f:Int)(bs:List UInt8):Int:=if Q6K l f bs<0 then(l.length:Int)else Q6K l f bs+(bs.length:Int)
def Q3F(l:List Int)(f:Int)(bs:List UInt8):Bool:=!decide (Q6K l f bs<0)
theorem Q5L(l:List Int)(kd k sk:Nat)(bs:List UInt8)(h:k+sk<=l.length):(Q14 l kd k sk bs).1=kd/\((Q14 l kd k sk bs).2.1:Int)=Q3C l ((k:Int)+sk) bs/\(Q14 l kd k sk bs).2.2=Q3F l ((k:Int)+sk) bs:=by
 unfold Q14 Q3C Q3F Q6K;rw[Nat.min_eq_left h,show((k:Int)+(sk:Int)).toNat=k+sk by omega]
 cases Q3Z l (k+sk) l.length bs with
 |none=>exact⟨rfl,rfl,rfl⟩
 |some j =>
  have:¬((j:Int)<0):=by omega
  simp only[if_neg this,decide_eq_false this];exact⟨trivial,by omega,rfl⟩
def Qpo(R:Int):Nat->List AV->List Ob->Option (AV×List Ob):=fun f args _=>match f,args with
 |193,[.slc 1 _,.val (.int .i64 _),.val (.int .i64 _),.val (.string _)]=>some (.val (.int .i64 R),[])
 |_,_=>none
theorem QkI(l:List Int)(f:Int)(bs:List UInt8):Q6K l f bs<=l.length:=by
 unfold Q6K;cases h:Q3Z l f.toNat l.length bs with
 |none=>show(-1:Int)<=_;omega
 |some j=>have:=(Qek l _ _ bs j h).2;show(j:Int)<=_;omega
theorem Q8v(l:List Int)(hl:l.length<=1000000000)(vw:I32 l)(kd k sk:Int)(h0:0<=k)(h1:0<=sk)(h2:k+sk<=l.length)(s:ByteArray)(hs:s.size<=1000000000) :
  BCall prog 152 [.slc 1 (Q0 l),.val (.int .i64 kd),.val (.int .i64 k),.val (.int .i64 sk),.val (.string s)] [] (Q1B kd k (Q3C l (k+sk) s.data.toList) (Q3F l (k+sk) s.data.toList)) []:=by
 have cF:=Qnv l hl vw (k+sk) (by omega) (by omega) s hs
 have zd:s.data.toList.length=s.size:=by simp
 have hR1:=QkI l (k+sk) s.data.toList;obtain⟨n,hn⟩:=QE l;have jq:=Qx l;rw[<-hn.eq]at cF hR1 h2;obtain⟨z,hz⟩:∃z:Int,IsN s.size z:=⟨_,rfl⟩;have jm:0<=z:=by have:=hz.eq;omega
 have qD:z<=1000000000:=by have:=hz.eq;omega
 obtain⟨R,hR⟩:=exq (Q6K l (k+sk) s.data.toList:Int);have qC:n<=1000000000:=by have:=hn.eq;omega
 have e:Q1B kd k (Q3C l (k+sk) s.data.toList) (Q3F l (k+sk) s.data.toList)=Q1B kd k (if R<0 then n else R+z) (!decide (R<0)):=by
  rw[Q3C,Q3F,<-hR,zd,<-hn.eq,hz.eq]
 rw[e,Q1B];rw[<-hR]at cF hR1;clear e hR zd;obtain⟨T,jW⟩:=exq ((if R<0 then n else R+z));obtain⟨B,hB9⟩:=exq (!decide (R<0));rw[<-jW,<-hB9];obtain⟨fr,vQ⟩:=exq (k+sk);rw[<-vQ]at cF h2;refine fnN (Qpo R) func152 rfl fun _ _=>?_
 with_reducible refine cv1 (Q0 l) ?_
 have jB:=Q15 hn;have yv:(s.size:Int)=z:=hz.eq.symm
 have cF2:BCall prog 193 [.slc 1 (Q0 l),.val (.int .i64 (std.add k sk)),.val (.int .i64 (std.len (Q0 l))),.val (.string s)] [] (.val (.int .i64 R)) []:=by
  rw[show std.add k sk=fr from vQ.symm,show std.len (Q0 l)=n from jB];exact cF
 with_reducible repeat' first|refine aU (zA jB <| zA yv <| zA vQ h2) ?_|refine zA ?_ ?_|intro hb
 ·have hb:R<0:=of_decide_eq_true hb
  rw[if_pos hb]at jW;exact .pure rfl ⟨.inl rfl,.inl rfl,.inl (by rw[jW];exact congrArg _ (congrArg _ jB)),.inl (by rw[hB9,decide_eq_true hb];rfl),trivial⟩
 ·have hb:¬R<0:=of_decide_eq_false hb
  show(-9223372036854775808:Int)<=R+s.size/\R+s.size<=(9223372036854775807:Int)
  omega
 ·have hb:¬R<0:=of_decide_eq_false hb
  rw[if_neg hb]at jW;exact .pure rfl ⟨.inl rfl,.inl rfl,.inl (by rw[jW,<-yv];rfl),.inl (by rw[hB9,decide_eq_false hb];rfl),trivial⟩
