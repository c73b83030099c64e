/- Lemmas, conditions told -/
import Derived.Test.YtibemhahkicbpaaGreatJ23
set_option maxRecDepth 99999
set_option maxHeartbeats 0
set_option linter.unusedSimpArgs false
set_option linter.unusedVariables false
namespace Go.Proofs.YtibemhahkicbpaaGreat
open List(length_append length_singleton mem_append_left map_append getElem?_map append_assoc getD_eq_getElem?_getD getElem?_eq_getElem length_map mem_singleton getElem_mem mem_map map_cons)
open Option(none_or getD_some)
open Int(le_refl toNat_natCast)
open Go.RowKit Go.Lib
structure Evr where
 do_:Int
 kind:Int
 b:Option (List UInt8)
 deriving Inhabited
def Evr.ev(x:Evr):Ev:=⟨x.do_,x.kind,x.b.getD []⟩
def Evr.ba(x:Evr):AV:=match x.b with|some b=>.slc 1 (Q2 b)|none=>Qno
def Evr.av(x:Evr):AV:=.agg [.val (.int .i64 x.do_),.val (.int .i64 x.kind),x.ba]
def Qv(l:List Evr):List AV:=l.map Evr.av
theorem Q8i(a b:List Evr):Qv (a++b)=Qv a++Qv b:=by simp[Qv]
theorem Q6A(a:List Evr):(Qv a).length=a.length:=by simp[Qv]
structure RSt where
 op:List (List Int)
 ev:List Evr
 wr:List Dg
 deriving Inhabited
def Q1R(t:Txt)(c f u:Int)(s:RSt):RSt:=⟨s.op,s.ev,s.wr++[⟨Q1s t f,Q1s t u,c⟩]⟩
def Q1K(t:Txt)(b:List UInt8)(kind f u:Int)(s:RSt):RSt:=⟨s.op,s.ev++[⟨2,kind,some (QU t b f u)⟩],s.wr⟩
def Q2h(t:Txt)(a:Int)(s:RSt):RSt:=⟨s.op.take (s.op.length-1),s.ev++[⟨2,22,none⟩,⟨3,0,none⟩],s.wr++[⟨Q1s t a,Q1s t a,4⟩]⟩
def Q2G(op:List (List Int))(nm:List Int):Nat->Int
 |0=>-1
 |k+1=>if op[k]?.getD []=nm then k else Q2G op nm k
def Q1g(t:Txt)(f:Int)(k:Nat):Nat->RSt->RSt
 |0,s=>s
 |n+1,s=>if k<s.op.length then Q1g t f k n (Q2h t f s)else s
def Q4x(t:Txt)(b:List UInt8)(kind f u:Int)(s:RSt):RSt :=
 if 64<=s.op.length then Q1K t b kind f u (Q1R t 5 f u s)
 else Q1K t b kind f u ⟨s.op++[Qs t f u],s.ev++[⟨1,0,none⟩],s.wr⟩
def Qbt(t:Txt)(b:List UInt8)(kind f u:Int)(s:RSt):RSt :=
 if Q2G s.op (Qs t f u) s.op.length<0 then Q1K t b kind f u (Q1R t 3 f u s)
 else
  let s1:=Q1K t b kind f u (Q1g t f ((Q2G s.op (Qs t f u) s.op.length).toNat+1) (s.op.length+1) s)
  ⟨s1.op.take (Q2G s.op (Qs t f u) s.op.length).toNat,s1.ev++[⟨3,0,none⟩],s1.wr⟩
def Q63(t:Txt)(b:List UInt8)(kind f u:Int)(wh:Bool)(s:RSt):RSt :=
 let s1:=if wh=false then Q1R t 1 f u s else if(kind=8\/kind=9\/kind=10)/\(QD t.r f u).right=false then Q1R t 2 f u s else s
 if wh=true/\kind=8/\0<(Qs t f u).length then Q4x t b kind f u s1
 else if wh=true/\kind=10 then Qbt t b kind f u s1
 else Q1K t b kind f u s1
def Q64(t:Txt)(b:List UInt8)(s:RSt)(x:Tok):RSt:=Q63 t b x.kind x.from_ x.to x.whole s
def QcN(t:Txt)(b:List UInt8)(s:RSt):RSt :=
 let s1:=(Q1r t.r).foldl (Q64 t b) s
 Q1g t t.r.length 0 (s1.op.length+1) s1
def Q2N(b:List UInt8):RSt:=⟨[],if 0<(QX b).2 then [⟨2,23,some (b.take (QX b).2.toNat)⟩]else [],[]⟩
def Q1b(b:List UInt8):RSt:=QcN (Qb b) b (Q2N b)
theorem QgG{l:List Node}(h:Wf l)(x:Node):∀(f:Nat)(n:Int)(top:Bool),0<=n->n<l.length->spF (l++[x]) f n top=spF l f n top
 |0,_,_,_,_=>rfl
 |f+1,n,top,h0,h1=>by
  simp only[spF,Q43 h0 h1];have e1:pr (l++[x]) n=pr l n:=QdB h x h0 h1
  have e2:(Qn l n).kids.flatMap (fun k=>spF (l++[x]) f k false)=(Qn l n).kids.flatMap (fun k=>spF l f k false):=by
   refine congrArg List.flatten (List.map_congr_left fun k hk=>?_)
   have:=h n h0 h1 k hk
   exact QgG h x f k false this.1 (by omega)
  rw[e1,e2]
theorem Qon{l:List Node}(h:Wf l)(x:Node){n:Int}(top:Bool)(h0:0<=n)(h1:n<l.length):spV (l++[x]) n top=spV l n top:=QgG h x _ n top h0 h1
def spL(l:List Node)(ks:List Int):List Ev:=ks.flatMap fun k=>spV l k false
theorem Q5V{l:List Node}(h:Wf l)(x:Node){ks:List Int}(hk:InR l ks):spL (l++[x]) ks=spL l ks :=
 congrArg List.flatten (List.map_congr_left fun k yE=>Qon h x false (hk k yE).1 (hk k yE).2)
theorem Qdi(l:List Node)(a b:List Int):spL l (a++b)=spL l a++spL l b:=by simp[spL]
theorem Q9H(l:List Node)(k:Int):spL l [k]=spV l k false:=by simp[spL]
theorem QcK{l:List Node}(h:Ar l){kind:Int}(hk:kind≠21)(bs:List UInt8):spV (l++[QI kind bs]) l.length false=[⟨2,kind,bs⟩]:=by
 have ha:=Q4A h kind bs;rw[Q8I ha.1.wf (by omega) (by simp only[length_append,length_singleton];omega),Q36,if_pos ⟨hk,rfl⟩,ha.2];rfl
theorem QhU{l:List Node}(h:Ar l){ks:List Int}(hk:InR l ks):spV (l++[Q1i l 21 ks]) l.length false=⟨1,0,[]⟩::(spL l ks++[⟨3,0,[]⟩]):=by
 have ha:=Q6S h 21 hk;rw[Q8I ha.1.wf (by omega) (by simp only[length_append,length_singleton];omega),Q36,if_neg (fun e=>e.1 rfl),if_neg (by decide),if_neg (by decide)]
 show [_]++spL (l++[Q1i l 21 ks]) ks++_=_;rw[Q5V h.wf _ hk];rfl
theorem QmG{l:List Node}(h:Ar l){ks:List Int}(hk:InR l ks):spV (l++[Q1i l 20 ks]) l.length true=spL l ks:=by
 have ha:=Q6S h 20 hk;rw[Q8I ha.1.wf (by omega) (by simp only[length_append,length_singleton];omega),Q36,if_neg (fun e=>by cases e.2),if_pos rfl,if_pos rfl]
 show []++spL (l++[Q1i l 20 ks]) ks++[]=_;rw[Q5V h.wf _ hk,List.nil_append,List.append_nil]
def evO(l:List Node)(x:Opn):List Ev:=⟨1,0,[]⟩::spL l x.kids
def evS(l:List Node)(s:List Opn):List Ev:=s.flatMap (evO l)
theorem Q6P(l:List Node)(s:List Opn)(x:Opn):evS l (s++[x])=evS l s++evO l x:=by simp[evS]
theorem Q9A{l:List Node}(h:Wf l)(x:Node){s:List Opn}(hs:∀y∈s,InR l y.kids):evS (l++[x]) s=evS l s :=
 congrArg List.flatten (List.map_congr_left fun y hy=>by unfold evO;rw[Q5V h x (hs y hy)])
structure Rel (m:Mk) (s:RSt):Prop where
 op:s.op=(m.s.drop 1).map Opn.name
 wr:s.wr=m.d
 ev:(⟨1,0,[]⟩:Ev)::s.ev.map Evr.ev=evS m.n m.s
theorem QhY{s:List Opn}(hs:s≠[])(x:Opn):(s++[x]).drop 1=s.drop 1++[x]:=by
 cases s with
 |nil=>exact absurd rfl hs
 |cons a r=>rfl
section
variable {m:Mk}{s:RSt}{X:List UInt8}{B D:Nat}
theorem Rel.len(h:Rel m s):s.op.length=m.s.length-1:=by rw[h.op];simp
theorem Rel.wrong(h:Rel m s)(t:Txt)(c f u:Int):Rel (QV t c f u m) (Q1R t c f u s) :=
 ⟨h.op,by show s.wr++_=m.d++_;rw[h.wr],h.ev⟩
theorem Rel.leaf(hm:MkInv m X B D)(h:Rel m s){kind:Int}(hk:kind≠21)(bs:List UInt8)(q:Option (List UInt8))(hq:q.getD []=bs):Rel (Q3g m.n.length (Q20 (QI kind bs) m)) ⟨s.op,s.ev++[⟨2,kind,q⟩],s.wr⟩:=by
 obtain⟨s0,q8⟩:=Q2r hm.s1;generalize QZ m.s=y at q8;have hr:=hm.rng;have ho:=h.op;have he:=h.ev;rw[q8]at hr ho he;have vl:∀z∈s0,InR m.n z.kids:=fun z hz=>hr z (mem_append_left _ hz)
 have yb:InR m.n y.kids:=hr y (by simp)
 refine⟨?_,h.wr,?_⟩
 ·show s.op=((Q2k m.n.length m.s).drop 1).map Opn.name
  rw[q8,Q2D,ho];cases s0<;>simp
 ·show(⟨1,0,[]⟩:Ev)::(s.ev++[(⟨2,kind,q⟩:Evr)]).map Evr.ev=evS (m.n++[QI kind bs]) (Q2k m.n.length m.s)
  rw[Q6P]at he;rw[q8,Q2D,Q6P,Q9A hm.ar.wf _ vl];unfold evO;rw[Qdi,Q9H,Q5V hm.ar.wf _ yb,QcK hm.ar hk,map_append,<-List.cons_append,he];unfold evO Evr.ev;rw[<-hq];simp
theorem Rel.push(hm:MkInv m X B D)(h:Rel m s)(bs:List UInt8)(nm:List Int)(k:Int)(hk:k≠21):Rel (Q3g m.n.length (Q20 (QI k bs) { m with s:=m.s++[⟨nm,[]⟩] })) ⟨s.op++[nm],(s.ev++[⟨1,0,none⟩])++[⟨2,k,some bs⟩],s.wr⟩:=by
 have jQ:m.s≠[]:=fun e=>by have:=hm.s1;rw[e]at this;simp at this
 refine⟨?_,h.wr,?_⟩
 ·show s.op++[nm]=((Q2k m.n.length (m.s++[⟨nm,[]⟩])).drop 1).map Opn.name
  rw[Q2D,QhY jQ,map_append,<-h.op];rfl
 ·show(⟨1,0,[]⟩:Ev)::((s.ev++[(⟨1,0,none⟩:Evr)])++[(⟨2,k,some bs⟩:Evr)]).map Evr.ev=evS (m.n++[QI k bs]) (Q2k m.n.length (m.s++[⟨nm,[]⟩]))
  rw[Q2D,Q6P,Q9A hm.ar.wf _ hm.rng,<-h.ev];unfold evO;rw[List.nil_append,Q9H,QcK hm.ar hk];simp[Evr.ev]
theorem Qig(s0:List Opn)(y x:Opn)(z:List Int):(((s0++[y]++[x]).drop 1).map Opn.name).take ((((s0++[y]++[x]).drop 1).map Opn.name).length-1)=((s0++[(⟨y.name,z⟩:Opn)]).drop 1).map Opn.name:=by
 cases s0 with
 |nil=>rfl
 |cons a r =>
  have e:((a::r++[y]++[x]).drop 1).map Opn.name=(r.map Opn.name++[y.name])++[x.name]:=by simp
  rw[e,length_append,length_singleton,Nat.add_sub_cancel,List.take_left];simp
theorem Rel.shut(hm:MkInv m X B D)(h:Rel m s)(hs:2<=m.s.length){kind:Int}(hk:kind≠21)(bs:List UInt8)(q:Option (List UInt8))(hq:q.getD []=bs) :
  Rel (Q22 m.n.length (Q20 (QI kind bs) m)) ⟨s.op.take (s.op.length-1),s.ev++[⟨2,kind,q⟩,⟨3,0,none⟩],s.wr⟩:=by
 obtain⟨s0,y,jM⟩:=QhW hs;generalize QZ m.s=x at jM;obtain⟨en,es⟩:=QmK jM kind bs;obtain⟨qy,yc⟩:=Q4A hm.ar kind bs;have hr:=hm.rng;have ho:=h.op;have he:=h.ev;rw[jM]at hr ho he;have vl:∀z∈s0,InR m.n z.kids:=fun z hz=>hr z (mem_append_left _ (mem_append_left _ hz))
 have yb:InR m.n y.kids:=hr y (mem_append_left _ (by simp))
 have gX:InR m.n x.kids:=hr x (by simp)
 have yN:InR (m.n++[QI kind bs]) (x.kids++[(m.n.length:Int)]):=fun k hk=>by
  rcases List.mem_append.1 hk with hk|hk
  ·exact gX.more _ k hk
  ·obtain rfl:k=(m.n.length:Int):=by simpa using hk
   simp;omega
 have ja:=QhU qy yN
 have e1:spL (m.n++[QI kind bs]) (x.kids++[(m.n.length:Int)])=spL m.n x.kids++[⟨2,kind,bs⟩]:=by
  rw[Qdi,Q9H,Q5V hm.ar.wf _ gX,QcK hm.ar hk]
 rw[e1]at ja;obtain⟨l1,hl⟩:=exq (m.n++[QI kind bs]);rw[<-hl]at ja en es qy;generalize Q1i l1 21 (x.kids++[(m.n.length:Int)])=z at ja en
 have up0:evS (l1++[z]) s0=evS m.n s0:=by
  rw[Q9A qy.wf z (fun q hq=>by rw[hl];exact(vl q hq).more _),hl,Q9A hm.ar.wf _ vl]
 have upy:spL (l1++[z]) y.kids=spL m.n y.kids:=by
  rw[Q5V qy.wf z (by rw[hl];exact yb.more _),hl,Q5V hm.ar.wf _ yb]
 refine⟨?_,h.wr,?_⟩
 ·show s.op.take (s.op.length-1)=_
  rw[es,ho,Qig]
 ·show(⟨1,0,[]⟩:Ev)::(s.ev++[(⟨2,kind,q⟩:Evr),⟨3,0,none⟩]).map Evr.ev=_
  rw[Q6P,Q6P]at he;rw[en,es,Q6P,up0,map_append,<-List.cons_append,he];unfold evO;rw[Qdi,Q9H,upy,ja,<-hq];simp[Evr.ev]
theorem Rel.miss(hm:MkInv m X B D)(h:Rel m s)(hs:2<=m.s.length)(t:Txt)(a:Int):Rel (Q3l t a m) (Q2h t a s) :=
 Rel.shut (Q1P hm t 4 a a) (h.wrong t 4 a a) hs (kind:=22) (by decide) [] none rfl
end
theorem Rel.missGo(t:Txt)(f:Int)(k:Nat){X:List UInt8}{B D:Nat}:∀(n:Nat)(m:Mk)(s:RSt),MkInv m X B D->Rel m s->Rel (Go.Proofs.YtibemhahkicbpaaGreat.missGo t f k n m) (Q1g t f k n s)
 |0,m,s,_,h=>h
 |n+1,m,s,hm,h=>by
  show Rel (if _ then _ else _) (if _ then _ else _);rw[h.len];split
  ·exact Rel.missGo t f k n _ _ (Q5D hm (by omega) t f).1 (h.miss hm (by omega) t f)
  ·exact h
theorem QgH(s:List Opn)(nm:List Int):∀k,((Q2g s nm k:Nat):Int)=Q2G ((s.drop 1).map Opn.name) nm k+1
 |0=>rfl
 |k+1=>by
  unfold Q2g Q2G
  have e:((s.drop 1).map Opn.name)[k]?.getD []=(s[k+1]?.getD ⟨[],[]⟩).name:=by
   rw[getElem?_map,List.getElem?_drop,Nat.add_comm 1 k];cases s[k+1]?<;>rfl
  rw[e];split
  ·rfl
  ·exact QgH s nm k
theorem Qa8(t:Txt)(f:Int)(k:Nat):∀(n:Nat)(s:RSt),k<=s.op.length->s.op.length<=n+k->(Q1g t f k n s).op.length=k
 |0,s,h1,h2=>by show s.op.length=k;omega
 |n+1,s,h1,h2=>by
  show(if _ then _ else _:RSt).op.length=k
  split
  ·have e:(Q2h t f s).op.length=s.op.length-1:=by show(s.op.take (s.op.length-1)).length=_;rw[List.length_take];omega
   exact Qa8 t f k n _ (by omega) (by omega)
  ·omega
section
variable {m:Mk}{s:RSt}{X:List UInt8}{B D:Nat}{t:Txt}{b:List UInt8}{f u:Int}
theorem Rel.lk(hm:MkInv m X B D)(h:Rel m s){kind:Int}(hk:kind≠21):Rel (lkF t b kind f u m) (Q1K t b kind f u s) :=
 Rel.leaf hm h hk (QU t b f u) (some (QU t b f u)) rfl
theorem Rel.start(hm:MkInv m X B D)(h:Rel m s){kind:Int}(hk:kind≠21):Rel (Q1G t b kind f u m) (Q4x t b kind f u s):=by
 have h1:=hm.s1;unfold Q1G Q4x;rw[h.len];by_cases hc:64<m.s.length
 ·rw[if_pos hc,if_pos (by omega)]
  exact Rel.lk (Q1P hm t 5 f u) (h.wrong t 5 f u) hk
 ·rw[if_neg hc,if_neg (by omega)]
  exact Rel.push hm h (QU t b f u) (Qs t f u) kind hk
theorem Rel.end_(hm:MkInv m X B D)(h:Rel m s){kind:Int}(hk:kind≠21):Rel (Q2Y t b kind f u m) (Qbt t b kind f u s):=by
 have h1:=hm.s1;have hf:=QgH m.s (Qs t f u) (m.s.length-1);have jJ:=Q61 m.s (Qs t f u) (m.s.length-1);rw[<-h.op]at hf;unfold Q2Y Qbt;rw[h.len];simp only
 generalize hK:Q2g m.s (Qs t f u) (m.s.length-1)=K at hf jJ ⊢;generalize hR:Q2G s.op (Qs t f u) (m.s.length-1)=r at hf ⊢;by_cases hc:K=0
 ·rw[if_pos hc,if_pos (by omega)]
  exact Rel.lk (Q1P hm t 3 f u) (h.wrong t 3 f u) hk
 ·rw[if_neg hc,if_neg (by omega)]
  have hr:r.toNat+1=K:=by omega
  rw[show m.s.length-1+1=m.s.length by omega,hr]
  obtain⟨h3,h4⟩:=Q7R t f K m.s.length m hm (by omega) (by omega)
  have h5:=Rel.missGo t f K m.s.length m s hm h;have h6:=h5.len;have h7:=Rel.shut h3 h5 (by omega) hk (QU t b f u) (some (QU t b f u)) rfl
  have e:r.toNat=(Q1g t f K m.s.length s).op.length-1:=by omega
  show Rel _ ⟨(Q1g t f K m.s.length s).op.take r.toNat,((Q1g t f K m.s.length s).ev++[_])++[_],_⟩;rw[e,append_assoc];exact h7
theorem Rel.token(hm:MkInv m X B D)(h:Rel m s){kind:Int}(hk:kind≠21)(wh:Bool):Rel (Q26 t b kind f u wh m) (Q63 t b kind f u wh s):=by
 unfold Q26 Q63;simp only
 generalize qF:(if wh=false then QV t 1 f u m else if(kind=8\/kind=9\/kind=10)/\(QD t.r f u).right=false then QV t 2 f u m else m)=m1;generalize jM:(if wh=false then Q1R t 1 f u s else if(kind=8\/kind=9\/kind=10)/\(QD t.r f u).right=false then Q1R t 2 f u s else s)=s1
 have h3:∃D',MkInv m1 X B D'/\Rel m1 s1:=by
  rw[<-qF,<-jM];split
  ·exact⟨_,Q1P hm t 1 f u,h.wrong t 1 f u⟩
  ·split
   ·exact⟨_,Q1P hm t 2 f u,h.wrong t 2 f u⟩
   ·exact⟨_,hm,h⟩
 obtain⟨D',h3,h4⟩:=h3;split
 ·exact Rel.start h3 h4 hk
 ·split
  ·exact Rel.end_ h3 h4 hk
  ·exact Rel.lk h3 h4 hk
end
theorem Rel.toks{t:Txt}{b:List UInt8}(ok:TxtOk t b)(hr:t.r.length<=1000000):∀(n k:Nat)(m:Mk)(s:RSt)(B D:Nat),t.r.length-k<=n->k<=t.r.length->MkI m (Q6y t b k) B D->Rel m s ->
  Rel ((Q1S t.r k).foldl (Q7k t b) m) ((Q1S t.r k).foldl (Q64 t b) s)
 |0,k,m,s,B,D,h,hk,hi,hc=>by
  rw[Q1k (by omega)];exact hc
 |n+1,k,m,s,B,D,h,hk,hi,hc=>by
  by_cases jA:k<t.r.length
  ·obtain⟨h1,h2,h3,h4⟩:=Q9S t.r jA
   rw[Q1O jA,List.foldl_cons,List.foldl_cons];have:=hi.token t b hr (Q1m t.r k).kind (Q1m t.r k).from_ (Q1m t.r k).to (Q1m t.r k).whole
   rw[h1,h2,Q7B ok (by omega) (by omega) (by omega)]at this
   have jD:(Q1m t.r k).kind≠21:=by
    show(((Ql t.r k).1:Nat):Int)≠21
    have:=Qf9 t.r k
    omega
   have h5:Rel (Q26 t b (Q1m t.r k).kind k ((Ql t.r k).2.1:Nat) (Q1m t.r k).whole m) (Q64 t b s (Q1m t.r k)):=Rel.token hi.i hc jD _;exact Rel.toks ok hr n (Ql t.r k).2.1 _ _ (B+3) (D+3) (by omega) h4 this h5
  ·rw[Q1k jA];exact hc
theorem QhJ(b:List UInt8):Rel (Q3s b) (Q2N b):=by
 have h0:Rel mk0 ⟨[],[],[]⟩:=⟨rfl,rfl,rfl⟩;unfold Q3s Q2N;split
 ·exact Rel.leaf mk0_inv.i h0 (kind:=23) (by decide) _ (some _) rfl
 ·exact h0
theorem Q8S(b:List UInt8)(hb:b.length<=100000):(Q1b b).wr=(Qu b).d/\(Q1b b).ev.map Evr.ev=spV (QL (Qu b)).n (Qu b).n.length true:=by
 have hs:=Q6r b hb;have ok:=(Q3N b).1;have hi:=Q6Y b;obtain⟨h1,h2⟩:=Qda ok hs.hr hi;have h3:=Rel.toks ok hs.hr (Qb b).r.length 0 _ _ _ _ (by omega) (by omega) hi (QhJ b)
 have h4:=(QaO ok hs.hr (Qb b).r.length 0 _ _ _ (by omega) (by omega) hi)
 have hR:Rel (Qu b) (Q1b b):=by
  show Rel (missGo _ _ _ _ _) (Q1g _ _ _ _ _);have e:=h3.len;have jM:=h4.i.s1;show Rel (missGo (Qb b) _ 0 ((Q1S (Qb b).r 0).foldl (Q7k (Qb b) b) (Q3s b)).s.length ((Q1S (Qb b).r 0).foldl (Q7k (Qb b) b) (Q3s b))) (Q1g (Qb b) _ 0 (((Q1S (Qb b).r 0).foldl (Q64 (Qb b) b) (Q2N b)).op.length+1) ((Q1S (Qb b).r 0).foldl (Q64 (Qb b) b) (Q2N b)));rw[e,show ∀x:Nat,1<=x->x-1+1=x from fun x hx=>by omega]
  ·exact Rel.missGo _ _ _ _ _ _ h4.i h3
  ·exact jM
 refine⟨hR.wr,?_⟩;have h2:(Qu b).s.length=1:=h2;obtain⟨x,hx⟩:=List.length_eq_one_iff.1 h2;have hr:=h1.i.rng;have yM:(Q8R (Qb b) b (Q3s b)).s=[x]:=hx;rw[yM]at hr;have he:=hR.ev;rw[hx]at he
 have he2:(Q1b b).ev.map Evr.ev=spL (Qu b).n x.kids:=by
  have:evS (Qu b).n [x]=⟨1,0,[]⟩::spL (Qu b).n x.kids:=by simp[evS,evO]
  rw[this]at he;exact(List.cons.inj he).2
 rw[he2]
 have e3:(QL (Qu b)).n=(Qu b).n++[Q1i (Qu b).n 20 x.kids]:=by
  show(Qu b).n++[Q1i (Qu b).n 20 (QZ (Qu b).s).kids]=_
  rw[hx];rfl
 rw[e3];exact(QmG h1.i.ar (hr x (by simp))).symm
section
open Tryz
def QtI:Option (List UInt8)->AV
 |some b=>.slc 1 (Q2 b)
 |none=>.val (.slice none 0 0)
def El.av(x:El):AV:=.agg [.slc 1 (Q9 x.path),.val (.int .i64 x.fr),.val (.int .i64 x.to),.val (.int .i64 x.inn),.val (.int .i64 x.out),.val (.bool x.emp),QtI x.tag]
def QqM(l:List El):List AV:=l.map El.av
theorem QrG(a b:List El):QqM (a++b)=QqM a++QqM b:=by simp[QqM]
theorem QqV(a:List El):(QqM a).length=a.length:=by simp[QqM]
def Qu8(wi:List AV->Int->List AV)(P0:List AV):Nat->List AV->List Ob->Option (AV×List Ob):=fun f args _=>match f,args with
 |66,[.slc 1 l,.val (.int .i64 k)]=>some (.slc 1 (wi l k),[])
 |66,[.val (.slice none 0 0),.val (.int .i64 k)]=>some (.slc 1 (wi P0 k),[])
 |_,_=>none
def Qr4(l:List AV)(k:Int):List AV:=l++[.val (.int .i64 k)]
theorem Qtu(l:List Int):l[((l.length:Int)-1).toNat]?.getD 0=l.getLast?.getD 0:=by
 rw[List.getLast?_eq_getElem?,show((l.length:Int)-1).toNat=l.length-1 by omega]
theorem Qrq{l:List Int}(h:l.length≠0):std.nth (std.cel (std.at_ (Q9 l) (std.sub (std.len (Q9 l)) 1))) 0=.val (.int .i64 (l.getLast?.getD 0)):=by
 have e:std.sub (std.len (Q9 l)) 1=(l.length:Int)-1:=by
  show((Q9 l).length:Int)-1=_
  rw[Q2w]
 rw[e,QdH (by omega) (by omega),Qtu]
theorem Qtd{l:List Int}(h:l.length≠0)(v:Int):std.setx (Q9 l) (std.sub (std.len (Q9 l)) 1) 0 [.val (.int .i64 v)]=Q9 (l.dropLast++[v]):=by
 have e:std.sub (std.len (Q9 l)) 1=(l.length:Int)-1:=by
  show((Q9 l).length:Int)-1=_
  rw[Q2w]
 rw[e,QrP];congr 1
 obtain⟨a,x,rfl⟩:∃a x,l=a++[x]:=⟨l.dropLast,l.getLast (fun e=>h (by rw[e];rfl)),(List.dropLast_concat_getLast _).symm⟩
 have:((((a++[x]).length:Nat):Int)-1).toNat=a.length:=by simp
 rw[this];simp
theorem QrR(l:List Int):std.cut (Q9 l) 0 (std.sub (std.len (Q9 l)) 1)=Q9 l.dropLast:=by
 show((Q9 l).drop (0:Int).toNat).take (((Q9 l).length:Int)-1-0).toNat=_
 rw[Q2w,show(((l.length:Nat):Int)-1-0).toNat=l.length-1 by omega,List.dropLast_eq_take,Q9,Q9,List.map_take];rfl
theorem Qrl(o:List El)(k:Int)(off:Nat)(v:AV)(f:El->El)(hf:∀x:El,(f x).av=Qti x.av off [v])(h0:0<=k)(h1:k<o.length):std.setx (QqM o) k off [v]=QqM (o.modify k.toNat f):=by
 show(QqM o).set k.toNat (Qti ((QqM o).getD k.toNat .dead) off [v])=_
 have hk:k.toNat<o.length:=by omega
 have e:(QqM o).getD k.toNat .dead=(o[k.toNat]).av:=by rw[getD_eq_getElem?_getD,QqM,getElem?_map,getElem?_eq_getElem hk];rfl
 rw[e,<-hf];refine List.ext_getElem? fun j=>?_
 rw[QqM,QqM,getElem?_map,List.getElem?_modify,List.getElem?_set];by_cases hj:k.toNat=j
 ·subst hj
  rw[if_pos rfl,if_pos (by rw[length_map];exact hk),getElem?_eq_getElem hk];simp
 ·rw[if_neg hj,getElem?_map];cases o[j]?<;>simp[hj]
theorem Qts{o:List El}{k:Int}(h0:0<=k)(h1:k<o.length):std.nth (std.drp (std.cel (std.at_ (QqM o) k)) 3) 0=.val (.int .i64 (o[k.toNat]?.getD default).inn):=by
 have hk:k.toNat<o.length:=by omega
 show List.getD (List.drop 3 (AV.cells ((QqM o).getD k.toNat .dead))) 0 .dead=_;rw[getD_eq_getElem?_getD (l:=QqM o),QqM,getElem?_map,getElem?_eq_getElem hk];rfl
def Qrt(ev:List Ev)(i:Int):Al:=(ev.take i.toNat).foldl QqP ⟨[],[],[0],0,0,[]⟩
theorem Qs7{ev:List Ev}{i:Int}(h0:0<=i)(h1:i<ev.length):Qrt ev (i+1)=QqP (Qrt ev i) (ev[i.toNat]?.getD default):=by
 have hk:i.toNat<ev.length:=by omega
 unfold Qrt;rw[show(i+1).toNat=i.toNat+1 by omega,List.take_add_one,getElem?_eq_getElem hk,List.foldl_append];rfl
theorem Qsn{ev:List Ev}{B:Int}(hn:QqZ ev 0)(hB:Qr3 ev<=B):∀(k:Nat),k<=ev.length->∃d,AlOk d B k (Qrt ev k)/\QqZ (ev.drop k) d/\(Qrt ev k).at_+Qr3 (ev.drop k)<=B
 |0,_=>by
  have h0:=Qrv ev;refine⟨0,⟨rfl,rfl,rfl,fun x hx=>(List.not_mem_nil hx).elim,fun x hx=>?_,fun x hx=>(List.not_mem_nil hx).elim,⟨le_refl 0,by show 0<=B;omega⟩,⟨le_refl 0,by show 0<=B;omega⟩,le_refl 0,le_refl 0⟩,hn,by show 0+Qr3 ev<=B;omega⟩
  obtain rfl:x=0:=mem_singleton.1 hx;exact⟨le_refl 0,le_refl 0⟩
 |k+1,hk=>by
  obtain⟨d,h1,h2,h3⟩:=Qsn hn hB k (by omega)
  have yE:k<ev.length:=by omega
  rw[List.drop_eq_getElem_cons yE]at h2 h3;rw[Qrk]at h3;have h4:=Qrv (ev.drop (k+1));obtain⟨d',h5,h6⟩:=h1.step (by omega) h2 (by omega)
  have e:Qrt ev ((k+1:Nat):Int)=QqP (Qrt ev k) ev[k]:=by
   have:=Qs7 (ev:=ev) (i:=(k:Int)) (by omega) (by omega)
   rw[toNat_natCast,getElem?_eq_getElem yE]at this;exact this
  refine⟨d',?_,h6,?_⟩
  ·rw[e];exact h5
  ·rw[e]
   have:(QqP (Qrt ev k) ev[k]).at_<=(Qrt ev k).at_+ev[k].b.length:=by
    unfold QqP;split
    ·show(Qrt ev k).at_<=_;omega
    ·split
     ·show(Qrt ev k).at_<=_;omega
     ·split<;>exact le_refl _
   omega
theorem QuE(c0 c1 c2 c3 c4 c5 c7:AV)(ev:List Evr)(hl:ev.length<=1000000)(yw:QqZ (ev.map Evr.ev) 0)(hB:Qr3 (ev.map Evr.ev)<=1000000) :
  BCall prog 28 [.ref [c0,c1,c2,c3,c4,c5,.slc 3 (Qv ev),c7]] [] (.slc 7 (QqM (alF (ev.map Evr.ev)).o)) []:=by
 obtain⟨n,hn⟩:=QE ev;have jE:std.len (Qv ev)=n:=by show((Qv ev).length:Int)=n;rw[Q6A,hn.eq]
 have jt:0<=n/\n<=1000000:=by rw[hn.eq];omega
 obtain⟨al,j1⟩:=exq (Qrt (ev.map Evr.ev):Int->Al)
 have qT:(alF (ev.map Evr.ev))=al n:=by
  rw[j1,Qrt,List.take_of_length_le (by rw[length_map];have:=hn.eq;omega)];rfl
 have jC:∀i:Int,0<=i->i<=n->∃d,AlOk d 1000000 i (al i)/\QqZ ((ev.map Evr.ev).drop i.toNat) d/\(al i).at_+Qr3 ((ev.map Evr.ev).drop i.toNat)<=1000000:=fun i h0 h1=>by
  have h:=Qsn yw hB i.toNat (by rw[length_map];have:=hn.eq;omega)
  rw[show((i.toNat:Nat):Int)=i by omega]at h
  rw[j1];exact h
 have jH:∀i:Int,0<=i->i<n->al (i+1)=QqP (al i) ((ev[i.toNat]?.getD default).ev):=fun i h0 h1=>by
  have h:=Qs7 (ev:=ev.map Evr.ev) (i:=i) h0 (by rw[length_map,<-hn.eq];exact h1)
  have hk:i.toNat<ev.length:=by have:=hn.eq;omega
  rw[getElem?_map,getElem?_eq_getElem hk]at h;rw[j1,h,getElem?_eq_getElem hk];rfl
 rw[qT];refine fnO false (Qu8 Qr4 []) (fun id=>match id with|11=> .of [0,1,2,3,4,5,7,8,9,10,11,12,13,14,6,15,16,17,18]|_=>.nil) func28 rfl fun _ _=>?_
 with_reducible refine cv2 Qr4 (Qv ev) ?_
 refine⟨⟨.inl rfl,trivial⟩,?_⟩;refine Q46 (cs:=(fun x:Int×Bool=>Qu8 Qr4 (Q9 (al x.1).pa))) (ord:=fun id=>match id with|11=> .of [0,1,2,3,4,5,7,8,9,10,11,12,13,14,6,15,16,17,18]|_=>.nil) Q6k (by kernel_rfl) (by kernel_rfl) (by kernel_rfl) (X:=Int×Bool) (fun x=>⟨[(3,.row 0 0),(4,.row 1 0),(5,.row 2 0),(6,.val (.int .i64 (al x.1).at_)),(7,.val (.int .i64 (al x.1).last)),(8,if x.2=true then .slc 1 (Q9 (al x.1).pa)else .val (.slice none 0 0)),(17,.slc 3 (Qv ev)),(18,.val (.int .i64 n)),(19,.val (.int .i64 x.1))],[.row 46 7 false 0 (QqM (al x.1).o),.row 3 1 false 0 (Q9 (al x.1).op),.row 3 1 false 0 (Q9 (al x.1).ct)]⟩) (fun x=>0<=x.1/\x.1<=n/\(x.2=false->(al x.1).pa=[])) (fun x=>(n-x.1).toNat) (0,false) ?_ ?_ ?_
 ·exact⟨le_refl 0,jt.1,fun _=>by rw[j1];rfl⟩
 ·refine⟨[none,none,some 0],_,rfl,?_⟩
  subst j1;exact eq1 jE
 ·rintro⟨i,fl⟩ ⟨jL,vA,vM⟩
  have jL:0<=i:=jL;have vA:i<=n:=vA;obtain⟨s,hs⟩:=exq (al i);have vM:fl=false->s.pa=[]:=by rw[hs];exact vM
  obtain⟨d,hA,hN,hB2⟩:=jC i jL vA;rw[<-hs]at hA hB2;simp only
  rw[<-hs];have vX:s.ct.length≠0:=by rw[hA.ct];omega
  have kj:=Qrq vX;obtain⟨cl,qn⟩:=exq (s.ct.getLast?.getD 0);have hclr:=hA.last_ct;rw[<-qn]at kj hclr;have hCL:=Ql3 kj;have jR:=hA.ol;have hA0:=hA.a0
  have qN:(std.inb (std.sub (std.len (Q9 s.ct)) 1) (std.len (Q9 s.ct))).q:=by
   show 0<=((Q9 s.ct).length:Int)-1/\((Q9 s.ct).length:Int)-1<((Q9 s.ct).length:Int);rw[Q2w];omega
  have kx:=hA.dl;have hctl:s.ct.length<=1000001:=by have:=hA.ct;omega
  have qN9:(std.inR .i64 (std.sub (std.len (Q9 s.ct)) 1)).q:=by
   show -9223372036854775808<=((Q9 s.ct).length:Int)-1/\((Q9 s.ct).length:Int)-1<=9223372036854775807;rw[Q2w];omega
  have qI:i<n->(std.inR .i64 (std.add i 1)).q:=fun h=>by
   show -9223372036854775808<=i+1/\i+1<=9223372036854775807;omega
  have cW:=Qut s.pa cl (by rw[hA.pa];have:=hA.ct;omega)
  have eW:Q9 (s.pa++[cl])=Qr4 (Q9 s.pa) (std.int (std.nth (std.cel (std.at_ (Q9 s.ct) (std.sub (std.len (Q9 s.ct)) 1))) 0)):=by rw[hCL,Q4T];rfl
  have cW2:BCall prog 66 [.slc 1 (Q9 s.pa),.val (.int .i64 (std.int (std.nth (std.cel (std.at_ (Q9 s.ct) (std.sub (std.len (Q9 s.ct)) 1))) 0)))] [] (.slc 1 (Qr4 (Q9 s.pa) (std.int (std.nth (std.cel (std.at_ (Q9 s.ct) (std.sub (std.len (Q9 s.ct)) 1))) 0)))) []:=by
   rw[<-eW,hCL];exact cW
  have qC1:(std.inR .i64 (std.add (std.int (std.nth (std.cel (std.at_ (Q9 s.ct) (std.sub (std.len (Q9 s.ct)) 1))) 0)) 1)).q:=by
   rw[hCL];show -9223372036854775808<=cl+1/\cl+1<=9223372036854775807;omega
  have eC:std.setx (Q9 s.ct) (std.sub (std.len (Q9 s.ct)) 1) 0 [.val (.int .i64 (std.add (std.int (std.nth (std.cel (std.at_ (Q9 s.ct) (std.sub (std.len (Q9 s.ct)) 1))) 0)) 1))]=Q9 (QqY s.ct):=by
   rw[hCL,Qtd vX,qn];rfl
  have hcal:=Qrd vX;cases fl
  case' false =>
   have pY:=vM rfl;have cW2:BCall prog 66 [.val (.slice none 0 0),.val (.int .i64 (std.int (std.nth (std.cel (std.at_ (Q9 s.ct) (std.sub (std.len (Q9 s.ct)) 1))) 0)))] [] (.slc 1 (Qr4 (Q9 s.pa) (std.int (std.nth (std.cel (std.at_ (Q9 s.ct) (std.sub (std.len (Q9 s.ct)) 1))) 0)))) []:=cW2.le ⟨.inr (.inl ⟨rfl,_,by rw[pY];rfl⟩),.inl rfl,trivial⟩
   rw[if_neg Bool.false_ne_true];with_reducible refine cv8 Qr4 (Qv ev) (QqM s.o) (Q9 s.op) (Q9 s.ct) (Q9 s.pa) s.at_ s.last ?_
  case' true =>
   rw[if_pos rfl];with_reducible refine cv8 Qr4 (Qv ev) (QqM s.o) (Q9 s.op) (Q9 s.ct) (Q9 s.pa) s.at_ s.last ?_
  all_goals
   refine⟨fun h=>?_,fun h=>?_⟩
   ·have jK:i<n:=of_decide_eq_true h
    have hk:i.toNat<ev.length:=by have:=hn.eq;omega
    obtain⟨e,he⟩:=exq (ev[i.toNat])
    have jX:std.at_ (Qv ev) i=e.av:=by
     show(Qv ev).getD i.toNat .dead=_
     rw[getD_eq_getElem?_getD,Qv,getElem?_map,getElem?_eq_getElem hk,he];rfl
    have vZ:(ev.map Evr.ev).drop i.toNat=e.ev::(ev.map Evr.ev).drop (i.toNat+1):=by
     rw[List.drop_eq_getElem_cons (by rw[length_map];exact hk),List.getElem_map,he]
    rw[vZ]at hN hB2;rw[Qrk]at hB2;have ja:=Qrv ((ev.map Evr.ev).drop (i.toNat+1));have jI:al (i+1)=QqP s e.ev:=by rw[jH i jL jK,<-hs,getElem?_eq_getElem hk,he];rfl
    have hX0:(std.all [std.hasI .i64 (std.nth (std.cel (std.at_ (Qv ev) i)) 0),std.hasI .i64 (std.nth (std.cel (std.at_ (Qv ev) i)) 1),std.hasL 1 (std.nth (std.cel (std.at_ (Qv ev) i)) 2)]).q:=by
     rw[jX];refine⟨rfl,rfl,?_,trivial⟩;show(std.hasL 1 e.ba).q
     unfold Evr.ba;split
     ·exact .inl rfl
     ·exact .inr rfl
    have hD:std.int (std.nth (std.cel (std.at_ (Qv ev) i)) 0)=e.do_:=by rw[jX];rfl
    have hK:std.int (std.nth (std.cel (std.at_ (Qv ev) i)) 1)=e.kind:=by rw[jX];rfl
    have hBb:std.lst (std.nth (std.cel (std.at_ (Qv ev) i)) 2)=Q2 e.ev.b:=by
     rw[jX];show Q2x e.ba=Q2 (e.b.getD []);unfold Evr.ba;cases e.b<;>rfl
    have eD:e.ev.do_=e.do_:=rfl;have eK:e.ev.kind=e.kind:=rfl;obtain⟨bb,pJ⟩:=exq e.ev.b
    have xn:std.len (std.lst (std.nth (std.cel (std.at_ (Qv ev) i)) 2))=(bb.length:Int):=by
     rw[hBb,<-pJ];show((Q2 bb).length:Int)=_
     rw[Q11]
    rw[<-pJ]at hB2 hBb;unfold QqP at jI;rw[eD,eK,<-pJ]at jI;rw[QqZ,eD]at hN
    have qAt:(std.inR .i64 (std.add s.at_ (std.len (std.lst (std.nth (std.cel (std.at_ (Qv ev) i)) 2))))).q:=by
     rw[xn];show -9223372036854775808<=s.at_+(bb.length:Int)/\s.at_+(bb.length:Int)<=9223372036854775807;omega
    have eAt:std.add s.at_ (std.len (std.lst (std.nth (std.cel (std.at_ (Qv ev) i)) 2)))=s.at_+(bb.length:Int):=by rw[xn];rfl
    refine⟨⟨jL,by show i<std.len (Qv ev);rw[jE];exact jK⟩,hX0,qN9,fun h1=>?_,fun h1=>⟨fun h3=>?_,fun h3=>⟨fun h9=>?_,fun h9=>⟨fun ho=>?_,fun ho=>?_⟩⟩⟩⟩
    ·have e1:e.do_=1:=by rw[<-hD];exact eq_of_beq h1
     rw[if_pos e1,<-qn]at jI
     have eo:std.app (QqM s.o) [.agg [.slc 1 (Qr4 (Q9 s.pa) (std.int (std.nth (std.cel (std.at_ (Q9 s.ct) (std.sub (std.len (Q9 s.ct)) 1))) 0))),.val (.int .i64 s.at_),.val (.int .i64 0),.val (.int .i64 (-1)),.val (.int .i64 0),.val (.bool false),.val (.slice none 0 0)]]=QqM (al (i+1)).o:=by
      rw[jI,QrG,<-eW];rfl
     have ep:std.app (Q9 s.op) [.val (.int .i64 (std.len (QqM s.o)))]=Q9 (al (i+1)).op:=by
      rw[jI,Q4T];show Q9 s.op++[.val (.int .i64 ((QqM s.o).length:Int))]=_;rw[QqV];rfl
     have ec:std.app (std.setx (Q9 s.ct) (std.sub (std.len (Q9 s.ct)) 1) 0 [.val (.int .i64 (std.add (std.int (std.nth (std.cel (std.at_ (Q9 s.ct) (std.sub (std.len (Q9 s.ct)) 1))) 0)) 1))]) [.val (.int .i64 0)]=Q9 (al (i+1)).ct:=by
      rw[jI,eC,Q4T];rfl
     have ea:s.at_=(al (i+1)).at_:=by rw[jI]
     have el:s.last=(al (i+1)).last:=by rw[jI]
     have eq_:Qr4 (Q9 s.pa) (std.int (std.nth (std.cel (std.at_ (Q9 s.ct) (std.sub (std.len (Q9 s.ct)) 1))) 0))=Q9 (al (i+1)).pa:=by rw[jI,<-eW]
     have qb1:(std.bnd (std.setx (Q9 s.ct) (std.sub (std.len (Q9 s.ct)) 1) 0 [.val (.int .i64 (std.add (std.int (std.nth (std.cel (std.at_ (Q9 s.ct) (std.sub (std.len (Q9 s.ct)) 1))) 0)) 1))]) [.val (.int .i64 0)]).q:=by
      rw[eC];show(Q9 (QqY s.ct)).length+1<=1000000000
      rw[Q2w,hcal];omega
     refine⟨qN,⟨QmM kj,trivial⟩,cW2,qN,⟨QmM kj,trivial⟩,qC1,qN,qb1,?_,?_,qI jK,(i+1,true),⟨by show 0<=i+1;omega,by show i+1<=n;omega,fun h=>Bool.noConfusion h⟩,by show(n-(i+1)).toNat<(n-i).toNat;omega,[some 0,some 1,some 2],_,rfl,?_⟩
     ·show(Q9 s.op).length+1<=1000000000
      rw[Q2w,hA.op];omega
     ·show(QqM s.o).length+1<=1000000000
      rw[QqV];omega
     ·exact eq6 eo ep ec ea el eq_
    ·have e1:¬e.do_=1:=fun x=>by
      have h1:(std.int (std.nth (std.cel (std.at_ (Qv ev) i)) 0) == 1)=false:=h1;rw[hD,x]at h1;exact absurd h1 (by decide)
     have e3:e.do_=3:=by rw[<-hD];exact eq_of_beq h3
     rw[if_neg e1,if_pos e3]at jI hN;have jv:=hA.pa
     have jQ:s.pa≠[]:=fun e=>by
      rw[e]at jv;have jv:0=d:=jv;have:=hN.1
      omega
     try exact absurd pY jQ
     all_goals
      have yc:s.op.length≠0:=by rw[hA.op];have:=hN.1;omega
      have zS:=Qrq yc;obtain⟨pl,vz⟩:=exq (s.op.getLast?.getD 0);rw[<-vz]at zS;have ze:=Ql3 zS
      have yW:0<=pl/\pl<s.o.length:=by
       cases hg:s.op.getLast? with
       |none=>exact absurd (congrArg List.length (List.getLast?_eq_none_iff.1 hg)) yc
       |some y =>
        rw[hg]at vz;rw[vz];exact hA.opr y (List.mem_of_getLast? hg)
      have hopl:=hA.op
      have qP:(std.inb (std.sub (std.len (Q9 s.op)) 1) (std.len (Q9 s.op))).q:=by
       show 0<=((Q9 s.op).length:Int)-1/\((Q9 s.op).length:Int)-1<((Q9 s.op).length:Int);rw[Q2w];omega
      have qP9:(std.inR .i64 (std.sub (std.len (Q9 s.op)) 1)).q:=by
       show -9223372036854775808<=((Q9 s.op).length:Int)-1/\((Q9 s.op).length:Int)-1<=9223372036854775807;rw[Q2w];omega
      have qPL:(std.inb (std.int (std.nth (std.cel (std.at_ (Q9 s.op) (std.sub (std.len (Q9 s.op)) 1))) 0)) (std.len (QqM s.o))).q:=by
       rw[ze];show 0<=pl/\pl<((QqM s.o).length:Int);rw[QqV];exact yW
      have qPL2:∀off v,(std.inb (std.int (std.nth (std.cel (std.at_ (Q9 s.op) (std.sub (std.len (Q9 s.op)) 1))) 0)) (std.len (std.setx (QqM s.o) (std.int (std.nth (std.cel (std.at_ (Q9 s.op) (std.sub (std.len (Q9 s.op)) 1))) 0)) off v))).q:=fun off v=>by
       rw[ze];show 0<=pl/\pl<((Qr8 (QqM s.o) pl.toNat off v).length:Int);rw[Qr0,QqV];exact yW
      rw[<-vz]at jI
      have eo:std.setx (std.setx (QqM s.o) (std.int (std.nth (std.cel (std.at_ (Q9 s.op) (std.sub (std.len (Q9 s.op)) 1))) 0)) 2 [.val (.int .i64 s.at_)]) (std.int (std.nth (std.cel (std.at_ (Q9 s.op) (std.sub (std.len (Q9 s.op)) 1))) 0)) 4 [.val (.int .i64 s.last)]=QqM (al (i+1)).o:=by
       rw[ze,Qrl s.o pl 2 _ (fun x=>{ x with to:=s.at_ }) (fun x=>rfl) yW.1 yW.2,Qrl _ pl 4 _ (fun x=>{ x with out:=s.last }) (fun x=>rfl) yW.1 (by rw[List.length_modify];exact yW.2),List.modify_modify_eq,jI];rfl
      have ep:std.cut (Q9 s.op) 0 (std.sub (std.len (Q9 s.op)) 1)=Q9 (al (i+1)).op:=by rw[QrR,jI]
      have ec:std.cut (Q9 s.ct) 0 (std.sub (std.len (Q9 s.ct)) 1)=Q9 (al (i+1)).ct:=by rw[QrR,jI]
      have ea:s.at_=(al (i+1)).at_:=by rw[jI]
      have el:s.last=(al (i+1)).last:=by rw[jI]
      have eq_:std.cut (Q9 s.pa) 0 (std.sub (std.len (Q9 s.pa)) 1)=Q9 (al (i+1)).pa:=by rw[QrR,jI]
      refine⟨qP9,qP,⟨QmM zS,trivial⟩,qPL,qPL2 _ _,qP9,?_,?_,?_,?_,qI jK,(i+1,true),⟨by show 0<=i+1;omega,by show i+1<=n;omega,fun h=>Bool.noConfusion h⟩,by show(n-(i+1)).toNat<(n-i).toNat;omega,[some 0,some 1,some 2],_,rfl,?_⟩
      ·show(0:Int)<=0/\0<=((Q9 s.op).length:Int)-1/\((Q9 s.op).length:Int)-1<=((Q9 s.op).length:Int)
       rw[Q2w];omega
      ·show(0:Int)<=0/\0<=((Q9 s.ct).length:Int)-1/\((Q9 s.ct).length:Int)-1<=((Q9 s.ct).length:Int)
       rw[Q2w];omega
      ·show -9223372036854775808<=((Q9 s.pa).length:Int)-1/\((Q9 s.pa).length:Int)-1<=9223372036854775807
       rw[Q2w];omega
      ·show(0:Int)<=0/\0<=((Q9 s.pa).length:Int)-1/\((Q9 s.pa).length:Int)-1<=((Q9 s.pa).length:Int)
       rw[Q2w];have:=hN.1;omega
      ·exact eq6 eo ep ec ea el eq_
    ·have e1:¬e.do_=1:=fun x=>by
      have h1:(std.int (std.nth (std.cel (std.at_ (Qv ev) i)) 0) == 1)=false:=h1;rw[hD,x]at h1;exact absurd h1 (by decide)
     have e3:¬e.do_=3:=fun x=>by
      have h3:(std.int (std.nth (std.cel (std.at_ (Qv ev) i)) 0) == 3)=false:=h3;rw[hD,x]at h3;exact absurd h3 (by decide)
     rw[if_neg e1,if_neg e3]at jI;have e9:e.kind=9:=by rw[<-hK];exact eq_of_beq h9
     rw[if_pos e9,<-qn]at jI
     have eo:std.app (QqM s.o) [.agg [.slc 1 (Qr4 (Q9 s.pa) (std.int (std.nth (std.cel (std.at_ (Q9 s.ct) (std.sub (std.len (Q9 s.ct)) 1))) 0))),.val (.int .i64 s.at_),.val (.int .i64 (std.add s.at_ (std.len (std.lst (std.nth (std.cel (std.at_ (Qv ev) i)) 2))))),.val (.int .i64 0),.val (.int .i64 0),.val (.bool true),.slc 1 (std.lst (std.nth (std.cel (std.at_ (Qv ev) i)) 2))]]=QqM (al (i+1)).o:=by
      rw[jI,QrG,<-eW,eAt,hBb];rfl
     have ep:Q9 s.op=Q9 (al (i+1)).op:=by rw[jI]
     have ec:std.setx (Q9 s.ct) (std.sub (std.len (Q9 s.ct)) 1) 0 [.val (.int .i64 (std.add (std.int (std.nth (std.cel (std.at_ (Q9 s.ct) (std.sub (std.len (Q9 s.ct)) 1))) 0)) 1))]=Q9 (al (i+1)).ct:=by
      rw[jI,eC]
     have ea:std.add s.at_ (std.len (std.lst (std.nth (std.cel (std.at_ (Qv ev) i)) 2)))=(al (i+1)).at_:=by rw[jI];exact eAt
     have el:s.at_=(al (i+1)).last:=by rw[jI]
     have eqp:Q9 s.pa=Q9 (al (i+1)).pa:=by rw[jI]
     first
      |refine⟨qN,⟨QmM kj,trivial⟩,qAt,cW2,?_,qN,⟨QmM kj,trivial⟩,qC1,qN,qAt,qI jK,(i+1,false),⟨by show 0<=i+1;omega,by show i+1<=n;omega,fun _=>by show(al (i+1)).pa=[];rw[jI];exact pY⟩,by show(n-(i+1)).toNat<(n-i).toNat;omega,[some 0,some 1,some 2],_,rfl,?_⟩
      |refine⟨qN,⟨QmM kj,trivial⟩,qAt,cW2,?_,qN,⟨QmM kj,trivial⟩,qC1,qN,qAt,qI jK,(i+1,true),⟨by show 0<=i+1;omega,by show i+1<=n;omega,fun h=>Bool.noConfusion h⟩,by show(n-(i+1)).toNat<(n-i).toNat;omega,[some 0,some 1,some 2],_,rfl,?_⟩
     ·show(QqM s.o).length+1<=1000000000
      rw[QqV];omega
     ·exact eq6 eo ep ec ea el eqp
    ·have e1:¬e.do_=1:=fun x=>by
      have h1:(std.int (std.nth (std.cel (std.at_ (Qv ev) i)) 0) == 1)=false:=h1;rw[hD,x]at h1;exact absurd h1 (by decide)
     have e3:¬e.do_=3:=fun x=>by
      have h3:(std.int (std.nth (std.cel (std.at_ (Qv ev) i)) 0) == 3)=false:=h3;rw[hD,x]at h3;exact absurd h3 (by decide)
     rw[if_neg e1,if_neg e3]at jI
     have e9:¬e.kind=9:=fun x=>by
      have h9:(std.int (std.nth (std.cel (std.at_ (Qv ev) i)) 1) == 9)=false:=h9;rw[hK,x]at h9;exact absurd h9 (by decide)
     rw[if_neg e9]at jI
     have yc:s.op.length≠0:=fun e=>by
      have ho:0<((Q9 s.op).length:Int):=of_decide_eq_true ho;rw[Q2w,e]at ho;omega
     have gJ:s.op≠[]:=fun e=>yc (by rw[e];rfl)
     have zS:=Qrq yc;obtain⟨pl,vz⟩:=exq (s.op.getLast?.getD 0);rw[<-vz]at zS;have ze:=Ql3 zS
     have yW:0<=pl/\pl<s.o.length:=by
      cases hg:s.op.getLast? with
      |none=>exact absurd (congrArg List.length (List.getLast?_eq_none_iff.1 hg)) yc
      |some y =>
       rw[hg]at vz;rw[vz];exact hA.opr y (List.mem_of_getLast? hg)
     have hopl:=hA.op
     have qP:(std.inb (std.sub (std.len (Q9 s.op)) 1) (std.len (Q9 s.op))).q:=by
      show 0<=((Q9 s.op).length:Int)-1/\((Q9 s.op).length:Int)-1<((Q9 s.op).length:Int);rw[Q2w];omega
     have qP9:(std.inR .i64 (std.sub (std.len (Q9 s.op)) 1)).q:=by
      show -9223372036854775808<=((Q9 s.op).length:Int)-1/\((Q9 s.op).length:Int)-1<=9223372036854775807;rw[Q2w];omega
     have qPL:(std.inb (std.int (std.nth (std.cel (std.at_ (Q9 s.op) (std.sub (std.len (Q9 s.op)) 1))) 0)) (std.len (QqM s.o))).q:=by
      rw[ze];show 0<=pl/\pl<((QqM s.o).length:Int);rw[QqV];exact yW
     have qPL2:∀off v,(std.inb (std.int (std.nth (std.cel (std.at_ (Q9 s.op) (std.sub (std.len (Q9 s.op)) 1))) 0)) (std.len (std.setx (QqM s.o) (std.int (std.nth (std.cel (std.at_ (Q9 s.op) (std.sub (std.len (Q9 s.op)) 1))) 0)) off v))).q:=fun off v=>by
      rw[ze];show 0<=pl/\pl<((Qr8 (QqM s.o) pl.toNat off v).length:Int);rw[Qr0,QqV];exact yW
     have zt:=Qts yW.1 yW.2;rw[<-ze]at zt;refine⟨qP9,qP,⟨QmM zS,trivial⟩,qPL,⟨QmM zt,trivial⟩,fun hi=>?_,fun hi=>?_⟩
     ·have hi:(s.o[pl.toNat]?.getD default).inn<0:=by
       have hi:std.int (std.nth (std.drp (std.cel (std.at_ (QqM s.o) (std.int (std.nth (std.cel (std.at_ (Q9 s.op) (std.sub (std.len (Q9 s.op)) 1))) 0)))) 3) 0)<0:=of_decide_eq_true hi;rw[Ql3 zt,ze]at hi;exact hi
      rw[if_pos ⟨gJ,by rw[<-vz];exact hi⟩,<-vz]at jI
      have eo:std.setx (std.setx (QqM s.o) (std.int (std.nth (std.cel (std.at_ (Q9 s.op) (std.sub (std.len (Q9 s.op)) 1))) 0)) 3 [.val (.int .i64 (std.add s.at_ (std.len (std.lst (std.nth (std.cel (std.at_ (Qv ev) i)) 2)))))]) (std.int (std.nth (std.cel (std.at_ (Q9 s.op) (std.sub (std.len (Q9 s.op)) 1))) 0)) 6 [.slc 1 (std.lst (std.nth (std.cel (std.at_ (Qv ev) i)) 2))]=QqM (al (i+1)).o:=by
       rw[ze,eAt,hBb,Qrl s.o pl 3 _ (fun x=>{ x with inn:=s.at_+(bb.length:Int) }) (fun x=>rfl) yW.1 yW.2,Qrl _ pl 6 _ (fun x=>{ x with tag:=some bb }) (fun x=>rfl) yW.1 (by rw[List.length_modify];exact yW.2),List.modify_modify_eq,jI];rfl
      have ep:Q9 s.op=Q9 (al (i+1)).op:=by rw[jI]
      have ec:Q9 s.ct=Q9 (al (i+1)).ct:=by rw[jI]
      have ea:std.add s.at_ (std.len (std.lst (std.nth (std.cel (std.at_ (Qv ev) i)) 2)))=(al (i+1)).at_:=by rw[jI];exact eAt
      have el:s.at_=(al (i+1)).last:=by rw[jI]
      have eqp:Q9 s.pa=Q9 (al (i+1)).pa:=by rw[jI]
      first
       |refine⟨qP9,qP,⟨QmM zS,trivial⟩,qAt,qPL,qP9,qP,⟨QmM zS,trivial⟩,qPL2 _ _,qAt,qI jK,(i+1,false),⟨by show 0<=i+1;omega,by show i+1<=n;omega,fun _=>by show(al (i+1)).pa=[];rw[jI];exact pY⟩,by show(n-(i+1)).toNat<(n-i).toNat;omega,[some 0,some 1,some 2],_,rfl,?_⟩
       |refine⟨qP9,qP,⟨QmM zS,trivial⟩,qAt,qPL,qP9,qP,⟨QmM zS,trivial⟩,qPL2 _ _,qAt,qI jK,(i+1,true),⟨by show 0<=i+1;omega,by show i+1<=n;omega,fun h=>Bool.noConfusion h⟩,by show(n-(i+1)).toNat<(n-i).toNat;omega,[some 0,some 1,some 2],_,rfl,?_⟩
      exact eq6 eo ep ec ea el eqp
     ·have hi:¬(s.o[pl.toNat]?.getD default).inn<0:=by
       have hi:¬std.int (std.nth (std.drp (std.cel (std.at_ (QqM s.o) (std.int (std.nth (std.cel (std.at_ (Q9 s.op) (std.sub (std.len (Q9 s.op)) 1))) 0)))) 3) 0)<0:=of_decide_eq_false hi;rw[Ql3 zt,ze]at hi;exact hi
      rw[if_neg (fun h=>hi (by rw[vz];exact h.2))]at jI
      have eo:QqM s.o=QqM (al (i+1)).o:=by rw[jI]
      have ep:Q9 s.op=Q9 (al (i+1)).op:=by rw[jI]
      have ec:Q9 s.ct=Q9 (al (i+1)).ct:=by rw[jI]
      have ea:std.add s.at_ (std.len (std.lst (std.nth (std.cel (std.at_ (Qv ev) i)) 2)))=(al (i+1)).at_:=by rw[jI];exact eAt
      have el:s.at_=(al (i+1)).last:=by rw[jI]
      have eqp:Q9 s.pa=Q9 (al (i+1)).pa:=by rw[jI]
      first
       |refine⟨qAt,qI jK,(i+1,false),⟨by show 0<=i+1;omega,by show i+1<=n;omega,fun _=>by show(al (i+1)).pa=[];rw[jI];exact pY⟩,by show(n-(i+1)).toNat<(n-i).toNat;omega,[some 0,some 1,some 2],_,rfl,?_⟩
       |refine⟨qAt,qI jK,(i+1,true),⟨by show 0<=i+1;omega,by show i+1<=n;omega,fun h=>Bool.noConfusion h⟩,by show(n-(i+1)).toNat<(n-i).toNat;omega,[some 0,some 1,some 2],_,rfl,?_⟩
      exact eq6 eo ep ec ea el eqp
    ·have e1:¬e.do_=1:=fun x=>by
      have h1:(std.int (std.nth (std.cel (std.at_ (Qv ev) i)) 0) == 1)=false:=h1;rw[hD,x]at h1;exact absurd h1 (by decide)
     have e3:¬e.do_=3:=fun x=>by
      have h3:(std.int (std.nth (std.cel (std.at_ (Qv ev) i)) 0) == 3)=false:=h3;rw[hD,x]at h3;exact absurd h3 (by decide)
     rw[if_neg e1,if_neg e3]at jI
     have e9:¬e.kind=9:=fun x=>by
      have h9:(std.int (std.nth (std.cel (std.at_ (Qv ev) i)) 1) == 9)=false:=h9;rw[hK,x]at h9;exact absurd h9 (by decide)
     rw[if_neg e9]at jI
     have gJ:s.op=[]:=by
      have ho:¬0<((Q9 s.op).length:Int):=of_decide_eq_false ho;rw[Q2w]at ho;exact List.eq_nil_of_length_eq_zero (by omega)
     rw[if_neg (fun h=>h.1 gJ)]at jI
     have eo:QqM s.o=QqM (al (i+1)).o:=by rw[jI]
     have ep:Q9 s.op=Q9 (al (i+1)).op:=by rw[jI]
     have ec:Q9 s.ct=Q9 (al (i+1)).ct:=by rw[jI]
     have ea:std.add s.at_ (std.len (std.lst (std.nth (std.cel (std.at_ (Qv ev) i)) 2)))=(al (i+1)).at_:=by rw[jI];exact eAt
     have el:s.at_=(al (i+1)).last:=by rw[jI]
     have eqp:Q9 s.pa=Q9 (al (i+1)).pa:=by rw[jI]
     first
      |refine⟨qAt,qI jK,(i+1,false),⟨by show 0<=i+1;omega,by show i+1<=n;omega,fun _=>by show(al (i+1)).pa=[];rw[jI];exact pY⟩,by show(n-(i+1)).toNat<(n-i).toNat;omega,[some 0,some 1,some 2],_,rfl,?_⟩
      |refine⟨qAt,qI jK,(i+1,true),⟨by show 0<=i+1;omega,by show i+1<=n;omega,fun h=>Bool.noConfusion h⟩,by show(n-(i+1)).toNat<(n-i).toNat;omega,[some 0,some 1,some 2],_,rfl,?_⟩
     exact eq6 eo ep ec ea el eqp
   ·have jK:i=n:=by
     have h:¬i<n:=of_decide_eq_false h;omega
    subst jK;rw[if_pos trivial];with_reducible refine cv7 (Qv ev) (QqM s.o) (Q9 s.op) (Q9 s.ct) (Q9 s.pa) s.at_ s.last ?_
    rw[<-hs];exact .pure rfl (.inl rfl)
end
def Qrw(l:List Node)(n:Int)(p:List Int)(f:Int):El :=
 if Q1f l n=9 then⟨p,f,f+(pr l n).length,0,0,true,some (pr l n)⟩
 else⟨p,f,f+(pr l n).length,f+(pr l ((Qn l n).kids.head?.getD 0)).length,f+(pr l n).length-(pr l ((Qn l n).kids.getLast?.getD 0)).length,false,some (pr l ((Qn l n).kids.head?.getD 0))⟩
theorem Qro(l:List Node)(n:Int)(p:List Int)(f:Int):(Qrw l n p f).path=p:=by unfold Qrw;split<;>rfl
def QuF(g:Int->List Int->Int->List El):Prop:=∀n p f,∀e∈g n p f,∃s,e.path=p++s
theorem Qrh{g:Int->List Int->Int->List El}{l:List Node}(hg:QuF g):∀(ks:List Int)(p:List Int)(i f:Int),∀e∈Qrg g l ks p i f,∃j s,i<=j/\e.path=p++j::s
 | [],_,_,_,e,h=>by cases h
 |k::r,p,i,f,e,h=>by
  rw[Qrg]at h;rcases List.mem_append.1 h with h|h
  ·obtain⟨s,hs⟩:=hg _ _ _ e h
   exact⟨i,s,le_refl i,by rw[hs,append_assoc];rfl⟩
  ·obtain⟨j,s,h1,h2⟩:=Qrh hg r p _ _ e h
   refine⟨j,s,?_,h2⟩;split at h1<;>omega
theorem Qru(l:List Node):∀m,QuF (elF l m)
 |0,_,_,_,e,h=>by cases h
 |m+1,n,p,f,e,h=>by
  rw[elF]at h;split at h
  ·obtain rfl:=mem_singleton.1 h
   exact⟨[],by simp⟩
  ·split at h
   ·rcases List.mem_cons.1 h with rfl|h
    ·exact⟨[],by simp⟩
    ·obtain⟨j,s,_,h2⟩:=Qrh (Qru l m) _ _ _ _ e h
     exact⟨j::s,h2⟩
   ·cases h
def QqS(o:List El)(p:List Int):Option El:=o.find? fun e=>decide (e.path=p)
theorem Qr2{o:List El}{p:List Int}(h:∀e∈o,e.path≠p):QqS o p=none :=
 List.find?_eq_none.2 fun e he=>by simpa using h e he
theorem Qs9(a b:List El)(p:List Int):QqS (a++b) p=(QqS a p).or (QqS b p):=List.find?_append
theorem QqU(l:List Node):∀r,QqO l none r=none
 | []=>rfl
 |_::_=>rfl
theorem QtZ{l:List Node}{n:Int}(h:¬QqN l n=true)(m:Nat)(p:List Int)(f:Int):elF l m n p f=[]:=by
 have h1:Q1f l n≠21/\Q1f l n≠9:=by simpa[QqN]using h
 cases m with
 |zero=>rfl
 |succ m=>rw[elF,if_neg h1.2,if_neg h1.1]
theorem Qs5(l:List Node)(a:List Int)(k:Int):Q1Z l (a++[k])=Q1Z l a+Q1c l k:=by simp[Q1Z]
def Qua(l:List Node)(m:Nat)(c:Cur):Prop:=∀p r,QqS (elF l m c.n p c.f) (p++r)=(QqO l (some c) r).map fun c'=>Qrw l c'.n (p++r) c'.f
theorem Qsk{l:List Node}{m:Nat}{c:Cur}(IH:∀k:Int,0<=k->k<(Qg l c).length->QqN l (Q34 l c k).n=true->Qua l m (Q34 l c k))
  (hw:∀k∈Qg l c,((pr l k).length:Int)=Q1c l k) (p:List Int) (x:Int) (r:List Int) :
  ∀(ks pre:List Int)(k:Nat)(i f:Int),Qg l c=pre++ks->pre.length=k->f=c.f+Q1Z l pre->i<=x ->
   QqS (Qrg (elF l m) l ks p i f) (p++x::r)=(QqO l ((QqT l ks (x-i) (k:Int)).map (Q34 l c)) r).map fun c'=>Qrw l c'.n (p++x::r) c'.f
 | [],_,_,_,_,_,_,_,_=>by
  rw[Qrg,QqT,Option.map_none,QqU];rfl
 |y::ks,pre,k,i,f,hk,hp,hf,hi=>by
  have hd:Q34 l c (k:Int)=.kid y f k c:=by
   have e1:(Qg l c)[k]?=some y:=by rw[hk,List.getElem?_append_right (by omega),hp,Nat.sub_self];rfl
   have e2:(Qg l c).take k=pre:=by rw[hk,<-hp];simp
   rw[Q34,toNat_natCast,e1,e2,hf];rfl
  have cr:=hw y (by rw[hk];simp)
  have jc:=Qsk IH hw p x r ks (pre++[y]) (k+1) (if QqN l y=true then i+1 else i) (f+(pr l y).length) (by rw[hk];simp) (by simp[hp]) (by rw[Qs5,cr,hf];omega)
  rw[Qrg,Qs9];by_cases hy:QqN l y=true
  ·rw[QqT,if_pos hy]
   rw[if_pos hy]at jc ⊢;by_cases hx:x=i
   ·subst hx
    rw[if_pos (by omega),Option.map_some,hd]
    have hB:QqS (Qrg (elF l m) l ks p (x+1) (f+(pr l y).length)) (p++x::r)=none:=Qr2 fun e he h=>by
     obtain⟨j,s,h1,h2⟩:=Qrh (Qru l m) _ _ _ _ e he;rw[h]at h2;have:=List.append_cancel_left h2
     injection this with h3 _
     omega
    have hA:=IH k (by omega) (by rw[hk];simp;omega) (by rw[hd];exact hy) (p++[x]) r
    rw[hd]at hA;have e:p++[x]++r=p++x::r:=by simp
    rw[e]at hA;have hA:QqS (elF l m y (p++[x]) f) (p++x::r)=_:=hA;rw[hB,hA,Option.or_none]
   ·rw[if_neg (by omega)]
    have hA:QqS (elF l m y (p++[i]) f) (p++x::r)=none:=Qr2 fun e he h=>by
     obtain⟨s,h2⟩:=Qru l m _ _ _ e he;rw[h,append_assoc]at h2;have:=List.append_cancel_left h2
     injection this with h3 _
     exact hx h3
    rw[hA,none_or,jc (by omega),show x-(i+1)=x-i-1 by omega,show((k+1:Nat):Int)=(k:Int)+1 by omega]
  ·rw[QqT,if_neg hy,QtZ hy]
   rw[if_neg hy]at jc ⊢;rw[show QqS [] (p++x::r)=none from rfl,none_or,jc hi,show((k+1:Nat):Int)=(k:Int)+1 by omega]
theorem Qs2(p:List Int)(x:Int)(r:List Int):p≠p++x::r:=fun h=>by
 have:=congrArg List.length h
 simp at this
theorem Qs6{l:List Node}(ha:Ar l)(qk:∀n,Q1f l n=9->(Qn l n).kids=[]):∀(m:Nat)(c:Cur),0<=c.n->c.n<l.length->c.n.toNat<m->QqN l c.n=true->Qua l m c
 |0,_,_,_,h,_=>by omega
 |m+1,c,h0,h1,hm,he=>by
  intro p r;by_cases h9:Q1f l c.n=9
  ·have e:elF l (m+1) c.n p c.f=[Qrw l c.n p c.f]:=by rw[elF,if_pos h9,Qrw,if_pos h9]
   rw[e];cases r with
   |nil=>simp[QqS,QqO,Qro]
   |cons x r =>
    have hs:QqQ l c x=none:=by rw[QqQ,Qg,qk _ h9];rfl
    rw[Qr2 (fun e he h=>by rw[mem_singleton.1 he,Qro]at h;exact Qs2 _ _ _ h),QqO,hs,QqU]
    split<;>rfl
  ·have hk:Q1f l c.n=21:=by
    have h2:Q1f l c.n=21\/Q1f l c.n=9:=by simpa[QqN]using he
    exact h2.resolve_right h9
   have e:elF l (m+1) c.n p c.f=[Qrw l c.n p c.f]++Qrg (elF l m) l (Qg l c) p 0 c.f:=by rw[elF,if_neg h9,if_pos hk,Qrw,if_neg h9];rfl
   rw[e,Qs9];cases r with
   |nil=>simp[QqS,QqO,Qro]
   |cons x r =>
    rw[Qr2 (o:=[Qrw l c.n p c.f]) (fun e he h=>by rw[mem_singleton.1 he,Qro]at h;exact Qs2 _ _ _ h),none_or,QqO]
    by_cases hx:x<0
    ·rw[if_pos hx,Qr2 (fun e he h=>by
      obtain⟨j,s,h1,h2⟩:=Qrh (Qru l m) _ _ _ _ e he;rw[h]at h2;have:=List.append_cancel_left h2
      injection this with h3 _
      omega)]
     rfl
    ·rw[if_neg hx]
     have j8:∀k∈Qg l c,0<=k/\k<c.n:=ha.wf c.n h0 h1
     have:=Qsk (m:=m) (c:=c) (fun k qB jU jW=>by
      have gP:(Q34 l c k).n∈Qg l c:=by
       have yE:k.toNat<(Qg l c).length:=by omega
       show(Qg l c)[k.toNat]?.getD 0∈_
       rw[getElem?_eq_getElem yE];exact getElem_mem yE
      have h3:=j8 _ gP;exact Qs6 ha qk m _ h3.1 (by omega) (by omega) jW) (fun k hk=>(ha.wide k (j8 k hk).1 (by have:=j8 k hk;omega)).symm) p x r (Qg l c) [] 0 0 c.f rfl rfl (by simp[Q1Z]) (by omega)
     rw[this,Int.sub_zero];rfl
theorem Qtp{l:List Node}(ha:Ar l)(qk:∀n,Q1f l n=9->(Qn l n).kids=[]){n:Int}(h0:0<=n)(h1:n<l.length)(ls:List Int) :
  QqS (Qso l n) (0::ls)=(QqO l (QqQ l (.root n) 0) ls).map fun c'=>Qrw l c'.n (0::ls) c'.f:=by
 have j8:∀k∈Qg l (.root n),0<=k/\k<n:=ha.wf n h0 h1
 have:=Qsk (m:=n.toNat) (c:=.root n) (fun k qB jU jW=>by
  have gP:(Q34 l (.root n) k).n∈Qg l (.root n):=by
   have yE:k.toNat<(Qg l (.root n)).length:=by omega
   show(Qg l (.root n))[k.toNat]?.getD 0∈_
   rw[getElem?_eq_getElem yE];exact getElem_mem yE
  have h3:=j8 _ gP;exact Qs6 ha qk _ _ h3.1 (by omega) (by omega) jW) (fun k hk=>(ha.wide k (j8 k hk).1 (by have:=j8 k hk;omega)).symm) [] 0 ls (Qg l (.root n)) [] 0 0 0 rfl rfl (by simp[Q1Z,Cur.f]) (le_refl 0)
 exact this
theorem Qtv{l:List Node}{n:Int}:∀e∈Qso l n,∃j s,0<=j/\e.path=j::s:=fun e he=>Qrh (Qru l _) _ [] _ _ e he
section
open Tryz
def QsC:El:=⟨[],0,0,0,0,false,none⟩
def elR(x:El):List AV:=[.slc 1 (Q9 x.path),.val (.int .i64 x.fr),.val (.int .i64 x.to),.val (.int .i64 x.inn),.val (.int .i64 x.out),.val (.bool x.emp),.slc 1 (Q2 (x.tag.getD []))]
def Qux(L:List AV)(sb:Bool):Nat->List AV->List Ob->Option (AV×List Ob):=fun f args _=>match f,args with
 |28,[.ref _]=>some (.slc 7 L,[])
 |26,[.slc 1 _,.slc 1 _]=>some (.val (.bool sb),[])
 |_,_=>none
theorem QsE{L:List El}{q:List Int}{i:Nat}(h:i<L.length):QqS (L.drop i) q=if L[i].path=q then some L[i]else QqS (L.drop (i+1)) q:=by
 rw[List.drop_eq_getElem_cons h,QqS,List.find?_cons];by_cases e:L[i].path=q
 ·rw[if_pos e];simp[e]
 ·rw[if_neg e];simp[e,QqS]
theorem Qt8(c0 c1 c2 c3 c4 c5 c6 c7:AV)(L:List El)(cA:BCall prog 28 [.ref [c0,c1,c2,c3,c4,c5,c6,c7]] [] (.slc 7 (QqM L)) [])
  (hL:L.length<=1000000) (hp:∀x∈L,x.path.length<=1000000/\x.path≠[]) (ls:List Int) (vm:ls.length<=1000000) :
  BCall prog 17 [.ref [c0,c1,c2,c3,c4,c5,c6,c7],.slc 1 (Q9 ls)] [] (.tup [.agg (elR ((QqS L (0::ls)).getD QsC)),.val (.bool (QqS L (0::ls)).isSome)]) []:=by
 obtain⟨n,hn⟩:=QE L;have jE:std.len (QqM L)=n:=by show((QqM L).length:Int)=n;rw[QqV,hn.eq]
 have jt:0<=n/\n<=1000000:=by rw[hn.eq];omega
 obtain⟨R,hR⟩:=exq (QqS L (0::ls));rw[<-hR];obtain⟨X,hX⟩:=exq (fun i=>L[i.toNat]?.getD QsC:Int->El)
 have hfd:∀i:Int,0<=i->i<n->QqS (L.drop i.toNat) (0::ls)=if(X i).path=0::ls then some (X i)else QqS (L.drop (i+1).toNat) (0::ls):=fun i h0 h1=>by
  have hk:i.toNat<L.length:=by have:=hn.eq;omega
  rw[QsE hk,hX,show(i+1).toNat=i.toNat+1 by omega]
  simp only[getElem?_eq_getElem hk,getD_some]
 have hXp:∀i:Int,0<=i->i<n->(X i).path.length<=1000000/\(X i).path≠[]:=fun i h0 h1=>by
  have hk:i.toNat<L.length:=by have:=hn.eq;omega
  rw[hX];simp only[getElem?_eq_getElem hk,getD_some];exact hp _ (getElem_mem hk)
 have jX:∀i:Int,0<=i->i<n->std.at_ (QqM L) i=(X i).av:=fun i h0 h1=>by
  have hk:i.toNat<L.length:=by have:=hn.eq;omega
  show(QqM L).getD i.toNat .dead=_
  rw[getD_eq_getElem?_getD,QqM,getElem?_map,getElem?_eq_getElem hk,hX];simp only[getElem?_eq_getElem hk,getD_some];rfl
 have qT:QqS (L.drop n.toNat) (0::ls)=none:=by
  rw[List.drop_eq_nil_of_le (by have:=hn.eq;omega)];rfl
 have jH:QqS (L.drop (0:Int).toNat) (0::ls)=R:=by rw[hR];rfl
 clear hX hR hp;refine fnN (Qux (QqM L) false) func17 rfl fun _ _=>?_
 with_reducible refine cv2 (QqM L) (Q9 ls) ?_
 refine⟨cA,?_⟩;refine Q46 (cs:=(fun i:Int=>Qux (QqM L) (decide ((X i).path.tail=ls)))) (ord:=fun _=>.nil) Q6k (by kernel_rfl) (by kernel_rfl) (by kernel_rfl) (X:=Int) (fun i=>⟨[(1,.slc 1 (Q9 ls)),(4,.box 0 0),(9,.slc 7 (QqM L)),(10,.val (.int .i64 n)),(11,.val (.int .i64 i))],[.box [.val (.slice none 0 0),.val (.int .i64 0),.val (.int .i64 0),.val (.int .i64 0),.val (.int .i64 0),.val (.bool false),.val (.slice none 0 0)]]⟩) (fun i=>0<=i/\i<=n/\QqS (L.drop i.toNat) (0::ls)=R) (fun i=>(n-i).toNat) 0 ?_ ?_ ?_
 ·exact⟨le_refl 0,jt.1,jH⟩
 ·refine⟨[some 0],_,rfl,?_⟩
  exact eq1 jE
 ·rintro i ⟨jL,vA,hi⟩
  have jL:0<=i:=jL;have vA:i<=n:=vA;have hi:QqS (L.drop i.toNat) (0::ls)=R:=hi;obtain⟨sb,qU⟩:=exq (decide ((X i).path.tail=ls));rw[<-qU];with_reducible refine cv2 (QqM L) (Q9 ls) ?_
  refine⟨fun h=>?_,fun h=>?_⟩
  ·have jK:i<n:=of_decide_eq_true h
   have ha:=jX i jL jK;have hxp:=hXp i jL jK;have hf:=hfd i jL jK;rw[hi]at hf;obtain⟨x,hx⟩:=exq (X i);rw[<-hx]at ha hxp hf qU
   have hX0:(std.all [std.hasL 1 (std.nth (std.cel (std.at_ (QqM L) i)) 0),std.hasI .i64 (std.nth (std.cel (std.at_ (QqM L) i)) 1),std.hasI .i64 (std.nth (std.cel (std.at_ (QqM L) i)) 2),std.hasI .i64 (std.nth (std.cel (std.at_ (QqM L) i)) 3),std.hasI .i64 (std.nth (std.cel (std.at_ (QqM L) i)) 4),std.hasB (std.nth (std.cel (std.at_ (QqM L) i)) 5),std.hasL 1 (std.nth (std.cel (std.at_ (QqM L) i)) 6)]).q:=by
    rw[ha];refine⟨.inl rfl,rfl,rfl,rfl,rfl,rfl,?_,trivial⟩;show(std.hasL 1 (QtI x.tag)).q
    unfold QtI;split
    ·exact .inl rfl
    ·exact .inr rfl
   have e0:std.lst (std.nth (std.cel (std.at_ (QqM L) i)) 0)=Q9 x.path:=by rw[ha];rfl
   have e1:std.int (std.nth (std.cel (std.at_ (QqM L) i)) 1)=x.fr:=by rw[ha];rfl
   have e2:std.int (std.nth (std.cel (std.at_ (QqM L) i)) 2)=x.to:=by rw[ha];rfl
   have e3:std.int (std.nth (std.cel (std.at_ (QqM L) i)) 3)=x.inn:=by rw[ha];rfl
   have e4:std.int (std.nth (std.cel (std.at_ (QqM L) i)) 4)=x.out:=by rw[ha];rfl
   have e5:std.boo (std.nth (std.cel (std.at_ (QqM L) i)) 5)=x.emp:=by rw[ha];rfl
   have e6:std.lst (std.nth (std.cel (std.at_ (QqM L) i)) 6)=Q2 (x.tag.getD []):=by
    rw[ha];show Q2x (QtI x.tag)=_;unfold QtI;cases x.tag<;>rfl
   obtain⟨p0,ps,hP⟩:∃p0 ps,x.path=p0::ps:=by
    cases hq:x.path with
    |nil=>exact absurd hq hxp.2
    |cons a b=>exact⟨a,b,rfl⟩
   rw[hP]at e0 qU hf hxp;have jv:=hxp.1;rw[List.length_cons]at jv;have qU:sb=decide (ps=ls):=qU
   have el:std.len (std.lst (std.nth (std.cel (std.at_ (QqM L) i)) 0))=(ps.length:Int)+1:=by
    rw[e0];show((Q9 (p0::ps)).length:Int)=_
    rw[Q2w,List.length_cons];omega
   have q0:(std.inb 0 (std.len (std.lst (std.nth (std.cel (std.at_ (QqM L) i)) 0)))).q:=by
    rw[el];show(0:Int)<=0/\0<(ps.length:Int)+1
    omega
   have q1:(std.cutok 1 (std.len (std.lst (std.nth (std.cel (std.at_ (QqM L) i)) 0))) (std.len (std.lst (std.nth (std.cel (std.at_ (QqM L) i)) 0)))).q:=by
    rw[el];show(0:Int)<=1/\(1:Int)<=(ps.length:Int)+1/\(ps.length:Int)+1<=(ps.length:Int)+1
    omega
   have eh:std.nth (std.cel (std.at_ (std.lst (std.nth (std.cel (std.at_ (QqM L) i)) 0)) 0)) 0=.val (.int .i64 p0):=by rw[e0];rfl
   have ec:std.cut (std.lst (std.nth (std.cel (std.at_ (QqM L) i)) 0)) 1 (std.len (std.lst (std.nth (std.cel (std.at_ (QqM L) i)) 0)))=Q9 ps:=by
    rw[el,e0];show List.take ((ps.length:Int)+1-1).toNat (List.drop (1:Int).toNat (Q9 (p0::ps)))=_;rw[show((ps.length:Int)+1-1).toNat=(Q9 ps).length by rw[Q2w];omega]
    exact List.take_length
   have cS:=Qtl ps ls (by omega) vm
   rw[<-qU]at cS;have cS2:BCall prog 26 [.slc 1 (std.cut (std.lst (std.nth (std.cel (std.at_ (QqM L) i)) 0)) 1 (std.len (std.lst (std.nth (std.cel (std.at_ (QqM L) i)) 0)))),.slc 1 (Q9 ls)] [] (.val (.bool sb)) []:=by rw[ec];exact cS
   refine⟨⟨jL,by show i<std.len (QqM L);rw[jE];exact jK⟩,hX0,q0,⟨QmM eh,trivial⟩,fun h1=>⟨q1,cS2,fun h2=>?_,fun h2=>⟨?_,i+1,⟨by omega,by omega,?_⟩,by omega,[some 0],_,rfl,?_⟩⟩,fun h1=>⟨?_,i+1,⟨by omega,by omega,?_⟩,by omega,[some 0],_,rfl,?_⟩⟩
   ·have h1:p0=0:=by
     have h1:(std.int (std.nth (std.cel (std.at_ (std.lst (std.nth (std.cel (std.at_ (QqM L) i)) 0)) 0)) 0) == 0)=true:=h1;rw[Ql3 eh]at h1;exact eq_of_beq h1
    have h2:ps=ls:=by rw[qU]at h2;exact of_decide_eq_true h2
    rw[if_pos (by rw[h1,h2])]at hf
    rw[hf];with_reducible refine cv2 (QqM L) (Q9 ls) ?_
    have hxR:(some x).getD QsC=x:=rfl;rw[hxR];exact .pure rfl ⟨⟨.inl (gA (e0.trans (by rw[hP]))),.inl (gI e1),.inl (gI e2),.inl (gI e3),.inl (gI e4),.inl (gB e5),.inl (gA e6),trivial⟩,.inl rfl,trivial⟩
   ·show std.inR .i64 (i+1)
    rw[Qhr];omega
   ·have h2:¬ps=ls:=by rw[qU]at h2;exact of_decide_eq_false h2
    rw[if_neg (fun e=>h2 (List.cons.inj e).2)]at hf
    exact hf.symm
   ·exact eq0
   ·show std.inR .i64 (i+1)
    rw[Qhr];omega
   ·have h1:¬p0=0:=by
     have h1:(std.int (std.nth (std.cel (std.at_ (std.lst (std.nth (std.cel (std.at_ (QqM L) i)) 0)) 0)) 0) == 0)=false:=h1;rw[Ql3 eh]at h1;simpa using h1
    rw[if_neg (fun e=>h1 (List.cons.inj e).1)]at hf
    exact hf.symm
   ·exact eq0
  ·have jK:i=n:=by
    have h:¬i<n:=of_decide_eq_false h;omega
   rw[jK,qT]at hi;rw[if_pos trivial,<-hi];with_reducible refine cv2 (QqM L) (Q9 ls) ?_
   exact .pure rfl ⟨⟨.inr (.inl ⟨rfl,_,rfl⟩),.inl rfl,.inl rfl,.inl rfl,.inl rfl,.inl rfl,.inr (.inl ⟨rfl,_,rfl⟩),trivial⟩,.inl rfl,trivial⟩
def rAt(l:List Int)(i:Int):Int:=l[i.toNat]?.getD 0
theorem Qd4{l:List Int}{k:Nat}(h:k<l.length):rAt l k=l[k]:=by rw[rAt,toNat_natCast,getElem?_eq_getElem h];rfl
theorem Qhy{l:List Int}{q i:Int}(h0:0<=i)(h1:i<l.length):Q2p l q i.toNat=if rAt l i=q then((i+1).toNat,true)else Q2p l q (i+1).toNat:=by
 have h2:i.toNat<l.length:=by omega
 have e:rAt l i=l[i.toNat]:=by rw[rAt,getElem?_eq_getElem h2];rfl
 rw[e];conv=>lhs;rw[Q2p,dif_pos h2]
 rw[show(i+1).toNat=i.toNat+1 by omega]
def QC(l:List Int)(k:Int):Int:=if(Q1a l k.toNat).2=true then((Q1a l k.toNat).1:Nat)else -1
theorem Qih(l:List Int)(hl:l.length<=1000000000)(k:Int)(h0:0<=k)(h1:k<l.length):BCall prog 195 [.slc 1 (Q0 l),.val (.int .i64 k)] [] (.val (.int .i64 (QC l k))) []:=by
 obtain⟨n,hn⟩:=QE l;obtain⟨R,hR⟩:=exq (QC l k:Int);rw[<-hR];have jq:=Qx l;obtain⟨q,hq⟩:=exq (rAt l k)
 have hk:Q1a l k.toNat=Q2p l q (k+1).toNat:=by
  rw[Q1a,getD_eq_getElem?_getD,hq,rAt,show(k+1).toNat=k.toNat+1 by omega]
 rw[QC,hk]at hR;have ak:=QJ (l:=l) h0 (by omega)
 have en:=hn.eq;have jU:k<n:=by omega
 clear hk;refine fnN (cs0) func195 rfl fun _ _=>?_
 with_reducible refine cv1 (Q0 l) ?_
 have jB:=Q15 hn;with_reducible repeat' first|refine aU jB ?_|refine zA ?_ ?_|intro hb
 refine Q1h (cs0) (Int) (fun i=>⟨[(0,.slc 1 (Q0 l)),(1,.val (.int .i64 k)),(5,.val (.int .i64 i))],[]⟩) (fun i=>k+1<=i/\i<=n/\Q2p l q i.toNat=Q2p l q (k+1).toNat) (fun i=>(n-i).toNat) (k+1) ?_ ?_ ?_
 ·exact⟨le_refl _,by show k+1<=n;omega,rfl⟩
 ·exact⟨[],_,rfl,by simp[Qe,lk,std]⟩
 ·rintro i ⟨jL,jK,hi⟩
  have jL:k+1<=i:=jL;have jK:i<=n:=jK;have hi:Q2p l q i.toNat=Q2p l q (k+1).toNat:=hi;rcases Int.lt_or_eq_of_le jK with jA|j7
  ·have ai:=QJ (l:=l) (i:=i) (by omega) (by omega)
   have jH:=Qhy (l:=l) (q:=q) (i:=i) (by omega) (by omega)
   rw[hi]at jH;clear en jB hi;with_reducible refine cv1 (Q0 l) ?_
   have jB:=Q15 hn;have en:=hn.eq;with_reducible repeat' first|refine aU (zA ai <| zA ak <| zA jB <| zA jA jL) ?_|refine zA ?_ ?_|intro hb
   ·have jb:rAt l i=q:=by rw[hq];simpa[std,ai,ak,AV.cells,intOf,rAt]using hb
    have v4:R=i+1:=by rw[hR,jH,if_pos jb,if_pos rfl];show(((i+1).toNat:Nat):Int)=_;omega
    with_reducible refine cv1 (Q0 l) ?_
    refine .pure rfl (.inl ?_);rw[v4];rfl
   ·have jb:¬rAt l i=q:=by rw[hq];simpa[std,ai,ak,AV.cells,intOf,rAt]using hb
    rw[if_neg jb]at jH;exact⟨i+1,⟨by omega,by omega,jH.symm⟩,by omega,[],_,rfl,by simp[Qe,lk,std]⟩
  ·have vt:Q2p l q i.toNat=(l.length,false):=by rw[Q2p,dif_neg (by omega)]
   have v4:R=-1:=by rw[hR,<-hi,vt];rfl
   rw[j7];clear en jB hi vt;with_reducible refine cv1 (Q0 l) ?_
   have jB:=Q15 hn;with_reducible repeat' first|refine aU jB ?_|refine zA ?_ ?_|intro hb
   ·rw[if_pos trivial]
    with_reducible refine cv1 (Q0 l) ?_
    refine .pure rfl (.inl ?_);rw[v4]
def Q1B(kd k t:Int)(w:Bool):AV:=.agg [.val (.int .i64 kd),.val (.int .i64 k),.val (.int .i64 t),.val (.bool w)]
theorem Qk6{l:List Int}{i:Int}(h0:0<=i)(h1:i<l.length):Q2q l i.toNat=if rAt l i=62 then((i+1).toNat,true)else if rAt l i=60 then(i.toNat,false)else Q2q l (i+1).toNat:=by
 have h2:i.toNat<l.length:=by omega
 have e:rAt l i=l[i.toNat]:=by rw[rAt,getElem?_eq_getElem h2];rfl
 rw[e];conv=>lhs;rw[Q2q,dif_pos h2]
 rw[show(i+1).toNat=i.toNat+1 by omega]
theorem Qoz(l:List Int)(hl:l.length<=1000000000)(k:Int)(h0:0<=k)(h1:k+2<=l.length):BCall prog 154 [.slc 1 (Q0 l),.val (.int .i64 k)] [] (Q1B 10 k ((Q3h l k.toNat).2.1:Nat) (Q3h l k.toNat).2.2) []:=by
 obtain⟨n,hn⟩:=QE l;have jq:=Qx l;obtain⟨rt,vP⟩:=exq (((Q2q l (k+2).toNat).1:Nat):Int);obtain⟨rb,v5⟩:=exq ((Q2q l (k+2).toNat).2:Bool)
 have e:Q1B 10 k ((Q3h l k.toNat).2.1:Nat) (Q3h l k.toNat).2.2=Q1B 10 k rt rb:=by
  rw[vP,v5,Q3h,show(k+2).toNat=k.toNat+2 by omega]
 rw[e,Q1B];have en:=hn.eq;have jU:k+2<=n:=by omega
 clear e h1;refine fnN (cs0) func154 rfl fun _ _=>?_
 with_reducible refine cv1 (Q0 l) ?_
 have jB:=Q15 hn;with_reducible repeat' first|refine aU jB ?_|refine zA ?_ ?_|intro hb
 refine Q1h (cs0) (Int) (fun i=>⟨[(0,.slc 1 (Q0 l)),(1,.val (.int .i64 k)),(4,.box 0 0),(5,.val (.int .i64 i))],[.box [.val (.int .i64 0),.val (.int .i64 0),.val (.int .i64 0),.val (.bool false)]]⟩) (fun i=>k+2<=i/\i<=n/\Q2q l i.toNat=Q2q l (k+2).toNat) (fun i=>(n-i).toNat) (k+2) ?_ ?_ ?_
 ·exact⟨le_refl _,jU,rfl⟩
 ·refine⟨[some 0],_,rfl,?_⟩
  exact eq0
 ·rintro i ⟨jL,jK,hi⟩
  have jL:k+2<=i:=jL;have jK:i<=n:=jK;have hi:Q2q l i.toNat=Q2q l (k+2).toNat:=hi;rcases Int.lt_or_eq_of_le jK with jA|j7
  ·have ai:=QJ (l:=l) (i:=i) (by omega) (by omega)
   have jH:=Qk6 (l:=l) (i:=i) (by omega) (by omega)
   rw[hi]at jH;clear en jB hi;with_reducible refine cv1 (Q0 l) ?_
   have jB:=Q15 hn;have en:=hn.eq;with_reducible repeat' first|refine aU (zA ai <| zA jB <| zA jA jL) ?_|refine zA ?_ ?_|intro hb
   ·have jb:rAt l i=62:=by simpa[std,ai,AV.cells,intOf,rAt]using hb
    rw[if_pos jb]at jH;have zE:rt=i+1:=by rw[vP,jH];show(((i+1).toNat:Nat):Int)=_;omega
    have gZ:rb=true:=by rw[v5,jH]
    with_reducible refine cv1 (Q0 l) ?_
    exact .pure rfl ⟨.inl rfl,.inl rfl,.inl (by rw[zE];rfl),.inl (by rw[gZ]),trivial⟩
   ·rename_i j4
    have ji:¬rAt l i=62:=by simpa[std,ai,AV.cells,intOf,rAt]using j4
    have jb:rAt l i=60:=by simpa[std,ai,AV.cells,intOf,rAt]using hb
    rw[if_neg ji,if_pos jb]at jH;have zE:rt=i:=by rw[vP,jH];show((i.toNat:Nat):Int)=_;omega
    have gZ:rb=false:=by rw[v5,jH]
    with_reducible refine cv1 (Q0 l) ?_
    exact .pure rfl ⟨.inl rfl,.inl rfl,.inl (by rw[zE]),.inl (by rw[gZ]),trivial⟩
   ·rename_i j4
    have ji:¬rAt l i=62:=by simpa[std,ai,AV.cells,intOf,rAt]using j4
    have jb:¬rAt l i=60:=by simpa[std,ai,AV.cells,intOf,rAt]using hb
    rw[if_neg ji,if_neg jb]at jH;refine⟨i+1,⟨by omega,by omega,jH.symm⟩,by omega,[some 0],_,rfl,?_⟩
    exact eq0
  ·have vt:Q2q l i.toNat=(l.length,false):=by rw[Q2q,dif_neg (by omega)]
   have zE:rt=n:=by rw[vP,<-hi,vt,hn.eq]
   have jb:rb=false:=by rw[v5,<-hi,vt]
   rw[j7];clear en jB hi vt;with_reducible refine cv1 (Q0 l) ?_
   have jB:=Q15 hn;with_reducible repeat' first|refine aU jB ?_|refine zA ?_ ?_|intro hb
   ·rw[if_pos trivial]
    with_reducible refine cv1 (Q0 l) ?_
    exact .pure rfl ⟨.inl rfl,.inl rfl,.inl (by rw[zE];exact congrArg _ (congrArg _ jB)),.inl (by rw[jb]),trivial⟩
def Q6K(l:List Int)(f:Int)(bs:List UInt8):Int:=match Q3Z l f.toNat l.length bs with
 |none=>-1
 |some j=>(j:Int)
def QhS(st:Int->Bool):Nat->List AV->List Ob->Option (AV×List Ob):=fun f args _=>match f,args with
 |151,[.slc 1 _,.val (.int .i64 k),.val (.string _)]=>some (.val (.bool (st k)),[])
 |_,_=>none
def stI(l:List Int)(bs:List UInt8)(k:Int):Bool:=Q6 l k.toNat bs
theorem Qnv(l:List Int)(hl:l.length<=1000000000)(yA:I32 l)(f:Int)(h0:0<=f)(hf:f<=2000000000)(s:ByteArray)(hs:s.size<=1000000000) :
  BCall prog 193 [.slc 1 (Q0 l),.val (.int .i64 f),.val (.int .i64 l.length),.val (.string s)] [] (.val (.int .i64 (Q6K l f s.data.toList))) []:=by
 obtain⟨n,hn⟩:=QE l;have cS:∀k:Int,0<=k->k<=n->BCall prog 151 [.slc 1 (Q0 l),.val (.int .i64 k),.val (.string s)] [] (.val (.bool (stI l s.data.toList k))) []:=fun k k0 k1=>Qc l hl yA k k0 (by have:=hn.eq;omega) s hs
 have jq:=Qx l;have z4:s.data.toList.length=s.size:=by simp
 obtain⟨z,hz⟩:∃z:Int,IsN s.size z:=⟨_,rfl⟩;have je:0<=z:=by have:=hz.eq;omega
 have qC:z<=1000000000:=by have:=hz.eq;omega
 have jj:std.szS s=z:=hz.eq.symm;obtain⟨R,hR⟩:=exq (Q6K l f s.data.toList:Int);rw[<-hR,<-hn.eq];obtain⟨bs,kf⟩:=exq s.data.toList;rw[<-kf]at z4 hR cS;have qA:n<=1000000000:=by have:=hn.eq;omega
 clear kf yA;refine fnN (QhS (stI l bs)) func193 rfl fun _ _=>?_
 with_reducible refine cv2 (Q0 l) (stI l bs) ?_
 refine Q1h (QhS (stI l bs)) (Int) (fun i=>⟨[(0,.slc 1 (Q0 l)),(2,.val (.int .i64 n)),(3,.val (.string s)),(9,.val (.int .i64 i))],[]⟩) (fun i=>f<=i/\i<=2000000001/\∀j:Nat,f.toNat<=j->j<i.toNat->Q6 l j bs=false) (fun i=>(n+1-i).toNat) f ?_ ?_ ?_
 ·exact⟨le_refl _,by omega,fun j h1 h2=>by omega⟩
 ·refine⟨[],_,rfl,?_⟩
  exact eq0
 ·rintro i ⟨jL,jK,hi⟩
  have jL:f<=i:=jL;have jK:i<=2000000001:=jK;have hi:∀j:Nat,f.toNat<=j->j<i.toNat->Q6 l j bs=false:=hi
  have qT:¬(i<=n/\i+z<=n)->R=-1:=fun h=>by
   have vL:=hn.eq;have qD:=hz.eq;rw[hR,Q6K,Qb0 l f.toNat l.length bs (fun j h1 h2=>hi j h1 (by omega))]
  by_cases vX:i<=n
  ·by_cases yn:i+z<=n
   ·have cSi:=cS i (by omega) (by omega)
    clear qT;with_reducible refine cv2 (Q0 l) (stI l bs) ?_
    have jB:=Q15 hn;have yx:(s.size:Int)=z:=hz.eq.symm;with_reducible repeat' first|refine aU (zA jB <| zA yx <| zA vX <| zA yn jL) ?_|refine zA ?_ ?_|intro hb
    ·have hb:Q6 l i.toNat bs=true:=hb
     have v4:R=i:=by
      have vL:=hn.eq;have qD:=hz.eq;rw[hR,Q6K,Qc7 l f.toNat l.length bs i.toNat (by omega) (by omega) hi hb]
      show((i.toNat:Nat):Int)=i
      omega
     with_reducible refine cv2 (Q0 l) (stI l bs) ?_
     refine .pure rfl (.inl ?_);rw[v4]
    ·have hb:Q6 l i.toNat bs=false:=hb
     refine⟨i+1,⟨by omega,by omega,fun j h1 h2=>?_⟩,by omega,[],_,rfl,?_⟩
     ·by_cases hj:j<i.toNat
      ·exact hi j h1 hj
      ·obtain rfl:j=i.toNat:=by omega
       exact hb
     ·exact eq0
   ·have v4:=qT (fun h=>yn h.2)
    clear qT;with_reducible refine cv2 (Q0 l) (stI l bs) ?_
    have jB:=Q15 hn;have yx:(s.size:Int)=z:=hz.eq.symm;with_reducible repeat' first|refine aU (zA jB <| zA yx <| zA vX <| zA yn jL) ?_|refine zA ?_ ?_|intro hb
    all_goals
     rw[if_pos trivial];with_reducible refine cv2 (Q0 l) (stI l bs) ?_
     refine .pure rfl (.inl ?_);rw[v4]
  ·have v4:=qT (fun h=>vX h.1)
   clear qT;with_reducible refine cv2 (Q0 l) (stI l bs) ?_
   have jB:=Q15 hn;have yx:(s.size:Int)=z:=hz.eq.symm;with_reducible repeat' first|refine aU (zA jB <| zA yx <| zA vX jL) ?_|refine zA ?_ ?_|intro hb
   all_goals
    rw[if_pos trivial];with_reducible refine cv2 (Q0 l) (stI l bs) ?_
    refine .pure rfl (.inl ?_);rw[v4]
def Q3C(l:List Int)(f:Int)(bs:List UInt8):Int:=if Q6K l f bs<0 then(l.length:Int)else Q6K l f bs+(bs.length:Int)
def Q3F(l:List Int)(f:Int)(bs:List UInt8):Bool:=!decide (Q6K l f bs<0)
theorem Q5L(l:List Int)(kd k sk:Nat)(bs:List UInt8)(h:k+sk<=l.length):(Q14 l kd k sk bs).1=kd/\((Q14 l kd k sk bs).2.1:Int)=Q3C l ((k:Int)+sk) bs/\(Q14 l kd k sk bs).2.2=Q3F l ((k:Int)+sk) bs:=by
 unfold Q14 Q3C Q3F Q6K;rw[Nat.min_eq_left h,show((k:Int)+(sk:Int)).toNat=k+sk by omega]
 cases Q3Z l (k+sk) l.length bs with
 |none=>exact⟨rfl,rfl,rfl⟩
 |some j =>
  have:¬((j:Int)<0):=by omega
  simp only[if_neg this,decide_eq_false this];exact⟨trivial,by omega,rfl⟩
def Qpo(R:Int):Nat->List AV->List Ob->Option (AV×List Ob):=fun f args _=>match f,args with
 |193,[.slc 1 _,.val (.int .i64 _),.val (.int .i64 _),.val (.string _)]=>some (.val (.int .i64 R),[])
 |_,_=>none
theorem QkI(l:List Int)(f:Int)(bs:List UInt8):Q6K l f bs<=l.length:=by
 unfold Q6K;cases h:Q3Z l f.toNat l.length bs with
 |none=>show(-1:Int)<=_;omega
 |some j=>have:=(Qek l _ _ bs j h).2;show(j:Int)<=_;omega
theorem Q8v(l:List Int)(hl:l.length<=1000000000)(yA:I32 l)(kd k sk:Int)(h0:0<=k)(h1:0<=sk)(h2:k+sk<=l.length)(s:ByteArray)(hs:s.size<=1000000000) :
  BCall prog 152 [.slc 1 (Q0 l),.val (.int .i64 kd),.val (.int .i64 k),.val (.int .i64 sk),.val (.string s)] [] (Q1B kd k (Q3C l (k+sk) s.data.toList) (Q3F l (k+sk) s.data.toList)) []:=by
 have cF:=Qnv l hl yA (k+sk) (by omega) (by omega) s hs
 have z4:s.data.toList.length=s.size:=by simp
 have hR1:=QkI l (k+sk) s.data.toList;obtain⟨n,hn⟩:=QE l;have jq:=Qx l;rw[<-hn.eq]at cF hR1 h2;obtain⟨z,hz⟩:∃z:Int,IsN s.size z:=⟨_,rfl⟩;have je:0<=z:=by have:=hz.eq;omega
 have qC:z<=1000000000:=by have:=hz.eq;omega
 obtain⟨R,hR⟩:=exq (Q6K l (k+sk) s.data.toList:Int);have qA:n<=1000000000:=by have:=hn.eq;omega
 have e:Q1B kd k (Q3C l (k+sk) s.data.toList) (Q3F l (k+sk) s.data.toList)=Q1B kd k (if R<0 then n else R+z) (!decide (R<0)):=by
  rw[Q3C,Q3F,<-hR,z4,<-hn.eq,hz.eq]
 rw[e,Q1B];rw[<-hR]at cF hR1;clear e hR z4;obtain⟨T,jY⟩:=exq ((if R<0 then n else R+z));obtain⟨B,hB9⟩:=exq (!decide (R<0));rw[<-jY,<-hB9];obtain⟨fr,vQ⟩:=exq (k+sk);rw[<-vQ]at cF h2;refine fnN (Qpo R) func152 rfl fun _ _=>?_
 with_reducible refine cv1 (Q0 l) ?_
 have jB:=Q15 hn;have yx:(s.size:Int)=z:=hz.eq.symm
 have cF2:BCall prog 193 [.slc 1 (Q0 l),.val (.int .i64 (std.add k sk)),.val (.int .i64 (std.len (Q0 l))),.val (.string s)] [] (.val (.int .i64 R)) []:=by
  rw[show std.add k sk=fr from vQ.symm,show std.len (Q0 l)=n from jB];exact cF
 with_reducible repeat' first|refine aU (zA jB <| zA yx <| zA vQ h2) ?_|refine zA ?_ ?_|intro hb
 ·have hb:R<0:=of_decide_eq_true hb
  rw[if_pos hb]at jY;exact .pure rfl ⟨.inl rfl,.inl rfl,.inl (by rw[jY];exact congrArg _ (congrArg _ jB)),.inl (by rw[hB9,decide_eq_true hb];rfl),trivial⟩
 ·have hb:¬R<0:=of_decide_eq_false hb
  show(-9223372036854775808:Int)<=R+s.size/\R+s.size<=(9223372036854775807:Int)
  omega
 ·have hb:¬R<0:=of_decide_eq_false hb
  rw[if_neg hb]at jY;exact .pure rfl ⟨.inl rfl,.inl rfl,.inl (by rw[jY,<-yx];rfl),.inl (by rw[hB9,decide_eq_false hb];rfl),trivial⟩
theorem QlC(l:List Int)(hl:l.length<=1000000000)(f:Int)(h0:0<=f)(h1:f<=l.length):BCall prog 222 [.slc 1 (Q0 l),.val (.int .i64 f)] [] (.slc 1 (Q0 (qL l f.toNat))) []:=by
 refine BCall.hand (enters_of func222 (by kernel_rfl) rfl) fun w g vs M hL=>?_
 obtain⟨v1,vs1,rfl,yF,hL⟩:=Q13 hL;obtain⟨v2,vs2,rfl,h2',hL⟩:=Q13 hL;obtain rfl:=Q2A hL;obtain⟨A,c,rfl,hr⟩:=Q4j yF M;obtain rfl:=Q31 h2';have:=QfG _ A _ c l f.toNat w hr (by omega) hl
 rw[Int.toNat_of_nonneg h0]at this;refine this.mono fun e w' ⟨b,h,vH,hb⟩=>⟨_,h,hb,?_⟩
 have hr3:Rd w' (fun b=>w.heap.size<=b/\b<w'.heap.size) 1 (some ⟨b,0,none⟩) l.length l.length (rc (qL l f.toNat)) :=
  ⟨vH.len,vH.le,vH.max,vH.nil,fun h0=>by
   obtain⟨b',o',e',hS,hc⟩:=vH.at_ h0;refine⟨b',o',e',⟨hS,?_⟩,hc⟩;have z8:(rc (qL l f.toNat)).length=l.length:=by simp[rc,qL,qTo]
   exact World.block_lt_of_cell? w' _ (hc 0 _ (getElem?_eq_getElem (by omega)))⟩
 refine Qln hr3 (fun b o hb=>.inr hb) (by rw[Qx,qL,QgV]) (fun x hx=>by obtain⟨n,_,rfl⟩:=mem_map.1 hx;rfl) (fun x hx=>by cases hx;exact⟨_,_,rfl⟩) ?_
 have e:Q0 (qL l f.toNat)=(rc (qL l f.toNat)).map .val:=by simp[Q0,rc,QgR]
 rw[e,Qai];refine⟨by simp,fun j y u hy hu=>?_⟩
 rw[getElem?_map,hy]at hu;obtain rfl:AV.val y=u:=by simpa using hu
 obtain⟨n,_,rfl⟩:=mem_map.1 (List.mem_of_getElem? hy);exact PRel.val _ rfl
def Qbx(l:List Int)(f:Nat)(a b:Int)(i:Nat):Bool:=decide (QbG l f (i-f)=0)&&(decide (rAt l i=a)||decide (rAt l i=b))
def frF(l:List Int)(f:Nat)(a b:Int)(k:Nat):Option Nat:=(List.range' k (l.length-k)).find? (Qbx l f a b)
theorem Q8e(l:List Int)(f:Nat)(a b:Int){k:Nat}(h:¬k<l.length):frF l f a b k=none:=by
 rw[frF,show l.length-k=0 by omega];rfl
theorem Q6M(l:List Int)(f:Nat)(a b:Int){k:Nat}(h:k<l.length):frF l f a b k=if Qbx l f a b k=true then some k else frF l f a b (k+1):=by
 rw[frF,show l.length-k=(l.length-(k+1))+1 by omega,List.range'_succ,List.find?_cons]
 cases Qbx l f a b k<;>rfl
def Q8C(l:List Int)(s:Bool)(k:Nat):Option Nat:=if(QN l s k).2=true\/(QN l s k).1<l.length then some (QN l s k).1 else none
def Qg3(l:List Int)(s:Bool)(q:Int)(k:Nat):Option Nat:=if(Q2p l q k).2=true then Q8C l s (Q2p l q k).1 else none
def isQ(q:Int):Prop:=q=34\/q=39
def Qbm(s:Bool):Int:=if s then 60 else 62
theorem QnR(s:Bool):Qbm s=60\/Qbm s=62:=by cases s<;>simp[Qbm]
theorem QoM(l:List Int)(f:Nat)(s:Bool):∀(n m:Nat),l.length-(f+m)<=n ->
  (qSt l f m=0->frF l f (Qbm s) 62 (f+m)=Q8C l s (f+m))/\(isQ (qSt l f m)->frF l f (Qbm s) 62 (f+m)=Qg3 l s (qSt l f m) (f+m)):=by
 intro n;induction n with
 |zero =>
  intro m h;have hk:¬f+m<l.length:=by omega
  refine⟨fun _=>?_,fun _=>?_⟩
  ·rw[Q8e l f _ _ hk,Q8C,Q2l l s _ hk,if_neg (by simp)]
  ·rw[Q8e l f _ _ hk,Qg3,Q3L l _ _ hk,if_neg (by simp)]
 |succ n ih =>
  intro m h;by_cases hk:f+m<l.length
  ·obtain⟨ih1,ih2⟩:=ih (m+1) (by omega)
   rw[<-Nat.add_assoc]at ih1 ih2;have hg:l[f+m]?.getD 0=l[f+m]:=by rw[getElem?_eq_getElem hk];rfl
   have hra:rAt l ((f+m:Nat):Int)=l[f+m]:=Qd4 hk;have hs:qSt l f (m+1)=(Q2Q (qSt l f m) l[f+m]).1:=by rw[qSt,hg]
   have ho:QbG l f (f+m-f)=(Q2Q (qSt l f m) l[f+m]).2:=by rw[QbG,show f+m-f=m by omega,hg]
   have zK:=QnR s;rw[Q6M l f _ _ hk,Qbx,ho,hra];rw[hs]at ih1 ih2;generalize hr:l[f+m]=r at *;refine⟨fun h0=>?_,fun hq=>?_⟩
   ·rw[h0]at ih1 ih2 ⊢
    by_cases kL:r=34\/r=39
    ·have e:Q2Q 0 r=(r,0):=by rw[Q2Q,if_pos ⟨rfl,kL⟩]
     rw[e]at ih1 ih2 ⊢
     have gm:¬((decide ((0:Int)=0)&&(decide (r=Qbm s)||decide (r=62)))=true):=by
      simp only[decide_true,Bool.true_and,Bool.or_eq_true,decide_eq_true_eq];omega
     rw[if_neg gm,ih2 kL];have hqq:Q3k l[f+m]=true:=by rw[hr];rcases kL with rfl|rfl<;>rfl
     rw[Q8C,Q50 l s _ hk hqq,Qg3];have hqd:Q1a l (f+m)=Q2p l r (f+m+1):=by rw[Q1a,getD_eq_getElem?_getD,getElem?_eq_getElem hk,<-hr];rfl
     rw[hqd];cases hb:(Q2p l r (f+m+1)).2 with
     |true=>rw[if_pos rfl];rfl
     |false =>
      rw[if_neg (by decide)]
      have qT:(Q2p l r (f+m+1)).1=l.length:=by
       have key:∀(n k:Nat),l.length-k<=n->(Q2p l r k).2=false->(Q2p l r k).1=l.length:=by
        intro n;induction n with
        |zero=>intro k h1 h2;rw[Q3L l r k (by omega)]
        |succ n ih3 =>
         intro k h1 h2;by_cases h3:k<l.length
         ·by_cases h4:l[k]=r
          ·rw[Q6C l r k h3 h4]at h2;cases h2
          ·rw[Q5Q l r k h3 h4]at h2 ⊢
           exact ih3 _ (by omega) h2
         ·rw[Q3L l r k h3]
       exact key _ _ (Nat.le_refl _) hb
      rw[qT,Q2l l s _ (by omega),if_neg (by simp)]
    ·have e:Q2Q 0 r=(0,0):=by rw[Q2Q,if_neg (fun h=>kL h.2),if_neg (fun h=>h.1 rfl)]
     rw[e]at ih1 ⊢
     have qX:Q3k l[f+m]=false:=by
      rw[hr];simp only[Q3k,Bool.or_eq_false_iff,beq_eq_false_iff_ne];omega
     by_cases j4:r=62
     ·subst j4
      rw[if_pos (by simp),Q8C,Q5K l s _ hk hr,if_pos (.inl rfl)]
     ·by_cases jO:r=60/\s=true
      ·obtain⟨rfl,rfl⟩:=jO
       rw[if_pos (by decide),Q8C,Q7e l _ hk hr,if_pos (.inr hk)]
      ·have gm:¬((decide ((0:Int)=0)&&(decide (r=Qbm s)||decide (r=62)))=true):=by
        simp only[decide_true,Bool.true_and,Bool.or_eq_true,decide_eq_true_eq];rintro(h|h)
        ·cases s with
         |true=>exact jO ⟨h,rfl⟩
         |false=>exact j4 h
        ·exact j4 h
       rw[if_neg gm,ih1 rfl,Q8C,Q8C,Q4k l s _ hk qX (by rw[hr];exact j4) (by rw[hr];exact jO)]
   ·generalize qSt l f m=q at *
    have qx:q≠0:=by rcases hq with rfl|rfl<;>decide
    by_cases hH:r=q
    ·have e:Q2Q q r=(0,0):=by rw[Q2Q,if_neg (fun h=>qx h.1),if_pos ⟨qx,hH⟩]
     rw[e]at ih1 ⊢
     have gm:¬((decide ((0:Int)=0)&&(decide (r=Qbm s)||decide (r=62)))=true):=by
      simp only[decide_true,Bool.true_and,Bool.or_eq_true,decide_eq_true_eq];rcases hq with rfl|rfl<;>omega
     rw[if_neg gm,ih1 rfl,Qg3,Q6C l q _ hk (by rw[hr];exact hH),if_pos rfl]
    ·have e:Q2Q q r=(q,q):=by rw[Q2Q,if_neg (fun h=>qx h.1),if_neg (fun h=>hH h.2)]
     rw[e]at ih2 ⊢
     have gm:¬((decide (q=0)&&(decide (r=Qbm s)||decide (r=62)))=true):=by
      rw[decide_eq_false qx];simp
     rw[if_neg gm,ih2 hq,Qg3,Qg3,Q5Q l q _ hk (by rw[hr];exact hH)]
  ·refine⟨fun _=>?_,fun _=>?_⟩
   ·rw[Q8e l f _ _ hk,Q8C,Q2l l s _ hk,if_neg (by simp)]
   ·rw[Q8e l f _ _ hk,Qg3,Q3L l _ _ hk,if_neg (by simp)]
theorem QeG(l:List Int)(f:Nat)(s:Bool):frF l f (Qbm s) 62 f=Q8C l s f:=(QoM l f s l.length 0 (by omega)).1 rfl
def Q9N(l:List Int)(f:Nat)(a b:Int):Int:=match frF l f a b f with
 |none=>-1
 |some j=>(j:Int)
def Qfr(Q:List AV):Nat->List AV->List Ob->Option (AV×List Ob):=fun f args _=>match f,args with
 |222,[.slc 1 _,.val (.int .i64 _)]=>some (.slc 1 Q,[])
 |_,_=>none
theorem Qpd(l:List Int)(f:Nat){i:Int}(h0:(f:Int)<=i)(h1:i<l.length):(qL l f)[i.toNat]?.getD 0=QbG l f (i.toNat-f):=by
 rw[qL,qTo,getElem?_map,List.getElem?_range (by omega)]
 show(if f<=i.toNat/\i.toNat<l.length then _ else(0:Int))=_
 rw[if_pos ⟨by omega,by omega⟩]
theorem Qhw(l:List Int)(hl:l.length<=1000000000)(f:Int)(h0:0<=f)(h1:f<=l.length)(a b:Int):BCall prog 198 [.slc 1 (Q0 l),.val (.int .i64 f),.val (.int .i32 a),.val (.int .i32 b)] [] (.val (.int .i64 (Q9N l f.toNat a b))) []:=by
 have cQ:=QlC l hl f h0 h1;obtain⟨n,hn⟩:=QE l;have jq:=Qx l;obtain⟨fn,gz⟩:=exq f.toNat;rw[<-gz]at cQ ⊢;have hqa:∀i:Int,f<=i->i<n->(qL l fn)[i.toNat]?.getD 0=QbG l fn (i.toNat-fn):=fun i hi yo=>Qpd l fn (by omega) (by have:=hn.eq;omega)
 have hql:(qL l fn).length=l.length:=QgV l fn _;have hqx:=Qx (qL l fn);generalize qL l fn=qs at cQ hqa hql hqx;obtain⟨R,hR⟩:=exq (Q9N l fn a b:Int);rw[<-hR];rw[Q9N]at hR;have hfn1:f<=n:=by have:=hn.eq;omega
 have qA:n<=1000000000:=by have:=hn.eq;omega
 refine fnN (Qfr (Q0 qs)) func198 rfl fun _ _=>?_
 with_reducible refine cv2 (Q0 l) (Q0 qs) ?_
 refine⟨cQ,?_⟩;refine Q1h (Qfr (Q0 qs)) (Int) (fun i=>⟨[(0,.slc 1 (Q0 l)),(2,.val (.int .i32 a)),(3,.val (.int .i32 b)),(9,.slc 1 (Q0 qs)),(10,.val (.int .i64 i))],[]⟩) (fun i=>f<=i/\i<=n/\frF l fn a b i.toNat=frF l fn a b fn) (fun i=>(n-i).toNat) f ?_ ?_ ?_
 ·exact⟨le_refl _,hfn1,by rw[gz]⟩
 ·refine⟨[],_,rfl,?_⟩
  exact eq0
 ·rintro i ⟨jL,jK,vQ⟩
  have jL:f<=i:=jL;have jK:i<=n:=jK;have vQ:frF l fn a b i.toNat=frF l fn a b fn:=vQ;rcases Int.lt_or_eq_of_le jK with jA|j7
  ·have ai:=QJ (l:=l) (i:=i) (by omega) (by have:=hn.eq;omega)
   have aq:=QJ (l:=qs) (i:=i) (by omega) (by have:=hn.eq;omega)
   have nR:=hqa i jL jA;have zj:l[i.toNat]?.getD 0=rAt l i:=rfl;have j5:i.toNat<l.length:=by have:=hn.eq;omega
   have yy:Qbx l fn a b i.toNat=(decide (qs[i.toNat]?.getD 0=0)&&(decide (l[i.toNat]?.getD 0=a)||decide (l[i.toNat]?.getD 0=b))):=by
    rw[Qbx,nR,rAt,toNat_natCast]
   by_cases cq:qs[i.toNat]?.getD 0=0
   ·by_cases ca:l[i.toNat]?.getD 0=a
    ·have v4:R=i:=by
      have hh:Qbx l fn a b i.toNat=true:=by rw[yy];rw[decide_eq_true cq,decide_eq_true ca];rfl
      rw[hR,<-vQ,Q6M l fn a b (by omega),if_pos hh]
      show((i.toNat:Nat):Int)=i
      omega
     clear vQ hR yy nR zj;with_reducible refine cv2 (Q0 l) (Q0 qs) ?_
     have jB:=Q15 hn;have vE:(((Q0 qs).length:Nat):Int)=n:=by have:=hn.eq;omega
     with_reducible repeat' first|refine aU (zA jB <| zA vE <| zA ai <| zA aq <| zA jA <| zA jL <| zA h0 <| zA cq ca) ?_|refine zA ?_ ?_|intro hb
     all_goals
      with_reducible refine cv2 (Q0 l) (Q0 qs) ?_
      refine .pure rfl (.inl ?_);rw[v4]
    ·by_cases cb:l[i.toNat]?.getD 0=b
     ·have v4:R=i:=by
       have hh:Qbx l fn a b i.toNat=true:=by rw[yy];rw[decide_eq_true cq,decide_eq_true cb,decide_eq_false ca];rfl
       rw[hR,<-vQ,Q6M l fn a b (by omega),if_pos hh]
       show((i.toNat:Nat):Int)=i
       omega
      clear vQ hR yy nR zj;with_reducible refine cv2 (Q0 l) (Q0 qs) ?_
      have jB:=Q15 hn;have vE:(((Q0 qs).length:Nat):Int)=n:=by have:=hn.eq;omega
      with_reducible repeat' first|refine aU (zA jB <| zA vE <| zA ai <| zA aq <| zA jA <| zA jL <| zA h0 <| zA cq <| zA ca cb) ?_|refine zA ?_ ?_|intro hb
      all_goals
       with_reducible refine cv2 (Q0 l) (Q0 qs) ?_
       refine .pure rfl (.inl ?_);rw[v4]
     ·have jH:frF l fn a b i.toNat=frF l fn a b (i+1).toNat:=by
       have hh:¬Qbx l fn a b i.toNat=true:=by rw[yy];rw[decide_eq_true cq,decide_eq_false ca,decide_eq_false cb];simp
       rw[Q6M l fn a b (by omega),if_neg hh,show(i+1).toNat=i.toNat+1 by omega]
      rw[vQ]at jH;clear vQ hR yy nR zj;with_reducible refine cv2 (Q0 l) (Q0 qs) ?_
      have jB:=Q15 hn;have vE:(((Q0 qs).length:Nat):Int)=n:=by have:=hn.eq;omega
      with_reducible repeat' first|refine aU (zA jB <| zA vE <| zA ai <| zA aq <| zA jA <| zA jL <| zA h0 <| zA cq <| zA ca cb) ?_|refine zA ?_ ?_|intro hb
      all_goals
       refine⟨i+1,⟨by omega,by omega,jH.symm⟩,by omega,[],_,rfl,?_⟩
       exact eq0
   ·have jH:frF l fn a b i.toNat=frF l fn a b (i+1).toNat:=by
     have hh:¬Qbx l fn a b i.toNat=true:=by rw[yy];rw[decide_eq_false cq];simp
     rw[Q6M l fn a b (by omega),if_neg hh,show(i+1).toNat=i.toNat+1 by omega]
    rw[vQ]at jH;clear vQ hR yy nR zj;with_reducible refine cv2 (Q0 l) (Q0 qs) ?_
    have jB:=Q15 hn;have vE:(((Q0 qs).length:Nat):Int)=n:=by have:=hn.eq;omega
    with_reducible repeat' first|refine aU (zA jB <| zA vE <| zA ai <| zA aq <| zA jA <| zA jL <| zA h0 cq) ?_|refine zA ?_ ?_|intro hb
    all_goals
     refine⟨i+1,⟨by omega,by omega,jH.symm⟩,by omega,[],_,rfl,?_⟩
     exact eq0
  ·have vt:frF l fn a b i.toNat=none:=Q8e l fn a b (by have:=hn.eq;omega)
   have v4:R=-1:=by rw[hR,<-vQ,vt]
   rw[j7];clear vQ vt;with_reducible refine cv2 (Q0 l) (Q0 qs) ?_
   have jB:=Q15 hn;with_reducible repeat' first|refine aU jB ?_|refine zA ?_ ?_|intro hb
   ·rw[if_pos trivial]
    with_reducible refine cv2 (Q0 l) (Q0 qs) ?_
    refine .pure rfl (.inl ?_);rw[v4]
theorem QhZ(l:List Int)(s:Bool):∀(n k:Nat),l.length-k<=n->((QN l s k).2=true->rAt l ((QN l s k).1:Nat)=62)/\((QN l s k).2=false->(QN l s k).1<l.length->rAt l ((QN l s k).1:Nat)=60):=by
 intro n;induction n with
 |zero =>
  intro k h;rw[Q2l l s k (by omega)]
  exact⟨fun h2=>(by cases h2),fun _ h2=>absurd h2 (Nat.lt_irrefl _)⟩
 |succ n ih =>
  intro k h;by_cases hk:k<l.length
  ·cases hq:Q3k l[k]with
   |true =>
    rw[Q50 l s k hk hq];have:=Q2C l k hk
    exact ih _ (by omega)
   |false =>
    by_cases j4:l[k]=62
    ·rw[Q5K l s k hk j4]
     exact⟨fun _=>(by rw[Qd4 hk];exact j4),fun h2=>(by cases h2)⟩
    ·by_cases jO:l[k]=60/\s=true
     ·obtain⟨jO,rfl⟩:=jO
      rw[Q7e l k hk jO];exact⟨fun h2=>(by cases h2),fun _ _=>by rw[Qd4 hk];exact jO⟩
     ·rw[Q4k l s k hk hq j4 jO]
      exact ih _ (by omega)
  ·rw[Q2l l s k hk]
   exact⟨fun h2=>(by cases h2),fun _ h2=>absurd h2 (Nat.lt_irrefl _)⟩
def Q9e(F:Int):Nat->List AV->List Ob->Option (AV×List Ob):=fun f args _=>match f,args with
 |198,[.slc 1 _,.val (.int .i64 _),.val (.int .i32 _),.val (.int .i32 _)]=>some (.val (.int .i64 F),[])
 |_,_=>none
theorem Qi7(l:List Int)(hl:l.length<=1000000000)(k:Int)(h0:0<=k)(h1:k<l.length):BCall prog 156 [.slc 1 (Q0 l),.val (.int .i64 k)] [] (Q1B ((Q1D l k.toNat).1:Nat) k ((Q1D l k.toNat).2.1:Nat) (Q1D l k.toNat).2.2) []:=by
 have cF:=Qhw l hl (k+1) (by omega) (by omega) 60 62
 have gx:=QeG l (k+1).toNat true;have xo:=QhZ l true l.length (k+1).toNat (by omega)
 have zu:=Q38 l true l.length (k+1).toNat (by omega) (by omega)
 have jU:(k+1).toNat=k.toNat+1:=by omega
 obtain⟨n,hn⟩:=QE l;have jq:=Qx l;obtain⟨F,hF⟩:=exq (Q9N l (k+1).toNat 60 62:Int);rw[<-hF]at cF;rw[Q9N,show(60:Int)=Qbm true from rfl,gx,Q8C]at hF;rw[Q1D,<-jU];obtain⟨p,hp⟩:=exq ((QN l true (k+1).toNat).1);obtain⟨w,hw⟩:=exq ((QN l true (k+1).toNat).2);rw[<-hp,<-hw]at hF xo zu ⊢;have jh:k<n:=by have:=hn.eq;omega
 have qA:n<=1000000000:=by have:=hn.eq;omega
 obtain⟨kd,jD⟩:=exq ((((if w=false then((8:Nat),p,false)else if l[p-1]?=some 47 then(9,p+1,true)else(8,p+1,true)):Nat×Nat×Bool).1:Nat):Int);obtain⟨tt,jF⟩:=exq ((((if w=false then((8:Nat),p,false)else if l[p-1]?=some 47 then(9,p+1,true)else(8,p+1,true)):Nat×Nat×Bool).2.1:Nat):Int);obtain⟨ww,jN⟩:=exq (((if w=false then((8:Nat),p,false)else if l[p-1]?=some 47 then(9,p+1,true)else(8,p+1,true)):Nat×Nat×Bool).2.2:Bool);rw[<-jD,<-jF,<-jN,Q1B];by_cases hc:w=true\/p<l.length
 ·rw[if_pos hc]at hF
  have hF:F=(p:Int):=hF
  have jv:p<l.length:=by
   rcases hc with h|h
   ·exact zu.2.2 h
   ·exact h
  have zX:k+1<=F:=by omega
  have nS:F<n:=by have:=hn.eq;omega
  have af:=QJ (l:=l) (i:=F) (by omega) (by omega)
  have ap:=QJ (l:=l) (i:=F-1) (by omega) (by omega)
  have eF:rAt l F=rAt l (p:Int):=by rw[hF]
  cases cG:w with
  |false =>
   have jO:l[F.toNat]?.getD 0=60:=by show rAt l F=60;rw[eF];exact xo.2 cG jv
   rw[cG,if_pos rfl]at jD jF jN;have jD:kd=8:=jD;have jF:tt=F:=by rw[hF];exact jF
   have jN:ww=false:=jN;clear hF xo zu hc hp hw cG eF gx jv;refine fnN (Q9e F) func156 rfl fun _ _=>?_
   with_reducible refine cv1 (Q0 l) ?_
   have jB:=Q15 hn;with_reducible repeat' first|refine aU (zA jB <| zA af <| zA ap <| zA zX <| zA nS jO) ?_|refine zA ?_ ?_|intro hb
   all_goals exact .pure rfl ⟨.inl (by rw[jD]),.inl rfl,.inl (by first|(rw[jF];done)|(rw[jF];exact congrArg _ (congrArg _ jB.symm))|(rw[jF];exact congrArg _ (congrArg _ jB))|(rw[jF];rfl)),.inl (by rw[jN]),trivial⟩
  |true =>
   have j4:¬l[F.toNat]?.getD 0=60:=by
    have:rAt l F=62:=by rw[eF];exact xo.1 cG
    show ¬rAt l F=60;rw[this];decide
   have yc:(F-1).toNat=p-1:=by omega
   have hft:(F-1).toNat=F.toNat-1:=by omega
   have ap2:=ap;rw[hft]at ap2;have xp:p-1<l.length:=by omega
   rw[cG,if_neg (by decide)]at jD jF jN
   by_cases vN:l[p-1]?=some 47
   ·have hg:l[(F-1).toNat]?.getD 0=47:=by rw[yc,vN];rfl
    rw[if_pos vN]at jD jF jN;have jD:kd=9:=jD;have jF:tt=F+1:=by rw[hF];show tt=_;rw[jF];show((p+1:Nat):Int)=_;omega
    have jN:ww=true:=jN;clear hF xo zu hc hp hw cG eF gx jv vN yc xp;refine fnN (Q9e F) func156 rfl fun _ _=>?_
    with_reducible refine cv1 (Q0 l) ?_
    have jB:=Q15 hn;have gq:=hg;rw[hft]at gq;with_reducible repeat' first|refine aU (zA jB <| zA af <| zA ap <| zA ap2 <| zA zX <| zA nS <| zA j4 <| zA hg gq) ?_|refine zA ?_ ?_|intro hb
    all_goals exact .pure rfl ⟨.inl (by rw[jD]),.inl rfl,.inl (by first|(rw[jF];done)|(rw[jF];exact congrArg _ (congrArg _ jB.symm))|(rw[jF];exact congrArg _ (congrArg _ jB))|(rw[jF];rfl)),.inl (by rw[jN]),trivial⟩
   ·have hg:¬l[(F-1).toNat]?.getD 0=47:=by
     rw[yc,getElem?_eq_getElem xp]at *;intro h;exact vN (congrArg some h)
    rw[if_neg vN]at jD jF jN;have jD:kd=8:=jD;have jF:tt=F+1:=by rw[hF];show tt=_;rw[jF];show((p+1:Nat):Int)=_;omega
    have jN:ww=true:=jN;clear hF xo zu hc hp hw cG eF gx jv vN yc xp;refine fnN (Q9e F) func156 rfl fun _ _=>?_
    with_reducible refine cv1 (Q0 l) ?_
    have jB:=Q15 hn;have gq:=hg;rw[hft]at gq;with_reducible repeat' first|refine aU (zA jB <| zA af <| zA ap <| zA ap2 <| zA zX <| zA nS <| zA j4 <| zA hg gq) ?_|refine zA ?_ ?_|intro hb
    all_goals exact .pure rfl ⟨.inl (by rw[jD]),.inl rfl,.inl (by first|(rw[jF];done)|(rw[jF];exact congrArg _ (congrArg _ jB.symm))|(rw[jF];exact congrArg _ (congrArg _ jB))|(rw[jF];rfl)),.inl (by rw[jN]),trivial⟩
 ·rw[if_neg hc]at hF
  have hF:F=-1:=hF;have cG:w=false:=by cases w with|true=>exact absurd (.inl rfl) hc|false=>rfl
  have jv:p=l.length:=by have:=zu.2.1;have:¬p<l.length:=fun h=>hc (.inr h);omega
  rw[cG,if_pos rfl]at jD jF jN;have jD:kd=8:=jD;have jF:tt=n:=by rw[jF];show(p:Int)=n;have:=hn.eq;omega
  have jN:ww=false:=jN;clear xo zu hc hp hw cG gx jv;have hFn:F<0:=by omega
  clear hF;refine fnN (Q9e F) func156 rfl fun _ _=>?_
  with_reducible refine cv1 (Q0 l) ?_
  have jB:=Q15 hn;with_reducible repeat' first|refine aU (zA jB hFn) ?_|refine zA ?_ ?_|intro hb
  all_goals exact .pure rfl ⟨.inl (by rw[jD]),.inl rfl,.inl (by first|(rw[jF];done)|(rw[jF];exact congrArg _ (congrArg _ jB.symm))|(rw[jF];exact congrArg _ (congrArg _ jB))|(rw[jF];rfl)),.inl (by rw[jN]),trivial⟩
end
theorem QiH(x:Int)(h:0<Qr x):Q10 [x]=encodeRune x:=by
 have e:Q10 [x]=Q2I x:=by simp[Q10]
 rw[e,Q2I,if_neg (by omega)]
def ofI:Int->List Int->List Itm
 |_,[]=>[]
 |a,x::r=>⟨x,a,(Q10 [x]).length⟩::ofI (a+(Q10 [x]).length) r
theorem Q6J(x:Int)(r:List Int):Q10 (x::r)=Q10 [x]++Q10 r:=by
 simp[Q10]
theorem Ql6:∀(l:List Int)(a:Int),(ofI a l).map Itm.r=l
 | [],_=>rfl
 |x::r,a=>by simp only[ofI,map_cons,Ql6]
theorem Q9Z:∀(l:List Int)(a:Nat),(∀x∈l,0<Qr x)->(Q1u (Q10 l).length a (Q10 l)).map Qb7=ofI a l
 | [],a,_=>by simp[Q10,Q2y,ofI]
 |x::r,a,h=>by
  have hx:=h x (List.mem_cons_self ..);have e1:=QiH x hx;have hw:=Q47 x hx
  have jQ:Q10 (x::r)≠[]:=fun h=>by
   have:=congrArg List.length h
   rw[Q6J,length_append,e1,hw]at this;simp at this;omega
  have hf:=Q49 x hx (Q10 r);rw[<-e1,<-Q6J]at hf;rw[Q5W a _ jQ,hf];simp only[map_cons,ofI]
  have ed:(Q10 (x::r)).drop (Qr x)=Q10 r:=by
   rw[Q6J,e1,<-hw,List.drop_left]
  rw[ed,Q9Z r (a+Qr x) fun y hy=>h y (List.mem_cons_of_mem _ hy),e1,hw]
  rfl
