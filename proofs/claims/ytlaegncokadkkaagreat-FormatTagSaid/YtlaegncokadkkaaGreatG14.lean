/- Lemmas, conditions told -/
import Derived.Test.YtlaegncokadkkaaGreatG12
set_option maxRecDepth 99999
set_option maxHeartbeats 0
set_option linter.unusedSimpArgs false
set_option linter.unusedVariables false
namespace Go.Proofs.YtlaegncokadkkaaGreat
open Nat(le_refl)
open Go.RowKit Go.Lib
section
open Tryz
structure TAttr where
 name:TPart
 value:TPart
 all:TPart
 deriving Inhabited
def TAttr.cs(x:TAttr):List AV:=[.val (.int .i64 x.name.kind),.val (.int .i64 x.name.from_),.val (.int .i64 x.name.to),.val (.int .i64 x.value.kind),.val (.int .i64 x.value.from_),.val (.int .i64 x.value.to),.val (.int .i64 x.all.kind),.val (.int .i64 x.all.from_),.val (.int .i64 x.all.to)]
def TAttr.av(x:TAttr):AV:=.agg x.cs
def tattr0:TAttr:=⟨Qe,Qe,Qe⟩
def Qj(l:List TAttr):List AV:=l.map TAttr.av
def Q35(l:List TPart)(a:Int)(k:Int):Int:=if Qz l a.toNat [k]=true then a+1 else a
def Q1b(l:List TPart)(a:Int):Option (TAttr×Int) :=
 if Qz l a.toNat [3]=true/\Qz l (a+1).toNat [2]=true then
  let b:=Q35 l (a+2) 3
  if Qz l b.toNat [4]=true then
   let c:=Q35 l (b+1) 3
   if Qz l c.toNat [5]=true then
    some (⟨l[(a+1).toNat]?.getD Qe,l[c.toNat]?.getD Qe,⟨7,(l[a.toNat]?.getD Qe).from_,(l[c.toNat]?.getD Qe).to⟩⟩,c+1)
   else none
  else none
 else none
theorem Q2T(l:List TPart)(hl:l.length<=1000000000)(a:Int)(h0:0<=a)(h1:a<=l.length)(k:Int)(h:Qz l a.toNat [k]=true) :
  a<l.length/\BCall prog 31 [.box 0 0,.slc 1 [.val (.int .i64 k)]] [.box [.slc 3 (Q3 l),.val (.int .i64 a)]] (.slc 3 [.agg [.val (.int .i64 (l[a.toNat]?.getD Qe).kind),.val (.int .i64 (l[a.toNat]?.getD Qe).from_),.val (.int .i64 (l[a.toNat]?.getD Qe).to)]]) [.box [.slc 3 (Q3 l),.val (.int .i64 (a+1))]]:=by
 have h2:=(Q2Y (l:=l) (a:=a.toNat) (ks:=[k]) (by omega)).1 h
 simp only[List.length_singleton]at h2;refine⟨by omega,Q6d l hl a h0 h1 [k] (by simp) _ _ (fun _=>⟨?_,rfl⟩) (fun h'=>by rw[h]at h';cases h')⟩
 have jE:a.toNat<l.length:=by omega
 rw[List.drop_eq_getElem_cons jE];have e:List.take 1 (l[a.toNat]::l.drop (a.toNat+1))=[l[a.toNat]]:=rfl;rw[List.length_singleton,e,Q7c,List.getElem?_eq_getElem jE];rfl
theorem Q2s(l:List TPart)(hl:l.length<=1000000000)(a:Int)(h0:0<=a)(h1:a<=l.length)(ks:List Int)(hk:ks.length<=10)(h:Qz l a.toNat ks=false) :
  BCall prog 31 [.box 0 0,.slc 1 (Qh ks)] [.box [.slc 3 (Q3 l),.val (.int .i64 a)]] (.val (.slice none 0 0)) [.box [.slc 3 (Q3 l),.val (.int .i64 a)]] :=
 Q6d l hl a h0 h1 ks hk _ _ (fun h'=>by rw[h]at h';cases h') (fun _=>⟨rfl,rfl⟩)
theorem Q4D(l:List TPart)(a:Int)(k:Int)(h0:0<=a)(h1:a<=l.length):(Q35 l a k=a\/Q35 l a k=a+1)/\Q35 l a k<=l.length/\True:=by
 unfold Q35;split
 ·rename_i h
  have:=(Q2Y (l:=l) (a:=a.toNat) (ks:=[k]) (by omega)).1 h
  simp only[List.length_singleton]at this;exact⟨.inr rfl,by omega,trivial⟩
 ·exact⟨.inl rfl,h1,trivial⟩
theorem Q46(l:List TPart)(hl:l.length<=1000000000)(a:Int)(h0:0<=a)(h1:a<=l.length)(k:Int) :
  (Q35 l a k=a\/Q35 l a k=a+1)/\Q35 l a k<=l.length/\BCall prog 31 [.box 0 0,.slc 1 [.val (.int .i64 k)]] [.box [.slc 3 (Q3 l),.val (.int .i64 a)]] .dead [.box [.slc 3 (Q3 l),.val (.int .i64 (Q35 l a k))]]:=by
 unfold Q35;cases h:Qz l a.toNat [k]with
 |true =>
  obtain⟨h2,h3⟩:=Q2T l hl a h0 h1 k h;exact⟨.inr rfl,by simp only[if_true];omega,h3.forget⟩
 |false=>exact⟨.inl rfl,by simp only[Bool.false_eq_true,if_false];omega,(Q2s l hl a h0 h1 [k] (by simp) h).forget⟩
def csT(r15 r18 r30 r36:AV)(a15 a18 a27 a30 a33 a36:Int):Nat->List AV->List Ob->Option (AV×List Ob):=fun f _ ob=>match ob with
 | [.box [ps,_]]=>match f with
  |1000015=>some (r15,[.box [ps,.val (.int .i64 a15)]])
  |1000018=>some (r18,[.box [ps,.val (.int .i64 a18)]])
  |1000027=>some (.dead,[.box [ps,.val (.int .i64 a27)]])
  |1000030=>some (r30,[.box [ps,.val (.int .i64 a30)]])
  |1000033=>some (.dead,[.box [ps,.val (.int .i64 a33)]])
  |1000036=>some (r36,[.box [ps,.val (.int .i64 a36)]])
  |_=>none
 |_=>none
def Qq(l:List TPart)(a:Int):TAttr:=match Q1b l a with|some x=>x.1|none=>tattr0
def Q1f(l:List TPart)(a:Int):Int:=match Q1b l a with|some x=>x.2|none=>a
def Q17(l:List TPart)(a:Int):Bool:=(Q1b l a).isSome
def Q4c(x y z:TPart):TAttr:=⟨x,z,⟨7,y.from_,z.to⟩⟩
theorem Qky(l:List TPart)(hl:l.length<=1000000000)(a:Int)(h0:0<=a)(h1:a<=l.length) :
  BCall prog 32 [.box 0 0] [.box [.slc 3 (Q3 l),.val (.int .i64 a)]] (.tup [.agg (Qq l a).cs,.val (.bool (Q17 l a))]) [.box [.slc 3 (Q3 l),.val (.int .i64 (Q1f l a))]]:=by
 have c3:True:=trivial;have c4:True:=trivial;have c5:True:=trivial;have c6:True:=trivial;obtain⟨a1,vG⟩:=exq (a+1);obtain⟨a2,yn⟩:=exq (a+2);obtain⟨x,hx⟩:=exq (l[a.toNat]?.getD Qe);obtain⟨y,hy⟩:=exq (l[a1.toNat]?.getD Qe);cases hs:Qz l a.toNat [3]with
 |false =>
  have hR:Q1b l a=none:=by simp[Q1b,hs]
  have e1:Qq l a=tattr0:=by rw[Qq,hR]
  have e2:Q17 l a=false:=by rw[Q17,hR];rfl
  have e3:Q1f l a=a:=by rw[Q1f,hR]
  rw[e1,e2,e3];have c1:=Q2s l hl a h0 h1 [3] (by simp) hs
  cases hn:Qz l a.toNat [2]with
  |false =>
   have c2:=Q2s l hl a h0 h1 [2] (by simp) hn
   clear hs hn hR;refine fnN (csT (.val (.slice none 0 0)) (.val (.slice none 0 0)) .dead .dead a a 0 0 0 0) func32 rfl fun _ _=>?_
   with_reducible refine cv1 (Q3 l) ?_
   repeat' first
    |exact c1
    |exact c2
    |exact c3
    |exact c4
    |exact c5
    |exact c6
    |(with_reducible refine And.intro (fun hx=>absurd hx (by simp[std])) ?_)
    |(with_reducible refine And.intro ?_ ?_)
    |(with_reducible intro _)
   all_goals first
    |exact⟨[some 0],.tup [.agg tattr0.cs,.val (.bool false)],_,rfl,rfl,le_refl _,rfl,by simp[Qf,TAttr.cs,tattr0,Qe],⟨.inl rfl,.inl rfl,.inl rfl,.inl rfl,.inl rfl,.inl rfl,.inl rfl,.inl rfl,.inl rfl,trivial⟩,.inl rfl,trivial⟩
    |(simp[std,Q3R,AV.cells,intOf];done)
  |true =>
   have c2:=(Q2T l hl a h0 h1 2 hn).2;rw[<-hx,<-vG]at c2;clear hs hn hR;refine fnN (csT (.val (.slice none 0 0)) (.slc 3 [.agg [.val (.int .i64 x.kind),.val (.int .i64 x.from_),.val (.int .i64 x.to)]]) .dead .dead a a1 0 0 0 0) func32 rfl fun _ _=>?_
   with_reducible refine cv1 (Q3 l) ?_
   repeat' first
    |exact c1
    |exact c2
    |exact c3
    |exact c4
    |exact c5
    |exact c6
    |(with_reducible refine And.intro (fun hx=>absurd hx (by simp[std])) ?_)
    |(with_reducible refine And.intro ?_ ?_)
    |(with_reducible intro _)
   all_goals first
    |exact⟨[some 0],.tup [.agg tattr0.cs,.val (.bool false)],_,rfl,rfl,le_refl _,rfl,by simp[Qf,TAttr.cs,tattr0,Qe],⟨.inl rfl,.inl rfl,.inl rfl,.inl rfl,.inl rfl,.inl rfl,.inl rfl,.inl rfl,.inl rfl,trivial⟩,.inl rfl,trivial⟩
    |(simp[std,Q3R,AV.cells,intOf];done)
 |true =>
  obtain⟨jE,c1⟩:=Q2T l hl a h0 h1 3 hs;rw[<-hx,<-vG]at c1;cases hn:Qz l a1.toNat [2]with
  |false =>
   have hR:Q1b l a=none:=by simp[Q1b,hs,<-vG,hn]
   have e1:Qq l a=tattr0:=by rw[Qq,hR]
   have e2:Q17 l a=false:=by rw[Q17,hR];rfl
   have e3:Q1f l a=a:=by rw[Q1f,hR]
   rw[e1,e2,e3];have c2:=Q2s l hl a1 (by omega) (by omega) [2] (by simp) hn
   clear hs hn hR;refine fnN (csT (.slc 3 [.agg [.val (.int .i64 x.kind),.val (.int .i64 x.from_),.val (.int .i64 x.to)]]) (.val (.slice none 0 0)) .dead .dead a1 a1 0 0 0 0) func32 rfl fun _ _=>?_
   with_reducible refine cv1 (Q3 l) ?_
   repeat' first
    |exact c1
    |exact c2
    |exact c3
    |exact c4
    |exact c5
    |exact c6
    |(with_reducible refine And.intro (fun hx=>absurd hx (by simp[std])) ?_)
    |(with_reducible refine And.intro ?_ ?_)
    |(with_reducible intro _)
   all_goals first
    |exact⟨[some 0],.tup [.agg tattr0.cs,.val (.bool false)],_,rfl,rfl,le_refl _,rfl,by simp[Qf,TAttr.cs,tattr0,Qe],⟨.inl rfl,.inl rfl,.inl rfl,.inl rfl,.inl rfl,.inl rfl,.inl rfl,.inl rfl,.inl rfl,trivial⟩,.inl rfl,trivial⟩
    |(simp[std,Q3R,AV.cells,intOf];done)
  |true =>
   obtain⟨qs,c2⟩:=Q2T l hl a1 (by omega) (by omega) 2 hn
   have ea:a1+1=a2:=by omega
   rw[<-hy,ea]at c2;obtain⟨h3,h4,c3⟩:=Q46 l hl a2 (by omega) (by omega) 3
   obtain⟨b,hb⟩:=exq (Q35 l a2 3);rw[<-hb]at h3 h4 c3;obtain⟨z,hz⟩:=exq (l[b.toNat]?.getD Qe);obtain⟨b1,j9⟩:=exq (b+1)
   have hG:Q1b l a=if Qz l b.toNat [4]=true then(if Qz l (Q35 l b1 3).toNat [5]=true then some (Q4c y x (l[(Q35 l b1 3).toNat]?.getD Qe),Q35 l b1 3+1)else none)else none:=by
    simp only[Q1b,hs,<-vG,hn,<-yn,<-hb,<-j9,and_self,if_true,Q4c,hy,hx]
   cases he:Qz l b.toNat [4]with
   |false =>
    have hR:Q1b l a=none:=by rw[hG,he];rfl
    have e1:Qq l a=tattr0:=by rw[Qq,hR]
    have e2:Q17 l a=false:=by rw[Q17,hR];rfl
    have e3:Q1f l a=a:=by rw[Q1f,hR]
    rw[e1,e2,e3];have c4:=Q2s l hl b (by omega) (by omega) [4] (by simp) he
    obtain⟨h5,h6,c5⟩:=Q46 l hl b (by omega) (by omega) 3
    obtain⟨c,hc⟩:=exq (Q35 l b 3);rw[<-hc]at h5 h6 c5;cases hv:Qz l c.toNat [5]with
    |false =>
     have c6:=Q2s l hl c (by omega) (by omega) [5] (by simp) hv
     clear hs hn hR hG he hv;refine fnN (csT (.slc 3 [.agg [.val (.int .i64 x.kind),.val (.int .i64 x.from_),.val (.int .i64 x.to)]]) (.slc 3 [.agg [.val (.int .i64 y.kind),.val (.int .i64 y.from_),.val (.int .i64 y.to)]]) (.val (.slice none 0 0)) (.val (.slice none 0 0)) a1 a2 b b c c) func32 rfl fun _ _=>?_
     with_reducible refine cv1 (Q3 l) ?_
     repeat' first
      |exact c1
      |exact c2
      |exact c3
      |exact c4
      |exact c5
      |exact c6
      |(with_reducible refine And.intro (fun hx=>absurd hx (by simp[std])) ?_)
      |(with_reducible refine And.intro ?_ ?_)
      |(with_reducible intro _)
     all_goals first
      |exact⟨[some 0],.tup [.agg tattr0.cs,.val (.bool false)],_,rfl,rfl,le_refl _,rfl,by simp[Qf,TAttr.cs,tattr0,Qe],⟨.inl rfl,.inl rfl,.inl rfl,.inl rfl,.inl rfl,.inl rfl,.inl rfl,.inl rfl,.inl rfl,trivial⟩,.inl rfl,trivial⟩
      |(simp[std,Q3R,AV.cells,intOf];done)
    |true =>
     have c6:=(Q2T l hl c (by omega) (by omega) 5 hv).2
     obtain⟨d,hd⟩:=exq (c+1);obtain⟨q,hq⟩:=exq (l[c.toNat]?.getD Qe);rw[<-hd,<-hq]at c6;clear hs hn hR hG he hv;refine fnN (csT (.slc 3 [.agg [.val (.int .i64 x.kind),.val (.int .i64 x.from_),.val (.int .i64 x.to)]]) (.slc 3 [.agg [.val (.int .i64 y.kind),.val (.int .i64 y.from_),.val (.int .i64 y.to)]]) (.val (.slice none 0 0)) (.slc 3 [.agg [.val (.int .i64 q.kind),.val (.int .i64 q.from_),.val (.int .i64 q.to)]]) a1 a2 b b c d) func32 rfl fun _ _=>?_
     with_reducible refine cv1 (Q3 l) ?_
     repeat' first
      |exact c1
      |exact c2
      |exact c3
      |exact c4
      |exact c5
      |exact c6
      |(with_reducible refine And.intro (fun hx=>absurd hx (by simp[std])) ?_)
      |(with_reducible refine And.intro ?_ ?_)
      |(with_reducible intro _)
     all_goals first
      |exact⟨[some 0],.tup [.agg tattr0.cs,.val (.bool false)],_,rfl,rfl,le_refl _,rfl,by simp[Qf,TAttr.cs,tattr0,Qe],⟨.inl rfl,.inl rfl,.inl rfl,.inl rfl,.inl rfl,.inl rfl,.inl rfl,.inl rfl,.inl rfl,trivial⟩,.inl rfl,trivial⟩
      |(simp[std,Q3R,AV.cells,intOf];done)
   |true =>
    obtain⟨xJ,c4⟩:=Q2T l hl b (by omega) (by omega) 4 he
    rw[<-j9,<-hz]at c4;obtain⟨h5,h6,c5⟩:=Q46 l hl b1 (by omega) (by omega) 3
    obtain⟨c,hc⟩:=exq (Q35 l b1 3);rw[<-hc]at h5 h6 c5 hG;cases hv:Qz l c.toNat [5]with
    |false =>
     have hR:Q1b l a=none:=by rw[hG,he,hv];rfl
     have e1:Qq l a=tattr0:=by rw[Qq,hR]
     have e2:Q17 l a=false:=by rw[Q17,hR];rfl
     have e3:Q1f l a=a:=by rw[Q1f,hR]
     rw[e1,e2,e3];have c6:=Q2s l hl c (by omega) (by omega) [5] (by simp) hv
     clear hs hn hR hG he hv;refine fnN (csT (.slc 3 [.agg [.val (.int .i64 x.kind),.val (.int .i64 x.from_),.val (.int .i64 x.to)]]) (.slc 3 [.agg [.val (.int .i64 y.kind),.val (.int .i64 y.from_),.val (.int .i64 y.to)]]) (.slc 3 [.agg [.val (.int .i64 z.kind),.val (.int .i64 z.from_),.val (.int .i64 z.to)]]) (.val (.slice none 0 0)) a1 a2 b b1 c c) func32 rfl fun _ _=>?_
     with_reducible refine cv1 (Q3 l) ?_
     repeat' first
      |exact c1
      |exact c2
      |exact c3
      |exact c4
      |exact c5
      |exact c6
      |(with_reducible refine And.intro (fun hx=>absurd hx (by simp[std])) ?_)
      |(with_reducible refine And.intro ?_ ?_)
      |(with_reducible intro _)
     all_goals first
      |exact⟨[some 0],.tup [.agg tattr0.cs,.val (.bool false)],_,rfl,rfl,le_refl _,rfl,by simp[Qf,TAttr.cs,tattr0,Qe],⟨.inl rfl,.inl rfl,.inl rfl,.inl rfl,.inl rfl,.inl rfl,.inl rfl,.inl rfl,.inl rfl,trivial⟩,.inl rfl,trivial⟩
      |(simp[std,Q3R,AV.cells,intOf];done)
    |true =>
     have c6:=(Q2T l hl c (by omega) (by omega) 5 hv).2
     obtain⟨d,hd⟩:=exq (c+1);obtain⟨q,hq⟩:=exq (l[c.toNat]?.getD Qe);have hR:Q1b l a=some (Q4c y x q,d):=by rw[hG,he,hv,hq,hd];rfl
     have e1:Qq l a=Q4c y x q:=by rw[Qq,hR]
     have e2:Q17 l a=true:=by rw[Q17,hR];rfl
     have e3:Q1f l a=d:=by rw[Q1f,hR]
     rw[e1,e2,e3];rw[<-hd,<-hq]at c6;clear hs hn hR hG he hv;refine fnN (csT (.slc 3 [.agg [.val (.int .i64 x.kind),.val (.int .i64 x.from_),.val (.int .i64 x.to)]]) (.slc 3 [.agg [.val (.int .i64 y.kind),.val (.int .i64 y.from_),.val (.int .i64 y.to)]]) (.slc 3 [.agg [.val (.int .i64 z.kind),.val (.int .i64 z.from_),.val (.int .i64 z.to)]]) (.slc 3 [.agg [.val (.int .i64 q.kind),.val (.int .i64 q.from_),.val (.int .i64 q.to)]]) a1 a2 b b1 c d) func32 rfl fun _ _=>?_
     with_reducible refine cv1 (Q3 l) ?_
     repeat' first
      |exact c1
      |exact c2
      |exact c3
      |exact c4
      |exact c5
      |exact c6
      |(with_reducible refine And.intro (fun hx=>absurd hx (by simp[std])) ?_)
      |(with_reducible refine And.intro ?_ ?_)
      |(with_reducible intro _)
     all_goals first
      |exact⟨[some 0],.tup [.agg (Q4c y x q).cs,.val (.bool true)],_,rfl,rfl,le_refl _,rfl,by simp[Qf,std,AV.cells,intOf,TAttr.cs,Q4c],⟨.inl rfl,.inl rfl,.inl rfl,.inl rfl,.inl rfl,.inl rfl,.inl rfl,.inl rfl,.inl rfl,trivial⟩,.inl rfl,trivial⟩
      |(simp[std,Q3R,AV.cells,intOf];done)
