/- Lemmas, conditions told -/
import Derived.Test.YtibemhahkicbpaaGreatL11
set_option maxRecDepth 99999
set_option maxHeartbeats 0
set_option linter.unusedSimpArgs false
set_option linter.unusedVariables false
namespace Go.Proofs.YtibemhahkicbpaaGreat
open Nat(le_refl)
open Go.RowKit Go.Lib
section
open Tryz
structure TAttr where
 name:TPart
 value:TPart
 all:TPart
 deriving Inhabited
def TAttr.cs(x:TAttr):List AV:=[.val (.int .i64 x.name.kind),.val (.int .i64 x.name.from_),.val (.int .i64 x.name.to),.val (.int .i64 x.value.kind),.val (.int .i64 x.value.from_),.val (.int .i64 x.value.to),.val (.int .i64 x.all.kind),.val (.int .i64 x.all.from_),.val (.int .i64 x.all.to)]
def TAttr.av(x:TAttr):AV:=.agg x.cs
def tattr0:TAttr:=⟨Qm,Qm,Qm⟩
def Qh(l:List TAttr):List AV:=l.map TAttr.av
def Q3y(l:List TPart)(a:Int)(k:Int):Int:=if QO l a.toNat [k]=true then a+1 else a
def Q1q(l:List TPart)(a:Int):Option (TAttr×Int) :=
 if QO l a.toNat [3]=true/\QO l (a+1).toNat [2]=true then
  let b:=Q3y l (a+2) 3
  if QO l b.toNat [4]=true then
   let c:=Q3y l (b+1) 3
   if QO l c.toNat [5]=true then
    some (⟨l[(a+1).toNat]?.getD Qm,l[c.toNat]?.getD Qm,⟨7,(l[a.toNat]?.getD Qm).from_,(l[c.toNat]?.getD Qm).to⟩⟩,c+1)
   else none
  else none
 else none
theorem Q3B(l:List TPart)(hl:l.length<=1000000000)(a:Int)(h0:0<=a)(h1:a<=l.length)(k:Int)(h:QO l a.toNat [k]=true) :
  a<l.length/\BCall prog 101 [.box 0 0,.slc 1 [.val (.int .i64 k)]] [.box [.slc 3 (Q8 l),.val (.int .i64 a)]] (.slc 3 [.agg [.val (.int .i64 (l[a.toNat]?.getD Qm).kind),.val (.int .i64 (l[a.toNat]?.getD Qm).from_),.val (.int .i64 (l[a.toNat]?.getD Qm).to)]]) [.box [.slc 3 (Q8 l),.val (.int .i64 (a+1))]]:=by
 have h2:=(Q29 (l:=l) (a:=a.toNat) (ks:=[k]) (by omega)).1 h
 simp only[List.length_singleton]at h2;refine⟨by omega,Q6V l hl a h0 h1 [k] (by simp) _ _ (fun _=>⟨?_,rfl⟩) (fun h'=>by rw[h]at h';cases h')⟩
 have jA:a.toNat<l.length:=by omega
 rw[List.drop_eq_getElem_cons jA];have e:List.take 1 (l[a.toNat]::l.drop (a.toNat+1))=[l[a.toNat]]:=rfl;rw[List.length_singleton,e,Q7O,List.getElem?_eq_getElem jA];rfl
theorem Q3a(l:List TPart)(hl:l.length<=1000000000)(a:Int)(h0:0<=a)(h1:a<=l.length)(ks:List Int)(hk:ks.length<=10)(h:QO l a.toNat ks=false) :
  BCall prog 101 [.box 0 0,.slc 1 (Q9 ks)] [.box [.slc 3 (Q8 l),.val (.int .i64 a)]] (.val (.slice none 0 0)) [.box [.slc 3 (Q8 l),.val (.int .i64 a)]] :=
 Q6V l hl a h0 h1 ks hk _ _ (fun h'=>by rw[h]at h';cases h') (fun _=>⟨rfl,rfl⟩)
theorem Q8O(l:List TPart)(a:Int)(k:Int)(h0:0<=a)(h1:a<=l.length):(Q3y l a k=a\/Q3y l a k=a+1)/\Q3y l a k<=l.length/\True:=by
 unfold Q3y;split
 ·rename_i h
  have:=(Q29 (l:=l) (a:=a.toNat) (ks:=[k]) (by omega)).1 h
  simp only[List.length_singleton]at this;exact⟨.inr rfl,by omega,trivial⟩
 ·exact⟨.inl rfl,h1,trivial⟩
theorem Q55(l:List TPart)(hl:l.length<=1000000000)(a:Int)(h0:0<=a)(h1:a<=l.length)(k:Int) :
  (Q3y l a k=a\/Q3y l a k=a+1)/\Q3y l a k<=l.length/\BCall prog 101 [.box 0 0,.slc 1 [.val (.int .i64 k)]] [.box [.slc 3 (Q8 l),.val (.int .i64 a)]] .dead [.box [.slc 3 (Q8 l),.val (.int .i64 (Q3y l a k))]]:=by
 unfold Q3y;cases h:QO l a.toNat [k]with
 |true =>
  obtain⟨h2,h3⟩:=Q3B l hl a h0 h1 k h;exact⟨.inr rfl,by simp only[if_true];omega,h3.forget⟩
 |false=>exact⟨.inl rfl,by simp only[Bool.false_eq_true,if_false];omega,(Q3a l hl a h0 h1 [k] (by simp) h).forget⟩
def csT(r15 r18 r30 r36:AV)(a15 a18 a27 a30 a33 a36:Int):Nat->List AV->List Ob->Option (AV×List Ob):=fun f _ ob=>match ob with
 | [.box [ps,_]]=>match f with
  |1000015=>some (r15,[.box [ps,.val (.int .i64 a15)]])
  |1000018=>some (r18,[.box [ps,.val (.int .i64 a18)]])
  |1000027=>some (.dead,[.box [ps,.val (.int .i64 a27)]])
  |1000030=>some (r30,[.box [ps,.val (.int .i64 a30)]])
  |1000033=>some (.dead,[.box [ps,.val (.int .i64 a33)]])
  |1000036=>some (r36,[.box [ps,.val (.int .i64 a36)]])
  |_=>none
 |_=>none
def QH(l:List TPart)(a:Int):TAttr:=match Q1q l a with|some x=>x.1|none=>tattr0
def Q1z(l:List TPart)(a:Int):Int:=match Q1q l a with|some x=>x.2|none=>a
def Q1p(l:List TPart)(a:Int):Bool:=(Q1q l a).isSome
def Q51(x y z:TPart):TAttr:=⟨x,z,⟨7,y.from_,z.to⟩⟩
theorem QkE(l:List TPart)(hl:l.length<=1000000000)(a:Int)(h0:0<=a)(h1:a<=l.length) :
  BCall prog 102 [.box 0 0] [.box [.slc 3 (Q8 l),.val (.int .i64 a)]] (.tup [.agg (QH l a).cs,.val (.bool (Q1p l a))]) [.box [.slc 3 (Q8 l),.val (.int .i64 (Q1z l a))]]:=by
 have c3:True:=trivial;have c4:True:=trivial;have c5:True:=trivial;have c6:True:=trivial;obtain⟨a1,qw⟩:=exq (a+1);obtain⟨a2,yN⟩:=exq (a+2);obtain⟨x,hx⟩:=exq (l[a.toNat]?.getD Qm);obtain⟨y,hy⟩:=exq (l[a1.toNat]?.getD Qm);cases hs:QO l a.toNat [3]with
 |false =>
  have hR:Q1q l a=none:=by simp[Q1q,hs]
  have e1:QH l a=tattr0:=by rw[QH,hR]
  have e2:Q1p l a=false:=by rw[Q1p,hR];rfl
  have e3:Q1z l a=a:=by rw[Q1z,hR]
  rw[e1,e2,e3];have c1:=Q3a l hl a h0 h1 [3] (by simp) hs
  cases hn:QO l a.toNat [2]with
  |false =>
   have c2:=Q3a l hl a h0 h1 [2] (by simp) hn
   clear hs hn hR;refine fnN (csT (.val (.slice none 0 0)) (.val (.slice none 0 0)) .dead .dead a a 0 0 0 0) func102 rfl fun _ _=>?_
   with_reducible refine cv1 (Q8 l) ?_
   repeat' first
    |exact c1
    |exact c2
    |exact c3
    |exact c4
    |exact c5
    |exact c6
    |(with_reducible refine And.intro (fun hx=>absurd hx (by simp[std])) ?_)
    |(with_reducible refine zA ?_ ?_)
    |(with_reducible intro _)
   all_goals first
    |exact⟨[some 0],.tup [.agg tattr0.cs,.val (.bool false)],_,rfl,rfl,le_refl _,rfl,by simp[Qe,TAttr.cs,tattr0,Qm],⟨.inl rfl,.inl rfl,.inl rfl,.inl rfl,.inl rfl,.inl rfl,.inl rfl,.inl rfl,.inl rfl,trivial⟩,.inl rfl,trivial⟩
    |(simp[std,Q3t,AV.cells,intOf];done)
  |true =>
   have c2:=(Q3B l hl a h0 h1 2 hn).2;rw[<-hx,<-qw]at c2;clear hs hn hR;refine fnN (csT (.val (.slice none 0 0)) (.slc 3 [.agg [.val (.int .i64 x.kind),.val (.int .i64 x.from_),.val (.int .i64 x.to)]]) .dead .dead a a1 0 0 0 0) func102 rfl fun _ _=>?_
   with_reducible refine cv1 (Q8 l) ?_
   repeat' first
    |exact c1
    |exact c2
    |exact c3
    |exact c4
    |exact c5
    |exact c6
    |(with_reducible refine And.intro (fun hx=>absurd hx (by simp[std])) ?_)
    |(with_reducible refine zA ?_ ?_)
    |(with_reducible intro _)
   all_goals first
    |exact⟨[some 0],.tup [.agg tattr0.cs,.val (.bool false)],_,rfl,rfl,le_refl _,rfl,by simp[Qe,TAttr.cs,tattr0,Qm],⟨.inl rfl,.inl rfl,.inl rfl,.inl rfl,.inl rfl,.inl rfl,.inl rfl,.inl rfl,.inl rfl,trivial⟩,.inl rfl,trivial⟩
    |(simp[std,Q3t,AV.cells,intOf];done)
 |true =>
  obtain⟨jA,c1⟩:=Q3B l hl a h0 h1 3 hs;rw[<-hx,<-qw]at c1;cases hn:QO l a1.toNat [2]with
  |false =>
   have hR:Q1q l a=none:=by simp[Q1q,hs,<-qw,hn]
   have e1:QH l a=tattr0:=by rw[QH,hR]
   have e2:Q1p l a=false:=by rw[Q1p,hR];rfl
   have e3:Q1z l a=a:=by rw[Q1z,hR]
   rw[e1,e2,e3];have c2:=Q3a l hl a1 (by omega) (by omega) [2] (by simp) hn
   clear hs hn hR;refine fnN (csT (.slc 3 [.agg [.val (.int .i64 x.kind),.val (.int .i64 x.from_),.val (.int .i64 x.to)]]) (.val (.slice none 0 0)) .dead .dead a1 a1 0 0 0 0) func102 rfl fun _ _=>?_
   with_reducible refine cv1 (Q8 l) ?_
   repeat' first
    |exact c1
    |exact c2
    |exact c3
    |exact c4
    |exact c5
    |exact c6
    |(with_reducible refine And.intro (fun hx=>absurd hx (by simp[std])) ?_)
    |(with_reducible refine zA ?_ ?_)
    |(with_reducible intro _)
   all_goals first
    |exact⟨[some 0],.tup [.agg tattr0.cs,.val (.bool false)],_,rfl,rfl,le_refl _,rfl,by simp[Qe,TAttr.cs,tattr0,Qm],⟨.inl rfl,.inl rfl,.inl rfl,.inl rfl,.inl rfl,.inl rfl,.inl rfl,.inl rfl,.inl rfl,trivial⟩,.inl rfl,trivial⟩
    |(simp[std,Q3t,AV.cells,intOf];done)
  |true =>
   obtain⟨yr,c2⟩:=Q3B l hl a1 (by omega) (by omega) 2 hn
   have ea:a1+1=a2:=by omega
   rw[<-hy,ea]at c2;obtain⟨h3,h4,c3⟩:=Q55 l hl a2 (by omega) (by omega) 3
   obtain⟨b,hb⟩:=exq (Q3y l a2 3);rw[<-hb]at h3 h4 c3;obtain⟨z,hz⟩:=exq (l[b.toNat]?.getD Qm);obtain⟨b1,jg⟩:=exq (b+1)
   have hG:Q1q l a=if QO l b.toNat [4]=true then(if QO l (Q3y l b1 3).toNat [5]=true then some (Q51 y x (l[(Q3y l b1 3).toNat]?.getD Qm),Q3y l b1 3+1)else none)else none:=by
    simp only[Q1q,hs,<-qw,hn,<-yN,<-hb,<-jg,and_self,if_true,Q51,hy,hx]
   cases he:QO l b.toNat [4]with
   |false =>
    have hR:Q1q l a=none:=by rw[hG,he];rfl
    have e1:QH l a=tattr0:=by rw[QH,hR]
    have e2:Q1p l a=false:=by rw[Q1p,hR];rfl
    have e3:Q1z l a=a:=by rw[Q1z,hR]
    rw[e1,e2,e3];have c4:=Q3a l hl b (by omega) (by omega) [4] (by simp) he
    obtain⟨h5,h6,c5⟩:=Q55 l hl b (by omega) (by omega) 3
    obtain⟨c,hc⟩:=exq (Q3y l b 3);rw[<-hc]at h5 h6 c5;cases hv:QO l c.toNat [5]with
    |false =>
     have c6:=Q3a l hl c (by omega) (by omega) [5] (by simp) hv
     clear hs hn hR hG he hv;refine fnN (csT (.slc 3 [.agg [.val (.int .i64 x.kind),.val (.int .i64 x.from_),.val (.int .i64 x.to)]]) (.slc 3 [.agg [.val (.int .i64 y.kind),.val (.int .i64 y.from_),.val (.int .i64 y.to)]]) (.val (.slice none 0 0)) (.val (.slice none 0 0)) a1 a2 b b c c) func102 rfl fun _ _=>?_
     with_reducible refine cv1 (Q8 l) ?_
     repeat' first
      |exact c1
      |exact c2
      |exact c3
      |exact c4
      |exact c5
      |exact c6
      |(with_reducible refine And.intro (fun hx=>absurd hx (by simp[std])) ?_)
      |(with_reducible refine zA ?_ ?_)
      |(with_reducible intro _)
     all_goals first
      |exact⟨[some 0],.tup [.agg tattr0.cs,.val (.bool false)],_,rfl,rfl,le_refl _,rfl,by simp[Qe,TAttr.cs,tattr0,Qm],⟨.inl rfl,.inl rfl,.inl rfl,.inl rfl,.inl rfl,.inl rfl,.inl rfl,.inl rfl,.inl rfl,trivial⟩,.inl rfl,trivial⟩
      |(simp[std,Q3t,AV.cells,intOf];done)
    |true =>
     have c6:=(Q3B l hl c (by omega) (by omega) 5 hv).2
     obtain⟨d,hd⟩:=exq (c+1);obtain⟨q,hq⟩:=exq (l[c.toNat]?.getD Qm);rw[<-hd,<-hq]at c6;clear hs hn hR hG he hv;refine fnN (csT (.slc 3 [.agg [.val (.int .i64 x.kind),.val (.int .i64 x.from_),.val (.int .i64 x.to)]]) (.slc 3 [.agg [.val (.int .i64 y.kind),.val (.int .i64 y.from_),.val (.int .i64 y.to)]]) (.val (.slice none 0 0)) (.slc 3 [.agg [.val (.int .i64 q.kind),.val (.int .i64 q.from_),.val (.int .i64 q.to)]]) a1 a2 b b c d) func102 rfl fun _ _=>?_
     with_reducible refine cv1 (Q8 l) ?_
     repeat' first
      |exact c1
      |exact c2
      |exact c3
      |exact c4
      |exact c5
      |exact c6
      |(with_reducible refine And.intro (fun hx=>absurd hx (by simp[std])) ?_)
      |(with_reducible refine zA ?_ ?_)
      |(with_reducible intro _)
     all_goals first
      |exact⟨[some 0],.tup [.agg tattr0.cs,.val (.bool false)],_,rfl,rfl,le_refl _,rfl,by simp[Qe,TAttr.cs,tattr0,Qm],⟨.inl rfl,.inl rfl,.inl rfl,.inl rfl,.inl rfl,.inl rfl,.inl rfl,.inl rfl,.inl rfl,trivial⟩,.inl rfl,trivial⟩
      |(simp[std,Q3t,AV.cells,intOf];done)
   |true =>
    obtain⟨pT,c4⟩:=Q3B l hl b (by omega) (by omega) 4 he
    rw[<-jg,<-hz]at c4;obtain⟨h5,h6,c5⟩:=Q55 l hl b1 (by omega) (by omega) 3
    obtain⟨c,hc⟩:=exq (Q3y l b1 3);rw[<-hc]at h5 h6 c5 hG;cases hv:QO l c.toNat [5]with
    |false =>
     have hR:Q1q l a=none:=by rw[hG,he,hv];rfl
     have e1:QH l a=tattr0:=by rw[QH,hR]
     have e2:Q1p l a=false:=by rw[Q1p,hR];rfl
     have e3:Q1z l a=a:=by rw[Q1z,hR]
     rw[e1,e2,e3];have c6:=Q3a l hl c (by omega) (by omega) [5] (by simp) hv
     clear hs hn hR hG he hv;refine fnN (csT (.slc 3 [.agg [.val (.int .i64 x.kind),.val (.int .i64 x.from_),.val (.int .i64 x.to)]]) (.slc 3 [.agg [.val (.int .i64 y.kind),.val (.int .i64 y.from_),.val (.int .i64 y.to)]]) (.slc 3 [.agg [.val (.int .i64 z.kind),.val (.int .i64 z.from_),.val (.int .i64 z.to)]]) (.val (.slice none 0 0)) a1 a2 b b1 c c) func102 rfl fun _ _=>?_
     with_reducible refine cv1 (Q8 l) ?_
     repeat' first
      |exact c1
      |exact c2
      |exact c3
      |exact c4
      |exact c5
      |exact c6
      |(with_reducible refine And.intro (fun hx=>absurd hx (by simp[std])) ?_)
      |(with_reducible refine zA ?_ ?_)
      |(with_reducible intro _)
     all_goals first
      |exact⟨[some 0],.tup [.agg tattr0.cs,.val (.bool false)],_,rfl,rfl,le_refl _,rfl,by simp[Qe,TAttr.cs,tattr0,Qm],⟨.inl rfl,.inl rfl,.inl rfl,.inl rfl,.inl rfl,.inl rfl,.inl rfl,.inl rfl,.inl rfl,trivial⟩,.inl rfl,trivial⟩
      |(simp[std,Q3t,AV.cells,intOf];done)
    |true =>
     have c6:=(Q3B l hl c (by omega) (by omega) 5 hv).2
     obtain⟨d,hd⟩:=exq (c+1);obtain⟨q,hq⟩:=exq (l[c.toNat]?.getD Qm);have hR:Q1q l a=some (Q51 y x q,d):=by rw[hG,he,hv,hq,hd];rfl
     have e1:QH l a=Q51 y x q:=by rw[QH,hR]
     have e2:Q1p l a=true:=by rw[Q1p,hR];rfl
     have e3:Q1z l a=d:=by rw[Q1z,hR]
     rw[e1,e2,e3];rw[<-hd,<-hq]at c6;clear hs hn hR hG he hv;refine fnN (csT (.slc 3 [.agg [.val (.int .i64 x.kind),.val (.int .i64 x.from_),.val (.int .i64 x.to)]]) (.slc 3 [.agg [.val (.int .i64 y.kind),.val (.int .i64 y.from_),.val (.int .i64 y.to)]]) (.slc 3 [.agg [.val (.int .i64 z.kind),.val (.int .i64 z.from_),.val (.int .i64 z.to)]]) (.slc 3 [.agg [.val (.int .i64 q.kind),.val (.int .i64 q.from_),.val (.int .i64 q.to)]]) a1 a2 b b1 c d) func102 rfl fun _ _=>?_
     with_reducible refine cv1 (Q8 l) ?_
     repeat' first
      |exact c1
      |exact c2
      |exact c3
      |exact c4
      |exact c5
      |exact c6
      |(with_reducible refine And.intro (fun hx=>absurd hx (by simp[std])) ?_)
      |(with_reducible refine zA ?_ ?_)
      |(with_reducible intro _)
     all_goals first
      |exact⟨[some 0],.tup [.agg (Q51 y x q).cs,.val (.bool true)],_,rfl,rfl,le_refl _,rfl,by simp[Qe,std,AV.cells,intOf,TAttr.cs,Q51],⟨.inl rfl,.inl rfl,.inl rfl,.inl rfl,.inl rfl,.inl rfl,.inl rfl,.inl rfl,.inl rfl,trivial⟩,.inl rfl,trivial⟩
      |(simp[std,Q3t,AV.cells,intOf];done)
