/-
  Parts of the proof, joined: TgR. Conditions: as each theorem says.
-/
import Derived.Test.YtibemhahkicbpaaGreatQI10
set_option maxRecDepth 100000
set_option maxHeartbeats 8000000
namespace Go.Proofs.YtibemhahkicbpaaGreat
open Go.RowKit Go.Lib Tryz
structure TAttr where
 name:TPart
 value:TPart
 all:TPart
 deriving Inhabited
def TAttr.cs (x:TAttr):List AV:=[.val (.int .i64 x.name.kind),.val (.int .i64 x.name.from_),.val (.int .i64 x.name.to),.val (.int .i64 x.value.kind),.val (.int .i64 x.value.from_),.val (.int .i64 x.value.to),.val (.int .i64 x.all.kind),.val (.int .i64 x.all.from_),.val (.int .i64 x.all.to)]
def TAttr.av (x:TAttr):AV:=.agg x.cs
def tattr0:TAttr:=⟨Qu,Qu,Qu⟩
def Qo (l:List TAttr):List AV:=l.map TAttr.av
def Q3e (l:List TPart)(a:Int)(k:Int):Int:=if QG l a.toNat [k]=true then a+1 else a
def Q25 (l:List TPart)(a:Int):Option (TAttr×Int) :=
 if QG l a.toNat [3]=true∧QG l (a+1).toNat [2]=true then
  let b:=Q3e l (a+2) 3
  if QG l b.toNat [4]=true then
   let c:=Q3e l (b+1) 3
   if QG l c.toNat [5]=true then
    some (⟨l[(a+1).toNat]?.getD Qu,l[c.toNat]?.getD Qu,⟨7,(l[a.toNat]?.getD Qu).from_,(l[c.toNat]?.getD Qu).to⟩⟩,c+1)
   else none
  else none
 else none
theorem Q2D (l:List TPart)(hl:l.length≤1000000000)(a:Int)(h0:0≤a)(h1:a≤l.length)(k:Int)(h:QG l a.toNat [k]=true) :
  a<l.length∧BCall prog 101 [.box 0 0,.slc 1 [.val (.int .i64 k)]] [.box [.slc 3 (Qf l),.val (.int .i64 a)]] (.slc 3 [.agg [.val (.int .i64 (l[a.toNat]?.getD Qu).kind),.val (.int .i64 (l[a.toNat]?.getD Qu).from_),.val (.int .i64 (l[a.toNat]?.getD Qu).to)]]) [.box [.slc 3 (Qf l),.val (.int .i64 (a+1))]]:=by
 have h2:=(Q1K (l:=l) (a:=a.toNat) (ks:=[k]) (by omega)).1 h
 simp only[List.length_singleton] at h2
 refine⟨by omega,Q5i l hl a h0 h1 [k] (by simp) _ _ (fun _=>⟨?_,rfl⟩) (fun h'=>by rw[h] at h';cases h')⟩
 have hlt:a.toNat<l.length:=by omega
 rw[List.drop_eq_getElem_cons hlt]
 have e:List.take 1 (l[a.toNat]::l.drop (a.toNat+1))=[l[a.toNat]]:=rfl
 rw[List.length_singleton,e,Q8y,List.getElem?_eq_getElem hlt];rfl
theorem Q2i (l:List TPart)(hl:l.length≤1000000000)(a:Int)(h0:0≤a)(h1:a≤l.length)(ks:List Int)(hk:ks.length≤10)(h:QG l a.toNat ks=false) :
  BCall prog 101 [.box 0 0,.slc 1 (Q9 ks)] [.box [.slc 3 (Qf l),.val (.int .i64 a)]] (.val (.slice none 0 0)) [.box [.slc 3 (Qf l),.val (.int .i64 a)]] :=
 Q5i l hl a h0 h1 ks hk _ _ (fun h'=>by rw[h] at h';cases h') (fun _=>⟨rfl,rfl⟩)
theorem Q75 (l:List TPart)(a:Int)(k:Int)(h0:0≤a)(h1:a≤l.length):(Q3e l a k=a∨Q3e l a k=a+1)∧Q3e l a k≤l.length∧True:=by
 unfold Q3e
 split
 ·rename_i h
  have:=(Q1K (l:=l) (a:=a.toNat) (ks:=[k]) (by omega)).1 h
  simp only[List.length_singleton] at this
  exact⟨.inr rfl,by omega,trivial⟩
 ·exact⟨.inl rfl,h1,trivial⟩
theorem Q3K (l:List TPart)(hl:l.length≤1000000000)(a:Int)(h0:0≤a)(h1:a≤l.length)(k:Int) :
  (Q3e l a k=a∨Q3e l a k=a+1)∧Q3e l a k≤l.length∧BCall prog 101 [.box 0 0,.slc 1 [.val (.int .i64 k)]] [.box [.slc 3 (Qf l),.val (.int .i64 a)]] .dead [.box [.slc 3 (Qf l),.val (.int .i64 (Q3e l a k))]]:=by
 unfold Q3e
 cases h:QG l a.toNat [k] with
 |true =>
  obtain⟨h2,h3⟩:=Q2D l hl a h0 h1 k h
  exact⟨.inr rfl,by simp only[if_true];omega,h3.forget⟩
 |false=>exact⟨.inl rfl,by simp only[Bool.false_eq_true,if_false];omega,(Q2i l hl a h0 h1 [k] (by simp) h).forget⟩
def csT (r15 r18 r30 r36:AV)(a15 a18 a27 a30 a33 a36:Int):Nat→List AV→List Ob→Option (AV×List Ob):=fun f _ ob=>match ob with
 | [.box [ps,_]]=>match f with
  |1000015=>some (r15,[.box [ps,.val (.int .i64 a15)]])
  |1000018=>some (r18,[.box [ps,.val (.int .i64 a18)]])
  |1000027=>some (.dead,[.box [ps,.val (.int .i64 a27)]])
  |1000030=>some (r30,[.box [ps,.val (.int .i64 a30)]])
  |1000033=>some (.dead,[.box [ps,.val (.int .i64 a33)]])
  |1000036=>some (r36,[.box [ps,.val (.int .i64 a36)]])
  |_=>none
 |_=>none
def QY (l:List TPart)(a:Int):TAttr:=match Q25 l a with|some x=>x.1|none=>tattr0
def Q1z (l:List TPart)(a:Int):Int:=match Q25 l a with|some x=>x.2|none=>a
def Q24 (l:List TPart)(a:Int):Bool:=(Q25 l a).isSome
def Q7k (x y z:TPart):TAttr:=⟨x,z,⟨7,y.from_,z.to⟩⟩
theorem QgM (l:List TPart)(hl:l.length≤1000000000)(a:Int)(h0:0≤a)(h1:a≤l.length) :
  BCall prog 102 [.box 0 0] [.box [.slc 3 (Qf l),.val (.int .i64 a)]] (.tup [.agg (QY l a).cs,.val (.bool (Q24 l a))]) [.box [.slc 3 (Qf l),.val (.int .i64 (Q1z l a))]]:=by
 have c3:True:=trivial
 have c4:True:=trivial
 have c5:True:=trivial
 have c6:True:=trivial
 obtain⟨a1,ha1⟩:=exq (a+1)
 obtain⟨a2,ha2⟩:=exq (a+2)
 obtain⟨x,hx⟩:=exq (l[a.toNat]?.getD Qu)
 obtain⟨y,hy⟩:=exq (l[a1.toNat]?.getD Qu)
 cases hs:QG l a.toNat [3] with
 |false =>
  have hR:Q25 l a=none:=by simp[Q25,hs]
  have e1:QY l a=tattr0:=by rw[QY,hR]
  have e2:Q24 l a=false:=by rw[Q24,hR];rfl
  have e3:Q1z l a=a:=by rw[Q1z,hR]
  rw[e1,e2,e3]
  have c1:=Q2i l hl a h0 h1 [3] (by simp) hs
  cases hn:QG l a.toNat [2] with
  |false =>
   have c2:=Q2i l hl a h0 h1 [2] (by simp) hn
   clear hs hn hR
   refine fnN (cs:=csT (.val (.slice none 0 0)) (.val (.slice none 0 0)) .dead .dead a a 0 0 0 0) func102 rfl (by kernel_rfl) ?_
   intro w0 g0
   generalize hp:std=p,hps:Qf l=ps
   generalize hT:Q8 p tys (csT (.val (.slice none 0 0)) (.val (.slice none 0 0)) .dead .dead a a 0 0 0 0) _ _ _ _=T
   cbv at hT
   subst hT
   simp only[Tree.ok,Q4,S0]
   subst hp hps
   repeat' first
    |exact c1
    |exact c2
    |exact c3
    |exact c4
    |exact c5
    |exact c6
    |(with_reducible refine And.intro (fun hx=>absurd hx (by simp[std])) ?_)
    |(with_reducible refine And.intro ?_ ?_)
    |(with_reducible intro _)
   all_goals first
    |exact⟨[some 0],.tup [.agg tattr0.cs,.val (.bool false)],_,rfl,rfl,Nat.le_refl _,rfl,by simp[Qh,TAttr.cs,tattr0,Qu],⟨.inl rfl,.inl rfl,.inl rfl,.inl rfl,.inl rfl,.inl rfl,.inl rfl,.inl rfl,.inl rfl,trivial⟩,.inl rfl,trivial⟩
    |(simp[std,Q2H,AV.cells,Qg];done)
  |true =>
   have c2:=(Q2D l hl a h0 h1 2 hn).2
   rw[←hx,←ha1] at c2
   clear hs hn hR
   refine fnN (cs:=csT (.val (.slice none 0 0)) (.slc 3 [.agg [.val (.int .i64 x.kind),.val (.int .i64 x.from_),.val (.int .i64 x.to)]]) .dead .dead a a1 0 0 0 0) func102 rfl (by kernel_rfl) ?_
   intro w0 g0
   generalize hp:std=p,hps:Qf l=ps
   generalize hT:Q8 p tys (csT (.val (.slice none 0 0)) (.slc 3 [.agg [.val (.int .i64 x.kind),.val (.int .i64 x.from_),.val (.int .i64 x.to)]]) .dead .dead a a1 0 0 0 0) _ _ _ _=T
   cbv at hT
   subst hT
   simp only[Tree.ok,Q4,S0]
   subst hp hps
   repeat' first
    |exact c1
    |exact c2
    |exact c3
    |exact c4
    |exact c5
    |exact c6
    |(with_reducible refine And.intro (fun hx=>absurd hx (by simp[std])) ?_)
    |(with_reducible refine And.intro ?_ ?_)
    |(with_reducible intro _)
   all_goals first
    |exact⟨[some 0],.tup [.agg tattr0.cs,.val (.bool false)],_,rfl,rfl,Nat.le_refl _,rfl,by simp[Qh,TAttr.cs,tattr0,Qu],⟨.inl rfl,.inl rfl,.inl rfl,.inl rfl,.inl rfl,.inl rfl,.inl rfl,.inl rfl,.inl rfl,trivial⟩,.inl rfl,trivial⟩
    |(simp[std,Q2H,AV.cells,Qg];done)
 |true =>
  obtain⟨hlt,c1⟩:=Q2D l hl a h0 h1 3 hs
  rw[←hx,←ha1] at c1
  cases hn:QG l a1.toNat [2] with
  |false =>
   have hR:Q25 l a=none:=by simp[Q25,hs,←ha1,hn]
   have e1:QY l a=tattr0:=by rw[QY,hR]
   have e2:Q24 l a=false:=by rw[Q24,hR];rfl
   have e3:Q1z l a=a:=by rw[Q1z,hR]
   rw[e1,e2,e3]
   have c2:=Q2i l hl a1 (by omega) (by omega) [2] (by simp) hn
   clear hs hn hR
   refine fnN (cs:=csT (.slc 3 [.agg [.val (.int .i64 x.kind),.val (.int .i64 x.from_),.val (.int .i64 x.to)]]) (.val (.slice none 0 0)) .dead .dead a1 a1 0 0 0 0) func102 rfl (by kernel_rfl) ?_
   intro w0 g0
   generalize hp:std=p,hps:Qf l=ps
   generalize hT:Q8 p tys (csT (.slc 3 [.agg [.val (.int .i64 x.kind),.val (.int .i64 x.from_),.val (.int .i64 x.to)]]) (.val (.slice none 0 0)) .dead .dead a1 a1 0 0 0 0) _ _ _ _=T
   cbv at hT
   subst hT
   simp only[Tree.ok,Q4,S0]
   subst hp hps
   repeat' first
    |exact c1
    |exact c2
    |exact c3
    |exact c4
    |exact c5
    |exact c6
    |(with_reducible refine And.intro (fun hx=>absurd hx (by simp[std])) ?_)
    |(with_reducible refine And.intro ?_ ?_)
    |(with_reducible intro _)
   all_goals first
    |exact⟨[some 0],.tup [.agg tattr0.cs,.val (.bool false)],_,rfl,rfl,Nat.le_refl _,rfl,by simp[Qh,TAttr.cs,tattr0,Qu],⟨.inl rfl,.inl rfl,.inl rfl,.inl rfl,.inl rfl,.inl rfl,.inl rfl,.inl rfl,.inl rfl,trivial⟩,.inl rfl,trivial⟩
    |(simp[std,Q2H,AV.cells,Qg];done)
  |true =>
   obtain⟨hlt2,c2⟩:=Q2D l hl a1 (by omega) (by omega) 2 hn
   have ea:a1+1=a2:=by omega
   rw[←hy,ea] at c2
   obtain⟨h3,h4,c3⟩:=Q3K l hl a2 (by omega) (by omega) 3
   obtain⟨b,hb⟩:=exq (Q3e l a2 3)
   rw[←hb] at h3 h4 c3
   obtain⟨z,hz⟩:=exq (l[b.toNat]?.getD Qu)
   obtain⟨b1,hb1⟩:=exq (b+1)
   have hG:Q25 l a=if QG l b.toNat [4]=true then (if QG l (Q3e l b1 3).toNat [5]=true then some (Q7k y x (l[(Q3e l b1 3).toNat]?.getD Qu),Q3e l b1 3+1) else none) else none:=by
    simp only[Q25,hs,←ha1,hn,←ha2,←hb,←hb1,and_self,if_true,Q7k,hy,hx]
   cases he:QG l b.toNat [4] with
   |false =>
    have hR:Q25 l a=none:=by rw[hG,he];rfl
    have e1:QY l a=tattr0:=by rw[QY,hR]
    have e2:Q24 l a=false:=by rw[Q24,hR];rfl
    have e3:Q1z l a=a:=by rw[Q1z,hR]
    rw[e1,e2,e3]
    have c4:=Q2i l hl b (by omega) (by omega) [4] (by simp) he
    obtain⟨h5,h6,c5⟩:=Q3K l hl b (by omega) (by omega) 3
    obtain⟨c,hc⟩:=exq (Q3e l b 3)
    rw[←hc] at h5 h6 c5
    cases hv:QG l c.toNat [5] with
    |false =>
     have c6:=Q2i l hl c (by omega) (by omega) [5] (by simp) hv
     clear hs hn hR hG he hv
     refine fnN (cs:=csT (.slc 3 [.agg [.val (.int .i64 x.kind),.val (.int .i64 x.from_),.val (.int .i64 x.to)]]) (.slc 3 [.agg [.val (.int .i64 y.kind),.val (.int .i64 y.from_),.val (.int .i64 y.to)]]) (.val (.slice none 0 0)) (.val (.slice none 0 0)) a1 a2 b b c c) func102 rfl (by kernel_rfl) ?_
     intro w0 g0
     generalize hp:std=p,hps:Qf l=ps
     generalize hT:Q8 p tys (csT (.slc 3 [.agg [.val (.int .i64 x.kind),.val (.int .i64 x.from_),.val (.int .i64 x.to)]]) (.slc 3 [.agg [.val (.int .i64 y.kind),.val (.int .i64 y.from_),.val (.int .i64 y.to)]]) (.val (.slice none 0 0)) (.val (.slice none 0 0)) a1 a2 b b c c) _ _ _ _=T
     cbv at hT
     subst hT
     simp only[Tree.ok,Q4,S0]
     subst hp hps
     repeat' first
      |exact c1
      |exact c2
      |exact c3
      |exact c4
      |exact c5
      |exact c6
      |(with_reducible refine And.intro (fun hx=>absurd hx (by simp[std])) ?_)
      |(with_reducible refine And.intro ?_ ?_)
      |(with_reducible intro _)
     all_goals first
      |exact⟨[some 0],.tup [.agg tattr0.cs,.val (.bool false)],_,rfl,rfl,Nat.le_refl _,rfl,by simp[Qh,TAttr.cs,tattr0,Qu],⟨.inl rfl,.inl rfl,.inl rfl,.inl rfl,.inl rfl,.inl rfl,.inl rfl,.inl rfl,.inl rfl,trivial⟩,.inl rfl,trivial⟩
      |(simp[std,Q2H,AV.cells,Qg];done)
    |true =>
     have c6:=(Q2D l hl c (by omega) (by omega) 5 hv).2
     obtain⟨d,hd⟩:=exq (c+1)
     obtain⟨q,hq⟩:=exq (l[c.toNat]?.getD Qu)
     rw[←hd,←hq] at c6
     clear hs hn hR hG he hv
     refine fnN (cs:=csT (.slc 3 [.agg [.val (.int .i64 x.kind),.val (.int .i64 x.from_),.val (.int .i64 x.to)]]) (.slc 3 [.agg [.val (.int .i64 y.kind),.val (.int .i64 y.from_),.val (.int .i64 y.to)]]) (.val (.slice none 0 0)) (.slc 3 [.agg [.val (.int .i64 q.kind),.val (.int .i64 q.from_),.val (.int .i64 q.to)]]) a1 a2 b b c d) func102 rfl (by kernel_rfl) ?_
     intro w0 g0
     generalize hp:std=p,hps:Qf l=ps
     generalize hT:Q8 p tys (csT (.slc 3 [.agg [.val (.int .i64 x.kind),.val (.int .i64 x.from_),.val (.int .i64 x.to)]]) (.slc 3 [.agg [.val (.int .i64 y.kind),.val (.int .i64 y.from_),.val (.int .i64 y.to)]]) (.val (.slice none 0 0)) (.slc 3 [.agg [.val (.int .i64 q.kind),.val (.int .i64 q.from_),.val (.int .i64 q.to)]]) a1 a2 b b c d) _ _ _ _=T
     cbv at hT
     subst hT
     simp only[Tree.ok,Q4,S0]
     subst hp hps
     repeat' first
      |exact c1
      |exact c2
      |exact c3
      |exact c4
      |exact c5
      |exact c6
      |(with_reducible refine And.intro (fun hx=>absurd hx (by simp[std])) ?_)
      |(with_reducible refine And.intro ?_ ?_)
      |(with_reducible intro _)
     all_goals first
      |exact⟨[some 0],.tup [.agg tattr0.cs,.val (.bool false)],_,rfl,rfl,Nat.le_refl _,rfl,by simp[Qh,TAttr.cs,tattr0,Qu],⟨.inl rfl,.inl rfl,.inl rfl,.inl rfl,.inl rfl,.inl rfl,.inl rfl,.inl rfl,.inl rfl,trivial⟩,.inl rfl,trivial⟩
      |(simp[std,Q2H,AV.cells,Qg];done)
   |true =>
    obtain⟨hlt3,c4⟩:=Q2D l hl b (by omega) (by omega) 4 he
    rw[←hb1,←hz] at c4
    obtain⟨h5,h6,c5⟩:=Q3K l hl b1 (by omega) (by omega) 3
    obtain⟨c,hc⟩:=exq (Q3e l b1 3)
    rw[←hc] at h5 h6 c5 hG
    cases hv:QG l c.toNat [5] with
    |false =>
     have hR:Q25 l a=none:=by rw[hG,he,hv];rfl
     have e1:QY l a=tattr0:=by rw[QY,hR]
     have e2:Q24 l a=false:=by rw[Q24,hR];rfl
     have e3:Q1z l a=a:=by rw[Q1z,hR]
     rw[e1,e2,e3]
     have c6:=Q2i l hl c (by omega) (by omega) [5] (by simp) hv
     clear hs hn hR hG he hv
     refine fnN (cs:=csT (.slc 3 [.agg [.val (.int .i64 x.kind),.val (.int .i64 x.from_),.val (.int .i64 x.to)]]) (.slc 3 [.agg [.val (.int .i64 y.kind),.val (.int .i64 y.from_),.val (.int .i64 y.to)]]) (.slc 3 [.agg [.val (.int .i64 z.kind),.val (.int .i64 z.from_),.val (.int .i64 z.to)]]) (.val (.slice none 0 0)) a1 a2 b b1 c c) func102 rfl (by kernel_rfl) ?_
     intro w0 g0
     generalize hp:std=p,hps:Qf l=ps
     generalize hT:Q8 p tys (csT (.slc 3 [.agg [.val (.int .i64 x.kind),.val (.int .i64 x.from_),.val (.int .i64 x.to)]]) (.slc 3 [.agg [.val (.int .i64 y.kind),.val (.int .i64 y.from_),.val (.int .i64 y.to)]]) (.slc 3 [.agg [.val (.int .i64 z.kind),.val (.int .i64 z.from_),.val (.int .i64 z.to)]]) (.val (.slice none 0 0)) a1 a2 b b1 c c) _ _ _ _=T
     cbv at hT
     subst hT
     simp only[Tree.ok,Q4,S0]
     subst hp hps
     repeat' first
      |exact c1
      |exact c2
      |exact c3
      |exact c4
      |exact c5
      |exact c6
      |(with_reducible refine And.intro (fun hx=>absurd hx (by simp[std])) ?_)
      |(with_reducible refine And.intro ?_ ?_)
      |(with_reducible intro _)
     all_goals first
      |exact⟨[some 0],.tup [.agg tattr0.cs,.val (.bool false)],_,rfl,rfl,Nat.le_refl _,rfl,by simp[Qh,TAttr.cs,tattr0,Qu],⟨.inl rfl,.inl rfl,.inl rfl,.inl rfl,.inl rfl,.inl rfl,.inl rfl,.inl rfl,.inl rfl,trivial⟩,.inl rfl,trivial⟩
      |(simp[std,Q2H,AV.cells,Qg];done)
    |true =>
     have c6:=(Q2D l hl c (by omega) (by omega) 5 hv).2
     obtain⟨d,hd⟩:=exq (c+1)
     obtain⟨q,hq⟩:=exq (l[c.toNat]?.getD Qu)
     have hR:Q25 l a=some (Q7k y x q,d):=by rw[hG,he,hv,hq,hd];rfl
     have e1:QY l a=Q7k y x q:=by rw[QY,hR]
     have e2:Q24 l a=true:=by rw[Q24,hR];rfl
     have e3:Q1z l a=d:=by rw[Q1z,hR]
     rw[e1,e2,e3]
     rw[←hd,←hq] at c6
     clear hs hn hR hG he hv
     refine fnN (cs:=csT (.slc 3 [.agg [.val (.int .i64 x.kind),.val (.int .i64 x.from_),.val (.int .i64 x.to)]]) (.slc 3 [.agg [.val (.int .i64 y.kind),.val (.int .i64 y.from_),.val (.int .i64 y.to)]]) (.slc 3 [.agg [.val (.int .i64 z.kind),.val (.int .i64 z.from_),.val (.int .i64 z.to)]]) (.slc 3 [.agg [.val (.int .i64 q.kind),.val (.int .i64 q.from_),.val (.int .i64 q.to)]]) a1 a2 b b1 c d) func102 rfl (by kernel_rfl) ?_
     intro w0 g0
     generalize hp:std=p,hps:Qf l=ps
     generalize hT:Q8 p tys (csT (.slc 3 [.agg [.val (.int .i64 x.kind),.val (.int .i64 x.from_),.val (.int .i64 x.to)]]) (.slc 3 [.agg [.val (.int .i64 y.kind),.val (.int .i64 y.from_),.val (.int .i64 y.to)]]) (.slc 3 [.agg [.val (.int .i64 z.kind),.val (.int .i64 z.from_),.val (.int .i64 z.to)]]) (.slc 3 [.agg [.val (.int .i64 q.kind),.val (.int .i64 q.from_),.val (.int .i64 q.to)]]) a1 a2 b b1 c d) _ _ _ _=T
     cbv at hT
     subst hT
     simp only[Tree.ok,Q4,S0]
     subst hp hps
     repeat' first
      |exact c1
      |exact c2
      |exact c3
      |exact c4
      |exact c5
      |exact c6
      |(with_reducible refine And.intro (fun hx=>absurd hx (by simp[std])) ?_)
      |(with_reducible refine And.intro ?_ ?_)
      |(with_reducible intro _)
     all_goals first
      |exact⟨[some 0],.tup [.agg (Q7k y x q).cs,.val (.bool true)],_,rfl,rfl,Nat.le_refl _,rfl,by simp[Qh,std,AV.cells,Qg,TAttr.cs,Q7k],⟨.inl rfl,.inl rfl,.inl rfl,.inl rfl,.inl rfl,.inl rfl,.inl rfl,.inl rfl,.inl rfl,trivial⟩,.inl rfl,trivial⟩
      |(simp[std,Q2H,AV.cells,Qg];done)
end Go.Proofs.YtibemhahkicbpaaGreat
