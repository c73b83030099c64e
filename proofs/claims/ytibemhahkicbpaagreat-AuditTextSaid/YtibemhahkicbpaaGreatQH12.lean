/-
  Parts of the proof, joined: TgR. Conditions: as each theorem says.
-/
import Derived.Test.YtibemhahkicbpaaGreatQH09
set_option maxRecDepth 100000
set_option maxHeartbeats 8000000
namespace Go.Proofs.YtibemhahkicbpaaGreat
open Go.RowKit Go.Lib Tryz
structure TAttr where
 name:TPart
 value:TPart
 all:TPart
 deriving Inhabited
def TAttr.cs (x:TAttr):List AV:=[.val (.int .i64 x.name.kind),.val (.int .i64 x.name.from_),.val (.int .i64 x.name.to),.val (.int .i64 x.value.kind),.val (.int .i64 x.value.from_),.val (.int .i64 x.value.to),.val (.int .i64 x.all.kind),.val (.int .i64 x.all.from_),.val (.int .i64 x.all.to)]
def TAttr.av (x:TAttr):AV:=.agg x.cs
def tattr0:TAttr:=⟨Qp,Qp,Qp⟩
def QO (l:List TAttr):List AV:=l.map TAttr.av
def Q30 (l:List TPart)(a:Int)(k:Int):Int:=if Qz l a.toNat [k]=true then a+1 else a
def Q2f (l:List TPart)(a:Int):Option (TAttr×Int) :=
 if Qz l a.toNat [3]=true∧Qz l (a+1).toNat [2]=true then
  let b:=Q30 l (a+2) 3
  if Qz l b.toNat [4]=true then
   let c:=Q30 l (b+1) 3
   if Qz l c.toNat [5]=true then
    some (⟨l[(a+1).toNat]?.getD Qp,l[c.toNat]?.getD Qp,⟨7,(l[a.toNat]?.getD Qp).from_,(l[c.toNat]?.getD Qp).to⟩⟩,c+1)
   else none
  else none
 else none
theorem Q2w (l:List TPart)(hl:l.length≤1000000000)(a:Int)(h0:0≤a)(h1:a≤l.length)(k:Int)(h:Qz l a.toNat [k]=true) :
  a<l.length∧BCall prog 101 [.box 0 0,.slc 1 [.val (.int .i64 k)]] [.box [.slc 3 (Qc l),.val (.int .i64 a)]] (.slc 3 [.agg [.val (.int .i64 (l[a.toNat]?.getD Qp).kind),.val (.int .i64 (l[a.toNat]?.getD Qp).from_),.val (.int .i64 (l[a.toNat]?.getD Qp).to)]]) [.box [.slc 3 (Qc l),.val (.int .i64 (a+1))]]:=by
 have h2:=(Q2x (l:=l) (a:=a.toNat) (ks:=[k]) (by omega)).1 h
 simp only[List.length_singleton] at h2
 refine⟨by omega,Q57 l hl a h0 h1 [k] (by simp) _ _ (fun _=>⟨?_,rfl⟩) (fun h'=>by rw[h] at h';cases h')⟩
 have hlt:a.toNat<l.length:=by omega
 rw[List.drop_eq_getElem_cons hlt]
 have e:List.take 1 (l[a.toNat]::l.drop (a.toNat+1))=[l[a.toNat]]:=rfl
 rw[List.length_singleton,e,Q7n,List.getElem?_eq_getElem hlt];rfl
theorem Q29 (l:List TPart)(hl:l.length≤1000000000)(a:Int)(h0:0≤a)(h1:a≤l.length)(ks:List Int)(hk:ks.length≤10)(h:Qz l a.toNat ks=false) :
  BCall prog 101 [.box 0 0,.slc 1 (Q7 ks)] [.box [.slc 3 (Qc l),.val (.int .i64 a)]] (.val (.slice none 0 0)) [.box [.slc 3 (Qc l),.val (.int .i64 a)]] :=
 Q57 l hl a h0 h1 ks hk _ _ (fun h'=>by rw[h] at h';cases h') (fun _=>⟨rfl,rfl⟩)
theorem Q6q (l:List TPart)(a:Int)(k:Int)(h0:0≤a)(h1:a≤l.length):(Q30 l a k=a∨Q30 l a k=a+1)∧Q30 l a k≤l.length∧True:=by
 unfold Q30
 split
 ·rename_i h
  have:=(Q2x (l:=l) (a:=a.toNat) (ks:=[k]) (by omega)).1 h
  simp only[List.length_singleton] at this
  exact⟨.inr rfl,by omega,trivial⟩
 ·exact⟨.inl rfl,h1,trivial⟩
theorem Q3u (l:List TPart)(hl:l.length≤1000000000)(a:Int)(h0:0≤a)(h1:a≤l.length)(k:Int) :
  (Q30 l a k=a∨Q30 l a k=a+1)∧Q30 l a k≤l.length∧BCall prog 101 [.box 0 0,.slc 1 [.val (.int .i64 k)]] [.box [.slc 3 (Qc l),.val (.int .i64 a)]] .dead [.box [.slc 3 (Qc l),.val (.int .i64 (Q30 l a k))]]:=by
 unfold Q30
 cases h:Qz l a.toNat [k] with
 |true =>
  obtain⟨h2,h3⟩:=Q2w l hl a h0 h1 k h
  exact⟨.inr rfl,by simp only[if_true];omega,h3.forget⟩
 |false=>exact⟨.inl rfl,by simp only[Bool.false_eq_true,if_false];omega,(Q29 l hl a h0 h1 [k] (by simp) h).forget⟩
def csT (r15 r18 r30 r36:AV)(a15 a18 a27 a30 a33 a36:Int):Nat→List AV→List Ob→Option (AV×List Ob):=fun f _ ob=>match ob with
 | [.box [ps,_]]=>match f with
  |1000015=>some (r15,[.box [ps,.val (.int .i64 a15)]])
  |1000018=>some (r18,[.box [ps,.val (.int .i64 a18)]])
  |1000027=>some (.dead,[.box [ps,.val (.int .i64 a27)]])
  |1000030=>some (r30,[.box [ps,.val (.int .i64 a30)]])
  |1000033=>some (.dead,[.box [ps,.val (.int .i64 a33)]])
  |1000036=>some (r36,[.box [ps,.val (.int .i64 a36)]])
  |_=>none
 |_=>none
def QN (l:List TPart)(a:Int):TAttr:=match Q2f l a with|some x=>x.1|none=>tattr0
def Q1p (l:List TPart)(a:Int):Int:=match Q2f l a with|some x=>x.2|none=>a
def Q1L (l:List TPart)(a:Int):Bool:=(Q2f l a).isSome
def Q6H (x y z:TPart):TAttr:=⟨x,z,⟨7,y.from_,z.to⟩⟩
theorem QeT (l:List TPart)(hl:l.length≤1000000000)(a:Int)(h0:0≤a)(h1:a≤l.length) :
  BCall prog 102 [.box 0 0] [.box [.slc 3 (Qc l),.val (.int .i64 a)]] (.tup [.agg (QN l a).cs,.val (.bool (Q1L l a))]) [.box [.slc 3 (Qc l),.val (.int .i64 (Q1p l a))]]:=by
 have c3:True:=trivial
 have c4:True:=trivial
 have c5:True:=trivial
 have c6:True:=trivial
 obtain⟨a1,ha1⟩:=exq (a+1)
 obtain⟨a2,ha2⟩:=exq (a+2)
 obtain⟨x,hx⟩:=exq (l[a.toNat]?.getD Qp)
 obtain⟨y,hy⟩:=exq (l[a1.toNat]?.getD Qp)
 cases hs:Qz l a.toNat [3] with
 |false =>
  have hR:Q2f l a=none:=by simp[Q2f,hs]
  have e1:QN l a=tattr0:=by rw[QN,hR]
  have e2:Q1L l a=false:=by rw[Q1L,hR];rfl
  have e3:Q1p l a=a:=by rw[Q1p,hR]
  rw[e1,e2,e3]
  have c1:=Q29 l hl a h0 h1 [3] (by simp) hs
  cases hn:Qz l a.toNat [2] with
  |false =>
   have c2:=Q29 l hl a h0 h1 [2] (by simp) hn
   clear hs hn hR
   refine fnN (cs:=csT (.val (.slice none 0 0)) (.val (.slice none 0 0)) .dead .dead a a 0 0 0 0) func102 rfl (by kernel_rfl) ?_
   intro w0 g0
   generalize hp:std=p,hps:Qc l=ps
   generalize hT:Q8 p tys (csT (.val (.slice none 0 0)) (.val (.slice none 0 0)) .dead .dead a a 0 0 0 0) _ _ _ _=T
   cbv at hT
   subst hT
   simp only[Tree.ok,Q4,S0]
   subst hp hps
   repeat' first
    |exact c1
    |exact c2
    |exact c3
    |exact c4
    |exact c5
    |exact c6
    |(with_reducible refine And.intro (fun hx=>absurd hx (by simp[std])) ?_)
    |(with_reducible refine And.intro ?_ ?_)
    |(with_reducible intro _)
   all_goals first
    |exact⟨[some 0],.tup [.agg tattr0.cs,.val (.bool false)],_,rfl,rfl,Nat.le_refl _,rfl,by simp[Qd,TAttr.cs,tattr0,Qp],⟨.inl rfl,.inl rfl,.inl rfl,.inl rfl,.inl rfl,.inl rfl,.inl rfl,.inl rfl,.inl rfl,trivial⟩,.inl rfl,trivial⟩
    |(simp[std,Q2y,AV.cells,intOf];done)
  |true =>
   have c2:=(Q2w l hl a h0 h1 2 hn).2
   rw[←hx,←ha1] at c2
   clear hs hn hR
   refine fnN (cs:=csT (.val (.slice none 0 0)) (.slc 3 [.agg [.val (.int .i64 x.kind),.val (.int .i64 x.from_),.val (.int .i64 x.to)]]) .dead .dead a a1 0 0 0 0) func102 rfl (by kernel_rfl) ?_
   intro w0 g0
   generalize hp:std=p,hps:Qc l=ps
   generalize hT:Q8 p tys (csT (.val (.slice none 0 0)) (.slc 3 [.agg [.val (.int .i64 x.kind),.val (.int .i64 x.from_),.val (.int .i64 x.to)]]) .dead .dead a a1 0 0 0 0) _ _ _ _=T
   cbv at hT
   subst hT
   simp only[Tree.ok,Q4,S0]
   subst hp hps
   repeat' first
    |exact c1
    |exact c2
    |exact c3
    |exact c4
    |exact c5
    |exact c6
    |(with_reducible refine And.intro (fun hx=>absurd hx (by simp[std])) ?_)
    |(with_reducible refine And.intro ?_ ?_)
    |(with_reducible intro _)
   all_goals first
    |exact⟨[some 0],.tup [.agg tattr0.cs,.val (.bool false)],_,rfl,rfl,Nat.le_refl _,rfl,by simp[Qd,TAttr.cs,tattr0,Qp],⟨.inl rfl,.inl rfl,.inl rfl,.inl rfl,.inl rfl,.inl rfl,.inl rfl,.inl rfl,.inl rfl,trivial⟩,.inl rfl,trivial⟩
    |(simp[std,Q2y,AV.cells,intOf];done)
 |true =>
  obtain⟨hlt,c1⟩:=Q2w l hl a h0 h1 3 hs
  rw[←hx,←ha1] at c1
  cases hn:Qz l a1.toNat [2] with
  |false =>
   have hR:Q2f l a=none:=by simp[Q2f,hs,←ha1,hn]
   have e1:QN l a=tattr0:=by rw[QN,hR]
   have e2:Q1L l a=false:=by rw[Q1L,hR];rfl
   have e3:Q1p l a=a:=by rw[Q1p,hR]
   rw[e1,e2,e3]
   have c2:=Q29 l hl a1 (by omega) (by omega) [2] (by simp) hn
   clear hs hn hR
   refine fnN (cs:=csT (.slc 3 [.agg [.val (.int .i64 x.kind),.val (.int .i64 x.from_),.val (.int .i64 x.to)]]) (.val (.slice none 0 0)) .dead .dead a1 a1 0 0 0 0) func102 rfl (by kernel_rfl) ?_
   intro w0 g0
   generalize hp:std=p,hps:Qc l=ps
   generalize hT:Q8 p tys (csT (.slc 3 [.agg [.val (.int .i64 x.kind),.val (.int .i64 x.from_),.val (.int .i64 x.to)]]) (.val (.slice none 0 0)) .dead .dead a1 a1 0 0 0 0) _ _ _ _=T
   cbv at hT
   subst hT
   simp only[Tree.ok,Q4,S0]
   subst hp hps
   repeat' first
    |exact c1
    |exact c2
    |exact c3
    |exact c4
    |exact c5
    |exact c6
    |(with_reducible refine And.intro (fun hx=>absurd hx (by simp[std])) ?_)
    |(with_reducible refine And.intro ?_ ?_)
    |(with_reducible intro _)
   all_goals first
    |exact⟨[some 0],.tup [.agg tattr0.cs,.val (.bool false)],_,rfl,rfl,Nat.le_refl _,rfl,by simp[Qd,TAttr.cs,tattr0,Qp],⟨.inl rfl,.inl rfl,.inl rfl,.inl rfl,.inl rfl,.inl rfl,.inl rfl,.inl rfl,.inl rfl,trivial⟩,.inl rfl,trivial⟩
    |(simp[std,Q2y,AV.cells,intOf];done)
  |true =>
   obtain⟨hlt2,c2⟩:=Q2w l hl a1 (by omega) (by omega) 2 hn
   have ea:a1+1=a2:=by omega
   rw[←hy,ea] at c2
   obtain⟨h3,h4,c3⟩:=Q3u l hl a2 (by omega) (by omega) 3
   obtain⟨b,hb⟩:=exq (Q30 l a2 3)
   rw[←hb] at h3 h4 c3
   obtain⟨z,hz⟩:=exq (l[b.toNat]?.getD Qp)
   obtain⟨b1,hb1⟩:=exq (b+1)
   have hG:Q2f l a=if Qz l b.toNat [4]=true then (if Qz l (Q30 l b1 3).toNat [5]=true then some (Q6H y x (l[(Q30 l b1 3).toNat]?.getD Qp),Q30 l b1 3+1) else none) else none:=by
    simp only[Q2f,hs,←ha1,hn,←ha2,←hb,←hb1,and_self,if_true,Q6H,hy,hx]
   cases he:Qz l b.toNat [4] with
   |false =>
    have hR:Q2f l a=none:=by rw[hG,he];rfl
    have e1:QN l a=tattr0:=by rw[QN,hR]
    have e2:Q1L l a=false:=by rw[Q1L,hR];rfl
    have e3:Q1p l a=a:=by rw[Q1p,hR]
    rw[e1,e2,e3]
    have c4:=Q29 l hl b (by omega) (by omega) [4] (by simp) he
    obtain⟨h5,h6,c5⟩:=Q3u l hl b (by omega) (by omega) 3
    obtain⟨c,hc⟩:=exq (Q30 l b 3)
    rw[←hc] at h5 h6 c5
    cases hv:Qz l c.toNat [5] with
    |false =>
     have c6:=Q29 l hl c (by omega) (by omega) [5] (by simp) hv
     clear hs hn hR hG he hv
     refine fnN (cs:=csT (.slc 3 [.agg [.val (.int .i64 x.kind),.val (.int .i64 x.from_),.val (.int .i64 x.to)]]) (.slc 3 [.agg [.val (.int .i64 y.kind),.val (.int .i64 y.from_),.val (.int .i64 y.to)]]) (.val (.slice none 0 0)) (.val (.slice none 0 0)) a1 a2 b b c c) func102 rfl (by kernel_rfl) ?_
     intro w0 g0
     generalize hp:std=p,hps:Qc l=ps
     generalize hT:Q8 p tys (csT (.slc 3 [.agg [.val (.int .i64 x.kind),.val (.int .i64 x.from_),.val (.int .i64 x.to)]]) (.slc 3 [.agg [.val (.int .i64 y.kind),.val (.int .i64 y.from_),.val (.int .i64 y.to)]]) (.val (.slice none 0 0)) (.val (.slice none 0 0)) a1 a2 b b c c) _ _ _ _=T
     cbv at hT
     subst hT
     simp only[Tree.ok,Q4,S0]
     subst hp hps
     repeat' first
      |exact c1
      |exact c2
      |exact c3
      |exact c4
      |exact c5
      |exact c6
      |(with_reducible refine And.intro (fun hx=>absurd hx (by simp[std])) ?_)
      |(with_reducible refine And.intro ?_ ?_)
      |(with_reducible intro _)
     all_goals first
      |exact⟨[some 0],.tup [.agg tattr0.cs,.val (.bool false)],_,rfl,rfl,Nat.le_refl _,rfl,by simp[Qd,TAttr.cs,tattr0,Qp],⟨.inl rfl,.inl rfl,.inl rfl,.inl rfl,.inl rfl,.inl rfl,.inl rfl,.inl rfl,.inl rfl,trivial⟩,.inl rfl,trivial⟩
      |(simp[std,Q2y,AV.cells,intOf];done)
    |true =>
     have c6:=(Q2w l hl c (by omega) (by omega) 5 hv).2
     obtain⟨d,hd⟩:=exq (c+1)
     obtain⟨q,hq⟩:=exq (l[c.toNat]?.getD Qp)
     rw[←hd,←hq] at c6
     clear hs hn hR hG he hv
     refine fnN (cs:=csT (.slc 3 [.agg [.val (.int .i64 x.kind),.val (.int .i64 x.from_),.val (.int .i64 x.to)]]) (.slc 3 [.agg [.val (.int .i64 y.kind),.val (.int .i64 y.from_),.val (.int .i64 y.to)]]) (.val (.slice none 0 0)) (.slc 3 [.agg [.val (.int .i64 q.kind),.val (.int .i64 q.from_),.val (.int .i64 q.to)]]) a1 a2 b b c d) func102 rfl (by kernel_rfl) ?_
     intro w0 g0
     generalize hp:std=p,hps:Qc l=ps
     generalize hT:Q8 p tys (csT (.slc 3 [.agg [.val (.int .i64 x.kind),.val (.int .i64 x.from_),.val (.int .i64 x.to)]]) (.slc 3 [.agg [.val (.int .i64 y.kind),.val (.int .i64 y.from_),.val (.int .i64 y.to)]]) (.val (.slice none 0 0)) (.slc 3 [.agg [.val (.int .i64 q.kind),.val (.int .i64 q.from_),.val (.int .i64 q.to)]]) a1 a2 b b c d) _ _ _ _=T
     cbv at hT
     subst hT
     simp only[Tree.ok,Q4,S0]
     subst hp hps
     repeat' first
      |exact c1
      |exact c2
      |exact c3
      |exact c4
      |exact c5
      |exact c6
      |(with_reducible refine And.intro (fun hx=>absurd hx (by simp[std])) ?_)
      |(with_reducible refine And.intro ?_ ?_)
      |(with_reducible intro _)
     all_goals first
      |exact⟨[some 0],.tup [.agg tattr0.cs,.val (.bool false)],_,rfl,rfl,Nat.le_refl _,rfl,by simp[Qd,TAttr.cs,tattr0,Qp],⟨.inl rfl,.inl rfl,.inl rfl,.inl rfl,.inl rfl,.inl rfl,.inl rfl,.inl rfl,.inl rfl,trivial⟩,.inl rfl,trivial⟩
      |(simp[std,Q2y,AV.cells,intOf];done)
   |true =>
    obtain⟨hlt3,c4⟩:=Q2w l hl b (by omega) (by omega) 4 he
    rw[←hb1,←hz] at c4
    obtain⟨h5,h6,c5⟩:=Q3u l hl b1 (by omega) (by omega) 3
    obtain⟨c,hc⟩:=exq (Q30 l b1 3)
    rw[←hc] at h5 h6 c5 hG
    cases hv:Qz l c.toNat [5] with
    |false =>
     have hR:Q2f l a=none:=by rw[hG,he,hv];rfl
     have e1:QN l a=tattr0:=by rw[QN,hR]
     have e2:Q1L l a=false:=by rw[Q1L,hR];rfl
     have e3:Q1p l a=a:=by rw[Q1p,hR]
     rw[e1,e2,e3]
     have c6:=Q29 l hl c (by omega) (by omega) [5] (by simp) hv
     clear hs hn hR hG he hv
     refine fnN (cs:=csT (.slc 3 [.agg [.val (.int .i64 x.kind),.val (.int .i64 x.from_),.val (.int .i64 x.to)]]) (.slc 3 [.agg [.val (.int .i64 y.kind),.val (.int .i64 y.from_),.val (.int .i64 y.to)]]) (.slc 3 [.agg [.val (.int .i64 z.kind),.val (.int .i64 z.from_),.val (.int .i64 z.to)]]) (.val (.slice none 0 0)) a1 a2 b b1 c c) func102 rfl (by kernel_rfl) ?_
     intro w0 g0
     generalize hp:std=p,hps:Qc l=ps
     generalize hT:Q8 p tys (csT (.slc 3 [.agg [.val (.int .i64 x.kind),.val (.int .i64 x.from_),.val (.int .i64 x.to)]]) (.slc 3 [.agg [.val (.int .i64 y.kind),.val (.int .i64 y.from_),.val (.int .i64 y.to)]]) (.slc 3 [.agg [.val (.int .i64 z.kind),.val (.int .i64 z.from_),.val (.int .i64 z.to)]]) (.val (.slice none 0 0)) a1 a2 b b1 c c) _ _ _ _=T
     cbv at hT
     subst hT
     simp only[Tree.ok,Q4,S0]
     subst hp hps
     repeat' first
      |exact c1
      |exact c2
      |exact c3
      |exact c4
      |exact c5
      |exact c6
      |(with_reducible refine And.intro (fun hx=>absurd hx (by simp[std])) ?_)
      |(with_reducible refine And.intro ?_ ?_)
      |(with_reducible intro _)
     all_goals first
      |exact⟨[some 0],.tup [.agg tattr0.cs,.val (.bool false)],_,rfl,rfl,Nat.le_refl _,rfl,by simp[Qd,TAttr.cs,tattr0,Qp],⟨.inl rfl,.inl rfl,.inl rfl,.inl rfl,.inl rfl,.inl rfl,.inl rfl,.inl rfl,.inl rfl,trivial⟩,.inl rfl,trivial⟩
      |(simp[std,Q2y,AV.cells,intOf];done)
    |true =>
     have c6:=(Q2w l hl c (by omega) (by omega) 5 hv).2
     obtain⟨d,hd⟩:=exq (c+1)
     obtain⟨q,hq⟩:=exq (l[c.toNat]?.getD Qp)
     have hR:Q2f l a=some (Q6H y x q,d):=by rw[hG,he,hv,hq,hd];rfl
     have e1:QN l a=Q6H y x q:=by rw[QN,hR]
     have e2:Q1L l a=true:=by rw[Q1L,hR];rfl
     have e3:Q1p l a=d:=by rw[Q1p,hR]
     rw[e1,e2,e3]
     rw[←hd,←hq] at c6
     clear hs hn hR hG he hv
     refine fnN (cs:=csT (.slc 3 [.agg [.val (.int .i64 x.kind),.val (.int .i64 x.from_),.val (.int .i64 x.to)]]) (.slc 3 [.agg [.val (.int .i64 y.kind),.val (.int .i64 y.from_),.val (.int .i64 y.to)]]) (.slc 3 [.agg [.val (.int .i64 z.kind),.val (.int .i64 z.from_),.val (.int .i64 z.to)]]) (.slc 3 [.agg [.val (.int .i64 q.kind),.val (.int .i64 q.from_),.val (.int .i64 q.to)]]) a1 a2 b b1 c d) func102 rfl (by kernel_rfl) ?_
     intro w0 g0
     generalize hp:std=p,hps:Qc l=ps
     generalize hT:Q8 p tys (csT (.slc 3 [.agg [.val (.int .i64 x.kind),.val (.int .i64 x.from_),.val (.int .i64 x.to)]]) (.slc 3 [.agg [.val (.int .i64 y.kind),.val (.int .i64 y.from_),.val (.int .i64 y.to)]]) (.slc 3 [.agg [.val (.int .i64 z.kind),.val (.int .i64 z.from_),.val (.int .i64 z.to)]]) (.slc 3 [.agg [.val (.int .i64 q.kind),.val (.int .i64 q.from_),.val (.int .i64 q.to)]]) a1 a2 b b1 c d) _ _ _ _=T
     cbv at hT
     subst hT
     simp only[Tree.ok,Q4,S0]
     subst hp hps
     repeat' first
      |exact c1
      |exact c2
      |exact c3
      |exact c4
      |exact c5
      |exact c6
      |(with_reducible refine And.intro (fun hx=>absurd hx (by simp[std])) ?_)
      |(with_reducible refine And.intro ?_ ?_)
      |(with_reducible intro _)
     all_goals first
      |exact⟨[some 0],.tup [.agg (Q6H y x q).cs,.val (.bool true)],_,rfl,rfl,Nat.le_refl _,rfl,by simp[Qd,std,AV.cells,intOf,TAttr.cs,Q6H],⟨.inl rfl,.inl rfl,.inl rfl,.inl rfl,.inl rfl,.inl rfl,.inl rfl,.inl rfl,.inl rfl,trivial⟩,.inl rfl,trivial⟩
      |(simp[std,Q2y,AV.cells,intOf];done)
end Go.Proofs.YtibemhahkicbpaaGreat
