/-
  Parts of the proof, joined: MkU MkV La Ls MkS Rw Lt ClA ClB ClP. Conditions: as each theorem says.
-/
import Derived.Test.YtibemhahkicbpaaGreatQH19
import Derived.Test.YtibemhahkicbpaaGreatQH18
import Derived.Test.YtibemhahkicbpaaGreatQH09
set_option maxRecDepth 100000
set_option maxHeartbeats 8000000
namespace Go.Proofs.YtibemhahkicbpaaGreat
open Go.RowKit Go.Lib Tryz
def Q7E (t:Txt)(b:List UInt8)(k f u:Int)(w:Bool)(N D S:List AV):List AV:=Q0 (Q1A t b k f u w (mkB N D S)).n
def Q7D (t:Txt)(b:List UInt8)(k f u:Int)(w:Bool)(N D S:List AV):List AV:=Qx (Q1A t b k f u w (mkB N D S)).d
def Q7A (t:Txt)(b:List UInt8)(k f u:Int)(w:Bool)(N D S:List AV):List AV:=Qb (Q1A t b k f u w (mkB N D S)).s
theorem Qhv (t:Txt)(b:List UInt8)(k f u:Int)(w:Bool)(m:Mk):Q7E t b k f u w (Q0 m.n) (Qx m.d) (Qb m.s)=Q0 (Q1A t b k f u w m).n:=by rw[Q7E,Q1u]
theorem Qhp (t:Txt)(b:List UInt8)(k f u:Int)(w:Bool)(m:Mk):Q7D t b k f u w (Q0 m.n) (Qx m.d) (Qb m.s)=Qx (Q1A t b k f u w m).d:=by rw[Q7D,Q1u]
theorem QgI (t:Txt)(b:List UInt8)(k f u:Int)(w:Bool)(m:Mk):Q7A t b k f u w (Q0 m.n) (Qx m.d) (Qb m.s)=Qb (Q1A t b k f u w m).s:=by rw[Q7A,Q1u]
def Q9y (p:Pr)(TK:List AV)(tn td ts:Int→Int→Int→Bool→List AV→List AV→List AV→List AV)(mn md ms:Int→List AV→List AV→List AV→List AV)(br:Int→List AV→List AV→List AV):Nat→List AV→List Ob→Option (AV×List Ob):=fun f args ob=>match f,args with
 |87,[.slc 1 _]=>some (.slc 4 TK,[])
 |88,[.box 0 0,.agg [.val (.int .i64 kind),.val (.int .i64 f),.val (.int .i64 u),.val (.bool wh)]]=>Q2J ob fun b k m r o rt N D S=>some (.tup [],obM 1 b k m r o rt (tn kind f u wh N D S) (td kind f u wh N D S) (ts kind f u wh N D S))
 |89,[.box 0 0,.val (.int .i64 a)]=>Q2J ob fun b k m r o rt N D S=>some (.tup [],obM 1 b k m r o rt (mn a N D S) (md a N D S) (ms a N D S))
 |90,[.box 0 0,.val (.int .i64 k),.slc 1 ks]=>match ob with
  | [.box [.row 1 0],.row 182 6 false 0 N]=>some (.tup [.val (.int .i64 (p.len N)),.val (.int .i64 0)],[.box [.row 1 1],.row 182 6 false 1 (br k ks N)])
  |_=>none
 |_,_=>none
def alO:OT:=.then [0,1,2,4,5,6,7,8,9,10,11,12,13,14,15,16,17] (.fork (.of [3,18,19,20,21,22,23,24]) (.of [18,19,20,21,3,22,23,24]))
theorem Qd6 (l:List Int):∀ n k:Nat,l.length-k≤n→(Q2q l k).length≤n
 |0,k,h=>by rw[Q1o (by omega)];exact Nat.le_refl _
 |n+1,k,h=>by
  by_cases hk:k<l.length
  ·have:=Q2D l k hk
   rw[Q1X hk,List.length_cons]
   have:=Qd6 l n (QA l k).2.1 (by omega)
   omega
  ·rw[Q1o hk];exact Nat.zero_le _
theorem Qi4 (t:Txt)(b:List UInt8)(hs:Sml t b)(rt:Int)(m:Mk)(B D:Nat)(iv:MkI m (Q4B t b 0) B D)(hB:B+3 * t.r.length≤600000)(hD:D+3 * t.r.length≤600000) :
  BCall prog 44 [.box 0 0] (obT 0 t b rt m) (.tup []) (obT 1 t b (Q6Y t b m).n.length (QE (Q6Y t b m))):=by
 have cT:=Q7T t.r hs.hr
 obtain⟨toks,htk⟩:=exq (Q3M t.r)
 rw[←htk] at cT
 have hnl:toks.length≤1000000:=by
  have:=Qd6 t.r t.r.length 0 (by omega)
  rw[htk];exact Nat.le_trans this hs.hr
 obtain⟨n,hn⟩:=QS toks
 obtain⟨M0,hM0⟩:=exq (toks.foldl (Q5R t b) m)
 obtain⟨M1,hM1⟩:=exq (Q6Y t b m)
 have hM01:M1=missGo t t.r.length 0 M0.s.length M0:=by rw[hM1,hM0,htk];rfl
 rw[←hM1]
 obtain⟨E,hE⟩:=exq (QE M1)
 unfold obT obM
 refine fnO false (cs:=Q9y std (QL toks) (Q7E t b) (Q7D t b) (Q7A t b) (Q3P t) (Q3Z t) (Q3U t) brA) (ord:=fun id=>match id with|7=> alO|_=>.nil) func44 rfl (by kernel_rfl) ?_
 intro w0 g0
 generalize hp:std=p,hTK:QL toks=TK,htn:Q7E t b=tn,htd:Q7D t b=td,hts:Q7A t b=ts,hmn:Q3P t=mn,hmd:Q3Z t=md,hms:Q3U t=ms,hbr:brA=br,hN:Q0 m.n=N,hD':Qx m.d=D',hS:Qb m.s=S,hB':Q3 b=B',hR:Q5 t.r=R,hO:Q7 t.off=O,hK:t.kind=K,hM:t.bom=M
 generalize hT:Q8 p tys (Q9y p TK tn td ts mn md ms br) _ _ _ _=T
 cbv at hT
 subst hT
 simp only[Tree.ok,Q4,S0]
 subst hp hTK htn htd hts hmn hmd hms hbr hN hD' hS hB' hR hO hK hM
 have tlen:=Q7U toks
 have hnm:std.len (QL toks)=n:=by show ((QL toks).length:Int)=n;rw[tlen,hn.eq]
 refine⟨cT,?_⟩
 refine Q1S (cs:=Q9y std (QL toks) (Q7E t b) (Q7D t b) (Q7A t b) (Q3P t) (Q3Z t) (Q3U t) brA) (by kernel_rfl) (X:=Int×Mk×Nat) (fun x=>⟨[(0,.box 0 0),(12,.slc 4 (QL toks)),(13,.val (.int .i64 n)),(14,.val (.int .i64 x.1))],[.box [.slc 1 (Q3 b),.box 1 0,.row 5 1],.box [.val (.int .i64 t.kind),.val (.int .i64 t.bom),.slc 1 (Q5 t.r),.slc 1 (Q7 t.off),.box 2 0,.val (.int .i64 rt),.row 4 1],.box [.row 3 1],.row 182 6 false 1 (Q0 x.2.1.n),.row 146 3 false 1 (Qx x.2.1.d),.row 99 2 false 1 (Qb x.2.1.s)]⟩) (fun x=>0≤x.1∧x.1≤n∧x.2.2≤t.r.length∧Q2q t.r x.2.2=toks.drop x.1.toNat∧MkI x.2.1 (Q4B t b x.2.2) (B+3 * x.2.2) (D+3 * x.2.2)∧(toks.drop x.1.toNat).foldl (Q5R t b) x.2.1=M0) (fun x=>(n-x.1).toNat) (0,m,0) ?_ ?_ ?_
 ·have:=hn.eq
  exact⟨Int.le_refl _,by simp only;omega,Nat.zero_le _,by rw[htk];rfl,iv,hM0.symm⟩
 ·refine⟨[some 0,some 1,some 2,some 3,some 4,some 5],_,rfl,?_⟩
  repeat first
   |exact trivial
   |refine⟨rfl,?_⟩
   |refine⟨hnm,?_⟩
   |refine⟨gI (hnm),?_⟩
   |refine⟨gA (hnm),?_⟩
   |refine⟨gB (hnm),?_⟩
   |refine⟨gR (hnm),?_⟩
   |refine⟨gT (hnm),?_⟩
 ·rintro⟨i,x,k⟩ ⟨hi0,hi1,hk,hd,hv,hf⟩
  simp only at hi0 hi1 hk hd hv hf
  have okx:=hv.i.ok (by omega) (by omega)
  rcases Int.lt_or_eq_of_le hi1 with hlt|heq
  ·have en:=hn.eq
   have hil:i.toNat<toks.length:=by omega
   have hkl:k<t.r.length:=by
    by_cases h:k<t.r.length
    ·exact h
    ·rw[Q1o h] at hd
     have:=congrArg List.length hd
     rw[List.length_drop] at this
     simp at this
     omega
   obtain⟨t1,t2,t3,t4⟩:=Qa1 t.r hkl
   have hdr:toks.drop i.toNat=QI t.r k::Q2q t.r (QA t.r k).2.1:=by rw[←hd,Q1X hkl]
   have hxe:toks[i.toNat]?=some (QI t.r k):=by rw[←List.head?_drop,hdr];rfl
   have hdn:Q2q t.r (QA t.r k).2.1=toks.drop (i+1).toNat:=by
    rw[show (i+1).toNat=i.toNat+1 by omega,←List.tail_drop,hdr];rfl
   have hat:(QL toks).getD i.toNat .dead=(QI t.r k).av:=by
    rw[List.getD_eq_getElem?_getD,QL,List.getElem?_map,hxe];rfl
   have hin:InT t (QI t.r k).from_ (QI t.r k).to:=⟨by omega,by omega,by omega⟩
   have hXl:(Q4B t b k).length≤1000000:=by
    have:=hs.hb
    rw[Q4B,List.length_take];omega
   have c:=Qgs t b hs rt x (Q4B t b k) (B+3 * k) (D+3 * k) hv.i (by omega) (by omega) hXl (QI t.r k).kind (QI t.r k).from_ (QI t.r k).to (QI t.r k).whole hin
   have hv2:MkI (Q5R t b x (QI t.r k)) (Q4B t b (QA t.r k).2.1) (B+3 * (QA t.r k).2.1) (D+3 * (QA t.r k).2.1):=by
    have:=hv.token t b hs.hr (QI t.r k).kind (QI t.r k).from_ (QI t.r k).to (QI t.r k).whole
    rw[t1,t2,Q5x hs.ok (by omega) (by omega) (by omega)] at this
    have e:Q5R t b x (QI t.r k)=Q1A t b (QI t.r k).kind k ((QA t.r k).2.1:Nat) (QI t.r k).whole x:=rfl
    rw[e]
    exact⟨this.i.mono (by omega) (by omega),this.c⟩
   have hf2:(toks.drop (i+1).toNat).foldl (Q5R t b) (Q5R t b x (QI t.r k))=M0:=by
    rw[hdr,List.foldl_cons] at hf
    rw[←hdn];exact hf
   obtain⟨y,hy⟩:=exq (QI t.r k)
   obtain⟨k2,hk2⟩:=exq ((QA t.r k).2.1)
   rw[←hy] at hat hin c hv2 hf2
   rw[←hk2] at hv2 hdn t4
   clear en t1 t2 t3 hdr hxe hd hf hy hk2 hkl
   generalize hp:std=p,hTK:QL toks=TK,htn:Q7E t b=tn,htd:Q7D t b=td,hts:Q7A t b=ts,hmn:Q3P t=mn,hmd:Q3Z t=md,hms:Q3U t=ms,hbr:brA=br,hN:Q0 x.n=N,hD':Qx x.d=D',hS:Qb x.s=S,hB':Q3 b=B',hR:Q5 t.r=R,hO:Q7 t.off=O,hK:t.kind=K,hM:t.bom=M
   generalize hT:Q8 p tys (Q9y p TK tn td ts mn md ms br) _ _ _ _=T
   cbv at hT
   subst hT
   simp only[Tree.ok,Q4,S0]
   subst hp hTK htn htd hts hmn hmd hms hbr hN hD' hS hB' hR hO hK hM
   unfold obT obM at c
   simp only[std,hat,Tok.av,AV.cells,List.getD_cons_zero,List.getD_cons_succ,intOf,Q4u,Q2y,Qhv,Qhp,QgI,decide_eq_true_eq,decide_eq_false_iff_not]
   refine⟨fun _=>⟨?_,⟨trivial,trivial,trivial,trivial,trivial⟩,c,?_,(i+1,Q5R t b x y,k2),⟨?_,?_,t4,hdn,hv2,hf2⟩,?_,[some 0,some 1,some 2,some 3,some 4,some 5],_,rfl,?_⟩,fun h=>?_⟩
   ·have:=hn.eq
    rw[tlen];omega
   ·have:=hn.eq
    have:=hs.hr
    show (-9223372036854775808:Int)≤i+1∧i+1≤(9223372036854775807:Int)
    omega
   ·show 0≤i+1
    omega
   ·show i+1≤n
    omega
   ·show (n-(i+1)).toNat<(n-i).toNat
    omega
   ·simp[Qd,lk,Q5R]
   ·omega
  ·have hd0:toks.drop i.toNat=[]:=List.drop_eq_nil_of_le (by have:=hn.eq;omega)
   rw[hd0] at hd hf
   have hxM:x=M0:=hf
   have hkr:k=t.r.length:=by
    by_cases h:k<t.r.length
    ·rw[Q1X h] at hd;cases hd
    ·omega
   subst hxM
   rw[heq]
   clear hd hf hd0 hk
   have hlr:(t.r.length:Int)=t.r.length:=rfl
   obtain⟨rl,hrl⟩:=QS t.r
   generalize hp:std=p,hTK:QL toks=TK,htn:Q7E t b=tn,htd:Q7D t b=td,hts:Q7A t b=ts,hmn:Q3P t=mn,hmd:Q3Z t=md,hms:Q3U t=ms,hbr:brA=br,hN:Q0 x.n=N,hD':Qx x.d=D',hS:Qb x.s=S,hB':Q3 b=B',hR:Q5 t.r=R,hO:Q7 t.off=O,hK:t.kind=K,hM:t.bom=M
   generalize hT:Q8 p tys (Q9y p TK tn td ts mn md ms br) _ _ _ _=T
   cbv at hT
   subst hT
   simp only[Tree.ok,Q4,S0]
   subst hp hTK htn htd hts hmn hmd hms hbr hN hD' hS hB' hR hO hK hM
   refine⟨fun h=>?_,fun _=>?_⟩
   ·have h:n<n:=of_decide_eq_true h
    omega
   rw[if_pos trivial]
   generalize hp:std=p,hTK:QL toks=TK,htn:Q7E t b=tn,htd:Q7D t b=td,hts:Q7A t b=ts,hmn:Q3P t=mn,hmd:Q3Z t=md,hms:Q3U t=ms,hbr:brA=br,hN:Q0 x.n=N,hD':Qx x.d=D',hS:Qb x.s=S,hB':Q3 b=B',hR:Q5 t.r=R,hO:Q7 t.off=O,hK:t.kind=K,hM:t.bom=M
   generalize hT:Q8 p tys (Q9y p TK tn td ts mn md ms br) _ _ _ _=T
   cbv at hT
   subst hT
   simp only[Tree.ok,Q4,S0]
   subst hp hTK htn htd hts hmn hmd hms hbr hN hD' hS hB' hR hO hK hM
   rw[hkr,Q7t hs.ok] at hv
   have hv0:MkI x b (B+3 * t.r.length) (D+3 * t.r.length):=hv
   have hrl2:std.len (Q5 t.r)=rl:=by show ((Q5 t.r).length:Int)=rl;rw[Q1i,hrl.eq]
   clear hv hkr hlr okx heq hi0 hi1
   refine Q1S (cs:=Q9y std (QL toks) (Q7E t b) (Q7D t b) (Q7A t b) (Q3P t) (Q3Z t) (Q3U t) brA) (by kernel_rfl) (X:=Mk) (fun x=>⟨[(0,.box 0 0)],[.box [.slc 1 (Q3 b),.box 1 0,.row 5 1],.box [.val (.int .i64 t.kind),.val (.int .i64 t.bom),.slc 1 (Q5 t.r),.slc 1 (Q7 t.off),.box 2 0,.val (.int .i64 rt),.row 4 1],.box [.row 3 1],.row 182 6 false 1 (Q0 x.n),.row 146 3 false 1 (Qx x.d),.row 99 2 false 1 (Qb x.s)]⟩) (fun x=>MkI x b (B+3 * t.r.length) (D+3 * t.r.length)∧missGo t t.r.length 0 x.s.length x=M1) (fun x=>x.s.length) x ?_ ?_ ?_
   ·exact⟨hv0,hM01.symm⟩
   ·exact⟨[some 0,some 1,some 2,some 3,some 4,some 5],_,rfl,by simp[Qd,lk,std]⟩
   ·rintro y ⟨hv,hg⟩
    have oky:=hv.i.ok (by omega) (by omega)
    have ylen:=Q2A y.s
    obtain⟨LY,hLY⟩:=QS y.s
    generalize hp:std=p,hTK:QL toks=TK,htn:Q7E t b=tn,htd:Q7D t b=td,hts:Q7A t b=ts,hmn:Q3P t=mn,hmd:Q3Z t=md,hms:Q3U t=ms,hbr:brA=br,hN:Q0 y.n=N,hD':Qx y.d=D',hS:Qb y.s=S,hB':Q3 b=B',hR:Q5 t.r=R,hO:Q7 t.off=O,hK:t.kind=K,hM:t.bom=M
    generalize hT:Q8 p tys (Q9y p TK tn td ts mn md ms br) _ _ _ _=T
    cbv at hT
    subst hT
    simp only[Tree.ok,Q4,S0]
    subst hp hTK htn htd hts hmn hmd hms hbr hN hD' hS hB' hR hO hK hM
    have hly:std.len (Qb y.s)=LY:=by show ((Qb y.s).length:Int)=LY;rw[ylen,hLY.eq]
    simp only[Qdi,Qde,Qdo]
    refine⟨fun hgt=>?_,fun hle=>?_⟩
    ·have hgt:1<std.len (Qb y.s):=of_decide_eq_true hgt
     rw[hly] at hgt
     have hy2:2≤y.s.length:=by have:=hLY.eq;omega
     have hrr:=hrl.eq
     have hol:=hs.ok.len
     have c:=Qff t b rt hv.i (by omega) (by omega) hs.hb t.r.length (by omega) hy2
     have erl:(t.r.length:Int)=std.len (Q5 t.r):=by rw[hrl2];exact hrr.symm
     rw[erl] at c
     refine⟨c,Q1P t (std.len (Q5 t.r)) y,⟨by rw[←erl];exact hv.miss hy2 t t.r.length,?_⟩,by rw[Q5U];omega,[some 0,some 1,some 2,some 3,some 4,some 5],_,rfl,by simp[Qd,lk,std]⟩
     rw[←erl,←Q6P (by omega)];exact hg
    ·have hle:¬ 1<std.len (Qb y.s):=of_decide_eq_false hle
     rw[hly] at hle
     have hy1:y.s.length=1:=by have:=hLY.eq;have:=hv.i.s1;omega
     have hyM:y=M1:=by rw[←hg,Q7G (by omega)]
     subst hyM
     clear hle hly
     rw[if_pos trivial]
     generalize hp:std=p,hTK:QL toks=TK,htn:Q7E t b=tn,htd:Q7D t b=td,hts:Q7A t b=ts,hmn:Q3P t=mn,hmd:Q3Z t=md,hms:Q3U t=ms,hbr:brA=br,hN:Q0 y.n=N,hD':Qx y.d=D',hS:Qb y.s=S,hB':Q3 b=B',hR:Q5 t.r=R,hO:Q7 t.off=O,hK:t.kind=K,hM:t.bom=M
     generalize hT:Q8 p tys (Q9y p TK tn td ts mn md ms br) _ _ _ _=T
     cbv at hT
     subst hT
     simp only[Tree.ok,Q4,S0]
     subst hp hTK htn htd hts hmn hmd hms hbr hN hD' hS hB' hR hO hK hM
     obtain⟨o,ho⟩:∃ o,y.s=[o]:=List.length_eq_one_iff.1 hy1
     have hto:Qt y.s=o:=by rw[ho];rfl
     have hcell:std.nth (std.drp (std.cel (std.at_ (Qb y.s) 0)) 1) 0=slK (Qt y.s).kids:=by rw[hto,ho];rfl
     have hlst:std.lst (slK (Qt y.s).kids)=Q7 (Qt y.s).kids:=by cases (Qt y.s).kids<;>rfl
     have hcl2:std.lst (std.nth (std.drp (std.cel (std.at_ (Qb y.s) 0)) 1) 0)=Q7 (Qt y.s).kids:=by rw[hcell,hlst]
     have hflat:((Qt y.s).kids.flatMap (pr y.n)).length≤b.length:=by
      have:=hv.i.p
      rw[hto,←this,ho]
      simp[prK]
     have hkl:(Qt y.s).kids.length≤900000:=oky.top
     have cB:=Qbg y.n (by have:=oky.n;omega) 20 (Qt y.s).kids (by omega) hv.i.top hv.i.ar.ok.w hv.i.ar.ok.c (MkInv.sum hv.i.ar hv.i.top hflat (by have:=hs.hb;omega))
     rw[←Q9F,←QG,←hcl2] at cB
     have hnl2:=QG y.n
     have fin:brA 20 (std.lst (std.nth (std.drp (std.cel (std.at_ (Qb y.s) 0)) 1) 0)) (Q0 y.n)=Q0 (QE y).n:=by
      rw[hcl2,Q9F];rfl
     have e0:std.len (Q0 y.n)=(y.n.length:Int):=by show ((Q0 y.n).length:Int)=_;rw[hnl2]
     refine⟨?_,⟨?_,trivial⟩,⟨cB,?_⟩,cB,?_⟩
     ·show 0≤(0:Int)∧(0:Int)<std.len (Qb y.s)
      show 0≤(0:Int)∧(0:Int)<((Qb y.s).length:Int)
      rw[ylen,hy1];decide
     ·show std.hasL 1 (std.nth (std.drp (std.cel (std.at_ (Qb y.s) 0)) 1) 0)
      rw[hcell]
      rcases Qft (Qt y.s).kids with h|h
      ·exact .inl (by rw[h];rfl)
      ·exact .inr h.1
     all_goals
      refine⟨[some 0,some 1,some 2,some 3,some 4,some 5],.tup [],_,rfl,rfl,Nat.le_of_ble_eq_true rfl,rfl,?_,trivial⟩
      repeat first
       |exact trivial
       |refine⟨rfl,?_⟩
       |refine⟨e0,?_⟩
       |refine⟨gI (e0),?_⟩
       |refine⟨gA (e0),?_⟩
       |refine⟨gB (e0),?_⟩
       |refine⟨gR (e0),?_⟩
       |refine⟨gT (e0),?_⟩
       |refine⟨fin,?_⟩
       |refine⟨gI (fin),?_⟩
       |refine⟨gA (fin),?_⟩
       |refine⟨gB (fin),?_⟩
       |refine⟨gR (fin),?_⟩
       |refine⟨gT (fin),?_⟩
def mk0:Mk:=⟨[],[],[⟨[],[]⟩]⟩
def Qg0 (bs:List UInt8):Mk:=Q2d 0 (Q15 (Ql 23 bs) mk0)
def Q42 (b:List UInt8):Mk:=if 0<(QB b).2 then Qg0 (b.take (QB b).2.toNat) else mk0
def QD (b:List UInt8):Mk:=Q6Y (Q9 b) b (Q42 b)
def Q7s (t:Txt)(m:Mk):AV:=.agg [.val (.int .i64 t.kind),.val (.int .i64 t.bom),.slc 1 (Q5 t.r),.slc 1 (Q7 t.off),.ref [.slc 6 (Q0 (QE m).n)],.val (.int .i64 m.n.length),.slc 3 (Qx m.d)]
def Qi6 (kd bm:Int)(R O:List AV)(rt:Int)(an ad asx N1 S1:List AV):Nat→List AV→List Ob→Option (AV×List Ob):=fun f args ob=>match f,args with
 |40,[.slc 1 _]=>some (.agg [.val (.int .i64 kd),.val (.int .i64 bm),.slc 1 R,.slc 1 O],[])
 |41,[]=>some (.box 0 0,[.box [.val (.slice none 0 0)]])
 |43,[.box 0 0,.val (.int .i64 _),.slc 1 _]=>match ob with
  | [.box [.val (.slice none 0 0)]]=>some (.val (.int .i64 0),[.box [.row 1 1],.row 182 6 false 1 N1])
  |_=>none
 |42,[.box 0 0,.val (.int .i64 _)]=>match ob with
  | [.box [b,.box 1 0,.row 4 0],.box [k,m,r,o,.box 2 0,q,.val (.slice none 0 0)],.box [.row 3 0],.row 182 6 false 0 N,.row 99 2 false 0 _] =>
   some (.tup [],[.box [b,.box 1 0,.row 4 1],.box [k,m,r,o,.box 2 0,q,.row 5 1],.box [.row 3 1],.row 182 6 false 1 N,.row 99 2 false 1 S1,.row 146 3 false 1 []])
  |_=>none
 |44,[.box 0 0]=>match ob with
  | [.box [b,.box 1 0,.row 3 0],.box [k,m,r,o,.box 2 0,_,.val (.slice none 0 0)],.box [.val (.slice none 0 0)],.row 99 2 false 0 _] =>
   some (.tup [],[.box [b,.box 1 0,.row 3 1],.box [k,m,r,o,.box 2 0,.val (.int .i64 rt),.row 4 1],.box [.row 5 1],.row 99 2 false 1 asx,.row 146 3 false 1 ad,.row 182 6 false 1 an])
  |_=>Q2J ob fun b k m r o _ _ _ _=>some (.tup [],obM 1 b k m r o (.val (.int .i64 rt)) an ad asx)
 |_,_=>none
theorem mk0_inv:MkI mk0 [] 2 2 :=
 have h:∀ x∈mk0.s,x=⟨[],[]⟩:=fun x hx=>by simpa[mk0] using hx
 ⟨⟨QiN,(fun x hx=>by rw[h x hx];exact fun k hk=>by cases hk),rfl,Nat.le_refl _,Nat.le_refl _,Nat.le_refl _,Nat.le_refl _,(fun x hx=>by rw[h x hx];exact Nat.zero_le _)⟩,Nat.le_refl _⟩
theorem Qgb (bs:List UInt8):MkI (Qg0 bs) bs 3 2:=by
 have h:=mk0_inv
 have ha:=Q36 h.i.ar 23 bs
 exact⟨Qcm h.i ha.1 ha.2,Q5q h.i h.c 23 bs⟩
theorem Qdz (b:List UInt8):Q4B (Q9 b) b 0=b.take (QB b).2.toNat:=by
 rw[Q4B,Q1N,show (0:Int).toNat=0 from rfl,(Q3d b).2.1]
theorem Q9r (b:List UInt8):MkI (Q42 b) (Q4B (Q9 b) b 0) 3 2:=by
 rw[Qdz,Q42]
 have hb:=Q3R b
 split
 ·exact Qgb _
 ·have:(QB b).2=0:=by omega
  rw[this]
  exact⟨mk0_inv.i.mono (by omega) (Nat.le_refl _),mk0_inv.c⟩
theorem QaK (b:List UInt8)(hb:b.length≤100000):Sml (Q9 b) b:=⟨by omega,Nat.le_trans (Q3d b).2.2.1 (by omega),(Q3d b).1⟩
theorem QgK (t:Txt)(b:List UInt8)(hs:Sml t b)(B D:Nat)(iv:MkI mk0 (Q4B t b 0) B D)(hB:B+3 * t.r.length≤600000)(hD:D+3 * t.r.length≤600000) :
  BCall prog 44 [.box 0 0] [.box [.slc 1 (Q3 b),.box 1 0,.row 3 0],.box [.val (.int .i64 t.kind),.val (.int .i64 t.bom),.slc 1 (Q5 t.r),.slc 1 (Q7 t.off),.box 2 0,.val (.int .i64 0),.val (.slice none 0 0)],.box [.val (.slice none 0 0)],.row 99 2 false 0 (Qb mk0.s)] (.tup [])
   [.box [.slc 1 (Q3 b),.box 1 0,.row 3 1],.box [.val (.int .i64 t.kind),.val (.int .i64 t.bom),.slc 1 (Q5 t.r),.slc 1 (Q7 t.off),.box 2 0,.val (.int .i64 (Q6Y t b mk0).n.length),.row 4 1],.box [.row 5 1],.row 99 2 false 1 (Qb (QE (Q6Y t b mk0)).s),.row 146 3 false 1 (Qx (QE (Q6Y t b mk0)).d),.row 182 6 false 1 (Q0 (QE (Q6Y t b mk0)).n)]:=by
 have h:=Qi4 t b hs 0 mk0 B D iv hB hD
 unfold obT obM at h
 exact h.tell [some 0,some 1,some 2,none,none,some 3] [some 0,some 1,some 2,some 5,some 4,some 3] rfl rfl rfl (Nat.le_of_ble_eq_true rfl) rfl (by simp[Qd,Q0,Qx,mk0]) (res':=.tup []) rfl (by simp[Qd]) trivial
theorem Qh0 (t:Txt)(b:List UInt8)(m:Mk)(hd:m.d=[])(hs:1≤m.s.length)(hn:m.s.length≤1000000)(hk:(Qt m.s).kids.length≤1000000)(n:Int) :
  BCall prog 42 [.box 0 0,.val (.int .i64 n)] [.box [.slc 1 (Q3 b),.box 1 0,.row 4 0],.box [.val (.int .i64 t.kind),.val (.int .i64 t.bom),.slc 1 (Q5 t.r),.slc 1 (Q7 t.off),.box 2 0,.val (.int .i64 0),.val (.slice none 0 0)],.box [.row 3 0],.row 182 6 false 0 (Q0 m.n),.row 99 2 false 0 (Qb m.s)] (.tup [])
   [.box [.slc 1 (Q3 b),.box 1 0,.row 4 1],.box [.val (.int .i64 t.kind),.val (.int .i64 t.bom),.slc 1 (Q5 t.r),.slc 1 (Q7 t.off),.box 2 0,.val (.int .i64 0),.row 5 1],.box [.row 3 1],.row 182 6 false 1 (Q0 m.n),.row 99 2 false 1 (Qb (Q1b n m.s)),.row 146 3 false 1 []]:=by
 have h:=Q7y t b 0 m hs hn hk n
 unfold obT obM at h
 exact h.tell [some 0,some 1,some 2,some 3,none,some 4] [some 0,some 1,some 2,some 3,some 5,some 4] rfl rfl rfl (Nat.le_of_ble_eq_true rfl) rfl (by simp[Qd,Qx,hd]) (res':=.tup []) rfl (by simp[Qd,Qx,Q2d,hd]) trivial
theorem QcL (b:List UInt8)(hb:b.length≤100000):BCall prog 13 [.slc 1 (Q3 b)] [] (Q7s (Q9 b) (QD b)) []:=by
 obtain⟨ok,h1,h2,h3,h4⟩:=Q3d b
 have hs:=QaK b hb
 have cD:=QeJ b (by omega) (by omega) (fun x hx=>by have:=h4 x hx;omega)
 have hkb:=Q3R b
 have hE:QD b=Q6Y (Q9 b) b (Q42 b):=rfl
 have hiv:=Q9r b
 have hrl:=hs.hr
 have c0:=fun (h:Q42 b=mk0)=>QgK (Q9 b) b hs 3 2 (by rw[←h];exact hiv) (by omega) (by omega)
 have c1:=Qi4 (Q9 b) b hs 0 (Q42 b) 3 2 hiv (by omega) (by omega)
 rw[←hE] at c1
 obtain⟨M,hM⟩:=exq (QD b)
 rw[←hM] at c1 hE ⊢
 have cL:=Qho 23 (b.take (QB b).2.toNat) (by rw[List.length_take];omega)
 have cK:=Qh0 (Q9 b) b (Q15 (Ql 23 (b.take (QB b).2.toNat)) mk0) rfl (Nat.le_refl _) (Nat.le_of_ble_eq_true rfl) (Nat.zero_le _) 0
 obtain⟨t,ht⟩:=exq (Q9 b)
 have htb:t.bom=(QB b).2:=by rw[ht];rfl
 rw[←ht] at cD c0 c1 cK hE ⊢
 rw[←htb] at cL cK hkb
 have hf:Q42 b=if 0<t.bom then Qg0 (b.take t.bom.toNat) else mk0:=by rw[htb];rfl
 obtain⟨nb,hnb⟩:=QS b
 have hbn:t.bom≤nb:=by rw[hnb.eq];exact hkb.2
 have hb0:=hkb.1
 have hcut:std.cut (Q3 b) 0 t.bom=Q3 (b.take t.bom.toNat):=by
  show ((Q3 b).drop (0:Int).toNat).take (t.bom-0).toNat=_
  simp[Q3,List.map_take]
 have hbl:=Q1j b
 clear h1 h2 h3 h4 hkb hrl
 refine fnN (cs:=Qi6 t.kind t.bom (Q5 t.r) (Q7 t.off) M.n.length (Q0 (QE M).n) (Qx M.d) (Qb M.s) (Q0 [Ql 23 (b.take t.bom.toNat)]) (Qb (Q1b 0 mk0.s))) func13 rfl (by kernel_rfl) ?_
 intro w0 g0
 generalize hp:std=p
 generalize hN1:Q0 [Ql 23 (b.take t.bom.toNat)]=N1
 generalize hS1:Qb (Q1b 0 mk0.s)=S1
 generalize hrt:(M.n.length:Int)=rt
 generalize han:Q0 (QE M).n=an
 generalize had:Qx M.d=ad
 generalize hasx:Qb M.s=asx
 generalize hbm:t.bom=bm
 generalize hkd:t.kind=kd
 generalize hR:Q5 t.r=R
 generalize hO:Q7 t.off=O
 generalize hB':Q3 b=B'
 generalize hT:Q8 p tys (Qi6 kd bm R O rt an ad asx N1 S1) _ _ _ _=T
 cbv at hT
 subst hT
 simp only[Tree.ok,Q4,S0]
 subst hp hN1 hS1 hrt han had hasx hbm hkd hR hO hB'
 refine⟨cD,Qjj,fun h=>⟨?_,?_,cK,?_,.pure rfl ⟨.inl rfl,.inl rfl,.inl rfl,.inl rfl,.inl rfl,.inl rfl,.inl rfl,trivial⟩⟩,fun h=>⟨?_,.pure rfl ⟨.inl rfl,.inl rfl,.inl rfl,.inl rfl,.inl rfl,.inl rfl,.inl rfl,trivial⟩⟩⟩
 ·show 0≤(0:Int)∧0≤t.bom∧t.bom≤((Q3 b).length:Int)
  have:=hnb.eq
  rw[hbl];omega
 ·show BCall _ _ [.box 0 0,.val (.int .i64 23),.slc 1 (std.cut (Q3 b) 0 t.bom)] _ _ _
  rw[hcut];exact cL
 ·have h:0<t.bom:=of_decide_eq_true h
  rw[if_pos h] at hf
  rw[hf] at c1
  exact c1
 ·have h:¬ 0<t.bom:=of_decide_eq_false h
  rw[if_neg h] at hf
  have c:=c0 hf
  rw[hf] at hE
  rw[←hE] at c
  exact c
def Qjg (pr:Int→List AV):Nat→List AV→List Ob→Option (AV×List Ob):=fun f args _=>match f,args with
 |59,[.ref [.slc 6 _],.val (.int .i64 n)]=>some (.slc 1 (pr n),[])
 |_,_=>none
def prA (l:List Node)(n:Int):List AV:=Q3 (pr l n)
structure PrOk (l:List Node) (n:Int):Prop where
 len:l.length≤1000000000
 wf:Wf l
 wide:Qds l
 h0:0≤n
 h1:n<l.length
 p:(pr l n).length≤1000000
 c:co l n≤1000000
theorem Qfc (t:Txt)(m:Mk)(h:PrOk (QE m).n m.n.length):BCall prog 76 [Q7s t m] [] (.slc 1 (Q3 (pr (QE m).n m.n.length))) []:=by
 have cP:=QcC (QE m).n h.len h.wf h.wide m.n.length h.h0 h.h1 h.p h.c
 obtain⟨rt,hrt⟩:=exq (m.n.length:Int)
 obtain⟨l,hl⟩:=exq ((QE m).n)
 unfold Q7s
 rw[←hrt,←hl] at cP ⊢
 clear h
 refine fnN (cs:=Qjg (prA l)) func76 rfl (by kernel_rfl) ?_
 intro w0 g0
 generalize hp:std=p,hpr:prA l=pr,hN:Q0 l=N,hR:Q5 t.r=R,hO:Q7 t.off=O,hD':Qx m.d=D',hK:t.kind=K,hM:t.bom=M
 generalize hT:Q8 p tys (Qjg pr) _ _ _ _=T
 cbv at hT
 subst hT
 simp only[Tree.ok,Q4,S0]
 subst hp hpr hN hR hO hD' hK hM
 exact⟨cP,.pure rfl (.inl rfl)⟩
def Qj4 (N:List AV):Nat→List AV→List Ob→Option (AV×List Ob):=fun f args _=>match f,args with
 |67,[.ref [.slc 6 _],.val (.int .i64 n)]=>some (.tup [.agg [.ref [.slc 6 N],.val (.int .i64 n),.val (.int .i64 0),.val (.int .i64 0),.opt (.val (.pointer none))],.val (.int .i64 0)],[])
 |_,_=>none
theorem QdI (t:Txt)(m:Mk):BCall prog 29 [Q7s t m] [] (.agg ((Cur.root m.n.length).cs (Q0 (QE m).n))) []:=by
 have cR:=Qie (QE m).n m.n.length (by omega) (by show (m.n.length:Int)<((m.n++[_]).length:Int);simp only[List.length_append,List.length_singleton];omega)
 obtain⟨rt,hrt⟩:=exq (m.n.length:Int)
 obtain⟨l,hl⟩:=exq ((QE m).n)
 unfold Q7s
 rw[←hrt,←hl] at cR ⊢
 refine fnN (cs:=Qj4 (Q0 l)) func29 rfl (by kernel_rfl) ?_
 intro w0 g0
 generalize hp:std=p,hN:Q0 l=N,hR:Q5 t.r=R,hO:Q7 t.off=O,hD':Qx m.d=D',hK:t.kind=K,hM:t.bom=M
 generalize hT:Q8 p tys (Qj4 N) _ _ _ _=T
 cbv at hT
 subst hT
 simp only[Tree.ok,Q4,S0]
 subst hp hN hR hO hD' hK hM
 exact⟨cR,.pure rfl ⟨.inl rfl,.inl rfl,.inl rfl,.inl rfl,.inl rfl,trivial⟩⟩
theorem QhQ (b:List UInt8):BCall prog 11 [.slc 1 (Q3 b)] [] (.slc 1 (Q3 (b.take 400))) []:=by
 obtain⟨n,hn⟩:=QS b
 have hbl:=Q1j b
 have hlen:std.len (Q3 b)=n:=by show ((Q3 b).length:Int)=n;rw[hbl,hn.eq]
 refine fnN (cs:=cs0) func11 rfl (by kernel_rfl) ?_
 intro w0 g0
 generalize hp:std=p,hB':Q3 b=B'
 generalize hT:Q8 p tys (cs0) _ _ _ _=T
 cbv at hT
 subst hT
 simp only[Tree.ok,Q4,S0]
 subst hp hB'
 refine⟨fun h=>⟨?_,.pure rfl (.inl ?_)⟩,fun h=>.pure rfl (.inl ?_)⟩
 ·have h:400<std.len (Q3 b):=of_decide_eq_true h
  show 0≤(0:Int)∧0≤(400:Int)∧(400:Int)≤std.len (Q3 b)
  omega
 ·show AV.slc 1 (((Q3 b).drop (0:Int).toNat).take ((400:Int)-0).toNat)=_
  simp[Q3,List.map_take]
 ·have h:¬ 400<std.len (Q3 b):=of_decide_eq_false h
  have:=hn.eq
  rw[List.take_of_length_le (by omega)]
end Go.Proofs.YtibemhahkicbpaaGreat
namespace Go.Proofs.YtibemhahkicbpaaGreat
open Go.RowKit Go.Lib
end Go.Proofs.YtibemhahkicbpaaGreat
namespace Go.Proofs.YtibemhahkicbpaaGreat
open Go.RowKit Go.Lib
structure CurIn (l:List Node) (W C:Nat) (c:Cur):Prop where
 h0:0≤c.n
 h1:c.n<l.length
 f0:0≤c.f
 w:c.f+(Qk l c.n).width≤W
 co:co l c.n≤C
theorem Qd7 (l:List Node)(ks:List Int):ks.length≤coL l ks:=by
 induction ks with
 |nil=>exact Nat.zero_le _
 |cons k r ih=>have:=Qbz l k;simp only[coL,List.map_cons,List.sum_cons,List.length_cons] at ih ⊢;omega
theorem Qhx (l:List Node){ks:List Int}{k:Int}(h:k∈ks):co l k≤coL l ks:=by
 induction ks with
 |nil=>cases h
 |cons x r ih =>
  simp only[coL,List.map_cons,List.sum_cons] at ih ⊢
  rcases List.mem_cons.1 h with rfl|h
  ·omega
  ·have:=ih h;omega
section
variable {l:List Node} {W C:Nat} {c:Cur}
theorem CurIn.kids (ha:Ar l)(h:CurIn l W C c):InR l (Qg l c):=fun k hk=>by
 have h1:=ha.wf c.n h.h0 h.h1 k hk
 have:=h.h1
 omega
theorem CurIn.wide (ha:Ar l)(h:CurIn l W C c):Q19 l (Qg l c)≤(Qk l c.n).width∧0≤(Qk l c.n).width:=by
 rw[ha.wide c.n h.h0 h.h1,Q6d ha.wide (h.kids ha),QcS ha.wf h.h0 h.h1,List.length_append]
 show (((Qg l c).flatMap (pr l)).length:Int)≤(((Qk l c.n).b.length+((Qg l c).flatMap (pr l)).length:Nat):Int)∧_
 omega
theorem CurIn.cos (ha:Ar l)(h:CurIn l W C c):1+coL l (Qg l c)≤C:=by
 have:=h.co
 rw[Qbo ha.wf h.h0 h.h1] at this
 exact this
theorem CurIn.ok (ha:Ar l)(h:CurIn l W C c)(hW:W≤2147483647)(hC:C≤1000000):CurOk l c:=by
 have h1:=h.wide ha
 have h2:=h.cos ha
 have h3:=Qd7 l (Qg l c)
 have h4:=h.w
 have h5:=h.f0
 exact⟨by omega,by omega,h5,by omega⟩
theorem CurIn.down (ha:Ar l)(h:CurIn l W C c){k:Int}(h0:0≤k)(h1:k<(Qg l c).length):CurIn l W C (Q2F l c k):=by
 have hk:k.toNat<(Qg l c).length:=by omega
 have hx:(Qg l c)[k.toNat]?.getD 0=(Qg l c)[k.toNat]:=by rw[List.getElem?_eq_getElem hk];rfl
 have hm:(Qg l c)[k.toNat]∈Qg l c:=List.getElem_mem hk
 have hr:=h.kids ha _ hm
 have hw:=h.wide ha
 have hc:=h.cos ha
 have hcm:=Qhx l hm
 have hs1:=Q3S ha.ok.w ((Qg l c).take k.toNat)
 have hs2:=Q7b ha.ok.w (Qg l c) (k.toNat+1)
 have hs3:Q19 l ((Qg l c).take (k.toNat+1))=Q19 l ((Qg l c).take k.toNat)+(Qk l (Qg l c)[k.toNat]).width:=by
  rw[List.take_add_one,List.getElem?_eq_getElem hk]
  show (((Qg l c).take k.toNat++[(Qg l c)[k.toNat]]).map (Qm l)).sum=_
  rw[List.map_append,List.sum_append]
  simp[Q19,Qm]
 have h4:=h.w
 have h5:=h.f0
 refine⟨?_,?_,?_,?_,?_⟩
 ·show 0≤(Qg l c)[k.toNat]?.getD 0
  rw[hx];exact hr.1
 ·show (Qg l c)[k.toNat]?.getD 0<_
  rw[hx];exact hr.2
 ·show 0≤c.f+Q19 l ((Qg l c).take k.toNat)
  omega
 ·show c.f+Q19 l ((Qg l c).take k.toNat)+(Qk l ((Qg l c)[k.toNat]?.getD 0)).width≤W
  rw[hx];omega
 ·show Go.Proofs.YtibemhahkicbpaaGreat.co l ((Qg l c)[k.toNat]?.getD 0)≤C
  rw[hx];omega
end
theorem CurIn.to {l:List Node}{W C:Nat}(ha:Ar l):∀ (p:List Int) (c x:Cur),CurIn l W C c→toC l c p=some x→CurIn l W C x
 | [],c,x,h,e=>by
  obtain rfl:c=x:=by simpa[toC] using e
  exact h
 |k::r,c,x,h,e=>by
  have e:(if 0≤k∧k<(Qg l c).length then toC l (Q2F l c k) r else none)=some x:=e
  split at e
  ·rename_i hk
   exact CurIn.to ha r _ x (h.down ha hk.1 hk.2) e
  ·cases e
structure TreeOk (b:List UInt8) (m:Mk):Prop where
 ar:Ar (QE m).n
 p:pr (QE m).n m.n.length=b
 w:(Qk (QE m).n m.n.length).width=b.length
 c:co (QE m).n m.n.length≤400000
 n:(QE m).n.length≤400000
 s:m.s.length=1
theorem QaJ (b:List UInt8)(hb:b.length≤100000):TreeOk b (QD b):=by
 have hs:=QaK b hb
 have hr:=(Q3d b).2.2.1
 obtain⟨h1,h2⟩:=QgW hs.ok hs.hr (Q9r b)
 have h1:MkI (QD b) b (3+3 * (Q9 b).r.length) (2+3 * (Q9 b).r.length):=h1
 have h2:(QD b).s.length=1:=h2
 obtain⟨k1,k2,k3,k4⟩:=QaI h1 h2
 have hn:=h1.i.n
 exact⟨k1,k2,k3,by omega,by show ((QD b).n++[_]).length≤_;simp only[List.length_append,List.length_singleton];omega,h2⟩
theorem Qd5 (m:Mk):(m.n.length:Int)<((QE m).n.length:Int):=by
 show (m.n.length:Int)<((m.n++[_]).length:Int)
 simp only[List.length_append,List.length_singleton];omega
theorem TreeOk.pr {b:List UInt8}{m:Mk}(h:TreeOk b m)(hb:b.length≤100000):PrOk (QE m).n m.n.length :=
 ⟨by have:=h.n;omega,h.ar.wf,h.ar.wide,by omega,Qd5 m,by rw[h.p];omega,by have:=h.c;omega⟩
theorem TreeOk.root {b:List UInt8}{m:Mk}(h:TreeOk b m):CurIn (QE m).n b.length 400000 (.root m.n.length) :=
 ⟨by show (0:Int)≤m.n.length;omega,Qd5 m,Int.le_refl _,by show (0:Int)+(Qk (QE m).n m.n.length).width≤_;rw[h.w];omega,h.c⟩
theorem Qb3 (a:ByteArray):std.eqS a a=true:=by
 show (a.toList == a.toList)=true
 exact beq_self_eq_true _
end Go.Proofs.YtibemhahkicbpaaGreat
namespace Go.Proofs.YtibemhahkicbpaaGreat
open Go.RowKit Go.Lib
def Q3s (x:Node):Prop:=x.b=[]∨x.kids=[]
def QjO (n:Nat)(x:Dg):Prop:=0≤x.f∧x.f≤x.t∧x.t≤n∧1≤x.c∧x.c≤5
structure MkS (z:Nat) (m:Mk):Prop where
 n:∀ x∈m.n,Q3s x
 d:∀ x∈m.d,QjO z x
theorem Q5G {l:List Node}(h:∀ x∈l,Q3s x){y:Node}(hy:Q3s y):∀ x∈l++[y],Q3s x:=fun x hx=>by
 rcases List.mem_append.1 hx with hx|hx
 ·exact h x hx
 ·obtain rfl:x=y:=by simpa using hx
  exact hy
theorem Q72 (k:Int)(b:List UInt8):Q3s (Ql k b):=.inr rfl
theorem Q9h (l:List Node)(k:Int)(ks:List Int):Q3s (QQ l k ks):=.inl rfl
section
variable {n:Nat} {m:Mk}
theorem MkS.add (h:MkS n m){y:Node}(hy:Q3s y):MkS n (Q15 y m):=⟨Q5G h.n hy,h.d⟩
theorem MkS.kid (h:MkS n m)(k:Int):MkS n (Q2d k m):=⟨h.n,h.d⟩
theorem MkS.lk (h:MkS n m)(t:Txt)(b:List UInt8)(kind f u:Int):MkS n (lkF t b kind f u m):=(h.add (Q72 _ _)).kid _
theorem MkS.shut (h:MkS n m)(l:Int):MkS n (Q12 l m):=⟨Q5G h.n (Q9h _ _ _),h.d⟩
structure Plc (t:Txt) (n:Nat) (f u:Int):Prop where
 h0:0≤Q1N t f
 h1:Q1N t f≤Q1N t u
 h2:Q1N t u≤n
theorem MkS.wrong (h:MkS n m)(t:Txt){c f u:Int}(hp:Plc t n f u)(hc:1≤c∧c≤5):MkS n (Qu t c f u m):=⟨h.n,fun x hx=>by
 rcases List.mem_append.1 hx with hx|hx
 ·exact h.d x hx
 ·obtain rfl:x=⟨Q1N t f,Q1N t u,c⟩:=by simpa using hx
  exact⟨hp.h0,hp.h1,hp.h2,hc.1,hc.2⟩⟩
theorem Plc.same {t:Txt}{f u:Int}(h:Plc t n f u):Plc t n f f:=⟨h.h0,Int.le_refl _,Int.le_trans h.h1 h.h2⟩
theorem MkS.miss (h:MkS n m)(t:Txt){a:Int}(hp:Plc t n a a):MkS n (Q1P t a m):=((h.wrong t hp (by decide)).add (Q72 _ _)).shut _
end
theorem MkS.missGo {n:Nat}(t:Txt){f:Int}(hp:Plc t n f f)(k:Nat):∀ (j:Nat) (m:Mk),MkS n m→MkS n (missGo t f k j m)
 |0,_,h=>h
 |j+1,m,h=>by
  show MkS n (if _ then _ else _)
  split
  ·exact MkS.missGo t hp k j _ (h.miss t hp)
  ·exact h
section
variable {n:Nat} {m:Mk}
theorem MkS.start (h:MkS n m)(t:Txt)(b:List UInt8)(kind:Int){f u:Int}(hp:Plc t n f u):MkS n (QV t b kind f u m):=by
 unfold QV
 split
 ·exact (h.wrong t hp (by decide)).lk t b kind f u
 ·exact MkS.lk (m:={ m with s:=m.s++[⟨Qw t f u,[]⟩] }) ⟨h.n,h.d⟩ t b kind f u
theorem MkS.end_ (h:MkS n m)(t:Txt)(b:List UInt8)(kind:Int){f u:Int}(hp:Plc t n f u):MkS n (Q2b t b kind f u m):=by
 unfold Q2b
 simp only
 split
 ·exact (h.wrong t hp (by decide)).lk t b kind f u
 ·exact ((MkS.missGo t hp.same _ _ _ h).add (Q72 _ _)).shut _
theorem MkS.token (h:MkS n m)(t:Txt)(b:List UInt8)(kind:Int){f u:Int}(wh:Bool)(hp:Plc t n f u):MkS n (Q1A t b kind f u wh m):=by
 unfold Q1A
 simp only
 generalize hm1:(if wh=false then Qu t 1 f u m else if (kind=8∨kind=9∨kind=10)∧(QJ t.r f u).right=false then Qu t 2 f u m else m)=m1
 have h1:MkS n m1:=by
  rw[←hm1]
  split
  ·exact h.wrong t hp (by decide)
  ·split
   ·exact h.wrong t hp (by decide)
   ·exact h
 split
 ·exact h1.start t b kind hp
 ·split
  ·exact h1.end_ t b kind hp
  ·exact h1.lk t b kind f u
end
theorem QeI {t:Txt}{b:List UInt8}(ok:TxtOk t b){f u:Int}(h0:0≤f)(h1:f≤u)(h2:u≤t.r.length):Plc t b.length f u:=by
 have hm:=ok.mono f.toNat u.toNat (by omega) (by omega)
 have hlen:=ok.len
 have hf:f.toNat<t.off.length:=by omega
 have hu:u.toNat<t.off.length:=by omega
 have h3:=ok.range (t.off[f.toNat]'hf) (List.getElem_mem hf)
 have h4:=ok.range (t.off[u.toNat]'hu) (List.getElem_mem hu)
 have e3:t.off[f.toNat]?.getD 0=t.off[f.toNat]:=by rw[List.getElem?_eq_getElem hf];rfl
 have e4:t.off[u.toNat]?.getD 0=t.off[u.toNat]:=by rw[List.getElem?_eq_getElem hu];rfl
 rw[←e3] at h3
 rw[←e4] at h4
 exact⟨h3.1,hm,h4.2⟩
theorem MkS.toks {t:Txt}{b:List UInt8}(ok:TxtOk t b):∀ (n k:Nat) (m:Mk),t.r.length-k≤n→MkS b.length m→MkS b.length ((Q2q t.r k).foldl (Q5R t b) m)
 |0,k,m,h,hi=>by
  rw[Q1o (by omega)];exact hi
 |n+1,k,m,h,hi=>by
  by_cases hlt:k<t.r.length
  ·obtain⟨h1,h2,h3,h4⟩:=Qa1 t.r hlt
   rw[Q1X hlt,List.foldl_cons]
   have hp:Plc t b.length (QI t.r k).from_ (QI t.r k).to:=QeI ok (by omega) (by omega) (by omega)
   exact MkS.toks ok n (QA t.r k).2.1 _ (by omega) (hi.token t b _ _ hp)
  ·rw[Q1o hlt];exact hi
theorem MkS.all {t:Txt}{b:List UInt8}(ok:TxtOk t b){m:Mk}(hi:MkS b.length m):MkS b.length (Q6Y t b m) :=
 MkS.missGo t (QeI ok (by omega) (Int.le_refl _) (Int.le_refl _)) 0 _ _ (MkS.toks ok t.r.length 0 m (by omega) hi)
theorem Qh2 (b:List UInt8)(n:Nat):MkS n (Q42 b):=by
 have h0:MkS n mk0:=⟨(fun x hx=>by cases hx),fun x hx=>by cases hx⟩
 unfold Q42
 split
 ·exact (h0.add (Q72 _ _)).kid _
 ·exact h0
theorem QgM (b:List UInt8):MkS b.length (QD b):=MkS.all (Q3d b).1 (Qh2 b _)
theorem Qam (b:List UInt8):∀ x∈(QE (QD b)).n,Q3s x:=Q5G (QgM b).n (Q9h _ _ _)
end Go.Proofs.YtibemhahkicbpaaGreat
namespace Go.Proofs.YtibemhahkicbpaaGreat
open Go.RowKit Go.Lib Tryz
def IsN (n:Nat)(i:Int):Prop:=i=n
theorem IsN.eq {n:Nat}{i:Int}(h:IsN n i):i=(n:Int):=h
def Cur.el (N:List AV)(c:Cur):List AV:=[.opt (.ref [.slc 6 N]),.val (.int .i64 c.n),.val (.int .i64 c.f),.val (.int .i64 c.k),.opt (upO N c)]
def Qv (N:List AV)(l:List Cur):List AV:=l.map fun c=>.agg (c.el N)
theorem Q2l (N:List AV)(l:List Cur):(Qv N l).length=l.length:=by simp[Qv]
theorem Q5Q (N:List AV)(a b:List Cur):Qv N (a++b)=Qv N a++Qv N b:=by simp[Qv]
def downs (l:List Node)(c:Cur):Nat→List Cur
 |0=>[]
 |k+1=>Q2F l c k::downs l c k
def Q1q (l:List Node):Nat→List Cur→List Cur
 |0,_=>[]
 |n+1,st=>match st.getLast? with
  |none=>[]
  |some x=>x::Q1q l n (st.dropLast++downs l x (Qg l x).length)
def Q8T (l:List Node)(c:Cur)(n:Nat):List Cur:=Q1q l n [c]
def coC (l:List Node)(st:List Cur):Nat:=(st.map fun c=>co l c.n).sum
theorem Q4V (l:List Node)(a b:List Cur):coC l (a++b)=coC l a+coC l b:=by simp[coC]
theorem Qdd (l:List Node)(st:List Cur):st.length≤coC l st:=by
 induction st with
 |nil=>exact Nat.zero_le _
 |cons c r ih=>have:=Qbz l c.n;simp only[coC,List.map_cons,List.sum_cons,List.length_cons] at ih ⊢;omega
theorem Q80 (l:List Node)(c:Cur):∀ k,k≤(Qg l c).length→coC l (downs l c k)=coL l ((Qg l c).take k)
 |0,_=>rfl
 |k+1,h=>by
  have h1:k<(Qg l c).length:=h
  have e:(Qg l c)[(k:Int).toNat]?.getD 0=(Qg l c)[k]:=by rw[Int.toNat_natCast,List.getElem?_eq_getElem h1];rfl
  have ih:=Q80 l c k (by omega)
  rw[List.take_add_one,List.getElem?_eq_getElem h1,Q71]
  show co l (Q2F l c k).n+coC l (downs l c k)=_
  rw[ih,show (Q2F l c k).n=(Qg l c)[k] from e]
  simp only[Option.toList_some,Q78]
  omega
theorem Qal {l:List Node}{W C:Nat}{c:Cur}(ha:Ar l)(h:CurIn l W C c):∀ k,k≤(Qg l c).length→∀ x∈downs l c k,CurIn l W C x
 |0,_,x,hx=>by cases hx
 |k+1,hk,x,hx=>by
  rcases List.mem_cons.1 hx with rfl|hx
  ·exact h.down ha (by omega) (by omega)
  ·exact Qal ha h k (by omega) x hx
theorem Q7v {l:List Node}{Q:Cur→Prop}(hQ:∀ x,Q x→∀ y∈downs l x (Qg l x).length,Q y):∀ (n:Nat) (st:List Cur),(∀ x∈st,Q x)→∀ y∈Q1q l n st,Q y
 |0,_,_,y,hy=>by cases hy
 |n+1,st,h,y,hy=>by
  unfold Q1q at hy
  cases hl:st.getLast? with
  |none=>rw[hl] at hy;cases hy
  |some x =>
   rw[hl] at hy
   have hx:Q x:=h x (List.mem_of_getLast? hl)
   rcases List.mem_cons.1 hy with rfl|hy
   ·exact hx
   ·refine Q7v hQ n _ (fun z hz=>?_) y hy
    rcases List.mem_append.1 hz with hz|hz
    ·exact h z (List.dropLast_subset _ hz)
    ·exact hQ x hx z hz
def CurAt (l:List Node)(b:List UInt8)(c:Cur):Prop:=∃ pre post,b=pre++(pr l c.n++post)∧(pre.length:Int)=c.f
theorem CurAt.down {l:List Node}{b:List UInt8}{W C:Nat}{c:Cur}(ha:Ar l)(ho:∀ x∈l,Q3s x)(h:CurIn l W C c)(hb:CurAt l b c){k:Int}(h0:0≤k)(h1:k<(Qg l c).length):CurAt l b (Q2F l c k):=by
 obtain⟨pre,post,e1,e2⟩:=hb
 have hk:k.toNat<(Qg l c).length:=by omega
 have hx:(Q2F l c k).n=(Qg l c)[k.toNat]:=by show (Qg l c)[k.toNat]?.getD 0=_;rw[List.getElem?_eq_getElem hk];rfl
 have hin:=h.kids ha
 have hnb:(Qk l c.n).b=[]:=by
  have hm:Qk l c.n∈l:=by
   have hlt:c.n.toNat<l.length:=by have:=h.h0;have:=h.h1;omega
   rw[Qk,if_pos ⟨h.h0,h.h1⟩,List.getElem?_eq_getElem hlt]
   exact List.getElem_mem hlt
  rcases ho _ hm with h2|h2
  ·exact h2
  ·have h2:Qg l c=[]:=h2
   rw[h2] at hk;exact absurd hk (by simp)
 have hp:pr l c.n=(Qg l c).flatMap (pr l):=by
  rw[QcS ha.wf h.h0 h.h1,hnb];rfl
 have hsp:Qg l c=(Qg l c).take k.toNat++((Qg l c)[k.toNat]::(Qg l c).drop (k.toNat+1)):=by
  rw[←List.drop_eq_getElem_cons hk,List.take_append_drop]
 have hpk:pr l c.n=((Qg l c).take k.toNat).flatMap (pr l)++(pr l (Qg l c)[k.toNat]++((Qg l c).drop (k.toNat+1)).flatMap (pr l)):=by
  rw[hp]
  conv=>lhs;rw[hsp]
  rw[List.flatMap_append,List.flatMap_cons]
 refine⟨pre++((Qg l c).take k.toNat).flatMap (pr l),((Qg l c).drop (k.toNat+1)).flatMap (pr l)++post,?_,?_⟩
 ·rw[e1,hpk,hx];simp only[List.append_assoc]
 ·show ((pre++_).length:Int)=c.f+Q19 l ((Qg l c).take k.toNat)
  rw[Q6d ha.wide (fun y hy=>hin y (List.mem_of_mem_take hy)),List.length_append]
  omega
def CurB (l:List Node)(b:List UInt8)(C:Nat)(c:Cur):Prop:=CurIn l b.length C c∧CurAt l b c
theorem CurB.downs {l:List Node}{b:List UInt8}{C:Nat}{c:Cur}(ha:Ar l)(ho:∀ x∈l,Q3s x)(h:CurB l b C c):∀ k,k≤(Qg l c).length→∀ x∈Go.Proofs.YtibemhahkicbpaaGreat.downs l c k,CurB l b C x
 |0,_,x,hx=>by cases hx
 |k+1,hk,x,hx=>by
  rcases List.mem_cons.1 hx with rfl|hx
  ·exact⟨h.1.down ha (by omega) (by omega),h.2.down ha ho h.1 (by omega) (by omega)⟩
  ·exact CurB.downs ha ho h k (by omega) x hx
theorem Qgn {l:List Node}{b:List UInt8}{C:Nat}{c:Cur}(ha:Ar l)(ho:∀ x∈l,Q3s x)(h:CurB l b C c)(n:Nat):∀ x∈Q8T l c n,CurB l b C x :=
 Q7v (fun x hx y hy=>hx.downs ha ho _ (Nat.le_refl _) y hy) n [c] (fun x hx=>by
  obtain rfl:x=c:=by simpa using hx
  exact h)
theorem CurAt.cut {l:List Node}{b:List UInt8}{c:Cur}(h:CurAt l b c):(b.drop c.f.toNat).take (pr l c.n).length=pr l c.n:=by
 obtain⟨pre,post,e1,e2⟩:=h
 rw[e1,show c.f.toNat=pre.length by omega,List.drop_left,List.take_left]
def Qjt (w:Int→Int):Nat→List AV→List Ob→Option (AV×List Ob):=fun f args _=>match f,args with
 |58,[.opt (.ref [.slc 6 _]),.val (.int .i64 n)]=>some (.val (.int .i64 (w n)),[])
 |_,_=>none
def spO:OT:=.then [0,2,4,5,6,7] (.fork (.then [1] (.fork (.of [3,8,9,10,11]) (.of [8,3,9,10,11]))) (.fork (.then [3] (.fork (.of [1,8,9,10,11]) (.of [8,9,1,10,11]))) (.then [8] (.fork (.of [1,3,9,10,11]) (.of [3,9,1,10,11])))))
theorem Qhw (l:List Node)(c:Cur)(h:0≤c.f+Qm l c.n∧c.f+Qm l c.n≤9223372036854775807):BCall prog 23 [.agg (c.el (Q0 l))] [] (.agg [.val (.int .i64 c.f),.val (.int .i64 (c.f+Qm l c.n))]) []:=by
 have cW:=(Q9C l c.n).le (args:=[.opt (.ref [.slc 6 (Q0 l)]),.val (.int .i64 c.n)]) ⟨.inr (.inr (.inr rfl)),.inl rfl,trivial⟩
 rw[Cur.el]
 obtain⟨cn,hcn⟩:=exq c.n
 obtain⟨cf,hcf⟩:=exq c.f
 obtain⟨ck,hck⟩:=exq c.k
 rw[←hcn] at cW h ⊢
 rw[←hcf] at h ⊢
 rw[←hck]
 refine fnO false (cs:=Qjt (Qm l)) (ord:=fun id=>match id with|1=> spO|_=>.nil) func23 rfl (by kernel_rfl) ?_
 intro w0 g0
 generalize hp:std=p
 generalize hU:upO (Q0 l) c=U
 generalize hw:Qm l=w
 generalize hN:Q0 l=N
 generalize hT:Q8 p tys (Qjt w) _ _ _ _=T
 cbv at hT
 subst hT
 simp only[Tree.ok,Q4,S0]
 subst hp hU hw hN
 have hI:std.inR .i64 (std.add cf (Qm l cn)):=⟨by show (-9223372036854775808:Int)≤cf+Qm l cn;omega,h.2⟩
 repeat' (with_reducible apply And.intro)
 all_goals first
  |exact cW
  |exact hI
  |exact .pure rfl ⟨.inl rfl,.inl rfl,trivial⟩
def Qjq (pr:Int→List AV):Nat→List AV→List Ob→Option (AV×List Ob):=fun f args _=>match f,args with
 |59,[.opt (.ref [.slc 6 _]),.val (.int .i64 n)]=>some (.slc 1 (pr n),[])
 |_,_=>none
theorem QgC (l:List Node)(c:Cur)(h:PrOk l c.n):BCall prog 24 [.agg (c.el (Q0 l))] [] (.slc 1 (Q3 (pr l c.n))) []:=by
 have cP:=(QcC l h.len h.wf h.wide c.n h.h0 h.h1 h.p h.c).le (args:=[.opt (.ref [.slc 6 (Q0 l)]),.val (.int .i64 c.n)]) ⟨.inr (.inr (.inr rfl)),.inl rfl,trivial⟩
 rw[Cur.el]
 obtain⟨cn,hcn⟩:=exq c.n
 obtain⟨cf,hcf⟩:=exq c.f
 obtain⟨ck,hck⟩:=exq c.k
 rw[←hcn] at cP ⊢
 rw[←hcf,←hck]
 clear h
 refine fnN (cs:=Qjq (prA l)) func24 rfl (by kernel_rfl) ?_
 intro w0 g0
 generalize hp:std=p
 generalize hU:upO (Q0 l) c=U
 generalize hpr:prA l=pr
 generalize hN:Q0 l=N
 generalize hT:Q8 p tys (Qjq pr) _ _ _ _=T
 cbv at hT
 subst hT
 simp only[Tree.ok,Q4,S0]
 subst hp hU hpr hN
 exact⟨cP,.pure rfl (.inl rfl)⟩
theorem QgU (l:List Node)(c:Cur)(k:Int)(h0:0≤k)(h1:k<(Qg l c).length)(hw:∀ n,0≤Qm l n)(ok:CurOk l c) :
  BCall prog 56 [.agg (c.el (Q0 l)),.val (.int .i64 k)] [] (.tup [.agg ((Q2F l c k).el (Q0 l)),.val (.bool true)]) [] :=
 ((QhY l c k h0 h1 ok.n hw ok.s ok.f0 ok.f1).le (args:=[.agg (c.el (Q0 l)),.val (.int .i64 k)]) ⟨⟨.inr (.inr (.inr rfl)),.inl rfl,.inl rfl,.inl rfl,.inl rfl,trivial⟩,.inl rfl,trivial⟩).res (res':=.tup [.agg ((Q2F l c k).el (Q0 l)),.val (.bool true)]) ⟨⟨.inr (.inr (.inl ⟨rfl,trivial⟩)),.inl rfl,.inl rfl,.inl rfl,.inl rfl,trivial⟩,.inl rfl,trivial⟩
theorem Qc5 (l:List Node):∀ n,Q1q l n []=[]
 |0=>rfl
 |_+1=>rfl
theorem QbI (l:List Node)(n:Nat)(st:List Cur)(x:Cur):Q1q l (n+1) (st++[x])=x::Q1q l n (st++downs l x (Qg l x).length):=by
 show (match (st++[x]).getLast? with|none=>[]|some y=>y::Q1q l n ((st++[x]).dropLast++downs l y (Qg l y).length))=_
 simp
theorem QhM (l:List Node)(c:Cur)(hn:(Qg l c).length≤1000000000):BCall prog 68 [.opt (.ref [.slc 6 (Q0 l)]),.val (.int .i64 c.n)] [] (.slc 1 (Q1k l c.n)) [] :=
 (Qg2 l c.n hn).le (args:=[.opt (.ref [.slc 6 (Q0 l)]),.val (.int .i64 c.n)]) ⟨.inr (.inr (.inr rfl)),.inl rfl,trivial⟩
def dnW (l:List Node)(n i:Int):Int:=(Qk l n).kids[i.toNat]?.getD 0
def dfW (l:List Node)(n f i:Int):Int:=f+Q19 l ((Qk l n).kids.take i.toNat)
def duW (N:List AV)(n f k:Int)(U:AV):AV:=.ref [.ref [.slc 6 N],.val (.int .i64 n),.val (.int .i64 f),.val (.int .i64 k),U]
def Q9Q (N:List AV)(kd:Int→List AV)(dn:Int→Int→Int)(df:Int→Int→Int→Int)(du:Int→Int→Int→AV→AV):Nat→List AV→List Ob→Option (AV×List Ob):=fun g args _=>match g,args with
 |68,[.opt (.ref [.slc 6 _]),.val (.int .i64 n)]=>some (.slc 1 (kd n),[])
 |56,[.agg [.opt (.ref [.slc 6 _]),.val (.int .i64 n),.val (.int .i64 f),.val (.int .i64 k),U],.val (.int .i64 i)]=>some (.tup [.agg [.opt (.ref [.slc 6 N]),.val (.int .i64 (dn n i)),.val (.int .i64 (df n f i)),.val (.int .i64 i),.opt (du n f k U)],.val (.bool true)],[])
 |_,_=>none
theorem QeS (l:List Node)(W C:Nat)(ha:Ar l)(hW:W≤2147483647)(hC:C≤1000000)(c:Cur)(hc:CurIn l W C c)(most:Nat)(hm:most≤2000000000) :
  BCall prog 30 [.agg (c.el (Q0 l)),.val (.int .i64 most)] [] (.slc 5 (Qv (Q0 l) (Q8T l c most))) []:=by
 obtain⟨mo,hmo⟩:∃ mo:Int,IsN most mo:=⟨_,rfl⟩
 rw[←hmo.eq]
 obtain⟨R,hR⟩:=exq (Q8T l c most)
 rw[←hR]
 rw[Cur.el]
 obtain⟨cn,hcn⟩:=exq c.n
 obtain⟨cf,hcf⟩:=exq c.f
 obtain⟨ck,hck⟩:=exq c.k
 rw[←hcn,←hcf,←hck]
 refine fnN (cs:=Q9Q (Q0 l) (Q1k l) (dnW l) (dfW l) (duW (Q0 l))) func30 rfl (by kernel_rfl) ?_
 intro w0 g0
 generalize hp:std=p
 generalize hU:upO (Q0 l) c=U
 generalize hkd:Q1k l=kd
 generalize hdn:dnW l=dn
 generalize hdf:dfW l=df
 generalize hdu:duW (Q0 l)=du
 generalize hN:Q0 l=N
 generalize hT:Q8 p tys (Q9Q N kd dn df du) _ _ _ _=T
 cbv at hT
 subst hT
 simp only[Tree.ok,Q4,S0]
 subst hp hU hkd hdn hdf hdu hN
 refine⟨fun h=>absurd (show false=true from h) (by decide),fun _=>?_⟩
 refine Q1S (cs:=Q9Q (Q0 l) (Q1k l) (dnW l) (dfW l) (duW (Q0 l))) (by kernel_rfl) (X:=List Cur×List Cur) (fun x=>⟨[(1,.val (.int .i64 mo)),(2,.box 0 0),(5,.row 1 0),(6,.row 2 0)],[.box [.opt (.ref [.slc 6 (Q0 l)]),.val (.int .i64 cn),.val (.int .i64 cf),.val (.int .i64 ck),.opt (upO (Q0 l) c)],.row 38 5 false 0 (Qv (Q0 l) x.1),.row 38 5 false 0 (Qv (Q0 l) x.2)]⟩) (fun x=>x.1++Q1q l (most-x.1.length) x.2=R∧(∀ y∈x.2,CurIn l W C y)∧coC l x.2+x.1.length≤C∧x.1.length≤most) (fun x=>most-x.1.length) ([],[c]) ?_ ?_ ?_
 ·refine⟨by rw[hR];rfl,fun y hy=>?_,?_,Nat.zero_le _⟩
  ·obtain rfl:y=c:=by simpa using hy
   exact hc
  ·have:=hc.co
   simpa[coC] using this
 ·refine⟨[some 0,none,some 1],_,rfl,?_⟩
  subst hcn hcf hck
  repeat first
   |exact trivial
   |refine⟨rfl,?_⟩
 ·rintro⟨o,st⟩ ⟨hJ,hin,hco,hol⟩
  simp only at hJ hin hco hol
  have olen:=Q2l (Q0 l) o
  have slen:=Q2l (Q0 l) st
  obtain⟨lo,hlo⟩:=QS o
  obtain⟨ls,hls⟩:=QS st
  have hoA:std.len (Qv (Q0 l) o)=lo:=by show ((Qv (Q0 l) o).length:Int)=lo;rw[olen,hlo.eq]
  have hsA:std.len (Qv (Q0 l) st)=ls:=by show ((Qv (Q0 l) st).length:Int)=ls;rw[slen,hls.eq]
  generalize hp:std=p
  generalize hU:upO (Q0 l) c=U
  generalize hOA:Qv (Q0 l) o=OA
  generalize hSA:Qv (Q0 l) st=SA
  generalize hkd:Q1k l=kd
  generalize hdn:dnW l=dn
  generalize hdf:dfW l=df
  generalize hdu:duW (Q0 l)=du
  generalize hN:Q0 l=N
  generalize hT:Q8 p tys (Q9Q N kd dn df du) _ _ _ _=T
  cbv at hT
  subst hT
  simp only[Tree.ok,Q4,S0]
  subst hp hU hOA hSA hkd hdn hdf hdu hN
  refine⟨fun h1=>⟨fun h2=>?_,fun h2=>?_⟩,fun h1=>?_⟩
  ·have h1:0<std.len (Qv (Q0 l) st):=of_decide_eq_true h1
   have h2:std.len (Qv (Q0 l) o)<mo:=of_decide_eq_true h2
   rw[hsA] at h1
   rw[hoA] at h2
   have hne:st≠[]:=by rintro rfl;have:=hls.eq;simp at this;omega
   obtain⟨st0,x,rfl⟩:∃ st0 x,st=st0++[x]:=⟨st.dropLast,st.getLast hne,(List.dropLast_concat_getLast hne).symm⟩
   have hx:CurIn l W C x:=hin x (by simp)
   have hxo:=hx.ok ha hW hC
   have hkn:=hx.cos ha
   have hkl:=Qd7 l (Qg l x)
   have slen0:=Q2l (Q0 l) st0
   have hat:(Qv (Q0 l) (st0++[x])).getD (((Qv (Q0 l) (st0++[x])).length:Int)-1).toNat .dead=.agg (x.el (Q0 l)):=by
    rw[show (((Qv (Q0 l) (st0++[x])).length:Int)-1).toNat=(Qv (Q0 l) st0).length by rw[Q2l,Q2l];simp,Q5Q]
    simp[Qv]
   have hcut:List.take (((Qv (Q0 l) (st0++[x])).length:Int)-1-0).toNat (List.drop (0:Int).toNat (Qv (Q0 l) (st0++[x])))=Qv (Q0 l) st0:=by
    rw[show (((Qv (Q0 l) (st0++[x])).length:Int)-1-0).toNat=(Qv (Q0 l) st0).length by rw[Q2l,Q2l];simp,Q5Q]
    simp
   obtain⟨n,hn⟩:=QS (Qg l x)
   have hkA:((Q1k l x.n).length:Int)=n:=by
    show ((Q7 (Qg l x)).length:Int)=n
    rw[Q20,hn.eq]
   have cK:=QhM l x (by omega)
   have hcoL:st0.length≤1000000:=by
    have:=Qdd l st0
    rw[Q4V] at hco
    omega
   have hbd:std.bnd (Qv (Q0 l) o) [.agg (x.el (Q0 l))]:=by
    show (Qv (Q0 l) o).length+1≤1000000000
    rw[olen];omega
   simp only[std,hat,hcut,Cur.el,AV.cells,List.drop_zero,List.getD_cons_zero,List.getD_cons_succ,intOf,QhD,Q2y,hkA]
   have hlen1:((Qv (Q0 l) (st0++[x])).length:Int)=st0.length+1:=by rw[Q2l];simp
   have hUx:Q3C (.opt (upO (Q0 l) x)):=Qdk _ _
   refine⟨?_,?_,⟨trivial,trivial,trivial,trivial,hUx,trivial⟩,?_,?_,hbd,cK,?_,?_⟩
   ·show (-9223372036854775808:Int)≤_∧_≤(9223372036854775807:Int)
    rw[hlen1];omega
   ·rw[hlen1];omega
   ·show (-9223372036854775808:Int)≤_∧_≤(9223372036854775807:Int)
    rw[hlen1];omega
   ·rw[hlen1];omega
   ·show (-9223372036854775808:Int)≤n-1∧n-1≤(9223372036854775807:Int)
    have:=hn.eq
    omega
   refine Q1S (cs:=Q9Q (Q0 l) (Q1k l) (dnW l) (dfW l) (duW (Q0 l))) (by kernel_rfl) (X:=Int×List Cur) (fun y=>⟨[(1,.val (.int .i64 mo)),(2,.box 0 0),(5,.row 1 0),(6,.row 2 0),(7,.box 3 0),(8,.val (.int .i64 y.1))],[.box [.opt (.ref [.slc 6 (Q0 l)]),.val (.int .i64 cn),.val (.int .i64 cf),.val (.int .i64 ck),.opt (upO (Q0 l) c)],.row 38 5 false 0 (Qv (Q0 l) (o++[x])),.row 38 5 false 0 (Qv (Q0 l) y.2),.box (x.el (Q0 l))]⟩) (fun y=>-1≤y.1∧y.1<n∧y.2++downs l x (y.1+1).toNat=st0++downs l x (Qg l x).length) (fun y=>(y.1+1).toNat) (n-1,st0) ?_ ?_ ?_
   ·have:=hn.eq
    refine⟨?_,?_,?_⟩
    ·show (-1:Int)≤n-1
     omega
    ·show n-1<n
     omega
    ·show st0++downs l x (n-1+1).toNat=_
     rw[show (n-1+1).toNat=(Qg l x).length by omega]
   ·refine⟨[some 0,some 1,some 2,some 3],_,rfl,?_⟩
    have happ:Qv (Q0 l) o++[.agg (x.el (Q0 l))]=Qv (Q0 l) (o++[x]):=by rw[Q5Q];rfl
    repeat first
     |exact trivial
     |refine⟨rfl,?_⟩
     |refine⟨happ,?_⟩
     |refine⟨gI (happ),?_⟩
     |refine⟨gA (happ),?_⟩
     |refine⟨gB (happ),?_⟩
     |refine⟨gR (happ),?_⟩
     |refine⟨gT (happ),?_⟩
     |refine⟨hcut,?_⟩
     |refine⟨gI (hcut),?_⟩
     |refine⟨gA (hcut),?_⟩
     |refine⟨gB (hcut),?_⟩
     |refine⟨gR (hcut),?_⟩
     |refine⟨gT (hcut),?_⟩
   ·rintro⟨k,s1⟩ ⟨hk0,hk1,hks⟩
    simp only at hk0 hk1 hks
    have hs1:s1.length≤1000000:=by
     have h3:=congrArg (coC l) hks
     rw[Q4V,Q4V,Q80 l x _ (Nat.le_refl _),List.take_length] at h3
     have h4:=Qdd l s1
     have h5:coC l [x]=1+coL l (Qg l x):=by
      show co l x.n+0=_
      rw[Nat.add_zero,Qbo ha.wf hx.h0 hx.h1];rfl
     rw[Q4V,h5] at hco
     omega
    have s1len:=Q2l (Q0 l) s1
    obtain⟨xn,hxn⟩:=exq x.n
    obtain⟨xf,hxf⟩:=exq x.f
    obtain⟨xk,hxk⟩:=exq x.k
    by_cases hk:0≤k
    ·have cD:=QgU l x k hk (by have:=hn.eq;omega) ha.ok.w hxo
     have hdn:(Q2F l x k).el (Q0 l)=[.opt (.ref [.slc 6 (Q0 l)]),.val (.int .i64 (dnW l xn k)),.val (.int .i64 (dfW l xn xf k)),.val (.int .i64 k),.opt (duW (Q0 l) xn xf xk (.opt (upO (Q0 l) x)))]:=by
      rw[hxn,hxf,hxk];rfl
     rw[hdn] at cD
     have hks2:(s1++[Q2F l x k])++downs l x k.toNat=st0++downs l x (Qg l x).length:=by
      rw[←hks,show (k+1).toNat=k.toNat+1 by omega]
      show _=s1++(Q2F l x (k.toNat:Nat)::downs l x k.toNat)
      rw[Int.toNat_of_nonneg hk];simp
     have happ2:Qv (Q0 l) s1++[.agg ((Q2F l x k).el (Q0 l))]=Qv (Q0 l) (s1++[Q2F l x k]):=by rw[Q5Q];rfl
     rw[hdn] at happ2
     have hbd2:∀ z,std.bnd (Qv (Q0 l) s1) [z]:=fun z=>by
      show (Qv (Q0 l) s1).length+1≤1000000000
      rw[s1len];omega
     simp only[Cur.el] at cD ⊢
     rw[←hxn,←hxf,←hxk] at cD ⊢
     clear hks hdn
     generalize hp:std=p
     generalize hU:upO (Q0 l) c=U
     generalize hUX:upO (Q0 l) x=UX
     generalize hOA:Qv (Q0 l) (o++[x])=OA
     generalize hSA:Qv (Q0 l) s1=SA
     generalize hkd:Q1k l=kd
     generalize hdn:dnW l=dn
     generalize hdf:dfW l=df
     generalize hdu:duW (Q0 l)=du
     generalize hN:Q0 l=N
     generalize hT:Q8 p tys (Q9Q N kd dn df du) _ _ _ _=T
     cbv at hT
     subst hT
     simp only[Tree.ok,Q4,S0]
     subst hp hU hUX hOA hSA hkd hdn hdf hdu hN
     refine⟨fun _=>⟨cD,hbd2 _,?_,(k-1,s1++[Q2F l x k]),⟨?_,?_,?_⟩,?_,[some 0,some 1,some 2,some 3],_,rfl,?_⟩,fun h=>?_⟩
     ·show (-9223372036854775808:Int)≤k-1∧k-1≤(9223372036854775807:Int)
      have:=hn.eq
      omega
     ·show (-1:Int)≤k-1
      omega
     ·show k-1<n
      omega
     ·show (s1++[Q2F l x k])++downs l x (k-1+1).toNat=_
      rw[show (k-1+1).toNat=k.toNat by omega];exact hks2
     ·show (k-1+1).toNat<(k+1).toNat
      omega
     ·repeat first
       |exact trivial
       |refine⟨rfl,?_⟩
       |refine⟨happ2,?_⟩
       |refine⟨gI (happ2),?_⟩
       |refine⟨gA (happ2),?_⟩
       |refine⟨gB (happ2),?_⟩
       |refine⟨gR (happ2),?_⟩
       |refine⟨gT (happ2),?_⟩
     ·have h:¬ 0≤k:=of_decide_eq_false h
      omega
    ·have hk2:k=-1:=by omega
     subst hk2
     have hs2:s1=st0++downs l x (Qg l x).length:=by
      rw[←hks];show s1=s1++[];simp
     simp only[Cur.el]
     rw[←hxn,←hxf,←hxk]
     generalize hp:std=p
     generalize hU:upO (Q0 l) c=U
     generalize hUX:upO (Q0 l) x=UX
     generalize hOA:Qv (Q0 l) (o++[x])=OA
     generalize hSA:Qv (Q0 l) s1=SA
     generalize hkd:Q1k l=kd
     generalize hdn:dnW l=dn
     generalize hdf:dfW l=df
     generalize hdu:duW (Q0 l)=du
     generalize hN:Q0 l=N
     generalize hT:Q8 p tys (Q9Q N kd dn df du) _ _ _ _=T
     cbv at hT
     subst hT
     simp only[Tree.ok,Q4,S0]
     subst hp hU hUX hOA hSA hkd hdn hdf hdu hN
     refine⟨fun h=>?_,fun _=>?_⟩
     ·exact absurd (show decide ((0:Int)≤-1)=true from h) (by decide)
     rw[if_pos trivial]
     have hlt:o.length<most:=by have:=hlo.eq;have:=hmo.eq;omega
     refine⟨(o++[x],st0++downs l x (Qg l x).length),⟨?_,fun y hy=>?_,?_,?_⟩,?_,[some 0,some 1,some 2],_,rfl,?_⟩
     ·show (o++[x])++Q1q l (most-(o++[x]).length) (st0++downs l x (Qg l x).length)=R
      rw[←hJ,show most-o.length=(most-(o++[x]).length)+1 by simp;omega,QbI]
      simp
     ·have hy:y∈st0++downs l x (Qg l x).length:=hy
      rcases List.mem_append.1 hy with hy|hy
      ·exact hin y (List.mem_append_left _ hy)
      ·exact Qal ha hx _ (Nat.le_refl _) y hy
     ·show coC l (st0++downs l x (Qg l x).length)+(o++[x]).length≤C
      have h5:coC l [x]=1+coL l (Qg l x):=by
       show co l x.n+0=_
       rw[Nat.add_zero,Qbo ha.wf hx.h0 hx.h1];rfl
      rw[Q4V,h5] at hco
      rw[Q4V,Q80 l x _ (Nat.le_refl _),List.take_length,List.length_append,List.length_singleton]
      omega
     ·show (o++[x]).length≤most
      simp;omega
     ·show most-(o++[x]).length<most-o.length
      simp;omega
     ·subst hs2
      repeat first
       |exact trivial
       |refine⟨rfl,?_⟩
  ·have h2:¬ std.len (Qv (Q0 l) o)<mo:=of_decide_eq_false h2
   rw[hoA] at h2
   have hR2:o=R:=by
    have:=hlo.eq
    have:=hmo.eq
    rw[←hJ,show most-o.length=0 by omega]
    simp[Q1q]
   rw[if_pos trivial,←hR2]
   clear h2 hmo
   generalize hp:std=p
   generalize hU:upO (Q0 l) c=U
   generalize hOA:Qv (Q0 l) o=OA
   generalize hSA:Qv (Q0 l) st=SA
   generalize hkd:Q1k l=kd
   generalize hdn:dnW l=dn
   generalize hdf:dfW l=df
   generalize hdu:duW (Q0 l)=du
   generalize hN:Q0 l=N
   generalize hT:Q8 p tys (Q9Q N kd dn df du) _ _ _ _=T
   cbv at hT
   subst hT
   simp only[Tree.ok,Q4,S0]
   subst hp hU hOA hSA hkd hdn hdf hdu hN
   exact .pure rfl (.inl rfl)
  ·have h1:¬ 0<std.len (Qv (Q0 l) st):=of_decide_eq_false h1
   rw[hsA] at h1
   have hst:st=[]:=List.eq_nil_of_length_eq_zero (by have:=hls.eq;omega)
   have hR2:o=R:=by
    rw[←hJ,hst,Qc5]
    simp
   rw[if_pos trivial,←hR2]
   clear h1 hmo
   generalize hp:std=p
   generalize hU:upO (Q0 l) c=U
   generalize hOA:Qv (Q0 l) o=OA
   generalize hSA:Qv (Q0 l) st=SA
   generalize hkd:Q1k l=kd
   generalize hdn:dnW l=dn
   generalize hdf:dfW l=df
   generalize hdu:duW (Q0 l)=du
   generalize hN:Q0 l=N
   generalize hT:Q8 p tys (Q9Q N kd dn df du) _ _ _ _=T
   cbv at hT
   subst hT
   simp only[Tree.ok,Q4,S0]
   subst hp hU hOA hSA hkd hdn hdf hdu hN
   exact .pure rfl (.inl rfl)
end Go.Proofs.YtibemhahkicbpaaGreat
namespace Go.Proofs.YtibemhahkicbpaaGreat
open Go.RowKit Go.Lib
def toW (l:List Node)(f n:Int):Int:=f+Qm l n
theorem CurB.pr {l:List Node}{b:List UInt8}{C:Nat}{c:Cur}(ha:Ar l)(hl:l.length≤1000000000)(hb:b.length≤1000000)(hC:C≤1000000)(h:CurB l b C c):PrOk l c.n:=by
 refine⟨hl,ha.wf,ha.wide,h.1.h0,h.1.h1,?_,by have:=h.1.co;omega⟩
 obtain⟨pre,post,e1,_⟩:=h.2
 have:=congrArg List.length e1
 simp only[List.length_append] at this
 omega
theorem Q85 (l:List Node):∀ (n:Nat) (st:List Cur),(Q1q l n st).length≤n
 |0,_=>Nat.le_refl _
 |n+1,st=>by
  unfold Q1q
  cases st.getLast? with
  |none=>exact Nat.zero_le _
  |some x=>simp only[List.length_cons];have:=Q85 l n (st.dropLast++downs l x (Qg l x).length);omega
def Q4I (kind:Int)(b:List UInt8):List Int:=(Q6n kind b).map Itm.r
theorem Q6N (l:List UInt8)(h:(Qj l).1≠-1):0<QH (Qj l).1:=by
 have h':¬ ((decodeL l).1=65533∧(decodeL l).2=1):=fun hh=>h (by rw[Qj,if_pos hh])
 rw[Qj,if_neg h']
 show 0<QH ((decodeL l).1:Int)
 clear h
 rw[decodeL_N] at h' ⊢
 have k0:=(l.getD 0 0).toNat_lt
 have k1:=(l.getD 1 0).toNat_lt
 have k2:=(l.getD 2 0).toNat_lt
 have k3:=(l.getD 3 0).toNat_lt
 rcases decodeN_shape l.length (l.getD 0 0).toNat (l.getD 1 0).toNat (l.getD 2 0).toNat (l.getD 3 0).toNat with ⟨c,e⟩|⟨c1,c2,c3,cv,e⟩|⟨c1,c2,c3,c4,cv,cs,e⟩|⟨c1,c2,c3,c4,c5,cv,cw,e⟩|e
 all_goals (rw[e] at h' ⊢;dsimp only at h' ⊢)
 all_goals (try (exact absurd ⟨rfl,rfl⟩ h'))
 all_goals (unfold QH;repeat' split)
 all_goals omega
theorem Qc9 (l:List UInt8)(n:Nat)(hne:l≠[])(hn:(Qj l).2≤n):Qj (l.take n)=Qj l:=by
 by_cases h:(Qj l).1=-1
 ·have h2:Qj l=(-1,1):=by
   unfold Qj at h ⊢
   split
   ·rfl
   ·rename_i h3
    rw[if_neg h3] at h
    simp only at h
    omega
  have h1:1≤n:=by rw[h2] at hn;exact hn
  have hne2:l.take n≠[]:=by
   intro h3
   rcases List.take_eq_nil_iff.1 h3 with h3|h3
   ·omega
   ·exact hne h3
  by_cases h3:(Qj (l.take n)).1=-1
  ·rw[h2]
   unfold Qj at h3 ⊢
   split
   ·rfl
   ·rename_i h4
    rw[if_neg h4] at h3
    simp only at h3
    omega
  ·have g:=Q4K _ hne2 h3
   have hle:=Q6r _ hne2
   refine absurd ⟨l.drop (Qj (l.take n)).2,?_⟩ (Qcc l h _ (Q6N _ h3))
   rw[←g,List.take_take,Nat.min_eq_left (by rw[List.length_take] at hle;omega),List.take_append_drop]
 ·have g:=Q4K _ hne h
  have hw:=Q6N _ h
  have e:l.take n=encodeRune (Qj l).1++(l.drop (Qj l).2).take (n-(Qj l).2):=by
   rw[←g,←List.drop_take]
   conv=>lhs;rw[←List.take_append_drop (Qj l).2 (l.take n),List.take_take,Nat.min_eq_left hn]
  have e2:l=encodeRune (Qj l).1++l.drop (Qj l).2:=by rw[←g,List.take_append_drop]
  rw[e,Q4b _ hw]
  conv=>rhs;rw[e2,Q4b _ hw]
theorem Q6l (big:Bool)(x y:UInt8):(QT big [x,y]).2=2:=by
 unfold QT;simp only;split<;>rfl
theorem Qec (big:Bool)(l:List UInt8)(n:Nat)(hne:l≠[])(h:(QT big l).2≤n):QT big (l.take n)=QT big l:=by
 match l,hne with
 | [x],_ =>
  have h:(1:Int)≤n:=h
  rw[List.take_of_length_le (by simp;omega)]
 | [x,y],_ =>
  rw[Q6l] at h
  rw[List.take_of_length_le (by simp;omega)]
 | [x,y,z],_ =>
  have e:QT big [x,y,z]=QT big [x,y]:=rfl
  rw[e,Q6l] at h
  by_cases h2:n=2
  ·subst h2;rfl
  ·rw[List.take_of_length_le (by simp;omega)]
 |x::y::x2::y2::r,_ =>
  have e:QT big (x::y::x2::y2::r)=if (55296≤QF big x y∧QF big x y<56320)∧(56320≤QF big x2 y2∧QF big x2 y2<57344) then (65536+(QF big x y-55296) * 1024+(QF big x2 y2-56320),4) else QT big [x,y]:=rfl
  by_cases hC:(55296≤QF big x y∧QF big x y<56320)∧(56320≤QF big x2 y2∧QF big x2 y2<57344)
  ·rw[e,if_pos hC] at h ⊢
   have h:(4:Int)≤n:=h
   obtain⟨m,rfl⟩:∃ m,n=m+4:=⟨n-4,by omega⟩
   show QT big (x::y::x2::y2::r.take m)=_
   exact if_pos hC
  ·rw[e,if_neg hC] at h ⊢
   rw[Q6l] at h
   by_cases h2:n=2
   ·subst h2;rfl
   ·by_cases h3:n=3
    ·subst h3;rfl
    ·obtain⟨m,rfl⟩:∃ m,n=m+4:=⟨n-4,by omega⟩
     show QT big (x::y::x2::y2::r.take m)=_
     exact if_neg hC
def Q1y (kind:Int)(l:List UInt8):Int×Nat:=if kind=0 then Qj l else ((QT (decide (kind=1)) l).1,(QT (decide (kind=1)) l).2.toNat)
theorem Q64 (kind:Int)(l:List UInt8)(hne:l≠[]):1≤(Q1y kind l).2∧(Q1y kind l).2≤l.length:=by
 unfold Q1y
 split
 ·exact⟨Q5A l,Q6r l hne⟩
 ·have:=Q5M (decide (kind=1)) l hne
  simp only
  omega
theorem Qeo (kind:Int)(l:List UInt8)(n:Nat)(hne:l≠[])(h:(Q1y kind l).2≤n):Q1y kind (l.take n)=Q1y kind l:=by
 unfold Q1y at h ⊢
 split
 ·rename_i hk
  rw[if_pos hk] at h
  exact Qc9 l n hne h
 ·rename_i hk
  rw[if_neg hk] at h
  simp only at h
  rw[Qec _ l n hne (by omega)]
def QbC (kind:Int)(n off:Nat)(l:List UInt8):List Itm:=if kind=0 then (Q1U n off l).map QcZ else if kind=1 then Q1B true off l else if kind=2 then Q1B false off l else []
theorem Q5K (kind:Int)(n off:Nat):QbC kind n off []=[]:=by
 unfold QbC
 rw[Q2u,Q1B,dif_pos rfl,Q1B,dif_pos rfl]
 simp
theorem Q9c (big:Bool)(off:Nat){l:List UInt8}(hne:l≠[]):Q1B big off l=⟨(QT big l).1,(off:Int),((QT big l).2.toNat:Int)⟩::Q1B big ((off+(QT big l).2.toNat:Nat):Int) (l.drop (QT big l).2.toNat):=by
 have:=Q5M big l hne
 have e1:((QT big l).2.toNat:Int)=(QT big l).2:=Int.toNat_of_nonneg (by omega)
 have e2:((off+(QT big l).2.toNat:Nat):Int)=(off:Int)+(QT big l).2:=by rw[Int.natCast_add,e1]
 rw[e2,e1]
 conv=>lhs;rw[Q1B,dif_neg hne]
theorem Q9g {kind:Int}(hk:kind=0∨kind=1∨kind=2){l:List UInt8}(hne:l≠[])(n off:Nat):QbC kind (n+1) off l=⟨(Q1y kind l).1,off,(Q1y kind l).2⟩::QbC kind n (off+(Q1y kind l).2) (l.drop (Q1y kind l).2):=by
 rcases hk with rfl|rfl|rfl
 ·obtain⟨b,t,rfl⟩:=List.exists_cons_of_ne_nil hne
  rfl
 ·exact Q9c true off hne
 ·exact Q9c false off hne
def wdK (kind:Int):Nat→List UInt8→Nat
 |0,_=>0
 |j+1,l=>if l=[] then 0 else (Q1y kind l).2+wdK kind j (l.drop (Q1y kind l).2)
def rnK (kind:Int):Nat→List UInt8→List Int
 |0,_=>[]
 |n+1,l=>if l=[] then [] else (Q1y kind l).1::rnK kind n (l.drop (Q1y kind l).2)
theorem Q5Z (kind:Int)(j:Nat):wdK kind j []=0:=by cases j<;>rfl
theorem Q3z (kind:Int)(n:Nat):rnK kind n []=[]:=by cases n<;>rfl
theorem QfQ {kind:Int}(hk:kind=0∨kind=1∨kind=2):∀ (n off:Nat) (l:List UInt8),l.length≤n→(QbC kind n off l).map Itm.r=rnK kind n l
 |0,off,l,h=>by
  obtain rfl:l=[]:=List.eq_nil_of_length_eq_zero (by omega)
  rw[Q5K];rfl
 |n+1,off,l,h=>by
  by_cases hne:l=[]
  ·subst hne
   rw[Q5K];rfl
  ·have hs:=Q64 kind l hne
   rw[Q9g hk hne,rnK,if_neg hne,List.map_cons,QfQ hk n _ _ (by rw[List.length_drop];omega)]
theorem Qb1 {kind:Int}(hk:kind=0∨kind=1∨kind=2):∀ (n off:Nat) (l:List UInt8),l.length≤n→∀ j,j≤(QbC kind n off l).length→((QbC kind n off l).map Itm.off++[((off+l.length:Nat):Int)])[j]?=some ((off+wdK kind j l:Nat):Int)
 |0,off,l,h,j,hj=>by
  obtain rfl:l=[]:=List.eq_nil_of_length_eq_zero (by omega)
  rw[Q5K] at hj ⊢
  obtain rfl:j=0:=by simpa using hj
  rfl
 |n+1,off,l,h,j,hj=>by
  by_cases hne:l=[]
  ·subst hne
   rw[Q5K] at hj ⊢
   obtain rfl:j=0:=by simpa using hj
   rfl
  ·have hs:=Q64 kind l hne
   rw[Q9g hk hne] at hj ⊢
   cases j with
   |zero=>rfl
   |succ j =>
    have ih:=Qb1 hk n (off+(Q1y kind l).2) (l.drop (Q1y kind l).2) (by rw[List.length_drop];omega) j (by simpa using hj)
    rw[List.length_drop,show off+(Q1y kind l).2+(l.length-(Q1y kind l).2)=off+l.length by omega] at ih
    rw[wdK,if_neg hne,←Nat.add_assoc,←ih]
    rfl
theorem Q7g (kind:Int):∀ (n m:Nat) (l:List UInt8),l.length≤n→l.length≤m→rnK kind n l=rnK kind m l
 |0,m,l,h,_=>by
  obtain rfl:l=[]:=List.eq_nil_of_length_eq_zero (by omega)
  rw[Q3z,Q3z]
 |n+1,0,l,_,h=>by
  obtain rfl:l=[]:=List.eq_nil_of_length_eq_zero (by omega)
  rw[Q3z,Q3z]
 |n+1,m+1,l,h1,h2=>by
  by_cases hne:l=[]
  ·subst hne;rfl
  ·have hs:=Q64 kind l hne
   rw[rnK,rnK,if_neg hne,if_neg hne,Q7g kind n m _ (by rw[List.length_drop];omega) (by rw[List.length_drop];omega)]
theorem Qbf (kind:Int):∀ (n j:Nat) (l:List UInt8),l.length≤n→rnK kind n (l.take (wdK kind j l))=(rnK kind n l).take j
 |0,j,l,h=>by
  obtain rfl:l=[]:=List.eq_nil_of_length_eq_zero (by omega)
  rw[Q5Z];simp[rnK]
 |n+1,j,l,h=>by
  by_cases hne:l=[]
  ·subst hne
   rw[Q5Z,Q3z];simp[Q3z]
  ·have hs:=Q64 kind l hne
   cases j with
   |zero=>rfl
   |succ j =>
    have ih:=Qbf kind n j (l.drop (Q1y kind l).2) (by rw[List.length_drop];omega)
    rw[wdK,if_neg hne]
    have hne2:l.take ((Q1y kind l).2+wdK kind j (l.drop (Q1y kind l).2))≠[]:=by
     intro h3
     rcases List.take_eq_nil_iff.1 h3 with h3|h3
     ·omega
     ·exact hne h3
    rw[rnK,if_neg hne2,Qeo kind l _ hne (by omega),List.drop_take,show (Q1y kind l).2+wdK kind j (l.drop (Q1y kind l).2)-(Q1y kind l).2=wdK kind j (l.drop (Q1y kind l).2) by omega,ih,rnK,if_neg hne]
    rfl
theorem Qbe (kind:Int):∀ (n j:Nat) (l:List UInt8),l.length≤n→rnK kind n (l.drop (wdK kind j l))=(rnK kind n l).drop j
 |0,j,l,h=>by
  obtain rfl:l=[]:=List.eq_nil_of_length_eq_zero (by omega)
  rw[Q5Z];simp[rnK]
 |n+1,j,l,h=>by
  by_cases hne:l=[]
  ·subst hne
   rw[Q5Z,Q3z];simp[Q3z]
  ·have hs:=Q64 kind l hne
   cases j with
   |zero=>rfl
   |succ j =>
    have ih:=Qbe kind n j (l.drop (Q1y kind l).2) (by rw[List.length_drop];omega)
    rw[wdK,if_neg hne,←List.drop_drop,Q7g kind (n+1) n _ (by rw[List.length_drop,List.length_drop];omega) (by rw[List.length_drop,List.length_drop];omega),ih]
    conv=>rhs;rw[rnK,if_neg hne]
    rfl
theorem QcR (kind:Int):∀ (f g:Nat) (l:List UInt8),wdK kind (f+g) l=wdK kind f l+wdK kind g (l.drop (wdK kind f l))
 |0,g,l=>by rw[Nat.zero_add];show _=0+wdK kind g (l.drop 0);rw[Nat.zero_add,List.drop_zero]
 |f+1,g,l=>by
  by_cases hne:l=[]
  ·subst hne;simp[Q5Z]
  ·rw[show f+1+g=(f+g)+1 by omega,wdK,if_neg hne,wdK,if_neg hne,QcR kind f g,List.drop_drop]
   omega
theorem Q8P {kind:Int}(hk:kind=0∨kind=1∨kind=2)(l:List UInt8):Q4I kind l=rnK kind l.length l:=QfQ hk l.length 0 l (Nat.le_refl _)
theorem QcH (b:List UInt8){j:Nat}(hj:j≤(Q9 b).r.length):Q1N (Q9 b) j=((QB b).2.toNat+wdK (QB b).1 j (b.drop (QB b).2.toNat):Nat):=by
 have hb:=Q3R b
 have hj2:j≤(Q2z b).length:=by
  have:(Q9 b).r.length=(Q2z b).length:=List.length_map _
  omega
 have h:=Qb1 (Q6b b) (b.drop (QB b).2.toNat).length 0 (b.drop (QB b).2.toNat) (Nat.le_refl _) j hj2
 have h:((Q2z b).map Itm.off++[((0+(b.drop (QB b).2.toNat).length:Nat):Int)])[j]?=some ((0+wdK (QB b).1 j (b.drop (QB b).2.toNat):Nat):Int):=h
 rw[Nat.zero_add,Nat.zero_add,List.length_drop,show ((b.length-(QB b).2.toNat:Nat):Int)=(b.length:Int)-(QB b).2 by omega] at h
 show ((Q9 b).off[(j:Int).toNat]?.getD 0:Int)=_
 rw[Qar,Int.toNat_natCast,List.getElem?_map,h]
 show (_+_:Int)=_
 rw[Int.natCast_add,Int.toNat_of_nonneg hb.1,Int.add_comm]
theorem Qbm (b:List UInt8){f u:Int}(h0:0≤f)(h1:f≤u)(h2:u≤(Q9 b).r.length):Q4I (Q9 b).kind (QM (Q9 b) b f u)=((Q9 b).r.drop f.toNat).take (u-f).toNat:=by
 obtain⟨i,rfl⟩:=Int.eq_ofNat_of_zero_le h0
 obtain⟨g,rfl⟩:∃ g:Nat,u=((i+g:Nat):Int):=⟨(u-i).toNat,by omega⟩
 obtain⟨c,hc⟩:=exq (b.drop (QB b).2.toNat)
 have e1:((Q9 b).off[(i:Int).toNat]?.getD 0:Int)=_:=QcH b (j:=i) (by omega)
 have e2:((Q9 b).off[((i+g:Nat):Int).toNat]?.getD 0:Int)=_:=QcH b (j:=i+g) (by omega)
 have hr:(Q9 b).r=rnK (QB b).1 c.length c:=by rw[hc];exact Q8P (Q6b b) _
 have hs:QM (Q9 b) b i ((i+g:Nat):Int)=(c.drop (wdK (QB b).1 i c)).take (wdK (QB b).1 g (c.drop (wdK (QB b).1 i c))):=by
  unfold QM
  rw[e1,e2,←hc,Int.toNat_natCast,QcR,←List.drop_drop,←hc]
  congr 1
  omega
 rw[hs,hr,show (((i+g:Nat):Int)-(i:Int)).toNat=g by omega,Int.toNat_natCast]
 show Q4I (QB b).1 _=_
 rw[Q8P (Q6b b),Q7g _ _ c.length _ (Nat.le_refl _) (by rw[List.length_take,List.length_drop];omega),Qbf _ _ _ _ (by rw[List.length_drop];omega),Qbe _ _ _ _ (Nat.le_refl _)]
def shP (d:Int)(x:TPart):TPart:=⟨x.kind,x.from_+d,x.to+d⟩
theorem Q3b {r:List Int}(h:r≠[])(a:Int)(first:Bool):Qs a first r=⟨(Qq r first).1,a,a+(Qq r first).2⟩::Qs (a+(Qq r first).2) false (r.drop (Qq r first).2.toNat):=by
 conv=>lhs;rw[Qs,dif_neg h]
theorem Q7h (d:Int):∀ (n:Nat) (r:List Int) (a:Int) (first:Bool),r.length≤n→Qs (a+d) first r=(Qs a first r).map (shP d)
 |0,r,a,first,h=>by
  obtain rfl:r=[]:=List.eq_nil_of_length_eq_zero (by omega)
  rw[Qs,dif_pos rfl,Qs,dif_pos rfl];rfl
 |n+1,r,a,first,h=>by
  by_cases hr:r=[]
  ·rw[Qs,dif_pos hr,Qs,dif_pos hr];rfl
  ·have hn:=Q3v r first hr
   have ih:=Q7h d n (r.drop (Qq r first).2.toNat) (a+(Qq r first).2) false (by rw[List.length_drop];omega)
   rw[Q3b hr,Q3b hr,List.map_cons,←ih,shP,show a+d+(Qq r first).2=a+(Qq r first).2+d by omega]
theorem QfF (d:Int)(ps:List TPart)(a:Nat)(ks:List Int):Qz (ps.map (shP d)) a ks=Qz ps a ks:=by
 unfold Qz
 rw[←List.map_drop,←List.map_take,List.map_map]
 rfl
theorem Q7z (ps:List TPart):(Q1x ps).name=if Qz ps 0 [1,2]=true then ps[1]?.getD Qp else Qp:=by
 unfold Q1x
 split
 ·simp only
  split
  ·rfl
  ·rfl
 ·rfl
def Q5W (r:List Int):List Int:=Qw ⟨0,0,r,[]⟩ 0 r.length
theorem Q7W (t:Txt){f u:Int}(h0:0≤f)(h1:f≤u)(h2:u≤t.r.length):Q5W ((t.r.drop f.toNat).take (u-f).toNat)=Qw t f u:=by
 obtain⟨s,hs⟩:=exq ((t.r.drop f.toNat).take (u-f).toNat)
 have hsl:(s.length:Int)=u-f:=by rw[hs,List.length_take,List.length_drop];omega
 have hs2:(t.r.take u.toNat).drop f.toNat=s:=by rw[hs,List.drop_take];congr 1;omega
 have e1:Q13 s 0 s.length=Qs 0 true s:=by
  unfold Q13
  rw[Int.toNat_natCast,List.take_length];rfl
 have e2:Q13 t.r f u=(Qs 0 true s).map (shP f):=by
  unfold Q13
  rw[hs2]
  have:=Q7h f s.length s 0 true (Nat.le_refl _)
  rw[Int.zero_add] at this
  exact this
 rw[←hs]
 unfold Q5W Qw QJ
 rw[e1,e2,Q7z,Q7z,QfF]
 obtain⟨ps,hps⟩:=exq (Qs 0 true s)
 rw[←hps]
 split
 ·rename_i ht
  have hl:=((Q2x (Nat.zero_le _)).1 ht).1
  have hl:2≤ps.length:=by simpa using hl
  have hin:∀ x∈ps,_:=fun x hx=>Q8h s s.length s 0 true (Nat.le_refl _) x (by rw[←hps];exact hx)
  rw[List.getElem?_map,List.getElem?_eq_getElem (show 1<ps.length by omega)]
  have hp:=hin ps[1] (List.getElem_mem _)
  show (s.drop ps[1].from_.toNat).take (ps[1].to-ps[1].from_).toNat=(t.r.drop (ps[1].from_+f).toNat).take ((ps[1].to+f)-(ps[1].from_+f)).toNat
  rw[hs,List.drop_take,List.drop_drop,List.take_take,show (ps[1].from_+f).toNat=f.toNat+ps[1].from_.toNat by omega,show min (ps[1].to-ps[1].from_).toNat ((u-f).toNat-ps[1].from_.toNat)=((ps[1].to+f)-(ps[1].from_+f)).toNat by omega]
 ·rfl
theorem Q9a (t:Txt){f u:Int}(h0:0≤f)(h1:f≤u)(h2:u≤t.r.length)(hne:Qw t f u≠[]):f+2≤u∧∃ r0 rs,Qw t f u=r0::rs∧QZ r0=true:=by
 obtain⟨s,hs⟩:=exq ((t.r.drop f.toNat).take (u-f).toNat)
 have hsl:(s.length:Int)=u-f:=by rw[hs,List.length_take,List.length_drop];omega
 have hloc:=Q7W t h0 h1 h2
 rw[←hs] at hloc
 rw[←hloc] at hne ⊢
 have e1:Q13 s 0 s.length=Qs 0 true s:=by
  unfold Q13
  rw[Int.toNat_natCast,List.take_length];rfl
 have en:Q5W s=(s.drop (Q1x (Qs 0 true s)).name.from_.toNat).take ((Q1x (Qs 0 true s)).name.to-(Q1x (Qs 0 true s)).name.from_).toNat:=by
  have e2:QJ s 0 s.length=Q1x (Qs 0 true s):=by rw[QJ,e1]
  show (s.drop (QJ s 0 s.length).name.from_.toNat).take ((QJ s 0 s.length).name.to-(QJ s 0 s.length).name.from_).toNat=_
  rw[e2]
 rw[Q7z] at en
 split at en
 ·rename_i ht
  have ht2:=(Q2x (Nat.zero_le _)).1 ht
  have hl:2≤(Qs 0 true s).length:=by simpa using ht2.1
  have hk2:((Qs 0 true s)[1]?.getD Qp).kind=2:=ht2.2 1 (by decide)
  have hs0:s≠[]:=by
   intro h
   rw[h,Qs,dif_pos rfl] at hl
   simp at hl
  have hn0:=Q3v s true hs0
  rw[Q3b hs0] at hl hk2 en
  obtain⟨x,hx⟩:=exq (s.drop (Qq s true).2.toNat)
  rw[←hx] at hl hk2 en
  have hx0:x≠[]:=by
   intro h
   rw[h,Qs,dif_pos rfl] at hl
   simp at hl
  have hn1:=Q3v x false hx0
  rw[Q3b hx0] at hk2 en
  have hk2:(Qq x false).1=2:=hk2
  have en:Q5W s=(s.drop (0+(Qq s true).2).toNat).take ((0+(Qq s true).2+(Qq x false).2)-(0+(Qq s true).2)).toNat:=en
  rw[show (0+(Qq s true).2).toNat=(Qq s true).2.toNat by omega,←hx,show ((0+(Qq s true).2+(Qq x false).2)-(0+(Qq s true).2)).toNat=(Qq x false).2.toNat by omega] at en
  have hxl:x.length=s.length-(Qq s true).2.toNat:=by rw[hx,List.length_drop]
  have hlead:0<Q14 x 0:=by
   unfold Qq at hk2
   rw[if_neg (by simp),if_neg (by simp)] at hk2
   split at hk2
   ·simp at hk2
   ·split at hk2
    ·rename_i h;omega
    ·split at hk2
     ·simp at hk2
     ·split at hk2
      ·simp at hk2
      ·split at hk2<;>simp at hk2
  obtain⟨r0,rs,rfl⟩:=List.exists_cons_of_ne_nil hx0
  have hst:QZ r0=true:=by
   by_cases hq:QZ r0=true
   ·exact hq
   ·have:Q14 (r0::rs) 0=0:=by show (if QZ r0 then _ else 0)=0;rw[if_neg hq]
    omega
  refine⟨by simp only[List.length_cons] at hxl;omega,r0,rs.take ((Qq (r0::rs) false).2.toNat-1),?_,hst⟩
  rw[en]
  obtain⟨q,hq⟩:∃ q,(Qq (r0::rs) false).2.toNat=q+1:=⟨_,(Nat.sub_add_cancel (by omega)).symm⟩
  rw[hq];rfl
 ·exact absurd en (by intro h;rw[h] at hne;exact hne rfl)
end Go.Proofs.YtibemhahkicbpaaGreat
