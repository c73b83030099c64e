/-
  Parts of the proof, joined: MkU MkV La Ls MkS Rw Lt Ue Ui Uf. Conditions: as each theorem says.
-/
import Derived.Test.YtibemhahkicbpaaGreatQI20
import Derived.Test.YtibemhahkicbpaaGreatQI19
import Derived.Test.YtibemhahkicbpaaGreatQI10
import Derived.Test.YtibemhahkicbpaaGreatQI12
import Derived.Test.YtibemhahkicbpaaGreatQI14
set_option maxRecDepth 100000
set_option maxHeartbeats 8000000
namespace Go.Proofs.YtibemhahkicbpaaGreat
open Go.RowKit Go.Lib Tryz
def Q86 (t:Txt)(b:List UInt8)(k f u:Int)(w:Bool)(N D S:List AV):List AV:=Q0 (Q1f t b k f u w (mkB N D S)).n
def Q7Y (t:Txt)(b:List UInt8)(k f u:Int)(w:Bool)(N D S:List AV):List AV:=Qz (Q1f t b k f u w (mkB N D S)).d
def Q8Z (t:Txt)(b:List UInt8)(k f u:Int)(w:Bool)(N D S:List AV):List AV:=Qc (Q1f t b k f u w (mkB N D S)).s
theorem Qia (t:Txt)(b:List UInt8)(k f u:Int)(w:Bool)(m:Mk):Q86 t b k f u w (Q0 m.n) (Qz m.d) (Qc m.s)=Q0 (Q1f t b k f u w m).n:=by rw[Q86,Q1J]
theorem QiP (t:Txt)(b:List UInt8)(k f u:Int)(w:Bool)(m:Mk):Q7Y t b k f u w (Q0 m.n) (Qz m.d) (Qc m.s)=Qz (Q1f t b k f u w m).d:=by rw[Q7Y,Q1J]
theorem QiS (t:Txt)(b:List UInt8)(k f u:Int)(w:Bool)(m:Mk):Q8Z t b k f u w (Q0 m.n) (Qz m.d) (Qc m.s)=Qc (Q1f t b k f u w m).s:=by rw[Q8Z,Q1J]
def Qb0 (p:Pr)(TK:List AV)(tn td ts:Int→Int→Int→Bool→List AV→List AV→List AV→List AV)(mn md ms:Int→List AV→List AV→List AV→List AV)(br:Int→List AV→List AV→List AV):Nat→List AV→List Ob→Option (AV×List Ob):=fun f args ob=>match f,args with
 |87,[.slc 1 _]=>some (.slc 4 TK,[])
 |88,[.box 0 0,.agg [.val (.int .i64 kind),.val (.int .i64 f),.val (.int .i64 u),.val (.bool wh)]]=>Q2M ob fun b k m r o rt N D S=>some (.tup [],obM 1 b k m r o rt (tn kind f u wh N D S) (td kind f u wh N D S) (ts kind f u wh N D S))
 |89,[.box 0 0,.val (.int .i64 a)]=>Q2M ob fun b k m r o rt N D S=>some (.tup [],obM 1 b k m r o rt (mn a N D S) (md a N D S) (ms a N D S))
 |90,[.box 0 0,.val (.int .i64 k),.slc 1 ks]=>match ob with
  | [.box [.row 1 0],.row 182 6 false 0 N]=>some (.tup [.val (.int .i64 (p.len N)),.val (.int .i64 0)],[.box [.row 1 1],.row 182 6 false 1 (br k ks N)])
  |_=>none
 |_,_=>none
def alO:OT:=.then [0,1,2,4,5,6,7,8,9,10,11,12,13,14,15,16,17] (.fork (.of [3,18,19,20,21,22,23,24]) (.of [18,19,20,21,3,22,23,24]))
theorem Qej (l:List Int):∀ n k:Nat,l.length-k≤n→(Q1o l k).length≤n
 |0,k,h=>by rw[QU (by omega)];exact Nat.le_refl _
 |n+1,k,h=>by
  by_cases hk:k<l.length
  ·have:=Q1V l k hk
   rw[Q1j hk,List.length_cons]
   have:=Qej l n (Qv l k).2.1 (by omega)
   omega
  ·rw[QU hk];exact Nat.zero_le _
theorem Qjw (t:Txt)(b:List UInt8)(hs:Sml t b)(rt:Int)(m:Mk)(B D:Nat)(iv:MkI m (Q4D t b 0) B D)(hB:B+3 * t.r.length≤600000)(hD:D+3 * t.r.length≤600000) :
  BCall prog 44 [.box 0 0] (obT 0 t b rt m) (.tup []) (obT 1 t b (Q6X t b m).n.length (Qp (Q6X t b m))):=by
 have cT:=Q8A t.r hs.hr
 obtain⟨toks,htk⟩:=exq (Q14 t.r)
 rw[←htk] at cT
 have hnl:toks.length≤1000000:=by
  have:=Qej t.r t.r.length 0 (by omega)
  rw[htk];exact Nat.le_trans this hs.hr
 obtain⟨n,hn⟩:=QX toks
 obtain⟨M0,hM0⟩:=exq (toks.foldl (Q4F t b) m)
 obtain⟨M1,hM1⟩:=exq (Q6X t b m)
 have hM01:M1=missGo t t.r.length 0 M0.s.length M0:=by rw[hM1,hM0,htk];rfl
 rw[←hM1]
 obtain⟨E,hE⟩:=exq (Qp M1)
 unfold obT obM
 refine fnO false (cs:=Qb0 std (QO toks) (Q86 t b) (Q7Y t b) (Q8Z t b) (Q47 t) (Q44 t) (Q42 t) brA) (ord:=fun id=>match id with|7=> alO|_=>.nil) func44 rfl (by kernel_rfl) ?_
 intro w0 g0
 generalize hp:std=p,hTK:QO toks=TK,htn:Q86 t b=tn,htd:Q7Y t b=td,hts:Q8Z t b=ts,hmn:Q47 t=mn,hmd:Q44 t=md,hms:Q42 t=ms,hbr:brA=br,hN:Q0 m.n=N,hD':Qz m.d=D',hS:Qc m.s=S,hB':Q5 b=B',hR:Q1 t.r=R,hO:Q9 t.off=O,hK:t.kind=K,hM:t.bom=M
 generalize hT:Q8 p tys (Qb0 p TK tn td ts mn md ms br) _ _ _ _=T
 cbv at hT
 subst hT
 simp only[Tree.ok,Q4,S0]
 subst hp hTK htn htd hts hmn hmd hms hbr hN hD' hS hB' hR hO hK hM
 have tlen:=Q8m toks
 have hnm:std.len (QO toks)=n:=by show ((QO toks).length:Int)=n;rw[tlen,hn.eq]
 refine⟨cT,?_⟩
 refine Q1P (cs:=Qb0 std (QO toks) (Q86 t b) (Q7Y t b) (Q8Z t b) (Q47 t) (Q44 t) (Q42 t) brA) (by kernel_rfl) (X:=Int×Mk×Nat) (fun x=>⟨[(0,.box 0 0),(12,.slc 4 (QO toks)),(13,.val (.int .i64 n)),(14,.val (.int .i64 x.1))],[.box [.slc 1 (Q5 b),.box 1 0,.row 5 1],.box [.val (.int .i64 t.kind),.val (.int .i64 t.bom),.slc 1 (Q1 t.r),.slc 1 (Q9 t.off),.box 2 0,.val (.int .i64 rt),.row 4 1],.box [.row 3 1],.row 182 6 false 1 (Q0 x.2.1.n),.row 146 3 false 1 (Qz x.2.1.d),.row 99 2 false 1 (Qc x.2.1.s)]⟩) (fun x=>0≤x.1∧x.1≤n∧x.2.2≤t.r.length∧Q1o t.r x.2.2=toks.drop x.1.toNat∧MkI x.2.1 (Q4D t b x.2.2) (B+3 * x.2.2) (D+3 * x.2.2)∧(toks.drop x.1.toNat).foldl (Q4F t b) x.2.1=M0) (fun x=>(n-x.1).toNat) (0,m,0) ?_ ?_ ?_
 ·have:=hn.eq
  exact⟨Int.le_refl _,by simp only;omega,Nat.zero_le _,by rw[htk];rfl,iv,hM0.symm⟩
 ·refine⟨[some 0,some 1,some 2,some 3,some 4,some 5],_,rfl,?_⟩
  repeat first
   |exact trivial
   |refine⟨rfl,?_⟩
   |refine⟨hnm,?_⟩
   |refine⟨gI (hnm),?_⟩
   |refine⟨gA (hnm),?_⟩
   |refine⟨gB (hnm),?_⟩
   |refine⟨gR (hnm),?_⟩
   |refine⟨gT (hnm),?_⟩
 ·rintro⟨i,x,k⟩ ⟨hi0,hi1,hk,hd,hv,hf⟩
  simp only at hi0 hi1 hk hd hv hf
  have okx:=hv.i.ok (by omega) (by omega)
  rcases Int.lt_or_eq_of_le hi1 with hlt|heq
  ·have en:=hn.eq
   have hil:i.toNat<toks.length:=by omega
   have hkl:k<t.r.length:=by
    by_cases h:k<t.r.length
    ·exact h
    ·rw[QU h] at hd
     have:=congrArg List.length hd
     rw[List.length_drop] at this
     simp at this
     omega
   obtain⟨t1,t2,t3,t4⟩:=Q91 t.r hkl
   have hdr:toks.drop i.toNat=QK t.r k::Q1o t.r (Qv t.r k).2.1:=by rw[←hd,Q1j hkl]
   have hxe:toks[i.toNat]?=some (QK t.r k):=by rw[←List.head?_drop,hdr];rfl
   have hdn:Q1o t.r (Qv t.r k).2.1=toks.drop (i+1).toNat:=by
    rw[show (i+1).toNat=i.toNat+1 by omega,←List.tail_drop,hdr];rfl
   have hat:(QO toks).getD i.toNat .dead=(QK t.r k).av:=by
    rw[List.getD_eq_getElem?_getD,QO,List.getElem?_map,hxe];rfl
   have hin:InT t (QK t.r k).from_ (QK t.r k).to:=⟨by omega,by omega,by omega⟩
   have hXl:(Q4D t b k).length≤1000000:=by
    have:=hs.hb
    rw[Q4D,List.length_take];omega
   have c:=Qju t b hs rt x (Q4D t b k) (B+3 * k) (D+3 * k) hv.i (by omega) (by omega) hXl (QK t.r k).kind (QK t.r k).from_ (QK t.r k).to (QK t.r k).whole hin
   have hv2:MkI (Q4F t b x (QK t.r k)) (Q4D t b (Qv t.r k).2.1) (B+3 * (Qv t.r k).2.1) (D+3 * (Qv t.r k).2.1):=by
    have:=hv.token t b hs.hr (QK t.r k).kind (QK t.r k).from_ (QK t.r k).to (QK t.r k).whole
    rw[t1,t2,Q4q hs.ok (by omega) (by omega) (by omega)] at this
    have e:Q4F t b x (QK t.r k)=Q1f t b (QK t.r k).kind k ((Qv t.r k).2.1:Nat) (QK t.r k).whole x:=rfl
    rw[e]
    exact⟨this.i.mono (by omega) (by omega),this.c⟩
   have hf2:(toks.drop (i+1).toNat).foldl (Q4F t b) (Q4F t b x (QK t.r k))=M0:=by
    rw[hdr,List.foldl_cons] at hf
    rw[←hdn];exact hf
   obtain⟨y,hy⟩:=exq (QK t.r k)
   obtain⟨k2,hk2⟩:=exq ((Qv t.r k).2.1)
   rw[←hy] at hat hin c hv2 hf2
   rw[←hk2] at hv2 hdn t4
   clear en t1 t2 t3 hdr hxe hd hf hy hk2 hkl
   generalize hp:std=p,hTK:QO toks=TK,htn:Q86 t b=tn,htd:Q7Y t b=td,hts:Q8Z t b=ts,hmn:Q47 t=mn,hmd:Q44 t=md,hms:Q42 t=ms,hbr:brA=br,hN:Q0 x.n=N,hD':Qz x.d=D',hS:Qc x.s=S,hB':Q5 b=B',hR:Q1 t.r=R,hO:Q9 t.off=O,hK:t.kind=K,hM:t.bom=M
   generalize hT:Q8 p tys (Qb0 p TK tn td ts mn md ms br) _ _ _ _=T
   cbv at hT
   subst hT
   simp only[Tree.ok,Q4,S0]
   subst hp hTK htn htd hts hmn hmd hms hbr hN hD' hS hB' hR hO hK hM
   unfold obT obM at c
   simp only[std,hat,Tok.av,AV.cells,List.getD_cons_zero,List.getD_cons_succ,Qg,Q53,Q2H,Qia,QiP,QiS,decide_eq_true_eq,decide_eq_false_iff_not]
   refine⟨fun _=>⟨?_,⟨trivial,trivial,trivial,trivial,trivial⟩,c,?_,(i+1,Q4F t b x y,k2),⟨?_,?_,t4,hdn,hv2,hf2⟩,?_,[some 0,some 1,some 2,some 3,some 4,some 5],_,rfl,?_⟩,fun h=>?_⟩
   ·have:=hn.eq
    rw[tlen];omega
   ·have:=hn.eq
    have:=hs.hr
    show (-9223372036854775808:Int)≤i+1∧i+1≤(9223372036854775807:Int)
    omega
   ·show 0≤i+1
    omega
   ·show i+1≤n
    omega
   ·show (n-(i+1)).toNat<(n-i).toNat
    omega
   ·simp[Qh,lk,Q4F]
   ·omega
  ·have hd0:toks.drop i.toNat=[]:=List.drop_eq_nil_of_le (by have:=hn.eq;omega)
   rw[hd0] at hd hf
   have hxM:x=M0:=hf
   have hkr:k=t.r.length:=by
    by_cases h:k<t.r.length
    ·rw[Q1j h] at hd;cases hd
    ·omega
   subst hxM
   rw[heq]
   clear hd hf hd0 hk
   have hlr:(t.r.length:Int)=t.r.length:=rfl
   obtain⟨rl,hrl⟩:=QX t.r
   generalize hp:std=p,hTK:QO toks=TK,htn:Q86 t b=tn,htd:Q7Y t b=td,hts:Q8Z t b=ts,hmn:Q47 t=mn,hmd:Q44 t=md,hms:Q42 t=ms,hbr:brA=br,hN:Q0 x.n=N,hD':Qz x.d=D',hS:Qc x.s=S,hB':Q5 b=B',hR:Q1 t.r=R,hO:Q9 t.off=O,hK:t.kind=K,hM:t.bom=M
   generalize hT:Q8 p tys (Qb0 p TK tn td ts mn md ms br) _ _ _ _=T
   cbv at hT
   subst hT
   simp only[Tree.ok,Q4,S0]
   subst hp hTK htn htd hts hmn hmd hms hbr hN hD' hS hB' hR hO hK hM
   refine⟨fun h=>?_,fun _=>?_⟩
   ·have h:n<n:=of_decide_eq_true h
    omega
   rw[if_pos trivial]
   generalize hp:std=p,hTK:QO toks=TK,htn:Q86 t b=tn,htd:Q7Y t b=td,hts:Q8Z t b=ts,hmn:Q47 t=mn,hmd:Q44 t=md,hms:Q42 t=ms,hbr:brA=br,hN:Q0 x.n=N,hD':Qz x.d=D',hS:Qc x.s=S,hB':Q5 b=B',hR:Q1 t.r=R,hO:Q9 t.off=O,hK:t.kind=K,hM:t.bom=M
   generalize hT:Q8 p tys (Qb0 p TK tn td ts mn md ms br) _ _ _ _=T
   cbv at hT
   subst hT
   simp only[Tree.ok,Q4,S0]
   subst hp hTK htn htd hts hmn hmd hms hbr hN hD' hS hB' hR hO hK hM
   rw[hkr,Q8q hs.ok] at hv
   have hv0:MkI x b (B+3 * t.r.length) (D+3 * t.r.length):=hv
   have hrl2:std.len (Q1 t.r)=rl:=by show ((Q1 t.r).length:Int)=rl;rw[Q13,hrl.eq]
   clear hv hkr hlr okx heq hi0 hi1
   refine Q1P (cs:=Qb0 std (QO toks) (Q86 t b) (Q7Y t b) (Q8Z t b) (Q47 t) (Q44 t) (Q42 t) brA) (by kernel_rfl) (X:=Mk) (fun x=>⟨[(0,.box 0 0)],[.box [.slc 1 (Q5 b),.box 1 0,.row 5 1],.box [.val (.int .i64 t.kind),.val (.int .i64 t.bom),.slc 1 (Q1 t.r),.slc 1 (Q9 t.off),.box 2 0,.val (.int .i64 rt),.row 4 1],.box [.row 3 1],.row 182 6 false 1 (Q0 x.n),.row 146 3 false 1 (Qz x.d),.row 99 2 false 1 (Qc x.s)]⟩) (fun x=>MkI x b (B+3 * t.r.length) (D+3 * t.r.length)∧missGo t t.r.length 0 x.s.length x=M1) (fun x=>x.s.length) x ?_ ?_ ?_
   ·exact⟨hv0,hM01.symm⟩
   ·exact⟨[some 0,some 1,some 2,some 3,some 4,some 5],_,rfl,by simp[Qh,lk,std]⟩
   ·rintro y ⟨hv,hg⟩
    have oky:=hv.i.ok (by omega) (by omega)
    have ylen:=Q2N y.s
    obtain⟨LY,hLY⟩:=QX y.s
    generalize hp:std=p,hTK:QO toks=TK,htn:Q86 t b=tn,htd:Q7Y t b=td,hts:Q8Z t b=ts,hmn:Q47 t=mn,hmd:Q44 t=md,hms:Q42 t=ms,hbr:brA=br,hN:Q0 y.n=N,hD':Qz y.d=D',hS:Qc y.s=S,hB':Q5 b=B',hR:Q1 t.r=R,hO:Q9 t.off=O,hK:t.kind=K,hM:t.bom=M
    generalize hT:Q8 p tys (Qb0 p TK tn td ts mn md ms br) _ _ _ _=T
    cbv at hT
    subst hT
    simp only[Tree.ok,Q4,S0]
    subst hp hTK htn htd hts hmn hmd hms hbr hN hD' hS hB' hR hO hK hM
    have hly:std.len (Qc y.s)=LY:=by show ((Qc y.s).length:Int)=LY;rw[ylen,hLY.eq]
    simp only[Qei,Qet,Qep]
    refine⟨fun hgt=>?_,fun hle=>?_⟩
    ·have hgt:1<std.len (Qc y.s):=of_decide_eq_true hgt
     rw[hly] at hgt
     have hy2:2≤y.s.length:=by have:=hLY.eq;omega
     have hrr:=hrl.eq
     have hol:=hs.ok.len
     have c:=Qhu t b rt hv.i (by omega) (by omega) hs.hb t.r.length (by omega) hy2
     have erl:(t.r.length:Int)=std.len (Q1 t.r):=by rw[hrl2];exact hrr.symm
     rw[erl] at c
     refine⟨c,Q1Q t (std.len (Q1 t.r)) y,⟨by rw[←erl];exact hv.miss hy2 t t.r.length,?_⟩,by rw[Q6J];omega,[some 0,some 1,some 2,some 3,some 4,some 5],_,rfl,by simp[Qh,lk,std]⟩
     rw[←erl,←Q7u (by omega)];exact hg
    ·have hle:¬ 1<std.len (Qc y.s):=of_decide_eq_false hle
     rw[hly] at hle
     have hy1:y.s.length=1:=by have:=hLY.eq;have:=hv.i.s1;omega
     have hyM:y=M1:=by rw[←hg,Q89 (by omega)]
     subst hyM
     clear hle hly
     rw[if_pos trivial]
     generalize hp:std=p,hTK:QO toks=TK,htn:Q86 t b=tn,htd:Q7Y t b=td,hts:Q8Z t b=ts,hmn:Q47 t=mn,hmd:Q44 t=md,hms:Q42 t=ms,hbr:brA=br,hN:Q0 y.n=N,hD':Qz y.d=D',hS:Qc y.s=S,hB':Q5 b=B',hR:Q1 t.r=R,hO:Q9 t.off=O,hK:t.kind=K,hM:t.bom=M
     generalize hT:Q8 p tys (Qb0 p TK tn td ts mn md ms br) _ _ _ _=T
     cbv at hT
     subst hT
     simp only[Tree.ok,Q4,S0]
     subst hp hTK htn htd hts hmn hmd hms hbr hN hD' hS hB' hR hO hK hM
     obtain⟨o,ho⟩:∃ o,y.s=[o]:=List.length_eq_one_iff.1 hy1
     have hto:QB y.s=o:=by rw[ho];rfl
     have hcell:std.nth (std.drp (std.cel (std.at_ (Qc y.s) 0)) 1) 0=slK (QB y.s).kids:=by rw[hto,ho];rfl
     have hlst:std.lst (slK (QB y.s).kids)=Q9 (QB y.s).kids:=by cases (QB y.s).kids<;>rfl
     have hcl2:std.lst (std.nth (std.drp (std.cel (std.at_ (Qc y.s) 0)) 1) 0)=Q9 (QB y.s).kids:=by rw[hcell,hlst]
     have hflat:((QB y.s).kids.flatMap (pr y.n)).length≤b.length:=by
      have:=hv.i.p
      rw[hto,←this,ho]
      simp[prK]
     have hkl:(QB y.s).kids.length≤900000:=oky.top
     have cB:=Qcz y.n (by have:=oky.n;omega) 20 (QB y.s).kids (by omega) hv.i.top hv.i.ar.ok.w hv.i.ar.ok.c (MkInv.sum hv.i.ar hv.i.top hflat (by have:=hs.hb;omega))
     rw[←QaN,←QT,←hcl2] at cB
     have hnl2:=QT y.n
     have fin:brA 20 (std.lst (std.nth (std.drp (std.cel (std.at_ (Qc y.s) 0)) 1) 0)) (Q0 y.n)=Q0 (Qp y).n:=by
      rw[hcl2,QaN];rfl
     have e0:std.len (Q0 y.n)=(y.n.length:Int):=by show ((Q0 y.n).length:Int)=_;rw[hnl2]
     refine⟨?_,⟨?_,trivial⟩,⟨cB,?_⟩,cB,?_⟩
     ·show 0≤(0:Int)∧(0:Int)<std.len (Qc y.s)
      show 0≤(0:Int)∧(0:Int)<((Qc y.s).length:Int)
      rw[ylen,hy1];decide
     ·show std.hasL 1 (std.nth (std.drp (std.cel (std.at_ (Qc y.s) 0)) 1) 0)
      rw[hcell]
      rcases QgE (QB y.s).kids with h|h
      ·exact .inl (by rw[h];rfl)
      ·exact .inr h.1
     all_goals
      refine⟨[some 0,some 1,some 2,some 3,some 4,some 5],.tup [],_,rfl,rfl,Nat.le_of_ble_eq_true rfl,rfl,?_,trivial⟩
      repeat first
       |exact trivial
       |refine⟨rfl,?_⟩
       |refine⟨e0,?_⟩
       |refine⟨gI (e0),?_⟩
       |refine⟨gA (e0),?_⟩
       |refine⟨gB (e0),?_⟩
       |refine⟨gR (e0),?_⟩
       |refine⟨gT (e0),?_⟩
       |refine⟨fin,?_⟩
       |refine⟨gI (fin),?_⟩
       |refine⟨gA (fin),?_⟩
       |refine⟨gB (fin),?_⟩
       |refine⟨gR (fin),?_⟩
       |refine⟨gT (fin),?_⟩
def mk0:Mk:=⟨[],[],[⟨[],[]⟩]⟩
def QhG (bs:List UInt8):Mk:=Q2g 0 (Q1a (Qj 23 bs) mk0)
def Q2B (b:List UInt8):Mk:=if 0<(QI b).2 then QhG (b.take (QI b).2.toNat) else mk0
def Qd (b:List UInt8):Mk:=Q6X (Q6 b) b (Q2B b)
def Q5H (t:Txt)(m:Mk):AV:=.agg [.val (.int .i64 t.kind),.val (.int .i64 t.bom),.slc 1 (Q1 t.r),.slc 1 (Q9 t.off),.ref [.slc 6 (Q0 (Qp m).n)],.val (.int .i64 m.n.length),.slc 3 (Qz m.d)]
def QjH (kd bm:Int)(R O:List AV)(rt:Int)(an ad asx N1 S1:List AV):Nat→List AV→List Ob→Option (AV×List Ob):=fun f args ob=>match f,args with
 |40,[.slc 1 _]=>some (.agg [.val (.int .i64 kd),.val (.int .i64 bm),.slc 1 R,.slc 1 O],[])
 |41,[]=>some (.box 0 0,[.box [.val (.slice none 0 0)]])
 |43,[.box 0 0,.val (.int .i64 _),.slc 1 _]=>match ob with
  | [.box [.val (.slice none 0 0)]]=>some (.val (.int .i64 0),[.box [.row 1 1],.row 182 6 false 1 N1])
  |_=>none
 |42,[.box 0 0,.val (.int .i64 _)]=>match ob with
  | [.box [b,.box 1 0,.row 4 0],.box [k,m,r,o,.box 2 0,q,.val (.slice none 0 0)],.box [.row 3 0],.row 182 6 false 0 N,.row 99 2 false 0 _] =>
   some (.tup [],[.box [b,.box 1 0,.row 4 1],.box [k,m,r,o,.box 2 0,q,.row 5 1],.box [.row 3 1],.row 182 6 false 1 N,.row 99 2 false 1 S1,.row 146 3 false 1 []])
  |_=>none
 |44,[.box 0 0]=>match ob with
  | [.box [b,.box 1 0,.row 3 0],.box [k,m,r,o,.box 2 0,_,.val (.slice none 0 0)],.box [.val (.slice none 0 0)],.row 99 2 false 0 _] =>
   some (.tup [],[.box [b,.box 1 0,.row 3 1],.box [k,m,r,o,.box 2 0,.val (.int .i64 rt),.row 4 1],.box [.row 5 1],.row 99 2 false 1 asx,.row 146 3 false 1 ad,.row 182 6 false 1 an])
  |_=>Q2M ob fun b k m r o _ _ _ _=>some (.tup [],obM 1 b k m r o (.val (.int .i64 rt)) an ad asx)
 |_,_=>none
theorem mk0_inv:MkI mk0 [] 2 2 :=
 have h:∀ x∈mk0.s,x=⟨[],[]⟩:=fun x hx=>by simpa[mk0] using hx
 ⟨⟨QkC,(fun x hx=>by rw[h x hx];exact fun k hk=>by cases hk),rfl,Nat.le_refl _,Nat.le_refl _,Nat.le_refl _,Nat.le_refl _,(fun x hx=>by rw[h x hx];exact Nat.zero_le _)⟩,Nat.le_refl _⟩
theorem QgH (bs:List UInt8):MkI (QhG bs) bs 3 2:=by
 have h:=mk0_inv
 have ha:=Q2O h.i.ar 23 bs
 exact⟨Qed h.i ha.1 ha.2,Q68 h.i h.c 23 bs⟩
theorem QfD (b:List UInt8):Q4D (Q6 b) b 0=b.take (QI b).2.toNat:=by
 rw[Q4D,Q1s,show (0:Int).toNat=0 from rfl,(Q2y b).2.1]
theorem Q5g (b:List UInt8):MkI (Q2B b) (Q4D (Q6 b) b 0) 3 2:=by
 rw[QfD,Q2B]
 have hb:=Q4b b
 split
 ·exact QgH _
 ·have:(QI b).2=0:=by omega
  rw[this]
  exact⟨mk0_inv.i.mono (by omega) (Nat.le_refl _),mk0_inv.c⟩
theorem Q6o (b:List UInt8)(hb:b.length≤100000):Sml (Q6 b) b:=⟨by omega,Nat.le_trans (Q2y b).2.2.1 (by omega),(Q2y b).1⟩
theorem Qj0 (t:Txt)(b:List UInt8)(hs:Sml t b)(B D:Nat)(iv:MkI mk0 (Q4D t b 0) B D)(hB:B+3 * t.r.length≤600000)(hD:D+3 * t.r.length≤600000) :
  BCall prog 44 [.box 0 0] [.box [.slc 1 (Q5 b),.box 1 0,.row 3 0],.box [.val (.int .i64 t.kind),.val (.int .i64 t.bom),.slc 1 (Q1 t.r),.slc 1 (Q9 t.off),.box 2 0,.val (.int .i64 0),.val (.slice none 0 0)],.box [.val (.slice none 0 0)],.row 99 2 false 0 (Qc mk0.s)] (.tup [])
   [.box [.slc 1 (Q5 b),.box 1 0,.row 3 1],.box [.val (.int .i64 t.kind),.val (.int .i64 t.bom),.slc 1 (Q1 t.r),.slc 1 (Q9 t.off),.box 2 0,.val (.int .i64 (Q6X t b mk0).n.length),.row 4 1],.box [.row 5 1],.row 99 2 false 1 (Qc (Qp (Q6X t b mk0)).s),.row 146 3 false 1 (Qz (Qp (Q6X t b mk0)).d),.row 182 6 false 1 (Q0 (Qp (Q6X t b mk0)).n)]:=by
 have h:=Qjw t b hs 0 mk0 B D iv hB hD
 unfold obT obM at h
 exact h.tell [some 0,some 1,some 2,none,none,some 3] [some 0,some 1,some 2,some 5,some 4,some 3] rfl rfl rfl (Nat.le_of_ble_eq_true rfl) rfl (by simp[Qh,Q0,Qz,mk0]) (res':=.tup []) rfl (by simp[Qh]) trivial
theorem Qjg (t:Txt)(b:List UInt8)(m:Mk)(hd:m.d=[])(hs:1≤m.s.length)(hn:m.s.length≤1000000)(hk:(QB m.s).kids.length≤1000000)(n:Int) :
  BCall prog 42 [.box 0 0,.val (.int .i64 n)] [.box [.slc 1 (Q5 b),.box 1 0,.row 4 0],.box [.val (.int .i64 t.kind),.val (.int .i64 t.bom),.slc 1 (Q1 t.r),.slc 1 (Q9 t.off),.box 2 0,.val (.int .i64 0),.val (.slice none 0 0)],.box [.row 3 0],.row 182 6 false 0 (Q0 m.n),.row 99 2 false 0 (Qc m.s)] (.tup [])
   [.box [.slc 1 (Q5 b),.box 1 0,.row 4 1],.box [.val (.int .i64 t.kind),.val (.int .i64 t.bom),.slc 1 (Q1 t.r),.slc 1 (Q9 t.off),.box 2 0,.val (.int .i64 0),.row 5 1],.box [.row 3 1],.row 182 6 false 1 (Q0 m.n),.row 99 2 false 1 (Qc (Q1d n m.s)),.row 146 3 false 1 []]:=by
 have h:=Q87 t b 0 m hs hn hk n
 unfold obT obM at h
 exact h.tell [some 0,some 1,some 2,some 3,none,some 4] [some 0,some 1,some 2,some 3,some 5,some 4] rfl rfl rfl (Nat.le_of_ble_eq_true rfl) rfl (by simp[Qh,Qz,hd]) (res':=.tup []) rfl (by simp[Qh,Qz,Q2g,hd]) trivial
theorem QdQ (b:List UInt8)(hb:b.length≤100000):BCall prog 13 [.slc 1 (Q5 b)] [] (Q5H (Q6 b) (Qd b)) []:=by
 obtain⟨ok,h1,h2,h3,h4⟩:=Q2y b
 have hs:=Q6o b hb
 have cD:=QgA b (by omega) (by omega) (fun x hx=>by have:=h4 x hx;omega)
 have hkb:=Q4b b
 have hE:Qd b=Q6X (Q6 b) b (Q2B b):=rfl
 have hiv:=Q5g b
 have hrl:=hs.hr
 have c0:=fun (h:Q2B b=mk0)=>Qj0 (Q6 b) b hs 3 2 (by rw[←h];exact hiv) (by omega) (by omega)
 have c1:=Qjw (Q6 b) b hs 0 (Q2B b) 3 2 hiv (by omega) (by omega)
 rw[←hE] at c1
 obtain⟨M,hM⟩:=exq (Qd b)
 rw[←hM] at c1 hE ⊢
 have cL:=Qjp 23 (b.take (QI b).2.toNat) (by rw[List.length_take];omega)
 have cK:=Qjg (Q6 b) b (Q1a (Qj 23 (b.take (QI b).2.toNat)) mk0) rfl (Nat.le_refl _) (Nat.le_of_ble_eq_true rfl) (Nat.zero_le _) 0
 obtain⟨t,ht⟩:=exq (Q6 b)
 have htb:t.bom=(QI b).2:=by rw[ht];rfl
 rw[←ht] at cD c0 c1 cK hE ⊢
 rw[←htb] at cL cK hkb
 have hf:Q2B b=if 0<t.bom then QhG (b.take t.bom.toNat) else mk0:=by rw[htb];rfl
 obtain⟨nb,hnb⟩:=QX b
 have hbn:t.bom≤nb:=by rw[hnb.eq];exact hkb.2
 have hb0:=hkb.1
 have hcut:std.cut (Q5 b) 0 t.bom=Q5 (b.take t.bom.toNat):=by
  show ((Q5 b).drop (0:Int).toNat).take (t.bom-0).toNat=_
  simp[Q5,List.map_take]
 have hbl:=Q1A b
 clear h1 h2 h3 h4 hkb hrl
 refine fnN (cs:=QjH t.kind t.bom (Q1 t.r) (Q9 t.off) M.n.length (Q0 (Qp M).n) (Qz M.d) (Qc M.s) (Q0 [Qj 23 (b.take t.bom.toNat)]) (Qc (Q1d 0 mk0.s))) func13 rfl (by kernel_rfl) ?_
 intro w0 g0
 generalize hp:std=p
 generalize hN1:Q0 [Qj 23 (b.take t.bom.toNat)]=N1
 generalize hS1:Qc (Q1d 0 mk0.s)=S1
 generalize hrt:(M.n.length:Int)=rt
 generalize han:Q0 (Qp M).n=an
 generalize had:Qz M.d=ad
 generalize hasx:Qc M.s=asx
 generalize hbm:t.bom=bm
 generalize hkd:t.kind=kd
 generalize hR:Q1 t.r=R
 generalize hO:Q9 t.off=O
 generalize hB':Q5 b=B'
 generalize hT:Q8 p tys (QjH kd bm R O rt an ad asx N1 S1) _ _ _ _=T
 cbv at hT
 subst hT
 simp only[Tree.ok,Q4,S0]
 subst hp hN1 hS1 hrt han had hasx hbm hkd hR hO hB'
 refine⟨cD,QkH,fun h=>⟨?_,?_,cK,?_,.pure rfl ⟨.inl rfl,.inl rfl,.inl rfl,.inl rfl,.inl rfl,.inl rfl,.inl rfl,trivial⟩⟩,fun h=>⟨?_,.pure rfl ⟨.inl rfl,.inl rfl,.inl rfl,.inl rfl,.inl rfl,.inl rfl,.inl rfl,trivial⟩⟩⟩
 ·show 0≤(0:Int)∧0≤t.bom∧t.bom≤((Q5 b).length:Int)
  have:=hnb.eq
  rw[hbl];omega
 ·show BCall _ _ [.box 0 0,.val (.int .i64 23),.slc 1 (std.cut (Q5 b) 0 t.bom)] _ _ _
  rw[hcut];exact cL
 ·have h:0<t.bom:=of_decide_eq_true h
  rw[if_pos h] at hf
  rw[hf] at c1
  exact c1
 ·have h:¬ 0<t.bom:=of_decide_eq_false h
  rw[if_neg h] at hf
  have c:=c0 hf
  rw[hf] at hE
  rw[←hE] at c
  exact c
def prA (l:List Node)(n:Int):List AV:=Q5 (pr l n)
structure PrOk (l:List Node) (n:Int):Prop where
 len:l.length≤1000000000
 wf:Wf l
 wide:Qfr l
 h0:0≤n
 h1:n<l.length
 p:(pr l n).length≤1000000
 c:co l n≤1000000
def QkO (N:List AV):Nat→List AV→List Ob→Option (AV×List Ob):=fun f args _=>match f,args with
 |67,[.ref [.slc 6 _],.val (.int .i64 n)]=>some (.tup [.agg [.ref [.slc 6 N],.val (.int .i64 n),.val (.int .i64 0),.val (.int .i64 0),.opt (.val (.pointer none))],.val (.int .i64 0)],[])
 |_,_=>none
theorem QeZ (t:Txt)(m:Mk):BCall prog 29 [Q5H t m] [] (.agg ((Cur.root m.n.length).cs (Q0 (Qp m).n))) []:=by
 have cR:=QjQ (Qp m).n m.n.length (by omega) (by show (m.n.length:Int)<((m.n++[_]).length:Int);simp only[List.length_append,List.length_singleton];omega)
 obtain⟨rt,hrt⟩:=exq (m.n.length:Int)
 obtain⟨l,hl⟩:=exq ((Qp m).n)
 unfold Q5H
 rw[←hrt,←hl] at cR ⊢
 refine fnN (cs:=QkO (Q0 l)) func29 rfl (by kernel_rfl) ?_
 intro w0 g0
 generalize hp:std=p,hN:Q0 l=N,hR:Q1 t.r=R,hO:Q9 t.off=O,hD':Qz m.d=D',hK:t.kind=K,hM:t.bom=M
 generalize hT:Q8 p tys (QkO N) _ _ _ _=T
 cbv at hT
 subst hT
 simp only[Tree.ok,Q4,S0]
 subst hp hN hR hO hD' hK hM
 exact⟨cR,.pure rfl ⟨.inl rfl,.inl rfl,.inl rfl,.inl rfl,.inl rfl,trivial⟩⟩
theorem QhW (b:List UInt8):BCall prog 11 [.slc 1 (Q5 b)] [] (.slc 1 (Q5 (b.take 400))) []:=by
 obtain⟨n,hn⟩:=QX b
 have hbl:=Q1A b
 have hlen:std.len (Q5 b)=n:=by show ((Q5 b).length:Int)=n;rw[hbl,hn.eq]
 refine fnN (cs:=cs0) func11 rfl (by kernel_rfl) ?_
 intro w0 g0
 generalize hp:std=p,hB':Q5 b=B'
 generalize hT:Q8 p tys (cs0) _ _ _ _=T
 cbv at hT
 subst hT
 simp only[Tree.ok,Q4,S0]
 subst hp hB'
 refine⟨fun h=>⟨?_,.pure rfl (.inl ?_)⟩,fun h=>.pure rfl (.inl ?_)⟩
 ·have h:400<std.len (Q5 b):=of_decide_eq_true h
  show 0≤(0:Int)∧0≤(400:Int)∧(400:Int)≤std.len (Q5 b)
  omega
 ·show AV.slc 1 (((Q5 b).drop (0:Int).toNat).take ((400:Int)-0).toNat)=_
  simp[Q5,List.map_take]
 ·have h:¬ 400<std.len (Q5 b):=of_decide_eq_false h
  have:=hn.eq
  rw[List.take_of_length_le (by omega)]
end Go.Proofs.YtibemhahkicbpaaGreat
namespace Go.Proofs.YtibemhahkicbpaaGreat
open Go.RowKit Go.Lib
end Go.Proofs.YtibemhahkicbpaaGreat
namespace Go.Proofs.YtibemhahkicbpaaGreat
open Go.RowKit Go.Lib
structure CurIn (l:List Node) (W C:Nat) (c:Cur):Prop where
 h0:0≤c.n
 h1:c.n<l.length
 f0:0≤c.f
 w:c.f+(Qe l c.n).width≤W
 co:co l c.n≤C
theorem QdM (l:List Node)(ks:List Int):ks.length≤coL l ks:=by
 induction ks with
 |nil=>exact Nat.zero_le _
 |cons k r ih=>have:=QcK l k;simp only[coL,List.map_cons,List.sum_cons,List.length_cons] at ih ⊢;omega
theorem Qin (l:List Node){ks:List Int}{k:Int}(h:k∈ks):co l k≤coL l ks:=by
 induction ks with
 |nil=>cases h
 |cons x r ih =>
  simp only[coL,List.map_cons,List.sum_cons] at ih ⊢
  rcases List.mem_cons.1 h with rfl|h
  ·omega
  ·have:=ih h;omega
section
variable {l:List Node} {W C:Nat} {c:Cur}
theorem CurIn.kids (ha:Ar l)(h:CurIn l W C c):InR l (Qa l c):=fun k hk=>by
 have h1:=ha.wf c.n h.h0 h.h1 k hk
 have:=h.h1
 omega
theorem CurIn.wide (ha:Ar l)(h:CurIn l W C c):Q1l l (Qa l c)≤(Qe l c.n).width∧0≤(Qe l c.n).width:=by
 rw[ha.wide c.n h.h0 h.h1,Q6m ha.wide (h.kids ha),Qen ha.wf h.h0 h.h1,List.length_append]
 show (((Qa l c).flatMap (pr l)).length:Int)≤(((Qe l c.n).b.length+((Qa l c).flatMap (pr l)).length:Nat):Int)∧_
 omega
theorem CurIn.cos (ha:Ar l)(h:CurIn l W C c):1+coL l (Qa l c)≤C:=by
 have:=h.co
 rw[Q9v ha.wf h.h0 h.h1] at this
 exact this
theorem CurIn.ok (ha:Ar l)(h:CurIn l W C c)(hW:W≤2147483647)(hC:C≤1000000):CurOk l c:=by
 have h1:=h.wide ha
 have h2:=h.cos ha
 have h3:=QdM l (Qa l c)
 have h4:=h.w
 have h5:=h.f0
 exact⟨by omega,by omega,h5,by omega⟩
theorem CurIn.down (ha:Ar l)(h:CurIn l W C c){k:Int}(h0:0≤k)(h1:k<(Qa l c).length):CurIn l W C (Q1X l c k):=by
 have hk:k.toNat<(Qa l c).length:=by omega
 have hx:(Qa l c)[k.toNat]?.getD 0=(Qa l c)[k.toNat]:=by rw[List.getElem?_eq_getElem hk];rfl
 have hm:(Qa l c)[k.toNat]∈Qa l c:=List.getElem_mem hk
 have hr:=h.kids ha _ hm
 have hw:=h.wide ha
 have hc:=h.cos ha
 have hcm:=Qin l hm
 have hs1:=Q4g ha.ok.w ((Qa l c).take k.toNat)
 have hs2:=Q7K ha.ok.w (Qa l c) (k.toNat+1)
 have hs3:Q1l l ((Qa l c).take (k.toNat+1))=Q1l l ((Qa l c).take k.toNat)+(Qe l (Qa l c)[k.toNat]).width:=by
  rw[List.take_add_one,List.getElem?_eq_getElem hk]
  show (((Qa l c).take k.toNat++[(Qa l c)[k.toNat]]).map (QJ l)).sum=_
  rw[List.map_append,List.sum_append]
  simp[Q1l,QJ]
 have h4:=h.w
 have h5:=h.f0
 refine⟨?_,?_,?_,?_,?_⟩
 ·show 0≤(Qa l c)[k.toNat]?.getD 0
  rw[hx];exact hr.1
 ·show (Qa l c)[k.toNat]?.getD 0<_
  rw[hx];exact hr.2
 ·show 0≤c.f+Q1l l ((Qa l c).take k.toNat)
  omega
 ·show c.f+Q1l l ((Qa l c).take k.toNat)+(Qe l ((Qa l c)[k.toNat]?.getD 0)).width≤W
  rw[hx];omega
 ·show Go.Proofs.YtibemhahkicbpaaGreat.co l ((Qa l c)[k.toNat]?.getD 0)≤C
  rw[hx];omega
end
theorem CurIn.to {l:List Node}{W C:Nat}(ha:Ar l):∀ (p:List Int) (c x:Cur),CurIn l W C c→toC l c p=some x→CurIn l W C x
 | [],c,x,h,e=>by
  obtain rfl:c=x:=by simpa[toC] using e
  exact h
 |k::r,c,x,h,e=>by
  have e:(if 0≤k∧k<(Qa l c).length then toC l (Q1X l c k) r else none)=some x:=e
  split at e
  ·rename_i hk
   exact CurIn.to ha r _ x (h.down ha hk.1 hk.2) e
  ·cases e
structure TreeOk (b:List UInt8) (m:Mk):Prop where
 ar:Ar (Qp m).n
 p:pr (Qp m).n m.n.length=b
 w:(Qe (Qp m).n m.n.length).width=b.length
 c:co (Qp m).n m.n.length≤400000
 n:(Qp m).n.length≤400000
 s:m.s.length=1
theorem Q6y (b:List UInt8)(hb:b.length≤100000):TreeOk b (Qd b):=by
 have hs:=Q6o b hb
 have hr:=(Q2y b).2.2.1
 obtain⟨h1,h2⟩:=QaG hs.ok hs.hr (Q5g b)
 have h1:MkI (Qd b) b (3+3 * (Q6 b).r.length) (2+3 * (Q6 b).r.length):=h1
 have h2:(Qd b).s.length=1:=h2
 obtain⟨k1,k2,k3,k4⟩:=QbN h1 h2
 have hn:=h1.i.n
 exact⟨k1,k2,k3,by omega,by show ((Qd b).n++[_]).length≤_;simp only[List.length_append,List.length_singleton];omega,h2⟩
theorem QaU (m:Mk):(m.n.length:Int)<((Qp m).n.length:Int):=by
 show (m.n.length:Int)<((m.n++[_]).length:Int)
 simp only[List.length_append,List.length_singleton];omega
theorem TreeOk.pr {b:List UInt8}{m:Mk}(h:TreeOk b m)(hb:b.length≤100000):PrOk (Qp m).n m.n.length :=
 ⟨by have:=h.n;omega,h.ar.wf,h.ar.wide,by omega,QaU m,by rw[h.p];omega,by have:=h.c;omega⟩
theorem TreeOk.root {b:List UInt8}{m:Mk}(h:TreeOk b m):CurIn (Qp m).n b.length 400000 (.root m.n.length) :=
 ⟨by show (0:Int)≤m.n.length;omega,QaU m,Int.le_refl _,by show (0:Int)+(Qe (Qp m).n m.n.length).width≤_;rw[h.w];omega,h.c⟩
end Go.Proofs.YtibemhahkicbpaaGreat
namespace Go.Proofs.YtibemhahkicbpaaGreat
open Go.RowKit Go.Lib
def Q3L (x:Node):Prop:=x.b=[]∨x.kids=[]
def Qln (n:Nat)(x:Dg):Prop:=0≤x.f∧x.f≤x.t∧x.t≤n∧1≤x.c∧x.c≤5
structure MkS (z:Nat) (m:Mk):Prop where
 n:∀ x∈m.n,Q3L x
 d:∀ x∈m.d,Qln z x
theorem Q5Y {l:List Node}(h:∀ x∈l,Q3L x){y:Node}(hy:Q3L y):∀ x∈l++[y],Q3L x:=fun x hx=>by
 rcases List.mem_append.1 hx with hx|hx
 ·exact h x hx
 ·obtain rfl:x=y:=by simpa using hx
  exact hy
theorem Q7S (k:Int)(b:List UInt8):Q3L (Qj k b):=.inr rfl
theorem Qa0 (l:List Node)(k:Int)(ks:List Int):Q3L (QM l k ks):=.inl rfl
section
variable {n:Nat} {m:Mk}
theorem MkS.add (h:MkS n m){y:Node}(hy:Q3L y):MkS n (Q1a y m):=⟨Q5Y h.n hy,h.d⟩
theorem MkS.kid (h:MkS n m)(k:Int):MkS n (Q2g k m):=⟨h.n,h.d⟩
theorem MkS.lk (h:MkS n m)(t:Txt)(b:List UInt8)(kind f u:Int):MkS n (lkF t b kind f u m):=(h.add (Q7S _ _)).kid _
theorem MkS.shut (h:MkS n m)(l:Int):MkS n (Q16 l m):=⟨Q5Y h.n (Qa0 _ _ _),h.d⟩
structure Plc (t:Txt) (n:Nat) (f u:Int):Prop where
 h0:0≤Q1s t f
 h1:Q1s t f≤Q1s t u
 h2:Q1s t u≤n
theorem MkS.wrong (h:MkS n m)(t:Txt){c f u:Int}(hp:Plc t n f u)(hc:1≤c∧c≤5):MkS n (Qw t c f u m):=⟨h.n,fun x hx=>by
 rcases List.mem_append.1 hx with hx|hx
 ·exact h.d x hx
 ·obtain rfl:x=⟨Q1s t f,Q1s t u,c⟩:=by simpa using hx
  exact⟨hp.h0,hp.h1,hp.h2,hc.1,hc.2⟩⟩
theorem Plc.same {t:Txt}{f u:Int}(h:Plc t n f u):Plc t n f f:=⟨h.h0,Int.le_refl _,Int.le_trans h.h1 h.h2⟩
theorem MkS.miss (h:MkS n m)(t:Txt){a:Int}(hp:Plc t n a a):MkS n (Q1Q t a m):=((h.wrong t hp (by decide)).add (Q7S _ _)).shut _
end
theorem MkS.missGo {n:Nat}(t:Txt){f:Int}(hp:Plc t n f f)(k:Nat):∀ (j:Nat) (m:Mk),MkS n m→MkS n (missGo t f k j m)
 |0,_,h=>h
 |j+1,m,h=>by
  show MkS n (if _ then _ else _)
  split
  ·exact MkS.missGo t hp k j _ (h.miss t hp)
  ·exact h
section
variable {n:Nat} {m:Mk}
theorem MkS.start (h:MkS n m)(t:Txt)(b:List UInt8)(kind:Int){f u:Int}(hp:Plc t n f u):MkS n (QZ t b kind f u m):=by
 unfold QZ
 split
 ·exact (h.wrong t hp (by decide)).lk t b kind f u
 ·exact MkS.lk (m:={ m with s:=m.s++[⟨Qs t f u,[]⟩] }) ⟨h.n,h.d⟩ t b kind f u
theorem MkS.end_ (h:MkS n m)(t:Txt)(b:List UInt8)(kind:Int){f u:Int}(hp:Plc t n f u):MkS n (Q1Y t b kind f u m):=by
 unfold Q1Y
 simp only
 split
 ·exact (h.wrong t hp (by decide)).lk t b kind f u
 ·exact ((MkS.missGo t hp.same _ _ _ h).add (Q7S _ _)).shut _
theorem MkS.token (h:MkS n m)(t:Txt)(b:List UInt8)(kind:Int){f u:Int}(wh:Bool)(hp:Plc t n f u):MkS n (Q1f t b kind f u wh m):=by
 unfold Q1f
 simp only
 generalize hm1:(if wh=false then Qw t 1 f u m else if (kind=8∨kind=9∨kind=10)∧(Qy t.r f u).right=false then Qw t 2 f u m else m)=m1
 have h1:MkS n m1:=by
  rw[←hm1]
  split
  ·exact h.wrong t hp (by decide)
  ·split
   ·exact h.wrong t hp (by decide)
   ·exact h
 split
 ·exact h1.start t b kind hp
 ·split
  ·exact h1.end_ t b kind hp
  ·exact h1.lk t b kind f u
end
theorem QgF {t:Txt}{b:List UInt8}(ok:TxtOk t b){f u:Int}(h0:0≤f)(h1:f≤u)(h2:u≤t.r.length):Plc t b.length f u:=by
 have hm:=ok.mono f.toNat u.toNat (by omega) (by omega)
 have hlen:=ok.len
 have hf:f.toNat<t.off.length:=by omega
 have hu:u.toNat<t.off.length:=by omega
 have h3:=ok.range (t.off[f.toNat]'hf) (List.getElem_mem hf)
 have h4:=ok.range (t.off[u.toNat]'hu) (List.getElem_mem hu)
 have e3:t.off[f.toNat]?.getD 0=t.off[f.toNat]:=by rw[List.getElem?_eq_getElem hf];rfl
 have e4:t.off[u.toNat]?.getD 0=t.off[u.toNat]:=by rw[List.getElem?_eq_getElem hu];rfl
 rw[←e3] at h3
 rw[←e4] at h4
 exact⟨h3.1,hm,h4.2⟩
theorem MkS.toks {t:Txt}{b:List UInt8}(ok:TxtOk t b):∀ (n k:Nat) (m:Mk),t.r.length-k≤n→MkS b.length m→MkS b.length ((Q1o t.r k).foldl (Q4F t b) m)
 |0,k,m,h,hi=>by
  rw[QU (by omega)];exact hi
 |n+1,k,m,h,hi=>by
  by_cases hlt:k<t.r.length
  ·obtain⟨h1,h2,h3,h4⟩:=Q91 t.r hlt
   rw[Q1j hlt,List.foldl_cons]
   have hp:Plc t b.length (QK t.r k).from_ (QK t.r k).to:=QgF ok (by omega) (by omega) (by omega)
   exact MkS.toks ok n (Qv t.r k).2.1 _ (by omega) (hi.token t b _ _ hp)
  ·rw[QU hlt];exact hi
theorem MkS.all {t:Txt}{b:List UInt8}(ok:TxtOk t b){m:Mk}(hi:MkS b.length m):MkS b.length (Q6X t b m) :=
 MkS.missGo t (QgF ok (by omega) (Int.le_refl _) (Int.le_refl _)) 0 _ _ (MkS.toks ok t.r.length 0 m (by omega) hi)
theorem Qjl (b:List UInt8)(n:Nat):MkS n (Q2B b):=by
 have h0:MkS n mk0:=⟨(fun x hx=>by cases hx),fun x hx=>by cases hx⟩
 unfold Q2B
 split
 ·exact (h0.add (Q7S _ _)).kid _
 ·exact h0
theorem QdR (b:List UInt8):MkS b.length (Qd b):=MkS.all (Q2y b).1 (Qjl b _)
theorem Qbz (b:List UInt8):∀ x∈(Qp (Qd b)).n,Q3L x:=Q5Y (QdR b).n (Qa0 _ _ _)
end Go.Proofs.YtibemhahkicbpaaGreat
namespace Go.Proofs.YtibemhahkicbpaaGreat
open Go.RowKit Go.Lib Tryz
def IsN (n:Nat)(i:Int):Prop:=i=n
theorem IsN.eq {n:Nat}{i:Int}(h:IsN n i):i=(n:Int):=h
def Cur.el (N:List AV)(c:Cur):List AV:=[.opt (.ref [.slc 6 N]),.val (.int .i64 c.n),.val (.int .i64 c.f),.val (.int .i64 c.k),.opt (upO N c)]
def QC (N:List AV)(l:List Cur):List AV:=l.map fun c=>.agg (c.el N)
theorem Q2w (N:List AV)(l:List Cur):(QC N l).length=l.length:=by simp[QC]
theorem Q6U (N:List AV)(a b:List Cur):QC N (a++b)=QC N a++QC N b:=by simp[QC]
def downs (l:List Node)(c:Cur):Nat→List Cur
 |0=>[]
 |k+1=>Q1X l c k::downs l c k
def Q1y (l:List Node):Nat→List Cur→List Cur
 |0,_=>[]
 |n+1,st=>match st.getLast? with
  |none=>[]
  |some x=>x::Q1y l n (st.dropLast++downs l x (Qa l x).length)
def Q4A (l:List Node)(c:Cur)(n:Nat):List Cur:=Q1y l n [c]
def coC (l:List Node)(st:List Cur):Nat:=(st.map fun c=>co l c.n).sum
theorem Q3R (l:List Node)(a b:List Cur):coC l (a++b)=coC l a+coC l b:=by simp[coC]
theorem Qay (l:List Node)(st:List Cur):st.length≤coC l st:=by
 induction st with
 |nil=>exact Nat.zero_le _
 |cons c r ih=>have:=QcK l c.n;simp only[coC,List.map_cons,List.sum_cons,List.length_cons] at ih ⊢;omega
theorem Q6u (l:List Node)(c:Cur):∀ k,k≤(Qa l c).length→coC l (downs l c k)=coL l ((Qa l c).take k)
 |0,_=>rfl
 |k+1,h=>by
  have h1:k<(Qa l c).length:=h
  have e:(Qa l c)[(k:Int).toNat]?.getD 0=(Qa l c)[k]:=by rw[Int.toNat_natCast,List.getElem?_eq_getElem h1];rfl
  have ih:=Q6u l c k (by omega)
  rw[List.take_add_one,List.getElem?_eq_getElem h1,Q7H]
  show co l (Q1X l c k).n+coC l (downs l c k)=_
  rw[ih,show (Q1X l c k).n=(Qa l c)[k] from e]
  simp only[Option.toList_some,Q7L]
  omega
theorem Q6P {l:List Node}{W C:Nat}{c:Cur}(ha:Ar l)(h:CurIn l W C c):∀ k,k≤(Qa l c).length→∀ x∈downs l c k,CurIn l W C x
 |0,_,x,hx=>by cases hx
 |k+1,hk,x,hx=>by
  rcases List.mem_cons.1 hx with rfl|hx
  ·exact h.down ha (by omega) (by omega)
  ·exact Q6P ha h k (by omega) x hx
theorem Q4s {l:List Node}{Q:Cur→Prop}(hQ:∀ x,Q x→∀ y∈downs l x (Qa l x).length,Q y):∀ (n:Nat) (st:List Cur),(∀ x∈st,Q x)→∀ y∈Q1y l n st,Q y
 |0,_,_,y,hy=>by cases hy
 |n+1,st,h,y,hy=>by
  unfold Q1y at hy
  cases hl:st.getLast? with
  |none=>rw[hl] at hy;cases hy
  |some x =>
   rw[hl] at hy
   have hx:Q x:=h x (List.mem_of_getLast? hl)
   rcases List.mem_cons.1 hy with rfl|hy
   ·exact hx
   ·refine Q4s hQ n _ (fun z hz=>?_) y hy
    rcases List.mem_append.1 hz with hz|hz
    ·exact h z (List.dropLast_subset _ hz)
    ·exact hQ x hx z hz
def CurAt (l:List Node)(b:List UInt8)(c:Cur):Prop:=∃ pre post,b=pre++(pr l c.n++post)∧(pre.length:Int)=c.f
theorem CurAt.down {l:List Node}{b:List UInt8}{W C:Nat}{c:Cur}(ha:Ar l)(ho:∀ x∈l,Q3L x)(h:CurIn l W C c)(hb:CurAt l b c){k:Int}(h0:0≤k)(h1:k<(Qa l c).length):CurAt l b (Q1X l c k):=by
 obtain⟨pre,post,e1,e2⟩:=hb
 have hk:k.toNat<(Qa l c).length:=by omega
 have hx:(Q1X l c k).n=(Qa l c)[k.toNat]:=by show (Qa l c)[k.toNat]?.getD 0=_;rw[List.getElem?_eq_getElem hk];rfl
 have hin:=h.kids ha
 have hnb:(Qe l c.n).b=[]:=by
  have hm:Qe l c.n∈l:=by
   have hlt:c.n.toNat<l.length:=by have:=h.h0;have:=h.h1;omega
   rw[Qe,if_pos ⟨h.h0,h.h1⟩,List.getElem?_eq_getElem hlt]
   exact List.getElem_mem hlt
  rcases ho _ hm with h2|h2
  ·exact h2
  ·have h2:Qa l c=[]:=h2
   rw[h2] at hk;exact absurd hk (by simp)
 have hp:pr l c.n=(Qa l c).flatMap (pr l):=by
  rw[Qen ha.wf h.h0 h.h1,hnb];rfl
 have hsp:Qa l c=(Qa l c).take k.toNat++((Qa l c)[k.toNat]::(Qa l c).drop (k.toNat+1)):=by
  rw[←List.drop_eq_getElem_cons hk,List.take_append_drop]
 have hpk:pr l c.n=((Qa l c).take k.toNat).flatMap (pr l)++(pr l (Qa l c)[k.toNat]++((Qa l c).drop (k.toNat+1)).flatMap (pr l)):=by
  rw[hp]
  conv=>lhs;rw[hsp]
  rw[List.flatMap_append,List.flatMap_cons]
 refine⟨pre++((Qa l c).take k.toNat).flatMap (pr l),((Qa l c).drop (k.toNat+1)).flatMap (pr l)++post,?_,?_⟩
 ·rw[e1,hpk,hx];simp only[List.append_assoc]
 ·show ((pre++_).length:Int)=c.f+Q1l l ((Qa l c).take k.toNat)
  rw[Q6m ha.wide (fun y hy=>hin y (List.mem_of_mem_take hy)),List.length_append]
  omega
def CurB (l:List Node)(b:List UInt8)(C:Nat)(c:Cur):Prop:=CurIn l b.length C c∧CurAt l b c
theorem CurB.downs {l:List Node}{b:List UInt8}{C:Nat}{c:Cur}(ha:Ar l)(ho:∀ x∈l,Q3L x)(h:CurB l b C c):∀ k,k≤(Qa l c).length→∀ x∈Go.Proofs.YtibemhahkicbpaaGreat.downs l c k,CurB l b C x
 |0,_,x,hx=>by cases hx
 |k+1,hk,x,hx=>by
  rcases List.mem_cons.1 hx with rfl|hx
  ·exact⟨h.1.down ha (by omega) (by omega),h.2.down ha ho h.1 (by omega) (by omega)⟩
  ·exact CurB.downs ha ho h k (by omega) x hx
theorem Qgp {l:List Node}{b:List UInt8}{C:Nat}{c:Cur}(ha:Ar l)(ho:∀ x∈l,Q3L x)(h:CurB l b C c)(n:Nat):∀ x∈Q4A l c n,CurB l b C x :=
 Q4s (fun x hx y hy=>hx.downs ha ho _ (Nat.le_refl _) y hy) n [c] (fun x hx=>by
  obtain rfl:x=c:=by simpa using hx
  exact h)
theorem CurAt.cut {l:List Node}{b:List UInt8}{c:Cur}(h:CurAt l b c):(b.drop c.f.toNat).take (pr l c.n).length=pr l c.n:=by
 obtain⟨pre,post,e1,e2⟩:=h
 rw[e1,show c.f.toNat=pre.length by omega,List.drop_left,List.take_left]
theorem QiI (l:List Node)(c:Cur)(k:Int)(h0:0≤k)(h1:k<(Qa l c).length)(hw:∀ n,0≤QJ l n)(ok:CurOk l c) :
  BCall prog 56 [.agg (c.el (Q0 l)),.val (.int .i64 k)] [] (.tup [.agg ((Q1X l c k).el (Q0 l)),.val (.bool true)]) [] :=
 ((Qiu l c k h0 h1 ok.n hw ok.s ok.f0 ok.f1).le (args:=[.agg (c.el (Q0 l)),.val (.int .i64 k)]) ⟨⟨.inr (.inr (.inr rfl)),.inl rfl,.inl rfl,.inl rfl,.inl rfl,trivial⟩,.inl rfl,trivial⟩).res (res':=.tup [.agg ((Q1X l c k).el (Q0 l)),.val (.bool true)]) ⟨⟨.inr (.inr (.inl ⟨rfl,trivial⟩)),.inl rfl,.inl rfl,.inl rfl,.inl rfl,trivial⟩,.inl rfl,trivial⟩
theorem Q92 (l:List Node):∀ n,Q1y l n []=[]
 |0=>rfl
 |_+1=>rfl
theorem Q7T (l:List Node)(n:Nat)(st:List Cur)(x:Cur):Q1y l (n+1) (st++[x])=x::Q1y l n (st++downs l x (Qa l x).length):=by
 show (match (st++[x]).getLast? with|none=>[]|some y=>y::Q1y l n ((st++[x]).dropLast++downs l y (Qa l y).length))=_
 simp
theorem QhZ (l:List Node)(c:Cur)(hn:(Qa l c).length≤1000000000):BCall prog 68 [.opt (.ref [.slc 6 (Q0 l)]),.val (.int .i64 c.n)] [] (.slc 1 (Q1n l c.n)) [] :=
 (QhC l c.n hn).le (args:=[.opt (.ref [.slc 6 (Q0 l)]),.val (.int .i64 c.n)]) ⟨.inr (.inr (.inr rfl)),.inl rfl,trivial⟩
def dnW (l:List Node)(n i:Int):Int:=(Qe l n).kids[i.toNat]?.getD 0
def dfW (l:List Node)(n f i:Int):Int:=f+Q1l l ((Qe l n).kids.take i.toNat)
def duW (N:List AV)(n f k:Int)(U:AV):AV:=.ref [.ref [.slc 6 N],.val (.int .i64 n),.val (.int .i64 f),.val (.int .i64 k),U]
def QaQ (N:List AV)(kd:Int→List AV)(dn:Int→Int→Int)(df:Int→Int→Int→Int)(du:Int→Int→Int→AV→AV):Nat→List AV→List Ob→Option (AV×List Ob):=fun g args _=>match g,args with
 |68,[.opt (.ref [.slc 6 _]),.val (.int .i64 n)]=>some (.slc 1 (kd n),[])
 |56,[.agg [.opt (.ref [.slc 6 _]),.val (.int .i64 n),.val (.int .i64 f),.val (.int .i64 k),U],.val (.int .i64 i)]=>some (.tup [.agg [.opt (.ref [.slc 6 N]),.val (.int .i64 (dn n i)),.val (.int .i64 (df n f i)),.val (.int .i64 i),.opt (du n f k U)],.val (.bool true)],[])
 |_,_=>none
theorem Qga (l:List Node)(W C:Nat)(ha:Ar l)(hW:W≤2147483647)(hC:C≤1000000)(c:Cur)(hc:CurIn l W C c)(most:Nat)(hm:most≤2000000000) :
  BCall prog 30 [.agg (c.el (Q0 l)),.val (.int .i64 most)] [] (.slc 5 (QC (Q0 l) (Q4A l c most))) []:=by
 obtain⟨mo,hmo⟩:∃ mo:Int,IsN most mo:=⟨_,rfl⟩
 rw[←hmo.eq]
 obtain⟨R,hR⟩:=exq (Q4A l c most)
 rw[←hR]
 rw[Cur.el]
 obtain⟨cn,hcn⟩:=exq c.n
 obtain⟨cf,hcf⟩:=exq c.f
 obtain⟨ck,hck⟩:=exq c.k
 rw[←hcn,←hcf,←hck]
 refine fnN (cs:=QaQ (Q0 l) (Q1n l) (dnW l) (dfW l) (duW (Q0 l))) func30 rfl (by kernel_rfl) ?_
 intro w0 g0
 generalize hp:std=p
 generalize hU:upO (Q0 l) c=U
 generalize hkd:Q1n l=kd
 generalize hdn:dnW l=dn
 generalize hdf:dfW l=df
 generalize hdu:duW (Q0 l)=du
 generalize hN:Q0 l=N
 generalize hT:Q8 p tys (QaQ N kd dn df du) _ _ _ _=T
 cbv at hT
 subst hT
 simp only[Tree.ok,Q4,S0]
 subst hp hU hkd hdn hdf hdu hN
 refine⟨fun h=>absurd (show false=true from h) (by decide),fun _=>?_⟩
 refine Q1P (cs:=QaQ (Q0 l) (Q1n l) (dnW l) (dfW l) (duW (Q0 l))) (by kernel_rfl) (X:=List Cur×List Cur) (fun x=>⟨[(1,.val (.int .i64 mo)),(2,.box 0 0),(5,.row 1 0),(6,.row 2 0)],[.box [.opt (.ref [.slc 6 (Q0 l)]),.val (.int .i64 cn),.val (.int .i64 cf),.val (.int .i64 ck),.opt (upO (Q0 l) c)],.row 38 5 false 0 (QC (Q0 l) x.1),.row 38 5 false 0 (QC (Q0 l) x.2)]⟩) (fun x=>x.1++Q1y l (most-x.1.length) x.2=R∧(∀ y∈x.2,CurIn l W C y)∧coC l x.2+x.1.length≤C∧x.1.length≤most) (fun x=>most-x.1.length) ([],[c]) ?_ ?_ ?_
 ·refine⟨by rw[hR];rfl,fun y hy=>?_,?_,Nat.zero_le _⟩
  ·obtain rfl:y=c:=by simpa using hy
   exact hc
  ·have:=hc.co
   simpa[coC] using this
 ·refine⟨[some 0,none,some 1],_,rfl,?_⟩
  subst hcn hcf hck
  repeat first
   |exact trivial
   |refine⟨rfl,?_⟩
 ·rintro⟨o,st⟩ ⟨hJ,hin,hco,hol⟩
  simp only at hJ hin hco hol
  have olen:=Q2w (Q0 l) o
  have slen:=Q2w (Q0 l) st
  obtain⟨lo,hlo⟩:=QX o
  obtain⟨ls,hls⟩:=QX st
  have hoA:std.len (QC (Q0 l) o)=lo:=by show ((QC (Q0 l) o).length:Int)=lo;rw[olen,hlo.eq]
  have hsA:std.len (QC (Q0 l) st)=ls:=by show ((QC (Q0 l) st).length:Int)=ls;rw[slen,hls.eq]
  generalize hp:std=p
  generalize hU:upO (Q0 l) c=U
  generalize hOA:QC (Q0 l) o=OA
  generalize hSA:QC (Q0 l) st=SA
  generalize hkd:Q1n l=kd
  generalize hdn:dnW l=dn
  generalize hdf:dfW l=df
  generalize hdu:duW (Q0 l)=du
  generalize hN:Q0 l=N
  generalize hT:Q8 p tys (QaQ N kd dn df du) _ _ _ _=T
  cbv at hT
  subst hT
  simp only[Tree.ok,Q4,S0]
  subst hp hU hOA hSA hkd hdn hdf hdu hN
  refine⟨fun h1=>⟨fun h2=>?_,fun h2=>?_⟩,fun h1=>?_⟩
  ·have h1:0<std.len (QC (Q0 l) st):=of_decide_eq_true h1
   have h2:std.len (QC (Q0 l) o)<mo:=of_decide_eq_true h2
   rw[hsA] at h1
   rw[hoA] at h2
   have hne:st≠[]:=by rintro rfl;have:=hls.eq;simp at this;omega
   obtain⟨st0,x,rfl⟩:∃ st0 x,st=st0++[x]:=⟨st.dropLast,st.getLast hne,(List.dropLast_concat_getLast hne).symm⟩
   have hx:CurIn l W C x:=hin x (by simp)
   have hxo:=hx.ok ha hW hC
   have hkn:=hx.cos ha
   have hkl:=QdM l (Qa l x)
   have slen0:=Q2w (Q0 l) st0
   have hat:(QC (Q0 l) (st0++[x])).getD (((QC (Q0 l) (st0++[x])).length:Int)-1).toNat .dead=.agg (x.el (Q0 l)):=by
    rw[show (((QC (Q0 l) (st0++[x])).length:Int)-1).toNat=(QC (Q0 l) st0).length by rw[Q2w,Q2w];simp,Q6U]
    simp[QC]
   have hcut:List.take (((QC (Q0 l) (st0++[x])).length:Int)-1-0).toNat (List.drop (0:Int).toNat (QC (Q0 l) (st0++[x])))=QC (Q0 l) st0:=by
    rw[show (((QC (Q0 l) (st0++[x])).length:Int)-1-0).toNat=(QC (Q0 l) st0).length by rw[Q2w,Q2w];simp,Q6U]
    simp
   obtain⟨n,hn⟩:=QX (Qa l x)
   have hkA:((Q1n l x.n).length:Int)=n:=by
    show ((Q9 (Qa l x)).length:Int)=n
    rw[Q2h,hn.eq]
   have cK:=QhZ l x (by omega)
   have hcoL:st0.length≤1000000:=by
    have:=Qay l st0
    rw[Q3R] at hco
    omega
   have hbd:std.bnd (QC (Q0 l) o) [.agg (x.el (Q0 l))]:=by
    show (QC (Q0 l) o).length+1≤1000000000
    rw[olen];omega
   simp only[std,hat,hcut,Cur.el,AV.cells,List.drop_zero,List.getD_cons_zero,List.getD_cons_succ,Qg,QiR,Q2H,hkA]
   have hlen1:((QC (Q0 l) (st0++[x])).length:Int)=st0.length+1:=by rw[Q2w];simp
   have hUx:Q3A (.opt (upO (Q0 l) x)):=Qau _ _
   refine⟨?_,?_,⟨trivial,trivial,trivial,trivial,hUx,trivial⟩,?_,?_,hbd,cK,?_,?_⟩
   ·show (-9223372036854775808:Int)≤_∧_≤(9223372036854775807:Int)
    rw[hlen1];omega
   ·rw[hlen1];omega
   ·show (-9223372036854775808:Int)≤_∧_≤(9223372036854775807:Int)
    rw[hlen1];omega
   ·rw[hlen1];omega
   ·show (-9223372036854775808:Int)≤n-1∧n-1≤(9223372036854775807:Int)
    have:=hn.eq
    omega
   refine Q1P (cs:=QaQ (Q0 l) (Q1n l) (dnW l) (dfW l) (duW (Q0 l))) (by kernel_rfl) (X:=Int×List Cur) (fun y=>⟨[(1,.val (.int .i64 mo)),(2,.box 0 0),(5,.row 1 0),(6,.row 2 0),(7,.box 3 0),(8,.val (.int .i64 y.1))],[.box [.opt (.ref [.slc 6 (Q0 l)]),.val (.int .i64 cn),.val (.int .i64 cf),.val (.int .i64 ck),.opt (upO (Q0 l) c)],.row 38 5 false 0 (QC (Q0 l) (o++[x])),.row 38 5 false 0 (QC (Q0 l) y.2),.box (x.el (Q0 l))]⟩) (fun y=>-1≤y.1∧y.1<n∧y.2++downs l x (y.1+1).toNat=st0++downs l x (Qa l x).length) (fun y=>(y.1+1).toNat) (n-1,st0) ?_ ?_ ?_
   ·have:=hn.eq
    refine⟨?_,?_,?_⟩
    ·show (-1:Int)≤n-1
     omega
    ·show n-1<n
     omega
    ·show st0++downs l x (n-1+1).toNat=_
     rw[show (n-1+1).toNat=(Qa l x).length by omega]
   ·refine⟨[some 0,some 1,some 2,some 3],_,rfl,?_⟩
    have happ:QC (Q0 l) o++[.agg (x.el (Q0 l))]=QC (Q0 l) (o++[x]):=by rw[Q6U];rfl
    repeat first
     |exact trivial
     |refine⟨rfl,?_⟩
     |refine⟨happ,?_⟩
     |refine⟨gI (happ),?_⟩
     |refine⟨gA (happ),?_⟩
     |refine⟨gB (happ),?_⟩
     |refine⟨gR (happ),?_⟩
     |refine⟨gT (happ),?_⟩
     |refine⟨hcut,?_⟩
     |refine⟨gI (hcut),?_⟩
     |refine⟨gA (hcut),?_⟩
     |refine⟨gB (hcut),?_⟩
     |refine⟨gR (hcut),?_⟩
     |refine⟨gT (hcut),?_⟩
   ·rintro⟨k,s1⟩ ⟨hk0,hk1,hks⟩
    simp only at hk0 hk1 hks
    have hs1:s1.length≤1000000:=by
     have h3:=congrArg (coC l) hks
     rw[Q3R,Q3R,Q6u l x _ (Nat.le_refl _),List.take_length] at h3
     have h4:=Qay l s1
     have h5:coC l [x]=1+coL l (Qa l x):=by
      show co l x.n+0=_
      rw[Nat.add_zero,Q9v ha.wf hx.h0 hx.h1];rfl
     rw[Q3R,h5] at hco
     omega
    have s1len:=Q2w (Q0 l) s1
    obtain⟨xn,hxn⟩:=exq x.n
    obtain⟨xf,hxf⟩:=exq x.f
    obtain⟨xk,hxk⟩:=exq x.k
    by_cases hk:0≤k
    ·have cD:=QiI l x k hk (by have:=hn.eq;omega) ha.ok.w hxo
     have hdn:(Q1X l x k).el (Q0 l)=[.opt (.ref [.slc 6 (Q0 l)]),.val (.int .i64 (dnW l xn k)),.val (.int .i64 (dfW l xn xf k)),.val (.int .i64 k),.opt (duW (Q0 l) xn xf xk (.opt (upO (Q0 l) x)))]:=by
      rw[hxn,hxf,hxk];rfl
     rw[hdn] at cD
     have hks2:(s1++[Q1X l x k])++downs l x k.toNat=st0++downs l x (Qa l x).length:=by
      rw[←hks,show (k+1).toNat=k.toNat+1 by omega]
      show _=s1++(Q1X l x (k.toNat:Nat)::downs l x k.toNat)
      rw[Int.toNat_of_nonneg hk];simp
     have happ2:QC (Q0 l) s1++[.agg ((Q1X l x k).el (Q0 l))]=QC (Q0 l) (s1++[Q1X l x k]):=by rw[Q6U];rfl
     rw[hdn] at happ2
     have hbd2:∀ z,std.bnd (QC (Q0 l) s1) [z]:=fun z=>by
      show (QC (Q0 l) s1).length+1≤1000000000
      rw[s1len];omega
     simp only[Cur.el] at cD ⊢
     rw[←hxn,←hxf,←hxk] at cD ⊢
     clear hks hdn
     generalize hp:std=p
     generalize hU:upO (Q0 l) c=U
     generalize hUX:upO (Q0 l) x=UX
     generalize hOA:QC (Q0 l) (o++[x])=OA
     generalize hSA:QC (Q0 l) s1=SA
     generalize hkd:Q1n l=kd
     generalize hdn:dnW l=dn
     generalize hdf:dfW l=df
     generalize hdu:duW (Q0 l)=du
     generalize hN:Q0 l=N
     generalize hT:Q8 p tys (QaQ N kd dn df du) _ _ _ _=T
     cbv at hT
     subst hT
     simp only[Tree.ok,Q4,S0]
     subst hp hU hUX hOA hSA hkd hdn hdf hdu hN
     refine⟨fun _=>⟨cD,hbd2 _,?_,(k-1,s1++[Q1X l x k]),⟨?_,?_,?_⟩,?_,[some 0,some 1,some 2,some 3],_,rfl,?_⟩,fun h=>?_⟩
     ·show (-9223372036854775808:Int)≤k-1∧k-1≤(9223372036854775807:Int)
      have:=hn.eq
      omega
     ·show (-1:Int)≤k-1
      omega
     ·show k-1<n
      omega
     ·show (s1++[Q1X l x k])++downs l x (k-1+1).toNat=_
      rw[show (k-1+1).toNat=k.toNat by omega];exact hks2
     ·show (k-1+1).toNat<(k+1).toNat
      omega
     ·repeat first
       |exact trivial
       |refine⟨rfl,?_⟩
       |refine⟨happ2,?_⟩
       |refine⟨gI (happ2),?_⟩
       |refine⟨gA (happ2),?_⟩
       |refine⟨gB (happ2),?_⟩
       |refine⟨gR (happ2),?_⟩
       |refine⟨gT (happ2),?_⟩
     ·have h:¬ 0≤k:=of_decide_eq_false h
      omega
    ·have hk2:k=-1:=by omega
     subst hk2
     have hs2:s1=st0++downs l x (Qa l x).length:=by
      rw[←hks];show s1=s1++[];simp
     simp only[Cur.el]
     rw[←hxn,←hxf,←hxk]
     generalize hp:std=p
     generalize hU:upO (Q0 l) c=U
     generalize hUX:upO (Q0 l) x=UX
     generalize hOA:QC (Q0 l) (o++[x])=OA
     generalize hSA:QC (Q0 l) s1=SA
     generalize hkd:Q1n l=kd
     generalize hdn:dnW l=dn
     generalize hdf:dfW l=df
     generalize hdu:duW (Q0 l)=du
     generalize hN:Q0 l=N
     generalize hT:Q8 p tys (QaQ N kd dn df du) _ _ _ _=T
     cbv at hT
     subst hT
     simp only[Tree.ok,Q4,S0]
     subst hp hU hUX hOA hSA hkd hdn hdf hdu hN
     refine⟨fun h=>?_,fun _=>?_⟩
     ·exact absurd (show decide ((0:Int)≤-1)=true from h) (by decide)
     rw[if_pos trivial]
     have hlt:o.length<most:=by have:=hlo.eq;have:=hmo.eq;omega
     refine⟨(o++[x],st0++downs l x (Qa l x).length),⟨?_,fun y hy=>?_,?_,?_⟩,?_,[some 0,some 1,some 2],_,rfl,?_⟩
     ·show (o++[x])++Q1y l (most-(o++[x]).length) (st0++downs l x (Qa l x).length)=R
      rw[←hJ,show most-o.length=(most-(o++[x]).length)+1 by simp;omega,Q7T]
      simp
     ·have hy:y∈st0++downs l x (Qa l x).length:=hy
      rcases List.mem_append.1 hy with hy|hy
      ·exact hin y (List.mem_append_left _ hy)
      ·exact Q6P ha hx _ (Nat.le_refl _) y hy
     ·show coC l (st0++downs l x (Qa l x).length)+(o++[x]).length≤C
      have h5:coC l [x]=1+coL l (Qa l x):=by
       show co l x.n+0=_
       rw[Nat.add_zero,Q9v ha.wf hx.h0 hx.h1];rfl
      rw[Q3R,h5] at hco
      rw[Q3R,Q6u l x _ (Nat.le_refl _),List.take_length,List.length_append,List.length_singleton]
      omega
     ·show (o++[x]).length≤most
      simp;omega
     ·show most-(o++[x]).length<most-o.length
      simp;omega
     ·subst hs2
      repeat first
       |exact trivial
       |refine⟨rfl,?_⟩
  ·have h2:¬ std.len (QC (Q0 l) o)<mo:=of_decide_eq_false h2
   rw[hoA] at h2
   have hR2:o=R:=by
    have:=hlo.eq
    have:=hmo.eq
    rw[←hJ,show most-o.length=0 by omega]
    simp[Q1y]
   rw[if_pos trivial,←hR2]
   clear h2 hmo
   generalize hp:std=p
   generalize hU:upO (Q0 l) c=U
   generalize hOA:QC (Q0 l) o=OA
   generalize hSA:QC (Q0 l) st=SA
   generalize hkd:Q1n l=kd
   generalize hdn:dnW l=dn
   generalize hdf:dfW l=df
   generalize hdu:duW (Q0 l)=du
   generalize hN:Q0 l=N
   generalize hT:Q8 p tys (QaQ N kd dn df du) _ _ _ _=T
   cbv at hT
   subst hT
   simp only[Tree.ok,Q4,S0]
   subst hp hU hOA hSA hkd hdn hdf hdu hN
   exact .pure rfl (.inl rfl)
  ·have h1:¬ 0<std.len (QC (Q0 l) st):=of_decide_eq_false h1
   rw[hsA] at h1
   have hst:st=[]:=List.eq_nil_of_length_eq_zero (by have:=hls.eq;omega)
   have hR2:o=R:=by
    rw[←hJ,hst,Q92]
    simp
   rw[if_pos trivial,←hR2]
   clear h1 hmo
   generalize hp:std=p
   generalize hU:upO (Q0 l) c=U
   generalize hOA:QC (Q0 l) o=OA
   generalize hSA:QC (Q0 l) st=SA
   generalize hkd:Q1n l=kd
   generalize hdn:dnW l=dn
   generalize hdf:dfW l=df
   generalize hdu:duW (Q0 l)=du
   generalize hN:Q0 l=N
   generalize hT:Q8 p tys (QaQ N kd dn df du) _ _ _ _=T
   cbv at hT
   subst hT
   simp only[Tree.ok,Q4,S0]
   subst hp hU hOA hSA hkd hdn hdf hdu hN
   exact .pure rfl (.inl rfl)
end Go.Proofs.YtibemhahkicbpaaGreat
namespace Go.Proofs.YtibemhahkicbpaaGreat
open Go.RowKit Go.Lib
theorem CurB.pr {l:List Node}{b:List UInt8}{C:Nat}{c:Cur}(ha:Ar l)(hl:l.length≤1000000000)(hb:b.length≤1000000)(hC:C≤1000000)(h:CurB l b C c):PrOk l c.n:=by
 refine⟨hl,ha.wf,ha.wide,h.1.h0,h.1.h1,?_,by have:=h.1.co;omega⟩
 obtain⟨pre,post,e1,_⟩:=h.2
 have:=congrArg List.length e1
 simp only[List.length_append] at this
 omega
theorem Q8E (l:List Node):∀ (n:Nat) (st:List Cur),(Q1y l n st).length≤n
 |0,_=>Nat.le_refl _
 |n+1,st=>by
  unfold Q1y
  cases st.getLast? with
  |none=>exact Nat.zero_le _
  |some x=>simp only[List.length_cons];have:=Q8E l n (st.dropLast++downs l x (Qa l x).length);omega
end Go.Proofs.YtibemhahkicbpaaGreat
namespace Go.Proofs.YtibemhahkicbpaaGreat
open Go.RowKit Go.Lib Tryz
def Qib (l:List Int)(k:Nat):Bool:=l[k]?.getD 0 == 10||(l[k]?.getD 0 == 13&&(decide (k+1=l.length)||!(l[k+1]?.getD 0 == 10)))
def lcF (l:List Int):Nat→Int×Int
 |0=>(1,1)
 |k+1=>if Qib l k=true then ((lcF l k).1+1,1) else ((lcF l k).1,(lcF l k).2+1)
theorem Q6V (l:List Int):∀ k,1≤(lcF l k).1∧(lcF l k).1≤k+1∧1≤(lcF l k).2∧(lcF l k).2≤k+1
 |0=>by simp[lcF]
 |k+1=>by
  have ih:=Q6V l k
  rw[lcF]
  split
  ·refine⟨?_,?_,?_,?_⟩<;>simp only<;>omega
  ·refine⟨?_,?_,?_,?_⟩<;>simp only<;>omega
theorem Qko (l:List Int)(hl:l.length≤1000000):BCall prog 122 [.slc 1 (Q1 l),.val (.int .i64 l.length)] [] (.tup [.val (.int .i64 (lcF l l.length).1),.val (.int .i64 (lcF l l.length).2)]) []:=by
 obtain⟨n,hn⟩:=QX l
 obtain⟨R,hR⟩:=exq (lcF l l.length)
 rw[←hR,←hn.eq]
 have hlen:std.len (Q1 l)=n:=by show ((Q1 l).length:Int)=n;rw[Q13,hn.eq]
 have hn0:0≤n:=by have:=hn.eq;omega
 have hn1:n≤1000000:=by have:=hn.eq;omega
 have hat:std.minI (std.maxI n 0) (std.len (Q1 l))=n:=by
  rw[hlen]
  show (if n<(if n<0 then 0 else n) then n else (if n<0 then 0 else n))=n
  rw[if_neg (by omega:¬ n<0),if_neg (by omega)]
 have hcut:std.cut (Q1 l) 0 n=Q1 l:=by
  show ((Q1 l).drop 0).take (n-0).toNat=_
  rw[List.drop_zero]
  refine List.take_of_length_le ?_
  have:=hn.eq
  rw[Q13];omega
 refine fnN (cs:=cs0) func122 rfl (by kernel_rfl) ?_
 intro w0 g0
 generalize hp:std=p,hrx:Q1 l=rx
 generalize hT:Q8 p tys (cs0) _ _ _ _=T
 cbv at hT
 subst hT
 simp only[Tree.ok,Q4,S0]
 subst hp hrx
 refine⟨?_,?_⟩
 ·show (0:Int)≤0∧0≤std.minI (std.maxI n 0) (std.len (Q1 l))∧std.minI (std.maxI n 0) (std.len (Q1 l))≤std.len (Q1 l)
  rw[hat,hlen];omega
 have h17:std.cut (Q1 l) 0 (std.minI (std.maxI n 0) (std.len (Q1 l)))=Q1 l:=by rw[hat];exact hcut
 have h18:std.len (std.cut (Q1 l) 0 (std.minI (std.maxI n 0) (std.len (Q1 l))))=n:=by rw[h17];exact hlen
 refine Q1P (cs:=cs0) (by kernel_rfl) (X:=Int) (fun i=>⟨[(0,.slc 1 (Q1 l)),(6,.val (.int .i64 (lcF l i.toNat).1)),(7,.val (.int .i64 (lcF l i.toNat).2)),(17,.slc 1 (Q1 l)),(18,.val (.int .i64 n)),(19,.val (.int .i64 i))],[]⟩) (fun i=>0≤i∧i≤n) (fun i=>(n-i).toNat) 0 ?_ ?_ ?_
 ·exact⟨Int.le_refl _,hn0⟩
 ·refine⟨[],_,rfl,?_⟩
  repeat first
   |exact trivial
   |refine⟨rfl,?_⟩
   |refine⟨h17,?_⟩
   |refine⟨gI (h17),?_⟩
   |refine⟨gA (h17),?_⟩
   |refine⟨gB (h17),?_⟩
   |refine⟨gR (h17),?_⟩
   |refine⟨gT (h17),?_⟩
   |refine⟨h18,?_⟩
   |refine⟨gI (h18),?_⟩
   |refine⟨gA (h18),?_⟩
   |refine⟨gB (h18),?_⟩
   |refine⟨gR (h18),?_⟩
   |refine⟨gT (h18),?_⟩
 ·clear h17 h18 hat hcut
  rintro i ⟨hi0,hi1⟩
  rcases Int.lt_or_eq_of_le hi1 with hlt|heq
  ·have hx:=Q3k (l:=l) hi0 (by have:=hn.eq;omega)
   have hx1:i+1<n→(Q1 l)[(i+1).toNat]?.getD .dead=.val (.int .i32 (l[(i+1).toNat]?.getD 0)):=fun h=>Q3k (by omega) (by have:=hn.eq;omega)
   have hrg:=Q6V l i.toNat
   have hst:lcF l (i+1).toNat=if Qib l i.toNat=true then ((lcF l i.toNat).1+1,1) else ((lcF l i.toNat).1,(lcF l i.toNat).2+1):=by
    rw[show (i+1).toNat=i.toNat+1 by omega];rfl
   have hen:Qib l i.toNat=(l[i.toNat]?.getD 0 == 10||(l[i.toNat]?.getD 0 == 13&&(decide (i+1=n)||!(l[(i+1).toNat]?.getD 0 == 10)))):=by
    have e1:decide (i.toNat+1=l.length)=decide (i+1=n):=decide_eq_decide.2 (by have:=hn.eq;omega)
    rw[Qib,e1,show (i+1).toNat=i.toNat+1 by omega]
   obtain⟨c,hc⟩:=exq (l[i.toNat]?.getD 0)
   obtain⟨d,hd⟩:=exq (l[(i+1).toNat]?.getD 0)
   rw[←hc] at hx hen
   rw[←hd] at hx1 hen
   rw[hen] at hst
   obtain⟨a,ha⟩:=exq ((lcF l i.toNat).1)
   obtain⟨b,hb⟩:=exq ((lcF l i.toNat).2)
   rw[←ha,←hb] at hst hrg ⊢
   have hrg:1≤a∧a≤1000001∧1≤b∧b≤1000001:=by omega
   clear hen hc hd ha hb
   have yes:(c == 10||(c == 13&&(decide (i+1=n)||!(d == 10))))=true→a+1=(lcF l (i+1).toNat).1∧(1:Int)=(lcF l (i+1).toNat).2:=fun h=>by
    rw[if_pos h] at hst;rw[hst];exact⟨rfl,rfl⟩
   have no:(c == 10||(c == 13&&(decide (i+1=n)||!(d == 10))))=false→a=(lcF l (i+1).toNat).1∧b+1=(lcF l (i+1).toNat).2:=fun h=>by
    rw[if_neg (by rw[h];decide)] at hst;rw[hst];exact⟨rfl,rfl⟩
   clear hst
   have hX:std.int (std.nth (std.cel (std.at_ (Q1 l) i)) 0)=c:=by
    have e:std.at_ (Q1 l) i=.val (.int .i32 c):=by
     show (Q1 l).getD i.toNat .dead=_
     rw[List.getD_eq_getElem?_getD];exact hx
    rw[e];rfl
   have hX1:i+1<n→std.int (std.nth (std.cel (std.at_ (Q1 l) (i+1))) 0)=d∧std.nth (std.cel (std.at_ (Q1 l) (i+1))) 0=.val (.int .i32 d):=fun h=>by
    have e:std.at_ (Q1 l) (i+1)=.val (.int .i32 d):=by
     show (Q1 l).getD (i+1).toNat .dead=_
     rw[List.getD_eq_getElem?_getD];exact hx1 h
    rw[e];exact⟨rfl,rfl⟩
   have hX0:std.nth (std.cel (std.at_ (Q1 l) i)) 0=.val (.int .i32 (std.int (std.nth (std.cel (std.at_ (Q1 l) i)) 0))):=by
    have e:std.at_ (Q1 l) i=.val (.int .i32 c):=by
     show (Q1 l).getD i.toNat .dead=_
     rw[List.getD_eq_getElem?_getD];exact hx
    rw[e];rfl
   have hlt2:std.ltI i n=true:=decide_eq_true hlt
   clear hx hx1
   generalize hp:std=p,hrx:Q1 l=rx
   generalize hT:Q8 p tys (cs0) _ _ _ _=T
   cbv at hT
   subst hT
   simp only[Tree.ok,Q4,S0]
   subst hp hrx
   refine⟨fun _=>⟨⟨hi0,?_⟩,⟨hX0,trivial⟩,(show (-9223372036854775808:Int)≤b+1∧b+1≤(9223372036854775807:Int) from by omega),fun h10=>?_,fun h10=>⟨fun h13=>⟨(show (-9223372036854775808:Int)≤i+1∧i+1≤(9223372036854775807:Int) from by omega),fun hl1=>?_,fun hl1=>?_⟩,fun h13=>?_⟩⟩,fun h=>absurd (hlt2.symm.trans h) (by decide)⟩
   ·show i<std.len (Q1 l)
    rw[hlen];exact hlt
   ·obtain⟨e1,e2⟩:=yes (by have h:(c == 10)=true:=by { rw[←hX];exact h10 };rw[h];rfl)
    refine⟨(show (-9223372036854775808:Int)≤a+1∧a+1≤(9223372036854775807:Int) from by omega),(show (-9223372036854775808:Int)≤i+1∧i+1≤(9223372036854775807:Int) from by omega),i+1,⟨by omega,by omega⟩,by omega,[],_,rfl,?_⟩
    repeat first
     |exact trivial
     |refine⟨rfl,?_⟩
     |refine⟨e1,?_⟩
     |refine⟨gI (e1),?_⟩
     |refine⟨gA (e1),?_⟩
     |refine⟨gB (e1),?_⟩
     |refine⟨gR (e1),?_⟩
     |refine⟨gT (e1),?_⟩
     |refine⟨e2,?_⟩
     |refine⟨gI (e2),?_⟩
     |refine⟨gA (e2),?_⟩
     |refine⟨gB (e2),?_⟩
     |refine⟨gR (e2),?_⟩
     |refine⟨gT (e2),?_⟩
   ·obtain⟨e1,e2⟩:=yes (by have h:(c == 13)=true:=by { rw[←hX];exact h13 };have h2:i+1=n:=by { rw[←hlen];exact eq_of_beq hl1 };rw[h,decide_eq_true h2];simp)
    refine⟨(show (-9223372036854775808:Int)≤a+1∧a+1≤(9223372036854775807:Int) from by omega),(show (-9223372036854775808:Int)≤i+1∧i+1≤(9223372036854775807:Int) from by omega),i+1,⟨by omega,by omega⟩,by omega,[],_,rfl,?_⟩
    repeat first
     |exact trivial
     |refine⟨rfl,?_⟩
     |refine⟨e1,?_⟩
     |refine⟨gI (e1),?_⟩
     |refine⟨gA (e1),?_⟩
     |refine⟨gB (e1),?_⟩
     |refine⟨gR (e1),?_⟩
     |refine⟨gT (e1),?_⟩
     |refine⟨e2,?_⟩
     |refine⟨gI (e2),?_⟩
     |refine⟨gA (e2),?_⟩
     |refine⟨gB (e2),?_⟩
     |refine⟨gR (e2),?_⟩
     |refine⟨gT (e2),?_⟩
   ·have hne:i+1≠n:=fun e=>by
     have h:(i+1 == std.len (Q1 l))=false:=hl1
     rw[hlen,e] at h
     simp at h
    have hlt3:i+1<n:=by omega
    obtain⟨k1,k2⟩:=hX1 hlt3
    refine⟨(show (-9223372036854775808:Int)≤i+1∧i+1≤(9223372036854775807:Int) from by omega),⟨(show (0:Int)≤i+1 from by omega),?_⟩,⟨?_,trivial⟩,fun hd1=>?_,fun hd1=>?_⟩
    ·show i+1<std.len (Q1 l)
     rw[hlen];exact hlt3
    ·show std.nth (std.cel (std.at_ (Q1 l) (i+1))) 0=.val (.int .i32 (std.int (std.nth (std.cel (std.at_ (Q1 l) (i+1))) 0)))
     rw[k1];exact k2
    ·obtain⟨e1,e2⟩:=yes (by have h:(c == 13)=true:=by { rw[←hX];exact h13 };have h2:(!(d == 10))=true:=by { rw[←k1];exact hd1 };rw[h,h2];simp)
     refine⟨(show (-9223372036854775808:Int)≤a+1∧a+1≤(9223372036854775807:Int) from by omega),(show (-9223372036854775808:Int)≤i+1∧i+1≤(9223372036854775807:Int) from by omega),i+1,⟨by omega,by omega⟩,by omega,[],_,rfl,?_⟩
     repeat first
      |exact trivial
      |refine⟨rfl,?_⟩
      |refine⟨e1,?_⟩
      |refine⟨gI (e1),?_⟩
      |refine⟨gA (e1),?_⟩
      |refine⟨gB (e1),?_⟩
      |refine⟨gR (e1),?_⟩
      |refine⟨gT (e1),?_⟩
      |refine⟨e2,?_⟩
      |refine⟨gI (e2),?_⟩
      |refine⟨gA (e2),?_⟩
      |refine⟨gB (e2),?_⟩
      |refine⟨gR (e2),?_⟩
      |refine⟨gT (e2),?_⟩
    ·obtain⟨e1,e2⟩:=no (by have h0:(c == 10)=false:=by { rw[←hX];exact h10 };have h2:(!(d == 10))=false:=by { rw[←k1];exact hd1 };rw[h0,h2,decide_eq_false hne];simp)
     refine⟨(show (-9223372036854775808:Int)≤i+1∧i+1≤(9223372036854775807:Int) from by omega),i+1,⟨by omega,by omega⟩,by omega,[],_,rfl,?_⟩
     repeat first
      |exact trivial
      |refine⟨rfl,?_⟩
      |refine⟨e1,?_⟩
      |refine⟨gI (e1),?_⟩
      |refine⟨gA (e1),?_⟩
      |refine⟨gB (e1),?_⟩
      |refine⟨gR (e1),?_⟩
      |refine⟨gT (e1),?_⟩
      |refine⟨e2,?_⟩
      |refine⟨gI (e2),?_⟩
      |refine⟨gA (e2),?_⟩
      |refine⟨gB (e2),?_⟩
      |refine⟨gR (e2),?_⟩
      |refine⟨gT (e2),?_⟩
   ·obtain⟨e1,e2⟩:=no (by have h0:(c == 10)=false:=by { rw[←hX];exact h10 };have h1:(c == 13)=false:=by { rw[←hX];exact h13 };rw[h0,h1];rfl)
    refine⟨(show (-9223372036854775808:Int)≤i+1∧i+1≤(9223372036854775807:Int) from by omega),i+1,⟨by omega,by omega⟩,by omega,[],_,rfl,?_⟩
    repeat first
     |exact trivial
     |refine⟨rfl,?_⟩
     |refine⟨e1,?_⟩
     |refine⟨gI (e1),?_⟩
     |refine⟨gA (e1),?_⟩
     |refine⟨gB (e1),?_⟩
     |refine⟨gR (e1),?_⟩
     |refine⟨gT (e1),?_⟩
     |refine⟨e2,?_⟩
     |refine⟨gI (e2),?_⟩
     |refine⟨gA (e2),?_⟩
     |refine⟨gB (e2),?_⟩
     |refine⟨gR (e2),?_⟩
     |refine⟨gT (e2),?_⟩
  ·have hfin:lcF l i.toNat=R:=by rw[hR];congr 1;have:=hn.eq;omega
   rw[hfin,heq]
   have hl2:std.ltI n n=false:=decide_eq_false (by omega)
   generalize hp:std=p,hrx:Q1 l=rx
   generalize hT:Q8 p tys (cs0) _ _ _ _=T
   cbv at hT
   subst hT
   simp only[Tree.ok,Q4,S0]
   subst hp hrx
   refine⟨fun h=>absurd (hl2.symm.trans h) (by decide),fun _=>?_⟩
   rw[if_pos trivial]
   generalize hp:std=p,hrx:Q1 l=rx
   generalize hT:Q8 p tys (cs0) _ _ _ _=T
   cbv at hT
   subst hT
   simp only[Tree.ok,Q4,S0]
   subst hp hrx
   exact .pure rfl ⟨.inl rfl,.inl rfl,trivial⟩
theorem QeH (l:List Int)(kd k skip:Nat)(bs:List UInt8):(QV l kd k skip bs).1=kd:=by unfold QV;split<;>rfl
theorem Qba (kd a:Nat)(b:Bool)(h1:1≤kd)(h2:kd≤10):1≤(kd,a,b).1∧(kd,a,b).1≤11∧((kd,a,b).1=11→(kd,a,b).2.2=false) :=
 ⟨h1,by show kd≤11;omega,fun h=>by have h:kd=11:=h;omega⟩
theorem QhE (a:Nat):1≤(11,a,false).1∧(11,a,false).1≤11∧((11,a,false).1=11→(11,a,false).2.2=false):=⟨by show 1≤11;omega,Nat.le_refl _,fun _=>rfl⟩
theorem Qd8 (l:List Int)(k:Nat):1≤(Qv l k).1∧(Qv l k).1≤11∧((Qv l k).1=11→(Qv l k).2.2=false):=by
 have up:∀ kd skip bs,1≤kd→kd≤10→1≤(QV l kd k skip bs).1∧(QV l kd k skip bs).1≤11∧((QV l kd k skip bs).1=11→(QV l kd k skip bs).2.2=false):=fun kd skip bs h1 h2=>by
  rw[QeH];exact⟨h1,by omega,fun h=>by omega⟩
 unfold Qv
 split
 ·unfold Q26
  split
  ·exact up _ _ _ (by decide) (by decide)
  ·split
   ·exact up _ _ _ (by decide) (by decide)
   ·split
    ·exact up _ _ _ (by decide) (by decide)
    ·split
     ·unfold Q49;exact Qba _ _ _ (by decide) (by decide)
     ·split
      ·unfold Q4d;exact Qba _ _ _ (by decide) (by decide)
      ·split
       ·unfold Q1W
        repeat' split
        all_goals exact Qba _ _ _ (by decide) (by decide)
       ·exact QhE _
 ·split
  ·unfold Q3m
   repeat' split
   all_goals first
    |exact Qba _ _ _ (by decide) (by decide)
    |exact QhE _
  ·split
   ·exact QhE _
   ·exact Qba _ _ _ (by decide) (by decide)
structure TokOk (l:List Int) (x:Tok):Prop where
 k0:1≤x.kind
 k1:x.kind≤11
 br:x.kind=11→x.whole=false
 f0:0≤x.from_
 f1:x.from_<x.to
 f2:x.to≤l.length
theorem Qe7 (l:List Int):∀ (n k:Nat),l.length-k≤n→∀ x∈Q1o l k,TokOk l x
 |0,k,h,x,hx=>by
  rw[QU (by omega)] at hx;cases hx
 |n+1,k,h,x,hx=>by
  by_cases hlt:k<l.length
  ·rw[Q1j hlt] at hx
   have hr:=Q1V l k hlt
   have hb:=Qd8 l k
   rcases List.mem_cons.1 hx with rfl|hx
   ·refine⟨?_,?_,?_,?_,?_,?_⟩
    ·show (1:Int)≤((Qv l k).1:Nat);omega
    ·show (((Qv l k).1:Nat):Int)≤11;omega
    ·intro h;exact hb.2.2 (by have h:(((Qv l k).1:Nat):Int)=11:=h;omega)
    ·show (0:Int)≤(k:Nat);omega
    ·show ((k:Nat):Int)<((Qv l k).2.1:Nat);omega
    ·show (((Qv l k).2.1:Nat):Int)≤l.length;omega
   ·exact Qe7 l n _ (by omega) x hx
  ·rw[QU hlt] at hx;cases hx
theorem Q82 (l:List Int):∀ x∈Q14 l,TokOk l x:=Qe7 l l.length 0 (by omega)
theorem Q9B (l:List Int):∀ (n k:Nat),l.length-k≤n→(Q1o l k).length≤l.length-k
 |0,k,h=>by rw[QU (by omega)];simp
 |n+1,k,h=>by
  by_cases hlt:k<l.length
  ·rw[Q1j hlt,List.length_cons]
   have hr:=Q1V l k hlt
   have:=Q9B l n (Qv l k).2.1 (by omega)
   omega
  ·rw[QU hlt];simp
theorem Q8M (l:List Int):(Q14 l).length≤l.length:=Q9B l l.length 0 (by omega)
def Q1v (ts:List Tok)(k:Int):Nat:=(ts.filter fun x=>x.kind == k).length
theorem QeT (ts:List Tok)(k:Int){i:Nat}(h:i<ts.length):Q1v (ts.take (i+1)) k=Q1v (ts.take i) k+(if ts[i].kind=k then 1 else 0):=by
 rw[Q1v,Q1v,List.take_succ_eq_append_getElem h,List.filter_append,List.length_append]
 congr 1
 rw[List.filter_cons,List.filter_nil]
 by_cases hk:ts[i].kind=k
 ·rw[if_pos (by rw[hk];exact beq_self_eq_true k),if_pos hk];rfl
 ·rw[if_neg (by simpa using hk),if_neg hk];rfl
theorem QiM (ts:List Tok)(k:Int):Q1v ts k≤ts.length:=List.length_filter_le _ _
def Q7z (l:List Int):Nat:=(l.filter fun r=>r == -1).length
theorem Qf2 (l:List Int){i:Nat}(h:i<l.length):Q7z (l.take (i+1))=Q7z (l.take i)+(if l[i]?.getD 0=-1 then 1 else 0):=by
 rw[Q7z,Q7z,List.take_succ_eq_append_getElem h,List.filter_append,List.length_append,List.getElem?_eq_getElem h]
 congr 1
 rw[List.filter_cons,List.filter_nil,Option.getD_some]
 by_cases hk:l[i]=-1
 ·rw[if_pos (by rw[hk];rfl),if_pos hk];rfl
 ·rw[if_neg (by simpa using hk),if_neg hk];rfl
theorem QaP (l:List Int):Q7z l≤l.length:=List.length_filter_le _ _
def Q9C (nb:Int)(l:List Int)(f:Int→Int):Rp:=⟨nb,l.length,Q7z l,(lcF l l.length).1,0,0,0,0,f 0,f 1,f 2,f 3,f 4,f 5,f 6,f 7,f 8,f 9,f 10,f 11,0,0,0,0,0,0⟩
def Qaz (ln cl:Int)(TK:List AV):Nat→List AV→List Ob→Option (AV×List Ob):=fun f args _=>match f,args with
 |122,[.slc 1 _,.val (.int .i64 _)]=>some (.tup [.val (.int .i64 ln),.val (.int .i64 cl)],[])
 |87,[.slc 1 _]=>some (.slc 4 TK,[])
 |_,_=>none
theorem Qk3 (nb:Int)(t:Txt)(hl:t.r.length≤1000000) :
  BCall prog 69 [.box 0 0,.agg t.cs] [.box [.val (.int .i64 nb),.val (.int .i64 0),.val (.int .i64 0),.val (.int .i64 0),.val (.int .i64 0),.val (.int .i64 0),.val (.int .i64 0),.val (.int .i64 0),.val (.int .i64 0),.val (.int .i64 0),.val (.int .i64 0),.val (.int .i64 0),.val (.int .i64 0),.val (.int .i64 0),.val (.int .i64 0),.val (.int .i64 0),.val (.int .i64 0),.val (.int .i64 0),.val (.int .i64 0),.val (.int .i64 0),.val (.int .i64 0),.val (.int .i64 0),.val (.int .i64 0),.val (.int .i64 0),.val (.int .i64 0),.val (.int .i64 0)]] (.tup []) [.box (Q9C nb t.r fun k=>Q1v (Q14 t.r) k).cs]:=by
 have cL:=Qko t.r hl
 have cT:=Q8A t.r hl
 have hta:=Q82 t.r
 have htl:=Q8M t.r
 have hbl:=QaP t.r
 rw[Txt.cs]
 obtain⟨l,hle⟩:=exq t.r
 rw[←hle] at cL cT hta htl hbl hl ⊢
 obtain⟨n,hn⟩:=QX l
 have hlen:std.len (Q1 l)=n:=by show ((Q1 l).length:Int)=n;rw[Q13,hn.eq]
 obtain⟨R1,hR1⟩:=exq (Q9C nb l fun k=>Q1v (Q14 l) k)
 rw[←hR1]
 obtain⟨ts,hts⟩:=exq (Q14 l)
 rw[←hts] at cT hta htl hR1
 obtain⟨m,hm⟩:=QX ts
 have hml:std.len (QO ts)=m:=by show ((QO ts).length:Int)=m;rw[Q8m,hm.eq]
 obtain⟨ln,hln⟩:=exq ((lcF l l.length).1)
 obtain⟨cl,hcl⟩:=exq ((lcF l l.length).2)
 rw[←hln,←hcl,←hn.eq] at cL
 generalize t.kind=K
 generalize t.bom=M
 generalize Q9 t.off=O
 refine fnN (cs:=Qaz ln cl (QO ts)) func69 rfl (by kernel_rfl) ?_
 intro w0 g0
 generalize hp:std=p,hTK:QO ts=TK,hrx:Q1 l=rx
 generalize hT:Q8 p tys (Qaz ln cl TK) _ _ _ _=T
 cbv at hT
 subst hT
 simp only[Tree.ok,Q4,S0]
 subst hp hTK hrx
 refine Q1P (cs:=Qaz ln cl (QO ts)) (by kernel_rfl) (X:=Int×Int) (fun x=>⟨[(0,.box 0 0),(3,.box 1 0),(15,.slc 1 (Q1 l)),(16,.val (.int .i64 n)),(17,.val (.int .i64 x.1))],[.box [.val (.int .i64 nb),.val (.int .i64 n),.val (.int .i64 x.2),.val (.int .i64 0),.val (.int .i64 0),.val (.int .i64 0),.val (.int .i64 0),.val (.int .i64 0),.val (.int .i64 0),.val (.int .i64 0),.val (.int .i64 0),.val (.int .i64 0),.val (.int .i64 0),.val (.int .i64 0),.val (.int .i64 0),.val (.int .i64 0),.val (.int .i64 0),.val (.int .i64 0),.val (.int .i64 0),.val (.int .i64 0),.val (.int .i64 0),.val (.int .i64 0),.val (.int .i64 0),.val (.int .i64 0),.val (.int .i64 0),.val (.int .i64 0)],.box [.val (.int .i64 K),.val (.int .i64 M),.slc 1 (Q1 l),.slc 1 O]]⟩) (fun x=>0≤x.1∧x.1≤n∧IsN (Q7z (l.take x.1.toNat)) x.2) (fun x=>(n-x.1).toNat) (0,0) ?_ ?_ ?_
 ·exact⟨Int.le_refl _,by have:=hn.eq;show (0:Int)≤n;omega,rfl⟩
 ·refine⟨[some 0,some 1],_,rfl,?_⟩
  repeat first
   |exact trivial
   |refine⟨rfl,?_⟩
   |refine⟨hlen,?_⟩
   |refine⟨gI (hlen),?_⟩
   |refine⟨gA (hlen),?_⟩
   |refine⟨gB (hlen),?_⟩
   |refine⟨gR (hlen),?_⟩
   |refine⟨gT (hlen),?_⟩
 ·rintro⟨i,b⟩ ⟨hi0,hi1,hb⟩
  simp only at hi0 hi1 hb
  have hbb:0≤b∧b≤1000000:=by
   have h1:=QaP (l.take i.toNat)
   rw[List.length_take] at h1
   rw[hb.eq];omega
  rcases Int.lt_or_eq_of_le hi1 with hlt|heq
  ·have hil:i.toNat<l.length:=by have:=hn.eq;omega
   have hn1:n≤1000000:=by have:=hn.eq;omega
   have hstep:=Qf2 l hil
   have hx:=Q3k (l:=l) hi0 (by have:=hn.eq;omega)
   obtain⟨c,hc⟩:=exq (l[i.toNat]?.getD 0)
   rw[←hc] at hx hstep
   have hat:std.at_ (Q1 l) i=.val (.int .i32 c):=by
    show (Q1 l).getD i.toNat .dead=_
    rw[List.getD_eq_getElem?_getD];exact hx
   have hX:std.int (std.nth (std.cel (std.at_ (Q1 l) i)) 0)=c:=by rw[hat];rfl
   have hX0:std.nth (std.cel (std.at_ (Q1 l) i)) 0=.val (.int .i32 (std.int (std.nth (std.cel (std.at_ (Q1 l) i)) 0))):=by rw[hat];rfl
   have hlt2:std.ltI i n=true:=decide_eq_true hlt
   clear hx hc hil hat
   generalize hp:std=p,hTK:QO ts=TK,hrx:Q1 l=rx
   generalize hT:Q8 p tys (Qaz ln cl TK) _ _ _ _=T
   cbv at hT
   subst hT
   simp only[Tree.ok,Q4,S0]
   subst hp hTK hrx
   refine⟨fun _=>⟨⟨hi0,?_⟩,⟨hX0,trivial⟩,fun hq=>?_,fun hq=>?_⟩,fun h=>absurd (hlt2.symm.trans h) (by decide)⟩
   ·show i<std.len (Q1 l)
    rw[hlen];exact hlt
   ·have hq:c=-1:=by rw[←hX];exact eq_of_beq hq
    rw[if_pos hq] at hstep
    refine⟨(show (-9223372036854775808:Int)≤b+1∧b+1≤(9223372036854775807:Int) from by omega),(show (-9223372036854775808:Int)≤i+1∧i+1≤(9223372036854775807:Int) from by omega),(i+1,b+1),⟨?_,?_,?_⟩,?_,[some 0,some 1],_,rfl,?_⟩
    ·show 0≤i+1;omega
    ·show i+1≤n;omega
    ·show b+1=((Q7z (l.take (i+1).toNat):Nat):Int)
     have e:=hb.eq
     rw[show (i+1).toNat=i.toNat+1 by omega,hstep];omega
    ·show (n-(i+1)).toNat<(n-i).toNat;omega
    ·repeat first
      |exact trivial
      |refine⟨rfl,?_⟩
      |refine⟨hlen,?_⟩
      |refine⟨gI (hlen),?_⟩
      |refine⟨gA (hlen),?_⟩
      |refine⟨gB (hlen),?_⟩
      |refine⟨gR (hlen),?_⟩
      |refine⟨gT (hlen),?_⟩
   ·have hq:¬ c=-1:=fun e=>by
     have hq:(std.int (std.nth (std.cel (std.at_ (Q1 l) i)) 0) == -1)=false:=hq
     rw[hX,e] at hq;cases hq
    rw[if_neg hq] at hstep
    refine⟨(show (-9223372036854775808:Int)≤i+1∧i+1≤(9223372036854775807:Int) from by omega),(i+1,b),⟨?_,?_,?_⟩,?_,[some 0,some 1],_,rfl,?_⟩
    ·show 0≤i+1;omega
    ·show i+1≤n;omega
    ·show b=((Q7z (l.take (i+1).toNat):Nat):Int)
     have e:=hb.eq
     rw[show (i+1).toNat=i.toNat+1 by omega,hstep];omega
    ·show (n-(i+1)).toNat<(n-i).toNat;omega
    ·repeat first
      |exact trivial
      |refine⟨rfl,?_⟩
      |refine⟨hlen,?_⟩
      |refine⟨gI (hlen),?_⟩
      |refine⟨gA (hlen),?_⟩
      |refine⟨gB (hlen),?_⟩
      |refine⟨gR (hlen),?_⟩
      |refine⟨gT (hlen),?_⟩
  ·have hbN:b=(Q7z l:Int):=by
    have e:=hb.eq
    rw[List.take_of_length_le (by have:=hn.eq;omega)] at e
    exact e
   have hl2:std.ltI i n=false:=decide_eq_false (by omega)
   have hcT:=cT
   have hcL:BCall prog 122 [.slc 1 (Q1 l),.val (.int .i64 (std.len (Q1 l)))] [] (.tup [.val (.int .i64 ln),.val (.int .i64 cl)]) []:=by rw[hlen];exact cL
   obtain⟨nbad,hnbad⟩:∃ nbad:Int,IsN (Q7z l) nbad:=⟨_,rfl⟩
   rw[←hnbad.eq] at hbN
   subst hbN
   clear hb
   generalize hp:std=p,hTK:QO ts=TK,hrx:Q1 l=rx
   generalize hT:Q8 p tys (Qaz ln cl TK) _ _ _ _=T
   cbv at hT
   subst hT
   simp only[Tree.ok,Q4,S0]
   subst hp hTK hrx
   refine⟨fun h=>absurd (hl2.symm.trans h) (by decide),fun _=>?_⟩
   rw[if_pos trivial]
   generalize hp:std=p,hTK:QO ts=TK,hrx:Q1 l=rx
   generalize hT:Q8 p tys (Qaz ln cl TK) _ _ _ _=T
   cbv at hT
   subst hT
   simp only[Tree.ok,Q4,S0]
   subst hp hTK hrx
   refine⟨hcL,hcT,?_⟩
   refine Q1P (cs:=Qaz ln cl (QO ts)) (by kernel_rfl) (X:=Int×(Int→Int)) (fun x=>⟨[(0,.box 0 0),(45,.slc 4 (QO ts)),(46,.val (.int .i64 m)),(47,.val (.int .i64 x.1))],[.box [.val (.int .i64 nb),.val (.int .i64 n),.val (.int .i64 b),.val (.int .i64 ln),.val (.int .i64 0),.val (.int .i64 0),.val (.int .i64 0),.val (.int .i64 0),.val (.int .i64 (x.2 0)),.val (.int .i64 (x.2 1)),.val (.int .i64 (x.2 2)),.val (.int .i64 (x.2 3)),.val (.int .i64 (x.2 4)),.val (.int .i64 (x.2 5)),.val (.int .i64 (x.2 6)),.val (.int .i64 (x.2 7)),.val (.int .i64 (x.2 8)),.val (.int .i64 (x.2 9)),.val (.int .i64 (x.2 10)),.val (.int .i64 (x.2 11)),.val (.int .i64 0),.val (.int .i64 0),.val (.int .i64 0),.val (.int .i64 0),.val (.int .i64 0),.val (.int .i64 0)]]⟩) (fun x=>0≤x.1∧x.1≤m∧∀ k,IsN (Q1v (ts.take x.1.toNat) k) (x.2 k)) (fun x=>(m-x.1).toNat) (0,fun _=>0) ?_ ?_ ?_
   ·exact⟨Int.le_refl _,by have:=hm.eq;show (0:Int)≤m;omega,fun k=>rfl⟩
   ·refine⟨[some 0],_,rfl,?_⟩
    repeat first
     |exact trivial
     |refine⟨rfl,?_⟩
     |refine⟨hml,?_⟩
     |refine⟨gI (hml),?_⟩
     |refine⟨gA (hml),?_⟩
     |refine⟨gB (hml),?_⟩
     |refine⟨gR (hml),?_⟩
     |refine⟨gT (hml),?_⟩
     |refine⟨hlen,?_⟩
     |refine⟨gI (hlen),?_⟩
     |refine⟨gA (hlen),?_⟩
     |refine⟨gB (hlen),?_⟩
     |refine⟨gR (hlen),?_⟩
     |refine⟨gT (hlen),?_⟩
   ·clear hcL hcT cL cT
    rintro⟨i,f⟩ ⟨hi0,hi1,hf⟩
    simp only at hi0 hi1 hf
    have hfb:∀ k,0≤f k∧f k≤1000000:=fun k=>by
     have h1:=QiM (ts.take i.toNat) k
     rw[List.length_take] at h1
     rw[(hf k).eq];omega
    rcases Int.lt_or_eq_of_le hi1 with hlt|heq
    ·have hil:i.toNat<ts.length:=by have:=hm.eq;omega
     have hm1:m≤1000000:=by have:=hm.eq;omega
     have hstep:=fun k=>QeT ts k hil
     obtain⟨x,hx⟩:=exq (ts[i.toNat])
     have hxm:x∈ts:=by rw[hx];exact List.getElem_mem hil
     have hat:std.at_ (QO ts) i=x.av:=by
      show (QO ts).getD i.toNat .dead=_
      rw[List.getD_eq_getElem?_getD,QO,List.getElem?_map,List.getElem?_eq_getElem hil,hx];rfl
     have hok:=hta x hxm
     rw[←hx] at hstep
     obtain⟨kd,hkd⟩:=exq x.kind
     have hk0:=hok.k0
     have hk1:=hok.k1
     rw[←hkd] at hk0 hk1 hstep
     have hX:std.int (std.nth (std.cel (std.at_ (QO ts) i)) 0)=kd:=by rw[hat,hkd];rfl
     have hX0:(std.all [std.hasI .i64 (std.nth (std.cel (std.at_ (QO ts) i)) 0),std.hasI .i64 (std.nth (std.cel (std.at_ (QO ts) i)) 1),std.hasI .i64 (std.nth (std.cel (std.at_ (QO ts) i)) 2),std.hasB (std.nth (std.cel (std.at_ (QO ts) i)) 3)]).q:=by rw[hat];exact⟨rfl,rfl,rfl,rfl,trivial⟩
     have hlt2:std.ltI i m=true:=decide_eq_true hlt
     have hin:i<std.len (QO ts):=by rw[hml];exact hlt
     have hst2:∀ k,IsN (Q1v (ts.take (i+1).toNat) k) (if k=kd then f k+1 else f k):=fun k=>by
      show (if k=kd then f k+1 else f k)=((Q1v (ts.take (i+1).toNat) k:Nat):Int)
      rw[show (i+1).toNat=i.toNat+1 by omega,hstep k,(hf k).eq]
      by_cases h:k=kd
      ·rw[if_pos h,if_pos h.symm];omega
      ·rw[if_neg h,if_neg (fun e=>h e.symm)];omega
     have hfr:∀ k,(std.inR .i64 (std.add (f k) 1)).q:=fun k=>by
      have:=hfb k
      show -9223372036854775808≤f k+1∧f k+1≤9223372036854775807
      omega
     clear hx hxm hat hkd hstep hf hil hta hok
     obtain rfl|rfl|rfl|rfl|rfl|rfl|rfl|rfl|rfl|rfl|rfl:kd=1∨kd=2∨kd=3∨kd=4∨kd=5∨kd=6∨kd=7∨kd=8∨kd=9∨kd=10∨kd=11:=by omega
     all_goals
      generalize hC:Code.region 12 _ _=C12
      generalize hp:std=p,hTK:QO ts=TK,hrx:Q1 l=rx
      rw[hp,hTK] at hX
      generalize hT:Q8 p tys (Qaz ln cl TK) _ _ _ _=T
      cbv at hT
      obtain⟨dd,hdd⟩:∃ dd:Nat,1+1=dd:=⟨_,rfl⟩
      cbv at hdd
      rw[hX] at hT
      subst hC
      cbv at hT
      subst hT
      simp only[Tree.ok,Q4,S0]
      subst hp hTK hrx
      refine⟨fun _=>⟨⟨hi0,hin⟩,hX0,?_⟩,fun h=>absurd (hlt2.symm.trans h) (by decide)⟩
      refine⟨hfr _,(show (-9223372036854775808:Int)≤i+1∧i+1≤(9223372036854775807:Int) from by omega),(i+1,_),⟨?_,?_,hst2⟩,?_,[some 0],_,rfl,?_⟩
      rotate_left 3
      repeat first
       |exact trivial
       |refine⟨rfl,?_⟩
       |refine⟨hml,?_⟩
       |refine⟨gI (hml),?_⟩
       |refine⟨gA (hml),?_⟩
       |refine⟨gB (hml),?_⟩
       |refine⟨gR (hml),?_⟩
       |refine⟨gT (hml),?_⟩
      ·show 0≤i+1;omega
      ·show i+1≤m;omega
      ·show (m-(i+1)).toNat<(m-i).toNat;omega
    ·have hff:(fun k=>((Q1v ts k:Nat):Int))=f:=funext fun k=>by
      have e:=(hf k).eq
      rw[List.take_of_length_le (by have:=hm.eq;omega)] at e
      exact e.symm
     rw[hff,Q9C,←hn.eq,←hnbad.eq,←hln] at hR1
     have hl3:std.ltI i m=false:=decide_eq_false (by omega)
     clear hf hff
     rw[hR1]
     unfold Rp.cs
     generalize Code.region 12 _ _=C12
     generalize hp:std=p,hTK:QO ts=TK,hrx:Q1 l=rx
     generalize hT:Q8 p tys (Qaz ln cl TK) _ _ _ _=T
     cbv at hT
     subst hT
     simp only[Tree.ok,Q4,S0]
     subst hp hTK hrx
     refine⟨fun h=>absurd (hl3.symm.trans h) (by decide),fun _=>?_⟩
     rw[if_pos trivial]
     generalize hp:std=p,hTK:QO ts=TK,hrx:Q1 l=rx
     generalize hT:Q5B p tys _ _ _ _=T
     cbv at hT
     subst hT
     simp only[Tree.ok,Q4,S0]
     subst hp hTK hrx
     refine⟨[some 0],.tup [],_,rfl,rfl,Nat.le_refl _,rfl,?_,trivial⟩
     repeat first
      |exact trivial
      |refine⟨rfl,?_⟩
def QkU:List AV:=[.opt (.val (.pointer none)),.val (.int .i64 0),.val (.int .i64 0),.val (.int .i64 0),.opt (.val (.pointer none))]
theorem Qi1 (l:List Node)(n:Int):BCall prog 61 [.agg ((Cur.root n).el (Q0 l))] [] (.tup [.agg QkU,.val (.bool false)]) []:=by
 rw[Cur.el]
 refine fnN (cs:=cs0) func61 rfl (by kernel_rfl) ?_
 intro w0 g0
 generalize hp:std=p,hN:Q0 l=N
 generalize hT:Q8 p tys (cs0) _ _ _ _=T
 cbv at hT
 subst hT
 simp only[Tree.ok,Q4,S0]
 subst hp hN
 refine⟨fun _=>.pure rfl ?_,fun h=>absurd (show true=false from h) (by decide)⟩
 exact⟨⟨.inr (.inr (.inl ⟨rfl,trivial⟩)),.inl rfl,.inl rfl,.inl rfl,.inr (.inr (.inl ⟨rfl,trivial⟩)),trivial⟩,.inl rfl,trivial⟩
theorem Qk8 (l:List Node)(n f k:Int)(up:Cur):BCall prog 61 [.agg ((Cur.kid n f k up).el (Q0 l))] [] (.tup [.agg (up.el (Q0 l)),.val (.bool true)]) []:=by
 rw[Cur.el,Cur.el]
 have hU:Q3A (upO (Q0 l) up):=Qau _ _
 obtain⟨un,hun⟩:=exq up.n
 obtain⟨uf,huf⟩:=exq up.f
 obtain⟨uk,huk⟩:=exq up.k
 have e:upO (Q0 l) (Cur.kid n f k up)=.ref [.ref [.slc 6 (Q0 l)],.val (.int .i64 un),.val (.int .i64 uf),.val (.int .i64 uk),.opt (upO (Q0 l) up)]:=by rw[hun,huf,huk];rfl
 rw[e,←hun,←huf,←huk]
 show BCall _ _ [.agg [_,.val (.int .i64 n),.val (.int .i64 f),.val (.int .i64 k),_]] _ _ _
 clear e hun huf huk
 refine fnN (cs:=cs0) func61 rfl (by kernel_rfl) ?_
 intro w0 g0
 generalize hp:std=p
 generalize hU:upO (Q0 l) up=U
 generalize hN:Q0 l=N
 generalize hT:Q8 p tys (cs0) _ _ _ _=T
 cbv at hT
 subst hT
 simp only[Tree.ok,Q4,S0]
 subst hp hU hN
 exact⟨fun h=>absurd (show false=true from h) (by decide),fun _=>⟨⟨trivial,rfl⟩,⟨trivial,rfl,rfl,rfl,hU,trivial⟩,.pure rfl ⟨⟨.inl rfl,.inl rfl,.inl rfl,.inl rfl,.inl rfl,trivial⟩,.inl rfl,trivial⟩⟩⟩
def QH (l:List Node):Cur→Int
 |.root n=>if QD l n=21 then 1 else 0
 |.kid n _ _ up=>(if QD l n=21 then 1 else 0)+QH l up
def Q27:Cur→Nat
 |.root _=>1
 |.kid _ _ _ up=>Q27 up+1
theorem Q2R (l:List Node):∀ c,0≤QH l c∧QH l c≤Q27 c
 |.root n=>by
  show 0≤(if QD l n=21 then (1:Int) else 0)∧(if QD l n=21 then (1:Int) else 0)≤((1:Nat):Int)
  split<;>omega
 |.kid n f k up=>by
  have ih:=Q2R l up
  show 0≤(if QD l n=21 then (1:Int) else 0)+QH l up∧(if QD l n=21 then (1:Int) else 0)+QH l up≤((Q27 up+1:Nat):Int)
  split<;>omega
theorem Qck (l:List Node)(c:Cur):BCall prog 55 [.agg (c.el (Q0 l))] [] (.val (.int .i64 (QD l c.n))) [] :=
 (Qjr l c).le ⟨⟨.inr (.inr (.inr rfl)),.inl rfl,.inl rfl,.inl rfl,.inl rfl,trivial⟩,trivial⟩
def upC:Cur→Cur
 |.root n=>.root n
 |.kid _ _ _ up=>up
def Q3c:Cur→Bool
 |.root _=>false
 |.kid _ _ _ _=>true
def pA (N:List AV):Bool→AV
 |true=>.ref [.slc 6 N]
 |false=>.val (.pointer none)
def nI:Bool→Cur→Int
 |true,c=>c.n
 |false,_=>0
def fI:Bool→Cur→Int
 |true,c=>c.f
 |false,_=>0
def kI:Bool→Cur→Int
 |true,c=>c.k
 |false,_=>0
def uA (N:List AV):Bool→Cur→AV
 |true,c=>upO N c
 |false,_=>.val (.pointer none)
def Qgn (N:List AV)(ok:Bool)(c:Cur):List AV:=[.opt (pA N ok),.val (.int .i64 (nI ok c)),.val (.int .i64 (fI ok c)),.val (.int .i64 (kI ok c)),.opt (uA N ok c)]
theorem Qls (l:List Node)(c:Cur):BCall prog 61 [.agg (Qgn (Q0 l) true c)] [] (.tup [.agg (Qgn (Q0 l) (Q3c c) (upC c)),.val (.bool (Q3c c))]) []:=by
 cases c with
 |root n=>exact Qi1 l n
 |kid n f k up=>exact Qk8 l n f k up
def QiG (kd:Int)(P:Bool→AV)(nn ff kk:Bool→Cur→Int)(U:Bool→Cur→AV)(b:Bool)(c:Cur):Nat→List AV→List Ob→Option (AV×List Ob):=fun f args _=>match f,args with
 |55,[.agg _]=>some (.val (.int .i64 kd),[])
 |61,[.agg _]=>some (.tup [.agg [.opt (P b),.val (.int .i64 (nn b c)),.val (.int .i64 (ff b c)),.val (.int .i64 (kk b c)),.opt (U b c)],.val (.bool b)],[])
 |_,_=>none
def Qlq (l:List Node)(x:Cur×Bool×Int):Nat→List AV→List Ob→Option (AV×List Ob):=QiG (QD l x.1.n) (pA (Q0 l)) nI fI kI (uA (Q0 l)) (Q3c x.1) (upC x.1)
theorem QeG (l:List Node)(x:Cur):QH l x=(if QD l x.n=21 then 1 else 0)+(if Q3c x=true then QH l (upC x) else 0):=by
 cases x with
 |root n=>show (if QD l n=21 then (1:Int) else 0)=(if QD l n=21 then 1 else 0)+0;omega
 |kid n f k up=>rfl
theorem Qhp (x:Cur):(if Q3c x=true then Q27 (upC x)+1 else 0)<Q27 x+1:=by
 cases x with
 |root n=>show 0<1+1;omega
 |kid n f k up=>show Q27 up+1<Q27 up+1+1;omega
theorem QiE (l:List Node)(c:Cur)(hc:Q27 c≤1000000):BCall prog 123 [.agg (c.el (Q0 l))] [] (.val (.int .i64 (QH l c))) []:=by
 obtain⟨D,hD⟩:=exq (QH l c)
 have hDr:=Q2R l c
 rw[←hD] at hDr ⊢
 have hD1:D≤1000000:=by omega
 show BCall _ _ [.agg [.opt (pA (Q0 l) true),.val (.int .i64 (nI true c)),.val (.int .i64 (fI true c)),.val (.int .i64 (kI true c)),.opt (uA (Q0 l) true c)]] _ _ _
 refine fnN (cs:=cs0) func123 rfl (by kernel_rfl) ?_
 intro w0 g0
 generalize hp:std=p,hP:pA (Q0 l)=P,hU:uA (Q0 l)=U,hnn:nI=nn,hff:fI=ff,hkk:kI=kk
 generalize hT:Q8 p tys (cs0) _ _ _ _=T
 cbv at hT
 subst hT
 simp only[Tree.ok,Q4,S0]
 subst hp hP hU hnn hff hkk
 refine Q8p (cs:=Qlq l) (ord:=fun _=>.nil) Q6N (by kernel_rfl) (by kernel_rfl) (by kernel_rfl) (X:=Cur×Bool×Int) (fun x=>⟨[(2,.val (.int .i64 0)),(3,.val (.int .i64 x.2.2)),(4,.box 0 0),(5,.val (.bool x.2.1))],[.box [.opt (pA (Q0 l) x.2.1),.val (.int .i64 (nI x.2.1 x.1)),.val (.int .i64 (fI x.2.1 x.1)),.val (.int .i64 (kI x.2.1 x.1)),.opt (uA (Q0 l) x.2.1 x.1)]]⟩) (fun x=>0≤x.2.2∧(x.2.1=true→x.2.2+QH l x.1=D)∧(x.2.1=false→x.2.2=D)) (fun x=>if x.2.1=true then Q27 x.1+1 else 0) (c,true,0) ?_ ?_ ?_
 ·exact⟨Int.le_refl _,fun _=>by rw[hD];exact Int.zero_add _,fun h=>(by cases h)⟩
 ·refine⟨[some 1],_,rfl,?_⟩
  repeat first
   |exact trivial
   |refine⟨rfl,?_⟩
 ·rintro⟨x,ok,a⟩ ⟨ha0,hJ1,hJ2⟩
  simp only at ha0 hJ1 hJ2
  show Tree.ok _ _ _ _ _ _ (Q8 std tys (QiG (QD l x.n) (pA (Q0 l)) nI fI kI (uA (Q0 l)) (Q3c x) (upC x)) _ _ _ _)
  cases ok with
  |false =>
   have hJ:=hJ2 rfl
   subst hJ
   clear hJ1 hJ2 hD hDr
   generalize hp:std=p,hkd:QD l x.n=kd,hP:pA (Q0 l)=P,hU:uA (Q0 l)=U,hnn:nI=nn,hff:fI=ff,hkk:kI=kk,hb:Q3c x=b,hy:upC x=y
   generalize hT:Q8 p tys (QiG kd P nn ff kk U b y) _ _ _ _=T
   cbv at hT
   subst hT
   simp only[Tree.ok,Q4,S0]
   subst hp hkd hP hU hnn hff hkk hb hy
   rw[if_pos trivial]
   generalize hp:std=p,hP:pA (Q0 l)=P,hU:uA (Q0 l)=U,hnn:nI=nn,hff:fI=ff,hkk:kI=kk
   generalize hT:Q8 p tys (cs0) _ _ _ _=T
   cbv at hT
   subst hT
   simp only[Tree.ok,Q4,S0]
   subst hp hP hU hnn hff hkk
   exact .pure rfl (.inl rfl)
  |true =>
   have hJ:=hJ1 rfl
   have hxr:=Q2R l x
   have hxu:=QeG l x
   have hhu:=Qhp x
   have cK:=Qck l x
   have cU:=Qls l x
   clear hJ1 hJ2 hD hDr
   generalize hp:std=p,hkd:QD l x.n=kd,hP:pA (Q0 l)=P,hU:uA (Q0 l)=U,hnn:nI=nn,hff:fI=ff,hkk:kI=kk,hb:Q3c x=b,hy:upC x=y
   generalize hT:Q8 p tys (QiG kd P nn ff kk U b y) _ _ _ _=T
   cbv at hT
   subst hT
   simp only[Tree.ok,Q4,S0]
   subst hp hkd hP hU hnn hff hkk hb hy
   have hr0:0≤(if Q3c x=true then QH l (upC x) else 0):=by
    split
    ·exact (Q2R l (upC x)).1
    ·exact Int.le_refl _
   refine⟨cK,fun hk=>⟨?_,cU,(upC x,Q3c x,a+1),⟨?_,fun hb=>?_,fun hb=>?_⟩,?_,[some 1],_,rfl,?_⟩,fun hk=>⟨cU,(upC x,Q3c x,a),⟨ha0,fun hb=>?_,fun hb=>?_⟩,?_,[some 1],_,rfl,?_⟩⟩
   all_goals try
    have e:QD l x.n=21:=eq_of_beq hk
    rw[if_pos e] at hxu
   all_goals try
    have e:¬ QD l x.n=21:=fun e=>by
     have hk:(QD l x.n == 21)=false:=hk
     rw[e] at hk;cases hk
    rw[if_neg e] at hxu
   ·show -9223372036854775808≤a+1∧a+1≤9223372036854775807
    omega
   ·show 0≤a+1
    omega
   ·have hb:Q3c x=true:=hb
    rw[if_pos hb] at hxu
    show a+1+QH l (upC x)=D
    omega
   ·have hb:Q3c x=false:=hb
    rw[hb] at hxu
    show a+1=D
    have:QH l x=1+0:=hxu
    omega
   ·show (if Q3c x=true then Q27 (upC x)+1 else 0)<(if True then Q27 x+1 else 0)
    rw[if_pos trivial];exact hhu
   ·repeat first
     |exact trivial
     |refine⟨rfl,?_⟩
   ·have hb:Q3c x=true:=hb
    rw[if_pos hb] at hxu
    show a+QH l (upC x)=D
    omega
   ·have hb:Q3c x=false:=hb
    rw[hb] at hxu
    show a=D
    have:QH l x=0+0:=hxu
    omega
   ·show (if Q3c x=true then Q27 (upC x)+1 else 0)<(if True then Q27 x+1 else 0)
    rw[if_pos trivial];exact hhu
   ·repeat first
     |exact trivial
     |refine⟨rfl,?_⟩
end Go.Proofs.YtibemhahkicbpaaGreat
