/-
  Parts of the proof, joined: Yi. Conditions: as each theorem says.
-/
import Derived.Test.YthbjpdijafccjaaGreatQE43
set_option maxRecDepth 100000
set_option maxHeartbeats 8000000
namespace Go.Proofs.YthbjpdijafccjaaGreat
open Go.RowKit Go.Lib Tryz
theorem Qn7 (w:Bool)(k:Int)(r:Bool)(e:Prop):(w=false∧True∧True∧True∧True)∨(w=true∧k=8∧r=false∧e∧True)∨(w=true∧k=8∧r=false∧¬ e∧True)∨(w=true∧k=8∧¬ r=false∧e∧True)∨(w=true∧k=8∧¬ r=false∧¬ e∧True) ∨
  (w=true∧k=10∧r=false∧True∧True)∨(w=true∧k=10∧¬ r=false∧True∧True)∨(w=true∧k=9∧r=false∧True∧True)∨(w=true∧k=9∧¬ r=false∧True∧True)∨(w=true∧8≤k∧¬ k≤10∧¬ k=8∧¬ k=10)∨(w=true∧¬ 8≤k∧¬ k=8∧¬ k=10∧True):=by
 cases w<;>cases r<;>by_cases h8:k=8<;>by_cases h10:k=10<;>by_cases h9:k=9<;>by_cases hl:8≤k<;>by_cases he:e<;>simp[*]<;>omega
theorem Qlr {l:List Tok}{i:Int}(h0:0≤i)(h1:i<l.length):(Q1i l)[i.toNat]?.getD .dead=(l[i.toNat]?.getD Qhl).av:=QdA Tok.av h0 h1 Qhl
theorem Q8r (t:Txt)(b:List UInt8)(hs:Sml t b)(hu:Un t.r)(ev0:List Evr)(he0:ev0.length≤1)(hr:t.r.length≤200000) :
  BCall prog 17 [.box 0 0] [.box [.slc 1 (Q2 b),.val (.int .i64 t.kind),.val (.int .i64 t.bom),.slc 1 (Q0 t.r),.slc 1 (Q8 t.off),.val (.slice none 0 0),.row 1 0,.val (.slice none 0 0)],.row 47 3 false 0 (QK ev0)] (.box 0 0)
   [.box [.slc 1 (Q2 b),.val (.int .i64 t.kind),.val (.int .i64 t.bom),.slc 1 (Q0 t.r),.slc 1 (Q8 t.off),.row 2 1,.row 1 1,.row 3 1],.row 47 3 false 1 (QK (Qbx t b ⟨[],ev0,[]⟩).ev),.row 9 1 false 1 (Qt (Qbx t b ⟨[],ev0,[]⟩).op),.row 49 3 false 1 (QC (Qbx t b ⟨[],ev0,[]⟩).wr)]:=by
 have cT:=QgU t.r hs.hr hu
 obtain⟨toks,htk⟩:=exq (Q5P t.r)
 have hpl:∀ x∈toks,0≤x.from_∧x.from_≤x.to∧x.to≤t.r.length:=by rw[htk];exact Q9t t.r t.r.length 0 (by omega)
 rw[←htk] at cT
 have hnl:toks.length≤200000:=by
  have:=QbZ t.r t.r.length 0 (by omega)
  rw[htk];exact Nat.le_trans this hr
 obtain⟨n,hn⟩:=Qy toks
 obtain⟨Z0,hZ0⟩:=exq (⟨[],ev0,[]⟩:RSt)
 obtain⟨S1,hS1⟩:=exq (toks.foldl (Q7o t b) Z0)
 obtain⟨S2,hS2⟩:=exq (Qbx t b Z0)
 have hS12:S2=Q1k t t.r.length 0 (S1.op.length+1) S1:=by rw[hS2,hS1,htk];rfl
 rw[←hZ0,←hS2]
 have eZ0:Z0.ev=ev0:=by rw[hZ0]
 have rb0:RB Z0 0:=by rw[hZ0];exact⟨Nat.le_refl _,by show ev0.length+0≤1;omega,fun x hx=>by cases hx⟩
 have eOp:Qt Z0.op=[]:=by rw[hZ0];rfl
 have eWr:QC Z0.wr=[]:=by rw[hZ0];rfl
 rw[←eZ0]
 clear hS2 hZ0
 refine fnO true (cs:=Qbl (Q1i toks)) (ord:=fun _=>.nil) func17 rfl (by kernel_rfl) ?_
 intro w0 g0
 generalize hp:std=p,hTK:Q1i toks=TK,hE:QK Z0.ev=E,hB:Q2 b=B,hR:Q0 t.r=R,hO:Q8 t.off=O,hK:t.kind=K,hM:t.bom=M
 generalize hT:Q5 p tys (Qbl TK) _ _ _ _=T
 cbv at hT
 subst hT
 simp only[Tree.ok,Q1,S0]
 subst hp hTK hE hB hR hO hK hM
 have tlen:=Q7O toks
 have hnm:std.len (Q1i toks)=n:=by show ((Q1i toks).length:Int)=n;rw[tlen,hn.eq]
 refine⟨cT,?_⟩
 refine Q4F (cs:=QlU t b toks) (ord:=fun _=>.nil) Q6O (by kernel_rfl) (by kernel_rfl) (by kernel_rfl) (X:=RSt×Int) (fun x=>⟨[(0,.box 0 0),(11,.slc 4 (Q1i toks)),(12,.val (.int .i64 n)),(13,.val (.int .i64 x.2))],[.box [.slc 1 (Q2 b),.val (.int .i64 t.kind),.val (.int .i64 t.bom),.slc 1 (Q0 t.r),.slc 1 (Q8 t.off),.row 2 1,.row 1 1,.row 3 1],.row 47 3 false 1 (QK x.1.ev),.row 9 1 false 1 (Qt x.1.op),.row 49 3 false 1 (QC x.1.wr)]⟩) (fun x=>0≤x.2∧x.2≤n∧RB x.1 x.2.toNat∧(toks.drop x.2.toNat).foldl (Q7o t b) x.1=S1) (fun x=>(n-x.2).toNat) (Z0,0) ?_ ?_ ?_
 ·have:=hn.eq
  exact⟨Int.le_refl _,by simp only;omega,rb0,hS1.symm⟩
 ·refine⟨[some 0,some 1,none,none],_,rfl,?_⟩
  repeat first
   |exact trivial
   |refine⟨rfl,?_⟩
   |refine⟨hnm,?_⟩
   |refine⟨gI (hnm),?_⟩
   |refine⟨gA (hnm),?_⟩
   |refine⟨gB (hnm),?_⟩
   |refine⟨gR (hnm),?_⟩
   |refine⟨gT (hnm),?_⟩
   |refine⟨eOp,?_⟩
   |refine⟨gI (eOp),?_⟩
   |refine⟨gA (eOp),?_⟩
   |refine⟨gB (eOp),?_⟩
   |refine⟨gR (eOp),?_⟩
   |refine⟨gT (eOp),?_⟩
   |refine⟨eWr,?_⟩
   |refine⟨gI (eWr),?_⟩
   |refine⟨gA (eWr),?_⟩
   |refine⟨gB (eWr),?_⟩
   |refine⟨gR (eWr),?_⟩
   |refine⟨gT (eWr),?_⟩
 ·rintro⟨s,i⟩ ⟨hi0,hi1,hrb,hf⟩
  simp only at hi0 hi1 hrb hf
  have rw_:=hrb.w
  have re_:=hrb.e
  rcases Int.lt_or_eq_of_le hi1 with hlt|heq
  ·have en:=hn.eq
   have hil:i.toNat<toks.length:=by omega
   have hat:(Q1i toks).getD i.toNat .dead=(toks[i.toNat]?.getD Qhl).av:=by rw[List.getD_eq_getElem?_getD];exact Qlr (l:=toks) hi0 (by omega)
   obtain⟨y,hy⟩:=exq (toks[i.toNat]?.getD Qhl)
   have hym:toks[i.toNat]=y:=by rw[hy,List.getElem?_eq_getElem hil];rfl
   have hyp:=hpl y (by rw[←hym];exact List.getElem_mem hil)
   have hin:InT t y.from_ y.to:=⟨hyp.1,hyp.2.1,hyp.2.2⟩
   have hnw:=QaJ t hin.h0 hin.h1 hin.h2
   have hf2:(toks.drop (i+1).toNat).foldl (Q7o t b) (Q7o t b s y)=S1:=by
    rw[List.drop_eq_getElem_cons hil,hym,List.foldl_cons] at hf
    rw[show (i+1).toNat=i.toNat+1 by omega];exact hf
   have hrb2:RB (Q7o t b s y) (i+1).toNat:=by
    rw[show (i+1).toNat=i.toNat+1 by omega]
    exact hrb.token t b y.kind hin.h0 hin.h1 hin.h2 y.whole
   obtain⟨e1,e2,e3⟩:=Qf6 t y.kind y.from_ y.to y.whole s
   have hsm:RSm (Q8E t y.kind y.from_ y.to y.whole s):=⟨by rw[e1];omega,by rw[e1,e2];omega⟩
   have cN:=QgC t hs.hr hu y.from_ y.to hin.h0 hin.h1 hin.h2 y.kind y.whole
   have cR:=Qf7 t.r hs.hr hu y.from_ y.to hin.h0 hin.h1 hin.h2
   rw[Q80] at cR
   obtain⟨hof,hou⟩:=hin.off hs
   have cW:∀ c:Int,BCall prog 37 [.box 0 0,.val (.int .i64 c),.val (.int .i64 y.from_),.val (.int .i64 y.to)] (obR 0 t b s) (.tup []) (obR 1 t b (Q2F t c y.from_ y.to s)):=fun c=>Q5D t b s (by omega) c y.from_ y.to hof hou
   have hT:=Qb7 t b y.kind y.from_ y.to y.whole s
   have hP:Q8E t y.kind y.from_ y.to y.whole s=if y.whole=false then Q2F t 1 y.from_ y.to s else if (y.kind=8∨y.kind=9∨y.kind=10)∧(QR t.r y.from_ y.to).right=false then Q2F t 2 y.from_ y.to s else s:=rfl
   obtain⟨s1,hs1⟩:=exq (Q8E t y.kind y.from_ y.to y.whole s)
   obtain⟨s2,hs2⟩:=exq (Q7o t b s y)
   have cLf:=Q5v t b hs s1 (by rw[hs1,e2];omega) y.kind y.from_ y.to y.whole hin
   have cSd:=Q9l t b hs s1 (by rw[hs1];omega) (by rw[hs1,e2];omega) (by rw[hs1,e1];omega) y.kind y.from_ y.to y.whole hin (runesBytes (Qo t y.from_ y.to))
   have cSp:s.op.length<64→_:=fun h64=>Q8W t b hs s1 (by rw[hs1];omega) (by rw[hs1,e2];omega) y.kind y.from_ y.to y.whole hin (Qo t y.from_ y.to) (by rw[hs1,e1];exact h64)
   have cE:=Qhg t b hs s1 (by rw[hs1];exact hsm) (by rw[hs1,e1];exact hrb.n) y.kind y.from_ y.to y.whole hin hnw
   have hcs:QlU t b toks (s,i)=Qfv (Qf1 t y s) (runesBytes (Qo t y.from_ y.to)) (QR t.r y.from_ y.to).name.kind (QR t.r y.from_ y.to).name.from_ (QR t.r y.from_ y.to).name.to (QI (QR t.r y.from_ y.to).attrs) (QR t.r y.from_ y.to).right (QR t.r y.from_ y.to).empty (Qt s.op) (QK s.ev) (QC s1.wr) (Qt s2.op) (QK s2.ev) (QC s2.wr):=by
    rw[hs1,hs2,hy];rfl
   rw[hcs]
   rw[←hs1] at hT hP e1 e2 hsm
   rw[←hs2] at hf2 hrb2
   have hs2':s2=if y.whole=true∧y.kind=8∧0<(Qo t y.from_ y.to).length then Q58 t b y.kind y.from_ y.to s1 else if y.whole=true∧y.kind=10 then QcW t b y.kind y.from_ y.to s1 else Q1V t b y.kind y.from_ y.to s1:=by rw[hs2];exact hT
   have hNe:((runesBytes (Qo t y.from_ y.to)).toList == (⟨#[]⟩:ByteArray).toList)=decide (Qo t y.from_ y.to=[]):=Qk8 hnw
   have hpu:Qf1 t y s=(y.whole&&decide (y.kind=8)&&decide (0<(Qo t y.from_ y.to).length)&&decide (s.op.length<64)):=rfl
   have hn0:0<(Qo t y.from_ y.to).length↔¬ Qo t y.from_ y.to=[]:=List.length_pos_iff
   obtain⟨NM,hNM⟩:=exq (runesBytes (Qo t y.from_ y.to))
   obtain⟨T,hTT⟩:=exq (QR t.r y.from_ y.to)
   rw[←hNM] at cN cSd cSp cE hNe ⊢
   rw[←hTT] at cR hP ⊢
   obtain⟨pu,hpq⟩:=exq (Qf1 t y s)
   rw[←hpq] at hpu ⊢
   have hil2:i<n:=hlt
   have hnb:n≤200000:=by omega
   have mu:(n-(i+1)).toNat<(n-i).toNat:=by omega
   unfold obR Q8F at cW cLf cSd cSp cE
   rw[e1,e2] at cLf cSd cE cSp
   rw[←hy] at hat
   clear hT hs1 hs2 hcs hTT hpq hNM hy hym hf hnm cT en
   cases pu with
   |true =>
    generalize hp:std=p,hrk:T.name.kind=rk,hrf:T.name.from_=rf,hru:T.name.to=ru,hra:QI T.attrs=ra,hrr:T.right=rr,hre:T.empty=re,hD:QC s.wr=D,hS:Qt s.op=S,hE:QK s.ev=E,hW1:QC s1.wr=W1,hS2:Qt s2.op=S2,hE2:QK s2.ev=E2,hW2:QC s2.wr=W2,hTK:Q1i toks=TK,hB:Q2 b=B,hR:Q0 t.r=R,hO:Q8 t.off=O,hK:t.kind=K,hM:t.bom=M
    generalize hT:Q5 p tys (Qfv true NM rk rf ru ra rr re S E W1 S2 E2 W2) _ _ _ _=T
    cbv at hT
    subst hT
    simp only[Tree.ok,Q1,S0]
    subst hp hrk hrf hru hra hrr hre hD hS hE hW1 hS2 hE2 hW2 hTK hB hR hO hK hM
    simp only[std,hat,Tok.av,AV.cells,List.getD_cons_zero,List.getD_cons_succ,intOf,Q5e,Q3p,decide_eq_true_eq,decide_eq_false_iff_not,Bool.not_eq_true',Bool.not_eq_false',hNe]
    obtain⟨⟨⟨hwh,hk8⟩,hnm0⟩,h64⟩:((y.whole=true∧y.kind=8)∧0<(Qo t y.from_ y.to).length)∧s.op.length<64:=by simpa using hpu.symm
    have hnm:=hn0.1 hnm0
    have cSp:=cSp h64
    by_cases hr:T.right=false
    ·rw[if_neg (by rw[hwh];decide)] at hP;rw[if_pos ⟨.inl hk8,hr⟩] at hP
     rw[if_pos ⟨hwh,hk8,hnm0⟩,Q58,if_neg (by rw[e1];omega)] at hs2'
     have cWx:=cW 2;rw[←hP,e1,e2] at cWx
     have cFx:=cSp
     have q1:s.op++[Qo t y.from_ y.to]=s2.op:=by rw[hs2',←e1];rfl
     have q2:(s.ev++[⟨1,0,none⟩])++[⟨2,y.kind,some (Q13 t b y.from_ y.to)⟩]=s2.ev:=by rw[hs2',←e2];rfl
     have q3:s1.wr=s2.wr:=by rw[hs2'];rfl
     rw[q1,q2] at cFx
     rw[←q3]
     repeat' first
      |(with_reducible refine And.intro (fun hx=>absurd hx (by (first|(simp[hr,hk8,hwh,hil2,hi0,hnm];done)|omega))) (fun _=>?_))
      |(with_reducible refine And.intro (fun _=>?_) (fun hx=>absurd hx (by (first|(simp[hr,hk8,hwh,hil2,hi0,hnm];done)|omega))))
      |(with_reducible refine And.intro ?_ ?_)
     all_goals first
      |(with_reducible exact cN)
      |(with_reducible exact cR)
      |(with_reducible exact cWx)
      |(with_reducible exact cFx)
      |(with_reducible exact trivial)
      |(with_reducible exact hi0)
      |(rw[tlen];omega)
      |omega
      |(show (-9223372036854775808:Int)≤i+1;omega)
      |(show i+1≤(9223372036854775807:Int);omega)
      |(refine⟨(s2,i+1),⟨by simp only;omega,by simp only;omega,hrb2,hf2⟩,mu,[some 0,some 1,some 5,some 3],_,rfl,?_⟩;simp[Qe,lk];rw[q3])
    ·rw[if_neg (by rw[hwh];decide)] at hP;rw[if_neg (fun e=>hr e.2)] at hP
     rw[if_pos ⟨hwh,hk8,hnm0⟩,Q58,if_neg (by rw[e1];omega)] at hs2'
     have cWx:True:=trivial;rw[hP] at cLf cSp cE hs2'
     have cFx:=cSp
     have q1:s.op++[Qo t y.from_ y.to]=s2.op:=by rw[hs2'];rfl
     have q2:(s.ev++[⟨1,0,none⟩])++[⟨2,y.kind,some (Q13 t b y.from_ y.to)⟩]=s2.ev:=by rw[hs2'];rfl
     have q3:s.wr=s2.wr:=by rw[hs2'];rfl
     rw[q1,q2] at cFx
     rw[←q3]
     repeat' first
      |(with_reducible refine And.intro (fun hx=>absurd hx (by (first|(simp[hr,hk8,hwh,hil2,hi0,hnm];done)|omega))) (fun _=>?_))
      |(with_reducible refine And.intro (fun _=>?_) (fun hx=>absurd hx (by (first|(simp[hr,hk8,hwh,hil2,hi0,hnm];done)|omega))))
      |(with_reducible refine And.intro ?_ ?_)
     all_goals first
      |(with_reducible exact cN)
      |(with_reducible exact cR)
      |(with_reducible exact cWx)
      |(with_reducible exact cFx)
      |(with_reducible exact trivial)
      |(with_reducible exact hi0)
      |(rw[tlen];omega)
      |omega
      |(show (-9223372036854775808:Int)≤i+1;omega)
      |(show i+1≤(9223372036854775807:Int);omega)
      |(refine⟨(s2,i+1),⟨by simp only;omega,by simp only;omega,hrb2,hf2⟩,mu,[some 0,some 1,some 5,some 3],_,rfl,?_⟩;simp[Qe,lk];rw[q3])
   |false =>
    generalize hp:std=p,hrk:T.name.kind=rk,hrf:T.name.from_=rf,hru:T.name.to=ru,hra:QI T.attrs=ra,hrr:T.right=rr,hre:T.empty=re,hD:QC s.wr=D,hS:Qt s.op=S,hE:QK s.ev=E,hW1:QC s1.wr=W1,hS2:Qt s2.op=S2,hE2:QK s2.ev=E2,hW2:QC s2.wr=W2,hTK:Q1i toks=TK,hB:Q2 b=B,hR:Q0 t.r=R,hO:Q8 t.off=O,hK:t.kind=K,hM:t.bom=M
    generalize hT:Q5 p tys (Qfv false NM rk rf ru ra rr re S E W1 S2 E2 W2) _ _ _ _=T
    cbv at hT
    subst hT
    simp only[Tree.ok,Q1,S0]
    subst hp hrk hrf hru hra hrr hre hD hS hE hW1 hS2 hE2 hW2 hTK hB hR hO hK hM
    have h64:y.whole=true→y.kind=8→¬ Qo t y.from_ y.to=[]→64≤s1.op.length:=fun h1 h2 h3=>by
     rw[e1]
     have:=hn0.2 h3
     simp[h1,h2,this] at hpu
     omega
    simp only[std,hat,Tok.av,AV.cells,List.getD_cons_zero,List.getD_cons_succ,intOf,Q5e,Q3p,decide_eq_true_eq,decide_eq_false_iff_not,Bool.not_eq_true',Bool.not_eq_false',hNe]
    clear cSp
    rcases Qn7 y.whole y.kind T.right (Qo t y.from_ y.to=[]) with ⟨hwh,h1,h2,h3,h4⟩|⟨hwh,h1,h2,h3,h4⟩|⟨hwh,h1,h2,h3,h4⟩|⟨hwh,h1,h2,h3,h4⟩|⟨hwh,h1,h2,h3,h4⟩|⟨hwh,h1,h2,h3,h4⟩|⟨hwh,h1,h2,h3,h4⟩|⟨hwh,h1,h2,h3,h4⟩|⟨hwh,h1,h2,h3,h4⟩|⟨hwh,h1,h2,h3,h4⟩|⟨hwh,h1,h2,h3,h4⟩
    (rw[if_pos hwh] at hP;rw[if_neg (fun e=>by rw[hwh] at e;cases e.1),if_neg (fun e=>by rw[hwh] at e;cases e.1)] at hs2';have cWx:=cW 1;rw[←hP,e1,e2] at cWx;have cFx:=cLf;rw[←hs2'] at cFx)
    rotate_left
    (rw[if_neg (by rw[hwh];decide)] at hP;rw[if_pos ⟨.inl h1,h2⟩] at hP;rw[if_neg (fun e=>hn0.1 e.2.2 h3),if_neg (fun e=>by omega)] at hs2';have cWx:=cW 2;rw[←hP,e1,e2] at cWx;have cFx:=cLf;rw[←hs2'] at cFx)
    rotate_left
    (rw[if_neg (by rw[hwh];decide)] at hP;rw[if_pos ⟨.inl h1,h2⟩] at hP;rw[if_pos ⟨hwh,h1,hn0.2 h3⟩,Q58,if_pos (h64 hwh h1 h3)] at hs2';have cWx:=cW 2;rw[←hP,e1,e2] at cWx;have cFx:=cSd (by have:=h64 hwh h1 h3;rw[e1] at this;exact this);rw[←hs2'] at cFx)
    rotate_left
    (rw[if_neg (by rw[hwh];decide)] at hP;rw[if_neg (fun e=>h2 e.2)] at hP;rw[if_neg (fun e=>hn0.1 e.2.2 h3),if_neg (fun e=>by omega)] at hs2';have cWx:True:=trivial;rw[hP] at cLf cSd cE hs2';have cFx:=cLf;rw[←hs2'] at cFx)
    rotate_left
    (rw[if_neg (by rw[hwh];decide)] at hP;rw[if_neg (fun e=>h2 e.2)] at hP;rw[if_pos ⟨hwh,h1,hn0.2 h3⟩,Q58,if_pos (h64 hwh h1 h3)] at hs2';have cWx:True:=trivial;rw[hP] at cLf cSd cE hs2';have cFx:=cSd (by have:=h64 hwh h1 h3;rw[e1] at this;exact this);rw[←hs2'] at cFx)
    rotate_left
    (rw[if_neg (by rw[hwh];decide)] at hP;rw[if_pos ⟨.inr (.inr h1),h2⟩] at hP;rw[if_neg (fun e=>by omega),if_pos ⟨hwh,h1⟩] at hs2';have cWx:=cW 2;rw[←hP,e1,e2] at cWx;have cFx:=cE;rw[←hs2'] at cFx)
    rotate_left
    (rw[if_neg (by rw[hwh];decide)] at hP;rw[if_neg (fun e=>h2 e.2)] at hP;rw[if_neg (fun e=>by omega),if_pos ⟨hwh,h1⟩] at hs2';have cWx:True:=trivial;rw[hP] at cLf cSd cE hs2';have cFx:=cE;rw[←hs2'] at cFx)
    rotate_left
    (rw[if_neg (by rw[hwh];decide)] at hP;rw[if_pos ⟨.inr (.inl h1),h2⟩] at hP;rw[if_neg (fun e=>by omega),if_neg (fun e=>by omega)] at hs2';have cWx:=cW 2;rw[←hP,e1,e2] at cWx;have cFx:=cLf;rw[←hs2'] at cFx)
    rotate_left
    (rw[if_neg (by rw[hwh];decide)] at hP;rw[if_neg (fun e=>h2 e.2)] at hP;rw[if_neg (fun e=>by omega),if_neg (fun e=>by omega)] at hs2';have cWx:True:=trivial;rw[hP] at cLf cSd cE hs2';have cFx:=cLf;rw[←hs2'] at cFx)
    rotate_left
    (rw[if_neg (by rw[hwh];decide)] at hP;rw[if_neg (fun e=>by omega)] at hP;rw[if_neg (fun e=>by omega),if_neg (fun e=>by omega)] at hs2';have cWx:True:=trivial;rw[hP] at cLf cSd cE hs2';have cFx:=cLf;rw[←hs2'] at cFx)
    rotate_left
    (rw[if_neg (by rw[hwh];decide)] at hP;rw[if_neg (fun e=>by omega)] at hP;rw[if_neg (fun e=>by omega),if_neg (fun e=>by omega)] at hs2';have cWx:True:=trivial;rw[hP] at cLf cSd cE hs2';have cFx:=cLf;rw[←hs2'] at cFx)
    rotate_left
    all_goals
     skip
     repeat' first
      |(with_reducible refine And.intro (fun hx=>absurd hx (by (first|(simp[hwh,h1,h2,h3,h4,hil2,hi0];done)|omega))) (fun _=>?_))
      |(with_reducible refine And.intro (fun _=>?_) (fun hx=>absurd hx (by (first|(simp[hwh,h1,h2,h3,h4,hil2,hi0];done)|omega))))
      |(with_reducible refine And.intro ?_ ?_)
    all_goals first
     |(with_reducible exact cN)
     |(with_reducible exact cR)
     |(with_reducible exact cWx)
     |(with_reducible exact cFx)
     |(with_reducible exact trivial)
     |(with_reducible exact hi0)
     |(rw[tlen];omega)
     |omega
     |(show (-9223372036854775808:Int)≤i+1;omega)
     |(show i+1≤(9223372036854775807:Int);omega)
     |(refine⟨(s2,i+1),⟨by simp only;omega,by simp only;omega,hrb2,hf2⟩,mu,[some 0,some 1,some 2,some 3],_,rfl,?_⟩;simp[Qe,lk])
  ·have hd0:toks.drop i.toNat=[]:=List.drop_eq_nil_of_le (by have:=hn.eq;omega)
   rw[hd0] at hf
   have hsS:s=S1:=hf
   obtain⟨CS,hCS⟩:=exq (QlU t b toks (s,i))
   rw[←hCS]
   have hilx:¬ i<n:=by omega
   have en:=hn.eq
   have hsm1:RSm s:=⟨by omega,by omega⟩
   have rlen:=Qi t.r
   clear hCS hf hd0 cT hrb rw_ re_ en
   generalize hp:std=p,hTK:Q1i toks=TK,hD:QC s.wr=D,hS:Qt s.op=S,hE:QK s.ev=E,hB:Q2 b=B,hR:Q0 t.r=R,hO:Q8 t.off=O,hK:t.kind=K,hM:t.bom=M
   generalize hT:Q5 p tys (CS) _ _ _ _=T
   cbv at hT
   subst hT
   simp only[Tree.ok,Q1,S0]
   subst hp hTK hD hS hE hB hR hO hK hM
   refine⟨fun h=>absurd (of_decide_eq_true h) hilx,fun _=>?_⟩
   rw[if_pos trivial]
   generalize hp:std=p,hTK:Q1i toks=TK,hD:QC s.wr=D,hS:Qt s.op=S,hE:QK s.ev=E,hB:Q2 b=B,hR:Q0 t.r=R,hO:Q8 t.off=O,hK:t.kind=K,hM:t.bom=M
   generalize hT:Q5 p tys (Qbl _) _ _ _ _=T
   cbv at hT
   subst hT
   simp only[Tree.ok,Q1,S0]
   subst hp hTK hD hS hE hB hR hO hK hM
   refine Q4F (cs:=(fun x:RSt=>Qlg (Qt (Q2j t t.r.length x).op) (QK (Q2j t t.r.length x).ev) (QC (Q2j t t.r.length x).wr))) (ord:=fun _=>.nil) Q6O (by kernel_rfl) (by kernel_rfl) (by kernel_rfl) (X:=RSt) (fun x=>⟨[(0,.box 0 0)],[.box [.slc 1 (Q2 b),.val (.int .i64 t.kind),.val (.int .i64 t.bom),.slc 1 (Q0 t.r),.slc 1 (Q8 t.off),.row 2 1,.row 1 1,.row 3 1],.row 47 3 false 1 (QK x.ev),.row 9 1 false 1 (Qt x.op),.row 49 3 false 1 (QC x.wr)]⟩) (fun x=>RSm x∧Q1k t t.r.length 0 (x.op.length+1) x=S2) (fun x=>x.op.length) s ?_ ?_ ?_
   ·exact⟨hsm1,by rw[hsS];exact hS12.symm⟩
   ·exact⟨[some 0,some 1,some 2,some 3],_,rfl,by simp[Qe,lk]⟩
   ·rintro x ⟨hx0,hx2⟩
    have xw:=hx0.w
    have xe:=hx0.e
    have xlen:=Q3Z x.op
    obtain⟨LX,hLX⟩:=Qy x.op
    have hX1:0≤LX∧LX≤900000:=by have:=hLX.eq;omega
    have hoff:(0:Int)≤t.r.length∧(t.r.length:Int)<t.off.length:=by have:=hs.ok.len;omega
    have cK:1≤x.op.length→BCall prog 42 [.box 0 0,.val (.int .i64 t.r.length)] (obR 0 t b x) (.tup []) (obR 1 t b (Q2j t t.r.length x)):=fun h=>Qay t b x (by omega) (by omega) t.r.length hoff h (by omega)
    have hE:std.len (Q0 t.r)=t.r.length:=by show ((Q0 t.r).length:Int)=_;rw[rlen]
    rw[←hE] at cK
    obtain⟨y,hy⟩:=exq (Q2j t t.r.length x)
    have hy1:y.op.length=x.op.length-1:=by rw[hy];show (x.op.take (x.op.length-1)).length=_;rw[List.length_take];omega
    have hy2:1≤x.op.length→RSm y:=fun h=>by rw[hy];exact hx0.lack t _ h
    have hstep:0<x.op.length→Q1k t t.r.length 0 (y.op.length+1) y=S2:=fun h=>by rw[hy,←Q8v h];exact hx2
    have hend:¬ 0<x.op.length→x=S2:=fun h=>by rw[←hx2,Qaa h]
    rw[hE] at cK
    rw[←hy] at cK ⊢
    rw[←hE] at cK
    clear hy hoff hx2 hE
    unfold obR Q8F at cK
    generalize hp:std=p,hD:QC x.wr=D,hS:Qt x.op=S,hE:QK x.ev=E,hS':Qt y.op=S',hE':QK y.ev=E',hW':QC y.wr=W',hB:Q2 b=B,hR:Q0 t.r=R,hO:Q8 t.off=O,hK:t.kind=K,hM:t.bom=M
    generalize hT:Q5 p tys (Qlg S' E' W') _ _ _ _=T
    cbv at hT
    subst hT
    simp only[Tree.ok,Q1,S0]
    subst hp hD hS hE hS' hE' hW' hB hR hO hK hM
    have hlx:std.len (Qt x.op)=LX:=by show ((Qt x.op).length:Int)=LX;rw[xlen,hLX.eq]
    refine⟨fun hgt=>?_,fun hle=>?_⟩
    ·have hgt:0<std.len (Qt x.op):=of_decide_eq_true hgt
     rw[hlx] at hgt
     have hk1:0<x.op.length:=by have:=hLX.eq;omega
     exact⟨cK hk1,y,⟨hy2 hk1,hstep hk1⟩,by omega,[some 0,some 1,some 2,some 3],_,rfl,by simp[Qe,lk]⟩
    ·have hle:¬ 0<std.len (Qt x.op):=of_decide_eq_false hle
     rw[hlx] at hle
     have hk1:¬ 0<x.op.length:=by have:=hLX.eq;omega
     rw[←hend hk1]
     clear hle hlx hk1 hstep hend hy1 hy2 cK xlen
     rw[if_pos trivial]
     generalize hp:std=p,hD:QC x.wr=D,hS:Qt x.op=S,hE:QK x.ev=E,hB:Q2 b=B,hR:Q0 t.r=R,hO:Q8 t.off=O,hK:t.kind=K,hM:t.bom=M,hTK:Q1i toks=TK
     generalize hT:Q5 p tys (Qbl _) _ _ _ _=T
     cbv at hT
     subst hT
     simp only[Tree.ok,Q1,S0]
     subst hp hD hS hE hB hR hO hK hM hTK
     refine⟨[some 0,some 1,some 2,some 3],.box 0 0,_,rfl,rfl,Nat.le_of_ble_eq_true rfl,rfl,?_,.inl rfl⟩
     simp[Qe]
end Go.Proofs.YthbjpdijafccjaaGreat
