/- Lemmas, conditions told -/
import Derived.Test.YtibemhahkicbpaaGreatL32
set_option maxRecDepth 99999
set_option maxHeartbeats 0
set_option linter.unusedSimpArgs false
set_option linter.unusedVariables false
namespace Go.Proofs.YtibemhahkicbpaaGreat
open Go.RowKit Go.Lib
section
open Tryz
theorem Qmn(w:Bool)(k:Int)(r:Bool)(e:Prop):(w=false/\True/\True/\True/\True)\/(w=true/\k=8/\r=false/\e/\True)\/(w=true/\k=8/\r=false/\¬e/\True)\/(w=true/\k=8/\¬r=false/\e/\True)\/(w=true/\k=8/\¬r=false/\¬e/\True) \/
  (w=true/\k=10/\r=false/\True/\True)\/(w=true/\k=10/\¬r=false/\True/\True)\/(w=true/\k=9/\r=false/\True/\True)\/(w=true/\k=9/\¬r=false/\True/\True)\/(w=true/\8<=k/\¬k<=10/\¬k=8/\¬k=10)\/(w=true/\¬8<=k/\¬k=8/\¬k=10/\True):=by
 cases w<;>cases r<;>by_cases h8:k=8<;>by_cases qh:k=10<;>by_cases h9:k=9<;>by_cases hl:8<=k<;>by_cases he:e<;>simp[*]<;>omega
theorem QoB{l:List Tok}{i:Int}(h0:0<=i)(h1:i<l.length):(QA l)[i.toNat]?.getD .dead=(l[i.toNat]?.getD QlS).av:=QdT Tok.av h0 h1 QlS
theorem Q9m(t:Txt)(b:List UInt8)(hs:Sml t b)(hu:Un t.r)(ev0:List Evr)(he0:ev0.length<=1)(hr:t.r.length<=200000) :
  BCall prog 46 [.box 0 0] [.box [.slc 1 (Q2 b),.val (.int .i64 t.kind),.val (.int .i64 t.bom),.slc 1 (Q0 t.r),.slc 1 (Q9 t.off),.val (.slice none 0 0),.row 1 0,.val (.slice none 0 0)],.row 107 3 false 0 (Qv ev0)] (.box 0 0)
   [.box [.slc 1 (Q2 b),.val (.int .i64 t.kind),.val (.int .i64 t.bom),.slc 1 (Q0 t.r),.slc 1 (Q9 t.off),.row 2 1,.row 1 1,.row 3 1],.row 107 3 false 1 (Qv (QcN t b ⟨[],ev0,[]⟩).ev),.row 9 1 false 1 (Qz (QcN t b ⟨[],ev0,[]⟩).op),.row 157 3 false 1 (Qk (QcN t b ⟨[],ev0,[]⟩).wr)]:=by
 have cT:=Qcl t.r hs.hr hu;obtain⟨toks,vh⟩:=exq (Q1r t.r);have jz:∀x∈toks,0<=x.from_/\x.from_<=x.to/\x.to<=t.r.length:=by rw[vh];exact Qb6 t.r t.r.length 0 (by omega)
 rw[<-vh]at cT
 have z9:toks.length<=200000:=by
  have:=QcX t.r t.r.length 0 (by omega)
  rw[vh];exact Nat.le_trans this hr
 obtain⟨n,hn⟩:=QE toks;obtain⟨Z0,pO⟩:=exq (⟨[],ev0,[]⟩:RSt);obtain⟨S1,zO⟩:=exq (toks.foldl (Q64 t b) Z0);obtain⟨S2,zk⟩:=exq (QcN t b Z0);have hS12:S2=Q1g t t.r.length 0 (S1.op.length+1) S1:=by rw[zk,zO,vh];rfl
 rw[<-pO,<-zk];have eZ0:Z0.ev=ev0:=by rw[pO]
 have rb0:RB Z0 0:=by rw[pO];exact⟨Nat.le_refl _,by show ev0.length+0<=1;omega,fun x hx=>by cases hx⟩
 have eOp:Qz Z0.op=[]:=by rw[pO];rfl
 have eWr:Qk Z0.wr=[]:=by rw[pO];rfl
 rw[<-eZ0];clear zk pO;refine fnO true (Qdu (QA toks)) (fun _=>.nil) func46 rfl fun _ _=>?_
 with_reducible refine cv7 (QA toks) (Qv Z0.ev) (Q2 b) (Q0 t.r) (Q9 t.off) t.kind t.bom ?_
 have tlen:=Q5G toks;have qB:std.len (QA toks)=n:=by show((QA toks).length:Int)=n;rw[tlen,hn.eq]
 refine⟨cT,?_⟩;refine Q46 (cs:=Qoo t b toks) (ord:=fun _=>.nil) Q6k (by kernel_rfl) (by kernel_rfl) (by kernel_rfl) (X:=RSt×Int) (fun x=>⟨[(0,.box 0 0),(11,.slc 4 (QA toks)),(12,.val (.int .i64 n)),(13,.val (.int .i64 x.2))],[.box [.slc 1 (Q2 b),.val (.int .i64 t.kind),.val (.int .i64 t.bom),.slc 1 (Q0 t.r),.slc 1 (Q9 t.off),.row 2 1,.row 1 1,.row 3 1],.row 107 3 false 1 (Qv x.1.ev),.row 9 1 false 1 (Qz x.1.op),.row 157 3 false 1 (Qk x.1.wr)]⟩) (fun x=>0<=x.2/\x.2<=n/\RB x.1 x.2.toNat/\(toks.drop x.2.toNat).foldl (Q64 t b) x.1=S1) (fun x=>(n-x.2).toNat) (Z0,0) ?_ ?_ ?_
 ·have:=hn.eq
  exact⟨Int.le_refl _,by simp only;omega,rb0,zO.symm⟩
 ·refine⟨[some 0,some 1,none,none],_,rfl,?_⟩
  exact eq3 qB eOp eWr
 ·rintro⟨s,i⟩ ⟨jK,qi,vY,hf⟩
  simp only at jK qi vY hf
  have rw_:=vY.w;have re_:=vY.e;rcases Int.lt_or_eq_of_le qi with jA|j6
  ·have en:=hn.eq
   have j1:i.toNat<toks.length:=by omega
   have jV:(QA toks).getD i.toNat .dead=(toks[i.toNat]?.getD QlS).av:=by rw[List.getD_eq_getElem?_getD];exact QoB (l:=toks) jK (by omega)
   obtain⟨y,hy⟩:=exq (toks[i.toNat]?.getD QlS);have hym:toks[i.toNat]=y:=by rw[hy,List.getElem?_eq_getElem j1];rfl
   have hyp:=jz y (by rw[<-hym];exact List.getElem_mem j1)
   have jM:InT t y.from_ y.to:=⟨hyp.1,hyp.2.1,hyp.2.2⟩;have hnw:=Qcf t jM.h0 jM.h1 jM.h2
   have qM:(toks.drop (i+1).toNat).foldl (Q64 t b) (Q64 t b s y)=S1:=by
    rw[List.drop_eq_getElem_cons j1,hym,List.foldl_cons]at hf;rw[show(i+1).toNat=i.toNat+1 by omega];exact hf
   have kL:RB (Q64 t b s y) (i+1).toNat:=by
    rw[show(i+1).toNat=i.toNat+1 by omega]
    exact vY.token t b y.kind jM.h0 jM.h1 jM.h2 y.whole
   obtain⟨e1,e2,e3⟩:=Qha t y.kind y.from_ y.to y.whole s;have zT:RSm (Q9s t y.kind y.from_ y.to y.whole s):=⟨by rw[e1];omega,by rw[e1,e2];omega⟩
   have cN:=Qj8 t hs.hr hu y.from_ y.to jM.h0 jM.h1 jM.h2 y.kind y.whole;have cR:=Qd0 t.r hs.hr hu y.from_ y.to jM.h0 jM.h1 jM.h2;rw[Q8H]at cR;obtain⟨nN,hou⟩:=jM.off hs;have cW:∀c:Int,BCall prog 93 [.box 0 0,.val (.int .i64 c),.val (.int .i64 y.from_),.val (.int .i64 y.to)] (obR 0 t b s) (.tup []) (obR 1 t b (Q1R t c y.from_ y.to s)):=fun c=>Q65 t b s (by omega) c y.from_ y.to nN hou
   have hT:=Qcp t b y.kind y.from_ y.to y.whole s;have hP:Q9s t y.kind y.from_ y.to y.whole s=if y.whole=false then Q1R t 1 y.from_ y.to s else if(y.kind=8\/y.kind=9\/y.kind=10)/\(QD t.r y.from_ y.to).right=false then Q1R t 2 y.from_ y.to s else s:=rfl;obtain⟨s1,jL⟩:=exq (Q9s t y.kind y.from_ y.to y.whole s);obtain⟨s2,jT⟩:=exq (Q64 t b s y);have cLf:=Q5v t b hs s1 (by rw[jL,e2];omega) y.kind y.from_ y.to y.whole jM
   have cSd:=Q9Q t b hs s1 (by rw[jL];omega) (by rw[jL,e2];omega) (by rw[jL,e1];omega) y.kind y.from_ y.to y.whole jM (runesBytes (Qs t y.from_ y.to))
   have cSp:s.op.length<64->_:=fun cX=>Qac t b hs s1 (by rw[jL];omega) (by rw[jL,e2];omega) y.kind y.from_ y.to y.whole jM (Qs t y.from_ y.to) (by rw[jL,e1];exact cX)
   have cE:=QjO t b hs s1 (by rw[jL];exact zT) (by rw[jL,e1];exact vY.n) y.kind y.from_ y.to y.whole jM hnw
   have hcs:Qoo t b toks (s,i)=Qhd (Qh0 t y s) (runesBytes (Qs t y.from_ y.to)) (QD t.r y.from_ y.to).name.kind (QD t.r y.from_ y.to).name.from_ (QD t.r y.from_ y.to).name.to (Qh (QD t.r y.from_ y.to).attrs) (QD t.r y.from_ y.to).right (QD t.r y.from_ y.to).empty (Qz s.op) (Qv s.ev) (Qk s1.wr) (Qz s2.op) (Qv s2.ev) (Qk s2.wr):=by
    rw[jL,jT,hy];rfl
   rw[hcs];rw[<-jL]at hT hP e1 e2 zT;rw[<-jT]at qM kL;have j3:s2=if y.whole=true/\y.kind=8/\0<(Qs t y.from_ y.to).length then Q4x t b y.kind y.from_ y.to s1 else if y.whole=true/\y.kind=10 then Qbt t b y.kind y.from_ y.to s1 else Q1K t b y.kind y.from_ y.to s1:=by rw[jT];exact hT
   have hNe:((runesBytes (Qs t y.from_ y.to)).toList == (⟨#[]⟩:ByteArray).toList)=decide (Qs t y.from_ y.to=[]):=Qn1 hnw;have hpu:Qh0 t y s=(y.whole&&decide (y.kind=8)&&decide (0<(Qs t y.from_ y.to).length)&&decide (s.op.length<64)):=rfl;have js:0<(Qs t y.from_ y.to).length↔¬Qs t y.from_ y.to=[]:=List.length_pos_iff;obtain⟨NM,zV⟩:=exq (runesBytes (Qs t y.from_ y.to));obtain⟨T,hTT⟩:=exq (QD t.r y.from_ y.to);rw[<-zV]at cN cSd cSp cE hNe ⊢;rw[<-hTT]at cR hP ⊢;obtain⟨pu,ph⟩:=exq (Qh0 t y s);rw[<-ph]at hpu ⊢;have vB:i<n:=jA;have vu:n<=200000:=by omega
   have mu:(n-(i+1)).toNat<(n-i).toNat:=by omega
   unfold obR Q9u at cW cLf cSd cSp cE;rw[e1,e2]at cLf cSd cE cSp;rw[<-hy]at jV;clear hT jL jT hcs hTT ph zV hy hym hf qB cT en;cases pu with
   |true =>
    generalize zk:Qz s2.op=S2;generalize hE2:Qv s2.ev=E2;generalize zF:Qk s2.wr=W2;generalize hTK:QA toks=TK;generalize hB:Q2 b=B;generalize hR:Q0 t.r=R;generalize hO:Q9 t.off=O;generalize hK:t.kind=K;generalize hM:t.bom=M;with_reducible refine Qqc T.name.kind T.name.from_ T.name.to (Qh T.attrs) T.right T.empty (Qk s.wr) (Qz s.op) (Qv s.ev) (Qk s1.wr) ?_
    subst zk hE2 zF hTK hB hR hO hK hM;simp only[std,jV,Tok.av,AV.cells,List.getD_cons_zero,List.getD_cons_succ,intOf,Q5y,Q3t,decide_eq_true_eq,decide_eq_false_iff_not,Bool.not_eq_true',Bool.not_eq_false',hNe];obtain⟨⟨⟨ju,nO⟩,xm⟩,cX⟩:((y.whole=true/\y.kind=8)/\0<(Qs t y.from_ y.to).length)/\s.op.length<64:=by simpa using hpu.symm
    have qB:=js.1 xm;have cSp:=cSp cX;by_cases hr:T.right=false
    ·rw[if_neg (by rw[ju];decide)]at hP;rw[if_pos ⟨.inl nO,hr⟩]at hP
     rw[if_pos ⟨ju,nO,xm⟩,Q4x,if_neg (by rw[e1];omega)]at j3
     have cWx:=cW 2;rw[<-hP,e1,e2]at cWx;have cFx:=cSp;have q1:s.op++[Qs t y.from_ y.to]=s2.op:=by rw[j3,<-e1];rfl
     have q2:(s.ev++[⟨1,0,none⟩])++[⟨2,y.kind,some (QU t b y.from_ y.to)⟩]=s2.ev:=by rw[j3,<-e2];rfl
     have q3:s1.wr=s2.wr:=by rw[j3];rfl
     rw[q1,q2]at cFx;rw[<-q3];with_reducible repeat' first|refine aC (zA hr <| zA nO <| zA ju <| zA vB <| zA jK qB) ?_|refine zA ?_ ?_
     all_goals first
      |(with_reducible exact cN)
      |(with_reducible exact cR)
      |(with_reducible exact cWx)
      |(with_reducible exact cFx)
      |(with_reducible exact trivial)
      |(with_reducible exact jK)
      |(rw[tlen];omega)
      |omega
      |(show(-9223372036854775808:Int)<=i+1;omega)
      |(show i+1<=(9223372036854775807:Int);omega)
      |(refine⟨(s2,i+1),⟨by simp only;omega,by simp only;omega,kL,qM⟩,mu,[some 0,some 1,some 5,some 3],_,rfl,?_⟩;simp[Qe,lk];rw[q3])
    ·rw[if_neg (by rw[ju];decide)]at hP;rw[if_neg (fun e=>hr e.2)]at hP
     rw[if_pos ⟨ju,nO,xm⟩,Q4x,if_neg (by rw[e1];omega)]at j3
     have cWx:True:=trivial;rw[hP]at cLf cSp cE j3;have cFx:=cSp;have q1:s.op++[Qs t y.from_ y.to]=s2.op:=by rw[j3];rfl
     have q2:(s.ev++[⟨1,0,none⟩])++[⟨2,y.kind,some (QU t b y.from_ y.to)⟩]=s2.ev:=by rw[j3];rfl
     have q3:s.wr=s2.wr:=by rw[j3];rfl
     rw[q1,q2]at cFx;rw[<-q3];with_reducible repeat' first|refine aC (zA hr <| zA nO <| zA ju <| zA vB <| zA jK qB) ?_|refine zA ?_ ?_
     all_goals first
      |(with_reducible exact cN)
      |(with_reducible exact cR)
      |(with_reducible exact cWx)
      |(with_reducible exact cFx)
      |(with_reducible exact trivial)
      |(with_reducible exact jK)
      |(rw[tlen];omega)
      |omega
      |(show(-9223372036854775808:Int)<=i+1;omega)
      |(show i+1<=(9223372036854775807:Int);omega)
      |(refine⟨(s2,i+1),⟨by simp only;omega,by simp only;omega,kL,qM⟩,mu,[some 0,some 1,some 5,some 3],_,rfl,?_⟩;simp[Qe,lk];rw[q3])
   |false =>
    generalize zk:Qz s2.op=S2;generalize hE2:Qv s2.ev=E2;generalize zF:Qk s2.wr=W2;generalize hTK:QA toks=TK;generalize hB:Q2 b=B;generalize hR:Q0 t.r=R;generalize hO:Q9 t.off=O;generalize hK:t.kind=K;generalize hM:t.bom=M;with_reducible refine Qqc T.name.kind T.name.from_ T.name.to (Qh T.attrs) T.right T.empty (Qk s.wr) (Qz s.op) (Qv s.ev) (Qk s1.wr) ?_
    subst zk hE2 zF hTK hB hR hO hK hM
    have cX:y.whole=true->y.kind=8->¬Qs t y.from_ y.to=[]->64<=s1.op.length:=fun h1 h2 h3=>by
     rw[e1];have:=js.2 h3
     simp[h1,h2,this]at hpu;omega
    simp only[std,jV,Tok.av,AV.cells,List.getD_cons_zero,List.getD_cons_succ,intOf,Q5y,Q3t,decide_eq_true_eq,decide_eq_false_iff_not,Bool.not_eq_true',Bool.not_eq_false',hNe];clear cSp;rcases Qmn y.whole y.kind T.right (Qs t y.from_ y.to=[])with ⟨ju,h1,h2,h3,h4⟩|⟨ju,h1,h2,h3,h4⟩|⟨ju,h1,h2,h3,h4⟩|⟨ju,h1,h2,h3,h4⟩|⟨ju,h1,h2,h3,h4⟩|⟨ju,h1,h2,h3,h4⟩|⟨ju,h1,h2,h3,h4⟩|⟨ju,h1,h2,h3,h4⟩|⟨ju,h1,h2,h3,h4⟩|⟨ju,h1,h2,h3,h4⟩|⟨ju,h1,h2,h3,h4⟩
    (rw[if_pos ju]at hP;rw[if_neg (fun e=>by rw[ju]at e;cases e.1),if_neg (fun e=>by rw[ju]at e;cases e.1)]at j3;have cWx:=cW 1;rw[<-hP,e1,e2]at cWx;have cFx:=cLf;rw[<-j3]at cFx)
    rotate_left
    (rw[if_neg (by rw[ju];decide)]at hP;rw[if_pos ⟨.inl h1,h2⟩]at hP;rw[if_neg (fun e=>js.1 e.2.2 h3),if_neg (fun e=>by omega)]at j3;have cWx:=cW 2;rw[<-hP,e1,e2]at cWx;have cFx:=cLf;rw[<-j3]at cFx)
    rotate_left
    (rw[if_neg (by rw[ju];decide)]at hP;rw[if_pos ⟨.inl h1,h2⟩]at hP;rw[if_pos ⟨ju,h1,js.2 h3⟩,Q4x,if_pos (cX ju h1 h3)]at j3;have cWx:=cW 2;rw[<-hP,e1,e2]at cWx;have cFx:=cSd (by have:=cX ju h1 h3;rw[e1]at this;exact this);rw[<-j3]at cFx)
    rotate_left
    (rw[if_neg (by rw[ju];decide)]at hP;rw[if_neg (fun e=>h2 e.2)]at hP;rw[if_neg (fun e=>js.1 e.2.2 h3),if_neg (fun e=>by omega)]at j3;have cWx:True:=trivial;rw[hP]at cLf cSd cE j3;have cFx:=cLf;rw[<-j3]at cFx)
    rotate_left
    (rw[if_neg (by rw[ju];decide)]at hP;rw[if_neg (fun e=>h2 e.2)]at hP;rw[if_pos ⟨ju,h1,js.2 h3⟩,Q4x,if_pos (cX ju h1 h3)]at j3;have cWx:True:=trivial;rw[hP]at cLf cSd cE j3;have cFx:=cSd (by have:=cX ju h1 h3;rw[e1]at this;exact this);rw[<-j3]at cFx)
    rotate_left
    (rw[if_neg (by rw[ju];decide)]at hP;rw[if_pos ⟨.inr (.inr h1),h2⟩]at hP;rw[if_neg (fun e=>by omega),if_pos ⟨ju,h1⟩]at j3;have cWx:=cW 2;rw[<-hP,e1,e2]at cWx;have cFx:=cE;rw[<-j3]at cFx)
    rotate_left
    (rw[if_neg (by rw[ju];decide)]at hP;rw[if_neg (fun e=>h2 e.2)]at hP;rw[if_neg (fun e=>by omega),if_pos ⟨ju,h1⟩]at j3;have cWx:True:=trivial;rw[hP]at cLf cSd cE j3;have cFx:=cE;rw[<-j3]at cFx)
    rotate_left
    (rw[if_neg (by rw[ju];decide)]at hP;rw[if_pos ⟨.inr (.inl h1),h2⟩]at hP;rw[if_neg (fun e=>by omega),if_neg (fun e=>by omega)]at j3;have cWx:=cW 2;rw[<-hP,e1,e2]at cWx;have cFx:=cLf;rw[<-j3]at cFx)
    rotate_left
    (rw[if_neg (by rw[ju];decide)]at hP;rw[if_neg (fun e=>h2 e.2)]at hP;rw[if_neg (fun e=>by omega),if_neg (fun e=>by omega)]at j3;have cWx:True:=trivial;rw[hP]at cLf cSd cE j3;have cFx:=cLf;rw[<-j3]at cFx)
    rotate_left
    (rw[if_neg (by rw[ju];decide)]at hP;rw[if_neg (fun e=>by omega)]at hP;rw[if_neg (fun e=>by omega),if_neg (fun e=>by omega)]at j3;have cWx:True:=trivial;rw[hP]at cLf cSd cE j3;have cFx:=cLf;rw[<-j3]at cFx)
    rotate_left
    (rw[if_neg (by rw[ju];decide)]at hP;rw[if_neg (fun e=>by omega)]at hP;rw[if_neg (fun e=>by omega),if_neg (fun e=>by omega)]at j3;have cWx:True:=trivial;rw[hP]at cLf cSd cE j3;have cFx:=cLf;rw[<-j3]at cFx)
    rotate_left
    all_goals
     skip
     with_reducible repeat' first|refine aC (zA ju <| zA h1 <| zA h2 <| zA h3 <| zA h4 <| zA vB jK) ?_|refine zA ?_ ?_
    all_goals first
     |(with_reducible exact cN)
     |(with_reducible exact cR)
     |(with_reducible exact cWx)
     |(with_reducible exact cFx)
     |(with_reducible exact trivial)
     |(with_reducible exact jK)
     |(rw[tlen];omega)
     |omega
     |(show(-9223372036854775808:Int)<=i+1;omega)
     |(show i+1<=(9223372036854775807:Int);omega)
     |(refine⟨(s2,i+1),⟨by simp only;omega,by simp only;omega,kL,qM⟩,mu,[some 0,some 1,some 2,some 3],_,rfl,?_⟩;simp[Qe,lk])
  ·have hd0:toks.drop i.toNat=[]:=List.drop_eq_nil_of_le (by have:=hn.eq;omega)
   rw[hd0]at hf;have hsS:s=S1:=hf;obtain⟨CS,hCS⟩:=exq (Qoo t b toks (s,i));rw[<-hCS];have hilx:¬i<n:=by omega
   have en:=hn.eq;have hsm1:RSm s:=⟨by omega,by omega⟩
   have rlen:=Qx t.r;clear hCS hf hd0 cT vY rw_ re_ en;with_reducible refine cv9 (QA toks) (Qk s.wr) (Qz s.op) (Qv s.ev) (Q2 b) (Q0 t.r) (Q9 t.off) t.kind t.bom ?_
   refine⟨fun h=>absurd (of_decide_eq_true h) hilx,fun _=>?_⟩
   rw[if_pos trivial];with_reducible refine cv9 (QA toks) (Qk s.wr) (Qz s.op) (Qv s.ev) (Q2 b) (Q0 t.r) (Q9 t.off) t.kind t.bom ?_
   refine Q46 (cs:=(fun x:RSt=>QnS (Qz (Q2h t t.r.length x).op) (Qv (Q2h t t.r.length x).ev) (Qk (Q2h t t.r.length x).wr))) (ord:=fun _=>.nil) Q6k (by kernel_rfl) (by kernel_rfl) (by kernel_rfl) (X:=RSt) (fun x=>⟨[(0,.box 0 0)],[.box [.slc 1 (Q2 b),.val (.int .i64 t.kind),.val (.int .i64 t.bom),.slc 1 (Q0 t.r),.slc 1 (Q9 t.off),.row 2 1,.row 1 1,.row 3 1],.row 107 3 false 1 (Qv x.ev),.row 9 1 false 1 (Qz x.op),.row 157 3 false 1 (Qk x.wr)]⟩) (fun x=>RSm x/\Q1g t t.r.length 0 (x.op.length+1) x=S2) (fun x=>x.op.length) s ?_ ?_ ?_
   ·exact⟨hsm1,by rw[hsS];exact hS12.symm⟩
   ·exact⟨[some 0,some 1,some 2,some 3],_,rfl,by simp[Qe,lk]⟩
   ·rintro x ⟨yf,yj⟩
    have xw:=yf.w;have xe:=yf.e;have xlen:=Q4f x.op;obtain⟨LX,za⟩:=QE x.op;have hX1:0<=LX/\LX<=900000:=by have:=za.eq;omega
    have qQ:(0:Int)<=t.r.length/\(t.r.length:Int)<t.off.length:=by have:=hs.ok.len;omega
    have cK:1<=x.op.length->BCall prog 97 [.box 0 0,.val (.int .i64 t.r.length)] (obR 0 t b x) (.tup []) (obR 1 t b (Q2h t t.r.length x)):=fun h=>Qcb t b x (by omega) (by omega) t.r.length qQ h (by omega)
    have hE:std.len (Q0 t.r)=t.r.length:=by show((Q0 t.r).length:Int)=_;rw[rlen]
    rw[<-hE]at cK;obtain⟨y,hy⟩:=exq (Q2h t t.r.length x);have zX:y.op.length=x.op.length-1:=by rw[hy];show(x.op.take (x.op.length-1)).length=_;rw[List.length_take];omega
    have zc:1<=x.op.length->RSm y:=fun h=>by rw[hy];exact yf.lack t _ h
    have j8:0<x.op.length->Q1g t t.r.length 0 (y.op.length+1) y=S2:=fun h=>by rw[hy,<-Q9h h];exact yj
    have qR:¬0<x.op.length->x=S2:=fun h=>by rw[<-yj,Qad h]
    rw[hE]at cK;rw[<-hy]at cK ⊢;rw[<-hE]at cK;clear hy qQ yj hE;unfold obR Q9u at cK;generalize hM:t.bom=M;with_reducible refine Qqc (Qk x.wr) (Qz x.op) (Qv x.ev) (Qz y.op) (Qv y.ev) (Qk y.wr) (Q2 b) (Q0 t.r) (Q9 t.off) t.kind ?_
    subst hM;have zq:std.len (Qz x.op)=LX:=by show((Qz x.op).length:Int)=LX;rw[xlen,za.eq]
    refine⟨fun vr=>?_,fun jJ=>?_⟩
    ·have vr:0<std.len (Qz x.op):=of_decide_eq_true vr
     rw[zq]at vr;have jU:0<x.op.length:=by have:=za.eq;omega
     exact⟨cK jU,y,⟨zc jU,j8 jU⟩,by omega,[some 0,some 1,some 2,some 3],_,rfl,by simp[Qe,lk]⟩
    ·have jJ:¬0<std.len (Qz x.op):=of_decide_eq_false jJ
     rw[zq]at jJ;have jU:¬0<x.op.length:=by have:=za.eq;omega
     rw[<-qR jU];clear jJ zq jU j8 qR zX zc cK xlen;rw[if_pos trivial];with_reducible refine cv9 (Qk x.wr) (Qz x.op) (Qv x.ev) (Q2 b) (Q0 t.r) (Q9 t.off) t.kind t.bom (QA toks) ?_
     refine⟨[some 0,some 1,some 2,some 3],.box 0 0,_,rfl,rfl,Nat.le_of_ble_eq_true rfl,rfl,?_,.inl rfl⟩;simp[Qe]
