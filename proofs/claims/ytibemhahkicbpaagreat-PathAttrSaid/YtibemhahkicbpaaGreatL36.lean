/- Lemmas, conditions told -/
import Derived.Test.YtibemhahkicbpaaGreatL35
import Derived.Test.YtibemhahkicbpaaGreatL24
import Derived.Test.YtibemhahkicbpaaGreatL34
set_option maxRecDepth 99999
set_option maxHeartbeats 0
set_option linter.unusedSimpArgs false
set_option linter.unusedVariables false
namespace Go.Proofs.YtibemhahkicbpaaGreat
open Int(le_refl)
open Go.RowKit Go.Lib
section
open Tryz
theorem QvF{kind:Int}(hk:kind=0\/kind=1\/kind=2)(b:List UInt8):QaT 0 (Q4B kind b) b.length:=by
 have h8:=QeM _ 0 b (Nat.le_refl _);have hw:=fun big=>Qg6 big _ b 0 (Nat.le_refl _)
 rw[Int.zero_add]at hw;rw[show((0:Nat):Int)=0 from rfl,Int.zero_add]at h8;rcases hk with h|h|h
 ·rw[Q4B,if_pos h];exact h8
 ·rw[Q4B,if_neg (by omega),if_pos h];exact hw true
 ·rw[Q4B,if_neg (by omega),if_neg (by omega),if_pos h];exact hw false
theorem QvZ{kind:Int}(hk:kind=0\/kind=1\/kind=2)(b:List UInt8):Un ((Q4B kind b).map Itm.r):=fun r hr=>by
 obtain⟨x,hx,rfl⟩:=List.mem_map.1 hr;rcases hk with h|h|h
 ·rw[Q4B,if_pos h]at hx;exact Qev _ _ _ x hx
 ·rw[Q4B,if_neg (by omega),if_pos h]at hx;exact QcS true _ _ _ (Nat.le_refl _) x hx
 ·rw[Q4B,if_neg (by omega),if_neg (by omega),if_pos h]at hx;exact QcS false _ _ _ (Nat.le_refl _) x hx
theorem QvK:∀(ps:List Itm)(a e:Int),QaT a ps e->a<=e/\∀x∈ps,a<=x.off/\1<=x.n/\x.off+x.n<=e
 | [],a,e,h=>by
  have h:a=e:=h;exact⟨by omega,fun x hx=>by cases hx⟩
 |x::r,a,e,h=>by
  obtain⟨h1,h2,h3⟩:=h;obtain⟨h4,h5⟩:=QvK r _ e h3;refine⟨by omega,fun y hy=>?_⟩
  rcases List.mem_cons.1 hy with rfl|hy
  ·omega
  ·have:=h5 y hy;omega
theorem QvW(B LA SB LS TR TO N D OP E2:List AV)(tk tm rt:Int)(hk:tk=0\/tk=1\/tk=2)(nm:ByteArray)
  (cS:BCall prog 11 [.slc 1 B] [] (.slc 1 SB) []) (cs:BCall prog 12 [.slc 1 LA] [] (.slc 1 LS) [])
  (cP:BCall prog 13 [.slc 1 SB] [] (.agg [.val (.int .i64 tk),.val (.int .i64 tm),.slc 1 TR,.slc 1 TO,.ref [.slc 6 N],.val (.int .i64 rt),.slc 3 D]) []) (cR:BCall prog 14 [.slc 1 SB] [] (.ref [.slc 1 SB,.val (.int .i64 tk),.val (.int .i64 tm),.slc 1 TR,.slc 1 TO,.slc 1 OP,.slc 3 E2,.slc 3 D]) [])
  (cE:BCall prog 15 [.agg [.val (.int .i64 tk),.val (.int .i64 tm),.slc 1 TR,.slc 1 TO,.ref [.slc 6 N],.val (.int .i64 rt),.slc 3 D],.slc 1 LS] [] (.tup [.agg [.opt (.val (.pointer none)),.val (.int .i64 0),.val (.int .i64 0),.val (.int .i64 0),.opt (.val (.pointer none))],.val (.bool false)]) [])
  (cF:BCall prog 17 [.ref [.slc 1 SB,.val (.int .i64 tk),.val (.int .i64 tm),.slc 1 TR,.slc 1 TO,.slc 1 OP,.slc 3 E2,.slc 3 D],.slc 1 LS] [] (.tup [.agg [.slc 1 [],.val (.int .i64 0),.val (.int .i64 0),.val (.int .i64 0),.val (.int .i64 0),.val (.bool false),.slc 1 []],.val (.bool false)]) []) :
  BCall prog 3 [.slc 1 B,.slc 1 LA,.val (.string nm)] [] (.val (.bool true)) []:=by
 have h0:Q4B tk []=[]:=by
  have h:=(Qcw _ _ _ (QvF hk [])).1;have h:((Q4B tk []).length:Int)<=0-0:=h;exact List.eq_nil_of_length_eq_zero (by omega)
 have cI:=Qiv tk [] (by decide) hk
 have ha:(QD [] 0 (([]:List Int).length:Int)).attrs=[]:=by
  cases h:(QD [] 0 (([]:List Int).length:Int)).attrs with
  |nil=>rfl
  |cons a r =>
   have hI:=QvO [] a (by rw[h];exact List.mem_cons_self)
   have h1:=hI.n0;have h2:=hI.n1;have h3:=hI.n2;simp at h3;omega
 have cA:=QvG [] (by decide) (fun r hr=>by cases hr) nm
 rw[ha]at cA;rw[h0]at cI;exact Qw0 _ _ _ _ _ _ N D _ _ [] [] _ _ _ 0 0 0 0 0 0 0 0 0 0 0 0 0 0 0 0 0 (.val (.pointer none)) (.val (.pointer none)) false false false false nm [] [] rfl (by decide) (fun x hx=>by cases hx) (by decide) trivial trivial (fun _=>⟨rfl,rfl,rfl,rfl,rfl⟩) (fun h=>by cases h) cS cs cP cR cE (QvS TR TO N D tk tm rt nm) cF cI cA Qte
theorem QvL(B LA SB LS TR TO N D OP E2 PA:List AV)(tk tm rt cn cf ck gn gf gk ge ee ia ib:Int)(U V:AV)(em:Bool)(tx:List UInt8)(htx:tx.length<=900000)(vm:0<=cf/\cf<=1000000)(hk:tk=0\/tk=1\/tk=2)(nm:ByteArray)(hU:Q56 U)
  (cS:BCall prog 11 [.slc 1 B] [] (.slc 1 SB) []) (cs:BCall prog 12 [.slc 1 LA] [] (.slc 1 LS) [])
  (cP:BCall prog 13 [.slc 1 SB] [] (.agg [.val (.int .i64 tk),.val (.int .i64 tm),.slc 1 TR,.slc 1 TO,.ref [.slc 6 N],.val (.int .i64 rt),.slc 3 D]) []) (cR:BCall prog 14 [.slc 1 SB] [] (.ref [.slc 1 SB,.val (.int .i64 tk),.val (.int .i64 tm),.slc 1 TR,.slc 1 TO,.slc 1 OP,.slc 3 E2,.slc 3 D]) [])
  (cE:BCall prog 15 [.agg [.val (.int .i64 tk),.val (.int .i64 tm),.slc 1 TR,.slc 1 TO,.ref [.slc 6 N],.val (.int .i64 rt),.slc 3 D],.slc 1 LS] [] (.tup [.agg [.opt (.ref [.slc 6 N]),.val (.int .i64 cn),.val (.int .i64 cf),.val (.int .i64 ck),.opt U],.val (.bool true)]) [])
  (cF:BCall prog 17 [.ref [.slc 1 SB,.val (.int .i64 tk),.val (.int .i64 tm),.slc 1 TR,.slc 1 TO,.slc 1 OP,.slc 3 E2,.slc 3 D],.slc 1 LS] [] (.tup [.agg [.slc 1 PA,.val (.int .i64 cf),.val (.int .i64 ee),.val (.int .i64 ia),.val (.int .i64 ib),.val (.bool em),.slc 1 (Q2 tx)],.val (.bool true)]) [])
  (cT:BCall prog 21 [.agg [.opt (.ref [.slc 6 N]),.val (.int .i64 cn),.val (.int .i64 cf),.val (.int .i64 ck),.opt U]] [] (.tup [.agg [.opt (.ref [.slc 6 N]),.val (.int .i64 gn),.val (.int .i64 gf),.val (.int .i64 gk),.opt V],.val (.bool true)]) [])
  (cSp:BCall prog 23 [.agg [.opt (.ref [.slc 6 N]),.val (.int .i64 gn),.val (.int .i64 gf),.val (.int .i64 gk),.opt V]] [] (.agg [.val (.int .i64 cf),.val (.int .i64 ge)]) [])
  (cTx:BCall prog 24 [.agg [.opt (.ref [.slc 6 N]),.val (.int .i64 gn),.val (.int .i64 gf),.val (.int .i64 gk),.opt V]] [] (.slc 1 (Q2 tx)) []) :
  BCall prog 3 [.slc 1 B,.slc 1 LA,.val (.string nm)] [] (.val (.bool true)) []:=by
 have cI:=Qiv tk tx (by omega) hk
 have cPc:=Qez tk tx (by omega)
 have hch:=QvF hk tx;have yn:=QvZ hk tx;obtain⟨its,hits⟩:=exq (Q4B tk tx);rw[<-hits]at cI cPc hch yn;obtain⟨h1,_,_,_⟩:=Qcw _ _ _ hch;have jM:=(QvK _ _ _ hch).2;have j1:its.length<=1000000:=by omega
 obtain⟨ru,zb⟩:=exq (its.map Itm.r);rw[<-zb]at yn;have qd:ru.length=its.length:=by rw[zb,List.length_map]
 have cRd:=QfE ru (by omega) 0 ru.length (le_refl _) (by omega) (le_refl _)
 have kf:=QvO ru;have hNm:=Q7N ru;have cRA:=QvG ru (by omega) yn nm
 have jX:(QD ru 0 ru.length).attrs.length<=1000000:=by
  have h1:=Q3S ru 0 ru.length;have h2:=Q45 ru 0 ru.length;omega
 obtain⟨al,halE⟩:=exq ((QD ru 0 ru.length).attrs);rw[<-halE]at cRd kf hNm cRA jX
 have nN:∀x∈Qvz its,0<=x/\x<=1000000:=fun x hx=>by
  rcases List.mem_cons.1 hx with rfl|hx
  ·decide
  ·obtain⟨y,hy,rfl⟩:=List.mem_map.1 hx
   have:=jM y hy;omega
 have xo:∀x∈its,0<=x.off/\x.off<=1000000/\0<=x.n/\x.n<=1000000:=fun x hx=>by
  have:=jM x hx;omega
 have cAt:=Qw2 TR TO N D (Q2 tx) tk tm rt cn cf ck gn gf gk cf ge _ _ _ U V _ _ nm its al ru zb j1 nN xo vm (by omega) kf cT cSp cTx cPc cRd (fun a ha=>by
  have hN:=hNm a ha;exact Qjr ru (by omega) a.name.from_ a.name.to hN.h0 (by have:=hN.h1;omega) hN.h2 (Qlm hN.ld))
 cases hA:atO al ru nm with
 |none =>
  rw[hA]at cAt cRA;exact Qw0 _ _ _ _ _ _ N D _ _ PA (Q2 tx) _ _ _ cn cf ck cf ee ia ib 0 0 0 0 0 0 0 0 0 0 (.ref [.slc 6 N]) U em true false false nm its ru zb j1 xo vm trivial hU (fun _=>⟨rfl,rfl,rfl,rfl,rfl⟩) (fun h=>by cases h) cS cs cP cR cE cAt cF cI cRA Qte
 |some a =>
  rw[hA]at cAt cRA;have hI:=kf a (List.mem_of_find?_eq_some hA);have h1:=hI.n0;have h2:=hI.n1;have h3:=hI.n2;have h4:=hI.v0;have h5:=hI.v1;have h6:=hI.v2;have h7:=hI.a0;have h8:=hI.a1;have h9:=hI.a2;exact Qw0 _ _ _ _ _ _ N D _ _ PA (Q2 tx) _ _ _ cn cf ck cf ee ia ib _ _ _ _ _ _ _ _ _ _ (.ref [.slc 6 N]) U em true true true nm its ru zb j1 xo vm trivial hU (fun h=>by cases h) (fun _=>⟨rfl,⟨h7,by omega,rfl⟩,⟨by omega,by omega,rfl⟩,⟨by omega,by omega,rfl⟩,⟨by omega,by omega,rfl⟩⟩) cS cs cP cR cE cAt cF cI cRA Qte
theorem PathAttr_b(b0:List UInt8)(la:List Int)(nm:ByteArray)(qc:∀x∈la,x<=9223372036854775807):BCall prog 3 [.slc 1 (Q2 b0),.slc 1 (Q9 la),.val (.string nm)] [] (.val (.bool true)) []:=by
 have cS:=QnB b0;have cs:=Qt9 la;obtain⟨b,hb⟩:=exq (b0.take 400);have hl:b.length<=400:=by rw[hb,List.length_take];omega
 rw[<-hb]at cS;obtain⟨ls,vk⟩:=exq (la.take 8);have nW:ls.length<=8:=by rw[vk,List.length_take];omega
 have qc:∀x∈ls,x<=9223372036854775807:=fun x hx=>qc x (by rw[vk]at hx;exact List.mem_of_mem_take hx)
 rw[<-vk]at cs;have hO:=Q8f b (by omega)
 have cP:=Qn7 b (by omega)
 have cR:=Qg2 b (by omega)
 obtain⟨cg,nS⟩:=Q8S b (by omega)
 rw[cg]at cR;have hN:=Qeb b;have kf:QuV (QL (Qu b)).n b 400000 (.root (Qu b).n.length):=⟨hO.root,[],[],by show b=[]++(pr (QL (Qu b)).n (Qu b).n.length++[]);rw[hO.p];simp,rfl⟩
 have hSh:=Qss b (by omega)
 have hLf:=QsG b;have yI:=QcT (Qu b);have hn:=hO.n
 have hen:(Q1b b).ev.length<=1000000:=by
  have h1:=QlU hO.ar.wf ((Qu b).n.length+1) (Qu b).n.length true (by omega) (QcT _) (by omega)
  have h2:=hO.c;have h3:=congrArg List.length nS;rw[List.length_map]at h3;omega
 have pA:Qr3 ((Q1b b).ev.map Evr.ev)<=1000000:=by
  rw[nS];have h1:=Qt6 hO.ar hSh (n:=(Qu b).n.length) (by omega) yI
  rw[hO.p]at h1;omega
 have zB:QqZ ((Q1b b).ev.map Evr.ev) 0:=by rw[nS];exact Qtc _
 have cAl:=QuE (.slc 1 (Q2 b)) (.val (.int .i64 (Qb b).kind)) (.val (.int .i64 (Qb b).bom)) (.slc 1 (Q0 (Qb b).r)) (.slc 1 (Q9 (Qb b).off)) (.slc 1 (Qz (Q1b b).op)) (.slc 3 (Qk (Qu b).d)) (Q1b b).ev hen zB pA
 have eAl:(alF ((Q1b b).ev.map Evr.ev)).o=Qso (QL (Qu b)).n (Qu b).n.length:=by
  rw[nS];exact Qu1 hO.ar.wf hSh (by omega) yI
 have jX:=QtR zB pA;rw[eAl]at cAl jX
 have cF:=Qt8 _ _ _ _ _ _ _ _ _ cAl (by rw[List.length_map]at jX;omega) (fun x hx=>by
  have h1:=Qt7 x hx;obtain⟨j,s,_,h2⟩:=Qtv x hx;exact⟨by omega,by rw[h2];exact List.cons_ne_nil _ _⟩) ls (by omega)
 have hfd:=Qtp hO.ar hLf (n:=(Qu b).n.length) (by omega) yI ls
 rw[hfd]at cF;have cE:=QsB (Qb b) (Qu b) (QL (Qu b)).n rfl b 400000 hO.ar hN (by omega) (by omega) kf ls (by omega) qc
 have jI:∀c,QqO (QL (Qu b)).n (QqQ (QL (Qu b)).n (.root (Qu b).n.length) 0) ls=some c->QuV (QL (Qu b)).n b 400000 c/\QrY (QL (Qu b)).n b 400000 c/\QqN (QL (Qu b)).n c.n=true:=fun c h=>by
  have h3:=(Qu6 hLf (by rw[Qs3 b];decide) h).1
  cases hs:QqQ (QL (Qu b)).n (.root (Qu b).n.length) 0 with
  |none=>rw[hs,QqU]at h;cases h
  |some d =>
   rw[hs]at h;obtain⟨h1,h2⟩:=Qt0 hO.ar hN ls d c (Qry hO.ar hN kf hs) (QsX kf trivial hs) h;exact⟨h1,h2,h3⟩
 have yJ:=Q54 b;have hW:=hO.ar.wide;have hWf:=hO.ar.wf;have kg:=hO.ar;clear cAl hfd eAl jX nS cg pA zB hen;obtain⟨l,hlE⟩:=exq ((QL (Qu b)).n);rw[<-hlE]at cF cE jI hW hWf kg hN kf hLf hSh hn;obtain⟨E,hE⟩:=exq (QqO l (QqQ l (.root (Qu b).n.length) 0) ls);rw[<-hE]at cF cE jI;unfold Q8c at cP cE;rw[<-hlE]at cP cE;cases E with
 |none=>exact QvW _ _ _ _ _ _ (Q3 l) (Qk (Qu b).d) _ _ _ _ _ yJ nm cS cs cP cR cE cF
 |some c =>
  obtain⟨gq,hcU,hcE⟩:=jI c rfl;have gX:=gq.prOk kg (by omega) (by omega) (by omega)
  have vm:=gq.1.f0;have hcw:=gq.1.w;have hwd:=gq.1.wide kg
  have nT:∀x,QuV l b 400000 x->(pr l x.n).length<=900000:=fun x hx=>by
   obtain⟨_,p,q,hp,_⟩:=hx;have:=congrArg List.length hp
   simp only[List.length_append]at this;omega
  by_cases h9:Q1f l c.n=9
  ·have cT:=QuB l c h9
   have cTx:=QsR l c gX
   have cSp:=QsP l c (by
    show 0<=c.f+(Qn l c.n).width/\c.f+(Qn l c.n).width<=9223372036854775807;omega)
   have e:Qrw l c.n (0::ls) c.f=⟨0::ls,c.f,c.f+((pr l c.n).length:Int),0,0,true,some (pr l c.n)⟩:=by rw[Qrw,if_pos h9]
   rw[Option.map_some,e]at cF;exact QvL _ _ _ _ _ _ (Q3 l) (Qk (Qu b).d) _ _ _ _ _ _ c.n c.f c.k c.n c.f c.k _ _ _ _ (upO (Q3 l) c) (upO (Q3 l) c) true (pr l c.n) (nT c gq) (by omega) yJ nm (QcJ _ _) cS cs cP cR cE cF cT cSp cTx
  ·have hk:Q1f l c.n=21:=by
    have h2:Q1f l c.n=21\/Q1f l c.n=9:=by simpa[QqN]using hcE
    exact h2.resolve_right h9
   obtain⟨x,r,yk,_,_,hr⟩:=hSh.first c.n gq.1.h0 gq.1.h1 hk
   have qX:0<(Qg l c).length:=by rw[Qg,yk,List.length_cons];omega
   have hdo:dOk l c 0=true:=decide_eq_true ⟨le_refl 0,by omega⟩
   have nU:QuV l b 400000 (Q34 l c 0):=⟨gq.1.down kg (le_refl 0) (by omega),gq.2.down kg hN gq.1 (le_refl 0) (by omega)⟩
   have cT:=QuI l b 400000 kg (by omega) (by omega) c gq hk
   rw[hdo,Qrx hdo]at cT;have cTx:=QsR l (Q34 l c 0) (nU.prOk kg (by omega) (by omega) (by omega))
   have hdf:(Q34 l c 0).f=c.f:=by
    show c.f+Q1Z l ((Qg l c).take (0:Int).toNat)=c.f;simp[Q1Z]
   have hdw:=nU.1.w;have hdwd:=nU.1.wide kg;have hdf0:=nU.1.f0
   have cSp:=QsP l (Q34 l c 0) (by
    show 0<=(Q34 l c 0).f+(Qn l (Q34 l c 0).n).width/\(Q34 l c 0).f+(Qn l (Q34 l c 0).n).width<=9223372036854775807;omega)
   rw[hdf]at cSp;have yf:(Qn l c.n).kids.head?.getD 0=x:=by rw[yk];rfl
   have kv:(Q34 l c 0).n=x:=by
    show(Qg l c)[(0:Int).toNat]?.getD 0=x
    rw[Qg,yk];rfl
   obtain⟨i1,i2,e⟩:∃i1 i2,Qrw l c.n (0::ls) c.f=⟨0::ls,c.f,c.f+((pr l c.n).length:Int),i1,i2,false,some (pr l (Q34 l c 0).n)⟩:=⟨_,_,by rw[Qrw,if_neg h9,yf,kv]⟩
   rw[Option.map_some,e]at cF;exact QvL _ _ _ _ _ _ (Q3 l) (Qk (Qu b).d) _ _ _ _ _ _ c.n c.f c.k (Q34 l c 0).n (Q34 l c 0).f (Q34 l c 0).k _ _ i1 i2 (upO (Q3 l) c) (upO (Q3 l) (Q34 l c 0)) false (pr l (Q34 l c 0).n) (nT _ nU) (by omega) yJ nm (QcJ _ _) cS cs cP cR cE cF cT cSp cTx
