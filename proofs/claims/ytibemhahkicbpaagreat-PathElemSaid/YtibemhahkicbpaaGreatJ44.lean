/- Lemmas, conditions told -/
import Derived.Test.YtibemhahkicbpaaGreatJ25
import Derived.Test.YtibemhahkicbpaaGreatJ43
set_option maxRecDepth 99999
set_option maxHeartbeats 0
set_option linter.unusedSimpArgs false
set_option linter.unusedVariables false
namespace Go.Proofs.YtibemhahkicbpaaGreat
open Go.RowKit Go.Lib
section
open Tryz
theorem Qt9(l:List Int):BCall prog 12 [.slc 1 (Q9 l)] [] (.slc 1 (Q9 (l.take 8))) []:=by
 have jE:=Q2w l;have h1:¬8<l.length->Q9 (l.take 8)=Q9 l:=fun h=>by rw[List.take_of_length_le (by omega)]
 have h2:std.cut (Q9 l) 0 8=Q9 (l.take 8):=by
  show((Q9 l).drop (0:Int).toNat).take (8-0:Int).toNat=_
  rw[Q9,Q9,List.map_take];rfl
 refine fnN (cs0) func12 rfl fun _ _=>?_
 with_reducible refine cv1 (Q9 l) ?_
 refine⟨fun h=>⟨?_,.pure rfl (.inl (by rw[<-h2]))⟩,fun h=>.pure rfl (.inl ?_)⟩
 ·have h:8<((Q9 l).length:Int):=of_decide_eq_true h
  show(0:Int)<=0/\(0:Int)<=8/\(8:Int)<=((Q9 l).length:Int)
  omega
 ·have h:¬8<((Q9 l).length:Int):=of_decide_eq_false h
  rw[h1 (by omega)]
def Quu(SB LS:List AV)(T:List AV)(WV:AV)(C:List AV)(ok:Bool)(F:List AV)(TG:List AV)(I:List AV)(hs:Bool)(f e:Int)(TX:List AV)(sm:Bool):Nat->List AV->List Ob->Option (AV×List Ob):=fun g _ _=>match g with
 |11=>some (.slc 1 SB,[])
 |12=>some (.slc 1 LS,[])
 |13=>some (.agg T,[])
 |14=>some (WV,[])
 |15=>some (.tup [.agg C,.val (.bool ok)],[])
 |17=>some (.tup [.agg F,.val (.bool ok)],[])
 |21=>some (.tup [.agg TG,.val (.bool true)],[])
 |22=>some (.tup [.agg I,.val (.bool hs)],[])
 |23=>some (.agg [.val (.int .i64 f),.val (.int .i64 e)],[])
 |24=>some (.slc 1 TX,[])
 |25=>some (.tup [.slc 1 LS,.val (.bool true)],[])
 |26=>some (.val (.bool sm),[])
 |20=>some (.val (.bool true),[])
 |_=>none
theorem QtV(B LA SB LS TR TO N D OP E2:List AV)(tk tm rt:Int)
  (cS:BCall prog 11 [.slc 1 B] [] (.slc 1 SB) []) (cs:BCall prog 12 [.slc 1 LA] [] (.slc 1 LS) [])
  (cP:BCall prog 13 [.slc 1 SB] [] (.agg [.val (.int .i64 tk),.val (.int .i64 tm),.slc 1 TR,.slc 1 TO,.ref [.slc 6 N],.val (.int .i64 rt),.slc 3 D]) []) (cR:BCall prog 14 [.slc 1 SB] [] (.ref [.slc 1 SB,.val (.int .i64 tk),.val (.int .i64 tm),.slc 1 TR,.slc 1 TO,.slc 1 OP,.slc 3 E2,.slc 3 D]) [])
  (cE:BCall prog 15 [.agg [.val (.int .i64 tk),.val (.int .i64 tm),.slc 1 TR,.slc 1 TO,.ref [.slc 6 N],.val (.int .i64 rt),.slc 3 D],.slc 1 LS] [] (.tup [.agg [.opt (.val (.pointer none)),.val (.int .i64 0),.val (.int .i64 0),.val (.int .i64 0),.opt (.val (.pointer none))],.val (.bool false)]) [])
  (cF:BCall prog 17 [.ref [.slc 1 SB,.val (.int .i64 tk),.val (.int .i64 tm),.slc 1 TR,.slc 1 TO,.slc 1 OP,.slc 3 E2,.slc 3 D],.slc 1 LS] [] (.tup [.agg [.slc 1 [],.val (.int .i64 0),.val (.int .i64 0),.val (.int .i64 0),.val (.int .i64 0),.val (.bool false),.slc 1 []],.val (.bool false)]) [])
  (cA:BCall prog 20 [] [] (.val (.bool true)) []) :
  BCall prog 4 [.slc 1 B,.slc 1 LA] [] (.val (.bool true)) []:=by
 refine fnO false (Quu SB LS ([.val (.int .i64 tk),.val (.int .i64 tm),.slc 1 TR,.slc 1 TO,.ref [.slc 6 N],.val (.int .i64 rt),.slc 3 D]) (.ref [.slc 1 SB,.val (.int .i64 tk),.val (.int .i64 tm),.slc 1 TR,.slc 1 TO,.slc 1 OP,.slc 3 E2,.slc 3 D]) ([.opt (.val (.pointer none)),.val (.int .i64 0),.val (.int .i64 0),.val (.int .i64 0),.opt (.val (.pointer none))]) false ([.slc 1 [],.val (.int .i64 0),.val (.int .i64 0),.val (.int .i64 0),.val (.int .i64 0),.val (.bool false),.slc 1 []]) [] [] false 0 0 [] true) (fun id=>match id with|11=> .of [0,2,3,4,5,6,1,7,8,9,10,11,12,13,16,17,18,14,15,19,20,21,22,23,24,25,26]|_=>.nil) func4 rfl fun _ _=>?_
 with_reducible refine cv0 ?_
 exact⟨cS,cs,cP,cR,cE,cF,fun h=>absurd (show false=true from h) Bool.noConfusion,fun _=>⟨fun _=>⟨cA,.pure rfl (.inl rfl)⟩,fun h=>absurd (show true=false from h) Bool.noConfusion⟩⟩
theorem QsL(B LA SB LS TR TO N D OP E2 PA:List AV)(tk tm rt cn cf ck gn gf gk ce ia ib:Int)(U V:AV)(em:Bool)(tx:List UInt8)(TX:List AV)(hTX:TX=Q2 tx)(hU:Q56 U)(hV:Q56 V)
  (cS:BCall prog 11 [.slc 1 B] [] (.slc 1 SB) []) (cs:BCall prog 12 [.slc 1 LA] [] (.slc 1 LS) [])
  (cP:BCall prog 13 [.slc 1 SB] [] (.agg [.val (.int .i64 tk),.val (.int .i64 tm),.slc 1 TR,.slc 1 TO,.ref [.slc 6 N],.val (.int .i64 rt),.slc 3 D]) []) (cR:BCall prog 14 [.slc 1 SB] [] (.ref [.slc 1 SB,.val (.int .i64 tk),.val (.int .i64 tm),.slc 1 TR,.slc 1 TO,.slc 1 OP,.slc 3 E2,.slc 3 D]) [])
  (cE:BCall prog 15 [.agg [.val (.int .i64 tk),.val (.int .i64 tm),.slc 1 TR,.slc 1 TO,.ref [.slc 6 N],.val (.int .i64 rt),.slc 3 D],.slc 1 LS] [] (.tup [.agg [.opt (.ref [.slc 6 N]),.val (.int .i64 cn),.val (.int .i64 cf),.val (.int .i64 ck),.opt U],.val (.bool true)]) [])
  (cF:BCall prog 17 [.ref [.slc 1 SB,.val (.int .i64 tk),.val (.int .i64 tm),.slc 1 TR,.slc 1 TO,.slc 1 OP,.slc 3 E2,.slc 3 D],.slc 1 LS] [] (.tup [.agg [.slc 1 PA,.val (.int .i64 cf),.val (.int .i64 ce),.val (.int .i64 ia),.val (.int .i64 ib),.val (.bool em),.slc 1 TX],.val (.bool true)]) [])
  (cT:BCall prog 21 [.agg [.opt (.ref [.slc 6 N]),.val (.int .i64 cn),.val (.int .i64 cf),.val (.int .i64 ck),.opt U]] [] (.tup [.agg [.opt (.ref [.slc 6 N]),.val (.int .i64 gn),.val (.int .i64 gf),.val (.int .i64 gk),.opt V],.val (.bool true)]) [])
  (cI:BCall prog 22 [.agg [.opt (.ref [.slc 6 N]),.val (.int .i64 cn),.val (.int .i64 cf),.val (.int .i64 ck),.opt U]] [] (.tup [.agg [.val (.int .i64 ia),.val (.int .i64 ib)],.val (.bool (!em))]) [])
  (cSp:BCall prog 23 [.agg [.opt (.ref [.slc 6 N]),.val (.int .i64 cn),.val (.int .i64 cf),.val (.int .i64 ck),.opt U]] [] (.agg [.val (.int .i64 cf),.val (.int .i64 ce)]) [])
  (cTx:BCall prog 24 [.agg [.opt (.ref [.slc 6 N]),.val (.int .i64 gn),.val (.int .i64 gf),.val (.int .i64 gk),.opt V]] [] (.slc 1 TX) [])
  (cO:BCall prog 25 [.agg [.val (.int .i64 tk),.val (.int .i64 tm),.slc 1 TR,.slc 1 TO,.ref [.slc 6 N],.val (.int .i64 rt),.slc 3 D],.agg [.opt (.ref [.slc 6 N]),.val (.int .i64 cn),.val (.int .i64 cf),.val (.int .i64 ck),.opt U]] [] (.tup [.slc 1 LS,.val (.bool true)]) [])
  (cM:BCall prog 26 [.slc 1 LS,.slc 1 LS] [] (.val (.bool true)) [])
  (cA:BCall prog 20 [] [] (.val (.bool true)) []) :
  BCall prog 4 [.slc 1 B,.slc 1 LA] [] (.val (.bool true)) []:=by
 cases em with
 |true =>
  have cI:BCall prog 22 [.agg [.opt (.ref [.slc 6 N]),.val (.int .i64 cn),.val (.int .i64 cf),.val (.int .i64 ck),.opt U]] [] (.tup [.agg [.val (.int .i64 ia),.val (.int .i64 ib)],.val (.bool false)]) []:=cI;refine fnO false (Quu SB LS ([.val (.int .i64 tk),.val (.int .i64 tm),.slc 1 TR,.slc 1 TO,.ref [.slc 6 N],.val (.int .i64 rt),.slc 3 D]) (.ref [.slc 1 SB,.val (.int .i64 tk),.val (.int .i64 tm),.slc 1 TR,.slc 1 TO,.slc 1 OP,.slc 3 E2,.slc 3 D]) ([.opt (.ref [.slc 6 N]),.val (.int .i64 cn),.val (.int .i64 cf),.val (.int .i64 ck),.opt U]) true [.slc 1 PA,.val (.int .i64 cf),.val (.int .i64 ce),.val (.int .i64 ia),.val (.int .i64 ib),.val (.bool true),.slc 1 TX] ([.opt (.ref [.slc 6 N]),.val (.int .i64 gn),.val (.int .i64 gf),.val (.int .i64 gk),.opt V]) [.val (.int .i64 ia),.val (.int .i64 ib)] false cf ce TX true) (fun id=>match id with|11=> .of [0,2,3,4,5,6,1,7,8,9,10,11,12,13,16,17,18,14,15,19,20,21,22,23,24,25,26]|_=>.nil) func4 rfl fun _ _=>?_
  with_reducible refine cv0 ?_
  have g1:∀a b:Int,(std.notB (std.andB (std.eqI a a) (std.andB (std.eqI b b) true)))=false:=fun a b=>by
   show(!((a == a)&&((b == b)&&true)))=false
   simp
  have g2:(std.notB (std.eqS (std.strB TX) (std.strB TX)))=false:=by
   show(!((std.strB TX).toList == (std.strB TX).toList))=false
   simp
  have g3:(std.isB TX).q:=by rw[hTX];exact QaC tx
  refine⟨cS,cs,cP,cR,cE,cF,fun h=>absurd (show false=true from h) Bool.noConfusion,fun _=>⟨fun h=>absurd (show false=true from h) Bool.noConfusion,fun _=>⟨cT,cI,cSp,QtM,fun h=>absurd ((g1 cf ce).symm.trans h) Bool.noConfusion,fun _=>⟨fun h=>absurd (show false=true from h) Bool.noConfusion,fun _=>⟨g3,cTx,g3,fun h=>absurd (g2.symm.trans h) Bool.noConfusion,fun _=>⟨fun h=>absurd (show false=true from h) Bool.noConfusion,fun _=>⟨cO,cM,cA,.pure rfl (.inl rfl)⟩⟩⟩⟩⟩⟩⟩
 |false =>
  have cI:BCall prog 22 [.agg [.opt (.ref [.slc 6 N]),.val (.int .i64 cn),.val (.int .i64 cf),.val (.int .i64 ck),.opt U]] [] (.tup [.agg [.val (.int .i64 ia),.val (.int .i64 ib)],.val (.bool true)]) []:=cI;refine fnO false (Quu SB LS ([.val (.int .i64 tk),.val (.int .i64 tm),.slc 1 TR,.slc 1 TO,.ref [.slc 6 N],.val (.int .i64 rt),.slc 3 D]) (.ref [.slc 1 SB,.val (.int .i64 tk),.val (.int .i64 tm),.slc 1 TR,.slc 1 TO,.slc 1 OP,.slc 3 E2,.slc 3 D]) ([.opt (.ref [.slc 6 N]),.val (.int .i64 cn),.val (.int .i64 cf),.val (.int .i64 ck),.opt U]) true [.slc 1 PA,.val (.int .i64 cf),.val (.int .i64 ce),.val (.int .i64 ia),.val (.int .i64 ib),.val (.bool false),.slc 1 TX] ([.opt (.ref [.slc 6 N]),.val (.int .i64 gn),.val (.int .i64 gf),.val (.int .i64 gk),.opt V]) [.val (.int .i64 ia),.val (.int .i64 ib)] true cf ce TX true) (fun id=>match id with|11=> .of [0,2,3,4,5,6,1,7,8,9,10,11,12,13,16,17,18,14,15,19,20,21,22,23,24,25,26]|_=>.nil) func4 rfl fun _ _=>?_
  with_reducible refine cv0 ?_
  have g1:∀a b:Int,(std.notB (std.andB (std.eqI a a) (std.andB (std.eqI b b) true)))=false:=fun a b=>by
   show(!((a == a)&&((b == b)&&true)))=false
   simp
  have g2:(std.notB (std.eqS (std.strB TX) (std.strB TX)))=false:=by
   show(!((std.strB TX).toList == (std.strB TX).toList))=false
   simp
  have g3:(std.isB TX).q:=by rw[hTX];exact QaC tx
  refine⟨cS,cs,cP,cR,cE,cF,fun h=>absurd (show false=true from h) Bool.noConfusion,fun _=>⟨fun h=>absurd (show false=true from h) Bool.noConfusion,fun _=>⟨cT,cI,cSp,QtM,fun h=>absurd ((g1 cf ce).symm.trans h) Bool.noConfusion,fun _=>⟨fun h=>absurd (show false=true from h) Bool.noConfusion,fun _=>⟨g3,cTx,g3,fun h=>absurd (g2.symm.trans h) Bool.noConfusion,fun _=>⟨fun h=>absurd (show false=true from h) Bool.noConfusion,fun _=>⟨QtM,fun h=>absurd ((g1 ia ib).symm.trans h) Bool.noConfusion,fun _=>⟨cO,cM,cA,.pure rfl (.inl rfl)⟩⟩⟩⟩⟩⟩⟩⟩
theorem row_i64{w:World}{a:Option Addr}{len cap:Nat}{zs:List Int}(h:QqE .i64 w a len cap zs):∀x∈zs.take len,x<=9223372036854775807:=fun x hx=>by
 rcases h with ⟨_,_,_,rfl⟩|⟨_,_,_,_,_,_,hwf⟩
 ·simp at hx
 ·have h:=hwf x (List.mem_of_mem_take hx)
  simp only[Lit.wf,Bool.and_eq_true,decide_eq_true_eq]at h;exact h.2
theorem QsX{l:List Node}{b:List UInt8}{C:Nat}{c c':Cur}{x:Int}(hc:CurB l b C c)(hu:QrY l b C c)(h:QqQ l c x=some c'):QrY l b C c':=by
 obtain⟨k,h0,h1,rfl,_⟩:=Qrn h;exact⟨h0,h1,hc,hu⟩
theorem Qt0{l:List Node}{b:List UInt8}{C:Nat}(ha:Ar l)(ho:∀x∈l,Q4Q x):∀(p:List Int)(c c':Cur),CurB l b C c->QrY l b C c->QqO l (some c) p=some c'->CurB l b C c'/\QrY l b C c'
 | [],c,c',h1,h2,h=>by
  obtain rfl:c=c':=by simpa[QqO]using h
  exact⟨h1,h2⟩
 |x::p,c,c',h1,h2,h=>by
  rw[QqO]at h;split at h
  ·cases h
  ·cases hs:QqQ l c x with
   |none=>rw[hs,QqU]at h;cases h
   |some d =>
    rw[hs]at h;exact Qt0 ha ho p d c' (Qry ha ho h1 hs) (QsX h1 h2 hs) h
theorem Qtt{l:List Node}(ks:List Int)(h:ks≠[]):Q1Z l ks=Q1Z l (ks.take (ks.length-1))+Q1c l (ks.getLast?.getD 0):=by
 obtain⟨a,x,rfl⟩:∃a x,ks=a++[x]:=⟨ks.dropLast,ks.getLast h,(List.dropLast_concat_getLast h).symm⟩;rw[Qs5];simp
theorem PathElem_b(b0:List UInt8)(la:List Int)(qO:∀x∈la,x<=9223372036854775807):BCall prog 4 [.slc 1 (Q2 b0),.slc 1 (Q9 la)] [] (.val (.bool true)) []:=by
 have cS:=QnB b0;have cs:=Qt9 la;obtain⟨b,hb⟩:=exq (b0.take 400);have hl:b.length<=400:=by rw[hb,List.length_take];omega
 rw[<-hb]at cS;obtain⟨ls,vm⟩:=exq (la.take 8);have nc:ls.length<=8:=by rw[vm,List.length_take];omega
 have qO:∀x∈ls,x<=9223372036854775807:=fun x hx=>qO x (by rw[vm]at hx;exact List.mem_of_mem_take hx)
 rw[<-vm]at cs;have hO:=Q8f b (by omega)
 have cP:=Qn7 b (by omega)
 have cR:=Qg2 b (by omega)
 obtain⟨c9,n7⟩:=Q8S b (by omega)
 rw[c9]at cR;have hN:=Qeb b;have n8:CurB (QL (Qu b)).n b 400000 (.root (Qu b).n.length):=⟨hO.root,[],[],by show b=[]++(pr (QL (Qu b)).n (Qu b).n.length++[]);rw[hO.p];simp,rfl⟩
 have n9:=Qss b (by omega)
 have hOn:=QrL b;have hLf:=QsG b;have hrk:=Qs3 b;have vP:=QcT (Qu b);have hn:=hO.n
 have hen:(Q1b b).ev.length<=1000000:=by
  have h1:=QlU hO.ar.wf ((Qu b).n.length+1) (Qu b).n.length true (by omega) (QcT _) (by omega)
  have h2:=hO.c;have h3:=congrArg List.length n7;rw[List.length_map]at h3;omega
 have pM:Qr3 ((Q1b b).ev.map Evr.ev)<=1000000:=by
  rw[n7];have h1:=Qt6 hO.ar n9 (n:=(Qu b).n.length) (by omega) vP
  rw[hO.p]at h1;omega
 have yw:QqZ ((Q1b b).ev.map Evr.ev) 0:=by rw[n7];exact Qtc _
 have cAl:=QuE (.slc 1 (Q2 b)) (.val (.int .i64 (Qb b).kind)) (.val (.int .i64 (Qb b).bom)) (.slc 1 (Q0 (Qb b).r)) (.slc 1 (Q9 (Qb b).off)) (.slc 1 (Qz (Q1b b).op)) (.slc 3 (Qk (Qu b).d)) (Q1b b).ev hen yw pM
 have eAl:(alF ((Q1b b).ev.map Evr.ev)).o=Qso (QL (Qu b)).n (Qu b).n.length:=by
  rw[n7];exact Qu1 hO.ar.wf n9 (by omega) vP
 have j1:=QtR yw pM;rw[eAl]at cAl j1
 have cF:=Qt8 _ _ _ _ _ _ _ _ _ cAl (by rw[List.length_map]at j1;omega) (fun x hx=>by
  have h1:=Qt7 x hx;obtain⟨j,s,_,h2⟩:=Qtv x hx;exact⟨by omega,by rw[h2];exact List.cons_ne_nil _ _⟩) ls (by omega)
 have hfd:=Qtp hO.ar hLf (n:=(Qu b).n.length) (by omega) vP ls
 rw[hfd]at cF;have cE:=QsB (Qb b) (Qu b) (QL (Qu b)).n rfl b 400000 hO.ar hN (by omega) (by omega) n8 ls (by omega) qO
 have cM:=Qtl ls ls (by omega) (by omega)
 rw[decide_eq_true rfl]at cM
 have jH:∀c,QqO (QL (Qu b)).n (QqQ (QL (Qu b)).n (.root (Qu b).n.length) 0) ls=some c->CurB (QL (Qu b)).n b 400000 c/\QrY (QL (Qu b)).n b 400000 c/\Q2U c<=900000/\QqN (QL (Qu b)).n c.n=true/\ofO (QL (Qu b)).n (Qu b).n.length c=(ls,true):=fun c h=>by
  have h9:=Qsa h;obtain⟨h3,h4⟩:=Qu6 hLf (by rw[hrk];decide) h
  cases hs:QqQ (QL (Qu b)).n (.root (Qu b).n.length) 0 with
  |none=>rw[hs,QqU]at h;cases h
  |some d =>
   rw[hs]at h;obtain⟨h1,h2⟩:=Qt0 hO.ar hN ls d c (Qry hO.ar hN n8 hs) (QsX n8 trivial hs) h;exact⟨h1,h2,by omega,h3,h4⟩
 have cOf:=fun c hu hh=>QuM (Qb b) (Qu b) (QL (Qu b)).n rfl b 400000 hO.ar hN (by omega) (by omega) n8 c hu hh
 have hW:=hO.ar.wide;have hWf:=hO.ar.wf;have kP:=hO.ar;have cA:=Qte;clear cAl hfd eAl j1 n7 c9 pM yw hen;obtain⟨l,hlE⟩:=exq ((QL (Qu b)).n);rw[<-hlE]at cF cE jH cOf hW hWf kP hN n8 hLf n9 hn;obtain⟨E,hE⟩:=exq (QqO l (QqQ l (.root (Qu b).n.length) 0) ls);rw[<-hE]at cF cE jH;unfold Q8c at cP cE cOf;rw[<-hlE]at cP cE cOf;cases E with
 |none=>exact QtV _ _ _ _ _ _ (Q3 l) (Qk (Qu b).d) _ _ _ _ _ cS cs cP cR cE cF cA
 |some c =>
  obtain⟨yJ,hcU,hcH,hcE,hcO⟩:=jH c rfl;have cO:=cOf c hcU hcH;rw[hcO]at cO;have jC:=yJ.1.ok kP (by omega) (by omega:400000<=1000000)
  have gQ:=yJ.prOk kP (by omega) (by omega) (by omega)
  have hcw:=yJ.1.w;have qe:=yJ.1.f0;have hwd:=yJ.1.wide kP;have hwc:((pr l c.n).length:Int)=Q1c l c.n:=(hW c.n yJ.1.h0 yJ.1.h1).symm
  have cSp:=QsP l c (by
   show 0<=c.f+(Qn l c.n).width/\c.f+(Qn l c.n).width<=9223372036854775807;omega)
  by_cases h9:Q1f l c.n=9
  ·have e:Qrw l c.n (0::ls) c.f=⟨0::ls,c.f,c.f+Q1c l c.n,0,0,true,some (pr l c.n)⟩:=by rw[Qrw,if_pos h9,hwc]
   have cT:=QuB l c h9;have cI:=QtH l c (by rw[h9];decide)
   have cTx:=QsR l c gQ;rw[Option.map_some,e]at cF;exact QsL _ _ _ _ _ _ (Q3 l) (Qk (Qu b).d) _ _ _ _ _ _ c.n c.f c.k c.n c.f c.k (c.f+Q1c l c.n) 0 0 (upO (Q3 l) c) (upO (Q3 l) c) true (pr l c.n) _ rfl (QcJ _ _) (QcJ _ _) cS cs cP cR cE cF cT cI cSp cTx cO cM cA
  ·have hk:Q1f l c.n=21:=by
    have h2:Q1f l c.n=21\/Q1f l c.n=9:=by simpa[QqN]using hcE
    exact h2.resolve_right h9
   obtain⟨x,r,yN,_,_,hr⟩:=n9.first c.n yJ.1.h0 yJ.1.h1 hk
   have qY:0<(Qg l c).length:=by rw[Qg,yN,List.length_cons];omega
   have hdo:dOk l c 0=true:=decide_eq_true ⟨Int.le_refl 0,by omega⟩
   have hdB:CurB l b 400000 (Q34 l c 0):=⟨yJ.1.down kP (Int.le_refl 0) (by omega),yJ.2.down kP hN yJ.1 (Int.le_refl 0) (by omega)⟩
   have cT:=QuI l b 400000 kP (by omega) (by omega) c yJ hk
   rw[hdo,Qrx hdo]at cT;have cI:=QtA l b 400000 kP hN (by omega) (by omega) c yJ hk qY
   have cTx:=QsR l (Q34 l c 0) (hdB.prOk kP (by omega) (by omega) (by omega))
   have yG:(Qn l c.n).kids.head?.getD 0=x:=by rw[yN];rfl
   have zx:(Q34 l c 0).n=x:=by
    show(Qg l c)[(0:Int).toNat]?.getD 0=x
    rw[Qg,yN];rfl
   have pL:(Q34 l c 0).f=c.f:=by
    show c.f+Q1Z l ((Qg l c).take (0:Int).toNat)=c.f;simp[Q1Z]
   have j8:=hWf c.n yJ.1.h0 yJ.1.h1;have qn:=yJ.1.h1;have ke:∀k∈(Qn l c.n).kids,((pr l k).length:Int)=Q1c l k:=fun k h=>(hW k (j8 k h).1 (by have:=j8 k h;omega)).symm
   have hxm:x∈(Qn l c.n).kids:=by rw[yN];exact List.mem_cons_self
   have jQ:(Qn l c.n).kids≠[]:=by rw[yN];exact List.cons_ne_nil _ _
   have hlm:(Qn l c.n).kids.getLast?.getD 0∈(Qn l c.n).kids:=by
    rw[List.getLast?_eq_some_getLast jQ];exact List.getLast_mem jQ
   have vu:((pr l c.n).length:Int)=Q1Z l (Qn l c.n).kids:=by
    rw[Q8u hW (ks:=(Qn l c.n).kids) (fun k h=>by have:=j8 k h;exact⟨this.1,by omega⟩),Qh3 hWf yJ.1.h0 yJ.1.h1,n9.b c.n yJ.1.h0 yJ.1.h1 hk];rfl
   have hls2:=Qtt (l:=l) (Qn l c.n).kids jQ
   have e:Qrw l c.n (0::ls) c.f=⟨0::ls,c.f,c.f+Q1c l c.n,Qrf l (Q34 l c 0).n (Q34 l c 0).f,(Q34 l c ((Qg l c).length-1)).f,false,some (pr l (Q34 l c 0).n)⟩:=by
    have e1:c.f+((pr l ((Qn l c.n).kids.head?.getD 0)).length:Int)=Qrf l (Q34 l c 0).n (Q34 l c 0).f:=by
     rw[yG,ke x hxm,zx,pL];rfl
    have e2:c.f+((pr l c.n).length:Int)-((pr l ((Qn l c.n).kids.getLast?.getD 0)).length:Int)=(Q34 l c ((Qg l c).length-1)).f:=by
     show _=c.f+Q1Z l ((Qg l c).take (((Qg l c).length:Int)-1).toNat);rw[ke _ hlm,vu,show(((Qg l c).length:Int)-1).toNat=(Qn l c.n).kids.length-1 by show(((Qn l c.n).kids.length:Int)-1).toNat=_;omega]
     show _=c.f+Q1Z l ((Qn l c.n).kids.take ((Qn l c.n).kids.length-1));omega
    rw[Qrw,if_neg h9,e1,e2,hwc,yG,zx]
   rw[Option.map_some,e]at cF;exact QsL _ _ _ _ _ _ (Q3 l) (Qk (Qu b).d) _ _ _ _ _ _ c.n c.f c.k (Q34 l c 0).n (Q34 l c 0).f (Q34 l c 0).k (c.f+Q1c l c.n) _ _ (upO (Q3 l) c) (upO (Q3 l) (Q34 l c 0)) false (pr l (Q34 l c 0).n) _ rfl (QcJ _ _) (QcJ _ _) cS cs cP cR cE cF cT cI cSp cTx cO cM cA
