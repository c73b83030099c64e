/- Lemmas, conditions told -/
import Derived.Test.YtibemhahkicbpaaGreatJ11
import Derived.Test.YtibemhahkicbpaaGreatJ13
import Derived.Test.YtibemhahkicbpaaGreatJ12
set_option maxRecDepth 99999
set_option maxHeartbeats 0
set_option linter.unusedSimpArgs false
set_option linter.unusedVariables false
namespace Go.Proofs.YtibemhahkicbpaaGreat
open List(getElem?_map getElem?_eq_getElem map_cons map_append mem_cons mem_map map_drop length_drop map_take)
open Go.RowKit Go.Lib
section
open Tryz
section
variable {w w':World}{A':Nat->Nat->Prop}
theorem Qb8{us:List Value}(h:∀u∈us,u.oneCell'=true):Alike w A' us (us.map .val):=by
 refine⟨by simp,fun j y u hy hu=>?_⟩
 rw[getElem?_map,hy]at hu;obtain rfl:AV.val y=u:=by simpa using hu
 exact PRel.val _ (h y (List.mem_of_getElem? hy))
theorem QhA{base e sz n:Nat}{v:Value}{ys:List Value}{xs:List AV}(h:w'.ownsRow base e sz v n ys)(jj:0<sz)(j1:Alike w' A' ys (QQ xs))(hn:n=xs.length)(hw:∀x∈xs,x.cells.length=sz)
  (hA:∀b o,base<=b->b<w'.heap.size->A' b o):PRel w' A' v (.slc sz xs):=by
 obtain⟨A,c,rfl,hr⟩:=Q1C h;refine Qln (S:=fun b=>base<=b/\b<w'.heap.size) ⟨hr.len,hr.le,hr.max,hr.nil,fun hp=>?_⟩ (fun b o hb=>hA b o hb.1 hb.2) hn hw (fun a ha=>?_) j1
 ·obtain⟨b,o,h1,h2,h3⟩:=hr.at_ hp
  have jE:0<ys.length:=by rw[hr.len];exact Nat.mul_pos hp jj
  have:=h3 0 ys[0] (getElem?_eq_getElem jE)
  exact⟨b,o,h1,⟨h2,World.block_lt_of_cell? w' _ this⟩,h3⟩
 ·rcases h.2 with ⟨h1,_⟩|⟨b,cap,cur,h1,_⟩
  ·cases h1;cases ha
  ·cases h1;cases ha;exact⟨b,0,rfl⟩
end
def Qb7(x:Int×Nat×Nat):Itm:=⟨x.1,x.2.1,x.2.2⟩
def Q4w(b:List UInt8):List Itm:=(Q28 b).map Qb7
theorem QaV(l:List (Int×Nat×Nat)):QQ (QP (l.map Qb7))=(Q12 l).map .val:=by
 induction l with
 |nil=>rfl
 |cons x r ih=>simp only[QP,map_cons,QQ,List.flatMap_cons,Q12,map_append]at ih ⊢;rw[ih];rfl
theorem Qme(b:List UInt8)(hb:b.length<=100000000):BCall prog 98 [.slc 1 (Q2 b)] [] (.slc 3 (QP (Q4w b))) []:=by
 refine BCall.hand (enters_of func98 (by kernel_rfl) rfl) fun w g vs M hL=>?_
 obtain⟨v1,vs1,rfl,h1,hL⟩:=Q13 hL;obtain rfl:=Q2A hL;obtain⟨A,c,rfl,hr⟩:=Qef h1 M;refine(Qcx _ A _ c b w hr (by omega)).mono fun e w' ⟨v,h,⟨n',ho⟩,zO⟩=>⟨v,h,zO,?_⟩
 have hn:n'=(QP (Q4w b)).length:=by
  have:=ho.1
  rw[Q2j]at this;rw[Q3m,Q4w,List.length_map];omega
 refine QhA (A':=(g.imm w w').A) ho (by decide) ?_ hn (fun x hx=>?_) (fun b o h1 h2=>.inr ⟨h1,h2⟩)
 ·rw[Q4w,QaV]
  refine Qb8 fun u hu=>?_
  obtain⟨x,_,hx⟩:=List.mem_flatMap.1 hu;simp only[mem_cons,List.not_mem_nil,or_false]at hx;rcases hx with rfl|rfl|rfl<;>rfl
 ·obtain⟨y,_,rfl⟩:=mem_map.1 hx
  rfl
def Q4B(kind:Int)(b:List UInt8):List Itm:=if kind=0 then Q4w b else if kind=1 then Q1x true 0 b else if kind=2 then Q1x false 0 b else []
def Qpe(f8:List AV->List AV)(fw:Bool->List AV->List AV):Nat->List AV->List Ob->Option (AV×List Ob):=fun f args _=>match f,args with
 |98,[.slc 1 xs]=>some (.slc 3 (f8 xs),[])
 |99,[.slc 1 xs,.val (.bool b)]=>some (.slc 3 (fw b xs),[])
 |_,_=>none
def f8A(xs:List AV):List AV:=QP (Q4w (xs.map Q35))
def fwA(big:Bool)(xs:List AV):List AV:=QP (Q1x big 0 (xs.map Q35))
theorem Qez(kind:Int)(b:List UInt8)(hb:b.length<=100000000):BCall prog 48 [.val (.int .i64 kind),.slc 1 (Q2 b)] [] (.slc 3 (QP (Q4B kind b))) []:=by
 have pO:f8A (Q2 b)=QP (Q4w b):=by rw[f8A,Q3u]
 have xh:∀big,fwA big (Q2 b)=QP (Q1x big 0 b):=fun big=>by rw[fwA,Q3u]
 have c8:BCall prog 98 [.slc 1 (Q2 b)] [] (.slc 3 (f8A (Q2 b))) []:=by rw[pO];exact Qme b hb
 have cw:∀big,BCall prog 99 [.slc 1 (Q2 b),.val (.bool big)] [] (.slc 3 (fwA big (Q2 b))) []:=fun big=>by rw[xh];exact Qla big b (by omega)
 refine fnN (Qpe f8A fwA) func48 rfl fun _ _=>?_
 with_reducible refine cv3 f8A fwA (Q2 b) ?_
 refine⟨fun h=>⟨c8,.pure rfl (.inl ?_)⟩,fun h=>⟨fun h1=>⟨cw _,.pure rfl (.inl ?_)⟩,fun h1=>⟨fun h2=>⟨cw _,.pure rfl (.inl ?_)⟩,fun h2=>.pure rfl (.inr (.inl ⟨rfl,3,?_⟩))⟩⟩⟩
 ·have h:kind=0:=by simpa[std]using h
  rw[Q4B,if_pos h,pO]
 ·have h:¬kind=0:=by simpa[std]using h
  have yF:kind=1:=by simpa[std]using h1
  have h1:std.eqI kind 1=true:=h1;show AV.slc 3 (fwA (std.eqI kind 1) (Q2 b))=_;rw[Q4B,if_neg h,if_pos yF,h1,xh]
 ·have h:¬kind=0:=by simpa[std]using h
  have yF:¬kind=1:=by simpa[std]using h1
  have h2:kind=2:=by simpa[std]using h2
  have h1:std.eqI kind 1=false:=h1;show AV.slc 3 (fwA (std.eqI kind 1) (Q2 b))=_;rw[Q4B,if_neg h,if_neg yF,if_pos h2,h1,xh]
 ·have h:¬kind=0:=by simpa[std]using h
  have h1:¬kind=1:=by simpa[std]using h1
  have h2:¬kind=2:=by simpa[std]using h2
  rw[Q4B,if_neg h,if_neg h1,if_neg h2];rfl
structure Txt where
 kind:Int
 bom:Int
 r:List Int
 off:List Int
 deriving Inhabited
def Txt.cs(t:Txt):List AV:=[.val (.int .i64 t.kind),.val (.int .i64 t.bom),.slc 1 (Q0 t.r),.slc 1 (Q9 t.off)]
def Q2V(b:List UInt8):List Itm:=Q4B (QX b).1 (b.drop (QX b).2.toNat)
def Qb(b:List UInt8):Txt:=⟨(QX b).1,(QX b).2,(Q2V b).map Itm.r,(Q2V b).map (fun x=>x.off+(QX b).2)++[(b.length:Int)]⟩
theorem Q4h(b:List UInt8):0<=(QX b).2/\(QX b).2<=b.length:=by
 have key:∀(x:List UInt8×Int×Int),x∈signsL->x.1.isPrefixOf b=true->0<=x.2.2/\x.2.2<=b.length:=by
  intro x hx hp;have:=(List.isPrefixOf_iff_prefix.1 hp).length_le
  simp only[signsL,mem_cons,List.not_mem_nil,or_false]at hx;rcases hx with rfl|rfl|rfl|rfl|rfl<;>simp at this ⊢<;>omega
 unfold QX kR;split
 ·rename_i x hx
  have h1:=List.find?_some hx;have h2:=List.mem_of_find?_eq_some hx;exact key x (by simpa using h2) h1
 ·simp only;omega
def csD(k bom:Int)(pc:Int->List AV->List AV):Nat->List AV->List Ob->Option (AV×List Ob):=fun f args _=>match f,args with
 |84,_=>some (.tup [.val (.int .i64 k),.val (.int .i64 bom)],[])
 |48,[.val (.int .i64 k),.slc 1 xs]=>some (.slc 3 (pc k xs),[])
 |_,_=>none
def pcA(k:Int)(xs:List AV):List AV:=QP (Q4B k (xs.map Q35))
theorem Qll(b:List UInt8)(hb:b.length<=1000000)(jr:(Q2V b).length<=1000000)(qS:∀x∈Q2V b,0<=x.off/\x.off<=1000000) :
  BCall prog 40 [.slc 1 (Q2 b)] [] (.agg (Qb b).cs) []:=by
 have yX:=Q4h b;have cK:=Qmc b;obtain⟨k,hk⟩:=exq ((QX b).1);obtain⟨bom,vw⟩:=exq ((QX b).2);obtain⟨ps,yY⟩:=exq (Q2V b);have hT:Qb b=⟨k,bom,ps.map Itm.r,ps.map (fun x=>x.off+bom)++[(b.length:Int)]⟩:=by rw[hk,vw,yY];rfl
 have hpb:ps=Q4B k (b.drop bom.toNat):=by rw[hk,vw,yY];rfl
 rw[hT];rw[<-yY]at jr qS;rw[<-hk,<-vw]at cK;rw[<-vw]at yX;clear hT hk vw yY
 have jS:std.cut (Q2 b) bom (std.len (Q2 b))=Q2 (b.drop bom.toNat):=by
  show((Q2 b).drop bom.toNat).take ((Q2 b).length-bom:Int).toNat=_
  rw[Q2,Q2,map_drop,List.take_of_length_le (by simp;omega)]
 have zS:pcA k (std.cut (Q2 b) bom (std.len (Q2 b)))=QP ps:=by rw[jS,pcA,Q3u,hpb]
 have cP:BCall prog 48 [.val (.int .i64 k),.slc 1 (std.cut (Q2 b) bom (std.len (Q2 b)))] [] (.slc 3 (pcA k (std.cut (Q2 b) bom (std.len (Q2 b))))) []:=by
  rw[zS,jS,hpb];exact Qez k _ (by rw[length_drop];omega)
 obtain⟨nb,vy⟩:=QE b;obtain⟨n,hn⟩:=QE ps;have nC:bom<=nb:=by rw[vy.eq];exact yX.2
 have p5:=yX.1;clear yX;refine fnO false (csD k bom pcA) (fun id=>match id with|3=>.of [0,1,2,3,4,5,8,6,7]|_=>.nil) func40 rfl fun _ _=>?_
 with_reducible refine cv2 pcA (Q2 b) ?_
 have enb:=vy.eq;have en:=hn.eq;have jV:=Q11 b;refine⟨cK,?_,cP,?_⟩
 ·simp only[std,jV];omega
 have ju:std.len (pcA k (std.cut (Q2 b) bom (std.len (Q2 b))))=n:=by rw[zS];simp only[std,Q3m];omega
 refine Q1h (csD k bom pcA) (Int) (fun i=>⟨[(0,.slc 1 (Q2 b)),(2,.box 0 0),(3,.box 1 0),(20,.slc 3 (QP ps)),(21,.val (.int .i64 n)),(22,.val (.int .i64 i))],[.box [.val (.int .i64 0),.val (.int .i64 0),.val (.slice none 0 0),.val (.slice none 0 0)],.box [.val (.int .i64 k),.val (.int .i64 bom),.row 2 0,.row 3 0],.row 21 1 false 0 (Q0 ((ps.take i.toNat).map Itm.r)),.row 3 1 false 0 (Q9 ((ps.take i.toNat).map fun x=>x.off+bom))]⟩) (fun i=>0<=i/\i<=n) (fun i=>(n-i).toNat) 0 ?_ ?_ ?_
 ·omega
 ·refine⟨[some 0,some 1,none,none],_,rfl,?_⟩
  simp only[Int.toNat_zero,List.take_zero,List.map_nil]
  repeat first
   |exact trivial
   |refine⟨gA zS,?_⟩
   |refine⟨gI ju,?_⟩
   |refine⟨rfl,?_⟩
 ·rintro i ⟨jL,jK⟩
  have j5:=Q3m ps;rcases Int.lt_or_eq_of_le jK with jA|j7
  ·have jX:(QP ps)[i.toNat]?.getD .dead=(ps[i.toNat]?.getD ⟨0,0,0⟩).av:=QdT Itm.av jL (by omega) ⟨0,0,0⟩
   have vI:i.toNat<ps.length:=by omega
   have hx:=qS (ps[i.toNat]?.getD ⟨0,0,0⟩) (by simp[vI])
   have ht:ps.take (i+1).toNat=ps.take i.toNat++[ps[i.toNat]?.getD ⟨0,0,0⟩]:=by
    rw[show(i+1).toNat=i.toNat+1 by omega,List.take_add_one]
    simp[vI]
   have yk:Q0 ((ps.take (i+1).toNat).map Itm.r)=Q0 ((ps.take i.toNat).map Itm.r)++[.val (.int .i32 (ps[i.toNat]?.getD ⟨0,0,0⟩).r)]:=by
    rw[ht,map_append,Q95];rfl
   have vH:Q9 ((ps.take (i+1).toNat).map fun x=>x.off+bom)=Q9 ((ps.take i.toNat).map fun x=>x.off+bom)++[.val (.int .i64 ((ps[i.toNat]?.getD ⟨0,0,0⟩).off+bom))]:=by
    rw[ht,map_append,Q4T];rfl
   have yf:(Q0 ((ps.take i.toNat).map Itm.r)).length<=1000000:=by simp[Q0];omega
   have z8:(Q9 ((ps.take i.toNat).map fun x=>x.off+bom)).length<=1000000:=by simp[Q9];omega
   obtain⟨x,hxE⟩:=exq (ps[i.toNat]?.getD ⟨0,0,0⟩);rw[<-hxE]at jX hx yk vH;obtain⟨R,hR⟩:=exq (Q0 ((ps.take i.toNat).map Itm.r));obtain⟨O,hO⟩:=exq (Q9 ((ps.take i.toNat).map fun x=>x.off+bom))
   rw[<-hR]at yk yf ⊢;rw[<-hO]at vH z8 ⊢;clear en enb ht;with_reducible refine cv3 pcA (Q2 b) (QP ps) ?_
   have en:=hn.eq;have enb:=vy.eq
   repeat' first
    |(with_reducible refine And.intro (fun hx=>absurd hx (by first|(try simp[std,S1,jX,Itm.av,j5,jA,jL])<;>omega|omega)) (fun _=>?_))
    |(with_reducible refine And.intro (fun _=>?_) (fun hx=>absurd hx (by first|(try simp[std,S1,jX,Itm.av,j5,jA,jL])<;>omega|omega)))
    |(with_reducible refine And.intro (by first|(try simp[std,S1,jX,Itm.av,j5,jA,jL])<;>omega|omega) ?_)
    |(with_reducible refine zA ?_ ?_)
    |(with_reducible intro hb)
   exact⟨i+1,⟨by omega,by omega⟩,by omega,[some 0,some 1,some 2,some 3],_,rfl,by simp[-map_take,Qe,lk,std,jX,j5,Itm.av,AV.cells,intOf,yk,vH]⟩
  ·have ht:ps.take i.toNat=ps:=List.take_of_length_le (by omega)
   rw[ht];have z8:(Q9 (ps.map fun x=>x.off+bom)).length<=1000000:=by simp[Q9];omega
   have hf:Q9 (ps.map (fun x=>x.off+bom)++[(b.length:Int)])=Q9 (ps.map fun x=>x.off+bom)++[.val (.int .i64 nb)]:=by
    rw[Q4T,vy.eq];rfl
   have gU:std.len (Q2 b)=nb:=by rw[enb];simp only[std,jV]
   obtain⟨R,hR⟩:=exq (Q0 (ps.map Itm.r));obtain⟨O,hO⟩:=exq (Q9 (ps.map fun x=>x.off+bom))
   rw[<-hO]at z8 hf
   have hcs:(Txt.mk k bom (ps.map Itm.r) (ps.map (fun x=>x.off+bom)++[(b.length:Int)])).cs=[.val (.int .i64 k),.val (.int .i64 bom),.slc 1 R,.slc 1 (O++[.val (.int .i64 nb)])]:=by
    rw[Txt.cs,hf,hR]
   rw[hcs,<-hR,<-hO];clear en enb ht hcs;with_reducible refine cv3 pcA (Q2 b) (QP ps) ?_
   with_reducible repeat' first|refine aU j7 ?_|refine zA ?_ ?_|intro hb
   rw[if_pos trivial];with_reducible refine cv3 pcA (Q2 b) (QP ps) ?_
   refine⟨?_,.pure rfl ?_⟩
   ·simp[std];omega
   ·refine⟨.inl rfl,.inl rfl,.inl rfl,.inl ?_,trivial⟩
    show AV.slc 1 (std.app O [.val (.int .i64 (std.len (Q2 b)))])=_;rw[gU];rfl
theorem Qq2(t:Txt)(a b:Int)(h0:0<=a)(h1:a<=b)(h2:b<=t.r.length):BCall prog 103 [.agg t.cs,.val (.int .i64 a),.val (.int .i64 b)] [] (.val (.bool true)) []:=by
 obtain⟨n,hn⟩:=QE t.r;have pP:b<=n:=by rw[hn.eq];exact h2
 clear h2;unfold Txt.cs;obtain⟨k,hk⟩:=exq t.kind;obtain⟨m,hm⟩:=exq t.bom;obtain⟨R,hR⟩:=exq (Q0 t.r);obtain⟨O,hO⟩:=exq (Q9 t.off);have hRl:R.length=t.r.length:=by rw[hR,Qx]
 rw[<-hk,<-hm,<-hR,<-hO];refine fnN (cs0) func103 rfl fun _ _=>?_
 with_reducible refine cv0 ?_
 have en:=hn.eq;have pQ:((R.length:Nat):Int)=n:=by omega
 with_reducible repeat' first|refine aU (zA pQ <| zA h0 <| zA h1 pP) ?_|refine zA ?_ ?_|intro hb
 refine .pure rfl (.inl ?_);have:std.leI b (std.len R)=true:=by simp only[std,pQ];exact decide_eq_true pP
 show AV.val (.bool (std.leI b (std.len R)))=_;rw[this]
def Qp9:Nat->List AV->List Ob->Option (AV×List Ob):=fun f args _=>match f,args with
 |103,_=>some (.val (.bool true),[])
 |214,[.slc 1 xs]=>some (.slc 1 xs,[])
 |_,_=>none
structure TxtOk (t:Txt) (b:List UInt8):Prop where
 len:t.off.length=t.r.length+1
 range:∀x∈t.off,0<=x/\x<=b.length
 last:t.off[t.r.length]?.getD 0=b.length
 mono:∀i j:Nat,i<=j->j<=t.r.length->t.off[i]?.getD 0<=t.off[j]?.getD 0
def QU(t:Txt)(b:List UInt8)(i j:Int):List UInt8:=(b.drop (t.off[i.toNat]?.getD 0).toNat).take ((t.off[j.toNat]?.getD 0)-(t.off[i.toNat]?.getD 0)).toNat
theorem QnP(t:Txt)(bs:List UInt8)(kf:bs.length<=1000000)(ok:TxtOk t bs)(ql:t.r.length<=1000000)(i j:Int)(h0:0<=i)(h1:i<=j)(h2:j<=t.r.length) :
  BCall prog 179 [.agg t.cs,.slc 1 (Q2 bs),.val (.int .i64 i),.val (.int .i64 j)] [] (.slc 1 (Q2 (QU t bs i j))) []:=by
 have cI:=Qq2 t i j h0 h1 h2;obtain⟨lo,zK⟩:=exq (t.off[i.toNat]?.getD 0);obtain⟨hi,yD⟩:=exq (t.off[j.toNat]?.getD 0);have jR:=ok.len;have olen:=Q2w t.off;have alo:=Q2T (l:=t.off) (i:=i) h0 (by omega)
 have ahi:=Q2T (l:=t.off) (i:=j) (by omega) (by omega)
 have ala:=Q2T (l:=t.off) (i:=(t.r.length:Int)) (by omega) (by omega)
 rw[Int.toNat_natCast,ok.last]at ala;rw[<-zK]at alo;rw[<-yD]at ahi;have jJ:lo<=hi:=by rw[zK,yD];exact ok.mono _ _ (by omega) (by omega)
 have hlo0:0<=lo:=by
  have h3:i.toNat<t.off.length:=by omega
  have:=ok.range (t.off[i.toNat]'h3) (List.getElem_mem h3)
  rw[zK,getElem?_eq_getElem h3];exact this.1
 obtain⟨nb,vy⟩:=QE bs
 have hhin:hi<=nb:=by
  have h3:j.toNat<t.off.length:=by omega
  have:=ok.range (t.off[j.toNat]'h3) (List.getElem_mem h3)
  rw[yD,vy.eq,getElem?_eq_getElem h3];exact this.2
 have jS:std.cut (Q2 bs) lo hi=Q2 (QU t bs i j):=by
  show((Q2 bs).drop lo.toNat).take (hi-lo).toNat=_
  rw[QU,<-zK,<-yD,Q2,Q2,map_take,map_drop]
 obtain⟨nr,hnr⟩:=QE t.r;have kg:j<=nr:=by rw[hnr.eq];exact h2
 have cC:BCall prog 214 [.slc 1 (std.cut (Q2 bs) lo hi)] [] (.slc 1 (std.cut (Q2 bs) lo hi)) []:=QjT _ (by rw[jS,Q11,QU,List.length_take,length_drop];omega)
 rw[<-jS];clear jS ok zK yD h2;unfold Txt.cs at cI ⊢;obtain⟨k,hk⟩:=exq t.kind;obtain⟨m,hm⟩:=exq t.bom;obtain⟨R,hR⟩:=exq (Q0 t.r);obtain⟨O,hO⟩:=exq (Q9 t.off);rw[<-hk,<-hm,<-hR,<-hO]at cI ⊢;rw[<-hO]at alo ahi ala olen;refine fnN (Qp9) func179 rfl fun _ _=>?_
 with_reducible refine cv1 (Q2 bs) ?_
 have enb:=vy.eq;have enr:=hnr.eq;have jV:=Q11 bs;have hON:((O.length:Nat):Int)=nr+1:=by omega
 have hON2:((O.length:Nat):Int)-1=nr:=by omega
 have ala:O[nr.toNat]?.getD .dead=.val (.int .i64 nb):=by rw[show nr.toNat=t.r.length by omega,enb];exact ala
 have nC:(((Q2 bs).length:Nat):Int)=nb:=by omega
 have ni:std.int (std.nth (std.cel (std.at_ O i)) 0)=lo:=by simp[std,alo,AV.cells,intOf]
 have hh':std.int (std.nth (std.cel (std.at_ O j)) 0)=hi:=by simp[std,ahi,AV.cells,intOf]
 with_reducible repeat' first|refine aU (zA cI <| zA alo <| zA ahi <| zA ala <| zA hON <| zA hON2 <| zA nC <| zA hlo0 <| zA jJ hhin) ?_|refine zA ?_ ?_|intro hb
 ·show BCall _ _ [.slc 1 (std.cut (Q2 bs) (std.int (std.nth (std.cel (std.at_ O i)) 0)) (std.int (std.nth (std.cel (std.at_ O j)) 0)))] [] (.slc 1 (std.cut (Q2 bs) (std.int (std.nth (std.cel (std.at_ O i)) 0)) (std.int (std.nth (std.cel (std.at_ O j)) 0)))) []
  rw[ni,hh'];exact cC
 ·refine .pure rfl (.inl ?_)
  show AV.slc 1 (std.cut (Q2 bs) (std.int (std.nth (std.cel (std.at_ O i)) 0)) (std.int (std.nth (std.cel (std.at_ O j)) 0)))=_;rw[ni,hh']
theorem Qnb(x y:List Int)(hx:x.length<=1000000000)(hy:y.length<=1000000000):BCall prog 178 [.slc 1 (Q0 x),.slc 1 (Q0 y)] [] (.val (.bool (decide (x=y)))) []:=by
 obtain⟨n,hn⟩:=QE x;obtain⟨m,hm⟩:=QE y;obtain⟨e,he⟩:=exq (decide (x=y));rw[<-he];have jq:=Qx x;have hyl:=Qx y;refine fnN (cs0) func178 rfl fun _ _=>?_
 with_reducible refine cv2 (Q0 x) (Q0 y) ?_
 have en:=hn.eq;have em:=hm.eq;have jB:(((Q0 x).length:Nat):Int)=n:=by omega
 have cz:(((Q0 y).length:Nat):Int)=m:=by omega
 refine⟨fun h=>?_,fun h=>?_⟩
 ·have h:¬n=m:=by simpa[std,jB,cz]using h
  refine .pure rfl (.inl ?_);rw[he,decide_eq_false (fun h2=>h (by rw[en,em,h2]))]
 ·have h:n=m:=by simpa[std,jB,cz]using h
  refine Q1h (cs0) (Int) (fun i=>⟨[(0,.slc 1 (Q0 x)),(1,.slc 1 (Q0 y)),(12,.val (.int .i64 n)),(13,.val (.int .i64 i))],[]⟩) (fun i=>0<=i/\i<=n/\∀j:Nat,(j:Int)<i->x[j]?.getD 0=y[j]?.getD 0) (fun i=>(n-i).toNat) 0 ?_ ?_ ?_
  ·exact⟨by omega,by omega,fun j hj=>by omega⟩
  ·exact⟨[],_,rfl,by simp[Qe,lk,std,jB]⟩
  ·rintro i ⟨jL,jK,hi⟩
   have cj:∀j:Nat,j<i.toNat->x[j]?.getD 0=y[j]?.getD 0:=fun j hj=>hi j (by omega)
   clear hi;rcases Int.lt_or_eq_of_le jK with jA|j7
   ·have ax:=QJ (l:=x) jL (by omega)
    have ay:=QJ (l:=y) jL (by omega)
    have hltm:i<m:=by omega
    clear en em h jB cz;with_reducible refine cv2 (Q0 x) (Q0 y) ?_
    have en:=hn.eq;have em:=hm.eq;have jB:(((Q0 x).length:Nat):Int)=n:=by omega
    have cz:(((Q0 y).length:Nat):Int)=m:=by omega
    with_reducible repeat' first|refine aU (zA ax <| zA ay <| zA jB <| zA cz <| zA jA <| zA hltm jL) ?_|refine zA ?_ ?_|intro hb
    ·have jQ:¬x[i.toNat]?.getD 0=y[i.toNat]?.getD 0:=by simpa[std,ax,ay,AV.cells,intOf]using hb
     with_reducible refine cv2 (Q0 x) (Q0 y) ?_
     refine .pure rfl (.inl ?_);rw[he,decide_eq_false (fun h2=>jQ (by rw[h2]))]
    ·have j7:x[i.toNat]?.getD 0=y[i.toNat]?.getD 0:=by simpa[std,ax,ay,AV.cells,intOf]using hb
     refine⟨i+1,⟨by omega,by omega,fun j hj=>?_⟩,by omega,[],_,rfl,by simp[Qe,lk,std]⟩
     have hj:(j:Int)<i+1:=hj;by_cases qo:j<i.toNat
     ·exact cj j qo
     ·obtain rfl:j=i.toNat:=by omega
      exact j7
   ·have hxy:x=y:=by
     refine List.ext_getElem (by omega) fun j h1 h2=>?_
     have:=cj j (by omega)
     rw[getElem?_eq_getElem h1,getElem?_eq_getElem h2]at this;exact this
    clear en em h jB cz;with_reducible refine cv2 (Q0 x) (Q0 y) ?_
    with_reducible repeat' first|refine aU j7 ?_|refine zA ?_ ?_|intro hb
    rw[if_pos trivial];with_reducible refine cv2 (Q0 x) (Q0 y) ?_
    refine .pure rfl (.inl ?_);rw[he,decide_eq_true hxy]
end
def QaT:Int->List Itm->Int->Prop
 |a,[],e=>a=e
 |a,x::r,e=>x.off=a/\1<=x.n/\QaT (a+x.n) r e
theorem Qg6(big:Bool):∀(n:Nat)(l:List UInt8)(a:Int),l.length<=n->QaT a (Q1x big a l) (a+l.length):=by
 intro n;induction n with
 |zero =>
  intro l a h;have:l=[]:=List.eq_nil_of_length_eq_zero (by omega)
  subst this;rw[Q1x,dif_pos rfl];show a=_;simp
 |succ n ih =>
  intro l a h;by_cases hl:l=[]
  ·subst hl
   rw[Q1x,dif_pos rfl];show a=_;simp
  ·have hs:=Q6Z big l hl
   rw[Q1x,dif_neg hl];refine⟨rfl,hs.1,?_⟩;have:=ih (l.drop (Q1j big l).2.toNat) (a+(Q1j big l).2) (by rw[length_drop];omega)
   rw[length_drop]at this;rw[show a+(Q1j big l).2+((l.length-(Q1j big l).2.toNat:Nat):Int)=a+l.length by omega]at this
   exact this
theorem Qls(l:List UInt8)(h:l≠[]):1<=(Qo l).2/\(Qo l).2<=l.length:=by
 have hl:0<l.length:=List.length_pos_iff.2 h;unfold Qo;split
 ·exact⟨Nat.le_refl _,hl⟩
 ·exact⟨decodeL_width _,decodeL_le _ h⟩
theorem QeM:∀(n off:Nat)(l:List UInt8),l.length<=n->QaT off ((Q1u n off l).map Qb7) (off+l.length:Int):=by
 intro n;induction n with
 |zero =>
  intro off l h;have:l=[]:=List.eq_nil_of_length_eq_zero (by omega)
  subst this;show(off:Int)=_
  simp
 |succ n ih =>
  intro off l h;cases l with
  |nil=>show(off:Int)=_;simp
  |cons b t =>
   have hs:=Qls (b::t) (by simp)
   refine⟨rfl,by show(1:Int)<=((Qo (b::t)).2:Int);omega,?_⟩
   have:=ih (off+(Qo (b::t)).2) ((b::t).drop (Qo (b::t)).2) (by rw[length_drop];omega)
   rw[length_drop]at this;rw[show((off+(Qo (b::t)).2:Nat):Int)+(((b::t).length-(Qo (b::t)).2:Nat):Int)=off+(b::t).length by omega,show((off+(Qo (b::t)).2:Nat):Int)=off+(Qo (b::t)).2 by omega]at this
   exact this
theorem Qcw:∀(ps:List Itm)(a e:Int),QaT a ps e->(ps.length:Int)<=e-a/\(∀x∈ps.map Itm.off++[e],a<=x/\x<=e)/\List.Pairwise (·<=·) (ps.map Itm.off++[e])/\(ps.map Itm.off++[e])[0]?=some a
 | [],a,e,h=>by
  have h:a=e:=h;subst h;simp
 |x::r,a,e,h=>by
  obtain⟨h1,h2,h3⟩:=h;obtain⟨h4,h5,h6,h7⟩:=Qcw r _ e h3;refine⟨by simp only[List.length_cons];omega,fun y hy=>?_,?_,by simp[h1]⟩
  ·simp only[map_cons,List.cons_append,mem_cons]at hy
   rcases hy with rfl|hy
   ·have:=h5 e (by simp);omega
   ·have:=h5 y hy;omega
  ·simp only[map_cons,List.cons_append]
   exact List.pairwise_cons.2 ⟨fun y hy=>by have:=h5 y hy;omega,h6⟩
theorem Q54(b:List UInt8):(QX b).1=0\/(QX b).1=1\/(QX b).1=2:=by
 have key:∀(x:List UInt8×Int×Int),x∈signsL->x.2.1=0\/x.2.1=1\/x.2.1=2:=by decide
 unfold QX kR;split
 ·rename_i x hx
  exact key x (by simpa using List.mem_of_find?_eq_some hx)
 ·exact .inl rfl
theorem Qga(b:List UInt8):QaT 0 (Q2V b) (b.length-(QX b).2):=by
 have hb:=Q4h b;have hl:(((b.drop (QX b).2.toNat).length:Nat):Int)=b.length-(QX b).2:=by rw[length_drop];omega
 have h8:=QeM _ 0 (b.drop (QX b).2.toNat) (Nat.le_refl _);have hw:=fun big=>Qg6 big _ (b.drop (QX b).2.toNat) 0 (Nat.le_refl _)
 rw[hl,Int.zero_add]at hw;rw[hl,show((0:Nat):Int)=0 from rfl,Int.zero_add]at h8;rw[Q2V];rcases Q54 b with h|h|h
 ·rw[Q4B,if_pos h];exact h8
 ·rw[Q4B,if_neg (by omega),if_pos h];exact hw true
 ·rw[Q4B,if_neg (by omega),if_neg (by omega),if_pos h];exact hw false
theorem Qe7(b:List UInt8):(Qb b).off=((Q2V b).map Itm.off++[(b.length:Int)-(QX b).2]).map (· + (QX b).2):=by
 show(Q2V b).map _++[(b.length:Int)]=_
 simp
theorem Q3N(b:List UInt8):TxtOk (Qb b) b/\(Qb b).off[0]?.getD 0=(QX b).2/\(Qb b).r.length<=b.length/\(Q2V b).length<=b.length/\∀x∈Q2V b,0<=x.off/\x.off<=b.length:=by
 have hb:=Q4h b;obtain⟨h1,h2,h3,h4⟩:=Qcw _ _ _ (Qga b);have hr:(Qb b).r.length=(Q2V b).length:=by show((Q2V b).map Itm.r).length=_;simp
 have ho:=Qe7 b;generalize hL:(Q2V b).map Itm.off++[(b.length:Int)-(QX b).2]=L at h2 h3 h4 ho;have q9:L.length=(Q2V b).length+1:=by rw[<-hL];simp
 have jk:L[(Q2V b).length]?=some ((b.length:Int)-(QX b).2):=by rw[<-hL,List.getElem?_append_right (by simp)];simp
 refine⟨⟨by rw[ho,hr,List.length_map,q9],fun x hx=>?_,?_,fun i j xI hj=>?_⟩,?_,by omega,by omega,fun x hx=>?_⟩
 ·rw[ho]at hx
  obtain⟨y,hy,rfl⟩:=mem_map.1 hx;have:=h2 y hy;omega
 ·rw[ho,hr,getElem?_map,jk]
  show(b.length:Int)-(QX b).2+(QX b).2=_
  omega
 ·have vA:i<L.length:=by omega
  have vq:j<L.length:=by omega
  rw[ho,getElem?_map,getElem?_map,getElem?_eq_getElem vA,getElem?_eq_getElem vq];show L[i]+_<=L[j]+_;rcases Nat.lt_or_eq_of_le xI with h|h
  ·have:=List.pairwise_iff_getElem.1 h3 i j vA vq h
   omega
  ·subst h;exact Int.le_refl _
 ·rw[ho,getElem?_map,h4]
  show(0:Int)+_=_
  omega
 ·have:=h2 x.off (by rw[<-hL];exact List.mem_append_left _ (mem_map.2 ⟨x,hx,rfl⟩))
  omega
